/- Lemmas for bernSlopes, part 4. -/
import Derived.LaidMore
import Derived.Lay
import Derived.Deep.Slices
import Derived.Stop.Joined
import Derived.Deep.Strs
import Derived.Laws.OwnMore
import Derived.Lib.SliceRun
import Derived.Test.YteeckcbbnegmcaaGreatDoorZ3
namespace Go.Proofs.YteeckcbbnegmcaaGreatDoor
variable {b n : Nat}
open Go.RowKit
theorem ow : bF n = 0 ↔ n = 0 := by
 constructor
 ·intro h;have := dq n;rw [h] at this;omega
 ·intro h; rw [h]; exact lk
theorem nK {a : Nat} (h : a ≤ b) : bF a ≤ bF b := dy (VK h (dq b))
theorem KJ (a b : Nat) : bF (a + b) ≤ bF a + bF b + 1 := by
 apply dy;have h1 := dq a;have h2 := dq b;have h3 : 2 ^ bF a ≤ 2 ^ (bF a + bF b) := Vr Uz Uz;have h4 : 2 ^ bF b ≤ 2 ^ (bF a + bF b) := Vr Uz Uz;rw [Vy];omega
theorem dE (s : Bool) (m : ByteArray) (w : World) (hm : m.size ≤ 1000000000) :
  Calls Tryz.prog 209 #[.agg #[.bool s, .string m]] w fun e w' => e = .returned (.agg #[.bool (iN (iv s m)), .string (iM (iv s m))]) ∧ Below w.heap.size w w' := by
 have hh := Hp.start w;have h1 := jH m;rw [Oe, Ey]
 cases s with
 | false =>
  refine aj (N := 16) (l := [.agg #[.bool false, .string m]]) Tryz.func209 rfl rfl (by simp) ?_;refine sr ?_;refine cz hh [_,_] ?_;intro b1 w1 hh;refine bW hh ?_;intro b2 w2 hh;refine aa (sr (bH ?_));refine bG hh 1 ?_;refine aF (fa m _ hm) al.out rfl UA ?_;rintro e_ w6 ⟨A6, c6, rfl, hown_, hb_⟩;refine ⟨_, rfl, ?_⟩;replace hh := hh.aV (x := .row _ _ _ _ _ _) hb_ hown_;refine Kc ?_;intro w7 hh;rw [iK];refine aS (aa (sr (bH ?_)));refine bG hh 2 ?_;refine mB ?_;refine gS (gS ?_);refine eV ?_;refine mS ?_;refine gH [_,_] ?_;exact J8
 | true =>
  by_cases h0 : sN (bN m) = ByteArray.mk #[]
  ·refine aj (N := 16) (l := [.agg #[.bool true, .string m]]) Tryz.func209 rfl rfl (by simp) ?_;refine sr ?_;refine cz hh [_,_] ?_;intro b1 w1 hh;refine bW hh ?_;intro b2 w2 hh;refine aa (sr (bH ?_));refine bG hh 1 ?_;refine aF (fa m _ hm) al.out rfl UA ?_;rintro e_ w6 ⟨A6, c6, rfl, hown_, hb_⟩;refine ⟨_, rfl, ?_⟩;replace hh := hh.aV (x := .row _ _ _ _ _ _) hb_ hown_;refine Kc ?_;intro w7 hh;rw [iK];refine aS (aa (sr (bH ?_)));refine bG hh 2 ?_;refine mB (gT (mS (gT ?_)))
   (first | refine kA rfl rfl (by first | rfl | assumption | decide) UA ?_ | refine kt rfl rfl (by first | assumption | decide) UA ?_)
   refine fO ?_;refine mS ?_;refine gH [_,_] ?_;refine bX hh 1 [_,_] ?_;intro ws hh;replace hh : Hp _ (_ :: .blk _ _ [_, _] _ :: _) _ := hh;refine aa (av ?_);refine AW ?_;exact R5
  ·refine aj (N := 16) (l := [.agg #[.bool true, .string m]]) Tryz.func209 rfl rfl (by simp) ?_;refine sr ?_;refine cz hh [_,_] ?_;intro b1 w1 hh;refine bW hh ?_;intro b2 w2 hh;refine aa (sr (bH ?_));refine bG hh 1 ?_;refine aF (fa m _ hm) al.out rfl UA ?_;rintro e_ w6 ⟨A6, c6, rfl, hown_, hb_⟩;refine ⟨_, rfl, ?_⟩;replace hh := hh.aV (x := .row _ _ _ _ _ _) hb_ hown_;refine Kc ?_;intro w7 hh;rw [iK];refine aS (aa (sr (bH ?_)));refine bG hh 2 ?_;refine mB (gT (mS (gT ?_)))
   (first | refine kA rfl rfl (by first | rfl | assumption | decide) UA ?_ | refine kt rfl rfl (by first | assumption | decide) UA ?_)
   refine fO ?_;refine mS ?_;refine gH [_,_] ?_;refine bX hh 1 [_,_] ?_;intro ws hh;replace hh : Hp _ (_ :: .blk _ _ [_, _] _ :: _) _ := hh;refine aa (av ?_);refine AW ?_;exact O5
theorem kF (s : Bool) (m : ByteArray) (w : World) (hm : m.size ≤ 1000000000) :
  Calls Tryz.prog 212 #[.agg #[.bool s, .string m]] w fun e w' => e = .returned (.int .i64 (iv s m).sign) ∧ Below w.heap.size w w' := by
 have hh := Hp.start w;by_cases h0 : bN m = 0
 ·have hb : bF (bN m) = 0 := ow.2 h0;refine aj (N := 9) (l := [.agg #[.bool s, .string m]]) Tryz.func212 rfl rfl (by simp) ?_;refine sr ?_;refine cz hh [_,_] ?_;intro b1 w1 hh;refine aI (aa (ah (sr (bH ?_))));refine bG hh 0 ?_;refine bD hh (o8 m _ hm) rfl ?_;intro w5 hh;refine Eg ?_;refine de ?_;have hz : iv s m = 0 := by unfold iv; split <;> omega
  exact ⟨by rw [hz]; rfl, hh.below⟩
 ·have hb : bF (bN m) ≠ 0 := fun h => h0 (ow.1 h)
  cases s with
  | true =>
   refine aj (N := 9) (l := [.agg #[.bool true, .string m]]) Tryz.func212 rfl rfl (by simp) ?_;refine sr ?_;refine cz hh [_,_] ?_;intro b1 w1 hh;refine aI (aa (ah (sr (bH ?_))));refine bG hh 0 ?_;refine bD hh (o8 m _ hm) rfl ?_;intro w5 hh;refine cW (aa (cF (ar (ai (ah (sr (bH ?_)))))));refine bG hh 0 ?_;refine zQ ?_;refine de ?_;have hz : iv true m < 0 := by unfold iv; rw [UF rfl]; omega
   exact ⟨by rw [Wh hz], hh.below⟩
  | false =>
   refine aj (N := 9) (l := [.agg #[.bool false, .string m]]) Tryz.func212 rfl rfl (by simp) ?_;refine sr ?_;refine cz hh [_,_] ?_;intro b1 w1 hh;refine aI (aa (ah (sr (bH ?_))));refine bG hh 0 ?_;refine bD hh (o8 m _ hm) rfl ?_;intro w5 hh;refine cW (aa (cF (ar (ai (ah (sr (bH ?_)))))));refine bG hh 0 ?_;refine Fj ?_;refine de ?_;have hz : 0 < iv false m := by unfold iv; rw [UE (by simp)]; omega
   exact ⟨by rw [Wg hz], hh.below⟩
theorem qP (n : Int) (w : World) (h1 : -9223372036854775808 ≤ n) (h2 : n ≤ 9223372036854775807) :
  Calls Tryz.prog 170 #[.int .i64 n] w fun e w' => e = .returned (.agg #[.bool (iN n), .string (iM n)]) ∧ Below w.heap.size w w' := by
 have hh := Hp.start w;by_cases h0 : n < 0
 ·have hn : iN n = true := U0 h0;obtain ⟨m, hm⟩ := XO (by omega : 0 ≤ -(n + 1));have ha : n.natAbs = m + 1 := Uz;have hw : (m + 1) % 18446744073709551616 = m + 1 := Vh Uz;refine aj (N := 16) (l := [.int .i64 n]) Tryz.func170 rfl rfl (by simp) ?_;refine sr ?_;refine bW hh ?_;intro b2 w2 hh;refine aa (ah (sr (mI ?_)));refine bh (aa (cT (sr (mI ?_))));refine bo ?_;refine yM rfl Uz Uz UA ?_;rw [show -(n + 1) = (m : Int) from hm];refine mq ?_;refine iD (b := 1) rfl rfl UA ?_;rw [hw];refine bD hh (xq (m + 1) _ Uz) rfl ?_;intro w10 hh;rw [← ha];refine gH [_,_] ?_;refine bX hh 0 [_,_] ?_;intro ws hh;replace hh : Hp _ (.blk _ _ [_, _] _ :: _) _ := hh;refine aa (av (aH ?_));refine pq ?_;rw [hn];exact ⟨rfl, hh.below⟩
 ·obtain ⟨m, rfl⟩ := XO (by omega : 0 ≤ n);have hn : iN (m : Int) = false := Vf Uz;have hm : m < 18446744073709551616 := Uz;have e1 : iM (m : Int) = sN m := rfl;refine aj (N := 16) (l := [.int .i64 (m : Int)]) Tryz.func170 rfl rfl (by simp) ?_;refine sr ?_;refine bW hh ?_;intro b2 w2 hh;refine aa (ah (sr (mI ?_)));refine bh (aa (cF (ar (ai (sr (mI ?_))))));refine mq ?_;refine bD hh (xq m _ hm) rfl ?_;intro w14 hh;refine gH [_,_] ?_;refine bX hh 0 [_,_] ?_;intro ws hh;replace hh : Hp _ (.blk _ _ [_, _] _ :: _) _ := hh;refine aa (av ?_);refine pq ?_;rw [hn, e1];exact ⟨rfl, hh.below⟩
theorem rO (s t : Bool) (a b : ByteArray) (w : World) (ha : a.size ≤ 100000000) (hb : b.size ≤ 100000000) :
  Calls Tryz.prog 182 #[.agg #[.bool s, .string a], .agg #[.bool t, .string b]] w fun e w' => e = .returned (.agg #[.bool (iN (iv s a + iv t b)), .string (iM (iv s a + iv t b))]) ∧ Below w.heap.size w w' := by
 have hh := Hp.start w;have hba := gP a;have hbb := gP b;by_cases hst : s = t
 ·subst hst;have e1 : iv s (sN (bN a + bN b)) = iv s a + iv s b := by unfold iv; rw [e8]; split <;> omega
  have hsz : (sN (bN a + bN b)).size ≤ 1000000000 := by rw [lY]; have := KJ (bN a) (bN b); omega
  rw [← e1];refine aj (N := 49) (l := [.agg #[.bool s, .string a], .agg #[.bool s, .string b]]) Tryz.func182 rfl rfl (by simp) ?_;refine sr ?_;refine cz hh [_,_] ?_;intro b2 w2 hh;refine cz hh [_,_] ?_;intro b3 w3 hh;refine bW hh ?_;intro b4 w4 hh;refine aa (ah (sr (bH ?_)));refine bG hh 2 ?_;refine bH ?_;refine bG hh 1 ?_;refine DK bk.out rfl rfl (by first | rfl | assumption) UA ?_;refine aa (cT (ah ?_));refine aZ 8 [[(2, none)], [(12, some 0)], [(2, none)], [(14, some 2)], [(3, none)], [(16, some 4)], [(15, some 3), (17, some 5)], [(18, some 6)]] [(7, 19), (6, 18), (5, 17), (4, 16), (3, 15), (2, 14), (1, 13), (0, 12)] hh mixed UB ?_;refine ef ?_;refine gE 2 ?_;refine ef ?_;refine gE 2 ?_;refine ef ?_;refine gE 1 ?_;refine sA [_,_] ?_;refine aP (i := 7) (Is (.string (sN (bN a + bN b)))) Is.ext ?_ ?_
  ·intro ρ1 w1 hj hR;obtain ⟨A18, c18, h18, s18⟩ := hR.1;exact a7 rfl (aK al.out (aw h18 aW)) (Cg A18 2 c18 [a, b] _ s18 Uz (by simp; omega)) (fun _ _ hq => ⟨_, hq.1, hq.2, rfl⟩)
  refine aT ?_;intro f W hJ hV;have hb_2 := hJ.bl;obtain ⟨v19, v18, v17, v16, v15, v14, v13, v12, _⟩ := hV;obtain ⟨A18, c18, e18, f18⟩ : Rows _ _ _ (f 6) W := v18;replace hh := hJ.hp;refine aY (br (ae v19 (ae e18 (ae v17 (ae v16 (ae v15 (ae v14 (ae v13 (ae v12 aX))))))))) ?_;dsimp only [cg];clear e18 hJ;refine gH [_,_] ?_;refine bD hh (dE s (sN (bN a + bN b)) _ hsz) rfl ?_;intro w21 hh;exact EH
 ·by_cases hle : bN b ≤ bN a
  ·have e1 : iv s (sN (bN a - bN b)) = iv s a + iv t b := by unfold iv; rw [e8]; cases s <;> cases t <;> simp at hst ⊢ <;> omega
   have hsz : (sN (bN a - bN b)).size ≤ 1000000000 := by rw [lY]; have := nK (show bN a - bN b ≤ bN a by omega); omega
   rw [← e1];refine aj (N := 49) (l := [.agg #[.bool s, .string a], .agg #[.bool t, .string b]]) Tryz.func182 rfl rfl (by simp) ?_;refine sr ?_;refine cz hh [_,_] ?_;intro b2 w2 hh;refine cz hh [_,_] ?_;intro b3 w3 hh;refine bW hh ?_;intro b4 w4 hh;refine aa (ah (sr (bH ?_)));refine bG hh 2 ?_;refine bH ?_;refine bG hh 1 ?_;refine DF ?_;refine wW ?_;refine bG hh 2 ?_;refine bH ?_;refine bG hh 1 ?_;refine bD hh (oD a b _ Uz Uz) rfl ?_;intro w27 hh;rw [U0 hle];refine mT ?_;refine dt ?_;refine dt ?_;refine aS (aB (aa (ah (sr (mB (aa (cT (sr (bH ?_)))))))));refine bG hh 2 ?_;refine mS ?_;refine gH [_,_] ?_;refine bD hh (dE s (sN (bN a - bN b)) _ hsz) rfl ?_;intro w35 hh;exact EH
  ·have e1 : iv t (sN (bN b - bN a)) = iv s a + iv t b := by unfold iv; rw [e8]; cases s <;> cases t <;> simp at hst ⊢ <;> omega
   have hsz : (sN (bN b - bN a)).size ≤ 1000000000 := by rw [lY]; have := nK (show bN b - bN a ≤ bN b by omega); omega
   rw [← e1];refine aj (N := 49) (l := [.agg #[.bool s, .string a], .agg #[.bool t, .string b]]) Tryz.func182 rfl rfl (by simp) ?_;refine sr ?_;refine cz hh [_,_] ?_;intro b2 w2 hh;refine cz hh [_,_] ?_;intro b3 w3 hh;refine bW hh ?_;intro b4 w4 hh;refine aa (ah (sr (bH ?_)));refine bG hh 2 ?_;refine bH ?_;refine bG hh 1 ?_;refine DF ?_;refine wW ?_;refine bG hh 2 ?_;refine bH ?_;refine bG hh 1 ?_;refine bD hh (oD a b _ Uz Uz) rfl ?_;intro w27 hh;rw [Vf hle];refine mT ?_;refine dt ?_;refine dt ?_;refine aS (aB (aa (ah (sr (mB (aa (cF (ar (ai (sr (bH ?_)))))))))));refine bG hh 1 ?_;refine bH ?_;refine bG hh 2 ?_;refine bD hh (oD b a _ Uz Uz) rfl ?_;intro w41 hh;refine mT ?_;refine dt ?_;refine dt ?_;refine aS (aa (sr (bH ?_)));refine bG hh 1 ?_;refine mS ?_;refine gH [_,_] ?_;refine bD hh (dE t (sN (bN b - bN a)) _ hsz) rfl ?_;intro w48 hh;exact Oi
theorem oE (z : Int) (B : Nat) (q r : Int) (h : r + B * q = z) (h0 : 0 ≤ r) (h1 : r < B) : z / B = q ∧ z % B = r :=
 (Int.ediv_emod_unique Uz).2 ⟨h, h0, h1⟩
theorem Dq (s : Bool) (a b : ByteArray) (w : World) (ha : a.size ≤ 10000000) (hb : b.size ≤ 10000000) (hb0 : bN b ≠ 0) :
  Calls Tryz.prog 210 #[.agg #[.bool s, .string a], .agg #[.bool false, .string b]] w fun e w' => e = .returned (.tuple #[.agg #[.bool (iN (iv s a / bN b)), .string (iM (iv s a / bN b))], .agg #[.bool (iN (iv s a % bN b)), .string (iM (iv s a % bN b))], .bool true]) ∧ Below w.heap.size w w' := by
 have hh := Hp.start w;have hba := gP a;have hbb := gP b;have hmod : bN a % bN b < bN b := Va _ Uz;have hdm : bN b * (bN a / bN b) + bN a % bN b = bN a := Wn _ _;have hdm' : (bN b : Int) * ((bN a / bN b : Nat) : Int) + ((bN a % bN b : Nat) : Int) = (bN a : Int) := by rw [← V2, ← WE, hdm]
 have hqs : (sN (bN a / bN b)).size ≤ 10000000 := by rw [lY]; have := nK (Xe (bN a) (bN b)); omega
 have hrs : (sN (bN a % bN b)).size ≤ 10000000 := by rw [lY]; have := nK (show bN a % bN b ≤ bN b by omega); omega
 have hqz : ∀ u, (iM (iv u (sN (bN a / bN b)))).size ≤ 10000000 := fun u => by rw [Ey, e8]; exact hqs
 have hrz : ∀ u, (iM (iv u (sN (bN a % bN b)))).size ≤ 10000000 := fun u => by rw [Ey, e8]; exact hrs
 by_cases hneg : s = true ∧ bN a % bN b ≠ 0
 ·obtain ⟨rfl, hne⟩ := hneg;have e1 : iv true (sN (bN a / bN b)) = -((bN a / bN b : Nat) : Int) := by unfold iv; rw [e8, UF rfl]
  have e2 : iv true (sN (bN a % bN b)) = -((bN a % bN b : Nat) : Int) := by unfold iv; rw [e8, UF rfl]
  have hlt : (iv true (sN (bN a % bN b))).sign < 0 := by rw [e2, Wh Uz]; omega
  have e3 : iv true a = -(bN a : Int) := by unfold iv; rw [UF rfl]
  obtain ⟨q1, q2⟩ := oE (iv true a) (bN b) (-((bN a / bN b : Nat) : Int) + -1) ((bN b : Int) - ((bN a % bN b : Nat) : Int)) (by rw [e3, ← hdm', Int.mul_add, Int.mul_neg]; omega) Uz Uz;have e4 : iv false b = (bN b : Int) := by unfold iv; rw [UE (by simp)]
  have hp2 : (bN b : Int).sign = 1 := Wg Uz;refine aj (N := 57) (l := [.agg #[.bool true, .string a], .agg #[.bool false, .string b]]) Tryz.func210 rfl rfl (by simp) ?_;refine sr ?_;refine cz hh [_,_] ?_;intro b2 w2 hh;refine cz hh [_,_] ?_;intro b3 w3 hh;refine bW hh ?_;intro b4 w4 hh;refine bW hh ?_;intro b5 w5 hh;refine aB (aa (sr (bH ?_)));refine bG hh 3 ?_;refine bH ?_;refine bG hh 2 ?_;refine bD hh (oV a b _ Uz Uz hb0) rfl ?_;intro w18 hh;refine mT ?_;refine dt ?_;refine dt ?_;refine dt ?_;refine aS (aS (aB (aa (ah (sr (mB ?_))))));refine fy ?_;refine wW ?_;refine bG hh 3 ?_;refine bH ?_;refine bG hh 2 ?_;refine Eo bk.out rfl rfl (by first | assumption | decide) UA ?_;refine mS ?_;refine gH [_,_] ?_;refine bD hh (dE true (sN (bN a / bN b)) _ Uz) rfl ?_;intro w33 hh;refine bW hh ?_;intro b10 w10 hh;refine bX hh 0 [_,_] ?_;intro ws hh;replace hh : Hp _ (.blk _ _ [_, _] _ :: _) _ := hh;refine aa (sr (bH ?_));refine bG hh 4 ?_;refine mS ?_;refine gH [_,_] ?_;refine bD hh (dE true (sN (bN a % bN b)) _ Uz) rfl ?_;intro w38 hh;refine bW hh ?_;intro b11 w11 hh;refine bX hh 0 [_,_] ?_;intro ws hh;replace hh : Hp _ (.blk _ _ [_, _] _ :: _) _ := hh
  refine aa (ah (sr ?_));refine cE hh 0 [_,_] ?_;refine bD hh (kF (iN (iv true (sN (bN a % bN b)))) (iM (iv true (sN (bN a % bN b)))) _ (by have := hrz true; omega)) rfl ?_;intro w40 hh;rw [fB];refine bh (aa (cT (sr ?_)));refine cE hh 0 [_,_] (bH ?_);refine bG hh 4 ?_;refine gH [_,_] ?_;refine bD hh (rO (iN (iv true (sN (bN a % bN b)))) false (iM (iv true (sN (bN a % bN b)))) b _ (by have := hrz true; omega) Uz) rfl ?_;intro w46 hh;rw [fB, e2, e4, show -((bN a % bN b : Nat) : Int) + (bN b : Int) = (bN b : Int) - ((bN a % bN b : Nat) : Int) by omega, ← q2];refine bX hh 0 [_,_] ?_;intro ws hh;replace hh : Hp _ (.blk _ _ [_, _] _ :: _) _ := hh;refine aa (sr ?_);refine bD hh (qP (-1) _ Uz Uz) rfl ?_;intro w47 hh;refine bW hh ?_;intro b12 w12 hh;refine bX hh 0 [_,_] ?_;intro ws hh;replace hh : Hp _ (.blk _ _ [_, _] _ :: _) _ := hh;refine aa (ah (sr ?_));refine cE hh 5 [_,_] ?_;refine bD hh (kF false b _ Uz) rfl ?_;intro w49 hh;rw [e4, hp2];refine bh (aa (cF (ar (ai (ao ?_)))));refine cE hh 2 [_,_] ?_;refine cE hh 0 [_,_] ?_;refine bD hh (rO (iN (iv true (sN (bN a / bN b)))) (iN (-1)) (iM (iv true (sN (bN a / bN b)))) (iM (-1)) _ (by have := hqz true; omega) UA) rfl ?_;intro w54 hh
  rw [fB, fB, e1, ← q1];refine bX hh 2 [_,_] ?_;intro ws hh;replace hh : Hp _ (_ :: _ :: .blk _ _ [_, _] _ :: _) _ := hh;refine aa (ah ?_);refine qo hh mixed fun w_ hj_ => ?_;replace hh := hj_.hp;clear hj_;refine tS (i := 0) (i2 := 1) UB rfl rfl ?_ ?_
  ·refine cE hh 2 [_,_] ?_;refine fF ?_;refine tS (i := 1) (i2 := 2) UB rfl rfl ?_ ?_
   ·refine cE hh 1 [_,_] ?_;exact O3
   ·refine bX hh 4 [_,_] ?_;intro ws hh;replace hh : Hp _ (_ :: _ :: _ :: _ :: .blk _ _ [_, _] _ :: _) _ := hh;refine fF ?_;refine fQ (i := 1) UB rfl ?_;refine cE hh 1 [_,_] ?_;exact SI
  ·refine cE hh 1 [_,_] ?_;refine fF ?_;refine fQ (i := 0) UB rfl ?_;refine cE hh 2 [_,_] ?_;exact O3
 ·have e4 : iv s a / bN b = iv s (sN (bN a / bN b)) ∧ iv s a % bN b = iv s (sN (bN a % bN b)) := by
   cases s with
   | false =>
    have f0 : ∀ x, iv false x = (bN x : Int) := fun x => by unfold iv; rw [UE (by simp)]
    rw [f0, f0, f0, e8, e8];exact oE _ _ _ _ Uz Uz Uz
   | true =>
    have r0 : bN a % bN b = 0 := by
     rcases WG (bN a % bN b) with h | h
     ·exact h
     ·exact absurd ⟨rfl, Uz⟩ hneg
    have f0 : ∀ x, iv true x = -(bN x : Int) := fun x => by unfold iv; rw [UF rfl]
    rw [f0, f0, f0, e8, e8, r0];rw [r0] at hdm';exact oE _ _ _ _ (by rw [Int.mul_neg]; omega) Uz Uz
  have h5 : ¬ (iv s (sN (bN a % bN b))).sign < 0 := by
   have h6 : 0 ≤ iv s (sN (bN a % bN b)) := by rw [← e4.2]; exact Int.emod_nonneg _ Uz
   have := Int.sign_nonneg_iff.2 h6;omega
  rw [e4.1, e4.2]
  cases s with
  | false =>
   refine aj (N := 57) (l := [.agg #[.bool false, .string a], .agg #[.bool false, .string b]]) Tryz.func210 rfl rfl (by simp) ?_;refine sr ?_;refine cz hh [_,_] ?_;intro b2 w2 hh;refine cz hh [_,_] ?_;intro b3 w3 hh;refine bW hh ?_;intro b4 w4 hh;refine bW hh ?_;intro b5 w5 hh;refine aB (aa (sr (bH ?_)));refine bG hh 3 ?_;refine bH ?_;refine bG hh 2 ?_;refine bD hh (oV a b _ Uz Uz hb0) rfl ?_;intro w18 hh;refine mT ?_;refine dt ?_;refine dt ?_;refine dt ?_;refine aS (aS (aB (aa (ah (sr (mB ?_))))));refine fy ?_;refine wW ?_;refine bG hh 3 ?_;refine bH ?_;refine bG hh 2 ?_;refine Ms bk.out rfl rfl (by first | rfl | assumption) UA ?_;refine mS ?_;refine gH [_,_] ?_;refine bD hh (dE false (sN (bN a / bN b)) _ Uz) rfl ?_;intro w33 hh;refine bW hh ?_;intro b10 w10 hh;refine bX hh 0 [_,_] ?_;intro ws hh;replace hh : Hp _ (.blk _ _ [_, _] _ :: _) _ := hh;refine aa (sr (bH ?_));refine bG hh 4 ?_;refine mS ?_;refine gH [_,_] ?_;refine bD hh (dE false (sN (bN a % bN b)) _ Uz) rfl ?_;intro w38 hh;refine bW hh ?_;intro b11 w11 hh;refine bX hh 0 [_,_] ?_;intro ws hh;replace hh : Hp _ (.blk _ _ [_, _] _ :: _) _ := hh;refine aa (ah (sr ?_));refine cE hh 0 [_,_] ?_
   refine bD hh (kF (iN (iv false (sN (bN a % bN b)))) (iM (iv false (sN (bN a % bN b)))) _ (by have := hrz false; omega)) rfl ?_;exact TN
  | true =>
   refine aj (N := 57) (l := [.agg #[.bool true, .string a], .agg #[.bool false, .string b]]) Tryz.func210 rfl rfl (by simp) ?_;refine sr ?_;refine cz hh [_,_] ?_;intro b2 w2 hh;refine cz hh [_,_] ?_;intro b3 w3 hh;refine bW hh ?_;intro b4 w4 hh;refine bW hh ?_;intro b5 w5 hh;refine aB (aa (sr (bH ?_)));refine bG hh 3 ?_;refine bH ?_;refine bG hh 2 ?_;refine bD hh (oV a b _ Uz Uz hb0) rfl ?_;intro w18 hh;refine mT ?_;refine dt ?_;refine dt ?_;refine dt ?_;refine aS (aS (aB (aa (ah (sr (mB ?_))))));refine fy ?_;refine wW ?_;refine bG hh 3 ?_;refine bH ?_;refine bG hh 2 ?_;refine Eo bk.out rfl rfl (by first | assumption | decide) UA ?_;refine mS ?_;refine gH [_,_] ?_;refine bD hh (dE true (sN (bN a / bN b)) _ Uz) rfl ?_;intro w33 hh;refine bW hh ?_;intro b10 w10 hh;refine bX hh 0 [_,_] ?_;intro ws hh;replace hh : Hp _ (.blk _ _ [_, _] _ :: _) _ := hh;refine aa (sr (bH ?_));refine bG hh 4 ?_;refine mS ?_;refine gH [_,_] ?_;refine bD hh (dE true (sN (bN a % bN b)) _ Uz) rfl ?_;intro w38 hh;refine bW hh ?_;intro b11 w11 hh;refine bX hh 0 [_,_] ?_;intro ws hh;replace hh : Hp _ (.blk _ _ [_, _] _ :: _) _ := hh;refine aa (ah (sr ?_));refine cE hh 0 [_,_] ?_
   refine bD hh (kF (iN (iv true (sN (bN a % bN b)))) (iM (iv true (sN (bN a % bN b)))) _ (by have := hrz true; omega)) rfl ?_;exact TN
variable {j k m : Nat} {z : Int}
theorem D8 (h : n ≠ 0) : sb n = sb (n / 256) ++ [UInt8.ofNat (n % 256)] := by
 rw [sb, GN Uz h, U9, Xg]
 rfl
theorem Eu (h : n ≠ 0) : 1 ≤ (sN n).size ∧ ∃ c : UInt8, (sN n).data.toList[(((sN n).size : Int) - 1).toNat]? = some c ∧ c.toNat = n % 256 := by
 have hl : (sN n).data.toList = sb (n / 256) ++ [UInt8.ofNat (n % 256)] := by rw [sN, cP, D8 h]
 have hs : (sN n).size = (sb (n / 256)).length + 1 := by rw [di, hl, UM]; rfl
 refine ⟨Uz, UInt8.ofNat (n % 256), ?_, ?_⟩
 ·rw [hl, hs, VW Uz];have : (((sb (n / 256)).length + 1 : Nat) - 1 : Int).toNat - (sb (n / 256)).length = 0 := Uz;rw [this]
  rfl
 ·simp
theorem Qm (h : n ≠ 0) : (sN n).extract 0 ((sN n).size - 1) = sN (n / 256) := by
 have hl : (sN n).data = (sb (n / 256) ++ [UInt8.ofNat (n % 256)]).toArray := by rw [sN, ← D8 h]; rfl
 have hs : (sN n).size = (sb (n / 256)).length + 1 := by rw [di, hl, UM]; rfl
 apply ByteArray.ext;rw [ByteArray.data_extract, hl, hs];show _ = (sb (n / 256)).toArray;simp
theorem QF {k : Int} (h : 0 < k) (y : Int) : iN (y * k) = iN y := by
 unfold iN;rw [decide_eq_decide];constructor
 ·intro h1
  rcases XD y 0 with h2 | h2 | h2
  ·exact h2
  ·rw [h2] at h1; simp at h1
  ·have := Int.mul_pos h2 h; omega
 ·intro h1;exact Int.mul_neg_of_neg_of_pos h1 h
theorem Qb (h : n % 2 = 1) : tz n = 0 := by
 have := Fm 0 (n / 2);rwa [show 2 ^ 0 * (2 * (n / 2) + 1) = n by omega] at this
theorem Hx {y e : Int} (hy : y.natAbs % 2 = 1) (hz : y * 2 ^ j = z) : nR (Dyadic.ofIntWithPrec z (-e)) = ⟨iN y, iM y, e + j⟩ := by
 have h1 := rD (s := iN y) (a := iM y) (e := e + j) (by rw [fB]; omega);rw [fB, iM, e8, Qb hy] at h1;have h2 := qz y (-(e + j)) j;rw [hz, show -(e + (j : Int)) + j = -e by omega] at h2;rw [h2, h1];simp
theorem tf {y : Int} (hy : y ≠ 0) (hz : y * 2 ^ j = z) (hm : z.natAbs < 2 ^ m) : j < m := by
 have h1 : z.natAbs = y.natAbs * 2 ^ j := by rw [← hz, WQ, Xt]; rfl
 have h2 : 1 * 2 ^ j ≤ y.natAbs * 2 ^ j := VG _ Uz;have h3 : 2 ^ j < 2 ^ m := Uz;exact (X9 Uz).1 h3
theorem rU (s : Bool) (a : ByteArray) (e : Int) (w : World) (ha : a.size ≤ 10000000) (h1 : -1000000000000 ≤ e) (h2 : e ≤ 1000000000000) :
  Calls Tryz.prog 169 #[.agg #[.bool s, .string a], .int .i64 e] w fun r w' => r = .returned (.agg #[.bool (nR (Dyadic.ofIntWithPrec (iv s a) (-e))).neg, .string (nR (Dyadic.ofIntWithPrec (iv s a) (-e))).bA, .int .i64 (nR (Dyadic.ofIntWithPrec (iv s a) (-e))).e]) ∧ Below w.heap.size w w' := by
 have hh := Hp.start w;by_cases h0 : iv s a = 0
 ·have hm := sW.2 h0;rw [h0] at hm;refine aj (N := 50) (l := [.agg #[.bool s, .string a], .int .i64 e]) Tryz.func169 rfl rfl (by simp) ?_;refine sr ?_;refine cz hh [_,_] ?_;intro b2 w2 hh;refine bW hh ?_;intro b4 w4 hh;refine aa (sr ?_);refine cE hh 1 [_,_] ?_;refine bD hh (dE s a _ Uz) rfl ?_;intro w6 hh;rw [h0];refine bX hh 1 [_,_] ?_;intro ws hh;replace hh : Hp _ (_ :: .blk _ _ [_, _] _ :: _) _ := hh;refine aa (ah (sr (bH ?_)));refine bG hh 1 ?_;refine kp rfl rfl (by first | rfl | assumption | decide) UA ?_;refine aa (cT (sr ?_));refine gH [_,_,_] ?_;refine bX hh 0 [_,_,_] ?_;intro ws hh;replace hh : Hp _ (.blk _ _ [_, _, _] _ :: _) _ := hh;refine aa (av (aH ?_));refine KL ?_;rw [ll, lU];exact ⟨rfl, hh.below⟩
 ·have hm : ¬ iM (iv s a) = ByteArray.mk #[] := fun h => h0 (sW.1 h);have hzb : (iv s a).natAbs < 2 ^ (8 * a.size) := by
   rw [j6, Vu];exact wL a
  refine aj (N := 50) (l := [.agg #[.bool s, .string a], .int .i64 e]) Tryz.func169 rfl rfl (by simp) ?_;refine sr ?_;refine cz hh [_,_] ?_;intro b2 w2 hh;refine bW hh ?_;intro b4 w4 hh;refine aa (sr ?_);refine cE hh 1 [_,_] ?_;refine bD hh (dE s a _ Uz) rfl ?_;intro w6 hh;refine bX hh 1 [_,_] ?_;intro ws hh;replace hh : Hp _ (_ :: .blk _ _ [_, _] _ :: _) _ := hh;refine aa (ah (sr (bH ?_)));refine bG hh 1 ?_;refine kB rfl rfl (by first | assumption | decide) UA ?_;refine aa (cF (ar (ai (ah (aq ?_)))));generalize hz : iv s a = z at *;refine aR [1, 11, 12, 13, 14, 15, 16, 17, 18, 19, 20, 21, 22, 23, 24, 25, 26, 27, 28] 1
   (fun v w' => ∃ (y : Int) (j : Nat), y ≠ 0 ∧ y * 2 ^ j = z ∧ v = .int .i64 (e + j) ∧ Hp w [.blk b4 65 [.bool false, .string (ByteArray.mk #[]), .int .i64 0] (0, 0), .blk b2 63 [.bool (iN y), .string (iM y)] (0, 0)] w')
   (fun v _ => (e + 8 * a.size + 1 - intOf v).toNat) ?_ ?_
  ·exact ⟨z, 0, h0, by simp, by show Value.int _ _ = Value.int _ _; congr 1; omega, hh⟩
  ·clear hh;rintro ρ' v w' ⟨y, j, hy, hyz, rfl, hh⟩;have hj := tf hy hyz hzb;obtain ⟨hs1, c, hc, hcn⟩ := Eu (n := y.natAbs) Uz;have hcut := Qm (n := y.natAbs) Uz;have hsz : (sN y.natAbs).size ≤ 10000000 := by
    exact Ry
   change (iM y).data.toList[(((iM y).size : Int) - 1).toNat]? = some c at hc
   change 1 ≤ (iM y).size at hs1
   change (iM y).extract 0 ((iM y).size - 1) = _ at hcut
   change (iM y).size ≤ _ at hsz
   by_cases hb : y.natAbs % 256 = 0
   ·obtain ⟨x, rfl⟩ : ∃ x, y = x * 256 := ⟨y / 256, Uz⟩;have hx : x ≠ 0 := fun h => hy (by rw [h]; rfl);have e1 : iN (x * 256) = iN x := QF Uz x;have e2 : sN ((x * 256).natAbs / 256) = iM x := by rw [iM]; congr 1; omega
    have hxz : x * 2 ^ (j + 8) = z := by rw [← hyz, Int.pow_add, Int.mul_assoc, Int.mul_comm (2 ^ j)]; rfl
    have hj2 := tf hx hxz hzb;refine ah (sr (bH ?_));refine bG hh 1 ?_;refine bH ?_;refine bG hh 1 ?_;refine bJ bk.out rfl UA ?_;refine dW ?_;refine ke ?_;refine cW (aa (cT (ar (ai (aq (sr (bH ?_)))))));refine bG hh 1 ?_;refine bH ?_;refine bG hh 1 ?_;refine bJ bk.out rfl UA ?_;refine dW ?_;refine sf (l := 0) (h := ((iM (x * 256)).size - 1)) bk.out rfl rfl ⟨_, _, rfl, Uz⟩ Uz Uz UA ?_;refine bH ?_;refine bX hh 1 [_] ?_;intro ws hh;replace hh : Hp _ (_ :: .blk _ _ [_, _] _ :: _) _ := hh;refine aa (ao (mI ?_));refine bo (aI (aC (bE (ai ?_))));rw [hcut, e2, e1] at hh;refine ⟨⟨x, j + 8, hx, hxz, by show Value.int _ _ = Value.int _ _; congr 1; omega, hh⟩, by show (e + 8 * a.size + 1 - (e + j + 8)).toNat < (e + 8 * a.size + 1 - (e + j)).toNat; omega, ?_⟩;exact dQ
   ·refine ah (sr (bH ?_));refine bG hh 1 ?_;refine bH ?_;refine bG hh 1 ?_;refine bJ bk.out rfl UA ?_;refine dW ?_;refine ke ?_;refine cW (aa (cF (a9 (aE (aE (bC (ai (ah (aq ?_)))))))));refine aR [1, 29, 30, 31, 32, 33, 34, 35, 36, 37, 38, 39, 40, 41, 42, 43, 44, 45, 46] 1
     (fun v w' => ∃ (y : Int) (j : Nat), y ≠ 0 ∧ y * 2 ^ j = z ∧ v = .int .i64 (e + j) ∧ Hp w [.blk b4 65 [.bool false, .string (ByteArray.mk #[]), .int .i64 0] (0, 0), .blk b2 63 [.bool (iN y), .string (iM y)] (0, 0)] w')
     (fun v _ => (e + 8 * a.size + 1 - intOf v).toNat) ?_ ?_
    ·exact ⟨y, j, hy, hyz, rfl, hh⟩
    ·clear hh hb hcut hcn hc hs1 hsz hj hy hyz;rintro ρ2 v w2 ⟨y, j, hy, hyz, rfl, hh⟩;have hj := tf hy hyz hzb;obtain ⟨hs1, c, hc, hcn⟩ := Eu (n := y.natAbs) Uz;have hsz : (sN y.natAbs).size ≤ 10000000 := by
      exact Ry
     change (iM y).data.toList[(((iM y).size : Int) - 1).toNat]? = some c at hc
     change 1 ≤ (iM y).size at hs1
     change (iM y).size ≤ _ at hsz
     by_cases hb : y.natAbs % 2 = 0
     ·obtain ⟨x, rfl⟩ : ∃ x, y = x * 2 := ⟨y / 2, Uz⟩;have hx : x ≠ 0 := fun h => hy (by rw [h]; rfl);have hxz : x * 2 ^ (j + 1) = z := by rw [← hyz, Int.pow_add, Int.mul_assoc, Int.mul_comm (2 ^ j)]; rfl
      have hj2 := tf hx hxz hzb;have hof : ∀ w1, Calls Tryz.prog 170 #[.int .i64 2] w1 fun e w' => e = .returned (.agg #[.bool false, .string (iM 2)]) ∧ Below w1.heap.size w1 w' := fun w1 => qP 2 w1 Uz Uz;have hdv : ∀ w1, Calls Tryz.prog 210 #[.agg #[.bool (iN (x * 2)), .string (iM (x * 2))], .agg #[.bool false, .string (iM 2)]] w1 fun e w' => e = .returned (.tuple #[.agg #[.bool (iN x), .string (iM x)], .agg #[.bool (iN 0), .string (iM 0)], .bool true]) ∧ Below w1.heap.size w1 w' := fun w1 => by
       have h2 : bN (iM 2) = 2 := e8 2;have h3 : (iM 2).size ≤ 10000000 := by rw [dR]; decide
       have := Dq (iN (x * 2)) (iM (x * 2)) (iM 2) w1 hsz h3 Uz;rw [fB, h2, show x * 2 / ((2 : Nat) : Int) = x by omega, show x * 2 % ((2 : Nat) : Int) = 0 by omega] at this;exact this
      refine ah (sr (bH ?_));refine bG hh 1 ?_;refine bH ?_;refine bG hh 1 ?_;refine bJ bk.out rfl UA ?_;refine dW ?_;refine ke ?_;refine Cf (b := 2) rfl rfl Uz UA ?_;refine cW (aa (cT (ar (ai (aq (ah ?_))))));refine dX [] [5, 6] [0, 0, 3, 7, 15, 15, 15, 31] 7 [[(2, none)], [], [(39, some 0), (40, some 1)], [(41, some 2)], [(38, some 3)], [(38, some 3)], [(38, some 3)]] [(6, 44), (5, 43), (4, 42), (3, 38), (2, 41), (1, 40), (0, 39)] hh mixed UB eO rfl (by repeat (first | exact cA | refine bR ?_ | refine cB ?_)) ?_;refine fS 1 [_,_] ?_;refine dC (fun _ hj => hof _) ?_;refine dC (fun _ hj => hdv _) ?_;refine TH ?_;refine Sh ?_;refine Sh ?_;refine Sh ?_;refine aT ?_;intro f W hJ hV _;have hb_8 := hJ.bl;obtain ⟨v44, v43, v42, v38, v41, v40, v39, _⟩ := hV;replace hh := hJ.hp;refine aY (br (ae v44 (ae v43 (ae v42 (ae v38 (ae v41 (ae v40 (ae v39 aX)))))))) ?_;dsimp only [cg];clear hJ;refine bX hh 1 [_,_] ?_;intro ws hh;replace hh : Hp _ (_ :: .blk _ _ [_, _] _ :: _) _ := hh;refine aa (ao (mI ?_));refine bo (aI (aC (bE (ai ?_))))
      refine ⟨⟨x, j + 1, hx, hxz, by show Value.int _ _ = Value.int _ _; congr 1; omega, hh⟩, by show (e + 8 * a.size + 1 - (e + j + 1)).toNat < (e + 8 * a.size + 1 - (e + j)).toNat; omega, ?_⟩;exact dQ
     ·have hfin := Hx (e := e) (show y.natAbs % 2 = 1 by omega) hyz;refine ah (sr (bH ?_));refine bG hh 1 ?_;refine bH ?_;refine bG hh 1 ?_;refine bJ bk.out rfl UA ?_;refine dW ?_;refine ke ?_;refine Cf (b := 2) rfl rfl Uz UA ?_;refine cW (aa (cF (a9 (aE (aE (bC (ai (sr ?_))))))));refine cE hh 1 [_,_] (mI ?_);refine gH [_,_,_] ?_;refine bX hh 0 [_,_,_] ?_;intro ws hh;replace hh : Hp _ (.blk _ _ [_, _, _] _ :: _) _ := hh;refine aa (av ?_);refine KL ?_;rw [hfin];exact ⟨rfl, hh.below⟩
theorem JK {e : Int} {x : Dyadic} (w : World) (hx : Dyadic.ofIntWithPrec z (-e) = x) (hz : (iM z).size ≤ 10000000) (h1 : -1000000000000 ≤ e) (h2 : e ≤ 1000000000000) :
  Calls Tryz.prog 169 #[.agg #[.bool (iN z), .string (iM z)], .int .i64 e] w fun r w' => r = .returned (.agg #[.bool (nR x).neg, .string (nR x).bA, .int .i64 (nR x).e]) ∧ Below w.heap.size w w' := by
 have := rU (iN z) (iM z) e w hz h1 h2;rw [fB, hx] at this;exact this
theorem lC (n : Int) (w : World) (h1 : -9223372036854775808 ≤ n) (h2 : n ≤ 9223372036854775807) :
  Calls Tryz.prog 86 #[.int .i64 n] w fun r w' => r = .returned (.agg #[.bool (nR (n : Dyadic)).neg, .string (nR (n : Dyadic)).bA, .int .i64 (nR (n : Dyadic)).e]) ∧ Below w.heap.size w w' := by
 have hh := Hp.start w;have hsz : (iM n).size ≤ 10000000 := by
  rw [dR];have : bF n.natAbs ≤ 64 := dy Uz;omega
 have hc := fun w1 => JK (z := n) (e := 0) (x := (n : Dyadic)) w1 rfl hsz Uz Uz;refine aj (N := 6) (l := [.int .i64 n]) Tryz.func86 rfl rfl (by simp) ?_;refine sr ?_;refine bW hh ?_;intro b2 w2 hh;refine aa (sr (mI ?_));refine bD hh (qP n _ h1 h2) rfl ?_;intro w4 hh;refine bD hh (hc _) rfl ?_;intro w5 hh;exact Lj
theorem x9 (a : NR) (n : Int) (w : World) (ha : a.bA.size ≤ 10000000) (h1 : -100000000000 ≤ a.e) (h2 : a.e ≤ 100000000000) (h3 : -100000000000 ≤ n) (h4 : n ≤ 100000000000) :
  Calls Tryz.prog 85 #[.agg #[.bool a.neg, .string a.bA, .int .i64 a.e], .int .i64 n] w fun r w' => r = .returned (.agg #[.bool (nR (a.d * pf n)).neg, .string (nR (a.d * pf n)).bA, .int .i64 (nR (a.d * pf n)).e]) ∧ Below w.heap.size w w' := by
 have hh := Hp.start w;have e1 : Dyadic.ofIntWithPrec (iv a.neg a.bA) (-(a.e + n)) = a.d * pf n := by
  rw [Int.neg_add];exact Ls _ _ _
 have hc := fun w1 => rU a.neg a.bA (a.e + n) w1 ha Uz Uz;rw [e1] at hc;refine aj (N := 12) (l := [.agg #[.bool a.neg, .string a.bA, .int .i64 a.e], .int .i64 n]) Tryz.func85 rfl rfl (by simp) ?_;refine sr ?_;refine cz hh [_,_,_] ?_;intro b2 w2 hh;refine bW hh ?_;intro b4 w4 hh;refine aa (sr (bH ?_));refine cE hh 1 [_,_] (bH ?_);refine bG hh 1 ?_;refine mI ?_;refine bo ?_;refine bD hh (hc _) rfl ?_;intro w11 hh;exact Lj
theorem Sz.pow {x : Dyadic} (h : Sz k x) (n : Nat) : Sz (1 + k * n) (x ^ n) := by
 induction n with
 | zero => rw [W4]; exact Sz.one
 | succ n ih => rw [Xp]; exact (ih.mul h).mono (by rw [Wf]; omega)
def D (m e : Int) : Dyadic := Dyadic.ofIntWithPrec m (-e)
theorem Gk {m e : Int} (hm : m.natAbs < 256) (h1 : -16 ≤ e) (h2 : e ≤ 16) : Sz 24 (D m e) := by
 have := Sz.raw (a := ⟨iN m, iM m, e⟩) (m := 8) (E := 16) (by show 8 * (iM m).size ≤ 8; rw [dR]; have : bF m.natAbs ≤ 8 := dy hm; omega) h1 h2;rw [NR.d, NR.i, fB] at this;exact this
def TE (most far : Int) (l : List NR) : Bool := l.any fun a => decide (most < a.bA.size ∨ a.e < -far ∨ far < a.e)
variable {W : World} {base fuel : Nat} {cs : List Value} {held : Bool} {sp : Nat → Bool}
open Go.ChangeShapes Go.WideShapes Go.ChangeAt Go.RowKit Go.ChangeMaps
set_option maxRecDepth 100000 in
theorem rj {H : Type} {enc : TypeId × Value → H} {x : DataW H × List MemPlace} (h : DataW.trod enc Tryz.prog W base sp held fuel 65 cs = some x) :
  ∃ a : NR, cs = a.cells ∧ (Lit.int .i64 a.e).wf = true := by
 have c1 : Tryz.prog.cellsOf 65 = 3 := by kernel_rfl
 have c2 : Tryz.prog.cellsOf 63 = 2 := by kernel_rfl
 have c3 : Tryz.prog.cellsOf 4 = 1 := by kernel_rfl
 have c4 : Tryz.prog.cellsOf 9 = 1 := by kernel_rfl
 have c5 : Tryz.prog.cellsOf 3 = 1 := by kernel_rfl
 obtain ⟨y0, y1, n, _, hl, h0, h1⟩ := trod_struct2 Tryz.underlying65 h;obtain ⟨z0, z1, n2, _, hl2, h00, h01⟩ := trod_struct2 Tryz.underlying63 h0;obtain ⟨b, e0, _⟩ := DataW.trod_bool Tryz.underlying4 h00;obtain ⟨s, e1, _, hs⟩ := DataW.trod_string Tryz.underlying9 h01;obtain ⟨z, e2, _, hz⟩ := DataW.trod_int Tryz.underlying3 h1;rw [c1] at hl
 match cs, hl with
 | [x0, x1, x2], _ =>
  simp only [c2, c3, c4, c5] at e0 e1 e2;simp at e0 e1 e2;subst e0 e1 e2;exact ⟨⟨b, s, z⟩, rfl, hz⟩
theorem zv (h : laidMetH Tryz.prog Rows.calcSlopesRow.laid W) : eb W := by
 rw [MakeChecks.laidMetH_plain _ _ _ UB] at h;obtain ⟨ps, ⟨g, t, cs, fuel, p, q, hg, ht, hv, hd, _, _⟩, _, _⟩ := h;obtain rfl := Vl ((show Tryz.prog.globalNamed "math/bits.deBruijn64tab" = some 0 by kernel_rfl).symm.trans hg);obtain rfl := Vl ((show (Tryz.prog.globals[0]?).map (·.type) = some 244 by kernel_rfl).symm.trans ht);obtain ⟨xs, m, _, ex, _, hl, hel⟩ := DataW.trod_array Tryz.underlying244 hd;have c5 : Tryz.prog.cellsOf 5 = 1 := by kernel_rfl
 have e3 : (xs.map (·.1)) = CU.map fun n => .lit (.int .u8 n) := (DataW.agg.inj (Prod.mk.inj ex).1).symm;have hlen : CU.length = 64 := by decide
 intro r u hu;have hr : r < 64 := by
  have := (UW.1 hu).1;rw [cO] at this;omega
 have hE := hel r hr;rw [c5, U3, VZ Uz] at hE;obtain ⟨z, e1, e2, _⟩ := DataW.trod_int Tryz.underlying5 hE;have e4 : (xs.map (·.1))[r]? = (CU.map fun (n : Nat) => (DataW.lit (.int .u8 n) : DataW Unit))[r]? := by rw [e3]
 rw [UO, UO, VZ (by omega : r < xs.length), VZ (by omega : r < CU.length), e2] at e4;have hz : u = .int .u8 z := by
  rw [gJ, UO, VZ (by omega : r < CU.length)] at hu;simp only [Wj, Wv, DataW.lit.injEq, Lit.int.injEq, true_and] at e4 hu;rw [← hu, e4]
 rw [fD, U5, World.var?_cell hg hv r, hz];have : cs.toList[r]? = some (.int .u8 z) := by
  have h0 : ((cs.toList.drop r).take 1)[0]? = some (.int .u8 z) := by rw [e1]; rfl
  simpa using h0
 simpa using this
variable {P : Program} {b0 : Nat} {α : Type}
theorem uu {α : Type} {p : Nat → α → Prop} : ∀ (n : Nat), (∀ i, i < n → ∃ a, p i a) → ∃ l : List α, l.length = n ∧ ∀ i a, l[i]? = some a → p i a
 | 0, _ => ⟨[], rfl, fun i a h => by simp at h⟩
 | n + 1, h => by
  obtain ⟨l, h1, h2⟩ := uu n fun i hi => h i Uz;obtain ⟨a, ha⟩ := h n Uz;refine ⟨l ++ [a], by simp [h1], fun i b hb => ?_⟩
  rcases Vv i l.length with hi | hi
  ·rw [WV hi] at hb;exact h2 i b hb
  ·rw [VW hi] at hb;have h3 : i - l.length = 0 := by
    rcases WG (i - l.length) with h | h
    ·exact h
    ·rw [Vd (by simp; omega)] at hb; cases hb
   rw [h3] at hb;simp only [XM, Wv] at hb;subst hb;rw [show i = n by omega];exact ha
theorem GW {f : α → List Value} {p : α → Prop} {sz : Nat} {t e : TypeId} {H : Type} {enc : TypeId × Value → H} {r : Reach} {v : Value} {d : DataW H} {ps : List MemPlace}
  (hf : ∀ x, (f x).length = sz) (h0 : 0 < sz) (ht : P.underlying t = some (.slice e)) (hc : P.cellsOf e = sz) (one : ∀ fuel cs x, DataW.trod enc P W base sp held fuel e cs = some x → ∃ a, cs = f a ∧ p a)
  (hval : Value.okWide P W r b0 t v) (hd : DataW.Trod enc P W base sp held t v d ps) : ∃ (A : Option Addr) (n c : Nat) (l : List α), v = .slice A n c ∧ Sl W A n sz (az f l) ∧ ∀ a ∈ l, p a := by
 obtain ⟨a, len, cap, rfl⟩ := okWide_slice ht hval;obtain ⟨fuel, hfu⟩ := hd
 rcases Go.Deep.open_slice ht hfu with ⟨h1, _⟩ | ⟨ad, n, cp, m, k, D, Pl, h1, _, h2, h3, hm, _, h5⟩
 ·have h1' : [Value.slice a len cap] = [.slice none 0 0] := h1;simp only [List.cons.injEq, Value.slice.injEq, and_true] at h1';obtain ⟨rfl, rfl, rfl⟩ := h1';exact ⟨none, 0, 0, [], rfl, Sl.nil W none sz, fun _ h => by simp at h⟩
 ·have h1' : [Value.slice a len cap] = [.slice (some ad) n cp] := h1;simp only [List.cons.injEq, Value.slice.injEq, and_true] at h1';obtain ⟨rfl, rfl, rfl⟩ := h1';have hnm : len ≤ m := by rw [hm]; split <;> omega
  obtain ⟨l, hl, hp⟩ := uu (p := fun i a => W.cells? base (ad.add (i * sz)) sz = some (f a) ∧ p a) len fun i hi => by
   exact O2
  refine ⟨some ad, len, cap, l, rfl, ⟨by rw [eT hf, hl], fun _ => ⟨ad, rfl, fun j u hu => ?_⟩⟩, fun a ha => ?_⟩
  ·exact Rq
  ·obtain ⟨i, hi⟩ := V6.1 ha;exact (hp i a hi).2
variable {c : Nat}
def IC (z : Int) : List Value := [.int .i64 z]
theorem Dc {f : α → List Value} {p : α → Prop} {sz : Nat} {t e : TypeId} {H : Type} {enc : TypeId × Value → H} {x : DataW H × List MemPlace}
  (hf : ∀ x, (f x).length = sz) (h0 : 0 < sz) (ht : P.underlying t = some (.slice e)) (hc : P.cellsOf e = sz) (one : ∀ fuel cs x, DataW.trod enc P W base sp held fuel e cs = some x → ∃ a, cs = f a ∧ p a)
  (hfu : DataW.trod enc P W base sp held fuel t cs = some x) : ∃ (A : Option Addr) (n c : Nat) (l : List α), cs = [.slice A n c] ∧ Sl W A n sz (az f l) ∧ ∀ a ∈ l, p a := by
 rcases Go.Deep.open_slice ht hfu with ⟨h1, _⟩ | ⟨ad, n, cp, m, k, D, Pl, h1, _, h2, h3, hm, _, h5⟩
 ·exact ⟨none, 0, 0, [], h1, Sl.nil W none sz, fun _ h => by simp at h⟩
 ·have hnm : n ≤ m := by rw [hm]; split <;> omega
  obtain ⟨l, hl, hp⟩ := uu (p := fun i a => W.cells? base (ad.add (i * sz)) sz = some (f a) ∧ p a) n fun i hi => by
   exact O2
  refine ⟨some ad, n, cp, l, h1, ⟨by rw [eT hf, hl], fun _ => ⟨ad, rfl, fun j u hu => ?_⟩⟩, fun a ha => ?_⟩
  ·exact Rq
  ·obtain ⟨i, hi⟩ := V6.1 ha;exact (hp i a hi).2
theorem GH {t e : TypeId} {H : Type} {enc : TypeId × Value → H} {A : Option Addr} {x : DataW H × List MemPlace}
  (ht : P.underlying t = some (.slice e)) (hfu : DataW.trod enc P W base sp held fuel t [.slice A n c] = some x) : n ≤ c := by
 rcases Go.Deep.open_slice ht hfu with ⟨h1, _⟩ | ⟨ad, n', cp, m, k, D, Pl, h1, _, h2, _⟩
 ·injection h1 with h1
  injection h1 with _ e2 e3
  omega
 ·injection h1 with h1
  injection h1 with _ e2 e3
  omega
theorem Kv {l : List Int} (h : l.all cC = true) : ints (l.map xK) = l := by
 induction l with
 | nil => rfl
 | cons x l ih =>
  simp only [List.all_cons, UX] at h;have h1 : ((xK x).toNat : Int) = x := by
   have := sH h.1;injection this with _ this
   exact this.symm
  have := ih h.2;simp only [ints, U9, h1];congr 1
theorem KI {l : List Int} (h : l.all cC = true) : ek (l.map xK) = true := by
 rw [ek, Vb];intro c hc;obtain ⟨x, hx, rfl⟩ := UY.1 hc;have h1 := Vb.1 h x hx;have := sH h1;injection this with _ this
 simp only [cC, UX, U2] at h1;simp only [U2];omega
theorem ME {a : List UInt8} (h : ek a = true) : (ints a).all cC = true := by
 rw [Vb];intro x hx;obtain ⟨c, hc, rfl⟩ := UY.1 hx;have := Vb.1 h c hc;simp only [U2] at this;simp only [cC, UX, U2];omega
theorem wD {f : Int → Int → Int} {a b : List UInt8} {l : List Int} (h : jm f a b = some l) : ek a = true ∧ ek b = true ∧ b.length = a.length ∧ l = List.zipWith f (ints a) (ints b) := by
 unfold jm at h;split at h
 ·rename_i hc;simp only [UX, U2] at hc;injection h with h
  exact ⟨hc.1, hc.2.1, Uz, h.symm⟩
 ·cases h
theorem MT {f : Int → Int → Int} {a b : List UInt8} (h1 : ek a = true) (h2 : ek b = true) (h3 : b.length = a.length) : jm f a b = some (List.zipWith f (ints a) (ints b)) := by
 unfold jm;rw [UF (by simp [h1, h2, h3])]
theorem nI {a c : List UInt8} (h : (mulL a c).2 = 0) : ek a = true ∧ ek c = true ∧ c.length = a.length ∧ ek (mulL a c).1 = true ∧ ints (mulL a c).1 = List.zipWith (· + ·) (ints a) (ints c) := by
 unfold mulL at h ⊢;split
 ·rename_i l hl;rw [hl] at h;simp only at h ⊢;obtain ⟨h1, h2, h3, h4⟩ := wD hl;by_cases hc : l.all cC = true
  ·rw [(qy hc).1];exact ⟨h1, h2, h3, KI hc, by rw [Kv hc, h4]⟩
  ·simp [LC, hc] at h
 ·rename_i hl;rw [hl] at h;simp at h
theorem DC {a c : List UInt8} (h : (mulL a c).2 = 0) : (mulL a c).1.length = a.length := by
 obtain ⟨_, _, h3, _, h5⟩ := nI h;have := VJ List.length h5;rw [da, List.length_zipWith, da, da] at this;omega
structure TR where
 m : ByteArray
 c : NR
def TR.cells (t : TR) : List Value := [.string t.m, .bool t.c.neg, .string t.c.bA, .int .i64 t.c.e]
theorem TR.len (t : TR) : t.cells.length = 4 := rfl
theorem TR.one (t : TR) : t.cells.all Value.oneCell' = true := rfl
def jG (a b : ByteArray) : Bool := Op.bytesLess a.data.toList b.data.toList
theorem p7 : ∀ a : List UInt8, Op.bytesLess a a = false
 | [] => rfl
 | c :: a => by simp [Op.bytesLess, p7 a]
theorem rY : ∀ a b c : List UInt8, Op.bytesLess a b = true → Op.bytesLess b c = true → Op.bytesLess a c = true
 | _, [], [], _, h => by simp [Op.bytesLess] at h
 | _, _ :: _, [], _, h => by simp [Op.bytesLess] at h
 | [], [], _ :: _, h, _ => by simp [Op.bytesLess] at h
 | _ :: _, [], _ :: _, h, _ => by simp [Op.bytesLess] at h
 | [], _ :: _, _ :: _, _, _ => rfl
 | x :: a, y :: b, z :: c, h1, h2 => by
  simp only [Op.bytesLess, W6, UX, U2, Wl] at h1 h2 ⊢
  rcases h1 with h1 | ⟨rfl, h1⟩
  ·rcases h2 with h2 | ⟨rfl, h2⟩
   ·exact .inl (UInt8.lt_trans h1 h2)
   ·exact .inl h1
  ·rcases h2 with h2 | ⟨rfl, h2⟩
   ·exact .inl h2
   ·exact .inr ⟨rfl, rY a b c h1 h2⟩
theorem wH : ∀ a b : List UInt8, Op.bytesLess a b = false → Op.bytesLess b a = false → a = b
 | [], [], _, _ => rfl
 | [], _ :: _, h, _ => by simp [Op.bytesLess] at h
 | _ :: _, [], _, h => by simp [Op.bytesLess] at h
 | x :: a, y :: b, h1, h2 => by
  simp only [Op.bytesLess, Bool.or_eq_false_iff, Yb, XS, beq_eq_false_iff_ne] at h1 h2;have e : x = y := by
   have a1 := h1.1;have a2 := h2.1;rw [UInt8.lt_iff_toNat_lt] at a1 a2;exact XA.1 Uz
  subst e;rw [wH a b (h1.2.resolve_left (fun h => h rfl)) (h2.2.resolve_left (fun h => h rfl))]
theorem gZ (a : ByteArray) : jG a a = false := p7 _
theorem j1 {a b c : ByteArray} (h1 : jG a b = true) (h2 : jG b c = true) : jG a c = true := rY _ _ _ h1 h2
theorem qm {a b : ByteArray} (h1 : jG a b = false) (h2 : jG b a = false) : a = b := uq (wH _ _ h1 h2)
theorem Ju {a b : ByteArray} (h : jG a b = true) : a ≠ b := fun e => by rw [e, gZ] at h; cases h
theorem GI {a b : ByteArray} (h : jG a b = true) : jG b a = false := by
 cases h2 : jG b a with
 | false => rfl
 | true => have := j1 h h2; rw [gZ] at this; cases this
def td (l : List TR) : Prop := l.Pairwise fun a b => jG a.m b.m = true
def wS (f : ByteArray → Dyadic) : List TR → Dyadic
 | [] => 0
 | t :: l => t.c.d * f t.m + wS f l
theorem nw (f : ByteArray → Dyadic) (l k : List TR) : wS f (l ++ k) = wS f l + wS f k := by
 induction l with
 | nil => exact (WH _).symm
 | cons t l ih => rw [UP, wS, wS, ih, Dyadic.add_assoc]
theorem Mr (f : ByteArray → Dyadic) (l : List TR) (t : TR) : wS f (l ++ [t]) = wS f l + t.c.d * f t.m := by
 rw [nw, wS, wS, Xd]
def iJ (l : List TR) (m : ByteArray) : Dyadic := wS (fun k => if k = m then 1 else 0) l
theorem fJ (t : TR) (l : List TR) (m : ByteArray) : iJ (t :: l) m = (if t.m = m then t.c.d else 0) + iJ l m := by
 show t.c.d * (if t.m = m then 1 else 0) + iJ l m = _;split
 ·rw [Dyadic.mul_one]
 ·rw [Xc]
theorem tp (m : ByteArray) : iJ [] m = 0 := rfl
theorem e7 (l k : List TR) (m : ByteArray) : iJ (l ++ k) m = iJ l m + iJ k m := nw _ _ _
theorem xc {l : List TR} {m : ByteArray} (h : ∀ t ∈ l, t.m ≠ m) : iJ l m = 0 := by
 induction l with
 | nil => rfl
 | cons t l ih => rw [fJ, UE (h t UR), ih fun s hs => h s (UT _ hs), WH]
structure Canon (l : List TR) : Prop where
 sv : td l
 nz : ∀ t ∈ l, t.c.d ≠ 0
 nf : ∀ t ∈ l, t.c = nR t.c.d
theorem uC {t : TR} {l : List TR} (h : Canon (t :: l)) : Canon l := ⟨(V4.1 h.sv).2, fun s hs => h.nz s (UT _ hs), fun s hs => h.nf s (UT _ hs)⟩
theorem wQ {t : TR} {l : List TR} {m : ByteArray} (h : td (t :: l)) (hm : m = t.m ∨ jG m t.m = true) : ∀ s ∈ l, s.m ≠ m := fun s hs e => by
 have h1 := (V4.1 h).1 s hs
 rcases hm with rfl | hm
 ·rw [e, gZ] at h1; cases h1
 ·have := j1 hm h1;rw [e, gZ] at this; cases this
theorem j0 {t : TR} {l : List TR} (h : td (t :: l)) : iJ (t :: l) t.m = t.c.d := by
 rw [fJ, UF rfl, xc (wQ h (.inl rfl)), Xd]
theorem wb {t : TR} {l : List TR} {m : ByteArray} (h : td (t :: l)) (hm : jG m t.m = true) : iJ (t :: l) m = 0 := by
 rw [fJ, UE (fun e => Ju hm e.symm), xc (wQ h (.inr hm)), WH]
theorem zR : ∀ {l k : List TR}, Canon l → Canon k → (∀ m, iJ l m = iJ k m) → l = k
 | [], [], _, _, _ => rfl
 | [], t :: k, _, hk, h => by
  have := h t.m;rw [j0 hk.sv, tp] at this;exact absurd this.symm (hk.nz t UR)
 | t :: l, [], hl, _, h => by
  have := h t.m;rw [j0 hl.sv, tp] at this;exact absurd this (hl.nz t UR)
 | t :: l, s :: k, hl, hk, h => by
  have h1 : jG t.m s.m = false := by
   cases hb : jG t.m s.m with
   | false => rfl
   | true =>
    have := h t.m;rw [j0 hl.sv, wb hk.sv hb] at this;exact absurd this (hl.nz t UR)
  have h2 : jG s.m t.m = false := by
   cases hb : jG s.m t.m with
   | false => rfl
   | true =>
    have := h s.m;rw [j0 hk.sv, wb hl.sv hb] at this;exact absurd this.symm (hk.nz s UR)
  have em := qm h1 h2;have ed : t.c.d = s.c.d := by
   have := h t.m;rw [j0 hl.sv, em, j0 hk.sv] at this;exact this
  have et : t = s := by
   have a := hl.nf t UR;have b := hk.nf s UR;obtain ⟨m1, c1⟩ := t;obtain ⟨m2, c2⟩ := s;simp only at em ed a b;rw [em, a, b, ed]
  subst et;rw [zR (uC hl) (uC hk) fun m => by
   have := h m;rw [fJ, fJ] at this;grind]
def oI : List TR → TR → List TR
 | [], x => [⟨x.m, nR x.c.d⟩]
 | t :: l, x => if jG t.m x.m = true then t :: oI l x else if jG x.m t.m = true then ⟨x.m, nR x.c.d⟩ :: t :: l else ⟨x.m, nR (t.c.d + x.c.d)⟩ :: l
theorem EM (f : ByteArray → Dyadic) : ∀ (l : List TR) (x : TR), wS f (oI l x) = wS f l + x.c.d * f x.m
 | [], x => by
  show (nR x.c.d).d * f x.m + 0 = 0 + _;rw [bY, Xd, WH]
 | t :: l, x => by
  unfold oI;split
  ·rw [wS, EM f l x, wS, Dyadic.add_assoc]
  ·split
   ·rw [wS, wS, bY, Dyadic.add_comm]
   ·rename_i h1 h2;have e : t.m = x.m := qm (by simpa using h1) (by simpa using h2);rw [wS, wS, bY, e];grind
theorem uB : ∀ {l : List TR} {x t : TR}, t ∈ oI l x → t ∈ l ∨ t.m = x.m
 | [], x, t, h => .inr (by rw [U4.1 h])
 | s :: l, x, t, h => by
  unfold oI at h;split at h
  ·rcases UZ.1 h with rfl | h
   ·exact .inl UR
   ·rcases uB h with h | h
    ·exact .inl (UT _ h)
    ·exact .inr h
  ·split at h
   ·rcases UZ.1 h with rfl | h
    ·exact .inr rfl
    ·exact .inl h
   ·rcases UZ.1 h with rfl | h
    ·exact .inr rfl
    ·exact .inl (UT _ h)
theorem BX : ∀ {l : List TR} {x : TR}, td l → td (oI l x)
 | [], x, _ => Ya _ _
 | s :: l, x, h => by
  have h1 := V4.1 h;unfold oI;split
  ·rename_i hs;refine V4.2 ⟨fun t ht => ?_, BX h1.2⟩
   rcases uB ht with ht | ht
   ·exact h1.1 t ht
   ·rw [ht]; exact hs
  ·split
   ·rename_i hs;refine V4.2 ⟨fun t ht => ?_, h⟩
    rcases UZ.1 ht with rfl | ht
    ·exact hs
    ·exact j1 hs (h1.1 t ht)
   ·rename_i a b;have e : s.m = x.m := qm (by simpa using a) (by simpa using b);refine V4.2 ⟨fun t ht => ?_, h1.2⟩;show jG x.m t.m = true;rw [← e];exact h1.1 t ht
theorem E0 : ∀ {l : List TR} {x : TR}, (∀ t ∈ l, t.c = nR t.c.d) → ∀ t ∈ oI l x, t.c = nR t.c.d
 | [], x, _, t, ht => by rw [U4.1 ht]; show nR _ = nR (nR _).d; rw [bY]
 | s :: l, x, h, t, ht => by
  unfold oI at ht;split at ht
  ·rcases UZ.1 ht with rfl | ht
   ·exact h t UR
   ·exact E0 (fun t ht => h t (UT _ ht)) t ht
  ·split at ht
   ·rcases UZ.1 ht with rfl | ht
    ·show nR _ = nR (nR _).d; rw [bY]
    ·exact h t ht
   ·rcases UZ.1 ht with rfl | ht
    ·show nR _ = nR (nR _).d; rw [bY]
    ·exact h t (UT _ ht)
theorem zF : ∀ (l : List TR) (x : TR), (oI l x).length ≤ l.length + 1
 | [], x => UH _
 | s :: l, x => by
  have := zF l x;unfold oI;split
  ·rw [U7, U7]; omega
  ·split <;> simp
theorem EP {k : Nat} : ∀ {l : List TR} {x : TR}, (∀ t ∈ l, Sz k t.c.d) → Sz k x.c.d → ∀ t ∈ oI l x, Sz (k + 1) t.c.d
 | [], x, _, hx, t, ht => by rw [U4.1 ht]; show Sz _ (nR _).d; rw [bY]; exact hx.mono Uz
 | s :: l, x, h, hx, t, ht => by
  unfold oI at ht;split at ht
  ·rcases UZ.1 ht with rfl | ht
   ·exact (h t UR).mono Uz
   ·exact EP (fun t ht => h t (UT _ ht)) hx t ht
  ·split at ht
   ·rcases UZ.1 ht with rfl | ht
    ·show Sz _ (nR _).d; rw [bY]; exact hx.mono Uz
    ·exact (h t ht).mono Uz
   ·rcases UZ.1 ht with rfl | ht
    ·show Sz _ (nR _).d; rw [bY]; exact (h s UR).add hx
    ·exact (h t (UT _ ht)).mono Uz
def ml (l : List TR) : List TR := l.foldl oI []
def yY (t : TR) : Bool := !decide (t.c.d = 0)
def aD (l : List TR) : List TR := (ml l).filter yY
theorem iP (l : List TR) (x : TR) : ml (l ++ [x]) = oI (ml l) x := by unfold ml; rw [XV]; rfl
theorem jo {P : List α → Prop} (h0 : P []) (hs : ∀ l x, P l → P (l ++ [x])) (l : List α) : P l := by
 have : ∀ k : List α, P k.reverse := fun k => by
  induction k with
  | nil => exact h0
  | cons x k ih => rw [Xg]; exact hs _ _ ih
 have h := this l.reverse;rwa [XG] at h
theorem Ia (f : ByteArray → Dyadic) (l : List TR) : wS f (ml l) = wS f l := by
 induction l using jo with
 | h0 => rfl
 | hs l x ih => rw [iP, EM, ih, Mr]
theorem GR (l : List TR) : td (ml l) := by
 induction l using jo with
 | h0 => exact XQ
 | hs l x ih => rw [iP]; exact BX ih
theorem HF (l : List TR) : ∀ t ∈ ml l, t.c = nR t.c.d := by
 induction l using jo with
 | h0 => intro t ht; cases ht
 | hs l x ih => rw [iP]; exact E0 ih
theorem G2 (l : List TR) : (ml l).length ≤ l.length := by
 induction l using jo with
 | h0 => exact UH _
 | hs l x ih => rw [iP, UM]; have := zF (ml l) x; simp; omega
theorem HN (l : List TR) (h : ∀ t ∈ l, Sz k t.c.d) : ∀ t ∈ ml l, Sz (k + l.length) t.c.d := by
 induction l using jo with
 | h0 => intro t ht; cases ht
 | hs l x ih =>
  rw [iP, UM];exact EP (k := k + l.length) (ih fun t ht => h t (WB _ ht)) ((h x (by simp)).mono Uz)
theorem Ht (l : List TR) : ∀ t ∈ ml l, ∃ s ∈ l, s.m = t.m := by
 induction l using jo with
 | h0 => intro t ht; cases ht
 | hs l x ih =>
  rw [iP];intro t ht
  rcases uB ht with ht | ht
  ·obtain ⟨s, hs, e⟩ := ih t ht;exact ⟨s, WB _ hs, e⟩
  ·exact ⟨x, by simp, ht.symm⟩
theorem xl (f : ByteArray → Dyadic) (l : List TR) : wS f (l.filter yY) = wS f l := by
 induction l with
 | nil => rfl
 | cons t l ih =>
  rw [List.filter_cons];by_cases h : t.c.d = 0
  ·rw [UE (by unfold yY; rw [U0 h]; decide), ih, wS, h, W8, WH]
  ·rw [UF (by unfold yY; rw [Vf h]; rfl), wS, wS, ih]
theorem rp (f : ByteArray → Dyadic) (l : List TR) : wS f (aD l) = wS f l := (xl f _).trans (Ia f l)
theorem rJ (l : List TR) (m : ByteArray) : iJ (aD l) m = iJ l m := rp _ _
theorem Dh {t : TR} (h : yY t = true) : t.c.d ≠ 0 := fun e => by
 unfold yY at h;rw [U0 e] at h
 cases h
theorem fp (l : List TR) : Canon (aD l) :=
 ⟨List.Pairwise.filter _ (GR l), fun t ht => Dh (V7.1 ht).2, fun t ht => HF l t (V7.1 ht).1⟩
theorem bM (l : List TR) : (aD l).length ≤ l.length := U1 (List.length_filter_le _ _) (G2 l)
theorem nJ {l : List TR} (h : ∀ t ∈ l, Sz k t.c.d) : ∀ t ∈ aD l, Sz (k + l.length) t.c.d := fun t ht => HN l h t (V7.1 ht).1
theorem fj {l : List TR} : ∀ t ∈ aD l, ∃ s ∈ l, s.m = t.m := fun t ht => Ht l t (V7.1 ht).1
theorem vT {l k : List TR} (h : Canon k) (hc : ∀ m, iJ k m = iJ l m) : k = aD l := zR h (fp l) fun m => by rw [hc, rJ]
theorem yB {l k : List TR} (hc : ∀ m, iJ k m = iJ l m) : aD k = aD l := vT (fp k) fun m => by rw [rJ, hc]
variable {O Y l ys : List TR}
def iu (k : Nat) (l : List TR) : Prop := ∀ t ∈ l, t.c.ok ∧ Sz k t.c.d
theorem iu.mono (h : iu k l) (hk : k ≤ j) : iu j l := fun t ht => ⟨(h t ht).1, (h t ht).2.mono hk⟩
structure MD (k : Nat) (l L : List TR) : Prop where
 sv : td L
 co : ∀ m, iJ L m = iJ l m
 len : L.length ≤ l.length
 ok : iu k L
 mem : ∀ t ∈ L, ∃ s ∈ l, s.m = t.m
theorem MD.mono {L : List TR} (h : MD k l L) (hk : k ≤ j) : MD j l L := ⟨h.sv, h.co, h.len, h.ok.mono hk, h.mem⟩
theorem MD.self (h : td l) (hk : iu k l) : MD k l l := ⟨h, fun _ => rfl, UH _, hk, fun t ht => ⟨t, ht, rfl⟩⟩
structure Mg (k : Nat) (xs ys O X Y : List TR) : Prop where
 ro : td O
 rx : td X
 ry : td Y
 co : ∀ m, iJ O m + (iJ X m + iJ Y m) = iJ xs m + iJ ys m
 bx : ∀ t ∈ O, ∀ s ∈ X, jG t.m s.m = true
 hy : ∀ t ∈ O, ∀ s ∈ Y, jG t.m s.m = true
 len : O.length + (X.length + Y.length) ≤ xs.length + ys.length
 oo : iu (k + 1) O
 ox : iu k X
 oy : iu k Y
 mo : ∀ t ∈ O, ∃ s ∈ xs ++ ys, s.m = t.m
 mx : ∀ t ∈ X, t ∈ xs ++ ys
 my : ∀ t ∈ Y, t ∈ xs ++ ys
theorem Mg.start {xs : List TR} (hx : td xs) (hy : td ys) (ox : iu k xs) (oy : iu k ys) : Mg k xs ys [] xs ys :=
 ⟨XQ, hx, hy, fun m => WH _, fun t ht => (by cases ht), fun t ht => (by cases ht), by simp, fun t ht => (by cases ht), ox, oy, fun t ht => (by cases ht), fun t ht => WB _ ht, fun t ht => Wp _ ht⟩
theorem tm {x : TR} (h : td O) (hx : ∀ t ∈ O, jG t.m x.m = true) : td (O ++ [x]) :=
 List.pairwise_append.2 ⟨h, Ya _ _, fun t ht s hs => by rw [U4.1 hs]; exact hx t ht⟩
theorem ui (x : TR) (m : ByteArray) : iJ [x] m = if x.m = m then x.c.d else 0 := by rw [fJ, tp, Xd]
theorem fq {P : α → Prop} {O : List α} {x : α} (h : ∀ t ∈ O, P t) (hx : P x) : ∀ t ∈ O ++ [x], P t := fun t ht => by
 rcases Vk.1 ht with ht | ht
 ·exact h t ht
 ·rw [U4.1 ht]; exact hx
theorem Mg.left {xs X : List TR} {x y : TR} (h : Mg k xs ys O (x :: X) (y :: Y)) (hl : jG x.m y.m = true) : Mg k xs ys (O ++ [x]) X (y :: Y) := by
 obtain ⟨ro, rx, ry, co, bx, hby, len, oo, ox, oy, mo, mx, my⟩ := h;have r1 := V4.1 rx;have r2 := V4.1 ry;refine ⟨tm ro fun t ht => bx t ht x UR, r1.2, ry, fun m => ?_, fq (fun t ht s hs => bx t ht s (UT _ hs)) fun s hs => r1.1 s hs, fq hby fun s hs => ?_, by simp at len ⊢; omega, fq oo ⟨(ox x UR).1, (ox x UR).2.mono Uz⟩, fun t ht => ox t (UT _ ht), oy, fq mo ⟨x, mx x UR, rfl⟩, fun t ht => mx t (UT _ ht), my⟩
 ·have := co m;rw [fJ x X] at this;rw [e7, ui];grind
 ·rcases UZ.1 hs with rfl | hs
  ·exact hl
  ·exact j1 hl (r2.1 s hs)
theorem Mg.right {xs X : List TR} {x y : TR} (h : Mg k xs ys O (x :: X) (y :: Y)) (hl : jG y.m x.m = true) : Mg k xs ys (O ++ [y]) (x :: X) Y := by
 obtain ⟨ro, rx, ry, co, bx, hby, len, oo, ox, oy, mo, mx, my⟩ := h;have r1 := V4.1 rx;have r2 := V4.1 ry;refine ⟨tm ro fun t ht => hby t ht y UR, rx, r2.2, fun m => ?_, fq bx fun s hs => ?_, fq (fun t ht s hs => hby t ht s (UT _ hs)) fun s hs => r2.1 s hs, by simp at len ⊢; omega, fq oo ⟨(oy y UR).1, (oy y UR).2.mono Uz⟩, ox, fun t ht => oy t (UT _ ht), fq mo ⟨y, my y UR, rfl⟩, mx, fun t ht => my t (UT _ ht)⟩
 ·have := co m;rw [fJ y Y] at this;rw [e7, ui];grind
 ·rcases UZ.1 hs with rfl | hs
  ·exact hl
  ·exact j1 hl (r1.1 s hs)
theorem Mg.both {xs X : List TR} {x y : TR} (h : Mg k xs ys O (x :: X) (y :: Y)) (h1 : jG x.m y.m = false) (h2 : jG y.m x.m = false) (hk : k ≤ 3999980) : Mg k xs ys (O ++ [⟨x.m, nR (x.c.d + y.c.d)⟩]) X Y := by
 obtain ⟨ro, rx, ry, co, bx, hby, len, oo, ox, oy, mo, mx, my⟩ := h;have r1 := V4.1 rx;have r2 := V4.1 ry;have e := qm h1 h2;have hz := (ox x UR).2.add (oy y UR).2;refine ⟨tm ro fun t ht => bx t ht x UR, r1.2, r2.2, fun m => ?_, fq (fun t ht s hs => bx t ht s (UT _ hs)) fun s hs => r1.1 s hs, fq (fun t ht s hs => hby t ht s (UT _ hs)) fun s hs => ?_, by simp at len ⊢; omega, fq oo ⟨hz.ok Uz, ?_⟩, fun t ht => ox t (UT _ ht), fun t ht => oy t (UT _ ht), fq mo ⟨x, mx x UR, rfl⟩, fun t ht => mx t (UT _ ht), fun t ht => my t (UT _ ht)⟩
 ·have := co m;rw [fJ y Y, fJ x X, ← e] at this;rw [e7, ui];show iJ O m + (if x.m = m then (nR (x.c.d + y.c.d)).d else 0) + (iJ X m + iJ Y m) = _;rw [bY];grind
 ·show jG x.m s.m = true;rw [e];exact r2.1 s hs
 ·show Sz _ (nR _).d;rw [bY];exact hz
theorem Mg.done {xs X : List TR} (h : Mg k xs ys O X Y) (hd : X = [] ∨ Y = []) : MD (k + 1) (xs ++ ys) (O ++ X ++ Y) := by
 obtain ⟨ro, rx, ry, co, bx, hby, len, oo, ox, oy, mo, mx, my⟩ := h;refine ⟨?_, fun m => ?_, by simp at len ⊢; omega, fun t ht => ?_, fun t ht => ?_⟩
 ·rw [Vt];refine List.pairwise_append.2 ⟨ro, ?_, fun t ht s hs => ?_⟩
  ·rcases hd with rfl | rfl
   ·exact ry
   ·rw [Vo]; exact rx
  ·rcases Vk.1 hs with hs | hs
   ·exact bx t ht s hs
   ·exact hby t ht s hs
 ·rw [e7, e7, e7, Dyadic.add_assoc];exact co m
 ·rcases Vk.1 ht with ht | ht
  ·rcases Vk.1 ht with ht | ht
   ·exact oo t ht
   ·exact ⟨(ox t ht).1, (ox t ht).2.mono Uz⟩
  ·exact ⟨(oy t ht).1, (oy t ht).2.mono Uz⟩
 ·rcases Vk.1 ht with ht | ht
  ·rcases Vk.1 ht with ht | ht
   ·exact mo t ht
   ·exact ⟨t, mx t ht, rfl⟩
  ·exact ⟨t, my t ht, rfl⟩
theorem MD.aD {k : Nat} {l L : List TR} (h : MD k l L) : ((L.filter yY).map fun t => (⟨t.m, nR t.c.d⟩ : TR)) = aD l := by
 refine vT ⟨?_, fun t ht => ?_, fun t ht => ?_⟩ fun m => ?_
 ·exact List.Pairwise.map _ (fun a b hab => hab) (List.Pairwise.filter _ h.sv)
 ·obtain ⟨s, hs, rfl⟩ := UY.1 ht;show (nR s.c.d).d ≠ 0;rw [bY];exact Dh (V7.1 hs).2
 ·obtain ⟨s, hs, rfl⟩ := UY.1 ht;show nR s.c.d = nR (nR s.c.d).d;rw [bY]
 ·have e : ∀ (f : ByteArray → Dyadic) (k : List TR), wS f (k.map fun t => (⟨t.m, nR t.c.d⟩ : TR)) = wS f k := fun f k => by
   induction k with
   | nil => rfl
   | cons t k ih => rw [U9, wS, wS, ih]; show (nR t.c.d).d * f t.m + _ = _; rw [bY]
  show wS _ _ = _;rw [e, xl];exact h.co m
theorem xa (h : l.length < 2) : td l := by
 match l, h with
 | [], _ => exact XQ
 | [x], _ => exact Ya _ _
variable {K : Value → World → Prop} {ag : Bool} {by' : Nat} {cp : Operand} {kc kl : IntKind} {ops : Array Oper} {pos : String} {zc : List Value}
section
variable {ro : Mode}
section
variable {P : Program} {N : Nat} {ops : Array Oper} {Q : Kq} {ρ : Rf} {w w0 : World} {rest : List Oper} {H : List HE} {d : Nat} {ty : TypeId} {pos : String} {af : Array Edge}
theorem MI (hh : Hp w0 H w) {t e : TypeId} {l : Operand} {L C : Int} {sz : Nat} (hl : ev ρ l = .int kl L) (hc : ev ρ cp = .int kc C) (hL : L = 0) (hC : C = (n : Int))
  (ht : P.underlying t = some (.slice e)) (hte : dr P e = some (sz, ag, by', zc)) (hb : by' * n ≤ 281474976710656) (h63 : n ≤ 9223372036854775807) (hN : d < N)
  (k : ∀ b w', Hp w0 (.row (some ⟨b, 0, none⟩) 0 n e sz [] :: H) w' → WL ro P N ops Q rest (cI ρ d (.slice (some ⟨b, 0, none⟩) 0 n)) w') :
  WL ro P N ops Q (⟨some d, .makeSlice t l cp, ty, pos, af, none⟩ :: rest) ρ w := by
 obtain ⟨i, z, dd, hi, hd, hz, hs, hby, hzc, _⟩ := eG hte;subst hL; subst hC; subst hs;have hr := run_make (P := P) w t e i z ht hi hz kl kc 0 n (Int.le_refl _) Uz (by rw [hby, ← V2]; omega) Uz;simp only [V8, Int.toNat_zero] at hr;refine aQ rfl rfl hN (w' := w.alloc (.cells (madeCells z.cells (n * i.size)) e)) (v := .slice (some ⟨w.heap.size, 0, none⟩) 0 n) ?_ (k _ _ (hh.aV (show Below w.heap.size w (w.alloc (.cells (madeCells z.cells (n * i.size)) e)) from ⟨rfl, rfl, rfl, (World.grownBy_alloc w _ none).size, fun j hj => (World.grownBy_alloc w _ none).block j hj (by simp)⟩) ?_))
 ·simp [execOp, hl, hc, hr]
 ·exact ⟨by simp, .inr ⟨w.heap.size, n, madeCells z.cells (n * i.size), rfl, UH _, heap_alloc_new w _, UI _, by unfold maxLen; omega, size_madeCells _ _, by simp⟩⟩
end
def iQ (n sz : Nat) (cs : List Value) : VP := fun v W => ∃ g : Nat, v = .slice (some ⟨g, 0, none⟩) n n ∧ Sl W (some ⟨g, 0, none⟩) n sz cs
theorem iQ.ext {sz : Nat} (v : Value) (w w' : World) (h : iQ n sz cs v w) (hb : Below w.heap.size w w') : iQ n sz cs v w' := let ⟨g, h1, h2⟩ := h; ⟨g, h1, h2.ext hb⟩
section
variable {P : Program} {ρ : Rf} {w : World}
theorem Mw {d : Option Nat} {ty : TypeId} {af : Array Edge} {t e : TypeId} {l : Operand} {L C : Int} {sz : Nat} (hl : ev ρ l = .int kl L) (hc : ev ρ cp = .int kc C) (hL : L = (n : Int)) (hC : C = (n : Int))
  (ht : P.underlying t = some (.slice e)) (hte : dr P e = some (sz, ag, by', zc)) (hzl : zc.length = sz) (hb : by' * n ≤ 281474976710656) (h63 : n ≤ 9223372036854775807)
  (hk : ∀ v w2, iQ n sz (fM n zc) v w2 → Below w.heap.size w w2 → K v w2) : OG P ops ⟨d, .makeSlice t l cp, ty, pos, af, none⟩ ρ w K := by
 obtain ⟨i, z, dd, hi, hd, hz, hs, hby, hzc, _⟩ := eG hte;subst hL; subst hC;obtain ⟨w', hr, hown, hg⟩ := run_make_full (P := P) w w.heap.size t e i z sz ht hi hz hs kl kc n (by rw [hby]; exact hb) (by unfold maxLen; omega) (UH _);have hzz : (madeCells z.cells (n * sz)).toList = fM n zc := by
  exact QA
 rw [hzz] at hown;exact fi rfl (w' := w') (v := .slice (some ⟨w.heap.size, 0, none⟩) n n) (by simp [execOp, hl, hc, hr]) (hk _ _ ⟨w.heap.size, rfl, lT hown⟩ ⟨hg.os, hg.tape, hg.output, hg.size, fun j hj => hg.block j hj (by simp)⟩)
theorem ve (n : Nat) : fM n [.int .u8 0] = jQ (List.replicate n 0) := by
 induction n with
 | zero => rfl
 | succ n ih => rw [fM, ih, WS]; rfl
end
end
theorem Fu (a : ByteArray) : a.toList = a.data.toList := by
 have key : ∀ s : ByteArray, s.toList = s.data.toList := fun s => by
  exact Q4
 exact key a
theorem qp (a b : ByteArray) : Op.bytesLess a.toList b.toList = jG a b := by rw [Fu, Fu]; rfl
theorem Nh (a b : ByteArray) : (!(Op.bytesLess a.toList b.toList || a.toList == b.toList)) = jG b a := by
 rw [qp, J6]
 cases h1 : jG a b with
 | true => rw [GI h1]; rfl
 | false =>
  cases h2 : jG b a with
  | true => rw [Vf (fun e => Ju h2 e.symm)]; rfl
  | false => rw [U0 (qm h1 h2)]; rfl
def Jb (x y : TR) : Int := if jG x.m y.m = true then -1 else if jG y.m x.m = true then 1 else 0
theorem B4 (x y : TR) (w : World) : Calls Tryz.prog 76 #[.agg #[.string x.m, .bool x.c.neg, .string x.c.bA, .int .i64 x.c.e], .agg #[.string y.m, .bool y.c.neg, .string y.c.bA, .int .i64 y.c.e]] w fun r w' => r = .returned (.int .i64 (Jb x y)) ∧ Below w.heap.size w w' := by
 have hh := Hp.start w;refine aj (N := 17) (l := [.agg #[.string x.m, .bool x.c.neg, .string x.c.bA, .int .i64 x.c.e], .agg #[.string y.m, .bool y.c.neg, .string y.c.bA, .int .i64 y.c.e]]) Tryz.func76 rfl rfl (by simp) ?_;refine sr ?_;refine cz hh [_,_,_,_] ?_;intro b2 w2 hh;refine cz hh [_,_,_,_] ?_;intro b3 w3 hh;refine u3 ?_;refine bG hh 1 ?_;refine bH ?_;refine bG hh 0 ?_;refine Gh rfl rfl UA ?_;refine aB (aa ?_);rw [qp];unfold Jb
 cases h1 : jG x.m y.m with
 | true =>
  refine cT (sr (aI (aa (av (cf (aH ?_))))));refine de ?_;exact ⟨rfl, hh.below⟩
 | false =>
  refine cF (sr (bH ?_));refine bG hh 1 ?_;refine bH ?_;refine bG hh 0 ?_;refine Gn rfl rfl UA ?_;refine aB (aa ?_);rw [Nh]
  cases h2 : jG y.m x.m with
  | true =>
   refine cT (sr (aI (aa (av (cf (aH ?_))))));refine de ?_;exact ⟨rfl, hh.below⟩
  | false =>
   refine cF (ar (bE (ai (sr (aI (aa (av ?_)))))));refine de ?_;exact ⟨rfl, hh.below⟩
theorem Ge (x y : TR) (k : Nat) (w : World) (hT : eb w) (hx : x.c.ok ∧ Sz k x.c.d) (hy : y.c.ok ∧ Sz k y.c.d) (hk : k ≤ 3999980) : Calls Tryz.prog 77 #[.agg #[.string x.m, .bool x.c.neg, .string x.c.bA, .int .i64 x.c.e], .agg #[.string y.m, .bool y.c.neg, .string y.c.bA, .int .i64 y.c.e]] w fun r w' => r = .returned (.agg #[.string x.m, .bool (nR (x.c.d + y.c.d)).neg, .string (nR (x.c.d + y.c.d)).bA, .int .i64 (nR (x.c.d + y.c.d)).e]) ∧ Below w.heap.size w w' := by
 have hh := Hp.start w;have hsum := fun A cc w1 hT1 hS1 => jd A 2 cc [x.c, y.c] w1 hT1 hS1 (by simpa using ⟨hx.1, hy.1⟩) k (by simpa using ⟨hx.2, hy.2⟩) Uz;rw [show mA ([x.c, y.c].map NR.d) = x.c.d + y.c.d by simp only [U9, VD, k0]] at hsum;refine aj (N := 14) (l := [.agg #[.string x.m, .bool x.c.neg, .string x.c.bA, .int .i64 x.c.e], .agg #[.string y.m, .bool y.c.neg, .string y.c.bA, .int .i64 y.c.e]]) Tryz.func77 rfl rfl (by simp) ?_;refine sr ?_;refine cz hh [_,_,_,_] ?_;intro b2 w2 hh;refine cz hh [_,_,_,_] ?_;intro b3 w3 hh;refine bW hh ?_;intro b4 w4 hh;refine aa (ah ?_);refine aZ 8 [[(2, none)], [(5, some 0)], [(2, none)], [(7, some 2)], [(3, none)], [(9, some 4)], [(8, some 3), (10, some 5)], [(11, some 6)]] [(7, 12), (6, 11), (5, 10), (4, 9), (3, 8), (2, 7), (1, 6), (0, 5)] hh mixed UB ?_;refine ef ?_;refine gE 2 ?_;refine ef ?_;refine fS 2 [_,_,_] ?_;refine ef ?_;refine fS 1 [_,_,_] ?_;refine sA [_,_,_,_,_,_] ?_;refine aP (i := 7) (Is (.agg #[.bool (nR (x.c.d + y.c.d)).neg, .string (nR (x.c.d + y.c.d)).bA, .int .i64 (nR (x.c.d + y.c.d)).e])) Is.ext ?_ ?_
 ·intro ρ1 w1 hj hR;obtain ⟨A11, c11, h11, s11⟩ := hR.1;exact a7 rfl (aK al.out (aw h11 aW)) (hsum A11 c11 _ (hT.hp hj.hp) s11) (fun _ _ hq => ⟨_, hq.1, hq.2, rfl⟩)
 refine aT ?_;intro f W hJ hV;have hb_1 := hJ.bl;obtain ⟨v12, v11, v10, v9, v8, v7, v6, v5, _⟩ := hV;obtain ⟨A11, c11, e11, f11⟩ : Rows _ _ _ (f 6) W := v11;replace hh := hJ.hp;refine aY (br (ae v12 (ae e11 (ae v10 (ae v9 (ae v8 (ae v7 (ae v6 (ae v5 aX))))))))) ?_;dsimp only [cg];clear e11 hJ;refine gH [_,_,_,_] ?_;refine bX hh 0 [_,_,_,_] ?_;intro ws hh;replace hh : Hp _ (.blk _ _ [_, _, _, _] _ :: _) _ := hh;refine aa (av ?_);refine Mn (eQ rfl (eN (vs := [_, _, _, _]) aM.out (hh.cn (i := 0) (n := 4) rfl rfl) rfl) gF) ?_;exact ⟨rfl, hh.below⟩
variable {N : Nat} {w : World} {ρ : Rf}
theorem cZ {Q : Kq} {L : Array Bool} {i d : Nat} {op : Op} {ty : TypeId} {af : Array Edge} {v : Value} (hq : NP Q) (hi : ops[i]? = some ⟨some d, op, ty, pos, af, none⟩) (hs : Region.noSelect ops = true) (hf : Region.free .any ops L i = true) (hr : (Region.ready .any ops L).contains i = true)
  (hv : ∀ w, (execOp (ev ρ) ⟨some d, op, ty, pos, af, none⟩).run P w = .ok (.value v) w) (hN : d < N) (h : WA P N ops Q fuel (L.setIfInBounds i true) (cI ρ d v) w) : WA P N ops Q (fuel + 1) L ρ w :=
 ⟨fun a hfit => wpAny_first hi (Region.noSelect_spec hs) (fun c a w ⟨ρ', _, hq'⟩ => (hq c ρ' w hq').elim) fuel L a w (Region.free_spec hi hf) (by simpa using hr) (.inl ⟨by simp [Region.wanted], fun w => by rw [hfit.eval]; exact hv w⟩) (h.out _ (hfit.put hN v))⟩
theorem Sl.tail {A : Option Addr} {x : TR} {X : List TR} (h : Sl w A n 4 (az TR.cells (x :: X))) (h0 : 0 < n) (hc : n ≤ c) : Sl w (if c = 1 then A else A.map (·.add (1 * 4))) (n - 1) 4 (az TR.cells X) := by
 have := h.back (l := 1) Uz hc;rw [show (az TR.cells (x :: X)).drop (1 * 4) = az TR.cells X from jU TR.len (x :: X) 1] at this;exact this
theorem pU (A : Option Addr) (n c : Nat) (xs : List TR) (B : Option Addr) (m c2 : Nat) (ys : List TR) (k : Nat) (w : World) (hT : eb w) (hS : Sl w A n 4 (az TR.cells xs)) (hS2 : Sl w B m 4 (az TR.cells ys)) (hc : n ≤ c) (hc2 : m ≤ c2) (hn : n ≤ 1000000) (hm : m ≤ 1000000) (hk : k ≤ 3999980)
  (rx : td xs) (ry : td ys) (ox : iu k xs) (oy : iu k ys) :
  Calls Tryz.prog 75 #[.slice A n c, .slice B m c2, .func (.func 76) #[] #[], .func (.func 77) #[] #[]] w fun r w' => ∃ (L : List TR) (A' : Option Addr) (c' : Nat), MD (k + 1) (xs ++ ys) L ∧ r = .returned (.slice A' L.length c') ∧ Hp w [.row A' L.length c' 96 4 (az TR.cells L)] w' := by
 have hh := Hp.start w;have hlx := hS.bq TR.len UA;have hly := hS2.bq TR.len UA;have hnx : xs.length ≤ 1000000 := Uz;have hny : ys.length ≤ 1000000 := Uz;refine aj (N := 75) (l := [.slice A n c, .slice B m c2, .func (.func 76) #[] #[], .func (.func 77) #[] #[]]) Tryz.func75 rfl rfl (by simp) ?_;refine sr (aL (aa (sr (mL (aJ (mL (aJ ?_)))))));refine bo ?_;refine MI (n := (n + m)) hh rfl rfl Uz Uz bk.out aM.out Uz Uz UA ?_;intro b16 w16 hh;refine aL (aa (ah (aq ?_)));refine zj [0, 1, 9, 10, 17, 18, 19, 20, 21, 22, 23, 24, 25, 26, 27, 28, 29, 30, 31, 32, 33, 34, 35, 36, 37, 38, 39, 40, 41, 42, 43, 44, 45, 46, 47, 48, 49, 50, 51, 52, 53, 54, 55, 56, 57, 58, 59, 60, 61, 62, 63, 64, 65, 66, 67, 68, 69] 0 1 9
  (fun va vb vo w' => ∃ (A : Option Addr) (n c : Nat) (X : List TR) (B : Option Addr) (m c2 : Nat) (Y : List TR) (O : List TR) (C : Option Addr) (co : Nat), va = .slice A n c ∧ vb = .slice B m c2 ∧ vo = .slice C O.length co ∧ n ≤ c ∧ m ≤ c2 ∧ Sl w A n 4 (az TR.cells X) ∧ Sl w B m 4 (az TR.cells Y) ∧ Mg k xs ys O X Y ∧ Hp w [.row C O.length co 96 4 (az TR.cells O)] w')
  (fun va vb _ _ => lenOf va + lenOf vb) ?_ ?_
 ·exact ⟨A, n, c, xs, B, m, c2, ys, [], some ⟨b16, 0, none⟩, n + m, rfl, rfl, rfl, hc, hc2, hS, hS2, Mg.start rx ry ox oy, hh⟩
 ·clear hh hS hS2 hlx hly hc hc2 hn hm;rintro ρ' va vb vo w' ⟨A, n, c, X, B, m, c2, Y, O, C, co, rfl, rfl, rfl, hc, hc2, hS, hS2, hmg, hh⟩;have hX := hS.bq TR.len UA;have hY := hS2.bq TR.len UA;have hlen := hmg.len;have oX := ck TR.one X;have oY := ck TR.one Y;by_cases hn : n = 0
  ·refine ah (sr (mL (aJ ?_)));refine cq (mB ?_);refine gS (gS (gS ?_));refine eV ?_;refine aa (cF (a9 (aE (aE (bC (ai (sr (mL (mL ?_)))))))));refine cH hh (i := 0) rfl rfl rfl (hS.ext hh.below) bk.out aM.out rfl UA ?one3 Uz Uz UA ?kk3
   case one3 => first | rfl | assumption | exact bT _ | exact oneCells_u8s _
   intro A72 c72 w72 hh;simp only [UU] at hh;refine mL ?_;refine cH hh (i := 0) rfl rfl rfl (hS2.ext hh.below) bk.out aM.out rfl UA ?one4 Uz Uz UA ?kk4
   case one4 => first | rfl | assumption | exact bT _ | exact oneCells_u8s _
   intro A74 c74 w74 hh;simp only [UU] at hh;refine aL (aa (av ?_));refine de ?_;have hd := hmg.done (.inl (Wk Uz));exact SJ
  ·by_cases hm : m = 0
   ·refine ah (sr (mL (aJ ?_)));refine wa ?_;refine cq ?_;refine fO ?_;refine aa (cF (a9 (aE (aE (bC (ai (sr (mL (mL ?_)))))))));refine cH hh (i := 0) rfl rfl rfl (hS.ext hh.below) bk.out aM.out rfl UA ?one5 Uz Uz UA ?kk5
    case one5 => first | rfl | assumption | exact bT _ | exact oneCells_u8s _
    intro A72 c72 w72 hh;simp only [UU] at hh;refine mL ?_;refine cH hh (i := 0) rfl rfl rfl (hS2.ext hh.below) bk.out aM.out rfl UA ?one6 Uz Uz UA ?kk6
    case one6 => first | rfl | assumption | exact bT _ | exact oneCells_u8s _
    intro A74 c74 w74 hh;simp only [UU] at hh;refine aL (aa (av ?_));refine de ?_;have hd := hmg.done (.inr (Wk Uz));exact SJ
   ·obtain ⟨x, X, rfl⟩ : ∃ x X', X = x :: X' := by cases X with
     | nil => exact absurd hX.symm hn
     | cons x X' => exact ⟨x, X', rfl⟩
    obtain ⟨y, Y, rfl⟩ : ∃ y Y', Y = y :: Y' := by cases Y with
     | nil => exact absurd hY.symm hm
     | cons y Y' => exact ⟨y, Y', rfl⟩
    obtain ⟨ad, rfl, hr⟩ := hS.at_ Uz;obtain ⟨ad2, rfl, hr2⟩ := hS2.at_ Uz;have hxx : (x :: X)[0]? = some x := rfl;have hyy : (y :: Y)[0]? = some y := rfl;have hSt := hS.tail Uz hc;have hSt2 := hS2.tail Uz hc2;have hsd := fun w1 => B4 x y w1;unfold Jb at hsd
    cases h1 : jG x.m y.m with
    | true =>
     rw [h1, UF rfl] at hsd;refine ah (sr (mL (aJ ?_)));refine wa ?_;refine cq ?_;refine fO ?_;refine aa (cT (ar (ai (aq (ah ?_)))));refine JG ?_;refine La ?_;refine gC ?_;refine nM (0) ?_;refine su [_,_,_,_] (fun _ hj => (hr.ext hj.hp.below).recAt TR.len hxx) ?_;refine gC ?_;refine nM (0) ?_;refine su [_,_,_,_] (fun _ hj => (hr2.ext hj.hp.below).recAt TR.len hyy) ?_;refine aT ?_;intro f W hJ hV;have hb_3 := hJ.bl;obtain ⟨v31, v30, v29, v28, v27, v26, v25, _⟩ := hV;replace hh := hJ.hp;refine Ko ?_;dsimp only [cg];clear hJ;refine gy (hsd _) al.out rfl rfl UA ?_;rintro e_ w32 ⟨rfl, hb_⟩;refine ⟨_, rfl, ?_⟩;replace hh := hh.ext hb_;refine aI (aa (aq (sr (mI ?_))));refine bh (aB (aa (cT ?_)));refine qo hh mixed fun w_ hj_ => ?_;replace hh := hj_.hp;clear hj_;refine cZ (i := 6) (by repeat (first | exact cA | refine bR ?_ | refine cB ?_ | refine np_scope ?_)) rfl UB UB UB (fun _ => eJ rfl) UA ?_;refine cZ (i := 7) (by repeat (first | exact cA | refine bR ?_ | refine cB ?_ | refine np_scope ?_)) rfl UB UB UB (fun _ => jy (l := 1) bk.out aM.size rfl rfl Uz Uz Uz) UA ?_
     refine cZ (i := 0) (by repeat (first | exact cA | refine bR ?_ | refine cB ?_ | refine np_scope ?_)) rfl UB UB UB (fun _ => eJ rfl) UA ?_;refine cZ (i := 1) (by repeat (first | exact cA | refine bR ?_ | refine cB ?_ | refine np_scope ?_)) rfl UB UB UB (fun _ => eJ rfl) UA ?_;refine cZ (i := 2) (by repeat (first | exact cA | refine bR ?_ | refine cB ?_ | refine np_scope ?_)) rfl UB UB UB (fun _ => ie (k := 0) bk.out aM.size rfl rfl Uz Uz) UA ?_;refine fQ (i := 3) UB rfl ?_;refine KT ?_;refine fF ?_;refine fQ (i := 4) UB rfl ?_;refine Bj ?_;intro b55 w55 hh;refine fF ?_;refine fQ (i := 5) UB rfl ?_;refine qi ?_;intro A56 c56 w56 hh;simp only [UU, Vp] at hh;replace hh := hh.sub (Vs _ _);refine fF ?_;refine kv 8 UA UB UA UB UB ?_;refine aL (aL (aC (bE (bE (ai ?_)))));replace hh := hh.sub (UG _ Ve);refine ⟨⟨_, n - 1, c - 1, X, some ad2, m, c2, y :: Y, O ++ [x], A56, c56, rfl, rfl, ?_, Uz, hc2, hSt, hS2, hmg.left h1, ?_⟩, by show (n - 1) + m < n + m; omega, ?_⟩
     ·show Value.slice _ (O.length + 1) _ = Value.slice _ (O ++ [x]).length _;rw [UM]
      rfl
     ·rw [UM, bU];exact hh
     ·exact dQ
    | false =>
     cases h2 : jG y.m x.m with
     | true =>
      rw [h1, h2, UE UA, UF rfl] at hsd;refine ah (sr (mL (aJ ?_)));refine wa ?_;refine cq ?_;refine fO ?_;refine aa (cT (ar (ai (aq (ah ?_)))));refine JG ?_;refine La ?_;refine gC ?_;refine nM (0) ?_;refine su [_,_,_,_] (fun _ hj => (hr.ext hj.hp.below).recAt TR.len hxx) ?_;refine gC ?_;refine nM (0) ?_;refine su [_,_,_,_] (fun _ hj => (hr2.ext hj.hp.below).recAt TR.len hyy) ?_;refine aT ?_;intro f W hJ hV;have hb_3 := hJ.bl;obtain ⟨v31, v30, v29, v28, v27, v26, v25, _⟩ := hV;replace hh := hJ.hp;refine Ko ?_;dsimp only [cg];clear hJ;refine gy (hsd _) al.out rfl rfl UA ?_;rintro e_ w32 ⟨rfl, hb_⟩;refine ⟨_, rfl, ?_⟩;replace hh := hh.ext hb_;refine aI (aa (aq (sr (mI ?_))));refine bh (aB (aa (cF (sr (mI ?_)))));refine cq (aB (aa (cT ?_)));refine qo hh mixed fun w_ hj_ => ?_;replace hh := hj_.hp;clear hj_;refine cZ (i := 6) (by repeat (first | exact cA | refine bR ?_ | refine cB ?_ | refine np_scope ?_)) rfl UB UB UB (fun _ => eJ rfl) UA ?_;refine cZ (i := 7) (by repeat (first | exact cA | refine bR ?_ | refine cB ?_ | refine np_scope ?_)) rfl UB UB UB (fun _ => jy (l := 1) bk.out aM.size rfl rfl Uz Uz Uz) UA ?_
      refine cZ (i := 0) (by repeat (first | exact cA | refine bR ?_ | refine cB ?_ | refine np_scope ?_)) rfl UB UB UB (fun _ => eJ rfl) UA ?_;refine cZ (i := 1) (by repeat (first | exact cA | refine bR ?_ | refine cB ?_ | refine np_scope ?_)) rfl UB UB UB (fun _ => eJ rfl) UA ?_;refine cZ (i := 2) (by repeat (first | exact cA | refine bR ?_ | refine cB ?_ | refine np_scope ?_)) rfl UB UB UB (fun _ => ie (k := 0) bk.out aM.size rfl rfl Uz Uz) UA ?_;refine fQ (i := 3) UB rfl ?_;refine Iz ?_;refine fF ?_;refine fQ (i := 4) UB rfl ?_;refine Bj ?_;intro b66 w66 hh;refine fF ?_;refine fQ (i := 5) UB rfl ?_;refine qi ?_;intro A67 c67 w67 hh;simp only [UU, Vp] at hh;replace hh := hh.sub (Vs _ _);refine fF ?_;refine kv 8 UA UB UA UB UB ?_;refine aL (aL (aC (bE (bE (ai ?_)))));replace hh := hh.sub (UG _ Ve);refine ⟨⟨some ad, n, c, x :: X, _, m - 1, c2 - 1, Y, O ++ [y], A67, c67, rfl, rfl, ?_, hc, Uz, hS, hSt2, hmg.right h2, ?_⟩, by show n + (m - 1) < n + m; omega, ?_⟩
      ·show Value.slice _ (O.length + 1) _ = Value.slice _ (O ++ [y]).length _;rw [UM]
       rfl
      ·rw [UM, bU];exact hh
      ·exact dQ
     | false =>
      rw [h1, h2, UE UA, UE UA] at hsd;have hsm := fun w1 hT1 => Ge x y k w1 hT1 (hmg.ox x UR) (hmg.oy y UR) hk;refine ah (sr (mL (aJ ?_)));refine wa ?_;refine cq ?_;refine fO ?_;refine aa (cT (ar (ai (aq (ah ?_)))));refine JG ?_;refine La ?_;refine gC ?_;refine nM (0) ?_;refine su [_,_,_,_] (fun _ hj => (hr.ext hj.hp.below).recAt TR.len hxx) ?_;refine gC ?_;refine nM (0) ?_;refine su [_,_,_,_] (fun _ hj => (hr2.ext hj.hp.below).recAt TR.len hyy) ?_;refine aT ?_;intro f W hJ hV;have hb_3 := hJ.bl;obtain ⟨v31, v30, v29, v28, v27, v26, v25, _⟩ := hV;replace hh := hJ.hp;refine Ko ?_;dsimp only [cg];clear hJ;refine gy (hsd _) al.out rfl rfl UA ?_;rintro e_ w32 ⟨rfl, hb_⟩;refine ⟨_, rfl, ?_⟩;replace hh := hh.ext hb_;refine aI (aa (aq (sr (mI ?_))));refine bh (aB (aa (cF (sr (mI ?_)))));refine cq (aB (aa (cF ?_)));refine qo hh mixed fun w_ hj_ => ?_;replace hh := hj_.hp;clear hj_;refine cZ (i := 11) (by repeat (first | exact cA | refine bR ?_ | refine cB ?_ | refine np_scope ?_)) rfl UB UB UB (fun _ => eJ rfl) UA ?_
      refine cZ (i := 12) (by repeat (first | exact cA | refine bR ?_ | refine cB ?_ | refine np_scope ?_)) rfl UB UB UB (fun _ => jy (l := 1) bk.out aM.size rfl rfl Uz Uz Uz) UA ?_;refine cZ (i := 13) (by repeat (first | exact cA | refine bR ?_ | refine cB ?_ | refine np_scope ?_)) rfl UB UB UB (fun _ => eJ rfl) UA ?_;refine cZ (i := 14) (by repeat (first | exact cA | refine bR ?_ | refine cB ?_ | refine np_scope ?_)) rfl UB UB UB (fun _ => jy (l := 1) bk.out aM.size rfl rfl Uz Uz Uz) UA ?_;refine cZ (i := 0) (by repeat (first | exact cA | refine bR ?_ | refine cB ?_ | refine np_scope ?_)) rfl UB UB UB (fun _ => eJ rfl) UA ?_;refine cZ (i := 1) (by repeat (first | exact cA | refine bR ?_ | refine cB ?_ | refine np_scope ?_)) rfl UB UB UB (fun _ => eJ rfl) UA ?_;refine cZ (i := 2) (by repeat (first | exact cA | refine bR ?_ | refine cB ?_ | refine np_scope ?_)) rfl UB UB UB (fun _ => eJ rfl) UA ?_;refine cZ (i := 3) (by repeat (first | exact cA | refine bR ?_ | refine cB ?_ | refine np_scope ?_)) rfl UB UB UB (fun _ => ie (k := 0) bk.out aM.size rfl rfl Uz Uz) UA ?_
      refine cZ (i := 5) (by repeat (first | exact cA | refine bR ?_ | refine cB ?_ | refine np_scope ?_)) rfl UB UB UB (fun _ => eJ rfl) UA ?_;refine cZ (i := 6) (by repeat (first | exact cA | refine bR ?_ | refine cB ?_ | refine np_scope ?_)) rfl UB UB UB (fun _ => ie (k := 0) bk.out aM.size rfl rfl Uz Uz) UA ?_;refine tS (i := 4) (i2 := 7) UB rfl rfl ?_ ?_
      ·refine KT ?_;refine fF ?_;refine fQ (i := 7) UB rfl ?_;refine Iz ?_;exact OW
      ·refine Iz ?_;refine fF ?_;refine fQ (i := 4) UB rfl ?_;refine KT ?_;exact OW
variable {c' : Nat} {fz : Nat × Nat} {t' : TypeId} {w' w0 w1 : World}
section
variable {ro : Mode}
theorem oO {b' : Nat} {t : TypeId} {sz : Nat} {A : Option Addr} {xs : List Value} (h : w.ownsRow b t sz (.slice A n c) n xs) (hb : b' ≤ b) : w.ownsRow b' t sz (.slice A n c) n xs :=
 ⟨h.1, h.2.imp id fun ⟨g, cap, cur, h1, h2, h3⟩ => ⟨g, cap, cur, h1, U1 hb h2, h3⟩⟩
theorem mK {b' : Nat} {x : HE} (h : x.holds b w) (hb : b' ≤ b) : x.holds b' w := by
 cases x with
 | blk b t cs fz => exact ⟨U1 hb h.1, h.2⟩
 | row A n c t sz xs => exact oO h hb
 | ob b o => exact ⟨U1 hb h.1, h.2⟩
theorem Hp.perm {H H' : List HE} (h : Hp w0 H w) (hp : H.Perm H') : Hp w0 H' w :=
 ⟨h.below, fun x hx => h.own x (hp.mem_iff.2 hx), (hp.filterMap _).nodup_iff.1 h.nd⟩
theorem Hp.eM {H : List HE} (h : Hp w0 H w) {i sz : Nat} {A : Option Addr} {t : TypeId} {xs : List Value} (hi : H[i]? = some (.row A n c t sz xs)) : n ≤ c := by
 have h1 : w.ownsRow w0.heap.size t sz (.slice A n c) n xs := h.at_ hi
 rcases h1.2 with ⟨_, h3⟩ | ⟨g, cap, cur, h2, _, _, h5, _⟩
 ·omega
 ·injection h2 with _ _ e3
  omega
theorem Hp.join {H H2 : List HE} (h : Hp w0 H w) (h2 : Hp w H2 w') : Hp w0 (H2 ++ H) w' := by
 have h' := h.ext h2.below;refine ⟨h'.below, fun x hx => ?_, ?_⟩
 ·rcases Vk.1 hx with hx | hx
  ·exact mK (h2.own x hx) h.size
  ·exact h'.own x hx
 ·rw [W7, XI];refine ⟨h2.nd, h.nd, fun a ha b hb hab => ?_⟩;subst hab;obtain ⟨x, hx, hxa⟩ := VF.1 ha;obtain ⟨y, hy, hya⟩ := VF.1 hb;have h3 := dO (h2.own x hx) hxa;have h4 := dO (h.own y hy) hya;omega
section
variable {P : Program} {N : Nat} {ops : Array Oper} {Q : Kq} {ρ : Rf} {w w0 : World} {rest : List Oper} {H : List HE} {ty : TypeId} {pos : String} {af : Array Edge}
theorem Lq {o : Oper} {v : Value} (hg : o.guard = none) (hd : o.dst = none)
  (hr : (execOp (ev ρ) o).run P w = .ok (.value v) w') (k : WL ro P N ops Q rest ρ w') : WL ro P N ops Q (o :: rest) ρ w :=
 ⟨fun hm a hf => wpList_plain hg fun K hK => by
  unfold Oper.wp;rw [hf.eval, hr];show K (a.put o.dst v) w';rw [hd];exact hK _ _ (k.mu hm _ hf),
 fun a hf n => wpListIn_plain hg fun K hK => by
  refine ⟨fun _ _ => trivial, ?_⟩;rw [hf.eval, kZ _ hr (fun _ h => by cases h)];show K (a.put o.dst v) w';rw [hd];exact hK _ _ (k.jM _ hf n)⟩
theorem Ao {l : List α} {i : Nat} {x : α} (h : l[i]? = some x) : l.set i x = l := by
 obtain ⟨h1, rfl⟩ := UW.1 h;exact List.set_getElem_self h1
end
abbrev Hp.sz {w0 w : World} {H : List HE} (_ : Hp w0 H w) : Nat := w.heap.size
theorem Ka {A : Option Addr} {sz : Nat} {t : TypeId} {xs : List Value} {cs : Array Value} (h : HE.holds base W (.row A n c t' sz xs)) (h3 : W.heap[b]? = some (.cells cs t fz)) (hne : t' ≠ t) : (HE.row A n c t' sz xs).id ≠ some b := by
 intro hid
 rcases h.2 with ⟨h1, _⟩ | ⟨g, cap, cur, h1, _, h4, _⟩
 ·injection h1 with e1
  subst e1
  cases hid
 ·injection h1 with e1
  subst e1;obtain rfl : g = b := Vl hid;rw [h3] at h4;injection h4 with h4
  injection h4 with _ h5
  exact hne h5.symm
theorem JJ.rf {H L : List HE} {t : TypeId} (hJ : JJ w0 H w W) (hs : Hp w0 H w) (h2 : w.heap.size ≤ b) (h3 : W.heap[b]? = some (.cells cs.toArray t (0, 0))) (hb : w.heap.size ≤ w1.heap.size) (hL : Hp w1 L W) (hne : ∀ x ∈ L, x.id ≠ some b) : Hp w0 (.blk b t cs (0, 0) :: (L ++ H)) W := by
 have h1 := hs.join (⟨hJ.bl, fun x hx => mK (hL.own x hx) hb, hL.nd⟩ : Hp w L W);refine ⟨h1.below, fun x hx => ?_, ?_⟩
 ·rcases UZ.1 hx with rfl | hx
  ·exact ⟨U1 hs.size h2, h3, .inr (UH _)⟩
  ·exact h1.own x hx
 ·rw [Wm];show (b :: (L ++ H).filterMap HE.id).Nodup;refine WM.2 ⟨fun hm => ?_, h1.nd⟩;obtain ⟨y, hy, hyb⟩ := VF.1 hm
  rcases Vk.1 hy with hy | hy
  ·exact hne y hy hyb
  ·have := (dO (hs.own y hy) hyb).2;omega
theorem Ld {A A' : Option Addr} {sz n' sz' : Nat} {t : TypeId} {xs xs' : List Value} (h : HE.holds base W (.row A n c t sz xs)) (h' : HE.holds base W (.row A' n' c' t' sz' xs')) (hne : t ≠ t') (b : Nat) (h1 : (HE.row A n c t sz xs).id = some b) : (HE.row A' n' c' t' sz' xs').id ≠ some b := by
 rcases h.2 with ⟨h2, _⟩ | ⟨g, cap, cur, h2, _, h4, _⟩
 ·injection h2 with e1
  subst e1
  cases h1
 ·injection h2 with e1
  subst e1;obtain rfl : g = b := Vl h1;exact Ka h' h4 (fun e => hne e.symm)
def F7 (base : Nat) (t : TypeId) (n sz : Nat) (cs : List Value) : VP := fun v W => ∃ A c, v = .slice A n c ∧ W.ownsRow base t sz (.slice A n c) n cs
theorem F7.ext {t : TypeId} {sz : Nat} (v : Value) (w w' : World) (h : F7 base t n sz cs v w) (hb : Below w.heap.size w w') : F7 base t n sz cs v w' := let ⟨A, c, h1, h2⟩ := h; ⟨A, c, h1, uX h2 hb⟩
def TB (base : Nat) (t1 t2 : TypeId) (n1 s1 n2 s2 : Nat) (xs1 xs2 : List Value) : VP := fun v W => ∃ A c B k, v = .agg #[.slice A n1 c, .slice B n2 k] ∧ W.ownsRow base t1 s1 (.slice A n1 c) n1 xs1 ∧ W.ownsRow base t2 s2 (.slice B n2 k) n2 xs2
end
structure RX where
 A : Option Addr
 n : Nat
 c : Nat
 ts : List TR
def kU (k : Nat) (l : List TR) : VP := fun v W => ∃ g : RX, v = .slice g.A g.n g.c ∧ (g.n ≤ g.c ∧ g.ts.length = g.n ∧ MD k l g.ts ∧ Sl W g.A g.n 4 (az TR.cells g.ts))
theorem kU.ext (v : Value) (w w' : World) (h : kU k l v w) (hb : Below w.heap.size w w') : kU k l v w' := let ⟨g, h1, h2, h3, h4, h5⟩ := h; ⟨g, h1, h2, h3, h4, h5.ext hb⟩
theorem MD.J0 {k1 k2 : Nat} {l1 l2 L1 L2 L : List TR} (h1 : MD k1 l1 L1) (h2 : MD k2 l2 L2) (h : MD k (L1 ++ L2) L) (hk : k ≤ j) : MD j (l1 ++ l2) L :=
 ⟨h.sv, fun m => by rw [h.co, e7, h1.co, h2.co, e7], by have a := h.len; have b := h1.len; have c := h2.len; rw [UM] at a ⊢; omega, h.ok.mono hk, fun t ht => by
  obtain ⟨s, hs, e⟩ := h.mem t ht
  rcases Vk.1 hs with hs | hs
  ·obtain ⟨u, hu, e2⟩ := h1.mem s hs;exact ⟨u, WB _ hu, e2.trans e⟩
  ·obtain ⟨u, hu, e2⟩ := h2.mem s hs;exact ⟨u, Wp _ hu, e2.trans e⟩⟩
theorem mE (k : Nat) : ∀ (N : Nat) (A : Option Addr) (n c : Nat) (l : List TR) (w : World), n ≤ N → eb w → Sl w A n 4 (az TR.cells l) → n ≤ c → n ≤ 1000000 → k + n ≤ 3999980 → iu k l →
  Calls Tryz.prog 162 #[.slice A n c, .func (.func 76) #[] #[], .func (.func 77) #[] #[]] w fun r w' => (n < 2 ∧ r = .returned (.slice A n c) ∧ Below w.heap.size w w') ∨ (2 ≤ n ∧ ∃ (L : List TR) (A' : Option Addr) (c' : Nat), MD (k + n) l L ∧ r = .returned (.slice A' L.length c') ∧ Hp w [.row A' L.length c' 96 4 (az TR.cells L)] w')
 | 0, A, n, c, l, w, hN, hT, hS, hc, hn, hk, hok => by
  have hh := Hp.start w;obtain rfl : n = 0 := Uz;refine aj (N := 30) (l := [.slice A 0 c, .func (.func 76) #[] #[], .func (.func 77) #[] #[]]) Tryz.func162 rfl rfl (by simp) ?_;refine sr (aL (aa (ah (sr (mL (aJ ?_))))));refine bh (aa (cT (sr (mL (aL (aa (av (aH ?_))))))));refine de ?_;exact .inl ⟨Uz, rfl, hh.below⟩
 | N + 1, A, n, c, l, w, hN, hT, hS, hc, hn, hk, hok => by
  have hh := Hp.start w;have hl := hS.bq TR.len UA;by_cases h2 : n < 2
  ·refine aj (N := 30) (l := [.slice A n c, .func (.func 76) #[] #[], .func (.func 77) #[] #[]]) Tryz.func162 rfl rfl (by simp) ?_;refine sr (aL (aa (ah (sr (mL (aJ ?_))))));refine bh (aa (cT (sr (mL (aL (aa (av (aH ?_))))))));refine de ?_;exact .inl ⟨h2, rfl, hh.below⟩
  ·obtain ⟨h, hhalf⟩ : ∃ h, h = n / 2 := ⟨_, rfl⟩;have hh1 : 1 ≤ h := Uz;have hh2 : h + h ≤ n := Uz;have hh3 : n ≤ h + h + 1 := Uz;have hq : ((n : Int)) / 2 = (h : Int) := Uz;have hS1 := hS.front (m := h) Uz;rw [show (az TR.cells l).take (h * 4) = az TR.cells (l.take h) from kX TR.len l h] at hS1;have hS2 := hS.back (l := h) Uz hc;rw [show (az TR.cells l).drop (h * 4) = az TR.cells (l.drop h) from jU TR.len l h] at hS2;have o1 : iu k (l.take h) := fun t ht => hok t (WX ht);have o2 : iu k (l.drop h) := fun t ht => hok t (XR ht);have rd : ∀ {A' : Option Addr} {n' c' : Nat} {l' : List TR} {r : Ending} {w1 w' : World}, Sl w1 A' n' 4 (az TR.cells l') → n' ≤ c' → iu k l' → ((n' < 2 ∧ r = .returned (.slice A' n' c') ∧ Below w1.heap.size w1 w') ∨ (2 ≤ n' ∧ ∃ (L : List TR) (B : Option Addr) (b : Nat), MD (k + n') l' L ∧ r = .returned (.slice B L.length b) ∧ Hp w1 [.row B L.length b 96 4 (az TR.cells L)] w')) → ∃ v, r = .returned v ∧ Below w1.heap.size w1 w' ∧ kU (k + n') l' v w' := by
    rintro A' n' c' l' r w1 w' hs hc' ho (⟨h1, rfl, hb⟩ | ⟨h1, L, B, b, hm, rfl, h3⟩)
    ·have e := hs.bq TR.len UA;exact ⟨_, rfl, hb, ⟨A', n', c', l'⟩, rfl, hc', e, (MD.self (xa Uz) ho).mono Uz, hs.ext hb⟩
    ·exact ⟨_, rfl, h3.below, ⟨B, L.length, b, L⟩, rfl, h3.eM (i := 0) rfl, rfl, hm, h3.aA (i := 0) rfl⟩
   have ih1 := fun w1 (hT1 : eb w1) (hb : Below w.heap.size w w1) => mE k N A h c (l.take h) w1 Uz hT1 (hS1.ext hb) Uz Uz Uz o1;have ih2 := fun w1 (hT1 : eb w1) (hb : Below w.heap.size w w1) => mE k N _ (n - h) (c - h) (l.drop h) w1 Uz hT1 (hS2.ext hb) Uz Uz Uz o2;refine aj (N := 30) (l := [.slice A n c, .func (.func 76) #[] #[], .func (.func 77) #[] #[]]) Tryz.func162 rfl rfl (by simp) ?_;refine sr (aL (aa (ah (sr (mL (aJ ?_))))));refine bh (aa (cF (ar (ai (sr (mL (aJ ?_)))))));refine n9 ?_;refine aI (aa (ah ?_));rw [hq];refine aZ 14 [[(0, none)], [(7, none)], [(15, some 0), (16, some 1)], [(1, none)], [(2, none)], [(17, some 2), (18, some 3), (19, some 4)], [(0, none)], [(7, none)], [(21, some 6), (22, some 7)], [(1, none)], [(2, none)], [(23, some 8), (24, some 9), (25, some 10)], [(1, none)], [(2, none)]] [(13, 28), (12, 27), (11, 26), (10, 25), (9, 24), (8, 23), (7, 22), (6, 21), (5, 20), (4, 19), (3, 18), (2, 17), (1, 16), (0, 15)] hh mixed UB ?_;refine gC ?_;refine dP ?_;refine bz (i := 2) (fun ρ1 w1 hj hR => Az (h := h) bk.out aM.size (show ρ1 15 = Value.slice _ _ _ from hR.1) (show ρ1 16 = Value.int _ _ from hR.2.1) Uz Uz) ?_;refine La ?_;refine La ?_
   refine aP (i := 5) (kU (k + h) (l.take h)) (kU.ext) ?_ ?_
   ·intro ρ1 w1 hj hR;exact a7 rfl (aK al.out (aw (show ρ1 17 = Value.slice _ _ _ from hR.1) (aw (show ρ1 18 = Value.func _ _ _ from hR.2.1) (aw (show ρ1 19 = Value.func _ _ _ from hR.2.2.1) aW)))) (ih1 w1 (hT.hp hj.hp) hj.hp.below) (fun _ _ hq => rd (hS1.ext hj.hp.below) Uz o1 hq)
   refine gC ?_;refine dP ?_;refine bz (i := 8) (fun ρ1 w1 hj hR => jy (l := h) bk.out aM.size (show ρ1 21 = Value.slice _ _ _ from hR.1) (show ρ1 22 = Value.int _ _ from hR.2.1) Uz Uz Uz) ?_;refine La ?_;refine La ?_;refine aP (i := 11) (kU (k + (n - h)) (l.drop h)) (kU.ext) ?_ ?_
   ·intro ρ1 w1 hj hR;exact a7 rfl (aK al.out (aw (show ρ1 23 = Value.slice _ _ _ from hR.1) (aw (show ρ1 24 = Value.func _ _ _ from hR.2.1) (aw (show ρ1 25 = Value.func _ _ _ from hR.2.2.1) aW)))) (ih2 w1 (hT.hp hj.hp) hj.hp.below) (fun _ _ hq => rd (hS2.ext hj.hp.below) Uz o2 hq)
   refine La ?_;refine La ?_;refine aT ?_;intro f W hJ hV;have hb_4 := hJ.bl;obtain ⟨v28, v27, v26, v25, v24, v23, v22, v21, v20, v19, v18, v17, v16, v15, _⟩ := hV;obtain ⟨g20, e20, o20⟩ : kU (k + h) (l.take h) (f 5) W := v20;obtain ⟨g26, e26, o26⟩ : kU (k + (n - h)) (l.drop h) (f 11) W := v26;replace hh := hJ.hp;refine aY (br (ae v28 (ae v27 (ae e26 (ae v25 (ae v24 (ae v23 (ae v22 (ae v21 (ae e20 (ae v19 (ae v18 (ae v17 (ae v16 (ae v15 aX))))))))))))))) ?_;dsimp only [cg];clear e20 e26 hJ;obtain ⟨p1, p2, p3, p4⟩ := o20;obtain ⟨q1, q2, q3, q4⟩ := o26;have l1 := p3.len;have l2 := q3.len;rw [U6] at l1;rw [VY] at l2;refine aF (pU g20.A g20.n g20.c g20.ts g26.A g26.n g26.c g26.ts (k + (n - h)) _ (hT.hp hh) p4 q4 p1 q1 Uz Uz Uz p3.sv q3.sv (p3.ok.mono Uz) (q3.ok.mono Uz)) al.out rfl UA ?_;rintro e_ w29 ⟨L, A', c', hm, rfl, h3⟩;refine ⟨_, rfl, ?_⟩;replace hh := hh.join h3;refine aL (aa (av ?_));refine de ?_;refine .inr ⟨Uz, L, A', c', ?_, rfl, hh⟩;have := p3.J0 q3 hm (j := k + n) Uz;rwa [VA] at this
variable {o : Nat}
section
variable {ro : Mode}
section
variable {P : Program} {N : Nat} {ops : Array Oper} {Q : Kq} {ρ : Rf} {w w0 : World} {rest : List Oper} {H : List HE} {ty d : Nat} {pos : String} {af : Array Edge}
theorem yt (hh : Hp w0 H w) {t e : TypeId} {x : Operand} {i p sz g : Nat} {xs : List Value} (hi : H[i]? = some (.row (some ⟨g, 0, none⟩) p c e sz xs)) (hx : ev ρ x = .slice (some ⟨g, o, none⟩) m c') (ho : p * sz ≤ o) (hom : o + m * sz ≤ c * sz) (hm : 0 < m)
  (ht : P.underlying t = some (.slice e)) (hte : dr P e = some (sz, ag, by', zc)) (hzl : zc.length = sz) (h1 : (zc.all Value.oneCell') = true)
  (k : ∀ w', Hp w0 H w' → WL ro P N ops Q rest ρ w') : WL ro P N ops Q (⟨none, .call ⟨.builtin .clear, #[x], #[t]⟩, ty, pos, af, none⟩ :: rest) ρ w := by
 obtain ⟨z, hz, hzc⟩ := dF (w := w) hte;obtain ⟨hlen, h2⟩ := hh.at_ hi
 rcases h2 with ⟨h2, _⟩ | ⟨g', cap, cur, hv, hg, hheap, hmc, hcm, hcur, htake⟩
 ·cases h2
 ·injection hv with hA hn hcap
  injection hA with hA
  injection hA with hA
  subst hA; subst hcap;have hcl : cur.size = cur.toList.length := by simp
  have hzr : (fM m zc).length = m * sz := by rw [mW, hzl]
  have hall : ∀ v ∈ fM m zc, v.oneCell' = true := fun v hv => by
   obtain ⟨j, hj⟩ := V6.1 hv;have hj2 := (UW.1 hj).1;rw [mW] at hj2;rw [xB m zc j hj2] at hj;exact Vb.1 h1 v (UJ hj)
  obtain ⟨w', hr, hb', hgr, hs⟩ := gM (P := P) (b := g) (t := e) (fz := (0, 0)) o (fM m zc) 0 cur.toList w (by simpa using hheap) (.inr (UH _)) (by rw [← hcl, hzr]; omega) hall;have hset := Ao hi;refine Lq rfl rfl (w' := w') (v := .tuple #[]) ?_ (k w' (hset ▸ hh.grown hi hgr (.inl rfl) ⟨hlen, .inr ⟨g, c, (cm cur.toList (o + 0) (fM m zc)).toArray, rfl, hg, by simpa using hb', hmc, hcm, ?_, ?_⟩⟩))
  ·simp only [execOp, resolve, invoke, hx, List.map_toArray, U9, VD];have hzz : Builtin.zeroCells z.cells m = (fM m zc).toArray := by
    rw [Builtin.zeroCells, hzc, Xm]; exact ur m zc
   obtain ⟨q, rfl⟩ : ∃ q, m = q + 1 := ⟨m - 1, Uz⟩;simp [builtin, Builtin.clear_, run_underlying ht, hz, hzz, hr]
  ·simp only [Xm];rw [fI (by rw [← hcl, hzr]; omega), ← hcl, hcur]
  ·simp only [cm];rw [Vt, X5 (by rw [U6, ← hcl]; omega), List.take_take, VM Uz];exact htake
end
end
section
variable {ro : Mode}
section
variable {P : Program} {N : Nat} {ops : Array Oper} {Q : Kq} {ρ : Rf} {w w0 : World} {rest : List Oper} {d : Nat} {ty : TypeId} {pos : String} {af : Array Edge}
theorem sU {t e u : TypeId} {x y : Operand} {A : Option Addr} {n' : Nat} (ht : P.underlying t = some (.slice e)) (hx : ev ρ x = .slice A n c) (hy : ev ρ y = .slice none n' c') (hN : d < N)
  (kk : WL ro P N ops Q rest (cI ρ d (.bool A.isNone)) w) : WL ro P N ops Q (⟨some d, .binOp .eql t x y u, ty, pos, af, none⟩ :: rest) ρ w :=
 aQ rfl rfl hN (by
  have h1 := Go.Lib.run_eql_slice_nil (P := P) w t e A n c n' c' ht;simp only [execOp, hx, hy];simp [eqGuard, h1]) kk
end
end
variable {Hr : List HE}
theorem u7 (A : Option Addr) (n c : Nat) (l : List TR) (g : FuncId) (cap : List Value) (p : TR → Bool) (w : World) (hS : Sl w A n 4 (az TR.cells l)) (hn : n ≤ 1000000) [al Tryz.prog g]
  (hg : ∀ (z : TR) (w1 : World), z ∈ l → Below w.heap.size w w1 → Calls Tryz.prog g (.agg #[.string z.m, .bool z.c.neg, .string z.c.bA, .int .i64 z.c.e] :: cap).toArray w1 fun r w' => r = .returned (.bool (p z)) ∧ Below w1.heap.size w1 w') :
  Calls Tryz.prog 205 #[.slice A n c, .func (.func g) #[] cap.toArray] w fun r w' => ∃ v, r = .returned (.int .i64 v) ∧ ((l.any p = false ∧ v = -1) ∨ ∃ (i : Nat) (z : TR), i < n ∧ v = i ∧ (l.take i).any p = false ∧ l[i]? = some z ∧ p z = true) ∧ Below w.heap.size w w' := by
 have hh := Hp.start w;have hln := hS.bq TR.len UA;refine aj (N := 19) (l := [.slice A n c, .func (.func g) #[] cap.toArray]) Tryz.func205 rfl rfl (by simp) ?_;refine zX ?_;refine aR [4, 5, 8, 9, 10, 11, 12, 13, 14, 15, 16, 17, 18] 8
  (fun v w' => ∃ i : Nat, i ≤ n ∧ v = .int .i64 i ∧ (l.take i).any p = false ∧ Hp w [] w')
  (fun v _ => n - (intOf v).toNat) ?_ ?_
 ·exact ⟨0, UI _, rfl, rfl, hh⟩
 ·clear hh;rintro ρ' v w' ⟨i, hi, rfl, hall, hh⟩;by_cases hlt : i < n
  ·obtain ⟨z, hz⟩ := ak (l := l) (k := i) Uz;obtain ⟨ad, rfl, hr⟩ := hS.at_ Uz;have hc := fun w1 => hg z w1 (UJ hz)
   cases gz : p z with
   | true =>
    rw [gz] at hc;refine sr ?_;refine si ?_;refine iL ?_;refine mL (mI ?_);refine ct ?_;refine cw (vs := [_, _, _, _]) aM.out rfl ((hr.ext hh.below).recAt TR.len hz) rfl UA ?_;refine gy (hc _ hh.below) al.out rfl rfl UA ?_;rintro e_ w16 ⟨rfl, hb_⟩;refine ⟨_, rfl, ?_⟩;replace hh := hh.ext hb_;refine aa (cT (sr (mI (aI (aa (av (cf (aH (aH (cf (aH ?_)))))))))));refine de ?_;exact ⟨_, rfl, .inr ⟨i, z, hlt, rfl, hall, hz, gz⟩, hh.below⟩
   | false =>
    rw [gz] at hc;refine sr ?_;refine si ?_;refine iL ?_;refine mL (mI ?_);refine ct ?_;refine cw (vs := [_, _, _, _]) aM.out rfl ((hr.ext hh.below).recAt TR.len hz) rfl UA ?_;exact FH
  ·rw [UQ Uz] at hall;refine sr ?_;refine E7 ?_;refine de ?_;exact ⟨_, rfl, .inl ⟨hall, rfl⟩, hh.below⟩
theorem CW (A : Option Addr) (n c : Nat) (l : List TR) (g : FuncId) (cap : List Value) (p : TR → Bool) (w : World) (hS : Sl w A n 4 (az TR.cells l)) (hn : n ≤ 1000000) [al Tryz.prog g]
  (hg : ∀ (z : TR) (w1 : World), z ∈ l → Below w.heap.size w w1 → Calls Tryz.prog g (.agg #[.string z.m, .bool z.c.neg, .string z.c.bA, .int .i64 z.c.e] :: cap).toArray w1 fun r w' => r = .returned (.bool (p z)) ∧ Below w1.heap.size w1 w') :
  Calls Tryz.prog 157 #[.slice A n c, .func (.func g) #[] cap.toArray] w fun r w' => r = .returned (.bool (l.any p)) ∧ Below w.heap.size w w' := by
 have hh := Hp.start w;refine aj (N := 9) (l := [.slice A n c, .func (.func g) #[] cap.toArray]) Tryz.func157 rfl rfl (by simp) ?_;refine sr (aB (aa (sr (mL ?_))));refine iL ?_;refine aF (u7 A n c l g cap p _ (hS.ext hh.below) hn hg) al.out rfl UA ?_;rintro e_ w7 ⟨v_, rfl, hv_, hb_⟩;refine ⟨_, rfl, ?_⟩;replace hh := hh.ext hb_
 rcases hv_ with ⟨ha, rfl⟩ | ⟨i, z, hi, rfl, ht, hz, hp⟩
 ·rw [ha];exact Ep
 ·rw [show l.any p = true from Wi.2 ⟨z, UJ hz, hp⟩];exact Ep
theorem lO (A : Option Addr) (n c : Nat) (l : List TR) (w : World) (hS : Sl w A n 4 (az TR.cells l)) (hn : n ≤ 1000000) :
  Calls Tryz.prog 79 #[.slice A n c] w fun r w' => ∃ A' c', r = .returned (.slice A' n c') ∧ w'.ownsRow w.heap.size 96 4 (.slice A' n c') n (az TR.cells l) ∧ Below w.heap.size w w' := by
 have hh := Hp.start w;have oX := ck TR.one l
 rcases A with _ | ad
 ·have hn0 : n = 0 := by
   exact QE
  subst hn0;have hl : l = [] := Wk (by have := hS.bq TR.len UA; omega);subst hl;refine aj (N := 8) (l := [.slice none 0 c]) Tryz.func79 rfl rfl (by simp) ?_;exact QV
 ·refine aj (N := 8) (l := [.slice (some ad) n c]) Tryz.func79 rfl rfl (by simp) ?_;refine sr (aL (aa (ah (sr (mL ?_)))));refine sU bk.out rfl rfl UA ?_;refine vh ?_;refine ki hh bk.out aM.out UA ?_;intro b5 w5 hh;refine mL ?_;refine cH hh (i := 0) rfl rfl rfl (hS.ext hh.below) bk.out aM.out rfl UA ?one7 Uz Uz UA ?kk7
  case one7 => first | rfl | assumption | exact bT _ | exact oneCells_u8s _
  exact PS
theorem BS {l : List α} {i : Nat} (h : i < j) (x : α) : (l.set i x).drop j = l.drop j := by
 refine VU fun k => ?_;rw [Wt, Wt, Wd, UE Uz]
theorem vz {l : List α} {i : Nat} (h : i < l.length) (x : α) : (l.set i x).take (i + 1) = l.take i ++ [x] := by
 rw [ay (show (l.set i x)[i]? = some x by rw [Wd, UF rfl, UF h]), List.take_set_of_le (UH _)]
theorem C8 (A : Option Addr) (n c : Nat) (l : List TR) (g : FuncId) (p : TR → Bool) (w : World) (hh : Hp w0 (.row A n c 96 4 (az TR.cells l) :: Hr) w) (hl : l.length = n) (hn : n ≤ 1000000) [al Tryz.prog g]
  (hg : ∀ (z : TR) (w1 : World), z ∈ l → Calls Tryz.prog g (.agg #[.string z.m, .bool z.c.neg, .string z.c.bA, .int .i64 z.c.e] :: []).toArray w1 fun r w' => r = .returned (.bool (p z)) ∧ Below w1.heap.size w1 w') :
  Calls Tryz.prog 161 #[.slice A n c, .func (.func g) #[] #[]] w fun r w' => r = .returned (.slice A (l.filter fun z => !p z).length c) ∧ Hp w0 (.row A (l.filter fun z => !p z).length c 96 4 (az TR.cells (l.filter fun z => !p z)) :: Hr) w' := by
 have hc := hh.eM (i := 0) rfl;have hsl := hh.aA (i := 0) rfl;refine aj (N := 42) (l := [.slice A n c, .func (.func g) #[] #[]]) Tryz.func161 rfl rfl (by simp) ?_;refine sr (aL (aa (sr (mL ?_))));refine iL ?_;refine aF (u7 A n c l g [] p _ hsl hn (fun z w1 hz _ => hg z w1 hz)) al.out rfl UA ?_;rintro e_ w10 ⟨v_, rfl, hv_, hb_⟩;refine ⟨_, rfl, ?_⟩;replace hh := hh.ext hb_
 rcases hv_ with ⟨ha, rfl⟩ | ⟨i0, z0, hi0, rfl, ht0, hz0, hp0⟩
 ·have hf : (l.filter fun z => !p z) = l := List.filter_eq_self.2 fun z hz => by
   have := Wb.1 ha z hz;simpa using this
  rw [hf, hl];refine aI (aa (ah (sr (mI ?_))));refine cW (aa (cT (sr (mL (aL (aa (av (aH ?_))))))));refine de ?_;exact ⟨rfl, hh⟩
 ·have hf0 : ((l.take (i0 + 1)).filter fun z => !p z) = l.take i0 := by
   rw [ay hz0, XF, X7 (by rw [hp0]; decide), List.filter_nil, Vo];exact List.filter_eq_self.2 fun z hz => by
    have := Wb.1 ht0 z hz;simpa using this
  obtain ⟨g0, rfl⟩ := hh.cN (i := 0) rfl Uz;refine aI (aa (ah (sr (mI ?_))));refine cW (aa (cF (ar (ai (ah (sr (mI ?_)))))));refine bo (aI (aa (aq ?_)));refine bK [5, 6, 7, 16, 17, 18, 19, 20, 21, 22, 23, 24, 25, 26, 27, 28, 29, 30, 31, 32, 33, 34, 35] 5 6
   (fun v5 v6 w' => ∃ (i j : Nat) (X : List TR), i < j ∧ j ≤ n ∧ v5 = .int .i64 i ∧ v6 = .int .i64 j ∧ X.length = n ∧ i = ((l.take j).filter fun z => !p z).length ∧ X.take i = ((l.take j).filter fun z => !p z) ∧ X.drop j = l.drop j ∧ Hp w0 (.row (some ⟨g0, 0, none⟩) n c 96 4 (az TR.cells X) :: Hr) w')
   (fun _ v _ => n - (intOf v).toNat) ?_ ?_
  ·exact ⟨i0, i0 + 1, l, Uz, Uz, rfl, rfl, hl, by rw [hf0, U6]; omega, hf0.symm, rfl, hh⟩
  ·clear hh;rintro ρ' v5 v6 w' ⟨i, j, X, hij, hj, rfl, rfl, hX, hi, htk, hdr, hh⟩;by_cases hlt : j < n
   ·obtain ⟨z, hz⟩ := ak (l := l) (k := j) Uz;have hXj : X[j]? = some z := by
     have h1 : (X.drop j)[0]? = (l.drop j)[0]? := by rw [hdr]
     rw [Wt, Wt, We] at h1;rw [h1, hz]
    have hgz := fun w1 => hg z w1 (UJ hz);have hdr2 : X.drop (j + 1) = l.drop (j + 1) := by rw [← List.drop_drop, ← List.drop_drop, hdr]
    have hrl := eT TR.len X;refine ah (sr (mI (mL (aJ ?_))));refine rR ?_;refine k7 ?_;refine cw (vs := [_, _, _, _]) aM.out rfl (hh.iF (f := TR.cells) (x := z) (l := X) (i := 0) rfl TR.len UA hXj) rfl UA ?_;refine bW hh ?_;intro b7 w7 hh;refine bX hh 0 [_,_,_,_] ?_;intro ws hh;replace hh : Hp _ (.blk _ _ [_, _, _, _] _ :: _) _ := hh;refine aa (sr ?_);refine iL ?_;refine cE hh 0 [_,_,_,_] ?_
    cases hpz : p z with
    | true =>
     rw [hpz] at hgz;have hfl : ((l.take (j + 1)).filter fun z => !p z) = ((l.take j).filter fun z => !p z) := by rw [ay hz, XF, X7 (by rw [hpz]; decide), List.filter_nil, Vo]
     refine gy (hgz _) al.out rfl rfl UA ?_;rintro e_ w28 ⟨rfl, hb_⟩;refine ⟨_, rfl, ?_⟩;replace hh := hh.ext hb_;refine fy ?_;refine uk ?_;refine bo (aI (aC (ai ?_)));replace hh := hh.sub (UL _ (UG _ (VX _)));refine ⟨⟨i, j + 1, X, Uz, Uz, rfl, rfl, hX, by rw [hfl]; exact hi, by rw [hfl]; exact htk, hdr2, hh⟩, by show n - (j + 1) < n - j; omega, ?_⟩;exact dQ
    | false =>
     rw [hpz] at hgz;have hfl : ((l.take (j + 1)).filter fun z => !p z) = ((l.take j).filter fun z => !p z) ++ [z] := by rw [ay hz, XF, List.filter_cons_of_pos (by rw [hpz]; decide), List.filter_nil]
     refine gy (hgz _) al.out rfl rfl UA ?_;rintro e_ w28 ⟨rfl, hb_⟩;refine ⟨_, rfl, ?_⟩;replace hh := hh.ext hb_;refine fy ?_;refine aa (cT (sr (mL (mI ?_))));refine cE hh 0 [_,_,_,_] ?_;refine gD ?_;refine bQ hh (i := 1) (vs := [_, _, _, _]) rfl rfl (gU rfl) rfl aM.out rfl Uz rfl ?_;intro ws hh;simp only [UU, Vp] at hh;rw [show cm (az TR.cells X) (i * 4) [.string z.m, .bool z.c.neg, .string z.c.bA, .int .i64 z.c.e] = az TR.cells (X.set i z) from ju TR.len Uz] at hh;refine aa (ao (mI ?_));refine bo (aI (aC (bE (ai (ao (mI ?_))))));refine bo (aI (aC (ai ?_)));replace hh := hh.sub (UL _ (UG _ (VX _)));refine ⟨⟨i + 1, j + 1, X.set i z, Uz, Uz, rfl, rfl, by rw [WU]; exact hX, by rw [hfl, UM, ← hi]; rfl, by rw [hfl, vz Uz, htk], by rw [BS Uz]; exact hdr2, hh⟩, by show n - (j + 1) < n - j; omega, ?_⟩;exact dQ
   ·obtain rfl : j = n := Uz;rw [show l.take j = l from UQ Uz] at hi htk;have hcap := hh.eM (i := 0) rfl;have hp31 : (if c = i then some (⟨g0, 0, none⟩ : Addr) else (some (⟨g0, 0, none⟩ : Addr)).map (·.add (i * 4))) = some ⟨g0, i * 4, none⟩ := by
     rw [UE Uz];show some ((⟨g0, 0, none⟩ : Addr).add (i * 4)) = _;rw [fD, U5]
    have htt : (az TR.cells X).take (i * 4) = az TR.cells (l.filter fun z => !p z) := by rw [kX TR.len, htk]
    refine ah (sr (mI (mL (aJ ?_))));refine bh (aa (cF (a9 (aE (aE (bC (ai (sr (mL (mI ?_))))))))));refine aQ rfl rfl UA (jf (l := i) (h := j) bk.out aM.size rfl ⟨_, _, rfl, rfl⟩ rfl Uz Uz) ?_;rw [hp31];replace hh := hh.CO (k := i) Uz;rw [htt] at hh;refine yt hh (i := 0) (o := i * 4) (m := j - i) rfl rfl Uz Uz Uz bk.out aM.out rfl rfl ?_;intro w38 hh;refine aa (sr (mL (mI ?_)));refine pK (h := i) bk.out aM.size rfl rfl Uz Uz UA ?_;refine aL (aa (av ?_));refine de ?_;rw [← hi];exact ⟨rfl, hh⟩
variable {E : Int} {ts : List TR}
structure PX where
 v : Int
 A : Option Addr
 n : Nat
 c : Nat
 ts : List TR
def PX.row (g : PX) : HE := .row g.A g.n g.c 96 4 (az TR.cells g.ts)
def PX.at_ (g : PX) (w : World) : Prop := Sl w g.A g.n 4 (az TR.cells g.ts)
theorem PX.at_.ext {g : PX} (h : g.at_ w) (hb : Below w.heap.size w w') : g.at_ w' := Sl.ext h hb
theorem PX.at_.ln {g : PX} (h : g.at_ w) : g.ts.length = g.n := Sl.bq h TR.len UA
structure fg (E v : Int) (ts : List TR) (g : PX) : Prop where
 v : g.v = if E = 0 then v else 0
 ts : g.ts = if E = 0 then ts else []
def PX.nil : PX := ⟨0, none, 0, 0, []⟩
theorem fg.err {v : Int} (h : E ≠ 0) : fg E v ts PX.nil := ⟨by rw [UE h]; rfl, by rw [UE h]; rfl⟩
theorem Hp.Ca {H : List HE} (h : Hp w0 H w) : Hp w0 (PX.nil.row :: H) w := h.cY 96 4
theorem vQ (A : Option Addr) (n c : Nat) (l : List TR) (k : Nat) (w : World) (hT : eb w) (hh : Hp w0 (.row A n c 96 4 (az TR.cells l) :: Hr) w) (hl : l.length = n) (hn : n ≤ 1000000) (hk : k + n ≤ 3999980) (ho : iu k l) :
  Calls Tryz.prog 162 #[.slice A n c, .func (.func 76) #[] #[], .func (.func 77) #[] #[]] w fun r w' => ∃ (L : List TR) (A' : Option Addr) (c' : Nat), MD (k + n) l L ∧ r = .returned (.slice A' L.length c') ∧ Hp w0 (.row A' L.length c' 96 4 (az TR.cells L) :: Hr) w' := by
 refine (mE k n A n c l w (UH _) hT (hh.aA (i := 0) rfl) (hh.eM (i := 0) rfl) hn hk ho).mono fun r w' h => ?_
 rcases h with ⟨h1, rfl, hb⟩ | ⟨h1, L, A', c', hm, rfl, h3⟩
 ·exact ⟨l, A, c, (MD.self (xa Uz) ho).mono Uz, by rw [hl], by rw [hl]; exact hh.ext hb⟩
 ·refine ⟨L, A', c', hm, rfl, ?_⟩;exact (hh.join h3).sub (UG _ (UL _ (VX _)))
def SN (t : TR) : Bool := decide (t.c.d = 0)
theorem Dl (l : List TR) : (l.filter fun z => !SN z) = l.filter yY := rfl
theorem yq (z : TR) (w : World) : Calls Tryz.prog 163 #[.agg #[.string z.m, .bool z.c.neg, .string z.c.bA, .int .i64 z.c.e]] w fun r w' => r = .returned (.bool (SN z)) ∧ Below w.heap.size w w' := by
 have hh := Hp.start w;refine aj (N := 7) (l := [.agg #[.string z.m, .bool z.c.neg, .string z.c.bA, .int .i64 z.c.e]]) Tryz.func163 rfl rfl (by simp) ?_;refine sr ?_;refine cz hh [_,_,_,_] ?_;intro b1 w1 hh;refine aB (aa (sr (bH ?_)));refine cE hh 0 [_,_,_] ?_;refine bD hh (hU z.c _) rfl ?_;intro w5 hh;have hz : z.c.i.sign = 0 ↔ z.c.d = 0 := by
  rw [Int.sign_eq_zero_iff_zero];exact ⟨fun h => by unfold NR.d; rw [h]; rfl, rK⟩
 unfold SN;by_cases h0 : z.c.d = 0
 ·have hs := hz.2 h0;rw [U0 h0];refine cW (aB (aa (av ?_)));refine de ?_;exact ⟨rfl, hh.below⟩
 ·have hs : ¬ z.c.i.sign = 0 := fun h => h0 (hz.1 h);rw [Vf h0];refine cW (aB (aa (av ?_)));refine de ?_;exact ⟨rfl, hh.below⟩
def gh (l : List TR) : Int := if 4096 < (aD l).length then 3 else 0
theorem Bq {xs ys : List Value} {v : Value} (h : xs[o]? = some v) : cm xs o (v :: ys) = cm xs (o + 1) ys := by
 unfold cm;rw [ay h, U7, show o + (ys.length + 1) = o + 1 + ys.length by omega];simp
def Tt (t : TR) : TR := ⟨t.m, nR t.c.d⟩
theorem wJ {X : List TR} {i : Nat} {z : TR} (h : X[i]? = some z) (y : NR) : cm (az TR.cells X) (i * 4 + 1) [.bool y.neg, .string y.bA, .int .i64 y.e] = az TR.cells (X.set i ⟨z.m, y⟩) := by
 have h0 : (az TR.cells X)[i * 4]? = some (.string z.m) := by
  have h1 := tF TR.len h;have h2 : (((az TR.cells X).drop (i * 4)).take 4)[0]? = some (.string z.m) := by rw [h1]; rfl
  rwa [List.getElem?_take_of_lt UA, Wt, We] at h2
 rw [← Bq h0];exact ju TR.len (y := ⟨z.m, y⟩) (UW.1 h).1
theorem kE (v : Int) (A : Option Addr) (n c : Nat) (l : List TR) (k : Nat) (w : World) (hT : eb w0) (hh : Hp w0 (.row A n c 96 4 (az TR.cells l) :: Hr) w) (hl : l.length = n) (hn : n ≤ 1000000) (hk : k + n ≤ 3999980) (ho : iu k l) :
  Calls Tryz.prog 78 #[.int .i64 v, .slice A n c] w fun r w' => ∃ g : PX, fg (gh l) v (aD l) g ∧ r = .returned (.tuple #[.agg #[.int .i64 g.v, .slice g.A g.n g.c], .int .i64 (gh l)]) ∧ Hp w0 (g.row :: Hr) w' := by
 refine aj (N := 33) (l := [.int .i64 v, .slice A n c]) Tryz.func78 rfl rfl (by simp) ?_;refine sr ?_;refine bW hh ?_;intro b4 w4 hh;refine aI (aa (sr (mL ?_)));replace hh := hh.perm (VH (l₁ := [_]));simp only [UP, UN] at hh;refine aF (vQ A n c l k _ (hT.hp hh) hh hl hn hk ho) al.out rfl UA ?_;rintro e_ w8 ⟨L, A1, c1, hmd, rfl, hh⟩;refine ⟨_, rfl, ?_⟩;have hlen := hmd.len;refine aF (C8 A1 L.length c1 L _ SN _ hh rfl Uz (fun z w1 _ => yq z w1)) al.out rfl UA ?_;rintro e_ w9 ⟨rfl, hh⟩;refine ⟨_, rfl, ?_⟩;rw [Dl] at hh ⊢;have hML : (L.filter yY).length ≤ L.length := List.length_filter_le _ _;have hgl : (aD l).length = (L.filter yY).length := by rw [← hmd.aD, US]
 have hgm := hmd.aD;have hok : iu (k + n) (L.filter yY) := fun t ht => hmd.ok t (V7.1 ht).1;generalize hM : L.filter yY = M at *;by_cases h4 : 4096 < M.length
 ·rw [show gh l = 3 by unfold gh; rw [UF Uz]];refine aL (aa (ah (sr (mL (aJ ?_)))));refine cq (aa (cT (sr ?_)));refine gH [_,_] ?_;refine bX hh 1 [_,_] ?_;intro ws hh;replace hh : Hp _ (_ :: .blk _ _ [_, _] _ :: _) _ := hh;refine aI (aa (av (aH ?_)));replace hh := hh.sub (UL _ (UG _ (VX _)));refine zI ?_;exact ⟨PX.nil, fg.err UA, rfl, (hh.sub (Vs _ _)).Ca⟩
 ·rw [show gh l = 0 by unfold gh; rw [UE Uz]];refine aL (aa (ah (sr (mL (aJ ?_)))));refine cq (aa (cF (ar (ai (ah (sr (mL (aJ (mI (aa (aq ?_)))))))))));refine aR [6, 16, 17, 18, 19, 20, 21, 22, 23, 24, 25, 26, 27, 28, 29] 16
   (fun v w' => ∃ (i : Nat) (X : List TR), i ≤ M.length ∧ v = .int .i64 i ∧ X.length = M.length ∧ X = (M.take i).map Tt ++ M.drop i ∧ Hp w0 (.row A1 M.length c1 96 4 (az TR.cells X) :: .blk b4 24 [.int .i64 0, .slice none 0 0] (0, 0) :: Hr) w')
   (fun v _ => M.length - (intOf v).toNat) ?_ ?_
  ·exact ⟨0, M, UI _, rfl, rfl, rfl, hh⟩
  ·clear hh;rintro ρ' v w' ⟨i, X, hi, rfl, hX, hXe, hh⟩;by_cases hlt : i < M.length
   ·obtain ⟨z, hz⟩ := ak (l := M) (k := i) Uz;have hXz : X[i]? = some z := by
     rw [hXe, VW (by rw [US, U6]; omega), US, U6, VM Uz, Vw, Wt];exact hz
    have hzo := hok z (UJ hz);have hXn : X.set i ⟨z.m, nR z.c.d⟩ = (M.take (i + 1)).map Tt ++ M.drop (i + 1) := by
     rw [ay hz, VC, hXe, WW _ _ (by rw [US, U6]; omega), US, U6, VM Uz, Vw, Vt];congr 1;obtain ⟨h1, h2⟩ := UW.1 hz;rw [V0 h1, h2]
     rfl
    have hrl := eT TR.len X;obtain ⟨g0, rfl⟩ := hh.cN (i := 0) rfl Uz;refine sr ?_;refine bh (aa (ah (cT (ar (ai (ah (aq (sr (mI (aI (aa (ao (mL (mI (mL (mI ?_))))))))))))))));refine gD ?_;refine bH ?_;refine cw (vs := [_, _, _]) aM.out rfl ((hh.iF (f := TR.cells) (x := z) (l := X) (i := 0) rfl TR.len UA hXz).drop 1) rfl UA ?_;refine bD hh (eC z.c _ (hT.hp hh) (by have := hzo.1.1; omega) (by have := hzo.1.2.1; omega) (by have := hzo.1.2.2; omega)) rfl ?_;intro w26 hh;refine gD ?_;refine bH ?_;refine bQ hh (i := 0) (vs := [_, _, _]) rfl rfl (gU rfl) rfl aM.out rfl Uz rfl ?_;intro ws hh;simp only [UU] at hh;rw [wJ hXz, hXn] at hh;refine fV ?_;refine bo (mI (aC (ai ?_)));refine ⟨⟨i + 1, _, Uz, rfl, ?_, rfl, hh⟩, by show M.length - (i + 1) < M.length - i; omega, ?_⟩
    ·rw [← hXn, WU, hX]
    ·exact dQ
   ·obtain rfl : i = M.length := Uz;rw [UQ (UH _), Wu (UH _), Vo] at hXe;have hXg : X = aD l := by rw [hXe]; exact hgm
    rw [hXg] at hh;refine sr ?_;refine bh (aa (ah (cF (a9 (aE (aE (bC (ai (sr (mI (mL ?_)))))))))));refine gH [_,_] ?_;refine bX hh 1 [_,_] ?_;intro ws hh;replace hh : Hp _ (_ :: .blk _ _ [_, _] _ :: _) _ := hh;refine aI (aa (av ?_));refine DN ?_;exact ⟨⟨v, A1, M.length, c1, aD l⟩, ⟨rfl, rfl⟩, rfl, hh.sub (UG _ (UL _ (VX _)))⟩
theorem lF (s : ByteArray) (n : Int) (w : World) (hs : s.size ≤ 9223372036854775807) :
  Calls Tryz.prog 159 #[.string s, .int .i64 n] w fun e w' => e = .returned (.bool (ek s.data.toList && decide ((s.size : Int) = n))) ∧ Below w.heap.size w w' := by
 refine aj (N := 20) (l := [.string s, .int .i64 n]) Tryz.func159 rfl rfl (by simp) ?_;refine sr (aB (aa (ah (sr (mS ?_)))));refine bJ bk.out rfl UA ?_;refine mI (aa (aq ?_));refine aR [4, 5, 8, 9, 10, 11, 12, 13, 14, 15] 8
  (fun v w' => ∃ k : Nat, k ≤ s.size ∧ v = .int .i64 k ∧ ek (s.data.toList.take k) = true ∧ w' = w)
  (fun v _ => s.size - (intOf v).toNat) ?_ ?_
 ·exact ⟨0, UI _, rfl, rfl, rfl⟩
 ·rintro ρ' v w' ⟨k, hk, rfl, hm, rfl⟩;by_cases hlt : k < s.size
  ·obtain ⟨c, hc⟩ := ak (l := s.data.toList) (k := k) (by rw [← di]; exact hlt);have hb := c.toNat_lt;by_cases h8 : c.toNat < 128
   ·refine sr ?_;refine bh (aa (ah (cT (ar (ai (ah (aq (sr (mI (aI (aa (sr (mS (mI ?_))))))))))))));refine ke ?_;refine cq (aa (cF (ar (bE (ai (ao ?_))))));refine bo (mI (aC (ai ?_)));refine ⟨⟨k + 1, Uz, rfl, by rw [ay hc, G7, hm]; simpa using h8, rfl⟩, by show s.size - (k + 1) < s.size - k; omega, ?_⟩;exact dQ
   ·refine sr ?_;refine bh (aa (ah (cT (ar (ai (ah (aq (sr (mI (aI (aa (sr (mS (mI ?_))))))))))))));refine ke ?_;refine cq (aa (cT (sr (aB (aa (av (cf (aH (aH (cf (aH ?_)))))))))));refine de ?_;rw [JP hc h8];exact ⟨rfl, Below.refl _ _⟩
  ·refine sr ?_;refine bh (aa (ah (cF (a9 (aE (aE (bC (ai (sr (mS ?_))))))))));refine bJ bk.out rfl UA ?_;refine mI ?_;refine Ej rfl rfl UA ?_;refine aB (aa (av ?_));refine de ?_;rw [UQ (by rw [← di]; omega)] at hm;rw [hm];exact ⟨rfl, Below.refl _ _⟩
theorem m0 (s : ByteArray) (w : World) (hs : s.size ≤ 9223372036854775807) :
  Calls Tryz.prog 159 #[.string s, .int .i64 s.size] w fun e w' => e = .returned (.bool (ek s.data.toList)) ∧ Below w.heap.size w w' := by
 have h := lF s s.size w hs;simpa using h
theorem AZ (A : Option Addr) (n c : Nat) (xs : List Int) (w : World) (hsl : Sl w A n 1 (bL xs)) (hn : n ≤ 100000) :
  Calls Tryz.prog 187 #[.slice A n c] w fun e w' => e = .returned (.tuple #[.string (str (Ig xs)), .int .i64 (LC xs)]) ∧ Below w.heap.size w w' := by
 have hlen : xs.length = n := by have := hsl.1; rw [bO] at this; omega
 have hh := Hp.start w;refine aj (N := 27) (l := [.slice A n c]) Tryz.func187 rfl rfl (by simp) ?_;refine sr (aS (aI (aa (sr (aL (aa (ah (sr (mL (aJ (mI (aa (aq ?_)))))))))))));refine bK [2, 3, 4, 6, 9, 10, 11, 12, 13, 14, 15, 16, 17, 18, 19, 20, 21, 22, 23, 24] 4 9
  (fun b i w' => ∃ (k c' : Nat) (A' : Option Addr), k ≤ n ∧ i = .int .i64 k ∧ b = .slice A' k c' ∧ (xs.take k).all cC = true ∧ Hp w [.row A' k c' 5 1 (jQ ((xs.take k).map xK))] w')
  (fun _ v _ => n - (intOf v).toNat) ?_ ?_
 ·exact ⟨0, 0, none, UI _, rfl, rfl, rfl, hh.cY _ _⟩
 ·clear hh;rintro ρ' b i w' ⟨k, c', A', hk, rfl, rfl, hall, hh⟩;by_cases hlt : k < n
  ·obtain ⟨x, hx⟩ := ak (l := xs) (k := k) Uz;obtain ⟨ad, rfl, hr⟩ := (hsl.ext hh.below).at_ Uz;by_cases h0 : x < 0
   ·refine sr ?_;refine dH ?_;refine um ?_;refine bV aM.out rfl (fC hr (cu hx) rfl) UA ?_;refine aI (aa (ah (sr (mI ?_))));refine bh (mB ?_);refine gS (gS ?_);refine fO ?_;exact RE
   ·by_cases h1 : 127 < x
    ·refine sr ?_;refine dH ?_;refine um ?_;refine bV aM.out rfl (fC hr (cu hx) rfl) UA ?_;refine aI (aa (ah (sr (mI ?_))));refine bh (mB (gT (mI (gT ?_))));refine cq ?_;refine eV ?_;exact RE
    ·have hok : cC x = true := by simp [cC]; omega
     refine sr ?_;refine dH ?_;refine um ?_;refine bV aM.out rfl (fC hr (cu hx) rfl) UA ?_;refine aI (aa (ah (sr (mI ?_))));refine bh (mB (gT (mI (gT ?_))));refine cq ?_;refine eV ?_;refine aa (cF (ar (ai (ao (mL (mI ?_))))));refine ug bk.out bk.out rfl UA ?_;refine xx ?_;intro b22 w22 hh;refine cH hh (i := 1) rfl rfl rfl (hh.aA (i := 0) rfl) bk.out aM.out rfl UA rfl Uz Uz UA ?_;intro A23 c23 w23 hh;simp only [UU, Vp] at hh;replace hh := hh.sub (Vs _ _);refine kK ?_;refine bo (mI (aC (ai ?_)));refine ⟨⟨k + 1, c23, A23, Uz, rfl, rfl, HB hx hall hok, ?_⟩, by show n - (k + 1) < n - k; omega, ?_⟩
     ·rw [LX Uz Uz, HV hx hok] at hh;exact hh
     ·exact dQ
  ·obtain rfl : k = n := Uz;rw [UQ Uz] at hall hh;obtain ⟨e1, e2⟩ := qy hall;refine sr ?_;refine oe ?_;refine rI bk.out bk.out bk.out rfl (hh.aA (i := 0) rfl) UA ?_;refine aS (aI (aa (av ?_)));refine KW ?_;rw [e1, e2];exact ⟨rfl, hh.below⟩
theorem gQ (s : ByteArray) (w : World) (hs : s.size ≤ 100000) :
  Calls Tryz.prog 91 #[.string s] w fun e w' => ∃ A c, e = .returned (.slice A (iz s.data.toList).length c) ∧ w'.ownsRow w.heap.size 3 1 (.slice A (iz s.data.toList).length c) (iz s.data.toList).length (bL (iz s.data.toList)) ∧ Below w.heap.size w w' := by
 have hh := Hp.start w;have hsz := di s
 cases hm : ek s.data.toList with
 | false =>
  refine aj (N := 22) (l := [.string s]) Tryz.func91 rfl rfl (by simp) ?_;refine sr (aL (aa (ah (sr (mS (mS ?_))))));refine bJ bk.out rfl UA ?_;refine bD hh (m0 s _ Uz) rfl ?_;intro w9 hh;rw [hm];refine fy ?_;refine aa (cT (sr (aL (aa (av (aH ?_))))));refine de ?_;rw [Hy hm];exact KE
 | true =>
  refine aj (N := 22) (l := [.string s]) Tryz.func91 rfl rfl (by simp) ?_;refine sr (aL (aa (ah (sr (mS (mS ?_))))));refine bJ bk.out rfl UA ?_;refine bD hh (m0 s _ Uz) rfl ?_;intro w9 hh;rw [hm];refine fy ?_;refine aa (cF (ar (ai (sr (aL (aa (ah (sr (mS ?_)))))))));refine ym hh bk.out rfl UA ?_;intro b12 w12 hh;skip;refine aa (aq ?_);refine aR [3, 5, 13, 14, 15, 16, 17, 18, 19, 20] 3
   (fun v w' => ∃ (k c' : Nat) (A' : Option Addr), k ≤ s.size ∧ v = .slice A' k c' ∧ Hp w [.row A' k c' 3 1 (bL (ints (s.data.toList.take k))), .it b12 s k] w')
   (fun v _ => s.size - lenOf v) ?_ ?_
  ·exact ⟨0, 0, none, UI _, rfl, hh.cY _ _⟩
  ·clear hh;rintro ρ' v w' ⟨k, c', A', hk, rfl, hh⟩;by_cases hlt : k < s.size
   ·obtain ⟨c, hc⟩ := ak (l := s.data.toList) (k := k) Uz;have h8 := sX hm hc;refine sr ?_;refine yV hh (i := 1) rfl rfl hc h8 UA ?_;intro w13 hh;simp only [UU, Vp] at hh;skip;refine dt ?_;refine aa (ah (cT (ar (ai (aq (sr ?_))))));refine dt ?_;refine aI (aa (ao (mL (mI ?_))));refine xu ?_;refine xx ?_;intro b19 w19 hh;refine cH hh (i := 1) rfl rfl rfl (hh.aA (i := 0) rfl) bk.out aM.out rfl UA rfl Uz Uz UA ?_;intro A20 c20 w20 hh;simp only [UU, Vp] at hh;replace hh := hh.sub (Vs _ _);refine aL (aC (bE (ai ?_)));rw [u6 hc] at hh;refine ⟨⟨k + 1, c20, A20, Uz, rfl, hh⟩, by show s.size - (k + 1) < s.size - k; omega, ?_⟩;exact dQ
   ·refine sr ?_;refine xJ hh (i := 1) rfl rfl hlt UA ?_;skip;refine dt ?_;refine aa (ah (cF (a9 (aE (aE (bC (ai (sr (mL (aL (aa (av ?_))))))))))));refine de ?_;obtain rfl : k = s.size := Uz;rw [UQ Uz] at hh;have h1 := hh.at_ (i := 0) rfl;rw [jV hm, da, ← hsz];exact ⟨A', c', rfl, h1, hh.below⟩
theorem tk (a b : ByteArray) (g : FuncId) (f : Int → Int → Int) (w : World) (ha : a.size ≤ 100000) (hb : b.size ≤ 100000) [al Tryz.prog g]
  (hg : ∀ (x y : Int) (w : World), 0 ≤ x → x ≤ 127 → 0 ≤ y → y ≤ 127 → Calls Tryz.prog g #[.int .i64 x, .int .i64 y] w fun e w' => e = .returned (.int .i64 (f x y)) ∧ Below w.heap.size w w') :
  Calls Tryz.prog 206 #[.string a, .string b, .func (.func g) #[] #[]] w fun e w' =>
   (jm f a.data.toList b.data.toList = none ∧ e = .returned (.tuple #[.slice none 0 0, .bool false]) ∧ Below w.heap.size w w') ∨
   ∃ l, jm f a.data.toList b.data.toList = some l ∧ l.length = b.size ∧ ∃ A c, e = .returned (.tuple #[.slice A l.length c, .bool true]) ∧ w'.ownsRow w.heap.size 3 1 (.slice A l.length c) l.length (bL l) ∧ Below w.heap.size w w' := by
 have hh := Hp.start w;have hsa := di a;have hsb := di b
 cases hma : ek a.data.toList with
 | false =>
  refine HD ?_;refine sr (aL (aB (aa (sr (mS ?_)))));refine aF (gQ b _ hb) al.out rfl UA ?_;rintro e_ w12 ⟨A12, c12, rfl, hown_, hb_⟩;refine ⟨_, rfl, ?_⟩;replace hh := hh.aV (x := .row _ _ _ _ _ _) hb_ hown_;refine aL (aa (ah (sr (mS (mS ?_)))));refine bJ bk.out rfl UA ?_;refine bD hh (m0 a _ Uz) rfl ?_;intro w16 hh;rw [hma];refine fy ?_;refine mB ?_;refine gS (gS (gS ?_));refine jK ?_;refine gS ?_;refine fO ?_;refine aa (cT (sr (aL (aB (aa (av (aH ?_)))))));refine KW ?_;exact .inl ⟨by simp [jm, hma], rfl, hh.below⟩
 | true =>
  cases hmb : (ek b.data.toList && decide ((b.size : Int) = a.size)) with
  | false =>
   refine HD ?_;refine sr (aL (aB (aa (sr (mS ?_)))));refine aF (gQ b _ hb) al.out rfl UA ?_;rintro e_ w12 ⟨A12, c12, rfl, hown_, hb_⟩;refine ⟨_, rfl, ?_⟩;replace hh := hh.aV (x := .row _ _ _ _ _ _) hb_ hown_;refine aL (aa (ah (sr (mS (mS ?_)))));refine bJ bk.out rfl UA ?_;refine bD hh (m0 a _ Uz) rfl ?_;intro w16 hh;rw [hma];refine fy ?_;refine mB (gT (mS (gT (mS (gT ?_)))));refine bJ bk.out rfl UA ?_;refine aG rfl rfl ?_;refine bD hh (lF b _ _ Uz) rfl ?_;intro w22 hh;rw [hmb];refine gT ?_;refine fy ?_;refine eV ?_;refine aa (cT (sr (aL (aB (aa (av (aH ?_)))))));refine KW ?_;have : (ek b.data.toList && decide ((b.data.toList.length : Int) = a.data.toList.length)) = false := by rw [← hsa, ← hsb]; exact hmb
   exact .inl ⟨by simp only [jm, hma, this]; rfl, rfl, hh.below⟩
  | true =>
   have hmb2 := hmb;simp only [UX, U2] at hmb2;have hbl : jm f a.data.toList b.data.toList = some (List.zipWith f (ints a.data.toList) (ints b.data.toList)) := by
    have : (ek b.data.toList && decide ((b.data.toList.length : Int) = a.data.toList.length)) = true := by rw [← hsa, ← hsb]; exact hmb
    simp only [jm, hma, this]; rfl
   have hea := jV hma;have heb := jV hmb2.1;have hlab : (ints a.data.toList).length = (ints b.data.toList).length := by rw [da, da]; omega
   have hlb := da b.data.toList;have hla := da a.data.toList;have hA := gQ a;have hB := gQ b;rw [hea] at hA;rw [heb] at hB;generalize hia : ints a.data.toList = ia at *;generalize hib : ints b.data.toList = ib at *;have bda : ∀ (k : Nat) (x : Int), ia[k]? = some x → 0 ≤ x ∧ x ≤ 127 := fun k x h => Ew (l := a.data.toList) (by rw [hea]; exact h);have bdb : ∀ (k : Nat) (x : Int), ib[k]? = some x → 0 ≤ x ∧ x ≤ 127 := fun k x h => Ew (l := b.data.toList) (by rw [heb]; exact h);clear hea heb;refine HD ?_;refine sr (aL (aB (aa (sr (mS ?_)))));refine aF (hB _ hb) al.out rfl UA ?_;rintro e_ w12 ⟨A12, c12, rfl, hown_, hb_⟩;refine ⟨_, rfl, ?_⟩;replace hh := hh.aV (x := .row _ _ _ _ _ _) hb_ hown_;refine aL (aa (ah (sr (mS (mS ?_)))));refine bJ bk.out rfl UA ?_;refine bD hh (m0 a _ Uz) rfl ?_;intro w16 hh;rw [hma];refine fy ?_;refine mB (gT (mS (gT (mS (gT ?_)))));refine bJ bk.out rfl UA ?_;refine aG rfl rfl ?_;refine bD hh (lF b _ _ Uz) rfl ?_;intro w22 hh;rw [hmb];refine gT ?_;refine fy ?_;refine eV ?_;refine aa (cF (ar (ai (ah (sr (mS ?_))))));refine aF (hA _ ha) al.out rfl UA ?_;rintro e_ w26 ⟨A26, c26, rfl, hown_, hb_⟩;refine ⟨_, rfl, ?_⟩
   replace hh := hh.aV (x := .row _ _ _ _ _ _) hb_ hown_;refine aJ (mI (aa (aq ?_)));refine aR [9, 10, 28, 29, 30, 31, 32, 33, 34, 35, 36, 37, 38, 39, 40, 41, 42, 43] 28
    (fun i w' => ∃ k : Nat, k ≤ ib.length ∧ i = .int .i64 k ∧ Hp w [.row A26 ia.length c26 3 1 (bL ia), .row A12 ib.length c12 3 1 (bL (m6 f ia ib k))] w')
    (fun i _ => ib.length - (intOf i).toNat) ?_ ?_
   ·exact ⟨0, UI _, rfl, by rw [Hz]; exact hh⟩
   ·clear hh hown_ hb_;rintro ρ' i w' ⟨k, hk, rfl, hh⟩;by_cases hlt : k < ib.length
    ·obtain ⟨x, hx⟩ := ak (l := ia) (k := k) Uz;obtain ⟨y, hy⟩ := ak hlt;have bx := bda k x hx;have byy := bdb k y hy;have hx2 := cu hx;have hy2 := cu (Pq (f := f) hlab hy);have hml := Le (f := f) hlab hk;have hml2 := bO (m6 f ia ib k);obtain ⟨ga, rfl⟩ := hh.cN (i := 0) rfl Uz;obtain ⟨gb, rfl⟩ := hh.cN (i := 1) rfl Uz;refine sr ?_;refine eh ?_;refine u1 ?_;refine jA ?_;refine aI (aI (aa (ao (mL (mI ?_)))));refine iL ?_;refine mI (mL (mI ?_));refine u1 ?_;refine Jv ?_;refine gy (hg x y _ bx.1 bx.2 byy.1 byy.2) al.out rfl rfl UA ?_;rintro e_ w41 ⟨rfl, hb_⟩;refine ⟨_, rfl, ?_⟩;replace hh := hh.ext hb_;refine u1 ?_;refine bQ hh (i := 1) (vs := [_]) rfl rfl (cK rfl) rfl aM.out rfl Uz rfl ?_;intro ws hh;simp only [UU, Vp] at hh;refine fV ?_;refine bo (mI (aC (ai ?_)));rw [U3, MP hlab hx hy] at hh;refine ⟨⟨k + 1, Uz, rfl, hh⟩, by show _ - (k + 1) < _ - k; omega, ?_⟩;exact dQ
    ·refine sr ?_;refine bh (aa (ah (cF (a9 (aE (aE (bC (ai (sr (mL (aL (aB (aa (av ?_))))))))))))));refine KW ?_;obtain rfl : k = ib.length := Uz;rw [I2 hlab] at hh;have h1 := hh.at_ (i := 1) rfl;have hzl : (List.zipWith f ia ib).length = ib.length := by simp [hlab]
     refine .inr ⟨_, hbl, Uz, A12, c12, ?_⟩;rw [hzl];exact ⟨rfl, h1, hh.below⟩
theorem FP (a b : ByteArray) (g : FuncId) (f : Int → Int → Int) (w : World) (ha : a.size ≤ 100000) (hb : b.size ≤ 100000) [al Tryz.prog g]
  (hg : ∀ (x y : Int) (w : World), 0 ≤ x → x ≤ 127 → 0 ≤ y → y ≤ 127 → Calls Tryz.prog g #[.int .i64 x, .int .i64 y] w fun e w' => e = .returned (.int .i64 (f x y)) ∧ Below w.heap.size w w')
  (h : jm f a.data.toList b.data.toList = none) :
  Calls Tryz.prog 206 #[.string a, .string b, .func (.func g) #[] #[]] w fun e w' => e = .returned (.tuple #[.slice none 0 0, .bool false]) ∧ Below w.heap.size w w' :=
 (tk a b g f w ha hb hg).mono fun e w' hq => by
  rcases hq with hq | ⟨l, hl, _⟩
  ·exact hq.2
  ·rw [h] at hl; cases hl
theorem Gl (a b : ByteArray) (g : FuncId) (f : Int → Int → Int) (w : World) (ha : a.size ≤ 100000) (hb : b.size ≤ 100000) [al Tryz.prog g]
  (hg : ∀ (x y : Int) (w : World), 0 ≤ x → x ≤ 127 → 0 ≤ y → y ≤ 127 → Calls Tryz.prog g #[.int .i64 x, .int .i64 y] w fun e w' => e = .returned (.int .i64 (f x y)) ∧ Below w.heap.size w w')
  {l : List Int} (h : jm f a.data.toList b.data.toList = some l) :
  Calls Tryz.prog 206 #[.string a, .string b, .func (.func g) #[] #[]] w fun e w' => ∃ A c, e = .returned (.tuple #[.slice A l.length c, .bool true]) ∧ w'.ownsRow w.heap.size 3 1 (.slice A l.length c) l.length (bL l) ∧ Below w.heap.size w w' :=
 (tk a b g f w ha hb hg).mono fun e w' hq => by
  rcases hq with ⟨hn, _⟩ | ⟨l', hl, _, hq⟩
  ·rw [h] at hn; cases hn
  ·rw [h] at hl; injection hl with hl; subst hl; exact hq
theorem Hg {f : Int → Int → Int} {a b : List UInt8} {l : List Int} (h : jm f a b = some l) : l.length ≤ b.length := by
 unfold jm at h;split at h
 ·injection h with h; subst h; simp [ints]; omega
 ·cases h
theorem vi (x y : Int) (w : World) (h1 : 0 ≤ x) (h2 : x ≤ 127) (h3 : 0 ≤ y) (h4 : y ≤ 127) :
  Calls Tryz.prog 207 #[.int .i64 x, .int .i64 y] w fun e w' => e = .returned (.int .i64 (x + y)) ∧ Below w.heap.size w w' := by
 refine aj (N := 8) (l := [.int .i64 x, .int .i64 y]) Tryz.func207 rfl rfl (by simp) ?_;refine sr (aI (aa (sr (mI (mI ?_)))));refine bo (aI (aa (av ?_)));refine de ?_;exact ⟨rfl, Below.refl _ _⟩
theorem GX (a b : ByteArray) (w : World) (ha : a.size ≤ 100000) (hb : b.size ≤ 100000) :
  Calls Tryz.prog 165 #[.string a, .string b] w fun e w' => e = .returned (.tuple #[.string (str (mulL a.data.toList b.data.toList).1), .int .i64 (mulL a.data.toList b.data.toList).2]) ∧ Below w.heap.size w w' := by
 have hh := Hp.start w;have hsb := di b
 cases hbo : jm (· + ·) a.data.toList b.data.toList with
 | none =>
  refine aj (N := 20) (l := [.string a, .string b]) Tryz.func165 rfl rfl (by simp) ?_;refine sr (aS (aI (aa (sr (mS (mS ?_))))));refine bD hh (FP a b _ _ _ ha hb vi hbo) rfl ?_;intro w11 hh;refine mT ?_;refine dt ?_;refine dt ?_;refine aL (aB (aa (ah (sr (mB ?_)))));refine fy ?_;refine aa (cT (sr (aS (aI (aa (av (aH ?_)))))));refine KW ?_;simp only [mulL, hbo];exact ⟨rfl, hh.below⟩
 | some l =>
  have hl := Hg hbo;refine aj (N := 20) (l := [.string a, .string b]) Tryz.func165 rfl rfl (by simp) ?_;refine sr (aS (aI (aa (sr (mS (mS ?_))))));refine aF (Gl a b _ _ _ ha hb vi hbo) al.out rfl UA ?_;rintro e_ w11 ⟨A11, c11, rfl, hown_, hb_⟩;refine ⟨_, rfl, ?_⟩;replace hh := hh.aV (x := .row _ _ _ _ _ _) hb_ hown_;refine mT ?_;refine dt ?_;refine dt ?_;refine aL (aB (aa (ah (sr (mB ?_)))));refine fy ?_;refine aa (cF (ar (ai (sr (mL ?_)))));refine bD hh (AZ _ _ _ _ _ (hh.aA (i := 0) rfl) Uz) rfl ?_;intro w17 hh;refine dt ?_;refine dt ?_;refine aS (aI (aa (av ?_)));refine KW ?_;simp only [mulL, hbo];exact ⟨trivial, hh.below⟩
def iw (v : Int) : Bool := decide (0 ≤ v) && decide (v ≤ 12)
theorem fP {v : Int} : iw v = true ↔ 0 ≤ v ∧ v ≤ 12 := by unfold iw; rw [UX, U2, U2]
theorem nH (v : Int) (w : World) : Calls Tryz.prog 134 #[.int .i64 v] w fun r w' => r = .returned (.bool (iw v)) ∧ Below w.heap.size w w' := by
 have hh := Hp.start w;unfold iw;by_cases h1 : 0 ≤ v
 ·rw [U0 h1, Bool.true_and];by_cases h2 : v ≤ 12
  ·rw [U0 h2];exact OB
  ·rw [Vf h2];exact OB
 ·rw [Vf h1, Bool.false_and];refine aj (N := 9) (l := [.int .i64 v]) Tryz.func134 rfl rfl (by simp) ?_;refine sr (aB (aa (sr (mI ?_))));refine dL (mB ?_);refine gS (gS ?_);refine eV ?_;exact vy
def SP (a : NR) : Bool := decide ((nR a.d).neg = a.neg) && (decide ((nR a.d).bA = a.bA) && decide ((nR a.d).e = a.e))
theorem s9 (a : NR) : SP a = true ↔ nR a.d = a := by
 unfold SP;rw [UX, UX, U2, U2, U2];constructor
 ·rintro ⟨h1, h2, h3⟩;obtain ⟨s, m, e⟩ := a;generalize nR (NR.d ⟨s, m, e⟩) = b at *;obtain ⟨s', m', e'⟩ := b;simp only at h1 h2 h3;rw [h1, h2, h3]
 ·intro h;rw [h];exact ⟨rfl, rfl, rfl⟩
def nZ (v : Int) (t : TR) : Bool := ek t.m.data.toList && decide ((t.m.size : Int) = v) && (yY t && SP t.c)
def vd : List TR → Bool
 | [] => true
 | [_] => true
 | a :: b :: l => jG a.m b.m && vd (b :: l)
theorem wE : ∀ (l : List TR) (p x : TR), vd (l ++ [p, x]) = (vd (l ++ [p]) && jG p.m x.m)
 | [], p, x => by show (jG p.m x.m && true) = (true && jG p.m x.m); rw [Bool.and_true, Bool.true_and]
 | [a], p, x => by
  show (jG a.m p.m && (jG p.m x.m && true)) = ((jG a.m p.m && true) && jG p.m x.m);rw [Bool.and_true, Bool.and_true]
 | a :: b :: l, p, x => by
  show (jG a.m b.m && vd ((b :: l) ++ [p, x])) = ((jG a.m b.m && vd ((b :: l) ++ [p])) && jG p.m x.m);rw [wE (b :: l) p x, Bool.and_assoc]
theorem EW : ∀ {l : List TR} {i : Nat} {p x : TR}, vd l = true → l[i]? = some p → l[i + 1]? = some x → jG p.m x.m = true
 | [], i, p, x, _, h, _ => by simp at h
 | [a], i, p, x, _, _, h => by simp at h
 | a :: b :: l, 0, p, x, h, h1, h2 => by
  simp only [XM, Wv, U5, Xn] at h1 h2;subst h1 h2;exact (WN.1 h).1
 | a :: b :: l, i + 1, p, x, h, h1, h2 => by
  rw [Xn] at h1 h2;exact EW (WN.1 h).2 h1 h2
theorem ua : ∀ {l : List TR}, vd l = true ↔ td l
 | [] => ⟨fun _ => XQ, fun _ => rfl⟩
 | [a] => ⟨fun _ => Ya _ _, fun _ => rfl⟩
 | a :: b :: l => by
  show (jG a.m b.m && vd (b :: l)) = true ↔ _;rw [UX, ua (l := b :: l)];constructor
  ·rintro ⟨h1, h2⟩;refine V4.2 ⟨fun t ht => ?_, h2⟩
   rcases UZ.1 ht with rfl | ht
   ·exact h1
   ·exact j1 h1 ((V4.1 h2).1 t ht)
  ·intro h;have := V4.1 h;exact ⟨this.1 b UR, this.2⟩
def okB (v : Int) (ts : List TR) : Bool := ts.all (nZ v) && vd ts
def fh (v : Int) (ts : List TR) : Int := if iw v = false then 1 else if 4096 < ts.length then 3 else if okB v ts = true then 0 else 1
theorem Kh {v : Int} (h1 : iw v = true) (h2 : ¬ 4096 < ts.length) (h : okB v ts = false) : fh v ts = 1 := by
 unfold fh;rw [UE (by rw [h1]; decide), UE h2, UE (by rw [h]; decide)]
theorem yw {v : Int} {i : Nat} {x : TR} (hx : ts[i]? = some x) (h : nZ v x = false) : okB v ts = false := by
 unfold okB;rw [Yb];refine .inl (Xh.2 fun h2 => ?_);rw [Vb.1 h2 x (UJ hx)] at h
 cases h
theorem HW {v : Int} {i : Nat} {p x : TR} (hp : ts[i]? = some p) (hx : ts[i + 1]? = some x) (h : jG p.m x.m = false) : okB v ts = false := by
 unfold okB;rw [Yb];refine .inr (Xh.2 fun h2 => ?_);rw [EW h2 hp hx] at h
 cases h
theorem yf (v : Int) (A : Option Addr) (n c : Nat) (ts : List TR) (w : World) (hT : eb w) (hS : Sl w A n 4 (az TR.cells ts)) (hn : n ≤ 1000000) (ho : ∀ t ∈ ts, t.c.ok ∧ t.m.size ≤ 100000) :
  Calls Tryz.prog 142 #[.agg #[.int .i64 v, .slice A n c]] w fun r w' => r = .returned (.int .i64 (fh v ts)) ∧ Below w.heap.size w w' := by
 have hh := Hp.start w;have hln := hS.bq TR.len UA;have hfw := fun w1 => nH v w1
 cases hf : iw v with
 | false =>
  rw [hf] at hfw;rw [show fh v ts = 1 by unfold fh; rw [UF hf]];refine JR ?_;refine sr ?_;refine cz hh [_,_] ?_;intro b1 w1 hh;refine aI (aa (ah (sr (bH ?_))));refine bG hh 0 ?_;refine bD hh (hfw _) rfl ?_;intro w7 hh;refine fy ?_;exact C4
 | true =>
  rw [hf] at hfw;by_cases h4 : 4096 < n
  ·rw [show fh v ts = 3 by unfold fh; rw [UE (by rw [hf]; decide), UF Uz]];refine JR ?_;refine sr ?_;refine cz hh [_,_] ?_;intro b1 w1 hh;refine aI (aa (ah (sr (bH ?_))));refine bG hh 0 ?_;refine bD hh (hfw _) rfl ?_;intro w7 hh;refine fy ?_;refine E4 ?_;refine bG hh 0 ?_;refine aJ ?_;refine cq (aa (cT (sr (aI (aa (av (aH ?_)))))));refine de ?_;exact ⟨rfl, hh.below⟩
  ·have hbad := fun h => Kh (v := v) (ts := ts) hf Uz h;refine JR ?_;refine sr ?_;refine cz hh [_,_] ?_;intro b1 w1 hh;refine aI (aa (ah (sr (bH ?_))));refine bG hh 0 ?_;refine bD hh (hfw _) rfl ?_;intro w7 hh;refine fy ?_;refine E4 ?_;refine bG hh 0 ?_;refine aJ ?_;refine cq (aa (cF (ar (ai (ah (sr (bH ?_)))))));refine bG hh 0 ?_;refine aJ (mI (aa (aq ?_)));refine aR [2, 3, 4, 16, 17, 18, 19, 20, 21, 22, 23, 24, 25, 26, 27, 28, 29, 30, 31, 32, 33, 34, 35, 36, 37, 38, 39, 40, 41, 42, 43, 44, 45, 46, 47, 48, 49, 50, 51, 52, 53, 54, 55, 56, 57] 16
    (fun x w' => ∃ i : Nat, i ≤ n ∧ x = .int .i64 i ∧ (ts.take i).all (nZ v) = true ∧ vd (ts.take i) = true ∧ Hp w [.blk b1 24 [.int .i64 v, .slice A n c] (0, 0)] w')
    (fun x _ => n - (intOf x).toNat) ?_ ?_
   ·exact ⟨0, UI _, rfl, rfl, rfl, hh⟩
   ·clear hh;rintro ρ' x_ w' ⟨i, hi, rfl, hall, hris, hh⟩;by_cases hlt : i < n
    ·obtain ⟨x, hx⟩ := ak (l := ts) (k := i) Uz;obtain ⟨ad, rfl, hr⟩ := hS.at_ Uz;obtain ⟨hxo, hxm⟩ := ho x (UJ hx);have hmay := fun w1 => lF x.m v w1 Uz;have hsg := fun w1 => hU x.c w1;have hfo := fun w1 hT1 => eC x.c w1 hT1 (by have := hxo.1; omega) (by have := hxo.2.1; omega) (by have := hxo.2.2; omega);have hzz : x.c.i.sign = 0 ↔ x.c.d = 0 := by
      rw [Int.sign_eq_zero_iff_zero];exact ⟨fun h => by unfold NR.d; rw [h]; rfl, rK⟩
     cases hm : ek x.m.data.toList && decide ((x.m.size : Int) = v) with
     | false =>
      rw [hm] at hmay;rw [hbad (yw hx (by unfold nZ; rw [hm]; rfl))];refine sr ?_;refine eh ?_;refine ct ?_;refine pg ?_;refine bW hh ?_;intro b4 w4 hh;refine aI ?_;refine bX hh 0 [_,_,_,_] ?_;intro ws hh;replace hh : Hp _ (.blk _ _ [_, _, _, _] _ :: _) _ := hh;refine aa (ah ?_)
      refine dX [] [] zL1 33 zL0 [(32, 53), (31, 52), (30, 51), (29, 50), (28, 49), (27, 48), (26, 47), (25, 46), (24, 45), (23, 44), (22, 43), (21, 42), (20, 41), (19, 40), (18, 39), (17, 38), (16, 37), (15, 36), (14, 35), (13, 34), (12, 33), (11, 32), (10, 31), (9, 30), (8, 29), (7, 28), (6, 27), (5, 26), (4, 25), (3, 24), (2, 23), (1, 22), (0, 21)] hh mixed UB eO rfl (by repeat (first | exact cA | refine bR ?_ | refine cB ?_)) ?_
      refine ef ?_;refine gE 0 ?_;refine ef ?_;refine gE 1 ?_;refine dC (fun _ hj => hmay _) ?_;refine GP ?_;refine oK ?_;refine dS (dS (dS (dS ?_)));refine Gj ?_;exact O7
     | true =>
      rw [hm] at hmay;by_cases hz : x.c.d = 0
      ·have hs := hzz.2 hz;rw [hbad (yw hx (by unfold nZ yY; rw [hm, U0 hz]; rfl))];refine sr ?_;refine eh ?_;refine ct ?_;refine pg ?_;refine bW hh ?_;intro b4 w4 hh;refine aI ?_;refine bX hh 0 [_,_,_,_] ?_;intro ws hh;replace hh : Hp _ (.blk _ _ [_, _, _, _] _ :: _) _ := hh;refine aa (ah ?_)
       refine dX [] [] zL1 33 zL0 [(32, 53), (31, 52), (30, 51), (29, 50), (28, 49), (27, 48), (26, 47), (25, 46), (24, 45), (23, 44), (22, 43), (21, 42), (20, 41), (19, 40), (18, 39), (17, 38), (16, 37), (15, 36), (14, 35), (13, 34), (12, 33), (11, 32), (10, 31), (9, 30), (8, 29), (7, 28), (6, 27), (5, 26), (4, 25), (3, 24), (2, 23), (1, 22), (0, 21)] hh mixed UB eO rfl (by repeat (first | exact cA | refine bR ?_ | refine cB ?_)) ?_
       refine ef ?_;refine gE 0 ?_;refine ef ?_;refine gE 1 ?_;refine dC (fun _ hj => hmay _) ?_;refine GP ?_;refine oK ?_;refine dG (ef ?_);refine dG (fS 0 [_,_,_] ?_);refine zt ?_;refine dG (yl ?_);refine MB ?_;exact O7
      ·have hs : ¬ x.c.i.sign = 0 := fun h => hz (hzz.1 h);by_cases hnf : nR x.c.d = x.c
       ·have hgood : nZ v x = true := by unfold nZ yY; rw [hm, Vf hz, (s9 x.c).2 hnf]; rfl
        have hall2 : (ts.take (i + 1)).all (nZ v) = true := by rw [ay hx, List.all_append, hall]; simp [hgood]
        by_cases h0 : i = 0
        ·refine sr ?_;refine eh ?_;refine ct ?_;refine pg ?_;refine bW hh ?_;intro b4 w4 hh;refine aI ?_;refine bX hh 0 [_,_,_,_] ?_;intro ws hh;replace hh : Hp _ (.blk _ _ [_, _, _, _] _ :: _) _ := hh;refine aa (ah ?_)
         refine dX [] [] zL1 33 zL0 [(32, 53), (31, 52), (30, 51), (29, 50), (28, 49), (27, 48), (26, 47), (25, 46), (24, 45), (23, 44), (22, 43), (21, 42), (20, 41), (19, 40), (18, 39), (17, 38), (16, 37), (15, 36), (14, 35), (13, 34), (12, 33), (11, 32), (10, 31), (9, 30), (8, 29), (7, 28), (6, 27), (5, 26), (4, 25), (3, 24), (2, 23), (1, 22), (0, 21)] hh mixed UB eO rfl (by repeat (first | exact cA | refine bR ?_ | refine cB ?_)) ?_
         refine ef ?_;refine gE 0 ?_;refine ef ?_;refine gE 1 ?_;refine dC (fun _ hj => hmay _) ?_;refine GP ?_;refine oK ?_;refine dG (ef ?_);refine dG (fS 0 [_,_,_] ?_);refine zt ?_;refine dG (yl ?_);refine MB ?_;refine oK ?_;refine dG (ef ?_);refine dG (fS 0 [_,_,_] ?_);refine EJ ?_;refine dG (ef ?_);refine dG (fS 0 [_,_,_] ?_);refine Kb ?_;refine MB ?_;refine oK ?_;refine dG (dP ?_);refine dG (PU ?_);refine dG (oK ?_);refine dS (dS (dS (dS ?_)));refine xL (i := 28) rfl (fun ρ1 w1 hj hR => (show ρ1 44 = Value.bool _ from hR.2.2.1)) UA ?_;refine dS (dS (dS (dS ?_)));refine aT ?_;intro f W hJ hV _;have hb_8 := hJ.bl;obtain ⟨v53, v52, v51, v50, v49, v48, v47, v46, v45, v44, v43, v42, v41, v40, v39, v38, v37, v36, v35, v34, v33, v32, v31, v30, v29, v28, v27, v26, v25, v24, v23, v22, v21, _⟩ := hV;replace hh := hJ.hp;refine ED ?_;dsimp only [cg];clear hJ;refine gS (gT ?_)
         (first | refine fO ?_ | refine eV ?_)
         refine eV ?_;refine zi ?_;refine bo (mI (aC (ai ?_)));replace hh := hh.sub (UL _ (UG _ Ve));refine ⟨⟨i + 1, Uz, rfl, hall2, by rw [ay hx, h0]; rfl, hh⟩, by show n - (i + 1) < n - i; omega, ?_⟩;exact dQ
        ·obtain ⟨q, hq⟩ : ∃ q, i = q + 1 := ⟨i - 1, Uz⟩;obtain ⟨p, hp⟩ := ak (l := ts) (k := q) Uz
         cases hlp : jG p.m x.m with
         | false =>
          rw [hbad (HW hp (hq ▸ hx) hlp)];have hge : (!(Op.bytesLess p.m.toList x.m.toList)) = true := by rw [qp, hlp]; rfl
          refine sr ?_;refine eh ?_;refine ct ?_;refine pg ?_;refine bW hh ?_;intro b4 w4 hh;refine aI ?_;refine bX hh 0 [_,_,_,_] ?_;intro ws hh;replace hh : Hp _ (.blk _ _ [_, _, _, _] _ :: _) _ := hh;refine aa (ah ?_)
          refine dX [] [] zL1 33 zL0 [(32, 53), (31, 52), (30, 51), (29, 50), (28, 49), (27, 48), (26, 47), (25, 46), (24, 45), (23, 44), (22, 43), (21, 42), (20, 41), (19, 40), (18, 39), (17, 38), (16, 37), (15, 36), (14, 35), (13, 34), (12, 33), (11, 32), (10, 31), (9, 30), (8, 29), (7, 28), (6, 27), (5, 26), (4, 25), (3, 24), (2, 23), (1, 22), (0, 21)] hh mixed UB eO rfl (by repeat (first | exact cA | refine bR ?_ | refine cB ?_)) ?_
          refine ef ?_;refine gE 0 ?_;refine ef ?_;refine gE 1 ?_;refine dC (fun _ hj => hmay _) ?_;refine GP ?_;refine oK ?_;refine dG (ef ?_);refine dG (fS 0 [_,_,_] ?_);refine zt ?_;refine dG (yl ?_);refine MB ?_;refine oK ?_;refine dG (ef ?_);refine dG (fS 0 [_,_,_] ?_);refine EJ ?_;refine dG (ef ?_);refine dG (fS 0 [_,_,_] ?_);refine Kb ?_;refine MB ?_;refine oK ?_;refine dG (dP ?_);refine dG (PU ?_);refine dG (oK ?_);refine dG (ef ?_);refine dG (gE 1 ?_);refine dG (dP ?_);refine dG (vN ?_);refine dG (nM (q) ?_);refine dG (KX ?_);refine dG (sM (fun _ hj => ((hr.ext hj.hp.below).recAt TR.len hp).cell (i := 0) rfl) ?_);refine dG (ef ?_);refine dG (gE 0 ?_);refine aT ?_;intro f W hJ hV _;have hb_8 := hJ.bl;obtain ⟨v53, v52, v51, v50, v49, v48, v47, v46, v45, v44, v43, v42, v41, v40, v39, v38, v37, v36, v35, v34, v33, v32, v31, v30, v29, v28, v27, v26, v25, v24, v23, v22, v21, _⟩ := hV;replace hh := hJ.hp;refine ED ?_;dsimp only [cg];clear hJ;refine gT ?_;refine wI rfl rfl UA ?_;refine gT ?_
          (first | refine fO ?_ | refine eV ?_)
          refine eV ?_;refine aa ?_;rw [hge];refine cT (sr (aI (aa (av (cf (aH (aH (cf (aH ?_)))))))));refine de ?_;exact ⟨rfl, hh.below⟩
         | true =>
          have hge : (!(Op.bytesLess p.m.toList x.m.toList)) = false := by rw [qp, hlp]; rfl
          refine sr ?_;refine eh ?_;refine ct ?_;refine pg ?_;refine bW hh ?_;intro b4 w4 hh;refine aI ?_;refine bX hh 0 [_,_,_,_] ?_;intro ws hh;replace hh : Hp _ (.blk _ _ [_, _, _, _] _ :: _) _ := hh;refine aa (ah ?_)
          refine dX [] [] zL1 33 zL0 [(32, 53), (31, 52), (30, 51), (29, 50), (28, 49), (27, 48), (26, 47), (25, 46), (24, 45), (23, 44), (22, 43), (21, 42), (20, 41), (19, 40), (18, 39), (17, 38), (16, 37), (15, 36), (14, 35), (13, 34), (12, 33), (11, 32), (10, 31), (9, 30), (8, 29), (7, 28), (6, 27), (5, 26), (4, 25), (3, 24), (2, 23), (1, 22), (0, 21)] hh mixed UB eO rfl (by repeat (first | exact cA | refine bR ?_ | refine cB ?_)) ?_
          refine ef ?_;refine gE 0 ?_;refine ef ?_;refine gE 1 ?_;refine dC (fun _ hj => hmay _) ?_;refine GP ?_;refine oK ?_;refine dG (ef ?_);refine dG (fS 0 [_,_,_] ?_);refine zt ?_;refine dG (yl ?_);refine MB ?_;refine oK ?_;refine dG (ef ?_);refine dG (fS 0 [_,_,_] ?_);refine EJ ?_;refine dG (ef ?_);refine dG (fS 0 [_,_,_] ?_);refine Kb ?_;refine MB ?_;refine oK ?_;refine dG (dP ?_);refine dG (PU ?_);refine dG (oK ?_);refine dG (ef ?_);refine dG (gE 1 ?_);refine dG (dP ?_);refine dG (vN ?_);refine dG (nM (q) ?_);refine dG (KX ?_);refine dG (sM (fun _ hj => ((hr.ext hj.hp.below).recAt TR.len hp).cell (i := 0) rfl) ?_);refine dG (ef ?_);refine dG (gE 0 ?_);refine aT ?_;intro f W hJ hV _;have hb_8 := hJ.bl;obtain ⟨v53, v52, v51, v50, v49, v48, v47, v46, v45, v44, v43, v42, v41, v40, v39, v38, v37, v36, v35, v34, v33, v32, v31, v30, v29, v28, v27, v26, v25, v24, v23, v22, v21, _⟩ := hV;replace hh := hJ.hp;refine ED ?_;dsimp only [cg];clear hJ;refine gT ?_;refine wI rfl rfl UA ?_;refine gT ?_
          (first | refine fO ?_ | refine eV ?_)
          refine eV ?_;refine aa ?_;rw [hge];refine cF (ar (bE (ai (ao ?_))));refine bo (mI (aC (ai ?_)));replace hh := hh.sub (UL _ (UG _ Ve));refine ⟨⟨i + 1, Uz, rfl, hall2, ?_, hh⟩, by show n - (i + 1) < n - i; omega, ?_⟩
          ·rw [hq, ay hp] at hris;rw [ay hx, hq, ay hp, Vt];show vd (ts.take q ++ [p, x]) = true;rw [wE, hris, hlp]
           rfl
          ·exact dQ
       ·rw [hbad (yw hx (by unfold nZ yY; rw [hm, Vf hz, Xh.2 (fun h => hnf ((s9 x.c).1 h))]; rfl))];refine sr ?_;refine eh ?_;refine ct ?_;refine pg ?_;refine bW hh ?_;intro b4 w4 hh;refine aI ?_;refine bX hh 0 [_,_,_,_] ?_;intro ws hh;replace hh : Hp _ (.blk _ _ [_, _, _, _] _ :: _) _ := hh;refine aa (ah ?_)
        refine dX [] [] zL1 33 zL0 [(32, 53), (31, 52), (30, 51), (29, 50), (28, 49), (27, 48), (26, 47), (25, 46), (24, 45), (23, 44), (22, 43), (21, 42), (20, 41), (19, 40), (18, 39), (17, 38), (16, 37), (15, 36), (14, 35), (13, 34), (12, 33), (11, 32), (10, 31), (9, 30), (8, 29), (7, 28), (6, 27), (5, 26), (4, 25), (3, 24), (2, 23), (1, 22), (0, 21)] hh mixed UB eO rfl (by repeat (first | exact cA | refine bR ?_ | refine cB ?_)) ?_
        refine ef ?_;refine gE 0 ?_;refine ef ?_;refine gE 1 ?_;refine dC (fun _ hj => hmay _) ?_;refine GP ?_;refine oK ?_;refine dG (ef ?_);refine dG (fS 0 [_,_,_] ?_);refine zt ?_;refine dG (yl ?_);refine MB ?_;refine oK ?_;refine dG (ef ?_);refine dG (fS 0 [_,_,_] ?_);refine EJ ?_;refine dG (ef ?_);refine dG (fS 0 [_,_,_] ?_);refine yc (i := 18) rfl (fun ρ1 w1 hj hR => (show ρ1 33 = Value.bool _ from hR.2.2.1)) (fun ρ1 w1 hj hR => Ek (show ρ1 36 = Value.agg (List.toArray _) from hR.1) (show ρ1 38 = Value.agg (List.toArray _) from hR.2.1) (by assumption)) ?_;refine MB ?_;exact TI
    ·rw [UQ Uz] at hall hris;rw [show fh v ts = 0 by unfold fh okB; rw [UE (by rw [hf]; decide), UE Uz, hall, hris]; rfl];refine sr ?_;refine E7 ?_;refine de ?_;exact ⟨rfl, hh.below⟩
def dY (v : Int) (t : TR) : Bool := ek t.m.data.toList && decide ((t.m.size : Int) = v)
theorem y7 (z : TR) (v : Int) (b : Nat) (w : World) (hp : w.cell? ⟨b, 0, none⟩ = some (.int .i64 v)) (hz : z.m.size ≤ 100000) : Calls Tryz.prog 158 #[.agg #[.string z.m, .bool z.c.neg, .string z.c.bA, .int .i64 z.c.e], .pointer (some ⟨b, 0, none⟩)] w fun r w' => r = .returned (.bool (!dY v z)) ∧ Below w.heap.size w w' := by
 have hh := Hp.start w;have hmay := fun w1 => lF z.m v w1 Uz;unfold dY;refine aj (N := 9) (l := [.agg #[.string z.m, .bool z.c.neg, .string z.c.bA, .int .i64 z.c.e], .pointer (some ⟨b, 0, none⟩)]) Tryz.func158 rfl rfl (by simp) ?_;refine sr ?_;refine cz hh [_,_,_,_] ?_;intro b2 w2 hh;refine aB (aa (sr (bH ?_)));refine bG hh 0 ?_;refine bV aM.out rfl (cL hh.below hp) UA ?_;refine bD hh (hmay _) rfl ?_;intro w7 hh
 cases ek z.m.data.toList && decide ((z.m.size : Int) = v) with
 | false =>
  refine fy ?_;exact vy
 | true =>
  refine fy ?_;exact vy
theorem vJ (A : Option Addr) (n c : Nat) (l : List TR) (v : Int) (b : Nat) (w : World) (hS : Sl w A n 4 (az TR.cells l)) (hn : n ≤ 1000000) (hp : w.cell? ⟨b, 0, none⟩ = some (.int .i64 v)) (hz : ∀ t ∈ l, t.m.size ≤ 100000) :
  Calls Tryz.prog 157 #[.slice A n c, .func (.func 158) #[] #[.pointer (some ⟨b, 0, none⟩)]] w fun r w' => r = .returned (.bool (l.any fun t => !dY v t)) ∧ Below w.heap.size w w' :=
 CW A n c l 158 [.pointer (some ⟨b, 0, none⟩)] (fun t => !dY v t) w hS hn fun z w1 hz2 hb => y7 z v b w1 (cL hb hp) (hz z hz2)
def me (v : Int) (l : List TR) : Int := if iw v = false ∨ (l.any fun t => !dY v t) = true then 1 else if 65536 < l.length then 3 else gh l
theorem kI (v : Int) (A : Option Addr) (n c : Nat) (l : List TR) (k : Nat) (w : World) (hT : eb w) (hS : Sl w A n 4 (az TR.cells l)) (hn : n ≤ 1000000) (hk : k ≤ 2999980) (ho : iu k l) (hz : ∀ t ∈ l, t.m.size ≤ 100000) :
  Calls Tryz.prog 72 #[.int .i64 v, .slice A n c] w fun r w' => ∃ g : PX, fg (me v l) v (aD l) g ∧ r = .returned (.tuple #[.agg #[.int .i64 g.v, .slice g.A g.n g.c], .int .i64 (me v l)]) ∧ Hp w [g.row] w' := by
 have hh := Hp.start w;have hln := hS.bq TR.len UA;have hfw := fun w1 => nH v w1;have han := fun b w1 hb hp => vJ A n c l v b w1 (hS.ext hb) hn hp hz
 cases hf : iw v with
 | false =>
  rw [hf] at hfw;rw [show me v l = 1 by unfold me; rw [UF (.inl hf)]];refine Fp ?_;refine sr ?_;refine cz hh [_] ?_;intro b2 w2 hh;refine bW hh ?_;intro b4 w4 hh;refine aI (aa (ah (sr ?_)));refine bG hh 1 ?_;refine bD hh (hfw _) rfl ?_;intro w7 hh;refine fy ?_;refine mB ?_;refine gS (gS ?_);refine jK ?_;refine fO ?_;refine aa (cT (sr ?_));exact K2
 | true =>
  rw [hf] at hfw
  cases ha : l.any fun t => !dY v t with
  | true =>
   rw [ha] at han;rw [show me v l = 1 by unfold me; rw [UF (.inr ha)]];refine Fp ?_;refine sr ?_;refine cz hh [_] ?_;intro b2 w2 hh;refine bW hh ?_;intro b4 w4 hh;refine aI (aa (ah (sr ?_)));refine bG hh 1 ?_;refine bD hh (hfw _) rfl ?_;intro w7 hh;refine fy ?_;refine mB (gT (mL (gT ?_)));refine xy ?_;refine aG rfl rfl ?_;refine bD hh (han _ _ hh.below (hh.dN (i := 1) (o := 0) rfl rfl)) rfl ?_;intro w12 hh;refine eV ?_;refine aa (cT (sr ?_));exact K2
  | false =>
   rw [ha] at han;have e1 : me v l = if 65536 < l.length then 3 else gh l := by unfold me; rw [UE (by rw [hf, ha]; decide)]
   by_cases h6 : 65536 < n
   ·rw [e1, UF Uz];refine Fp ?_;refine sr ?_;refine cz hh [_] ?_;intro b2 w2 hh;refine bW hh ?_;intro b4 w4 hh;refine aI (aa (ah (sr ?_)));refine bG hh 1 ?_;refine bD hh (hfw _) rfl ?_;intro w7 hh;refine fy ?_;refine mB (gT (mL (gT ?_)));refine xy ?_;refine aG rfl rfl ?_;refine bD hh (han _ _ hh.below (hh.dN (i := 1) (o := 0) rfl rfl)) rfl ?_;intro w12 hh;refine eV ?_;refine aa (cF (ar (ai (ah (sr (mL (aJ ?_)))))));refine cq (aa (cT (sr ?_)));exact K2
   ·rw [e1, UE Uz];refine Fp ?_;refine sr ?_;refine cz hh [_] ?_;intro b2 w2 hh;refine bW hh ?_;intro b4 w4 hh;refine aI (aa (ah (sr ?_)));refine bG hh 1 ?_;refine bD hh (hfw _) rfl ?_;intro w7 hh;refine fy ?_;refine mB (gT (mL (gT ?_)));refine xy ?_;refine aG rfl rfl ?_;refine bD hh (han _ _ hh.below (hh.dN (i := 1) (o := 0) rfl rfl)) rfl ?_;intro w12 hh;refine eV ?_;refine aa (cF (ar (ai (ah (sr (mL (aJ ?_)))))));refine cq (aa (cF (ar (ai (ah ?_)))));refine qU [] [0, 0, 2, 7, 15, 15, 63, 127] 3 [[(2, none)], [(1, none)], [(20, some 1)]] [(2, 21), (1, 20), (0, 19)] [([], 4, [(2, 21), (1, 20), (0, 19)])] hh mixed UB UB UA ?_;refine gE 1 ?_;refine gC ?_;refine aP (i := 2) (vx hh.sz 96 n 4 (az TR.cells l)) (vx.ext) ?_ ?_
    ·intro ρ1 w1 hj hR;exact a7 rfl (aK al.out (aw (show ρ1 20 = Value.slice _ _ _ from hR.1) aW)) (lO A n c l w1 (hS.ext hj.hp.below) hn) (fun _ _ ⟨A, c, hq, ho, hb⟩ => ⟨_, hq, hb, A, c, rfl, oO ho hj.bl.size⟩)
    refine aT ?_;intro p_ hp_;simp only [UZ, List.not_mem_nil, or_false] at hp_
    rcases hp_ with rfl
    intro f W hJ hV;have hb_5 := hJ.bl;obtain ⟨v21, v20, v19, _⟩ := hV;simp only [mV];have e19 : f 0 = _ := v19;rw [e19];have e20 : f 1 = _ := v20;rw [e20];obtain ⟨A21, c21, e21, o21⟩ : vx _ _ _ _ _ (f 2) W := v21;rw [e21];replace hh := JJ.Ie hh hJ.hp o21;clear o21;clear e19 e20 e21 hJ;refine aF (kE v A21 n c21 l k _ hT hh hln Uz Uz ho) al.out rfl UA ?_; rintro e_ w22 ⟨g, og, rfl, hh⟩; refine ⟨_, rfl, ?_⟩;refine fF ?_;refine cZ (i := 4) (by repeat (first | exact cA | refine bR ?_ | refine cB ?_ | refine np_scope ?_)) rfl UB UB UB (fun _ => fH (show _ = Value.tuple (List.toArray _) from rfl) rfl) UA ?_;refine cZ (i := 5) (by repeat (first | exact cA | refine bR ?_ | refine cB ?_ | refine np_scope ?_)) rfl UB UB UB (fun _ => fH (show _ = Value.tuple (List.toArray _) from rfl) rfl) UA ?_;refine kv 6 UA UB UA UB UB ?_;exact E8
def PX.cells (g : PX) : List Value := [.int .i64 g.v, .slice g.A g.n g.c]
theorem PX.len (g : PX) : (PX.cells g).length = 2 := rfl
structure PX.kO (g : PX) (k : Nat) : Prop where
 n : g.n ≤ 1000000
 cap : g.n ≤ g.c
 ok : iu k g.ts
 sz : ∀ t ∈ g.ts, t.m.size ≤ 100000
def PX.e (g : PX) : Int := fh g.v g.ts
theorem mb (g : PX) (k : Nat) (w : World) (hT : eb w) (h : g.at_ w) (hl : g.kO k) :
  Calls Tryz.prog 142 #[.agg #[.int .i64 g.v, .slice g.A g.n g.c]] w fun r w' => r = .returned (.int .i64 g.e) ∧ Below w.heap.size w w' :=
 yf g.v g.A g.n g.c g.ts w hT h hl.n fun t ht => ⟨(hl.ok t ht).1, hl.sz t ht⟩
def vC (ps : List PX) : Bool := ps.any fun g => decide (g.v ≠ (ps.map PX.v).headD 0)
def fk (ps : List PX) : Int := match ps.find? (fun g => decide (g.e ≠ 0)) with | some g => g.e | none => if ps.length = 0 ∨ vC ps = true then 1 else 0
theorem DA (L : Option Addr) (n c : Nat) (ps : List PX) (f : PX) (p : Addr) (w : World) (hL : Sl w L n 2 (az PX.cells ps)) (hp : w.cell? p = some (.slice L n c)) (hn : 0 < n) :
  Calls Tryz.prog 160 #[.agg #[.int .i64 f.v, .slice f.A f.n f.c], .pointer (some p)] w fun r w' => r = .returned (.bool (decide (f.v ≠ (ps.map PX.v).headD 0))) ∧ Below w.heap.size w w' := by
 have hh := Hp.start w;have hln := hL.bq PX.len UA;obtain ⟨g, ps, rfl⟩ : ∃ g l, ps = g :: l := by
  cases ps with
  | nil => exact absurd hln (by show ¬ 0 = n; omega)
  | cons g l => exact ⟨g, l, rfl⟩
 obtain ⟨ad, rfl, hr⟩ := hL.at_ hn;have hd : (((g :: ps).map PX.v).headD 0) = g.v := rfl;rw [hd];have h0 : (g :: ps)[0]? = some g := rfl;by_cases hg : f.v = g.v
 ·refine aj (N := 11) (l := [.agg #[.int .i64 f.v, .slice f.A f.n f.c], .pointer (some p)]) Tryz.func160 rfl rfl (by simp) ?_;refine sr ?_;refine cz hh [_,_] ?_;intro b2 w2 hh;refine aB (aa (ah ?_));refine NB ?_;refine ef ?_;refine gE 0 ?_;refine sM (fun _ hj => (hj.hp.below.cell (lQ hp)).trans hp) ?_;refine bz (i := 3) (fun ρ1 w1 hj hR => dA bk.out aM.size (show ρ1 6 = Value.slice _ _ _ from hR.1) rfl Uz Uz) ?_;refine KX ?_;refine sM (fun _ hj => cL hj.hp.below (((hr.recAt PX.len h0)) 0 _ rfl)) ?_;refine aT ?_;intro f W hJ hV;have hb_1 := hJ.bl;obtain ⟨v9, v8, v7, v6, v5, v4, _⟩ := hV;replace hh := hJ.hp;refine aY (br (ae v9 (ae v8 (ae v7 (ae v6 (ae v5 (ae v4 aX))))))) ?_;dsimp only [cg];clear hJ;exact Ou
 ·refine aj (N := 11) (l := [.agg #[.int .i64 f.v, .slice f.A f.n f.c], .pointer (some p)]) Tryz.func160 rfl rfl (by simp) ?_;refine sr ?_;refine cz hh [_,_] ?_;intro b2 w2 hh;refine aB (aa (ah ?_));refine NB ?_;refine ef ?_;refine gE 0 ?_;refine sM (fun _ hj => (hj.hp.below.cell (lQ hp)).trans hp) ?_;refine bz (i := 3) (fun ρ1 w1 hj hR => dA bk.out aM.size (show ρ1 6 = Value.slice _ _ _ from hR.1) rfl Uz Uz) ?_;refine KX ?_;refine sM (fun _ hj => cL hj.hp.below (((hr.recAt PX.len h0)) 0 _ rfl)) ?_;refine aT ?_;intro f W hJ hV;have hb_1 := hJ.bl;obtain ⟨v9, v8, v7, v6, v5, v4, _⟩ := hV;replace hh := hJ.hp;refine aY (br (ae v9 (ae v8 (ae v7 (ae v6 (ae v5 (ae v4 aX))))))) ?_;dsimp only [cg];clear hJ;exact OE
theorem CG (A : Option Addr) (n c : Nat) (l : List PX) (g : FuncId) (cap : List Value) (p : PX → Bool) (w : World) (hS : Sl w A n 2 (az PX.cells l)) (hn : n ≤ 1000000) [al Tryz.prog g]
  (hg : ∀ (z : PX) (w1 : World), z ∈ l → Below w.heap.size w w1 → Calls Tryz.prog g (.agg #[.int .i64 z.v, .slice z.A z.n z.c] :: cap).toArray w1 fun r w' => r = .returned (.bool (p z)) ∧ Below w1.heap.size w1 w') :
  Calls Tryz.prog 204 #[.slice A n c, .func (.func g) #[] cap.toArray] w fun r w' => ∃ v, r = .returned (.int .i64 v) ∧ (0 ≤ v ↔ l.any p = true) ∧ Below w.heap.size w w' := by
 have hh := Hp.start w;have hln := hS.bq PX.len UA;refine aj (N := 19) (l := [.slice A n c, .func (.func g) #[] cap.toArray]) Tryz.func204 rfl rfl (by simp) ?_;refine zX ?_;refine aR [4, 5, 8, 9, 10, 11, 12, 13, 14, 15, 16, 17, 18] 8
  (fun v w' => ∃ i : Nat, i ≤ n ∧ v = .int .i64 i ∧ (l.take i).any p = false ∧ Hp w [] w')
  (fun v _ => n - (intOf v).toNat) ?_ ?_
 ·exact ⟨0, UI _, rfl, rfl, hh⟩
 ·clear hh;rintro ρ' v w' ⟨i, hi, rfl, hall, hh⟩;by_cases hlt : i < n
  ·obtain ⟨z, hz⟩ := ak (l := l) (k := i) Uz;obtain ⟨ad, rfl, hr⟩ := hS.at_ Uz;have hc := fun w1 => hg z w1 (UJ hz)
   cases gz : p z with
   | true =>
    rw [gz] at hc;refine sr ?_;refine si ?_;refine iL ?_;refine mL (mI ?_);refine ct ?_;refine cw (vs := [_, _]) aM.out rfl ((hr.ext hh.below).recAt PX.len hz) rfl UA ?_;exact QR
   | false =>
    rw [gz] at hc;refine sr ?_;refine si ?_;refine iL ?_;refine mL (mI ?_);refine ct ?_;refine cw (vs := [_, _]) aM.out rfl ((hr.ext hh.below).recAt PX.len hz) rfl UA ?_;exact FH
  ·exact Pu
theorem uG (A : Option Addr) (n c : Nat) (l : List PX) (g : FuncId) (cap : List Value) (p : PX → Bool) (w : World) (hS : Sl w A n 2 (az PX.cells l)) (hn : n ≤ 1000000) [al Tryz.prog g]
  (hg : ∀ (z : PX) (w1 : World), z ∈ l → Below w.heap.size w w1 → Calls Tryz.prog g (.agg #[.int .i64 z.v, .slice z.A z.n z.c] :: cap).toArray w1 fun r w' => r = .returned (.bool (p z)) ∧ Below w1.heap.size w1 w') :
  Calls Tryz.prog 154 #[.slice A n c, .func (.func g) #[] cap.toArray] w fun r w' => r = .returned (.bool (l.any p)) ∧ Below w.heap.size w w' := by
 have hh := Hp.start w;refine aj (N := 9) (l := [.slice A n c, .func (.func g) #[] cap.toArray]) Tryz.func154 rfl rfl (by simp) ?_;refine sr (aB (aa (sr (mL ?_))));refine iL ?_;refine aF (CG A n c l g cap p _ (hS.ext hh.below) hn hg) al.out rfl UA ?_;exact Pz
theorem rN (L : Option Addr) (n c : Nat) (ps : List PX) (k : Nat) (w : World) (hT : eb w) (hL : Sl w L n 2 (az PX.cells ps)) (hn : n ≤ 1000000) (hf : ∀ g ∈ ps, g.at_ w) (hl : ∀ g ∈ ps, g.kO k) :
  Calls Tryz.prog 74 #[.slice L n c] w fun r w' => r = .returned (.int .i64 (fk ps)) ∧ Below w.heap.size w w' := by
 have hh := Hp.start w;have hln := hL.bq PX.len UA;refine aj (N := 26) (l := [.slice L n c]) Tryz.func74 rfl rfl (by simp) ?_;refine sr ?_;refine cz hh [_] ?_;intro b1 w1 hh;refine aI (aa (ah (sr ?_)));refine bG hh 0 ?_;refine aJ (mI (aa (aq ?_)));refine aR [2, 4, 5, 8, 9, 10, 11, 12, 13, 14, 15, 16, 17] 8
  (fun v w' => ∃ i : Nat, i ≤ n ∧ v = .int .i64 i ∧ (ps.take i).any (fun g => decide (g.e ≠ 0)) = false ∧ Hp w [.blk b1 104 [.slice L n c] (0, 0)] w')
  (fun v _ => n - (intOf v).toNat) ?_ ?_
 ·exact ⟨0, UI _, rfl, rfl, hh⟩
 ·clear hh;rintro ρ' v w' ⟨i, hi, rfl, hall, hh⟩;by_cases hlt : i < n
  ·obtain ⟨g, hx⟩ := ak (l := ps) (k := i) Uz;have hmem := UJ hx;have hc := fun w1 hT1 hb => mb g k w1 hT1 ((hf g hmem).ext hb) (hl g hmem);obtain ⟨ad, rfl, hr⟩ := hL.at_ Uz;by_cases he : g.e = 0
   ·refine sr ?_;refine dH ?_;refine ct ?_;refine I6 ?_;refine bW hh ?_;intro b4 w4 hh;refine bX hh 0 [_,_] ?_;intro ws hh;replace hh : Hp _ (.blk _ _ [_, _] _ :: _) _ := hh;refine aa (sr ?_);refine cE hh 0 [_,_] ?_;refine bD hh (hc _ (hT.hp hh) hh.below) rfl ?_;intro w13 hh;refine aI (aa (sr (mI ?_)));refine dk (aa (cF (ar (bE (ai (ao ?_))))));refine bo (mI (aC (ai ?_)));replace hh := hh.sub (UL _ (UG _ Ve));refine ⟨⟨i + 1, Uz, rfl, by rw [ay hx, XK, hall, XJ, XN, Vf Uz]; rfl, hh⟩, by show n - (i + 1) < n - i; omega, ?_⟩;exact dQ
   ·refine sr ?_;refine dH ?_;refine ct ?_;refine I6 ?_;refine bW hh ?_;intro b4 w4 hh;refine bX hh 0 [_,_] ?_;intro ws hh;replace hh : Hp _ (.blk _ _ [_, _] _ :: _) _ := hh;refine aa (sr ?_);refine cE hh 0 [_,_] ?_;refine bD hh (hc _ (hT.hp hh) hh.below) rfl ?_;intro w13 hh;refine aI (aa (sr (mI ?_)));refine dk (aa (cT (sr (mI (aI (aa (av (cf (aH (aH (cf (aH ?_))))))))))));refine de ?_;refine ⟨?_, hh.below⟩;unfold fk;rw [xk hall hx (U0 he)]
  ·rw [UQ Uz] at hall;have hlk : fk ps = if ps.length = 0 ∨ vC ps = true then 1 else 0 := by unfold fk; rw [iX hall]
   rw [hlk];by_cases h0 : n = 0
   ·refine sr ?_;refine JT ?_;refine bG hh 0 ?_;refine aJ ?_;refine cW (mB ?_);refine gS (gS ?_);refine jK ?_;refine fO ?_;refine zQ ?_;refine de ?_;exact ⟨by rw [UF (.inl Uz)], hh.below⟩
   ·have hcell : w'.cell? ⟨b1, 0, none⟩ = some (.slice L n c) := hh.dN (i := 0) rfl rfl;have ho := fun w1 hb => uG L n c ps 160 [.pointer (some ⟨b1, 0, none⟩)] (fun g => decide (g.v ≠ (ps.map PX.v).headD 0)) w1 (hL.ext (hh.below.trans (hb.mono hh.below.size))) hn (fun z w2 hz hb2 => DA L n c ps z ⟨b1, 0, none⟩ w2 ((hL.ext (hh.below.trans (hb.mono hh.below.size))).ext hb2) (cL hb2 (cL hb hcell)) Uz)
    cases hod : vC ps with
    | true =>
     have hod2 : ps.any (fun g => decide (g.v ≠ (ps.map PX.v).headD 0)) = true := hod;rw [hod2] at ho;refine sr ?_;refine JT ?_;refine bG hh 0 ?_;refine aJ ?_;refine cW (mB (gT ?_));refine bG hh 0 ?_;refine gT ?_;refine xy ?_;refine aG rfl rfl ?_;refine bD hh (ho _ (Below.refl _ _)) rfl ?_;intro w24 hh;refine eV ?_;refine zQ ?_;refine de ?_;exact ⟨by rw [UF (.inr rfl)], hh.below⟩
    | false =>
     have hod2 : ps.any (fun g => decide (g.v ≠ (ps.map PX.v).headD 0)) = false := hod;rw [hod2] at ho;refine sr ?_;refine JT ?_;refine bG hh 0 ?_;refine aJ ?_;refine cW (mB (gT ?_));refine bG hh 0 ?_;refine gT ?_;refine xy ?_;refine aG rfl rfl ?_;refine bD hh (ho _ (Below.refl _ _)) rfl ?_;intro w24 hh;refine eV ?_;refine Fj ?_;refine de ?_;refine ⟨?_, hh.below⟩;rw [UE];rintro (h | h)
     ·omega
     ·cases h
set_option maxRecDepth 100000 in
theorem Cw {H : Type} {enc : TypeId × Value → H} {x : DataW H × List MemPlace} (h : DataW.trod enc Tryz.prog W base sp held fuel 96 cs = some x) :
  ∃ t : TR, cs = t.cells ∧ True := by
 have c0 : Tryz.prog.cellsOf 96 = 4 := by kernel_rfl
 have c1 : Tryz.prog.cellsOf 9 = 1 := by kernel_rfl
 have c2 : Tryz.prog.cellsOf 65 = 3 := by kernel_rfl
 obtain ⟨y0, y1, n, _, hl, h0, h1⟩ := trod_struct2 Tryz.underlying96 h;obtain ⟨s, e0, _, _⟩ := DataW.trod_string Tryz.underlying9 h0;obtain ⟨a, e1, _⟩ := rj h1;rw [c0] at hl
 match cs, hl with
 | [x0, x1, x2, x3], _ =>
  simp only [c1, c2] at e0 e1;unfold NR.cells at e1;simp at e0 e1;obtain ⟨e1, e2, e3⟩ := e1;subst e0 e1 e2 e3;exact ⟨⟨s, a⟩, rfl, trivial⟩
set_option maxRecDepth 100000 in
theorem Dw {H : Type} {enc : TypeId × Value → H} {x : DataW H × List MemPlace} (h : DataW.trod enc Tryz.prog W base sp held fuel 24 cs = some x) :
  ∃ g : PX, cs = g.cells ∧ (g.at_ W ∧ g.n ≤ g.c) := by
 have c0 : Tryz.prog.cellsOf 24 = 2 := by kernel_rfl
 have c1 : Tryz.prog.cellsOf 3 = 1 := by kernel_rfl
 have c2 : Tryz.prog.cellsOf 22 = 1 := by kernel_rfl
 obtain ⟨y0, y1, n, _, hl, h0, h1⟩ := trod_struct2 Tryz.underlying24 h;obtain ⟨z, e0, _, _⟩ := DataW.trod_int Tryz.underlying3 h0;obtain ⟨B, m, b, k, e1, s1, _⟩ := Dc TR.len UA Tryz.underlying22 UB (fun _ _ _ h => Cw h) h1;rw [e1] at h1;have hroom := GH Tryz.underlying22 h1;rw [c0] at hl
 match cs, hl with
 | [x0, x1], _ =>
  simp only [c1, c2] at e0 e1;simp at e0 e1;subst e0 e1;exact ⟨⟨z, B, m, b, k⟩, rfl, s1, hroom⟩
set_option maxRecDepth 100000 in
theorem GM {H : Type} {enc : TypeId × Value → H} {r : Reach} {v : Value} {d : DataW H} {ps : List MemPlace}
  (hval : Value.okWide Tryz.prog W r b0 24 v) (hd : DataW.Trod enc Tryz.prog W base sp held 24 v d ps) : ∃ g : PX, v = .agg #[.int .i64 g.v, .slice g.A g.n g.c] ∧ g.at_ W ∧ g.n ≤ g.c := by
 obtain ⟨cs, rfl, _⟩ := okWide_struct Tryz.underlying24 hval;obtain ⟨fuel, hf⟩ := hd;obtain ⟨f, h1, h2⟩ := Dw hf;refine ⟨f, ?_, h2⟩;have h3 : cs.toList = f.cells := h1;rw [← Array.toList_inj.1 (show cs.toList = (#[.int .i64 f.v, .slice f.A f.n f.c] : Array Value).toList from h3)]
structure SR where
 lo : NR
 hi : NR
def SR.cells (s : SR) : List Value := [.bool s.lo.neg, .string s.lo.bA, .int .i64 s.lo.e, .bool s.hi.neg, .string s.hi.bA, .int .i64 s.hi.e]
theorem SR.len (s : SR) : (SR.cells s).length = 6 := rfl
def Ps (x y : Dyadic) : Dyadic := if y < x then y else x
def Qo (x y : Dyadic) : Dyadic := if x < y then y else x
theorem Js (x y : Dyadic) : iA (fun x y => decide (x < y)) [x, y] = Ps x y := by simp [iA, Ps]
theorem H7 (x y : Dyadic) : iA (fun x y => decide (y < x)) [x, y] = Qo x y := by simp [iA, Qo]
def SR.L (s : SR) : Dyadic := Ps s.lo.d s.hi.d
def SR.H (s : SR) : Dyadic := Qo s.lo.d s.hi.d
def SR.f (s : SR) : SR := ⟨nR s.L, nR s.H⟩
def SR.ok (s : SR) : Prop := s.lo.ok ∧ s.hi.ok
def SR.has (s : SR) (x : Dyadic) : Bool := decide (¬ x < s.L ∧ ¬ s.H < x)
def SR.wid (s : SR) : Dyadic := s.H - s.L
def SR.T6 (s : SR) : Dyadic := (s.lo.d + s.hi.d) * pf (-1)
theorem Py (x y : Dyadic) : Ps x y = x ∨ Ps x y = y := by unfold Ps; split <;> simp
theorem P8 (x y : Dyadic) : Qo x y = x ∨ Qo x y = y := by unfold Qo; split <;> simp
structure RT (k : Nat) (a : NR) : Prop where
 ok : a.ok
 sz : Sz k a.d
def SR.fin (k : Nat) (s : SR) : Prop := RT k s.lo ∧ RT k s.hi
theorem SR.MX {s : SR} (h : s.fin k) : Sz k s.L := by
 unfold SR.L
 rcases Py s.lo.d s.hi.d with e | e <;> rw [e]
 ·exact h.1.sz
 ·exact h.2.sz
theorem SR.QY {s : SR} (h : s.fin k) : Sz k s.H := by
 unfold SR.H
 rcases P8 s.lo.d s.hi.d with e | e <;> rw [e]
 ·exact h.1.sz
 ·exact h.2.sz
theorem Cv (L : Option Addr) (n c : Nat) (l : List NR) (w : World) (hT : eb w) (hS : Sl w L n 3 (az NR.cells l)) (hl : ∀ a ∈ l, a.ok) (hn : n ≤ 1000000) :
  Calls Tryz.prog 236 #[.slice L n c] w fun r w' => r = .returned (.agg (SR.cells ⟨nR (iA (fun x y => decide (x < y)) (l.map NR.d)), nR (iA (fun x y => decide (y < x)) (l.map NR.d))⟩).toArray) ∧ Below w.heap.size w w' := by
 have hh := Hp.start w;refine aj (N := 8) (l := [.slice L n c]) Tryz.func236 rfl rfl (by simp) ?_;refine sr ?_;refine bW hh ?_;intro b2 w2 hh;refine aa (sr (mL ?_));refine bD hh (Cn L n c l _ (hT.hp hh) (hS.ext hh.below) hl hn) rfl ?_;intro w4 hh;refine mL ?_;refine bD hh (Cr L n c l _ (hT.hp hh) (hS.ext hh.below) hl hn) rfl ?_;intro w6 hh;refine gH [_,_,_,_,_,_] ?_;exact RG
theorem CB (s : SR) (w : World) (hT : eb w) (hs : s.ok) :
  Calls Tryz.prog 203 #[.agg s.cells.toArray] w fun r w' => r = .returned (.agg s.f.cells.toArray) ∧ Below w.heap.size w w' := by
 have hh := Hp.start w;have hc := fun L c w1 hT1 hS1 => Cv L 2 c [s.lo, s.hi] w1 hT1 hS1 (by simpa using show s.lo.ok ∧ s.hi.ok from hs) Uz;simp only [U9, VD, Js, H7] at hc;refine aj (N := 10) (l := [.agg s.cells.toArray]) Tryz.func203 rfl rfl (by simp) ?_;refine sr ?_;refine cz hh [_,_,_,_,_,_] ?_;intro b1 w1 hh;refine bW hh ?_;intro b2 w2 hh;refine aa (sr (bH ?_));refine cE hh 1 [_,_,_] (bH ?_);refine cE hh 1 [_,_,_] ?_;refine xr ?_;intro b7 w7 hh;refine bD hh (hc _ _ _ (hT.hp hh) (hh.aA (i := 0) rfl)) rfl ?_;intro w8 hh;refine gH [_,_,_,_,_,_] ?_;refine bX hh 1 [_,_,_,_,_,_] ?_;intro ws hh;replace hh : Hp _ (_ :: .blk _ _ [_, _, _, _, _, _] _ :: _) _ := hh;refine aa (av ?_);refine Mn (eQ rfl (eN (vs := [_, _, _, _, _, _]) aM.out (hh.cn (i := 1) (n := 6) rfl rfl) rfl) gF) ?_;exact ⟨rfl, hh.below⟩
theorem yK (s : SR) (w : World) (hT : eb w) (hs : s.ok) :
  Calls Tryz.prog 171 #[.agg s.cells.toArray] w fun r w' => r = .returned (.agg s.f.cells.toArray) ∧ Below w.heap.size w w' := by
 have hh := Hp.start w;refine aj (N := 6) (l := [.agg s.cells.toArray]) Tryz.func171 rfl rfl (by simp) ?_;refine sr ?_;refine cz hh [_,_,_,_,_,_] ?_;intro b1 w1 hh;refine bW hh ?_;intro b2 w2 hh;refine aa (sr ?_);refine cE hh 1 [_,_,_,_,_,_] ?_;refine bD hh (CB s _ (hT.hp hh) hs) rfl ?_;intro w4 hh;refine Np eX.out aM.out rfl rfl UA ?_;exact RG
set_option maxRecDepth 100000 in
theorem Ch {H : Type} {enc : TypeId × Value → H} {x : DataW H × List MemPlace} (h : DataW.trod enc Tryz.prog W base sp held fuel 81 cs = some x) :
  ∃ a : SR, cs = a.cells ∧ True := by
 have c0 : Tryz.prog.cellsOf 81 = 6 := by kernel_rfl
 have c1 : Tryz.prog.cellsOf 65 = 3 := by kernel_rfl
 obtain ⟨y0, y1, n, _, hl, h0, h1⟩ := trod_struct2 Tryz.underlying81 h;obtain ⟨a, e0, _⟩ := rj h0;obtain ⟨b, e1, _⟩ := rj h1;rw [c0] at hl
 match cs, hl with
 | [x0, x1, x2, x3, x4, x5], _ =>
  simp only [c1] at e0 e1;simp [NR.cells] at e0 e1;obtain ⟨rfl, rfl, rfl⟩ := e0;obtain ⟨rfl, rfl, rfl⟩ := e1;exact ⟨⟨a, b⟩, rfl, trivial⟩
set_option maxRecDepth 100000 in
theorem I9 {H : Type} {enc : TypeId × Value → H} {r : Reach} {v : Value} {d : DataW H} {ps : List MemPlace}
  (hval : Value.okWide Tryz.prog W r b0 34 v) (hd : DataW.Trod enc Tryz.prog W base sp held 34 v d ps) : ∃ (A : Option Addr) (n c : Nat) (l : List SR), v = .slice A n c ∧ Sl W A n 6 (az SR.cells l) ∧ ∀ a ∈ l, True :=
 GW SR.len UA Tryz.underlying34 UB (fun _ _ _ h => Ch h) hval hd
def sm {α : Type} : List α → (α → Dyadic) → Dyadic
 | [], _ => 0
 | a :: l, f => f a + sm l f
section
variable {α β : Type}
theorem qL (l m : List α) (f : α → Dyadic) : sm (l ++ m) f = sm l f + sm m f := by
 induction l with
 | nil => simp [sm, WH]
 | cons a l ih => simp only [UP, sm, ih]; grind
theorem jh (l : List α) (a : α) (f : α → Dyadic) : sm (l ++ [a]) f = sm l f + f a := by
 rw [qL]; simp only [sm]; grind
theorem bg {l : List α} {f g : α → Dyadic} (h : ∀ a ∈ l, f a = g a) : sm l f = sm l g := by
 induction l with
 | nil => rfl
 | cons a l ih => rw [sm, sm, h a UR, ih fun b hb => h b (UT _ hb)]
theorem pF {l : List α} {f : α → Dyadic} (h : ∀ a ∈ l, f a = 0) : sm l f = 0 := by
 induction l with
 | nil => rfl
 | cons a l ih => rw [sm, h a UR, ih fun b hb => h b (UT _ hb)]; grind
theorem oP (l : List α) (f g : α → Dyadic) : sm l (fun a => f a + g a) = sm l f + sm l g := by
 induction l with
 | nil => simp [sm]
 | cons a l ih => simp only [sm, ih]; grind
theorem kN (l : List α) (f : α → Dyadic) (c : Dyadic) : sm l (fun a => f a * c) = sm l f * c := by
 induction l with
 | nil => simp only [sm]; grind
 | cons a l ih => simp only [sm, ih]; grind
theorem iC (l : List α) (f : α → Dyadic) (c : Dyadic) : sm l (fun a => c * f a) = c * sm l f := by
 induction l with
 | nil => simp only [sm]; grind
 | cons a l ih => simp only [sm, ih]; grind
theorem tR (l : List α) (g : α → β) (f : β → Dyadic) : sm (l.map g) f = sm l fun a => f (g a) := by
 induction l with
 | nil => rfl
 | cons a l ih => rw [U9, sm, sm, ih]
theorem nN (l : List α) (m : List β) (f : α → β → Dyadic) : sm l (fun a => sm m (f a)) = sm m fun b => sm l fun a => f a b := by
 induction l with
 | nil => exact (pF fun b _ => rfl).symm
 | cons a l ih => simp only [sm]; rw [ih, ← oP]
theorem GL (l : List α) (p : α → Bool) (f : α → Dyadic) (h : ∀ a ∈ l, p a = false → f a = 0) : sm (l.filter p) f = sm l f := by
 induction l with
 | nil => rfl
 | cons a l ih =>
  rw [sm, ← ih fun b hb => h b (UT _ hb)]
  cases hp : p a with
  | true => rw [List.filter_cons_of_pos hp, sm]
  | false => rw [X7 (by rw [hp]; exact Bool.false_ne_true), h a UR hp]; grind
theorem pE (n p : Nat) (c : Dyadic) : sm (List.range n) (fun q => if q = p then c else 0) = if p < n then c else 0 := by
 induction n with
 | zero => rw [UE Uz]; rfl
 | succ n ih =>
  rw [Wy, jh, ih]
  rcases Nat.lt_trichotomy p n with h | h | h
  ·rw [UF h, UE (show ¬ n = p by omega), UF (show p < n + 1 by omega)]; grind
  ·rw [UE (show ¬ p < n by omega), UF h.symm, UF (show p < n + 1 by omega)]; grind
  ·rw [UE (show ¬ p < n by omega), UE (show ¬ n = p by omega), UE (show ¬ p < n + 1 by omega)]; grind
end
def nV (N : Nat) (L : List (Nat × Dyadic)) : List Dyadic := (List.range N).map fun p => sm L fun q => if q.1 = p then q.2 else 0
theorem lh (N : Nat) (L : List (Nat × Dyadic)) : (nV N L).length = N := by simp [nV]
theorem uD (N : Nat) : nV N [] = List.replicate N 0 := by
 refine List.ext_getElem (by simp [nV]) fun i h1 h2 => ?_;simp [nV, sm]
theorem nn {p : Nat} (L : List (Nat × Dyadic)) (h : p < N) : (nV N L)[p]? = some (sm L fun q => if q.1 = p then q.2 else 0) := by
 unfold nV;rw [UO, Vq h]
 rfl
theorem G8 {p : Nat} {L : List (Nat × Dyadic)} {x v : Dyadic} (h : (nV N L)[p]? = some x) : (nV N L).set p (x + v) = nV N (L ++ [(p, v)]) := by
 have hp : p < N := by have := (UW.1 h).1; rwa [lh] at this
 rw [nn L hp] at h;refine VU fun i => ?_;rw [Wd];by_cases hi : p = i
 ·subst hi;rw [UF rfl, lh, UF hp, nn _ hp, jh, ← Vl h, UF rfl]
 ·rw [UE hi];by_cases hin : i < N
  ·rw [nn _ hin, nn _ hin, jh, UE hi];congr 1;grind
  ·rw [Vd (by rw [lh]; omega), Vd (by rw [lh]; omega)]
theorem Af {l : List α} {f : α → Dyadic} (h : ∀ a ∈ l, Sz k (f a)) : Sz (k + l.length) (sm l f) := by
 induction l with
 | nil => exact Sz.zero _
 | cons a l ih =>
  have h1 := ih fun b hb => h b (UT _ hb);have h2 := ((h a UR).mono (show k ≤ k + l.length by omega)).add h1;rw [sm, U7];exact h2.mono Uz
theorem MF {L : List (Nat × Dyadic)} (h : ∀ a ∈ L, Sz k a.2) : ∀ x ∈ nV N L, Sz (k + L.length) x := fun x hx => by
 obtain ⟨p, _, rfl⟩ := UY.1 hx;refine Af fun a ha => ?_;split
 ·exact h a ha
 ·exact Sz.zero _
def au : List Nat → Nat
 | [] => 1
 | d :: ds => (d + 1) * au ds
def cU : List Nat → Nat → List Nat
 | [], _ => []
 | d :: ds, p => p % (d + 1) :: cU ds (p / (d + 1))
def eW : List Nat → List Nat → Nat
 | d :: ds, r :: rs => r + (d + 1) * eW ds rs
 | _, _ => 0
def jD : List Nat → List Nat → Prop
 | [], [] => True
 | d :: ds, r :: rs => r ≤ d ∧ jD ds rs
 | _, _ => False
theorem cM (ds : List Nat) : 0 < au ds := by
 induction ds with
 | nil => exact Nat.one_pos
 | cons d ds ih => exact Nat.mul_pos Uz ih
theorem zN : ∀ (ds : List Nat) (p : Nat), (cU ds p).length = ds.length
 | [], _ => rfl
 | d :: ds, p => by rw [cU, U7, zN ds, U7]
theorem nG : ∀ (ds : List Nat) (p : Nat), jD ds (cU ds p)
 | [], _ => trivial
 | d :: ds, p => ⟨by have := Va p (show 0 < d + 1 by omega); omega, nG ds _⟩
theorem BE : ∀ {ds : List Nat} {p : Nat}, p < au ds → eW ds (cU ds p) = p
 | [], p, h => by
  have : p < 1 := h;show 0 = p;omega
 | d :: ds, p, h => by
  have h1 : p / (d + 1) < au ds := by rw [V5 Uz, Vg]; exact h
  rw [cU, eW, BE h1, Xf]
theorem kG : ∀ {ds rs : List Nat}, jD ds rs → eW ds rs < au ds
 | [], [], _ => Nat.one_pos
 | d :: ds, r :: rs, h => by
  have h1 := kG h.2;have h2 := h.1;rw [eW, au];have h3 : (d + 1) * eW ds rs + (d + 1) ≤ (d + 1) * au ds := by
   have := Vm (d + 1) (show eW ds rs + 1 ≤ au ds by omega);rw [Vz, U3] at this;exact this
  omega
theorem iB : ∀ {ds rs : List Nat}, jD ds rs → cU ds (eW ds rs) = rs
 | [], [], _ => rfl
 | d :: ds, r :: rs, h => by
  have h2 := h.1;rw [eW, cU, Wa, Vh Uz, VS _ _ Uz, Vx Uz, U5, iB h.2]
theorem sO (d : Nat) (ds : List Nat) (f : Nat → Dyadic) : sm (List.range (au (d :: ds))) f = sm (List.range (au ds)) fun q => sm (List.range (d + 1)) fun r => f (r + (d + 1) * q) := by
 have key : ∀ n, sm (List.range ((d + 1) * n)) f = sm (List.range n) fun q => sm (List.range (d + 1)) fun r => f (r + (d + 1) * q) := fun n => by
  induction n with
  | zero => rfl
  | succ n ih =>
   rw [Wy, jh, ← ih, Wf, List.range_add, qL, tR];congr 1;exact bg fun a _ => by rw [Wx]
 exact key _
variable {ls : List Int}
def lu (d : Int) : List Int := (List.range (d.toNat + 1)).map fun (k : Nat) => (k : Int)
def eP : List Int → List (List Int)
 | [] => [[]]
 | d :: ds => (lu d).flatMap fun k => (eP ds).map (k :: ·)
def fU (n : Nat) : List Int := List.replicate n 0
def rr : List Int → List Int → Option (List Int)
 | d :: ds, k :: l => match rr ds l with
  | some l' => some (k :: l')
  | none => if k < d then some ((k + 1) :: fU l.length) else none
 | _, _ => none
def nQ {α : Type} (f : α → Option α) : α → List α → Prop
 | a, [b] => b = a ∧ f a = none
 | a, b :: L => b = a ∧ ∃ c, f a = some c ∧ nQ f c L
 | _, [] => False
theorem Hw {f : α → Option α} {a : α} (h : f a = none) : nQ f a [a] := ⟨rfl, h⟩
theorem nk {f : α → Option α} {a c : α} {L : List α} (h : f a = some c) (hL : nQ f c L) : nQ f a (a :: L) := by
 cases L with
 | nil => exact hL.elim
 | cons b L => exact ⟨rfl, c, h, hL⟩
theorem vU {f : α → Option α} {a : α} {L : List α} (h : nQ f a L) : (L = [a] ∧ f a = none) ∨ ∃ c L', L = a :: L' ∧ f a = some c ∧ nQ f c L' := by
 match L, h with
 | [b], h => exact .inl ⟨by rw [h.1], h.2⟩
 | b :: c :: L, h => obtain ⟨h1, x, h2, h3⟩ := h; exact .inr ⟨x, c :: L, by rw [h1], h2, h3⟩
theorem AK {α β : Type} {f : α → Option α} {g : β → Option β} {e : α → β} {b : List β} {z : Option β} (hs : ∀ a c, f a = some c → g (e a) = some (e c)) (hn : ∀ a, f a = none → g (e a) = z)
  (hz : match z with | some c => nQ g c b | none => b = []) : ∀ (L : List α) (a : α), nQ f a L → nQ g (e a) (L.map e ++ b)
 | [c], a, h => by
  obtain ⟨h1, h2⟩ := h;subst h1
  cases z with
  | none => simp only at hz; subst hz; exact Hw (hn _ h2)
  | some x => exact nk (hn _ h2) hz
 | c :: d :: L, a, h => by
  obtain ⟨h1, x, h2, h3⟩ := h;subst h1;exact nk (hs _ _ h2) (AK hs hn hz (d :: L) x h3)
theorem Je (a : Int) : ∀ n : Nat, ((List.range (n + 1)).map fun (k : Nat) => a + (k : Int)) = a :: ((List.range n).map fun (k : Nat) => (a + 1) + (k : Int))
 | n => by
  rw [List.range_succ_eq_map, U9, VE];congr 1
  ·simp
  ·apply Ws;intro k _;simp only [Function.comp];omega
theorem AU {ds : List Int} {k d : Int} {R : List (List Int)} (hk : k < d) (ih : nQ (rr (d :: ds)) ((k + 1) :: fU ds.length) R) : ∀ (L' : List (List Int)) (a : List Int), (∀ l ∈ L', l.length = ds.length) → nQ (rr ds) a L' → nQ (rr (d :: ds)) (k :: a) (L'.map (k :: ·) ++ R)
 | [c], a, hl, h => by
  obtain ⟨h1, h2⟩ := h;subst h1;refine nk (c := (k + 1) :: fU ds.length) ?_ ih;have : c.length = ds.length := hl c (by simp);simp [rr, h2, this, hk]
 | c :: e :: L', a, hl, h => by
  obtain ⟨h1, x, h2, h3⟩ := h;subst h1;exact nk (c := k :: x) (by simp [rr, h2]) (AU hk ih (e :: L') x (fun l hm => hl l (UT _ hm)) h3)
theorem we {ds : List Int} (L : List (List Int)) (hL : nQ (rr ds) (fU ds.length) L) (hlen : ∀ l ∈ L, l.length = ds.length) (d : Int) : ∀ (n : Nat) (k : Int), k + n = d →
  nQ (rr (d :: ds)) (k :: fU ds.length) (((List.range (n + 1)).map fun (j : Nat) => k + (j : Int)).flatMap fun k => L.map (k :: ·))
 | 0, k, hk => by
  have hk' : k = d := Uz;subst hk';have := AK (g := rr (k :: ds)) (e := fun l => k :: l) (b := []) (z := none) (fun a c h => by simp [rr, h]) (fun a h => by simp [rr, h]) rfl L _ hL;simpa using this
 | n + 1, k, hk => by
  rw [Je, Xq];have ih := we L hL hlen d n (k + 1) Uz;exact AU Uz ih L _ hlen hL
theorem mj : ∀ (ds : List Int) (l : List Int), l ∈ eP ds → l.length = ds.length
 | [], l, h => by simp [eP] at h; simp [h]
 | d :: ds, l, h => by
  simp only [eP, WI, UY] at h;obtain ⟨k, _, l', h2, rfl⟩ := h;simp [mj ds l' h2]
theorem zG : ∀ ds : List Int, (∀ d ∈ ds, 0 ≤ d) → nQ (rr ds) (fU ds.length) (eP ds)
 | [], _ => ⟨rfl, rfl⟩
 | d :: ds, h => by
  have h0 := h d UR;have := we (eP ds) (zG ds fun x hx => h x (UT _ hx)) (mj ds) d d.toNat 0 Uz;simpa [eP, lu, fU, WS] using this
theorem ri (d : Int) : ∀ ds : List Int, eP (ds ++ [d]) = (eP ds).flatMap fun p => (lu d).map fun k => p ++ [k]
 | [] => by simp only [UN, eP, Xq, List.flatMap_nil, Vo, U9, VD]; induction lu d with
  | nil => rfl
  | cons a l ih => simp [ih]
 | e :: ds => by
  simp only [UP, eP, ri d ds, List.map_flatMap, List.flatMap_assoc, List.flatMap_map, VE, Function.comp_def]
theorem se : ∀ (ds : List Int), (∀ d ∈ ds, 0 ≤ d ∧ d ≤ 127) → ∀ l ∈ eP ds, l.all cC = true
 | [], _, l, h => by simp [eP] at h; simp [h]
 | d :: ds, hd, l, h => by
  simp only [eP, lu, WI, UY, Vi] at h;obtain ⟨_, ⟨k, hk, rfl⟩, l', h2, rfl⟩ := h;have := hd d UR;rw [List.all_cons, se ds (fun x hx => hd x (UT _ hx)) l' h2];simp [cC]; omega
theorem r9 (d : Int) : (lu d).length = d.toNat + 1 := by simp [lu]
theorem rG (d : Int) (ds : List Int) : (eP (ds ++ [d])).length = (eP ds).length * (d.toNat + 1) := by
 rw [ri, List.length_flatMap];simp only [US, r9]
 induction eP ds with
 | nil => simp
 | cons a l ih => simp [ih, WJ]; omega
def yC : Int → List Int → Bool
 | _, [] => true
 | n, d :: ds => decide (0 ≤ d) && (decide (d ≤ 127) && (decide (n * (d + 1) ≤ 65536) && yC (n * (d + 1)) ds))
def fX (l : List Int) : ByteArray := str (l.map xK)
def xD (ds : List Int) : List ByteArray := if yC 1 ds then (eP ds).map fX else []
theorem Av : ∀ ds : List Int, 0 < (eP ds).length
 | [] => by simp [eP]
 | d :: ds => by
  simp only [eP, lu, List.length_flatMap];rw [List.range_succ_eq_map];have := Av ds;simp; omega
theorem Jq : ∀ (ds : List Int) (n : Int), yC n ds = true → ∀ d ∈ ds, 0 ≤ d ∧ d ≤ 127
 | [], _, _, d, h => by simp at h
 | e :: ds, n, h, d, hd => by
  simp only [yC, UX, U2] at h
  rcases UZ.1 hd with rfl | hd
  ·exact ⟨h.1, h.2.1⟩
  ·exact Jq ds _ h.2.2.2 d hd
theorem Kl {ds : List Int} {d n : Int} (hk : ds[k]? = some d) (h : yC 1 ds = yC n (ds.drop k)) (hb : (0 ≤ d ∧ d ≤ 127) ∧ n * (d + 1) ≤ 65536) :
  yC 1 ds = yC (n * (d + 1)) (ds.drop (k + 1)) := by
 obtain ⟨hlt, he⟩ := UW.1 hk;rw [h, V0 hlt, he];simp [yC, hb.1.1, hb.1.2, hb.2]
theorem BJ {ds : List Int} {d n : Int} (hk : ds[k]? = some d) (h : yC 1 ds = yC n (ds.drop k)) (hb : ¬ ((0 ≤ d ∧ d ≤ 127) ∧ n * (d + 1) ≤ 65536)) : yC 1 ds = false := by
 obtain ⟨hlt, he⟩ := UW.1 hk;rw [h, V0 hlt, he];simp only [yC, Yb, XS]
 rcases Classical.em (0 ≤ d) with h1 | h1 <;> rcases Classical.em (d ≤ 127) with h2 | h2
 ·exact .inr (.inr (.inl Uz))
 ·exact .inr (.inl h2)
 ·exact .inl h1
 ·exact .inl h1
theorem lE {ds : List Int} {d : Int} (hk : ds[k]? = some d) (h0 : 0 ≤ d) : ((eP (ds.take (k + 1))).length : Int) = (eP (ds.take k)).length * (d + 1) := by
 rw [ay hk, rG, V2];congr 1;omega
def gX (d : Int) (s : ByteArray) : List ByteArray := (lu d).map fun q => s ++ str [xK q]
theorem JA (d k : Int) : ∀ (ps es : List Int) (ds ls : List Int), ps.length = es.length → rr ds ls = none → rr (es ++ d :: ds) (ps ++ k :: ls) = if k < d then some (ps ++ (k + 1) :: fU ls.length) else rr (es ++ d :: ds) (ps ++ k :: ls)
 | [], [], ds, ls, _, h => by
  simp only [UN, rr, h];split <;> rfl
 | p :: ps, e :: es, ds, ls, hl, h => by
  have ih := JA d k ps es ds ls (by simpa using hl) h;split
  ·rename_i hk;rw [UF hk] at ih;simp only [UP, rr, ih]
  ·rfl
 | [], _ :: _, _, _, hl, _ => by simp at hl
 | _ :: _, [], _, _, hl, _ => by simp at hl
theorem Jk {d k : Int} {ds : List Int} (h : rr ds ls = none) (hk : ¬ k < d) : rr (d :: ds) (k :: ls) = none := by
 simp [rr, h, hk]
theorem Hp.swap {x y : HE} {H : List HE} (h : Hp w0 (x :: y :: H) w) : Hp w0 (y :: x :: H) w := h.perm (.swap y x H)
def nS (ls : List Int) (k n : Nat) : List Int := ls.take k ++ fU (n - k)
theorem J9 (h : ls.length = n) : nS ls n n = ls := by
 unfold nS; rw [UQ Uz, Vw]; simp [fU]
theorem K6 (h : ls.length = n) (hk : k ≤ n) : (nS ls k n).length = n := by
 simp [nS, fU]; omega
theorem Qc {x : Int} (hx : ls[k]? = some x) : (nS ls (k + 1) n)[k]? = some x := by
 have hlt := (UW.1 hx).1;unfold nS;rw [WV (by simp; omega), Wq];simp [hx]
theorem Ez (y : Int) (h : ls.length = n) (hk : k < n) : cm (bL (nS ls (k + 1) n)) k [.int .i64 y] = bL (ls.take k ++ y :: fU (n - (k + 1))) := by
 have e1 : (nS ls (k + 1) n).take k = ls.take k := by
  unfold nS;rw [X5 (by simp; omega), List.take_take];congr 1; omega
 have e2 : (nS ls (k + 1) n).drop (k + 1) = fU (n - (k + 1)) := by
  unfold nS;have hl : (ls.take (k + 1)).length = k + 1 := by simp; omega
  rw [List.drop_append, hl, Wu Uz];simp
 simp only [cm, bL, ← XB, ← Xr, U7, Xz, U5, e1, e2];simp
theorem HO (hk : k < n) : ls.take k ++ 0 :: fU (n - (k + 1)) = nS ls k n := by
 unfold nS fU;rw [show n - k = (n - (k + 1)) + 1 by omega, WS]
theorem Il {ds : List Int} {d x : Int} (hd : ds.length = n) (hl : ls.length = n) (hdk : ds[k]? = some d) (hlk : ls[k]? = some x) (h : rr (ds.drop (k + 1)) (ls.drop (k + 1)) = none) (hx : x < d) :
  rr ds ls = some (ls.take k ++ (x + 1) :: fU (n - (k + 1))) := by
 obtain ⟨h1, h2⟩ := UW.1 hdk;obtain ⟨h3, h4⟩ := UW.1 hlk;have := JA d x (ls.take k) (ds.take k) _ _ (by simp; omega) h;rw [UF hx] at this;have e1 : ds.take k ++ d :: ds.drop (k + 1) = ds := by rw [← h2, ← V0 h1, VA]
 have e2 : ls.take k ++ x :: ls.drop (k + 1) = ls := by rw [← h4, ← V0 h3, VA]
 rw [e1, e2] at this;rw [this, VY, hl]
theorem J4 {ds : List Int} {d x : Int} (hdk : ds[k]? = some d) (hlk : ls[k]? = some x) (h : rr (ds.drop (k + 1)) (ls.drop (k + 1)) = none) (hx : ¬ x < d) : rr (ds.drop k) (ls.drop k) = none := by
 obtain ⟨h1, h2⟩ := UW.1 hdk;obtain ⟨h3, h4⟩ := UW.1 hlk;rw [V0 h1, V0 h3, h2, h4];exact Jk h hx
theorem Aa (h : ls.all cC = true) {x : Int} (hx : ls[k]? = some x) : 0 ≤ x ∧ x ≤ 127 := by
 have := Vb.1 h x (UJ hx);simpa [cC] using this
variable {ds rs : List Nat}
def bin : Nat → Nat → Nat
 | _, 0 => 1
 | 0, _ + 1 => 0
 | n + 1, k + 1 => bin n k + bin n (k + 1)
theorem mU (n : Nat) : bin n 0 = 1 := by cases n <;> rfl
theorem s7 : ∀ {n k : Nat}, n < k → bin n k = 0
 | 0, k + 1, _ => rfl
 | n + 1, k + 1, h => by rw [bin, s7 (show n < k by omega), s7 (show n < k + 1 by omega)]
theorem y5 : ∀ n, bin n n = 1
 | 0 => rfl
 | n + 1 => by rw [bin, y5 n, s7 (show n < n + 1 by omega)]
theorem yS : ∀ n k : Nat, bin n k ≤ 2 ^ n
 | n, 0 => by rw [mU]; exact Vj UA
 | 0, k + 1 => UI _
 | n + 1, k + 1 => by
  have h1 := yS n k;have h2 := yS n (k + 1);rw [bin, Vy];omega
def sF (n : Nat) : List Nat := (List.range (n + 1)).map (bin n)
theorem ux (n : Nat) : (sF n).length = n + 1 := by simp [sF]
theorem yH (h : k ≤ n) : (sF n)[k]? = some (bin n k) := by
 unfold sF;exact HL
def nD (n : Nat) : Dyadic := ((n : Int) : Dyadic)
theorem mf : nD 0 = 0 := rfl
theorem uM : nD 1 = 1 := rfl
theorem tW (a b : Nat) : nD (a + b) = nD a + nD b := by
 show Dyadic.ofIntWithPrec ((a + b : Nat) : Int) 0 = Dyadic.ofIntWithPrec (a : Int) 0 + Dyadic.ofIntWithPrec (b : Int) 0;rw [yT, WE]
theorem Po (a b : Nat) : nD (a * b) = nD a * nD b := by
 induction a with
 | zero => rw [Xl, mf]; grind
 | succ a ih => rw [VO, tW, tW, ih, uM]; grind
theorem NK (h : n < 2 ^ k) : Sz k (nD n) := by
 refine ⟨(n : Int) * 2 ^ k, ?_, ?_⟩
 ·have := qz (n : Int) 0 k;rw [show (0 : Int) + (k : Int) = k by omega] at this;rw [this]
  rfl
 ·rw [WQ, Xt, Int.natAbs_natCast, show 2 * k = k + k by omega, U8];exact Xo h (Vj UA)
theorem oR {α β : Type} {m : Nat} (hm : 0 < m) (g : α → List β) : ∀ (l : List α) (p : Nat), (∀ a ∈ l, (g a).length = m) → (l.flatMap g)[p]? = (l[p / m]?).bind fun a => (g a)[p % m]?
 | [], p, _ => by simp
 | a :: l, p, h => by
  have ha := h a UR;rw [Xq];by_cases hp : p < m
  ·rw [WV Uz, Vx hp, Vh hp]
   rfl
  ·obtain ⟨q, rfl⟩ : ∃ q, p = q + m := ⟨p - m, Uz⟩;rw [VW Uz, ha, Nat.add_sub_cancel, oR hm g l q fun b hb => h b (UT _ hb), Nat.add_div_right _ hm, Nat.add_mod_right, Xn]
theorem sl {α β : Type} {m : Nat} (g : α → List β) : ∀ (l : List α), (∀ a ∈ l, (g a).length = m) → (l.flatMap g).length = l.length * m
 | [], _ => by simp
 | a :: l, h => by
  rw [Xq, UM, h a UR, sl g l fun b hb => h b (UT _ hb), U7, VO, Wx]
def bI (l : List Nat) : List Int := l.map fun (n : Nat) => (n : Int)
theorem fR (l : List Nat) : (bI l).length = l.length := by simp [bI]
theorem jk {l : List Nat} {i : Nat} (h : l[i]? = some n) : (bI l)[i]? = some (n : Int) := by simp [bI, h]
theorem tr : ∀ (rs : List Nat), (eP (bI rs.reverse)).length = au rs ∧ ∀ p, p < au rs → (eP (bI rs.reverse))[p]? = some (bI (cU rs p).reverse)
 | [] => ⟨rfl, fun p h => by obtain rfl : p = 0 := (by have h2 : p < 1 := h; omega); rfl⟩
 | d :: rs => by
  obtain ⟨h1, h2⟩ := tr rs;have e1 : bI (d :: rs).reverse = bI rs.reverse ++ [(d : Int)] := by simp [bI]
  have hu : (lu (d : Int)).length = d + 1 := by rw [r9]; simp
  have hg : ∀ a ∈ eP (bI rs.reverse), ((lu (d : Int)).map fun k => a ++ [k]).length = d + 1 := fun a _ => by rw [US, hu]
  rw [e1, ri];refine ⟨by rw [sl _ _ hg, h1, au, Vg], fun p hp => ?_⟩;have hq : p / (d + 1) < au rs := by rw [V5 Uz, Vg]; exact hp
  have hr : p % (d + 1) < d + 1 := Va _ Uz;rw [oR Uz _ _ _ hg, h2 _ hq];show ((lu (d : Int)).map fun k => bI (cU rs (p / (d + 1))).reverse ++ [k])[p % (d + 1)]? = _;rw [UO, lu, UO, Vq (by simpa using hr)];simp [cU, bI]
theorem IW (ds : List Nat) : (eP (bI ds)).length = au ds.reverse := by
 have := (tr ds.reverse).1;rwa [XG] at this
theorem LN {p : Nat} (h : p < au ds.reverse) : (eP (bI ds))[p]? = some (bI (cU ds.reverse p).reverse) := by
 have := (tr ds.reverse).2 p h;rwa [XG] at this
theorem nx : ∀ {ds rs : List Nat}, jD ds rs → rs.length = ds.length
 | [], [], _ => rfl
 | _ :: _, _ :: _, h => by rw [U7, U7, nx h.2]
theorem Ke {i d r : Nat} (hd : ds[i]? = some d) (hr : rs[i]? = some r) : eW (ds.take (i + 1)).reverse (rs.take (i + 1)).reverse = r + (d + 1) * eW (ds.take i).reverse (rs.take i).reverse := by
 rw [ay hd, ay hr];simp [eW]
theorem Kj {i d : Nat} (hd : ds[i]? = some d) : au (ds.take (i + 1)).reverse = (d + 1) * au (ds.take i).reverse := by
 rw [ay hd];simp [au]
theorem du (a b : List Nat) : au (a ++ b) = au a * au b := by
 induction a with
 | nil => simp [au]
 | cons d a ih => rw [UP, au, au, ih, VB]
theorem cx (ds : List Nat) : au ds.reverse = au ds := by
 induction ds with
 | nil => rfl
 | cons d ds ih => rw [Xg, du, ih, au, au, au, U3, Vg]
theorem jn (ds : List Nat) (i : Nat) : au (ds.take i) ≤ au ds := by
 have : ds = ds.take i ++ ds.drop i := (VA i ds).symm
 calc au (ds.take i) = au (ds.take i) * 1 := (U3 _).symm
  _ ≤ au (ds.take i) * au (ds.drop i) := Vm _ (cM _)
  _ = au ds := by rw [← du, VA]
theorem lR (A : Option Addr) (n c : Nat) (ds : List Int) (w : World) (hS : Sl w A n 1 (bL ds)) (hn : n ≤ 1000000) :
  Calls Tryz.prog 89 #[.slice A n c] w fun r w' => ∃ B c', r = .returned (.slice B n c') ∧ w'.ownsRow w.heap.size 3 1 (.slice B n c') n (bL ds) ∧ Below w.heap.size w w' := by
 have hh := Hp.start w
 rcases A with _ | ad
 ·have hn0 : n = 0 := by
   exact QE
  subst hn0;have hl : ds = [] := Wk (by simpa [bL] using hS.1);subst hl;refine aj (N := 8) (l := [.slice none 0 c]) Tryz.func89 rfl rfl (by simp) ?_;exact QV
 ·refine aj (N := 8) (l := [.slice (some ad) n c]) Tryz.func89 rfl rfl (by simp) ?_;refine sr (aL (aa (ah (sr (mL ?_)))));refine sU bk.out rfl rfl UA ?_;refine vh ?_;refine ki hh bk.out aM.out UA ?_;intro b5 w5 hh;refine mL ?_;refine cH hh (i := 0) rfl rfl rfl (hS.ext hh.below) bk.out aM.out rfl UA ?one1 Uz Uz UA ?kk1
  case one1 => first | rfl | assumption | exact bT _ | exact oneCells_u8s _
  exact PS
theorem yO (A : Option Addr) (n c : Nat) (xs : List NR) (w : World) (hS : Sl w A n 3 (az NR.cells xs)) (hn : n ≤ 1000000) :
  Calls Tryz.prog 102 #[.slice A n c] w fun r w' => ∃ B c', r = .returned (.slice B n c') ∧ w'.ownsRow w.heap.size 65 3 (.slice B n c') n (az NR.cells xs) ∧ Below w.heap.size w w' := by
 have hh := Hp.start w
 rcases A with _ | ad
 ·have hn0 : n = 0 := by
   exact QE
  subst hn0;have hl : xs = [] := Wk (by have := hS.bq NR.len UA; omega);subst hl;refine aj (N := 8) (l := [.slice none 0 c]) Tryz.func102 rfl rfl (by simp) ?_;exact QV
 ·have hone : ((az NR.cells xs).all Value.oneCell') = true := ck NR.one _;refine aj (N := 8) (l := [.slice (some ad) n c]) Tryz.func102 rfl rfl (by simp) ?_;refine sr (aL (aa (ah (sr (mL ?_)))));refine sU bk.out rfl rfl UA ?_;refine vh ?_;refine ki hh bk.out aM.out UA ?_;intro b5 w5 hh;refine mL ?_;refine cH hh (i := 0) rfl rfl rfl (hS.ext hh.below) bk.out aM.out rfl UA ?one2 Uz Uz UA ?kk2
  case one2 => first | rfl | assumption | exact bT _ | exact oneCells_u8s _
  exact PS
theorem B2 (A : Option Addr) (n c : Nat) (l : List Int) (g : FuncId) (cap : List Value) (p : Int → Bool) (w : World) (hS : Sl w A n 1 (bL l)) (hn : n ≤ 1000000) [al Tryz.prog g]
  (hg : ∀ (z : Int) (w1 : World), z ∈ l → Below w.heap.size w w1 → Calls Tryz.prog g (.int .i64 z :: cap).toArray w1 fun r w' => r = .returned (.bool (p z)) ∧ Below w1.heap.size w1 w') :
  Calls Tryz.prog 172 #[.slice A n c, .func (.func g) #[] cap.toArray] w fun r w' => ∃ v, r = .returned (.int .i64 v) ∧ (0 ≤ v ↔ l.any p = true) ∧ Below w.heap.size w w' := by
 have hh := Hp.start w;have hln : l.length = n := by have := hS.1; simpa [bL] using this
 refine aj (N := 19) (l := [.slice A n c, .func (.func g) #[] cap.toArray]) Tryz.func172 rfl rfl (by simp) ?_;refine zX ?_;refine aR [4, 5, 8, 9, 10, 11, 12, 13, 14, 15, 16, 17, 18] 8
  (fun v w' => ∃ i : Nat, i ≤ n ∧ v = .int .i64 i ∧ (l.take i).any p = false ∧ Hp w [] w')
  (fun v _ => n - (intOf v).toNat) ?_ ?_
 ·exact ⟨0, UI _, rfl, rfl, hh⟩
 ·clear hh;rintro ρ' v w' ⟨i, hi, rfl, hall, hh⟩;by_cases hlt : i < n
  ·obtain ⟨z, hz⟩ := ak (l := l) (k := i) Uz;have hgi := cu hz;obtain ⟨ad, rfl, hr⟩ := hS.at_ Uz;have hc := fun w1 => hg z w1 (UJ hz)
   cases gz : p z with
   | true =>
    rw [gz] at hc;refine sr ?_;refine si ?_;refine iL ?_;refine mL (mI ?_);refine ct ?_;refine tC ?_;exact QR
   | false =>
    rw [gz] at hc;refine sr ?_;refine si ?_;refine iL ?_;refine mL (mI ?_);refine ct ?_;refine tC ?_;exact FH
  ·exact Pu
theorem Cj (A : Option Addr) (n c : Nat) (l : List Int) (g : FuncId) (cap : List Value) (p : Int → Bool) (w : World) (hS : Sl w A n 1 (bL l)) (hn : n ≤ 1000000) [al Tryz.prog g]
  (hg : ∀ (z : Int) (w1 : World), z ∈ l → Below w.heap.size w w1 → Calls Tryz.prog g (.int .i64 z :: cap).toArray w1 fun r w' => r = .returned (.bool (p z)) ∧ Below w1.heap.size w1 w') :
  Calls Tryz.prog 100 #[.slice A n c, .func (.func g) #[] cap.toArray] w fun r w' => r = .returned (.bool (l.any p)) ∧ Below w.heap.size w w' := by
 have hh := Hp.start w;refine aj (N := 9) (l := [.slice A n c, .func (.func g) #[] cap.toArray]) Tryz.func100 rfl rfl (by simp) ?_;refine sr (aB (aa (sr (mL ?_))));refine iL ?_;refine aF (B2 A n c l g cap p _ (hS.ext hh.below) hn hg) al.out rfl UA ?_;exact Pz
theorem Cq (A : Option Addr) (n c : Nat) (l : List NR) (g : FuncId) (cap : List Value) (p : NR → Bool) (w : World) (hS : Sl w A n 3 (az NR.cells l)) (hn : n ≤ 1000000) [al Tryz.prog g]
  (hg : ∀ (z : NR) (w1 : World), z ∈ l → Below w.heap.size w w1 → Calls Tryz.prog g (.agg #[.bool z.neg, .string z.bA, .int .i64 z.e] :: cap).toArray w1 fun r w' => r = .returned (.bool (p z)) ∧ Below w1.heap.size w1 w') :
  Calls Tryz.prog 193 #[.slice A n c, .func (.func g) #[] cap.toArray] w fun r w' => ∃ v, r = .returned (.int .i64 v) ∧ (0 ≤ v ↔ l.any p = true) ∧ Below w.heap.size w w' := by
 have hh := Hp.start w;have hln := hS.bq NR.len UA;refine aj (N := 19) (l := [.slice A n c, .func (.func g) #[] cap.toArray]) Tryz.func193 rfl rfl (by simp) ?_;refine zX ?_;refine aR [4, 5, 8, 9, 10, 11, 12, 13, 14, 15, 16, 17, 18] 8
  (fun v w' => ∃ i : Nat, i ≤ n ∧ v = .int .i64 i ∧ (l.take i).any p = false ∧ Hp w [] w')
  (fun v _ => n - (intOf v).toNat) ?_ ?_
 ·exact ⟨0, UI _, rfl, rfl, hh⟩
 ·clear hh;rintro ρ' v w' ⟨i, hi, rfl, hall, hh⟩;by_cases hlt : i < n
  ·obtain ⟨z, hz⟩ := ak (l := l) (k := i) Uz;obtain ⟨ad, rfl, hr⟩ := hS.at_ Uz;have hc := fun w1 => hg z w1 (UJ hz)
   cases gz : p z with
   | true =>
    rw [gz] at hc;refine sr ?_;refine si ?_;refine iL ?_;refine mL (mI ?_);refine ct ?_;refine cw (vs := [_, _, _]) aM.out rfl ((hr.ext hh.below).recAt NR.len hz) rfl UA ?_;exact QR
   | false =>
    rw [gz] at hc;refine sr ?_;refine si ?_;refine iL ?_;refine mL (mI ?_);refine ct ?_;refine cw (vs := [_, _, _]) aM.out rfl ((hr.ext hh.below).recAt NR.len hz) rfl UA ?_;exact FH
  ·exact Pu
theorem B6 (A : Option Addr) (n c : Nat) (l : List NR) (g : FuncId) (cap : List Value) (p : NR → Bool) (w : World) (hS : Sl w A n 3 (az NR.cells l)) (hn : n ≤ 1000000) [al Tryz.prog g]
  (hg : ∀ (z : NR) (w1 : World), z ∈ l → Below w.heap.size w w1 → Calls Tryz.prog g (.agg #[.bool z.neg, .string z.bA, .int .i64 z.e] :: cap).toArray w1 fun r w' => r = .returned (.bool (p z)) ∧ Below w1.heap.size w1 w') :
  Calls Tryz.prog 130 #[.slice A n c, .func (.func g) #[] cap.toArray] w fun r w' => r = .returned (.bool (l.any p)) ∧ Below w.heap.size w w' := by
 have hh := Hp.start w;refine aj (N := 9) (l := [.slice A n c, .func (.func g) #[] cap.toArray]) Tryz.func130 rfl rfl (by simp) ?_;refine sr (aB (aa (sr (mL ?_))));refine iL ?_;refine aF (Cq A n c l g cap p _ (hS.ext hh.below) hn hg) al.out rfl UA ?_;exact Pz
variable {xs : List Dyadic}
def gL : Int → List Int → Int
 | n, [] => n
 | n, d :: ds => if d < 0 ∨ 127 < d ∨ 4096 < n * (d + 1) then 0 else gL (n * (d + 1)) ds
def yh : Int → List Int → Int
 | n, [] => n
 | n, d :: ds => yh (min (n * (d + 1)) 4097) ds
def FN (ds : List Int) : Int := if ds.any (fun d => !cC d) then -1 else yh 1 ds
def vw (a : NR) : Bool := !(((nR a.d).neg == a.neg && (nR a.d).bA == a.bA) && (nR a.d).e == a.e)
theorem o9 {a : NR} : vw a = false ↔ nR a.d = a := by
 unfold vw;rw [Bool.not_eq_false', nC]
def fE (ds : List Int) (cs : List NR) : Int :=
 if 12 < ds.length ∨ ds.any (fun d => !cC d) = true then 1 else if gL 1 ds = 0 then 3 else if (cs.length : Int) ≠ gL 1 ds then 1 else if cs.any vw = true then 1 else 0
theorem xj {ds : List Int} (h : ds.any (fun d => !cC d) = false) : ∃ ns : List Nat, ds = bI ns ∧ ∀ n ∈ ns, n ≤ 127 := by
 refine ⟨ds.map Int.toNat, ?_, fun n hn => ?_⟩
 ·unfold bI;rw [VE];refine (Xv ds).symm.trans (Ws fun d hd => ?_);have := Wb.1 h d hd;simp [cC] at this;show d = ((d.toNat : Nat) : Int);omega
 ·obtain ⟨d, hd, rfl⟩ := UY.1 hn;have := Wb.1 h d hd;simp [cC] at this;omega
theorem uY {ns : List Nat} (h : ∀ n ∈ ns, n ≤ 127) : (bI ns).any (fun d => !cC d) = false := by
 rw [Wb];intro d hd;obtain ⟨n, hn, rfl⟩ := UY.1 hd;have := h n hn;simp [cC];omega
theorem jE : ∀ (ns : List Nat) (n : Nat), 1 ≤ n → n ≤ 4096 → (∀ d ∈ ns, d ≤ 127) → gL n (bI ns) = if n * au ns ≤ 4096 then ((n * au ns : Nat) : Int) else 0
 | [], n, _, h, _ => by show (n : Int) = _; rw [au, U3, UF h]
 | d :: ns, n, h1, h2, h3 => by
  show (if (d : Int) < 0 ∨ 127 < (d : Int) ∨ 4096 < (n : Int) * ((d : Int) + 1) then 0 else gL ((n : Int) * ((d : Int) + 1)) (bI ns)) = _;have hd := h3 d UR;have e1 : (n : Int) * ((d : Int) + 1) = ((n * (d + 1) : Nat) : Int) := by rw [V2, WE]; rfl
  rw [e1];by_cases hg : n * (d + 1) ≤ 4096
  ·rw [UE Uz, jE ns (n * (d + 1)) (Nat.mul_pos h1 Uz) hg fun x hx => h3 x (UT _ hx), au, VB]
  ·have h4 : n * (d + 1) * 1 ≤ n * (d + 1) * au ns := Vm _ (cM ns);rw [UF Uz, UE];rw [au, ← VB];omega
theorem Ag : ∀ (ns : List Nat) (n : Nat), 1 ≤ n → n ≤ 4097 → yh n (bI ns) = ((min (n * au ns) 4097 : Nat) : Int)
 | [], n, _, h => by show (n : Int) = _; rw [au, U3, VM h]
 | d :: ns, n, h1, h2 => by
  show yh (min ((n : Int) * ((d : Int) + 1)) 4097) (bI ns) = _;have e1 : min ((n : Int) * ((d : Int) + 1)) 4097 = ((min (n * (d + 1)) 4097 : Nat) : Int) := by
   have : (n : Int) * ((d : Int) + 1) = ((n * (d + 1) : Nat) : Int) := by rw [V2, WE]; rfl
   rw [this]; omega
  have hp := Nat.mul_pos h1 (show 0 < d + 1 by omega);rw [e1, Ag ns _ Uz Uz, au, ← VB];by_cases hg : n * (d + 1) ≤ 4097
  ·rw [VM hg]
  ·have h4 : n * (d + 1) * 1 ≤ n * (d + 1) * au ns := Vm _ (cM ns);have h5 : 4097 * 1 ≤ 4097 * au ns := Vm _ (cM ns);rw [Nat.min_eq_right (by omega : 4097 ≤ n * (d + 1)), Nat.min_eq_right Uz, Nat.min_eq_right Uz]
theorem Fg : ∀ (ds : List Int) (n : Int), 1 ≤ n → n ≤ 4096 → 0 ≤ gL n ds ∧ gL n ds ≤ 4096
 | [], n, _, h => by show 0 ≤ n ∧ n ≤ 4096; omega
 | d :: ds, n, h1, h2 => by
  rw [gL];split
  ·omega
  ·rename_i hg;have : 1 * 1 ≤ n * (d + 1) := XE h1 Uz UA Uz;exact Fg ds _ Uz Uz
structure FV (ds : List Int) (cs : List NR) (ns : List Nat) (xs : List Dyadic) : Prop where
 Up : ds = bI ns
 num : cs = xs.map nR
 NO : ns.length ≤ 12
 low : ∀ n ∈ ns, n ≤ 127
 len : xs.length = au ns
 max : au ns ≤ 4096
theorem RK {ds : List Int} {cs : List NR} (h : fE ds cs = 0) : ∃ ns xs, FV ds cs ns xs ∧ xs = cs.map NR.d := by
 unfold fE at h;split at h
 ·cases h
 rename_i h1;split at h
 ·cases h
 rename_i h2;split at h
 ·cases h
 rename_i h3;split at h
 ·cases h
 rename_i h4;have hb : ds.any (fun d => !cC d) = false := by
  cases hx : ds.any (fun d => !cC d) with
  | false => rfl
  | true => exact absurd (.inr hx) h1
 obtain ⟨ns, rfl, hl⟩ := xj hb;have hc := jE ns 1 UA UA hl;rw [Wr] at hc;have hc1 : gL ((1 : Nat) : Int) (bI ns) = gL 1 (bI ns) := rfl;rw [hc1] at hc;have hmax : au ns ≤ 4096 := by
  apply Wz;intro hg;rw [UE hg] at hc;exact h2 hc
 rw [UF hmax] at hc;have hlen : cs.length = au ns := by
  have : (cs.length : Int) = gL 1 (bI ns) := W5.1 h3;rw [hc] at this;omega
 refine ⟨ns, cs.map NR.d, ⟨rfl, ?_, (by have h2 : ¬ 12 < (bI ns).length := fun h => h1 (.inl h); rw [fR] at h2; omega), hl, by rw [US, hlen], hmax⟩, rfl⟩;rw [VE];refine (Xv cs).symm.trans (Ws fun a ha => ?_);have h5 : vw a = false := by
  cases hx : vw a with
  | false => rfl
  | true => exact absurd (Wi.2 ⟨a, ha, hx⟩) h4
 exact (o9.1 h5).symm
theorem FV.ok {ds : List Int} {cs : List NR} {ns : List Nat} (h : FV ds cs ns xs) : fE ds cs = 0 := by
 obtain ⟨rfl, rfl, h1, h2, h3, h4⟩ := h;have hc := jE ns 1 UA UA h2;rw [Wr, UF h4] at hc;have hc1 : gL ((1 : Nat) : Int) (bI ns) = gL 1 (bI ns) := rfl;rw [hc1] at hc;have hp := cM ns;unfold fE;rw [UE, UE Uz, UE (by rw [US]; omega), UE]
 ·rw [Wi];rintro ⟨a, ha, hx⟩;obtain ⟨x, _, rfl⟩ := UY.1 ha;have : vw (nR x) = false := o9.2 (by rw [bY]);rw [this] at hx
  cases hx
 ·rw [fR, uY h2];rintro (h | h)
  ·omega
  ·cases h
theorem ez (A : Option Addr) (n c : Nat) (ds : List Int) (w : World) (hS : Sl w A n 1 (bL ds)) (hn : n ≤ 1000000) :
  Calls Tryz.prog 90 #[.slice A n c] w fun r w' => r = .returned (.int .i64 (gL 1 ds)) ∧ Below w.heap.size w w' := by
 have hh := Hp.start w;have hln : ds.length = n := by have := hS.1; simpa [bL] using this
 refine aj (N := 31) (l := [.slice A n c]) Tryz.func90 rfl rfl (by simp) ?_;refine sr (aI (aa (sr (aI (aa (ah (sr (mL (aJ (mI (aa (aq ?_))))))))))));refine bK [2, 3, 5, 8, 9, 10, 11, 12, 13, 14, 15, 16, 17, 18, 19, 20, 21, 22, 23, 24, 25, 26, 27, 28, 29] 3 8
  (fun v3 v w' => ∃ (i : Nat) (q : Int), i ≤ n ∧ v = .int .i64 i ∧ v3 = .int .i64 q ∧ 1 ≤ q ∧ q ≤ 4096 ∧ gL 1 ds = gL q (ds.drop i) ∧ Hp w [] w')
  (fun _ v _ => n - (intOf v).toNat) ?_ ?_
 ·exact ⟨0, 1, UI _, rfl, rfl, Uz, Uz, rfl, hh⟩
 ·clear hh;rintro ρ' v3 v w' ⟨i, q, hi, rfl, rfl, hq1, hq2, hc, hh⟩;by_cases hlt : i < n
  ·obtain ⟨d, hd⟩ := ak (l := ds) (k := i) Uz;have hgi := cu hd;obtain ⟨ad, rfl, hr⟩ := hS.at_ Uz;rw [gl hd, gL] at hc;by_cases h1 : d < 0
   ·rw [UF (.inl h1)] at hc;refine sr ?_;refine dH ?_;refine ct ?_;refine tC ?_;refine aI (aa (ah (sr (mI ?_))));refine bh (mB ?_);refine gS (gS ?_);refine fO ?_;refine mB ?_;refine gS (gS (gS (gS (gS ?_))));refine fO ?_;exact Pp
   ·by_cases h2 : 127 < d
    ·rw [UF (.inr (.inl h2))] at hc;refine sr ?_;refine dH ?_;refine ct ?_;refine tC ?_;refine aI (aa (ah (sr (mI ?_))));refine bh (mB (gT (mI (gT ?_))));refine cq ?_;refine eV ?_;refine mB ?_;refine gS (gS (gS (gS (gS ?_))));refine fO ?_;exact Pp
    ·have hm1 : 1 * 1 ≤ q * (d + 1) := XE hq1 Uz UA Uz;have hm2 : q * (d + 1) ≤ 4096 * 128 := XE hq2 Uz Uz UA;by_cases h3 : 4096 < q * (d + 1)
     ·rw [UF (.inr (.inr h3))] at hc;refine sr ?_;refine dH ?_;refine ct ?_;refine tC ?_;refine aI (aa (ah (sr (mI ?_))));refine bh (mB (gT (mI (gT ?_))));refine cq ?_;refine eV ?_;refine mB (gT (mI (gT (mI (gT ?_)))));refine bo (gT ?_);refine mulC (gT ?_);refine cq ?_;refine eV ?_;exact Pp
     ·rw [UE Uz] at hc;refine sr ?_;refine dH ?_;refine ct ?_;refine tC ?_;refine aI (aa (ah (sr (mI ?_))));refine bh (mB (gT (mI (gT ?_))));refine cq ?_;refine eV ?_;refine mB (gT (mI (gT (mI (gT ?_)))));refine bo (gT ?_);refine mulC (gT ?_);refine cq ?_;refine eV ?_;refine aa (cF (ar (ai (ao (mI (mI ?_))))));refine bo ?_;refine mulC (aI (aC (bE (ai (ao ?_)))));refine bo (mI (aC (ai ?_)));refine ⟨⟨i + 1, _, Uz, rfl, rfl, Uz, Uz, hc, hh⟩, by show n - (i + 1) < n - i; omega, ?_⟩;exact dQ
  ·rw [Wu Uz] at hc;refine sr ?_;refine bh (aa (ah (cF (a9 (aE (aE (bC (ai (sr (mI (aI (aa (av ?_)))))))))))));refine de ?_;exact ⟨by rw [hc]; rfl, hh.below⟩
theorem Cd (d : Int) (w : World) :
  Calls Tryz.prog 129 #[.int .i64 d] w fun r w' => r = .returned (.bool (!cC d)) ∧ Below w.heap.size w w' := by
 have hh := Hp.start w;by_cases h1 : d < 0
 ·refine aj (N := 9) (l := [.int .i64 d]) Tryz.func129 rfl rfl (by simp) ?_;refine sr (aB (aa (sr (mI ?_))));refine bh (mB ?_);refine gS (gS ?_);refine fO ?_;refine aB (aa (av ?_));refine de ?_;refine ⟨?_, hh.below⟩;unfold cC;rw [Vf (show ¬ 0 ≤ d by omega)]
  rfl
 ·by_cases h2 : 127 < d
  ·refine aj (N := 9) (l := [.int .i64 d]) Tryz.func129 rfl rfl (by simp) ?_;refine sr (aB (aa (sr (mI ?_))));refine bh (mB (gT (mI (gT ?_))));refine cq ?_;refine eV ?_;refine aB (aa (av ?_));refine de ?_;refine ⟨?_, hh.below⟩;unfold cC;rw [Vf (show ¬ d ≤ 127 by omega), Bool.and_false]
   rfl
  ·refine aj (N := 9) (l := [.int .i64 d]) Tryz.func129 rfl rfl (by simp) ?_;refine sr (aB (aa (sr (mI ?_))));refine bh (mB (gT (mI (gT ?_))));refine cq ?_;refine eV ?_;refine aB (aa (av ?_));refine de ?_;refine ⟨?_, hh.below⟩;unfold cC;rw [U0 (show 0 ≤ d by omega), U0 (show d ≤ 127 by omega)]
   rfl
theorem Ct (a : NR) (w : World) (hT : eb w) (ha : a.ok) :
  Calls Tryz.prog 131 #[.agg #[.bool a.neg, .string a.bA, .int .i64 a.e]] w fun r w' => r = .returned (.bool (vw a)) ∧ Below w.heap.size w w' := by
 have hh := Hp.start w;have hf := fun w1 hT1 => eC a w1 hT1 (by have := ha.1; omega) (by have := ha.2; omega) (by have := ha.2; omega)
 cases hx : vw a with
 | false =>
  have he := o9.1 hx;refine aj (N := 7) (l := [.agg #[.bool a.neg, .string a.bA, .int .i64 a.e]]) Tryz.func131 rfl rfl (by simp) ?_;refine sr ?_;refine cz hh [_,_,_] ?_;intro b1 w1 hh;refine aB (aa (ah ?_));refine aZ 3 [[(1, none)], [(3, some 0)], [(1, none)]] [(2, 5), (1, 4), (0, 3)] hh mixed UB ?_;refine fS 0 [_,_,_] ?_;refine dC (fun _ hj => hf _ (hT.hp hj.hp)) ?_;refine fS 0 [_,_,_] ?_;refine aT ?_;intro f W hJ hV;have hb_1 := hJ.bl;obtain ⟨v5, v4, v3, _⟩ := hV;replace hh := hJ.hp;refine aY (br (ae v5 (ae v4 (ae v3 aX)))) ?_;dsimp only [cg];clear hJ;refine Fs rfl rfl (by first | assumption | rfl) UA ?_;exact vy
 | true =>
  have he : ¬ nR a.d = a := fun h => by rw [o9.2 h] at hx; cases hx
  refine aj (N := 7) (l := [.agg #[.bool a.neg, .string a.bA, .int .i64 a.e]]) Tryz.func131 rfl rfl (by simp) ?_;refine sr ?_;refine cz hh [_,_,_] ?_;intro b1 w1 hh;refine aB (aa (ah ?_));refine aZ 3 [[(1, none)], [(3, some 0)], [(1, none)]] [(2, 5), (1, 4), (0, 3)] hh mixed UB ?_;refine fS 0 [_,_,_] ?_;refine dC (fun _ hj => hf _ (hT.hp hj.hp)) ?_;refine fS 0 [_,_,_] ?_;refine aT ?_;intro f W hJ hV;have hb_1 := hJ.bl;obtain ⟨v5, v4, v3, _⟩ := hV;replace hh := hJ.hp;refine aY (br (ae v5 (ae v4 (ae v3 aX)))) ?_;dsimp only [cg];clear hJ;refine Lw rfl rfl (by assumption) UA ?_;exact vy
theorem vA (A B : Option Addr) (n c m c2 : Nat) (ds : List Int) (cs : List NR) (w : World) (hT : eb w) (hS : Sl w A n 1 (bL ds)) (hS2 : Sl w B m 3 (az NR.cells cs)) (hn : n ≤ 1000000) (hm : m ≤ 1000000) (hc : ∀ a ∈ cs, a.ok) :
  Calls Tryz.prog 41 #[.agg #[.slice A n c, .slice B m c2]] w fun r w' => r = .returned (.int .i64 (fE ds cs)) ∧ Below w.heap.size w w' := by
 have hh := Hp.start w;have hln : ds.length = n := by have := hS.1; simpa [bL] using this
 have hlm := hS2.bq NR.len UA;have h1 := fun w1 hS1 => Cj A n c ds 129 [] (fun d => !cC d) w1 hS1 hn (fun z w2 _ hb => Cd z w2);have h2 := fun w1 (hT1 : eb w1) hS1 => B6 B m c2 cs 131 [] vw w1 hS1 hm (fun z w2 hz hb => Ct z w2 (hT1.ext hb) (hc z hz));have h3 := Fg ds 1 Uz Uz;unfold fE;by_cases g1 : 12 < n
 ·refine wv ?_;refine sr ?_;refine cz hh [_,_] ?_;intro b1 w1 hh;refine u3 ?_;refine bG hh 0 ?_;refine aJ ?_;refine cq (mB ?_);refine gS (gS ?_);refine jK ?_;refine fO ?_;refine Fy ?_;refine de ?_;exact ⟨by rw [UF (.inl Uz)], hh.below⟩
 ·cases g2 : ds.any (fun d => !cC d) with
  | true =>
   refine wv ?_;refine sr ?_;refine cz hh [_,_] ?_;intro b1 w1 hh;refine u3 ?_;refine bG hh 0 ?_;refine aJ ?_;refine cq (mB (gT (bH (gT ?_))));refine bG hh 0 ?_;refine aG rfl rfl ?_;refine bD hh (h1 _ (hS.ext hh.below)) rfl ?_;intro w11 hh;rw [g2];refine eV ?_;refine Fy ?_;refine de ?_;exact ⟨by rw [UF (.inr rfl)], hh.below⟩
  | false =>
   rw [UE (fun h => h.elim (fun h => by omega) (fun h => by cases h))];by_cases g3 : gL 1 ds = 0
   ·refine wv ?_;refine sr ?_;refine cz hh [_,_] ?_;intro b1 w1 hh;refine u3 ?_;refine bG hh 0 ?_;refine aJ ?_;refine cq (mB (gT (bH (gT ?_))));refine bG hh 0 ?_;refine aG rfl rfl ?_;refine bD hh (h1 _ (hS.ext hh.below)) rfl ?_;intro w11 hh;rw [g2];refine eV ?_;refine aB (aa (cF (sr (bH ?_))));refine bG hh 0 ?_;refine DJ ?_;intro w16 hh;refine cW (aB (aa (cT (sr (aI (aa (av (cf (aH ?_)))))))));refine de ?_;exact ⟨by rw [UF g3], hh.below⟩
   ·rw [UE g3];by_cases g4 : (m : Int) = gL 1 ds
    ·rw [UE (show ¬ (cs.length : Int) ≠ gL 1 ds by omega)]
     cases g5 : cs.any vw with
     | true =>
      refine wv ?_;refine sr ?_;refine cz hh [_,_] ?_;intro b1 w1 hh;refine u3 ?_;refine bG hh 0 ?_;refine aJ ?_;refine cq (mB (gT (bH (gT ?_))));refine bG hh 0 ?_;refine aG rfl rfl ?_;refine bD hh (h1 _ (hS.ext hh.below)) rfl ?_;intro w11 hh;rw [g2];refine eV ?_;refine aB (aa (cF (sr (bH ?_))));refine bG hh 0 ?_;refine DJ ?_;intro w16 hh;refine cW (aB (aa (cF (ah ?_))));refine Kf ?_;refine ef ?_;refine gE 0 ?_;refine CE ?_;refine ef ?_;refine gE 0 ?_;refine dC (fun _ hj => ez A n c ds _ (hS.ext hj.hp.below) hn) ?_;refine aT ?_;intro f W hJ hV;have hb_5 := hJ.bl;obtain ⟨v24, v23, v22, v21, v20, v19, _⟩ := hV;replace hh := hJ.hp;refine Kg ?_;dsimp only [cg];clear hJ;refine dk (aB (aa (cF (ar (bE (ai (ah (sr (bH ?_)))))))));refine bG hh 0 ?_;refine bD hh (h2 _ (hT.hp hh) (hS2.ext hh.below)) rfl ?_;intro w28 hh;rw [g5];refine zQ ?_;refine de ?_;exact ⟨by rw [UF rfl], hh.below⟩
     | false =>
      refine wv ?_;refine sr ?_;refine cz hh [_,_] ?_;intro b1 w1 hh;refine u3 ?_;refine bG hh 0 ?_;refine aJ ?_;refine cq (mB (gT (bH (gT ?_))));refine bG hh 0 ?_;refine aG rfl rfl ?_;refine bD hh (h1 _ (hS.ext hh.below)) rfl ?_;intro w11 hh;rw [g2];refine eV ?_;refine aB (aa (cF (sr (bH ?_))));refine bG hh 0 ?_;refine DJ ?_;intro w16 hh;refine cW (aB (aa (cF (ah ?_))));refine Kf ?_;refine ef ?_;refine gE 0 ?_;refine CE ?_;refine ef ?_;refine gE 0 ?_;refine dC (fun _ hj => ez A n c ds _ (hS.ext hj.hp.below) hn) ?_;refine aT ?_;intro f W hJ hV;have hb_5 := hJ.bl;obtain ⟨v24, v23, v22, v21, v20, v19, _⟩ := hV;replace hh := hJ.hp;refine Kg ?_;dsimp only [cg];clear hJ;refine dk (aB (aa (cF (ar (bE (ai (ah (sr (bH ?_)))))))));refine bG hh 0 ?_;refine bD hh (h2 _ (hT.hp hh) (hS2.ext hh.below)) rfl ?_;intro w28 hh;rw [g5];refine Fj ?_;refine de ?_;exact ⟨by rw [UE UA], hh.below⟩
    ·rw [UF (show (cs.length : Int) ≠ gL 1 ds by omega)];refine wv ?_;refine sr ?_;refine cz hh [_,_] ?_;intro b1 w1 hh;refine u3 ?_;refine bG hh 0 ?_;refine aJ ?_;refine cq (mB (gT (bH (gT ?_))));refine bG hh 0 ?_;refine aG rfl rfl ?_;refine bD hh (h1 _ (hS.ext hh.below)) rfl ?_;intro w11 hh;rw [g2];refine eV ?_;refine aB (aa (cF (sr (bH ?_))));refine bG hh 0 ?_;refine DJ ?_;intro w16 hh;refine cW (aB (aa (cF (ah ?_))));refine Kf ?_;refine ef ?_;refine gE 0 ?_;refine CE ?_;refine ef ?_;refine gE 0 ?_;refine dC (fun _ hj => ez A n c ds _ (hS.ext hj.hp.below) hn) ?_;refine aT ?_;intro f W hJ hV;have hb_5 := hJ.bl;obtain ⟨v24, v23, v22, v21, v20, v19, _⟩ := hV;replace hh := hJ.hp;refine Kg ?_;dsimp only [cg];clear hJ;refine dk (aB (aa (cT (sr (aI (aa (av (cf (aH ?_)))))))));refine de ?_;exact ⟨rfl, hh.below⟩
def Pt : List Nat → List Nat → Bool
 | [], [] => true
 | d :: ds, r :: rs => decide (r ≤ d) && Pt ds rs
 | _, _ => false
theorem EX : ∀ (ds rs : List Nat), Pt ds rs = true ↔ jD ds rs
 | [], [] => by simp [Pt, jD]
 | [], _ :: _ => by simp [Pt, jD]
 | _ :: _, [] => by simp [Pt, jD]
 | d :: ds, r :: rs => by rw [Pt, jD, UX, U2, EX ds rs]
def co (ds : List Nat) (xs : List Dyadic) (row : List Nat) : Dyadic := if Pt ds row then (xs[eW ds row]?).getD 0 else 0
theorem BF {row : List Nat} (h : jD ds row) : co ds xs row = (xs[eW ds row]?).getD 0 := by
 unfold co; rw [UF ((EX _ _).2 h)]
theorem yn {p : Nat} (h : p < au ds) : co ds xs (cU ds p) = (xs[p]?).getD 0 := by
 rw [BF (nG ds p), BE h]
theorem Pk {ys : List Dyadic} (hx : xs.length = au ds) (hy : ys.length = au ds) (h : ∀ row, jD ds row → co ds xs row = co ds ys row) : xs = ys := by
 refine List.ext_getElem (by rw [hx, hy]) fun p h1 h2 => ?_;have h3 := h (cU ds p) (nG ds p);rw [yn Uz, yn Uz, VZ h1, VZ h2] at h3;exact h3
def CF : List Nat → List Nat → List Nat
 | a :: l, b :: m => (a + b) :: CF l m
 | _, _ => []
def S9 : (List Nat → Dyadic) → List Nat → List Nat → Dyadic
 | F, r :: rs, j :: js => if j ≤ r then S9 (fun t => F ((r - j) :: t)) rs js else 0
 | F, [], [] => F []
 | _, _, _ => 0
def Q5 : List Nat → List Nat → Nat
 | m :: ms, j :: js => bin m j * Q5 ms js
 | _, _ => 1
def Tv : List Nat → (List Nat → Dyadic) → List Nat → Dyadic
 | m :: ms, F, r :: rs => sm (List.range (m + 1)) fun j => if j ≤ r then nD (bin m j) * Tv ms (fun t => F ((r - j) :: t)) rs else 0
 | _, F, row => F row
def TJ (ds es : List Nat) (xs ys : List Dyadic) : List (Nat × Dyadic) :=
 (List.range (au es)).flatMap fun k => (List.range (au ds)).map fun i => (eW (CF ds es) (CF (cU ds i) (cU es k)), (xs[i]?).getD 0 * (ys[k]?).getD 0)
theorem tw (n : Nat) (f : Nat → Dyadic) : sm (List.range (n + 1)) f = f 0 + sm (List.range n) fun j => f (j + 1) := by
 induction n with
 | zero => simp only [Wy, List.range_zero, UN, sm]
 | succ n ih => rw [Wy, jh, ih, Wy (n := n), jh]; grind
def Ta (row : List Nat) (a : Nat) : List Nat := row.set a (row.getD a 0 - 1)
def lz (n : Nat) : List NR := (sF n).map fun k => nR (nD k)
theorem IG (n : Nat) : (lz n).length = n + 1 := by simp [lz, ux]
theorem kM (h : k ≤ n) : (lz n)[k]? = some (nR (nD (bin n k))) := by
 unfold lz;rw [UO, yH h]
 rfl
theorem rq (n k : Nat) (h : n ≤ 127) : Sz 128 (nD (bin n k)) := NK (VK (yS n k) (Nat.pow_lt_pow_right UA Uz))
theorem kT (n : Nat) (w : World) (hT : eb w) (hn : n ≤ 127) :
  Calls Tryz.prog 135 #[.int .i64 n] w fun r w' => ∃ A c', r = .returned (.slice A (n + 1) c') ∧ w'.ownsRow w.heap.size 65 3 (.slice A (n + 1) c') (n + 1) (az NR.cells (lz n)) ∧ Below w.heap.size w w' := by
 have hh := Hp.start w;refine aj (N := 39) (l := [.int .i64 n]) Tryz.func135 rfl rfl (by simp) ?_;refine sr (aL (aa (sr ?_)));refine AA ?_;intro w6 hh;refine sw ?_;intro b7 w7 hh;refine aL (aa (ah (sr (mI (mI (aa (aq ?_)))))));refine bK [3, 4, 5, 9, 10, 11, 12, 13, 14, 15, 16, 17, 18, 19, 20, 21, 22, 23, 24, 25, 26, 27, 28, 29, 30, 31, 32, 33, 34, 35, 36, 37] 3 9
  (fun v3 v w' => ∃ (i c3 : Nat) (A : Option Addr), i ≤ n ∧ v = .int .i64 i ∧ v3 = .slice A (i + 1) c3 ∧ Hp w [.row A (i + 1) c3 65 3 (az NR.cells (lz i))] w')
  (fun _ v _ => n - (intOf v).toNat) ?_ ?_
 ·exact ⟨0, _, _, UI _, rfl, rfl, hh⟩
 ·clear hh;rintro ρ' v3 v w' ⟨i, c3, A, hi, rfl, rfl, hh⟩;by_cases hlt : i < n
  ·refine sr ?_;refine dH ?_;refine AA ?_;intro w11 hh;refine sw ?_;intro b12 w12 hh;refine aL (aa (ah (sr (aI (aa (aq ?_))))));refine bK [4, 5, 13, 14, 15, 16, 17, 18, 19, 20, 21, 22, 23, 24, 25, 26, 27, 28, 29, 30, 31, 32] 4 5
    (fun v4 v w' => ∃ (k c4 : Nat) (B : Option Addr), k ≤ i ∧ v = .int .i64 ((k + 1 : Nat) : Int) ∧ v4 = .slice B (k + 1) c4 ∧ Hp w [.row B (k + 1) c4 65 3 (az NR.cells ((lz (i + 1)).take (k + 1))), .row A (i + 1) c3 65 3 (az NR.cells (lz i))] w')
    (fun _ v _ => i + 1 - (intOf v).toNat) ?_ ?_
   ·refine ⟨0, _, _, UI _, rfl, rfl, ?_⟩;rw [show (lz (i + 1)).take (0 + 1) = [nR (nD 1)] by rw [ay (kM (UI _)), mU]; rfl];exact hh
   ·clear hh;rintro ρ2 v4 v w2 ⟨k, c4, B, hk, rfl, rfl, hh⟩;by_cases hlk : k < i
    ·have e1 := kM (n := i) (k := k) Uz;have e2 := kM (n := i) (k := k + 1) Uz;have e3 := kM (n := i + 1) (k := k + 1) Uz;have z1 := rq i k Uz;have z2 := rq i (k + 1) Uz;have hadd := fun A cc w1 hT1 hS1 => jd A 2 cc [nR (nD (bin i k)), nR (nD (bin i (k + 1)))] w1 hT1 hS1 (by simpa using ⟨z1.ok Uz, z2.ok Uz⟩) 128 (by simpa [bY] using ⟨z1, z2⟩) Uz;rw [show mA ([nR (nD (bin i k)), nR (nD (bin i (k + 1)))].map NR.d) = nD (bin (i + 1) (k + 1)) by simp only [U9, VD, bY, k0, bin, tW]] at hadd;obtain ⟨go, rfl⟩ := hh.cN (i := 1) rfl Uz;refine ah (sr (mI (mL (aJ ?_))));refine bh (aa (cT (ar (ai (ah (aq ?_))))));refine aZ 13 [[(4, none)], [(3, none)], [(5, none)], [(21, some 2)], [(20, some 1), (22, some 3)], [(23, some 4)], [(3, none)], [(5, none)], [(25, some 6), (26, some 7)], [(27, some 8)], [(24, some 5), (28, some 9)], [(29, some 10)], [(30, some 11)]] [(12, 31), (11, 30), (10, 29), (9, 28), (8, 27), (7, 26), (6, 25), (5, 24), (4, 23), (3, 22), (2, 21), (1, 20), (0, 19)] hh mixed UB ?_;refine gC ?_;refine gC ?_;refine dP ?_;refine vN ?_;refine KZ (k) ?_
     refine su [_,_,_] (fun _ hj => hj.hp.iF (f := NR.cells) (x := nR (nD (bin i k))) (l := lz i) (i := 1) rfl NR.len UA e1) ?_;refine gC ?_;refine dP ?_;refine KZ ((k + 1)) ?_;refine su [_,_,_] (fun _ hj => hj.hp.iF (f := NR.cells) (x := nR (nD (bin i (k + 1)))) (l := lz i) (i := 1) rfl NR.len UA e2) ?_;refine sA [_,_,_,_,_,_] ?_;refine aP (i := 11) (Is (.agg #[.bool (nR (nD (bin (i + 1) (k + 1)))).neg, .string (nR (nD (bin (i + 1) (k + 1)))).bA, .int .i64 (nR (nD (bin (i + 1) (k + 1)))).e])) Is.ext ?_ ?_
     ·intro ρ1 w1 hj hR;obtain ⟨A29, c29, h29, s29⟩ := hR.1;exact a7 rfl (aK al.out (aw h29 aW)) (hadd A29 c29 _ (hT.hp hj.hp) s29) (fun _ _ hq => ⟨_, hq.1, hq.2, rfl⟩)
     refine sA [_,_,_] ?_;refine aT ?_;intro f W hJ hV;have hb_8 := hJ.bl;obtain ⟨v31, v30, v29, v28, v27, v26, v25, v24, v23, v22, v21, v20, v19, _⟩ := hV;obtain ⟨A29, c29, e29, f29⟩ : Rows _ _ _ (f 10) W := v29;obtain ⟨A31, c31, e31, f31⟩ : Rows _ _ _ (f 12) W := v31;replace hh := hJ.hp;refine aY (br (ae e31 (ae v30 (ae e29 (ae v28 (ae v27 (ae v26 (ae v25 (ae v24 (ae v23 (ae v22 (ae v21 (ae v20 (ae v19 aX)))))))))))))) ?_;dsimp only [cg];clear e29 e31 hJ;refine cH hh (i := 0) rfl rfl rfl (f31) bk.out aM.out rfl UA (by first | rfl | exact dz _ | exact dh _ | exact bT _ | exact ck NR.one _) Uz Uz UA ?_;intro A32 c32 w32 hh;simp only [UU] at hh;refine vR ?_;refine bo (aI (aC (ai ?_)));replace hh := hh.sub (UG _ (UG _ Ve));refine ⟨⟨k + 1, c32, A32, Uz, rfl, rfl, ?_⟩, by show i + 1 - (k + 1 + 1) < i + 1 - (k + 1); omega, ?_⟩
     ·rw [ay e3, bU];exact hh
     ·exact dQ
    ·obtain rfl : k = i := Uz;have e3 := kM (n := k + 1) (k := k + 1) (UH _);refine ah (sr (mI (mL (aJ ?_))));refine bh (aa (cF (a9 (aE (aE (bC (ai (ao (mL ?_)))))))));refine AA ?_;intro w34 hh;refine sw ?_;intro b35 w35 hh;refine qi ?_;intro A36 c36 w36 hh;simp only [UU, Vp] at hh;replace hh := hh.sub (Vs _ _);refine kK ?_;refine bo (mI (aC (ai ?_)));replace hh := hh.sub (UG _ (UL _ Ve));refine ⟨⟨k + 1, c36, A36, Uz, rfl, rfl, ?_⟩, by show n - (k + 1) < n - k; omega, ?_⟩
     ·have e4 : lz (k + 1) = (lz (k + 1)).take (k + 1) ++ [nR (nD (bin (k + 1) (k + 1)))] := by
       rw [← ay e3, UQ (by rw [IG]; omega)]
      rw [e4, bU, y5];exact hh
     ·exact dQ
  ·obtain rfl : i = n := Uz;exact QB
def CS (ds : List Nat) : List Nat := (List.range (au ds.reverse)).map fun p => Q5 ds.reverse (cU ds.reverse p)
theorem KF (ds : List Nat) (d : Nat) : CS (ds ++ [d]) = (CS ds).flatMap fun x => (sF d).map (x * ·) := by
 have hl : ∀ a ∈ CS ds, ((sF d).map (a * ·)).length = d + 1 := fun a _ => by rw [US, ux]
 refine VU fun p => ?_;rw [oR Uz _ _ _ hl];unfold CS;rw [List.reverse_append, List.reverse_singleton, List.singleton_append];by_cases hp : p < au (d :: ds.reverse)
 ·have hq : p / (d + 1) < au ds.reverse := by rw [V5 Uz, Vg]; exact hp
  have hr : p % (d + 1) ≤ d := by have := Va p (show 0 < d + 1 by omega); omega
  rw [UO, Vq hp, UO, Vq hq];simp only [Wj, W3, UO, yH hr, cU, Q5, Vg]
 ·have hq : ¬ p / (d + 1) < au ds.reverse := by rw [V5 Uz, Vg]; exact hp
  rw [Vd (by simp; omega), Vd (l := List.map _ _) (by simp; omega)]
  rfl
theorem DP (ds : List Nat) : (CS ds).length = au ds := by simp [CS, cx]
def K0 (ds : List Nat) : List NR := (CS ds).map fun k => nR (nD k)
end Go.Proofs.YteeckcbbnegmcaaGreatDoor
