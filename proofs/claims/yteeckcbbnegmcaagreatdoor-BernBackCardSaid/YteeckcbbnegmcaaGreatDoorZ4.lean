/- Lemmas for bernBack, part 4. -/
import Derived.LaidMore
import Derived.Lay
import Derived.Deep.Slices
import Derived.Stop.Joined
import Derived.Deep.Strs
import Derived.Laws.OwnMore
import Derived.Lib.SliceRun
import Derived.Test.YteeckcbbnegmcaaGreatDoorZ3
namespace Go.Proofs.YteeckcbbnegmcaaGreatDoor
variable {n : Nat}
open Go.RowKit
theorem nA : bF n = 0 ↔ n = 0 := by
 constructor
 ·intro h;have := dm n;rw [h] at this;omega
 ·intro h; rw [h]; exact k0
theorem mQ {a b : Nat} (h : a ≤ b) : bF a ≤ bF b := dx (U8 h (dm b))
theorem Ht (a b : Nat) : bF (a + b) ≤ bF a + bF b + 1 := by
 apply dx;have h1 := dm a;have h2 := dm b;have h3 : 2 ^ bF a ≤ 2 ^ (bF a + bF b) := UL TX TX;have h4 : 2 ^ bF b ≤ 2 ^ (bF a + bF b) := UL TX TX;rw [UQ];omega
theorem dy (s : Bool) (m : ByteArray) (w : World) (hm : m.size ≤ 1000000000) :
  Calls Tryz.prog 209 #[.agg #[.bool s, .string m]] w fun e w' => e = .returned (.agg #[.bool (iN (iv s m)), .string (iM (iv s m))]) ∧ Below w.heap.size w w' := by
 have hh := Hp.start w;have h1 := jf m;rw [NZ, DB]
 cases s with
 | false =>
  refine aj (N := 16) (l := [.agg #[.bool false, .string m]]) Tryz.func209 rfl rfl (by simp) ?_;refine sr ?_;refine cD hh [_,_] ?_;intro b1 w1 hh;refine bV hh ?_;intro b2 w2 hh;refine aa (sr (bH ?_));refine bG hh 1 ?_;refine aF (eT m _ hm) al.out rfl TY ?_;rintro e_ w6 ⟨A6, c6, rfl, hown_, hb_⟩;refine ⟨_, rfl, ?_⟩;replace hh := hh.aW (x := .row _ _ _ _ _ _) hb_ hown_;refine Kg ?_;intro w7 hh;rw [ir];refine aS (aa (sr (bH ?_)));refine bG hh 2 ?_;refine mB ?_;refine gS (gS ?_);refine e7 ?_;refine mS ?_;refine gB [_,_] ?_;exact Kf
 | true =>
  by_cases h0 : sN (bN m) = ByteArray.mk #[]
  ·refine aj (N := 16) (l := [.agg #[.bool true, .string m]]) Tryz.func209 rfl rfl (by simp) ?_;refine sr ?_;refine cD hh [_,_] ?_;intro b1 w1 hh;refine bV hh ?_;intro b2 w2 hh;refine aa (sr (bH ?_));refine bG hh 1 ?_;refine aF (eT m _ hm) al.out rfl TY ?_;rintro e_ w6 ⟨A6, c6, rfl, hown_, hb_⟩;refine ⟨_, rfl, ?_⟩;replace hh := hh.aW (x := .row _ _ _ _ _ _) hb_ hown_;refine Kg ?_;intro w7 hh;rw [ir];refine aS (aa (sr (bH ?_)));refine bG hh 2 ?_;refine mB (gT (mS (gT ?_)))
   (first | refine kv rfl rfl (by first | rfl | assumption | decide) TY ?_ | refine km rfl rfl (by first | assumption | decide) TY ?_)
   refine fL ?_;refine mS ?_;refine gB [_,_] ?_;refine bW hh 1 [_,_] ?_;intro ws hh;replace hh : Hp _ (_ :: .blk _ _ [_, _] _ :: _) _ := hh;refine aa (au ?_);refine Af ?_;exact QJ
  ·refine aj (N := 16) (l := [.agg #[.bool true, .string m]]) Tryz.func209 rfl rfl (by simp) ?_;refine sr ?_;refine cD hh [_,_] ?_;intro b1 w1 hh;refine bV hh ?_;intro b2 w2 hh;refine aa (sr (bH ?_));refine bG hh 1 ?_;refine aF (eT m _ hm) al.out rfl TY ?_;rintro e_ w6 ⟨A6, c6, rfl, hown_, hb_⟩;refine ⟨_, rfl, ?_⟩;replace hh := hh.aW (x := .row _ _ _ _ _ _) hb_ hown_;refine Kg ?_;intro w7 hh;rw [ir];refine aS (aa (sr (bH ?_)));refine bG hh 2 ?_;refine mB (gT (mS (gT ?_)))
   (first | refine kv rfl rfl (by first | rfl | assumption | decide) TY ?_ | refine km rfl rfl (by first | assumption | decide) TY ?_)
   refine fL ?_;refine mS ?_;refine gB [_,_] ?_;refine bW hh 1 [_,_] ?_;intro ws hh;replace hh : Hp _ (_ :: .blk _ _ [_, _] _ :: _) _ := hh;refine aa (au ?_);refine Af ?_;exact M5
theorem ku (s : Bool) (m : ByteArray) (w : World) (hm : m.size ≤ 1000000000) :
  Calls Tryz.prog 212 #[.agg #[.bool s, .string m]] w fun e w' => e = .returned (.int .i64 (iv s m).sign) ∧ Below w.heap.size w w' := by
 have hh := Hp.start w;by_cases h0 : bN m = 0
 ·have hb : bF (bN m) = 0 := nA.2 h0;refine aj (N := 9) (l := [.agg #[.bool s, .string m]]) Tryz.func212 rfl rfl (by simp) ?_;refine sr ?_;refine cD hh [_,_] ?_;intro b1 w1 hh;refine aI (aa (ah (sr (bH ?_))));refine bG hh 0 ?_;refine bD hh (nQ m _ hm) rfl ?_;intro w5 hh;refine E6 ?_;refine cZ ?_;have hz : iv s m = 0 := by unfold iv; split <;> omega
  exact ⟨by rw [hz]; rfl, hh.below⟩
 ·have hb : bF (bN m) ≠ 0 := fun h => h0 (nA.1 h)
  cases s with
  | true =>
   refine aj (N := 9) (l := [.agg #[.bool true, .string m]]) Tryz.func212 rfl rfl (by simp) ?_;refine sr ?_;refine cD hh [_,_] ?_;intro b1 w1 hh;refine aI (aa (ah (sr (bH ?_))));refine bG hh 0 ?_;refine bD hh (nQ m _ hm) rfl ?_;intro w5 hh;refine db (aa (cF (ar (ai (ah (sr (bH ?_)))))));refine bG hh 0 ?_;refine AR ?_;refine cZ ?_;have hz : iv true m < 0 := by unfold iv; rw [T2 rfl]; omega
   exact ⟨by rw [VB hz], hh.below⟩
  | false =>
   refine aj (N := 9) (l := [.agg #[.bool false, .string m]]) Tryz.func212 rfl rfl (by simp) ?_;refine sr ?_;refine cD hh [_,_] ?_;intro b1 w1 hh;refine aI (aa (ah (sr (bH ?_))));refine bG hh 0 ?_;refine bD hh (nQ m _ hm) rfl ?_;intro w5 hh;refine db (aa (cF (ar (ai (ah (sr (bH ?_)))))));refine bG hh 0 ?_;refine E2 ?_;refine cZ ?_;have hz : 0 < iv false m := by unfold iv; rw [T3 (by simp)]; omega
   exact ⟨by rw [VA hz], hh.below⟩
theorem qf (n : Int) (w : World) (h1 : -9223372036854775808 ≤ n) (h2 : n ≤ 9223372036854775807) :
  Calls Tryz.prog 170 #[.int .i64 n] w fun e w' => e = .returned (.agg #[.bool (iN n), .string (iM n)]) ∧ Below w.heap.size w w' := by
 have hh := Hp.start w;by_cases h0 : n < 0
 ·have hn : iN n = true := Um h0;obtain ⟨m, hm⟩ := W9 (by omega : 0 ≤ -(n + 1));have ha : n.natAbs = m + 1 := TX;have hw : (m + 1) % 18446744073709551616 = m + 1 := UG TX;refine aj (N := 16) (l := [.int .i64 n]) Tryz.func170 rfl rfl (by simp) ?_;refine sr ?_;refine bV hh ?_;intro b2 w2 hh;refine aa (ah (sr (mI ?_)));refine bg (aa (cT (sr (mI ?_))));refine bj ?_;refine ym rfl TX TX TY ?_;rw [show -(n + 1) = (m : Int) from hm];refine l4 ?_;refine iB (b := 1) rfl rfl TY ?_;rw [hw];refine bD hh (xe (m + 1) _ TX) rfl ?_;intro w10 hh;rw [← ha];refine gB [_,_] ?_;refine bW hh 0 [_,_] ?_;intro ws hh;replace hh : Hp _ (.blk _ _ [_, _] _ :: _) _ := hh;refine aa (au (aG ?_));refine oZ ?_;rw [hn];exact ⟨rfl, hh.below⟩
 ·obtain ⟨m, rfl⟩ := W9 (by omega : 0 ≤ n);have hn : iN (m : Int) = false := UB TX;have hm : m < 18446744073709551616 := TX;have e1 : iM (m : Int) = sN m := rfl;refine aj (N := 16) (l := [.int .i64 (m : Int)]) Tryz.func170 rfl rfl (by simp) ?_;refine sr ?_;refine bV hh ?_;intro b2 w2 hh;refine aa (ah (sr (mI ?_)));refine bg (aa (cF (ar (ai (sr (mI ?_))))));refine l4 ?_;refine bD hh (xe m _ hm) rfl ?_;intro w14 hh;refine gB [_,_] ?_;refine bW hh 0 [_,_] ?_;intro ws hh;replace hh : Hp _ (.blk _ _ [_, _] _ :: _) _ := hh;refine aa (au ?_);refine oZ ?_;rw [hn, e1];exact ⟨rfl, hh.below⟩
theorem rB (s t : Bool) (a b : ByteArray) (w : World) (ha : a.size ≤ 100000000) (hb : b.size ≤ 100000000) :
  Calls Tryz.prog 182 #[.agg #[.bool s, .string a], .agg #[.bool t, .string b]] w fun e w' => e = .returned (.agg #[.bool (iN (iv s a + iv t b)), .string (iM (iv s a + iv t b))]) ∧ Below w.heap.size w w' := by
 have hh := Hp.start w;have hba := gI a;have hbb := gI b;by_cases hst : s = t
 ·subst hst;have e1 : iv s (sN (bN a + bN b)) = iv s a + iv s b := by unfold iv; rw [eU]; split <;> omega
  have hsz : (sN (bN a + bN b)).size ≤ 1000000000 := by rw [lW]; have := Ht (bN a) (bN b); omega
  rw [← e1];refine aj (N := 49) (l := [.agg #[.bool s, .string a], .agg #[.bool s, .string b]]) Tryz.func182 rfl rfl (by simp) ?_;refine sr ?_;refine cD hh [_,_] ?_;intro b2 w2 hh;refine cD hh [_,_] ?_;intro b3 w3 hh;refine bV hh ?_;intro b4 w4 hh;refine aa (ah (sr (bH ?_)));refine bG hh 2 ?_;refine bH ?_;refine bG hh 1 ?_;refine Fg bk.out rfl rfl (by first | rfl | assumption) TY ?_;refine aa (cT (ah ?_));refine aV 8 [[(2, none)], [(12, some 0)], [(2, none)], [(14, some 2)], [(3, none)], [(16, some 4)], [(15, some 3), (17, some 5)], [(18, some 6)]] [(7, 19), (6, 18), (5, 17), (4, 16), (3, 15), (2, 14), (1, 13), (0, 12)] hh mixed TZ ?_;refine ej ?_;refine fY 2 ?_;refine ej ?_;refine fY 2 ?_;refine ej ?_;refine fY 1 ?_;refine tQ [_,_] ?_;refine aT (i := 7) (Is (.string (sN (bN a + bN b)))) Is.ext ?_ ?_
  ·intro ρ1 w1 hj hR;obtain ⟨A18, c18, h18, s18⟩ := hR.1;exact bf rfl (aO al.out (aw h18 aZ)) (C6 A18 2 c18 [a, b] _ s18 TX (by simp; omega)) (fun _ _ hq => ⟨_, hq.1, hq.2, rfl⟩)
  refine aR ?_;intro f W hJ hV;have hb_2 := hJ.bl;obtain ⟨v19, v18, v17, v16, v15, v14, v13, v12, _⟩ := hV;obtain ⟨A18, c18, e18, f18⟩ : Rows _ _ _ (f 6) W := v18;replace hh := hJ.hp;refine aY (br (ae v19 (ae e18 (ae v17 (ae v16 (ae v15 (ae v14 (ae v13 (ae v12 aX))))))))) ?_;dsimp only [cf];clear e18 hJ;refine gB [_,_] ?_;refine bD hh (dy s (sN (bN a + bN b)) _ hsz) rfl ?_;intro w21 hh;exact DK
 ·by_cases hle : bN b ≤ bN a
  ·have e1 : iv s (sN (bN a - bN b)) = iv s a + iv t b := by unfold iv; rw [eU]; cases s <;> cases t <;> simp at hst ⊢ <;> omega
   have hsz : (sN (bN a - bN b)).size ≤ 1000000000 := by rw [lW]; have := mQ (show bN a - bN b ≤ bN a by omega); omega
   rw [← e1];refine aj (N := 49) (l := [.agg #[.bool s, .string a], .agg #[.bool t, .string b]]) Tryz.func182 rfl rfl (by simp) ?_;refine sr ?_;refine cD hh [_,_] ?_;intro b2 w2 hh;refine cD hh [_,_] ?_;intro b3 w3 hh;refine bV hh ?_;intro b4 w4 hh;refine aa (ah (sr (bH ?_)));refine bG hh 2 ?_;refine bH ?_;refine bG hh 1 ?_;refine Dw ?_;refine wu ?_;refine bG hh 2 ?_;refine bH ?_;refine bG hh 1 ?_;refine bD hh (nL a b _ TX TX) rfl ?_;intro w27 hh;rw [Um hle];refine mT ?_;refine du ?_;refine du ?_;refine aS (aB (aa (ah (sr (mB (aa (cT (sr (bH ?_)))))))));refine bG hh 2 ?_;refine mS ?_;refine gB [_,_] ?_;refine bD hh (dy s (sN (bN a - bN b)) _ hsz) rfl ?_;intro w35 hh;exact DK
  ·have e1 : iv t (sN (bN b - bN a)) = iv s a + iv t b := by unfold iv; rw [eU]; cases s <;> cases t <;> simp at hst ⊢ <;> omega
   have hsz : (sN (bN b - bN a)).size ≤ 1000000000 := by rw [lW]; have := mQ (show bN b - bN a ≤ bN b by omega); omega
   rw [← e1];refine aj (N := 49) (l := [.agg #[.bool s, .string a], .agg #[.bool t, .string b]]) Tryz.func182 rfl rfl (by simp) ?_;refine sr ?_;refine cD hh [_,_] ?_;intro b2 w2 hh;refine cD hh [_,_] ?_;intro b3 w3 hh;refine bV hh ?_;intro b4 w4 hh;refine aa (ah (sr (bH ?_)));refine bG hh 2 ?_;refine bH ?_;refine bG hh 1 ?_;refine Dw ?_;refine wu ?_;refine bG hh 2 ?_;refine bH ?_;refine bG hh 1 ?_;refine bD hh (nL a b _ TX TX) rfl ?_;intro w27 hh;rw [UB hle];refine mT ?_;refine du ?_;refine du ?_;refine aS (aB (aa (ah (sr (mB (aa (cF (ar (ai (sr (bH ?_)))))))))));refine bG hh 1 ?_;refine bH ?_;refine bG hh 2 ?_;refine bD hh (nL b a _ TX TX) rfl ?_;intro w41 hh;refine mT ?_;refine du ?_;refine du ?_;refine aS (aa (sr (bH ?_)));refine bG hh 1 ?_;refine mS ?_;refine gB [_,_] ?_;refine bD hh (dy t (sN (bN b - bN a)) _ hsz) rfl ?_;intro w48 hh;exact MG
theorem nX (z : Int) (B : Nat) (q r : Int) (h : r + B * q = z) (h0 : 0 ≤ r) (h1 : r < B) : z / B = q ∧ z % B = r :=
 (Int.ediv_emod_unique TX).2 ⟨h, h0, h1⟩
theorem BX (s : Bool) (a b : ByteArray) (w : World) (ha : a.size ≤ 10000000) (hb : b.size ≤ 10000000) (hb0 : bN b ≠ 0) :
  Calls Tryz.prog 210 #[.agg #[.bool s, .string a], .agg #[.bool false, .string b]] w fun e w' => e = .returned (.tuple #[.agg #[.bool (iN (iv s a / bN b)), .string (iM (iv s a / bN b))], .agg #[.bool (iN (iv s a % bN b)), .string (iM (iv s a % bN b))], .bool true]) ∧ Below w.heap.size w w' := by
 have hh := Hp.start w;have hba := gI a;have hbb := gI b;have hmod : bN a % bN b < bN b := Uw _ TX;have hdm : bN b * (bN a / bN b) + bN a % bN b = bN a := VF _ _;have hdm' : (bN b : Int) * ((bN a / bN b : Nat) : Int) + ((bN a % bN b : Nat) : Int) = (bN a : Int) := by rw [← Vm, ← V0, hdm]
 have hqs : (sN (bN a / bN b)).size ≤ 10000000 := by rw [lW]; have := mQ (Wq (bN a) (bN b)); omega
 have hrs : (sN (bN a % bN b)).size ≤ 10000000 := by rw [lW]; have := mQ (show bN a % bN b ≤ bN b by omega); omega
 have hqz : ∀ u, (iM (iv u (sN (bN a / bN b)))).size ≤ 10000000 := fun u => by rw [DB, eU]; exact hqs
 have hrz : ∀ u, (iM (iv u (sN (bN a % bN b)))).size ≤ 10000000 := fun u => by rw [DB, eU]; exact hrs
 by_cases hneg : s = true ∧ bN a % bN b ≠ 0
 ·obtain ⟨rfl, hne⟩ := hneg;have e1 : iv true (sN (bN a / bN b)) = -((bN a / bN b : Nat) : Int) := by unfold iv; rw [eU, T2 rfl]
  have e2 : iv true (sN (bN a % bN b)) = -((bN a % bN b : Nat) : Int) := by unfold iv; rw [eU, T2 rfl]
  have hlt : (iv true (sN (bN a % bN b))).sign < 0 := by rw [e2, VB TX]; omega
  have e3 : iv true a = -(bN a : Int) := by unfold iv; rw [T2 rfl]
  obtain ⟨q1, q2⟩ := nX (iv true a) (bN b) (-((bN a / bN b : Nat) : Int) + -1) ((bN b : Int) - ((bN a % bN b : Nat) : Int)) (by rw [e3, ← hdm', Int.mul_add, Int.mul_neg]; omega) TX TX;have e4 : iv false b = (bN b : Int) := by unfold iv; rw [T3 (by simp)]
  have hp2 : (bN b : Int).sign = 1 := VA TX;refine aj (N := 57) (l := [.agg #[.bool true, .string a], .agg #[.bool false, .string b]]) Tryz.func210 rfl rfl (by simp) ?_;refine sr ?_;refine cD hh [_,_] ?_;intro b2 w2 hh;refine cD hh [_,_] ?_;intro b3 w3 hh;refine bV hh ?_;intro b4 w4 hh;refine bV hh ?_;intro b5 w5 hh;refine aB (aa (sr (bH ?_)));refine bG hh 3 ?_;refine bH ?_;refine bG hh 2 ?_;refine bD hh (nS a b _ TX TX hb0) rfl ?_;intro w18 hh;refine mT ?_;refine du ?_;refine du ?_;refine du ?_;refine aS (aS (aB (aa (ah (sr (mB ?_))))));refine fm ?_;refine wu ?_;refine bG hh 3 ?_;refine bH ?_;refine bG hh 2 ?_;refine D3 bk.out rfl rfl (by first | assumption | decide) TY ?_;refine mS ?_;refine gB [_,_] ?_;refine bD hh (dy true (sN (bN a / bN b)) _ TX) rfl ?_;intro w33 hh;refine bV hh ?_;intro b10 w10 hh;refine bW hh 0 [_,_] ?_;intro ws hh;replace hh : Hp _ (.blk _ _ [_, _] _ :: _) _ := hh;refine aa (sr (bH ?_));refine bG hh 4 ?_;refine mS ?_;refine gB [_,_] ?_;refine bD hh (dy true (sN (bN a % bN b)) _ TX) rfl ?_;intro w38 hh;refine bV hh ?_;intro b11 w11 hh;refine bW hh 0 [_,_] ?_;intro ws hh;replace hh : Hp _ (.blk _ _ [_, _] _ :: _) _ := hh
  refine aa (ah (sr ?_));refine cG hh 0 [_,_] ?_;refine bD hh (ku (iN (iv true (sN (bN a % bN b)))) (iM (iv true (sN (bN a % bN b)))) _ (by have := hrz true; omega)) rfl ?_;intro w40 hh;rw [e9];refine bg (aa (cT (sr ?_)));refine cG hh 0 [_,_] (bH ?_);refine bG hh 4 ?_;refine gB [_,_] ?_;refine bD hh (rB (iN (iv true (sN (bN a % bN b)))) false (iM (iv true (sN (bN a % bN b)))) b _ (by have := hrz true; omega) TX) rfl ?_;intro w46 hh;rw [e9, e2, e4, show -((bN a % bN b : Nat) : Int) + (bN b : Int) = (bN b : Int) - ((bN a % bN b : Nat) : Int) by omega, ← q2];refine bW hh 0 [_,_] ?_;intro ws hh;replace hh : Hp _ (.blk _ _ [_, _] _ :: _) _ := hh;refine aa (sr ?_);refine bD hh (qf (-1) _ TX TX) rfl ?_;intro w47 hh;refine bV hh ?_;intro b12 w12 hh;refine bW hh 0 [_,_] ?_;intro ws hh;replace hh : Hp _ (.blk _ _ [_, _] _ :: _) _ := hh;refine aa (ah (sr ?_));refine cG hh 5 [_,_] ?_;refine bD hh (ku false b _ TX) rfl ?_;intro w49 hh;rw [e4, hp2];refine bg (aa (cF (ar (ai (ao ?_)))));refine cG hh 2 [_,_] ?_;refine cG hh 0 [_,_] ?_;refine bD hh (rB (iN (iv true (sN (bN a / bN b)))) (iN (-1)) (iM (iv true (sN (bN a / bN b)))) (iM (-1)) _ (by have := hqz true; omega) TY) rfl ?_;intro w54 hh
  rw [e9, e9, e1, ← q1];refine bW hh 2 [_,_] ?_;intro ws hh;replace hh : Hp _ (_ :: _ :: .blk _ _ [_, _] _ :: _) _ := hh;refine aa (ah ?_);refine p7 hh mixed fun w_ hj_ => ?_;replace hh := hj_.hp;clear hj_;refine uo (i := 0) (i2 := 1) TZ rfl rfl ?_ ?_
  ·refine cG hh 2 [_,_] ?_;refine fp ?_;refine uo (i := 1) (i2 := 2) TZ rfl rfl ?_ ?_
   ·refine cG hh 1 [_,_] ?_;exact ND
   ·refine bW hh 4 [_,_] ?_;intro ws hh;replace hh : Hp _ (_ :: _ :: _ :: _ :: .blk _ _ [_, _] _ :: _) _ := hh;refine fp ?_;refine fQ (i := 1) TZ rfl ?_;refine cG hh 1 [_,_] ?_;exact RT
  ·refine cG hh 1 [_,_] ?_;refine fp ?_;refine fQ (i := 0) TZ rfl ?_;refine cG hh 2 [_,_] ?_;exact ND
 ·have e4 : iv s a / bN b = iv s (sN (bN a / bN b)) ∧ iv s a % bN b = iv s (sN (bN a % bN b)) := by
   cases s with
   | false =>
    have f0 : ∀ x, iv false x = (bN x : Int) := fun x => by unfold iv; rw [T3 (by simp)]
    rw [f0, f0, f0, eU, eU];exact nX _ _ _ _ TX TX TX
   | true =>
    have r0 : bN a % bN b = 0 := by
     rcases VZ (bN a % bN b) with h | h
     ·exact h
     ·exact absurd ⟨rfl, TX⟩ hneg
    have f0 : ∀ x, iv true x = -(bN x : Int) := fun x => by unfold iv; rw [T2 rfl]
    rw [f0, f0, f0, eU, eU, r0];rw [r0] at hdm';exact nX _ _ _ _ (by rw [Int.mul_neg]; omega) TX TX
  have h5 : ¬ (iv s (sN (bN a % bN b))).sign < 0 := by
   have h6 : 0 ≤ iv s (sN (bN a % bN b)) := by rw [← e4.2]; exact Int.emod_nonneg _ TX
   have := Int.sign_nonneg_iff.2 h6;omega
  rw [e4.1, e4.2]
  cases s with
  | false =>
   refine aj (N := 57) (l := [.agg #[.bool false, .string a], .agg #[.bool false, .string b]]) Tryz.func210 rfl rfl (by simp) ?_;refine sr ?_;refine cD hh [_,_] ?_;intro b2 w2 hh;refine cD hh [_,_] ?_;intro b3 w3 hh;refine bV hh ?_;intro b4 w4 hh;refine bV hh ?_;intro b5 w5 hh;refine aB (aa (sr (bH ?_)));refine bG hh 3 ?_;refine bH ?_;refine bG hh 2 ?_;refine bD hh (nS a b _ TX TX hb0) rfl ?_;intro w18 hh;refine mT ?_;refine du ?_;refine du ?_;refine du ?_;refine aS (aS (aB (aa (ah (sr (mB ?_))))));refine fm ?_;refine wu ?_;refine bG hh 3 ?_;refine bH ?_;refine bG hh 2 ?_;refine Mb bk.out rfl rfl (by first | rfl | assumption) TY ?_;refine mS ?_;refine gB [_,_] ?_;refine bD hh (dy false (sN (bN a / bN b)) _ TX) rfl ?_;intro w33 hh;refine bV hh ?_;intro b10 w10 hh;refine bW hh 0 [_,_] ?_;intro ws hh;replace hh : Hp _ (.blk _ _ [_, _] _ :: _) _ := hh;refine aa (sr (bH ?_));refine bG hh 4 ?_;refine mS ?_;refine gB [_,_] ?_;refine bD hh (dy false (sN (bN a % bN b)) _ TX) rfl ?_;intro w38 hh;refine bV hh ?_;intro b11 w11 hh;refine bW hh 0 [_,_] ?_;intro ws hh;replace hh : Hp _ (.blk _ _ [_, _] _ :: _) _ := hh;refine aa (ah (sr ?_));refine cG hh 0 [_,_] ?_
   refine bD hh (ku (iN (iv false (sN (bN a % bN b)))) (iM (iv false (sN (bN a % bN b)))) _ (by have := hrz false; omega)) rfl ?_;exact SL
  | true =>
   refine aj (N := 57) (l := [.agg #[.bool true, .string a], .agg #[.bool false, .string b]]) Tryz.func210 rfl rfl (by simp) ?_;refine sr ?_;refine cD hh [_,_] ?_;intro b2 w2 hh;refine cD hh [_,_] ?_;intro b3 w3 hh;refine bV hh ?_;intro b4 w4 hh;refine bV hh ?_;intro b5 w5 hh;refine aB (aa (sr (bH ?_)));refine bG hh 3 ?_;refine bH ?_;refine bG hh 2 ?_;refine bD hh (nS a b _ TX TX hb0) rfl ?_;intro w18 hh;refine mT ?_;refine du ?_;refine du ?_;refine du ?_;refine aS (aS (aB (aa (ah (sr (mB ?_))))));refine fm ?_;refine wu ?_;refine bG hh 3 ?_;refine bH ?_;refine bG hh 2 ?_;refine D3 bk.out rfl rfl (by first | assumption | decide) TY ?_;refine mS ?_;refine gB [_,_] ?_;refine bD hh (dy true (sN (bN a / bN b)) _ TX) rfl ?_;intro w33 hh;refine bV hh ?_;intro b10 w10 hh;refine bW hh 0 [_,_] ?_;intro ws hh;replace hh : Hp _ (.blk _ _ [_, _] _ :: _) _ := hh;refine aa (sr (bH ?_));refine bG hh 4 ?_;refine mS ?_;refine gB [_,_] ?_;refine bD hh (dy true (sN (bN a % bN b)) _ TX) rfl ?_;intro w38 hh;refine bV hh ?_;intro b11 w11 hh;refine bW hh 0 [_,_] ?_;intro ws hh;replace hh : Hp _ (.blk _ _ [_, _] _ :: _) _ := hh;refine aa (ah (sr ?_));refine cG hh 0 [_,_] ?_
   refine bD hh (ku (iN (iv true (sN (bN a % bN b)))) (iM (iv true (sN (bN a % bN b)))) _ (by have := hrz true; omega)) rfl ?_;exact SL
variable {j k m : Nat} {z : Int}
theorem Ey (h : n ≠ 0) : sb n = sb (n / 256) ++ [UInt8.ofNat (n % 256)] := by
 rw [sb, FN TX h, Ut, Ww]
 rfl
theorem Ff (h : n ≠ 0) : 1 ≤ (sN n).size ∧ ∃ c : UInt8, (sN n).data.toList[(((sN n).size : Int) - 1).toNat]? = some c ∧ c.toNat = n % 256 := by
 have hl : (sN n).data.toList = sb (n / 256) ++ [UInt8.ofNat (n % 256)] := by rw [sN, dv, Ey h]
 have hs : (sN n).size = (sb (n / 256)).length + 1 := by rw [dE, hl, Ua]; rfl
 refine ⟨TX, UInt8.ofNat (n % 256), ?_, ?_⟩
 ·rw [hl, hs, Vg TX];have : (((sb (n / 256)).length + 1 : Nat) - 1 : Int).toNat - (sb (n / 256)).length = 0 := TX;rw [this]
  rfl
 ·simp
theorem PR (h : n ≠ 0) : (sN n).extract 0 ((sN n).size - 1) = sN (n / 256) := by
 have hl : (sN n).data = (sb (n / 256) ++ [UInt8.ofNat (n % 256)]).toArray := by rw [sN, ← Ey h]; rfl
 have hs : (sN n).size = (sb (n / 256)).length + 1 := by rw [dE, hl, Ua]; rfl
 apply ByteArray.ext;rw [ByteArray.data_extract, hl, hs];show _ = (sb (n / 256)).toArray;simp
theorem O4 {k : Int} (h : 0 < k) (y : Int) : iN (y * k) = iN y := by
 unfold iN;rw [decide_eq_decide];constructor
 ·intro h1
  rcases WW y 0 with h2 | h2 | h2
  ·exact h2
  ·rw [h2] at h1; simp at h1
  ·have := Int.mul_pos h2 h; omega
 ·intro h1;exact Int.mul_neg_of_neg_of_pos h1 h
theorem PV (h : n % 2 = 1) : tz n = 0 := by
 have := EH 0 (n / 2);rwa [show 2 ^ 0 * (2 * (n / 2) + 1) = n by omega] at this
theorem JZ {y e : Int} (hy : y.natAbs % 2 = 1) (hz : y * 2 ^ j = z) : nR (Dyadic.ofIntWithPrec z (-e)) = ⟨iN y, iM y, e + j⟩ := by
 have h1 := qO (s := iN y) (a := iM y) (e := e + j) (by rw [e9]; omega);rw [e9, iM, eU, PV hy] at h1;have h2 := qQ y (-(e + j)) j;rw [hz, show -(e + (j : Int)) + j = -e by omega] at h2;rw [h2, h1];simp
theorem rZ {y : Int} (hy : y ≠ 0) (hz : y * 2 ^ j = z) (hm : z.natAbs < 2 ^ m) : j < m := by
 have h1 : z.natAbs = y.natAbs * 2 ^ j := by rw [← hz, V5, Wt]; rfl
 have h2 : 1 * 2 ^ j ≤ y.natAbs * 2 ^ j := U2 _ TX;have h3 : 2 ^ j < 2 ^ m := TX;exact (Xr TX).1 h3
theorem rI (s : Bool) (a : ByteArray) (e : Int) (w : World) (ha : a.size ≤ 10000000) (h1 : -1000000000000 ≤ e) (h2 : e ≤ 1000000000000) :
  Calls Tryz.prog 169 #[.agg #[.bool s, .string a], .int .i64 e] w fun r w' => r = .returned (.agg #[.bool (nR (Dyadic.ofIntWithPrec (iv s a) (-e))).neg, .string (nR (Dyadic.ofIntWithPrec (iv s a) (-e))).bz, .int .i64 (nR (Dyadic.ofIntWithPrec (iv s a) (-e))).e]) ∧ Below w.heap.size w w' := by
 have hh := Hp.start w;by_cases h0 : iv s a = 0
 ·have hm := r8.2 h0;rw [h0] at hm;refine aj (N := 50) (l := [.agg #[.bool s, .string a], .int .i64 e]) Tryz.func169 rfl rfl (by simp) ?_;refine sr ?_;refine cD hh [_,_] ?_;intro b2 w2 hh;refine bV hh ?_;intro b4 w4 hh;refine aa (sr ?_);refine cG hh 1 [_,_] ?_;refine bD hh (dy s a _ TX) rfl ?_;intro w6 hh;rw [h0];refine bW hh 1 [_,_] ?_;intro ws hh;replace hh : Hp _ (_ :: .blk _ _ [_, _] _ :: _) _ := hh;refine aa (ah (sr (bH ?_)));refine bG hh 1 ?_;refine kx rfl rfl (by first | rfl | assumption | decide) TY ?_;refine aa (cT (sr ?_));refine gB [_,_,_] ?_;refine bW hh 0 [_,_,_] ?_;intro ws hh;replace hh : Hp _ (.blk _ _ [_, _, _] _ :: _) _ := hh;refine aa (au (aG ?_));refine Ik ?_;rw [kR, lB];exact ⟨rfl, hh.below⟩
 ·have hm : ¬ iM (iv s a) = ByteArray.mk #[] := fun h => h0 (r8.1 h);have hzb : (iv s a).natAbs < 2 ^ (8 * a.size) := by
   rw [j2, UO];exact wY a
  refine aj (N := 50) (l := [.agg #[.bool s, .string a], .int .i64 e]) Tryz.func169 rfl rfl (by simp) ?_;refine sr ?_;refine cD hh [_,_] ?_;intro b2 w2 hh;refine bV hh ?_;intro b4 w4 hh;refine aa (sr ?_);refine cG hh 1 [_,_] ?_;refine bD hh (dy s a _ TX) rfl ?_;intro w6 hh;refine bW hh 1 [_,_] ?_;intro ws hh;replace hh : Hp _ (_ :: .blk _ _ [_, _] _ :: _) _ := hh;refine aa (ah (sr (bH ?_)));refine bG hh 1 ?_;refine j9 rfl rfl (by first | assumption | decide) TY ?_;refine aa (cF (ar (ai (ah (aq ?_)))));generalize hz : iv s a = z at *;refine aP [1, 11, 12, 13, 14, 15, 16, 17, 18, 19, 20, 21, 22, 23, 24, 25, 26, 27, 28] 1
   (fun v w' => ∃ (y : Int) (j : Nat), y ≠ 0 ∧ y * 2 ^ j = z ∧ v = .int .i64 (e + j) ∧ Hp w [.blk b4 65 [.bool false, .string (ByteArray.mk #[]), .int .i64 0] (0, 0), .blk b2 63 [.bool (iN y), .string (iM y)] (0, 0)] w')
   (fun v _ => (e + 8 * a.size + 1 - intOf v).toNat) ?_ ?_
  ·exact ⟨z, 0, h0, by simp, by show Value.int _ _ = Value.int _ _; congr 1; omega, hh⟩
  ·clear hh;rintro ρ' v w' ⟨y, j, hy, hyz, rfl, hh⟩;have hj := rZ hy hyz hzb;obtain ⟨hs1, c, hc, hcn⟩ := Ff (n := y.natAbs) TX;have hcut := PR (n := y.natAbs) TX;have hsz : (sN y.natAbs).size ≤ 10000000 := by
    exact RG
   change (iM y).data.toList[(((iM y).size : Int) - 1).toNat]? = some c at hc
   change 1 ≤ (iM y).size at hs1
   change (iM y).extract 0 ((iM y).size - 1) = _ at hcut
   change (iM y).size ≤ _ at hsz
   by_cases hb : y.natAbs % 256 = 0
   ·obtain ⟨x, rfl⟩ : ∃ x, y = x * 256 := ⟨y / 256, TX⟩;have hx : x ≠ 0 := fun h => hy (by rw [h]; rfl);have e1 : iN (x * 256) = iN x := O4 TX x;have e2 : sN ((x * 256).natAbs / 256) = iM x := by rw [iM]; congr 1; omega
    have hxz : x * 2 ^ (j + 8) = z := by rw [← hyz, Int.pow_add, Int.mul_assoc, Int.mul_comm (2 ^ j)]; rfl
    have hj2 := rZ hx hxz hzb;refine ah (sr (bH ?_));refine bG hh 1 ?_;refine bH ?_;refine bG hh 1 ?_;refine bI bk.out rfl TY ?_;refine dY ?_;refine j0 ?_;refine db (aa (cT (ar (ai (aq (sr (bH ?_)))))));refine bG hh 1 ?_;refine bH ?_;refine bG hh 1 ?_;refine bI bk.out rfl TY ?_;refine dY ?_;refine rg (l := 0) (h := ((iM (x * 256)).size - 1)) bk.out rfl rfl ⟨_, _, rfl, TX⟩ TX TX TY ?_;refine bH ?_;refine bW hh 1 [_] ?_;intro ws hh;replace hh : Hp _ (_ :: .blk _ _ [_, _] _ :: _) _ := hh;refine aa (ao (mI ?_));refine bj (aI (aA (bE (ai ?_))));rw [hcut, e2, e1] at hh;refine ⟨⟨x, j + 8, hx, hxz, by show Value.int _ _ = Value.int _ _; congr 1; omega, hh⟩, by show (e + 8 * a.size + 1 - (e + j + 8)).toNat < (e + 8 * a.size + 1 - (e + j)).toNat; omega, ?_⟩;exact dQ
   ·refine ah (sr (bH ?_));refine bG hh 1 ?_;refine bH ?_;refine bG hh 1 ?_;refine bI bk.out rfl TY ?_;refine dY ?_;refine j0 ?_;refine db (aa (cF (a6 (aD (aD (bB (ai (ah (aq ?_)))))))));refine aP [1, 29, 30, 31, 32, 33, 34, 35, 36, 37, 38, 39, 40, 41, 42, 43, 44, 45, 46] 1
     (fun v w' => ∃ (y : Int) (j : Nat), y ≠ 0 ∧ y * 2 ^ j = z ∧ v = .int .i64 (e + j) ∧ Hp w [.blk b4 65 [.bool false, .string (ByteArray.mk #[]), .int .i64 0] (0, 0), .blk b2 63 [.bool (iN y), .string (iM y)] (0, 0)] w')
     (fun v _ => (e + 8 * a.size + 1 - intOf v).toNat) ?_ ?_
    ·exact ⟨y, j, hy, hyz, rfl, hh⟩
    ·clear hh hb hcut hcn hc hs1 hsz hj hy hyz;rintro ρ2 v w2 ⟨y, j, hy, hyz, rfl, hh⟩;have hj := rZ hy hyz hzb;obtain ⟨hs1, c, hc, hcn⟩ := Ff (n := y.natAbs) TX;have hsz : (sN y.natAbs).size ≤ 10000000 := by
      exact RG
     change (iM y).data.toList[(((iM y).size : Int) - 1).toNat]? = some c at hc
     change 1 ≤ (iM y).size at hs1
     change (iM y).size ≤ _ at hsz
     by_cases hb : y.natAbs % 2 = 0
     ·obtain ⟨x, rfl⟩ : ∃ x, y = x * 2 := ⟨y / 2, TX⟩;have hx : x ≠ 0 := fun h => hy (by rw [h]; rfl);have hxz : x * 2 ^ (j + 1) = z := by rw [← hyz, Int.pow_add, Int.mul_assoc, Int.mul_comm (2 ^ j)]; rfl
      have hj2 := rZ hx hxz hzb;have hof : ∀ w1, Calls Tryz.prog 170 #[.int .i64 2] w1 fun e w' => e = .returned (.agg #[.bool false, .string (iM 2)]) ∧ Below w1.heap.size w1 w' := fun w1 => qf 2 w1 TX TX;have hdv : ∀ w1, Calls Tryz.prog 210 #[.agg #[.bool (iN (x * 2)), .string (iM (x * 2))], .agg #[.bool false, .string (iM 2)]] w1 fun e w' => e = .returned (.tuple #[.agg #[.bool (iN x), .string (iM x)], .agg #[.bool (iN 0), .string (iM 0)], .bool true]) ∧ Below w1.heap.size w1 w' := fun w1 => by
       have h2 : bN (iM 2) = 2 := eU 2;have h3 : (iM 2).size ≤ 10000000 := by rw [dP]; decide
       have := BX (iN (x * 2)) (iM (x * 2)) (iM 2) w1 hsz h3 TX;rw [e9, h2, show x * 2 / ((2 : Nat) : Int) = x by omega, show x * 2 % ((2 : Nat) : Int) = 0 by omega] at this;exact this
      refine ah (sr (bH ?_));refine bG hh 1 ?_;refine bH ?_;refine bG hh 1 ?_;refine bI bk.out rfl TY ?_;refine dY ?_;refine j0 ?_;refine CK (b := 2) rfl rfl TX TY ?_;refine db (aa (cT (ar (ai (aq (ah ?_))))));refine eu [] [5, 6] [0, 0, 3, 7, 15, 15, 15, 31] 7 [[(2, none)], [], [(39, some 0), (40, some 1)], [(41, some 2)], [(38, some 3)], [(38, some 3)], [(38, some 3)]] [(6, 44), (5, 43), (4, 42), (3, 38), (2, 41), (1, 40), (0, 39)] hh mixed TZ fk rfl (by repeat (first | exact cA | refine bQ ?_ | refine cE ?_)) ?_;refine fU 1 [_,_] ?_;refine dC (fun _ hj => hof _) ?_;refine dC (fun _ hj => hdv _) ?_;refine SQ ?_;refine Rj ?_;refine Rj ?_;refine Rj ?_;refine aR ?_;intro f W hJ hV _;have hb_8 := hJ.bl;obtain ⟨v44, v43, v42, v38, v41, v40, v39, _⟩ := hV;replace hh := hJ.hp;refine aY (br (ae v44 (ae v43 (ae v42 (ae v38 (ae v41 (ae v40 (ae v39 aX)))))))) ?_;dsimp only [cf];clear hJ;refine bW hh 1 [_,_] ?_;intro ws hh;replace hh : Hp _ (_ :: .blk _ _ [_, _] _ :: _) _ := hh;refine aa (ao (mI ?_));refine bj (aI (aA (bE (ai ?_))))
      refine ⟨⟨x, j + 1, hx, hxz, by show Value.int _ _ = Value.int _ _; congr 1; omega, hh⟩, by show (e + 8 * a.size + 1 - (e + j + 1)).toNat < (e + 8 * a.size + 1 - (e + j)).toNat; omega, ?_⟩;exact dQ
     ·have hfin := JZ (e := e) (show y.natAbs % 2 = 1 by omega) hyz;refine ah (sr (bH ?_));refine bG hh 1 ?_;refine bH ?_;refine bG hh 1 ?_;refine bI bk.out rfl TY ?_;refine dY ?_;refine j0 ?_;refine CK (b := 2) rfl rfl TX TY ?_;refine db (aa (cF (a6 (aD (aD (bB (ai (sr ?_))))))));refine cG hh 1 [_,_] (mI ?_);refine gB [_,_,_] ?_;refine bW hh 0 [_,_,_] ?_;intro ws hh;replace hh : Hp _ (.blk _ _ [_, _, _] _ :: _) _ := hh;refine aa (au ?_);refine Ik ?_;rw [hfin];exact ⟨rfl, hh.below⟩
theorem Io {e : Int} {x : Dyadic} (w : World) (hx : Dyadic.ofIntWithPrec z (-e) = x) (hz : (iM z).size ≤ 10000000) (h1 : -1000000000000 ≤ e) (h2 : e ≤ 1000000000000) :
  Calls Tryz.prog 169 #[.agg #[.bool (iN z), .string (iM z)], .int .i64 e] w fun r w' => r = .returned (.agg #[.bool (nR x).neg, .string (nR x).bz, .int .i64 (nR x).e]) ∧ Below w.heap.size w w' := by
 have := rI (iN z) (iM z) e w hz h1 h2;rw [e9, hx] at this;exact this
theorem kX (n : Int) (w : World) (h1 : -9223372036854775808 ≤ n) (h2 : n ≤ 9223372036854775807) :
  Calls Tryz.prog 86 #[.int .i64 n] w fun r w' => r = .returned (.agg #[.bool (nR (n : Dyadic)).neg, .string (nR (n : Dyadic)).bz, .int .i64 (nR (n : Dyadic)).e]) ∧ Below w.heap.size w w' := by
 have hh := Hp.start w;have hsz : (iM n).size ≤ 10000000 := by
  rw [dP];have : bF n.natAbs ≤ 64 := dx TX;omega
 have hc := fun w1 => Io (z := n) (e := 0) (x := (n : Dyadic)) w1 rfl hsz TX TX;refine aj (N := 6) (l := [.int .i64 n]) Tryz.func86 rfl rfl (by simp) ?_;refine sr ?_;refine bV hh ?_;intro b2 w2 hh;refine aa (sr (mI ?_));refine bD hh (qf n _ h1 h2) rfl ?_;intro w4 hh;refine bD hh (hc _) rfl ?_;intro w5 hh;exact Lq
theorem yy (a : NR) (n : Int) (w : World) (ha : a.bz.size ≤ 10000000) (h1 : -100000000000 ≤ a.e) (h2 : a.e ≤ 100000000000) (h3 : -100000000000 ≤ n) (h4 : n ≤ 100000000000) :
  Calls Tryz.prog 85 #[.agg #[.bool a.neg, .string a.bz, .int .i64 a.e], .int .i64 n] w fun r w' => r = .returned (.agg #[.bool (nR (a.d * pd n)).neg, .string (nR (a.d * pd n)).bz, .int .i64 (nR (a.d * pd n)).e]) ∧ Below w.heap.size w w' := by
 have hh := Hp.start w;have e1 : Dyadic.ofIntWithPrec (iv a.neg a.bz) (-(a.e + n)) = a.d * pd n := by
  rw [Int.neg_add];exact KB _ _ _
 have hc := fun w1 => rI a.neg a.bz (a.e + n) w1 ha TX TX;rw [e1] at hc;refine aj (N := 12) (l := [.agg #[.bool a.neg, .string a.bz, .int .i64 a.e], .int .i64 n]) Tryz.func85 rfl rfl (by simp) ?_;refine sr ?_;refine cD hh [_,_,_] ?_;intro b2 w2 hh;refine bV hh ?_;intro b4 w4 hh;refine aa (sr (bH ?_));refine cG hh 1 [_,_] (bH ?_);refine bG hh 1 ?_;refine mI ?_;refine bj ?_;refine bD hh (hc _) rfl ?_;intro w11 hh;exact Lq
theorem Sz.pow {x : Dyadic} (h : Sz k x) (n : Nat) : Sz (1 + k * n) (x ^ n) := by
 induction n with
 | zero => rw [WB]; exact Sz.one
 | succ n ih => rw [Xf]; exact (ih.mul h).mono (by rw [VM]; omega)
def D (m e : Int) : Dyadic := Dyadic.ofIntWithPrec m (-e)
theorem LO {m e : Int} (hm : m.natAbs < 256) (h1 : -16 ≤ e) (h2 : e ≤ 16) : Sz 24 (D m e) := by
 have := Sz.raw (a := ⟨iN m, iM m, e⟩) (m := 8) (E := 16) (by show 8 * (iM m).size ≤ 8; rw [dP]; have : bF m.natAbs ≤ 8 := dx hm; omega) h1 h2;rw [NR.d, NR.i, e9] at this;exact this
def SO (most far : Int) (l : List NR) : Bool := l.any fun a => decide (most < a.bz.size ∨ a.e < -far ∨ far < a.e)
variable {W : World} {base fuel : Nat} {cs : List Value} {held : Bool} {sp : Nat → Bool}
open Go.ChangeShapes Go.WideShapes Go.ChangeAt Go.RowKit Go.ChangeMaps
set_option maxRecDepth 100000 in
theorem qD {H : Type} {enc : TypeId × Value → H} {x : DataW H × List MemPlace} (h : DataW.trod enc Tryz.prog W base sp held fuel 65 cs = some x) :
  ∃ a : NR, cs = a.cells ∧ (Lit.int .i64 a.e).wf = true := by
 have c1 : Tryz.prog.cellsOf 65 = 3 := by kernel_rfl
 have c2 : Tryz.prog.cellsOf 63 = 2 := by kernel_rfl
 have c3 : Tryz.prog.cellsOf 4 = 1 := by kernel_rfl
 have c4 : Tryz.prog.cellsOf 9 = 1 := by kernel_rfl
 have c5 : Tryz.prog.cellsOf 3 = 1 := by kernel_rfl
 obtain ⟨y0, y1, n, _, hl, h0, h1⟩ := trod_struct2 Tryz.underlying65 h;obtain ⟨z0, z1, n2, _, hl2, h00, h01⟩ := trod_struct2 Tryz.underlying63 h0;obtain ⟨b, e0, _⟩ := DataW.trod_bool Tryz.underlying4 h00;obtain ⟨s, e1, _, hs⟩ := DataW.trod_string Tryz.underlying9 h01;obtain ⟨z, e2, _, hz⟩ := DataW.trod_int Tryz.underlying3 h1;rw [c1] at hl
 match cs, hl with
 | [x0, x1, x2], _ =>
  simp only [c2, c3, c4, c5] at e0 e1 e2;simp at e0 e1 e2;subst e0 e1 e2;exact ⟨⟨b, s, z⟩, rfl, hz⟩
theorem Bb (h : laidMetH Tryz.prog Rows.calcSlopesRow.laid W) : eh W := by
 rw [MakeChecks.laidMetH_plain _ _ _ TZ] at h;obtain ⟨ps, ⟨g, t, cs, fuel, p, q, hg, ht, hv, hd, _, _⟩, _, _⟩ := h;obtain rfl := UN ((show Tryz.prog.globalNamed "math/bits.deBruijn64tab" = some 0 by kernel_rfl).symm.trans hg);obtain rfl := UN ((show (Tryz.prog.globals[0]?).map (·.type) = some 244 by kernel_rfl).symm.trans ht);obtain ⟨xs, m, _, ex, _, hl, hel⟩ := DataW.trod_array Tryz.underlying244 hd;have c5 : Tryz.prog.cellsOf 5 = 1 := by kernel_rfl
 have e3 : (xs.map (·.1)) = BR.map fun n => .lit (.int .u8 n) := (DataW.agg.inj (Prod.mk.inj ex).1).symm;have hlen : BR.length = 64 := by decide
 intro r u hu;have hr : r < 64 := by
  have := (Uk.1 hu).1;rw [cN] at this;omega
 have hE := hel r hr;rw [c5, Uo, Vq TX] at hE;obtain ⟨z, e1, e2, _⟩ := DataW.trod_int Tryz.underlying5 hE;have e4 : (xs.map (·.1))[r]? = (BR.map fun (n : Nat) => (DataW.lit (.int .u8 n) : DataW Unit))[r]? := by rw [e3]
 rw [Ue, Ue, Vq (by omega : r < xs.length), Vq (by omega : r < BR.length), e2] at e4;have hz : u = .int .u8 z := by
  rw [gC, Ue, Vq (by omega : r < BR.length)] at hu;simp only [Vx, VQ, DataW.lit.injEq, Lit.int.injEq, true_and] at e4 hu;rw [← hu, e4]
 rw [fu, Uv, World.var?_cell hg hv r, hz];have : cs.toList[r]? = some (.int .u8 z) := by
  have h0 : ((cs.toList.drop r).take 1)[0]? = some (.int .u8 z) := by rw [e1]; rfl
  simpa using h0
 simpa using this
variable {P : Program} {b0 : Nat} {α : Type}
theorem ur {α : Type} {p : Nat → α → Prop} : ∀ (n : Nat), (∀ i, i < n → ∃ a, p i a) → ∃ l : List α, l.length = n ∧ ∀ i a, l[i]? = some a → p i a
 | 0, _ => ⟨[], rfl, fun i a h => by simp at h⟩
 | n + 1, h => by
  obtain ⟨l, h1, h2⟩ := ur n fun i hi => h i TX;obtain ⟨a, ha⟩ := h n TX;refine ⟨l ++ [a], by simp [h1], fun i b hb => ?_⟩
  rcases UP i l.length with hi | hi
  ·rw [Wi hi] at hb;exact h2 i b hb
  ·rw [Vg hi] at hb;have h3 : i - l.length = 0 := by
    rcases VZ (i - l.length) with h | h
    ·exact h
    ·rw [Uy (by simp; omega)] at hb; cases hb
   rw [h3] at hb;simp only [W7, VQ] at hb;subst hb;rw [show i = n by omega];exact ha
theorem F7 {f : α → List Value} {p : α → Prop} {sz : Nat} {t e : TypeId} {H : Type} {enc : TypeId × Value → H} {r : Reach} {v : Value} {d : DataW H} {ps : List MemPlace}
  (hf : ∀ x, (f x).length = sz) (h0 : 0 < sz) (ht : P.underlying t = some (.slice e)) (hc : P.cellsOf e = sz) (one : ∀ fuel cs x, DataW.trod enc P W base sp held fuel e cs = some x → ∃ a, cs = f a ∧ p a)
  (hval : Value.okWide P W r b0 t v) (hd : DataW.Trod enc P W base sp held t v d ps) : ∃ (A : Option Addr) (n c : Nat) (l : List α), v = .slice A n c ∧ Sl W A n sz (az f l) ∧ ∀ a ∈ l, p a := by
 obtain ⟨a, len, cap, rfl⟩ := okWide_slice ht hval;obtain ⟨fuel, hfu⟩ := hd
 rcases Go.Deep.open_slice ht hfu with ⟨h1, _⟩ | ⟨ad, n, cp, m, k, D, Pl, h1, _, h2, h3, hm, _, h5⟩
 ·have h1' : [Value.slice a len cap] = [.slice none 0 0] := h1;simp only [List.cons.injEq, Value.slice.injEq, and_true] at h1';obtain ⟨rfl, rfl, rfl⟩ := h1';exact ⟨none, 0, 0, [], rfl, Sl.nil W none sz, fun _ h => by simp at h⟩
 ·have h1' : [Value.slice a len cap] = [.slice (some ad) n cp] := h1;simp only [List.cons.injEq, Value.slice.injEq, and_true] at h1';obtain ⟨rfl, rfl, rfl⟩ := h1';have hnm : len ≤ m := by rw [hm]; split <;> omega
  obtain ⟨l, hl, hp⟩ := ur (p := fun i a => W.cells? base (ad.add (i * sz)) sz = some (f a) ∧ p a) len fun i hi => by
   exact Ni
  refine ⟨some ad, len, cap, l, rfl, ⟨by rw [eP hf, hl], fun _ => ⟨ad, rfl, fun j u hu => ?_⟩⟩, fun a ha => ?_⟩
  ·exact Ro
  ·obtain ⟨i, hi⟩ := Vw.1 ha;exact (hp i a hi).2
variable {c : Nat}
def IC (z : Int) : List Value := [.int .i64 z]
theorem Ck {f : α → List Value} {p : α → Prop} {sz : Nat} {t e : TypeId} {H : Type} {enc : TypeId × Value → H} {x : DataW H × List MemPlace}
  (hf : ∀ x, (f x).length = sz) (h0 : 0 < sz) (ht : P.underlying t = some (.slice e)) (hc : P.cellsOf e = sz) (one : ∀ fuel cs x, DataW.trod enc P W base sp held fuel e cs = some x → ∃ a, cs = f a ∧ p a)
  (hfu : DataW.trod enc P W base sp held fuel t cs = some x) : ∃ (A : Option Addr) (n c : Nat) (l : List α), cs = [.slice A n c] ∧ Sl W A n sz (az f l) ∧ ∀ a ∈ l, p a := by
 rcases Go.Deep.open_slice ht hfu with ⟨h1, _⟩ | ⟨ad, n, cp, m, k, D, Pl, h1, _, h2, h3, hm, _, h5⟩
 ·exact ⟨none, 0, 0, [], h1, Sl.nil W none sz, fun _ h => by simp at h⟩
 ·have hnm : n ≤ m := by rw [hm]; split <;> omega
  obtain ⟨l, hl, hp⟩ := ur (p := fun i a => W.cells? base (ad.add (i * sz)) sz = some (f a) ∧ p a) n fun i hi => by
   exact Ni
  refine ⟨some ad, n, cp, l, h1, ⟨by rw [eP hf, hl], fun _ => ⟨ad, rfl, fun j u hu => ?_⟩⟩, fun a ha => ?_⟩
  ·exact Ro
  ·obtain ⟨i, hi⟩ := Vw.1 ha;exact (hp i a hi).2
theorem FM {t e : TypeId} {H : Type} {enc : TypeId × Value → H} {A : Option Addr} {x : DataW H × List MemPlace}
  (ht : P.underlying t = some (.slice e)) (hfu : DataW.trod enc P W base sp held fuel t [.slice A n c] = some x) : n ≤ c := by
 rcases Go.Deep.open_slice ht hfu with ⟨h1, _⟩ | ⟨ad, n', cp, m, k, D, Pl, h1, _, h2, _⟩
 ·injection h1 with h1
  injection h1 with _ e2 e3
  omega
 ·injection h1 with h1
  injection h1 with _ e2 e3
  omega
theorem He {l : List Int} (h : l.all cz = true) : ints (l.map xx) = l := by
 induction l with
 | nil => rfl
 | cons x l ih =>
  simp only [List.all_cons, Uj] at h;have h1 : ((xx x).toNat : Int) = x := by
   have := rU h.1;injection this with _ this
   exact this.symm
  have := ih h.2;simp only [ints, Ut, h1];congr 1
theorem Hq {l : List Int} (h : l.all cz = true) : eM (l.map xx) = true := by
 rw [eM, Ux];intro c hc;obtain ⟨x, hx, rfl⟩ := Ui.1 hc;have h1 := Ux.1 h x hx;have := rU h1;injection this with _ this
 simp only [cz, Uj, Up] at h1;simp only [Up];omega
theorem ME {a : List UInt8} (h : eM a = true) : (ints a).all cz = true := by
 rw [Ux];intro x hx;obtain ⟨c, hc, rfl⟩ := Ui.1 hx;have := Ux.1 h c hc;simp only [Up] at this;simp only [cz, Uj, Up];omega
theorem vw {f : Int → Int → Int} {a b : List UInt8} {l : List Int} (h : jd f a b = some l) : eM a = true ∧ eM b = true ∧ b.length = a.length ∧ l = List.zipWith f (ints a) (ints b) := by
 unfold jd at h;split at h
 ·rename_i hc;simp only [Uj, Up] at hc;injection h with h
  exact ⟨hc.1, hc.2.1, TX, h.symm⟩
 ·cases h
theorem L5 {f : Int → Int → Int} {a b : List UInt8} (h1 : eM a = true) (h2 : eM b = true) (h3 : b.length = a.length) : jd f a b = some (List.zipWith f (ints a) (ints b)) := by
 unfold jd;rw [T2 (by simp [h1, h2, h3])]
theorem ni {a c : List UInt8} (h : (mulL a c).2 = 0) : eM a = true ∧ eM c = true ∧ c.length = a.length ∧ eM (mulL a c).1 = true ∧ ints (mulL a c).1 = List.zipWith (· + ·) (ints a) (ints c) := by
 unfold mulL at h ⊢;split
 ·rename_i l hl;rw [hl] at h;simp only at h ⊢;obtain ⟨h1, h2, h3, h4⟩ := vw hl;by_cases hc : l.all cz = true
  ·rw [(pD hc).1];exact ⟨h1, h2, h3, Hq hc, by rw [He hc, h4]⟩
  ·simp [KM, hc] at h
 ·rename_i hl;rw [hl] at h;simp at h
theorem Cr {a c : List UInt8} (h : (mulL a c).2 = 0) : (mulL a c).1.length = a.length := by
 obtain ⟨_, _, h3, _, h5⟩ := ni h;have := U9 List.length h5;rw [cX, List.length_zipWith, cX, cX] at this;omega
structure TR where
 m : ByteArray
 c : NR
def TR.cells (t : TR) : List Value := [.string t.m, .bool t.c.neg, .string t.c.bz, .int .i64 t.c.e]
theorem TR.len (t : TR) : t.cells.length = 4 := rfl
theorem TR.one (t : TR) : t.cells.all Value.oneCell' = true := rfl
def ji (a b : ByteArray) : Bool := Op.bytesLess a.data.toList b.data.toList
theorem oJ : ∀ a : List UInt8, Op.bytesLess a a = false
 | [] => rfl
 | c :: a => by simp [Op.bytesLess, oJ a]
theorem qZ : ∀ a b c : List UInt8, Op.bytesLess a b = true → Op.bytesLess b c = true → Op.bytesLess a c = true
 | _, [], [], _, h => by simp [Op.bytesLess] at h
 | _, _ :: _, [], _, h => by simp [Op.bytesLess] at h
 | [], [], _ :: _, h, _ => by simp [Op.bytesLess] at h
 | _ :: _, [], _ :: _, h, _ => by simp [Op.bytesLess] at h
 | [], _ :: _, _ :: _, _, _ => rfl
 | x :: a, y :: b, z :: c, h1, h2 => by
  simp only [Op.bytesLess, Wd, Uj, Up, VI] at h1 h2 ⊢
  rcases h1 with h1 | ⟨rfl, h1⟩
  ·rcases h2 with h2 | ⟨rfl, h2⟩
   ·exact .inl (UInt8.lt_trans h1 h2)
   ·exact .inl h1
  ·rcases h2 with h2 | ⟨rfl, h2⟩
   ·exact .inl h2
   ·exact .inr ⟨rfl, qZ a b c h1 h2⟩
theorem vL : ∀ a b : List UInt8, Op.bytesLess a b = false → Op.bytesLess b a = false → a = b
 | [], [], _, _ => rfl
 | [], _ :: _, h, _ => by simp [Op.bytesLess] at h
 | _ :: _, [], _, h => by simp [Op.bytesLess] at h
 | x :: a, y :: b, h1, h2 => by
  simp only [Op.bytesLess, Bool.or_eq_false_iff, Xu, Xe, beq_eq_false_iff_ne] at h1 h2;have e : x = y := by
   have a1 := h1.1;have a2 := h2.1;rw [UInt8.lt_iff_toNat_lt] at a1 a2;exact WV.1 TX
  subst e;rw [vL a b (h1.2.resolve_left (fun h => h rfl)) (h2.2.resolve_left (fun h => h rfl))]
theorem gP (a : ByteArray) : ji a a = false := oJ _
theorem jD {a b c : ByteArray} (h1 : ji a b = true) (h2 : ji b c = true) : ji a c = true := qZ _ _ _ h1 h2
theorem oL {a b : ByteArray} (h1 : ji a b = false) (h2 : ji b a = false) : a = b := tT (vL _ _ h1 h2)
theorem Js {a b : ByteArray} (h : ji a b = true) : a ≠ b := fun e => by rw [e, gP] at h; cases h
theorem GR {a b : ByteArray} (h : ji a b = true) : ji b a = false := by
 cases h2 : ji b a with
 | false => rfl
 | true => have := jD h h2; rw [gP] at this; cases this
def sC (l : List TR) : Prop := l.Pairwise fun a b => ji a.m b.m = true
def wS (f : ByteArray → Dyadic) : List TR → Dyadic
 | [] => 0
 | t :: l => t.c.d * f t.m + wS f l
theorem mY (f : ByteArray → Dyadic) (l k : List TR) : wS f (l ++ k) = wS f l + wS f k := by
 induction l with
 | nil => exact (Wk _).symm
 | cons t l ih => rw [Ud, wS, wS, ih, Dyadic.add_assoc]
theorem LA (f : ByteArray → Dyadic) (l : List TR) (t : TR) : wS f (l ++ [t]) = wS f l + t.c.d * f t.m := by
 rw [mY, wS, wS, Wm]
def gj (l : List TR) (m : ByteArray) : Dyadic := wS (fun k => if k = m then 1 else 0) l
theorem fD (t : TR) (l : List TR) (m : ByteArray) : gj (t :: l) m = (if t.m = m then t.c.d else 0) + gj l m := by
 show t.c.d * (if t.m = m then 1 else 0) + gj l m = _;split
 ·rw [Dyadic.mul_one]
 ·rw [Xm]
theorem uu (m : ByteArray) : gj [] m = 0 := rfl
theorem eV (l k : List TR) (m : ByteArray) : gj (l ++ k) m = gj l m + gj k m := mY _ _ _
theorem vO {l : List TR} {m : ByteArray} (h : ∀ t ∈ l, t.m ≠ m) : gj l m = 0 := by
 induction l with
 | nil => rfl
 | cons t l ih => rw [fD, T3 (h t Uc), ih fun s hs => h s (Uf _ hs), Wk]
structure Canon (l : List TR) : Prop where
 rL : sC l
 nz : ∀ t ∈ l, t.c.d ≠ 0
 nf : ∀ t ∈ l, t.c = nR t.c.d
theorem uq {t : TR} {l : List TR} (h : Canon (t :: l)) : Canon l := ⟨(Vl.1 h.rL).2, fun s hs => h.nz s (Uf _ hs), fun s hs => h.nf s (Uf _ hs)⟩
theorem wE {t : TR} {l : List TR} {m : ByteArray} (h : sC (t :: l)) (hm : m = t.m ∨ ji m t.m = true) : ∀ s ∈ l, s.m ≠ m := fun s hs e => by
 have h1 := (Vl.1 h).1 s hs
 rcases hm with rfl | hm
 ·rw [e, gP] at h1; cases h1
 ·have := jD hm h1;rw [e, gP] at this; cases this
theorem jL {t : TR} {l : List TR} (h : sC (t :: l)) : gj (t :: l) t.m = t.c.d := by
 rw [fD, T2 rfl, vO (wE h (.inl rfl)), Wm]
theorem wU {t : TR} {l : List TR} {m : ByteArray} (h : sC (t :: l)) (hm : ji m t.m = true) : gj (t :: l) m = 0 := by
 rw [fD, T3 (fun e => Js hm e.symm), vO (wE h (.inr hm)), Wk]
theorem tk : ∀ {l k : List TR}, Canon l → Canon k → (∀ m, gj l m = gj k m) → l = k
 | [], [], _, _, _ => rfl
 | [], t :: k, _, hk, h => by
  have := h t.m;rw [jL hk.rL, uu] at this;exact absurd this.symm (hk.nz t Uc)
 | t :: l, [], hl, _, h => by
  have := h t.m;rw [jL hl.rL, uu] at this;exact absurd this (hl.nz t Uc)
 | t :: l, s :: k, hl, hk, h => by
  have h1 : ji t.m s.m = false := by
   cases hb : ji t.m s.m with
   | false => rfl
   | true =>
    have := h t.m;rw [jL hl.rL, wU hk.rL hb] at this;exact absurd this (hl.nz t Uc)
  have h2 : ji s.m t.m = false := by
   cases hb : ji s.m t.m with
   | false => rfl
   | true =>
    have := h s.m;rw [jL hk.rL, wU hl.rL hb] at this;exact absurd this.symm (hk.nz s Uc)
  have em := oL h1 h2;have ed : t.c.d = s.c.d := by
   have := h t.m;rw [jL hl.rL, em, jL hk.rL] at this;exact this
  have et : t = s := by
   have a := hl.nf t Uc;have b := hk.nf s Uc;obtain ⟨m1, c1⟩ := t;obtain ⟨m2, c2⟩ := s;simp only at em ed a b;rw [em, a, b, ed]
  subst et;rw [tk (uq hl) (uq hk) fun m => by
   have := h m;rw [fD, fD] at this;grind]
def nV : List TR → TR → List TR
 | [], x => [⟨x.m, nR x.c.d⟩]
 | t :: l, x => if ji t.m x.m = true then t :: nV l x else if ji x.m t.m = true then ⟨x.m, nR x.c.d⟩ :: t :: l else ⟨x.m, nR (t.c.d + x.c.d)⟩ :: l
theorem Ek (f : ByteArray → Dyadic) : ∀ (l : List TR) (x : TR), wS f (nV l x) = wS f l + x.c.d * f x.m
 | [], x => by
  show (nR x.c.d).d * f x.m + 0 = 0 + _;rw [bR, Wm, Wk]
 | t :: l, x => by
  unfold nV;split
  ·rw [wS, Ek f l x, wS, Dyadic.add_assoc]
  ·split
   ·rw [wS, wS, bR, Dyadic.add_comm]
   ·rename_i h1 h2;have e : t.m = x.m := oL (by simpa using h1) (by simpa using h2);rw [wS, wS, bR, e];grind
theorem sM : ∀ {l : List TR} {x t : TR}, t ∈ nV l x → t ∈ l ∨ t.m = x.m
 | [], x, t, h => .inr (by rw [Un.1 h])
 | s :: l, x, t, h => by
  unfold nV at h;split at h
  ·rcases Ul.1 h with rfl | h
   ·exact .inl Uc
   ·rcases sM h with h | h
    ·exact .inl (Uf _ h)
    ·exact .inr h
  ·split at h
   ·rcases Ul.1 h with rfl | h
    ·exact .inr rfl
    ·exact .inl h
   ·rcases Ul.1 h with rfl | h
    ·exact .inr rfl
    ·exact .inl (Uf _ h)
theorem Ae : ∀ {l : List TR} {x : TR}, sC l → sC (nV l x)
 | [], x, _ => Xv _ _
 | s :: l, x, h => by
  have h1 := Vl.1 h;unfold nV;split
  ·rename_i hs;refine Vl.2 ⟨fun t ht => ?_, Ae h1.2⟩
   rcases sM ht with ht | ht
   ·exact h1.1 t ht
   ·rw [ht]; exact hs
  ·split
   ·rename_i hs;refine Vl.2 ⟨fun t ht => ?_, h⟩
    rcases Ul.1 ht with rfl | ht
    ·exact hs
    ·exact jD hs (h1.1 t ht)
   ·rename_i a b;have e : s.m = x.m := oL (by simpa using a) (by simpa using b);refine Vl.2 ⟨fun t ht => ?_, h1.2⟩;show ji x.m t.m = true;rw [← e];exact h1.1 t ht
theorem Dx : ∀ {l : List TR} {x : TR}, (∀ t ∈ l, t.c = nR t.c.d) → ∀ t ∈ nV l x, t.c = nR t.c.d
 | [], x, _, t, ht => by rw [Un.1 ht]; show nR _ = nR (nR _).d; rw [bR]
 | s :: l, x, h, t, ht => by
  unfold nV at ht;split at ht
  ·rcases Ul.1 ht with rfl | ht
   ·exact h t Uc
   ·exact Dx (fun t ht => h t (Uf _ ht)) t ht
  ·split at ht
   ·rcases Ul.1 ht with rfl | ht
    ·show nR _ = nR (nR _).d; rw [bR]
    ·exact h t ht
   ·rcases Ul.1 ht with rfl | ht
    ·show nR _ = nR (nR _).d; rw [bR]
    ·exact h t (Uf _ ht)
theorem AZ : ∀ (l : List TR) (x : TR), (nV l x).length ≤ l.length + 1
 | [], x => T5 _
 | s :: l, x => by
  have := AZ l x;unfold nV;split
  ·rw [Uq, Uq]; omega
  ·split <;> simp
theorem DR {k : Nat} : ∀ {l : List TR} {x : TR}, (∀ t ∈ l, Sz k t.c.d) → Sz k x.c.d → ∀ t ∈ nV l x, Sz (k + 1) t.c.d
 | [], x, _, hx, t, ht => by rw [Un.1 ht]; show Sz _ (nR _).d; rw [bR]; exact hx.mono TX
 | s :: l, x, h, hx, t, ht => by
  unfold nV at ht;split at ht
  ·rcases Ul.1 ht with rfl | ht
   ·exact (h t Uc).mono TX
   ·exact DR (fun t ht => h t (Uf _ ht)) hx t ht
  ·split at ht
   ·rcases Ul.1 ht with rfl | ht
    ·show Sz _ (nR _).d; rw [bR]; exact hx.mono TX
    ·exact (h t ht).mono TX
   ·rcases Ul.1 ht with rfl | ht
    ·show Sz _ (nR _).d; rw [bR]; exact (h s Uc).add hx
    ·exact (h t (Uf _ ht)).mono TX
def lZ (l : List TR) : List TR := l.foldl nV []
def x6 (t : TR) : Bool := !decide (t.c.d = 0)
def aE (l : List TR) : List TR := (lZ l).filter x6
theorem iO (l : List TR) (x : TR) : lZ (l ++ [x]) = nV (lZ l) x := by unfold lZ; rw [Xi]; rfl
theorem jo {P : List α → Prop} (h0 : P []) (hs : ∀ l x, P l → P (l ++ [x])) (l : List α) : P l := by
 have : ∀ k : List α, P k.reverse := fun k => by
  induction k with
  | nil => exact h0
  | cons x k ih => rw [Ww]; exact hs _ _ ih
 have h := this l.reverse;rwa [Wn] at h
theorem G9 (f : ByteArray → Dyadic) (l : List TR) : wS f (lZ l) = wS f l := by
 induction l using jo with
 | h0 => rfl
 | hs l x ih => rw [iO, Ek, ih, LA]
theorem GC (l : List TR) : sC (lZ l) := by
 induction l using jo with
 | h0 => exact Xj
 | hs l x ih => rw [iO]; exact Ae ih
theorem G2 (l : List TR) : ∀ t ∈ lZ l, t.c = nR t.c.d := by
 induction l using jo with
 | h0 => intro t ht; cases ht
 | hs l x ih => rw [iO]; exact Dx ih
theorem Gl (l : List TR) : (lZ l).length ≤ l.length := by
 induction l using jo with
 | h0 => exact T5 _
 | hs l x ih => rw [iO, Ua]; have := AZ (lZ l) x; simp; omega
theorem Ip (l : List TR) (h : ∀ t ∈ l, Sz k t.c.d) : ∀ t ∈ lZ l, Sz (k + l.length) t.c.d := by
 induction l using jo with
 | h0 => intro t ht; cases ht
 | hs l x ih =>
  rw [iO, Ua];exact DR (k := k + l.length) (ih fun t ht => h t (VT _ ht)) ((h x (by simp)).mono TX)
theorem GF (l : List TR) : ∀ t ∈ lZ l, ∃ s ∈ l, s.m = t.m := by
 induction l using jo with
 | h0 => intro t ht; cases ht
 | hs l x ih =>
  rw [iO];intro t ht
  rcases sM ht with ht | ht
  ·obtain ⟨s, hs, e⟩ := ih t ht;exact ⟨s, VT _ hs, e⟩
  ·exact ⟨x, by simp, ht.symm⟩
theorem wq (f : ByteArray → Dyadic) (l : List TR) : wS f (l.filter x6) = wS f l := by
 induction l with
 | nil => rfl
 | cons t l ih =>
  rw [List.filter_cons];by_cases h : t.c.d = 0
  ·rw [T3 (by unfold x6; rw [Um h]; decide), ih, wS, h, Dyadic.zero_mul, Wk]
  ·rw [T2 (by unfold x6; rw [UB h]; rfl), wS, wS, ih]
theorem qg (f : ByteArray → Dyadic) (l : List TR) : wS f (aE l) = wS f l := (wq f _).trans (G9 f l)
theorem rM (l : List TR) (m : ByteArray) : gj (aE l) m = gj l m := qg _ _
theorem B3 {t : TR} (h : x6 t = true) : t.c.d ≠ 0 := fun e => by
 unfold x6 at h;rw [Um e] at h
 cases h
theorem eC (l : List TR) : Canon (aE l) :=
 ⟨List.Pairwise.filter _ (GC l), fun t ht => B3 (Vf.1 ht).2, fun t ht => G2 l t (Vf.1 ht).1⟩
theorem bP (l : List TR) : (aE l).length ≤ l.length := Ur (List.length_filter_le _ _) (Gl l)
theorem mP {l : List TR} (h : ∀ t ∈ l, Sz k t.c.d) : ∀ t ∈ aE l, Sz (k + l.length) t.c.d := fun t ht => Ip l h t (Vf.1 ht).1
theorem fR {l : List TR} : ∀ t ∈ aE l, ∃ s ∈ l, s.m = t.m := fun t ht => GF l t (Vf.1 ht).1
theorem vB {l k : List TR} (h : Canon k) (hc : ∀ m, gj k m = gj l m) : k = aE l := tk h (eC l) fun m => by rw [hc, rM]
theorem yF {l k : List TR} (hc : ∀ m, gj k m = gj l m) : aE k = aE l := vB (eC k) fun m => by rw [rM, hc]
variable {O Y l ys : List TR}
def iI (k : Nat) (l : List TR) : Prop := ∀ t ∈ l, t.c.ok ∧ Sz k t.c.d
theorem iI.mono (h : iI k l) (hk : k ≤ j) : iI j l := fun t ht => ⟨(h t ht).1, (h t ht).2.mono hk⟩
structure MD (k : Nat) (l L : List TR) : Prop where
 rL : sC L
 co : ∀ m, gj L m = gj l m
 len : L.length ≤ l.length
 ok : iI k L
 mem : ∀ t ∈ L, ∃ s ∈ l, s.m = t.m
theorem MD.mono {L : List TR} (h : MD k l L) (hk : k ≤ j) : MD j l L := ⟨h.rL, h.co, h.len, h.ok.mono hk, h.mem⟩
theorem MD.self (h : sC l) (hk : iI k l) : MD k l l := ⟨h, fun _ => rfl, T5 _, hk, fun t ht => ⟨t, ht, rfl⟩⟩
structure Mg (k : Nat) (xs ys O X Y : List TR) : Prop where
 ro : sC O
 rx : sC X
 ry : sC Y
 co : ∀ m, gj O m + (gj X m + gj Y m) = gj xs m + gj ys m
 bx : ∀ t ∈ O, ∀ s ∈ X, ji t.m s.m = true
 hy : ∀ t ∈ O, ∀ s ∈ Y, ji t.m s.m = true
 len : O.length + (X.length + Y.length) ≤ xs.length + ys.length
 oo : iI (k + 1) O
 ox : iI k X
 oy : iI k Y
 mo : ∀ t ∈ O, ∃ s ∈ xs ++ ys, s.m = t.m
 mx : ∀ t ∈ X, t ∈ xs ++ ys
 my : ∀ t ∈ Y, t ∈ xs ++ ys
theorem Mg.start {xs : List TR} (hx : sC xs) (hy : sC ys) (ox : iI k xs) (oy : iI k ys) : Mg k xs ys [] xs ys :=
 ⟨Xj, hx, hy, fun m => Wk _, fun t ht => (by cases ht), fun t ht => (by cases ht), by simp, fun t ht => (by cases ht), ox, oy, fun t ht => (by cases ht), fun t ht => VT _ ht, fun t ht => VK _ ht⟩
theorem tu {x : TR} (h : sC O) (hx : ∀ t ∈ O, ji t.m x.m = true) : sC (O ++ [x]) :=
 List.pairwise_append.2 ⟨h, Xv _ _, fun t ht s hs => by rw [Un.1 hs]; exact hx t ht⟩
theorem tY (x : TR) (m : ByteArray) : gj [x] m = if x.m = m then x.c.d else 0 := by rw [fD, uu, Wm]
theorem fj {P : α → Prop} {O : List α} {x : α} (h : ∀ t ∈ O, P t) (hx : P x) : ∀ t ∈ O ++ [x], P t := fun t ht => by
 rcases UD.1 ht with ht | ht
 ·exact h t ht
 ·rw [Un.1 ht]; exact hx
theorem Mg.left {xs X : List TR} {x y : TR} (h : Mg k xs ys O (x :: X) (y :: Y)) (hl : ji x.m y.m = true) : Mg k xs ys (O ++ [x]) X (y :: Y) := by
 obtain ⟨ro, rx, ry, co, bx, hby, len, oo, ox, oy, mo, mx, my⟩ := h;have r1 := Vl.1 rx;have r2 := Vl.1 ry;refine ⟨tu ro fun t ht => bx t ht x Uc, r1.2, ry, fun m => ?_, fj (fun t ht s hs => bx t ht s (Uf _ hs)) fun s hs => r1.1 s hs, fj hby fun s hs => ?_, by simp at len ⊢; omega, fj oo ⟨(ox x Uc).1, (ox x Uc).2.mono TX⟩, fun t ht => ox t (Uf _ ht), oy, fj mo ⟨x, mx x Uc, rfl⟩, fun t ht => mx t (Uf _ ht), my⟩
 ·have := co m;rw [fD x X] at this;rw [eV, tY];grind
 ·rcases Ul.1 hs with rfl | hs
  ·exact hl
  ·exact jD hl (r2.1 s hs)
theorem Mg.right {xs X : List TR} {x y : TR} (h : Mg k xs ys O (x :: X) (y :: Y)) (hl : ji y.m x.m = true) : Mg k xs ys (O ++ [y]) (x :: X) Y := by
 obtain ⟨ro, rx, ry, co, bx, hby, len, oo, ox, oy, mo, mx, my⟩ := h;have r1 := Vl.1 rx;have r2 := Vl.1 ry;refine ⟨tu ro fun t ht => hby t ht y Uc, rx, r2.2, fun m => ?_, fj bx fun s hs => ?_, fj (fun t ht s hs => hby t ht s (Uf _ hs)) fun s hs => r2.1 s hs, by simp at len ⊢; omega, fj oo ⟨(oy y Uc).1, (oy y Uc).2.mono TX⟩, ox, fun t ht => oy t (Uf _ ht), fj mo ⟨y, my y Uc, rfl⟩, mx, fun t ht => my t (Uf _ ht)⟩
 ·have := co m;rw [fD y Y] at this;rw [eV, tY];grind
 ·rcases Ul.1 hs with rfl | hs
  ·exact hl
  ·exact jD hl (r1.1 s hs)
theorem Mg.both {xs X : List TR} {x y : TR} (h : Mg k xs ys O (x :: X) (y :: Y)) (h1 : ji x.m y.m = false) (h2 : ji y.m x.m = false) (hk : k ≤ 3999980) : Mg k xs ys (O ++ [⟨x.m, nR (x.c.d + y.c.d)⟩]) X Y := by
 obtain ⟨ro, rx, ry, co, bx, hby, len, oo, ox, oy, mo, mx, my⟩ := h;have r1 := Vl.1 rx;have r2 := Vl.1 ry;have e := oL h1 h2;have hz := (ox x Uc).2.add (oy y Uc).2;refine ⟨tu ro fun t ht => bx t ht x Uc, r1.2, r2.2, fun m => ?_, fj (fun t ht s hs => bx t ht s (Uf _ hs)) fun s hs => r1.1 s hs, fj (fun t ht s hs => hby t ht s (Uf _ hs)) fun s hs => ?_, by simp at len ⊢; omega, fj oo ⟨hz.ok TX, ?_⟩, fun t ht => ox t (Uf _ ht), fun t ht => oy t (Uf _ ht), fj mo ⟨x, mx x Uc, rfl⟩, fun t ht => mx t (Uf _ ht), fun t ht => my t (Uf _ ht)⟩
 ·have := co m;rw [fD y Y, fD x X, ← e] at this;rw [eV, tY];show gj O m + (if x.m = m then (nR (x.c.d + y.c.d)).d else 0) + (gj X m + gj Y m) = _;rw [bR];grind
 ·show ji x.m s.m = true;rw [e];exact r2.1 s hs
 ·show Sz _ (nR _).d;rw [bR];exact hz
theorem Mg.done {xs X : List TR} (h : Mg k xs ys O X Y) (hd : X = [] ∨ Y = []) : MD (k + 1) (xs ++ ys) (O ++ X ++ Y) := by
 obtain ⟨ro, rx, ry, co, bx, hby, len, oo, ox, oy, mo, mx, my⟩ := h;refine ⟨?_, fun m => ?_, by simp at len ⊢; omega, fun t ht => ?_, fun t ht => ?_⟩
 ·rw [UI];refine List.pairwise_append.2 ⟨ro, ?_, fun t ht s hs => ?_⟩
  ·rcases hd with rfl | rfl
   ·exact ry
   ·rw [UF]; exact rx
  ·rcases UD.1 hs with hs | hs
   ·exact bx t ht s hs
   ·exact hby t ht s hs
 ·rw [eV, eV, eV, Dyadic.add_assoc];exact co m
 ·rcases UD.1 ht with ht | ht
  ·rcases UD.1 ht with ht | ht
   ·exact oo t ht
   ·exact ⟨(ox t ht).1, (ox t ht).2.mono TX⟩
  ·exact ⟨(oy t ht).1, (oy t ht).2.mono TX⟩
 ·rcases UD.1 ht with ht | ht
  ·rcases UD.1 ht with ht | ht
   ·exact mo t ht
   ·exact ⟨t, mx t ht, rfl⟩
  ·exact ⟨t, my t ht, rfl⟩
theorem MD.aE {k : Nat} {l L : List TR} (h : MD k l L) : ((L.filter x6).map fun t => (⟨t.m, nR t.c.d⟩ : TR)) = aE l := by
 refine vB ⟨?_, fun t ht => ?_, fun t ht => ?_⟩ fun m => ?_
 ·exact List.Pairwise.map _ (fun a b hab => hab) (List.Pairwise.filter _ h.rL)
 ·obtain ⟨s, hs, rfl⟩ := Ui.1 ht;show (nR s.c.d).d ≠ 0;rw [bR];exact B3 (Vf.1 hs).2
 ·obtain ⟨s, hs, rfl⟩ := Ui.1 ht;show nR s.c.d = nR (nR s.c.d).d;rw [bR]
 ·have e : ∀ (f : ByteArray → Dyadic) (k : List TR), wS f (k.map fun t => (⟨t.m, nR t.c.d⟩ : TR)) = wS f k := fun f k => by
   induction k with
   | nil => rfl
   | cons t k ih => rw [Ut, wS, wS, ih]; show (nR t.c.d).d * f t.m + _ = _; rw [bR]
  show wS _ _ = _;rw [e, wq];exact h.co m
theorem wk (h : l.length < 2) : sC l := by
 match l, h with
 | [], _ => exact Xj
 | [x], _ => exact Xv _ _
variable {K : Value → World → Prop} {ag : Bool} {by' : Nat} {cp : Operand} {kc kl : IntKind} {ops : Array Oper} {pos : String} {zc : List Value}
section
variable {ro : Mode}
section
variable {P : Program} {N : Nat} {ops : Array Oper} {Q : Kq} {ρ : Rf} {w w0 : World} {rest : List Oper} {H : List HE} {d : Nat} {ty : TypeId} {pos : String} {af : Array Edge}
theorem L0 (hh : Hp w0 H w) {t e : TypeId} {l : Operand} {L C : Int} {sz : Nat} (hl : ev ρ l = .int kl L) (hc : ev ρ cp = .int kc C) (hL : L = 0) (hC : C = (n : Int))
  (ht : P.underlying t = some (.slice e)) (hte : dq P e = some (sz, ag, by', zc)) (hb : by' * n ≤ 281474976710656) (h63 : n ≤ 9223372036854775807) (hN : d < N)
  (k : ∀ b w', Hp w0 (.row (some ⟨b, 0, none⟩) 0 n e sz [] :: H) w' → WL ro P N ops Q rest (cI ρ d (.slice (some ⟨b, 0, none⟩) 0 n)) w') :
  WL ro P N ops Q (⟨some d, .makeSlice t l cp, ty, pos, af, none⟩ :: rest) ρ w := by
 obtain ⟨i, z, dd, hi, hd, hz, hs, hby, hzc, _⟩ := eG hte;subst hL; subst hC; subst hs;have hr := run_make (P := P) w t e i z ht hi hz kl kc 0 n (Int.le_refl _) TX (by rw [hby, ← Vm]; omega) TX;simp only [Vp, Int.toNat_zero] at hr;refine aQ rfl rfl hN (w' := w.alloc (.cells (madeCells z.cells (n * i.size)) e)) (v := .slice (some ⟨w.heap.size, 0, none⟩) 0 n) ?_ (k _ _ (hh.aW (show Below w.heap.size w (w.alloc (.cells (madeCells z.cells (n * i.size)) e)) from ⟨rfl, rfl, rfl, (World.grownBy_alloc w _ none).size, fun j hj => (World.grownBy_alloc w _ none).block j hj (by simp)⟩) ?_))
 ·simp [execOp, hl, hc, hr]
 ·exact ⟨by simp, .inr ⟨w.heap.size, n, madeCells z.cells (n * i.size), rfl, T5 _, heap_alloc_new w _, T6 _, by unfold maxLen; omega, size_madeCells _ _, by simp⟩⟩
end
def iT (n sz : Nat) (cs : List Value) : VP := fun v W => ∃ g : Nat, v = .slice (some ⟨g, 0, none⟩) n n ∧ Sl W (some ⟨g, 0, none⟩) n sz cs
theorem iT.ext {sz : Nat} (v : Value) (w w' : World) (h : iT n sz cs v w) (hb : Below w.heap.size w w') : iT n sz cs v w' := let ⟨g, h1, h2⟩ := h; ⟨g, h1, h2.ext hb⟩
section
variable {P : Program} {ρ : Rf} {w : World}
theorem KW {d : Option Nat} {ty : TypeId} {af : Array Edge} {t e : TypeId} {l : Operand} {L C : Int} {sz : Nat} (hl : ev ρ l = .int kl L) (hc : ev ρ cp = .int kc C) (hL : L = (n : Int)) (hC : C = (n : Int))
  (ht : P.underlying t = some (.slice e)) (hte : dq P e = some (sz, ag, by', zc)) (hzl : zc.length = sz) (hb : by' * n ≤ 281474976710656) (h63 : n ≤ 9223372036854775807)
  (hk : ∀ v w2, iT n sz (fF n zc) v w2 → Below w.heap.size w w2 → K v w2) : OG P ops ⟨d, .makeSlice t l cp, ty, pos, af, none⟩ ρ w K := by
 obtain ⟨i, z, dd, hi, hd, hz, hs, hby, hzc, _⟩ := eG hte;subst hL; subst hC;obtain ⟨w', hr, hown, hg⟩ := run_make_full (P := P) w w.heap.size t e i z sz ht hi hz hs kl kc n (by rw [hby]; exact hb) (by unfold maxLen; omega) (T5 _);have hzz : (madeCells z.cells (n * sz)).toList = fF n zc := by
  exact PC
 rw [hzz] at hown;exact fG rfl (w' := w') (v := .slice (some ⟨w.heap.size, 0, none⟩) n n) (by simp [execOp, hl, hc, hr]) (hk _ _ ⟨w.heap.size, rfl, lI hown⟩ ⟨hg.os, hg.tape, hg.output, hg.size, fun j hj => hg.block j hj (by simp)⟩)
theorem uF (n : Nat) : fF n [.int .u8 0] = nq (List.replicate n 0) := by
 induction n with
 | zero => rfl
 | succ n ih => rw [fF, ih, V9]; rfl
end
end
theorem Du (a : ByteArray) : a.toList = a.data.toList := by
 have key : ∀ s : ByteArray, s.toList = s.data.toList := fun s => by
  exact Rt
 exact key a
theorem pb (a b : ByteArray) : Op.bytesLess a.toList b.toList = ji a b := by rw [Du, Du]; rfl
theorem KF (a b : ByteArray) : (!(Op.bytesLess a.toList b.toList || a.toList == b.toList)) = ji b a := by
 rw [pb, HB]
 cases h1 : ji a b with
 | true => rw [GR h1]; rfl
 | false =>
  cases h2 : ji b a with
  | true => rw [UB (fun e => Js h2 e.symm)]; rfl
  | false => rw [Um (oL h1 h2)]; rfl
def HO (x y : TR) : Int := if ji x.m y.m = true then -1 else if ji y.m x.m = true then 1 else 0
theorem Cy (x y : TR) (w : World) : Calls Tryz.prog 76 #[.agg #[.string x.m, .bool x.c.neg, .string x.c.bz, .int .i64 x.c.e], .agg #[.string y.m, .bool y.c.neg, .string y.c.bz, .int .i64 y.c.e]] w fun r w' => r = .returned (.int .i64 (HO x y)) ∧ Below w.heap.size w w' := by
 have hh := Hp.start w;refine aj (N := 17) (l := [.agg #[.string x.m, .bool x.c.neg, .string x.c.bz, .int .i64 x.c.e], .agg #[.string y.m, .bool y.c.neg, .string y.c.bz, .int .i64 y.c.e]]) Tryz.func76 rfl rfl (by simp) ?_;refine sr ?_;refine cD hh [_,_,_,_] ?_;intro b2 w2 hh;refine cD hh [_,_,_,_] ?_;intro b3 w3 hh;refine ud ?_;refine bG hh 1 ?_;refine bH ?_;refine bG hh 0 ?_;refine Fy rfl rfl TY ?_;refine aB (aa ?_);rw [pb];unfold HO
 cases h1 : ji x.m y.m with
 | true =>
  refine cT (sr (aI (aa (au (cd (aG ?_))))));refine cZ ?_;exact ⟨rfl, hh.below⟩
 | false =>
  refine cF (sr (bH ?_));refine bG hh 1 ?_;refine bH ?_;refine bG hh 0 ?_;refine F3 rfl rfl TY ?_;refine aB (aa ?_);rw [KF]
  cases h2 : ji y.m x.m with
  | true =>
   refine cT (sr (aI (aa (au (cd (aG ?_))))));refine cZ ?_;exact ⟨rfl, hh.below⟩
  | false =>
   refine cF (ar (bE (ai (sr (aI (aa (au ?_)))))));refine cZ ?_;exact ⟨rfl, hh.below⟩
theorem Fu (x y : TR) (k : Nat) (w : World) (hT : eh w) (hx : x.c.ok ∧ Sz k x.c.d) (hy : y.c.ok ∧ Sz k y.c.d) (hk : k ≤ 3999980) : Calls Tryz.prog 77 #[.agg #[.string x.m, .bool x.c.neg, .string x.c.bz, .int .i64 x.c.e], .agg #[.string y.m, .bool y.c.neg, .string y.c.bz, .int .i64 y.c.e]] w fun r w' => r = .returned (.agg #[.string x.m, .bool (nR (x.c.d + y.c.d)).neg, .string (nR (x.c.d + y.c.d)).bz, .int .i64 (nR (x.c.d + y.c.d)).e]) ∧ Below w.heap.size w w' := by
 have hh := Hp.start w;have hsum := fun A cc w1 hT1 hS1 => iY A 2 cc [x.c, y.c] w1 hT1 hS1 (by simpa using ⟨hx.1, hy.1⟩) k (by simpa using ⟨hx.2, hy.2⟩) TX;rw [show mg ([x.c, y.c].map NR.d) = x.c.d + y.c.d by simp only [Ut, UR, kS]] at hsum;refine aj (N := 14) (l := [.agg #[.string x.m, .bool x.c.neg, .string x.c.bz, .int .i64 x.c.e], .agg #[.string y.m, .bool y.c.neg, .string y.c.bz, .int .i64 y.c.e]]) Tryz.func77 rfl rfl (by simp) ?_;refine sr ?_;refine cD hh [_,_,_,_] ?_;intro b2 w2 hh;refine cD hh [_,_,_,_] ?_;intro b3 w3 hh;refine bV hh ?_;intro b4 w4 hh;refine aa (ah ?_);refine aV 8 [[(2, none)], [(5, some 0)], [(2, none)], [(7, some 2)], [(3, none)], [(9, some 4)], [(8, some 3), (10, some 5)], [(11, some 6)]] [(7, 12), (6, 11), (5, 10), (4, 9), (3, 8), (2, 7), (1, 6), (0, 5)] hh mixed TZ ?_;refine ej ?_;refine fY 2 ?_;refine ej ?_;refine fU 2 [_,_,_] ?_;refine ej ?_;refine fU 1 [_,_,_] ?_;refine tQ [_,_,_,_,_,_] ?_;refine aT (i := 7) (Is (.agg #[.bool (nR (x.c.d + y.c.d)).neg, .string (nR (x.c.d + y.c.d)).bz, .int .i64 (nR (x.c.d + y.c.d)).e])) Is.ext ?_ ?_
 ·intro ρ1 w1 hj hR;obtain ⟨A11, c11, h11, s11⟩ := hR.1;exact bf rfl (aO al.out (aw h11 aZ)) (hsum A11 c11 _ (hT.hp hj.hp) s11) (fun _ _ hq => ⟨_, hq.1, hq.2, rfl⟩)
 refine aR ?_;intro f W hJ hV;have hb_1 := hJ.bl;obtain ⟨v12, v11, v10, v9, v8, v7, v6, v5, _⟩ := hV;obtain ⟨A11, c11, e11, f11⟩ : Rows _ _ _ (f 6) W := v11;replace hh := hJ.hp;refine aY (br (ae v12 (ae e11 (ae v10 (ae v9 (ae v8 (ae v7 (ae v6 (ae v5 aX))))))))) ?_;dsimp only [cf];clear e11 hJ;refine gB [_,_,_,_] ?_;refine bW hh 0 [_,_,_,_] ?_;intro ws hh;replace hh : Hp _ (.blk _ _ [_, _, _, _] _ :: _) _ := hh;refine aa (au ?_);refine KT (eO rfl (eN (vs := [_, _, _, _]) aK.out (hh.ck (i := 0) (n := 4) rfl rfl) rfl) gm) ?_;exact ⟨rfl, hh.below⟩
variable {N : Nat} {w : World} {ρ : Rf}
theorem cW {Q : Kq} {L : Array Bool} {i d : Nat} {op : Op} {ty : TypeId} {af : Array Edge} {v : Value} (hq : NP Q) (hi : ops[i]? = some ⟨some d, op, ty, pos, af, none⟩) (hs : Region.noSelect ops = true) (hf : Region.free .any ops L i = true) (hr : (Region.ready .any ops L).contains i = true)
  (hv : ∀ w, (execOp (ev ρ) ⟨some d, op, ty, pos, af, none⟩).run P w = .ok (.value v) w) (hN : d < N) (h : WA P N ops Q fuel (L.setIfInBounds i true) (cI ρ d v) w) : WA P N ops Q (fuel + 1) L ρ w :=
 ⟨fun a hfit => wpAny_first hi (Region.noSelect_spec hs) (fun c a w ⟨ρ', _, hq'⟩ => (hq c ρ' w hq').elim) fuel L a w (Region.free_spec hi hf) (by simpa using hr) (.inl ⟨by simp [Region.wanted], fun w => by rw [hfit.eval]; exact hv w⟩) (h.out _ (hfit.put hN v))⟩
theorem Sl.tail {A : Option Addr} {x : TR} {X : List TR} (h : Sl w A n 4 (az TR.cells (x :: X))) (h0 : 0 < n) (hc : n ≤ c) : Sl w (if c = 1 then A else A.map (·.add (1 * 4))) (n - 1) 4 (az TR.cells X) := by
 have := h.back (l := 1) TX hc;rw [show (az TR.cells (x :: X)).drop (1 * 4) = az TR.cells X from jK TR.len (x :: X) 1] at this;exact this
theorem pZ (A : Option Addr) (n c : Nat) (xs : List TR) (B : Option Addr) (m c2 : Nat) (ys : List TR) (k : Nat) (w : World) (hT : eh w) (hS : Sl w A n 4 (az TR.cells xs)) (hS2 : Sl w B m 4 (az TR.cells ys)) (hc : n ≤ c) (hc2 : m ≤ c2) (hn : n ≤ 1000000) (hm : m ≤ 1000000) (hk : k ≤ 3999980)
  (rx : sC xs) (ry : sC ys) (ox : iI k xs) (oy : iI k ys) :
  Calls Tryz.prog 75 #[.slice A n c, .slice B m c2, .func (.func 76) #[] #[], .func (.func 77) #[] #[]] w fun r w' => ∃ (L : List TR) (A' : Option Addr) (c' : Nat), MD (k + 1) (xs ++ ys) L ∧ r = .returned (.slice A' L.length c') ∧ Hp w [.row A' L.length c' 96 4 (az TR.cells L)] w' := by
 have hh := Hp.start w;have hlx := hS.bq TR.len TY;have hly := hS2.bq TR.len TY;have hnx : xs.length ≤ 1000000 := TX;have hny : ys.length ≤ 1000000 := TX;refine aj (N := 75) (l := [.slice A n c, .slice B m c2, .func (.func 76) #[] #[], .func (.func 77) #[] #[]]) Tryz.func75 rfl rfl (by simp) ?_;refine sr (aL (aa (sr (mL (aJ (mL (aJ ?_)))))));refine bj ?_;refine L0 (n := (n + m)) hh rfl rfl TX TX bk.out aK.out TX TX TY ?_;intro b16 w16 hh;refine aL (aa (ah (aq ?_)));refine y8 [0, 1, 9, 10, 17, 18, 19, 20, 21, 22, 23, 24, 25, 26, 27, 28, 29, 30, 31, 32, 33, 34, 35, 36, 37, 38, 39, 40, 41, 42, 43, 44, 45, 46, 47, 48, 49, 50, 51, 52, 53, 54, 55, 56, 57, 58, 59, 60, 61, 62, 63, 64, 65, 66, 67, 68, 69] 0 1 9
  (fun va vb vo w' => ∃ (A : Option Addr) (n c : Nat) (X : List TR) (B : Option Addr) (m c2 : Nat) (Y : List TR) (O : List TR) (C : Option Addr) (co : Nat), va = .slice A n c ∧ vb = .slice B m c2 ∧ vo = .slice C O.length co ∧ n ≤ c ∧ m ≤ c2 ∧ Sl w A n 4 (az TR.cells X) ∧ Sl w B m 4 (az TR.cells Y) ∧ Mg k xs ys O X Y ∧ Hp w [.row C O.length co 96 4 (az TR.cells O)] w')
  (fun va vb _ _ => lenOf va + lenOf vb) ?_ ?_
 ·exact ⟨A, n, c, xs, B, m, c2, ys, [], some ⟨b16, 0, none⟩, n + m, rfl, rfl, rfl, hc, hc2, hS, hS2, Mg.start rx ry ox oy, hh⟩
 ·clear hh hS hS2 hlx hly hc hc2 hn hm;rintro ρ' va vb vo w' ⟨A, n, c, X, B, m, c2, Y, O, C, co, rfl, rfl, rfl, hc, hc2, hS, hS2, hmg, hh⟩;have hX := hS.bq TR.len TY;have hY := hS2.bq TR.len TY;have hlen := hmg.len;have oX := cv TR.one X;have oY := cv TR.one Y;by_cases hn : n = 0
  ·refine ah (sr (mL (aJ ?_)));refine cm (mB ?_);refine gS (gS (gS ?_));refine e7 ?_;refine aa (cF (a6 (aD (aD (bB (ai (sr (mL (mL ?_)))))))));refine cK hh (i := 0) rfl rfl rfl (hS.ext hh.below) bk.out aK.out rfl TY ?one3 TX TX TY ?kk3
   case one3 => first | rfl | assumption | exact bZ _ | exact oneCells_u8s _
   intro A72 c72 w72 hh;simp only [Uh] at hh;refine mL ?_;refine cK hh (i := 0) rfl rfl rfl (hS2.ext hh.below) bk.out aK.out rfl TY ?one4 TX TX TY ?kk4
   case one4 => first | rfl | assumption | exact bZ _ | exact oneCells_u8s _
   intro A74 c74 w74 hh;simp only [Uh] at hh;refine aL (aa (au ?_));refine cZ ?_;have hd := hmg.done (.inl (VC TX));exact QM
  ·by_cases hm : m = 0
   ·refine ah (sr (mL (aJ ?_)));refine vR ?_;refine cm ?_;refine fL ?_;refine aa (cF (a6 (aD (aD (bB (ai (sr (mL (mL ?_)))))))));refine cK hh (i := 0) rfl rfl rfl (hS.ext hh.below) bk.out aK.out rfl TY ?one5 TX TX TY ?kk5
    case one5 => first | rfl | assumption | exact bZ _ | exact oneCells_u8s _
    intro A72 c72 w72 hh;simp only [Uh] at hh;refine mL ?_;refine cK hh (i := 0) rfl rfl rfl (hS2.ext hh.below) bk.out aK.out rfl TY ?one6 TX TX TY ?kk6
    case one6 => first | rfl | assumption | exact bZ _ | exact oneCells_u8s _
    intro A74 c74 w74 hh;simp only [Uh] at hh;refine aL (aa (au ?_));refine cZ ?_;have hd := hmg.done (.inr (VC TX));exact QM
   ·obtain ⟨x, X, rfl⟩ : ∃ x X', X = x :: X' := by cases X with
     | nil => exact absurd hX.symm hn
     | cons x X' => exact ⟨x, X', rfl⟩
    obtain ⟨y, Y, rfl⟩ : ∃ y Y', Y = y :: Y' := by cases Y with
     | nil => exact absurd hY.symm hm
     | cons y Y' => exact ⟨y, Y', rfl⟩
    obtain ⟨ad, rfl, hr⟩ := hS.at_ TX;obtain ⟨ad2, rfl, hr2⟩ := hS2.at_ TX;have hxx : (x :: X)[0]? = some x := rfl;have hyy : (y :: Y)[0]? = some y := rfl;have hSt := hS.tail TX hc;have hSt2 := hS2.tail TX hc2;have hsd := fun w1 => Cy x y w1;unfold HO at hsd
    cases h1 : ji x.m y.m with
    | true =>
     rw [h1, T2 rfl] at hsd;refine ah (sr (mL (aJ ?_)));refine vR ?_;refine cm ?_;refine fL ?_;refine aa (cT (ar (ai (aq (ah ?_)))));refine IY ?_;refine L9 ?_;refine fT ?_;refine l3 (0) ?_;refine r9 [_,_,_,_] (fun _ hj => (hr.ext hj.hp.below).recAt TR.len hxx) ?_;refine fT ?_;refine l3 (0) ?_;refine r9 [_,_,_,_] (fun _ hj => (hr2.ext hj.hp.below).recAt TR.len hyy) ?_;refine aR ?_;intro f W hJ hV;have hb_3 := hJ.bl;obtain ⟨v31, v30, v29, v28, v27, v26, v25, _⟩ := hV;replace hh := hJ.hp;refine Ho ?_;dsimp only [cf];clear hJ;refine gg (hsd _) al.out rfl rfl TY ?_;rintro e_ w32 ⟨rfl, hb_⟩;refine ⟨_, rfl, ?_⟩;replace hh := hh.ext hb_;refine aI (aa (aq (sr (mI ?_))));refine bg (aB (aa (cT ?_)));refine p7 hh mixed fun w_ hj_ => ?_;replace hh := hj_.hp;clear hj_;refine cW (i := 6) (by repeat (first | exact cA | refine bQ ?_ | refine cE ?_ | refine np_scope ?_)) rfl TZ TZ TZ (fun _ => eH rfl) TY ?_;refine cW (i := 7) (by repeat (first | exact cA | refine bQ ?_ | refine cE ?_ | refine np_scope ?_)) rfl TZ TZ TZ (fun _ => jl (l := 1) bk.out aK.size rfl rfl TX TX TX) TY ?_
     refine cW (i := 0) (by repeat (first | exact cA | refine bQ ?_ | refine cE ?_ | refine np_scope ?_)) rfl TZ TZ TZ (fun _ => eH rfl) TY ?_;refine cW (i := 1) (by repeat (first | exact cA | refine bQ ?_ | refine cE ?_ | refine np_scope ?_)) rfl TZ TZ TZ (fun _ => eH rfl) TY ?_;refine cW (i := 2) (by repeat (first | exact cA | refine bQ ?_ | refine cE ?_ | refine np_scope ?_)) rfl TZ TZ TZ (fun _ => g7 (k := 0) bk.out aK.size rfl rfl TX TX) TY ?_;refine fQ (i := 3) TZ rfl ?_;refine JO ?_;refine fp ?_;refine fQ (i := 4) TZ rfl ?_;refine Bf ?_;intro b55 w55 hh;refine fp ?_;refine fQ (i := 5) TZ rfl ?_;refine pK ?_;intro A56 c56 w56 hh;simp only [Uh, UH] at hh;replace hh := hh.sub (UM _ _);refine fp ?_;refine kd 8 TY TZ TY TZ TZ ?_;refine aL (aL (aA (bE (bE (ai ?_)))));replace hh := hh.sub (T4 _ UA);refine ⟨⟨_, n - 1, c - 1, X, some ad2, m, c2, y :: Y, O ++ [x], A56, c56, rfl, rfl, ?_, TX, hc2, hSt, hS2, hmg.left h1, ?_⟩, by show (n - 1) + m < n + m; omega, ?_⟩
     ·show Value.slice _ (O.length + 1) _ = Value.slice _ (O ++ [x]).length _;rw [Ua]
      rfl
     ·rw [Ua, bY];exact hh
     ·exact dQ
    | false =>
     cases h2 : ji y.m x.m with
     | true =>
      rw [h1, h2, T3 TY, T2 rfl] at hsd;refine ah (sr (mL (aJ ?_)));refine vR ?_;refine cm ?_;refine fL ?_;refine aa (cT (ar (ai (aq (ah ?_)))));refine IY ?_;refine L9 ?_;refine fT ?_;refine l3 (0) ?_;refine r9 [_,_,_,_] (fun _ hj => (hr.ext hj.hp.below).recAt TR.len hxx) ?_;refine fT ?_;refine l3 (0) ?_;refine r9 [_,_,_,_] (fun _ hj => (hr2.ext hj.hp.below).recAt TR.len hyy) ?_;refine aR ?_;intro f W hJ hV;have hb_3 := hJ.bl;obtain ⟨v31, v30, v29, v28, v27, v26, v25, _⟩ := hV;replace hh := hJ.hp;refine Ho ?_;dsimp only [cf];clear hJ;refine gg (hsd _) al.out rfl rfl TY ?_;rintro e_ w32 ⟨rfl, hb_⟩;refine ⟨_, rfl, ?_⟩;replace hh := hh.ext hb_;refine aI (aa (aq (sr (mI ?_))));refine bg (aB (aa (cF (sr (mI ?_)))));refine cm (aB (aa (cT ?_)));refine p7 hh mixed fun w_ hj_ => ?_;replace hh := hj_.hp;clear hj_;refine cW (i := 6) (by repeat (first | exact cA | refine bQ ?_ | refine cE ?_ | refine np_scope ?_)) rfl TZ TZ TZ (fun _ => eH rfl) TY ?_;refine cW (i := 7) (by repeat (first | exact cA | refine bQ ?_ | refine cE ?_ | refine np_scope ?_)) rfl TZ TZ TZ (fun _ => jl (l := 1) bk.out aK.size rfl rfl TX TX TX) TY ?_
      refine cW (i := 0) (by repeat (first | exact cA | refine bQ ?_ | refine cE ?_ | refine np_scope ?_)) rfl TZ TZ TZ (fun _ => eH rfl) TY ?_;refine cW (i := 1) (by repeat (first | exact cA | refine bQ ?_ | refine cE ?_ | refine np_scope ?_)) rfl TZ TZ TZ (fun _ => eH rfl) TY ?_;refine cW (i := 2) (by repeat (first | exact cA | refine bQ ?_ | refine cE ?_ | refine np_scope ?_)) rfl TZ TZ TZ (fun _ => g7 (k := 0) bk.out aK.size rfl rfl TX TX) TY ?_;refine fQ (i := 3) TZ rfl ?_;refine Jt ?_;refine fp ?_;refine fQ (i := 4) TZ rfl ?_;refine Bf ?_;intro b66 w66 hh;refine fp ?_;refine fQ (i := 5) TZ rfl ?_;refine pK ?_;intro A67 c67 w67 hh;simp only [Uh, UH] at hh;replace hh := hh.sub (UM _ _);refine fp ?_;refine kd 8 TY TZ TY TZ TZ ?_;refine aL (aL (aA (bE (bE (ai ?_)))));replace hh := hh.sub (T4 _ UA);refine ⟨⟨some ad, n, c, x :: X, _, m - 1, c2 - 1, Y, O ++ [y], A67, c67, rfl, rfl, ?_, hc, TX, hS, hSt2, hmg.right h2, ?_⟩, by show n + (m - 1) < n + m; omega, ?_⟩
      ·show Value.slice _ (O.length + 1) _ = Value.slice _ (O ++ [y]).length _;rw [Ua]
       rfl
      ·rw [Ua, bY];exact hh
      ·exact dQ
     | false =>
      rw [h1, h2, T3 TY, T3 TY] at hsd;have hsm := fun w1 hT1 => Fu x y k w1 hT1 (hmg.ox x Uc) (hmg.oy y Uc) hk;refine ah (sr (mL (aJ ?_)));refine vR ?_;refine cm ?_;refine fL ?_;refine aa (cT (ar (ai (aq (ah ?_)))));refine IY ?_;refine L9 ?_;refine fT ?_;refine l3 (0) ?_;refine r9 [_,_,_,_] (fun _ hj => (hr.ext hj.hp.below).recAt TR.len hxx) ?_;refine fT ?_;refine l3 (0) ?_;refine r9 [_,_,_,_] (fun _ hj => (hr2.ext hj.hp.below).recAt TR.len hyy) ?_;refine aR ?_;intro f W hJ hV;have hb_3 := hJ.bl;obtain ⟨v31, v30, v29, v28, v27, v26, v25, _⟩ := hV;replace hh := hJ.hp;refine Ho ?_;dsimp only [cf];clear hJ;refine gg (hsd _) al.out rfl rfl TY ?_;rintro e_ w32 ⟨rfl, hb_⟩;refine ⟨_, rfl, ?_⟩;replace hh := hh.ext hb_;refine aI (aa (aq (sr (mI ?_))));refine bg (aB (aa (cF (sr (mI ?_)))));refine cm (aB (aa (cF ?_)));refine p7 hh mixed fun w_ hj_ => ?_;replace hh := hj_.hp;clear hj_;refine cW (i := 11) (by repeat (first | exact cA | refine bQ ?_ | refine cE ?_ | refine np_scope ?_)) rfl TZ TZ TZ (fun _ => eH rfl) TY ?_
      refine cW (i := 12) (by repeat (first | exact cA | refine bQ ?_ | refine cE ?_ | refine np_scope ?_)) rfl TZ TZ TZ (fun _ => jl (l := 1) bk.out aK.size rfl rfl TX TX TX) TY ?_;refine cW (i := 13) (by repeat (first | exact cA | refine bQ ?_ | refine cE ?_ | refine np_scope ?_)) rfl TZ TZ TZ (fun _ => eH rfl) TY ?_;refine cW (i := 14) (by repeat (first | exact cA | refine bQ ?_ | refine cE ?_ | refine np_scope ?_)) rfl TZ TZ TZ (fun _ => jl (l := 1) bk.out aK.size rfl rfl TX TX TX) TY ?_;refine cW (i := 0) (by repeat (first | exact cA | refine bQ ?_ | refine cE ?_ | refine np_scope ?_)) rfl TZ TZ TZ (fun _ => eH rfl) TY ?_;refine cW (i := 1) (by repeat (first | exact cA | refine bQ ?_ | refine cE ?_ | refine np_scope ?_)) rfl TZ TZ TZ (fun _ => eH rfl) TY ?_;refine cW (i := 2) (by repeat (first | exact cA | refine bQ ?_ | refine cE ?_ | refine np_scope ?_)) rfl TZ TZ TZ (fun _ => eH rfl) TY ?_;refine cW (i := 3) (by repeat (first | exact cA | refine bQ ?_ | refine cE ?_ | refine np_scope ?_)) rfl TZ TZ TZ (fun _ => g7 (k := 0) bk.out aK.size rfl rfl TX TX) TY ?_
      refine cW (i := 5) (by repeat (first | exact cA | refine bQ ?_ | refine cE ?_ | refine np_scope ?_)) rfl TZ TZ TZ (fun _ => eH rfl) TY ?_;refine cW (i := 6) (by repeat (first | exact cA | refine bQ ?_ | refine cE ?_ | refine np_scope ?_)) rfl TZ TZ TZ (fun _ => g7 (k := 0) bk.out aK.size rfl rfl TX TX) TY ?_;refine uo (i := 4) (i2 := 7) TZ rfl rfl ?_ ?_
      ·refine JO ?_;refine fp ?_;refine fQ (i := 7) TZ rfl ?_;refine Jt ?_;exact NT
      ·refine Jt ?_;refine fp ?_;refine fQ (i := 4) TZ rfl ?_;refine JO ?_;exact NT
variable {c' : Nat} {fz : Nat × Nat} {t' : TypeId} {w' w0 w1 : World}
section
variable {ro : Mode}
theorem oa {b b' : Nat} {t : TypeId} {sz : Nat} {A : Option Addr} {xs : List Value} (h : w.ownsRow b t sz (.slice A n c) n xs) (hb : b' ≤ b) : w.ownsRow b' t sz (.slice A n c) n xs :=
 ⟨h.1, h.2.imp id fun ⟨g, cap, cur, h1, h2, h3⟩ => ⟨g, cap, cur, h1, Ur hb h2, h3⟩⟩
theorem mK {b b' : Nat} {x : HE} (h : x.holds b w) (hb : b' ≤ b) : x.holds b' w := by
 cases x with
 | blk b t cs fz => exact ⟨Ur hb h.1, h.2⟩
 | row A n c t sz xs => exact oa h hb
 | ob b o => exact ⟨Ur hb h.1, h.2⟩
theorem Hp.perm {H H' : List HE} (h : Hp w0 H w) (hp : H.Perm H') : Hp w0 H' w :=
 ⟨h.below, fun x hx => h.own x (hp.mem_iff.2 hx), (hp.filterMap _).nodup_iff.1 h.nd⟩
theorem Hp.e8 {H : List HE} (h : Hp w0 H w) {i sz : Nat} {A : Option Addr} {t : TypeId} {xs : List Value} (hi : H[i]? = some (.row A n c t sz xs)) : n ≤ c := by
 have h1 : w.ownsRow w0.heap.size t sz (.slice A n c) n xs := h.at_ hi
 rcases h1.2 with ⟨_, h3⟩ | ⟨g, cap, cur, h2, _, _, h5, _⟩
 ·omega
 ·injection h2 with _ _ e3
  omega
theorem Hp.join {H H2 : List HE} (h : Hp w0 H w) (h2 : Hp w H2 w') : Hp w0 (H2 ++ H) w' := by
 have h' := h.ext h2.below;refine ⟨h'.below, fun x hx => ?_, ?_⟩
 ·rcases UD.1 hx with hx | hx
  ·exact mK (h2.own x hx) h.size
  ·exact h'.own x hx
 ·rw [Ws, WK];refine ⟨h2.nd, h.nd, fun a ha b hb hab => ?_⟩;subst hab;obtain ⟨x, hx, hxa⟩ := Vd.1 ha;obtain ⟨y, hy, hya⟩ := Vd.1 hb;have h3 := dK (h2.own x hx) hxa;have h4 := dK (h.own y hy) hya;omega
section
variable {P : Program} {N : Nat} {ops : Array Oper} {Q : Kq} {ρ : Rf} {w w0 : World} {rest : List Oper} {H : List HE} {ty : TypeId} {pos : String} {af : Array Edge}
theorem MB {o : Oper} {v : Value} (hg : o.guard = none) (hd : o.dst = none)
  (hr : (execOp (ev ρ) o).run P w = .ok (.value v) w') (k : WL ro P N ops Q rest ρ w') : WL ro P N ops Q (o :: rest) ρ w :=
 ⟨fun hm a hf => wpList_plain hg fun K hK => by
  unfold Oper.wp;rw [hf.eval, hr];show K (a.put o.dst v) w';rw [hd];exact hK _ _ (k.l7 hm _ hf),
 fun a hf n => wpListIn_plain hg fun K hK => by
  refine ⟨fun _ _ => trivial, ?_⟩;rw [hf.eval, kO _ hr (fun _ h => by cases h)];show K (a.put o.dst v) w';rw [hd];exact hK _ _ (k.jB _ hf n)⟩
theorem Az {l : List α} {i : Nat} {x : α} (h : l[i]? = some x) : l.set i x = l := by
 obtain ⟨h1, rfl⟩ := Uk.1 h;exact List.set_getElem_self h1
end
abbrev Hp.sz {w0 w : World} {H : List HE} (_ : Hp w0 H w) : Nat := w.heap.size
theorem Kj {A : Option Addr} {sz b : Nat} {t : TypeId} {xs : List Value} {cs : Array Value} (h : HE.holds base W (.row A n c t' sz xs)) (h3 : W.heap[b]? = some (.cells cs t fz)) (hne : t' ≠ t) : (HE.row A n c t' sz xs).id ≠ some b := by
 intro hid
 rcases h.2 with ⟨h1, _⟩ | ⟨g, cap, cur, h1, _, h4, _⟩
 ·injection h1 with e1
  subst e1
  cases hid
 ·injection h1 with e1
  subst e1;obtain rfl : g = b := UN hid;rw [h3] at h4;injection h4 with h4
  injection h4 with _ h5
  exact hne h5.symm
theorem JJ.qG {H L : List HE} {t : TypeId} {b : Nat} (hJ : JJ w0 H w W) (hs : Hp w0 H w) (h2 : w.heap.size ≤ b) (h3 : W.heap[b]? = some (.cells cs.toArray t (0, 0))) (hb : w.heap.size ≤ w1.heap.size) (hL : Hp w1 L W) (hne : ∀ x ∈ L, x.id ≠ some b) : Hp w0 (.blk b t cs (0, 0) :: (L ++ H)) W := by
 have h1 := hs.join (⟨hJ.bl, fun x hx => mK (hL.own x hx) hb, hL.nd⟩ : Hp w L W);refine ⟨h1.below, fun x hx => ?_, ?_⟩
 ·rcases Ul.1 hx with rfl | hx
  ·exact ⟨Ur hs.size h2, h3, .inr (T5 _)⟩
  ·exact h1.own x hx
 ·rw [VR];show (b :: (L ++ H).filterMap HE.id).Nodup;refine V2.2 ⟨fun hm => ?_, h1.nd⟩;obtain ⟨y, hy, hyb⟩ := Vd.1 hm
  rcases UD.1 hy with hy | hy
  ·exact hne y hy hyb
  ·have := (dK (hs.own y hy) hyb).2;omega
theorem Mq {A A' : Option Addr} {sz n' sz' : Nat} {t : TypeId} {xs xs' : List Value} (h : HE.holds base W (.row A n c t sz xs)) (h' : HE.holds base W (.row A' n' c' t' sz' xs')) (hne : t ≠ t') (b : Nat) (h1 : (HE.row A n c t sz xs).id = some b) : (HE.row A' n' c' t' sz' xs').id ≠ some b := by
 rcases h.2 with ⟨h2, _⟩ | ⟨g, cap, cur, h2, _, h4, _⟩
 ·injection h2 with e1
  subst e1
  cases h1
 ·injection h2 with e1
  subst e1;obtain rfl : g = b := UN h1;exact Kj h' h4 (fun e => hne e.symm)
def Gs (base : Nat) (t : TypeId) (n sz : Nat) (cs : List Value) : VP := fun v W => ∃ A c, v = .slice A n c ∧ W.ownsRow base t sz (.slice A n c) n cs
theorem Gs.ext {t : TypeId} {sz : Nat} (v : Value) (w w' : World) (h : Gs base t n sz cs v w) (hb : Below w.heap.size w w') : Gs base t n sz cs v w' := let ⟨A, c, h1, h2⟩ := h; ⟨A, c, h1, tw h2 hb⟩
def SV (base : Nat) (t1 t2 : TypeId) (n1 s1 n2 s2 : Nat) (xs1 xs2 : List Value) : VP := fun v W => ∃ A c B k, v = .agg #[.slice A n1 c, .slice B n2 k] ∧ W.ownsRow base t1 s1 (.slice A n1 c) n1 xs1 ∧ W.ownsRow base t2 s2 (.slice B n2 k) n2 xs2
end
structure RX where
 A : Option Addr
 n : Nat
 c : Nat
 ts : List TR
def kD (k : Nat) (l : List TR) : VP := fun v W => ∃ g : RX, v = .slice g.A g.n g.c ∧ (g.n ≤ g.c ∧ g.ts.length = g.n ∧ MD k l g.ts ∧ Sl W g.A g.n 4 (az TR.cells g.ts))
theorem kD.ext (v : Value) (w w' : World) (h : kD k l v w) (hb : Below w.heap.size w w') : kD k l v w' := let ⟨g, h1, h2, h3, h4, h5⟩ := h; ⟨g, h1, h2, h3, h4, h5.ext hb⟩
theorem MD.H3 {k1 k2 : Nat} {l1 l2 L1 L2 L : List TR} (h1 : MD k1 l1 L1) (h2 : MD k2 l2 L2) (h : MD k (L1 ++ L2) L) (hk : k ≤ j) : MD j (l1 ++ l2) L :=
 ⟨h.rL, fun m => by rw [h.co, eV, h1.co, h2.co, eV], by have a := h.len; have b := h1.len; have c := h2.len; rw [Ua] at a ⊢; omega, h.ok.mono hk, fun t ht => by
  obtain ⟨s, hs, e⟩ := h.mem t ht
  rcases UD.1 hs with hs | hs
  ·obtain ⟨u, hu, e2⟩ := h1.mem s hs;exact ⟨u, VT _ hu, e2.trans e⟩
  ·obtain ⟨u, hu, e2⟩ := h2.mem s hs;exact ⟨u, VK _ hu, e2.trans e⟩⟩
theorem mN (k : Nat) : ∀ (N : Nat) (A : Option Addr) (n c : Nat) (l : List TR) (w : World), n ≤ N → eh w → Sl w A n 4 (az TR.cells l) → n ≤ c → n ≤ 1000000 → k + n ≤ 3999980 → iI k l →
  Calls Tryz.prog 162 #[.slice A n c, .func (.func 76) #[] #[], .func (.func 77) #[] #[]] w fun r w' => (n < 2 ∧ r = .returned (.slice A n c) ∧ Below w.heap.size w w') ∨ (2 ≤ n ∧ ∃ (L : List TR) (A' : Option Addr) (c' : Nat), MD (k + n) l L ∧ r = .returned (.slice A' L.length c') ∧ Hp w [.row A' L.length c' 96 4 (az TR.cells L)] w')
 | 0, A, n, c, l, w, hN, hT, hS, hc, hn, hk, hok => by
  have hh := Hp.start w;obtain rfl : n = 0 := TX;refine aj (N := 30) (l := [.slice A 0 c, .func (.func 76) #[] #[], .func (.func 77) #[] #[]]) Tryz.func162 rfl rfl (by simp) ?_;refine sr (aL (aa (ah (sr (mL (aJ ?_))))));refine bg (aa (cT (sr (mL (aL (aa (au (aG ?_))))))));refine cZ ?_;exact .inl ⟨TX, rfl, hh.below⟩
 | N + 1, A, n, c, l, w, hN, hT, hS, hc, hn, hk, hok => by
  have hh := Hp.start w;have hl := hS.bq TR.len TY;by_cases h2 : n < 2
  ·refine aj (N := 30) (l := [.slice A n c, .func (.func 76) #[] #[], .func (.func 77) #[] #[]]) Tryz.func162 rfl rfl (by simp) ?_;refine sr (aL (aa (ah (sr (mL (aJ ?_))))));refine bg (aa (cT (sr (mL (aL (aa (au (aG ?_))))))));refine cZ ?_;exact .inl ⟨h2, rfl, hh.below⟩
  ·obtain ⟨h, hhalf⟩ : ∃ h, h = n / 2 := ⟨_, rfl⟩;have hh1 : 1 ≤ h := TX;have hh2 : h + h ≤ n := TX;have hh3 : n ≤ h + h + 1 := TX;have hq : ((n : Int)) / 2 = (h : Int) := TX;have hS1 := hS.front (m := h) TX;rw [show (az TR.cells l).take (h * 4) = az TR.cells (l.take h) from k5 TR.len l h] at hS1;have hS2 := hS.back (l := h) TX hc;rw [show (az TR.cells l).drop (h * 4) = az TR.cells (l.drop h) from jK TR.len l h] at hS2;have o1 : iI k (l.take h) := fun t ht => hok t (Wa ht);have o2 : iI k (l.drop h) := fun t ht => hok t (Xa ht);have rd : ∀ {A' : Option Addr} {n' c' : Nat} {l' : List TR} {r : Ending} {w1 w' : World}, Sl w1 A' n' 4 (az TR.cells l') → n' ≤ c' → iI k l' → ((n' < 2 ∧ r = .returned (.slice A' n' c') ∧ Below w1.heap.size w1 w') ∨ (2 ≤ n' ∧ ∃ (L : List TR) (B : Option Addr) (b : Nat), MD (k + n') l' L ∧ r = .returned (.slice B L.length b) ∧ Hp w1 [.row B L.length b 96 4 (az TR.cells L)] w')) → ∃ v, r = .returned v ∧ Below w1.heap.size w1 w' ∧ kD (k + n') l' v w' := by
    rintro A' n' c' l' r w1 w' hs hc' ho (⟨h1, rfl, hb⟩ | ⟨h1, L, B, b, hm, rfl, h3⟩)
    ·have e := hs.bq TR.len TY;exact ⟨_, rfl, hb, ⟨A', n', c', l'⟩, rfl, hc', e, (MD.self (wk TX) ho).mono TX, hs.ext hb⟩
    ·exact ⟨_, rfl, h3.below, ⟨B, L.length, b, L⟩, rfl, h3.e8 (i := 0) rfl, rfl, hm, h3.aC (i := 0) rfl⟩
   have ih1 := fun w1 (hT1 : eh w1) (hb : Below w.heap.size w w1) => mN k N A h c (l.take h) w1 TX hT1 (hS1.ext hb) TX TX TX o1;have ih2 := fun w1 (hT1 : eh w1) (hb : Below w.heap.size w w1) => mN k N _ (n - h) (c - h) (l.drop h) w1 TX hT1 (hS2.ext hb) TX TX TX o2;refine aj (N := 30) (l := [.slice A n c, .func (.func 76) #[] #[], .func (.func 77) #[] #[]]) Tryz.func162 rfl rfl (by simp) ?_;refine sr (aL (aa (ah (sr (mL (aJ ?_))))));refine bg (aa (cF (ar (ai (sr (mL (aJ ?_)))))));refine nE ?_;refine aI (aa (ah ?_));rw [hq];refine aV 14 [[(0, none)], [(7, none)], [(15, some 0), (16, some 1)], [(1, none)], [(2, none)], [(17, some 2), (18, some 3), (19, some 4)], [(0, none)], [(7, none)], [(21, some 6), (22, some 7)], [(1, none)], [(2, none)], [(23, some 8), (24, some 9), (25, some 10)], [(1, none)], [(2, none)]] [(13, 28), (12, 27), (11, 26), (10, 25), (9, 24), (8, 23), (7, 22), (6, 21), (5, 20), (4, 19), (3, 18), (2, 17), (1, 16), (0, 15)] hh mixed TZ ?_;refine fT ?_;refine dF ?_;refine bu (i := 2) (fun ρ1 w1 hj hR => AX (h := h) bk.out aK.size (show ρ1 15 = Value.slice _ _ _ from hR.1) (show ρ1 16 = Value.int _ _ from hR.2.1) TX TX) ?_;refine L9 ?_;refine L9 ?_
   refine aT (i := 5) (kD (k + h) (l.take h)) (kD.ext) ?_ ?_
   ·intro ρ1 w1 hj hR;exact bf rfl (aO al.out (aw (show ρ1 17 = Value.slice _ _ _ from hR.1) (aw (show ρ1 18 = Value.func _ _ _ from hR.2.1) (aw (show ρ1 19 = Value.func _ _ _ from hR.2.2.1) aZ)))) (ih1 w1 (hT.hp hj.hp) hj.hp.below) (fun _ _ hq => rd (hS1.ext hj.hp.below) TX o1 hq)
   refine fT ?_;refine dF ?_;refine bu (i := 8) (fun ρ1 w1 hj hR => jl (l := h) bk.out aK.size (show ρ1 21 = Value.slice _ _ _ from hR.1) (show ρ1 22 = Value.int _ _ from hR.2.1) TX TX TX) ?_;refine L9 ?_;refine L9 ?_;refine aT (i := 11) (kD (k + (n - h)) (l.drop h)) (kD.ext) ?_ ?_
   ·intro ρ1 w1 hj hR;exact bf rfl (aO al.out (aw (show ρ1 23 = Value.slice _ _ _ from hR.1) (aw (show ρ1 24 = Value.func _ _ _ from hR.2.1) (aw (show ρ1 25 = Value.func _ _ _ from hR.2.2.1) aZ)))) (ih2 w1 (hT.hp hj.hp) hj.hp.below) (fun _ _ hq => rd (hS2.ext hj.hp.below) TX o2 hq)
   refine L9 ?_;refine L9 ?_;refine aR ?_;intro f W hJ hV;have hb_4 := hJ.bl;obtain ⟨v28, v27, v26, v25, v24, v23, v22, v21, v20, v19, v18, v17, v16, v15, _⟩ := hV;obtain ⟨g20, e20, o20⟩ : kD (k + h) (l.take h) (f 5) W := v20;obtain ⟨g26, e26, o26⟩ : kD (k + (n - h)) (l.drop h) (f 11) W := v26;replace hh := hJ.hp;refine aY (br (ae v28 (ae v27 (ae e26 (ae v25 (ae v24 (ae v23 (ae v22 (ae v21 (ae e20 (ae v19 (ae v18 (ae v17 (ae v16 (ae v15 aX))))))))))))))) ?_;dsimp only [cf];clear e20 e26 hJ;obtain ⟨p1, p2, p3, p4⟩ := o20;obtain ⟨q1, q2, q3, q4⟩ := o26;have l1 := p3.len;have l2 := q3.len;rw [Us] at l1;rw [Vn] at l2;refine aF (pZ g20.A g20.n g20.c g20.ts g26.A g26.n g26.c g26.ts (k + (n - h)) _ (hT.hp hh) p4 q4 p1 q1 TX TX TX p3.rL q3.rL (p3.ok.mono TX) (q3.ok.mono TX)) al.out rfl TY ?_;rintro e_ w29 ⟨L, A', c', hm, rfl, h3⟩;refine ⟨_, rfl, ?_⟩;replace hh := hh.join h3;refine aL (aa (au ?_));refine cZ ?_;refine .inr ⟨TX, L, A', c', ?_, rfl, hh⟩;have := p3.H3 q3 hm (j := k + n) TX;rwa [UZ] at this
variable {o : Nat}
section
variable {ro : Mode}
section
variable {P : Program} {N : Nat} {ops : Array Oper} {Q : Kq} {ρ : Rf} {w w0 : World} {rest : List Oper} {H : List HE} {ty d : Nat} {pos : String} {af : Array Edge}
theorem yd (hh : Hp w0 H w) {t e : TypeId} {x : Operand} {i p sz g : Nat} {xs : List Value} (hi : H[i]? = some (.row (some ⟨g, 0, none⟩) p c e sz xs)) (hx : ev ρ x = .slice (some ⟨g, o, none⟩) m c') (ho : p * sz ≤ o) (hom : o + m * sz ≤ c * sz) (hm : 0 < m)
  (ht : P.underlying t = some (.slice e)) (hte : dq P e = some (sz, ag, by', zc)) (hzl : zc.length = sz) (h1 : (zc.all Value.oneCell') = true)
  (k : ∀ w', Hp w0 H w' → WL ro P N ops Q rest ρ w') : WL ro P N ops Q (⟨none, .call ⟨.builtin .clear, #[x], #[t]⟩, ty, pos, af, none⟩ :: rest) ρ w := by
 obtain ⟨z, hz, hzc⟩ := dz (w := w) hte;obtain ⟨hlen, h2⟩ := hh.at_ hi
 rcases h2 with ⟨h2, _⟩ | ⟨g', cap, cur, hv, hg, hheap, hmc, hcm, hcur, htake⟩
 ·cases h2
 ·injection hv with hA hn hcap
  injection hA with hA
  injection hA with hA
  subst hA; subst hcap;have hcl : cur.size = cur.toList.length := by simp
  have hzr : (fF m zc).length = m * sz := by rw [mD, hzl]
  have hall : ∀ v ∈ fF m zc, v.oneCell' = true := fun v hv => by
   obtain ⟨j, hj⟩ := Vw.1 hv;have hj2 := (Uk.1 hj).1;rw [mD] at hj2;rw [xY m zc j hj2] at hj;exact Ux.1 h1 v (T7 hj)
  obtain ⟨w', hr, hb', hgr, hs⟩ := gE (P := P) (b := g) (t := e) (fz := (0, 0)) o (fF m zc) 0 cur.toList w (by simpa using hheap) (.inr (T5 _)) (by rw [← hcl, hzr]; omega) hall;have hset := Az hi;refine MB rfl rfl (w' := w') (v := .tuple #[]) ?_ (k w' (hset ▸ hh.grown hi hgr (.inl rfl) ⟨hlen, .inr ⟨g, c, (cq cur.toList (o + 0) (fF m zc)).toArray, rfl, hg, by simpa using hb', hmc, hcm, ?_, ?_⟩⟩))
  ·simp only [execOp, resolve, invoke, hx, List.map_toArray, Ut, UR];have hzz : Builtin.zeroCells z.cells m = (fF m zc).toArray := by
    rw [Builtin.zeroCells, hzc, WJ]; exact uw m zc
   obtain ⟨q, rfl⟩ : ∃ q, m = q + 1 := ⟨m - 1, TX⟩;simp [builtin, Builtin.clear_, run_underlying ht, hz, hzz, hr]
  ·simp only [WJ];rw [fy (by rw [← hcl, hzr]; omega), ← hcl, hcur]
  ·simp only [cq];rw [UI, Xs (by rw [Us, ← hcl]; omega), List.take_take, U0 TX];exact htake
end
end
section
variable {ro : Mode}
section
variable {P : Program} {N : Nat} {ops : Array Oper} {Q : Kq} {ρ : Rf} {w w0 : World} {rest : List Oper} {d : Nat} {ty : TypeId} {pos : String} {af : Array Edge}
theorem rY {t e u : TypeId} {x y : Operand} {A : Option Addr} {n' : Nat} (ht : P.underlying t = some (.slice e)) (hx : ev ρ x = .slice A n c) (hy : ev ρ y = .slice none n' c') (hN : d < N)
  (kk : WL ro P N ops Q rest (cI ρ d (.bool A.isNone)) w) : WL ro P N ops Q (⟨some d, .binOp .eql t x y u, ty, pos, af, none⟩ :: rest) ρ w :=
 aQ rfl rfl hN (by
  have h1 := Go.Lib.run_eql_slice_nil (P := P) w t e A n c n' c' ht;simp only [execOp, hx, hy];simp [eqGuard, h1]) kk
end
end
variable {Hr : List HE}
theorem tZ (A : Option Addr) (n c : Nat) (l : List TR) (g : FuncId) (cap : List Value) (p : TR → Bool) (w : World) (hS : Sl w A n 4 (az TR.cells l)) (hn : n ≤ 1000000) [al Tryz.prog g]
  (hg : ∀ (z : TR) (w1 : World), z ∈ l → Below w.heap.size w w1 → Calls Tryz.prog g (.agg #[.string z.m, .bool z.c.neg, .string z.c.bz, .int .i64 z.c.e] :: cap).toArray w1 fun r w' => r = .returned (.bool (p z)) ∧ Below w1.heap.size w1 w') :
  Calls Tryz.prog 205 #[.slice A n c, .func (.func g) #[] cap.toArray] w fun r w' => ∃ v, r = .returned (.int .i64 v) ∧ ((l.any p = false ∧ v = -1) ∨ ∃ (i : Nat) (z : TR), i < n ∧ v = i ∧ (l.take i).any p = false ∧ l[i]? = some z ∧ p z = true) ∧ Below w.heap.size w w' := by
 have hh := Hp.start w;have hln := hS.bq TR.len TY;refine aj (N := 19) (l := [.slice A n c, .func (.func g) #[] cap.toArray]) Tryz.func205 rfl rfl (by simp) ?_;refine za ?_;refine aP [4, 5, 8, 9, 10, 11, 12, 13, 14, 15, 16, 17, 18] 8
  (fun v w' => ∃ i : Nat, i ≤ n ∧ v = .int .i64 i ∧ (l.take i).any p = false ∧ Hp w [] w')
  (fun v _ => n - (intOf v).toNat) ?_ ?_
 ·exact ⟨0, T6 _, rfl, rfl, hh⟩
 ·clear hh;rintro ρ' v w' ⟨i, hi, rfl, hall, hh⟩;by_cases hlt : i < n
  ·obtain ⟨z, hz⟩ := ak (l := l) (k := i) TX;obtain ⟨ad, rfl, hr⟩ := hS.at_ TX;have hc := fun w1 => hg z w1 (T7 hz)
   cases gz : p z with
   | true =>
    rw [gz] at hc;refine sr ?_;refine re ?_;refine iH ?_;refine mL (mI ?_);refine cu ?_;refine cw (vs := [_, _, _, _]) aK.out rfl ((hr.ext hh.below).recAt TR.len hz) rfl TY ?_;refine gg (hc _ hh.below) al.out rfl rfl TY ?_;rintro e_ w16 ⟨rfl, hb_⟩;refine ⟨_, rfl, ?_⟩;replace hh := hh.ext hb_;refine aa (cT (sr (mI (aI (aa (au (cd (aG (aG (cd (aG ?_)))))))))));refine cZ ?_;exact ⟨_, rfl, .inr ⟨i, z, hlt, rfl, hall, hz, gz⟩, hh.below⟩
   | false =>
    rw [gz] at hc;refine sr ?_;refine re ?_;refine iH ?_;refine mL (mI ?_);refine cu ?_;refine cw (vs := [_, _, _, _]) aK.out rfl ((hr.ext hh.below).recAt TR.len hz) rfl TY ?_;exact D8
  ·rw [T9 TX] at hall;refine sr ?_;refine Eo ?_;refine cZ ?_;exact ⟨_, rfl, .inl ⟨hall, rfl⟩, hh.below⟩
theorem Cw (A : Option Addr) (n c : Nat) (l : List TR) (g : FuncId) (cap : List Value) (p : TR → Bool) (w : World) (hS : Sl w A n 4 (az TR.cells l)) (hn : n ≤ 1000000) [al Tryz.prog g]
  (hg : ∀ (z : TR) (w1 : World), z ∈ l → Below w.heap.size w w1 → Calls Tryz.prog g (.agg #[.string z.m, .bool z.c.neg, .string z.c.bz, .int .i64 z.c.e] :: cap).toArray w1 fun r w' => r = .returned (.bool (p z)) ∧ Below w1.heap.size w1 w') :
  Calls Tryz.prog 157 #[.slice A n c, .func (.func g) #[] cap.toArray] w fun r w' => r = .returned (.bool (l.any p)) ∧ Below w.heap.size w w' := by
 have hh := Hp.start w;refine aj (N := 9) (l := [.slice A n c, .func (.func g) #[] cap.toArray]) Tryz.func157 rfl rfl (by simp) ?_;refine sr (aB (aa (sr (mL ?_))));refine iH ?_;refine aF (tZ A n c l g cap p _ (hS.ext hh.below) hn hg) al.out rfl TY ?_;rintro e_ w7 ⟨v_, rfl, hv_, hb_⟩;refine ⟨_, rfl, ?_⟩;replace hh := hh.ext hb_
 rcases hv_ with ⟨ha, rfl⟩ | ⟨i, z, hi, rfl, ht, hz, hp⟩
 ·rw [ha];exact DS
 ·rw [show l.any p = true from VS.2 ⟨z, T7 hz, hp⟩];exact DS
theorem lE (A : Option Addr) (n c : Nat) (l : List TR) (w : World) (hS : Sl w A n 4 (az TR.cells l)) (hn : n ≤ 1000000) :
  Calls Tryz.prog 79 #[.slice A n c] w fun r w' => ∃ A' c', r = .returned (.slice A' n c') ∧ w'.ownsRow w.heap.size 96 4 (.slice A' n c') n (az TR.cells l) ∧ Below w.heap.size w w' := by
 have hh := Hp.start w;have oX := cv TR.one l
 rcases A with _ | ad
 ·have hn0 : n = 0 := by
   exact O3
  subst hn0;have hl : l = [] := VC (by have := hS.bq TR.len TY; omega);subst hl;refine aj (N := 8) (l := [.slice none 0 c]) Tryz.func79 rfl rfl (by simp) ?_;exact Ox
 ·refine aj (N := 8) (l := [.slice (some ad) n c]) Tryz.func79 rfl rfl (by simp) ?_;refine sr (aL (aa (ah (sr (mL ?_)))));refine rY bk.out rfl rfl TY ?_;refine uJ ?_;refine jP hh bk.out aK.out TY ?_;intro b5 w5 hh;refine mL ?_;refine cK hh (i := 0) rfl rfl rfl (hS.ext hh.below) bk.out aK.out rfl TY ?one7 TX TX TY ?kk7
  case one7 => first | rfl | assumption | exact bZ _ | exact oneCells_u8s _
  exact ON
theorem Ak {l : List α} {i : Nat} (h : i < j) (x : α) : (l.set i x).drop j = l.drop j := by
 refine Ve fun k => ?_;rw [VD, VD, VH, T3 TX]
theorem u2 {l : List α} {i : Nat} (h : i < l.length) (x : α) : (l.set i x).take (i + 1) = l.take i ++ [x] := by
 rw [ay (show (l.set i x)[i]? = some x by rw [VH, T2 rfl, T2 h]), List.take_set_of_le (T5 _)]
theorem BI (A : Option Addr) (n c : Nat) (l : List TR) (g : FuncId) (p : TR → Bool) (w : World) (hh : Hp w0 (.row A n c 96 4 (az TR.cells l) :: Hr) w) (hl : l.length = n) (hn : n ≤ 1000000) [al Tryz.prog g]
  (hg : ∀ (z : TR) (w1 : World), z ∈ l → Calls Tryz.prog g (.agg #[.string z.m, .bool z.c.neg, .string z.c.bz, .int .i64 z.c.e] :: []).toArray w1 fun r w' => r = .returned (.bool (p z)) ∧ Below w1.heap.size w1 w') :
  Calls Tryz.prog 161 #[.slice A n c, .func (.func g) #[] #[]] w fun r w' => r = .returned (.slice A (l.filter fun z => !p z).length c) ∧ Hp w0 (.row A (l.filter fun z => !p z).length c 96 4 (az TR.cells (l.filter fun z => !p z)) :: Hr) w' := by
 have hc := hh.e8 (i := 0) rfl;have hsl := hh.aC (i := 0) rfl;refine aj (N := 42) (l := [.slice A n c, .func (.func g) #[] #[]]) Tryz.func161 rfl rfl (by simp) ?_;refine sr (aL (aa (sr (mL ?_))));refine iH ?_;refine aF (tZ A n c l g [] p _ hsl hn (fun z w1 hz _ => hg z w1 hz)) al.out rfl TY ?_;rintro e_ w10 ⟨v_, rfl, hv_, hb_⟩;refine ⟨_, rfl, ?_⟩;replace hh := hh.ext hb_
 rcases hv_ with ⟨ha, rfl⟩ | ⟨i0, z0, hi0, rfl, ht0, hz0, hp0⟩
 ·have hf : (l.filter fun z => !p z) = l := List.filter_eq_self.2 fun z hz => by
   have := Vy.1 ha z hz;simpa using this
  rw [hf, hl];refine aI (aa (ah (sr (mI ?_))));refine db (aa (cT (sr (mL (aL (aa (au (aG ?_))))))));refine cZ ?_;exact ⟨rfl, hh⟩
 ·have hf0 : ((l.take (i0 + 1)).filter fun z => !p z) = l.take i0 := by
   rw [ay hz0, W3, Xb (by rw [hp0]; decide), List.filter_nil, UF];exact List.filter_eq_self.2 fun z hz => by
    have := Vy.1 ht0 z hz;simpa using this
  obtain ⟨g0, rfl⟩ := hh.cB (i := 0) rfl TX;refine aI (aa (ah (sr (mI ?_))));refine db (aa (cF (ar (ai (ah (sr (mI ?_)))))));refine bj (aI (aa (aq ?_)));refine bK [5, 6, 7, 16, 17, 18, 19, 20, 21, 22, 23, 24, 25, 26, 27, 28, 29, 30, 31, 32, 33, 34, 35] 5 6
   (fun v5 v6 w' => ∃ (i j : Nat) (X : List TR), i < j ∧ j ≤ n ∧ v5 = .int .i64 i ∧ v6 = .int .i64 j ∧ X.length = n ∧ i = ((l.take j).filter fun z => !p z).length ∧ X.take i = ((l.take j).filter fun z => !p z) ∧ X.drop j = l.drop j ∧ Hp w0 (.row (some ⟨g0, 0, none⟩) n c 96 4 (az TR.cells X) :: Hr) w')
   (fun _ v _ => n - (intOf v).toNat) ?_ ?_
  ·exact ⟨i0, i0 + 1, l, TX, TX, rfl, rfl, hl, by rw [hf0, Us]; omega, hf0.symm, rfl, hh⟩
  ·clear hh;rintro ρ' v5 v6 w' ⟨i, j, X, hij, hj, rfl, rfl, hX, hi, htk, hdr, hh⟩;by_cases hlt : j < n
   ·obtain ⟨z, hz⟩ := ak (l := l) (k := j) TX;have hXj : X[j]? = some z := by
     have h1 : (X.drop j)[0]? = (l.drop j)[0]? := by rw [hdr]
     rw [VD, VD, Vu] at h1;rw [h1, hz]
    have hgz := fun w1 => hg z w1 (T7 hz);have hdr2 : X.drop (j + 1) = l.drop (j + 1) := by rw [← List.drop_drop, ← List.drop_drop, hdr]
    have hrl := eP TR.len X;refine ah (sr (mI (mL (aJ ?_))));refine ri ?_;refine rj ?_;refine cw (vs := [_, _, _, _]) aK.out rfl (hh.iz (f := TR.cells) (x := z) (l := X) (i := 0) rfl TR.len TY hXj) rfl TY ?_;refine bV hh ?_;intro b7 w7 hh;refine bW hh 0 [_,_,_,_] ?_;intro ws hh;replace hh : Hp _ (.blk _ _ [_, _, _, _] _ :: _) _ := hh;refine aa (sr ?_);refine iH ?_;refine cG hh 0 [_,_,_,_] ?_
    cases hpz : p z with
    | true =>
     rw [hpz] at hgz;have hfl : ((l.take (j + 1)).filter fun z => !p z) = ((l.take j).filter fun z => !p z) := by rw [ay hz, W3, Xb (by rw [hpz]; decide), List.filter_nil, UF]
     refine gg (hgz _) al.out rfl rfl TY ?_;rintro e_ w28 ⟨rfl, hb_⟩;refine ⟨_, rfl, ?_⟩;replace hh := hh.ext hb_;refine fm ?_;refine sZ ?_;refine bj (aI (aA (ai ?_)));replace hh := hh.sub (T8 _ (T4 _ (Vi _)));refine ⟨⟨i, j + 1, X, TX, TX, rfl, rfl, hX, by rw [hfl]; exact hi, by rw [hfl]; exact htk, hdr2, hh⟩, by show n - (j + 1) < n - j; omega, ?_⟩;exact dQ
    | false =>
     rw [hpz] at hgz;have hfl : ((l.take (j + 1)).filter fun z => !p z) = ((l.take j).filter fun z => !p z) ++ [z] := by rw [ay hz, W3, Xw (by rw [hpz]; decide), List.filter_nil]
     refine gg (hgz _) al.out rfl rfl TY ?_;rintro e_ w28 ⟨rfl, hb_⟩;refine ⟨_, rfl, ?_⟩;replace hh := hh.ext hb_;refine fm ?_;refine aa (cT (sr (mL (mI ?_))));refine cG hh 0 [_,_,_,_] ?_;refine gk ?_;refine bO hh (i := 1) (vs := [_, _, _, _]) rfl rfl (gO rfl) rfl aK.out rfl TX rfl ?_;intro ws hh;simp only [Uh, UH] at hh;rw [show cq (az TR.cells X) (i * 4) [.string z.m, .bool z.c.neg, .string z.c.bz, .int .i64 z.c.e] = az TR.cells (X.set i z) from je TR.len TX] at hh;refine aa (ao (mI ?_));refine bj (aI (aA (bE (ai (ao (mI ?_))))));refine bj (aI (aA (ai ?_)));replace hh := hh.sub (T8 _ (T4 _ (Vi _)));refine ⟨⟨i + 1, j + 1, X.set i z, TX, TX, rfl, rfl, by rw [Wp]; exact hX, by rw [hfl, Ua, ← hi]; rfl, by rw [hfl, u2 TX, htk], by rw [Ak TX]; exact hdr2, hh⟩, by show n - (j + 1) < n - j; omega, ?_⟩;exact dQ
   ·obtain rfl : j = n := TX;rw [show l.take j = l from T9 TX] at hi htk;have hcap := hh.e8 (i := 0) rfl;have hp31 : (if c = i then some (⟨g0, 0, none⟩ : Addr) else (some (⟨g0, 0, none⟩ : Addr)).map (·.add (i * 4))) = some ⟨g0, i * 4, none⟩ := by
     rw [T3 TX];show some ((⟨g0, 0, none⟩ : Addr).add (i * 4)) = _;rw [fu, Uv]
    have htt : (az TR.cells X).take (i * 4) = az TR.cells (l.filter fun z => !p z) := by rw [k5 TR.len, htk]
    refine ah (sr (mI (mL (aJ ?_))));refine bg (aa (cF (a6 (aD (aD (bB (ai (sr (mL (mI ?_))))))))));refine aQ rfl rfl TY (iZ (l := i) (h := j) bk.out aK.size rfl ⟨_, _, rfl, rfl⟩ rfl TX TX) ?_;rw [hp31];replace hh := hh.BD (k := i) TX;rw [htt] at hh;refine yd hh (i := 0) (o := i * 4) (m := j - i) rfl rfl TX TX TX bk.out aK.out rfl rfl ?_;intro w38 hh;refine aa (sr (mL (mI ?_)));refine pO (h := i) bk.out aK.size rfl rfl TX TX TY ?_;refine aL (aa (au ?_));refine cZ ?_;rw [← hi];exact ⟨rfl, hh⟩
variable {E : Int} {ts : List TR}
structure PX where
 v : Int
 A : Option Addr
 n : Nat
 c : Nat
 ts : List TR
def PX.row (g : PX) : HE := .row g.A g.n g.c 96 4 (az TR.cells g.ts)
def PX.at_ (g : PX) (w : World) : Prop := Sl w g.A g.n 4 (az TR.cells g.ts)
theorem PX.at_.ext {g : PX} (h : g.at_ w) (hb : Below w.heap.size w w') : g.at_ w' := Sl.ext h hb
theorem PX.at_.ln {g : PX} (h : g.at_ w) : g.ts.length = g.n := Sl.bq h TR.len TY
structure eX (E v : Int) (ts : List TR) (g : PX) : Prop where
 v : g.v = if E = 0 then v else 0
 ts : g.ts = if E = 0 then ts else []
def PX.nil : PX := ⟨0, none, 0, 0, []⟩
theorem eX.err {v : Int} (h : E ≠ 0) : eX E v ts PX.nil := ⟨by rw [T3 h]; rfl, by rw [T3 h]; rfl⟩
theorem Hp.CC {H : List HE} (h : Hp w0 H w) : Hp w0 (PX.nil.row :: H) w := h.de 96 4
theorem vj (A : Option Addr) (n c : Nat) (l : List TR) (k : Nat) (w : World) (hT : eh w) (hh : Hp w0 (.row A n c 96 4 (az TR.cells l) :: Hr) w) (hl : l.length = n) (hn : n ≤ 1000000) (hk : k + n ≤ 3999980) (ho : iI k l) :
  Calls Tryz.prog 162 #[.slice A n c, .func (.func 76) #[] #[], .func (.func 77) #[] #[]] w fun r w' => ∃ (L : List TR) (A' : Option Addr) (c' : Nat), MD (k + n) l L ∧ r = .returned (.slice A' L.length c') ∧ Hp w0 (.row A' L.length c' 96 4 (az TR.cells L) :: Hr) w' := by
 refine (mN k n A n c l w (T5 _) hT (hh.aC (i := 0) rfl) (hh.e8 (i := 0) rfl) hn hk ho).mono fun r w' h => ?_
 rcases h with ⟨h1, rfl, hb⟩ | ⟨h1, L, A', c', hm, rfl, h3⟩
 ·exact ⟨l, A, c, (MD.self (wk TX) ho).mono TX, by rw [hl], by rw [hl]; exact hh.ext hb⟩
 ·refine ⟨L, A', c', hm, rfl, ?_⟩;exact (hh.join h3).sub (T4 _ (T8 _ (Vi _)))
def Sb (t : TR) : Bool := decide (t.c.d = 0)
theorem CT (l : List TR) : (l.filter fun z => !Sb z) = l.filter x6 := rfl
theorem xt (z : TR) (w : World) : Calls Tryz.prog 163 #[.agg #[.string z.m, .bool z.c.neg, .string z.c.bz, .int .i64 z.c.e]] w fun r w' => r = .returned (.bool (Sb z)) ∧ Below w.heap.size w w' := by
 have hh := Hp.start w;refine aj (N := 7) (l := [.agg #[.string z.m, .bool z.c.neg, .string z.c.bz, .int .i64 z.c.e]]) Tryz.func163 rfl rfl (by simp) ?_;refine sr ?_;refine cD hh [_,_,_,_] ?_;intro b1 w1 hh;refine aB (aa (sr (bH ?_)));refine cG hh 0 [_,_,_] ?_;refine bD hh (gY z.c _) rfl ?_;intro w5 hh;have hz : z.c.i.sign = 0 ↔ z.c.d = 0 := by
  rw [Int.sign_eq_zero_iff_zero];exact ⟨fun h => by unfold NR.d; rw [h]; rfl, rk⟩
 unfold Sb;by_cases h0 : z.c.d = 0
 ·have hs := hz.2 h0;rw [Um h0];refine db (aB (aa (au ?_)));refine cZ ?_;exact ⟨rfl, hh.below⟩
 ·have hs : ¬ z.c.i.sign = 0 := fun h => h0 (hz.1 h);rw [UB h0];refine db (aB (aa (au ?_)));refine cZ ?_;exact ⟨rfl, hh.below⟩
def gp (l : List TR) : Int := if 4096 < (aE l).length then 3 else 0
theorem zd {xs ys : List Value} {v : Value} (h : xs[o]? = some v) : cq xs o (v :: ys) = cq xs (o + 1) ys := by
 unfold cq;rw [ay h, Uq, show o + (ys.length + 1) = o + 1 + ys.length by omega];simp
def S0 (t : TR) : TR := ⟨t.m, nR t.c.d⟩
theorem vQ {X : List TR} {i : Nat} {z : TR} (h : X[i]? = some z) (y : NR) : cq (az TR.cells X) (i * 4 + 1) [.bool y.neg, .string y.bz, .int .i64 y.e] = az TR.cells (X.set i ⟨z.m, y⟩) := by
 have h0 : (az TR.cells X)[i * 4]? = some (.string z.m) := by
  have h1 := uf TR.len h;have h2 : (((az TR.cells X).drop (i * 4)).take 4)[0]? = some (.string z.m) := by rw [h1]; rfl
  rwa [List.getElem?_take_of_lt TY, VD, Vu] at h2
 rw [← zd h0];exact je TR.len (y := ⟨z.m, y⟩) (Uk.1 h).1
theorem kp (v : Int) (A : Option Addr) (n c : Nat) (l : List TR) (k : Nat) (w : World) (hT : eh w0) (hh : Hp w0 (.row A n c 96 4 (az TR.cells l) :: Hr) w) (hl : l.length = n) (hn : n ≤ 1000000) (hk : k + n ≤ 3999980) (ho : iI k l) :
  Calls Tryz.prog 78 #[.int .i64 v, .slice A n c] w fun r w' => ∃ g : PX, eX (gp l) v (aE l) g ∧ r = .returned (.tuple #[.agg #[.int .i64 g.v, .slice g.A g.n g.c], .int .i64 (gp l)]) ∧ Hp w0 (g.row :: Hr) w' := by
 refine aj (N := 33) (l := [.int .i64 v, .slice A n c]) Tryz.func78 rfl rfl (by simp) ?_;refine sr ?_;refine bV hh ?_;intro b4 w4 hh;refine aI (aa (sr (mL ?_)));replace hh := hh.perm (U3 (l₁ := [_]));simp only [Ud, Ub] at hh;refine aF (vj A n c l k _ (hT.hp hh) hh hl hn hk ho) al.out rfl TY ?_;rintro e_ w8 ⟨L, A1, c1, hmd, rfl, hh⟩;refine ⟨_, rfl, ?_⟩;have hlen := hmd.len;refine aF (BI A1 L.length c1 L _ Sb _ hh rfl TX (fun z w1 _ => xt z w1)) al.out rfl TY ?_;rintro e_ w9 ⟨rfl, hh⟩;refine ⟨_, rfl, ?_⟩;rw [CT] at hh ⊢;have hML : (L.filter x6).length ≤ L.length := List.length_filter_le _ _;have hgl : (aE l).length = (L.filter x6).length := by rw [← hmd.aE, Ug]
 have hgm := hmd.aE;have hok : iI (k + n) (L.filter x6) := fun t ht => hmd.ok t (Vf.1 ht).1;generalize hM : L.filter x6 = M at *;by_cases h4 : 4096 < M.length
 ·rw [show gp l = 3 by unfold gp; rw [T2 TX]];refine aL (aa (ah (sr (mL (aJ ?_)))));refine cm (aa (cT (sr ?_)));refine gB [_,_] ?_;refine bW hh 1 [_,_] ?_;intro ws hh;replace hh : Hp _ (_ :: .blk _ _ [_, _] _ :: _) _ := hh;refine aI (aa (au (aG ?_)));replace hh := hh.sub (T8 _ (T4 _ (Vi _)));refine Ba ?_;exact ⟨PX.nil, eX.err TY, rfl, (hh.sub (UM _ _)).CC⟩
 ·rw [show gp l = 0 by unfold gp; rw [T3 TX]];refine aL (aa (ah (sr (mL (aJ ?_)))));refine cm (aa (cF (ar (ai (ah (sr (mL (aJ (mI (aa (aq ?_)))))))))));refine aP [6, 16, 17, 18, 19, 20, 21, 22, 23, 24, 25, 26, 27, 28, 29] 16
   (fun v w' => ∃ (i : Nat) (X : List TR), i ≤ M.length ∧ v = .int .i64 i ∧ X.length = M.length ∧ X = (M.take i).map S0 ++ M.drop i ∧ Hp w0 (.row A1 M.length c1 96 4 (az TR.cells X) :: .blk b4 24 [.int .i64 0, .slice none 0 0] (0, 0) :: Hr) w')
   (fun v _ => M.length - (intOf v).toNat) ?_ ?_
  ·exact ⟨0, M, T6 _, rfl, rfl, rfl, hh⟩
  ·clear hh;rintro ρ' v w' ⟨i, X, hi, rfl, hX, hXe, hh⟩;by_cases hlt : i < M.length
   ·obtain ⟨z, hz⟩ := ak (l := M) (k := i) TX;have hXz : X[i]? = some z := by
     rw [hXe, Vg (by rw [Ug, Us]; omega), Ug, Us, U0 TX, UW, VD];exact hz
    have hzo := hok z (T7 hz);have hXn : X.set i ⟨z.m, nR z.c.d⟩ = (M.take (i + 1)).map S0 ++ M.drop (i + 1) := by
     rw [ay hz, UU, hXe, V3 _ _ (by rw [Ug, Us]; omega), Ug, Us, U0 TX, UW, UI];congr 1;obtain ⟨h1, h2⟩ := Uk.1 hz;rw [Vj h1, h2]
     rfl
    have hrl := eP TR.len X;obtain ⟨g0, rfl⟩ := hh.cB (i := 0) rfl TX;refine sr ?_;refine bg (aa (ah (cT (ar (ai (ah (aq (sr (mI (aI (aa (ao (mL (mI (mL (mI ?_))))))))))))))));refine gk ?_;refine bH ?_;refine cw (vs := [_, _, _]) aK.out rfl ((hh.iz (f := TR.cells) (x := z) (l := X) (i := 0) rfl TR.len TY hXz).drop 1) rfl TY ?_;refine bD hh (eB z.c _ (hT.hp hh) (by have := hzo.1.1; omega) (by have := hzo.1.2.1; omega) (by have := hzo.1.2.2; omega)) rfl ?_;intro w26 hh;refine gk ?_;refine bH ?_;refine bO hh (i := 0) (vs := [_, _, _]) rfl rfl (gO rfl) rfl aK.out rfl TX rfl ?_;intro ws hh;simp only [Uh] at hh;rw [vQ hXz, hXn] at hh;refine fM ?_;refine bj (mI (aA (ai ?_)));refine ⟨⟨i + 1, _, TX, rfl, ?_, rfl, hh⟩, by show M.length - (i + 1) < M.length - i; omega, ?_⟩
    ·rw [← hXn, Wp, hX]
    ·exact dQ
   ·obtain rfl : i = M.length := TX;rw [T9 (T5 _), Vz (T5 _), UF] at hXe;have hXg : X = aE l := by rw [hXe]; exact hgm
    rw [hXg] at hh;refine sr ?_;refine bg (aa (ah (cF (a6 (aD (aD (bB (ai (sr (mI (mL ?_)))))))))));refine gB [_,_] ?_;refine bW hh 1 [_,_] ?_;intro ws hh;replace hh : Hp _ (_ :: .blk _ _ [_, _] _ :: _) _ := hh;refine aI (aa (au ?_));refine EU ?_;exact ⟨⟨v, A1, M.length, c1, aE l⟩, ⟨rfl, rfl⟩, rfl, hh.sub (T4 _ (T8 _ (Vi _)))⟩
theorem kV (s : ByteArray) (n : Int) (w : World) (hs : s.size ≤ 9223372036854775807) :
  Calls Tryz.prog 159 #[.string s, .int .i64 n] w fun e w' => e = .returned (.bool (eM s.data.toList && decide ((s.size : Int) = n))) ∧ Below w.heap.size w w' := by
 refine aj (N := 20) (l := [.string s, .int .i64 n]) Tryz.func159 rfl rfl (by simp) ?_;refine sr (aB (aa (ah (sr (mS ?_)))));refine bI bk.out rfl TY ?_;refine mI (aa (aq ?_));refine aP [4, 5, 8, 9, 10, 11, 12, 13, 14, 15] 8
  (fun v w' => ∃ k : Nat, k ≤ s.size ∧ v = .int .i64 k ∧ eM (s.data.toList.take k) = true ∧ w' = w)
  (fun v _ => s.size - (intOf v).toNat) ?_ ?_
 ·exact ⟨0, T6 _, rfl, rfl, rfl⟩
 ·rintro ρ' v w' ⟨k, hk, rfl, hm, rfl⟩;by_cases hlt : k < s.size
  ·obtain ⟨c, hc⟩ := ak (l := s.data.toList) (k := k) (by rw [← dE]; exact hlt);have hb := c.toNat_lt;by_cases h8 : c.toNat < 128
   ·refine sr ?_;refine bg (aa (ah (cT (ar (ai (ah (aq (sr (mI (aI (aa (sr (mS (mI ?_))))))))))))));refine j0 ?_;refine cm (aa (cF (ar (bE (ai (ao ?_))))));refine bj (mI (aA (ai ?_)));refine ⟨⟨k + 1, TX, rfl, by rw [ay hc, F4, hm]; simpa using h8, rfl⟩, by show s.size - (k + 1) < s.size - k; omega, ?_⟩;exact dQ
   ·refine sr ?_;refine bg (aa (ah (cT (ar (ai (ah (aq (sr (mI (aI (aa (sr (mS (mI ?_))))))))))))));refine j0 ?_;refine cm (aa (cT (sr (aB (aa (au (cd (aG (aG (cd (aG ?_)))))))))));refine cZ ?_;rw [H6 hc h8];exact ⟨rfl, Below.refl _ _⟩
  ·refine sr ?_;refine bg (aa (ah (cF (a6 (aD (aD (bB (ai (sr (mS ?_))))))))));refine bI bk.out rfl TY ?_;refine mI ?_;refine ER rfl rfl TY ?_;refine aB (aa (au ?_));refine cZ ?_;rw [T9 (by rw [← dE]; omega)] at hm;rw [hm];exact ⟨rfl, Below.refl _ _⟩
theorem mi (s : ByteArray) (w : World) (hs : s.size ≤ 9223372036854775807) :
  Calls Tryz.prog 159 #[.string s, .int .i64 s.size] w fun e w' => e = .returned (.bool (eM s.data.toList)) ∧ Below w.heap.size w w' := by
 have h := kV s s.size w hs;simpa using h
theorem AB (A : Option Addr) (n c : Nat) (xs : List Int) (w : World) (hsl : Sl w A n 1 (bJ xs)) (hn : n ≤ 100000) :
  Calls Tryz.prog 187 #[.slice A n c] w fun e w' => e = .returned (.tuple #[.string (str (J3 xs)), .int .i64 (KM xs)]) ∧ Below w.heap.size w w' := by
 have hlen : xs.length = n := by have := hsl.1; rw [bX] at this; omega
 have hh := Hp.start w;refine aj (N := 27) (l := [.slice A n c]) Tryz.func187 rfl rfl (by simp) ?_;refine sr (aS (aI (aa (sr (aL (aa (ah (sr (mL (aJ (mI (aa (aq ?_)))))))))))));refine bK [2, 3, 4, 6, 9, 10, 11, 12, 13, 14, 15, 16, 17, 18, 19, 20, 21, 22, 23, 24] 4 9
  (fun b i w' => ∃ (k c' : Nat) (A' : Option Addr), k ≤ n ∧ i = .int .i64 k ∧ b = .slice A' k c' ∧ (xs.take k).all cz = true ∧ Hp w [.row A' k c' 5 1 (nq ((xs.take k).map xx))] w')
  (fun _ v _ => n - (intOf v).toNat) ?_ ?_
 ·exact ⟨0, 0, none, T6 _, rfl, rfl, rfl, hh.de _ _⟩
 ·clear hh;rintro ρ' b i w' ⟨k, c', A', hk, rfl, rfl, hall, hh⟩;by_cases hlt : k < n
  ·obtain ⟨x, hx⟩ := ak (l := xs) (k := k) TX;obtain ⟨ad, rfl, hr⟩ := (hsl.ext hh.below).at_ TX;by_cases h0 : x < 0
   ·refine sr ?_;refine dO ?_;refine uO ?_;refine bT aK.out rfl (fq hr (cj hx) rfl) TY ?_;refine aI (aa (ah (sr (mI ?_))));refine bg (mB ?_);refine gS (gS ?_);refine fL ?_;exact QV
   ·by_cases h1 : 127 < x
    ·refine sr ?_;refine dO ?_;refine uO ?_;refine bT aK.out rfl (fq hr (cj hx) rfl) TY ?_;refine aI (aa (ah (sr (mI ?_))));refine bg (mB (gT (mI (gT ?_))));refine cm ?_;refine e7 ?_;exact QV
    ·have hok : cz x = true := by simp [cz]; omega
     refine sr ?_;refine dO ?_;refine uO ?_;refine bT aK.out rfl (fq hr (cj hx) rfl) TY ?_;refine aI (aa (ah (sr (mI ?_))));refine bg (mB (gT (mI (gT ?_))));refine cm ?_;refine e7 ?_;refine aa (cF (ar (ai (ao (mL (mI ?_))))));refine uI bk.out bk.out rfl TY ?_;refine wz ?_;intro b22 w22 hh;refine cK hh (i := 1) rfl rfl rfl (hh.aC (i := 0) rfl) bk.out aK.out rfl TY rfl TX TX TY ?_;intro A23 c23 w23 hh;simp only [Uh, UH] at hh;replace hh := hh.sub (UM _ _);refine kN ?_;refine bj (mI (aA (ai ?_)));refine ⟨⟨k + 1, c23, A23, TX, rfl, rfl, Jj hx hall hok, ?_⟩, by show n - (k + 1) < n - k; omega, ?_⟩
     ·rw [Me TX TX, Hb hx hok] at hh;exact hh
     ·exact dQ
  ·obtain rfl : k = n := TX;rw [T9 TX] at hall hh;obtain ⟨e1, e2⟩ := pD hall;refine sr ?_;refine nF ?_;refine rq bk.out bk.out bk.out rfl (hh.aC (i := 0) rfl) TY ?_;refine aS (aI (aa (au ?_)));refine Ku ?_;rw [e1, e2];exact ⟨rfl, hh.below⟩
theorem gR (s : ByteArray) (w : World) (hs : s.size ≤ 100000) :
  Calls Tryz.prog 91 #[.string s] w fun e w' => ∃ A c, e = .returned (.slice A (iy s.data.toList).length c) ∧ w'.ownsRow w.heap.size 3 1 (.slice A (iy s.data.toList).length c) (iy s.data.toList).length (bJ (iy s.data.toList)) ∧ Below w.heap.size w w' := by
 have hh := Hp.start w;have hsz := dE s
 cases hm : eM s.data.toList with
 | false =>
  refine aj (N := 22) (l := [.string s]) Tryz.func91 rfl rfl (by simp) ?_;refine sr (aL (aa (ah (sr (mS (mS ?_))))));refine bI bk.out rfl TY ?_;refine bD hh (mi s _ TX) rfl ?_;intro w9 hh;rw [hm];refine fm ?_;refine aa (cT (sr (aL (aa (au (aG ?_))))));refine cZ ?_;rw [IH hm];exact I3
 | true =>
  refine aj (N := 22) (l := [.string s]) Tryz.func91 rfl rfl (by simp) ?_;refine sr (aL (aa (ah (sr (mS (mS ?_))))));refine bI bk.out rfl TY ?_;refine bD hh (mi s _ TX) rfl ?_;intro w9 hh;rw [hm];refine fm ?_;refine aa (cF (ar (ai (sr (aL (aa (ah (sr (mS ?_)))))))));refine xv hh bk.out rfl TY ?_;intro b12 w12 hh;skip;refine aa (aq ?_);refine aP [3, 5, 13, 14, 15, 16, 17, 18, 19, 20] 3
   (fun v w' => ∃ (k c' : Nat) (A' : Option Addr), k ≤ s.size ∧ v = .slice A' k c' ∧ Hp w [.row A' k c' 3 1 (bJ (ints (s.data.toList.take k))), .it b12 s k] w')
   (fun v _ => s.size - lenOf v) ?_ ?_
  ·exact ⟨0, 0, none, T6 _, rfl, hh.de _ _⟩
  ·clear hh;rintro ρ' v w' ⟨k, c', A', hk, rfl, hh⟩;by_cases hlt : k < s.size
   ·obtain ⟨c, hc⟩ := ak (l := s.data.toList) (k := k) TX;have h8 := so hm hc;refine sr ?_;refine yA hh (i := 1) rfl rfl hc h8 TY ?_;intro w13 hh;simp only [Uh, UH] at hh;skip;refine du ?_;refine aa (ah (cT (ar (ai (aq (sr ?_))))));refine du ?_;refine aI (aa (ao (mL (mI ?_))));refine AD ?_;refine wz ?_;intro b19 w19 hh;refine cK hh (i := 1) rfl rfl rfl (hh.aC (i := 0) rfl) bk.out aK.out rfl TY rfl TX TX TY ?_;intro A20 c20 w20 hh;simp only [Uh, UH] at hh;replace hh := hh.sub (UM _ _);refine aL (aA (bE (ai ?_)));rw [sQ hc] at hh;refine ⟨⟨k + 1, c20, A20, TX, rfl, hh⟩, by show s.size - (k + 1) < s.size - k; omega, ?_⟩;exact dQ
   ·refine sr ?_;refine xl hh (i := 1) rfl rfl hlt TY ?_;skip;refine du ?_;refine aa (ah (cF (a6 (aD (aD (bB (ai (sr (mL (aL (aa (au ?_))))))))))));refine cZ ?_;obtain rfl : k = s.size := TX;rw [T9 TX] at hh;have h1 := hh.at_ (i := 0) rfl;rw [jE hm, cX, ← hsz];exact ⟨A', c', rfl, h1, hh.below⟩
theorem uP (a b : ByteArray) (g : FuncId) (f : Int → Int → Int) (w : World) (ha : a.size ≤ 100000) (hb : b.size ≤ 100000) [al Tryz.prog g]
  (hg : ∀ (x y : Int) (w : World), 0 ≤ x → x ≤ 127 → 0 ≤ y → y ≤ 127 → Calls Tryz.prog g #[.int .i64 x, .int .i64 y] w fun e w' => e = .returned (.int .i64 (f x y)) ∧ Below w.heap.size w w') :
  Calls Tryz.prog 206 #[.string a, .string b, .func (.func g) #[] #[]] w fun e w' =>
   (jd f a.data.toList b.data.toList = none ∧ e = .returned (.tuple #[.slice none 0 0, .bool false]) ∧ Below w.heap.size w w') ∨
   ∃ l, jd f a.data.toList b.data.toList = some l ∧ l.length = b.size ∧ ∃ A c, e = .returned (.tuple #[.slice A l.length c, .bool true]) ∧ w'.ownsRow w.heap.size 3 1 (.slice A l.length c) l.length (bJ l) ∧ Below w.heap.size w w' := by
 have hh := Hp.start w;have hsa := dE a;have hsb := dE b
 cases hma : eM a.data.toList with
 | false =>
  refine It ?_;refine sr (aL (aB (aa (sr (mS ?_)))));refine aF (gR b _ hb) al.out rfl TY ?_;rintro e_ w12 ⟨A12, c12, rfl, hown_, hb_⟩;refine ⟨_, rfl, ?_⟩;replace hh := hh.aW (x := .row _ _ _ _ _ _) hb_ hown_;refine aL (aa (ah (sr (mS (mS ?_)))));refine bI bk.out rfl TY ?_;refine bD hh (mi a _ TX) rfl ?_;intro w16 hh;rw [hma];refine fm ?_;refine mB ?_;refine gS (gS (gS ?_));refine ju ?_;refine gS ?_;refine fL ?_;refine aa (cT (sr (aL (aB (aa (au (aG ?_)))))));refine Ku ?_;exact .inl ⟨by simp [jd, hma], rfl, hh.below⟩
 | true =>
  cases hmb : (eM b.data.toList && decide ((b.size : Int) = a.size)) with
  | false =>
   refine It ?_;refine sr (aL (aB (aa (sr (mS ?_)))));refine aF (gR b _ hb) al.out rfl TY ?_;rintro e_ w12 ⟨A12, c12, rfl, hown_, hb_⟩;refine ⟨_, rfl, ?_⟩;replace hh := hh.aW (x := .row _ _ _ _ _ _) hb_ hown_;refine aL (aa (ah (sr (mS (mS ?_)))));refine bI bk.out rfl TY ?_;refine bD hh (mi a _ TX) rfl ?_;intro w16 hh;rw [hma];refine fm ?_;refine mB (gT (mS (gT (mS (gT ?_)))));refine bI bk.out rfl TY ?_;refine aH rfl rfl ?_;refine bD hh (kV b _ _ TX) rfl ?_;intro w22 hh;rw [hmb];refine gT ?_;refine fm ?_;refine e7 ?_;refine aa (cT (sr (aL (aB (aa (au (aG ?_)))))));refine Ku ?_;have : (eM b.data.toList && decide ((b.data.toList.length : Int) = a.data.toList.length)) = false := by rw [← hsa, ← hsb]; exact hmb
   exact .inl ⟨by simp only [jd, hma, this]; rfl, rfl, hh.below⟩
  | true =>
   have hmb2 := hmb;simp only [Uj, Up] at hmb2;have hbl : jd f a.data.toList b.data.toList = some (List.zipWith f (ints a.data.toList) (ints b.data.toList)) := by
    have : (eM b.data.toList && decide ((b.data.toList.length : Int) = a.data.toList.length)) = true := by rw [← hsa, ← hsb]; exact hmb
    simp only [jd, hma, this]; rfl
   have hea := jE hma;have heb := jE hmb2.1;have hlab : (ints a.data.toList).length = (ints b.data.toList).length := by rw [cX, cX]; omega
   have hlb := cX b.data.toList;have hla := cX a.data.toList;have hA := gR a;have hB := gR b;rw [hea] at hA;rw [heb] at hB;generalize hia : ints a.data.toList = ia at *;generalize hib : ints b.data.toList = ib at *;have bda : ∀ (k : Nat) (x : Int), ia[k]? = some x → 0 ≤ x ∧ x ≤ 127 := fun k x h => EK (l := a.data.toList) (by rw [hea]; exact h);have bdb : ∀ (k : Nat) (x : Int), ib[k]? = some x → 0 ≤ x ∧ x ≤ 127 := fun k x h => EK (l := b.data.toList) (by rw [heb]; exact h);clear hea heb;refine It ?_;refine sr (aL (aB (aa (sr (mS ?_)))));refine aF (hB _ hb) al.out rfl TY ?_;rintro e_ w12 ⟨A12, c12, rfl, hown_, hb_⟩;refine ⟨_, rfl, ?_⟩;replace hh := hh.aW (x := .row _ _ _ _ _ _) hb_ hown_;refine aL (aa (ah (sr (mS (mS ?_)))));refine bI bk.out rfl TY ?_;refine bD hh (mi a _ TX) rfl ?_;intro w16 hh;rw [hma];refine fm ?_;refine mB (gT (mS (gT (mS (gT ?_)))));refine bI bk.out rfl TY ?_;refine aH rfl rfl ?_;refine bD hh (kV b _ _ TX) rfl ?_;intro w22 hh;rw [hmb];refine gT ?_;refine fm ?_;refine e7 ?_;refine aa (cF (ar (ai (ah (sr (mS ?_))))));refine aF (hA _ ha) al.out rfl TY ?_;rintro e_ w26 ⟨A26, c26, rfl, hown_, hb_⟩;refine ⟨_, rfl, ?_⟩
   replace hh := hh.aW (x := .row _ _ _ _ _ _) hb_ hown_;refine aJ (mI (aa (aq ?_)));refine aP [9, 10, 28, 29, 30, 31, 32, 33, 34, 35, 36, 37, 38, 39, 40, 41, 42, 43] 28
    (fun i w' => ∃ k : Nat, k ≤ ib.length ∧ i = .int .i64 k ∧ Hp w [.row A26 ia.length c26 3 1 (bJ ia), .row A12 ib.length c12 3 1 (bJ (mr f ia ib k))] w')
    (fun i _ => ib.length - (intOf i).toNat) ?_ ?_
   ·exact ⟨0, T6 _, rfl, by rw [I0]; exact hh⟩
   ·clear hh hown_ hb_;rintro ρ' i w' ⟨k, hk, rfl, hh⟩;by_cases hlt : k < ib.length
    ·obtain ⟨x, hx⟩ := ak (l := ia) (k := k) TX;obtain ⟨y, hy⟩ := ak hlt;have bx := bda k x hx;have byy := bdb k y hy;have hx2 := cj hx;have hy2 := cj (OW (f := f) hlab hy);have hml := LN (f := f) hlab hk;have hml2 := bX (mr f ia ib k);obtain ⟨ga, rfl⟩ := hh.cB (i := 0) rfl TX;obtain ⟨gb, rfl⟩ := hh.cB (i := 1) rfl TX;refine sr ?_;refine ek ?_;refine uD ?_;refine jn ?_;refine aI (aI (aa (ao (mL (mI ?_)))));refine iH ?_;refine mI (mL (mI ?_));refine uD ?_;refine IU ?_;refine gg (hg x y _ bx.1 bx.2 byy.1 byy.2) al.out rfl rfl TY ?_;rintro e_ w41 ⟨rfl, hb_⟩;refine ⟨_, rfl, ?_⟩;replace hh := hh.ext hb_;refine uD ?_;refine bO hh (i := 1) (vs := [_]) rfl rfl (cJ rfl) rfl aK.out rfl TX rfl ?_;intro ws hh;simp only [Uh, UH] at hh;refine fM ?_;refine bj (mI (aA (ai ?_)));rw [Uo, KJ hlab hx hy] at hh;refine ⟨⟨k + 1, TX, rfl, hh⟩, by show _ - (k + 1) < _ - k; omega, ?_⟩;exact dQ
    ·refine sr ?_;refine bg (aa (ah (cF (a6 (aD (aD (bB (ai (sr (mL (aL (aB (aa (au ?_))))))))))))));refine Ku ?_;obtain rfl : k = ib.length := TX;rw [HL hlab] at hh;have h1 := hh.at_ (i := 1) rfl;have hzl : (List.zipWith f ia ib).length = ib.length := by simp [hlab]
     refine .inr ⟨_, hbl, TX, A12, c12, ?_⟩;rw [hzl];exact ⟨rfl, h1, hh.below⟩
theorem Gx (a b : ByteArray) (g : FuncId) (f : Int → Int → Int) (w : World) (ha : a.size ≤ 100000) (hb : b.size ≤ 100000) [al Tryz.prog g]
  (hg : ∀ (x y : Int) (w : World), 0 ≤ x → x ≤ 127 → 0 ≤ y → y ≤ 127 → Calls Tryz.prog g #[.int .i64 x, .int .i64 y] w fun e w' => e = .returned (.int .i64 (f x y)) ∧ Below w.heap.size w w')
  (h : jd f a.data.toList b.data.toList = none) :
  Calls Tryz.prog 206 #[.string a, .string b, .func (.func g) #[] #[]] w fun e w' => e = .returned (.tuple #[.slice none 0 0, .bool false]) ∧ Below w.heap.size w w' :=
 (uP a b g f w ha hb hg).mono fun e w' hq => by
  rcases hq with hq | ⟨l, hl, _⟩
  ·exact hq.2
  ·rw [h] at hl; cases hl
theorem GU (a b : ByteArray) (g : FuncId) (f : Int → Int → Int) (w : World) (ha : a.size ≤ 100000) (hb : b.size ≤ 100000) [al Tryz.prog g]
  (hg : ∀ (x y : Int) (w : World), 0 ≤ x → x ≤ 127 → 0 ≤ y → y ≤ 127 → Calls Tryz.prog g #[.int .i64 x, .int .i64 y] w fun e w' => e = .returned (.int .i64 (f x y)) ∧ Below w.heap.size w w')
  {l : List Int} (h : jd f a.data.toList b.data.toList = some l) :
  Calls Tryz.prog 206 #[.string a, .string b, .func (.func g) #[] #[]] w fun e w' => ∃ A c, e = .returned (.tuple #[.slice A l.length c, .bool true]) ∧ w'.ownsRow w.heap.size 3 1 (.slice A l.length c) l.length (bJ l) ∧ Below w.heap.size w w' :=
 (uP a b g f w ha hb hg).mono fun e w' hq => by
  rcases hq with ⟨hn, _⟩ | ⟨l', hl, _, hq⟩
  ·rw [h] at hn; cases hn
  ·rw [h] at hl; injection hl with hl; subst hl; exact hq
theorem Gi {f : Int → Int → Int} {a b : List UInt8} {l : List Int} (h : jd f a b = some l) : l.length ≤ b.length := by
 unfold jd at h;split at h
 ·injection h with h; subst h; simp [ints]; omega
 ·cases h
theorem tK (x y : Int) (w : World) (h1 : 0 ≤ x) (h2 : x ≤ 127) (h3 : 0 ≤ y) (h4 : y ≤ 127) :
  Calls Tryz.prog 207 #[.int .i64 x, .int .i64 y] w fun e w' => e = .returned (.int .i64 (x + y)) ∧ Below w.heap.size w w' := by
 refine aj (N := 8) (l := [.int .i64 x, .int .i64 y]) Tryz.func207 rfl rfl (by simp) ?_;refine sr (aI (aa (sr (mI (mI ?_)))));refine bj (aI (aa (au ?_)));refine cZ ?_;exact ⟨rfl, Below.refl _ _⟩
theorem GS (a b : ByteArray) (w : World) (ha : a.size ≤ 100000) (hb : b.size ≤ 100000) :
  Calls Tryz.prog 165 #[.string a, .string b] w fun e w' => e = .returned (.tuple #[.string (str (mulL a.data.toList b.data.toList).1), .int .i64 (mulL a.data.toList b.data.toList).2]) ∧ Below w.heap.size w w' := by
 have hh := Hp.start w;have hsb := dE b
 cases hbo : jd (· + ·) a.data.toList b.data.toList with
 | none =>
  refine aj (N := 20) (l := [.string a, .string b]) Tryz.func165 rfl rfl (by simp) ?_;refine sr (aS (aI (aa (sr (mS (mS ?_))))));refine bD hh (Gx a b _ _ _ ha hb tK hbo) rfl ?_;intro w11 hh;refine mT ?_;refine du ?_;refine du ?_;refine aL (aB (aa (ah (sr (mB ?_)))));refine fm ?_;refine aa (cT (sr (aS (aI (aa (au (aG ?_)))))));refine Ku ?_;simp only [mulL, hbo];exact ⟨rfl, hh.below⟩
 | some l =>
  have hl := Gi hbo;refine aj (N := 20) (l := [.string a, .string b]) Tryz.func165 rfl rfl (by simp) ?_;refine sr (aS (aI (aa (sr (mS (mS ?_))))));refine aF (GU a b _ _ _ ha hb tK hbo) al.out rfl TY ?_;rintro e_ w11 ⟨A11, c11, rfl, hown_, hb_⟩;refine ⟨_, rfl, ?_⟩;replace hh := hh.aW (x := .row _ _ _ _ _ _) hb_ hown_;refine mT ?_;refine du ?_;refine du ?_;refine aL (aB (aa (ah (sr (mB ?_)))));refine fm ?_;refine aa (cF (ar (ai (sr (mL ?_)))));refine bD hh (AB _ _ _ _ _ (hh.aC (i := 0) rfl) TX) rfl ?_;intro w17 hh;refine du ?_;refine du ?_;refine aS (aI (aa (au ?_)));refine Ku ?_;simp only [mulL, hbo];exact ⟨trivial, hh.below⟩
def iU (v : Int) : Bool := decide (0 ≤ v) && decide (v ≤ 12)
theorem iA {v : Int} : iU v = true ↔ 0 ≤ v ∧ v ≤ 12 := by unfold iU; rw [Uj, Up, Up]
theorem m7 (v : Int) (w : World) : Calls Tryz.prog 134 #[.int .i64 v] w fun r w' => r = .returned (.bool (iU v)) ∧ Below w.heap.size w w' := by
 have hh := Hp.start w;unfold iU;by_cases h1 : 0 ≤ v
 ·rw [Um h1, Bool.true_and];by_cases h2 : v ≤ 12
  ·rw [Um h2];exact NU
  ·rw [UB h2];exact NU
 ·rw [UB h1, Bool.false_and];refine aj (N := 9) (l := [.int .i64 v]) Tryz.func134 rfl rfl (by simp) ?_;refine sr (aB (aa (sr (mI ?_))));refine dW (mB ?_);refine gS (gS ?_);refine e7 ?_;exact vc
def Sa (a : NR) : Bool := decide ((nR a.d).neg = a.neg) && (decide ((nR a.d).bz = a.bz) && decide ((nR a.d).e = a.e))
theorem r6 (a : NR) : Sa a = true ↔ nR a.d = a := by
 unfold Sa;rw [Uj, Uj, Up, Up, Up];constructor
 ·rintro ⟨h1, h2, h3⟩;obtain ⟨s, m, e⟩ := a;generalize nR (NR.d ⟨s, m, e⟩) = b at *;obtain ⟨s', m', e'⟩ := b;simp only at h1 h2 h3;rw [h1, h2, h3]
 ·intro h;rw [h];exact ⟨rfl, rfl, rfl⟩
def nH (v : Int) (t : TR) : Bool := eM t.m.data.toList && decide ((t.m.size : Int) = v) && (x6 t && Sa t.c)
def s8 : List TR → Bool
 | [] => true
 | [_] => true
 | a :: b :: l => ji a.m b.m && s8 (b :: l)
theorem vK : ∀ (l : List TR) (p x : TR), s8 (l ++ [p, x]) = (s8 (l ++ [p]) && ji p.m x.m)
 | [], p, x => by show (ji p.m x.m && true) = (true && ji p.m x.m); rw [Bool.and_true, Bool.true_and]
 | [a], p, x => by
  show (ji a.m p.m && (ji p.m x.m && true)) = ((ji a.m p.m && true) && ji p.m x.m);rw [Bool.and_true, Bool.and_true]
 | a :: b :: l, p, x => by
  show (ji a.m b.m && s8 ((b :: l) ++ [p, x])) = ((ji a.m b.m && s8 ((b :: l) ++ [p])) && ji p.m x.m);rw [vK (b :: l) p x, Bool.and_assoc]
theorem EF : ∀ {l : List TR} {i : Nat} {p x : TR}, s8 l = true → l[i]? = some p → l[i + 1]? = some x → ji p.m x.m = true
 | [], i, p, x, _, h, _ => by simp at h
 | [a], i, p, x, _, _, h => by simp at h
 | a :: b :: l, 0, p, x, h, h1, h2 => by
  simp only [W7, VQ, Uv, WI] at h1 h2;subst h1 h2;exact (V8.1 h).1
 | a :: b :: l, i + 1, p, x, h, h1, h2 => by
  rw [WI] at h1 h2;exact EF (V8.1 h).2 h1 h2
theorem uQ : ∀ {l : List TR}, s8 l = true ↔ sC l
 | [] => ⟨fun _ => Xj, fun _ => rfl⟩
 | [a] => ⟨fun _ => Xv _ _, fun _ => rfl⟩
 | a :: b :: l => by
  show (ji a.m b.m && s8 (b :: l)) = true ↔ _;rw [Uj, uQ (l := b :: l)];constructor
  ·rintro ⟨h1, h2⟩;refine Vl.2 ⟨fun t ht => ?_, h2⟩
   rcases Ul.1 ht with rfl | ht
   ·exact h1
   ·exact jD h1 ((Vl.1 h2).1 t ht)
  ·intro h;have := Vl.1 h;exact ⟨this.1 b Uc, this.2⟩
def okB (v : Int) (ts : List TR) : Bool := ts.all (nH v) && s8 ts
def fH (v : Int) (ts : List TR) : Int := if iU v = false then 1 else if 4096 < ts.length then 3 else if okB v ts = true then 0 else 1
theorem Jh {v : Int} (h1 : iU v = true) (h2 : ¬ 4096 < ts.length) (h : okB v ts = false) : fH v ts = 1 := by
 unfold fH;rw [T3 (by rw [h1]; decide), T3 h2, T3 (by rw [h]; decide)]
theorem xk {v : Int} {i : Nat} {x : TR} (hx : ts[i]? = some x) (h : nH v x = false) : okB v ts = false := by
 unfold okB;rw [Xu];refine .inl (Wz.2 fun h2 => ?_);rw [Ux.1 h2 x (T7 hx)] at h
 cases h
theorem Iu {v : Int} {i : Nat} {p x : TR} (hp : ts[i]? = some p) (hx : ts[i + 1]? = some x) (h : ji p.m x.m = false) : okB v ts = false := by
 unfold okB;rw [Xu];refine .inr (Wz.2 fun h2 => ?_);rw [EF h2 hp hx] at h
 cases h
theorem xJ (v : Int) (A : Option Addr) (n c : Nat) (ts : List TR) (w : World) (hT : eh w) (hS : Sl w A n 4 (az TR.cells ts)) (hn : n ≤ 1000000) (ho : ∀ t ∈ ts, t.c.ok ∧ t.m.size ≤ 100000) :
  Calls Tryz.prog 142 #[.agg #[.int .i64 v, .slice A n c]] w fun r w' => r = .returned (.int .i64 (fH v ts)) ∧ Below w.heap.size w w' := by
 have hh := Hp.start w;have hln := hS.bq TR.len TY;have hfw := fun w1 => m7 v w1
 cases hf : iU v with
 | false =>
  rw [hf] at hfw;rw [show fH v ts = 1 by unfold fH; rw [T2 hf]];refine Kc ?_;refine sr ?_;refine cD hh [_,_] ?_;intro b1 w1 hh;refine aI (aa (ah (sr (bH ?_))));refine bG hh 0 ?_;refine bD hh (hfw _) rfl ?_;intro w7 hh;refine fm ?_;exact Ki
 | true =>
  rw [hf] at hfw;by_cases h4 : 4096 < n
  ·rw [show fH v ts = 3 by unfold fH; rw [T3 (by rw [hf]; decide), T2 TX]];refine Kc ?_;refine sr ?_;refine cD hh [_,_] ?_;intro b1 w1 hh;refine aI (aa (ah (sr (bH ?_))));refine bG hh 0 ?_;refine bD hh (hfw _) rfl ?_;intro w7 hh;refine fm ?_;refine Dt ?_;refine bG hh 0 ?_;refine aJ ?_;refine cm (aa (cT (sr (aI (aa (au (aG ?_)))))));refine cZ ?_;exact ⟨rfl, hh.below⟩
  ·have hbad := fun h => Jh (v := v) (ts := ts) hf TX h;refine Kc ?_;refine sr ?_;refine cD hh [_,_] ?_;intro b1 w1 hh;refine aI (aa (ah (sr (bH ?_))));refine bG hh 0 ?_;refine bD hh (hfw _) rfl ?_;intro w7 hh;refine fm ?_;refine Dt ?_;refine bG hh 0 ?_;refine aJ ?_;refine cm (aa (cF (ar (ai (ah (sr (bH ?_)))))));refine bG hh 0 ?_;refine aJ (mI (aa (aq ?_)));refine aP [2, 3, 4, 16, 17, 18, 19, 20, 21, 22, 23, 24, 25, 26, 27, 28, 29, 30, 31, 32, 33, 34, 35, 36, 37, 38, 39, 40, 41, 42, 43, 44, 45, 46, 47, 48, 49, 50, 51, 52, 53, 54, 55, 56, 57] 16
    (fun x w' => ∃ i : Nat, i ≤ n ∧ x = .int .i64 i ∧ (ts.take i).all (nH v) = true ∧ s8 (ts.take i) = true ∧ Hp w [.blk b1 24 [.int .i64 v, .slice A n c] (0, 0)] w')
    (fun x _ => n - (intOf x).toNat) ?_ ?_
   ·exact ⟨0, T6 _, rfl, rfl, rfl, hh⟩
   ·clear hh;rintro ρ' x_ w' ⟨i, hi, rfl, hall, hris, hh⟩;by_cases hlt : i < n
    ·obtain ⟨x, hx⟩ := ak (l := ts) (k := i) TX;obtain ⟨ad, rfl, hr⟩ := hS.at_ TX;obtain ⟨hxo, hxm⟩ := ho x (T7 hx);have hmay := fun w1 => kV x.m v w1 TX;have hsg := fun w1 => gY x.c w1;have hfo := fun w1 hT1 => eB x.c w1 hT1 (by have := hxo.1; omega) (by have := hxo.2.1; omega) (by have := hxo.2.2; omega);have hzz : x.c.i.sign = 0 ↔ x.c.d = 0 := by
      rw [Int.sign_eq_zero_iff_zero];exact ⟨fun h => by unfold NR.d; rw [h]; rfl, rk⟩
     cases hm : eM x.m.data.toList && decide ((x.m.size : Int) = v) with
     | false =>
      rw [hm] at hmay;rw [hbad (xk hx (by unfold nH; rw [hm]; rfl))];refine sr ?_;refine ek ?_;refine cu ?_;refine ra ?_;refine bV hh ?_;intro b4 w4 hh;refine aI ?_;refine bW hh 0 [_,_,_,_] ?_;intro ws hh;replace hh : Hp _ (.blk _ _ [_, _, _, _] _ :: _) _ := hh;refine aa (ah ?_)
      refine eu [] [] zL1 33 zL0 [(32, 53), (31, 52), (30, 51), (29, 50), (28, 49), (27, 48), (26, 47), (25, 46), (24, 45), (23, 44), (22, 43), (21, 42), (20, 41), (19, 40), (18, 39), (17, 38), (16, 37), (15, 36), (14, 35), (13, 34), (12, 33), (11, 32), (10, 31), (9, 30), (8, 29), (7, 28), (6, 27), (5, 26), (4, 25), (3, 24), (2, 23), (1, 22), (0, 21)] hh mixed TZ fk rfl (by repeat (first | exact cA | refine bQ ?_ | refine cE ?_)) ?_
      refine ej ?_;refine fY 0 ?_;refine ej ?_;refine fY 1 ?_;refine dC (fun _ hj => hmay _) ?_;refine F2 ?_;refine oC ?_;refine dS (dS (dS (dS ?_)));refine GK ?_;exact MX
     | true =>
      rw [hm] at hmay;by_cases hz : x.c.d = 0
      ·have hs := hzz.2 hz;rw [hbad (xk hx (by unfold nH x6; rw [hm, Um hz]; rfl))];refine sr ?_;refine ek ?_;refine cu ?_;refine ra ?_;refine bV hh ?_;intro b4 w4 hh;refine aI ?_;refine bW hh 0 [_,_,_,_] ?_;intro ws hh;replace hh : Hp _ (.blk _ _ [_, _, _, _] _ :: _) _ := hh;refine aa (ah ?_)
       refine eu [] [] zL1 33 zL0 [(32, 53), (31, 52), (30, 51), (29, 50), (28, 49), (27, 48), (26, 47), (25, 46), (24, 45), (23, 44), (22, 43), (21, 42), (20, 41), (19, 40), (18, 39), (17, 38), (16, 37), (15, 36), (14, 35), (13, 34), (12, 33), (11, 32), (10, 31), (9, 30), (8, 29), (7, 28), (6, 27), (5, 26), (4, 25), (3, 24), (2, 23), (1, 22), (0, 21)] hh mixed TZ fk rfl (by repeat (first | exact cA | refine bQ ?_ | refine cE ?_)) ?_
       refine ej ?_;refine fY 0 ?_;refine ej ?_;refine fY 1 ?_;refine dC (fun _ hj => hmay _) ?_;refine F2 ?_;refine oC ?_;refine dG (ej ?_);refine dG (fU 0 [_,_,_] ?_);refine AK ?_;refine dG (x9 ?_);refine LZ ?_;exact MX
      ·have hs : ¬ x.c.i.sign = 0 := fun h => hz (hzz.1 h);by_cases hnf : nR x.c.d = x.c
       ·have hgood : nH v x = true := by unfold nH x6; rw [hm, UB hz, (r6 x.c).2 hnf]; rfl
        have hall2 : (ts.take (i + 1)).all (nH v) = true := by rw [ay hx, List.all_append, hall]; simp [hgood]
        by_cases h0 : i = 0
        ·refine sr ?_;refine ek ?_;refine cu ?_;refine ra ?_;refine bV hh ?_;intro b4 w4 hh;refine aI ?_;refine bW hh 0 [_,_,_,_] ?_;intro ws hh;replace hh : Hp _ (.blk _ _ [_, _, _, _] _ :: _) _ := hh;refine aa (ah ?_)
         refine eu [] [] zL1 33 zL0 [(32, 53), (31, 52), (30, 51), (29, 50), (28, 49), (27, 48), (26, 47), (25, 46), (24, 45), (23, 44), (22, 43), (21, 42), (20, 41), (19, 40), (18, 39), (17, 38), (16, 37), (15, 36), (14, 35), (13, 34), (12, 33), (11, 32), (10, 31), (9, 30), (8, 29), (7, 28), (6, 27), (5, 26), (4, 25), (3, 24), (2, 23), (1, 22), (0, 21)] hh mixed TZ fk rfl (by repeat (first | exact cA | refine bQ ?_ | refine cE ?_)) ?_
         refine ej ?_;refine fY 0 ?_;refine ej ?_;refine fY 1 ?_;refine dC (fun _ hj => hmay _) ?_;refine F2 ?_;refine oC ?_;refine dG (ej ?_);refine dG (fU 0 [_,_,_] ?_);refine AK ?_;refine dG (x9 ?_);refine LZ ?_;refine oC ?_;refine dG (ej ?_);refine dG (fU 0 [_,_,_] ?_);refine DQ ?_;refine dG (ej ?_);refine dG (fU 0 [_,_,_] ?_);refine HR ?_;refine LZ ?_;refine oC ?_;refine dG (dF ?_);refine dG (OP ?_);refine dG (oC ?_);refine dS (dS (dS (dS ?_)));refine yq (i := 28) rfl (fun ρ1 w1 hj hR => (show ρ1 44 = Value.bool _ from hR.2.2.1)) TY ?_;refine dS (dS (dS (dS ?_)));refine aR ?_;intro f W hJ hV _;have hb_8 := hJ.bl;obtain ⟨v53, v52, v51, v50, v49, v48, v47, v46, v45, v44, v43, v42, v41, v40, v39, v38, v37, v36, v35, v34, v33, v32, v31, v30, v29, v28, v27, v26, v25, v24, v23, v22, v21, _⟩ := hV;replace hh := hJ.hp;refine EX ?_;dsimp only [cf];clear hJ;refine gS (gT ?_)
         (first | refine fL ?_ | refine e7 ?_)
         refine e7 ?_;refine wv ?_;refine bj (mI (aA (ai ?_)));replace hh := hh.sub (T8 _ (T4 _ UA));refine ⟨⟨i + 1, TX, rfl, hall2, by rw [ay hx, h0]; rfl, hh⟩, by show n - (i + 1) < n - i; omega, ?_⟩;exact dQ
        ·obtain ⟨q, hq⟩ : ∃ q, i = q + 1 := ⟨i - 1, TX⟩;obtain ⟨p, hp⟩ := ak (l := ts) (k := q) TX
         cases hlp : ji p.m x.m with
         | false =>
          rw [hbad (Iu hp (hq ▸ hx) hlp)];have hge : (!(Op.bytesLess p.m.toList x.m.toList)) = true := by rw [pb, hlp]; rfl
          refine sr ?_;refine ek ?_;refine cu ?_;refine ra ?_;refine bV hh ?_;intro b4 w4 hh;refine aI ?_;refine bW hh 0 [_,_,_,_] ?_;intro ws hh;replace hh : Hp _ (.blk _ _ [_, _, _, _] _ :: _) _ := hh;refine aa (ah ?_)
          refine eu [] [] zL1 33 zL0 [(32, 53), (31, 52), (30, 51), (29, 50), (28, 49), (27, 48), (26, 47), (25, 46), (24, 45), (23, 44), (22, 43), (21, 42), (20, 41), (19, 40), (18, 39), (17, 38), (16, 37), (15, 36), (14, 35), (13, 34), (12, 33), (11, 32), (10, 31), (9, 30), (8, 29), (7, 28), (6, 27), (5, 26), (4, 25), (3, 24), (2, 23), (1, 22), (0, 21)] hh mixed TZ fk rfl (by repeat (first | exact cA | refine bQ ?_ | refine cE ?_)) ?_
          refine ej ?_;refine fY 0 ?_;refine ej ?_;refine fY 1 ?_;refine dC (fun _ hj => hmay _) ?_;refine F2 ?_;refine oC ?_;refine dG (ej ?_);refine dG (fU 0 [_,_,_] ?_);refine AK ?_;refine dG (x9 ?_);refine LZ ?_;refine oC ?_;refine dG (ej ?_);refine dG (fU 0 [_,_,_] ?_);refine DQ ?_;refine dG (ej ?_);refine dG (fU 0 [_,_,_] ?_);refine HR ?_;refine LZ ?_;refine oC ?_;refine dG (dF ?_);refine dG (OP ?_);refine dG (oC ?_);refine dG (ej ?_);refine dG (fY 1 ?_);refine dG (dF ?_);refine dG (vg ?_);refine dG (l3 (q) ?_);refine dG (Kx ?_);refine dG (rW (fun _ hj => ((hr.ext hj.hp.below).recAt TR.len hp).cell (i := 0) rfl) ?_);refine dG (ej ?_);refine dG (fY 0 ?_);refine aR ?_;intro f W hJ hV _;have hb_8 := hJ.bl;obtain ⟨v53, v52, v51, v50, v49, v48, v47, v46, v45, v44, v43, v42, v41, v40, v39, v38, v37, v36, v35, v34, v33, v32, v31, v30, v29, v28, v27, v26, v25, v24, v23, v22, v21, _⟩ := hV;replace hh := hJ.hp;refine EX ?_;dsimp only [cf];clear hJ;refine gT ?_;refine xf rfl rfl TY ?_;refine gT ?_
          (first | refine fL ?_ | refine e7 ?_)
          refine e7 ?_;refine aa ?_;rw [hge];refine cT (sr (aI (aa (au (cd (aG (aG (cd (aG ?_)))))))));refine cZ ?_;exact ⟨rfl, hh.below⟩
         | true =>
          have hge : (!(Op.bytesLess p.m.toList x.m.toList)) = false := by rw [pb, hlp]; rfl
          refine sr ?_;refine ek ?_;refine cu ?_;refine ra ?_;refine bV hh ?_;intro b4 w4 hh;refine aI ?_;refine bW hh 0 [_,_,_,_] ?_;intro ws hh;replace hh : Hp _ (.blk _ _ [_, _, _, _] _ :: _) _ := hh;refine aa (ah ?_)
          refine eu [] [] zL1 33 zL0 [(32, 53), (31, 52), (30, 51), (29, 50), (28, 49), (27, 48), (26, 47), (25, 46), (24, 45), (23, 44), (22, 43), (21, 42), (20, 41), (19, 40), (18, 39), (17, 38), (16, 37), (15, 36), (14, 35), (13, 34), (12, 33), (11, 32), (10, 31), (9, 30), (8, 29), (7, 28), (6, 27), (5, 26), (4, 25), (3, 24), (2, 23), (1, 22), (0, 21)] hh mixed TZ fk rfl (by repeat (first | exact cA | refine bQ ?_ | refine cE ?_)) ?_
          refine ej ?_;refine fY 0 ?_;refine ej ?_;refine fY 1 ?_;refine dC (fun _ hj => hmay _) ?_;refine F2 ?_;refine oC ?_;refine dG (ej ?_);refine dG (fU 0 [_,_,_] ?_);refine AK ?_;refine dG (x9 ?_);refine LZ ?_;refine oC ?_;refine dG (ej ?_);refine dG (fU 0 [_,_,_] ?_);refine DQ ?_;refine dG (ej ?_);refine dG (fU 0 [_,_,_] ?_);refine HR ?_;refine LZ ?_;refine oC ?_;refine dG (dF ?_);refine dG (OP ?_);refine dG (oC ?_);refine dG (ej ?_);refine dG (fY 1 ?_);refine dG (dF ?_);refine dG (vg ?_);refine dG (l3 (q) ?_);refine dG (Kx ?_);refine dG (rW (fun _ hj => ((hr.ext hj.hp.below).recAt TR.len hp).cell (i := 0) rfl) ?_);refine dG (ej ?_);refine dG (fY 0 ?_);refine aR ?_;intro f W hJ hV _;have hb_8 := hJ.bl;obtain ⟨v53, v52, v51, v50, v49, v48, v47, v46, v45, v44, v43, v42, v41, v40, v39, v38, v37, v36, v35, v34, v33, v32, v31, v30, v29, v28, v27, v26, v25, v24, v23, v22, v21, _⟩ := hV;replace hh := hJ.hp;refine EX ?_;dsimp only [cf];clear hJ;refine gT ?_;refine xf rfl rfl TY ?_;refine gT ?_
          (first | refine fL ?_ | refine e7 ?_)
          refine e7 ?_;refine aa ?_;rw [hge];refine cF (ar (bE (ai (ao ?_))));refine bj (mI (aA (ai ?_)));replace hh := hh.sub (T8 _ (T4 _ UA));refine ⟨⟨i + 1, TX, rfl, hall2, ?_, hh⟩, by show n - (i + 1) < n - i; omega, ?_⟩
          ·rw [hq, ay hp] at hris;rw [ay hx, hq, ay hp, UI];show s8 (ts.take q ++ [p, x]) = true;rw [vK, hris, hlp]
           rfl
          ·exact dQ
       ·rw [hbad (xk hx (by unfold nH x6; rw [hm, UB hz, Wz.2 (fun h => hnf ((r6 x.c).1 h))]; rfl))];refine sr ?_;refine ek ?_;refine cu ?_;refine ra ?_;refine bV hh ?_;intro b4 w4 hh;refine aI ?_;refine bW hh 0 [_,_,_,_] ?_;intro ws hh;replace hh : Hp _ (.blk _ _ [_, _, _, _] _ :: _) _ := hh;refine aa (ah ?_)
        refine eu [] [] zL1 33 zL0 [(32, 53), (31, 52), (30, 51), (29, 50), (28, 49), (27, 48), (26, 47), (25, 46), (24, 45), (23, 44), (22, 43), (21, 42), (20, 41), (19, 40), (18, 39), (17, 38), (16, 37), (15, 36), (14, 35), (13, 34), (12, 33), (11, 32), (10, 31), (9, 30), (8, 29), (7, 28), (6, 27), (5, 26), (4, 25), (3, 24), (2, 23), (1, 22), (0, 21)] hh mixed TZ fk rfl (by repeat (first | exact cA | refine bQ ?_ | refine cE ?_)) ?_
        refine ej ?_;refine fY 0 ?_;refine ej ?_;refine fY 1 ?_;refine dC (fun _ hj => hmay _) ?_;refine F2 ?_;refine oC ?_;refine dG (ej ?_);refine dG (fU 0 [_,_,_] ?_);refine AK ?_;refine dG (x9 ?_);refine LZ ?_;refine oC ?_;refine dG (ej ?_);refine dG (fU 0 [_,_,_] ?_);refine DQ ?_;refine dG (ej ?_);refine dG (fU 0 [_,_,_] ?_);refine yi (i := 18) rfl (fun ρ1 w1 hj hR => (show ρ1 33 = Value.bool _ from hR.2.2.1)) (fun ρ1 w1 hj hR => Dv (show ρ1 36 = Value.agg (List.toArray _) from hR.1) (show ρ1 38 = Value.agg (List.toArray _) from hR.2.1) (by assumption)) ?_;refine LZ ?_;exact S5
    ·rw [T9 TX] at hall hris;rw [show fH v ts = 0 by unfold fH okB; rw [T3 (by rw [hf]; decide), T3 TX, hall, hris]; rfl];refine sr ?_;refine Eo ?_;refine cZ ?_;exact ⟨rfl, hh.below⟩
def eK (v : Int) (t : TR) : Bool := eM t.m.data.toList && decide ((t.m.size : Int) = v)
theorem Ap (z : TR) (v : Int) (b : Nat) (w : World) (hp : w.cell? ⟨b, 0, none⟩ = some (.int .i64 v)) (hz : z.m.size ≤ 100000) : Calls Tryz.prog 158 #[.agg #[.string z.m, .bool z.c.neg, .string z.c.bz, .int .i64 z.c.e], .pointer (some ⟨b, 0, none⟩)] w fun r w' => r = .returned (.bool (!eK v z)) ∧ Below w.heap.size w w' := by
 have hh := Hp.start w;have hmay := fun w1 => kV z.m v w1 TX;unfold eK;refine aj (N := 9) (l := [.agg #[.string z.m, .bool z.c.neg, .string z.c.bz, .int .i64 z.c.e], .pointer (some ⟨b, 0, none⟩)]) Tryz.func158 rfl rfl (by simp) ?_;refine sr ?_;refine cD hh [_,_,_,_] ?_;intro b2 w2 hh;refine aB (aa (sr (bH ?_)));refine bG hh 0 ?_;refine bT aK.out rfl (cH hh.below hp) TY ?_;refine bD hh (hmay _) rfl ?_;intro w7 hh
 cases eM z.m.data.toList && decide ((z.m.size : Int) = v) with
 | false =>
  refine fm ?_;exact vc
 | true =>
  refine fm ?_;exact vc
theorem vd (A : Option Addr) (n c : Nat) (l : List TR) (v : Int) (b : Nat) (w : World) (hS : Sl w A n 4 (az TR.cells l)) (hn : n ≤ 1000000) (hp : w.cell? ⟨b, 0, none⟩ = some (.int .i64 v)) (hz : ∀ t ∈ l, t.m.size ≤ 100000) :
  Calls Tryz.prog 157 #[.slice A n c, .func (.func 158) #[] #[.pointer (some ⟨b, 0, none⟩)]] w fun r w' => r = .returned (.bool (l.any fun t => !eK v t)) ∧ Below w.heap.size w w' :=
 Cw A n c l 158 [.pointer (some ⟨b, 0, none⟩)] (fun t => !eK v t) w hS hn fun z w1 hz2 hb => Ap z v b w1 (cH hb hp) (hz z hz2)
def p5 (v : Int) (l : List TR) : Int := if iU v = false ∨ (l.any fun t => !eK v t) = true then 1 else if 65536 < l.length then 3 else gp l
theorem ml (v : Int) (A : Option Addr) (n c : Nat) (l : List TR) (k : Nat) (w : World) (hT : eh w) (hS : Sl w A n 4 (az TR.cells l)) (hn : n ≤ 1000000) (hk : k ≤ 2999980) (ho : iI k l) (hz : ∀ t ∈ l, t.m.size ≤ 100000) :
  Calls Tryz.prog 72 #[.int .i64 v, .slice A n c] w fun r w' => ∃ g : PX, eX (p5 v l) v (aE l) g ∧ r = .returned (.tuple #[.agg #[.int .i64 g.v, .slice g.A g.n g.c], .int .i64 (p5 v l)]) ∧ Hp w [g.row] w' := by
 have hh := Hp.start w;have hln := hS.bq TR.len TY;have hfw := fun w1 => m7 v w1;have han := fun b w1 hb hp => vd A n c l v b w1 (hS.ext hb) hn hp hz
 cases hf : iU v with
 | false =>
  rw [hf] at hfw;rw [show p5 v l = 1 by unfold p5; rw [T2 (.inl hf)]];refine Ea ?_;refine sr ?_;refine cD hh [_] ?_;intro b2 w2 hh;refine bV hh ?_;intro b4 w4 hh;refine aI (aa (ah (sr ?_)));refine bG hh 1 ?_;refine bD hh (hfw _) rfl ?_;intro w7 hh;refine fm ?_;refine mB ?_;refine gS (gS ?_);refine ju ?_;refine fL ?_;refine aa (cT (sr ?_));exact Lm
 | true =>
  rw [hf] at hfw
  cases ha : l.any fun t => !eK v t with
  | true =>
   rw [ha] at han;rw [show p5 v l = 1 by unfold p5; rw [T2 (.inr ha)]];refine Ea ?_;refine sr ?_;refine cD hh [_] ?_;intro b2 w2 hh;refine bV hh ?_;intro b4 w4 hh;refine aI (aa (ah (sr ?_)));refine bG hh 1 ?_;refine bD hh (hfw _) rfl ?_;intro w7 hh;refine fm ?_;refine mB (gT (mL (gT ?_)));refine vy ?_;refine aH rfl rfl ?_;refine bD hh (han _ _ hh.below (hh.dZ (i := 1) (o := 0) rfl rfl)) rfl ?_;intro w12 hh;refine e7 ?_;refine aa (cT (sr ?_));exact Lm
  | false =>
   rw [ha] at han;have e1 : p5 v l = if 65536 < l.length then 3 else gp l := by unfold p5; rw [T3 (by rw [hf, ha]; decide)]
   by_cases h6 : 65536 < n
   ·rw [e1, T2 TX];refine Ea ?_;refine sr ?_;refine cD hh [_] ?_;intro b2 w2 hh;refine bV hh ?_;intro b4 w4 hh;refine aI (aa (ah (sr ?_)));refine bG hh 1 ?_;refine bD hh (hfw _) rfl ?_;intro w7 hh;refine fm ?_;refine mB (gT (mL (gT ?_)));refine vy ?_;refine aH rfl rfl ?_;refine bD hh (han _ _ hh.below (hh.dZ (i := 1) (o := 0) rfl rfl)) rfl ?_;intro w12 hh;refine e7 ?_;refine aa (cF (ar (ai (ah (sr (mL (aJ ?_)))))));refine cm (aa (cT (sr ?_)));exact Lm
   ·rw [e1, T3 TX];refine Ea ?_;refine sr ?_;refine cD hh [_] ?_;intro b2 w2 hh;refine bV hh ?_;intro b4 w4 hh;refine aI (aa (ah (sr ?_)));refine bG hh 1 ?_;refine bD hh (hfw _) rfl ?_;intro w7 hh;refine fm ?_;refine mB (gT (mL (gT ?_)));refine vy ?_;refine aH rfl rfl ?_;refine bD hh (han _ _ hh.below (hh.dZ (i := 1) (o := 0) rfl rfl)) rfl ?_;intro w12 hh;refine e7 ?_;refine aa (cF (ar (ai (ah (sr (mL (aJ ?_)))))));refine cm (aa (cF (ar (ai (ah ?_)))));refine qJ [] [0, 0, 2, 7, 15, 15, 63, 127] 3 [[(2, none)], [(1, none)], [(20, some 1)]] [(2, 21), (1, 20), (0, 19)] [([], 4, [(2, 21), (1, 20), (0, 19)])] hh mixed TZ TZ TY ?_;refine fY 1 ?_;refine fT ?_;refine aT (i := 2) (u4 hh.sz 96 n 4 (az TR.cells l)) (u4.ext) ?_ ?_
    ·intro ρ1 w1 hj hR;exact bf rfl (aO al.out (aw (show ρ1 20 = Value.slice _ _ _ from hR.1) aZ)) (lE A n c l w1 (hS.ext hj.hp.below) hn) (fun _ _ ⟨A, c, hq, ho, hb⟩ => ⟨_, hq, hb, A, c, rfl, oa ho hj.bl.size⟩)
    refine aR ?_;intro p_ hp_;simp only [Ul, List.not_mem_nil, or_false] at hp_
    rcases hp_ with rfl
    intro f W hJ hV;have hb_5 := hJ.bl;obtain ⟨v21, v20, v19, _⟩ := hV;simp only [mz];have e19 : f 0 = _ := v19;rw [e19];have e20 : f 1 = _ := v20;rw [e20];obtain ⟨A21, c21, e21, o21⟩ : u4 _ _ _ _ _ (f 2) W := v21;rw [e21];replace hh := JJ.HM hh hJ.hp o21;clear o21;clear e19 e20 e21 hJ;refine aF (kp v A21 n c21 l k _ hT hh hln TX TX ho) al.out rfl TY ?_; rintro e_ w22 ⟨g, og, rfl, hh⟩; refine ⟨_, rfl, ?_⟩;refine fp ?_;refine cW (i := 4) (by repeat (first | exact cA | refine bQ ?_ | refine cE ?_ | refine np_scope ?_)) rfl TZ TZ TZ (fun _ => fB (show _ = Value.tuple (List.toArray _) from rfl) rfl) TY ?_;refine cW (i := 5) (by repeat (first | exact cA | refine bQ ?_ | refine cE ?_ | refine np_scope ?_)) rfl TZ TZ TZ (fun _ => fB (show _ = Value.tuple (List.toArray _) from rfl) rfl) TY ?_;refine kd 6 TY TZ TY TZ TZ ?_;exact EP
def PX.cells (g : PX) : List Value := [.int .i64 g.v, .slice g.A g.n g.c]
theorem PX.len (g : PX) : (PX.cells g).length = 2 := rfl
structure PX.l9 (g : PX) (k : Nat) : Prop where
 n : g.n ≤ 1000000
 cap : g.n ≤ g.c
 ok : iI k g.ts
 sz : ∀ t ∈ g.ts, t.m.size ≤ 100000
def PX.e (g : PX) : Int := fH g.v g.ts
theorem mO (g : PX) (k : Nat) (w : World) (hT : eh w) (h : g.at_ w) (hl : g.l9 k) :
  Calls Tryz.prog 142 #[.agg #[.int .i64 g.v, .slice g.A g.n g.c]] w fun r w' => r = .returned (.int .i64 g.e) ∧ Below w.heap.size w w' :=
 xJ g.v g.A g.n g.c g.ts w hT h hl.n fun t ht => ⟨(hl.ok t ht).1, hl.sz t ht⟩
def vr (ps : List PX) : Bool := ps.any fun g => decide (g.v ≠ (ps.map PX.v).headD 0)
def eY (ps : List PX) : Int := match ps.find? (fun g => decide (g.e ≠ 0)) with | some g => g.e | none => if ps.length = 0 ∨ vr ps = true then 1 else 0
theorem CR (L : Option Addr) (n c : Nat) (ps : List PX) (f : PX) (p : Addr) (w : World) (hL : Sl w L n 2 (az PX.cells ps)) (hp : w.cell? p = some (.slice L n c)) (hn : 0 < n) :
  Calls Tryz.prog 160 #[.agg #[.int .i64 f.v, .slice f.A f.n f.c], .pointer (some p)] w fun r w' => r = .returned (.bool (decide (f.v ≠ (ps.map PX.v).headD 0))) ∧ Below w.heap.size w w' := by
 have hh := Hp.start w;have hln := hL.bq PX.len TY;obtain ⟨g, ps, rfl⟩ : ∃ g l, ps = g :: l := by
  cases ps with
  | nil => exact absurd hln (by show ¬ 0 = n; omega)
  | cons g l => exact ⟨g, l, rfl⟩
 obtain ⟨ad, rfl, hr⟩ := hL.at_ hn;have hd : (((g :: ps).map PX.v).headD 0) = g.v := rfl;rw [hd];have h0 : (g :: ps)[0]? = some g := rfl;by_cases hg : f.v = g.v
 ·refine aj (N := 11) (l := [.agg #[.int .i64 f.v, .slice f.A f.n f.c], .pointer (some p)]) Tryz.func160 rfl rfl (by simp) ?_;refine sr ?_;refine cD hh [_,_] ?_;intro b2 w2 hh;refine aB (aa (ah ?_));refine NK ?_;refine ej ?_;refine fY 0 ?_;refine rW (fun _ hj => (hj.hp.below.cell (lv hp)).trans hp) ?_;refine bu (i := 3) (fun ρ1 w1 hj hR => dA bk.out aK.size (show ρ1 6 = Value.slice _ _ _ from hR.1) rfl TX TX) ?_;refine Kx ?_;refine rW (fun _ hj => cH hj.hp.below (((hr.recAt PX.len h0)) 0 _ rfl)) ?_;refine aR ?_;intro f W hJ hV;have hb_1 := hJ.bl;obtain ⟨v9, v8, v7, v6, v5, v4, _⟩ := hV;replace hh := hJ.hp;refine aY (br (ae v9 (ae v8 (ae v7 (ae v6 (ae v5 (ae v4 aX))))))) ?_;dsimp only [cf];clear hJ;exact M9
 ·refine aj (N := 11) (l := [.agg #[.int .i64 f.v, .slice f.A f.n f.c], .pointer (some p)]) Tryz.func160 rfl rfl (by simp) ?_;refine sr ?_;refine cD hh [_,_] ?_;intro b2 w2 hh;refine aB (aa (ah ?_));refine NK ?_;refine ej ?_;refine fY 0 ?_;refine rW (fun _ hj => (hj.hp.below.cell (lv hp)).trans hp) ?_;refine bu (i := 3) (fun ρ1 w1 hj hR => dA bk.out aK.size (show ρ1 6 = Value.slice _ _ _ from hR.1) rfl TX TX) ?_;refine Kx ?_;refine rW (fun _ hj => cH hj.hp.below (((hr.recAt PX.len h0)) 0 _ rfl)) ?_;refine aR ?_;intro f W hJ hV;have hb_1 := hJ.bl;obtain ⟨v9, v8, v7, v6, v5, v4, _⟩ := hV;replace hh := hJ.hp;refine aY (br (ae v9 (ae v8 (ae v7 (ae v6 (ae v5 (ae v4 aX))))))) ?_;dsimp only [cf];clear hJ;exact Oc
theorem Ci (A : Option Addr) (n c : Nat) (l : List PX) (g : FuncId) (cap : List Value) (p : PX → Bool) (w : World) (hS : Sl w A n 2 (az PX.cells l)) (hn : n ≤ 1000000) [al Tryz.prog g]
  (hg : ∀ (z : PX) (w1 : World), z ∈ l → Below w.heap.size w w1 → Calls Tryz.prog g (.agg #[.int .i64 z.v, .slice z.A z.n z.c] :: cap).toArray w1 fun r w' => r = .returned (.bool (p z)) ∧ Below w1.heap.size w1 w') :
  Calls Tryz.prog 204 #[.slice A n c, .func (.func g) #[] cap.toArray] w fun r w' => ∃ v, r = .returned (.int .i64 v) ∧ (0 ≤ v ↔ l.any p = true) ∧ Below w.heap.size w w' := by
 have hh := Hp.start w;have hln := hS.bq PX.len TY;refine aj (N := 19) (l := [.slice A n c, .func (.func g) #[] cap.toArray]) Tryz.func204 rfl rfl (by simp) ?_;refine za ?_;refine aP [4, 5, 8, 9, 10, 11, 12, 13, 14, 15, 16, 17, 18] 8
  (fun v w' => ∃ i : Nat, i ≤ n ∧ v = .int .i64 i ∧ (l.take i).any p = false ∧ Hp w [] w')
  (fun v _ => n - (intOf v).toNat) ?_ ?_
 ·exact ⟨0, T6 _, rfl, rfl, hh⟩
 ·clear hh;rintro ρ' v w' ⟨i, hi, rfl, hall, hh⟩;by_cases hlt : i < n
  ·obtain ⟨z, hz⟩ := ak (l := l) (k := i) TX;obtain ⟨ad, rfl, hr⟩ := hS.at_ TX;have hc := fun w1 => hg z w1 (T7 hz)
   cases gz : p z with
   | true =>
    rw [gz] at hc;refine sr ?_;refine re ?_;refine iH ?_;refine mL (mI ?_);refine cu ?_;refine cw (vs := [_, _]) aK.out rfl ((hr.ext hh.below).recAt PX.len hz) rfl TY ?_;exact O7
   | false =>
    rw [gz] at hc;refine sr ?_;refine re ?_;refine iH ?_;refine mL (mI ?_);refine cu ?_;refine cw (vs := [_, _]) aK.out rfl ((hr.ext hh.below).recAt PX.len hz) rfl TY ?_;exact D8
  ·exact O5
theorem uy (A : Option Addr) (n c : Nat) (l : List PX) (g : FuncId) (cap : List Value) (p : PX → Bool) (w : World) (hS : Sl w A n 2 (az PX.cells l)) (hn : n ≤ 1000000) [al Tryz.prog g]
  (hg : ∀ (z : PX) (w1 : World), z ∈ l → Below w.heap.size w w1 → Calls Tryz.prog g (.agg #[.int .i64 z.v, .slice z.A z.n z.c] :: cap).toArray w1 fun r w' => r = .returned (.bool (p z)) ∧ Below w1.heap.size w1 w') :
  Calls Tryz.prog 154 #[.slice A n c, .func (.func g) #[] cap.toArray] w fun r w' => r = .returned (.bool (l.any p)) ∧ Below w.heap.size w w' := by
 have hh := Hp.start w;refine aj (N := 9) (l := [.slice A n c, .func (.func g) #[] cap.toArray]) Tryz.func154 rfl rfl (by simp) ?_;refine sr (aB (aa (sr (mL ?_))));refine iH ?_;refine aF (Ci A n c l g cap p _ (hS.ext hh.below) hn hg) al.out rfl TY ?_;exact OC
theorem qX (L : Option Addr) (n c : Nat) (ps : List PX) (k : Nat) (w : World) (hT : eh w) (hL : Sl w L n 2 (az PX.cells ps)) (hn : n ≤ 1000000) (hf : ∀ g ∈ ps, g.at_ w) (hl : ∀ g ∈ ps, g.l9 k) :
  Calls Tryz.prog 74 #[.slice L n c] w fun r w' => r = .returned (.int .i64 (eY ps)) ∧ Below w.heap.size w w' := by
 have hh := Hp.start w;have hln := hL.bq PX.len TY;refine aj (N := 26) (l := [.slice L n c]) Tryz.func74 rfl rfl (by simp) ?_;refine sr ?_;refine cD hh [_] ?_;intro b1 w1 hh;refine aI (aa (ah (sr ?_)));refine bG hh 0 ?_;refine aJ (mI (aa (aq ?_)));refine aP [2, 4, 5, 8, 9, 10, 11, 12, 13, 14, 15, 16, 17] 8
  (fun v w' => ∃ i : Nat, i ≤ n ∧ v = .int .i64 i ∧ (ps.take i).any (fun g => decide (g.e ≠ 0)) = false ∧ Hp w [.blk b1 104 [.slice L n c] (0, 0)] w')
  (fun v _ => n - (intOf v).toNat) ?_ ?_
 ·exact ⟨0, T6 _, rfl, rfl, hh⟩
 ·clear hh;rintro ρ' v w' ⟨i, hi, rfl, hall, hh⟩;by_cases hlt : i < n
  ·obtain ⟨g, hx⟩ := ak (l := ps) (k := i) TX;have hmem := T7 hx;have hc := fun w1 hT1 hb => mO g k w1 hT1 ((hf g hmem).ext hb) (hl g hmem);obtain ⟨ad, rfl, hr⟩ := hL.at_ TX;by_cases he : g.e = 0
   ·refine sr ?_;refine dO ?_;refine cu ?_;refine Km ?_;refine bV hh ?_;intro b4 w4 hh;refine bW hh 0 [_,_] ?_;intro ws hh;replace hh : Hp _ (.blk _ _ [_, _] _ :: _) _ := hh;refine aa (sr ?_);refine cG hh 0 [_,_] ?_;refine bD hh (hc _ (hT.hp hh) hh.below) rfl ?_;intro w13 hh;refine aI (aa (sr (mI ?_)));refine dn (aa (cF (ar (bE (ai (ao ?_))))));refine bj (mI (aA (ai ?_)));replace hh := hh.sub (T8 _ (T4 _ UA));refine ⟨⟨i + 1, TX, rfl, by rw [ay hx, WO, hall, WQ, W6, UB TX]; rfl, hh⟩, by show n - (i + 1) < n - i; omega, ?_⟩;exact dQ
   ·refine sr ?_;refine dO ?_;refine cu ?_;refine Km ?_;refine bV hh ?_;intro b4 w4 hh;refine bW hh 0 [_,_] ?_;intro ws hh;replace hh : Hp _ (.blk _ _ [_, _] _ :: _) _ := hh;refine aa (sr ?_);refine cG hh 0 [_,_] ?_;refine bD hh (hc _ (hT.hp hh) hh.below) rfl ?_;intro w13 hh;refine aI (aa (sr (mI ?_)));refine dn (aa (cT (sr (mI (aI (aa (au (cd (aG (aG (cd (aG ?_))))))))))));refine cZ ?_;refine ⟨?_, hh.below⟩;unfold eY;rw [vA hall hx (Um he)]
  ·rw [T9 TX] at hall;have hlk : eY ps = if ps.length = 0 ∨ vr ps = true then 1 else 0 := by unfold eY; rw [iS hall]
   rw [hlk];by_cases h0 : n = 0
   ·refine sr ?_;refine Iw ?_;refine bG hh 0 ?_;refine aJ ?_;refine db (mB ?_);refine gS (gS ?_);refine ju ?_;refine fL ?_;refine AR ?_;refine cZ ?_;exact ⟨by rw [T2 (.inl TX)], hh.below⟩
   ·have hcell : w'.cell? ⟨b1, 0, none⟩ = some (.slice L n c) := hh.dZ (i := 0) rfl rfl;have ho := fun w1 hb => uy L n c ps 160 [.pointer (some ⟨b1, 0, none⟩)] (fun g => decide (g.v ≠ (ps.map PX.v).headD 0)) w1 (hL.ext (hh.below.trans (hb.mono hh.below.size))) hn (fun z w2 hz hb2 => CR L n c ps z ⟨b1, 0, none⟩ w2 ((hL.ext (hh.below.trans (hb.mono hh.below.size))).ext hb2) (cH hb2 (cH hb hcell)) TX)
    cases hod : vr ps with
    | true =>
     have hod2 : ps.any (fun g => decide (g.v ≠ (ps.map PX.v).headD 0)) = true := hod;rw [hod2] at ho;refine sr ?_;refine Iw ?_;refine bG hh 0 ?_;refine aJ ?_;refine db (mB (gT ?_));refine bG hh 0 ?_;refine gT ?_;refine vy ?_;refine aH rfl rfl ?_;refine bD hh (ho _ (Below.refl _ _)) rfl ?_;intro w24 hh;refine e7 ?_;refine AR ?_;refine cZ ?_;exact ⟨by rw [T2 (.inr rfl)], hh.below⟩
    | false =>
     have hod2 : ps.any (fun g => decide (g.v ≠ (ps.map PX.v).headD 0)) = false := hod;rw [hod2] at ho;refine sr ?_;refine Iw ?_;refine bG hh 0 ?_;refine aJ ?_;refine db (mB (gT ?_));refine bG hh 0 ?_;refine gT ?_;refine vy ?_;refine aH rfl rfl ?_;refine bD hh (ho _ (Below.refl _ _)) rfl ?_;intro w24 hh;refine e7 ?_;refine E2 ?_;refine cZ ?_;refine ⟨?_, hh.below⟩;rw [T3];rintro (h | h)
     ·omega
     ·cases h
set_option maxRecDepth 100000 in
theorem B0 {H : Type} {enc : TypeId × Value → H} {x : DataW H × List MemPlace} (h : DataW.trod enc Tryz.prog W base sp held fuel 96 cs = some x) :
  ∃ t : TR, cs = t.cells ∧ True := by
 have c0 : Tryz.prog.cellsOf 96 = 4 := by kernel_rfl
 have c1 : Tryz.prog.cellsOf 9 = 1 := by kernel_rfl
 have c2 : Tryz.prog.cellsOf 65 = 3 := by kernel_rfl
 obtain ⟨y0, y1, n, _, hl, h0, h1⟩ := trod_struct2 Tryz.underlying96 h;obtain ⟨s, e0, _, _⟩ := DataW.trod_string Tryz.underlying9 h0;obtain ⟨a, e1, _⟩ := qD h1;rw [c0] at hl
 match cs, hl with
 | [x0, x1, x2, x3], _ =>
  simp only [c1, c2] at e0 e1;unfold NR.cells at e1;simp at e0 e1;obtain ⟨e1, e2, e3⟩ := e1;subst e0 e1 e2 e3;exact ⟨⟨s, a⟩, rfl, trivial⟩
set_option maxRecDepth 100000 in
theorem BU {H : Type} {enc : TypeId × Value → H} {x : DataW H × List MemPlace} (h : DataW.trod enc Tryz.prog W base sp held fuel 24 cs = some x) :
  ∃ g : PX, cs = g.cells ∧ (g.at_ W ∧ g.n ≤ g.c) := by
 have c0 : Tryz.prog.cellsOf 24 = 2 := by kernel_rfl
 have c1 : Tryz.prog.cellsOf 3 = 1 := by kernel_rfl
 have c2 : Tryz.prog.cellsOf 22 = 1 := by kernel_rfl
 obtain ⟨y0, y1, n, _, hl, h0, h1⟩ := trod_struct2 Tryz.underlying24 h;obtain ⟨z, e0, _, _⟩ := DataW.trod_int Tryz.underlying3 h0;obtain ⟨B, m, b, k, e1, s1, _⟩ := Ck TR.len TY Tryz.underlying22 TZ (fun _ _ _ h => B0 h) h1;rw [e1] at h1;have hroom := FM Tryz.underlying22 h1;rw [c0] at hl
 match cs, hl with
 | [x0, x1], _ =>
  simp only [c1, c2] at e0 e1;simp at e0 e1;subst e0 e1;exact ⟨⟨z, B, m, b, k⟩, rfl, s1, hroom⟩
set_option maxRecDepth 100000 in
theorem Gp {H : Type} {enc : TypeId × Value → H} {r : Reach} {v : Value} {d : DataW H} {ps : List MemPlace}
  (hval : Value.okWide Tryz.prog W r b0 24 v) (hd : DataW.Trod enc Tryz.prog W base sp held 24 v d ps) : ∃ g : PX, v = .agg #[.int .i64 g.v, .slice g.A g.n g.c] ∧ g.at_ W ∧ g.n ≤ g.c := by
 obtain ⟨cs, rfl, _⟩ := okWide_struct Tryz.underlying24 hval;obtain ⟨fuel, hf⟩ := hd;obtain ⟨f, h1, h2⟩ := BU hf;refine ⟨f, ?_, h2⟩;have h3 : cs.toList = f.cells := h1;rw [← Array.toList_inj.1 (show cs.toList = (#[.int .i64 f.v, .slice f.A f.n f.c] : Array Value).toList from h3)]
structure SR where
 lo : NR
 hi : NR
def SR.cells (s : SR) : List Value := [.bool s.lo.neg, .string s.lo.bz, .int .i64 s.lo.e, .bool s.hi.neg, .string s.hi.bz, .int .i64 s.hi.e]
theorem SR.len (s : SR) : (SR.cells s).length = 6 := rfl
def OA (x y : Dyadic) : Dyadic := if y < x then y else x
def Pf (x y : Dyadic) : Dyadic := if x < y then y else x
theorem Ju (x y : Dyadic) : iD (fun x y => decide (x < y)) [x, y] = OA x y := by simp [iD, OA]
theorem JK (x y : Dyadic) : iD (fun x y => decide (y < x)) [x, y] = Pf x y := by simp [iD, Pf]
def SR.L (s : SR) : Dyadic := OA s.lo.d s.hi.d
def SR.H (s : SR) : Dyadic := Pf s.lo.d s.hi.d
def SR.f (s : SR) : SR := ⟨nR s.L, nR s.H⟩
def SR.ok (s : SR) : Prop := s.lo.ok ∧ s.hi.ok
def SR.has (s : SR) (x : Dyadic) : Bool := decide (¬ x < s.L ∧ ¬ s.H < x)
def SR.wid (s : SR) : Dyadic := s.H - s.L
def SR.Ty (s : SR) : Dyadic := (s.lo.d + s.hi.d) * pd (-1)
theorem OQ (x y : Dyadic) : OA x y = x ∨ OA x y = y := by unfold OA; split <;> simp
theorem PE (x y : Dyadic) : Pf x y = x ∨ Pf x y = y := by unfold Pf; split <;> simp
structure QX (k : Nat) (a : NR) : Prop where
 ok : a.ok
 sz : Sz k a.d
def SR.fin (k : Nat) (s : SR) : Prop := QX k s.lo ∧ QX k s.hi
theorem SR.KN {s : SR} (h : s.fin k) : Sz k s.L := by
 unfold SR.L
 rcases OQ s.lo.d s.hi.d with e | e <;> rw [e]
 ·exact h.1.sz
 ·exact h.2.sz
theorem SR.Qj {s : SR} (h : s.fin k) : Sz k s.H := by
 unfold SR.H
 rcases PE s.lo.d s.hi.d with e | e <;> rw [e]
 ·exact h.1.sz
 ·exact h.2.sz
theorem CI (L : Option Addr) (n c : Nat) (l : List NR) (w : World) (hT : eh w) (hS : Sl w L n 3 (az NR.cells l)) (hl : ∀ a ∈ l, a.ok) (hn : n ≤ 1000000) :
  Calls Tryz.prog 236 #[.slice L n c] w fun r w' => r = .returned (.agg (SR.cells ⟨nR (iD (fun x y => decide (x < y)) (l.map NR.d)), nR (iD (fun x y => decide (y < x)) (l.map NR.d))⟩).toArray) ∧ Below w.heap.size w w' := by
 have hh := Hp.start w;refine aj (N := 8) (l := [.slice L n c]) Tryz.func236 rfl rfl (by simp) ?_;refine sr ?_;refine bV hh ?_;intro b2 w2 hh;refine aa (sr (mL ?_));refine bD hh (BQ L n c l _ (hT.hp hh) (hS.ext hh.below) hl hn) rfl ?_;intro w4 hh;refine mL ?_;refine bD hh (BZ L n c l _ (hT.hp hh) (hS.ext hh.below) hl hn) rfl ?_;intro w6 hh;refine gB [_,_,_,_,_,_] ?_;exact R3
theorem B9 (s : SR) (w : World) (hT : eh w) (hs : s.ok) :
  Calls Tryz.prog 203 #[.agg s.cells.toArray] w fun r w' => r = .returned (.agg s.f.cells.toArray) ∧ Below w.heap.size w w' := by
 have hh := Hp.start w;have hc := fun L c w1 hT1 hS1 => CI L 2 c [s.lo, s.hi] w1 hT1 hS1 (by simpa using show s.lo.ok ∧ s.hi.ok from hs) TX;simp only [Ut, UR, Ju, JK] at hc;refine aj (N := 10) (l := [.agg s.cells.toArray]) Tryz.func203 rfl rfl (by simp) ?_;refine sr ?_;refine cD hh [_,_,_,_,_,_] ?_;intro b1 w1 hh;refine bV hh ?_;intro b2 w2 hh;refine aa (sr (bH ?_));refine cG hh 1 [_,_,_] (bH ?_);refine cG hh 1 [_,_,_] ?_;refine s9 ?_;intro b7 w7 hh;refine bD hh (hc _ _ _ (hT.hp hh) (hh.aC (i := 0) rfl)) rfl ?_;intro w8 hh;refine gB [_,_,_,_,_,_] ?_;refine bW hh 1 [_,_,_,_,_,_] ?_;intro ws hh;replace hh : Hp _ (_ :: .blk _ _ [_, _, _, _, _, _] _ :: _) _ := hh;refine aa (au ?_);refine KT (eO rfl (eN (vs := [_, _, _, _, _, _]) aK.out (hh.ck (i := 1) (n := 6) rfl rfl) rfl) gm) ?_;exact ⟨rfl, hh.below⟩
theorem xi (s : SR) (w : World) (hT : eh w) (hs : s.ok) :
  Calls Tryz.prog 171 #[.agg s.cells.toArray] w fun r w' => r = .returned (.agg s.f.cells.toArray) ∧ Below w.heap.size w w' := by
 have hh := Hp.start w;refine aj (N := 6) (l := [.agg s.cells.toArray]) Tryz.func171 rfl rfl (by simp) ?_;refine sr ?_;refine cD hh [_,_,_,_,_,_] ?_;intro b1 w1 hh;refine bV hh ?_;intro b2 w2 hh;refine aa (sr ?_);refine cG hh 1 [_,_,_,_,_,_] ?_;refine bD hh (B9 s _ (hT.hp hh) hs) rfl ?_;intro w4 hh;refine Mz eR.out aK.out rfl rfl TY ?_;exact R3
set_option maxRecDepth 100000 in
theorem B7 {H : Type} {enc : TypeId × Value → H} {x : DataW H × List MemPlace} (h : DataW.trod enc Tryz.prog W base sp held fuel 81 cs = some x) :
  ∃ a : SR, cs = a.cells ∧ True := by
 have c0 : Tryz.prog.cellsOf 81 = 6 := by kernel_rfl
 have c1 : Tryz.prog.cellsOf 65 = 3 := by kernel_rfl
 obtain ⟨y0, y1, n, _, hl, h0, h1⟩ := trod_struct2 Tryz.underlying81 h;obtain ⟨a, e0, _⟩ := qD h0;obtain ⟨b, e1, _⟩ := qD h1;rw [c0] at hl
 match cs, hl with
 | [x0, x1, x2, x3, x4, x5], _ =>
  simp only [c1] at e0 e1;simp [NR.cells] at e0 e1;obtain ⟨rfl, rfl, rfl⟩ := e0;obtain ⟨rfl, rfl, rfl⟩ := e1;exact ⟨⟨a, b⟩, rfl, trivial⟩
set_option maxRecDepth 100000 in
theorem Jq {H : Type} {enc : TypeId × Value → H} {r : Reach} {v : Value} {d : DataW H} {ps : List MemPlace}
  (hval : Value.okWide Tryz.prog W r b0 34 v) (hd : DataW.Trod enc Tryz.prog W base sp held 34 v d ps) : ∃ (A : Option Addr) (n c : Nat) (l : List SR), v = .slice A n c ∧ Sl W A n 6 (az SR.cells l) ∧ ∀ a ∈ l, True :=
 F7 SR.len TY Tryz.underlying34 TZ (fun _ _ _ h => B7 h) hval hd
def sm {α : Type} : List α → (α → Dyadic) → Dyadic
 | [], _ => 0
 | a :: l, f => f a + sm l f
section
variable {α β : Type}
theorem ld (l m : List α) (f : α → Dyadic) : sm (l ++ m) f = sm l f + sm m f := by
 induction l with
 | nil => simp [sm, Wk]
 | cons a l ih => simp only [Ud, sm, ih]; grind
theorem jz (l : List α) (a : α) (f : α → Dyadic) : sm (l ++ [a]) f = sm l f + f a := by
 rw [ld]; simp only [sm]; grind
theorem bo {l : List α} {f g : α → Dyadic} (h : ∀ a ∈ l, f a = g a) : sm l f = sm l g := by
 induction l with
 | nil => rfl
 | cons a l ih => rw [sm, sm, h a Uc, ih fun b hb => h b (Uf _ hb)]
theorem jA {l : List α} {f : α → Dyadic} (h : ∀ a ∈ l, f a = 0) : sm l f = 0 := by
 induction l with
 | nil => rfl
 | cons a l ih => rw [sm, h a Uc, ih fun b hb => h b (Uf _ hb)]; grind
theorem ti (l : List α) (f g : α → Dyadic) : sm l (fun a => f a + g a) = sm l f + sm l g := by
 induction l with
 | nil => simp [sm]
 | cons a l ih => simp only [sm, ih]; grind
theorem kF (l : List α) (f : α → Dyadic) (c : Dyadic) : sm l (fun a => f a * c) = sm l f * c := by
 induction l with
 | nil => simp only [sm]; grind
 | cons a l ih => simp only [sm, ih]; grind
theorem iu (l : List α) (f : α → Dyadic) (c : Dyadic) : sm l (fun a => c * f a) = c * sm l f := by
 induction l with
 | nil => simp only [sm]; grind
 | cons a l ih => simp only [sm, ih]; grind
theorem jt (l : List α) (g : α → β) (f : β → Dyadic) : sm (l.map g) f = sm l fun a => f (g a) := by
 induction l with
 | nil => rfl
 | cons a l ih => rw [Ut, sm, sm, ih]
theorem oM (l : List α) (m : List β) (f : α → β → Dyadic) : sm l (fun a => sm m (f a)) = sm m fun b => sm l fun a => f a b := by
 induction l with
 | nil => exact (jA fun b _ => rfl).symm
 | cons a l ih => simp only [sm]; rw [ih, ← ti]
theorem wW (l : List α) (p : α → Bool) (f : α → Dyadic) (h : ∀ a ∈ l, p a = false → f a = 0) : sm (l.filter p) f = sm l f := by
 induction l with
 | nil => rfl
 | cons a l ih =>
  rw [sm, ← ih fun b hb => h b (Uf _ hb)]
  cases hp : p a with
  | true => rw [Xw hp, sm]
  | false => rw [Xb (by rw [hp]; exact Bool.false_ne_true), h a Uc hp]; grind
theorem pz (n p : Nat) (c : Dyadic) : sm (List.range n) (fun q => if q = p then c else 0) = if p < n then c else 0 := by
 induction n with
 | zero => rw [T3 TX]; rfl
 | succ n ih =>
  rw [Wh, jz, ih]
  rcases Nat.lt_trichotomy p n with h | h | h
  ·rw [T2 h, T3 (show ¬ n = p by omega), T2 (show p < n + 1 by omega)]; grind
  ·rw [T3 (show ¬ p < n by omega), T2 h.symm, T2 (show p < n + 1 by omega)]; grind
  ·rw [T3 (show ¬ p < n by omega), T3 (show ¬ n = p by omega), T3 (show ¬ p < n + 1 by omega)]; grind
end
def nu (N : Nat) (L : List (Nat × Dyadic)) : List Dyadic := (List.range N).map fun p => sm L fun q => if q.1 = p then q.2 else 0
theorem k9 (N : Nat) (L : List (Nat × Dyadic)) : (nu N L).length = N := by simp [nu]
theorem uE (N : Nat) : nu N [] = List.replicate N 0 := by
 refine List.ext_getElem (by simp [nu]) fun i h1 h2 => ?_;simp [nu, sm]
theorem m8 {p : Nat} (L : List (Nat × Dyadic)) (h : p < N) : (nu N L)[p]? = some (sm L fun q => if q.1 = p then q.2 else 0) := by
 unfold nu;rw [Ue, UY h]
 rfl
theorem Fz {p : Nat} {L : List (Nat × Dyadic)} {x v : Dyadic} (h : (nu N L)[p]? = some x) : (nu N L).set p (x + v) = nu N (L ++ [(p, v)]) := by
 have hp : p < N := by have := (Uk.1 h).1; rwa [k9] at this
 rw [m8 L hp] at h;refine Ve fun i => ?_;rw [VH];by_cases hi : p = i
 ·subst hi;rw [T2 rfl, k9, T2 hp, m8 _ hp, jz, ← UN h, T2 rfl]
 ·rw [T3 hi];by_cases hin : i < N
  ·rw [m8 _ hin, m8 _ hin, jz, T3 hi];congr 1;grind
  ·rw [Uy (by rw [k9]; omega), Uy (by rw [k9]; omega)]
theorem zi {l : List α} {f : α → Dyadic} (h : ∀ a ∈ l, Sz k (f a)) : Sz (k + l.length) (sm l f) := by
 induction l with
 | nil => exact Sz.zero _
 | cons a l ih =>
  have h1 := ih fun b hb => h b (Uf _ hb);have h2 := ((h a Uc).mono (show k ≤ k + l.length by omega)).add h1;rw [sm, Uq];exact h2.mono TX
theorem LF {L : List (Nat × Dyadic)} (h : ∀ a ∈ L, Sz k a.2) : ∀ x ∈ nu N L, Sz (k + L.length) x := fun x hx => by
 obtain ⟨p, _, rfl⟩ := Ui.1 hx;refine zi fun a ha => ?_;split
 ·exact h a ha
 ·exact Sz.zero _
def av : List Nat → Nat
 | [] => 1
 | d :: ds => (d + 1) * av ds
def cL : List Nat → Nat → List Nat
 | [], _ => []
 | d :: ds, p => p % (d + 1) :: cL ds (p / (d + 1))
def il : List Nat → List Nat → Nat
 | d :: ds, r :: rs => r + (d + 1) * il ds rs
 | _, _ => 0
def ll : List Nat → List Nat → Prop
 | [], [] => True
 | d :: ds, r :: rs => r ≤ d ∧ ll ds rs
 | _, _ => False
theorem cS (ds : List Nat) : 0 < av ds := by
 induction ds with
 | nil => exact Nat.one_pos
 | cons d ds ih => exact Nat.mul_pos TX ih
theorem uk : ∀ (ds : List Nat) (p : Nat), (cL ds p).length = ds.length
 | [], _ => rfl
 | d :: ds, p => by rw [cL, Uq, uk ds, Uq]
theorem nk : ∀ (ds : List Nat) (p : Nat), ll ds (cL ds p)
 | [], _ => trivial
 | d :: ds, p => ⟨by have := Uw p (show 0 < d + 1 by omega); omega, nk ds _⟩
theorem z5 : ∀ {ds : List Nat} {p : Nat}, p < av ds → il ds (cL ds p) = p
 | [], p, h => by
  have : p < 1 := h;show 0 = p;omega
 | d :: ds, p, h => by
  have h1 : p / (d + 1) < av ds := by rw [Vr TX, UC]; exact h
  rw [cL, il, z5 h1, WH]
theorem mR : ∀ {ds rs : List Nat}, ll ds rs → il ds rs < av ds
 | [], [], _ => Nat.one_pos
 | d :: ds, r :: rs, h => by
  have h1 := mR h.2;have h2 := h.1;rw [il, av];have h3 : (d + 1) * il ds rs + (d + 1) ≤ (d + 1) * av ds := by
   have := Uz (d + 1) (show il ds rs + 1 ≤ av ds by omega);rw [US, Uo] at this;exact this
  omega
theorem iC : ∀ {ds rs : List Nat}, ll ds rs → cL ds (il ds rs) = rs
 | [], [], _ => rfl
 | d :: ds, r :: rs, h => by
  have h2 := h.1;rw [il, cL, VW, UG TX, Vk _ _ TX, U1 TX, Uv, iC h.2]
theorem xF (d : Nat) (ds : List Nat) (f : Nat → Dyadic) : sm (List.range (av (d :: ds))) f = sm (List.range (av ds)) fun q => sm (List.range (d + 1)) fun r => f (r + (d + 1) * q) := by
 have key : ∀ n, sm (List.range ((d + 1) * n)) f = sm (List.range n) fun q => sm (List.range (d + 1)) fun r => f (r + (d + 1) * q) := fun n => by
  induction n with
  | zero => rfl
  | succ n ih =>
   rw [Wh, jz, ← ih, VM, List.range_add, ld, jt];congr 1;exact bo fun a _ => by rw [VU]
 exact key _
variable {ls : List Int}
def lh (d : Int) : List Int := (List.range (d.toNat + 1)).map fun (k : Nat) => (k : Int)
def eQ : List Int → List (List Int)
 | [] => [[]]
 | d :: ds => (lh d).flatMap fun k => (eQ ds).map (k :: ·)
def fO (n : Nat) : List Int := List.replicate n 0
def qR : List Int → List Int → Option (List Int)
 | d :: ds, k :: l => match qR ds l with
  | some l' => some (k :: l')
  | none => if k < d then some ((k + 1) :: fO l.length) else none
 | _, _ => none
def np {α : Type} (f : α → Option α) : α → List α → Prop
 | a, [b] => b = a ∧ f a = none
 | a, b :: L => b = a ∧ ∃ c, f a = some c ∧ np f c L
 | _, [] => False
theorem G3 {f : α → Option α} {a : α} (h : f a = none) : np f a [a] := ⟨rfl, h⟩
theorem na {f : α → Option α} {a c : α} {L : List α} (h : f a = some c) (hL : np f c L) : np f a (a :: L) := by
 cases L with
 | nil => exact hL.elim
 | cons b L => exact ⟨rfl, c, h, hL⟩
theorem vI {f : α → Option α} {a : α} {L : List α} (h : np f a L) : (L = [a] ∧ f a = none) ∨ ∃ c L', L = a :: L' ∧ f a = some c ∧ np f c L' := by
 match L, h with
 | [b], h => exact .inl ⟨by rw [h.1], h.2⟩
 | b :: c :: L, h => obtain ⟨h1, x, h2, h3⟩ := h; exact .inr ⟨x, c :: L, by rw [h1], h2, h3⟩
theorem AF {α β : Type} {f : α → Option α} {g : β → Option β} {e : α → β} {b : List β} {z : Option β} (hs : ∀ a c, f a = some c → g (e a) = some (e c)) (hn : ∀ a, f a = none → g (e a) = z)
  (hz : match z with | some c => np g c b | none => b = []) : ∀ (L : List α) (a : α), np f a L → np g (e a) (L.map e ++ b)
 | [c], a, h => by
  obtain ⟨h1, h2⟩ := h;subst h1
  cases z with
  | none => simp only at hz; subst hz; exact G3 (hn _ h2)
  | some x => exact na (hn _ h2) hz
 | c :: d :: L, a, h => by
  obtain ⟨h1, x, h2, h3⟩ := h;subst h1;exact na (hs _ _ h2) (AF hs hn hz (d :: L) x h3)
theorem Hl (a : Int) : ∀ n : Nat, ((List.range (n + 1)).map fun (k : Nat) => a + (k : Int)) = a :: ((List.range n).map fun (k : Nat) => (a + 1) + (k : Int))
 | n => by
  rw [List.range_succ_eq_map, Ut, U5];congr 1
  ·simp
  ·apply V7;intro k _;simp only [Function.comp];omega
theorem yM {ds : List Int} {k d : Int} {R : List (List Int)} (hk : k < d) (ih : np (qR (d :: ds)) ((k + 1) :: fO ds.length) R) : ∀ (L' : List (List Int)) (a : List Int), (∀ l ∈ L', l.length = ds.length) → np (qR ds) a L' → np (qR (d :: ds)) (k :: a) (L'.map (k :: ·) ++ R)
 | [c], a, hl, h => by
  obtain ⟨h1, h2⟩ := h;subst h1;refine na (c := (k + 1) :: fO ds.length) ?_ ih;have : c.length = ds.length := hl c (by simp);simp [qR, h2, this, hk]
 | c :: e :: L', a, hl, h => by
  obtain ⟨h1, x, h2, h3⟩ := h;subst h1;exact na (c := k :: x) (by simp [qR, h2]) (yM hk ih (e :: L') x (fun l hm => hl l (Uf _ hm)) h3)
theorem wQ {ds : List Int} (L : List (List Int)) (hL : np (qR ds) (fO ds.length) L) (hlen : ∀ l ∈ L, l.length = ds.length) (d : Int) : ∀ (n : Nat) (k : Int), k + n = d →
  np (qR (d :: ds)) (k :: fO ds.length) (((List.range (n + 1)).map fun (j : Nat) => k + (j : Int)).flatMap fun k => L.map (k :: ·))
 | 0, k, hk => by
  have hk' : k = d := TX;subst hk';have := AF (g := qR (k :: ds)) (e := fun l => k :: l) (b := []) (z := none) (fun a c h => by simp [qR, h]) (fun a h => by simp [qR, h]) rfl L _ hL;simpa using this
 | n + 1, k, hk => by
  rw [Hl, WE];have ih := wQ L hL hlen d n (k + 1) TX;exact yM TX ih L _ hlen hL
theorem lV : ∀ (ds : List Int) (l : List Int), l ∈ eQ ds → l.length = ds.length
 | [], l, h => by simp [eQ] at h; simp [h]
 | d :: ds, l, h => by
  simp only [eQ, VY, Ui] at h;obtain ⟨k, _, l', h2, rfl⟩ := h;simp [lV ds l' h2]
theorem zA : ∀ ds : List Int, (∀ d ∈ ds, 0 ≤ d) → np (qR ds) (fO ds.length) (eQ ds)
 | [], _ => ⟨rfl, rfl⟩
 | d :: ds, h => by
  have h0 := h d Uc;have := wQ (eQ ds) (zA ds fun x hx => h x (Uf _ hx)) (lV ds) d d.toNat 0 TX;simpa [eQ, lh, fO, V9] using this
theorem qd (d : Int) : ∀ ds : List Int, eQ (ds ++ [d]) = (eQ ds).flatMap fun p => (lh d).map fun k => p ++ [k]
 | [] => by simp only [Ub, eQ, WE, List.flatMap_nil, UF, Ut, UR]; induction lh d with
  | nil => rfl
  | cons a l ih => simp [ih]
 | e :: ds => by
  simp only [Ud, eQ, qd d ds, List.map_flatMap, List.flatMap_assoc, List.flatMap_map, U5, Function.comp_def]
theorem rD : ∀ (ds : List Int), (∀ d ∈ ds, 0 ≤ d ∧ d ≤ 127) → ∀ l ∈ eQ ds, l.all cz = true
 | [], _, l, h => by simp [eQ] at h; simp [h]
 | d :: ds, hd, l, h => by
  simp only [eQ, lh, VY, Ui, UT] at h;obtain ⟨_, ⟨k, hk, rfl⟩, l', h2, rfl⟩ := h;have := hd d Uc;rw [List.all_cons, rD ds (fun x hx => hd x (Uf _ hx)) l' h2];simp [cz]; omega
theorem rf (d : Int) : (lh d).length = d.toNat + 1 := by simp [lh]
theorem qh (d : Int) (ds : List Int) : (eQ (ds ++ [d])).length = (eQ ds).length * (d.toNat + 1) := by
 rw [qd, List.length_flatMap];simp only [Ug, rf]
 induction eQ ds with
 | nil => simp
 | cons a l ih => simp [ih, VV]; omega
def yt : Int → List Int → Bool
 | _, [] => true
 | n, d :: ds => decide (0 ≤ d) && (decide (d ≤ 127) && (decide (n * (d + 1) ≤ 65536) && yt (n * (d + 1)) ds))
def fX (l : List Int) : ByteArray := str (l.map xx)
def xB (ds : List Int) : List ByteArray := if yt 1 ds then (eQ ds).map fX else []
theorem AP : ∀ ds : List Int, 0 < (eQ ds).length
 | [] => by simp [eQ]
 | d :: ds => by
  simp only [eQ, lh, List.length_flatMap];rw [List.range_succ_eq_map];have := AP ds;simp; omega
theorem G7 : ∀ (ds : List Int) (n : Int), yt n ds = true → ∀ d ∈ ds, 0 ≤ d ∧ d ≤ 127
 | [], _, _, d, h => by simp at h
 | e :: ds, n, h, d, hd => by
  simp only [yt, Uj, Up] at h
  rcases Ul.1 hd with rfl | hd
  ·exact ⟨h.1, h.2.1⟩
  ·exact G7 ds _ h.2.2.2 d hd
theorem Hd {ds : List Int} {d n : Int} (hk : ds[k]? = some d) (h : yt 1 ds = yt n (ds.drop k)) (hb : (0 ≤ d ∧ d ≤ 127) ∧ n * (d + 1) ≤ 65536) :
  yt 1 ds = yt (n * (d + 1)) (ds.drop (k + 1)) := by
 obtain ⟨hlt, he⟩ := Uk.1 hk;rw [h, Vj hlt, he];simp [yt, hb.1.1, hb.1.2, hb.2]
theorem zY {ds : List Int} {d n : Int} (hk : ds[k]? = some d) (h : yt 1 ds = yt n (ds.drop k)) (hb : ¬ ((0 ≤ d ∧ d ≤ 127) ∧ n * (d + 1) ≤ 65536)) : yt 1 ds = false := by
 obtain ⟨hlt, he⟩ := Uk.1 hk;rw [h, Vj hlt, he];simp only [yt, Xu, Xe]
 rcases Classical.em (0 ≤ d) with h1 | h1 <;> rcases Classical.em (d ≤ 127) with h2 | h2
 ·exact .inr (.inr (.inl TX))
 ·exact .inr (.inl h2)
 ·exact .inl h1
 ·exact .inl h1
theorem kM {ds : List Int} {d : Int} (hk : ds[k]? = some d) (h0 : 0 ≤ d) : ((eQ (ds.take (k + 1))).length : Int) = (eQ (ds.take k)).length * (d + 1) := by
 rw [ay hk, qh, Vm];congr 1;omega
def gX (d : Int) (s : ByteArray) : List ByteArray := (lh d).map fun q => s ++ str [xx q]
theorem Ir (d k : Int) : ∀ (ps es : List Int) (ds ls : List Int), ps.length = es.length → qR ds ls = none → qR (es ++ d :: ds) (ps ++ k :: ls) = if k < d then some (ps ++ (k + 1) :: fO ls.length) else qR (es ++ d :: ds) (ps ++ k :: ls)
 | [], [], ds, ls, _, h => by
  simp only [Ub, qR, h];split <;> rfl
 | p :: ps, e :: es, ds, ls, hl, h => by
  have ih := Ir d k ps es ds ls (by simpa using hl) h;split
  ·rename_i hk;rw [T2 hk] at ih;simp only [Ud, qR, ih]
  ·rfl
 | [], _ :: _, _, _, hl, _ => by simp at hl
 | _ :: _, [], _, _, hl, _ => by simp at hl
theorem I2 {d k : Int} {ds : List Int} (h : qR ds ls = none) (hk : ¬ k < d) : qR (d :: ds) (k :: ls) = none := by
 simp [qR, h, hk]
theorem Hp.swap {x y : HE} {H : List HE} (h : Hp w0 (x :: y :: H) w) : Hp w0 (y :: x :: H) w := h.perm (.swap y x H)
def nt (ls : List Int) (k n : Nat) : List Int := ls.take k ++ fO (n - k)
theorem JM (h : ls.length = n) : nt ls n n = ls := by
 unfold nt; rw [T9 TX, UW]; simp [fO]
theorem Ld (h : ls.length = n) (hk : k ≤ n) : (nt ls k n).length = n := by
 simp [nt, fO]; omega
theorem Pa {x : Int} (hx : ls[k]? = some x) : (nt ls (k + 1) n)[k]? = some x := by
 have hlt := (Uk.1 hx).1;unfold nt;rw [Wi (by simp; omega), VG];simp [hx]
theorem Fj (y : Int) (h : ls.length = n) (hk : k < n) : cq (bJ (nt ls (k + 1) n)) k [.int .i64 y] = bJ (ls.take k ++ y :: fO (n - (k + 1))) := by
 have e1 : (nt ls (k + 1) n).take k = ls.take k := by
  unfold nt;rw [Xs (by simp; omega), List.take_take];congr 1; omega
 have e2 : (nt ls (k + 1) n).drop (k + 1) = fO (n - (k + 1)) := by
  unfold nt;have hl : (ls.take (k + 1)).length = k + 1 := by simp; omega
  rw [List.drop_append, hl, Vz TX];simp
 simp only [cq, bJ, ← WM, ← Wv, Uq, W4, Uv, e1, e2];simp
theorem JH (hk : k < n) : ls.take k ++ 0 :: fO (n - (k + 1)) = nt ls k n := by
 unfold nt fO;rw [show n - k = (n - (k + 1)) + 1 by omega, V9]
theorem HD {ds : List Int} {d x : Int} (hd : ds.length = n) (hl : ls.length = n) (hdk : ds[k]? = some d) (hlk : ls[k]? = some x) (h : qR (ds.drop (k + 1)) (ls.drop (k + 1)) = none) (hx : x < d) :
  qR ds ls = some (ls.take k ++ (x + 1) :: fO (n - (k + 1))) := by
 obtain ⟨h1, h2⟩ := Uk.1 hdk;obtain ⟨h3, h4⟩ := Uk.1 hlk;have := Ir d x (ls.take k) (ds.take k) _ _ (by simp; omega) h;rw [T2 hx] at this;have e1 : ds.take k ++ d :: ds.drop (k + 1) = ds := by rw [← h2, ← Vj h1, UZ]
 have e2 : ls.take k ++ x :: ls.drop (k + 1) = ls := by rw [← h4, ← Vj h3, UZ]
 rw [e1, e2] at this;rw [this, Vn, hl]
theorem G6 {ds : List Int} {d x : Int} (hdk : ds[k]? = some d) (hlk : ls[k]? = some x) (h : qR (ds.drop (k + 1)) (ls.drop (k + 1)) = none) (hx : ¬ x < d) : qR (ds.drop k) (ls.drop k) = none := by
 obtain ⟨h1, h2⟩ := Uk.1 hdk;obtain ⟨h3, h4⟩ := Uk.1 hlk;rw [Vj h1, Vj h3, h2, h4];exact I2 h hx
theorem Bc (h : ls.all cz = true) {x : Int} (hx : ls[k]? = some x) : 0 ≤ x ∧ x ≤ 127 := by
 have := Ux.1 h x (T7 hx);simpa [cz] using this
variable {ds rs : List Nat}
def bin : Nat → Nat → Nat
 | _, 0 => 1
 | 0, _ + 1 => 0
 | n + 1, k + 1 => bin n k + bin n (k + 1)
theorem p9 (n : Nat) : bin n 0 = 1 := by cases n <;> rfl
theorem sA : ∀ {n k : Nat}, n < k → bin n k = 0
 | 0, k + 1, _ => rfl
 | n + 1, k + 1, h => by rw [bin, sA (show n < k by omega), sA (show n < k + 1 by omega)]
theorem An : ∀ n, bin n n = 1
 | 0 => rfl
 | n + 1 => by rw [bin, An n, sA (show n < n + 1 by omega)]
theorem xX : ∀ n k : Nat, bin n k ≤ 2 ^ n
 | n, 0 => by rw [p9]; exact UE TY
 | 0, k + 1 => T6 _
 | n + 1, k + 1 => by
  have h1 := xX n k;have h2 := xX n (k + 1);rw [bin, UQ];omega
def rT (n : Nat) : List Nat := (List.range (n + 1)).map (bin n)
theorem uB (n : Nat) : (rT n).length = n + 1 := by simp [rT]
theorem xO (h : k ≤ n) : (rT n)[k]? = some (bin n k) := by
 unfold rT;exact Jd
def nD (n : Nat) : Dyadic := ((n : Int) : Dyadic)
theorem En : nD 0 = 0 := rfl
theorem Cz : nD 1 = 1 := rfl
theorem xE (a b : Nat) : nD (a + b) = nD a + nD b := by
 show Dyadic.ofIntWithPrec ((a + b : Nat) : Int) 0 = Dyadic.ofIntWithPrec (a : Int) 0 + Dyadic.ofIntWithPrec (b : Int) 0;rw [yj, V0]
theorem PK (a b : Nat) : nD (a * b) = nD a * nD b := by
 induction a with
 | zero => rw [Wx, En]; grind
 | succ a ih => rw [Va, xE, xE, ih, Cz]; grind
theorem N3 (h : n < 2 ^ k) : Sz k (nD n) := by
 refine ⟨(n : Int) * 2 ^ k, ?_, ?_⟩
 ·have := qQ (n : Int) 0 k;rw [show (0 : Int) + (k : Int) = k by omega] at this;rw [this]
  rfl
 ·rw [V5, Wt, Int.natAbs_natCast, show 2 * k = k + k by omega, Uu];exact Wy h (UE TY)
theorem nO {α β : Type} {m : Nat} (hm : 0 < m) (g : α → List β) : ∀ (l : List α) (p : Nat), (∀ a ∈ l, (g a).length = m) → (l.flatMap g)[p]? = (l[p / m]?).bind fun a => (g a)[p % m]?
 | [], p, _ => by simp
 | a :: l, p, h => by
  have ha := h a Uc;rw [WE];by_cases hp : p < m
  ·rw [Wi TX, U1 hp, UG hp]
   rfl
  ·obtain ⟨q, rfl⟩ : ∃ q, p = q + m := ⟨p - m, TX⟩;rw [Vg TX, ha, Nat.add_sub_cancel, nO hm g l q fun b hb => h b (Uf _ hb), Nat.add_div_right _ hm, Nat.add_mod_right, WI]
theorem ru {α β : Type} {m : Nat} (g : α → List β) : ∀ (l : List α), (∀ a ∈ l, (g a).length = m) → (l.flatMap g).length = l.length * m
 | [], _ => by simp
 | a :: l, h => by
  rw [WE, Ua, h a Uc, ru g l fun b hb => h b (Uf _ hb), Uq, Va, VU]
def bL (l : List Nat) : List Int := l.map fun (n : Nat) => (n : Int)
theorem k6 (l : List Nat) : (bL l).length = l.length := by simp [bL]
theorem ix {l : List Nat} {i : Nat} (h : l[i]? = some n) : (bL l)[i]? = some (n : Int) := by simp [bL, h]
theorem tH : ∀ (rs : List Nat), (eQ (bL rs.reverse)).length = av rs ∧ ∀ p, p < av rs → (eQ (bL rs.reverse))[p]? = some (bL (cL rs p).reverse)
 | [] => ⟨rfl, fun p h => by obtain rfl : p = 0 := (by have h2 : p < 1 := h; omega); rfl⟩
 | d :: rs => by
  obtain ⟨h1, h2⟩ := tH rs;have e1 : bL (d :: rs).reverse = bL rs.reverse ++ [(d : Int)] := by simp [bL]
  have hu : (lh (d : Int)).length = d + 1 := by rw [rf]; simp
  have hg : ∀ a ∈ eQ (bL rs.reverse), ((lh (d : Int)).map fun k => a ++ [k]).length = d + 1 := fun a _ => by rw [Ug, hu]
  rw [e1, qd];refine ⟨by rw [ru _ _ hg, h1, av, UC], fun p hp => ?_⟩;have hq : p / (d + 1) < av rs := by rw [Vr TX, UC]; exact hp
  have hr : p % (d + 1) < d + 1 := Uw _ TX;rw [nO TX _ _ _ hg, h2 _ hq];show ((lh (d : Int)).map fun k => bL (cL rs (p / (d + 1))).reverse ++ [k])[p % (d + 1)]? = _;rw [Ue, lh, Ue, UY (by simpa using hr)];simp [cL, bL]
theorem Jb (ds : List Nat) : (eQ (bL ds)).length = av ds.reverse := by
 have := (tH ds.reverse).1;rwa [Wn] at this
theorem K4 {p : Nat} (h : p < av ds.reverse) : (eQ (bL ds))[p]? = some (bL (cL ds.reverse p).reverse) := by
 have := (tH ds.reverse).2 p h;rwa [Wn] at this
theorem yb : ∀ {ds rs : List Nat}, ll ds rs → rs.length = ds.length
 | [], [], _ => rfl
 | _ :: _, _ :: _, h => by rw [Uq, Uq, yb h.2]
theorem IL {i d r : Nat} (hd : ds[i]? = some d) (hr : rs[i]? = some r) : il (ds.take (i + 1)).reverse (rs.take (i + 1)).reverse = r + (d + 1) * il (ds.take i).reverse (rs.take i).reverse := by
 rw [ay hd, ay hr];simp [il]
theorem Hz {i d : Nat} (hd : ds[i]? = some d) : av (ds.take (i + 1)).reverse = (d + 1) * av (ds.take i).reverse := by
 rw [ay hd];simp [av]
theorem dT (a b : List Nat) : av (a ++ b) = av a * av b := by
 induction a with
 | nil => simp [av]
 | cons d a ih => rw [Ud, av, av, ih, UX]
theorem cU (ds : List Nat) : av ds.reverse = av ds := by
 induction ds with
 | nil => rfl
 | cons d ds ih => rw [Ww, dT, ih, av, av, av, Uo, UC]
theorem jg (ds : List Nat) (i : Nat) : av (ds.take i) ≤ av ds := by
 have : ds = ds.take i ++ ds.drop i := (UZ i ds).symm
 calc av (ds.take i) = av (ds.take i) * 1 := (Uo _).symm
  _ ≤ av (ds.take i) * av (ds.drop i) := Uz _ (cS _)
  _ = av ds := by rw [← dT, UZ]
theorem lG (A : Option Addr) (n c : Nat) (ds : List Int) (w : World) (hS : Sl w A n 1 (bJ ds)) (hn : n ≤ 1000000) :
  Calls Tryz.prog 89 #[.slice A n c] w fun r w' => ∃ B c', r = .returned (.slice B n c') ∧ w'.ownsRow w.heap.size 3 1 (.slice B n c') n (bJ ds) ∧ Below w.heap.size w w' := by
 have hh := Hp.start w
 rcases A with _ | ad
 ·have hn0 : n = 0 := by
   exact O3
  subst hn0;have hl : ds = [] := VC (by simpa [bJ] using hS.1);subst hl;refine aj (N := 8) (l := [.slice none 0 c]) Tryz.func89 rfl rfl (by simp) ?_;exact Ox
 ·refine aj (N := 8) (l := [.slice (some ad) n c]) Tryz.func89 rfl rfl (by simp) ?_;refine sr (aL (aa (ah (sr (mL ?_)))));refine rY bk.out rfl rfl TY ?_;refine uJ ?_;refine jP hh bk.out aK.out TY ?_;intro b5 w5 hh;refine mL ?_;refine cK hh (i := 0) rfl rfl rfl (hS.ext hh.below) bk.out aK.out rfl TY ?one1 TX TX TY ?kk1
  case one1 => first | rfl | assumption | exact bZ _ | exact oneCells_u8s _
  exact ON
theorem xw (A : Option Addr) (n c : Nat) (xs : List NR) (w : World) (hS : Sl w A n 3 (az NR.cells xs)) (hn : n ≤ 1000000) :
  Calls Tryz.prog 102 #[.slice A n c] w fun r w' => ∃ B c', r = .returned (.slice B n c') ∧ w'.ownsRow w.heap.size 65 3 (.slice B n c') n (az NR.cells xs) ∧ Below w.heap.size w w' := by
 have hh := Hp.start w
 rcases A with _ | ad
 ·have hn0 : n = 0 := by
   exact O3
  subst hn0;have hl : xs = [] := VC (by have := hS.bq NR.len TY; omega);subst hl;refine aj (N := 8) (l := [.slice none 0 c]) Tryz.func102 rfl rfl (by simp) ?_;exact Ox
 ·have hone : ((az NR.cells xs).all Value.oneCell') = true := cv NR.one _;refine aj (N := 8) (l := [.slice (some ad) n c]) Tryz.func102 rfl rfl (by simp) ?_;refine sr (aL (aa (ah (sr (mL ?_)))));refine rY bk.out rfl rfl TY ?_;refine uJ ?_;refine jP hh bk.out aK.out TY ?_;intro b5 w5 hh;refine mL ?_;refine cK hh (i := 0) rfl rfl rfl (hS.ext hh.below) bk.out aK.out rfl TY ?one2 TX TX TY ?kk2
  case one2 => first | rfl | assumption | exact bZ _ | exact oneCells_u8s _
  exact ON
theorem CO (A : Option Addr) (n c : Nat) (l : List Int) (g : FuncId) (cap : List Value) (p : Int → Bool) (w : World) (hS : Sl w A n 1 (bJ l)) (hn : n ≤ 1000000) [al Tryz.prog g]
  (hg : ∀ (z : Int) (w1 : World), z ∈ l → Below w.heap.size w w1 → Calls Tryz.prog g (.int .i64 z :: cap).toArray w1 fun r w' => r = .returned (.bool (p z)) ∧ Below w1.heap.size w1 w') :
  Calls Tryz.prog 172 #[.slice A n c, .func (.func g) #[] cap.toArray] w fun r w' => ∃ v, r = .returned (.int .i64 v) ∧ (0 ≤ v ↔ l.any p = true) ∧ Below w.heap.size w w' := by
 have hh := Hp.start w;have hln : l.length = n := by have := hS.1; simpa [bJ] using this
 refine aj (N := 19) (l := [.slice A n c, .func (.func g) #[] cap.toArray]) Tryz.func172 rfl rfl (by simp) ?_;refine za ?_;refine aP [4, 5, 8, 9, 10, 11, 12, 13, 14, 15, 16, 17, 18] 8
  (fun v w' => ∃ i : Nat, i ≤ n ∧ v = .int .i64 i ∧ (l.take i).any p = false ∧ Hp w [] w')
  (fun v _ => n - (intOf v).toNat) ?_ ?_
 ·exact ⟨0, T6 _, rfl, rfl, hh⟩
 ·clear hh;rintro ρ' v w' ⟨i, hi, rfl, hall, hh⟩;by_cases hlt : i < n
  ·obtain ⟨z, hz⟩ := ak (l := l) (k := i) TX;have hgi := cj hz;obtain ⟨ad, rfl, hr⟩ := hS.at_ TX;have hc := fun w1 => hg z w1 (T7 hz)
   cases gz : p z with
   | true =>
    rw [gz] at hc;refine sr ?_;refine re ?_;refine iH ?_;refine mL (mI ?_);refine cu ?_;refine uK ?_;exact O7
   | false =>
    rw [gz] at hc;refine sr ?_;refine re ?_;refine iH ?_;refine mL (mI ?_);refine cu ?_;refine uK ?_;exact D8
  ·exact O5
theorem Cd (A : Option Addr) (n c : Nat) (l : List Int) (g : FuncId) (cap : List Value) (p : Int → Bool) (w : World) (hS : Sl w A n 1 (bJ l)) (hn : n ≤ 1000000) [al Tryz.prog g]
  (hg : ∀ (z : Int) (w1 : World), z ∈ l → Below w.heap.size w w1 → Calls Tryz.prog g (.int .i64 z :: cap).toArray w1 fun r w' => r = .returned (.bool (p z)) ∧ Below w1.heap.size w1 w') :
  Calls Tryz.prog 100 #[.slice A n c, .func (.func g) #[] cap.toArray] w fun r w' => r = .returned (.bool (l.any p)) ∧ Below w.heap.size w w' := by
 have hh := Hp.start w;refine aj (N := 9) (l := [.slice A n c, .func (.func g) #[] cap.toArray]) Tryz.func100 rfl rfl (by simp) ?_;refine sr (aB (aa (sr (mL ?_))));refine iH ?_;refine aF (CO A n c l g cap p _ (hS.ext hh.below) hn hg) al.out rfl TY ?_;exact OC
theorem Cm (A : Option Addr) (n c : Nat) (l : List NR) (g : FuncId) (cap : List Value) (p : NR → Bool) (w : World) (hS : Sl w A n 3 (az NR.cells l)) (hn : n ≤ 1000000) [al Tryz.prog g]
  (hg : ∀ (z : NR) (w1 : World), z ∈ l → Below w.heap.size w w1 → Calls Tryz.prog g (.agg #[.bool z.neg, .string z.bz, .int .i64 z.e] :: cap).toArray w1 fun r w' => r = .returned (.bool (p z)) ∧ Below w1.heap.size w1 w') :
  Calls Tryz.prog 193 #[.slice A n c, .func (.func g) #[] cap.toArray] w fun r w' => ∃ v, r = .returned (.int .i64 v) ∧ (0 ≤ v ↔ l.any p = true) ∧ Below w.heap.size w w' := by
 have hh := Hp.start w;have hln := hS.bq NR.len TY;refine aj (N := 19) (l := [.slice A n c, .func (.func g) #[] cap.toArray]) Tryz.func193 rfl rfl (by simp) ?_;refine za ?_;refine aP [4, 5, 8, 9, 10, 11, 12, 13, 14, 15, 16, 17, 18] 8
  (fun v w' => ∃ i : Nat, i ≤ n ∧ v = .int .i64 i ∧ (l.take i).any p = false ∧ Hp w [] w')
  (fun v _ => n - (intOf v).toNat) ?_ ?_
 ·exact ⟨0, T6 _, rfl, rfl, hh⟩
 ·clear hh;rintro ρ' v w' ⟨i, hi, rfl, hall, hh⟩;by_cases hlt : i < n
  ·obtain ⟨z, hz⟩ := ak (l := l) (k := i) TX;obtain ⟨ad, rfl, hr⟩ := hS.at_ TX;have hc := fun w1 => hg z w1 (T7 hz)
   cases gz : p z with
   | true =>
    rw [gz] at hc;refine sr ?_;refine re ?_;refine iH ?_;refine mL (mI ?_);refine cu ?_;refine cw (vs := [_, _, _]) aK.out rfl ((hr.ext hh.below).recAt NR.len hz) rfl TY ?_;exact O7
   | false =>
    rw [gz] at hc;refine sr ?_;refine re ?_;refine iH ?_;refine mL (mI ?_);refine cu ?_;refine cw (vs := [_, _, _]) aK.out rfl ((hr.ext hh.below).recAt NR.len hz) rfl TY ?_;exact D8
  ·exact O5
theorem CY (A : Option Addr) (n c : Nat) (l : List NR) (g : FuncId) (cap : List Value) (p : NR → Bool) (w : World) (hS : Sl w A n 3 (az NR.cells l)) (hn : n ≤ 1000000) [al Tryz.prog g]
  (hg : ∀ (z : NR) (w1 : World), z ∈ l → Below w.heap.size w w1 → Calls Tryz.prog g (.agg #[.bool z.neg, .string z.bz, .int .i64 z.e] :: cap).toArray w1 fun r w' => r = .returned (.bool (p z)) ∧ Below w1.heap.size w1 w') :
  Calls Tryz.prog 130 #[.slice A n c, .func (.func g) #[] cap.toArray] w fun r w' => r = .returned (.bool (l.any p)) ∧ Below w.heap.size w w' := by
 have hh := Hp.start w;refine aj (N := 9) (l := [.slice A n c, .func (.func g) #[] cap.toArray]) Tryz.func130 rfl rfl (by simp) ?_;refine sr (aB (aa (sr (mL ?_))));refine iH ?_;refine aF (Cm A n c l g cap p _ (hS.ext hh.below) hn hg) al.out rfl TY ?_;exact OC
variable {xs : List Dyadic}
def gM : Int → List Int → Int
 | n, [] => n
 | n, d :: ds => if d < 0 ∨ 127 < d ∨ 4096 < n * (d + 1) then 0 else gM (n * (d + 1)) ds
def xg : Int → List Int → Int
 | n, [] => n
 | n, d :: ds => xg (min (n * (d + 1)) 4097) ds
def GG (ds : List Int) : Int := if ds.any (fun d => !cz d) then -1 else xg 1 ds
def u7 (a : NR) : Bool := !(((nR a.d).neg == a.neg && (nR a.d).bz == a.bz) && (nR a.d).e == a.e)
theorem pS {a : NR} : u7 a = false ↔ nR a.d = a := by
 unfold u7;rw [Bool.not_eq_false', nc]
def fE (ds : List Int) (cs : List NR) : Int :=
 if 12 < ds.length ∨ ds.any (fun d => !cz d) = true then 1 else if gM 1 ds = 0 then 3 else if (cs.length : Int) ≠ gM 1 ds then 1 else if cs.any u7 = true then 1 else 0
theorem wa {ds : List Int} (h : ds.any (fun d => !cz d) = false) : ∃ ns : List Nat, ds = bL ns ∧ ∀ n ∈ ns, n ≤ 127 := by
 refine ⟨ds.map Int.toNat, ?_, fun n hn => ?_⟩
 ·unfold bL;rw [U5];refine (W5 ds).symm.trans (V7 fun d hd => ?_);have := Vy.1 h d hd;simp [cz] at this;show d = ((d.toNat : Nat) : Int);omega
 ·obtain ⟨d, hd, rfl⟩ := Ui.1 hn;have := Vy.1 h d hd;simp [cz] at this;omega
theorem uS {ns : List Nat} (h : ∀ n ∈ ns, n ≤ 127) : (bL ns).any (fun d => !cz d) = false := by
 rw [Vy];intro d hd;obtain ⟨n, hn, rfl⟩ := Ui.1 hd;have := h n hn;simp [cz];omega
theorem jT : ∀ (ns : List Nat) (n : Nat), 1 ≤ n → n ≤ 4096 → (∀ d ∈ ns, d ≤ 127) → gM n (bL ns) = if n * av ns ≤ 4096 then ((n * av ns : Nat) : Int) else 0
 | [], n, _, h, _ => by show (n : Int) = _; rw [av, Uo, T2 h]
 | d :: ns, n, h1, h2, h3 => by
  show (if (d : Int) < 0 ∨ 127 < (d : Int) ∨ 4096 < (n : Int) * ((d : Int) + 1) then 0 else gM ((n : Int) * ((d : Int) + 1)) (bL ns)) = _;have hd := h3 d Uc;have e1 : (n : Int) * ((d : Int) + 1) = ((n * (d + 1) : Nat) : Int) := by rw [Vm, V0]; rfl
  rw [e1];by_cases hg : n * (d + 1) ≤ 4096
  ·rw [T3 TX, jT ns (n * (d + 1)) (Nat.mul_pos h1 TX) hg fun x hx => h3 x (Uf _ hx), av, UX]
  ·have h4 : n * (d + 1) * 1 ≤ n * (d + 1) * av ns := Uz _ (cS ns);rw [T2 TX, T3];rw [av, ← UX];omega
theorem zK : ∀ (ns : List Nat) (n : Nat), 1 ≤ n → n ≤ 4097 → xg n (bL ns) = ((min (n * av ns) 4097 : Nat) : Int)
 | [], n, _, h => by show (n : Int) = _; rw [av, Uo, U0 h]
 | d :: ns, n, h1, h2 => by
  show xg (min ((n : Int) * ((d : Int) + 1)) 4097) (bL ns) = _;have e1 : min ((n : Int) * ((d : Int) + 1)) 4097 = ((min (n * (d + 1)) 4097 : Nat) : Int) := by
   have : (n : Int) * ((d : Int) + 1) = ((n * (d + 1) : Nat) : Int) := by rw [Vm, V0]; rfl
   rw [this]; omega
  have hp := Nat.mul_pos h1 (show 0 < d + 1 by omega);rw [e1, zK ns _ TX TX, av, ← UX];by_cases hg : n * (d + 1) ≤ 4097
  ·rw [U0 hg]
  ·have h4 : n * (d + 1) * 1 ≤ n * (d + 1) * av ns := Uz _ (cS ns);have h5 : 4097 * 1 ≤ 4097 * av ns := Uz _ (cS ns);rw [Nat.min_eq_right (by omega : 4097 ≤ n * (d + 1)), Nat.min_eq_right TX, Nat.min_eq_right TX]
theorem DV : ∀ (ds : List Int) (n : Int), 1 ≤ n → n ≤ 4096 → 0 ≤ gM n ds ∧ gM n ds ≤ 4096
 | [], n, _, h => by show 0 ≤ n ∧ n ≤ 4096; omega
 | d :: ds, n, h1, h2 => by
  rw [gM];split
  ·omega
  ·rename_i hg;have : 1 * 1 ≤ n * (d + 1) := WS h1 TX TY TX;exact DV ds _ TX TX
structure FV (ds : List Int) (cs : List NR) (ns : List Nat) (xs : List Dyadic) : Prop where
 TU : ds = bL ns
 num : cs = xs.map nR
 N0 : ns.length ≤ 12
 low : ∀ n ∈ ns, n ≤ 127
 len : xs.length = av ns
 max : av ns ≤ 4096
theorem QP {ds : List Int} {cs : List NR} (h : fE ds cs = 0) : ∃ ns xs, FV ds cs ns xs ∧ xs = cs.map NR.d := by
 unfold fE at h;split at h
 ·cases h
 rename_i h1;split at h
 ·cases h
 rename_i h2;split at h
 ·cases h
 rename_i h3;split at h
 ·cases h
 rename_i h4;have hb : ds.any (fun d => !cz d) = false := by
  cases hx : ds.any (fun d => !cz d) with
  | false => rfl
  | true => exact absurd (.inr hx) h1
 obtain ⟨ns, rfl, hl⟩ := wa hb;have hc := jT ns 1 TY TY hl;rw [VX] at hc;have hc1 : gM ((1 : Nat) : Int) (bL ns) = gM 1 (bL ns) := rfl;rw [hc1] at hc;have hmax : av ns ≤ 4096 := by
  apply VO;intro hg;rw [T3 hg] at hc;exact h2 hc
 rw [T2 hmax] at hc;have hlen : cs.length = av ns := by
  have : (cs.length : Int) = gM 1 (bL ns) := Wc.1 h3;rw [hc] at this;omega
 refine ⟨ns, cs.map NR.d, ⟨rfl, ?_, (by have h2 : ¬ 12 < (bL ns).length := fun h => h1 (.inl h); rw [k6] at h2; omega), hl, by rw [Ug, hlen], hmax⟩, rfl⟩;rw [U5];refine (W5 cs).symm.trans (V7 fun a ha => ?_);have h5 : u7 a = false := by
  cases hx : u7 a with
  | false => rfl
  | true => exact absurd (VS.2 ⟨a, ha, hx⟩) h4
 exact (pS.1 h5).symm
theorem FV.ok {ds : List Int} {cs : List NR} {ns : List Nat} (h : FV ds cs ns xs) : fE ds cs = 0 := by
 obtain ⟨rfl, rfl, h1, h2, h3, h4⟩ := h;have hc := jT ns 1 TY TY h2;rw [VX, T2 h4] at hc;have hc1 : gM ((1 : Nat) : Int) (bL ns) = gM 1 (bL ns) := rfl;rw [hc1] at hc;have hp := cS ns;unfold fE;rw [T3, T3 TX, T3 (by rw [Ug]; omega), T3]
 ·rw [VS];rintro ⟨a, ha, hx⟩;obtain ⟨x, _, rfl⟩ := Ui.1 ha;have : u7 (nR x) = false := pS.2 (by rw [bR]);rw [this] at hx
  cases hx
 ·rw [k6, uS h2];rintro (h | h)
  ·omega
  ·cases h
theorem eF (A : Option Addr) (n c : Nat) (ds : List Int) (w : World) (hS : Sl w A n 1 (bJ ds)) (hn : n ≤ 1000000) :
  Calls Tryz.prog 90 #[.slice A n c] w fun r w' => r = .returned (.int .i64 (gM 1 ds)) ∧ Below w.heap.size w w' := by
 have hh := Hp.start w;have hln : ds.length = n := by have := hS.1; simpa [bJ] using this
 refine aj (N := 31) (l := [.slice A n c]) Tryz.func90 rfl rfl (by simp) ?_;refine sr (aI (aa (sr (aI (aa (ah (sr (mL (aJ (mI (aa (aq ?_))))))))))));refine bK [2, 3, 5, 8, 9, 10, 11, 12, 13, 14, 15, 16, 17, 18, 19, 20, 21, 22, 23, 24, 25, 26, 27, 28, 29] 3 8
  (fun v3 v w' => ∃ (i : Nat) (q : Int), i ≤ n ∧ v = .int .i64 i ∧ v3 = .int .i64 q ∧ 1 ≤ q ∧ q ≤ 4096 ∧ gM 1 ds = gM q (ds.drop i) ∧ Hp w [] w')
  (fun _ v _ => n - (intOf v).toNat) ?_ ?_
 ·exact ⟨0, 1, T6 _, rfl, rfl, TX, TX, rfl, hh⟩
 ·clear hh;rintro ρ' v3 v w' ⟨i, q, hi, rfl, rfl, hq1, hq2, hc, hh⟩;by_cases hlt : i < n
  ·obtain ⟨d, hd⟩ := ak (l := ds) (k := i) TX;have hgi := cj hd;obtain ⟨ad, rfl, hr⟩ := hS.at_ TX;rw [gJ hd, gM] at hc;by_cases h1 : d < 0
   ·rw [T2 (.inl h1)] at hc;refine sr ?_;refine dO ?_;refine cu ?_;refine uK ?_;refine aI (aa (ah (sr (mI ?_))));refine bg (mB ?_);refine gS (gS ?_);refine fL ?_;refine mB ?_;refine gS (gS (gS (gS (gS ?_))));refine fL ?_;exact Qe
   ·by_cases h2 : 127 < d
    ·rw [T2 (.inr (.inl h2))] at hc;refine sr ?_;refine dO ?_;refine cu ?_;refine uK ?_;refine aI (aa (ah (sr (mI ?_))));refine bg (mB (gT (mI (gT ?_))));refine cm ?_;refine e7 ?_;refine mB ?_;refine gS (gS (gS (gS (gS ?_))));refine fL ?_;exact Qe
    ·have hm1 : 1 * 1 ≤ q * (d + 1) := WS hq1 TX TY TX;have hm2 : q * (d + 1) ≤ 4096 * 128 := WS hq2 TX TX TY;by_cases h3 : 4096 < q * (d + 1)
     ·rw [T2 (.inr (.inr h3))] at hc;refine sr ?_;refine dO ?_;refine cu ?_;refine uK ?_;refine aI (aa (ah (sr (mI ?_))));refine bg (mB (gT (mI (gT ?_))));refine cm ?_;refine e7 ?_;refine mB (gT (mI (gT (mI (gT ?_)))));refine bj (gT ?_);refine mulC (gT ?_);refine cm ?_;refine e7 ?_;exact Qe
     ·rw [T3 TX] at hc;refine sr ?_;refine dO ?_;refine cu ?_;refine uK ?_;refine aI (aa (ah (sr (mI ?_))));refine bg (mB (gT (mI (gT ?_))));refine cm ?_;refine e7 ?_;refine mB (gT (mI (gT (mI (gT ?_)))));refine bj (gT ?_);refine mulC (gT ?_);refine cm ?_;refine e7 ?_;refine aa (cF (ar (ai (ao (mI (mI ?_))))));refine bj ?_;refine mulC (aI (aA (bE (ai (ao ?_)))));refine bj (mI (aA (ai ?_)));refine ⟨⟨i + 1, _, TX, rfl, rfl, TX, TX, hc, hh⟩, by show n - (i + 1) < n - i; omega, ?_⟩;exact dQ
  ·rw [Vz TX] at hc;refine sr ?_;refine bg (aa (ah (cF (a6 (aD (aD (bB (ai (sr (mI (aI (aa (au ?_)))))))))))));refine cZ ?_;exact ⟨by rw [hc]; rfl, hh.below⟩
theorem CX (d : Int) (w : World) :
  Calls Tryz.prog 129 #[.int .i64 d] w fun r w' => r = .returned (.bool (!cz d)) ∧ Below w.heap.size w w' := by
 have hh := Hp.start w;by_cases h1 : d < 0
 ·refine aj (N := 9) (l := [.int .i64 d]) Tryz.func129 rfl rfl (by simp) ?_;refine sr (aB (aa (sr (mI ?_))));refine bg (mB ?_);refine gS (gS ?_);refine fL ?_;refine aB (aa (au ?_));refine cZ ?_;refine ⟨?_, hh.below⟩;unfold cz;rw [UB (show ¬ 0 ≤ d by omega)]
  rfl
 ·by_cases h2 : 127 < d
  ·refine aj (N := 9) (l := [.int .i64 d]) Tryz.func129 rfl rfl (by simp) ?_;refine sr (aB (aa (sr (mI ?_))));refine bg (mB (gT (mI (gT ?_))));refine cm ?_;refine e7 ?_;refine aB (aa (au ?_));refine cZ ?_;refine ⟨?_, hh.below⟩;unfold cz;rw [UB (show ¬ d ≤ 127 by omega), Bool.and_false]
   rfl
  ·refine aj (N := 9) (l := [.int .i64 d]) Tryz.func129 rfl rfl (by simp) ?_;refine sr (aB (aa (sr (mI ?_))));refine bg (mB (gT (mI (gT ?_))));refine cm ?_;refine e7 ?_;refine aB (aa (au ?_));refine cZ ?_;refine ⟨?_, hh.below⟩;unfold cz;rw [Um (show 0 ≤ d by omega), Um (show d ≤ 127 by omega)]
   rfl
theorem Cq (a : NR) (w : World) (hT : eh w) (ha : a.ok) :
  Calls Tryz.prog 131 #[.agg #[.bool a.neg, .string a.bz, .int .i64 a.e]] w fun r w' => r = .returned (.bool (u7 a)) ∧ Below w.heap.size w w' := by
 have hh := Hp.start w;have hf := fun w1 hT1 => eB a w1 hT1 (by have := ha.1; omega) (by have := ha.2; omega) (by have := ha.2; omega)
 cases hx : u7 a with
 | false =>
  have he := pS.1 hx;refine aj (N := 7) (l := [.agg #[.bool a.neg, .string a.bz, .int .i64 a.e]]) Tryz.func131 rfl rfl (by simp) ?_;refine sr ?_;refine cD hh [_,_,_] ?_;intro b1 w1 hh;refine aB (aa (ah ?_));refine aV 3 [[(1, none)], [(3, some 0)], [(1, none)]] [(2, 5), (1, 4), (0, 3)] hh mixed TZ ?_;refine fU 0 [_,_,_] ?_;refine dC (fun _ hj => hf _ (hT.hp hj.hp)) ?_;refine fU 0 [_,_,_] ?_;refine aR ?_;intro f W hJ hV;have hb_1 := hJ.bl;obtain ⟨v5, v4, v3, _⟩ := hV;replace hh := hJ.hp;refine aY (br (ae v5 (ae v4 (ae v3 aX)))) ?_;dsimp only [cf];clear hJ;refine EY rfl rfl (by first | assumption | rfl) TY ?_;exact vc
 | true =>
  have he : ¬ nR a.d = a := fun h => by rw [pS.2 h] at hx; cases hx
  refine aj (N := 7) (l := [.agg #[.bool a.neg, .string a.bz, .int .i64 a.e]]) Tryz.func131 rfl rfl (by simp) ?_;refine sr ?_;refine cD hh [_,_,_] ?_;intro b1 w1 hh;refine aB (aa (ah ?_));refine aV 3 [[(1, none)], [(3, some 0)], [(1, none)]] [(2, 5), (1, 4), (0, 3)] hh mixed TZ ?_;refine fU 0 [_,_,_] ?_;refine dC (fun _ hj => hf _ (hT.hp hj.hp)) ?_;refine fU 0 [_,_,_] ?_;refine aR ?_;intro f W hJ hV;have hb_1 := hJ.bl;obtain ⟨v5, v4, v3, _⟩ := hV;replace hh := hJ.hp;refine aY (br (ae v5 (ae v4 (ae v3 aX)))) ?_;dsimp only [cf];clear hJ;refine LM rfl rfl (by assumption) TY ?_;exact vc
theorem vi (A B : Option Addr) (n c m c2 : Nat) (ds : List Int) (cs : List NR) (w : World) (hT : eh w) (hS : Sl w A n 1 (bJ ds)) (hS2 : Sl w B m 3 (az NR.cells cs)) (hn : n ≤ 1000000) (hm : m ≤ 1000000) (hc : ∀ a ∈ cs, a.ok) :
  Calls Tryz.prog 41 #[.agg #[.slice A n c, .slice B m c2]] w fun r w' => r = .returned (.int .i64 (fE ds cs)) ∧ Below w.heap.size w w' := by
 have hh := Hp.start w;have hln : ds.length = n := by have := hS.1; simpa [bJ] using this
 have hlm := hS2.bq NR.len TY;have h1 := fun w1 hS1 => Cd A n c ds 129 [] (fun d => !cz d) w1 hS1 hn (fun z w2 _ hb => CX z w2);have h2 := fun w1 (hT1 : eh w1) hS1 => CY B m c2 cs 131 [] u7 w1 hS1 hm (fun z w2 hz hb => Cq z w2 (hT1.ext hb) (hc z hz));have h3 := DV ds 1 TX TX;unfold fE;by_cases g1 : 12 < n
 ·refine wF ?_;refine sr ?_;refine cD hh [_,_] ?_;intro b1 w1 hh;refine ud ?_;refine bG hh 0 ?_;refine aJ ?_;refine cm (mB ?_);refine gS (gS ?_);refine ju ?_;refine fL ?_;refine EG ?_;refine cZ ?_;exact ⟨by rw [T2 (.inl TX)], hh.below⟩
 ·cases g2 : ds.any (fun d => !cz d) with
  | true =>
   refine wF ?_;refine sr ?_;refine cD hh [_,_] ?_;intro b1 w1 hh;refine ud ?_;refine bG hh 0 ?_;refine aJ ?_;refine cm (mB (gT (bH (gT ?_))));refine bG hh 0 ?_;refine aH rfl rfl ?_;refine bD hh (h1 _ (hS.ext hh.below)) rfl ?_;intro w11 hh;rw [g2];refine e7 ?_;refine EG ?_;refine cZ ?_;exact ⟨by rw [T2 (.inr rfl)], hh.below⟩
  | false =>
   rw [T3 (fun h => h.elim (fun h => by omega) (fun h => by cases h))];by_cases g3 : gM 1 ds = 0
   ·refine wF ?_;refine sr ?_;refine cD hh [_,_] ?_;intro b1 w1 hh;refine ud ?_;refine bG hh 0 ?_;refine aJ ?_;refine cm (mB (gT (bH (gT ?_))));refine bG hh 0 ?_;refine aH rfl rfl ?_;refine bD hh (h1 _ (hS.ext hh.below)) rfl ?_;intro w11 hh;rw [g2];refine e7 ?_;refine aB (aa (cF (sr (bH ?_))));refine bG hh 0 ?_;refine DU ?_;intro w16 hh;refine db (aB (aa (cT (sr (aI (aa (au (cd (aG ?_)))))))));refine cZ ?_;exact ⟨by rw [T2 g3], hh.below⟩
   ·rw [T3 g3];by_cases g4 : (m : Int) = gM 1 ds
    ·rw [T3 (show ¬ (cs.length : Int) ≠ gM 1 ds by omega)]
     cases g5 : cs.any u7 with
     | true =>
      refine wF ?_;refine sr ?_;refine cD hh [_,_] ?_;intro b1 w1 hh;refine ud ?_;refine bG hh 0 ?_;refine aJ ?_;refine cm (mB (gT (bH (gT ?_))));refine bG hh 0 ?_;refine aH rfl rfl ?_;refine bD hh (h1 _ (hS.ext hh.below)) rfl ?_;intro w11 hh;rw [g2];refine e7 ?_;refine aB (aa (cF (sr (bH ?_))));refine bG hh 0 ?_;refine DU ?_;intro w16 hh;refine db (aB (aa (cF (ah ?_))));refine Iv ?_;refine ej ?_;refine fY 0 ?_;refine CS ?_;refine ej ?_;refine fY 0 ?_;refine dC (fun _ hj => eF A n c ds _ (hS.ext hj.hp.below) hn) ?_;refine aR ?_;intro f W hJ hV;have hb_5 := hJ.bl;obtain ⟨v24, v23, v22, v21, v20, v19, _⟩ := hV;replace hh := hJ.hp;refine IX ?_;dsimp only [cf];clear hJ;refine dn (aB (aa (cF (ar (bE (ai (ah (sr (bH ?_)))))))));refine bG hh 0 ?_;refine bD hh (h2 _ (hT.hp hh) (hS2.ext hh.below)) rfl ?_;intro w28 hh;rw [g5];refine AR ?_;refine cZ ?_;exact ⟨by rw [T2 rfl], hh.below⟩
     | false =>
      refine wF ?_;refine sr ?_;refine cD hh [_,_] ?_;intro b1 w1 hh;refine ud ?_;refine bG hh 0 ?_;refine aJ ?_;refine cm (mB (gT (bH (gT ?_))));refine bG hh 0 ?_;refine aH rfl rfl ?_;refine bD hh (h1 _ (hS.ext hh.below)) rfl ?_;intro w11 hh;rw [g2];refine e7 ?_;refine aB (aa (cF (sr (bH ?_))));refine bG hh 0 ?_;refine DU ?_;intro w16 hh;refine db (aB (aa (cF (ah ?_))));refine Iv ?_;refine ej ?_;refine fY 0 ?_;refine CS ?_;refine ej ?_;refine fY 0 ?_;refine dC (fun _ hj => eF A n c ds _ (hS.ext hj.hp.below) hn) ?_;refine aR ?_;intro f W hJ hV;have hb_5 := hJ.bl;obtain ⟨v24, v23, v22, v21, v20, v19, _⟩ := hV;replace hh := hJ.hp;refine IX ?_;dsimp only [cf];clear hJ;refine dn (aB (aa (cF (ar (bE (ai (ah (sr (bH ?_)))))))));refine bG hh 0 ?_;refine bD hh (h2 _ (hT.hp hh) (hS2.ext hh.below)) rfl ?_;intro w28 hh;rw [g5];refine E2 ?_;refine cZ ?_;exact ⟨by rw [T3 TY], hh.below⟩
    ·rw [T2 (show (cs.length : Int) ≠ gM 1 ds by omega)];refine wF ?_;refine sr ?_;refine cD hh [_,_] ?_;intro b1 w1 hh;refine ud ?_;refine bG hh 0 ?_;refine aJ ?_;refine cm (mB (gT (bH (gT ?_))));refine bG hh 0 ?_;refine aH rfl rfl ?_;refine bD hh (h1 _ (hS.ext hh.below)) rfl ?_;intro w11 hh;rw [g2];refine e7 ?_;refine aB (aa (cF (sr (bH ?_))));refine bG hh 0 ?_;refine DU ?_;intro w16 hh;refine db (aB (aa (cF (ah ?_))));refine Iv ?_;refine ej ?_;refine fY 0 ?_;refine CS ?_;refine ej ?_;refine fY 0 ?_;refine dC (fun _ hj => eF A n c ds _ (hS.ext hj.hp.below) hn) ?_;refine aR ?_;intro f W hJ hV;have hb_5 := hJ.bl;obtain ⟨v24, v23, v22, v21, v20, v19, _⟩ := hV;replace hh := hJ.hp;refine IX ?_;dsimp only [cf];clear hJ;refine dn (aB (aa (cT (sr (aI (aa (au (cd (aG ?_)))))))));refine cZ ?_;exact ⟨rfl, hh.below⟩
def Pw : List Nat → List Nat → Bool
 | [], [] => true
 | d :: ds, r :: rs => decide (r ≤ d) && Pw ds rs
 | _, _ => false
theorem D7 : ∀ (ds rs : List Nat), Pw ds rs = true ↔ ll ds rs
 | [], [] => by simp [Pw, ll]
 | [], _ :: _ => by simp [Pw, ll]
 | _ :: _, [] => by simp [Pw, ll]
 | d :: ds, r :: rs => by rw [Pw, ll, Uj, Up, D7 ds rs]
def co (ds : List Nat) (xs : List Dyadic) (row : List Nat) : Dyadic := if Pw ds row then (xs[il ds row]?).getD 0 else 0
theorem E1 {row : List Nat} (h : ll ds row) : co ds xs row = (xs[il ds row]?).getD 0 := by
 unfold co; rw [T2 ((D7 _ _).2 h)]
theorem tB {p : Nat} (h : p < av ds) : co ds xs (cL ds p) = (xs[p]?).getD 0 := by
 rw [E1 (nk ds p), z5 h]
theorem PW {ys : List Dyadic} (hx : xs.length = av ds) (hy : ys.length = av ds) (h : ∀ row, ll ds row → co ds xs row = co ds ys row) : xs = ys := by
 refine List.ext_getElem (by rw [hx, hy]) fun p h1 h2 => ?_;have h3 := h (cL ds p) (nk ds p);rw [tB TX, tB TX, Vq h1, Vq h2] at h3;exact h3
def C1 : List Nat → List Nat → List Nat
 | a :: l, b :: m => (a + b) :: C1 l m
 | _, _ => []
def Sq : (List Nat → Dyadic) → List Nat → List Nat → Dyadic
 | F, r :: rs, j :: js => if j ≤ r then Sq (fun t => F ((r - j) :: t)) rs js else 0
 | F, [], [] => F []
 | _, _, _ => 0
def QG : List Nat → List Nat → Nat
 | m :: ms, j :: js => bin m j * QG ms js
 | _, _ => 1
def SX : List Nat → (List Nat → Dyadic) → List Nat → Dyadic
 | m :: ms, F, r :: rs => sm (List.range (m + 1)) fun j => if j ≤ r then nD (bin m j) * SX ms (fun t => F ((r - j) :: t)) rs else 0
 | _, F, row => F row
def SM (ds es : List Nat) (xs ys : List Dyadic) : List (Nat × Dyadic) :=
 (List.range (av es)).flatMap fun k => (List.range (av ds)).map fun i => (il (C1 ds es) (C1 (cL ds i) (cL es k)), (xs[i]?).getD 0 * (ys[k]?).getD 0)
theorem Bo (n : Nat) (f : Nat → Dyadic) : sm (List.range (n + 1)) f = f 0 + sm (List.range n) fun j => f (j + 1) := by
 induction n with
 | zero => simp only [Wh, List.range_zero, Ub, sm]
 | succ n ih => rw [Wh, jz, ih, Wh (n := n), jz]; grind
def Sm (row : List Nat) (a : Nat) : List Nat := row.set a (row.getD a 0 - 1)
def lf (n : Nat) : List NR := (rT n).map fun k => nR (nD k)
theorem H0 (n : Nat) : (lf n).length = n + 1 := by simp [lf, uB]
theorem kj (h : k ≤ n) : (lf n)[k]? = some (nR (nD (bin n k))) := by
 unfold lf;rw [Ue, xO h]
 rfl
theorem qC (n k : Nat) (h : n ≤ 127) : Sz 128 (nD (bin n k)) := N3 (U8 (xX n k) (Nat.pow_lt_pow_right TY TX))
theorem kG (n : Nat) (w : World) (hT : eh w) (hn : n ≤ 127) :
  Calls Tryz.prog 135 #[.int .i64 n] w fun r w' => ∃ A c', r = .returned (.slice A (n + 1) c') ∧ w'.ownsRow w.heap.size 65 3 (.slice A (n + 1) c') (n + 1) (az NR.cells (lf n)) ∧ Below w.heap.size w w' := by
 have hh := Hp.start w;refine aj (N := 39) (l := [.int .i64 n]) Tryz.func135 rfl rfl (by simp) ?_;refine sr (aL (aa (sr ?_)));refine Ai ?_;intro w6 hh;refine rC ?_;intro b7 w7 hh;refine aL (aa (ah (sr (mI (mI (aa (aq ?_)))))));refine bK [3, 4, 5, 9, 10, 11, 12, 13, 14, 15, 16, 17, 18, 19, 20, 21, 22, 23, 24, 25, 26, 27, 28, 29, 30, 31, 32, 33, 34, 35, 36, 37] 3 9
  (fun v3 v w' => ∃ (i c3 : Nat) (A : Option Addr), i ≤ n ∧ v = .int .i64 i ∧ v3 = .slice A (i + 1) c3 ∧ Hp w [.row A (i + 1) c3 65 3 (az NR.cells (lf i))] w')
  (fun _ v _ => n - (intOf v).toNat) ?_ ?_
 ·exact ⟨0, _, _, T6 _, rfl, rfl, hh⟩
 ·clear hh;rintro ρ' v3 v w' ⟨i, c3, A, hi, rfl, rfl, hh⟩;by_cases hlt : i < n
  ·refine sr ?_;refine dO ?_;refine Ai ?_;intro w11 hh;refine rC ?_;intro b12 w12 hh;refine aL (aa (ah (sr (aI (aa (aq ?_))))));refine bK [4, 5, 13, 14, 15, 16, 17, 18, 19, 20, 21, 22, 23, 24, 25, 26, 27, 28, 29, 30, 31, 32] 4 5
    (fun v4 v w' => ∃ (k c4 : Nat) (B : Option Addr), k ≤ i ∧ v = .int .i64 ((k + 1 : Nat) : Int) ∧ v4 = .slice B (k + 1) c4 ∧ Hp w [.row B (k + 1) c4 65 3 (az NR.cells ((lf (i + 1)).take (k + 1))), .row A (i + 1) c3 65 3 (az NR.cells (lf i))] w')
    (fun _ v _ => i + 1 - (intOf v).toNat) ?_ ?_
   ·refine ⟨0, _, _, T6 _, rfl, rfl, ?_⟩;rw [show (lf (i + 1)).take (0 + 1) = [nR (nD 1)] by rw [ay (kj (T6 _)), p9]; rfl];exact hh
   ·clear hh;rintro ρ2 v4 v w2 ⟨k, c4, B, hk, rfl, rfl, hh⟩;by_cases hlk : k < i
    ·have e1 := kj (n := i) (k := k) TX;have e2 := kj (n := i) (k := k + 1) TX;have e3 := kj (n := i + 1) (k := k + 1) TX;have z1 := qC i k TX;have z2 := qC i (k + 1) TX;have hadd := fun A cc w1 hT1 hS1 => iY A 2 cc [nR (nD (bin i k)), nR (nD (bin i (k + 1)))] w1 hT1 hS1 (by simpa using ⟨z1.ok TX, z2.ok TX⟩) 128 (by simpa [bR] using ⟨z1, z2⟩) TX;rw [show mg ([nR (nD (bin i k)), nR (nD (bin i (k + 1)))].map NR.d) = nD (bin (i + 1) (k + 1)) by simp only [Ut, UR, bR, kS, bin, xE]] at hadd;obtain ⟨go, rfl⟩ := hh.cB (i := 1) rfl TX;refine ah (sr (mI (mL (aJ ?_))));refine bg (aa (cT (ar (ai (ah (aq ?_))))));refine aV 13 [[(4, none)], [(3, none)], [(5, none)], [(21, some 2)], [(20, some 1), (22, some 3)], [(23, some 4)], [(3, none)], [(5, none)], [(25, some 6), (26, some 7)], [(27, some 8)], [(24, some 5), (28, some 9)], [(29, some 10)], [(30, some 11)]] [(12, 31), (11, 30), (10, 29), (9, 28), (8, 27), (7, 26), (6, 25), (5, 24), (4, 23), (3, 22), (2, 21), (1, 20), (0, 19)] hh mixed TZ ?_;refine fT ?_;refine fT ?_;refine dF ?_;refine vg ?_;refine Ke (k) ?_
     refine r9 [_,_,_] (fun _ hj => hj.hp.iz (f := NR.cells) (x := nR (nD (bin i k))) (l := lf i) (i := 1) rfl NR.len TY e1) ?_;refine fT ?_;refine dF ?_;refine Ke ((k + 1)) ?_;refine r9 [_,_,_] (fun _ hj => hj.hp.iz (f := NR.cells) (x := nR (nD (bin i (k + 1)))) (l := lf i) (i := 1) rfl NR.len TY e2) ?_;refine tQ [_,_,_,_,_,_] ?_;refine aT (i := 11) (Is (.agg #[.bool (nR (nD (bin (i + 1) (k + 1)))).neg, .string (nR (nD (bin (i + 1) (k + 1)))).bz, .int .i64 (nR (nD (bin (i + 1) (k + 1)))).e])) Is.ext ?_ ?_
     ·intro ρ1 w1 hj hR;obtain ⟨A29, c29, h29, s29⟩ := hR.1;exact bf rfl (aO al.out (aw h29 aZ)) (hadd A29 c29 _ (hT.hp hj.hp) s29) (fun _ _ hq => ⟨_, hq.1, hq.2, rfl⟩)
     refine tQ [_,_,_] ?_;refine aR ?_;intro f W hJ hV;have hb_8 := hJ.bl;obtain ⟨v31, v30, v29, v28, v27, v26, v25, v24, v23, v22, v21, v20, v19, _⟩ := hV;obtain ⟨A29, c29, e29, f29⟩ : Rows _ _ _ (f 10) W := v29;obtain ⟨A31, c31, e31, f31⟩ : Rows _ _ _ (f 12) W := v31;replace hh := hJ.hp;refine aY (br (ae e31 (ae v30 (ae e29 (ae v28 (ae v27 (ae v26 (ae v25 (ae v24 (ae v23 (ae v22 (ae v21 (ae v20 (ae v19 aX)))))))))))))) ?_;dsimp only [cf];clear e29 e31 hJ;refine cK hh (i := 0) rfl rfl rfl (f31) bk.out aK.out rfl TY (by first | rfl | exact dR _ | exact dp _ | exact bZ _ | exact cv NR.one _) TX TX TY ?_;intro A32 c32 w32 hh;simp only [Uh] at hh;refine vP ?_;refine bj (aI (aA (ai ?_)));replace hh := hh.sub (T4 _ (T4 _ UA));refine ⟨⟨k + 1, c32, A32, TX, rfl, rfl, ?_⟩, by show i + 1 - (k + 1 + 1) < i + 1 - (k + 1); omega, ?_⟩
     ·rw [ay e3, bY];exact hh
     ·exact dQ
    ·obtain rfl : k = i := TX;have e3 := kj (n := k + 1) (k := k + 1) (T5 _);refine ah (sr (mI (mL (aJ ?_))));refine bg (aa (cF (a6 (aD (aD (bB (ai (ao (mL ?_)))))))));refine Ai ?_;intro w34 hh;refine rC ?_;intro b35 w35 hh;refine pK ?_;intro A36 c36 w36 hh;simp only [Uh, UH] at hh;replace hh := hh.sub (UM _ _);refine kN ?_;refine bj (mI (aA (ai ?_)));replace hh := hh.sub (T4 _ (T8 _ UA));refine ⟨⟨k + 1, c36, A36, TX, rfl, rfl, ?_⟩, by show n - (k + 1) < n - k; omega, ?_⟩
     ·have e4 : lf (k + 1) = (lf (k + 1)).take (k + 1) ++ [nR (nD (bin (k + 1) (k + 1)))] := by
       rw [← ay e3, T9 (by rw [H0]; omega)]
      rw [e4, bY, An];exact hh
     ·exact dQ
  ·obtain rfl : i = n := TX;exact OV
def CH (ds : List Nat) : List Nat := (List.range (av ds.reverse)).map fun p => QG ds.reverse (cL ds.reverse p)
theorem Hm (ds : List Nat) (d : Nat) : CH (ds ++ [d]) = (CH ds).flatMap fun x => (rT d).map (x * ·) := by
 have hl : ∀ a ∈ CH ds, ((rT d).map (a * ·)).length = d + 1 := fun a _ => by rw [Ug, uB]
 refine Ve fun p => ?_;rw [nO TX _ _ _ hl];unfold CH;rw [List.reverse_append, List.reverse_singleton, List.singleton_append];by_cases hp : p < av (d :: ds.reverse)
 ·have hq : p / (d + 1) < av ds.reverse := by rw [Vr TX, UC]; exact hp
  have hr : p % (d + 1) ≤ d := by have := Uw p (show 0 < d + 1 by omega); omega
  rw [Ue, UY hp, Ue, UY hq];simp only [Vx, Wf, Ue, xO hr, cL, QG, UC]
 ·have hq : ¬ p / (d + 1) < av ds.reverse := by rw [Vr TX, UC]; exact hp
  rw [Uy (by simp; omega), Uy (l := List.map _ _) (by simp; omega)]
  rfl
theorem Ez (ds : List Nat) : (CH ds).length = av ds := by simp [CH, cU]
def Kw (ds : List Nat) : List NR := (CH ds).map fun k => nR (nD k)
end Go.Proofs.YteeckcbbnegmcaaGreatDoor
