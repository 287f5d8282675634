/- The row and the card of CastParts. -/
import Derived.Test.YtioilmppidlbnaaGreatDoorCards
import Derived.Test.YtioilmppidlbnaaGreatDoorTie
import Derived.SevenTiedAt
import Derived.Test.YtioilmppidlbnaaGreatDoorZ5
/- The walk through ogeeref13.share, and Half. -/
namespace Go.Proofs.YtioilmppidlbnaaGreatDoor
open Go.RowKit
def jZ (up : Bool) (d : Nat) (s : Dyadic) : Nat → Nat → Dyadic := if up then lp d s else lO d s
theorem tw {n k : Nat} (h : k ≤ n) : mA n (k : Int) = nD (bin n k) := by
 unfold mA
 rw [if_neg (by omega), Int.toNat_natCast]
theorem uX {up : Bool} {d i k q : Nat} {s : Dyadic} (hs : Sz q s) (hs1 : Sz q (1 - s)) (hd : d ≤ 127) (hi : i ≤ d) (hk : k ≤ d) : Sz (130 + 2 * (q * d)) (jZ up d s i k) := by
 unfold jZ
 cases up with
 | false =>
  show Sz _ (lO d s i k)
  rw [← vn]
  exact tB hs hs1 hd hk
 | true =>
  show Sz _ (lp d s i k)
  unfold lp
  split
  ·exact Sz.zero _
  ·exact (((lJ i (i - k) (by omega)).mul (hs.od (show i - k ≤ d by omega))).mul (hs1.od (show d - i ≤ d by omega))).mono (by omega)
theorem q6 {x y : Dyadic} {k : Nat} (w : World) (hx : Sz k x) (hy : Sz k y) (hk : k ≤ 3000000) :
  Calls Tryz.prog 68 #[.agg #[.bool (nR x).neg, .string (nR x).bk, .int .i64 (nR x).e], .agg #[.bool (nR y).neg, .string (nR y).bk, .int .i64 (nR y).e]] w fun r w' => r = .returned (.agg #[.bool (nR (x * y)).neg, .string (nR (x * y)).bk, .int .i64 (nR (x * y)).e]) ∧ Below w.heap.size w w' := by
 have okx := hx.ok (by omega)
 have oky := hy.ok (by omega)
 have mx := hx.bk
 have my := hy.bk
 have := kM (nR x) (nR y) w (by omega) (by omega) (by have := okx.2; omega) (by have := okx.2; omega) (by have := oky.2; omega) (by have := oky.2; omega)
 rwa [dH, dH] at this
theorem tC {q d : Nat} {sn : NR} {s : Dyadic} (vs : mi q sn s) (hq : q ≤ 2000) (hd : d ≤ 127) (n : Int) (w : World) (hn : n ≤ d) :
  Calls Tryz.prog 184 #[.agg #[.bool sn.neg, .string sn.bk, .int .i64 sn.e], .int .i64 n] w fun r w' => r = .returned (.agg #[.bool (nR (s ^ n.toNat)).neg, .string (nR (s ^ n.toNat)).bk, .int .i64 (nR (s ^ n.toNat)).e]) ∧ Below w.heap.size w w' := by
 have h1 : q * n.toNat ≤ 2000 * 127 := Nat.mul_le_mul hq (by omega)
 have := sU sn n w vs.ok q (by rw [vs.d]; exact vs.sz) (by omega) (by omega)
 rwa [vs.d] at this
theorem rC (d i k : Nat) (sn : NR) (s : Dyadic) (q : Nat) (w : World) (hd : d ≤ 127) (hi : i ≤ d) (hk : k ≤ d) (vs : mi q sn s) (hs1 : Sz q (1 - s)) (hq : q ≤ 2000) :
  Calls Tryz.prog 141 #[.int .i64 d, .int .i64 i, .int .i64 k, .int .i64 0, .agg #[.bool sn.neg, .string sn.bk, .int .i64 sn.e]] w fun r w' => r = .returned (.agg #[.bool (nR (jZ false d s i k)).neg, .string (nR (jZ false d s i k)).bk, .int .i64 (nR (jZ false d s i k)).e]) ∧ Below w.heap.size w w' := by
 have hh := Hp.start w
 have hqd : q * d ≤ 2000 * 127 := Nat.mul_le_mul hq hd
 have hof : ∀ w1, Calls Tryz.prog 85 #[.int .i64 1] w1 fun r w' => r = .returned (.agg #[.bool (nR (1 : Dyadic)).neg, .string (nR (1 : Dyadic)).bk, .int .i64 (nR (1 : Dyadic)).e]) ∧ Below w1.heap.size w1 w' := fun w1 => eH 1 w1 (by decide) (by decide)
 have hsb := fun w1 => mQ (nR (1 : Dyadic)) sn w1 (Sz.one.ok (by omega)) vs.ok (by rw [vs.d]; exact vs.sz.ok (by omega))
 simp only [dH, vs.d] at hsb
 have hch := fun w1 => jr (d - i) ((d : Int) - (i : Int)) ((k : Int) - (i : Int)) w1 (by omega) (by omega) (by omega) (by omega)
 have hpw := fun w1 => tC vs hq hd (i : Int) w1 (by omega)
 have zc := (pC (n := d - i) ((k : Int) - (i : Int)) (by omega)).mono (show 128 ≤ 300000 by omega)
 have zp := (vs.sz.od hi).mono (show 1 + q * d ≤ 300000 by omega)
 rw [Int.toNat_natCast] at hpw
 have hmul := fun w1 => q6 w1 zc zp (by omega)
 have zm := zc.mul zp
 have hpr := fun w1 => tC (mi.of hs1 hq) hq hd ((k : Int) - (i : Int)) w1 (by omega)
 have zr := (hs1.od (show ((k : Int) - (i : Int)).toNat ≤ d by omega)).mono (show 1 + q * d ≤ 600000 by omega)
 have hmul2 := fun w1 => q6 w1 zm zr (by omega)
 have hval : ¬ k < i → mA (d - i) ((k : Int) - (i : Int)) * s ^ i * (1 - s) ^ ((k : Int) - (i : Int)).toNat = jZ false d s i k := fun h => by
  show _ = lO d s i k
  unfold lO
  rw [if_neg h, show (k : Int) - (i : Int) = ((k - i : Nat) : Int) by omega, tw (by omega), Int.toNat_natCast]
 have hval0 : k < i → jZ false d s i k = 0 := fun h => by
  show lO d s i k = _
  unfold lO
  rw [if_pos h]
 generalize jZ false d s i k = V at *
 generalize mA (d - i) ((k : Int) - (i : Int)) = C at *
 by_cases hki : k < i
 ·rw [hval0 hki]
  refine aj (N := 63) (l := [.int .i64 d, .int .i64 i, .int .i64 k, .int .i64 0, .agg #[.bool sn.neg, .string sn.bk, .int .i64 sn.e]]) Tryz.func141 rfl rfl (by simp) ?_
  refine sr ?_
  refine cw hh [_,_,_] ?_
  intro b9 w9 hh
  refine cf hh ?_
  intro b10 w10 hh
  refine aa (ah ?_)
  refine aE 4 [[], [(9, none)], [(14, some 0), (15, some 1)], []] [(3, 11), (2, 16), (1, 15), (0, 14)] hh mixed (by kernel_rfl) ?_
  refine dC (fun _ hj => hof _) ?_
  refine dV 1 [_,_,_] ?_
  refine dC (fun _ hj => hsb _) ?_
  refine bC (i := 3) (bK _ 39 _) bK.ext (fun ρ1 w1 hj hR => dA aA.out hj.bl (fun v w2 h hb => ⟨hb, h⟩)) ?_
  refine aW ?_
  intro f W hJ hV
  have hb_1 := hJ.bl
  obtain ⟨v11, v16, v15, v14, _⟩ := hV
  obtain ⟨b11, e11, hl11, hc11⟩ : bK _ _ _ (f 3) W := v11
  replace hh := hJ.newVar hh hl11 hc11
  refine aJ (aZ (ae e11 (ae v16 (ae v15 (ae v14 aH))))) ?_
  dsimp only [bQ]
  clear e11 hJ
  refine bD hh 0 [_,_,_] ?_
  intro ws hh
  replace hh : Hp _ (.blk _ _ [_, _, _] _ :: _) _ := hh
  refine aa (ah (sr (mI ?_)))
  refine cV (aa (cT (ah ?_)))
  refine aE 12 [[(0, none)], [(1, none)], [(19, some 0), (20, some 1)], [(2, none)], [(1, none)], [(22, some 3), (23, some 4)], [(21, some 2), (24, some 5)], [(9, none)], [(1, none)], [(26, some 7), (27, some 8)], [(25, some 6), (28, some 9)], []] [(11, 12), (10, 29), (9, 28), (8, 27), (7, 26), (6, 25), (5, 24), (4, 23), (3, 22), (2, 21), (1, 20), (0, 19)] hh mixed (by kernel_rfl) ?_
  refine dk ?_
  refine dk ?_
  refine kg ?_
  refine dk ?_
  refine dk ?_
  refine kg ?_
  refine dC (fun _ hj => hch _) ?_
  refine dV 2 [_,_,_] ?_
  refine dk ?_
  refine dC (fun _ hj => hpw _) ?_
  refine dC (fun _ hj => hmul _) ?_
  refine bC (i := 11) (bK _ 39 _) bK.ext (fun ρ1 w1 hj hR => dA aA.out hj.bl (fun v w2 h hb => ⟨hb, h⟩)) ?_
  refine aW ?_
  intro f W hJ hV
  have hb_3 := hJ.bl
  obtain ⟨v12, v29, v28, v27, v26, v25, v24, v23, v22, v21, v20, v19, _⟩ := hV
  obtain ⟨b12, e12, hl12, hc12⟩ : bK _ _ _ (f 11) W := v12
  replace hh := hJ.newVar hh hl12 hc12
  refine aJ (aZ (ae e12 (ae v29 (ae v28 (ae v27 (ae v26 (ae v25 (ae v24 (ae v23 (ae v22 (ae v21 (ae v20 (ae v19 aH))))))))))))) ?_
  dsimp only [bQ]
  clear e12 hJ
  refine bD hh 0 [_,_,_] ?_
  intro ws hh
  replace hh : Hp _ (.blk _ _ [_, _, _] _ :: _) _ := hh
  refine aa (ah (sr (mI (mI ?_))))
  refine aK (aa (cT (sr ?_)))
  refine fg [_,_,_] ?_
  refine bD hh 2 [_,_,_] ?_
  intro ws hh
  replace hh : Hp _ (_ :: _ :: .blk _ _ [_, _, _] _ :: _) _ := hh
  refine aa (ao (aQ (aQ ?_)))
  refine eG (aG rfl (aF (vs := [_, _, _]) aA.out (hh.ar (i := 2) (n := 3) rfl rfl) rfl) bg) ?_
  exact ⟨rfl, hh.below⟩
 ·rw [← hval hki]
  refine aj (N := 63) (l := [.int .i64 d, .int .i64 i, .int .i64 k, .int .i64 0, .agg #[.bool sn.neg, .string sn.bk, .int .i64 sn.e]]) Tryz.func141 rfl rfl (by simp) ?_
  refine sr ?_
  refine cw hh [_,_,_] ?_
  intro b9 w9 hh
  refine cf hh ?_
  intro b10 w10 hh
  refine aa (ah ?_)
  refine aE 4 [[], [(9, none)], [(14, some 0), (15, some 1)], []] [(3, 11), (2, 16), (1, 15), (0, 14)] hh mixed (by kernel_rfl) ?_
  refine dC (fun _ hj => hof _) ?_
  refine dV 1 [_,_,_] ?_
  refine dC (fun _ hj => hsb _) ?_
  refine bC (i := 3) (bK _ 39 _) bK.ext (fun ρ1 w1 hj hR => dA aA.out hj.bl (fun v w2 h hb => ⟨hb, h⟩)) ?_
  refine aW ?_
  intro f W hJ hV
  have hb_1 := hJ.bl
  obtain ⟨v11, v16, v15, v14, _⟩ := hV
  obtain ⟨b11, e11, hl11, hc11⟩ : bK _ _ _ (f 3) W := v11
  replace hh := hJ.newVar hh hl11 hc11
  refine aJ (aZ (ae e11 (ae v16 (ae v15 (ae v14 aH))))) ?_
  dsimp only [bQ]
  clear e11 hJ
  refine bD hh 0 [_,_,_] ?_
  intro ws hh
  replace hh : Hp _ (.blk _ _ [_, _, _] _ :: _) _ := hh
  refine aa (ah (sr (mI ?_)))
  refine cV (aa (cT (ah ?_)))
  refine aE 12 [[(0, none)], [(1, none)], [(19, some 0), (20, some 1)], [(2, none)], [(1, none)], [(22, some 3), (23, some 4)], [(21, some 2), (24, some 5)], [(9, none)], [(1, none)], [(26, some 7), (27, some 8)], [(25, some 6), (28, some 9)], []] [(11, 12), (10, 29), (9, 28), (8, 27), (7, 26), (6, 25), (5, 24), (4, 23), (3, 22), (2, 21), (1, 20), (0, 19)] hh mixed (by kernel_rfl) ?_
  refine dk ?_
  refine dk ?_
  refine kg ?_
  refine dk ?_
  refine dk ?_
  refine kg ?_
  refine dC (fun _ hj => hch _) ?_
  refine dV 2 [_,_,_] ?_
  refine dk ?_
  refine dC (fun _ hj => hpw _) ?_
  refine dC (fun _ hj => hmul _) ?_
  refine bC (i := 11) (bK _ 39 _) bK.ext (fun ρ1 w1 hj hR => dA aA.out hj.bl (fun v w2 h hb => ⟨hb, h⟩)) ?_
  refine aW ?_
  intro f W hJ hV
  have hb_3 := hJ.bl
  obtain ⟨v12, v29, v28, v27, v26, v25, v24, v23, v22, v21, v20, v19, _⟩ := hV
  obtain ⟨b12, e12, hl12, hc12⟩ : bK _ _ _ (f 11) W := v12
  replace hh := hJ.newVar hh hl12 hc12
  refine aJ (aZ (ae e12 (ae v29 (ae v28 (ae v27 (ae v26 (ae v25 (ae v24 (ae v23 (ae v22 (ae v21 (ae v20 (ae v19 aH))))))))))))) ?_
  dsimp only [bQ]
  clear e12 hJ
  refine bD hh 0 [_,_,_] ?_
  intro ws hh
  replace hh : Hp _ (.blk _ _ [_, _, _] _ :: _) _ := hh
  refine aa (ah (sr (mI (mI ?_))))
  refine aK (aa (cF (ak (ai (ah ?_)))))
  refine aE 6 [[(12, none)], [(11, none)], [(2, none)], [(1, none)], [(36, some 2), (37, some 3)], [(35, some 1), (38, some 4)]] [(5, 39), (4, 38), (3, 37), (2, 36), (1, 35), (0, 34)] hh mixed (by kernel_rfl) ?_
  refine dV 0 [_,_,_] ?_
  refine dV 1 [_,_,_] ?_
  refine dk ?_
  refine dk ?_
  refine kg ?_
  refine dC (fun _ hj => hpr _) ?_
  refine aW ?_
  intro f W hJ hV
  have hb_6 := hJ.bl
  obtain ⟨v39, v38, v37, v36, v35, v34, _⟩ := hV
  replace hh := hJ.hp
  refine aJ (aZ (ae v39 (ae v38 (ae v37 (ae v36 (ae v35 (ae v34 aH))))))) ?_
  dsimp only [bQ]
  clear hJ
  refine bB hh (hmul2 _) rfl ?_
  intro w40 hh
  refine bD hh 2 [_,_,_] ?_
  intro ws hh
  replace hh : Hp _ (_ :: _ :: .blk _ _ [_, _, _] _ :: _) _ := hh
  refine aa (ao (aQ ?_))
  refine eG (aG rfl (aF (vs := [_, _, _]) aA.out (hh.ar (i := 2) (n := 3) rfl rfl) rfl) bg) ?_
  exact ⟨rfl, hh.below⟩
theorem rT (d i k : Nat) (sn : NR) (s : Dyadic) (q : Nat) (w : World) (hd : d ≤ 127) (hi : i ≤ d) (hk : k ≤ d) (vs : mi q sn s) (hs1 : Sz q (1 - s)) (hq : q ≤ 2000) :
  Calls Tryz.prog 141 #[.int .i64 d, .int .i64 i, .int .i64 k, .int .i64 1, .agg #[.bool sn.neg, .string sn.bk, .int .i64 sn.e]] w fun r w' => r = .returned (.agg #[.bool (nR (jZ true d s i k)).neg, .string (nR (jZ true d s i k)).bk, .int .i64 (nR (jZ true d s i k)).e]) ∧ Below w.heap.size w w' := by
 have hh := Hp.start w
 have hqd : q * d ≤ 2000 * 127 := Nat.mul_le_mul hq hd
 have hof : ∀ w1, Calls Tryz.prog 85 #[.int .i64 1] w1 fun r w' => r = .returned (.agg #[.bool (nR (1 : Dyadic)).neg, .string (nR (1 : Dyadic)).bk, .int .i64 (nR (1 : Dyadic)).e]) ∧ Below w1.heap.size w1 w' := fun w1 => eH 1 w1 (by decide) (by decide)
 have hsb := fun w1 => mQ (nR (1 : Dyadic)) sn w1 (Sz.one.ok (by omega)) vs.ok (by rw [vs.d]; exact vs.sz.ok (by omega))
 simp only [dH, vs.d] at hsb
 have hch := fun w1 => jr i (i : Int) ((i : Int) - (k : Int)) w1 (by omega) (by omega) (by omega) (by omega)
 have hpw := fun w1 => tC vs hq hd ((i : Int) - (k : Int)) w1 (by omega)
 have zc := (pC (n := i) ((i : Int) - (k : Int)) (by omega)).mono (show 128 ≤ 300000 by omega)
 have zp := (vs.sz.od (show ((i : Int) - (k : Int)).toNat ≤ d by omega)).mono (show 1 + q * d ≤ 300000 by omega)
 have hmul := fun w1 => q6 w1 zc zp (by omega)
 have zm := zc.mul zp
 have hpr := fun w1 => tC (mi.of hs1 hq) hq hd ((d : Int) - (i : Int)) w1 (by omega)
 have zr := (hs1.od (show ((d : Int) - (i : Int)).toNat ≤ d by omega)).mono (show 1 + q * d ≤ 600000 by omega)
 have hmul2 := fun w1 => q6 w1 zm zr (by omega)
 have hval : ¬ i < k → mA i ((i : Int) - (k : Int)) * s ^ ((i : Int) - (k : Int)).toNat * (1 - s) ^ ((d : Int) - (i : Int)).toNat = jZ true d s i k := fun h => by
  show _ = lp d s i k
  unfold lp
  rw [if_neg h, show (i : Int) - (k : Int) = ((i - k : Nat) : Int) by omega, show (d : Int) - (i : Int) = ((d - i : Nat) : Int) by omega, tw (by omega), Int.toNat_natCast, Int.toNat_natCast]
 have hval0 : i < k → jZ true d s i k = 0 := fun h => by
  show lp d s i k = _
  unfold lp
  rw [if_pos h]
 generalize jZ true d s i k = V at *
 generalize mA i ((i : Int) - (k : Int)) = C at *
 by_cases hki : i < k
 ·rw [hval0 hki]
  refine aj (N := 63) (l := [.int .i64 d, .int .i64 i, .int .i64 k, .int .i64 1, .agg #[.bool sn.neg, .string sn.bk, .int .i64 sn.e]]) Tryz.func141 rfl rfl (by simp) ?_
  refine sr ?_
  refine cw hh [_,_,_] ?_
  intro b9 w9 hh
  refine cf hh ?_
  intro b10 w10 hh
  refine aa (ah ?_)
  refine aE 4 [[], [(9, none)], [(14, some 0), (15, some 1)], []] [(3, 11), (2, 16), (1, 15), (0, 14)] hh mixed (by kernel_rfl) ?_
  refine dC (fun _ hj => hof _) ?_
  refine dV 1 [_,_,_] ?_
  refine dC (fun _ hj => hsb _) ?_
  refine bC (i := 3) (bK _ 39 _) bK.ext (fun ρ1 w1 hj hR => dA aA.out hj.bl (fun v w2 h hb => ⟨hb, h⟩)) ?_
  refine aW ?_
  intro f W hJ hV
  have hb_1 := hJ.bl
  obtain ⟨v11, v16, v15, v14, _⟩ := hV
  obtain ⟨b11, e11, hl11, hc11⟩ : bK _ _ _ (f 3) W := v11
  replace hh := hJ.newVar hh hl11 hc11
  refine aJ (aZ (ae e11 (ae v16 (ae v15 (ae v14 aH))))) ?_
  dsimp only [bQ]
  clear e11 hJ
  refine bD hh 0 [_,_,_] ?_
  intro ws hh
  replace hh : Hp _ (.blk _ _ [_, _, _] _ :: _) _ := hh
  refine aa (ah (sr (mI ?_)))
  refine cV (aa (cF (ak (ai (ah (sr (mI (mI ?_))))))))
  refine bO (aa ?_)
  refine cT (sr ?_)
  refine fg [_,_,_] ?_
  refine bD hh 1 [_,_,_] ?_
  intro ws hh
  replace hh : Hp _ (_ :: .blk _ _ [_, _, _] _ :: _) _ := hh
  refine aa (ao (aQ ?_))
  refine eG (aG rfl (aF (vs := [_, _, _]) aA.out (hh.ar (i := 1) (n := 3) rfl rfl) rfl) bg) ?_
  exact ⟨rfl, hh.below⟩
 ·rw [← hval hki]
  refine aj (N := 63) (l := [.int .i64 d, .int .i64 i, .int .i64 k, .int .i64 1, .agg #[.bool sn.neg, .string sn.bk, .int .i64 sn.e]]) Tryz.func141 rfl rfl (by simp) ?_
  refine sr ?_
  refine cw hh [_,_,_] ?_
  intro b9 w9 hh
  refine cf hh ?_
  intro b10 w10 hh
  refine aa (ah ?_)
  refine aE 4 [[], [(9, none)], [(14, some 0), (15, some 1)], []] [(3, 11), (2, 16), (1, 15), (0, 14)] hh mixed (by kernel_rfl) ?_
  refine dC (fun _ hj => hof _) ?_
  refine dV 1 [_,_,_] ?_
  refine dC (fun _ hj => hsb _) ?_
  refine bC (i := 3) (bK _ 39 _) bK.ext (fun ρ1 w1 hj hR => dA aA.out hj.bl (fun v w2 h hb => ⟨hb, h⟩)) ?_
  refine aW ?_
  intro f W hJ hV
  have hb_1 := hJ.bl
  obtain ⟨v11, v16, v15, v14, _⟩ := hV
  obtain ⟨b11, e11, hl11, hc11⟩ : bK _ _ _ (f 3) W := v11
  replace hh := hJ.newVar hh hl11 hc11
  refine aJ (aZ (ae e11 (ae v16 (ae v15 (ae v14 aH))))) ?_
  dsimp only [bQ]
  clear e11 hJ
  refine bD hh 0 [_,_,_] ?_
  intro ws hh
  replace hh : Hp _ (.blk _ _ [_, _, _] _ :: _) _ := hh
  refine aa (ah (sr (mI ?_)))
  refine cV (aa (cF (ak (ai (ah (sr (mI (mI ?_))))))))
  refine bO (aa ?_)
  refine cF (ak (ai (ah ?_)))
  refine aE 12 [[(1, none)], [(1, none)], [(2, none)], [(46, some 1), (47, some 2)], [(45, some 0), (48, some 3)], [(9, none)], [(1, none)], [(2, none)], [(51, some 6), (52, some 7)], [(50, some 5), (53, some 8)], [(49, some 4), (54, some 9)], []] [(11, 13), (10, 55), (9, 54), (8, 53), (7, 52), (6, 51), (5, 50), (4, 49), (3, 48), (2, 47), (1, 46), (0, 45)] hh mixed (by kernel_rfl) ?_
  refine dk ?_
  refine dk ?_
  refine dk ?_
  refine kg ?_
  refine dC (fun _ hj => hch _) ?_
  refine dV 2 [_,_,_] ?_
  refine dk ?_
  refine dk ?_
  refine kg ?_
  refine dC (fun _ hj => hpw _) ?_
  refine dC (fun _ hj => hmul _) ?_
  refine bC (i := 11) (bK _ 39 _) bK.ext (fun ρ1 w1 hj hR => dA aA.out hj.bl (fun v w2 h hb => ⟨hb, h⟩)) ?_
  refine aW ?_
  intro f W hJ hV
  have hb_9 := hJ.bl
  obtain ⟨v13, v55, v54, v53, v52, v51, v50, v49, v48, v47, v46, v45, _⟩ := hV
  obtain ⟨b13, e13, hl13, hc13⟩ : bK _ _ _ (f 11) W := v13
  replace hh := hJ.newVar hh hl13 hc13
  refine aJ (aZ (ae e13 (ae v55 (ae v54 (ae v53 (ae v52 (ae v51 (ae v50 (ae v49 (ae v48 (ae v47 (ae v46 (ae v45 aH))))))))))))) ?_
  dsimp only [bQ]
  clear e13 hJ
  refine bD hh 0 [_,_,_] ?_
  intro ws hh
  replace hh : Hp _ (.blk _ _ [_, _, _] _ :: _) _ := hh
  refine aa (ah ?_)
  refine aE 6 [[(13, none)], [(11, none)], [(0, none)], [(1, none)], [(58, some 2), (59, some 3)], [(57, some 1), (60, some 4)]] [(5, 61), (4, 60), (3, 59), (2, 58), (1, 57), (0, 56)] hh mixed (by kernel_rfl) ?_
  refine dV 0 [_,_,_] ?_
  refine dV 1 [_,_,_] ?_
  refine dk ?_
  refine dk ?_
  refine kg ?_
  refine dC (fun _ hj => hpr _) ?_
  refine aW ?_
  intro f W hJ hV
  have hb_10 := hJ.bl
  obtain ⟨v61, v60, v59, v58, v57, v56, _⟩ := hV
  replace hh := hJ.hp
  refine aJ (aZ (ae v61 (ae v60 (ae v59 (ae v58 (ae v57 (ae v56 aH))))))) ?_
  dsimp only [bQ]
  clear hJ
  refine bB hh (hmul2 _) rfl ?_
  intro w62 hh
  refine bD hh 2 [_,_,_] ?_
  intro ws hh
  replace hh : Hp _ (_ :: _ :: .blk _ _ [_, _, _] _ :: _) _ := hh
  refine aa (ao ?_)
  refine eG (aG rfl (aF (vs := [_, _, _]) aA.out (hh.ar (i := 2) (n := 3) rfl rfl) rfl) bg) ?_
  exact ⟨rfl, hh.below⟩
theorem pj (d i k : Nat) (up : Bool) (sn : NR) (s : Dyadic) (q : Nat) (w : World) (hd : d ≤ 127) (hi : i ≤ d) (hk : k ≤ d) (vs : mi q sn s) (hs1 : Sz q (1 - s)) (hq : q ≤ 2000) :
  Calls Tryz.prog 141 #[.int .i64 d, .int .i64 i, .int .i64 k, .int .i64 (if up then 1 else 0), .agg #[.bool sn.neg, .string sn.bk, .int .i64 sn.e]] w fun r w' => r = .returned (.agg #[.bool (nR (jZ up d s i k)).neg, .string (nR (jZ up d s i k)).bk, .int .i64 (nR (jZ up d s i k)).e]) ∧ Below w.heap.size w w' := by
 cases up with
 | false => exact rC d i k sn s q w hd hi hk vs hs1 hq
 | true => exact rT d i k sn s q w hd hi hk vs hs1 hq
theorem qt (w : World) :
  Calls Tryz.prog 41 #[] w fun r w' => r = .returned (.agg #[.bool (nR (ck (-1))).neg, .string (nR (ck (-1))).bk, .int .i64 (nR (ck (-1))).e]) ∧ Below w.heap.size w w' := by
 have hh := Hp.start w
 have hof : ∀ w1, Calls Tryz.prog 85 #[.int .i64 1] w1 fun r w' => r = .returned (.agg #[.bool (nR (1 : Dyadic)).neg, .string (nR (1 : Dyadic)).bk, .int .i64 (nR (1 : Dyadic)).e]) ∧ Below w1.heap.size w1 w' := fun w1 => eH 1 w1 (by decide) (by decide)
 have hsh := fun w1 => iK (nR (1 : Dyadic)) (-1) w1 (by have := Sz.one.bk; omega) (by decide +kernel) (by decide +kernel) (by decide) (by decide)
 rw [dH, Dyadic.one_mul] at hsh
 refine aj (N := 3) (l := []) Tryz.func41 rfl rfl (by simp) ?_
 refine sr ?_
 refine cf hh ?_
 intro b0 w0 hh
 refine aa (sr ?_)
 refine bB hh (hof _) rfl ?_
 intro w1 hh
 refine bB hh (hsh _) rfl ?_
 intro w2 hh
 refine bD hh 0 [_,_,_] ?_
 intro ws hh
 replace hh : Hp _ (.blk _ _ [_, _, _] _ :: _) _ := hh
 refine aa (ao ?_)
 refine eG (aG rfl (aF (vs := [_, _, _]) aA.out (hh.ar (i := 0) (n := 3) rfl rfl) rfl) bg) ?_
 exact ⟨rfl, hh.below⟩
end Go.Proofs.YtioilmppidlbnaaGreatDoor
/- The walk through ogeeref13.part. -/
namespace Go.Proofs.YtioilmppidlbnaaGreatDoor
open Go.RowKit
theorem y8 {rr : List Nat} {a n i : Nat} {ex : List Value} (hl : rr.length = n) (ha : a < n) (hi : i ≤ 255) : cB (ky (bS rr.reverse) ++ ex) (a * 1) [.int .u8 (i : Int)] = ky (bS (rr.set (n - 1 - a) i).reverse) ++ ex := by
 have hb : (bS rr.reverse).length = n := by unfold bS; rw [List.length_map, iw, List.length_reverse, hl]
 rw [Nat.mul_one, cd (by rw [List.length_append, fw]; omega), List.set_append_left _ _ (by rw [fw]; omega)]
 congr 1
 have e1 : (rr.set (n - 1 - a) i).reverse = rr.reverse.set a i := by
  rw [u6 (by omega), hl, show n - 1 - (n - 1 - a) = a by omega]
 have e2 : (ru (i : Int)).toNat = i := by
  show (UInt8.ofNat ((i : Int)).toNat).toNat = i
  rw [Int.toNat_natCast, UInt8.toNat_ofNat']
  omega
 rw [e1]
 unfold bS ky bL
 rw [List.map_set, List.map_set, List.map_set, e2]
theorem yT {ds : List Nat} {xs : List Dyadic} {row : List Nat} {K : Nat} (h : ∀ x ∈ xs, Sz K x) : Sz K (co ds xs row) := by
 unfold co
 split
 ·cases h2 : xs[ij ds row]? with
  | none => exact Sz.zero _
  | some x => exact h x (List.mem_of_getElem? h2)
 ·exact Sz.zero _
def vI (ns rr : List Nat) (a : Nat) (xs : List Dyadic) (M : Nat → Nat → Dyadic) (r i : Nat) : Dyadic := sm (List.range i) fun j => co ns.reverse xs (rr.set a j) * M j r
theorem wx (ns rr : List Nat) (a : Nat) (xs : List Dyadic) (M : Nat → Nat → Dyadic) (r i : Nat) : vI ns rr a xs M r (i + 1) = vI ns rr a xs M r i + co ns.reverse xs (rr.set a i) * M i r := by
 unfold vI
 rw [List.range_succ, kW]
theorem xz {up : Bool} {s : Dyadic} {ns : List Nat} {a p d : Nat} {xs : List Dyadic} (hp : p < aC ns) (hd : ns[a]? = some d) : (fN up s ns a xs)[p]? = some (vI ns (dp ns.reverse p) (ns.length - 1 - a) xs (jZ up d s) ((dp ns.reverse p).getD (ns.length - 1 - a) 0) (d + 1)) := by
 have ha := (List.getElem?_eq_some_iff.1 hd).1
 have e1 : ns.getD a 0 = d := by rw [List.getD_eq_getElem?_getD, hd]; rfl
 unfold fN et
 rw [List.getElem?_map, List.getElem?_range (by rw [eC]; exact hp), qE ha, e1]
 rfl
theorem qO (F FC : Option Addr) (n c1 c2 a k q : Nat) (up : Bool) (sd : Int) (hsd : sd = if up then 1 else 0) (ns : List Nat) (xs : List Dyadic) (sn : NR) (s : Dyadic) (w : World) (hF : Sl w F n 1 (bP (bL ns))) (hFC : Sl w FC (aC ns) 3 (br NR.cells (xs.map nR)))
  (hn : n ≤ 12) (ha : a < n) (hlow : ∀ d ∈ ns, d ≤ 127) (hN : aC ns ≤ 4096) (hx : ∀ x ∈ xs, Sz k x) (hk : k ≤ 1000000) (vs : mi q sn s) (hs1 : Sz q (1 - s)) (hq : q ≤ 2000) :
  Calls Tryz.prog 89 #[.agg #[.slice F n c1, .slice FC (aC ns) c2], .int .i64 a, .int .i64 sd, .agg #[.bool sn.neg, .string sn.bk, .int .i64 sn.e]] w fun r w' => ∃ A c B b, r = .returned (.agg #[.slice A n c, .slice B (aC ns) b]) ∧ Hp w [.row B (aC ns) b 39 3 (br NR.cells ((fN up s ns a xs).map nR)), .row A n c 3 1 (bP (bL ns))] w' := by
 have hh := Hp.start w
 have hl1 : ns.length = n := by have := hF.1; simpa [bP, bL] using this
 have hlx : xs.length = aC ns := by have := hFC.eI NR.len (by decide); simpa using this
 obtain ⟨a5, rfl, s5⟩ := hFC.at_ (dx ns)
 obtain ⟨a1, rfl, s1⟩ := hF.at_ (by omega)
 obtain ⟨d, hd⟩ := aO (l := ns) (k := a) (by omega)
 have hgd := cg (iH hd)
 have hd127 := hlow d (List.mem_of_getElem? hd)
 have hqd : q * d ≤ 2000 * 127 := Nat.mul_le_mul hq hd127
 have hrF := fun w1 hS1 => pA (some a1) n c1 ns w1 hS1 (by omega) hlow (by omega)
 refine aj (N := 86) (l := [.agg #[.slice (some a1) n c1, .slice (some a5) (aC ns) c2], .int .i64 a, .int .i64 sd, .agg #[.bool sn.neg, .string sn.bk, .int .i64 sn.e]]) Tryz.func89 rfl rfl (by simp) ?_
 refine sr ?_
 refine cw hh [_,_] ?_
 intro b4 w4 hh
 refine cw hh [_,_,_] ?_
 intro b7 w7 hh
 refine cf hh ?_
 intro b8 w8 hh
 refine aa (sr ?_)
 refine fU hh aN.out aA.out (by decide) ?_
 intro b17 w17 hh
 refine bG ?_
 refine bI hh 3 ?_
 refine df hh (i := 0) rfl rfl rfl (hF.ext hh.below) aN.out aA.out rfl (by decide) ?one5 (by omega) (by omega) (by decide) ?kk5
 case one5 => first | rfl | assumption | exact bW _ | exact oneCells_u8s _
 intro A20 c20 w20 hh
 simp only [List.set_cons_zero] at hh
 rw [Nat.zero_add n]
 rw [Nat.zero_add, List.nil_append] at hh
 obtain ⟨g20, rfl⟩ := hh.ea (i := 0) rfl (by omega)
 refine fg [_,_] ?_
 refine cf hh ?_
 intro b9 w9 hh
 refine bD hh 0 [_,_] ?_
 intro ws hh
 replace hh : Hp _ (.blk _ _ [_, _] _ :: _) _ := hh
 refine aa (sr (bG ?_))
 refine bI hh 4 ?_
 refine aU (hrF _ (hF.ext hh.below)) av.out rfl (by decide) ?_
 rintro e_ w24 ⟨A24, c24, rfl, hown_, hb_⟩
 refine ⟨_, rfl, ?_⟩
 replace hh := hh.bj (x := .row _ _ _ _ _ _) hb_ hown_
 obtain ⟨g24, rfl⟩ := hh.ea (i := 0) rfl (dx _)
 refine aL (aa (ah (sr (aI (aa (al ?_))))))
 replace hh := hh.eW 39 3
 clear hrF
 have FRM : True := trivial
 refine bx [11, 12, 13, 14, 15, 16, 25, 26, 27, 28, 29, 30, 31, 32, 33, 34, 35, 36, 37, 38, 39, 40, 41, 42, 43, 44, 45, 46, 47, 48, 49, 50, 51, 52, 53, 54, 55, 56, 57, 58, 59, 60, 61, 62, 63, 64, 65, 66, 67, 68, 69, 70, 71, 72, 73, 74, 75, 76, 77, 78, 79, 80, 81, 82, 83, 84] 11
  (fun v w' => ∃ (p cC : Nat) (C : Option Addr), p ≤ aC ns ∧ v = .int .i64 p ∧ Hp w [.row C p cC 39 3 (br NR.cells (((fN up s ns a xs).take p).map nR)), .row (some ⟨g24, 0, none⟩) (aC ns) c24 9 1 (hG (lY ns)), .blk b9 28 [.slice (some ⟨g20, 0, none⟩) n c20, .slice C p cC] (0, 0), .row (some ⟨g20, 0, none⟩) n c20 3 1 (bP (bL ns)), .blk b8 28 [.slice none 0 0, .slice none 0 0] (0, 0), .blk b7 39 [.bool sn.neg, .string sn.bk, .int .i64 sn.e] (0, 0), .blk b4 28 [.slice (some a1) n c1, .slice (some a5) (aC ns) c2] (0, 0)] w')
  (fun v _ => aC ns - (intOf v).toNat) ?_ ?_
 ·exact ⟨0, 0, none, Nat.zero_le _, rfl, hh⟩
 ·clear hh
  rintro ρ' v w' ⟨p, cC, C, hp, rfl, hh⟩
  by_cases hpn : p < aC ns
  ·have hrp := mo (vA hpn)
   have hok := pL ns.reverse p
   have hrl : (dp ns.reverse p).length = n := by rw [nX, List.length_reverse, hl1]
   have hup := xz (up := up) (s := s) (xs := xs) hpn hd
   rw [hl1] at hup
   generalize dp ns.reverse p = rr at *
   obtain ⟨r, hr⟩ := aO (l := rr) (k := n - 1 - a) (by omega)
   have hrr : rr.reverse[a]? = some r := by rw [List.getElem?_reverse (by omega), hrl]; exact hr
   have hrd : r ≤ d := sO hok (by rw [List.getElem?_reverse (by omega), hl1, show n - 1 - (n - 1 - a) = a by omega]; exact hd) hr
   have hgetr : rr.getD (n - 1 - a) 0 = r := by rw [List.getD_eq_getElem?_getD, hr]; rfl
   rw [hgetr] at hup
   have hbl : (bS rr.reverse).length = n := by unfold bS; rw [List.length_map, iw, List.length_reverse]; exact hrl
   have e0 : (fX (bL rr.reverse)).data.toList = bS rr.reverse := eO _
   have e1 : (fX (bL rr.reverse)).size = n := by
    have : (fX (bL rr.reverse)).data.toList.length = n := by rw [e0, hbl]
    rw [Array.length_toList] at this
    exact this
   have hcell := Af hrr (by omega)
   have hgdv : ns.reverse.getD (n - 1 - a) 0 = d := by
    rw [← hl1, qE (by omega), List.getD_eq_getElem?_getD, hd]
    rfl
   have zsum : ∀ i, i ≤ d + 1 → Sz (k + (130 + 2 * (q * d)) + i) (vI ns rr (n - 1 - a) xs (jZ up d s) r i) := fun i hi => by
    have h2 := yq (l := List.range i) (f := fun j => co ns.reverse xs (rr.set (n - 1 - a) j) * jZ up d s j r) (k := k + (130 + 2 * (q * d))) fun j hj => (yT hx).mul (uX vs.sz hs1 hd127 (by have := List.mem_range.1 hj; omega) hrd)
    rw [List.length_range] at h2
    exact h2
   refine ah (sr (mI (mL (a7 ?_))))
   refine aK (aa (cT (ak (ai (ah (al (sr ?_)))))))
   refine fg [_,_,_] ?_
   refine cf hh ?_
   intro b12 w12 hh
   refine bD hh 0 [_,_,_] ?_
   intro ws hh
   replace hh : Hp _ (.blk _ _ [_, _, _] _ :: _) _ := hh
   refine aa (ah (sr (aI (aa (al ?_)))))
   refine bx [13, 14, 15, 16, 32, 33, 34, 35, 36, 37, 38, 39, 40, 41, 42, 43, 44, 45, 46, 47, 48, 49, 50, 51, 52, 53, 54, 55, 56, 57, 58, 59, 60, 61, 62, 63, 64, 65, 66, 67, 68, 69, 70, 71, 72, 73, 74, 75, 76, 77, 78] 13
    (fun v w' => ∃ i : Nat, i ≤ d + 1 ∧ v = .int .i64 i ∧ Hp w [.blk b12 39 [.bool (nR (vI ns rr (n - 1 - a) xs (jZ up d s) r i)).neg, .string (nR (vI ns rr (n - 1 - a) xs (jZ up d s) r i)).bk, .int .i64 (nR (vI ns rr (n - 1 - a) xs (jZ up d s) r i)).e] (0, 0), .row C p cC 39 3 (br NR.cells (((fN up s ns a xs).take p).map nR)), .row (some ⟨g24, 0, none⟩) (aC ns) c24 9 1 (hG (lY ns)), .blk b9 28 [.slice (some ⟨g20, 0, none⟩) n c20, .slice C p cC] (0, 0), .row (some ⟨g20, 0, none⟩) n c20 3 1 (bP (bL ns)), .blk b8 28 [.slice none 0 0, .slice none 0 0] (0, 0), .blk b7 39 [.bool sn.neg, .string sn.bk, .int .i64 sn.e] (0, 0), .blk b4 28 [.slice (some a1) n c1, .slice (some a5) (aC ns) c2] (0, 0)] w')
    (fun v _ => d + 1 - (intOf v).toNat) ?_ ?_
   ·exact ⟨0, Nat.zero_le _, rfl, hh⟩
   ·clear hh
    rintro ρ2 v w2 ⟨i, hi, rfl, hh⟩
    by_cases hid : i ≤ d
    ·have hokr : rn ns.reverse (rr.set (n - 1 - a) i) := tr hok (by rw [hgdv]; exact hid)
     have hlt := sY hokr
     rw [eC] at hlt
     obtain ⟨x, hx1⟩ := aO (l := xs) (k := ij ns.reverse (rr.set (n - 1 - a) i)) (by omega)
     have hxn : (xs.map nR)[ij ns.reverse (rr.set (n - 1 - a) i)]? = some (nR x) := by rw [List.getElem?_map, hx1]; rfl
     have hco : co ns.reverse xs (rr.set (n - 1 - a) i) = x := by rw [yj hokr, hx1]; rfl
     have zx := hx x (List.mem_of_getElem? hx1)
     have hat := fun w1 hS1 => rA (some a1) n c1 ns (rr.set (n - 1 - a) i).reverse w1 hS1 (by omega) (by omega) (by rw [List.length_reverse, p4 hokr, List.length_reverse]) (zh hokr) (fun d hd => by have := hlow d hd; omega)
     rw [List.reverse_reverse] at hat
     have hbl2 : (bS (rr.set (n - 1 - a) i).reverse).length = n := by unfold bS; rw [List.length_map, iw, List.length_reverse, List.length_set]; exact hrl
     have hbd := fun ex => y8 (ex := ex) hrl ha (show i ≤ 255 by omega)
     have hsh := fun w1 => pj d i r up sn s q w1 hd127 hid hrd vs hs1 hq
     rw [← hsd] at hsh
     have zsh := uX (up := up) (i := i) (k := r) vs.sz hs1 hd127 hid hrd
     have hmul := fun w1 => q6 (x := x) (y := jZ up d s i r) w1 (zx.mono (show k ≤ 1600000 by omega)) (zsh.mono (show _ ≤ 1600000 by omega)) (by omega)
     have zxy := zx.mul zsh
     have zold := zsum i (by omega)
     have hsum := fun w1 => jD (nR (vI ns rr (n - 1 - a) xs (jZ up d s) r i)) (nR (x * jZ up d s i r)) w1 (zold.ok (by omega)) (zxy.ok (by omega))
     rw [dH, dH] at hsum
     have hss := wx ns rr (n - 1 - a) xs (jZ up d s) r i
     rw [hco] at hss
     rw [← hss] at hsum
     clear hco zold zxy zsh
     generalize hS2 : vI ns rr (n - 1 - a) xs (jZ up d s) r (i + 1) = S2 at *
     generalize vI ns rr (n - 1 - a) xs (jZ up d s) r i = S1 at *
     generalize ij ns.reverse (rr.set (n - 1 - a) i) = p2 at *
     refine ah (sr (mI (bG ?_)))
     refine bI hh 7 ?_
     refine mI ?_
     refine aX (k := a) aN.out aA.size rfl rfl (by omega) (by omega) (by decide) ?_
     refine aV aA.out rfl ((s1.ext hh.below).fJ (by assumption)) (by decide) ?_
     refine xr (aa (cT (ak (ai (ah (al (sr (mL (mI ?_)))))))))
     refine bA aN.out aA.size rfl rfl rfl (by omega) (by decide) ?_
     refine aV aA.out rfl (hh.cE (i := 2) rfl (by first | assumption | (simp only [Nat.mul_one]; assumption))) (by decide) ?_
     refine o8 hh aN.out aN.out aN.out rfl (by decide) ?_
     intro g45 c45 x45 w45 hh
     rw [e0] at hh
     have hcl2 : (ky (bS rr.reverse) ++ x45)[a]? = some (.int .u8 (r : Int)) := by rw [List.getElem?_append_left (by rw [fw, hbl]; exact ha)]; exact hcell
     generalize (((ky (bS rr.reverse) ++ x45).length, (ky (bS rr.reverse) ++ x45).length + 1) : Nat × Nat) = fz at hh
     refine aL (aa (sr (mL (mI ?_))))
     refine bA (k := a) aN.out aA.size rfl rfl (by omega) (by omega) (by decide) ?_
     refine aV aA.out rfl (hh.eQ (i := 0) rfl (by first | assumption | (simp only [Nat.mul_one]; assumption))) (by decide) ?_
     refine dR aN.out aN.out rfl (by omega) (by omega) (by decide) ?_
     refine aI (aa (sr (mL (mI (mI ?_)))))
     first | refine cJ aN.out aN.out rfl (by first | assumption | omega) (by decide) ?_ | refine eL aN.out aN.out rfl (by decide) ?_
     refine bA (k := a) aN.out aA.size rfl rfl (by omega) (by omega) (by decide) ?_
     refine qb hh (i := 0) (vs := [_]) rfl rfl (bM rfl) rfl aA.out rfl (by rw [List.length_append, fw, hbl]; omega) rfl ?_
     intro ws hh
     simp only [List.set_cons_zero] at hh
     rw [hbd] at hh
     refine aa (ah ?_)
     refine aE 10 [[(4, none)], [(56, some 0)], [(4, none)], [(58, some 2)], [(14, none)], [(60, some 4)], [(59, some 3), (61, some 5)], [(57, some 1), (62, some 6)], [(63, some 7)], []] [(9, 16), (8, 64), (7, 63), (6, 62), (5, 61), (4, 60), (3, 59), (2, 58), (1, 57), (0, 56)] hh mixed (by kernel_rfl) ?_
     refine dT ?_
     refine eY 8 ?_
     refine dT ?_
     refine eY 8 ?_
     refine g6 ?_
     refine bC (i := 5) (Is (.string ⟨((bS (rr.set (n - 1 - a) i).reverse)).toArray⟩)) Is.ext ?_ ?_
     ·intro ρ1 w1 hj hR
      exact gh rfl (jm (l := (bS (rr.set (n - 1 - a) i).reverse)) aN.out aN.out aN.out (show ρ1 60 = Value.slice _ _ _ from hR.1) (hj.hp.yR (i := 0) rfl (hbl2.trans e1.symm))) ⟨Below.refl _ _, rfl⟩
     refine dC (fun _ hj => hat _ (hF.ext hj.hp.below)) ?_
     refine l7 (p2) ?_
     refine uW [_,_,_] (fun _ hj => (s5.ext hj.hp.below).recAt NR.len hxn) ?_
     refine bC (i := 9) (bK _ 39 _) bK.ext (fun ρ1 w1 hj hR => dA aA.out hj.bl (fun v w2 h hb => ⟨hb, h⟩)) ?_
     refine aW ?_
     intro f W hJ hV
     have hb_13 := hJ.bl
     obtain ⟨v16, v64, v63, v62, v61, v60, v59, v58, v57, v56, _⟩ := hV
     obtain ⟨b16, e16, hl16, hc16⟩ : bK _ _ _ (f 9) W := v16
     replace hh := hJ.newVar hh hl16 hc16
     refine aJ (aZ (ae e16 (ae v64 (ae v63 (ae v62 (ae v61 (ae v60 (ae v59 (ae v58 (ae v57 (ae v56 aH))))))))))) ?_
     dsimp only [bQ]
     clear e16 hJ
     refine bD hh 0 [_,_,_] ?_
     intro ws hh
     replace hh : Hp _ (.blk _ _ [_, _, _] _ :: _) _ := hh
     refine aa ?_
     refine aE 13 [[(12, none)], [(16, none)], [(4, none)], [(67, some 2)], [(1, none)], [(68, some 3), (69, some 4)], [(70, some 5)], [(13, none)], [(15, none)], [(2, none)], [(7, none)], [(71, some 6), (72, some 7), (73, some 8), (74, some 9), (75, some 10)], [(66, some 1), (76, some 11)]] [(12, 77), (11, 76), (10, 75), (9, 74), (8, 73), (7, 72), (6, 71), (5, 70), (4, 69), (3, 68), (2, 67), (1, 66), (0, 65)] hh mixed (by kernel_rfl) ?_
     refine dV 2 [_,_,_] ?_
     refine dV 0 [_,_,_] ?_
     refine dT ?_
     refine eY 9 ?_
     refine dk ?_
     refine l7 (a) ?_
     refine pJ (fun _ hj => (s1.ext hj.hp.below).fJ hgd) ?_
     refine dk ?_
     refine dk ?_
     refine dk ?_
     refine dV 8 [_,_,_] ?_
     refine bC (i := 11) (Is (.agg #[.bool (nR (jZ up d s i r)).neg, .string (nR (jZ up d s i r)).bk, .int .i64 (nR (jZ up d s i r)).e])) (Is.ext) ?_ ?_
     ·intro ρ1 w1 hj hR
      exact bV rfl (bJ av.out (aM hR.1 (aM hR.2.1 (aM hR.2.2.1 (aM hR.2.2.2.1 (aM hR.2.2.2.2.1 bE)))))) (hsh w1) (fun _ _ ⟨q1, q2⟩ => ⟨_, q1, q2, rfl⟩)
     refine dC (fun _ hj => hmul _) ?_
     refine aW ?_
     intro f W hJ hV
     have hb_14 := hJ.bl
     obtain ⟨v77, v76, v75, v74, v73, v72, v71, v70, v69, v68, v67, v66, v65, _⟩ := hV
     replace hh := hJ.hp
     refine aJ (aZ (ae v77 (ae v76 (ae v75 (ae v74 (ae v73 (ae v72 (ae v71 (ae v70 (ae v69 (ae v68 (ae v67 (ae v66 (ae v65 aH)))))))))))))) ?_
     dsimp only [bQ]
     clear hJ
     refine bB hh (hsum _) rfl ?_
     intro w78 hh
     refine bD hh 2 [_,_,_] ?_
     intro ws hh
     replace hh : Hp _ (_ :: _ :: .blk _ _ [_, _, _] _ :: _) _ := hh
     refine aD (a0 (ai (aq (mI ?_))))
     refine bz (aI (aD (ai ?_)))
     replace hh := hh.sub (List.Sublist.cons _ (List.Sublist.cons _ (List.Sublist.cons_cons _ (List.Sublist.cons_cons _ (List.Sublist.cons_cons _ (List.Sublist.cons_cons _ (List.Sublist.cons_cons _ (List.Sublist.cons_cons _ (List.Sublist.cons_cons _ (List.Sublist.cons_cons _ List.Sublist.slnil))))))))))
     refine ⟨⟨i + 1, by omega, rfl, by rw [hS2]; exact hh⟩, by show d + 1 - (i + 1) < d + 1 - i; omega, ?_⟩
     (repeat (first | exact aw _ _ _ | refine az rfl ?_ | refine au rfl ?_))
    ·obtain rfl : i = d + 1 := by omega
     refine ah (sr (mI (bG ?_)))
     refine bI hh 7 ?_
     refine mI ?_
     refine aX (k := a) aN.out aA.size rfl rfl (by omega) (by omega) (by decide) ?_
     refine aV aA.out rfl ((s1.ext hh.below).fJ (by assumption)) (by decide) ?_
     refine xr (aa (cF ?_))
     refine aY ?_
     refine ay (ay (bm (ai (aq (bG ?_)))))
     refine bI hh 3 ?_
     refine da hh 0 [_,_,_] ?_
     refine bo hh (cs := [_, _, _]) aN.out aA.out (a6 (ed rfl) bR) rfl rfl (by decide) (by decide) (by decide) rfl (by decide) ?_
     intro b82 w82 hh
     refine df hh (i := 2) rfl rfl rfl (hh.bf (i := 0) rfl) aN.out aA.out rfl (by decide) (by first | rfl | exact dr _ | exact cH _ | exact bW _ | exact cz NR.one _) (by omega) (by omega) (by decide) ?_
     intro A83 c83 w83 hh
     simp only [List.set_cons_zero, List.set_cons_succ] at hh
     replace hh := hh.sub (List.sublist_cons_self _ _)
     refine bG ?_
     refine bD hh 3 [_] ?_
     intro ws hh
     replace hh : Hp _ (_ :: _ :: _ :: .blk _ _ [_, _] _ :: _) _ := hh
     refine aD (a0 (ai (aq (mI ?_))))
     refine bz (aI (aD (ai ?_)))
     replace hh := hh.sub (List.Sublist.cons _ (List.Sublist.cons_cons _ (List.Sublist.cons_cons _ (List.Sublist.cons_cons _ (List.Sublist.cons_cons _ (List.Sublist.cons_cons _ (List.Sublist.cons_cons _ (List.Sublist.cons_cons _ List.Sublist.slnil))))))))
     refine ⟨⟨p + 1, c83, A83, by omega, rfl, ?_⟩, by show aC ns - (p + 1) < aC ns - p; omega, ?_⟩
     ·rw [a9 hup, List.map_append, eP]
      exact hh
     ·(repeat (first | exact aw _ _ _ | refine az rfl ?_ | refine au rfl ?_))
  ·obtain rfl : p = aC ns := by omega
   rw [List.take_of_length_le (by rw [mN]; exact Nat.le_refl _)] at hh
   refine ah (sr (mI (mL (a7 ?_))))
   refine aK (aa (cF ?_))
   refine aY ?_
   refine ay (ay (bm (ai (sr ?_))))
   refine da hh 2 [_,_] ?_
   refine bD hh 4 [_,_] ?_
   intro ws hh
   replace hh : Hp _ (_ :: _ :: _ :: _ :: .blk _ _ [_, _] _ :: _) _ := hh
   refine aa (ao ?_)
   replace hh := hh.sub (List.Sublist.cons_cons _ (List.Sublist.cons _ (List.Sublist.cons _ (List.Sublist.cons_cons _ (List.Sublist.cons_cons _ (List.Sublist.cons _ (List.Sublist.cons _ List.Sublist.slnil)))))))
   refine eG (aG rfl (aF (vs := [_, _]) aA.out (hh.ar (i := 2) (n := 2) rfl rfl) rfl) bg) ?_
   exact ⟨_, _, _, _, rfl, hh.sub (List.sublist_append_left [_, _] _)⟩
end Go.Proofs.YtioilmppidlbnaaGreatDoor
/- The walk through cast.Part. -/
namespace Go.Proofs.YtioilmppidlbnaaGreatDoor
open Go.RowKit
def dX (fx : FX) (hs : List Int) : Int := if fx.e ≠ 0 then fx.e else if hs.any (jl fx.n) = true then 1 else 0
theorem uB (fx : FX) (L : Option Addr) (m2 c2 : Nat) (hs : List Int) (k : Nat) (w : World) (hT : fK w) (hf : fx.at_ w) (hl : fx.rl k) (hS : Sl w L m2 1 (bP hs)) (hm2 : m2 ≤ 1000000) (hz : ∀ h ∈ hs, -9223372036854775808 ≤ h ∧ h ≤ 9223372036854775807) (hE : dX fx hs ≠ 0) :
  Calls Tryz.prog 42 #[.agg #[.slice fx.A fx.n fx.a, .slice fx.B fx.m fx.b], .slice L m2 c2] w fun r w' => r = AU (dX fx hs) ∧ Below w.heap.size w w' := by
 have hh := Hp.start w
 have hck := fun w1 hT1 hb => pK fx k w1 hT1 (hf.ext hb) hl
 by_cases h0 : fx.e = 0
 ·by_cases h1 : hs.any (jl fx.n) = true
  ·have hE2 : dX fx hs = 1 := by unfold dX; rw [if_neg (by omega), if_pos h1]
   refine aj (N := 51) (l := [.agg #[.slice fx.A fx.n fx.a, .slice fx.B fx.m fx.b], .slice L m2 c2]) Tryz.func42 rfl rfl (by simp) ?_
   refine sr ?_
   refine cw hh [_,_] ?_
   intro b2 w2 hh
   refine cf hh ?_
   intro b4 w4 hh
   refine aI (aa (ah (sr ?_)))
   refine da hh 1 [_,_] ?_
   refine bB hh (hck _ (hT.hp hh) hh.below) rfl ?_
   intro w14 hh
   refine aI (aa (sr (mI ?_)))
   refine gA (aa (cF (ak (ai (ah (sr (mL ?_)))))))
   refine kt rfl (aM (pX rfl) bE) (by decide) ?_
   have hany := fun b w1 hb hp => jx L m2 c2 hs fx.A fx.n fx.a b w1 (hS.ext hb) hm2 hp hz
   rw [h1] at hany
   refine bB hh (hany _ _ hh.below (hh.eQ (i := 1) (o := 0) rfl rfl)) rfl ?_
   intro w21 hh
   refine aa (cT (sr ?_))
   refine fg [_,_] ?_
   refine bD hh 0 [_,_] ?_
   intro ws hh
   replace hh : Hp _ (.blk _ _ [_, _] _ :: _) _ := hh
   refine aI (aa (ao (aQ ?_)))
   refine zt (aG rfl (aF (vs := [_, _]) aA.out (hh.ar (i := 0) (n := 2) rfl rfl) rfl) (dW (fO rfl) bg)) ?_
   exact ⟨by rw [hE2]; rfl, hh.below⟩
  ·exact absurd (by unfold dX; rw [if_neg (by omega), if_neg h1]) hE
 ·have hE2 : dX fx hs = fx.e := by unfold dX; rw [if_pos h0]
  refine aj (N := 51) (l := [.agg #[.slice fx.A fx.n fx.a, .slice fx.B fx.m fx.b], .slice L m2 c2]) Tryz.func42 rfl rfl (by simp) ?_
  refine sr ?_
  refine cw hh [_,_] ?_
  intro b2 w2 hh
  refine cf hh ?_
  intro b4 w4 hh
  refine aI (aa (ah (sr ?_)))
  refine da hh 1 [_,_] ?_
  refine bB hh (hck _ (hT.hp hh) hh.below) rfl ?_
  intro w14 hh
  refine aI (aa (sr (mI ?_)))
  refine gA (aa (cT (sr ?_)))
  refine fg [_,_] (mI ?_)
  refine bD hh 0 [_,_] ?_
  intro ws hh
  replace hh : Hp _ (.blk _ _ [_, _] _ :: _) _ := hh
  refine aI (aa (ao (aQ ?_)))
  refine zt (aG rfl (aF (vs := [_, _]) aA.out (hh.ar (i := 0) (n := 2) rfl rfl) rfl) (dW (fO rfl) bg)) ?_
  exact ⟨by rw [hE2]; rfl, hh.below⟩
end Go.Proofs.YtioilmppidlbnaaGreatDoor
/- The last bit of a number. Plain lemma, no program in sight. -/
namespace Go.Proofs.YtioilmppidlbnaaGreatDoor
open Go.RowKit
section
variable {P : Program} {N : Nat} {ops : Array Oper} {Q : Kq} {ρ : Rf} {w : World} {rest : List Oper} {d ty : Nat} {pos : String} {af : Array Edge}
theorem AJ (a : Int) : IntKind.i64.wrap (BitVec.ofInt IntKind.i64.bits a &&& BitVec.ofInt IntKind.i64.bits 1).toNat = a % 2 := by
 have h1 : (BitVec.ofInt IntKind.i64.bits a &&& BitVec.ofInt IntKind.i64.bits 1).toNat = (a % 2).toNat := by
  show (BitVec.ofInt 64 a &&& BitVec.ofInt 64 1).toNat = _
  rw [BitVec.toNat_and, show (BitVec.ofInt 64 1).toNat = 2 ^ 1 - 1 by decide, Nat.and_two_pow_sub_one_eq_mod, BitVec.toNat_ofInt]
  omega
 rw [h1, gR (by omega) (by omega)]
 omega
theorem vM {t u : Nat} {x y : Operand} {a : Int} (hx : ev ρ x = .int .i64 a) (hy : ev ρ y = .int .i64 1) (hN : d < N) (kk : WL .plain P N ops Q rest (cm ρ d (.int .i64 (a % 2))) w) : WL .plain P N ops Q (⟨some d, .binOp .and t x y u, ty, pos, af, none⟩ :: rest) ρ w :=
 a8 rfl rfl hN (by rw [yg hx hy, AJ]) kk
end
end Go.Proofs.YtioilmppidlbnaaGreatDoor
/- The walk through cast.Part, the good ending. -/
namespace Go.Proofs.YtioilmppidlbnaaGreatDoor
open Go.RowKit
theorem wk (fx : FX) (L : Option Addr) (m2 c2 : Nat) (hs : List Int) (k q D : Nat) (w : World) (hT : fK w) (hf : fx.at_ w) (hl : fx.rl k) (hcap : fx.n ≤ fx.a) (hS : Sl w L m2 1 (bP hs)) (hm2 : m2 ≤ 1000000) (hz : ∀ h ∈ hs, -9223372036854775808 ≤ h ∧ h ≤ 9223372036854775807) (hE : dX fx hs = 0)
  (h2s : Sz q (ck (-1))) (h2t : Sz q (1 - ck (-1))) (hq : q ≤ 2000) (hdD : ∀ d ∈ fx.ns, d ≤ D) (hD : D ≤ 127) (hk : k + m2 * (260 + 2 * (q * D)) + fx.m * (260 + 2 * (q * D)) ≤ 300000) :
  Calls Tryz.prog 42 #[.agg #[.slice fx.A fx.n fx.a, .slice fx.B fx.m fx.b], .slice L m2 c2] w fun r w' => ∃ A a B b, r = .returned (.tuple #[.agg #[.slice A fx.n a, .slice B fx.m b], .int .i64 0]) ∧ Hp w [.row B fx.m b 39 3 (br NR.cells ((fZ fx.ns (fx.cs.map NR.d) hs).map nR)), .row A fx.n a 3 1 (bP fx.ds)] w' := by
 have hh := Hp.start w
 have hck := fun w1 hT1 hb => pK fx k w1 hT1 (hf.ext hb) hl
 have hn20 := hl.zF
 have hm60 := hl.Ay
 have h0 : fx.e = 0 := by
  refine Classical.byContradiction fun h => ?_
  unfold dX at hE
  rw [if_pos h] at hE
  exact h hE
 have h1 : hs.any (jl fx.n) = false := by
  cases h : hs.any (jl fx.n) with
  | false => rfl
  | true => unfold dX at hE; rw [if_neg (by omega), if_pos h] at hE; exact absurd hE (by decide)
 refine aj (N := 51) (l := [.agg #[.slice fx.A fx.n fx.a, .slice fx.B fx.m fx.b], .slice L m2 c2]) Tryz.func42 rfl rfl (by simp) ?_
 refine sr ?_
 refine cw hh [_,_] ?_
 intro b2 w2 hh
 refine cf hh ?_
 intro b4 w4 hh
 refine aI (aa (ah (sr ?_)))
 refine da hh 1 [_,_] ?_
 refine bB hh (hck _ (hT.hp hh) hh.below) rfl ?_
 intro w14 hh
 refine aI (aa (sr (mI ?_)))
 refine gA (aa (cF (ak (ai (ah (sr (mL ?_)))))))
 refine kt rfl (aM (pX rfl) bE) (by decide) ?_
 have hany := fun b w1 hb hp => jx L m2 c2 hs fx.A fx.n fx.a b w1 (hS.ext hb) hm2 hp hz
 rw [h1] at hany
 refine bB hh (hany _ _ hh.below (hh.eQ (i := 1) (o := 0) rfl rfl)) rfl ?_
 intro w21 hh
 refine aa (cF (ak (ai (ah ?_))))
 refine aE 8 [[(2, none)], [(23, some 0)], [(24, some 1)], [(2, none)], [(26, some 3)], [(27, some 4)], [(25, some 2), (28, some 5)], []] [(7, 7), (6, 29), (5, 28), (4, 27), (3, 26), (2, 25), (1, 24), (0, 23)] hh mixed (by kernel_rfl) ?_
 refine dT ?_
 refine eY 1 ?_
 refine bC (i := 2) (np hh.sz 3 fx.n 1 (bP fx.ds)) (np.ext) ?_ ?_
 ·intro ρ1 w1 hj hR
  exact bV rfl (bJ av.out (aM (show ρ1 24 = Value.slice _ _ _ from hR.1) bE)) (kL fx.A fx.n fx.a _ w1 (hf.dg.ext hj.hp.below) (by omega)) (fun _ _ ⟨A, c, hq, ho, hb⟩ => ⟨_, hq, hb, A, c, rfl, fq ho hj.bl.size⟩)
 refine dT ?_
 refine eY 1 ?_
 refine bC (i := 5) (np hh.sz 39 fx.m 3 (br NR.cells fx.cs)) (np.ext) ?_ ?_
 ·intro ρ1 w1 hj hR
  exact bV rfl (bJ av.out (aM (show ρ1 27 = Value.slice _ _ _ from hR.1) bE)) (iL fx.B fx.m fx.b _ w1 (hf.nm.ext hj.hp.below) (by omega)) (fun _ _ ⟨A, c, hq, ho, hb⟩ => ⟨_, hq, hb, A, c, rfl, fq ho hj.bl.size⟩)
 refine bC (i := 6) (kD hh.sz 3 39 fx.n 1 fx.m 3 (bP fx.ds) (br NR.cells fx.cs)) (kD.ext) ?_ ?_
 ·intro ρ1 w1 hj hR
  exact let ⟨A, c, e1, o1⟩ := hR.1; let ⟨B, k, e2, o2⟩ := hR.2.1; gh rfl (mF (cs := [_, _]) aA.out iF.out (a6 e1 (a6 e2 bR)) rfl) ⟨Below.refl _ _, A, c, B, k, rfl, o1, o2⟩
 refine bC (i := 7) (bK _ 28 _) bK.ext (fun ρ1 w1 hj hR => dA aA.out hj.bl (fun v w2 h hb => ⟨hb, h⟩)) ?_
 refine aW ?_
 intro f W hJ hV
 have hb_6 := hJ.bl
 obtain ⟨v7, v29, v28, v27, v26, v25, v24, v23, _⟩ := hV
 obtain ⟨g25, u25, e25, -⟩ := v25
 obtain ⟨g28, u28, e28, -⟩ := v28
 obtain ⟨A29, c29, B29, k29, e29, o29, p29⟩ := v29
 obtain ⟨b7, e7, hl7, hc7⟩ : bK _ _ _ (f 7) W := v7
 replace hh := JJ.mP hJ hh hl7 hc7 o29 p29 (by decide) (by decide) (by decide)
 refine aJ (aZ (ae e7 (ae e29 (ae e28 (ae v27 (ae v26 (ae e25 (ae v24 (ae v23 aH))))))))) ?_
 dsimp only [bQ]
 clear e25 e28 e29 e7 hJ
 refine bD hh 0 [_,_] ?_
 intro ws hh
 replace hh : Hp _ (.blk _ _ [_, _] _ :: _) _ := hh
 refine aa (ah (sr (mL (a7 (mI (aa (al ?_)))))))
 obtain ⟨hdeg, hnum, h12, hlow, hcnt, hmax⟩ := FX.fv h0
 have hln : fx.ds.length = fx.n := by have := hf.dg.1; simpa [bP] using this
 have hlm := hf.nm.eI NR.len (by decide)
 have hnl : fx.ns.length = fx.n := by unfold FX.ns; rw [List.length_map]; exact hln
 have hl2 : hs.length = m2 := by have := hS.1; simpa [bP] using this
 have hxl : (fx.cs.map NR.d).length = aC fx.ns := by rw [List.length_map, hcnt]
 have hxz : ∀ x ∈ fx.cs.map NR.d, Sz k x := fun x h => by
  obtain ⟨c, hc, rfl⟩ := List.mem_map.1 h
  exact (hl.num c hc).2
 have hgood : ∀ h ∈ hs, 0 ≤ h ∧ h / 2 < fx.ns.length := fun h hm => by
  have h4 := List.any_eq_false.1 h1 h hm
  unfold jl at h4
  rw [decide_eq_true_iff] at h4
  have h3 : 0 ≤ h := by omega
  rw [Int.tdiv_eq_ediv_of_nonneg h3] at h4
  omega
 have hqD : q * D ≤ 2000 * 127 := Nat.mul_le_mul hq hD
 clear hany hck
 rw [show br NR.cells fx.cs = br NR.cells ((fZ fx.ns (fx.cs.map NR.d) (hs.take 0)).map nR) by rw [show fZ fx.ns (fx.cs.map NR.d) (hs.take 0) = fx.cs.map NR.d from rfl, ← hnum]] at hh
 refine bx [9, 10, 11, 12, 32, 33, 34, 35, 36, 37, 38, 39, 40, 41, 42, 43, 44, 45, 46, 47, 48, 49] 32
  (fun v w' => ∃ (i a b : Nat) (A B : Option Addr), i ≤ m2 ∧ v = .int .i64 i ∧ Hp w [.blk b7 28 [.slice A fx.n a, .slice B fx.m b] (0, 0), .row A fx.n a 3 1 (bP fx.ds), .row B fx.m b 39 3 (br NR.cells ((fZ fx.ns (fx.cs.map NR.d) (hs.take i)).map nR)), .blk b4 28 [.slice none 0 0, .slice none 0 0] (0, 0), .blk b2 28 [.slice fx.A fx.n fx.a, .slice fx.B fx.m fx.b] (0, 0)] w')
  (fun v _ => m2 - (intOf v).toNat) ?_ ?_
 ·exact ⟨0, _, _, _, _, Nat.zero_le _, rfl, hh⟩
 ·clear hh
  rintro ρ' v w' ⟨i, a, b, A, B, hi, rfl, hh⟩
  by_cases hlt : i < m2
  ·obtain ⟨h, hh1⟩ := aO (l := hs) (k := i) (by omega)
   have hgi := cg hh1
   have hmem := List.mem_of_getElem? hh1
   obtain ⟨g0, g1⟩ := hgood h hmem
   obtain ⟨z0, z1⟩ := hz h hmem
   obtain ⟨ad, rfl, hr⟩ := hS.at_ (by omega)
   have hcap7 := hh.k5 (i := 1) rfl
   have htl : (hs.take i).length = i := by rw [List.length_take]; omega
   have hys := nu hdD hD h2s h2t (hs.take i) k _ (fun y hy => hgood y (List.mem_of_mem_take hy)) hxl hxz
   have hyl := uy (ns := fx.ns) hxl (hs.take i)
   have hsn := ku fx.ns (fx.cs.map NR.d) (hs.take i) h
   rw [← a9 hh1] at hsn
   rw [htl] at hys
   generalize fZ fx.ns (fx.cs.map NR.d) (hs.take i) = ys at *
   have hback : (ys.map nR).map NR.d = ys := by rw [List.map_map]; exact (List.map_congr_left fun x _ => dH x).trans (List.map_id ys)
   have hiK : i * (260 + 2 * (q * D)) ≤ m2 * (260 + 2 * (q * D)) := Nat.mul_le_mul_right _ hi
   have hlim : (⟨A, fx.n, a, B, fx.m, b, fx.ds, ys.map nR⟩ : FX).rl (k + i * (260 + 2 * (q * D))) := ⟨hl.zF, hl.Ay, fun c hc => by
    obtain ⟨y, hy, rfl⟩ := List.mem_map.1 hc
    have := hys y hy
    exact ⟨this.ok (by omega), by rw [dH]; exact this⟩⟩
   have hcut : fM ⟨A, fx.n, a, B, fx.m, b, fx.ds, ys.map nR⟩ (h / 2) = 0 := by
    have e1 : (⟨A, fx.n, a, B, fx.m, b, fx.ds, ys.map nR⟩ : FX).e = 0 := FV.ok (xs := ys) ⟨hdeg, rfl, h12, hlow, hyl, hmax⟩
    unfold fM
    rw [if_neg (fun e => e e1), if_neg (by show ¬(h / 2 < 0 ∨ (fx.n : Int) ≤ h / 2); omega)]
   have hkk : ∀ d ∈ fx.ns, k + i * (260 + 2 * (q * D)) + fx.m * (260 + 2 * (q * d)) ≤ 300000 := fun d hd => by
    have h5 := Nat.mul_le_mul_left q (hdD d hd)
    have h6 := Nat.mul_le_mul_left fx.m (show 260 + 2 * (q * d) ≤ 260 + 2 * (q * D) by omega)
    omega
   have hcall := fun w1 hT1 hA hB => ou ⟨A, fx.n, a, B, fx.m, b, fx.ds, ys.map nR⟩ (h / 2) (k + i * (260 + 2 * (q * D))) q w1 hT1 ⟨hA, hB⟩ hlim hcap7 h2s h2t hq (fun _ => hkk) hcut
   simp only [hback] at hcall
   unfold qG at hsn
   clear hys hlim hcut hkk
   by_cases hp : h % 2 = 1
   ·rw [decide_eq_true hp] at hsn
    refine sr ?_
    refine aK (aa (ah (cT (ak (ai (ah (al (sr ?_))))))))
    refine aX (k := i) aN.out aA.size rfl rfl (by omega) (by omega) (by decide) ?_
    refine aV aA.out rfl ((hr.ext hh.below).fJ (by assumption)) (by decide) ?_
    refine aI (aa (sr ?_))
    refine da hh 0 [_,_] (mI ?_)
    refine gk rfl rfl (by omega) (by omega) (by omega) (by decide) ?_
    refine aU (hcall _ (hT.hp hh) (hh.bf (i := 1) rfl) (hh.bf (i := 2) rfl)) av.out rfl (by decide) ?_
    rintro e_ w40 ⟨A1, a1, B1, b1, A2, a2, B2, b2', rfl, h2⟩
    refine ⟨_, rfl, ?_⟩
    replace hh := hh.join h2
    simp only [List.cons_append, List.nil_append] at hh
    clear h2
    refine mT ?_
    refine fp ?_
    refine fp ?_
    refine fp ?_
    refine cf hh ?_
    intro b10 w10 hh
    refine cf hh ?_
    intro b11 w11 hh
    refine bD hh 1 [_,_] ?_
    intro ws hh
    replace hh : Hp _ (_ :: .blk _ _ [_, _] _ :: _) _ := hh
    refine bD hh 0 [_,_] ?_
    intro ws hh
    replace hh : Hp _ (.blk _ _ [_, _] _ :: _) _ := hh
    refine aI (aa (sr ?_))
    refine da hh 1 [_,_] ?_
    refine bD hh 6 [_,_] ?_
    intro ws hh
    replace hh : Hp _ (_ :: _ :: _ :: _ :: _ :: _ :: .blk _ _ [_, _] _ :: _) _ := hh
    refine aa (sr (mI ?_))
    refine vM rfl rfl (by decide) ?_
    refine cV (aa (cT (aq ?_)))
    refine da hh 0 [_,_] ?_
    refine bD hh 6 [_,_] ?_
    intro ws hh
    replace hh : Hp _ (_ :: _ :: _ :: _ :: _ :: _ :: .blk _ _ [_, _] _ :: _) _ := hh
    refine aD (a0 (ai (aq ?_)))
    refine bz (mI (aD (ai ?_)))
    replace hh := hh.sub (List.Sublist.cons _ (List.Sublist.cons _ (List.Sublist.cons_cons _ (List.Sublist.cons_cons _ (List.Sublist.cons _ (List.Sublist.cons _ (List.Sublist.cons_cons _ (List.Sublist.cons _ (List.Sublist.cons _ (List.Sublist.cons_cons _ (List.Sublist.cons_cons _ List.Sublist.slnil)))))))))))
    replace hh := hh.perm (List.perm_middle (l₁ := [_]))
    simp only [List.cons_append, List.nil_append] at hh
    replace hh := hh.perm (List.perm_middle (l₁ := [_, _]))
    simp only [List.cons_append, List.nil_append] at hh
    refine ⟨⟨i + 1, _, _, _, _, by omega, rfl, by rw [hsn]; exact hh⟩, by show m2 - (i + 1) < m2 - i; omega, ?_⟩
    (repeat (first | exact aw _ _ _ | refine az rfl ?_ | refine au rfl ?_))
   ·rw [decide_eq_false hp] at hsn
    refine sr ?_
    refine aK (aa (ah (cT (ak (ai (ah (al (sr ?_))))))))
    refine aX (k := i) aN.out aA.size rfl rfl (by omega) (by omega) (by decide) ?_
    refine aV aA.out rfl ((hr.ext hh.below).fJ (by assumption)) (by decide) ?_
    refine aI (aa (sr ?_))
    refine da hh 0 [_,_] (mI ?_)
    refine gk rfl rfl (by omega) (by omega) (by omega) (by decide) ?_
    refine aU (hcall _ (hT.hp hh) (hh.bf (i := 1) rfl) (hh.bf (i := 2) rfl)) av.out rfl (by decide) ?_
    rintro e_ w40 ⟨A1, a1, B1, b1, A2, a2, B2, b2', rfl, h2⟩
    refine ⟨_, rfl, ?_⟩
    replace hh := hh.join h2
    simp only [List.cons_append, List.nil_append] at hh
    clear h2
    refine mT ?_
    refine fp ?_
    refine fp ?_
    refine fp ?_
    refine cf hh ?_
    intro b10 w10 hh
    refine cf hh ?_
    intro b11 w11 hh
    refine bD hh 1 [_,_] ?_
    intro ws hh
    replace hh : Hp _ (_ :: .blk _ _ [_, _] _ :: _) _ := hh
    refine bD hh 0 [_,_] ?_
    intro ws hh
    replace hh : Hp _ (.blk _ _ [_, _] _ :: _) _ := hh
    refine aI (aa (sr ?_))
    refine da hh 1 [_,_] ?_
    refine bD hh 6 [_,_] ?_
    intro ws hh
    replace hh : Hp _ (_ :: _ :: _ :: _ :: _ :: _ :: .blk _ _ [_, _] _ :: _) _ := hh
    refine aa (sr (mI ?_))
    refine vM rfl rfl (by decide) ?_
    refine cV (aa (cF (ak (a0 (ai (aq ?_))))))
    refine bz (mI (aD (ai ?_)))
    replace hh := hh.sub (List.Sublist.cons _ (List.Sublist.cons _ (List.Sublist.cons _ (List.Sublist.cons _ (List.Sublist.cons_cons _ (List.Sublist.cons_cons _ (List.Sublist.cons_cons _ (List.Sublist.cons _ (List.Sublist.cons _ (List.Sublist.cons_cons _ (List.Sublist.cons_cons _ List.Sublist.slnil)))))))))))
    replace hh := hh.perm (List.perm_middle (l₁ := [_]))
    simp only [List.cons_append, List.nil_append] at hh
    replace hh := hh.perm (List.perm_middle (l₁ := [_]))
    simp only [List.cons_append, List.nil_append] at hh
    replace hh := hh.perm (List.perm_middle (l₁ := [_, _]))
    simp only [List.cons_append, List.nil_append] at hh
    refine ⟨⟨i + 1, _, _, _, _, by omega, rfl, by rw [hsn]; exact hh⟩, by show m2 - (i + 1) < m2 - i; omega, ?_⟩
    (repeat (first | exact aw _ _ _ | refine az rfl ?_ | refine au rfl ?_))
  ·obtain rfl : i = m2 := by omega
   rw [List.take_of_length_le (by omega)] at hh
   refine sr ?_
   refine aK (aa (ah (cF ?_)))
   refine aY ?_
   refine ay (ay (bm (ai (sr ?_))))
   refine da hh 0 [_,_] ?_
   refine bD hh 3 [_,_] ?_
   intro ws hh
   replace hh : Hp _ (_ :: _ :: _ :: .blk _ _ [_, _] _ :: _) _ := hh
   refine aI (aa (ao ?_))
   replace hh := hh.sub (List.Sublist.cons _ (List.Sublist.cons_cons _ (List.Sublist.cons_cons _ (List.Sublist.cons_cons _ (List.Sublist.cons _ List.Sublist.slnil)))))
   refine zt (aG rfl (aF (vs := [_, _]) aA.out (hh.ar (i := 2) (n := 2) rfl rfl) rfl) (dW (fO rfl) bg)) ?_
   exact ⟨_, _, _, _, rfl, (hh.sub (List.sublist_append_left [_, _] _)).perm (List.Perm.swap _ _ _)⟩
end Go.Proofs.YtioilmppidlbnaaGreatDoor
/- The walks through ogeeref14.Add, Mul and Scale. -/
namespace Go.Proofs.YtioilmppidlbnaaGreatDoor
open Go.RowKit
def vL (R : List HE) (g : FX) : Prop := R = [g.gI, g.gC] ∨ g.m = 0 ∧ R = [g.gC]
theorem vL.at_ {w w' : World} {R H : List HE} {g : FX} (h : vL R g) (hc : g.cs.length = g.m) (hs : ∀ x ∈ R, x ∈ H) (hh : Hp w H w') : g.at_ w' := by
 rcases h with rfl | ⟨h0, rfl⟩
 ·exact hh.ec (hs _ List.mem_cons_self) (hs _ (List.mem_cons_of_mem _ List.mem_cons_self))
 ·refine ⟨mr (hh.own _ (hs _ List.mem_cons_self)), ?_⟩
  rw [h0] at hc ⊢
  rw [List.eq_nil_of_length_eq_zero hc]
  exact ⟨rfl, fun h => absurd h (by decide)⟩
theorem Av (f : FX) (w : World) (hf : f.at_ w) (hn : f.n ≤ 1000000) (hm : f.m ≤ 1000000) :
  Calls Tryz.prog 14 #[.agg #[.slice f.A f.n f.a, .slice f.B f.m f.b]] w fun r w' => ∃ (g : FX) (R : List HE), g.ds = f.ds ∧ g.cs = f.cs ∧ g.n = f.n ∧ g.m = f.m ∧ r = .returned (.agg #[.slice g.A g.n g.a, .slice g.B g.m g.b]) ∧ vL R g ∧ Hp w R w' :=
 (p7 f.A f.B f.n f.a f.m f.b f.ds f.cs w hf.dg hf.nm hn hm).mono fun _ _ ⟨A, a, B, b, R, h1, h2, h3⟩ => ⟨⟨A, f.n, a, B, f.m, b, f.ds, f.cs⟩, R, rfl, rfl, rfl, rfl, h1, h2, h3⟩
end Go.Proofs.YtioilmppidlbnaaGreatDoor
/- The contracts of package cast once more, each with one ending: forms that one owns, empty where there is an error. -/
namespace Go.Proofs.YtioilmppidlbnaaGreatDoor
open Go.RowKit
theorem oR {fx : FX} {ax : Int} (h : fM fx ax = 0) : fx.e = 0 ∧ 0 ≤ ax ∧ ax < fx.n := by
 unfold fM at h
 split at h
 ·rename_i h1; exact absurd h h1
 ·rename_i h1
  split at h
  ·cases h
  ·omega
theorem rL {fx : FX} {hs : List Int} (h : dX fx hs = 0) : fx.e = 0 := by
 unfold dX at h
 split at h
 ·rename_i h1; exact absurd h h1
 ·rename_i h1; omega
theorem lK {fx : FX} {A : Option Addr} {a : Nat} {B : Option Addr} {b : Nat} {ys : List Dyadic} (k : Nat) (h0 : fx.e = 0) (hl : fx.rl k) : Out 0 fx.ns ys ⟨A, fx.n, a, B, fx.m, b, fx.ds, ys.map nR⟩ :=
 ⟨(FX.fv h0).1, rfl, by show fx.n ≤ 100000; have := hl.zF; omega, by show fx.m ≤ 1000000; have := hl.Ay; omega⟩
theorem zD (fx : FX) (ax : Int) (sn : NR) (s : Dyadic) (k q : Nat) (w : World) (hT : fK w) (hf : fx.at_ w) (hl : fx.rl k) (hcap : fx.n ≤ fx.a) (vs : mi q sn s) (hs1 : Sz q (1 - s)) (hq : q ≤ 2000) (hk : fx.e = 0 → ∀ d ∈ fx.ns, k + fx.m * (260 + 2 * (q * d)) ≤ 300000) :
  Calls Tryz.prog 38 #[.agg #[.slice fx.A fx.n fx.a, .slice fx.B fx.m fx.b], .int .i64 ax, .agg #[.bool sn.neg, .string sn.bk, .int .i64 sn.e]] w fun r w' => ∃ g h : FX, Out (fM fx ax) fx.ns (fN false s fx.ns ax.toNat (fx.cs.map NR.d)) g ∧ Out (fM fx ax) fx.ns (fN true s fx.ns ax.toNat (fx.cs.map NR.d)) h ∧
   r = .returned (.tuple #[.agg #[.slice g.A g.n g.a, .slice g.B g.m g.b], .agg #[.slice h.A h.n h.a, .slice h.B h.m h.b], .int .i64 (fM fx ax)]) ∧ Hp w [h.gI, h.gC, g.gC, g.gI] w' := by
 refine (km fx ax sn s k q w hT hf hl hcap vs hs1 hq hk).mono fun r w' ⟨hb, h⟩ => ?_
 rcases h with ⟨h0, rfl⟩ | ⟨h0, A1, a1, B1, b1, A2, a2, B2, b2, rfl, hh⟩
 ·exact ⟨FX.nil, FX.nil, Out.err h0, Out.err h0, rfl, (((Hp.start w).ext hb).uL).uL.perm (List.Perm.cons _ (List.Perm.cons _ (List.Perm.swap _ _ _)))⟩
 ·have he := (oR h0).1
  rw [h0]
  exact ⟨_, _, lK (A := A1) (a := a1) (B := B1) (b := b1) k he hl, lK (A := A2) (a := a2) (B := B2) (b := b2) k he hl, rfl, hh⟩
theorem vw (fx : FX) (ax : Int) (k q : Nat) (w : World) (hT : fK w) (hf : fx.at_ w) (hl : fx.rl k) (hcap : fx.n ≤ fx.a) (hs : Sz q (ck (-1))) (hs1 : Sz q (1 - ck (-1))) (hq : q ≤ 2000) (hk : fx.e = 0 → ∀ d ∈ fx.ns, k + fx.m * (260 + 2 * (q * d)) ≤ 300000) :
  Calls Tryz.prog 40 #[.agg #[.slice fx.A fx.n fx.a, .slice fx.B fx.m fx.b], .int .i64 ax] w fun r w' => ∃ g h : FX, Out (fM fx ax) fx.ns (fN false (ck (-1)) fx.ns ax.toNat (fx.cs.map NR.d)) g ∧ Out (fM fx ax) fx.ns (fN true (ck (-1)) fx.ns ax.toNat (fx.cs.map NR.d)) h ∧
   r = .returned (.tuple #[.agg #[.slice g.A g.n g.a, .slice g.B g.m g.b], .agg #[.slice h.A h.n h.a, .slice h.B h.m h.b], .int .i64 (fM fx ax)]) ∧ Hp w [h.gI, h.gC, g.gC, g.gI] w' := by
 by_cases h0 : fM fx ax = 0
 ·refine (ou fx ax k q w hT hf hl hcap hs hs1 hq hk h0).mono fun r w' ⟨A1, a1, B1, b1, A2, a2, B2, b2, hr, hh⟩ => ?_
  have he := (oR h0).1
  rw [h0]
  exact ⟨_, _, lK (A := A1) (a := a1) (B := B1) (b := b1) k he hl, lK (A := A2) (a := a2) (B := B2) (b := b2) k he hl, hr, hh⟩
 ·refine (lh fx ax k q w hT hf hl hcap hs hs1 hq hk h0).mono fun r w' ⟨hb, hr⟩ => ?_
  exact ⟨FX.nil, FX.nil, Out.err h0, Out.err h0, hr, (((Hp.start w).ext hb).uL).uL.perm (List.Perm.cons _ (List.Perm.cons _ (List.Perm.swap _ _ _)))⟩
theorem s8 (fx : FX) (L : Option Addr) (m2 c2 : Nat) (hs : List Int) (k q D : Nat) (w : World) (hT : fK w) (hf : fx.at_ w) (hl : fx.rl k) (hcap : fx.n ≤ fx.a) (hS : Sl w L m2 1 (bP hs)) (hm2 : m2 ≤ 1000000) (hz : ∀ h ∈ hs, -9223372036854775808 ≤ h ∧ h ≤ 9223372036854775807)
  (h2s : Sz q (ck (-1))) (h2t : Sz q (1 - ck (-1))) (hq : q ≤ 2000) (hdD : fx.e = 0 → ∀ d ∈ fx.ns, d ≤ D) (hD : D ≤ 127) (hk : k + m2 * (260 + 2 * (q * D)) + fx.m * (260 + 2 * (q * D)) ≤ 300000) :
  Calls Tryz.prog 42 #[.agg #[.slice fx.A fx.n fx.a, .slice fx.B fx.m fx.b], .slice L m2 c2] w fun r w' => ∃ g : FX, Out (dX fx hs) fx.ns (fZ fx.ns (fx.cs.map NR.d) hs) g ∧ r = .returned (.tuple #[.agg #[.slice g.A g.n g.a, .slice g.B g.m g.b], .int .i64 (dX fx hs)]) ∧ Hp w [g.gI, g.gC] w' := by
 by_cases h0 : dX fx hs = 0
 ·have he := rL h0
  refine (wk fx L m2 c2 hs k q D w hT hf hl hcap hS hm2 hz h0 h2s h2t hq (hdD he) hD hk).mono fun r w' ⟨A, a, B, b, hr, hh⟩ => ?_
  rw [h0]
  exact ⟨_, lK (A := A) (a := a) (B := B) (b := b) k he hl, hr, hh⟩
 ·refine (uB fx L m2 c2 hs k w hT hf hl hS hm2 hz h0).mono fun r w' ⟨hr, hb⟩ => ?_
  exact ⟨FX.nil, Out.err h0, hr, ((Hp.start w).ext hb).uL⟩
end Go.Proofs.YtioilmppidlbnaaGreatDoor
/- The walks through ogeeref13.Cut and Part. -/
namespace Go.Proofs.YtioilmppidlbnaaGreatDoor
open Go.RowKit
theorem vY {fx : FX} {w : World} (h0 : fx.e = 0) (hf : fx.at_ w) : fx.ds = bL fx.ns ∧ fx.m = aC fx.ns ∧ fx.ns.length = fx.n ∧ Sl w fx.A fx.n 1 (bP (bL fx.ns)) ∧ Sl w fx.B (aC fx.ns) 3 (br NR.cells ((fx.cs.map NR.d).map nR)) := by
 obtain ⟨hdeg, hnum, h12, hlow, hcnt, hmax⟩ := FX.fv h0
 have hm : fx.m = aC fx.ns := by rw [← hf.ln.2, hcnt]
 refine ⟨hdeg, hm, ?_, ?_, ?_⟩
 ·unfold FX.ns; rw [List.length_map]; exact hf.ln.1
 ·rw [← hdeg]; exact hf.dg
 ·rw [← hm, ← hnum]; exact hf.nm
theorem xI (fx : FX) (L : Option Addr) (m2 c2 : Nat) (hs : List Int) (k q D : Nat) (w : World) (hf : fx.at_ w) (hl : fx.rl k) (hS : Sl w L m2 1 (bP hs)) (hm2 : m2 ≤ 1000000) (hz : ∀ h ∈ hs, -9223372036854775808 ≤ h ∧ h ≤ 9223372036854775807)
  (h2s : Sz q (ck (-1))) (h2t : Sz q (1 - ck (-1))) (hq : q ≤ 2000) (hdD : fx.e = 0 → ∀ d ∈ fx.ns, d ≤ D) (hD : D ≤ 127) (hk : k + m2 * (260 + 2 * (q * D)) ≤ 1000000) :
  Calls Tryz.prog 43 #[.agg #[.slice fx.A fx.n fx.a, .slice fx.B fx.m fx.b], .slice L m2 c2] w fun r w' => ∃ (g : FX) (R : List HE), Out (dX fx hs) fx.ns (fZ fx.ns (fx.cs.map NR.d) hs) g ∧ Kept [fx] R g ∧ r = .returned (.tuple #[.agg #[.slice g.A g.n g.a, .slice g.B g.m g.b], .int .i64 (dX fx hs)]) ∧ Hp w R w' := by
 have hh := Hp.start w
 have hnil : ∀ w1, Below w.heap.size w w1 → Kept [fx] [FX.nil.gI, FX.nil.gC] FX.nil ∧ Hp w [FX.nil.gI, FX.nil.gC] w1 := fun w1 hb => ⟨.inr ⟨List.mem_cons_self, List.mem_cons_of_mem _ List.mem_cons_self⟩, ((Hp.start w).ext hb).uL⟩
 have hck := fun w1 hb => wg fx k w1 (hf.ext hb) hl
 have hl2 : hs.length = m2 := by have := hS.1; simpa [bP] using this
 by_cases h0 : fx.e = 0
 ·refine aj (N := 58) (l := [.agg #[.slice fx.A fx.n fx.a, .slice fx.B fx.m fx.b], .slice L m2 c2]) Tryz.func43 rfl rfl (by simp) ?_
  refine sr ?_
  refine cw hh [_,_] ?_
  intro b2 w2 hh
  refine cf hh ?_
  intro b4 w4 hh
  refine aI (aa (ah (sr ?_)))
  refine da hh 1 [_,_] ?_
  refine bB hh (hck _ hh.below) rfl ?_
  intro w10 hh
  refine aI (aa (sr (mI ?_)))
  refine gA (aa (cF (ak (ai (ah (sr (aI (aa (al ?_)))))))))
  clear hck
  refine bx [5, 7, 15, 16, 17, 18, 19, 20, 21, 22, 23, 24, 25, 26, 27, 28, 29, 30, 31, 32, 33, 34, 35, 36, 37] 7
   (fun v w' => ∃ i : Nat, i ≤ m2 ∧ v = .int .i64 i ∧ (hs.take i).any (jl fx.n) = false ∧ Hp w [.blk b4 28 [.slice none 0 0, .slice none 0 0] (0, 0), .blk b2 28 [.slice fx.A fx.n fx.a, .slice fx.B fx.m fx.b] (0, 0)] w')
   (fun v _ => m2 - (intOf v).toNat) ?_ ?_
  ·exact ⟨0, Nat.zero_le _, rfl, rfl, hh⟩
  ·clear hh
   rintro ρ' v w' ⟨i, hi, rfl, hall, hh⟩
   by_cases hlt : i < m2
   ·obtain ⟨h, hh1⟩ := aO (l := hs) (k := i) (by omega)
    have hgi := cg hh1
    have hmem := List.mem_of_getElem? hh1
    obtain ⟨z0, z1⟩ := hz h hmem
    obtain ⟨ad, rfl, hr⟩ := hS.at_ (by omega)
    have hbad : jl fx.n h = true → dX fx hs = 1 := fun hb => by
     unfold dX
     rw [if_neg (by omega), if_pos (List.any_eq_true.2 ⟨h, hmem, hb⟩)]
    have htd : 0 ≤ h → h.tdiv 2 = h / 2 := fun h3 => Int.tdiv_eq_ediv_of_nonneg h3
    by_cases h1 : h < 0
    ·have hE := hbad (by unfold jl; rw [decide_eq_true (.inl h1)])
     rw [hE]
     have hlc : decide (h < 0) = true := decide_eq_true h1
     refine ah (sr (mI (mL (a7 ?_))))
     refine aK (aa (cT (ak (ai (ah (al (ah ?_)))))))
     refine aE 14 [[(1, none)], [(7, none)], [(21, some 0), (22, some 1)], [(23, some 2)], [(24, some 3)], [(25, some 4)], [(1, none), (26, some 5)], [(7, none), (26, some 5)], [(27, some 6), (28, some 7), (26, some 5)], [(29, some 8), (26, some 5)], [(30, some 9), (26, some 5)], [(2, none), (26, some 5)], [(32, some 11), (26, some 5)], [(33, some 12), (26, some 5)]] [(13, 34), (12, 33), (11, 32), (10, 31), (9, 30), (8, 29), (7, 28), (6, 27), (5, 26), (4, 25), (3, 24), (2, 23), (1, 22), (0, 21)] hh mixed (by kernel_rfl) ?_
     refine g6 ?_
     refine dk ?_
     refine l7 (i) ?_
     refine bh (i := 3) (fun ρ1 w1 hj hR => dt aA.out (show ρ1 23 = Value.pointer _ from hR.1) ((hr.ext hj.hp.below).fJ (by assumption))) ?_
     refine zC ?_
     refine uU ?_
     first | refine dS ?_ | refine dU ?_ | refine dG (g6 ?_)
     first | refine dS ?_ | refine dU ?_ | refine dG (dk ?_)
     first | refine dS ?_ | refine dU ?_ | refine dG (l7 (i) ?_)
     first | refine iS (i := 9) rfl (fun ρ1 w1 hj hR => (show ρ1 26 = Value.bool _ from hR.2.1)) (by decide) ?_ | refine dx_skipU (i := 9) rfl (fun ρ1 w1 hj hR => (show ρ1 26 = undef from hR.2.1)) ?_ | refine jI (i := 9) rfl (fun ρ1 w1 hj hR => (show ρ1 26 = Value.bool _ from hR.2.1)) (fun ρ1 w1 hj hR => dt aA.out (show ρ1 29 = Value.pointer _ from hR.1) ((hr.ext hj.hp.below).fJ (by assumption))) ?_
     first | refine iS (i := 10) rfl (fun ρ1 w1 hj hR => (show ρ1 26 = Value.bool _ from hR.2.1)) (by decide) ?_ | refine dx_skipU (i := 10) rfl (fun ρ1 w1 hj hR => (show ρ1 26 = undef from hR.2.1)) ?_ | refine jI (i := 10) rfl (fun ρ1 w1 hj hR => (show ρ1 26 = Value.bool _ from hR.2.1)) (fun ρ1 w1 hj hR => jv (show ρ1 30 = Value.int _ _ from hR.1) rfl (by omega) (by omega) (by omega)) ?_
     first | refine dS ?_ | refine dU ?_ | refine dG (dT ?_)
     first | refine dS ?_ | refine dU ?_ | refine dG (eY 1 ?_)
     first | refine dS ?_ | refine dU ?_ | refine dG (qa ?_)
     refine aW ?_
     intro f W hJ hV
     have hb_7 := hJ.bl
     obtain ⟨v34, v33, v32, v31, v30, v29, v28, v27, v26, v25, v24, v23, v22, v21, _⟩ := hV
     replace hh := hJ.hp
     refine aJ (aZ (ae v34 (ae v33 (ae v32 (ae v31 (ae v30 (ae v29 (ae v28 (ae v27 (ae v26 (ae v25 (ae v24 (ae v23 (ae v22 (ae v21 aH))))))))))))))) ?_
     dsimp only [bQ]
     clear hJ
     first | refine gS ?_ | (refine gT ?_; refine dn ?_) | refine gV ?_
     first | refine db ?_ | refine de ?_
     refine aa (cT (sr ?_))
     refine fg [_,_] ?_
     refine bD hh 0 [_,_] ?_
     intro ws hh
     replace hh : Hp _ (.blk _ _ [_, _] _ :: _) _ := hh
     refine aI (aa (ao (bZ (aQ (aQ (bZ (aQ ?_)))))))
     refine zt (aG rfl (aF (vs := [_, _]) aA.out (hh.ar (i := 0) (n := 2) rfl rfl) rfl) (dW (fO rfl) bg)) ?_
     exact ⟨FX.nil, _, Out.err (by decide), (hnil _ hh.below).1, rfl, (hnil _ hh.below).2⟩
    ·have htd := htd (by omega)
     by_cases h2 : (fx.n : Int) ≤ h / 2
     ·have hE := hbad (by unfold jl; rw [decide_eq_true (.inr (by rw [htd]; exact h2))])
      rw [hE]
      refine ah (sr (mI (mL (a7 ?_))))
      refine aK (aa (cT (ak (ai (ah (al (ah ?_)))))))
      refine aE 14 [[(1, none)], [(7, none)], [(21, some 0), (22, some 1)], [(23, some 2)], [(24, some 3)], [(25, some 4)], [(1, none), (26, some 5)], [(7, none), (26, some 5)], [(27, some 6), (28, some 7), (26, some 5)], [(29, some 8), (26, some 5)], [(30, some 9), (26, some 5)], [(2, none), (26, some 5)], [(32, some 11), (26, some 5)], [(33, some 12), (26, some 5)]] [(13, 34), (12, 33), (11, 32), (10, 31), (9, 30), (8, 29), (7, 28), (6, 27), (5, 26), (4, 25), (3, 24), (2, 23), (1, 22), (0, 21)] hh mixed (by kernel_rfl) ?_
      refine g6 ?_
      refine dk ?_
      refine l7 (i) ?_
      refine bh (i := 3) (fun ρ1 w1 hj hR => dt aA.out (show ρ1 23 = Value.pointer _ from hR.1) ((hr.ext hj.hp.below).fJ (by assumption))) ?_
      refine zC ?_
      refine uU ?_
      first | refine dS ?_ | refine dU ?_ | refine dG (g6 ?_)
      first | refine dS ?_ | refine dU ?_ | refine dG (dk ?_)
      first | refine dS ?_ | refine dU ?_ | refine dG (l7 (i) ?_)
      first | refine iS (i := 9) rfl (fun ρ1 w1 hj hR => (show ρ1 26 = Value.bool _ from hR.2.1)) (by decide) ?_ | refine dx_skipU (i := 9) rfl (fun ρ1 w1 hj hR => (show ρ1 26 = undef from hR.2.1)) ?_ | refine jI (i := 9) rfl (fun ρ1 w1 hj hR => (show ρ1 26 = Value.bool _ from hR.2.1)) (fun ρ1 w1 hj hR => dt aA.out (show ρ1 29 = Value.pointer _ from hR.1) ((hr.ext hj.hp.below).fJ (by assumption))) ?_
      first | refine iS (i := 10) rfl (fun ρ1 w1 hj hR => (show ρ1 26 = Value.bool _ from hR.2.1)) (by decide) ?_ | refine dx_skipU (i := 10) rfl (fun ρ1 w1 hj hR => (show ρ1 26 = undef from hR.2.1)) ?_ | refine jI (i := 10) rfl (fun ρ1 w1 hj hR => (show ρ1 26 = Value.bool _ from hR.2.1)) (fun ρ1 w1 hj hR => jv (show ρ1 30 = Value.int _ _ from hR.1) rfl (by omega) (by omega) (by omega)) ?_
      first | refine dS ?_ | refine dU ?_ | refine dG (dT ?_)
      first | refine dS ?_ | refine dU ?_ | refine dG (eY 1 ?_)
      first | refine dS ?_ | refine dU ?_ | refine dG (qa ?_)
      refine aW ?_
      intro f W hJ hV
      have hb_7 := hJ.bl
      obtain ⟨v34, v33, v32, v31, v30, v29, v28, v27, v26, v25, v24, v23, v22, v21, _⟩ := hV
      replace hh := hJ.hp
      refine aJ (aZ (ae v34 (ae v33 (ae v32 (ae v31 (ae v30 (ae v29 (ae v28 (ae v27 (ae v26 (ae v25 (ae v24 (ae v23 (ae v22 (ae v21 aH))))))))))))))) ?_
      dsimp only [bQ]
      clear hJ
      first | refine gS ?_ | (refine gT ?_; refine dn ?_) | refine gV ?_
      first | refine db ?_ | refine de ?_
      refine aa (cT (sr ?_))
      refine fg [_,_] ?_
      refine bD hh 0 [_,_] ?_
      intro ws hh
      replace hh : Hp _ (.blk _ _ [_, _] _ :: _) _ := hh
      refine aI (aa (ao (bZ (aQ (aQ (bZ (aQ ?_)))))))
      refine zt (aG rfl (aF (vs := [_, _]) aA.out (hh.ar (i := 0) (n := 2) rfl rfl) rfl) (dW (fO rfl) bg)) ?_
      exact ⟨FX.nil, _, Out.err (by decide), (hnil _ hh.below).1, rfl, (hnil _ hh.below).2⟩
     ·refine ah (sr (mI (mL (a7 ?_))))
      refine aK (aa (cT (ak (ai (ah (al (ah ?_)))))))
      refine aE 14 [[(1, none)], [(7, none)], [(21, some 0), (22, some 1)], [(23, some 2)], [(24, some 3)], [(25, some 4)], [(1, none), (26, some 5)], [(7, none), (26, some 5)], [(27, some 6), (28, some 7), (26, some 5)], [(29, some 8), (26, some 5)], [(30, some 9), (26, some 5)], [(2, none), (26, some 5)], [(32, some 11), (26, some 5)], [(33, some 12), (26, some 5)]] [(13, 34), (12, 33), (11, 32), (10, 31), (9, 30), (8, 29), (7, 28), (6, 27), (5, 26), (4, 25), (3, 24), (2, 23), (1, 22), (0, 21)] hh mixed (by kernel_rfl) ?_
      refine g6 ?_
      refine dk ?_
      refine l7 (i) ?_
      refine bh (i := 3) (fun ρ1 w1 hj hR => dt aA.out (show ρ1 23 = Value.pointer _ from hR.1) ((hr.ext hj.hp.below).fJ (by assumption))) ?_
      refine zC ?_
      refine uU ?_
      first | refine dS ?_ | refine dU ?_ | refine dG (g6 ?_)
      first | refine dS ?_ | refine dU ?_ | refine dG (dk ?_)
      first | refine dS ?_ | refine dU ?_ | refine dG (l7 (i) ?_)
      first | refine iS (i := 9) rfl (fun ρ1 w1 hj hR => (show ρ1 26 = Value.bool _ from hR.2.1)) (by decide) ?_ | refine dx_skipU (i := 9) rfl (fun ρ1 w1 hj hR => (show ρ1 26 = undef from hR.2.1)) ?_ | refine jI (i := 9) rfl (fun ρ1 w1 hj hR => (show ρ1 26 = Value.bool _ from hR.2.1)) (fun ρ1 w1 hj hR => dt aA.out (show ρ1 29 = Value.pointer _ from hR.1) ((hr.ext hj.hp.below).fJ (by assumption))) ?_
      first | refine iS (i := 10) rfl (fun ρ1 w1 hj hR => (show ρ1 26 = Value.bool _ from hR.2.1)) (by decide) ?_ | refine dx_skipU (i := 10) rfl (fun ρ1 w1 hj hR => (show ρ1 26 = undef from hR.2.1)) ?_ | refine jI (i := 10) rfl (fun ρ1 w1 hj hR => (show ρ1 26 = Value.bool _ from hR.2.1)) (fun ρ1 w1 hj hR => jv (show ρ1 30 = Value.int _ _ from hR.1) rfl (by omega) (by omega) (by omega)) ?_
      first | refine dS ?_ | refine dU ?_ | refine dG (dT ?_)
      first | refine dS ?_ | refine dU ?_ | refine dG (eY 1 ?_)
      first | refine dS ?_ | refine dU ?_ | refine dG (qa ?_)
      refine aW ?_
      intro f W hJ hV
      have hb_7 := hJ.bl
      obtain ⟨v34, v33, v32, v31, v30, v29, v28, v27, v26, v25, v24, v23, v22, v21, _⟩ := hV
      replace hh := hJ.hp
      refine aJ (aZ (ae v34 (ae v33 (ae v32 (ae v31 (ae v30 (ae v29 (ae v28 (ae v27 (ae v26 (ae v25 (ae v24 (ae v23 (ae v22 (ae v21 aH))))))))))))))) ?_
      dsimp only [bQ]
      clear hJ
      first | refine gS ?_ | (refine gT ?_; refine dn ?_) | refine gV ?_
      first | refine db ?_ | refine de ?_
      refine aa (cF (ak (a0 (ai (aq (mI ?_))))))
      refine bz (aI (aD (ai ?_)))
      refine ⟨⟨i + 1, by omega, rfl, ?_, hh⟩, by show m2 - (i + 1) < m2 - i; omega, ?_⟩
      ·rw [a9 hh1, List.any_append, hall, List.any_cons, List.any_nil, Bool.false_or, Bool.or_false]
       unfold jl
       rw [htd, decide_eq_false (by omega)]
      ·(repeat (first | exact aw _ _ _ | refine az rfl ?_ | refine au rfl ?_))
   ·obtain rfl : i = m2 := by omega
    rw [List.take_of_length_le (by omega)] at hall
    have hE : dX fx hs = 0 := by unfold dX; rw [if_neg (by omega), if_neg (by rw [hall]; decide)]
    rw [hE]
    obtain ⟨hdeg, hnum, h12, hlow, hcnt, hmax⟩ := FX.fv h0
    obtain ⟨-, hm, hnl, hdg, hnm⟩ := vY h0 hf
    have hxl : (fx.cs.map NR.d).length = aC fx.ns := by rw [List.length_map, hcnt]
    have hxz : ∀ x ∈ fx.cs.map NR.d, Sz k x := fun x h => by
     obtain ⟨c, hc, rfl⟩ := List.mem_map.1 h
     exact (hl.num c hc).2
    have hgood : ∀ h ∈ hs, 0 ≤ h ∧ h / 2 < fx.ns.length := fun h hmm => by
     have h4 := List.any_eq_false.1 hall h hmm
     unfold jl at h4
     rw [decide_eq_true_iff] at h4
     have h3 : 0 ≤ h := by omega
     rw [Int.tdiv_eq_ediv_of_nonneg h3] at h4
     omega
    have hqD : q * D ≤ 2000 * 127 := Nat.mul_le_mul hq hD
    have hst : Kept [fx] [] (⟨fx.A, fx.n, fx.a, fx.B, fx.m, fx.b, fx.ds, (fZ fx.ns (fx.cs.map NR.d) (hs.take 0)).map nR⟩ : FX) := .inl (List.mem_singleton.2 (by
     rw [show fZ fx.ns (fx.cs.map NR.d) (hs.take 0) = fx.cs.map NR.d from rfl, ← hnum]))
    have hfs : ∀ f ∈ [fx], f.at_ w := fun f h => by rw [List.mem_singleton.1 h]; exact hf
    refine ah (sr (mI (mL (a7 ?_))))
    refine aK (aa (cF ?_))
    refine aY ?_
    refine ay (ay (bm (ai (ah (sr (aI (aa (al ?_))))))))
    refine bx [8, 38, 39, 40, 41, 42, 43, 44, 45, 46, 47, 48, 49, 50, 51, 52, 53, 54, 55, 56] 8
     (fun v w' => ∃ (j a b : Nat) (A B : Option Addr) (R : List HE), j ≤ i ∧ v = .int .i64 j ∧ Kept [fx] R (⟨A, fx.n, a, B, fx.m, b, fx.ds, (fZ fx.ns (fx.cs.map NR.d) (hs.take j)).map nR⟩ : FX) ∧ Hp w (.blk b4 28 [.slice none 0 0, .slice none 0 0] (0, 0) :: .blk b2 28 [.slice A fx.n a, .slice B fx.m b] (0, 0) :: R) w')
     (fun v _ => i - (intOf v).toNat) ?_ ?_
    ·exact ⟨0, _, _, _, _, [], Nat.zero_le _, rfl, hst, hh⟩
    ·clear hh hst
     rintro ρ2 v w2 ⟨j, a, b, A, B, R, hj, rfl, hat, hh⟩
     by_cases hlt2 : j < i
     ·obtain ⟨h, hh1⟩ := aO (l := hs) (k := j) (by omega)
      have hgi := cg hh1
      have hmem := List.mem_of_getElem? hh1
      obtain ⟨g0, g1⟩ := hgood h hmem
      obtain ⟨z0, z1⟩ := hz h hmem
      obtain ⟨ad, rfl, hr⟩ := hS.at_ (by omega)
      have htl : (hs.take j).length = j := by rw [List.length_take]; omega
      have hys := nu (hdD h0) hD h2s h2t (hs.take j) k _ (fun y hy => hgood y (List.mem_of_mem_take hy)) hxl hxz
      have hsn := ku fx.ns (fx.cs.map NR.d) (hs.take j) h
      rw [← a9 hh1] at hsn
      rw [htl] at hys
      unfold qG at hsn
      obtain ⟨hA, hB⟩ := hat.at_ hfs (fun x hx => by simp [hx]) hh
      clear hat
      dsimp only at hA hB
      generalize fZ fx.ns (fx.cs.map NR.d) (hs.take j) = ys at *
      have hiK : j * (260 + 2 * (q * D)) ≤ i * (260 + 2 * (q * D)) := Nat.mul_le_mul_right _ hj
      have hsd : h % 2 = if decide (h % 2 = 1) = true then 1 else 0 := by
       by_cases h5 : h % 2 = 1
       ·rw [decide_eq_true h5, if_pos rfl, h5]
       ·rw [decide_eq_false h5, if_neg (by decide)]
        omega
      have hpart := fun w1 hA1 hB1 => qO A B fx.n a b (h / 2).toNat (k + j * (260 + 2 * (q * D))) q (decide (h % 2 = 1)) (h % 2) hsd fx.ns ys (nR (ck (-1))) (ck (-1)) w1 hA1 hB1 (by omega) (by omega) hlow hmax hys (by omega) (mi.of h2s hq) h2t hq
      rw [← hm, ← hdeg, Int.toNat_of_nonneg (by omega)] at hpart
      generalize fN (decide (h % 2 = 1)) (ck (-1)) fx.ns (h / 2).toNat ys = zs at *
      refine ah (sr (mI (mL (a7 ?_))))
      refine aK (aa (cT (ak (ai (ah (al ?_))))))
      refine aE 12 [[(2, none)], [(1, none)], [(8, none)], [(45, some 1), (46, some 2)], [(47, some 3)], [(48, some 4)], [(1, none)], [(8, none)], [(50, some 6), (51, some 7)], [(52, some 8)], [(53, some 9)], []] [(11, 55), (10, 54), (9, 53), (8, 52), (7, 51), (6, 50), (5, 49), (4, 48), (3, 47), (2, 46), (1, 45), (0, 44)] hh mixed (by kernel_rfl) ?_
      refine dV 1 [_,_] ?_
      refine g6 ?_
      refine dk ?_
      refine l7 (j) ?_
      refine bh (i := 4) (fun ρ1 w1 hj hR => dt aA.out (show ρ1 47 = Value.pointer _ from hR.1) ((hr.ext hj.hp.below).fJ (by assumption))) ?_
      refine bh (i := 5) (fun ρ1 w1 hj hR => jv (show ρ1 48 = Value.int _ _ from hR.1) rfl (by omega) (by omega) (by omega)) ?_
      refine g6 ?_
      refine dk ?_
      refine l7 (j) ?_
      refine bh (i := 9) (fun ρ1 w1 hj hR => dt aA.out (show ρ1 52 = Value.pointer _ from hR.1) ((hr.ext hj.hp.below).fJ (by assumption))) ?_
      refine bh (i := 10) (fun ρ1 w1 hj hR => j9 (show ρ1 53 = Value.int _ _ from hR.1) rfl (by omega) (by omega)) ?_
      refine dC (fun _ hj => qt _) ?_
      refine aW ?_
      intro f W hJ hV
      have hb_12 := hJ.bl
      obtain ⟨v55, v54, v53, v52, v51, v50, v49, v48, v47, v46, v45, v44, _⟩ := hV
      replace hh := hJ.hp
      refine aJ (aZ (ae v55 (ae v54 (ae v53 (ae v52 (ae v51 (ae v50 (ae v49 (ae v48 (ae v47 (ae v46 (ae v45 (ae v44 aH))))))))))))) ?_
      dsimp only [bQ]
      clear hJ
      refine aU (hpart _ (hA.ext hb_12) (hB.ext hb_12)) av.out rfl (by decide) ?_
      rintro e_ w56 ⟨A56, a56, B56, b56, rfl, h3⟩
      refine ⟨_, rfl, ?_⟩
      replace hh := hh.join h3
      simp only [List.cons_append, List.nil_append] at hh
      clear h3
      refine bD hh 3 [_,_] ?_
      intro ws hh
      replace hh : Hp _ (_ :: _ :: _ :: .blk _ _ [_, _] _ :: _) _ := hh
      refine aD (a0 (ai (aq (mI ?_))))
      refine bz (aI (aD (ai ?_)))
      replace hh := hh.sub (List.Sublist.cons_cons _ (List.Sublist.cons_cons _ (List.Sublist.cons_cons _ (List.Sublist.cons_cons _ (List.Sublist.refl _)))))
      replace hh := hh.perm (List.perm_middle (l₁ := [_, _, _]))
      simp only [List.cons_append, List.nil_append] at hh
      replace hh := hh.perm (List.perm_middle (l₁ := [_, _, _]))
      simp only [List.cons_append, List.nil_append] at hh
      refine ⟨⟨j + 1, a56, b56, A56, B56, .row B56 fx.m b56 39 3 (br NR.cells (zs.map nR)) :: .row A56 fx.n a56 3 1 (bP fx.ds) :: R, by omega, rfl, ?_, hh⟩, by show i - (j + 1) < i - j; omega, ?_⟩
      ·rw [hsn]
       exact .inr ⟨List.mem_cons_self, List.mem_cons_of_mem _ List.mem_cons_self⟩
      ·(repeat (first | exact aw _ _ _ | refine az rfl ?_ | refine au rfl ?_))
     ·obtain rfl : j = i := by omega
      rw [List.take_of_length_le (by omega)] at hat
      refine ah (sr (mI (mL (a7 ?_))))
      refine aK (aa (cF ?_))
      refine aY ?_
      refine ay (ay (bm (ai (sr ?_))))
      refine da hh 1 [_,_] ?_
      refine bD hh 0 [_,_] ?_
      intro ws hh
      replace hh : Hp _ (.blk _ _ [_, _] _ :: _) _ := hh
      refine aI (aa (ao ?_))
      refine zt (aG rfl (aF (vs := [_, _]) aA.out (hh.ar (i := 0) (n := 2) rfl rfl) rfl) (dW (fO rfl) bg)) ?_
      exact ⟨_, R, lK (A := A) (a := a) (B := B) (b := b) k h0 hl, hat, rfl, hh.sub (.cons _ (.cons _ (List.Sublist.refl _)))⟩
 ·have hE : dX fx hs = fx.e := by unfold dX; rw [if_pos h0]
  rw [hE]
  refine aj (N := 58) (l := [.agg #[.slice fx.A fx.n fx.a, .slice fx.B fx.m fx.b], .slice L m2 c2]) Tryz.func43 rfl rfl (by simp) ?_
  refine sr ?_
  refine cw hh [_,_] ?_
  intro b2 w2 hh
  refine cf hh ?_
  intro b4 w4 hh
  refine aI (aa (ah (sr ?_)))
  refine da hh 1 [_,_] ?_
  refine bB hh (hck _ hh.below) rfl ?_
  intro w10 hh
  refine aI (aa (sr (mI ?_)))
  refine gA (aa (cT (sr ?_)))
  refine fg [_,_] (mI ?_)
  refine bD hh 0 [_,_] ?_
  intro ws hh
  replace hh : Hp _ (.blk _ _ [_, _] _ :: _) _ := hh
  refine aI (aa (ao (aQ ?_)))
  refine zt (aG rfl (aF (vs := [_, _]) aA.out (hh.ar (i := 0) (n := 2) rfl rfl) rfl) (dW (fO rfl) bg)) ?_
  exact ⟨FX.nil, _, Out.err h0, (hnil _ hh.below).1, rfl, (hnil _ hh.below).2⟩
end Go.Proofs.YtioilmppidlbnaaGreatDoor
/- The walks through ogeelaw13's own helpers: what is more than is reckoned with. -/
namespace Go.Proofs.YtioilmppidlbnaaGreatDoor
open Go.RowKit
def qi (a : NR) : Bool := decide ((8 : Int) < a.bk.size ∨ a.e < -60 ∨ 60 < a.e)
theorem sJ (a : NR) (w : World) :
  Calls Tryz.prog 36 #[.agg #[.bool a.neg, .string a.bk, .int .i64 a.e]] w fun r w' => r = .returned (.bool (qi a)) ∧ Below w.heap.size w w' := by
 have hh := Hp.start w
 by_cases h1 : (8 : Int) < a.bk.size
 ·refine aj (N := 18) (l := [.agg #[.bool a.neg, .string a.bk, .int .i64 a.e]]) Tryz.func36 rfl rfl (by simp) ?_
  refine sr ?_
  refine cw hh [_,_,_] ?_
  intro b1 w1 hh
  refine aB (aa (sr (bG (bG ?_))))
  refine bI hh 0 ?_
  refine cD aN.out rfl (by decide) ?_
  refine bO (mB ?_)
  first | refine gS ?_ | (refine gT ?_; refine bG ?_) | refine gV ?_
  first | refine gS ?_ | (refine gT ?_; refine bI hh 0 ?_) | refine gV ?_
  first | refine gS ?_ | (refine gT ?_; refine aK ?_) | refine gV ?_
  first | refine db ?_ | refine de ?_
  refine mB ?_
  first | refine gS ?_ | (refine gT ?_; refine bG ?_) | refine gV ?_
  first | refine gS ?_ | (refine gT ?_; refine bI hh 0 ?_) | refine gV ?_
  first | refine gS ?_ | (refine gT ?_; refine bO ?_) | refine gV ?_
  first | refine db ?_ | refine de ?_
  refine aB (aa (ao ?_))
  refine cx ?_
  refine ⟨?_, hh.below⟩
  unfold qi
  rw [decide_eq_true (.inl h1)]
 ·by_cases h2 : a.e < -60
  ·refine aj (N := 18) (l := [.agg #[.bool a.neg, .string a.bk, .int .i64 a.e]]) Tryz.func36 rfl rfl (by simp) ?_
   refine sr ?_
   refine cw hh [_,_,_] ?_
   intro b1 w1 hh
   refine aB (aa (sr (bG (bG ?_))))
   refine bI hh 0 ?_
   refine cD aN.out rfl (by decide) ?_
   refine bO (mB ?_)
   first | refine gS ?_ | (refine gT ?_; refine bG ?_) | refine gV ?_
   first | refine gS ?_ | (refine gT ?_; refine bI hh 0 ?_) | refine gV ?_
   first | refine gS ?_ | (refine gT ?_; refine aK ?_) | refine gV ?_
   first | refine db ?_ | refine de ?_
   refine mB ?_
   first | refine gS ?_ | (refine gT ?_; refine bG ?_) | refine gV ?_
   first | refine gS ?_ | (refine gT ?_; refine bI hh 0 ?_) | refine gV ?_
   first | refine gS ?_ | (refine gT ?_; refine bO ?_) | refine gV ?_
   first | refine db ?_ | refine de ?_
   refine aB (aa (ao ?_))
   refine cx ?_
   refine ⟨?_, hh.below⟩
   unfold qi
   rw [decide_eq_true (.inr (.inl h2))]
  ·by_cases h3 : 60 < a.e
   ·refine aj (N := 18) (l := [.agg #[.bool a.neg, .string a.bk, .int .i64 a.e]]) Tryz.func36 rfl rfl (by simp) ?_
    refine sr ?_
    refine cw hh [_,_,_] ?_
    intro b1 w1 hh
    refine aB (aa (sr (bG (bG ?_))))
    refine bI hh 0 ?_
    refine cD aN.out rfl (by decide) ?_
    refine bO (mB ?_)
    first | refine gS ?_ | (refine gT ?_; refine bG ?_) | refine gV ?_
    first | refine gS ?_ | (refine gT ?_; refine bI hh 0 ?_) | refine gV ?_
    first | refine gS ?_ | (refine gT ?_; refine aK ?_) | refine gV ?_
    first | refine db ?_ | refine de ?_
    refine mB ?_
    first | refine gS ?_ | (refine gT ?_; refine bG ?_) | refine gV ?_
    first | refine gS ?_ | (refine gT ?_; refine bI hh 0 ?_) | refine gV ?_
    first | refine gS ?_ | (refine gT ?_; refine bO ?_) | refine gV ?_
    first | refine db ?_ | refine de ?_
    refine aB (aa (ao ?_))
    refine cx ?_
    refine ⟨?_, hh.below⟩
    unfold qi
    rw [decide_eq_true (.inr (.inr h3))]
   ·refine aj (N := 18) (l := [.agg #[.bool a.neg, .string a.bk, .int .i64 a.e]]) Tryz.func36 rfl rfl (by simp) ?_
    refine sr ?_
    refine cw hh [_,_,_] ?_
    intro b1 w1 hh
    refine aB (aa (sr (bG (bG ?_))))
    refine bI hh 0 ?_
    refine cD aN.out rfl (by decide) ?_
    refine bO (mB ?_)
    first | refine gS ?_ | (refine gT ?_; refine bG ?_) | refine gV ?_
    first | refine gS ?_ | (refine gT ?_; refine bI hh 0 ?_) | refine gV ?_
    first | refine gS ?_ | (refine gT ?_; refine aK ?_) | refine gV ?_
    first | refine db ?_ | refine de ?_
    refine mB ?_
    first | refine gS ?_ | (refine gT ?_; refine bG ?_) | refine gV ?_
    first | refine gS ?_ | (refine gT ?_; refine bI hh 0 ?_) | refine gV ?_
    first | refine gS ?_ | (refine gT ?_; refine bO ?_) | refine gV ?_
    first | refine db ?_ | refine de ?_
    refine aB (aa (ao ?_))
    refine cx ?_
    refine ⟨?_, hh.below⟩
    unfold qi
    rw [decide_eq_false (by omega)]
theorem AK {a : NR} (h : qi a = false) : a.ok ∧ Sz 124 a.d := by
 have h' := of_decide_eq_false h
 have h1 : (a.bk.size : Int) ≤ 8 := by omega
 have h2 : -60 ≤ a.e := by omega
 have h3 : a.e ≤ 60 := by omega
 exact ⟨⟨by omega, by omega, by omega⟩, Sz.raw (m := 64) (E := 60) (by omega) h2 h3⟩
def FX.sE (f : FX) : Prop := f.rl 124 ∧ f.m ≤ 120 ∧ f.n ≤ 20 ∧ ∀ d ∈ f.ds, d ≤ 6 ∨ 128 ≤ d
theorem pT (f : FX) (w : World) (hf : f.at_ w) :
  Calls Tryz.prog 35 #[.agg #[.slice f.A f.n f.a, .slice f.B f.m f.b]] w fun r w' => ∃ b : Bool, r = .returned (.bool b) ∧ (b = false → f.sE) ∧ Below w.heap.size w w' := by
 have hh := Hp.start w
 have hl1 := hf.ln.1
 have hl2 := hf.ln.2
 by_cases h1 : 20 < f.n
 ·refine aj (N := 49) (l := [.agg #[.slice f.A f.n f.a, .slice f.B f.m f.b]]) Tryz.func35 rfl rfl (by simp) ?_
  refine sr ?_
  refine cw hh [_,_] ?_
  intro b1 w1 hh
  refine aB (aa (ah (sr (bG ?_))))
  refine bI hh 0 ?_
  refine a7 ?_
  refine bO (mB ?_)
  first | refine gS ?_ | (refine gT ?_; refine bG ?_) | refine gV ?_
  first | refine gS ?_ | (refine gT ?_; refine bI hh 0 ?_) | refine gV ?_
  first | refine gS ?_ | (refine gT ?_; refine a7 ?_) | refine gV ?_
  first | refine gS ?_ | (refine gT ?_; refine bO ?_) | refine gV ?_
  first | refine db ?_ | refine de ?_
  refine aa ?_
  refine cT (sr (aB (aa (ao (aQ ?_)))))
  refine cx ?_
  exact ⟨_, rfl, fun h => (by cases h), hh.below⟩
 ·by_cases h2 : 120 < f.m
  ·refine aj (N := 49) (l := [.agg #[.slice f.A f.n f.a, .slice f.B f.m f.b]]) Tryz.func35 rfl rfl (by simp) ?_
   refine sr ?_
   refine cw hh [_,_] ?_
   intro b1 w1 hh
   refine aB (aa (ah (sr (bG ?_))))
   refine bI hh 0 ?_
   refine a7 ?_
   refine bO (mB ?_)
   first | refine gS ?_ | (refine gT ?_; refine bG ?_) | refine gV ?_
   first | refine gS ?_ | (refine gT ?_; refine bI hh 0 ?_) | refine gV ?_
   first | refine gS ?_ | (refine gT ?_; refine a7 ?_) | refine gV ?_
   first | refine gS ?_ | (refine gT ?_; refine bO ?_) | refine gV ?_
   first | refine db ?_ | refine de ?_
   refine aa ?_
   refine cT (sr (aB (aa (ao (aQ ?_)))))
   refine cx ?_
   exact ⟨_, rfl, fun h => (by cases h), hh.below⟩
  ·refine aj (N := 49) (l := [.agg #[.slice f.A f.n f.a, .slice f.B f.m f.b]]) Tryz.func35 rfl rfl (by simp) ?_
   refine sr ?_
   refine cw hh [_,_] ?_
   intro b1 w1 hh
   refine aB (aa (ah (sr (bG ?_))))
   refine bI hh 0 ?_
   refine a7 ?_
   refine bO (mB ?_)
   first | refine gS ?_ | (refine gT ?_; refine bG ?_) | refine gV ?_
   first | refine gS ?_ | (refine gT ?_; refine bI hh 0 ?_) | refine gV ?_
   first | refine gS ?_ | (refine gT ?_; refine a7 ?_) | refine gV ?_
   first | refine gS ?_ | (refine gT ?_; refine bO ?_) | refine gV ?_
   first | refine db ?_ | refine de ?_
   refine aa ?_
   refine cF (ak (ai (ah (sr (aI (aa (al ?_)))))))
   refine bx [2, 3, 15, 16, 17, 18, 19, 20, 21, 22, 23, 24, 25, 26, 27] 3
    (fun v w' => ∃ i : Nat, i ≤ f.m ∧ v = .int .i64 i ∧ (∀ x ∈ f.cs.take i, qi x = false) ∧ Hp w [.blk b1 28 [.slice f.A f.n f.a, .slice f.B f.m f.b] (0, 0)] w')
    (fun v _ => f.m - (intOf v).toNat) ?_ ?_
   ·exact ⟨0, Nat.zero_le _, rfl, fun x hx => (by simp at hx), hh⟩
   ·clear hh
    rintro ρ' v w' ⟨i, hi, rfl, hall, hh⟩
    by_cases hlt : i < f.m
    ·obtain ⟨x, hx⟩ := aO (l := f.cs) (k := i) (by omega)
     obtain ⟨a2, hA2, s2⟩ := hf.nm.at_ (by omega)
     have hev : Value.slice f.B f.m f.b = .slice (some a2) f.m f.b := by rw [hA2]
     have hc := fun w1 => sJ x w1
     cases hb : qi x with
     | true =>
      rw [hb] at hc
      refine ah (sr (mI (bG ?_)))
      refine bI hh 0 ?_
      refine a7 ?_
      refine aK (aa (cT (ak (ai (ah (al (sr (bG ?_))))))))
      refine bI hh 0 ?_
      refine mI ?_
      refine aX (k := i) aN.out aA.size hev rfl (by omega) (by omega) (by decide) ?_
      refine fu (vs := [_, _, _]) aA.out rfl ((s2.ext hh.below).recAt NR.len hx) rfl (by decide) ?_
      refine bB hh (hc _) rfl ?_
      intro w27 hh
      refine aa (cT (sr (aB (aa (ao (bZ (aQ (aQ (bZ (aQ ?_))))))))))
      refine cx ?_
      exact ⟨_, rfl, fun h => (by cases h), hh.below⟩
     | false =>
      rw [hb] at hc
      refine ah (sr (mI (bG ?_)))
      refine bI hh 0 ?_
      refine a7 ?_
      refine aK (aa (cT (ak (ai (ah (al (sr (bG ?_))))))))
      refine bI hh 0 ?_
      refine mI ?_
      refine aX (k := i) aN.out aA.size hev rfl (by omega) (by omega) (by decide) ?_
      refine fu (vs := [_, _, _]) aA.out rfl ((s2.ext hh.below).recAt NR.len hx) rfl (by decide) ?_
      refine bB hh (hc _) rfl ?_
      intro w27 hh
      refine aa (cF (ak (a0 (ai (aq (mI ?_))))))
      refine bz (aI (aD (ai ?_)))
      refine ⟨⟨i + 1, by omega, rfl, fun y hy => ?_, hh⟩, by show f.m - (i + 1) < f.m - i; omega, ?_⟩
      ·rw [a9 hx, List.mem_append, List.mem_singleton] at hy
       rcases hy with hy | rfl
       ·exact hall y hy
       ·exact hb
      ·(repeat (first | exact aw _ _ _ | refine az rfl ?_ | refine au rfl ?_))
    ·rw [List.take_of_length_le (by omega)] at hall
     have hfin : (∀ d ∈ f.ds, d ≤ 6 ∨ 128 ≤ d) → f.sE := fun hd => ⟨⟨by omega, by omega, fun c hc => AK (hall c hc)⟩, by omega, by omega, hd⟩
     clear hall
     refine ah (sr (mI (bG ?_)))
     refine bI hh 0 ?_
     refine a7 ?_
     refine aK (aa (cF ?_))
     refine aY ?_
     refine ay (ay (bm (ai (ah (sr (aI (aa (al ?_))))))))
     refine bx [2, 4, 28, 29, 30, 31, 32, 33, 34, 35, 36, 37, 38, 39, 40, 41, 42, 43, 44, 45, 46, 47, 48] 4
      (fun v w' => ∃ i : Nat, i ≤ f.n ∧ v = .int .i64 i ∧ (∀ d ∈ f.ds.take i, d ≤ 6 ∨ 128 ≤ d) ∧ Hp w [.blk b1 28 [.slice f.A f.n f.a, .slice f.B f.m f.b] (0, 0)] w')
      (fun v _ => f.n - (intOf v).toNat) ?_ ?_
     ·exact ⟨0, Nat.zero_le _, rfl, fun x hx => (by simp at hx), hh⟩
     ·clear hh
      rintro ρ2 v w2 ⟨j, hj, rfl, hds, hh⟩
      by_cases hlt2 : j < f.n
      ·obtain ⟨d, hd⟩ := aO (l := f.ds) (k := j) (by omega)
       have hgd := cg hd
       obtain ⟨a1, hA1, s1⟩ := hf.dg.at_ (by omega)
       have hev : Value.slice f.A f.n f.a = .slice (some a1) f.n f.a := by rw [hA1]
       by_cases h6 : 6 < d
       ·by_cases h128 : d < 128
        ·refine ah (sr (mI (bG ?_)))
         refine bI hh 0 ?_
         refine a7 ?_
         refine aK (aa (cT (ak (ai (ah (al (sr (bG ?_))))))))
         refine bI hh 0 ?_
         refine mI ?_
         refine aX (k := j) aN.out aA.size hev rfl (by omega) (by omega) (by decide) ?_
         refine aV aA.out rfl ((s1.ext hh.below).fJ hgd) (by decide) ?_
         refine bO (mB ?_)
         first | refine gS ?_ | (refine gT ?_; refine bG ?_) | refine gV ?_
         first | refine gS ?_ | (refine gT ?_; refine bI hh 0 ?_) | refine gV ?_
         first | refine gS ?_ | (refine gT ?_; refine mI ?_) | refine gV ?_
         first | refine gS ?_ | (refine gT ?_; refine aX (k := j) aN.out aA.size hev rfl (by omega) (by omega) (by decide) ?_) | refine gV ?_
         refine bp rfl rfl ?_
         refine aV aA.out rfl ((s1.ext hh.below).fJ hgd) (by decide) ?_
         first | refine gS ?_ | (refine gT ?_; refine aK ?_) | refine gV ?_
         first | refine db ?_ | refine de ?_
         refine aa (cT (sr (aB (aa (ao (bZ (aQ (aQ (bZ (aQ ?_))))))))))
         refine cx ?_
         exact ⟨_, rfl, fun h => (by cases h), hh.below⟩
        ·refine ah (sr (mI (bG ?_)))
         refine bI hh 0 ?_
         refine a7 ?_
         refine aK (aa (cT (ak (ai (ah (al (sr (bG ?_))))))))
         refine bI hh 0 ?_
         refine mI ?_
         refine aX (k := j) aN.out aA.size hev rfl (by omega) (by omega) (by decide) ?_
         refine aV aA.out rfl ((s1.ext hh.below).fJ hgd) (by decide) ?_
         refine bO (mB ?_)
         first | refine gS ?_ | (refine gT ?_; refine bG ?_) | refine gV ?_
         first | refine gS ?_ | (refine gT ?_; refine bI hh 0 ?_) | refine gV ?_
         first | refine gS ?_ | (refine gT ?_; refine mI ?_) | refine gV ?_
         first | refine gS ?_ | (refine gT ?_; refine aX (k := j) aN.out aA.size hev rfl (by omega) (by omega) (by decide) ?_) | refine gV ?_
         refine bp rfl rfl ?_
         refine aV aA.out rfl ((s1.ext hh.below).fJ hgd) (by decide) ?_
         first | refine gS ?_ | (refine gT ?_; refine aK ?_) | refine gV ?_
         first | refine db ?_ | refine de ?_
         refine aa (cF (ak (a0 (ai (aq (mI ?_))))))
         refine bz (aI (aD (ai ?_)))
         have hds2 : ∀ d ∈ f.ds.take (j + 1), d ≤ 6 ∨ 128 ≤ d := fun y hy => by
          rw [a9 hd, List.mem_append, List.mem_singleton] at hy
          rcases hy with hy | rfl
          ·exact hds y hy
          ·omega
         refine ⟨⟨j + 1, by omega, rfl, hds2, hh⟩, by show f.n - (j + 1) < f.n - j; omega, ?_⟩
         (repeat (first | exact aw _ _ _ | refine az rfl ?_ | refine au rfl ?_))
       ·refine ah (sr (mI (bG ?_)))
        refine bI hh 0 ?_
        refine a7 ?_
        refine aK (aa (cT (ak (ai (ah (al (sr (bG ?_))))))))
        refine bI hh 0 ?_
        refine mI ?_
        refine aX (k := j) aN.out aA.size hev rfl (by omega) (by omega) (by decide) ?_
        refine aV aA.out rfl ((s1.ext hh.below).fJ hgd) (by decide) ?_
        refine bO (mB ?_)
        first | refine gS ?_ | (refine gT ?_; refine bG ?_) | refine gV ?_
        first | refine gS ?_ | (refine gT ?_; refine bI hh 0 ?_) | refine gV ?_
        first | refine gS ?_ | (refine gT ?_; refine mI ?_) | refine gV ?_
        first | refine gS ?_ | (refine gT ?_; refine cq aN.out aA.size rfl rfl (by omega) (by omega) (by decide) ?_) | refine gV ?_
        first | (refine cG (by decide) rfl rfl (by decide) ?_) | (refine wl_guard_skipV (by decide) rfl rfl ?_)
        first | refine gS ?_ | (refine gT ?_; refine aK ?_) | refine gV ?_
        first | refine db ?_ | refine de ?_
        refine aa (cF (ak (a0 (ai (aq (mI ?_))))))
        refine bz (aI (aD (ai ?_)))
        have hds2 : ∀ d ∈ f.ds.take (j + 1), d ≤ 6 ∨ 128 ≤ d := fun y hy => by
         rw [a9 hd, List.mem_append, List.mem_singleton] at hy
         rcases hy with hy | rfl
         ·exact hds y hy
         ·omega
        refine ⟨⟨j + 1, by omega, rfl, hds2, hh⟩, by show f.n - (j + 1) < f.n - j; omega, ?_⟩
        (repeat (first | exact aw _ _ _ | refine az rfl ?_ | refine au rfl ?_))
      ·rw [List.take_of_length_le (by omega)] at hds
       refine ah (sr (mI (bG ?_)))
       refine bI hh 0 ?_
       refine a7 ?_
       refine aK (aa (cF ?_))
       refine aY ?_
       refine ay (ay (bm (ai (sr (aB (aa (ao ?_)))))))
       refine cx ?_
       exact ⟨_, rfl, fun _ => hfin hds, hh.below⟩
end Go.Proofs.YtioilmppidlbnaaGreatDoor
/- The walks through ogeelaw13's examples. -/
namespace Go.Proofs.YtioilmppidlbnaaGreatDoor
open Go.RowKit
abbrev gb (l : List Int) (A : Option Addr) (a : Nat) (B : Option Addr) (b : Nat) : FX := ⟨A, 1, a, B, l.length, b, [(l.length : Int) - 1], l.map fun z : Int => nR ((z : Dyadic) * ck (-2))⟩
theorem o9 {l : List Int} {A : Option Addr} {a : Nat} {B : Option Addr} {b : Nat} (hn : l.length ≤ 100) (hl : ∀ z ∈ l, z.natAbs < 256) : (gb l A a B b).rl 124 := by
 refine ⟨by show 1 ≤ 1000; omega, by show l.length ≤ 100000; omega, fun c hc => ?_⟩
 obtain ⟨z, hz, rfl⟩ := List.mem_map.1 hc
 have h : Sz 34 ((z : Dyadic) * ck (-2)) := (show Sz 24 (z : Dyadic) from ve (e := 0) (hl z hz) (by decide) (by decide)).mul (Sz.two (k := 2) (by decide) (by decide))
 exact ⟨h.ok (by omega), by rw [dH]; exact h.mono (by omega)⟩
theorem cX (l : List Int) (A : Option Addr) (c : Nat) (w : World) (hS : Sl w A l.length 1 (bP l)) (h0 : 0 < l.length) (hn : l.length ≤ 100) (hl : ∀ z ∈ l, z.natAbs < 256) :
  Calls Tryz.prog 83 #[.slice A l.length c] w fun r w' => ∃ (A : Option Addr) (a : Nat) (B : Option Addr) (b : Nat), r = .returned (.agg #[.slice A 1 a, .slice B l.length b]) ∧ Hp w [(gb l A a B b).gI, (gb l A a B b).gC] w' := by
 have hh := Hp.start w
 obtain ⟨n, hn2⟩ : ∃ n, n = l.length := ⟨_, rfl⟩
 have hnd : (gb l none 0 none 0).ds = [(n : Int) - 1] := by rw [hn2]
 rw [← hn2] at hS h0 hn ⊢
 refine aj (N := 28) (l := [.slice A n c]) Tryz.func83 rfl rfl (by simp) ?_
 refine sr ?_
 refine cf hh ?_
 intro b2 w2 hh
 refine aa (sr (mL (a7 ?_)))
 refine eo ?_
 refine bo hh (cs := [_]) aN.out aA.out (a6 (bM rfl) bR) rfl rfl (by decide) (by decide) (by decide) rfl (by decide) ?_
 intro b8 w8 hh
 refine fg [_,_] ?_
 refine cf hh ?_
 intro b3 w3 hh
 refine bD hh 0 [_,_] ?_
 intro ws hh
 replace hh : Hp _ (.blk _ _ [_, _] _ :: _) _ := hh
 refine aa (ah (sr (aI (aa (al ?_)))))
 replace hh := hh.perm (List.perm_middle (l₁ := [_]))
 simp only [List.cons_append, List.nil_append] at hh
 have hcap := hh.k5 (i := 0) rfl
 replace hh := hh.perm (List.perm_middle (l₁ := [_]))
 simp only [List.cons_append, List.nil_append] at hh
 replace hh := hh.eW 39 3
 refine bx [4, 10, 11, 12, 13, 14, 15, 16, 17, 18, 19, 20, 21, 22, 23, 24, 25, 26] 4
  (fun v w' => ∃ (i c1 : Nat) (B : Option Addr), i ≤ n ∧ v = .int .i64 i ∧ Hp w [.row B i c1 39 3 (br NR.cells ((l.take i).map fun z : Int => nR ((z : Dyadic) * ck (-2)))), .blk b3 28 [.slice (some ⟨b8, 0, none⟩) 1 1, .slice B i c1] (0, 0), .row (some ⟨b8, 0, none⟩) 1 1 3 1 (bP [(n : Int) - 1]), .blk b2 28 [.slice none 0 0, .slice none 0 0] (0, 0)] w')
  (fun v _ => n - (intOf v).toNat) ?_ ?_
 ·exact ⟨0, 0, none, Nat.zero_le _, rfl, hh⟩
 ·clear hh
  rintro ρ' v w' ⟨i, c1, B, hi, rfl, hh⟩
  by_cases hlt : i < n
  ·obtain ⟨z, hz⟩ := aO (l := l) (k := i) (by omega)
   have hgz := cg hz
   have hzb := hl z (List.mem_of_getElem? hz)
   obtain ⟨ad, rfl, hr⟩ := hS.at_ (by omega)
   refine ah (sr (mI (mL (a7 ?_))))
   refine aK (aa (cT (ak (ai (ah (al ?_))))))
   have hsh := fun w1 => iK (nR (z : Dyadic)) (-2) w1 (by have := (show Sz 24 (z : Dyadic) from ve (e := 0) hzb (by decide) (by decide)).bk; omega) (by have := (show Sz 24 (z : Dyadic) from ve (e := 0) hzb (by decide) (by decide)).nr; omega) (by have := (show Sz 24 (z : Dyadic) from ve (e := 0) hzb (by decide) (by decide)).nr; omega) (by decide) (by decide)
   rw [dH] at hsh
   refine aE 9 [[(3, none)], [(16, some 0)], [(0, none)], [(4, none)], [(18, some 2), (19, some 3)], [(20, some 4)], [(21, some 5)], [(22, some 6)], [(23, some 7)]] [(8, 24), (7, 23), (6, 22), (5, 21), (4, 20), (3, 19), (2, 18), (1, 17), (0, 16)] hh mixed (by kernel_rfl) ?_
   refine dT ?_
   refine eY 1 ?_
   refine g6 ?_
   refine dk ?_
   refine l7 (i) ?_
   refine bh (i := 5) (fun ρ1 w1 hj hR => dt aA.out (show ρ1 20 = Value.pointer _ from hR.1) ((hr.ext hj.hp.below).fJ (by assumption))) ?_
   refine dC (fun _ hj => eH z _ (by omega) (by omega)) ?_
   refine dC (fun _ hj => hsh _) ?_
   refine uT [_,_,_] ?_
   refine aW ?_
   intro f W hJ hV
   have hb_5 := hJ.bl
   obtain ⟨v24, v23, v22, v21, v20, v19, v18, v17, v16, _⟩ := hV
   obtain ⟨A24, c24, e24, f24⟩ : Rows _ _ _ (f 8) W := v24
   replace hh := hJ.hp
   refine aJ (aZ (ae e24 (ae v23 (ae v22 (ae v21 (ae v20 (ae v19 (ae v18 (ae v17 (ae v16 aH)))))))))) ?_
   dsimp only [bQ]
   clear e24 hJ
   refine df hh (i := 0) rfl rfl rfl (f24) aN.out aA.out rfl (by decide) (by first | rfl | exact dr _ | exact cH _ | exact bW _ | exact cz NR.one _) (by omega) (by omega) (by decide) ?_
   intro A25 c25 w25 hh
   simp only [List.set_cons_zero] at hh
   refine bG ?_
   refine bD hh 1 [_] ?_
   intro ws hh
   replace hh : Hp _ (_ :: .blk _ _ [_, _] _ :: _) _ := hh
   refine aD (a0 (ai (aq (mI ?_))))
   refine bz (aI (aD (ai ?_)))
   replace hh := hh.sub (List.Sublist.cons_cons _ (List.Sublist.cons_cons _ (List.Sublist.cons_cons _ (List.Sublist.cons_cons _ List.Sublist.slnil))))
   refine ⟨⟨i + 1, c25, A25, by omega, rfl, ?_⟩, by show n - (i + 1) < n - i; omega, ?_⟩
   ·rw [a9 hz, List.map_append, eP]
    exact hh
   ·(repeat (first | exact aw _ _ _ | refine az rfl ?_ | refine au rfl ?_))
  ·obtain rfl : i = n := by omega
   rw [List.take_of_length_le (by omega)] at hh
   refine ah (sr (mI (mL (a7 ?_))))
   refine aK (aa (cF ?_))
   refine aY ?_
   refine ay (ay (bm (ai (sr ?_))))
   refine da hh 1 [_,_] ?_
   refine bD hh 3 [_,_] ?_
   intro ws hh
   replace hh : Hp _ (_ :: _ :: _ :: .blk _ _ [_, _] _ :: _) _ := hh
   refine aa (ao ?_)
   replace hh := hh.sub (List.Sublist.cons_cons _ (List.Sublist.cons _ (List.Sublist.cons_cons _ (List.Sublist.cons_cons _ List.Sublist.slnil))))
   refine eG (aG rfl (aF (vs := [_, _]) aA.out (hh.ar (i := 2) (n := 2) rfl rfl) rfl) bg) ?_
   refine ⟨some ⟨b8, 0, none⟩, 1, B, c1, rfl, ?_⟩
   unfold FX.gI FX.gC
   dsimp only
   rw [← hn2]
   exact hh.sub (List.sublist_append_left [_, _] _)
end Go.Proofs.YtioilmppidlbnaaGreatDoor
/- The walk through ogeelaw13.awake. -/
namespace Go.Proofs.YtioilmppidlbnaaGreatDoor
open Go.RowKit
theorem gr : Sz 2 (ck (-1)) ∧ Sz 2 (1 - ck (-1)) := ⟨(show Sz 1 (ck (-1)) from ⟨1, by decide +kernel, by decide⟩).mono (by omega), Sz.one.sub (show Sz 1 (ck (-1)) from ⟨1, by decide +kernel, by decide⟩)⟩
theorem lf {l : List Int} {D : List Nat} {ys : List Dyadic} {g : FX} {w : World} (h : Out 0 D ys g) (h1 : bL D = [(l.length : Int) - 1]) (h2 : ys = l.map fun z : Int => (z : Dyadic) * ck (-2)) (hg : g.at_ w) : ∃ (A : Option Addr) (a : Nat) (B : Option Addr) (b : Nat), g = gb l A a B b := by
 have l1 := hg.ln
 obtain ⟨p5, hc0, -, -⟩ := h
 obtain ⟨A, n, a, B, m, b, ds, cs⟩ := g
 have hd : ds = [(l.length : Int) - 1] := p5.trans h1
 have hc : cs = l.map fun z : Int => nR ((z : Dyadic) * ck (-2)) := hc0.trans (by unfold y9; rw [if_pos rfl, h2, List.map_map]; rfl)
 obtain ⟨q1, q2⟩ : ds.length = n ∧ cs.length = m := l1
 clear p5 hc0 h1 h2 hg
 subst hd hc q1
 obtain rfl : l.length = m := by rw [← q2, List.length_map]
 exact ⟨A, a, B, b, rfl⟩
abbrev zN (l : List Int) : List Dyadic := l.map fun z : Int => (z : Dyadic) * ck (-2)
theorem vi {l : List Int} {A : Option Addr} {a : Nat} {B : Option Addr} {b : Nat} (k q : Nat) (hn : l.length ≤ 100) (hk : k + 100 * (260 + 2 * (q * 100)) ≤ 300000) : (gb l A a B b).e = 0 → ∀ d ∈ (gb l A a B b).ns, k + (gb l A a B b).m * (260 + 2 * (q * d)) ≤ 300000 := fun _ d hd => by
 have hd2 : d ∈ [((l.length : Int) - 1).toNat] := hd
 rw [List.mem_singleton] at hd2
 have h1 : q * d ≤ q * 100 := Nat.mul_le_mul_left _ (by omega)
 have h2 : l.length * (260 + 2 * (q * d)) ≤ 100 * (260 + 2 * (q * 100)) := Nat.mul_le_mul hn (by omega)
 show k + l.length * (260 + 2 * (q * d)) ≤ 300000
 omega
theorem vq (l l1 l2 : List Int) (A : Option Addr) (a : Nat) (B : Option Addr) (b : Nat) (w : World) (hT : fK w) (hf : (gb l A a B b).at_ w) (hcap : 1 ≤ a) (hn : l.length ≤ 100) (hl : ∀ z ∈ l, z.natAbs < 256)
  (h : fM (gb l A a B b) 0 = 0 ∧ fN false (ck (-1)) (gb l A a B b).ns 0 ((gb l A a B b).cs.map NR.d) = zN l1 ∧ fN true (ck (-1)) (gb l A a B b).ns 0 ((gb l A a B b).cs.map NR.d) = zN l2 ∧ bL (gb l A a B b).ns = [(l1.length : Int) - 1] ∧ bL (gb l A a B b).ns = [(l2.length : Int) - 1]) :
  Calls Tryz.prog 40 #[.agg #[.slice A 1 a, .slice B l.length b], .int .i64 0] w fun r w' => ∃ A1 a1 B1 b1 A2 a2 B2 b2, r = .returned (.tuple #[.agg #[.slice A1 1 a1, .slice B1 l1.length b1], .agg #[.slice A2 1 a2, .slice B2 l2.length b2], .int .i64 0]) ∧ Hp w [(gb l2 A2 a2 B2 b2).gI, (gb l2 A2 a2 B2 b2).gC, (gb l1 A1 a1 B1 b1).gC, (gb l1 A1 a1 B1 b1).gI] w' := by
 have := vw (gb l A a B b) 0 124 2 w hT hf (o9 hn hl) hcap gr.1 gr.2 (by decide) (vi 124 2 hn (by decide))
 rw [h.1] at this
 refine this.mono fun r w' ⟨g, g2, o1, o2, hr, hh⟩ => ?_
 obtain ⟨A1, a1, B1, b1, rfl⟩ := lf o1 h.2.2.2.1 h.2.1 (hh.ec (List.mem_of_getElem? (i := 3) rfl) (List.mem_of_getElem? (i := 2) rfl))
 obtain ⟨A2, a2, B2, b2, rfl⟩ := lf o2 h.2.2.2.2 h.2.2.1 (hh.ec (List.mem_of_getElem? (i := 0) rfl) (List.mem_of_getElem? (i := 1) rfl))
 exact ⟨A1, a1, B1, b1, A2, a2, B2, b2, hr, hh⟩
theorem AY (l l1 l2 : List Int) (A : Option Addr) (a : Nat) (B : Option Addr) (b : Nat) (w : World) (hT : fK w) (hf : (gb l A a B b).at_ w) (hcap : 1 ≤ a) (hn : l.length ≤ 100) (hl : ∀ z ∈ l, z.natAbs < 256)
  (h : fM (gb l A a B b) 0 = 0 ∧ fN false (ck (-2)) (gb l A a B b).ns 0 ((gb l A a B b).cs.map NR.d) = zN l1 ∧ fN true (ck (-2)) (gb l A a B b).ns 0 ((gb l A a B b).cs.map NR.d) = zN l2 ∧ bL (gb l A a B b).ns = [(l1.length : Int) - 1] ∧ bL (gb l A a B b).ns = [(l2.length : Int) - 1]) :
  Calls Tryz.prog 38 #[.agg #[.slice A 1 a, .slice B l.length b], .int .i64 0, .agg #[.bool (nR (ck (-2))).neg, .string (nR (ck (-2))).bk, .int .i64 (nR (ck (-2))).e]] w fun r w' => ∃ A1 a1 B1 b1 A2 a2 B2 b2, r = .returned (.tuple #[.agg #[.slice A1 1 a1, .slice B1 l1.length b1], .agg #[.slice A2 1 a2, .slice B2 l2.length b2], .int .i64 0]) ∧ Hp w [(gb l2 A2 a2 B2 b2).gI, (gb l2 A2 a2 B2 b2).gC, (gb l1 A1 a1 B1 b1).gC, (gb l1 A1 a1 B1 b1).gI] w' := by
 have z : Sz 2 (ck (-2)) := ⟨1, by decide +kernel, by decide⟩
 have := zD (gb l A a B b) 0 (nR (ck (-2))) (ck (-2)) 124 4 w hT hf (o9 hn hl) hcap (mi.of (z.mono (by decide)) (by decide)) ((Sz.one.mono (show 1 ≤ 3 by decide)).sub (z.mono (show 2 ≤ 3 by decide))) (by decide) (vi 124 4 hn (by decide))
 rw [h.1] at this
 refine this.mono fun r w' ⟨g, g2, o1, o2, hr, hh⟩ => ?_
 obtain ⟨A1, a1, B1, b1, rfl⟩ := lf o1 h.2.2.2.1 h.2.1 (hh.ec (List.mem_of_getElem? (i := 3) rfl) (List.mem_of_getElem? (i := 2) rfl))
 obtain ⟨A2, a2, B2, b2, rfl⟩ := lf o2 h.2.2.2.2 h.2.2.1 (hh.ec (List.mem_of_getElem? (i := 0) rfl) (List.mem_of_getElem? (i := 1) rfl))
 exact ⟨A1, a1, B1, b1, A2, a2, B2, b2, hr, hh⟩
theorem zP (l l1 hs : List Int) (A : Option Addr) (a : Nat) (B : Option Addr) (b : Nat) (L : Option Addr) (c : Nat) (w : World) (hT : fK w) (hf : (gb l A a B b).at_ w) (hcap : 1 ≤ a) (hn : l.length ≤ 10) (hl : ∀ z ∈ l, z.natAbs < 256) (hS : Sl w L hs.length 1 (bP hs)) (hm : hs.length ≤ 6) (hz : ∀ z ∈ hs, -9223372036854775808 ≤ z ∧ z ≤ 9223372036854775807)
  (h : dX (gb l A a B b) hs = 0 ∧ fZ (gb l A a B b).ns ((gb l A a B b).cs.map NR.d) hs = zN l1 ∧ bL (gb l A a B b).ns = [(l1.length : Int) - 1]) :
  Calls Tryz.prog 42 #[.agg #[.slice A 1 a, .slice B l.length b], .slice L hs.length c] w fun r w' => ∃ A1 a1 B1 b1, r = .returned (.tuple #[.agg #[.slice A1 1 a1, .slice B1 l1.length b1], .int .i64 0]) ∧ Hp w [(gb l1 A1 a1 B1 b1).gI, (gb l1 A1 a1 B1 b1).gC] w' := by
 have := s8 (gb l A a B b) L hs.length c hs 124 2 10 w hT hf (o9 (by omega) hl) hcap hS (by omega) hz gr.1 gr.2 (by decide) (fun _ d hd => by
  have hd2 : d ∈ [((l.length : Int) - 1).toNat] := hd
  rw [List.mem_singleton] at hd2
  omega) (by decide) (by
  show 124 + hs.length * (260 + 2 * (2 * 10)) + l.length * (260 + 2 * (2 * 10)) ≤ 300000
  omega)
 rw [h.1] at this
 refine this.mono fun r w' ⟨g, o1, hr, hh⟩ => ?_
 obtain ⟨A1, a1, B1, b1, rfl⟩ := lf o1 h.2.2 h.2.1 (hh.ec (List.mem_of_getElem? (i := 0) rfl) (List.mem_of_getElem? (i := 1) rfl))
 exact ⟨A1, a1, B1, b1, hr, hh⟩
theorem tY (B : Option Addr) (b : Nat) (w : World) (hT : fK w) (hS : Sl w B 1 3 (br NR.cells [nR ((7 : Int) : Dyadic)])) :
  Calls Tryz.prog 40 #[.agg #[.slice none 0 0, .slice B 1 b], .int .i64 0] w fun r w' => r = wO 1 ∧ Below w.heap.size w w' := by
 have z : Sz 24 ((7 : Int) : Dyadic) := ve (m := 7) (e := 0) (by decide) (by decide) (by decide)
 have hE : fM (⟨none, 0, 0, B, 1, b, [], [nR ((7 : Int) : Dyadic)]⟩ : FX) 0 = 1 := by kernel_rfl
 have := lh (⟨none, 0, 0, B, 1, b, [], [nR ((7 : Int) : Dyadic)]⟩ : FX) 0 124 2 w hT ⟨Sl.nil _ _ _, hS⟩ ⟨Nat.zero_le _, Nat.le_of_ble_eq_true rfl, fun c hc => by
  rw [List.mem_singleton] at hc
  subst hc
  exact ⟨z.ok (by omega), by rw [dH]; exact z.mono (by omega)⟩⟩ (Nat.le_refl _) gr.1 gr.2 (by decide) (fun _ d hd => by cases hd) (by rw [hE]; decide)
 rw [hE] at this
 exact this.mono fun r w' h => ⟨h.2, h.1⟩
def dq (l : List Int) : VP := fun v W => ∃ g : FX, v = .agg #[.slice g.A g.n g.a, .slice g.B g.m g.b] ∧ g.ds = [(l.length : Int) - 1] ∧ g.cs = (l.map fun z : Int => nR ((z : Dyadic) * ck (-2))) ∧ g.at_ W
theorem dq.ext {l : List Int} (v : Value) (w w' : World) (h : dq l v w) (hb : Below w.heap.size w w') : dq l v w' := let ⟨g, h1, h2, h3, h4⟩ := h; ⟨g, h1, h2, h3, h4.ext hb⟩
theorem iG (w : World) (hT : fK w) : Calls Tryz.prog 37 #[] w fun r w' => r = .returned (.bool true) ∧ Below w.heap.size w w' := by
 have hh := Hp.start w
 have hsh := fun w1 => iK (nR ((1 : Int) : Dyadic)) (-2) w1 (by decide +kernel) (by decide +kernel) (by decide +kernel) (by decide) (by decide)
 rw [dH, show ((1 : Int) : Dyadic) * ck (-2) = ck (-2) from Dyadic.one_mul _] at hsh
 refine aj (N := 113) (l := []) Tryz.func37 rfl rfl (by simp) ?_
 refine sr (aB (aa (sr ?_)))
 refine bo hh (cs := [_, _]) aN.out aA.out (a6 rfl (a6 rfl bR)) rfl rfl (by decide) (by decide) (by decide) rfl (by decide) ?_
 intro b16 w16 hh
 refine aU (cX [0, 4] _ _ _ (hh.bf (i := 0) rfl) (by decide) (by decide) (by decide)) av.out rfl (by decide) ?_
 rintro e_ w17 ⟨Af1, af1, Bf1, bf1, rfl, h2⟩
 refine ⟨_, rfl, ?_⟩
 replace hh := hh.join h2
 clear h2
 have capf1 := hh.k5 (i := 1) rfl
 refine aU (vq [0, 4] [0, 2] [2, 4] Af1 af1 Bf1 bf1 _ (hT.hp hh) (hh.ec (List.mem_of_getElem? (i := 0) rfl) (List.mem_of_getElem? (i := 1) rfl)) capf1 (by decide) (by decide) ⟨by kernel_rfl, by kernel_rfl, by kernel_rfl, by kernel_rfl, by kernel_rfl⟩) av.out rfl (by decide) ?_
 rintro e_ w18 ⟨Ar1, ar1, Br1, br1, Ar2, ar2, Br2, br2, rfl, h2⟩
 refine ⟨_, rfl, ?_⟩
 replace hh := hh.join h2
 clear h2
 replace hh := hh.sub (List.Sublist.cons_cons _ (List.Sublist.cons_cons _ (List.Sublist.cons_cons _ (List.Sublist.cons_cons _ (List.Sublist.cons _ (List.Sublist.cons _ (List.Sublist.cons _ List.Sublist.slnil)))))))
 refine mT ?_
 refine fp ?_
 refine fp ?_
 refine fp ?_
 refine cf hh ?_
 intro b1 w1 hh
 refine cf hh ?_
 intro b2 w2 hh
 refine bD hh 1 [_,_] ?_
 intro ws hh
 replace hh : Hp _ (_ :: .blk _ _ [_, _] _ :: _) _ := hh
 refine bD hh 0 [_,_] ?_
 intro ws hh
 replace hh : Hp _ (.blk _ _ [_, _] _ :: _) _ := hh
 refine aI (aa (sr ?_))
 refine bo hh (cs := [_, _, _]) aN.out aA.out (a6 rfl (a6 rfl (a6 rfl bR))) rfl rfl (by decide) (by decide) (by decide) rfl (by decide) ?_
 intro b23 w23 hh
 refine aU (cX [0, 0, 16] _ _ _ (hh.bf (i := 0) rfl) (by decide) (by decide) (by decide)) av.out rfl (by decide) ?_
 rintro e_ w24 ⟨Af2, af2, Bf2, bf2, rfl, h2⟩
 refine ⟨_, rfl, ?_⟩
 replace hh := hh.join h2
 clear h2
 have capf2 := hh.k5 (i := 1) rfl
 refine aU (vq [0, 0, 16] [0, 0, 4] [4, 16, 16] Af2 af2 Bf2 bf2 _ (hT.hp hh) (hh.ec (List.mem_of_getElem? (i := 0) rfl) (List.mem_of_getElem? (i := 1) rfl)) capf2 (by decide) (by decide) ⟨by kernel_rfl, by kernel_rfl, by kernel_rfl, by kernel_rfl, by kernel_rfl⟩) av.out rfl (by decide) ?_
 rintro e_ w25 ⟨Ar4, ar4, Br4, br4, Ar5, ar5, Br5, br5, rfl, h2⟩
 refine ⟨_, rfl, ?_⟩
 replace hh := hh.join h2
 clear h2
 replace hh := hh.sub (List.Sublist.cons_cons _ (List.Sublist.cons_cons _ (List.Sublist.cons_cons _ (List.Sublist.cons_cons _ (List.Sublist.cons _ (List.Sublist.cons _ (List.Sublist.cons _ (List.Sublist.cons_cons _ (List.Sublist.cons_cons _ (List.Sublist.cons_cons _ (List.Sublist.cons_cons _ (List.Sublist.cons_cons _ (List.Sublist.cons_cons _ List.Sublist.slnil)))))))))))))
 refine mT ?_
 refine fp ?_
 refine fp ?_
 refine fp ?_
 refine cf hh ?_
 intro b4 w4 hh
 refine cf hh ?_
 intro b5 w5 hh
 refine bD hh 1 [_,_] ?_
 intro ws hh
 replace hh : Hp _ (_ :: .blk _ _ [_, _] _ :: _) _ := hh
 refine bD hh 0 [_,_] ?_
 intro ws hh
 replace hh : Hp _ (.blk _ _ [_, _] _ :: _) _ := hh
 refine aI (aa (sr ?_))
 refine bo hh (cs := [_, _]) aN.out aA.out (a6 rfl (a6 rfl bR)) rfl rfl (by decide) (by decide) (by decide) rfl (by decide) ?_
 intro b30 w30 hh
 refine aU (cX [0, 4] _ _ _ (hh.bf (i := 0) rfl) (by decide) (by decide) (by decide)) av.out rfl (by decide) ?_
 rintro e_ w31 ⟨Af3, af3, Bf3, bf3, rfl, h2⟩
 refine ⟨_, rfl, ?_⟩
 replace hh := hh.join h2
 clear h2
 have capf3 := hh.k5 (i := 1) rfl
 refine bB hh (eH 1 _ (by decide) (by decide)) rfl ?_
 intro w32 hh
 refine bB hh (hsh _) rfl ?_
 intro w33 hh
 refine aU (AY [0, 4] [0, 1] [1, 4] Af3 af3 Bf3 bf3 _ (hT.hp hh) (hh.ec (List.mem_of_getElem? (i := 0) rfl) (List.mem_of_getElem? (i := 1) rfl)) capf3 (by decide) (by decide) ⟨by kernel_rfl, by kernel_rfl, by kernel_rfl, by kernel_rfl, by kernel_rfl⟩) av.out rfl (by decide) ?_
 rintro e_ w34 ⟨Ar7, ar7, Br7, br7, Ar8, ar8, Br8, br8, rfl, h2⟩
 refine ⟨_, rfl, ?_⟩
 replace hh := hh.join h2
 clear h2
 replace hh := hh.sub (List.Sublist.cons_cons _ (List.Sublist.cons_cons _ (List.Sublist.cons_cons _ (List.Sublist.cons_cons _ (List.Sublist.cons _ (List.Sublist.cons _ (List.Sublist.cons _ (List.Sublist.cons_cons _ (List.Sublist.cons_cons _ (List.Sublist.cons_cons _ (List.Sublist.cons_cons _ (List.Sublist.cons_cons _ (List.Sublist.cons_cons _ (List.Sublist.cons_cons _ (List.Sublist.cons_cons _ (List.Sublist.cons_cons _ (List.Sublist.cons_cons _ (List.Sublist.cons_cons _ (List.Sublist.cons_cons _ List.Sublist.slnil)))))))))))))))))))
 refine mT ?_
 refine fp ?_
 refine fp ?_
 refine fp ?_
 refine cf hh ?_
 intro b7 w7 hh
 refine cf hh ?_
 intro b8 w8 hh
 refine bD hh 1 [_,_] ?_
 intro ws hh
 replace hh : Hp _ (_ :: .blk _ _ [_, _] _ :: _) _ := hh
 refine bD hh 0 [_,_] ?_
 intro ws hh
 replace hh : Hp _ (.blk _ _ [_, _] _ :: _) _ := hh
 refine aI (aa (sr ?_))
 refine bo hh (cs := [_, _, _]) aN.out aA.out (a6 rfl (a6 rfl (a6 rfl bR))) rfl rfl (by decide) (by decide) (by decide) rfl (by decide) ?_
 intro b39 w39 hh
 refine aU (cX [0, 0, 16] _ _ _ (hh.bf (i := 0) rfl) (by decide) (by decide) (by decide)) av.out rfl (by decide) ?_
 rintro e_ w40 ⟨Af4, af4, Bf4, bf4, rfl, h2⟩
 refine ⟨_, rfl, ?_⟩
 replace hh := hh.join h2
 clear h2
 have capf4 := hh.k5 (i := 1) rfl
 refine bo hh (cs := [_, _]) aN.out aA.out (a6 rfl (a6 rfl bR)) rfl rfl (by decide) (by decide) (by decide) rfl (by decide) ?_
 intro b41 w41 hh
 refine aU (zP [0, 0, 16] [4, 12, 9] [1, 0] Af4 af4 Bf4 bf4 _ _ _ (hT.hp hh) (hh.ec (List.mem_of_getElem? (i := 1) rfl) (List.mem_of_getElem? (i := 2) rfl)) capf4 (by decide) (by decide) (hh.bf (i := 0) rfl) (by decide) (by decide) ⟨by kernel_rfl, by kernel_rfl, by kernel_rfl⟩) av.out rfl (by decide) ?_
 rintro e_ w42 ⟨Ar10, ar10, Br10, br10, rfl, h2⟩
 refine ⟨_, rfl, ?_⟩
 replace hh := hh.join h2
 clear h2
 replace hh := hh.sub (List.Sublist.cons_cons _ (List.Sublist.cons_cons _ (List.Sublist.cons _ (List.Sublist.cons _ (List.Sublist.cons _ (List.Sublist.cons _ (List.Sublist.cons_cons _ (List.Sublist.cons_cons _ (List.Sublist.cons_cons _ (List.Sublist.cons_cons _ (List.Sublist.cons_cons _ (List.Sublist.cons_cons _ (List.Sublist.cons_cons _ (List.Sublist.cons_cons _ (List.Sublist.cons_cons _ (List.Sublist.cons_cons _ (List.Sublist.cons_cons _ (List.Sublist.cons_cons _ (List.Sublist.cons_cons _ (List.Sublist.cons_cons _ (List.Sublist.cons_cons _ (List.Sublist.cons_cons _ (List.Sublist.cons_cons _ (List.Sublist.cons_cons _ List.Sublist.slnil))))))))))))))))))))))))
 refine mT ?_
 refine fp ?_
 refine fp ?_
 refine cf hh ?_
 intro b10 w10 hh
 refine bD hh 0 [_,_] ?_
 intro ws hh
 replace hh : Hp _ (.blk _ _ [_, _] _ :: _) _ := hh
 refine aI (aa (sr ?_))
 refine bB hh (eH 7 _ (by decide) (by decide)) rfl ?_
 intro w46 hh
 refine bo hh (cs := [_, _, _]) aN.out aA.out (a6 (ed rfl) bR) rfl rfl (by decide) (by decide) (by decide) rfl (by decide) ?_
 intro b47 w47 hh
 refine fg [_,_] ?_
 refine aU (tY _ _ _ (hT.hp hh) (hh.bf (i := 0) rfl)) av.out rfl (by decide) ?_
 rintro e_ w49 ⟨rfl, hb_⟩
 refine ⟨_, rfl, ?_⟩
 replace hh := hh.ext hb_
 replace hh := hh.sub (List.Sublist.cons _ (List.Sublist.cons_cons _ (List.Sublist.cons_cons _ (List.Sublist.cons_cons _ (List.Sublist.cons_cons _ (List.Sublist.cons_cons _ (List.Sublist.cons_cons _ (List.Sublist.cons_cons _ (List.Sublist.cons_cons _ (List.Sublist.cons_cons _ (List.Sublist.cons_cons _ (List.Sublist.cons_cons _ (List.Sublist.cons_cons _ (List.Sublist.cons_cons _ (List.Sublist.cons_cons _ (List.Sublist.cons_cons _ (List.Sublist.cons_cons _ (List.Sublist.cons_cons _ (List.Sublist.cons_cons _ (List.Sublist.cons_cons _ (List.Sublist.cons_cons _ (List.Sublist.cons_cons _ List.Sublist.slnil))))))))))))))))))))))
 refine mT ?_
 refine fp ?_
 refine fp ?_
 refine fp ?_
 refine cf hh ?_
 intro b12 w12 hh
 refine cf hh ?_
 intro b13 w13 hh
 refine bD hh 1 [_,_] ?_
 intro ws hh
 replace hh : Hp _ (_ :: .blk _ _ [_, _] _ :: _) _ := hh
 refine bD hh 0 [_,_] ?_
 intro ws hh
 replace hh : Hp _ (.blk _ _ [_, _] _ :: _) _ := hh
 refine aI (aa (ah ?_))
 replace hh := hh.sub (List.Sublist.cons _ (List.Sublist.cons _ (List.Sublist.cons_cons _ (List.Sublist.cons_cons _ (List.Sublist.cons_cons _ (List.Sublist.cons_cons _ (List.Sublist.cons_cons _ (List.Sublist.cons_cons _ (List.Sublist.cons_cons _ (List.Sublist.cons_cons _ (List.Sublist.cons_cons _ (List.Sublist.cons_cons _ (List.Sublist.cons_cons _ (List.Sublist.cons_cons _ (List.Sublist.cons_cons _ (List.Sublist.cons_cons _ (List.Sublist.cons_cons _ (List.Sublist.cons_cons _ (List.Sublist.cons_cons _ (List.Sublist.cons_cons _ (List.Sublist.cons_cons _ (List.Sublist.cons_cons _ (List.Sublist.cons_cons _ List.Sublist.slnil)))))))))))))))))))))))
 refine lI [] [] [0, 0, 2, 7, 15, 31, 31, 95, 255, 511, 1023, 2047, 4095, 8191, 16383, 32767, 32767, 98303, 262143, 524287, 1048575, 2097151, 2097151, 6291455, 16777215, 33554431, 67108863, 134217727, 268435455, 536870911, 1073741823, 2147483647, 2147483647, 6442450943, 17179869183, 34359738367, 68719476735, 137438953471, 137438953471, 412316860415, 1099511627775, 2199023255551, 4398046511103, 8796093022207, 17592186044415, 35184372088831, 70368744177663, 140737488355327, 140737488355327, 422212465065983, 1125899906842623, 2251799813685247, 4503599627370495, 9007199254740991, 18014398509481983, 36028797018963967, 72057594037927935, 144115188075855871, 288230376151711743, 576460752303423487, 1152921504606846975] 50 [[(1, none)], [], [(54, some 1)], [(53, some 0), (55, some 2)], [(56, some 3)], [(2, none), (57, some 4)], [(57, some 4)], [(59, some 6), (57, some 4)], [(58, some 5), (60, some 7), (57, some 4)], [(57, some 4), (61, some 8)], [(62, some 9)], [(3, none), (63, some 10)], [(64, some 11), (63, some 10)], [(63, some 10), (65, some 12)], [(66, some 13)], [(4, none), (67, some 14)], [(67, some 14)], [(69, some 16), (67, some 14)], [(68, some 15), (70, some 17), (67, some 14)], [(67, some 14), (71, some 18)], [(72, some 19)], [(5, none), (73, some 20)], [(73, some 20)], [(75, some 22), (73, some 20)], [(74, some 21), (76, some 23), (73, some 20)], [(73, some 20), (77, some 24)], [(78, some 25)], [(6, none), (79, some 26)], [(80, some 27), (79, some 26)], [(79, some 26), (81, some 28)], [(82, some 29)], [(7, none), (83, some 30)], [(83, some 30)], [(85, some 32), (83, some 30)], [(84, some 31), (86, some 33), (83, some 30)], [(83, some 30), (87, some 34)], [(88, some 35)], [(8, none), (89, some 36)], [(89, some 36)], [(91, some 38), (89, some 36)], [(90, some 37), (92, some 39), (89, some 36)], [(89, some 36), (93, some 40)], [(94, some 41)], [(9, none), (95, some 42)], [(96, some 43), (95, some 42)], [(95, some 42), (97, some 44)], [(98, some 45)], [(10, none), (99, some 46)], [(99, some 46)], [(101, some 48), (99, some 46)]] [(49, 102), (48, 101), (47, 100), (46, 99), (45, 98), (44, 97), (43, 96), (42, 95), (41, 94), (40, 93), (39, 92), (38, 91), (37, 90), (36, 89), (35, 88), (34, 87), (33, 86), (32, 85), (31, 84), (30, 83), (29, 82), (28, 81), (27, 80), (26, 79), (25, 78), (24, 77), (23, 76), (22, 75), (21, 74), (20, 73), (19, 72), (18, 71), (17, 70), (16, 69), (15, 68), (14, 67), (13, 66), (12, 65), (11, 64), (10, 63), (9, 62), (8, 61), (7, 60), (6, 59), (5, 58), (4, 57), (3, 56), (2, 55), (1, 54), (0, 53)] hh mixed (by kernel_rfl) nI rfl (by repeat (first | exact iT | refine gF ?_ | refine ja ?_)) ?_
 refine dV 16 [_,_] ?_
 refine uT [_,_] ?_
 refine bC (i := 2) (dq [0, 2]) (dq.ext) ?_ ?_
 ·intro ρ1 w1 hj hR
  obtain ⟨A54, c54, h54, s54⟩ := hR.1
  exact let ⟨A, c, e1, s1⟩ := hR.1; bV rfl (bJ av.out (aM e1 bE)) (cX [0, 2] A c w1 s1 (by decide) (by decide) (by decide)) (fun _ _ ⟨A2, a2, B2, b2, q1, q2⟩ => ⟨_, q1, q2.below, gb [0, 2] A2 a2 B2 b2, rfl, rfl, rfl, q2.ec List.mem_cons_self (List.mem_cons_of_mem _ List.mem_cons_self)⟩)
 refine bC (i := 3) (Is (.bool true)) (Is.ext) ?_ ?_
 ·intro ρ1 w1 hj hR
  exact let ⟨g, e1, e2, e3, e4⟩ := hR.2.1; bV rfl (bJ av.out (aM (show ρ1 53 = Value.agg (List.toArray _) from hR.1) (aM e1 bE))) (dK (gb [0, 2] Ar1 ar1 Br1 br1) g w1 (hj.hp.ec (List.mem_of_getElem? (i := 20) rfl) (List.mem_of_getElem? (i := 19) rfl)) e4 ⟨e2.symm, e3.symm⟩ (Nat.le_of_ble_eq_true rfl) (Nat.le_of_ble_eq_true rfl)) (fun _ _ ⟨q1, q2⟩ => ⟨_, q1, q2, rfl⟩)
 refine uU ?_
 first | refine dS ?_ | refine dU ?_ | refine dG (dV 15 [_,_] ?_)
 refine cR (i := 6) (cs := [_, _]) rfl (fun ρ1 w1 hj hR => (show ρ1 57 = Value.bool _ from hR.1)) aN.out aA.out (fun ρ1 w1 hj hR => (a6 rfl (a6 rfl bR))) rfl rfl (by decide) (by decide) rfl ?_
 refine bC (i := 7) (dq [2, 4]) (dq.ext) ?_ ?_
 ·intro ρ1 w1 hj hR
  obtain ⟨A59, c59, h59, s59⟩ := hR.1
  exact let ⟨A, c, e1, s1⟩ := hR.1; bX rfl (show ρ1 57 = Value.bool _ from hR.2.1) (bV rfl (bJ av.out (aM e1 bE)) (cX [2, 4] A c w1 s1 (by decide) (by decide) (by decide)) (fun _ _ ⟨A2, a2, B2, b2, q1, q2⟩ => ⟨_, q1, q2.below, gb [2, 4] A2 a2 B2 b2, rfl, rfl, rfl, q2.ec List.mem_cons_self (List.mem_cons_of_mem _ List.mem_cons_self)⟩))
 refine bC (i := 8) (Is (.bool true)) (Is.ext) ?_ ?_
 ·intro ρ1 w1 hj hR
  exact let ⟨g, e1, e2, e3, e4⟩ := hR.2.1; bX rfl (show ρ1 57 = Value.bool _ from hR.2.2.1) (bV rfl (bJ av.out (aM (show ρ1 58 = Value.agg (List.toArray _) from hR.1) (aM e1 bE))) (dK (gb [2, 4] Ar2 ar2 Br2 br2) g w1 (hj.hp.ec (List.mem_of_getElem? (i := 17) rfl) (List.mem_of_getElem? (i := 18) rfl)) e4 ⟨e2.symm, e3.symm⟩ (Nat.le_of_ble_eq_true rfl) (Nat.le_of_ble_eq_true rfl)) (fun _ _ ⟨q1, q2⟩ => ⟨_, q1, q2, rfl⟩))
 first | refine yn ?_ | refine dpF ?_
 refine uU ?_
 first | refine dS ?_ | refine dU ?_ | refine dG (dk ?_)
 first | refine dS ?_ | refine dU ?_ | refine dG (y6 ?_)
 first | refine yn ?_ | refine dpF ?_
 refine uU ?_
 first | refine dS ?_ | refine dU ?_ | refine dG (dV 10 [_,_] ?_)
 refine cR (i := 16) (cs := [_, _, _]) rfl (fun ρ1 w1 hj hR => (show ρ1 67 = Value.bool _ from hR.1)) aN.out aA.out (fun ρ1 w1 hj hR => (a6 rfl (a6 rfl (a6 rfl bR)))) rfl rfl (by decide) (by decide) rfl ?_
 refine bC (i := 17) (dq [0, 0, 4]) (dq.ext) ?_ ?_
 ·intro ρ1 w1 hj hR
  obtain ⟨A69, c69, h69, s69⟩ := hR.1
  exact let ⟨A, c, e1, s1⟩ := hR.1; bX rfl (show ρ1 67 = Value.bool _ from hR.2.1) (bV rfl (bJ av.out (aM e1 bE)) (cX [0, 0, 4] A c w1 s1 (by decide) (by decide) (by decide)) (fun _ _ ⟨A2, a2, B2, b2, q1, q2⟩ => ⟨_, q1, q2.below, gb [0, 0, 4] A2 a2 B2 b2, rfl, rfl, rfl, q2.ec List.mem_cons_self (List.mem_cons_of_mem _ List.mem_cons_self)⟩))
 refine bC (i := 18) (Is (.bool true)) (Is.ext) ?_ ?_
 ·intro ρ1 w1 hj hR
  exact let ⟨g, e1, e2, e3, e4⟩ := hR.2.1; bX rfl (show ρ1 67 = Value.bool _ from hR.2.2.1) (bV rfl (bJ av.out (aM (show ρ1 68 = Value.agg (List.toArray _) from hR.1) (aM e1 bE))) (dK (gb [0, 0, 4] Ar4 ar4 Br4 br4) g w1 (hj.hp.ec (List.mem_of_getElem? (i := 14) rfl) (List.mem_of_getElem? (i := 13) rfl)) e4 ⟨e2.symm, e3.symm⟩ (Nat.le_of_ble_eq_true rfl) (Nat.le_of_ble_eq_true rfl)) (fun _ _ ⟨q1, q2⟩ => ⟨_, q1, q2, rfl⟩))
 first | refine yn ?_ | refine dpF ?_
 refine uU ?_
 first | refine dS ?_ | refine dU ?_ | refine dG (dV 9 [_,_] ?_)
 refine cR (i := 22) (cs := [_, _, _]) rfl (fun ρ1 w1 hj hR => (show ρ1 73 = Value.bool _ from hR.1)) aN.out aA.out (fun ρ1 w1 hj hR => (a6 rfl (a6 rfl (a6 rfl bR)))) rfl rfl (by decide) (by decide) rfl ?_
 refine bC (i := 23) (dq [4, 16, 16]) (dq.ext) ?_ ?_
 ·intro ρ1 w1 hj hR
  obtain ⟨A75, c75, h75, s75⟩ := hR.1
  exact let ⟨A, c, e1, s1⟩ := hR.1; bX rfl (show ρ1 73 = Value.bool _ from hR.2.1) (bV rfl (bJ av.out (aM e1 bE)) (cX [4, 16, 16] A c w1 s1 (by decide) (by decide) (by decide)) (fun _ _ ⟨A2, a2, B2, b2, q1, q2⟩ => ⟨_, q1, q2.below, gb [4, 16, 16] A2 a2 B2 b2, rfl, rfl, rfl, q2.ec List.mem_cons_self (List.mem_cons_of_mem _ List.mem_cons_self)⟩))
 refine bC (i := 24) (Is (.bool true)) (Is.ext) ?_ ?_
 ·intro ρ1 w1 hj hR
  exact let ⟨g, e1, e2, e3, e4⟩ := hR.2.1; bX rfl (show ρ1 73 = Value.bool _ from hR.2.2.1) (bV rfl (bJ av.out (aM (show ρ1 74 = Value.agg (List.toArray _) from hR.1) (aM e1 bE))) (dK (gb [4, 16, 16] Ar5 ar5 Br5 br5) g w1 (hj.hp.ec (List.mem_of_getElem? (i := 11) rfl) (List.mem_of_getElem? (i := 12) rfl)) e4 ⟨e2.symm, e3.symm⟩ (Nat.le_of_ble_eq_true rfl) (Nat.le_of_ble_eq_true rfl)) (fun _ _ ⟨q1, q2⟩ => ⟨_, q1, q2, rfl⟩))
 first | refine yn ?_ | refine dpF ?_
 refine uU ?_
 first | refine dS ?_ | refine dU ?_ | refine dG (dk ?_)
 first | refine dS ?_ | refine dU ?_ | refine dG (y6 ?_)
 first | refine yn ?_ | refine dpF ?_
 refine uU ?_
 first | refine dS ?_ | refine dU ?_ | refine dG (dV 4 [_,_] ?_)
 refine cR (i := 32) (cs := [_, _]) rfl (fun ρ1 w1 hj hR => (show ρ1 83 = Value.bool _ from hR.1)) aN.out aA.out (fun ρ1 w1 hj hR => (a6 rfl (a6 rfl bR))) rfl rfl (by decide) (by decide) rfl ?_
 refine bC (i := 33) (dq [0, 1]) (dq.ext) ?_ ?_
 ·intro ρ1 w1 hj hR
  obtain ⟨A85, c85, h85, s85⟩ := hR.1
  exact let ⟨A, c, e1, s1⟩ := hR.1; bX rfl (show ρ1 83 = Value.bool _ from hR.2.1) (bV rfl (bJ av.out (aM e1 bE)) (cX [0, 1] A c w1 s1 (by decide) (by decide) (by decide)) (fun _ _ ⟨A2, a2, B2, b2, q1, q2⟩ => ⟨_, q1, q2.below, gb [0, 1] A2 a2 B2 b2, rfl, rfl, rfl, q2.ec List.mem_cons_self (List.mem_cons_of_mem _ List.mem_cons_self)⟩))
 refine bC (i := 34) (Is (.bool true)) (Is.ext) ?_ ?_
 ·intro ρ1 w1 hj hR
  exact let ⟨g, e1, e2, e3, e4⟩ := hR.2.1; bX rfl (show ρ1 83 = Value.bool _ from hR.2.2.1) (bV rfl (bJ av.out (aM (show ρ1 84 = Value.agg (List.toArray _) from hR.1) (aM e1 bE))) (dK (gb [0, 1] Ar7 ar7 Br7 br7) g w1 (hj.hp.ec (List.mem_of_getElem? (i := 8) rfl) (List.mem_of_getElem? (i := 7) rfl)) e4 ⟨e2.symm, e3.symm⟩ (Nat.le_of_ble_eq_true rfl) (Nat.le_of_ble_eq_true rfl)) (fun _ _ ⟨q1, q2⟩ => ⟨_, q1, q2, rfl⟩))
 first | refine yn ?_ | refine dpF ?_
 refine uU ?_
 first | refine dS ?_ | refine dU ?_ | refine dG (dV 3 [_,_] ?_)
 refine cR (i := 38) (cs := [_, _]) rfl (fun ρ1 w1 hj hR => (show ρ1 89 = Value.bool _ from hR.1)) aN.out aA.out (fun ρ1 w1 hj hR => (a6 rfl (a6 rfl bR))) rfl rfl (by decide) (by decide) rfl ?_
 refine bC (i := 39) (dq [1, 4]) (dq.ext) ?_ ?_
 ·intro ρ1 w1 hj hR
  obtain ⟨A91, c91, h91, s91⟩ := hR.1
  exact let ⟨A, c, e1, s1⟩ := hR.1; bX rfl (show ρ1 89 = Value.bool _ from hR.2.1) (bV rfl (bJ av.out (aM e1 bE)) (cX [1, 4] A c w1 s1 (by decide) (by decide) (by decide)) (fun _ _ ⟨A2, a2, B2, b2, q1, q2⟩ => ⟨_, q1, q2.below, gb [1, 4] A2 a2 B2 b2, rfl, rfl, rfl, q2.ec List.mem_cons_self (List.mem_cons_of_mem _ List.mem_cons_self)⟩))
 refine bC (i := 40) (Is (.bool true)) (Is.ext) ?_ ?_
 ·intro ρ1 w1 hj hR
  exact let ⟨g, e1, e2, e3, e4⟩ := hR.2.1; bX rfl (show ρ1 89 = Value.bool _ from hR.2.2.1) (bV rfl (bJ av.out (aM (show ρ1 90 = Value.agg (List.toArray _) from hR.1) (aM e1 bE))) (dK (gb [1, 4] Ar8 ar8 Br8 br8) g w1 (hj.hp.ec (List.mem_of_getElem? (i := 5) rfl) (List.mem_of_getElem? (i := 6) rfl)) e4 ⟨e2.symm, e3.symm⟩ (Nat.le_of_ble_eq_true rfl) (Nat.le_of_ble_eq_true rfl)) (fun _ _ ⟨q1, q2⟩ => ⟨_, q1, q2, rfl⟩))
 first | refine yn ?_ | refine dpF ?_
 refine uU ?_
 first | refine dS ?_ | refine dU ?_ | refine dG (dk ?_)
 first | refine dS ?_ | refine dU ?_ | refine dG (y6 ?_)
 first | refine yn ?_ | refine dpF ?_
 refine uU ?_
 first | refine dS ?_ | refine dU ?_ | refine dG (dV 0 [_,_] ?_)
 refine cR (i := 48) (cs := [_, _, _]) rfl (fun ρ1 w1 hj hR => (show ρ1 99 = Value.bool _ from hR.1)) aN.out aA.out (fun ρ1 w1 hj hR => (a6 rfl (a6 rfl (a6 rfl bR)))) rfl rfl (by decide) (by decide) rfl ?_
 refine bC (i := 49) (dq [4, 12, 9]) (dq.ext) ?_ ?_
 ·intro ρ1 w1 hj hR
  obtain ⟨A101, c101, h101, s101⟩ := hR.1
  exact let ⟨A, c, e1, s1⟩ := hR.1; bX rfl (show ρ1 99 = Value.bool _ from hR.2.1) (bV rfl (bJ av.out (aM e1 bE)) (cX [4, 12, 9] A c w1 s1 (by decide) (by decide) (by decide)) (fun _ _ ⟨A2, a2, B2, b2, q1, q2⟩ => ⟨_, q1, q2.below, gb [4, 12, 9] A2 a2 B2 b2, rfl, rfl, rfl, q2.ec List.mem_cons_self (List.mem_cons_of_mem _ List.mem_cons_self)⟩))
 refine aW ?_
 intro f W hJ hV _
 have hb_6 := hJ.bl
 obtain ⟨v102, v101, v100, v99, v98, v97, v96, v95, v94, v93, v92, v91, v90, v89, v88, v87, v86, v85, v84, v83, v82, v81, v80, v79, v78, v77, v76, v75, v74, v73, v72, v71, v70, v69, v68, v67, v66, v65, v64, v63, v62, v61, v60, v59, v58, v57, v56, v55, v54, v53, _⟩ := hV
 obtain ⟨A54, c54, e54, f54⟩ : Rows _ _ _ (f 1) W := v54
 obtain ⟨g55, e55, o55⟩ : dq [0, 2] (f 2) W := v55
 obtain ⟨A59, c59, e59, f59⟩ : Rows _ _ _ (f 6) W := v59
 obtain ⟨g60, e60, o60⟩ : dq [2, 4] (f 7) W := v60
 obtain ⟨A69, c69, e69, f69⟩ : Rows _ _ _ (f 16) W := v69
 obtain ⟨g70, e70, o70⟩ : dq [0, 0, 4] (f 17) W := v70
 obtain ⟨A75, c75, e75, f75⟩ : Rows _ _ _ (f 22) W := v75
 obtain ⟨g76, e76, o76⟩ : dq [4, 16, 16] (f 23) W := v76
 obtain ⟨A85, c85, e85, f85⟩ : Rows _ _ _ (f 32) W := v85
 obtain ⟨g86, e86, o86⟩ : dq [0, 1] (f 33) W := v86
 obtain ⟨A91, c91, e91, f91⟩ : Rows _ _ _ (f 38) W := v91
 obtain ⟨g92, e92, o92⟩ : dq [1, 4] (f 39) W := v92
 obtain ⟨A101, c101, e101, f101⟩ : Rows _ _ _ (f 48) W := v101
 obtain ⟨g102, e102, o102⟩ : dq [4, 12, 9] (f 49) W := v102
 replace hh := hJ.hp
 refine aJ (aZ (ae e102 (ae e101 (ae v100 (ae v99 (ae v98 (ae v97 (ae v96 (ae v95 (ae v94 (ae v93 (ae e92 (ae e91 (ae v90 (ae v89 (ae v88 (ae v87 (ae e86 (ae e85 (ae v84 (ae v83 (ae v82 (ae v81 (ae v80 (ae v79 (ae v78 (ae v77 (ae e76 (ae e75 (ae v74 (ae v73 (ae v72 (ae v71 (ae e70 (ae e69 (ae v68 (ae v67 (ae v66 (ae v65 (ae v64 (ae v63 (ae v62 (ae v61 (ae e60 (ae e59 (ae v58 (ae v57 (ae v56 (ae e55 (ae e54 (ae v53 aH))))))))))))))))))))))))))))))))))))))))))))))))))) ?_
 dsimp only [bQ]
 clear e54 e55 e59 e60 e69 e70 e75 e76 e85 e86 e91 e92 e101 e102 hJ
 refine bp rfl rfl ?_
 refine bB hh (dK (gb [4, 12, 9] Ar10 ar10 Br10 br10) g102 _ (hh.ec (List.mem_of_getElem? (i := 1) rfl) (List.mem_of_getElem? (i := 2) rfl)) o102.2.2 ⟨o102.1.symm, o102.2.1.symm⟩ (Nat.le_of_ble_eq_true rfl) (Nat.le_of_ble_eq_true rfl)) rfl ?_
 intro w103 hh
 first | refine db ?_ | refine de ?_
 refine mB ?_
 first | refine gS ?_ | (refine gT ?_; refine mI ?_) | refine gV ?_
 first | refine gS ?_ | (refine gT ?_; refine cV ?_) | refine gV ?_
 first | refine db ?_ | refine de ?_
 refine mB ?_
 first | refine gS ?_ | (refine gT ?_; refine mI ?_) | refine gV ?_
 first | refine gS ?_ | (refine gT ?_; refine cV ?_) | refine gV ?_
 first | refine db ?_ | refine de ?_
 refine aB (aa (ao ?_))
 refine cx ?_
 exact ⟨rfl, hh.below⟩
end Go.Proofs.YtioilmppidlbnaaGreatDoor
/- What a call hands back stays, whatever is written to one's own blocks. Plain lemmas, no program in sight. -/
namespace Go.Proofs.YtioilmppidlbnaaGreatDoor
open Go.RowKit
end Go.Proofs.YtioilmppidlbnaaGreatDoor
/- The walk through the law CastCuts. -/
namespace Go.Proofs.YtioilmppidlbnaaGreatDoor
open Go.RowKit
theorem vL.cap {g : FX} {R : List HE} {w w' : World} (h : vL R g) (hh : Hp w R w') : g.n ≤ g.a := by
 rcases h with rfl | ⟨_, rfl⟩
 ·exact hh.k5 (i := 1) rfl
 ·exact hh.k5 (i := 0) rfl
def AL (base : Nat) (E : Int) (D : List Nat) (ys : List Dyadic) : VP := fun v W => ∃ g : FX, v = .agg #[.slice g.A g.n g.a, .slice g.B g.m g.b] ∧ Out E D ys g ∧ ∃ w2 : World, base ≤ w2.heap.size ∧ Hp w2 [g.gI, g.gC] W
def Bb (base : Nat) (E : Int) (D : List Nat) (ys zs : List Dyadic) : VP := fun v W => ∃ g h : FX, v = .tuple #[.agg #[.slice g.A g.n g.a, .slice g.B g.m g.b], .agg #[.slice h.A h.n h.a, .slice h.B h.m h.b], .int .i64 E] ∧ Out E D ys g ∧ Out E D zs h ∧ ∃ w2 : World, base ≤ w2.heap.size ∧ Hp w2 [h.gI, h.gC, g.gC, g.gI] W
theorem uK {f : FX} (h : f.sE) (h0 : f.e = 0) : ∀ d ∈ f.ns, d ≤ 6 := fun d hd => by
 obtain ⟨hdeg, -, -, hlow, -, -⟩ := FX.fv h0
 have h1 := hlow d hd
 have h2 := h.2.2.2 (d : Int) (by rw [hdeg]; unfold bL; exact List.mem_map_of_mem hd)
 omega
end Go.Proofs.YtioilmppidlbnaaGreatDoor
/- The walk through the law CastParts. -/
namespace Go.Proofs.YtioilmppidlbnaaGreatDoor
open Go.RowKit
theorem md (fa : FX) (L : Option Addr) (m2 c2 : Nat) (hs : List Int) (w : World) (hT : fK w) (hf : fa.at_ w) (hS : Sl w L m2 1 (bP hs)) (hz : ∀ h ∈ hs, -9223372036854775808 ≤ h ∧ h ≤ 9223372036854775807) :
  Calls Tryz.prog 8 #[.agg #[.slice fa.A fa.n fa.a, .slice fa.B fa.m fa.b], .slice L m2 c2] w fun r w' => r = .returned (.bool true) ∧ Below w.heap.size w w' := by
 have hh := Hp.start w
 have hl2 : hs.length = m2 := by have := hS.1; simpa [bP] using this
 refine aj (N := 60) (l := [.agg #[.slice fa.A fa.n fa.a, .slice fa.B fa.m fa.b], .slice L m2 c2]) Tryz.func8 rfl rfl (by simp) ?_
 refine sr ?_
 refine cw hh [_,_] ?_
 intro b2 w2 hh
 refine aB (aa (ah (sr ?_)))
 refine da hh 0 [_,_] ?_
 refine aU (pT fa _ (hf.ext hh.below)) av.out rfl (by decide) ?_
 rintro e_ w12 ⟨p1, rfl, hs0, hb_⟩
 refine ⟨_, rfl, ?_⟩
 replace hh := hh.ext hb_
 cases p1 with
 | true =>
  refine mB ?_
  first | refine gS ?_ | (refine gT ?_; refine mL ?_) | refine gV ?_
  first | refine gS ?_ | (refine gT ?_; refine a7 ?_) | refine gV ?_
  first | refine gS ?_ | (refine gT ?_; refine bO ?_) | refine gV ?_
  first | refine db ?_ | refine de ?_
  refine aa (cT (sr ?_))
  refine bB hh (iG _ (hT.hp hh)) rfl ?_
  intro w18 hh
  refine aB (aa (ao (aQ ?_)))
  refine cx ?_
  exact ⟨rfl, hh.below⟩
 | false =>
  have hs0 := hs0 rfl
  by_cases h6 : 6 < m2
  ·refine mB ?_
   first | refine gS ?_ | (refine gT ?_; refine mL ?_) | refine gV ?_
   first | refine gS ?_ | (refine gT ?_; refine a7 ?_) | refine gV ?_
   first | refine gS ?_ | (refine gT ?_; refine bO ?_) | refine gV ?_
   first | refine db ?_ | refine de ?_
   refine aa (cT (sr ?_))
   refine bB hh (iG _ (hT.hp hh)) rfl ?_
   intro w18 hh
   refine aB (aa (ao (aQ ?_)))
   refine cx ?_
   exact ⟨rfl, hh.below⟩
  ·obtain ⟨hsl, hsm, hsn, hsd⟩ := id hs0
   refine mB ?_
   first | refine gS ?_ | (refine gT ?_; refine mL ?_) | refine gV ?_
   first | refine gS ?_ | (refine gT ?_; refine a7 ?_) | refine gV ?_
   first | refine gS ?_ | (refine gT ?_; refine bO ?_) | refine gV ?_
   first | refine db ?_ | refine de ?_
   refine aa (cF (ak (ai (sr ?_))))
   refine da hh 0 [_,_] ?_
   refine aU (Av fa _ (hf.ext hh.below) (by omega) (by omega)) av.out rfl (by decide) ?_
   rintro e_ w20 ⟨o, R, d1, d2, d3, d4, rfl, hmi, h2⟩
   refine ⟨_, rfl, ?_⟩
   have hcap := hmi.cap h2
   replace hh : Hp w (_ :: R) _ := (hh.join h2).perm List.perm_append_comm
   clear h2
   have hol : o.cs.length = o.m := by rw [d2, d4]; exact hf.ln.2
   have ol : o.rl 124 := ⟨by rw [d3]; omega, by rw [d4]; omega, by rw [d2]; exact hsl.num⟩
   have hon : o.n ≤ 100000 := by omega
   have q1 : o.e = fa.e := by unfold FX.e; rw [d1, d2]
   have q2 : o.ns = fa.ns := by unfold FX.ns; rw [d1]
   have q3 : dX o hs = dX fa hs := by unfold dX; rw [q1, d3]
   have hd6 : fa.e = 0 → ∀ d ∈ fa.ns, d ≤ 6 := fun h0 => uK hs0 h0
   have hd6' := hd6
   rw [← q1, ← q2] at hd6'
   have hpt := fun L' c' w1 hT1 ho hS1 => s8 o L' m2 c' hs 124 2 6 w1 hT1 ho ol hcap hS1 (by omega) hz gr.1 gr.2 (by decide) hd6' (by decide) (by rw [d4]; omega)
   have hrp := fun w1 hb => xI fa L m2 c2 hs 124 2 6 w1 (hf.ext hb) hsl (hS.ext hb) (by omega) hz gr.1 gr.2 (by decide) hd6 (by decide) (by omega)
   rw [q3, q2, d2] at hpt
   clear hd6 hd6' q1 q2 q3 hs0
   generalize dX fa hs = E at *
   generalize fZ fa.ns (fa.cs.map NR.d) hs = ys at *
   generalize fa.ns = D at *
   have hnum := fun A c w1 hS1 hS2 => jY A L m2 m2 c c2 hs hs w1 hS1 hS2 (by omega) (by omega)
   rw [show decide (hs = hs) = true from decide_eq_true rfl] at hnum
   have hfs : ∀ f ∈ [fa], f.at_ w := fun f h => by rw [List.mem_singleton.1 h]; exact hf
   refine fU hh aN.out aA.out (by decide) ?_
   intro b21 w21 hh
   refine mL ?_
   refine df hh (i := 0) rfl rfl rfl (hS.ext hh.below) aN.out aA.out rfl (by decide) ?one1 (by omega) (by omega) (by decide) ?kk1
   case one1 => first | rfl | assumption | exact bW _ | exact oneCells_u8s _
   intro A23 c23 w23 hh
   simp only [List.set_cons_zero] at hh
   rw [Nat.zero_add m2]
   rw [Nat.zero_add, List.nil_append] at hh
   refine cf hh ?_
   intro b5 w5 hh
   refine bD hh 0 [_,_] ?_
   intro ws hh
   replace hh : Hp _ (.blk _ _ [_, _] _ :: _) _ := hh
   refine aL (aa (sr ?_))
   refine da hh 0 [_,_] (mL ?_)
   refine aU (hpt _ _ _ (hT.hp hh) (hmi.at_ hol (fun x hx => by simp [hx]) hh) (hh.bf (i := 1) rfl)) av.out rfl (by decide) ?_
   rintro e_ w27 ⟨g1, o1, rfl, h2⟩
   refine ⟨_, rfl, ?_⟩
   replace hh := hh.join h2
   simp only [List.cons_append, List.nil_append] at hh
   clear h2
   refine mT ?_
   refine fp ?_
   refine fp ?_
   refine cf hh ?_
   intro b7 w7 hh
   refine bD hh 0 [_,_] ?_
   intro ws hh
   replace hh : Hp _ (.blk _ _ [_, _] _ :: _) _ := hh
   refine aI (aa (sr ?_))
   refine da hh 5 [_,_] (mL ?_)
   refine aU (hrp _ hh.below) av.out rfl (by decide) ?_
   rintro e_ w33 ⟨g2, R2, o2, k2, rfl, h2⟩
   refine ⟨_, rfl, ?_⟩
   replace hh : Hp w (_ :: _ :: _ :: _ :: _ :: _ :: (R ++ R2)) _ := (hh.join h2).perm List.perm_append_comm
   have k2' : Kept [fa] (R ++ R2) g2 := k2.sub fun x hx => List.mem_append_right _ hx
   clear h2 k2
   refine mT ?_
   refine fp ?_
   refine fp ?_
   refine cf hh ?_
   intro b9 w9 hh
   refine bD hh 0 [_,_] ?_
   intro ws hh
   replace hh : Hp _ (.blk _ _ [_, _] _ :: _) _ := hh
   refine aI (aa (ah (sr (mI (mI ?_)))))
   refine gA (mB ?_)
   first | refine gS ?_ | (refine gT ?_; refine da hh 1 [_,_] ?_) | refine gV ?_
   first | refine gS ?_ | (refine gT ?_; refine da hh 0 [_,_] ?_) | refine gV ?_
   refine bp rfl rfl ?_
   refine bB hh (dK g1 g2 _ (hh.ec (List.mem_of_getElem? (i := 2) rfl) (List.mem_of_getElem? (i := 3) rfl)) (k2'.at_ hfs (fun x hx => by simp at hx; simp [hx]) hh) (o1.same o2) o1.n o1.m) rfl ?_
   intro w42 hh
   first | refine gS ?_ | (refine gT ?_; refine qF ?_) | refine gV ?_
   first | refine db ?_ | refine de ?_
   refine aa (cF (ak (ai (sr (bG ?_)))))
   refine bI hh 1 ?_
   replace hh := hh.sub (List.Sublist.cons _ (List.Sublist.cons_cons _ (List.Sublist.cons_cons _ (List.Sublist.cons_cons _ (List.Sublist.cons_cons _ (List.Sublist.cons_cons _ (List.Sublist.cons_cons _ (List.Sublist.refl _))))))))
   replace hh := hh.perm (List.perm_middle (l₁ := [_]))
   simp only [List.cons_append, List.nil_append] at hh
   refine qR hh (i := 0) rfl rfl aN.out aA.out rfl rfl ?_
   intro wc hh
   simp only [List.set_cons_zero] at hh
   replace hh := hh.sub (List.Sublist.cons _ (List.Sublist.cons_cons _ (List.Sublist.cons_cons _ (List.Sublist.cons_cons _ (List.Sublist.cons_cons _ (List.Sublist.cons_cons _ (List.Sublist.refl _)))))))
   refine aa (sr (bG ?_))
   refine bI hh 0 ?_
   replace hh := hh.perm (List.perm_middle (l₁ := [_]))
   simp only [List.cons_append, List.nil_append] at hh
   refine qR hh (i := 0) rfl rfl aN.out aA.out rfl rfl ?_
   intro wc hh
   simp only [List.set_cons_zero] at hh
   replace hh := hh.sub (List.Sublist.cons _ (List.Sublist.cons _ (List.Sublist.cons_cons _ (List.Sublist.cons_cons _ (List.Sublist.cons_cons _ (List.Sublist.refl _))))))
   refine aa (sr ?_)
   refine da hh 0 [_,_] ?_
   refine da hh 2 [_,_] ?_
   refine bB hh (dK o fa _ (hmi.at_ hol (fun x hx => by simp [hx]) hh) (hf.ext hh.below) ⟨d1, d2⟩ hon (by omega)) rfl ?_
   intro w51 hh
   refine mB ?_
   first | refine gS ?_ | (refine gT ?_; refine mL ?_) | refine gV ?_
   first | refine gS ?_ | (refine gT ?_; refine mL ?_) | refine gV ?_
   refine bp rfl rfl ?_
   refine bB hh (hnum _ _ _ (hh.bf (i := 1) rfl) (hS.ext hh.below)) rfl ?_
   intro w55 hh
   first | refine db ?_ | refine de ?_
   refine mB ?_
   refine bp rfl rfl ?_
   refine bB hh (iG _ (hT.hp hh)) rfl ?_
   intro w58 hh
   first | refine db ?_ | refine de ?_
   refine aB (aa (ao ?_))
   refine cx ?_
   exact ⟨rfl, hh.below⟩
end Go.Proofs.YtioilmppidlbnaaGreatDoor
/- The row and the card of CastParts. -/
namespace Go.Proofs.YtioilmppidlbnaaGreatDoor.castParts
open Go.ChangeShapes Go.WideShapes Go.ChangeAt Go.RowKit Go.ChangeMaps
theorem own : ownKnob Tryz.prog.godebug = none := by kernel_rfl
set_option maxRecDepth 100000 in
theorem lifted (os : Os) (started : os.Started) (H : Type) (enc : TypeId × Value → H) :
  ReturnsInHanded {} Tryz.checked os 8 .any (fun w args => (Rows.castPartsSpec.pre enc Tryz.prog Tryz.f8 Rows.castPartsRow.domain false w args ∧ laidMetH Tryz.prog Rows.castPartsRow.laid w) ∧ sizedMet enc Tryz.prog Tryz.f8 (OpenSpec.ofChange Rows.castPartsSpec) false w args)
   (Rows.castPartsSpec.post enc Tryz.prog Tryz.f8 false true false false) := by
 refine returnsInHanded_of_change_and (C := Tryz.checked) (X := fun w _ => laidMetH Tryz.prog Rows.castPartsRow.laid w) (fun _ _ _ hh h => h.of_heap hh) own started (by kernel_rfl) Tryz.func8
  (ChangeSpec.witness_shaped (enc := enc) (C := Tryz.checked) (os := os) (X := fun w _ => laidMetH Tryz.prog Rows.castPartsRow.laid w) false (World.laidAll Tryz.prog os Rows.castPartsRow.laid) #[.agg #[.slice none 0 0, .slice none 0 0], .slice none 0 0] 8 (World.laidAll_os _ _ _)
   (World.shaped_of_ZipB (by kernel_rfl) (by kernel_rfl)) (by kernel_rfl) (by kernel_rfl) (by kernel_rfl)
   (by rw [MakeChecks.laidMetH_plain _ _ _ (by kernel_rfl)]; exact laidMet_laidAll _ (by kernel_rfl) (by kernel_rfl))) ?_
 intro W base args ds gs before hval0 hW hc _ hL _
 have hval : ∀ (j : Nat) t v, Tryz.f8.params[j]? = some t → args[j]? = some v → Value.okWide Tryz.prog W .any base t v := hval0
 have hW' := hW
 obtain ⟨p, q, hA0, hV, rfl, hfz, hnd⟩ := hW
 have hA : DataW.TrodAll enc Tryz.prog W 0 (fun _ => true) true Tryz.f8.params.toList args.toList ds p := hA0
 rw [Tryz.params8] at hA hval
 obtain ⟨v0, vs0, d0, ds0, p0, q0, hargs, rfl, rfl, h0, r0⟩ := trodAll_cons hA
 obtain ⟨v1, vs1, d1, ds1, p1, q1, rfl, rfl, rfl, h1, r1⟩ := trodAll_cons r0
 obtain ⟨rfl, rfl, rfl⟩ := trodAll_nil r1
 obtain rfl : args = #[v0, v1] := by cases args; simp_all
 obtain ⟨rfl, rfl⟩ := trodVars_none hV
 obtain ⟨f0, rfl, hS0⟩ := ux (hval 0 28 v0 rfl rfl) h0
 obtain ⟨A1, n1, c1, l1, rfl, hS1, hI1⟩ := uF (hval 1 25 v1 rfl rfl) h1
 refine (md f0 A1 n1 c1 l1 W (qU hL) hS0 hS1 hI1).mono fun e W' ⟨he, hb⟩ => ?_
 subst he
 exact ⟨_, rfl, u2 hW' rfl (by kernel_rfl) (by rw [Tryz.params8]; exact of_decide_eq_true (by kernel_rfl)) (by kernel_rfl) Tryz.underlying4 rfl rfl rfl hb⟩
theorem row_holds : Rows.CastPartsSaid :=
 OpenClaim.holds_of_wide 8 Tryz.f8 rfl rfl rfl rfl rfl rfl rfl ⟨rfl, rfl, rfl, rfl, rfl⟩ rfl rfl rfl rfl rfl (by kernel_rfl) Tryz.func8 (by kernel_rfl)
  (of_decide_eq_true (by kernel_rfl)) (by unfold Func.isWrapper; first | (rw [if_pos (by decide +kernel)]; kernel_rfl) | (rw [if_neg (by decide +kernel)]; exact ⟨rfl, rfl⟩))
  (fun os started H enc _ => lifted os started H enc)
theorem holds : Rows.CastPartsCardSaid :=
 Claim7.holds_tied_plain_at .later [] [.data, .data, .pinned] true (true, "0b215af0b67f448459599e78ac8335c1e55d291f4b1ea5a16e79847ce8851b12") false row_holds (fun _ h => by cases h) (by kernel_rfl) (fun _ h => by cases h) castParts_row_tie rfl ⟨rfl, rfl⟩ (by kernel_rfl) rfl
  (fun f fn hf hfn => by
   obtain rfl : f = 8 := Option.some.inj ((show Tryz.prog.funcNamed "ogee/ogeelaw13.CastParts" = some 8 by kernel_rfl).symm.trans hf) |>.symm
   obtain rfl : fn = Tryz.f8 := (Option.some.inj (Tryz.func8.symm.trans hfn)).symm
   exact ⟨by kernel_rfl, fun j t ht => by
    rw [Tryz.params8] at ht
    have hm : t ∈ [28, 25] := by simpa using Array.mem_of_getElem? ht
    have hall : ([28, 25].all fun u => !Tryz.prog.wantsStandIn u) = true := by kernel_rfl
    exact (show Tryz.prog.wantsStandIn t = false by simpa using List.all_eq_true.1 hall t hm)⟩)
  (by kernel_rfl)
#print axioms holds
end Go.Proofs.YtioilmppidlbnaaGreatDoor.castParts
