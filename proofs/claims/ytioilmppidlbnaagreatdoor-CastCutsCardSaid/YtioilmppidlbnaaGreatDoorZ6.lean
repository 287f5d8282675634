/- The row and the card of CastCuts. -/
import Derived.Test.YtioilmppidlbnaaGreatDoorCards
import Derived.Test.YtioilmppidlbnaaGreatDoorTie
import Derived.SevenTiedAt
import Derived.Test.YtioilmppidlbnaaGreatDoorZ5
/- The walk through ogeeref13.share, and Half. -/
namespace Go.Proofs.YtioilmppidlbnaaGreatDoor
open Go.RowKit
def j2 (up : Bool) (d : Nat) (s : Dyadic) : Nat → Nat → Dyadic := if up then kD d s else lJ d s
theorem tF {n k : Nat} (h : k ≤ n) : mi n (k : Int) = nD (bin n k) := by
 unfold mi
 rw [if_neg (by omega), Int.toNat_natCast]
theorem wH {up : Bool} {d i k q : Nat} {s : Dyadic} (hs : Sz q s) (hs1 : Sz q (1 - s)) (hd : d ≤ 127) (hi : i ≤ d) (hk : k ≤ d) : Sz (130 + 2 * (q * d)) (j2 up d s i k) := by
 unfold j2
 cases up with
 | false =>
  show Sz _ (lJ d s i k)
  rw [← u6]
  exact tT hs hs1 hd hk
 | true =>
  show Sz _ (kD d s i k)
  unfold kD
  split
  ·exact Sz.zero _
  ·exact (((lu i (i - k) (by omega)).mul (hs.n4 (show i - k ≤ d by omega))).mul (hs1.n4 (show d - i ≤ d by omega))).mono (by omega)
theorem qp {x y : Dyadic} {k : Nat} (w : World) (hx : Sz k x) (hy : Sz k y) (hk : k ≤ 3000000) :
  Calls Tryz.prog 68 #[.agg #[.bool (nR x).neg, .string (nR x).bj, .int .i64 (nR x).e], .agg #[.bool (nR y).neg, .string (nR y).bj, .int .i64 (nR y).e]] w fun r w' => r = .returned (.agg #[.bool (nR (x * y)).neg, .string (nR (x * y)).bj, .int .i64 (nR (x * y)).e]) ∧ Below w.heap.size w w' := by
 have okx := hx.ok (by omega)
 have oky := hy.ok (by omega)
 have mx := hx.bj
 have my := hy.bj
 have := kE (nR x) (nR y) w (by omega) (by omega) (by have := okx.2; omega) (by have := okx.2; omega) (by have := oky.2; omega) (by have := oky.2; omega)
 rwa [dH, dH] at this
theorem ta {q d : Nat} {sn : NR} {s : Dyadic} (vs : lT q sn s) (hq : q ≤ 2000) (hd : d ≤ 127) (n : Int) (w : World) (hn : n ≤ d) :
  Calls Tryz.prog 184 #[.agg #[.bool sn.neg, .string sn.bj, .int .i64 sn.e], .int .i64 n] w fun r w' => r = .returned (.agg #[.bool (nR (s ^ n.toNat)).neg, .string (nR (s ^ n.toNat)).bj, .int .i64 (nR (s ^ n.toNat)).e]) ∧ Below w.heap.size w w' := by
 have h1 : q * n.toNat ≤ 2000 * 127 := Nat.mul_le_mul hq (by omega)
 have := r9 sn n w vs.ok q (by rw [vs.d]; exact vs.sz) (by omega) (by omega)
 rwa [vs.d] at this
theorem sM (d i k : Nat) (sn : NR) (s : Dyadic) (q : Nat) (w : World) (hd : d ≤ 127) (hi : i ≤ d) (hk : k ≤ d) (vs : lT q sn s) (hs1 : Sz q (1 - s)) (hq : q ≤ 2000) :
  Calls Tryz.prog 141 #[.int .i64 d, .int .i64 i, .int .i64 k, .int .i64 0, .agg #[.bool sn.neg, .string sn.bj, .int .i64 sn.e]] w fun r w' => r = .returned (.agg #[.bool (nR (j2 false d s i k)).neg, .string (nR (j2 false d s i k)).bj, .int .i64 (nR (j2 false d s i k)).e]) ∧ Below w.heap.size w w' := by
 have hh := Hp.start w
 have hqd : q * d ≤ 2000 * 127 := Nat.mul_le_mul hq hd
 have hof : ∀ w1, Calls Tryz.prog 85 #[.int .i64 1] w1 fun r w' => r = .returned (.agg #[.bool (nR (1 : Dyadic)).neg, .string (nR (1 : Dyadic)).bj, .int .i64 (nR (1 : Dyadic)).e]) ∧ Below w1.heap.size w1 w' := fun w1 => eG 1 w1 (by decide) (by decide)
 have hsb := fun w1 => m6 (nR (1 : Dyadic)) sn w1 (Sz.one.ok (by omega)) vs.ok (by rw [vs.d]; exact vs.sz.ok (by omega))
 simp only [dH, vs.d] at hsb
 have hch := fun w1 => jv (d - i) ((d : Int) - (i : Int)) ((k : Int) - (i : Int)) w1 (by omega) (by omega) (by omega) (by omega)
 have hpw := fun w1 => ta vs hq hd (i : Int) w1 (by omega)
 have zc := (pr (n := d - i) ((k : Int) - (i : Int)) (by omega)).mono (show 128 ≤ 300000 by omega)
 have zp := (vs.sz.n4 hi).mono (show 1 + q * d ≤ 300000 by omega)
 rw [Int.toNat_natCast] at hpw
 have hmul := fun w1 => qp w1 zc zp (by omega)
 have zm := zc.mul zp
 have hpr := fun w1 => ta (lT.of hs1 hq) hq hd ((k : Int) - (i : Int)) w1 (by omega)
 have zr := (hs1.n4 (show ((k : Int) - (i : Int)).toNat ≤ d by omega)).mono (show 1 + q * d ≤ 600000 by omega)
 have hmul2 := fun w1 => qp w1 zm zr (by omega)
 have hval : ¬ k < i → mi (d - i) ((k : Int) - (i : Int)) * s ^ i * (1 - s) ^ ((k : Int) - (i : Int)).toNat = j2 false d s i k := fun h => by
  show _ = lJ d s i k
  unfold lJ
  rw [if_neg h, show (k : Int) - (i : Int) = ((k - i : Nat) : Int) by omega, tF (by omega), Int.toNat_natCast]
 have hval0 : k < i → j2 false d s i k = 0 := fun h => by
  show lJ d s i k = _
  unfold lJ
  rw [if_pos h]
 generalize j2 false d s i k = V at *
 generalize mi (d - i) ((k : Int) - (i : Int)) = C at *
 by_cases hki : k < i
 ·rw [hval0 hki]
  refine aj (N := 63) (l := [.int .i64 d, .int .i64 i, .int .i64 k, .int .i64 0, .agg #[.bool sn.neg, .string sn.bj, .int .i64 sn.e]]) Tryz.func141 rfl rfl (by simp) ?_
  refine sr ?_
  refine cj hh [_,_,_] ?_
  intro b9 w9 hh
  refine bW hh ?_
  intro b10 w10 hh
  refine aa (ah ?_)
  refine aE 4 [[], [(9, none)], [(14, some 0), (15, some 1)], []] [(3, 11), (2, 16), (1, 15), (0, 14)] hh mixed (by kernel_rfl) ?_
  refine dC (fun _ hj => hof _) ?_
  refine dJ 1 [_,_,_] ?_
  refine dC (fun _ hj => hsb _) ?_
  refine br (i := 3) (bE _ 39 _) bE.ext (fun ρ1 w1 hj hR => db aA.out hj.bl (fun v w2 h hb => ⟨hb, h⟩)) ?_
  refine aX ?_
  intro f W hJ hV
  have hb_1 := hJ.bl
  obtain ⟨v11, v16, v15, v14, _⟩ := hV
  obtain ⟨b11, e11, hl11, hc11⟩ : bE _ _ _ (f 3) W := v11
  replace hh := hJ.newVar hh hl11 hc11
  refine aK (aZ (ae e11 (ae v16 (ae v15 (ae v14 aM))))) ?_
  dsimp only [bQ]
  clear e11 hJ
  refine stC hh 0 [_,_,_] ?_
  intro ws hh
  replace hh : Hp _ (.blk _ _ [_, _, _] _ :: _) _ := hh
  refine aa (ah (sr (mI ?_)))
  refine cV (aa (cT (ah ?_)))
  refine aE 12 [[(0, none)], [(1, none)], [(19, some 0), (20, some 1)], [(2, none)], [(1, none)], [(22, some 3), (23, some 4)], [(21, some 2), (24, some 5)], [(9, none)], [(1, none)], [(26, some 7), (27, some 8)], [(25, some 6), (28, some 9)], []] [(11, 12), (10, 29), (9, 28), (8, 27), (7, 26), (6, 25), (5, 24), (4, 23), (3, 22), (2, 21), (1, 20), (0, 19)] hh mixed (by kernel_rfl) ?_
  refine dw ?_
  refine dw ?_
  refine j4 ?_
  refine dw ?_
  refine dw ?_
  refine j4 ?_
  refine dC (fun _ hj => hch _) ?_
  refine dJ 2 [_,_,_] ?_
  refine dw ?_
  refine dC (fun _ hj => hpw _) ?_
  refine dC (fun _ hj => hmul _) ?_
  refine br (i := 11) (bE _ 39 _) bE.ext (fun ρ1 w1 hj hR => db aA.out hj.bl (fun v w2 h hb => ⟨hb, h⟩)) ?_
  refine aX ?_
  intro f W hJ hV
  have hb_3 := hJ.bl
  obtain ⟨v12, v29, v28, v27, v26, v25, v24, v23, v22, v21, v20, v19, _⟩ := hV
  obtain ⟨b12, e12, hl12, hc12⟩ : bE _ _ _ (f 11) W := v12
  replace hh := hJ.newVar hh hl12 hc12
  refine aK (aZ (ae e12 (ae v29 (ae v28 (ae v27 (ae v26 (ae v25 (ae v24 (ae v23 (ae v22 (ae v21 (ae v20 (ae v19 aM))))))))))))) ?_
  dsimp only [bQ]
  clear e12 hJ
  refine stC hh 0 [_,_,_] ?_
  intro ws hh
  replace hh : Hp _ (.blk _ _ [_, _, _] _ :: _) _ := hh
  refine aa (ah (sr (mI (mI ?_))))
  refine aJ (aa (cT (sr ?_)))
  refine fc [_,_,_] ?_
  refine stC hh 2 [_,_,_] ?_
  intro ws hh
  replace hh : Hp _ (_ :: _ :: .blk _ _ [_, _, _] _ :: _) _ := hh
  refine aa (ao (aQ (aQ ?_)))
  refine eE (aF rfl (aG (vs := [_, _, _]) aA.out (hh.ar (i := 2) (n := 3) rfl rfl) rfl) a9) ?_
  exact ⟨rfl, hh.below⟩
 ·rw [← hval hki]
  refine aj (N := 63) (l := [.int .i64 d, .int .i64 i, .int .i64 k, .int .i64 0, .agg #[.bool sn.neg, .string sn.bj, .int .i64 sn.e]]) Tryz.func141 rfl rfl (by simp) ?_
  refine sr ?_
  refine cj hh [_,_,_] ?_
  intro b9 w9 hh
  refine bW hh ?_
  intro b10 w10 hh
  refine aa (ah ?_)
  refine aE 4 [[], [(9, none)], [(14, some 0), (15, some 1)], []] [(3, 11), (2, 16), (1, 15), (0, 14)] hh mixed (by kernel_rfl) ?_
  refine dC (fun _ hj => hof _) ?_
  refine dJ 1 [_,_,_] ?_
  refine dC (fun _ hj => hsb _) ?_
  refine br (i := 3) (bE _ 39 _) bE.ext (fun ρ1 w1 hj hR => db aA.out hj.bl (fun v w2 h hb => ⟨hb, h⟩)) ?_
  refine aX ?_
  intro f W hJ hV
  have hb_1 := hJ.bl
  obtain ⟨v11, v16, v15, v14, _⟩ := hV
  obtain ⟨b11, e11, hl11, hc11⟩ : bE _ _ _ (f 3) W := v11
  replace hh := hJ.newVar hh hl11 hc11
  refine aK (aZ (ae e11 (ae v16 (ae v15 (ae v14 aM))))) ?_
  dsimp only [bQ]
  clear e11 hJ
  refine stC hh 0 [_,_,_] ?_
  intro ws hh
  replace hh : Hp _ (.blk _ _ [_, _, _] _ :: _) _ := hh
  refine aa (ah (sr (mI ?_)))
  refine cV (aa (cT (ah ?_)))
  refine aE 12 [[(0, none)], [(1, none)], [(19, some 0), (20, some 1)], [(2, none)], [(1, none)], [(22, some 3), (23, some 4)], [(21, some 2), (24, some 5)], [(9, none)], [(1, none)], [(26, some 7), (27, some 8)], [(25, some 6), (28, some 9)], []] [(11, 12), (10, 29), (9, 28), (8, 27), (7, 26), (6, 25), (5, 24), (4, 23), (3, 22), (2, 21), (1, 20), (0, 19)] hh mixed (by kernel_rfl) ?_
  refine dw ?_
  refine dw ?_
  refine j4 ?_
  refine dw ?_
  refine dw ?_
  refine j4 ?_
  refine dC (fun _ hj => hch _) ?_
  refine dJ 2 [_,_,_] ?_
  refine dw ?_
  refine dC (fun _ hj => hpw _) ?_
  refine dC (fun _ hj => hmul _) ?_
  refine br (i := 11) (bE _ 39 _) bE.ext (fun ρ1 w1 hj hR => db aA.out hj.bl (fun v w2 h hb => ⟨hb, h⟩)) ?_
  refine aX ?_
  intro f W hJ hV
  have hb_3 := hJ.bl
  obtain ⟨v12, v29, v28, v27, v26, v25, v24, v23, v22, v21, v20, v19, _⟩ := hV
  obtain ⟨b12, e12, hl12, hc12⟩ : bE _ _ _ (f 11) W := v12
  replace hh := hJ.newVar hh hl12 hc12
  refine aK (aZ (ae e12 (ae v29 (ae v28 (ae v27 (ae v26 (ae v25 (ae v24 (ae v23 (ae v22 (ae v21 (ae v20 (ae v19 aM))))))))))))) ?_
  dsimp only [bQ]
  clear e12 hJ
  refine stC hh 0 [_,_,_] ?_
  intro ws hh
  replace hh : Hp _ (.blk _ _ [_, _, _] _ :: _) _ := hh
  refine aa (ah (sr (mI (mI ?_))))
  refine aJ (aa (cF (ak (ai (ah ?_)))))
  refine aE 6 [[(12, none)], [(11, none)], [(2, none)], [(1, none)], [(36, some 2), (37, some 3)], [(35, some 1), (38, some 4)]] [(5, 39), (4, 38), (3, 37), (2, 36), (1, 35), (0, 34)] hh mixed (by kernel_rfl) ?_
  refine dJ 0 [_,_,_] ?_
  refine dJ 1 [_,_,_] ?_
  refine dw ?_
  refine dw ?_
  refine j4 ?_
  refine dC (fun _ hj => hpr _) ?_
  refine aX ?_
  intro f W hJ hV
  have hb_6 := hJ.bl
  obtain ⟨v39, v38, v37, v36, v35, v34, _⟩ := hV
  replace hh := hJ.hp
  refine aK (aZ (ae v39 (ae v38 (ae v37 (ae v36 (ae v35 (ae v34 aM))))))) ?_
  dsimp only [bQ]
  clear hJ
  refine bA hh (hmul2 _) rfl ?_
  intro w40 hh
  refine stC hh 2 [_,_,_] ?_
  intro ws hh
  replace hh : Hp _ (_ :: _ :: .blk _ _ [_, _, _] _ :: _) _ := hh
  refine aa (ao (aQ ?_))
  refine eE (aF rfl (aG (vs := [_, _, _]) aA.out (hh.ar (i := 2) (n := 3) rfl rfl) rfl) a9) ?_
  exact ⟨rfl, hh.below⟩
theorem sC (d i k : Nat) (sn : NR) (s : Dyadic) (q : Nat) (w : World) (hd : d ≤ 127) (hi : i ≤ d) (hk : k ≤ d) (vs : lT q sn s) (hs1 : Sz q (1 - s)) (hq : q ≤ 2000) :
  Calls Tryz.prog 141 #[.int .i64 d, .int .i64 i, .int .i64 k, .int .i64 1, .agg #[.bool sn.neg, .string sn.bj, .int .i64 sn.e]] w fun r w' => r = .returned (.agg #[.bool (nR (j2 true d s i k)).neg, .string (nR (j2 true d s i k)).bj, .int .i64 (nR (j2 true d s i k)).e]) ∧ Below w.heap.size w w' := by
 have hh := Hp.start w
 have hqd : q * d ≤ 2000 * 127 := Nat.mul_le_mul hq hd
 have hof : ∀ w1, Calls Tryz.prog 85 #[.int .i64 1] w1 fun r w' => r = .returned (.agg #[.bool (nR (1 : Dyadic)).neg, .string (nR (1 : Dyadic)).bj, .int .i64 (nR (1 : Dyadic)).e]) ∧ Below w1.heap.size w1 w' := fun w1 => eG 1 w1 (by decide) (by decide)
 have hsb := fun w1 => m6 (nR (1 : Dyadic)) sn w1 (Sz.one.ok (by omega)) vs.ok (by rw [vs.d]; exact vs.sz.ok (by omega))
 simp only [dH, vs.d] at hsb
 have hch := fun w1 => jv i (i : Int) ((i : Int) - (k : Int)) w1 (by omega) (by omega) (by omega) (by omega)
 have hpw := fun w1 => ta vs hq hd ((i : Int) - (k : Int)) w1 (by omega)
 have zc := (pr (n := i) ((i : Int) - (k : Int)) (by omega)).mono (show 128 ≤ 300000 by omega)
 have zp := (vs.sz.n4 (show ((i : Int) - (k : Int)).toNat ≤ d by omega)).mono (show 1 + q * d ≤ 300000 by omega)
 have hmul := fun w1 => qp w1 zc zp (by omega)
 have zm := zc.mul zp
 have hpr := fun w1 => ta (lT.of hs1 hq) hq hd ((d : Int) - (i : Int)) w1 (by omega)
 have zr := (hs1.n4 (show ((d : Int) - (i : Int)).toNat ≤ d by omega)).mono (show 1 + q * d ≤ 600000 by omega)
 have hmul2 := fun w1 => qp w1 zm zr (by omega)
 have hval : ¬ i < k → mi i ((i : Int) - (k : Int)) * s ^ ((i : Int) - (k : Int)).toNat * (1 - s) ^ ((d : Int) - (i : Int)).toNat = j2 true d s i k := fun h => by
  show _ = kD d s i k
  unfold kD
  rw [if_neg h, show (i : Int) - (k : Int) = ((i - k : Nat) : Int) by omega, show (d : Int) - (i : Int) = ((d - i : Nat) : Int) by omega, tF (by omega), Int.toNat_natCast, Int.toNat_natCast]
 have hval0 : i < k → j2 true d s i k = 0 := fun h => by
  show kD d s i k = _
  unfold kD
  rw [if_pos h]
 generalize j2 true d s i k = V at *
 generalize mi i ((i : Int) - (k : Int)) = C at *
 by_cases hki : i < k
 ·rw [hval0 hki]
  refine aj (N := 63) (l := [.int .i64 d, .int .i64 i, .int .i64 k, .int .i64 1, .agg #[.bool sn.neg, .string sn.bj, .int .i64 sn.e]]) Tryz.func141 rfl rfl (by simp) ?_
  refine sr ?_
  refine cj hh [_,_,_] ?_
  intro b9 w9 hh
  refine bW hh ?_
  intro b10 w10 hh
  refine aa (ah ?_)
  refine aE 4 [[], [(9, none)], [(14, some 0), (15, some 1)], []] [(3, 11), (2, 16), (1, 15), (0, 14)] hh mixed (by kernel_rfl) ?_
  refine dC (fun _ hj => hof _) ?_
  refine dJ 1 [_,_,_] ?_
  refine dC (fun _ hj => hsb _) ?_
  refine br (i := 3) (bE _ 39 _) bE.ext (fun ρ1 w1 hj hR => db aA.out hj.bl (fun v w2 h hb => ⟨hb, h⟩)) ?_
  refine aX ?_
  intro f W hJ hV
  have hb_1 := hJ.bl
  obtain ⟨v11, v16, v15, v14, _⟩ := hV
  obtain ⟨b11, e11, hl11, hc11⟩ : bE _ _ _ (f 3) W := v11
  replace hh := hJ.newVar hh hl11 hc11
  refine aK (aZ (ae e11 (ae v16 (ae v15 (ae v14 aM))))) ?_
  dsimp only [bQ]
  clear e11 hJ
  refine stC hh 0 [_,_,_] ?_
  intro ws hh
  replace hh : Hp _ (.blk _ _ [_, _, _] _ :: _) _ := hh
  refine aa (ah (sr (mI ?_)))
  refine cV (aa (cF (ak (ai (ah (sr (mI (mI ?_))))))))
  refine bO (aa ?_)
  refine cT (sr ?_)
  refine fc [_,_,_] ?_
  refine stC hh 1 [_,_,_] ?_
  intro ws hh
  replace hh : Hp _ (_ :: .blk _ _ [_, _, _] _ :: _) _ := hh
  refine aa (ao (aQ ?_))
  refine eE (aF rfl (aG (vs := [_, _, _]) aA.out (hh.ar (i := 1) (n := 3) rfl rfl) rfl) a9) ?_
  exact ⟨rfl, hh.below⟩
 ·rw [← hval hki]
  refine aj (N := 63) (l := [.int .i64 d, .int .i64 i, .int .i64 k, .int .i64 1, .agg #[.bool sn.neg, .string sn.bj, .int .i64 sn.e]]) Tryz.func141 rfl rfl (by simp) ?_
  refine sr ?_
  refine cj hh [_,_,_] ?_
  intro b9 w9 hh
  refine bW hh ?_
  intro b10 w10 hh
  refine aa (ah ?_)
  refine aE 4 [[], [(9, none)], [(14, some 0), (15, some 1)], []] [(3, 11), (2, 16), (1, 15), (0, 14)] hh mixed (by kernel_rfl) ?_
  refine dC (fun _ hj => hof _) ?_
  refine dJ 1 [_,_,_] ?_
  refine dC (fun _ hj => hsb _) ?_
  refine br (i := 3) (bE _ 39 _) bE.ext (fun ρ1 w1 hj hR => db aA.out hj.bl (fun v w2 h hb => ⟨hb, h⟩)) ?_
  refine aX ?_
  intro f W hJ hV
  have hb_1 := hJ.bl
  obtain ⟨v11, v16, v15, v14, _⟩ := hV
  obtain ⟨b11, e11, hl11, hc11⟩ : bE _ _ _ (f 3) W := v11
  replace hh := hJ.newVar hh hl11 hc11
  refine aK (aZ (ae e11 (ae v16 (ae v15 (ae v14 aM))))) ?_
  dsimp only [bQ]
  clear e11 hJ
  refine stC hh 0 [_,_,_] ?_
  intro ws hh
  replace hh : Hp _ (.blk _ _ [_, _, _] _ :: _) _ := hh
  refine aa (ah (sr (mI ?_)))
  refine cV (aa (cF (ak (ai (ah (sr (mI (mI ?_))))))))
  refine bO (aa ?_)
  refine cF (ak (ai (ah ?_)))
  refine aE 12 [[(1, none)], [(1, none)], [(2, none)], [(46, some 1), (47, some 2)], [(45, some 0), (48, some 3)], [(9, none)], [(1, none)], [(2, none)], [(51, some 6), (52, some 7)], [(50, some 5), (53, some 8)], [(49, some 4), (54, some 9)], []] [(11, 13), (10, 55), (9, 54), (8, 53), (7, 52), (6, 51), (5, 50), (4, 49), (3, 48), (2, 47), (1, 46), (0, 45)] hh mixed (by kernel_rfl) ?_
  refine dw ?_
  refine dw ?_
  refine dw ?_
  refine j4 ?_
  refine dC (fun _ hj => hch _) ?_
  refine dJ 2 [_,_,_] ?_
  refine dw ?_
  refine dw ?_
  refine j4 ?_
  refine dC (fun _ hj => hpw _) ?_
  refine dC (fun _ hj => hmul _) ?_
  refine br (i := 11) (bE _ 39 _) bE.ext (fun ρ1 w1 hj hR => db aA.out hj.bl (fun v w2 h hb => ⟨hb, h⟩)) ?_
  refine aX ?_
  intro f W hJ hV
  have hb_9 := hJ.bl
  obtain ⟨v13, v55, v54, v53, v52, v51, v50, v49, v48, v47, v46, v45, _⟩ := hV
  obtain ⟨b13, e13, hl13, hc13⟩ : bE _ _ _ (f 11) W := v13
  replace hh := hJ.newVar hh hl13 hc13
  refine aK (aZ (ae e13 (ae v55 (ae v54 (ae v53 (ae v52 (ae v51 (ae v50 (ae v49 (ae v48 (ae v47 (ae v46 (ae v45 aM))))))))))))) ?_
  dsimp only [bQ]
  clear e13 hJ
  refine stC hh 0 [_,_,_] ?_
  intro ws hh
  replace hh : Hp _ (.blk _ _ [_, _, _] _ :: _) _ := hh
  refine aa (ah ?_)
  refine aE 6 [[(13, none)], [(11, none)], [(0, none)], [(1, none)], [(58, some 2), (59, some 3)], [(57, some 1), (60, some 4)]] [(5, 61), (4, 60), (3, 59), (2, 58), (1, 57), (0, 56)] hh mixed (by kernel_rfl) ?_
  refine dJ 0 [_,_,_] ?_
  refine dJ 1 [_,_,_] ?_
  refine dw ?_
  refine dw ?_
  refine j4 ?_
  refine dC (fun _ hj => hpr _) ?_
  refine aX ?_
  intro f W hJ hV
  have hb_10 := hJ.bl
  obtain ⟨v61, v60, v59, v58, v57, v56, _⟩ := hV
  replace hh := hJ.hp
  refine aK (aZ (ae v61 (ae v60 (ae v59 (ae v58 (ae v57 (ae v56 aM))))))) ?_
  dsimp only [bQ]
  clear hJ
  refine bA hh (hmul2 _) rfl ?_
  intro w62 hh
  refine stC hh 2 [_,_,_] ?_
  intro ws hh
  replace hh : Hp _ (_ :: _ :: .blk _ _ [_, _, _] _ :: _) _ := hh
  refine aa (ao ?_)
  refine eE (aF rfl (aG (vs := [_, _, _]) aA.out (hh.ar (i := 2) (n := 3) rfl rfl) rfl) a9) ?_
  exact ⟨rfl, hh.below⟩
theorem pD (d i k : Nat) (up : Bool) (sn : NR) (s : Dyadic) (q : Nat) (w : World) (hd : d ≤ 127) (hi : i ≤ d) (hk : k ≤ d) (vs : lT q sn s) (hs1 : Sz q (1 - s)) (hq : q ≤ 2000) :
  Calls Tryz.prog 141 #[.int .i64 d, .int .i64 i, .int .i64 k, .int .i64 (if up then 1 else 0), .agg #[.bool sn.neg, .string sn.bj, .int .i64 sn.e]] w fun r w' => r = .returned (.agg #[.bool (nR (j2 up d s i k)).neg, .string (nR (j2 up d s i k)).bj, .int .i64 (nR (j2 up d s i k)).e]) ∧ Below w.heap.size w w' := by
 cases up with
 | false => exact sM d i k sn s q w hd hi hk vs hs1 hq
 | true => exact sC d i k sn s q w hd hi hk vs hs1 hq
theorem qB (w : World) :
  Calls Tryz.prog 41 #[] w fun r w' => r = .returned (.agg #[.bool (nR (cg (-1))).neg, .string (nR (cg (-1))).bj, .int .i64 (nR (cg (-1))).e]) ∧ Below w.heap.size w w' := by
 have hh := Hp.start w
 have hof : ∀ w1, Calls Tryz.prog 85 #[.int .i64 1] w1 fun r w' => r = .returned (.agg #[.bool (nR (1 : Dyadic)).neg, .string (nR (1 : Dyadic)).bj, .int .i64 (nR (1 : Dyadic)).e]) ∧ Below w1.heap.size w1 w' := fun w1 => eG 1 w1 (by decide) (by decide)
 have hsh := fun w1 => iW (nR (1 : Dyadic)) (-1) w1 (by have := Sz.one.bj; omega) (by decide +kernel) (by decide +kernel) (by decide) (by decide)
 rw [dH, Dyadic.one_mul] at hsh
 refine aj (N := 3) (l := []) Tryz.func41 rfl rfl (by simp) ?_
 refine sr ?_
 refine bW hh ?_
 intro b0 w0 hh
 refine aa (sr ?_)
 refine bA hh (hof _) rfl ?_
 intro w1 hh
 refine bA hh (hsh _) rfl ?_
 intro w2 hh
 refine stC hh 0 [_,_,_] ?_
 intro ws hh
 replace hh : Hp _ (.blk _ _ [_, _, _] _ :: _) _ := hh
 refine aa (ao ?_)
 refine eE (aF rfl (aG (vs := [_, _, _]) aA.out (hh.ar (i := 0) (n := 3) rfl rfl) rfl) a9) ?_
 exact ⟨rfl, hh.below⟩
end Go.Proofs.YtioilmppidlbnaaGreatDoor
/- The walk through ogeeref13.part. -/
namespace Go.Proofs.YtioilmppidlbnaaGreatDoor
open Go.RowKit
theorem y6 {rr : List Nat} {a n i : Nat} {ex : List Value} (hl : rr.length = n) (ha : a < n) (hi : i ≤ 255) : cx (kO (bS rr.reverse) ++ ex) (a * 1) [.int .u8 (i : Int)] = kO (bS (rr.set (n - 1 - a) i).reverse) ++ ex := by
 have hb : (bS rr.reverse).length = n := by unfold bS; rw [List.length_map, iD, List.length_reverse, hl]
 rw [Nat.mul_one, bZ (by rw [List.length_append, fA]; omega), List.set_append_left _ _ (by rw [fA]; omega)]
 congr 1
 have e1 : (rr.set (n - 1 - a) i).reverse = rr.reverse.set a i := by
  rw [u5 (by omega), hl, show n - 1 - (n - 1 - a) = a by omega]
 have e2 : (rz (i : Int)).toNat = i := by
  show (UInt8.ofNat ((i : Int)).toNat).toNat = i
  rw [Int.toNat_natCast, UInt8.toNat_ofNat']
  omega
 rw [e1]
 unfold bS kO bK
 rw [List.map_set, List.map_set, List.map_set, e2]
theorem y2 {ds : List Nat} {xs : List Dyadic} {row : List Nat} {K : Nat} (h : ∀ x ∈ xs, Sz K x) : Sz K (co ds xs row) := by
 unfold co
 split
 ·cases h2 : xs[hU ds row]? with
  | none => exact Sz.zero _
  | some x => exact h x (List.mem_of_getElem? h2)
 ·exact Sz.zero _
def u1 (ns rr : List Nat) (a : Nat) (xs : List Dyadic) (M : Nat → Nat → Dyadic) (r i : Nat) : Dyadic := sm (List.range i) fun j => co ns.reverse xs (rr.set a j) * M j r
theorem wh (ns rr : List Nat) (a : Nat) (xs : List Dyadic) (M : Nat → Nat → Dyadic) (r i : Nat) : u1 ns rr a xs M r (i + 1) = u1 ns rr a xs M r i + co ns.reverse xs (rr.set a i) * M i r := by
 unfold u1
 rw [List.range_succ, ll]
theorem wS {up : Bool} {s : Dyadic} {ns : List Nat} {a p d : Nat} {xs : List Dyadic} (hp : p < aC ns) (hd : ns[a]? = some d) : (eL up s ns a xs)[p]? = some (u1 ns (dk ns.reverse p) (ns.length - 1 - a) xs (j2 up d s) ((dk ns.reverse p).getD (ns.length - 1 - a) 0) (d + 1)) := by
 have ha := (List.getElem?_eq_some_iff.1 hd).1
 have e1 : ns.getD a 0 = d := by rw [List.getD_eq_getElem?_getD, hd]; rfl
 unfold eL ep
 rw [List.getElem?_map, List.getElem?_range (by rw [eA]; exact hp), rm ha, e1]
 rfl
theorem lR (F FC : Option Addr) (n c1 c2 a k q : Nat) (up : Bool) (sd : Int) (hsd : sd = if up then 1 else 0) (ns : List Nat) (xs : List Dyadic) (sn : NR) (s : Dyadic) (w : World) (hF : Sl w F n 1 (bU (bK ns))) (hFC : Sl w FC (aC ns) 3 (bu NR.cells (xs.map nR)))
  (hn : n ≤ 12) (ha : a < n) (hlow : ∀ d ∈ ns, d ≤ 127) (hN : aC ns ≤ 4096) (hx : ∀ x ∈ xs, Sz k x) (hk : k ≤ 1000000) (vs : lT q sn s) (hs1 : Sz q (1 - s)) (hq : q ≤ 2000) :
  Calls Tryz.prog 89 #[.agg #[.slice F n c1, .slice FC (aC ns) c2], .int .i64 a, .int .i64 sd, .agg #[.bool sn.neg, .string sn.bj, .int .i64 sn.e]] w fun r w' => ∃ A c B b, r = .returned (.agg #[.slice A n c, .slice B (aC ns) b]) ∧ Hp w [.row B (aC ns) b 39 3 (bu NR.cells ((eL up s ns a xs).map nR)), .row A n c 3 1 (bU (bK ns))] w' := by
 have hh := Hp.start w
 have hl1 : ns.length = n := by have := hF.1; simpa [bU, bK] using this
 have hlx : xs.length = aC ns := by have := hFC.eH NR.len (by decide); simpa using this
 obtain ⟨a5, rfl, s5⟩ := hFC.at_ (dz ns)
 obtain ⟨a1, rfl, s1⟩ := hF.at_ (by omega)
 obtain ⟨d, hd⟩ := aT (l := ns) (k := a) (by omega)
 have hgd := cu (iJ hd)
 have hd127 := hlow d (List.mem_of_getElem? hd)
 have hqd : q * d ≤ 2000 * 127 := Nat.mul_le_mul hq hd127
 have hrF := fun w1 hS1 => p8 (some a1) n c1 ns w1 hS1 (by omega) hlow (by omega)
 refine aj (N := 86) (l := [.agg #[.slice (some a1) n c1, .slice (some a5) (aC ns) c2], .int .i64 a, .int .i64 sd, .agg #[.bool sn.neg, .string sn.bj, .int .i64 sn.e]]) Tryz.func89 rfl rfl (by simp) ?_
 refine sr ?_
 refine cj hh [_,_] ?_
 intro b4 w4 hh
 refine cj hh [_,_,_] ?_
 intro b7 w7 hh
 refine bW hh ?_
 intro b8 w8 hh
 refine aa (sr ?_)
 refine gQ hh aN.out aA.out (by decide) ?_
 intro b17 w17 hh
 refine bG ?_
 refine bJ hh 3 ?_
 refine dv hh (i := 0) rfl rfl rfl (hF.ext hh.below) aN.out aA.out rfl (by decide) ?one4 (by omega) (by omega) (by decide) ?kk4
 case one4 => first | rfl | assumption | exact bX _ | exact oneCells_u8s _
 intro A20 c20 w20 hh
 simp only [List.set_cons_zero] at hh
 rw [Nat.zero_add n]
 rw [Nat.zero_add, List.nil_append] at hh
 obtain ⟨g20, rfl⟩ := hh.dZ (i := 0) rfl (by omega)
 refine fc [_,_] ?_
 refine bW hh ?_
 intro b9 w9 hh
 refine stC hh 0 [_,_] ?_
 intro ws hh
 replace hh : Hp _ (.blk _ _ [_, _] _ :: _) _ := hh
 refine aa (sr (bG ?_))
 refine bJ hh 4 ?_
 refine aU (hrF _ (hF.ext hh.below)) au.out rfl (by decide) ?_
 rintro e_ w24 ⟨A24, c24, rfl, hown_, hb_⟩
 refine ⟨_, rfl, ?_⟩
 replace hh := hh.bk (x := .row _ _ _ _ _ _) hb_ hown_
 obtain ⟨g24, rfl⟩ := hh.dZ (i := 0) rfl (dz _)
 refine aL (aa (ah (sr (aI (aa (al ?_))))))
 replace hh := hh.eZ 39 3
 clear hrF
 have FRM : True := trivial
 refine bB [11, 12, 13, 14, 15, 16, 25, 26, 27, 28, 29, 30, 31, 32, 33, 34, 35, 36, 37, 38, 39, 40, 41, 42, 43, 44, 45, 46, 47, 48, 49, 50, 51, 52, 53, 54, 55, 56, 57, 58, 59, 60, 61, 62, 63, 64, 65, 66, 67, 68, 69, 70, 71, 72, 73, 74, 75, 76, 77, 78, 79, 80, 81, 82, 83, 84] 11
  (fun v w' => ∃ (p cC : Nat) (C : Option Addr), p ≤ aC ns ∧ v = .int .i64 p ∧ Hp w [.row C p cC 39 3 (bu NR.cells (((eL up s ns a xs).take p).map nR)), .row (some ⟨g24, 0, none⟩) (aC ns) c24 9 1 (gZ (lW ns)), .blk b9 28 [.slice (some ⟨g20, 0, none⟩) n c20, .slice C p cC] (0, 0), .row (some ⟨g20, 0, none⟩) n c20 3 1 (bU (bK ns)), .blk b8 28 [.slice none 0 0, .slice none 0 0] (0, 0), .blk b7 39 [.bool sn.neg, .string sn.bj, .int .i64 sn.e] (0, 0), .blk b4 28 [.slice (some a1) n c1, .slice (some a5) (aC ns) c2] (0, 0)] w')
  (fun v _ => aC ns - (intOf v).toNat) ?_ ?_
 ·exact ⟨0, 0, none, Nat.zero_le _, rfl, hh⟩
 ·clear hh
  rintro ρ' v w' ⟨p, cC, C, hp, rfl, hh⟩
  by_cases hpn : p < aC ns
  ·have hrp := mf (wv hpn)
   have hok := pF ns.reverse p
   have hrl : (dk ns.reverse p).length = n := by rw [nt, List.length_reverse, hl1]
   have hup := wS (up := up) (s := s) (xs := xs) hpn hd
   rw [hl1] at hup
   generalize dk ns.reverse p = rr at *
   obtain ⟨r, hr⟩ := aT (l := rr) (k := n - 1 - a) (by omega)
   have hrr : rr.reverse[a]? = some r := by rw [List.getElem?_reverse (by omega), hrl]; exact hr
   have hrd : r ≤ d := sG hok (by rw [List.getElem?_reverse (by omega), hl1, show n - 1 - (n - 1 - a) = a by omega]; exact hd) hr
   have hgetr : rr.getD (n - 1 - a) 0 = r := by rw [List.getD_eq_getElem?_getD, hr]; rfl
   rw [hgetr] at hup
   have hbl : (bS rr.reverse).length = n := by unfold bS; rw [List.length_map, iD, List.length_reverse]; exact hrl
   have e0 : (fX (bK rr.reverse)).data.toList = bS rr.reverse := eP _
   have e1 : (fX (bK rr.reverse)).size = n := by
    have : (fX (bK rr.reverse)).data.toList.length = n := by rw [e0, hbl]
    rw [Array.length_toList] at this
    exact this
   have hcell := Ai hrr (by omega)
   have hgdv : ns.reverse.getD (n - 1 - a) 0 = d := by
    rw [← hl1, rm (by omega), List.getD_eq_getElem?_getD, hd]
    rfl
   have zsum : ∀ i, i ≤ d + 1 → Sz (k + (130 + 2 * (q * d)) + i) (u1 ns rr (n - 1 - a) xs (j2 up d s) r i) := fun i hi => by
    have h2 := yn (l := List.range i) (f := fun j => co ns.reverse xs (rr.set (n - 1 - a) j) * j2 up d s j r) (k := k + (130 + 2 * (q * d))) fun j hj => (y2 hx).mul (wH vs.sz hs1 hd127 (by have := List.mem_range.1 hj; omega) hrd)
    rw [List.length_range] at h2
    exact h2
   refine ah (sr (mI (mL (a8 ?_))))
   refine aJ (aa (cT (ak (ai (ah (al (sr ?_)))))))
   refine fc [_,_,_] ?_
   refine bW hh ?_
   intro b12 w12 hh
   refine stC hh 0 [_,_,_] ?_
   intro ws hh
   replace hh : Hp _ (.blk _ _ [_, _, _] _ :: _) _ := hh
   refine aa (ah (sr (aI (aa (al ?_)))))
   refine bB [13, 14, 15, 16, 32, 33, 34, 35, 36, 37, 38, 39, 40, 41, 42, 43, 44, 45, 46, 47, 48, 49, 50, 51, 52, 53, 54, 55, 56, 57, 58, 59, 60, 61, 62, 63, 64, 65, 66, 67, 68, 69, 70, 71, 72, 73, 74, 75, 76, 77, 78] 13
    (fun v w' => ∃ i : Nat, i ≤ d + 1 ∧ v = .int .i64 i ∧ Hp w [.blk b12 39 [.bool (nR (u1 ns rr (n - 1 - a) xs (j2 up d s) r i)).neg, .string (nR (u1 ns rr (n - 1 - a) xs (j2 up d s) r i)).bj, .int .i64 (nR (u1 ns rr (n - 1 - a) xs (j2 up d s) r i)).e] (0, 0), .row C p cC 39 3 (bu NR.cells (((eL up s ns a xs).take p).map nR)), .row (some ⟨g24, 0, none⟩) (aC ns) c24 9 1 (gZ (lW ns)), .blk b9 28 [.slice (some ⟨g20, 0, none⟩) n c20, .slice C p cC] (0, 0), .row (some ⟨g20, 0, none⟩) n c20 3 1 (bU (bK ns)), .blk b8 28 [.slice none 0 0, .slice none 0 0] (0, 0), .blk b7 39 [.bool sn.neg, .string sn.bj, .int .i64 sn.e] (0, 0), .blk b4 28 [.slice (some a1) n c1, .slice (some a5) (aC ns) c2] (0, 0)] w')
    (fun v _ => d + 1 - (intOf v).toNat) ?_ ?_
   ·exact ⟨0, Nat.zero_le _, rfl, hh⟩
   ·clear hh
    rintro ρ2 v w2 ⟨i, hi, rfl, hh⟩
    by_cases hid : i ≤ d
    ·have hokr : sS ns.reverse (rr.set (n - 1 - a) i) := tJ hok (by rw [hgdv]; exact hid)
     have hlt := tt hokr
     rw [eA] at hlt
     obtain ⟨x, hx1⟩ := aT (l := xs) (k := hU ns.reverse (rr.set (n - 1 - a) i)) (by omega)
     have hxn : (xs.map nR)[hU ns.reverse (rr.set (n - 1 - a) i)]? = some (nR x) := by rw [List.getElem?_map, hx1]; rfl
     have hco : co ns.reverse xs (rr.set (n - 1 - a) i) = x := by rw [yh hokr, hx1]; rfl
     have zx := hx x (List.mem_of_getElem? hx1)
     have hat := fun w1 hS1 => sx (some a1) n c1 ns (rr.set (n - 1 - a) i).reverse w1 hS1 (by omega) (by omega) (by rw [List.length_reverse, pJ hokr, List.length_reverse]) (yK hokr) (fun d hd => by have := hlow d hd; omega)
     rw [List.reverse_reverse] at hat
     have hbl2 : (bS (rr.set (n - 1 - a) i).reverse).length = n := by unfold bS; rw [List.length_map, iD, List.length_reverse, List.length_set]; exact hrl
     have hbd := fun ex => y6 (ex := ex) hrl ha (show i ≤ 255 by omega)
     have hsh := fun w1 => pD d i r up sn s q w1 hd127 hid hrd vs hs1 hq
     rw [← hsd] at hsh
     have zsh := wH (up := up) (i := i) (k := r) vs.sz hs1 hd127 hid hrd
     have hmul := fun w1 => qp (x := x) (y := j2 up d s i r) w1 (zx.mono (show k ≤ 1600000 by omega)) (zsh.mono (show _ ≤ 1600000 by omega)) (by omega)
     have zxy := zx.mul zsh
     have zold := zsum i (by omega)
     have hsum := fun w1 => je (nR (u1 ns rr (n - 1 - a) xs (j2 up d s) r i)) (nR (x * j2 up d s i r)) w1 (zold.ok (by omega)) (zxy.ok (by omega))
     rw [dH, dH] at hsum
     have hss := wh ns rr (n - 1 - a) xs (j2 up d s) r i
     rw [hco] at hss
     rw [← hss] at hsum
     clear hco zold zxy zsh
     generalize hS2 : u1 ns rr (n - 1 - a) xs (j2 up d s) r (i + 1) = S2 at *
     generalize u1 ns rr (n - 1 - a) xs (j2 up d s) r i = S1 at *
     generalize hU ns.reverse (rr.set (n - 1 - a) i) = p2 at *
     refine ah (sr (mI (bG ?_)))
     refine bJ hh 7 ?_
     refine mI ?_
     refine aW (k := a) aN.out aA.size rfl rfl (by omega) (by omega) (by decide) ?_
     refine aV aA.out rfl ((s1.ext hh.below).gx (by assumption)) (by decide) ?_
     refine xg (aa (cT (ak (ai (ah (al (sr (mL (mI ?_)))))))))
     refine bC aN.out aA.size rfl rfl rfl (by omega) (by decide) ?_
     refine aV aA.out rfl (hh.cD (i := 2) rfl (by first | assumption | (simp only [Nat.mul_one]; assumption))) (by decide) ?_
     refine p5 hh aN.out aN.out aN.out rfl (by decide) ?_
     intro g45 c45 x45 w45 hh
     rw [e0] at hh
     have hcl2 : (kO (bS rr.reverse) ++ x45)[a]? = some (.int .u8 (r : Int)) := by rw [List.getElem?_append_left (by rw [fA, hbl]; exact ha)]; exact hcell
     generalize (((kO (bS rr.reverse) ++ x45).length, (kO (bS rr.reverse) ++ x45).length + 1) : Nat × Nat) = fz at hh
     refine aL (aa (sr (mL (mI ?_))))
     refine bC (k := a) aN.out aA.size rfl rfl (by omega) (by omega) (by decide) ?_
     refine aV aA.out rfl (hh.eM (i := 0) rfl (by first | assumption | (simp only [Nat.mul_one]; assumption))) (by decide) ?_
     refine dR aN.out aN.out rfl (by omega) (by omega) (by decide) ?_
     refine aI (aa (sr (mL (mI (mI ?_)))))
     first | refine cI aN.out aN.out rfl (by first | assumption | omega) (by decide) ?_ | refine eI aN.out aN.out rfl (by decide) ?_
     refine bC (k := a) aN.out aA.size rfl rfl (by omega) (by omega) (by decide) ?_
     refine qZ hh (i := 0) (vs := [_]) rfl rfl (bL rfl) rfl aA.out rfl (by rw [List.length_append, fA, hbl]; omega) rfl ?_
     intro ws hh
     simp only [List.set_cons_zero] at hh
     rw [hbd] at hh
     refine aa (ah ?_)
     refine aE 10 [[(4, none)], [(56, some 0)], [(4, none)], [(58, some 2)], [(14, none)], [(60, some 4)], [(59, some 3), (61, some 5)], [(57, some 1), (62, some 6)], [(63, some 7)], []] [(9, 16), (8, 64), (7, 63), (6, 62), (5, 61), (4, 60), (3, 59), (2, 58), (1, 57), (0, 56)] hh mixed (by kernel_rfl) ?_
     refine dX ?_
     refine fm 8 ?_
     refine dX ?_
     refine fm 8 ?_
     refine iZ ?_
     refine br (i := 5) (Is (.string ⟨((bS (rr.set (n - 1 - a) i).reverse)).toArray⟩)) Is.ext ?_ ?_
     ·intro ρ1 w1 hj hR
      exact fj rfl (jg (l := (bS (rr.set (n - 1 - a) i).reverse)) aN.out aN.out aN.out (show ρ1 60 = Value.slice _ _ _ from hR.1) (hj.hp.y9 (i := 0) rfl (hbl2.trans e1.symm))) ⟨Below.refl _ _, rfl⟩
     refine dC (fun _ hj => hat _ (hF.ext hj.hp.below)) ?_
     refine p9 (p2) ?_
     refine uW [_,_,_] (fun _ hj => (s5.ext hj.hp.below).recAt NR.len hxn) ?_
     refine br (i := 9) (bE _ 39 _) bE.ext (fun ρ1 w1 hj hR => db aA.out hj.bl (fun v w2 h hb => ⟨hb, h⟩)) ?_
     refine aX ?_
     intro f W hJ hV
     have hb_13 := hJ.bl
     obtain ⟨v16, v64, v63, v62, v61, v60, v59, v58, v57, v56, _⟩ := hV
     obtain ⟨b16, e16, hl16, hc16⟩ : bE _ _ _ (f 9) W := v16
     replace hh := hJ.newVar hh hl16 hc16
     refine aK (aZ (ae e16 (ae v64 (ae v63 (ae v62 (ae v61 (ae v60 (ae v59 (ae v58 (ae v57 (ae v56 aM))))))))))) ?_
     dsimp only [bQ]
     clear e16 hJ
     refine stC hh 0 [_,_,_] ?_
     intro ws hh
     replace hh : Hp _ (.blk _ _ [_, _, _] _ :: _) _ := hh
     refine aa ?_
     refine aE 13 [[(12, none)], [(16, none)], [(4, none)], [(67, some 2)], [(1, none)], [(68, some 3), (69, some 4)], [(70, some 5)], [(13, none)], [(15, none)], [(2, none)], [(7, none)], [(71, some 6), (72, some 7), (73, some 8), (74, some 9), (75, some 10)], [(66, some 1), (76, some 11)]] [(12, 77), (11, 76), (10, 75), (9, 74), (8, 73), (7, 72), (6, 71), (5, 70), (4, 69), (3, 68), (2, 67), (1, 66), (0, 65)] hh mixed (by kernel_rfl) ?_
     refine dJ 2 [_,_,_] ?_
     refine dJ 0 [_,_,_] ?_
     refine dX ?_
     refine fm 9 ?_
     refine dw ?_
     refine p9 (a) ?_
     refine ph (fun _ hj => (s1.ext hj.hp.below).gx hgd) ?_
     refine dw ?_
     refine dw ?_
     refine dw ?_
     refine dJ 8 [_,_,_] ?_
     refine br (i := 11) (Is (.agg #[.bool (nR (j2 up d s i r)).neg, .string (nR (j2 up d s i r)).bj, .int .i64 (nR (j2 up d s i r)).e])) (Is.ext) ?_ ?_
     ·intro ρ1 w1 hj hR
      exact bM rfl (bH au.out (aH hR.1 (aH hR.2.1 (aH hR.2.2.1 (aH hR.2.2.2.1 (aH hR.2.2.2.2.1 bD)))))) (hsh w1) (fun _ _ ⟨q1, q2⟩ => ⟨_, q1, q2, rfl⟩)
     refine dC (fun _ hj => hmul _) ?_
     refine aX ?_
     intro f W hJ hV
     have hb_14 := hJ.bl
     obtain ⟨v77, v76, v75, v74, v73, v72, v71, v70, v69, v68, v67, v66, v65, _⟩ := hV
     replace hh := hJ.hp
     refine aK (aZ (ae v77 (ae v76 (ae v75 (ae v74 (ae v73 (ae v72 (ae v71 (ae v70 (ae v69 (ae v68 (ae v67 (ae v66 (ae v65 aM)))))))))))))) ?_
     dsimp only [bQ]
     clear hJ
     refine bA hh (hsum _) rfl ?_
     intro w78 hh
     refine stC hh 2 [_,_,_] ?_
     intro ws hh
     replace hh : Hp _ (_ :: _ :: .blk _ _ [_, _, _] _ :: _) _ := hh
     refine aD (a0 (ai (aq (mI ?_))))
     refine bz (aI (aD (ai ?_)))
     replace hh := hh.sub (List.Sublist.cons _ (List.Sublist.cons _ (List.Sublist.cons_cons _ (List.Sublist.cons_cons _ (List.Sublist.cons_cons _ (List.Sublist.cons_cons _ (List.Sublist.cons_cons _ (List.Sublist.cons_cons _ (List.Sublist.cons_cons _ (List.Sublist.cons_cons _ List.Sublist.slnil))))))))))
     refine ⟨⟨i + 1, by omega, rfl, by rw [hS2]; exact hh⟩, by show d + 1 - (i + 1) < d + 1 - i; omega, ?_⟩
     (repeat (first | exact aw _ _ _ | refine az rfl ?_ | refine av rfl ?_))
    ·obtain rfl : i = d + 1 := by omega
     refine ah (sr (mI (bG ?_)))
     refine bJ hh 7 ?_
     refine mI ?_
     refine aW (k := a) aN.out aA.size rfl rfl (by omega) (by omega) (by decide) ?_
     refine aV aA.out rfl ((s1.ext hh.below).gx (by assumption)) (by decide) ?_
     refine xg (aa (cF ?_))
     refine a6 ?_
     refine ay (ay (bp (ai (aq (bG ?_)))))
     refine bJ hh 3 ?_
     refine cJ hh 0 [_,_,_] ?_
     refine bo hh (cs := [_, _, _]) aN.out aA.out (aY (ea rfl) bP) rfl rfl (by decide) (by decide) (by decide) rfl (by decide) ?_
     intro b82 w82 hh
     refine dv hh (i := 2) rfl rfl rfl (hh.bh (i := 0) rfl) aN.out aA.out rfl (by decide) (by first | rfl | exact dr _ | exact cG _ | exact bX _ | exact cB NR.one _) (by omega) (by omega) (by decide) ?_
     intro A83 c83 w83 hh
     simp only [List.set_cons_zero, List.set_cons_succ] at hh
     replace hh := hh.sub (List.sublist_cons_self _ _)
     refine bG ?_
     refine stC hh 3 [_] ?_
     intro ws hh
     replace hh : Hp _ (_ :: _ :: _ :: .blk _ _ [_, _] _ :: _) _ := hh
     refine aD (a0 (ai (aq (mI ?_))))
     refine bz (aI (aD (ai ?_)))
     replace hh := hh.sub (List.Sublist.cons _ (List.Sublist.cons_cons _ (List.Sublist.cons_cons _ (List.Sublist.cons_cons _ (List.Sublist.cons_cons _ (List.Sublist.cons_cons _ (List.Sublist.cons_cons _ (List.Sublist.cons_cons _ List.Sublist.slnil))))))))
     refine ⟨⟨p + 1, c83, A83, by omega, rfl, ?_⟩, by show aC ns - (p + 1) < aC ns - p; omega, ?_⟩
     ·rw [bf hup, List.map_append, eS]
      exact hh
     ·(repeat (first | exact aw _ _ _ | refine az rfl ?_ | refine av rfl ?_))
  ·obtain rfl : p = aC ns := by omega
   rw [List.take_of_length_le (by rw [mM]; exact Nat.le_refl _)] at hh
   refine ah (sr (mI (mL (a8 ?_))))
   refine aJ (aa (cF ?_))
   refine a6 ?_
   refine ay (ay (bp (ai (sr ?_))))
   refine cJ hh 2 [_,_] ?_
   refine stC hh 4 [_,_] ?_
   intro ws hh
   replace hh : Hp _ (_ :: _ :: _ :: _ :: .blk _ _ [_, _] _ :: _) _ := hh
   refine aa (ao ?_)
   replace hh := hh.sub (List.Sublist.cons_cons _ (List.Sublist.cons _ (List.Sublist.cons _ (List.Sublist.cons_cons _ (List.Sublist.cons_cons _ (List.Sublist.cons _ (List.Sublist.cons _ List.Sublist.slnil)))))))
   refine eE (aF rfl (aG (vs := [_, _]) aA.out (hh.ar (i := 2) (n := 2) rfl rfl) rfl) a9) ?_
   exact ⟨_, _, _, _, rfl, hh.sub (List.sublist_append_left [_, _] _)⟩
end Go.Proofs.YtioilmppidlbnaaGreatDoor
/- The walk through cast.Part. -/
namespace Go.Proofs.YtioilmppidlbnaaGreatDoor
open Go.RowKit
def gB (fx : FX) (hs : List Int) : Int := if fx.e ≠ 0 then fx.e else if hs.any (nH fx.n) = true then 1 else 0
theorem uc (fx : FX) (L : Option Addr) (m2 c2 : Nat) (hs : List Int) (k : Nat) (w : World) (hT : fL w) (hf : fx.at_ w) (hl : fx.rv k) (hS : Sl w L m2 1 (bU hs)) (hm2 : m2 ≤ 1000000) (hz : ∀ h ∈ hs, -9223372036854775808 ≤ h ∧ h ≤ 9223372036854775807) (hE : gB fx hs ≠ 0) :
  Calls Tryz.prog 42 #[.agg #[.slice fx.A fx.n fx.a, .slice fx.B fx.m fx.b], .slice L m2 c2] w fun r w' => r = AP (gB fx hs) ∧ Below w.heap.size w w' := by
 have hh := Hp.start w
 have hck := fun w1 hT1 hb => p7 fx k w1 hT1 (hf.ext hb) hl
 by_cases h0 : fx.e = 0
 ·by_cases h1 : hs.any (nH fx.n) = true
  ·have hE2 : gB fx hs = 1 := by unfold gB; rw [if_neg (by omega), if_pos h1]
   refine aj (N := 51) (l := [.agg #[.slice fx.A fx.n fx.a, .slice fx.B fx.m fx.b], .slice L m2 c2]) Tryz.func42 rfl rfl (by simp) ?_
   refine sr ?_
   refine cj hh [_,_] ?_
   intro b2 w2 hh
   refine bW hh ?_
   intro b4 w4 hh
   refine aI (aa (ah (sr ?_)))
   refine cJ hh 1 [_,_] ?_
   refine bA hh (hck _ (hT.hp hh) hh.below) rfl ?_
   intro w14 hh
   refine aI (aa (sr (mI ?_)))
   refine fW (aa (cF (ak (ai (ah (sr (mL ?_)))))))
   refine kq rfl (aH (pS rfl) bD) (by decide) ?_
   have hany := fun b w1 hb hp => jy L m2 c2 hs fx.A fx.n fx.a b w1 (hS.ext hb) hm2 hp hz
   rw [h1] at hany
   refine bA hh (hany _ _ hh.below (hh.eM (i := 1) (o := 0) rfl rfl)) rfl ?_
   intro w21 hh
   refine aa (cT (sr ?_))
   refine fc [_,_] ?_
   refine stC hh 0 [_,_] ?_
   intro ws hh
   replace hh : Hp _ (.blk _ _ [_, _] _ :: _) _ := hh
   refine aI (aa (ao (aQ ?_)))
   refine A3 (aF rfl (aG (vs := [_, _]) aA.out (hh.ar (i := 0) (n := 2) rfl rfl) rfl) (dV (fQ rfl) a9)) ?_
   exact ⟨by rw [hE2]; rfl, hh.below⟩
  ·exact absurd (by unfold gB; rw [if_neg (by omega), if_neg h1]) hE
 ·have hE2 : gB fx hs = fx.e := by unfold gB; rw [if_pos h0]
  refine aj (N := 51) (l := [.agg #[.slice fx.A fx.n fx.a, .slice fx.B fx.m fx.b], .slice L m2 c2]) Tryz.func42 rfl rfl (by simp) ?_
  refine sr ?_
  refine cj hh [_,_] ?_
  intro b2 w2 hh
  refine bW hh ?_
  intro b4 w4 hh
  refine aI (aa (ah (sr ?_)))
  refine cJ hh 1 [_,_] ?_
  refine bA hh (hck _ (hT.hp hh) hh.below) rfl ?_
  intro w14 hh
  refine aI (aa (sr (mI ?_)))
  refine fW (aa (cT (sr ?_)))
  refine fc [_,_] (mI ?_)
  refine stC hh 0 [_,_] ?_
  intro ws hh
  replace hh : Hp _ (.blk _ _ [_, _] _ :: _) _ := hh
  refine aI (aa (ao (aQ ?_)))
  refine A3 (aF rfl (aG (vs := [_, _]) aA.out (hh.ar (i := 0) (n := 2) rfl rfl) rfl) (dV (fQ rfl) a9)) ?_
  exact ⟨by rw [hE2]; rfl, hh.below⟩
end Go.Proofs.YtioilmppidlbnaaGreatDoor
/- The last bit of a number. Plain lemma, no program in sight. -/
namespace Go.Proofs.YtioilmppidlbnaaGreatDoor
open Go.RowKit
section
variable {P : Program} {N : Nat} {ops : Array Oper} {Q : Kq} {ρ : Rf} {w : World} {rest : List Oper} {d ty : Nat} {pos : String} {af : Array Edge}
theorem A0 (a : Int) : IntKind.i64.wrap (BitVec.ofInt IntKind.i64.bits a &&& BitVec.ofInt IntKind.i64.bits 1).toNat = a % 2 := by
 have h1 : (BitVec.ofInt IntKind.i64.bits a &&& BitVec.ofInt IntKind.i64.bits 1).toNat = (a % 2).toNat := by
  show (BitVec.ofInt 64 a &&& BitVec.ofInt 64 1).toNat = _
  rw [BitVec.toNat_and, show (BitVec.ofInt 64 1).toNat = 2 ^ 1 - 1 by decide, Nat.and_two_pow_sub_one_eq_mod, BitVec.toNat_ofInt]
  omega
 rw [h1, gN (by omega) (by omega)]
 omega
theorem vT {t u : Nat} {x y : Operand} {a : Int} (hx : ev ρ x = .int .i64 a) (hy : ev ρ y = .int .i64 1) (hN : d < N) (kk : WL .plain P N ops Q rest (ck ρ d (.int .i64 (a % 2))) w) : WL .plain P N ops Q (⟨some d, .binOp .and t x y u, ty, pos, af, none⟩ :: rest) ρ w :=
 a7 rfl rfl hN (by rw [yv hx hy, A0]) kk
end
end Go.Proofs.YtioilmppidlbnaaGreatDoor
/- The walk through cast.Part, the good ending. -/
namespace Go.Proofs.YtioilmppidlbnaaGreatDoor
open Go.RowKit
theorem vV (fx : FX) (L : Option Addr) (m2 c2 : Nat) (hs : List Int) (k q D : Nat) (w : World) (hT : fL w) (hf : fx.at_ w) (hl : fx.rv k) (hcap : fx.n ≤ fx.a) (hS : Sl w L m2 1 (bU hs)) (hm2 : m2 ≤ 1000000) (hz : ∀ h ∈ hs, -9223372036854775808 ≤ h ∧ h ≤ 9223372036854775807) (hE : gB fx hs = 0)
  (h2s : Sz q (cg (-1))) (h2t : Sz q (1 - cg (-1))) (hq : q ≤ 2000) (hdD : ∀ d ∈ fx.ns, d ≤ D) (hD : D ≤ 127) (hk : k + m2 * (260 + 2 * (q * D)) + fx.m * (260 + 2 * (q * D)) ≤ 300000) :
  Calls Tryz.prog 42 #[.agg #[.slice fx.A fx.n fx.a, .slice fx.B fx.m fx.b], .slice L m2 c2] w fun r w' => ∃ A a B b, r = .returned (.tuple #[.agg #[.slice A fx.n a, .slice B fx.m b], .int .i64 0]) ∧ Hp w [.row B fx.m b 39 3 (bu NR.cells ((iX fx.ns (fx.cs.map NR.d) hs).map nR)), .row A fx.n a 3 1 (bU fx.ds)] w' := by
 have hh := Hp.start w
 have hck := fun w1 hT1 hb => p7 fx k w1 hT1 (hf.ext hb) hl
 have hn20 := hl.zL
 have hm60 := hl.AE
 have h0 : fx.e = 0 := by
  refine Classical.byContradiction fun h => ?_
  unfold gB at hE
  rw [if_pos h] at hE
  exact h hE
 have h1 : hs.any (nH fx.n) = false := by
  cases h : hs.any (nH fx.n) with
  | false => rfl
  | true => unfold gB at hE; rw [if_neg (by omega), if_pos h] at hE; exact absurd hE (by decide)
 refine aj (N := 51) (l := [.agg #[.slice fx.A fx.n fx.a, .slice fx.B fx.m fx.b], .slice L m2 c2]) Tryz.func42 rfl rfl (by simp) ?_
 refine sr ?_
 refine cj hh [_,_] ?_
 intro b2 w2 hh
 refine bW hh ?_
 intro b4 w4 hh
 refine aI (aa (ah (sr ?_)))
 refine cJ hh 1 [_,_] ?_
 refine bA hh (hck _ (hT.hp hh) hh.below) rfl ?_
 intro w14 hh
 refine aI (aa (sr (mI ?_)))
 refine fW (aa (cF (ak (ai (ah (sr (mL ?_)))))))
 refine kq rfl (aH (pS rfl) bD) (by decide) ?_
 have hany := fun b w1 hb hp => jy L m2 c2 hs fx.A fx.n fx.a b w1 (hS.ext hb) hm2 hp hz
 rw [h1] at hany
 refine bA hh (hany _ _ hh.below (hh.eM (i := 1) (o := 0) rfl rfl)) rfl ?_
 intro w21 hh
 refine aa (cF (ak (ai (ah ?_))))
 refine aE 8 [[(2, none)], [(23, some 0)], [(24, some 1)], [(2, none)], [(26, some 3)], [(27, some 4)], [(25, some 2), (28, some 5)], []] [(7, 7), (6, 29), (5, 28), (4, 27), (3, 26), (2, 25), (1, 24), (0, 23)] hh mixed (by kernel_rfl) ?_
 refine dX ?_
 refine fm 1 ?_
 refine br (i := 2) (np hh.sz 3 fx.n 1 (bU fx.ds)) (np.ext) ?_ ?_
 ·intro ρ1 w1 hj hR
  exact bM rfl (bH au.out (aH (show ρ1 24 = Value.slice _ _ _ from hR.1) bD)) (lk fx.A fx.n fx.a _ w1 (hf.dg.ext hj.hp.below) (by omega)) (fun _ _ ⟨A, c, hq, ho, hb⟩ => ⟨_, hq, hb, A, c, rfl, eo ho hj.bl.size⟩)
 refine dX ?_
 refine fm 1 ?_
 refine br (i := 5) (np hh.sz 39 fx.m 3 (bu NR.cells fx.cs)) (np.ext) ?_ ?_
 ·intro ρ1 w1 hj hR
  exact bM rfl (bH au.out (aH (show ρ1 27 = Value.slice _ _ _ from hR.1) bD)) (iS fx.B fx.m fx.b _ w1 (hf.nm.ext hj.hp.below) (by omega)) (fun _ _ ⟨A, c, hq, ho, hb⟩ => ⟨_, hq, hb, A, c, rfl, eo ho hj.bl.size⟩)
 refine br (i := 6) (jq hh.sz 3 39 fx.n 1 fx.m 3 (bU fx.ds) (bu NR.cells fx.cs)) (jq.ext) ?_ ?_
 ·intro ρ1 w1 hj hR
  exact let ⟨A, c, e1, o1⟩ := hR.1; let ⟨B, k, e2, o2⟩ := hR.2.1; fj rfl (mu (cs := [_, _]) aA.out iE.out (aY e1 (aY e2 bP)) rfl) ⟨Below.refl _ _, A, c, B, k, rfl, o1, o2⟩
 refine br (i := 7) (bE _ 28 _) bE.ext (fun ρ1 w1 hj hR => db aA.out hj.bl (fun v w2 h hb => ⟨hb, h⟩)) ?_
 refine aX ?_
 intro f W hJ hV
 have hb_6 := hJ.bl
 obtain ⟨v7, v29, v28, v27, v26, v25, v24, v23, _⟩ := hV
 obtain ⟨g25, u25, e25, -⟩ := v25
 obtain ⟨g28, u28, e28, -⟩ := v28
 obtain ⟨A29, c29, B29, k29, e29, o29, p29⟩ := v29
 obtain ⟨b7, e7, hl7, hc7⟩ : bE _ _ _ (f 7) W := v7
 replace hh := JJ.nC hJ hh hl7 hc7 o29 p29 (by decide) (by decide) (by decide)
 refine aK (aZ (ae e7 (ae e29 (ae e28 (ae v27 (ae v26 (ae e25 (ae v24 (ae v23 aM))))))))) ?_
 dsimp only [bQ]
 clear e25 e28 e29 e7 hJ
 refine stC hh 0 [_,_] ?_
 intro ws hh
 replace hh : Hp _ (.blk _ _ [_, _] _ :: _) _ := hh
 refine aa (ah (sr (mL (a8 (mI (aa (al ?_)))))))
 obtain ⟨hdeg, hnum, h12, hlow, hcnt, hmax⟩ := FX.fv h0
 have hln : fx.ds.length = fx.n := by have := hf.dg.1; simpa [bU] using this
 have hlm := hf.nm.eH NR.len (by decide)
 have hnl : fx.ns.length = fx.n := by unfold FX.ns; rw [List.length_map]; exact hln
 have hl2 : hs.length = m2 := by have := hS.1; simpa [bU] using this
 have hxl : (fx.cs.map NR.d).length = aC fx.ns := by rw [List.length_map, hcnt]
 have hxz : ∀ x ∈ fx.cs.map NR.d, Sz k x := fun x h => by
  obtain ⟨c, hc, rfl⟩ := List.mem_map.1 h
  exact (hl.num c hc).2
 have hgood : ∀ h ∈ hs, 0 ≤ h ∧ h / 2 < fx.ns.length := fun h hm => by
  have h4 := List.any_eq_false.1 h1 h hm
  unfold nH at h4
  rw [decide_eq_true_iff] at h4
  have h3 : 0 ≤ h := by omega
  rw [Int.tdiv_eq_ediv_of_nonneg h3] at h4
  omega
 have hqD : q * D ≤ 2000 * 127 := Nat.mul_le_mul hq hD
 clear hany hck
 rw [show bu NR.cells fx.cs = bu NR.cells ((iX fx.ns (fx.cs.map NR.d) (hs.take 0)).map nR) by rw [show iX fx.ns (fx.cs.map NR.d) (hs.take 0) = fx.cs.map NR.d from rfl, ← hnum]] at hh
 refine bB [9, 10, 11, 12, 32, 33, 34, 35, 36, 37, 38, 39, 40, 41, 42, 43, 44, 45, 46, 47, 48, 49] 32
  (fun v w' => ∃ (i a b : Nat) (A B : Option Addr), i ≤ m2 ∧ v = .int .i64 i ∧ Hp w [.blk b7 28 [.slice A fx.n a, .slice B fx.m b] (0, 0), .row A fx.n a 3 1 (bU fx.ds), .row B fx.m b 39 3 (bu NR.cells ((iX fx.ns (fx.cs.map NR.d) (hs.take i)).map nR)), .blk b4 28 [.slice none 0 0, .slice none 0 0] (0, 0), .blk b2 28 [.slice fx.A fx.n fx.a, .slice fx.B fx.m fx.b] (0, 0)] w')
  (fun v _ => m2 - (intOf v).toNat) ?_ ?_
 ·exact ⟨0, _, _, _, _, Nat.zero_le _, rfl, hh⟩
 ·clear hh
  rintro ρ' v w' ⟨i, a, b, A, B, hi, rfl, hh⟩
  by_cases hlt : i < m2
  ·obtain ⟨h, hh1⟩ := aT (l := hs) (k := i) (by omega)
   have hgi := cu hh1
   have hmem := List.mem_of_getElem? hh1
   obtain ⟨g0, g1⟩ := hgood h hmem
   obtain ⟨z0, z1⟩ := hz h hmem
   obtain ⟨ad, rfl, hr⟩ := hS.at_ (by omega)
   have hcap7 := hh.kN (i := 1) rfl
   have htl : (hs.take i).length = i := by rw [List.length_take]; omega
   have hys := qi hdD hD h2s h2t (hs.take i) k _ (fun y hy => hgood y (List.mem_of_mem_take hy)) hxl hxz
   have hyl := uT (ns := fx.ns) hxl (hs.take i)
   have hsn := nE fx.ns (fx.cs.map NR.d) (hs.take i) h
   rw [← bf hh1] at hsn
   rw [htl] at hys
   generalize iX fx.ns (fx.cs.map NR.d) (hs.take i) = ys at *
   have hback : (ys.map nR).map NR.d = ys := by rw [List.map_map]; exact (List.map_congr_left fun x _ => dH x).trans (List.map_id ys)
   have hiK : i * (260 + 2 * (q * D)) ≤ m2 * (260 + 2 * (q * D)) := Nat.mul_le_mul_right _ hi
   have hlim : (⟨A, fx.n, a, B, fx.m, b, fx.ds, ys.map nR⟩ : FX).rv (k + i * (260 + 2 * (q * D))) := ⟨hl.zL, hl.AE, fun c hc => by
    obtain ⟨y, hy, rfl⟩ := List.mem_map.1 hc
    have := hys y hy
    exact ⟨this.ok (by omega), by rw [dH]; exact this⟩⟩
   have hcut : dN ⟨A, fx.n, a, B, fx.m, b, fx.ds, ys.map nR⟩ (h / 2) = 0 := by
    have e1 : (⟨A, fx.n, a, B, fx.m, b, fx.ds, ys.map nR⟩ : FX).e = 0 := FV.ok (xs := ys) ⟨hdeg, rfl, h12, hlow, hyl, hmax⟩
    unfold dN
    rw [if_neg (fun e => e e1), if_neg (by show ¬(h / 2 < 0 ∨ (fx.n : Int) ≤ h / 2); omega)]
   have hkk : ∀ d ∈ fx.ns, k + i * (260 + 2 * (q * D)) + fx.m * (260 + 2 * (q * d)) ≤ 300000 := fun d hd => by
    have h5 := Nat.mul_le_mul_left q (hdD d hd)
    have h6 := Nat.mul_le_mul_left fx.m (show 260 + 2 * (q * d) ≤ 260 + 2 * (q * D) by omega)
    omega
   have hcall := fun w1 hT1 hA hB => oE ⟨A, fx.n, a, B, fx.m, b, fx.ds, ys.map nR⟩ (h / 2) (k + i * (260 + 2 * (q * D))) q w1 hT1 ⟨hA, hB⟩ hlim hcap7 h2s h2t hq (fun _ => hkk) hcut
   simp only [hback] at hcall
   unfold s8 at hsn
   clear hys hlim hcut hkk
   by_cases hp : h % 2 = 1
   ·rw [decide_eq_true hp] at hsn
    refine sr ?_
    refine aJ (aa (ah (cT (ak (ai (ah (al (sr ?_))))))))
    refine aW (k := i) aN.out aA.size rfl rfl (by omega) (by omega) (by decide) ?_
    refine aV aA.out rfl ((hr.ext hh.below).gx (by assumption)) (by decide) ?_
    refine aI (aa (sr ?_))
    refine cJ hh 0 [_,_] (mI ?_)
    refine gh rfl rfl (by omega) (by omega) (by omega) (by decide) ?_
    refine aU (hcall _ (hT.hp hh) (hh.bh (i := 1) rfl) (hh.bh (i := 2) rfl)) au.out rfl (by decide) ?_
    rintro e_ w40 ⟨A1, a1, B1, b1, A2, a2, B2, b2', rfl, h2⟩
    refine ⟨_, rfl, ?_⟩
    replace hh := hh.join h2
    simp only [List.cons_append, List.nil_append] at hh
    clear h2
    refine mT ?_
    refine fi ?_
    refine fi ?_
    refine fi ?_
    refine bW hh ?_
    intro b10 w10 hh
    refine bW hh ?_
    intro b11 w11 hh
    refine stC hh 1 [_,_] ?_
    intro ws hh
    replace hh : Hp _ (_ :: .blk _ _ [_, _] _ :: _) _ := hh
    refine stC hh 0 [_,_] ?_
    intro ws hh
    replace hh : Hp _ (.blk _ _ [_, _] _ :: _) _ := hh
    refine aI (aa (sr ?_))
    refine cJ hh 1 [_,_] ?_
    refine stC hh 6 [_,_] ?_
    intro ws hh
    replace hh : Hp _ (_ :: _ :: _ :: _ :: _ :: _ :: .blk _ _ [_, _] _ :: _) _ := hh
    refine aa (sr (mI ?_))
    refine vT rfl rfl (by decide) ?_
    refine cV (aa (cT (aq ?_)))
    refine cJ hh 0 [_,_] ?_
    refine stC hh 6 [_,_] ?_
    intro ws hh
    replace hh : Hp _ (_ :: _ :: _ :: _ :: _ :: _ :: .blk _ _ [_, _] _ :: _) _ := hh
    refine aD (a0 (ai (aq ?_)))
    refine bz (mI (aD (ai ?_)))
    replace hh := hh.sub (List.Sublist.cons _ (List.Sublist.cons _ (List.Sublist.cons_cons _ (List.Sublist.cons_cons _ (List.Sublist.cons _ (List.Sublist.cons _ (List.Sublist.cons_cons _ (List.Sublist.cons _ (List.Sublist.cons _ (List.Sublist.cons_cons _ (List.Sublist.cons_cons _ List.Sublist.slnil)))))))))))
    replace hh := hh.perm (List.perm_middle (l₁ := [_]))
    simp only [List.cons_append, List.nil_append] at hh
    replace hh := hh.perm (List.perm_middle (l₁ := [_, _]))
    simp only [List.cons_append, List.nil_append] at hh
    refine ⟨⟨i + 1, _, _, _, _, by omega, rfl, by rw [hsn]; exact hh⟩, by show m2 - (i + 1) < m2 - i; omega, ?_⟩
    (repeat (first | exact aw _ _ _ | refine az rfl ?_ | refine av rfl ?_))
   ·rw [decide_eq_false hp] at hsn
    refine sr ?_
    refine aJ (aa (ah (cT (ak (ai (ah (al (sr ?_))))))))
    refine aW (k := i) aN.out aA.size rfl rfl (by omega) (by omega) (by decide) ?_
    refine aV aA.out rfl ((hr.ext hh.below).gx (by assumption)) (by decide) ?_
    refine aI (aa (sr ?_))
    refine cJ hh 0 [_,_] (mI ?_)
    refine gh rfl rfl (by omega) (by omega) (by omega) (by decide) ?_
    refine aU (hcall _ (hT.hp hh) (hh.bh (i := 1) rfl) (hh.bh (i := 2) rfl)) au.out rfl (by decide) ?_
    rintro e_ w40 ⟨A1, a1, B1, b1, A2, a2, B2, b2', rfl, h2⟩
    refine ⟨_, rfl, ?_⟩
    replace hh := hh.join h2
    simp only [List.cons_append, List.nil_append] at hh
    clear h2
    refine mT ?_
    refine fi ?_
    refine fi ?_
    refine fi ?_
    refine bW hh ?_
    intro b10 w10 hh
    refine bW hh ?_
    intro b11 w11 hh
    refine stC hh 1 [_,_] ?_
    intro ws hh
    replace hh : Hp _ (_ :: .blk _ _ [_, _] _ :: _) _ := hh
    refine stC hh 0 [_,_] ?_
    intro ws hh
    replace hh : Hp _ (.blk _ _ [_, _] _ :: _) _ := hh
    refine aI (aa (sr ?_))
    refine cJ hh 1 [_,_] ?_
    refine stC hh 6 [_,_] ?_
    intro ws hh
    replace hh : Hp _ (_ :: _ :: _ :: _ :: _ :: _ :: .blk _ _ [_, _] _ :: _) _ := hh
    refine aa (sr (mI ?_))
    refine vT rfl rfl (by decide) ?_
    refine cV (aa (cF (ak (a0 (ai (aq ?_))))))
    refine bz (mI (aD (ai ?_)))
    replace hh := hh.sub (List.Sublist.cons _ (List.Sublist.cons _ (List.Sublist.cons _ (List.Sublist.cons _ (List.Sublist.cons_cons _ (List.Sublist.cons_cons _ (List.Sublist.cons_cons _ (List.Sublist.cons _ (List.Sublist.cons _ (List.Sublist.cons_cons _ (List.Sublist.cons_cons _ List.Sublist.slnil)))))))))))
    replace hh := hh.perm (List.perm_middle (l₁ := [_]))
    simp only [List.cons_append, List.nil_append] at hh
    replace hh := hh.perm (List.perm_middle (l₁ := [_]))
    simp only [List.cons_append, List.nil_append] at hh
    replace hh := hh.perm (List.perm_middle (l₁ := [_, _]))
    simp only [List.cons_append, List.nil_append] at hh
    refine ⟨⟨i + 1, _, _, _, _, by omega, rfl, by rw [hsn]; exact hh⟩, by show m2 - (i + 1) < m2 - i; omega, ?_⟩
    (repeat (first | exact aw _ _ _ | refine az rfl ?_ | refine av rfl ?_))
  ·obtain rfl : i = m2 := by omega
   rw [List.take_of_length_le (by omega)] at hh
   refine sr ?_
   refine aJ (aa (ah (cF ?_)))
   refine a6 ?_
   refine ay (ay (bp (ai (sr ?_))))
   refine cJ hh 0 [_,_] ?_
   refine stC hh 3 [_,_] ?_
   intro ws hh
   replace hh : Hp _ (_ :: _ :: _ :: .blk _ _ [_, _] _ :: _) _ := hh
   refine aI (aa (ao ?_))
   replace hh := hh.sub (List.Sublist.cons _ (List.Sublist.cons_cons _ (List.Sublist.cons_cons _ (List.Sublist.cons_cons _ (List.Sublist.cons _ List.Sublist.slnil)))))
   refine A3 (aF rfl (aG (vs := [_, _]) aA.out (hh.ar (i := 2) (n := 2) rfl rfl) rfl) (dV (fQ rfl) a9)) ?_
   exact ⟨_, _, _, _, rfl, (hh.sub (List.sublist_append_left [_, _] _)).perm (List.Perm.swap _ _ _)⟩
end Go.Proofs.YtioilmppidlbnaaGreatDoor
/- The walks through ogeeref14.Add, Mul and Scale. -/
namespace Go.Proofs.YtioilmppidlbnaaGreatDoor
open Go.RowKit
def vn (R : List HE) (g : FX) : Prop := R = [g.fk, g.eX] ∨ g.m = 0 ∧ R = [g.eX]
theorem vn.at_ {w w' : World} {R H : List HE} {g : FX} (h : vn R g) (hc : g.cs.length = g.m) (hs : ∀ x ∈ R, x ∈ H) (hh : Hp w H w') : g.at_ w' := by
 rcases h with rfl | ⟨h0, rfl⟩
 ·exact hh.dP (hs _ List.mem_cons_self) (hs _ (List.mem_cons_of_mem _ List.mem_cons_self))
 ·refine ⟨mj (hh.own _ (hs _ List.mem_cons_self)), ?_⟩
  rw [h0] at hc ⊢
  rw [List.eq_nil_of_length_eq_zero hc]
  exact ⟨rfl, fun h => absurd h (by decide)⟩
theorem zY (f : FX) (w : World) (hf : f.at_ w) (hn : f.n ≤ 1000000) (hm : f.m ≤ 1000000) :
  Calls Tryz.prog 14 #[.agg #[.slice f.A f.n f.a, .slice f.B f.m f.b]] w fun r w' => ∃ (g : FX) (R : List HE), g.ds = f.ds ∧ g.cs = f.cs ∧ g.n = f.n ∧ g.m = f.m ∧ r = .returned (.agg #[.slice g.A g.n g.a, .slice g.B g.m g.b]) ∧ vn R g ∧ Hp w R w' :=
 (qj f.A f.B f.n f.a f.m f.b f.ds f.cs w hf.dg hf.nm hn hm).mono fun _ _ ⟨A, a, B, b, R, h1, h2, h3⟩ => ⟨⟨A, f.n, a, B, f.m, b, f.ds, f.cs⟩, R, rfl, rfl, rfl, rfl, h1, h2, h3⟩
end Go.Proofs.YtioilmppidlbnaaGreatDoor
/- The contracts of package cast once more, each with one ending: forms that one owns, empty where there is an error. -/
namespace Go.Proofs.YtioilmppidlbnaaGreatDoor
open Go.RowKit
theorem oA {fx : FX} {ax : Int} (h : dN fx ax = 0) : fx.e = 0 ∧ 0 ≤ ax ∧ ax < fx.n := by
 unfold dN at h
 split at h
 ·rename_i h1; exact absurd h h1
 ·rename_i h1
  split at h
  ·cases h
  ·omega
theorem rL {fx : FX} {hs : List Int} (h : gB fx hs = 0) : fx.e = 0 := by
 unfold gB at h
 split at h
 ·rename_i h1; exact absurd h h1
 ·rename_i h1; omega
theorem lr {fx : FX} {A : Option Addr} {a : Nat} {B : Option Addr} {b : Nat} {ys : List Dyadic} (k : Nat) (h0 : fx.e = 0) (hl : fx.rv k) : Out 0 fx.ns ys ⟨A, fx.n, a, B, fx.m, b, fx.ds, ys.map nR⟩ :=
 ⟨(FX.fv h0).1, rfl, by show fx.n ≤ 100000; have := hl.zL; omega, by show fx.m ≤ 1000000; have := hl.AE; omega⟩
theorem vp (fx : FX) (ax : Int) (sn : NR) (s : Dyadic) (k q : Nat) (w : World) (hT : fL w) (hf : fx.at_ w) (hl : fx.rv k) (hcap : fx.n ≤ fx.a) (vs : lT q sn s) (hs1 : Sz q (1 - s)) (hq : q ≤ 2000) (hk : fx.e = 0 → ∀ d ∈ fx.ns, k + fx.m * (260 + 2 * (q * d)) ≤ 300000) :
  Calls Tryz.prog 38 #[.agg #[.slice fx.A fx.n fx.a, .slice fx.B fx.m fx.b], .int .i64 ax, .agg #[.bool sn.neg, .string sn.bj, .int .i64 sn.e]] w fun r w' => ∃ g h : FX, Out (dN fx ax) fx.ns (eL false s fx.ns ax.toNat (fx.cs.map NR.d)) g ∧ Out (dN fx ax) fx.ns (eL true s fx.ns ax.toNat (fx.cs.map NR.d)) h ∧
   r = .returned (.tuple #[.agg #[.slice g.A g.n g.a, .slice g.B g.m g.b], .agg #[.slice h.A h.n h.a, .slice h.B h.m h.b], .int .i64 (dN fx ax)]) ∧ Hp w [h.fk, h.eX, g.eX, g.fk] w' := by
 refine (ki fx ax sn s k q w hT hf hl hcap vs hs1 hq hk).mono fun r w' ⟨hb, h⟩ => ?_
 rcases h with ⟨h0, rfl⟩ | ⟨h0, A1, a1, B1, b1, A2, a2, B2, b2, rfl, hh⟩
 ·exact ⟨FX.nil, FX.nil, Out.err h0, Out.err h0, rfl, (((Hp.start w).ext hb).sD).sD.perm (List.Perm.cons _ (List.Perm.cons _ (List.Perm.swap _ _ _)))⟩
 ·have he := (oA h0).1
  rw [h0]
  exact ⟨_, _, lr (A := A1) (a := a1) (B := B1) (b := b1) k he hl, lr (A := A2) (a := a2) (B := B2) (b := b2) k he hl, rfl, hh⟩
theorem rh (fx : FX) (ax : Int) (k q : Nat) (w : World) (hT : fL w) (hf : fx.at_ w) (hl : fx.rv k) (hcap : fx.n ≤ fx.a) (hs : Sz q (cg (-1))) (hs1 : Sz q (1 - cg (-1))) (hq : q ≤ 2000) (hk : fx.e = 0 → ∀ d ∈ fx.ns, k + fx.m * (260 + 2 * (q * d)) ≤ 300000) :
  Calls Tryz.prog 40 #[.agg #[.slice fx.A fx.n fx.a, .slice fx.B fx.m fx.b], .int .i64 ax] w fun r w' => ∃ g h : FX, Out (dN fx ax) fx.ns (eL false (cg (-1)) fx.ns ax.toNat (fx.cs.map NR.d)) g ∧ Out (dN fx ax) fx.ns (eL true (cg (-1)) fx.ns ax.toNat (fx.cs.map NR.d)) h ∧
   r = .returned (.tuple #[.agg #[.slice g.A g.n g.a, .slice g.B g.m g.b], .agg #[.slice h.A h.n h.a, .slice h.B h.m h.b], .int .i64 (dN fx ax)]) ∧ Hp w [h.fk, h.eX, g.eX, g.fk] w' := by
 by_cases h0 : dN fx ax = 0
 ·refine (oE fx ax k q w hT hf hl hcap hs hs1 hq hk h0).mono fun r w' ⟨A1, a1, B1, b1, A2, a2, B2, b2, hr, hh⟩ => ?_
  have he := (oA h0).1
  rw [h0]
  exact ⟨_, _, lr (A := A1) (a := a1) (B := B1) (b := b1) k he hl, lr (A := A2) (a := a2) (B := B2) (b := b2) k he hl, hr, hh⟩
 ·refine (kv fx ax k q w hT hf hl hcap hs hs1 hq hk h0).mono fun r w' ⟨hb, hr⟩ => ?_
  exact ⟨FX.nil, FX.nil, Out.err h0, Out.err h0, hr, (((Hp.start w).ext hb).sD).sD.perm (List.Perm.cons _ (List.Perm.cons _ (List.Perm.swap _ _ _)))⟩
theorem wT (fx : FX) (L : Option Addr) (m2 c2 : Nat) (hs : List Int) (k q D : Nat) (w : World) (hT : fL w) (hf : fx.at_ w) (hl : fx.rv k) (hcap : fx.n ≤ fx.a) (hS : Sl w L m2 1 (bU hs)) (hm2 : m2 ≤ 1000000) (hz : ∀ h ∈ hs, -9223372036854775808 ≤ h ∧ h ≤ 9223372036854775807)
  (h2s : Sz q (cg (-1))) (h2t : Sz q (1 - cg (-1))) (hq : q ≤ 2000) (hdD : fx.e = 0 → ∀ d ∈ fx.ns, d ≤ D) (hD : D ≤ 127) (hk : k + m2 * (260 + 2 * (q * D)) + fx.m * (260 + 2 * (q * D)) ≤ 300000) :
  Calls Tryz.prog 42 #[.agg #[.slice fx.A fx.n fx.a, .slice fx.B fx.m fx.b], .slice L m2 c2] w fun r w' => ∃ g : FX, Out (gB fx hs) fx.ns (iX fx.ns (fx.cs.map NR.d) hs) g ∧ r = .returned (.tuple #[.agg #[.slice g.A g.n g.a, .slice g.B g.m g.b], .int .i64 (gB fx hs)]) ∧ Hp w [g.fk, g.eX] w' := by
 by_cases h0 : gB fx hs = 0
 ·have he := rL h0
  refine (vV fx L m2 c2 hs k q D w hT hf hl hcap hS hm2 hz h0 h2s h2t hq (hdD he) hD hk).mono fun r w' ⟨A, a, B, b, hr, hh⟩ => ?_
  rw [h0]
  exact ⟨_, lr (A := A) (a := a) (B := B) (b := b) k he hl, hr, hh⟩
 ·refine (uc fx L m2 c2 hs k w hT hf hl hS hm2 hz h0).mono fun r w' ⟨hr, hb⟩ => ?_
  exact ⟨FX.nil, Out.err h0, hr, ((Hp.start w).ext hb).sD⟩
end Go.Proofs.YtioilmppidlbnaaGreatDoor
/- The walks through ogeeref13.Cut and Part. -/
namespace Go.Proofs.YtioilmppidlbnaaGreatDoor
open Go.RowKit
theorem vY {fx : FX} {w : World} (h0 : fx.e = 0) (hf : fx.at_ w) : fx.ds = bK fx.ns ∧ fx.m = aC fx.ns ∧ fx.ns.length = fx.n ∧ Sl w fx.A fx.n 1 (bU (bK fx.ns)) ∧ Sl w fx.B (aC fx.ns) 3 (bu NR.cells ((fx.cs.map NR.d).map nR)) := by
 obtain ⟨hdeg, hnum, h12, hlow, hcnt, hmax⟩ := FX.fv h0
 have hm : fx.m = aC fx.ns := by rw [← hf.ln.2, hcnt]
 refine ⟨hdeg, hm, ?_, ?_, ?_⟩
 ·unfold FX.ns; rw [List.length_map]; exact hf.ln.1
 ·rw [← hdeg]; exact hf.dg
 ·rw [← hm, ← hnum]; exact hf.nm
theorem wJ (fx : FX) (ax : Int) (sn : NR) (s : Dyadic) (k q : Nat) (w : World) (hf : fx.at_ w) (hl : fx.rv k) (vs : lT q sn s) (hs1 : Sz q (1 - s)) (hq : q ≤ 2000) (hk : k ≤ 1000000) :
  Calls Tryz.prog 39 #[.agg #[.slice fx.A fx.n fx.a, .slice fx.B fx.m fx.b], .int .i64 ax, .agg #[.bool sn.neg, .string sn.bj, .int .i64 sn.e]] w fun r w' => ∃ g h : FX, Out (dN fx ax) fx.ns (eL false s fx.ns ax.toNat (fx.cs.map NR.d)) g ∧ Out (dN fx ax) fx.ns (eL true s fx.ns ax.toNat (fx.cs.map NR.d)) h ∧
   r = .returned (.tuple #[.agg #[.slice g.A g.n g.a, .slice g.B g.m g.b], .agg #[.slice h.A h.n h.a, .slice h.B h.m h.b], .int .i64 (dN fx ax)]) ∧ Hp w [h.fk, h.eX, g.eX, g.fk] w' := by
 have hh := Hp.start w
 have hck := fun w1 hb => u3 fx k w1 (hf.ext hb) hl
 have hnil : ∀ w1, Below w.heap.size w w1 → Hp w [FX.nil.fk, FX.nil.eX, FX.nil.eX, FX.nil.fk] w1 := fun w1 hb => (((Hp.start w).ext hb).sD).sD.perm (List.Perm.cons _ (List.Perm.cons _ (List.Perm.swap _ _ _)))
 by_cases h0 : fx.e = 0
 ·by_cases h1 : ax < 0
  ·have hE : dN fx ax = 1 := by unfold dN; rw [if_neg (by omega), if_pos (.inl h1)]
   rw [hE]
   refine aj (N := 36) (l := [.agg #[.slice fx.A fx.n fx.a, .slice fx.B fx.m fx.b], .int .i64 ax, .agg #[.bool sn.neg, .string sn.bj, .int .i64 sn.e]]) Tryz.func39 rfl rfl (by simp) ?_
   refine sr ?_
   refine cj hh [_,_] ?_
   intro b3 w3 hh
   refine cj hh [_,_,_] ?_
   intro b5 w5 hh
   refine bW hh ?_
   intro b6 w6 hh
   refine bW hh ?_
   intro b7 w7 hh
   refine aI (aa (ah (sr ?_)))
   refine cJ hh 3 [_,_] ?_
   refine bA hh (hck _ hh.below) rfl ?_
   intro w11 hh
   refine aI (aa (sr (mI ?_)))
   refine fW (aa (cF (ak (ai (ah (sr (mI ?_)))))))
   refine aJ (mB ?_)
   first | refine gS ?_ | (refine gT ?_; refine mI ?_) | refine gV ?_
   first | refine gS ?_ | (refine gT ?_; refine bG ?_) | refine gV ?_
   first | refine gS ?_ | (refine gT ?_; refine bJ hh 3 ?_) | refine gV ?_
   first | refine gS ?_ | (refine gT ?_; refine a8 ?_) | refine gV ?_
   first | refine gS ?_ | (refine gT ?_; refine dm ?_) | refine gV ?_
   first | refine cW ?_ | refine cZ ?_
   refine aa (cT (sr ?_))
   refine fc [_,_] ?_
   refine fc [_,_] ?_
   refine stC hh 1 [_,_] ?_
   intro ws hh
   replace hh : Hp _ (_ :: .blk _ _ [_, _] _ :: _) _ := hh
   refine stC hh 0 [_,_] ?_
   intro ws hh
   replace hh : Hp _ (.blk _ _ [_, _] _ :: _) _ := hh
   refine aI (aa (ao (aQ ?_)))
   refine pj (aF rfl (aG (vs := [_, _]) aA.out (hh.ar (i := 1) (n := 2) rfl rfl) rfl) (aF rfl (aG (vs := [_, _]) aA.out (hh.ar (i := 0) (n := 2) rfl rfl) rfl) (dV (fQ rfl) a9))) ?_
   exact ⟨FX.nil, FX.nil, Out.err (by decide), Out.err (by decide), rfl, hnil _ hh.below⟩
  ·by_cases h2 : (fx.n : Int) ≤ ax
   ·have hE : dN fx ax = 1 := by unfold dN; rw [if_neg (by omega), if_pos (.inr h2)]
    rw [hE]
    refine aj (N := 36) (l := [.agg #[.slice fx.A fx.n fx.a, .slice fx.B fx.m fx.b], .int .i64 ax, .agg #[.bool sn.neg, .string sn.bj, .int .i64 sn.e]]) Tryz.func39 rfl rfl (by simp) ?_
    refine sr ?_
    refine cj hh [_,_] ?_
    intro b3 w3 hh
    refine cj hh [_,_,_] ?_
    intro b5 w5 hh
    refine bW hh ?_
    intro b6 w6 hh
    refine bW hh ?_
    intro b7 w7 hh
    refine aI (aa (ah (sr ?_)))
    refine cJ hh 3 [_,_] ?_
    refine bA hh (hck _ hh.below) rfl ?_
    intro w11 hh
    refine aI (aa (sr (mI ?_)))
    refine fW (aa (cF (ak (ai (ah (sr (mI ?_)))))))
    refine aJ (mB ?_)
    first | refine gS ?_ | (refine gT ?_; refine mI ?_) | refine gV ?_
    first | refine gS ?_ | (refine gT ?_; refine bG ?_) | refine gV ?_
    first | refine gS ?_ | (refine gT ?_; refine bJ hh 3 ?_) | refine gV ?_
    first | refine gS ?_ | (refine gT ?_; refine a8 ?_) | refine gV ?_
    first | refine gS ?_ | (refine gT ?_; refine dm ?_) | refine gV ?_
    first | refine cW ?_ | refine cZ ?_
    refine aa (cT (sr ?_))
    refine fc [_,_] ?_
    refine fc [_,_] ?_
    refine stC hh 1 [_,_] ?_
    intro ws hh
    replace hh : Hp _ (_ :: .blk _ _ [_, _] _ :: _) _ := hh
    refine stC hh 0 [_,_] ?_
    intro ws hh
    replace hh : Hp _ (.blk _ _ [_, _] _ :: _) _ := hh
    refine aI (aa (ao (aQ ?_)))
    refine pj (aF rfl (aG (vs := [_, _]) aA.out (hh.ar (i := 1) (n := 2) rfl rfl) rfl) (aF rfl (aG (vs := [_, _]) aA.out (hh.ar (i := 0) (n := 2) rfl rfl) rfl) (dV (fQ rfl) a9))) ?_
    exact ⟨FX.nil, FX.nil, Out.err (by decide), Out.err (by decide), rfl, hnil _ hh.below⟩
   ·have hE : dN fx ax = 0 := by unfold dN; rw [if_neg (by omega), if_neg (by omega)]
    rw [hE]
    obtain ⟨hdeg, hnum, h12, hlow, hcnt, hmax⟩ := FX.fv h0
    obtain ⟨-, hm, hnl, hdg, hnm⟩ := vY h0 hf
    have hxz : ∀ x ∈ fx.cs.map NR.d, Sz k x := fun x h => by
     obtain ⟨c, hc, rfl⟩ := List.mem_map.1 h
     exact (hl.num c hc).2
    obtain ⟨a, hax⟩ : ∃ a : Nat, ax = a := ⟨ax.toNat, by omega⟩
    rw [show ax.toNat = a by omega]
    have hp0 := fun w1 hb => lR fx.A fx.B fx.n fx.a fx.b a k q false 0 rfl fx.ns (fx.cs.map NR.d) sn s w1 (hdg.ext hb) (hnm.ext hb) (by omega) (by omega) hlow hmax hxz hk vs hs1 hq
    have hp1 := fun w1 hb => lR fx.A fx.B fx.n fx.a fx.b a k q true 1 rfl fx.ns (fx.cs.map NR.d) sn s w1 (hdg.ext hb) (hnm.ext hb) (by omega) (by omega) hlow hmax hxz hk vs hs1 hq
    rw [← hm, ← hdeg] at hp0 hp1
    have o0 := fun (A : Option Addr) (a2 : Nat) (B : Option Addr) (b : Nat) (ys : List Dyadic) => lr (A := A) (a := a2) (B := B) (b := b) (ys := ys) k h0 hl
    generalize eL false s fx.ns a (fx.cs.map NR.d) = ys0 at *
    generalize eL true s fx.ns a (fx.cs.map NR.d) = ys1 at *
    refine aj (N := 36) (l := [.agg #[.slice fx.A fx.n fx.a, .slice fx.B fx.m fx.b], .int .i64 ax, .agg #[.bool sn.neg, .string sn.bj, .int .i64 sn.e]]) Tryz.func39 rfl rfl (by simp) ?_
    refine sr ?_
    refine cj hh [_,_] ?_
    intro b3 w3 hh
    refine cj hh [_,_,_] ?_
    intro b5 w5 hh
    refine bW hh ?_
    intro b6 w6 hh
    refine bW hh ?_
    intro b7 w7 hh
    refine aI (aa (ah (sr ?_)))
    refine cJ hh 3 [_,_] ?_
    refine bA hh (hck _ hh.below) rfl ?_
    intro w11 hh
    refine aI (aa (sr (mI ?_)))
    refine fW (aa (cF (ak (ai (ah (sr (mI ?_)))))))
    refine aJ (mB ?_)
    first | refine gS ?_ | (refine gT ?_; refine mI ?_) | refine gV ?_
    first | refine gS ?_ | (refine gT ?_; refine bG ?_) | refine gV ?_
    first | refine gS ?_ | (refine gT ?_; refine bJ hh 3 ?_) | refine gV ?_
    first | refine gS ?_ | (refine gT ?_; refine a8 ?_) | refine gV ?_
    first | refine gS ?_ | (refine gT ?_; refine dm ?_) | refine gV ?_
    first | refine cW ?_ | refine cZ ?_
    refine aa (cF (ak (ai (ah ?_))))
    subst hax
    refine aE 7 [[(3, none)], [(1, none)], [(5, none)], [(28, some 0), (29, some 1), (30, some 2)], [(3, none)], [(1, none)], [(5, none)]] [(6, 34), (5, 33), (4, 32), (3, 31), (2, 30), (1, 29), (0, 28)] hh mixed (by kernel_rfl) ?_
    refine dJ 3 [_,_] ?_
    refine dw ?_
    refine dJ 2 [_,_,_] ?_
    refine br (i := 3) (jq hh.sz 3 39 fx.n 1 fx.m 3 (bU fx.ds) (bu NR.cells (ys0.map nR))) (jq.ext) ?_ ?_
    ·intro ρ1 w1 hj hR
     exact bM rfl (bH au.out (aH (show ρ1 28 = Value.agg _ from hR.1) (aH (show ρ1 29 = Value.int _ _ from hR.2.1) (aH rfl (aH (show ρ1 30 = Value.agg _ from hR.2.2.1) bD))))) (hp0 w1 hj.hp.below) (fun _ _ ⟨A, a, B, b, q1, q2⟩ => ⟨_, q1, q2.below, A, a, B, b, rfl, eo (q2.at_ (i := 1) rfl) hj.bl.size, eo (q2.at_ (i := 0) rfl) hj.bl.size⟩)
    refine dJ 3 [_,_] ?_
    refine dw ?_
    refine dJ 2 [_,_,_] ?_
    refine aX ?_
    intro f W hJ hV
    have hb_6 := hJ.bl
    obtain ⟨v34, v33, v32, v31, v30, v29, v28, _⟩ := hV
    obtain ⟨A31, c31, B31, k31, e31, o31, p31⟩ := v31
    replace hh := JJ.tO hJ hh o31 p31 (by decide)
    clear o31 p31
    refine aK (aZ (ae v34 (ae v33 (ae v32 (ae e31 (ae v30 (ae v29 (ae v28 aM)))))))) ?_
    dsimp only [bQ]
    clear e31 hJ
    refine aU (hp1 _ hh.below) au.out rfl (by decide) ?_
    rintro e_ w35 ⟨A35, a35, B35, b35, rfl, h3⟩
    refine ⟨_, rfl, ?_⟩
    replace hh := hh.join h3
    simp only [List.cons_append, List.nil_append] at hh
    clear h3
    refine stC hh 5 [_,_] ?_
    intro ws hh
    replace hh : Hp _ (_ :: _ :: _ :: _ :: _ :: .blk _ _ [_, _] _ :: _) _ := hh
    refine stC hh 4 [_,_] ?_
    intro ws hh
    replace hh : Hp _ (_ :: _ :: _ :: _ :: .blk _ _ [_, _] _ :: _) _ := hh
    refine aI (aa (ao ?_))
    refine pj (aF rfl (aG (vs := [_, _]) aA.out (hh.ar (i := 5) (n := 2) rfl rfl) rfl) (aF rfl (aG (vs := [_, _]) aA.out (hh.ar (i := 4) (n := 2) rfl rfl) rfl) (dV (fQ rfl) a9))) ?_
    replace hh := hh.sub (List.Sublist.cons_cons _ (List.Sublist.cons_cons _ (List.Sublist.cons_cons _ (List.Sublist.cons_cons _ (List.Sublist.cons _ (List.Sublist.cons _ (List.Sublist.cons _ (List.Sublist.cons _ List.Sublist.slnil))))))))
    exact ⟨_, _, o0 A31 c31 B31 k31 ys0, o0 A35 a35 B35 b35 ys1, rfl, hh⟩
 ·have hE : dN fx ax = fx.e := by unfold dN; rw [if_pos h0]
  rw [hE]
  refine aj (N := 36) (l := [.agg #[.slice fx.A fx.n fx.a, .slice fx.B fx.m fx.b], .int .i64 ax, .agg #[.bool sn.neg, .string sn.bj, .int .i64 sn.e]]) Tryz.func39 rfl rfl (by simp) ?_
  refine sr ?_
  refine cj hh [_,_] ?_
  intro b3 w3 hh
  refine cj hh [_,_,_] ?_
  intro b5 w5 hh
  refine bW hh ?_
  intro b6 w6 hh
  refine bW hh ?_
  intro b7 w7 hh
  refine aI (aa (ah (sr ?_)))
  refine cJ hh 3 [_,_] ?_
  refine bA hh (hck _ hh.below) rfl ?_
  intro w11 hh
  refine aI (aa (sr (mI ?_)))
  refine fW (aa (cT (sr ?_)))
  refine fc [_,_] ?_
  refine fc [_,_] (mI ?_)
  refine stC hh 1 [_,_] ?_
  intro ws hh
  replace hh : Hp _ (_ :: .blk _ _ [_, _] _ :: _) _ := hh
  refine stC hh 0 [_,_] ?_
  intro ws hh
  replace hh : Hp _ (.blk _ _ [_, _] _ :: _) _ := hh
  refine aI (aa (ao (aQ ?_)))
  refine pj (aF rfl (aG (vs := [_, _]) aA.out (hh.ar (i := 1) (n := 2) rfl rfl) rfl) (aF rfl (aG (vs := [_, _]) aA.out (hh.ar (i := 0) (n := 2) rfl rfl) rfl) (dV (fQ rfl) a9))) ?_
  exact ⟨FX.nil, FX.nil, Out.err h0, Out.err h0, rfl, hnil _ hh.below⟩
end Go.Proofs.YtioilmppidlbnaaGreatDoor
/- The walks through ogeelaw13's own helpers: what is more than is reckoned with. -/
namespace Go.Proofs.YtioilmppidlbnaaGreatDoor
open Go.RowKit
def n6 (a : NR) : Bool := decide ((8 : Int) < a.bj.size ∨ a.e < -60 ∨ 60 < a.e)
theorem nz (a : NR) (w : World) :
  Calls Tryz.prog 36 #[.agg #[.bool a.neg, .string a.bj, .int .i64 a.e]] w fun r w' => r = .returned (.bool (n6 a)) ∧ Below w.heap.size w w' := by
 have hh := Hp.start w
 by_cases h1 : (8 : Int) < a.bj.size
 ·refine aj (N := 18) (l := [.agg #[.bool a.neg, .string a.bj, .int .i64 a.e]]) Tryz.func36 rfl rfl (by simp) ?_
  refine sr ?_
  refine cj hh [_,_,_] ?_
  intro b1 w1 hh
  refine aB (aa (sr (bG (bG ?_))))
  refine bJ hh 0 ?_
  refine cE aN.out rfl (by decide) ?_
  refine bO (mB ?_)
  first | refine gS ?_ | (refine gT ?_; refine bG ?_) | refine gV ?_
  first | refine gS ?_ | (refine gT ?_; refine bJ hh 0 ?_) | refine gV ?_
  first | refine gS ?_ | (refine gT ?_; refine aJ ?_) | refine gV ?_
  first | refine cW ?_ | refine cZ ?_
  refine mB ?_
  first | refine gS ?_ | (refine gT ?_; refine bG ?_) | refine gV ?_
  first | refine gS ?_ | (refine gT ?_; refine bJ hh 0 ?_) | refine gV ?_
  first | refine gS ?_ | (refine gT ?_; refine bO ?_) | refine gV ?_
  first | refine cW ?_ | refine cZ ?_
  refine aB (aa (ao ?_))
  refine cw ?_
  refine ⟨?_, hh.below⟩
  unfold n6
  rw [decide_eq_true (.inl h1)]
 ·by_cases h2 : a.e < -60
  ·refine aj (N := 18) (l := [.agg #[.bool a.neg, .string a.bj, .int .i64 a.e]]) Tryz.func36 rfl rfl (by simp) ?_
   refine sr ?_
   refine cj hh [_,_,_] ?_
   intro b1 w1 hh
   refine aB (aa (sr (bG (bG ?_))))
   refine bJ hh 0 ?_
   refine cE aN.out rfl (by decide) ?_
   refine bO (mB ?_)
   first | refine gS ?_ | (refine gT ?_; refine bG ?_) | refine gV ?_
   first | refine gS ?_ | (refine gT ?_; refine bJ hh 0 ?_) | refine gV ?_
   first | refine gS ?_ | (refine gT ?_; refine aJ ?_) | refine gV ?_
   first | refine cW ?_ | refine cZ ?_
   refine mB ?_
   first | refine gS ?_ | (refine gT ?_; refine bG ?_) | refine gV ?_
   first | refine gS ?_ | (refine gT ?_; refine bJ hh 0 ?_) | refine gV ?_
   first | refine gS ?_ | (refine gT ?_; refine bO ?_) | refine gV ?_
   first | refine cW ?_ | refine cZ ?_
   refine aB (aa (ao ?_))
   refine cw ?_
   refine ⟨?_, hh.below⟩
   unfold n6
   rw [decide_eq_true (.inr (.inl h2))]
  ·by_cases h3 : 60 < a.e
   ·refine aj (N := 18) (l := [.agg #[.bool a.neg, .string a.bj, .int .i64 a.e]]) Tryz.func36 rfl rfl (by simp) ?_
    refine sr ?_
    refine cj hh [_,_,_] ?_
    intro b1 w1 hh
    refine aB (aa (sr (bG (bG ?_))))
    refine bJ hh 0 ?_
    refine cE aN.out rfl (by decide) ?_
    refine bO (mB ?_)
    first | refine gS ?_ | (refine gT ?_; refine bG ?_) | refine gV ?_
    first | refine gS ?_ | (refine gT ?_; refine bJ hh 0 ?_) | refine gV ?_
    first | refine gS ?_ | (refine gT ?_; refine aJ ?_) | refine gV ?_
    first | refine cW ?_ | refine cZ ?_
    refine mB ?_
    first | refine gS ?_ | (refine gT ?_; refine bG ?_) | refine gV ?_
    first | refine gS ?_ | (refine gT ?_; refine bJ hh 0 ?_) | refine gV ?_
    first | refine gS ?_ | (refine gT ?_; refine bO ?_) | refine gV ?_
    first | refine cW ?_ | refine cZ ?_
    refine aB (aa (ao ?_))
    refine cw ?_
    refine ⟨?_, hh.below⟩
    unfold n6
    rw [decide_eq_true (.inr (.inr h3))]
   ·refine aj (N := 18) (l := [.agg #[.bool a.neg, .string a.bj, .int .i64 a.e]]) Tryz.func36 rfl rfl (by simp) ?_
    refine sr ?_
    refine cj hh [_,_,_] ?_
    intro b1 w1 hh
    refine aB (aa (sr (bG (bG ?_))))
    refine bJ hh 0 ?_
    refine cE aN.out rfl (by decide) ?_
    refine bO (mB ?_)
    first | refine gS ?_ | (refine gT ?_; refine bG ?_) | refine gV ?_
    first | refine gS ?_ | (refine gT ?_; refine bJ hh 0 ?_) | refine gV ?_
    first | refine gS ?_ | (refine gT ?_; refine aJ ?_) | refine gV ?_
    first | refine cW ?_ | refine cZ ?_
    refine mB ?_
    first | refine gS ?_ | (refine gT ?_; refine bG ?_) | refine gV ?_
    first | refine gS ?_ | (refine gT ?_; refine bJ hh 0 ?_) | refine gV ?_
    first | refine gS ?_ | (refine gT ?_; refine bO ?_) | refine gV ?_
    first | refine cW ?_ | refine cZ ?_
    refine aB (aa (ao ?_))
    refine cw ?_
    refine ⟨?_, hh.below⟩
    unfold n6
    rw [decide_eq_false (by omega)]
theorem zM {a : NR} (h : n6 a = false) : a.ok ∧ Sz 124 a.d := by
 have h' := of_decide_eq_false h
 have h1 : (a.bj.size : Int) ≤ 8 := by omega
 have h2 : -60 ≤ a.e := by omega
 have h3 : a.e ≤ 60 := by omega
 exact ⟨⟨by omega, by omega, by omega⟩, Sz.raw (m := 64) (E := 60) (by omega) h2 h3⟩
def FX.pN (f : FX) : Prop := f.rv 124 ∧ f.m ≤ 120 ∧ f.n ≤ 20 ∧ ∀ d ∈ f.ds, d ≤ 6 ∨ 128 ≤ d
theorem po (f : FX) (w : World) (hf : f.at_ w) :
  Calls Tryz.prog 35 #[.agg #[.slice f.A f.n f.a, .slice f.B f.m f.b]] w fun r w' => ∃ b : Bool, r = .returned (.bool b) ∧ (b = false → f.pN) ∧ Below w.heap.size w w' := by
 have hh := Hp.start w
 have hl1 := hf.ln.1
 have hl2 := hf.ln.2
 by_cases h1 : 20 < f.n
 ·refine aj (N := 49) (l := [.agg #[.slice f.A f.n f.a, .slice f.B f.m f.b]]) Tryz.func35 rfl rfl (by simp) ?_
  refine sr ?_
  refine cj hh [_,_] ?_
  intro b1 w1 hh
  refine aB (aa (ah (sr (bG ?_))))
  refine bJ hh 0 ?_
  refine a8 ?_
  refine bO (mB ?_)
  first | refine gS ?_ | (refine gT ?_; refine bG ?_) | refine gV ?_
  first | refine gS ?_ | (refine gT ?_; refine bJ hh 0 ?_) | refine gV ?_
  first | refine gS ?_ | (refine gT ?_; refine a8 ?_) | refine gV ?_
  first | refine gS ?_ | (refine gT ?_; refine bO ?_) | refine gV ?_
  first | refine cW ?_ | refine cZ ?_
  refine aa ?_
  refine cT (sr (aB (aa (ao (aQ ?_)))))
  refine cw ?_
  exact ⟨_, rfl, fun h => (by cases h), hh.below⟩
 ·by_cases h2 : 120 < f.m
  ·refine aj (N := 49) (l := [.agg #[.slice f.A f.n f.a, .slice f.B f.m f.b]]) Tryz.func35 rfl rfl (by simp) ?_
   refine sr ?_
   refine cj hh [_,_] ?_
   intro b1 w1 hh
   refine aB (aa (ah (sr (bG ?_))))
   refine bJ hh 0 ?_
   refine a8 ?_
   refine bO (mB ?_)
   first | refine gS ?_ | (refine gT ?_; refine bG ?_) | refine gV ?_
   first | refine gS ?_ | (refine gT ?_; refine bJ hh 0 ?_) | refine gV ?_
   first | refine gS ?_ | (refine gT ?_; refine a8 ?_) | refine gV ?_
   first | refine gS ?_ | (refine gT ?_; refine bO ?_) | refine gV ?_
   first | refine cW ?_ | refine cZ ?_
   refine aa ?_
   refine cT (sr (aB (aa (ao (aQ ?_)))))
   refine cw ?_
   exact ⟨_, rfl, fun h => (by cases h), hh.below⟩
  ·refine aj (N := 49) (l := [.agg #[.slice f.A f.n f.a, .slice f.B f.m f.b]]) Tryz.func35 rfl rfl (by simp) ?_
   refine sr ?_
   refine cj hh [_,_] ?_
   intro b1 w1 hh
   refine aB (aa (ah (sr (bG ?_))))
   refine bJ hh 0 ?_
   refine a8 ?_
   refine bO (mB ?_)
   first | refine gS ?_ | (refine gT ?_; refine bG ?_) | refine gV ?_
   first | refine gS ?_ | (refine gT ?_; refine bJ hh 0 ?_) | refine gV ?_
   first | refine gS ?_ | (refine gT ?_; refine a8 ?_) | refine gV ?_
   first | refine gS ?_ | (refine gT ?_; refine bO ?_) | refine gV ?_
   first | refine cW ?_ | refine cZ ?_
   refine aa ?_
   refine cF (ak (ai (ah (sr (aI (aa (al ?_)))))))
   refine bB [2, 3, 15, 16, 17, 18, 19, 20, 21, 22, 23, 24, 25, 26, 27] 3
    (fun v w' => ∃ i : Nat, i ≤ f.m ∧ v = .int .i64 i ∧ (∀ x ∈ f.cs.take i, n6 x = false) ∧ Hp w [.blk b1 28 [.slice f.A f.n f.a, .slice f.B f.m f.b] (0, 0)] w')
    (fun v _ => f.m - (intOf v).toNat) ?_ ?_
   ·exact ⟨0, Nat.zero_le _, rfl, fun x hx => (by simp at hx), hh⟩
   ·clear hh
    rintro ρ' v w' ⟨i, hi, rfl, hall, hh⟩
    by_cases hlt : i < f.m
    ·obtain ⟨x, hx⟩ := aT (l := f.cs) (k := i) (by omega)
     obtain ⟨a2, hA2, s2⟩ := hf.nm.at_ (by omega)
     have hev : Value.slice f.B f.m f.b = .slice (some a2) f.m f.b := by rw [hA2]
     have hc := fun w1 => nz x w1
     cases hb : n6 x with
     | true =>
      rw [hb] at hc
      refine ah (sr (mI (bG ?_)))
      refine bJ hh 0 ?_
      refine a8 ?_
      refine aJ (aa (cT (ak (ai (ah (al (sr (bG ?_))))))))
      refine bJ hh 0 ?_
      refine mI ?_
      refine aW (k := i) aN.out aA.size hev rfl (by omega) (by omega) (by decide) ?_
      refine fy (vs := [_, _, _]) aA.out rfl ((s2.ext hh.below).recAt NR.len hx) rfl (by decide) ?_
      refine bA hh (hc _) rfl ?_
      intro w27 hh
      refine aa (cT (sr (aB (aa (ao (cd (aQ (aQ (cd (aQ ?_))))))))))
      refine cw ?_
      exact ⟨_, rfl, fun h => (by cases h), hh.below⟩
     | false =>
      rw [hb] at hc
      refine ah (sr (mI (bG ?_)))
      refine bJ hh 0 ?_
      refine a8 ?_
      refine aJ (aa (cT (ak (ai (ah (al (sr (bG ?_))))))))
      refine bJ hh 0 ?_
      refine mI ?_
      refine aW (k := i) aN.out aA.size hev rfl (by omega) (by omega) (by decide) ?_
      refine fy (vs := [_, _, _]) aA.out rfl ((s2.ext hh.below).recAt NR.len hx) rfl (by decide) ?_
      refine bA hh (hc _) rfl ?_
      intro w27 hh
      refine aa (cF (ak (a0 (ai (aq (mI ?_))))))
      refine bz (aI (aD (ai ?_)))
      refine ⟨⟨i + 1, by omega, rfl, fun y hy => ?_, hh⟩, by show f.m - (i + 1) < f.m - i; omega, ?_⟩
      ·rw [bf hx, List.mem_append, List.mem_singleton] at hy
       rcases hy with hy | rfl
       ·exact hall y hy
       ·exact hb
      ·(repeat (first | exact aw _ _ _ | refine az rfl ?_ | refine av rfl ?_))
    ·rw [List.take_of_length_le (by omega)] at hall
     have hfin : (∀ d ∈ f.ds, d ≤ 6 ∨ 128 ≤ d) → f.pN := fun hd => ⟨⟨by omega, by omega, fun c hc => zM (hall c hc)⟩, by omega, by omega, hd⟩
     clear hall
     refine ah (sr (mI (bG ?_)))
     refine bJ hh 0 ?_
     refine a8 ?_
     refine aJ (aa (cF ?_))
     refine a6 ?_
     refine ay (ay (bp (ai (ah (sr (aI (aa (al ?_))))))))
     refine bB [2, 4, 28, 29, 30, 31, 32, 33, 34, 35, 36, 37, 38, 39, 40, 41, 42, 43, 44, 45, 46, 47, 48] 4
      (fun v w' => ∃ i : Nat, i ≤ f.n ∧ v = .int .i64 i ∧ (∀ d ∈ f.ds.take i, d ≤ 6 ∨ 128 ≤ d) ∧ Hp w [.blk b1 28 [.slice f.A f.n f.a, .slice f.B f.m f.b] (0, 0)] w')
      (fun v _ => f.n - (intOf v).toNat) ?_ ?_
     ·exact ⟨0, Nat.zero_le _, rfl, fun x hx => (by simp at hx), hh⟩
     ·clear hh
      rintro ρ2 v w2 ⟨j, hj, rfl, hds, hh⟩
      by_cases hlt2 : j < f.n
      ·obtain ⟨d, hd⟩ := aT (l := f.ds) (k := j) (by omega)
       have hgd := cu hd
       obtain ⟨a1, hA1, s1⟩ := hf.dg.at_ (by omega)
       have hev : Value.slice f.A f.n f.a = .slice (some a1) f.n f.a := by rw [hA1]
       by_cases h6 : 6 < d
       ·by_cases h128 : d < 128
        ·refine ah (sr (mI (bG ?_)))
         refine bJ hh 0 ?_
         refine a8 ?_
         refine aJ (aa (cT (ak (ai (ah (al (sr (bG ?_))))))))
         refine bJ hh 0 ?_
         refine mI ?_
         refine aW (k := j) aN.out aA.size hev rfl (by omega) (by omega) (by decide) ?_
         refine aV aA.out rfl ((s1.ext hh.below).gx hgd) (by decide) ?_
         refine bO (mB ?_)
         first | refine gS ?_ | (refine gT ?_; refine bG ?_) | refine gV ?_
         first | refine gS ?_ | (refine gT ?_; refine bJ hh 0 ?_) | refine gV ?_
         first | refine gS ?_ | (refine gT ?_; refine mI ?_) | refine gV ?_
         first | refine gS ?_ | (refine gT ?_; refine aW (k := j) aN.out aA.size hev rfl (by omega) (by omega) (by decide) ?_) | refine gV ?_
         refine bg rfl rfl ?_
         refine aV aA.out rfl ((s1.ext hh.below).gx hgd) (by decide) ?_
         first | refine gS ?_ | (refine gT ?_; refine aJ ?_) | refine gV ?_
         first | refine cW ?_ | refine cZ ?_
         refine aa (cT (sr (aB (aa (ao (cd (aQ (aQ (cd (aQ ?_))))))))))
         refine cw ?_
         exact ⟨_, rfl, fun h => (by cases h), hh.below⟩
        ·refine ah (sr (mI (bG ?_)))
         refine bJ hh 0 ?_
         refine a8 ?_
         refine aJ (aa (cT (ak (ai (ah (al (sr (bG ?_))))))))
         refine bJ hh 0 ?_
         refine mI ?_
         refine aW (k := j) aN.out aA.size hev rfl (by omega) (by omega) (by decide) ?_
         refine aV aA.out rfl ((s1.ext hh.below).gx hgd) (by decide) ?_
         refine bO (mB ?_)
         first | refine gS ?_ | (refine gT ?_; refine bG ?_) | refine gV ?_
         first | refine gS ?_ | (refine gT ?_; refine bJ hh 0 ?_) | refine gV ?_
         first | refine gS ?_ | (refine gT ?_; refine mI ?_) | refine gV ?_
         first | refine gS ?_ | (refine gT ?_; refine aW (k := j) aN.out aA.size hev rfl (by omega) (by omega) (by decide) ?_) | refine gV ?_
         refine bg rfl rfl ?_
         refine aV aA.out rfl ((s1.ext hh.below).gx hgd) (by decide) ?_
         first | refine gS ?_ | (refine gT ?_; refine aJ ?_) | refine gV ?_
         first | refine cW ?_ | refine cZ ?_
         refine aa (cF (ak (a0 (ai (aq (mI ?_))))))
         refine bz (aI (aD (ai ?_)))
         have hds2 : ∀ d ∈ f.ds.take (j + 1), d ≤ 6 ∨ 128 ≤ d := fun y hy => by
          rw [bf hd, List.mem_append, List.mem_singleton] at hy
          rcases hy with hy | rfl
          ·exact hds y hy
          ·omega
         refine ⟨⟨j + 1, by omega, rfl, hds2, hh⟩, by show f.n - (j + 1) < f.n - j; omega, ?_⟩
         (repeat (first | exact aw _ _ _ | refine az rfl ?_ | refine av rfl ?_))
       ·refine ah (sr (mI (bG ?_)))
        refine bJ hh 0 ?_
        refine a8 ?_
        refine aJ (aa (cT (ak (ai (ah (al (sr (bG ?_))))))))
        refine bJ hh 0 ?_
        refine mI ?_
        refine aW (k := j) aN.out aA.size hev rfl (by omega) (by omega) (by decide) ?_
        refine aV aA.out rfl ((s1.ext hh.below).gx hgd) (by decide) ?_
        refine bO (mB ?_)
        first | refine gS ?_ | (refine gT ?_; refine bG ?_) | refine gV ?_
        first | refine gS ?_ | (refine gT ?_; refine bJ hh 0 ?_) | refine gV ?_
        first | refine gS ?_ | (refine gT ?_; refine mI ?_) | refine gV ?_
        first | refine gS ?_ | (refine gT ?_; refine ct aN.out aA.size rfl rfl (by omega) (by omega) (by decide) ?_) | refine gV ?_
        first | (refine cz (by decide) rfl rfl (by decide) ?_) | (refine wl_guard_skipV (by decide) rfl rfl ?_)
        first | refine gS ?_ | (refine gT ?_; refine aJ ?_) | refine gV ?_
        first | refine cW ?_ | refine cZ ?_
        refine aa (cF (ak (a0 (ai (aq (mI ?_))))))
        refine bz (aI (aD (ai ?_)))
        have hds2 : ∀ d ∈ f.ds.take (j + 1), d ≤ 6 ∨ 128 ≤ d := fun y hy => by
         rw [bf hd, List.mem_append, List.mem_singleton] at hy
         rcases hy with hy | rfl
         ·exact hds y hy
         ·omega
        refine ⟨⟨j + 1, by omega, rfl, hds2, hh⟩, by show f.n - (j + 1) < f.n - j; omega, ?_⟩
        (repeat (first | exact aw _ _ _ | refine az rfl ?_ | refine av rfl ?_))
      ·rw [List.take_of_length_le (by omega)] at hds
       refine ah (sr (mI (bG ?_)))
       refine bJ hh 0 ?_
       refine a8 ?_
       refine aJ (aa (cF ?_))
       refine a6 ?_
       refine ay (ay (bp (ai (sr (aB (aa (ao ?_)))))))
       refine cw ?_
       exact ⟨_, rfl, fun _ => hfin hds, hh.below⟩
end Go.Proofs.YtioilmppidlbnaaGreatDoor
/- The walks through ogeelaw13's examples. -/
namespace Go.Proofs.YtioilmppidlbnaaGreatDoor
open Go.RowKit
abbrev fY (l : List Int) (A : Option Addr) (a : Nat) (B : Option Addr) (b : Nat) : FX := ⟨A, 1, a, B, l.length, b, [(l.length : Int) - 1], l.map fun z : Int => nR ((z : Dyadic) * cg (-2))⟩
theorem pB {l : List Int} {A : Option Addr} {a : Nat} {B : Option Addr} {b : Nat} (hn : l.length ≤ 100) (hl : ∀ z ∈ l, z.natAbs < 256) : (fY l A a B b).rv 124 := by
 refine ⟨by show 1 ≤ 1000; omega, by show l.length ≤ 100000; omega, fun c hc => ?_⟩
 obtain ⟨z, hz, rfl⟩ := List.mem_map.1 hc
 have h : Sz 34 ((z : Dyadic) * cg (-2)) := (show Sz 24 (z : Dyadic) from wB (e := 0) (hl z hz) (by decide) (by decide)).mul (Sz.two (k := 2) (by decide) (by decide))
 exact ⟨h.ok (by omega), by rw [dH]; exact h.mono (by omega)⟩
theorem cX (l : List Int) (A : Option Addr) (c : Nat) (w : World) (hS : Sl w A l.length 1 (bU l)) (h0 : 0 < l.length) (hn : l.length ≤ 100) (hl : ∀ z ∈ l, z.natAbs < 256) :
  Calls Tryz.prog 83 #[.slice A l.length c] w fun r w' => ∃ (A : Option Addr) (a : Nat) (B : Option Addr) (b : Nat), r = .returned (.agg #[.slice A 1 a, .slice B l.length b]) ∧ Hp w [(fY l A a B b).fk, (fY l A a B b).eX] w' := by
 have hh := Hp.start w
 obtain ⟨n, hn2⟩ : ∃ n, n = l.length := ⟨_, rfl⟩
 have hnd : (fY l none 0 none 0).ds = [(n : Int) - 1] := by rw [hn2]
 rw [← hn2] at hS h0 hn ⊢
 refine aj (N := 28) (l := [.slice A n c]) Tryz.func83 rfl rfl (by simp) ?_
 refine sr ?_
 refine bW hh ?_
 intro b2 w2 hh
 refine aa (sr (mL (a8 ?_)))
 refine eu ?_
 refine bo hh (cs := [_]) aN.out aA.out (aY (bL rfl) bP) rfl rfl (by decide) (by decide) (by decide) rfl (by decide) ?_
 intro b8 w8 hh
 refine fc [_,_] ?_
 refine bW hh ?_
 intro b3 w3 hh
 refine stC hh 0 [_,_] ?_
 intro ws hh
 replace hh : Hp _ (.blk _ _ [_, _] _ :: _) _ := hh
 refine aa (ah (sr (aI (aa (al ?_)))))
 replace hh := hh.perm (List.perm_middle (l₁ := [_]))
 simp only [List.cons_append, List.nil_append] at hh
 have hcap := hh.kN (i := 0) rfl
 replace hh := hh.perm (List.perm_middle (l₁ := [_]))
 simp only [List.cons_append, List.nil_append] at hh
 replace hh := hh.eZ 39 3
 refine bB [4, 10, 11, 12, 13, 14, 15, 16, 17, 18, 19, 20, 21, 22, 23, 24, 25, 26] 4
  (fun v w' => ∃ (i c1 : Nat) (B : Option Addr), i ≤ n ∧ v = .int .i64 i ∧ Hp w [.row B i c1 39 3 (bu NR.cells ((l.take i).map fun z : Int => nR ((z : Dyadic) * cg (-2)))), .blk b3 28 [.slice (some ⟨b8, 0, none⟩) 1 1, .slice B i c1] (0, 0), .row (some ⟨b8, 0, none⟩) 1 1 3 1 (bU [(n : Int) - 1]), .blk b2 28 [.slice none 0 0, .slice none 0 0] (0, 0)] w')
  (fun v _ => n - (intOf v).toNat) ?_ ?_
 ·exact ⟨0, 0, none, Nat.zero_le _, rfl, hh⟩
 ·clear hh
  rintro ρ' v w' ⟨i, c1, B, hi, rfl, hh⟩
  by_cases hlt : i < n
  ·obtain ⟨z, hz⟩ := aT (l := l) (k := i) (by omega)
   have hgz := cu hz
   have hzb := hl z (List.mem_of_getElem? hz)
   obtain ⟨ad, rfl, hr⟩ := hS.at_ (by omega)
   refine ah (sr (mI (mL (a8 ?_))))
   refine aJ (aa (cT (ak (ai (ah (al ?_))))))
   have hsh := fun w1 => iW (nR (z : Dyadic)) (-2) w1 (by have := (show Sz 24 (z : Dyadic) from wB (e := 0) hzb (by decide) (by decide)).bj; omega) (by have := (show Sz 24 (z : Dyadic) from wB (e := 0) hzb (by decide) (by decide)).nr; omega) (by have := (show Sz 24 (z : Dyadic) from wB (e := 0) hzb (by decide) (by decide)).nr; omega) (by decide) (by decide)
   rw [dH] at hsh
   refine aE 9 [[(3, none)], [(16, some 0)], [(0, none)], [(4, none)], [(18, some 2), (19, some 3)], [(20, some 4)], [(21, some 5)], [(22, some 6)], [(23, some 7)]] [(8, 24), (7, 23), (6, 22), (5, 21), (4, 20), (3, 19), (2, 18), (1, 17), (0, 16)] hh mixed (by kernel_rfl) ?_
   refine dX ?_
   refine fm 1 ?_
   refine iZ ?_
   refine dw ?_
   refine p9 (i) ?_
   refine bm (i := 5) (fun ρ1 w1 hj hR => fT aA.out (show ρ1 20 = Value.pointer _ from hR.1) ((hr.ext hj.hp.below).gx (by assumption))) ?_
   refine dC (fun _ hj => eG z _ (by omega) (by omega)) ?_
   refine dC (fun _ hj => hsh _) ?_
   refine uV [_,_,_] ?_
   refine aX ?_
   intro f W hJ hV
   have hb_5 := hJ.bl
   obtain ⟨v24, v23, v22, v21, v20, v19, v18, v17, v16, _⟩ := hV
   obtain ⟨A24, c24, e24, f24⟩ : Rows _ _ _ (f 8) W := v24
   replace hh := hJ.hp
   refine aK (aZ (ae e24 (ae v23 (ae v22 (ae v21 (ae v20 (ae v19 (ae v18 (ae v17 (ae v16 aM)))))))))) ?_
   dsimp only [bQ]
   clear e24 hJ
   refine dv hh (i := 0) rfl rfl rfl (f24) aN.out aA.out rfl (by decide) (by first | rfl | exact dr _ | exact cG _ | exact bX _ | exact cB NR.one _) (by omega) (by omega) (by decide) ?_
   intro A25 c25 w25 hh
   simp only [List.set_cons_zero] at hh
   refine bG ?_
   refine stC hh 1 [_] ?_
   intro ws hh
   replace hh : Hp _ (_ :: .blk _ _ [_, _] _ :: _) _ := hh
   refine aD (a0 (ai (aq (mI ?_))))
   refine bz (aI (aD (ai ?_)))
   replace hh := hh.sub (List.Sublist.cons_cons _ (List.Sublist.cons_cons _ (List.Sublist.cons_cons _ (List.Sublist.cons_cons _ List.Sublist.slnil))))
   refine ⟨⟨i + 1, c25, A25, by omega, rfl, ?_⟩, by show n - (i + 1) < n - i; omega, ?_⟩
   ·rw [bf hz, List.map_append, eS]
    exact hh
   ·(repeat (first | exact aw _ _ _ | refine az rfl ?_ | refine av rfl ?_))
  ·obtain rfl : i = n := by omega
   rw [List.take_of_length_le (by omega)] at hh
   refine ah (sr (mI (mL (a8 ?_))))
   refine aJ (aa (cF ?_))
   refine a6 ?_
   refine ay (ay (bp (ai (sr ?_))))
   refine cJ hh 1 [_,_] ?_
   refine stC hh 3 [_,_] ?_
   intro ws hh
   replace hh : Hp _ (_ :: _ :: _ :: .blk _ _ [_, _] _ :: _) _ := hh
   refine aa (ao ?_)
   replace hh := hh.sub (List.Sublist.cons_cons _ (List.Sublist.cons _ (List.Sublist.cons_cons _ (List.Sublist.cons_cons _ List.Sublist.slnil))))
   refine eE (aF rfl (aG (vs := [_, _]) aA.out (hh.ar (i := 2) (n := 2) rfl rfl) rfl) a9) ?_
   refine ⟨some ⟨b8, 0, none⟩, 1, B, c1, rfl, ?_⟩
   unfold FX.fk FX.eX
   dsimp only
   rw [← hn2]
   exact hh.sub (List.sublist_append_left [_, _] _)
end Go.Proofs.YtioilmppidlbnaaGreatDoor
/- The walk through ogeelaw13.awake. -/
namespace Go.Proofs.YtioilmppidlbnaaGreatDoor
open Go.RowKit
theorem gp : Sz 2 (cg (-1)) ∧ Sz 2 (1 - cg (-1)) := ⟨(show Sz 1 (cg (-1)) from ⟨1, by decide +kernel, by decide⟩).mono (by omega), Sz.one.sub (show Sz 1 (cg (-1)) from ⟨1, by decide +kernel, by decide⟩)⟩
theorem lf {l : List Int} {D : List Nat} {ys : List Dyadic} {g : FX} {w : World} (h : Out 0 D ys g) (h1 : bK D = [(l.length : Int) - 1]) (h2 : ys = l.map fun z : Int => (z : Dyadic) * cg (-2)) (hg : g.at_ w) : ∃ (A : Option Addr) (a : Nat) (B : Option Addr) (b : Nat), g = fY l A a B b := by
 have l1 := hg.ln
 obtain ⟨qa, hc0, -, -⟩ := h
 obtain ⟨A, n, a, B, m, b, ds, cs⟩ := g
 have hd : ds = [(l.length : Int) - 1] := qa.trans h1
 have hc : cs = l.map fun z : Int => nR ((z : Dyadic) * cg (-2)) := hc0.trans (by unfold zj; rw [if_pos rfl, h2, List.map_map]; rfl)
 obtain ⟨q1, q2⟩ : ds.length = n ∧ cs.length = m := l1
 clear qa hc0 h1 h2 hg
 subst hd hc q1
 obtain rfl : l.length = m := by rw [← q2, List.length_map]
 exact ⟨A, a, B, b, rfl⟩
abbrev zU (l : List Int) : List Dyadic := l.map fun z : Int => (z : Dyadic) * cg (-2)
theorem vZ {l : List Int} {A : Option Addr} {a : Nat} {B : Option Addr} {b : Nat} (k q : Nat) (hn : l.length ≤ 100) (hk : k + 100 * (260 + 2 * (q * 100)) ≤ 300000) : (fY l A a B b).e = 0 → ∀ d ∈ (fY l A a B b).ns, k + (fY l A a B b).m * (260 + 2 * (q * d)) ≤ 300000 := fun _ d hd => by
 have hd2 : d ∈ [((l.length : Int) - 1).toNat] := hd
 rw [List.mem_singleton] at hd2
 have h1 : q * d ≤ q * 100 := Nat.mul_le_mul_left _ (by omega)
 have h2 : l.length * (260 + 2 * (q * d)) ≤ 100 * (260 + 2 * (q * 100)) := Nat.mul_le_mul hn (by omega)
 show k + l.length * (260 + 2 * (q * d)) ≤ 300000
 omega
theorem wN (l l1 l2 : List Int) (A : Option Addr) (a : Nat) (B : Option Addr) (b : Nat) (w : World) (hT : fL w) (hf : (fY l A a B b).at_ w) (hcap : 1 ≤ a) (hn : l.length ≤ 100) (hl : ∀ z ∈ l, z.natAbs < 256)
  (h : dN (fY l A a B b) 0 = 0 ∧ eL false (cg (-1)) (fY l A a B b).ns 0 ((fY l A a B b).cs.map NR.d) = zU l1 ∧ eL true (cg (-1)) (fY l A a B b).ns 0 ((fY l A a B b).cs.map NR.d) = zU l2 ∧ bK (fY l A a B b).ns = [(l1.length : Int) - 1] ∧ bK (fY l A a B b).ns = [(l2.length : Int) - 1]) :
  Calls Tryz.prog 40 #[.agg #[.slice A 1 a, .slice B l.length b], .int .i64 0] w fun r w' => ∃ A1 a1 B1 b1 A2 a2 B2 b2, r = .returned (.tuple #[.agg #[.slice A1 1 a1, .slice B1 l1.length b1], .agg #[.slice A2 1 a2, .slice B2 l2.length b2], .int .i64 0]) ∧ Hp w [(fY l2 A2 a2 B2 b2).fk, (fY l2 A2 a2 B2 b2).eX, (fY l1 A1 a1 B1 b1).eX, (fY l1 A1 a1 B1 b1).fk] w' := by
 have := rh (fY l A a B b) 0 124 2 w hT hf (pB hn hl) hcap gp.1 gp.2 (by decide) (vZ 124 2 hn (by decide))
 rw [h.1] at this
 refine this.mono fun r w' ⟨g, g2, o1, o2, hr, hh⟩ => ?_
 obtain ⟨A1, a1, B1, b1, rfl⟩ := lf o1 h.2.2.2.1 h.2.1 (hh.dP (List.mem_of_getElem? (i := 3) rfl) (List.mem_of_getElem? (i := 2) rfl))
 obtain ⟨A2, a2, B2, b2, rfl⟩ := lf o2 h.2.2.2.2 h.2.2.1 (hh.dP (List.mem_of_getElem? (i := 0) rfl) (List.mem_of_getElem? (i := 1) rfl))
 exact ⟨A1, a1, B1, b1, A2, a2, B2, b2, hr, hh⟩
theorem AW (l l1 l2 : List Int) (A : Option Addr) (a : Nat) (B : Option Addr) (b : Nat) (w : World) (hT : fL w) (hf : (fY l A a B b).at_ w) (hcap : 1 ≤ a) (hn : l.length ≤ 100) (hl : ∀ z ∈ l, z.natAbs < 256)
  (h : dN (fY l A a B b) 0 = 0 ∧ eL false (cg (-2)) (fY l A a B b).ns 0 ((fY l A a B b).cs.map NR.d) = zU l1 ∧ eL true (cg (-2)) (fY l A a B b).ns 0 ((fY l A a B b).cs.map NR.d) = zU l2 ∧ bK (fY l A a B b).ns = [(l1.length : Int) - 1] ∧ bK (fY l A a B b).ns = [(l2.length : Int) - 1]) :
  Calls Tryz.prog 38 #[.agg #[.slice A 1 a, .slice B l.length b], .int .i64 0, .agg #[.bool (nR (cg (-2))).neg, .string (nR (cg (-2))).bj, .int .i64 (nR (cg (-2))).e]] w fun r w' => ∃ A1 a1 B1 b1 A2 a2 B2 b2, r = .returned (.tuple #[.agg #[.slice A1 1 a1, .slice B1 l1.length b1], .agg #[.slice A2 1 a2, .slice B2 l2.length b2], .int .i64 0]) ∧ Hp w [(fY l2 A2 a2 B2 b2).fk, (fY l2 A2 a2 B2 b2).eX, (fY l1 A1 a1 B1 b1).eX, (fY l1 A1 a1 B1 b1).fk] w' := by
 have z : Sz 2 (cg (-2)) := ⟨1, by decide +kernel, by decide⟩
 have := vp (fY l A a B b) 0 (nR (cg (-2))) (cg (-2)) 124 4 w hT hf (pB hn hl) hcap (lT.of (z.mono (by decide)) (by decide)) ((Sz.one.mono (show 1 ≤ 3 by decide)).sub (z.mono (show 2 ≤ 3 by decide))) (by decide) (vZ 124 4 hn (by decide))
 rw [h.1] at this
 refine this.mono fun r w' ⟨g, g2, o1, o2, hr, hh⟩ => ?_
 obtain ⟨A1, a1, B1, b1, rfl⟩ := lf o1 h.2.2.2.1 h.2.1 (hh.dP (List.mem_of_getElem? (i := 3) rfl) (List.mem_of_getElem? (i := 2) rfl))
 obtain ⟨A2, a2, B2, b2, rfl⟩ := lf o2 h.2.2.2.2 h.2.2.1 (hh.dP (List.mem_of_getElem? (i := 0) rfl) (List.mem_of_getElem? (i := 1) rfl))
 exact ⟨A1, a1, B1, b1, A2, a2, B2, b2, hr, hh⟩
theorem AA (l l1 hs : List Int) (A : Option Addr) (a : Nat) (B : Option Addr) (b : Nat) (L : Option Addr) (c : Nat) (w : World) (hT : fL w) (hf : (fY l A a B b).at_ w) (hcap : 1 ≤ a) (hn : l.length ≤ 10) (hl : ∀ z ∈ l, z.natAbs < 256) (hS : Sl w L hs.length 1 (bU hs)) (hm : hs.length ≤ 6) (hz : ∀ z ∈ hs, -9223372036854775808 ≤ z ∧ z ≤ 9223372036854775807)
  (h : gB (fY l A a B b) hs = 0 ∧ iX (fY l A a B b).ns ((fY l A a B b).cs.map NR.d) hs = zU l1 ∧ bK (fY l A a B b).ns = [(l1.length : Int) - 1]) :
  Calls Tryz.prog 42 #[.agg #[.slice A 1 a, .slice B l.length b], .slice L hs.length c] w fun r w' => ∃ A1 a1 B1 b1, r = .returned (.tuple #[.agg #[.slice A1 1 a1, .slice B1 l1.length b1], .int .i64 0]) ∧ Hp w [(fY l1 A1 a1 B1 b1).fk, (fY l1 A1 a1 B1 b1).eX] w' := by
 have := wT (fY l A a B b) L hs.length c hs 124 2 10 w hT hf (pB (by omega) hl) hcap hS (by omega) hz gp.1 gp.2 (by decide) (fun _ d hd => by
  have hd2 : d ∈ [((l.length : Int) - 1).toNat] := hd
  rw [List.mem_singleton] at hd2
  omega) (by decide) (by
  show 124 + hs.length * (260 + 2 * (2 * 10)) + l.length * (260 + 2 * (2 * 10)) ≤ 300000
  omega)
 rw [h.1] at this
 refine this.mono fun r w' ⟨g, o1, hr, hh⟩ => ?_
 obtain ⟨A1, a1, B1, b1, rfl⟩ := lf o1 h.2.2 h.2.1 (hh.dP (List.mem_of_getElem? (i := 0) rfl) (List.mem_of_getElem? (i := 1) rfl))
 exact ⟨A1, a1, B1, b1, hr, hh⟩
theorem uG (B : Option Addr) (b : Nat) (w : World) (hT : fL w) (hS : Sl w B 1 3 (bu NR.cells [nR ((7 : Int) : Dyadic)])) :
  Calls Tryz.prog 40 #[.agg #[.slice none 0 0, .slice B 1 b], .int .i64 0] w fun r w' => r = x7 1 ∧ Below w.heap.size w w' := by
 have z : Sz 24 ((7 : Int) : Dyadic) := wB (m := 7) (e := 0) (by decide) (by decide) (by decide)
 have hE : dN (⟨none, 0, 0, B, 1, b, [], [nR ((7 : Int) : Dyadic)]⟩ : FX) 0 = 1 := by kernel_rfl
 have := kv (⟨none, 0, 0, B, 1, b, [], [nR ((7 : Int) : Dyadic)]⟩ : FX) 0 124 2 w hT ⟨Sl.nil _ _ _, hS⟩ ⟨Nat.zero_le _, Nat.le_of_ble_eq_true rfl, fun c hc => by
  rw [List.mem_singleton] at hc
  subst hc
  exact ⟨z.ok (by omega), by rw [dH]; exact z.mono (by omega)⟩⟩ (Nat.le_refl _) gp.1 gp.2 (by decide) (fun _ d hd => by cases hd) (by rw [hE]; decide)
 rw [hE] at this
 exact this.mono fun r w' h => ⟨h.2, h.1⟩
def dp (l : List Int) : VP := fun v W => ∃ g : FX, v = .agg #[.slice g.A g.n g.a, .slice g.B g.m g.b] ∧ g.ds = [(l.length : Int) - 1] ∧ g.cs = (l.map fun z : Int => nR ((z : Dyadic) * cg (-2))) ∧ g.at_ W
theorem dp.ext {l : List Int} (v : Value) (w w' : World) (h : dp l v w) (hb : Below w.heap.size w w') : dp l v w' := let ⟨g, h1, h2, h3, h4⟩ := h; ⟨g, h1, h2, h3, h4.ext hb⟩
theorem iQ (w : World) (hT : fL w) : Calls Tryz.prog 37 #[] w fun r w' => r = .returned (.bool true) ∧ Below w.heap.size w w' := by
 have hh := Hp.start w
 have hsh := fun w1 => iW (nR ((1 : Int) : Dyadic)) (-2) w1 (by decide +kernel) (by decide +kernel) (by decide +kernel) (by decide) (by decide)
 rw [dH, show ((1 : Int) : Dyadic) * cg (-2) = cg (-2) from Dyadic.one_mul _] at hsh
 refine aj (N := 113) (l := []) Tryz.func37 rfl rfl (by simp) ?_
 refine sr (aB (aa (sr ?_)))
 refine bo hh (cs := [_, _]) aN.out aA.out (aY rfl (aY rfl bP)) rfl rfl (by decide) (by decide) (by decide) rfl (by decide) ?_
 intro b16 w16 hh
 refine aU (cX [0, 4] _ _ _ (hh.bh (i := 0) rfl) (by decide) (by decide) (by decide)) au.out rfl (by decide) ?_
 rintro e_ w17 ⟨Af1, af1, Bf1, bf1, rfl, h2⟩
 refine ⟨_, rfl, ?_⟩
 replace hh := hh.join h2
 clear h2
 have capf1 := hh.kN (i := 1) rfl
 refine aU (wN [0, 4] [0, 2] [2, 4] Af1 af1 Bf1 bf1 _ (hT.hp hh) (hh.dP (List.mem_of_getElem? (i := 0) rfl) (List.mem_of_getElem? (i := 1) rfl)) capf1 (by decide) (by decide) ⟨by kernel_rfl, by kernel_rfl, by kernel_rfl, by kernel_rfl, by kernel_rfl⟩) au.out rfl (by decide) ?_
 rintro e_ w18 ⟨Ar1, ar1, Br1, br1, Ar2, ar2, Br2, br2, rfl, h2⟩
 refine ⟨_, rfl, ?_⟩
 replace hh := hh.join h2
 clear h2
 replace hh := hh.sub (List.Sublist.cons_cons _ (List.Sublist.cons_cons _ (List.Sublist.cons_cons _ (List.Sublist.cons_cons _ (List.Sublist.cons _ (List.Sublist.cons _ (List.Sublist.cons _ List.Sublist.slnil)))))))
 refine mT ?_
 refine fi ?_
 refine fi ?_
 refine fi ?_
 refine bW hh ?_
 intro b1 w1 hh
 refine bW hh ?_
 intro b2 w2 hh
 refine stC hh 1 [_,_] ?_
 intro ws hh
 replace hh : Hp _ (_ :: .blk _ _ [_, _] _ :: _) _ := hh
 refine stC hh 0 [_,_] ?_
 intro ws hh
 replace hh : Hp _ (.blk _ _ [_, _] _ :: _) _ := hh
 refine aI (aa (sr ?_))
 refine bo hh (cs := [_, _, _]) aN.out aA.out (aY rfl (aY rfl (aY rfl bP))) rfl rfl (by decide) (by decide) (by decide) rfl (by decide) ?_
 intro b23 w23 hh
 refine aU (cX [0, 0, 16] _ _ _ (hh.bh (i := 0) rfl) (by decide) (by decide) (by decide)) au.out rfl (by decide) ?_
 rintro e_ w24 ⟨Af2, af2, Bf2, bf2, rfl, h2⟩
 refine ⟨_, rfl, ?_⟩
 replace hh := hh.join h2
 clear h2
 have capf2 := hh.kN (i := 1) rfl
 refine aU (wN [0, 0, 16] [0, 0, 4] [4, 16, 16] Af2 af2 Bf2 bf2 _ (hT.hp hh) (hh.dP (List.mem_of_getElem? (i := 0) rfl) (List.mem_of_getElem? (i := 1) rfl)) capf2 (by decide) (by decide) ⟨by kernel_rfl, by kernel_rfl, by kernel_rfl, by kernel_rfl, by kernel_rfl⟩) au.out rfl (by decide) ?_
 rintro e_ w25 ⟨Ar4, ar4, Br4, br4, Ar5, ar5, Br5, br5, rfl, h2⟩
 refine ⟨_, rfl, ?_⟩
 replace hh := hh.join h2
 clear h2
 replace hh := hh.sub (List.Sublist.cons_cons _ (List.Sublist.cons_cons _ (List.Sublist.cons_cons _ (List.Sublist.cons_cons _ (List.Sublist.cons _ (List.Sublist.cons _ (List.Sublist.cons _ (List.Sublist.cons_cons _ (List.Sublist.cons_cons _ (List.Sublist.cons_cons _ (List.Sublist.cons_cons _ (List.Sublist.cons_cons _ (List.Sublist.cons_cons _ List.Sublist.slnil)))))))))))))
 refine mT ?_
 refine fi ?_
 refine fi ?_
 refine fi ?_
 refine bW hh ?_
 intro b4 w4 hh
 refine bW hh ?_
 intro b5 w5 hh
 refine stC hh 1 [_,_] ?_
 intro ws hh
 replace hh : Hp _ (_ :: .blk _ _ [_, _] _ :: _) _ := hh
 refine stC hh 0 [_,_] ?_
 intro ws hh
 replace hh : Hp _ (.blk _ _ [_, _] _ :: _) _ := hh
 refine aI (aa (sr ?_))
 refine bo hh (cs := [_, _]) aN.out aA.out (aY rfl (aY rfl bP)) rfl rfl (by decide) (by decide) (by decide) rfl (by decide) ?_
 intro b30 w30 hh
 refine aU (cX [0, 4] _ _ _ (hh.bh (i := 0) rfl) (by decide) (by decide) (by decide)) au.out rfl (by decide) ?_
 rintro e_ w31 ⟨Af3, af3, Bf3, bf3, rfl, h2⟩
 refine ⟨_, rfl, ?_⟩
 replace hh := hh.join h2
 clear h2
 have capf3 := hh.kN (i := 1) rfl
 refine bA hh (eG 1 _ (by decide) (by decide)) rfl ?_
 intro w32 hh
 refine bA hh (hsh _) rfl ?_
 intro w33 hh
 refine aU (AW [0, 4] [0, 1] [1, 4] Af3 af3 Bf3 bf3 _ (hT.hp hh) (hh.dP (List.mem_of_getElem? (i := 0) rfl) (List.mem_of_getElem? (i := 1) rfl)) capf3 (by decide) (by decide) ⟨by kernel_rfl, by kernel_rfl, by kernel_rfl, by kernel_rfl, by kernel_rfl⟩) au.out rfl (by decide) ?_
 rintro e_ w34 ⟨Ar7, ar7, Br7, br7, Ar8, ar8, Br8, br8, rfl, h2⟩
 refine ⟨_, rfl, ?_⟩
 replace hh := hh.join h2
 clear h2
 replace hh := hh.sub (List.Sublist.cons_cons _ (List.Sublist.cons_cons _ (List.Sublist.cons_cons _ (List.Sublist.cons_cons _ (List.Sublist.cons _ (List.Sublist.cons _ (List.Sublist.cons _ (List.Sublist.cons_cons _ (List.Sublist.cons_cons _ (List.Sublist.cons_cons _ (List.Sublist.cons_cons _ (List.Sublist.cons_cons _ (List.Sublist.cons_cons _ (List.Sublist.cons_cons _ (List.Sublist.cons_cons _ (List.Sublist.cons_cons _ (List.Sublist.cons_cons _ (List.Sublist.cons_cons _ (List.Sublist.cons_cons _ List.Sublist.slnil)))))))))))))))))))
 refine mT ?_
 refine fi ?_
 refine fi ?_
 refine fi ?_
 refine bW hh ?_
 intro b7 w7 hh
 refine bW hh ?_
 intro b8 w8 hh
 refine stC hh 1 [_,_] ?_
 intro ws hh
 replace hh : Hp _ (_ :: .blk _ _ [_, _] _ :: _) _ := hh
 refine stC hh 0 [_,_] ?_
 intro ws hh
 replace hh : Hp _ (.blk _ _ [_, _] _ :: _) _ := hh
 refine aI (aa (sr ?_))
 refine bo hh (cs := [_, _, _]) aN.out aA.out (aY rfl (aY rfl (aY rfl bP))) rfl rfl (by decide) (by decide) (by decide) rfl (by decide) ?_
 intro b39 w39 hh
 refine aU (cX [0, 0, 16] _ _ _ (hh.bh (i := 0) rfl) (by decide) (by decide) (by decide)) au.out rfl (by decide) ?_
 rintro e_ w40 ⟨Af4, af4, Bf4, bf4, rfl, h2⟩
 refine ⟨_, rfl, ?_⟩
 replace hh := hh.join h2
 clear h2
 have capf4 := hh.kN (i := 1) rfl
 refine bo hh (cs := [_, _]) aN.out aA.out (aY rfl (aY rfl bP)) rfl rfl (by decide) (by decide) (by decide) rfl (by decide) ?_
 intro b41 w41 hh
 refine aU (AA [0, 0, 16] [4, 12, 9] [1, 0] Af4 af4 Bf4 bf4 _ _ _ (hT.hp hh) (hh.dP (List.mem_of_getElem? (i := 1) rfl) (List.mem_of_getElem? (i := 2) rfl)) capf4 (by decide) (by decide) (hh.bh (i := 0) rfl) (by decide) (by decide) ⟨by kernel_rfl, by kernel_rfl, by kernel_rfl⟩) au.out rfl (by decide) ?_
 rintro e_ w42 ⟨Ar10, ar10, Br10, br10, rfl, h2⟩
 refine ⟨_, rfl, ?_⟩
 replace hh := hh.join h2
 clear h2
 replace hh := hh.sub (List.Sublist.cons_cons _ (List.Sublist.cons_cons _ (List.Sublist.cons _ (List.Sublist.cons _ (List.Sublist.cons _ (List.Sublist.cons _ (List.Sublist.cons_cons _ (List.Sublist.cons_cons _ (List.Sublist.cons_cons _ (List.Sublist.cons_cons _ (List.Sublist.cons_cons _ (List.Sublist.cons_cons _ (List.Sublist.cons_cons _ (List.Sublist.cons_cons _ (List.Sublist.cons_cons _ (List.Sublist.cons_cons _ (List.Sublist.cons_cons _ (List.Sublist.cons_cons _ (List.Sublist.cons_cons _ (List.Sublist.cons_cons _ (List.Sublist.cons_cons _ (List.Sublist.cons_cons _ (List.Sublist.cons_cons _ (List.Sublist.cons_cons _ List.Sublist.slnil))))))))))))))))))))))))
 refine mT ?_
 refine fi ?_
 refine fi ?_
 refine bW hh ?_
 intro b10 w10 hh
 refine stC hh 0 [_,_] ?_
 intro ws hh
 replace hh : Hp _ (.blk _ _ [_, _] _ :: _) _ := hh
 refine aI (aa (sr ?_))
 refine bA hh (eG 7 _ (by decide) (by decide)) rfl ?_
 intro w46 hh
 refine bo hh (cs := [_, _, _]) aN.out aA.out (aY (ea rfl) bP) rfl rfl (by decide) (by decide) (by decide) rfl (by decide) ?_
 intro b47 w47 hh
 refine fc [_,_] ?_
 refine aU (uG _ _ _ (hT.hp hh) (hh.bh (i := 0) rfl)) au.out rfl (by decide) ?_
 rintro e_ w49 ⟨rfl, hb_⟩
 refine ⟨_, rfl, ?_⟩
 replace hh := hh.ext hb_
 replace hh := hh.sub (List.Sublist.cons _ (List.Sublist.cons_cons _ (List.Sublist.cons_cons _ (List.Sublist.cons_cons _ (List.Sublist.cons_cons _ (List.Sublist.cons_cons _ (List.Sublist.cons_cons _ (List.Sublist.cons_cons _ (List.Sublist.cons_cons _ (List.Sublist.cons_cons _ (List.Sublist.cons_cons _ (List.Sublist.cons_cons _ (List.Sublist.cons_cons _ (List.Sublist.cons_cons _ (List.Sublist.cons_cons _ (List.Sublist.cons_cons _ (List.Sublist.cons_cons _ (List.Sublist.cons_cons _ (List.Sublist.cons_cons _ (List.Sublist.cons_cons _ (List.Sublist.cons_cons _ (List.Sublist.cons_cons _ List.Sublist.slnil))))))))))))))))))))))
 refine mT ?_
 refine fi ?_
 refine fi ?_
 refine fi ?_
 refine bW hh ?_
 intro b12 w12 hh
 refine bW hh ?_
 intro b13 w13 hh
 refine stC hh 1 [_,_] ?_
 intro ws hh
 replace hh : Hp _ (_ :: .blk _ _ [_, _] _ :: _) _ := hh
 refine stC hh 0 [_,_] ?_
 intro ws hh
 replace hh : Hp _ (.blk _ _ [_, _] _ :: _) _ := hh
 refine aI (aa (ah ?_))
 replace hh := hh.sub (List.Sublist.cons _ (List.Sublist.cons _ (List.Sublist.cons_cons _ (List.Sublist.cons_cons _ (List.Sublist.cons_cons _ (List.Sublist.cons_cons _ (List.Sublist.cons_cons _ (List.Sublist.cons_cons _ (List.Sublist.cons_cons _ (List.Sublist.cons_cons _ (List.Sublist.cons_cons _ (List.Sublist.cons_cons _ (List.Sublist.cons_cons _ (List.Sublist.cons_cons _ (List.Sublist.cons_cons _ (List.Sublist.cons_cons _ (List.Sublist.cons_cons _ (List.Sublist.cons_cons _ (List.Sublist.cons_cons _ (List.Sublist.cons_cons _ (List.Sublist.cons_cons _ (List.Sublist.cons_cons _ (List.Sublist.cons_cons _ List.Sublist.slnil)))))))))))))))))))))))
 refine jT [] [] [0, 0, 2, 7, 15, 31, 31, 95, 255, 511, 1023, 2047, 4095, 8191, 16383, 32767, 32767, 98303, 262143, 524287, 1048575, 2097151, 2097151, 6291455, 16777215, 33554431, 67108863, 134217727, 268435455, 536870911, 1073741823, 2147483647, 2147483647, 6442450943, 17179869183, 34359738367, 68719476735, 137438953471, 137438953471, 412316860415, 1099511627775, 2199023255551, 4398046511103, 8796093022207, 17592186044415, 35184372088831, 70368744177663, 140737488355327, 140737488355327, 422212465065983, 1125899906842623, 2251799813685247, 4503599627370495, 9007199254740991, 18014398509481983, 36028797018963967, 72057594037927935, 144115188075855871, 288230376151711743, 576460752303423487, 1152921504606846975] 50 [[(1, none)], [], [(54, some 1)], [(53, some 0), (55, some 2)], [(56, some 3)], [(2, none), (57, some 4)], [(57, some 4)], [(59, some 6), (57, some 4)], [(58, some 5), (60, some 7), (57, some 4)], [(57, some 4), (61, some 8)], [(62, some 9)], [(3, none), (63, some 10)], [(64, some 11), (63, some 10)], [(63, some 10), (65, some 12)], [(66, some 13)], [(4, none), (67, some 14)], [(67, some 14)], [(69, some 16), (67, some 14)], [(68, some 15), (70, some 17), (67, some 14)], [(67, some 14), (71, some 18)], [(72, some 19)], [(5, none), (73, some 20)], [(73, some 20)], [(75, some 22), (73, some 20)], [(74, some 21), (76, some 23), (73, some 20)], [(73, some 20), (77, some 24)], [(78, some 25)], [(6, none), (79, some 26)], [(80, some 27), (79, some 26)], [(79, some 26), (81, some 28)], [(82, some 29)], [(7, none), (83, some 30)], [(83, some 30)], [(85, some 32), (83, some 30)], [(84, some 31), (86, some 33), (83, some 30)], [(83, some 30), (87, some 34)], [(88, some 35)], [(8, none), (89, some 36)], [(89, some 36)], [(91, some 38), (89, some 36)], [(90, some 37), (92, some 39), (89, some 36)], [(89, some 36), (93, some 40)], [(94, some 41)], [(9, none), (95, some 42)], [(96, some 43), (95, some 42)], [(95, some 42), (97, some 44)], [(98, some 45)], [(10, none), (99, some 46)], [(99, some 46)], [(101, some 48), (99, some 46)]] [(49, 102), (48, 101), (47, 100), (46, 99), (45, 98), (44, 97), (43, 96), (42, 95), (41, 94), (40, 93), (39, 92), (38, 91), (37, 90), (36, 89), (35, 88), (34, 87), (33, 86), (32, 85), (31, 84), (30, 83), (29, 82), (28, 81), (27, 80), (26, 79), (25, 78), (24, 77), (23, 76), (22, 75), (21, 74), (20, 73), (19, 72), (18, 71), (17, 70), (16, 69), (15, 68), (14, 67), (13, 66), (12, 65), (11, 64), (10, 63), (9, 62), (8, 61), (7, 60), (6, 59), (5, 58), (4, 57), (3, 56), (2, 55), (1, 54), (0, 53)] hh mixed (by kernel_rfl) kP rfl (by repeat (first | exact ie | refine gl ?_ | refine ij ?_)) ?_
 refine dJ 16 [_,_] ?_
 refine uV [_,_] ?_
 refine br (i := 2) (dp [0, 2]) (dp.ext) ?_ ?_
 ·intro ρ1 w1 hj hR
  obtain ⟨A54, c54, h54, s54⟩ := hR.1
  exact let ⟨A, c, e1, s1⟩ := hR.1; bM rfl (bH au.out (aH e1 bD)) (cX [0, 2] A c w1 s1 (by decide) (by decide) (by decide)) (fun _ _ ⟨A2, a2, B2, b2, q1, q2⟩ => ⟨_, q1, q2.below, fY [0, 2] A2 a2 B2 b2, rfl, rfl, rfl, q2.dP List.mem_cons_self (List.mem_cons_of_mem _ List.mem_cons_self)⟩)
 refine br (i := 3) (Is (.bool true)) (Is.ext) ?_ ?_
 ·intro ρ1 w1 hj hR
  exact let ⟨g, e1, e2, e3, e4⟩ := hR.2.1; bM rfl (bH au.out (aH (show ρ1 53 = Value.agg (List.toArray _) from hR.1) (aH e1 bD))) (cL (fY [0, 2] Ar1 ar1 Br1 br1) g w1 (hj.hp.dP (List.mem_of_getElem? (i := 20) rfl) (List.mem_of_getElem? (i := 19) rfl)) e4 ⟨e2.symm, e3.symm⟩ (Nat.le_of_ble_eq_true rfl) (Nat.le_of_ble_eq_true rfl)) (fun _ _ ⟨q1, q2⟩ => ⟨_, q1, q2, rfl⟩)
 refine wY ?_
 first | refine dS ?_ | refine dU ?_ | refine dG (dJ 15 [_,_] ?_)
 refine cQ (i := 6) (cs := [_, _]) rfl (fun ρ1 w1 hj hR => (show ρ1 57 = Value.bool _ from hR.1)) aN.out aA.out (fun ρ1 w1 hj hR => (aY rfl (aY rfl bP))) rfl rfl (by decide) (by decide) rfl ?_
 refine br (i := 7) (dp [2, 4]) (dp.ext) ?_ ?_
 ·intro ρ1 w1 hj hR
  obtain ⟨A59, c59, h59, s59⟩ := hR.1
  exact let ⟨A, c, e1, s1⟩ := hR.1; bY rfl (show ρ1 57 = Value.bool _ from hR.2.1) (bM rfl (bH au.out (aH e1 bD)) (cX [2, 4] A c w1 s1 (by decide) (by decide) (by decide)) (fun _ _ ⟨A2, a2, B2, b2, q1, q2⟩ => ⟨_, q1, q2.below, fY [2, 4] A2 a2 B2 b2, rfl, rfl, rfl, q2.dP List.mem_cons_self (List.mem_cons_of_mem _ List.mem_cons_self)⟩))
 refine br (i := 8) (Is (.bool true)) (Is.ext) ?_ ?_
 ·intro ρ1 w1 hj hR
  exact let ⟨g, e1, e2, e3, e4⟩ := hR.2.1; bY rfl (show ρ1 57 = Value.bool _ from hR.2.2.1) (bM rfl (bH au.out (aH (show ρ1 58 = Value.agg (List.toArray _) from hR.1) (aH e1 bD))) (cL (fY [2, 4] Ar2 ar2 Br2 br2) g w1 (hj.hp.dP (List.mem_of_getElem? (i := 17) rfl) (List.mem_of_getElem? (i := 18) rfl)) e4 ⟨e2.symm, e3.symm⟩ (Nat.le_of_ble_eq_true rfl) (Nat.le_of_ble_eq_true rfl)) (fun _ _ ⟨q1, q2⟩ => ⟨_, q1, q2, rfl⟩))
 first | refine yp ?_ | refine dpF ?_
 refine wY ?_
 first | refine dS ?_ | refine dU ?_ | refine dG (dw ?_)
 first | refine dS ?_ | refine dU ?_ | refine dG (zI ?_)
 first | refine yp ?_ | refine dpF ?_
 refine wY ?_
 first | refine dS ?_ | refine dU ?_ | refine dG (dJ 10 [_,_] ?_)
 refine cQ (i := 16) (cs := [_, _, _]) rfl (fun ρ1 w1 hj hR => (show ρ1 67 = Value.bool _ from hR.1)) aN.out aA.out (fun ρ1 w1 hj hR => (aY rfl (aY rfl (aY rfl bP)))) rfl rfl (by decide) (by decide) rfl ?_
 refine br (i := 17) (dp [0, 0, 4]) (dp.ext) ?_ ?_
 ·intro ρ1 w1 hj hR
  obtain ⟨A69, c69, h69, s69⟩ := hR.1
  exact let ⟨A, c, e1, s1⟩ := hR.1; bY rfl (show ρ1 67 = Value.bool _ from hR.2.1) (bM rfl (bH au.out (aH e1 bD)) (cX [0, 0, 4] A c w1 s1 (by decide) (by decide) (by decide)) (fun _ _ ⟨A2, a2, B2, b2, q1, q2⟩ => ⟨_, q1, q2.below, fY [0, 0, 4] A2 a2 B2 b2, rfl, rfl, rfl, q2.dP List.mem_cons_self (List.mem_cons_of_mem _ List.mem_cons_self)⟩))
 refine br (i := 18) (Is (.bool true)) (Is.ext) ?_ ?_
 ·intro ρ1 w1 hj hR
  exact let ⟨g, e1, e2, e3, e4⟩ := hR.2.1; bY rfl (show ρ1 67 = Value.bool _ from hR.2.2.1) (bM rfl (bH au.out (aH (show ρ1 68 = Value.agg (List.toArray _) from hR.1) (aH e1 bD))) (cL (fY [0, 0, 4] Ar4 ar4 Br4 br4) g w1 (hj.hp.dP (List.mem_of_getElem? (i := 14) rfl) (List.mem_of_getElem? (i := 13) rfl)) e4 ⟨e2.symm, e3.symm⟩ (Nat.le_of_ble_eq_true rfl) (Nat.le_of_ble_eq_true rfl)) (fun _ _ ⟨q1, q2⟩ => ⟨_, q1, q2, rfl⟩))
 first | refine yp ?_ | refine dpF ?_
 refine wY ?_
 first | refine dS ?_ | refine dU ?_ | refine dG (dJ 9 [_,_] ?_)
 refine cQ (i := 22) (cs := [_, _, _]) rfl (fun ρ1 w1 hj hR => (show ρ1 73 = Value.bool _ from hR.1)) aN.out aA.out (fun ρ1 w1 hj hR => (aY rfl (aY rfl (aY rfl bP)))) rfl rfl (by decide) (by decide) rfl ?_
 refine br (i := 23) (dp [4, 16, 16]) (dp.ext) ?_ ?_
 ·intro ρ1 w1 hj hR
  obtain ⟨A75, c75, h75, s75⟩ := hR.1
  exact let ⟨A, c, e1, s1⟩ := hR.1; bY rfl (show ρ1 73 = Value.bool _ from hR.2.1) (bM rfl (bH au.out (aH e1 bD)) (cX [4, 16, 16] A c w1 s1 (by decide) (by decide) (by decide)) (fun _ _ ⟨A2, a2, B2, b2, q1, q2⟩ => ⟨_, q1, q2.below, fY [4, 16, 16] A2 a2 B2 b2, rfl, rfl, rfl, q2.dP List.mem_cons_self (List.mem_cons_of_mem _ List.mem_cons_self)⟩))
 refine br (i := 24) (Is (.bool true)) (Is.ext) ?_ ?_
 ·intro ρ1 w1 hj hR
  exact let ⟨g, e1, e2, e3, e4⟩ := hR.2.1; bY rfl (show ρ1 73 = Value.bool _ from hR.2.2.1) (bM rfl (bH au.out (aH (show ρ1 74 = Value.agg (List.toArray _) from hR.1) (aH e1 bD))) (cL (fY [4, 16, 16] Ar5 ar5 Br5 br5) g w1 (hj.hp.dP (List.mem_of_getElem? (i := 11) rfl) (List.mem_of_getElem? (i := 12) rfl)) e4 ⟨e2.symm, e3.symm⟩ (Nat.le_of_ble_eq_true rfl) (Nat.le_of_ble_eq_true rfl)) (fun _ _ ⟨q1, q2⟩ => ⟨_, q1, q2, rfl⟩))
 first | refine yp ?_ | refine dpF ?_
 refine wY ?_
 first | refine dS ?_ | refine dU ?_ | refine dG (dw ?_)
 first | refine dS ?_ | refine dU ?_ | refine dG (zI ?_)
 first | refine yp ?_ | refine dpF ?_
 refine wY ?_
 first | refine dS ?_ | refine dU ?_ | refine dG (dJ 4 [_,_] ?_)
 refine cQ (i := 32) (cs := [_, _]) rfl (fun ρ1 w1 hj hR => (show ρ1 83 = Value.bool _ from hR.1)) aN.out aA.out (fun ρ1 w1 hj hR => (aY rfl (aY rfl bP))) rfl rfl (by decide) (by decide) rfl ?_
 refine br (i := 33) (dp [0, 1]) (dp.ext) ?_ ?_
 ·intro ρ1 w1 hj hR
  obtain ⟨A85, c85, h85, s85⟩ := hR.1
  exact let ⟨A, c, e1, s1⟩ := hR.1; bY rfl (show ρ1 83 = Value.bool _ from hR.2.1) (bM rfl (bH au.out (aH e1 bD)) (cX [0, 1] A c w1 s1 (by decide) (by decide) (by decide)) (fun _ _ ⟨A2, a2, B2, b2, q1, q2⟩ => ⟨_, q1, q2.below, fY [0, 1] A2 a2 B2 b2, rfl, rfl, rfl, q2.dP List.mem_cons_self (List.mem_cons_of_mem _ List.mem_cons_self)⟩))
 refine br (i := 34) (Is (.bool true)) (Is.ext) ?_ ?_
 ·intro ρ1 w1 hj hR
  exact let ⟨g, e1, e2, e3, e4⟩ := hR.2.1; bY rfl (show ρ1 83 = Value.bool _ from hR.2.2.1) (bM rfl (bH au.out (aH (show ρ1 84 = Value.agg (List.toArray _) from hR.1) (aH e1 bD))) (cL (fY [0, 1] Ar7 ar7 Br7 br7) g w1 (hj.hp.dP (List.mem_of_getElem? (i := 8) rfl) (List.mem_of_getElem? (i := 7) rfl)) e4 ⟨e2.symm, e3.symm⟩ (Nat.le_of_ble_eq_true rfl) (Nat.le_of_ble_eq_true rfl)) (fun _ _ ⟨q1, q2⟩ => ⟨_, q1, q2, rfl⟩))
 first | refine yp ?_ | refine dpF ?_
 refine wY ?_
 first | refine dS ?_ | refine dU ?_ | refine dG (dJ 3 [_,_] ?_)
 refine cQ (i := 38) (cs := [_, _]) rfl (fun ρ1 w1 hj hR => (show ρ1 89 = Value.bool _ from hR.1)) aN.out aA.out (fun ρ1 w1 hj hR => (aY rfl (aY rfl bP))) rfl rfl (by decide) (by decide) rfl ?_
 refine br (i := 39) (dp [1, 4]) (dp.ext) ?_ ?_
 ·intro ρ1 w1 hj hR
  obtain ⟨A91, c91, h91, s91⟩ := hR.1
  exact let ⟨A, c, e1, s1⟩ := hR.1; bY rfl (show ρ1 89 = Value.bool _ from hR.2.1) (bM rfl (bH au.out (aH e1 bD)) (cX [1, 4] A c w1 s1 (by decide) (by decide) (by decide)) (fun _ _ ⟨A2, a2, B2, b2, q1, q2⟩ => ⟨_, q1, q2.below, fY [1, 4] A2 a2 B2 b2, rfl, rfl, rfl, q2.dP List.mem_cons_self (List.mem_cons_of_mem _ List.mem_cons_self)⟩))
 refine br (i := 40) (Is (.bool true)) (Is.ext) ?_ ?_
 ·intro ρ1 w1 hj hR
  exact let ⟨g, e1, e2, e3, e4⟩ := hR.2.1; bY rfl (show ρ1 89 = Value.bool _ from hR.2.2.1) (bM rfl (bH au.out (aH (show ρ1 90 = Value.agg (List.toArray _) from hR.1) (aH e1 bD))) (cL (fY [1, 4] Ar8 ar8 Br8 br8) g w1 (hj.hp.dP (List.mem_of_getElem? (i := 5) rfl) (List.mem_of_getElem? (i := 6) rfl)) e4 ⟨e2.symm, e3.symm⟩ (Nat.le_of_ble_eq_true rfl) (Nat.le_of_ble_eq_true rfl)) (fun _ _ ⟨q1, q2⟩ => ⟨_, q1, q2, rfl⟩))
 first | refine yp ?_ | refine dpF ?_
 refine wY ?_
 first | refine dS ?_ | refine dU ?_ | refine dG (dw ?_)
 first | refine dS ?_ | refine dU ?_ | refine dG (zI ?_)
 first | refine yp ?_ | refine dpF ?_
 refine wY ?_
 first | refine dS ?_ | refine dU ?_ | refine dG (dJ 0 [_,_] ?_)
 refine cQ (i := 48) (cs := [_, _, _]) rfl (fun ρ1 w1 hj hR => (show ρ1 99 = Value.bool _ from hR.1)) aN.out aA.out (fun ρ1 w1 hj hR => (aY rfl (aY rfl (aY rfl bP)))) rfl rfl (by decide) (by decide) rfl ?_
 refine br (i := 49) (dp [4, 12, 9]) (dp.ext) ?_ ?_
 ·intro ρ1 w1 hj hR
  obtain ⟨A101, c101, h101, s101⟩ := hR.1
  exact let ⟨A, c, e1, s1⟩ := hR.1; bY rfl (show ρ1 99 = Value.bool _ from hR.2.1) (bM rfl (bH au.out (aH e1 bD)) (cX [4, 12, 9] A c w1 s1 (by decide) (by decide) (by decide)) (fun _ _ ⟨A2, a2, B2, b2, q1, q2⟩ => ⟨_, q1, q2.below, fY [4, 12, 9] A2 a2 B2 b2, rfl, rfl, rfl, q2.dP List.mem_cons_self (List.mem_cons_of_mem _ List.mem_cons_self)⟩))
 refine aX ?_
 intro f W hJ hV _
 have hb_6 := hJ.bl
 obtain ⟨v102, v101, v100, v99, v98, v97, v96, v95, v94, v93, v92, v91, v90, v89, v88, v87, v86, v85, v84, v83, v82, v81, v80, v79, v78, v77, v76, v75, v74, v73, v72, v71, v70, v69, v68, v67, v66, v65, v64, v63, v62, v61, v60, v59, v58, v57, v56, v55, v54, v53, _⟩ := hV
 obtain ⟨A54, c54, e54, f54⟩ : Rows _ _ _ (f 1) W := v54
 obtain ⟨g55, e55, o55⟩ : dp [0, 2] (f 2) W := v55
 obtain ⟨A59, c59, e59, f59⟩ : Rows _ _ _ (f 6) W := v59
 obtain ⟨g60, e60, o60⟩ : dp [2, 4] (f 7) W := v60
 obtain ⟨A69, c69, e69, f69⟩ : Rows _ _ _ (f 16) W := v69
 obtain ⟨g70, e70, o70⟩ : dp [0, 0, 4] (f 17) W := v70
 obtain ⟨A75, c75, e75, f75⟩ : Rows _ _ _ (f 22) W := v75
 obtain ⟨g76, e76, o76⟩ : dp [4, 16, 16] (f 23) W := v76
 obtain ⟨A85, c85, e85, f85⟩ : Rows _ _ _ (f 32) W := v85
 obtain ⟨g86, e86, o86⟩ : dp [0, 1] (f 33) W := v86
 obtain ⟨A91, c91, e91, f91⟩ : Rows _ _ _ (f 38) W := v91
 obtain ⟨g92, e92, o92⟩ : dp [1, 4] (f 39) W := v92
 obtain ⟨A101, c101, e101, f101⟩ : Rows _ _ _ (f 48) W := v101
 obtain ⟨g102, e102, o102⟩ : dp [4, 12, 9] (f 49) W := v102
 replace hh := hJ.hp
 refine aK (aZ (ae e102 (ae e101 (ae v100 (ae v99 (ae v98 (ae v97 (ae v96 (ae v95 (ae v94 (ae v93 (ae e92 (ae e91 (ae v90 (ae v89 (ae v88 (ae v87 (ae e86 (ae e85 (ae v84 (ae v83 (ae v82 (ae v81 (ae v80 (ae v79 (ae v78 (ae v77 (ae e76 (ae e75 (ae v74 (ae v73 (ae v72 (ae v71 (ae e70 (ae e69 (ae v68 (ae v67 (ae v66 (ae v65 (ae v64 (ae v63 (ae v62 (ae v61 (ae e60 (ae e59 (ae v58 (ae v57 (ae v56 (ae e55 (ae e54 (ae v53 aM))))))))))))))))))))))))))))))))))))))))))))))))))) ?_
 dsimp only [bQ]
 clear e54 e55 e59 e60 e69 e70 e75 e76 e85 e86 e91 e92 e101 e102 hJ
 refine bg rfl rfl ?_
 refine bA hh (cL (fY [4, 12, 9] Ar10 ar10 Br10 br10) g102 _ (hh.dP (List.mem_of_getElem? (i := 1) rfl) (List.mem_of_getElem? (i := 2) rfl)) o102.2.2 ⟨o102.1.symm, o102.2.1.symm⟩ (Nat.le_of_ble_eq_true rfl) (Nat.le_of_ble_eq_true rfl)) rfl ?_
 intro w103 hh
 first | refine cW ?_ | refine cZ ?_
 refine mB ?_
 first | refine gS ?_ | (refine gT ?_; refine mI ?_) | refine gV ?_
 first | refine gS ?_ | (refine gT ?_; refine cV ?_) | refine gV ?_
 first | refine cW ?_ | refine cZ ?_
 refine mB ?_
 first | refine gS ?_ | (refine gT ?_; refine mI ?_) | refine gV ?_
 first | refine gS ?_ | (refine gT ?_; refine cV ?_) | refine gV ?_
 first | refine cW ?_ | refine cZ ?_
 refine aB (aa (ao ?_))
 refine cw ?_
 exact ⟨rfl, hh.below⟩
end Go.Proofs.YtioilmppidlbnaaGreatDoor
/- What a call hands back stays, whatever is written to one's own blocks. Plain lemmas, no program in sight. -/
namespace Go.Proofs.YtioilmppidlbnaaGreatDoor
open Go.RowKit
theorem uS {W ws : World} {a : Addr} (h : ws.heap[a.block]? = W.heap[a.block]?) : ws.cell? a = W.cell? a := by
 unfold World.cell?
 rw [h]
theorem Sl.same {W ws : World} {A : Option Addr} {n k : Nat} {xs : List Value} (h : Sl W A n k xs) (hb : ∀ a, A = some a → 0 < n → ws.heap[a.block]? = W.heap[a.block]?) : Sl ws A n k xs := by
 refine ⟨h.1, fun hn => ?_⟩
 obtain ⟨ad, e, r⟩ := h.2 hn
 refine ⟨ad, e, fun j u hj => ?_⟩
 exact (uS (W := W) (ws := ws) (a := ad.add j) (by rw [sk]; exact hb ad e hn)).trans (r j u hj)
theorem Hp.zJ {w0 w1 W : World} {H : List HE} {x y : HE} {b c : Nat} (hs : Hp w0 H w1) (hh : Hp w0 (x :: y :: H) W) (hx : x.id = some b) (hy : y.id = some c) :
  ∃ O : List HE, Hp w0 (x :: y :: (H ++ O)) W ∧ ∀ k o, w1.heap.size ≤ k → k ≠ b → k ≠ c → W.heap[k]? = some o → HE.ob k o ∈ O := by
 refine ⟨rC w0.heap.size ((x :: y :: H).filterMap HE.id) W, hh.tH, fun k o h1 h2 h3 h4 => ?_⟩
 have hk := (Array.getElem?_eq_some_iff.1 h4).1
 have hn : k ∉ (x :: y :: H).filterMap HE.id := fun hm => by
  obtain ⟨z, hz, hz2⟩ := List.mem_filterMap.1 hm
  rcases List.mem_cons.1 hz with rfl | hz
  ·rw [hx] at hz2; exact h2 (Option.some.inj hz2).symm
  ·rcases List.mem_cons.1 hz with rfl | hz
   ·rw [hy] at hz2; exact h3 (Option.some.inj hz2).symm
   ·have := (df (hs.own z hz) hz2).2
    omega
 unfold rC
 refine List.mem_filterMap.2 ⟨k, List.mem_range.2 hk, ?_⟩
 unfold wj
 rw [if_pos ⟨Nat.le_trans hs.size h1, by simpa using hn⟩, h4]
 rfl
theorem FX.Al {g : FX} {w0 w2 W ws : World} {O H : List HE} {b c base : Nat} (hg : Hp w2 [g.fk, g.eX] W) (hbase : base ≤ w2.heap.size) (hO : ∀ k o, base ≤ k → k ≠ b → k ≠ c → W.heap[k]? = some o → HE.ob k o ∈ O)
  (hb : ∀ x ∈ [g.fk, g.eX], x.id ≠ some b) (hc : ∀ x ∈ [g.fk, g.eX], x.id ≠ some c) (hh : Hp w0 H ws) (hs : ∀ x ∈ O, x ∈ H) : g.at_ ws := by
 have key : ∀ x ∈ [g.fk, g.eX], ∀ k, x.id = some k → ws.heap[k]? = W.heap[k]? := fun x hx k hk => by
  have h1 := df (hg.own x hx) hk
  have h2 := hh.own (.ob k W.heap[k]) (hs _ (hO k _ (by omega) (fun e => hb x hx (e ▸ hk)) (fun e => hc x hx (e ▸ hk)) (Array.getElem?_eq_getElem h1.2)))
  rw [h2.2, Array.getElem?_eq_getElem h1.2]
 have hat := hg.dP List.mem_cons_self (List.mem_cons_of_mem _ List.mem_cons_self)
 refine ⟨hat.dg.same fun a ha hn => key g.eX (List.mem_cons_of_mem _ List.mem_cons_self) a.block ?_, hat.nm.same fun a ha hn => key g.fk List.mem_cons_self a.block ?_⟩
 ·show (g.A.map (·.block)) = _
  rw [ha]; rfl
 ·show (g.B.map (·.block)) = _
  rw [ha]; rfl
end Go.Proofs.YtioilmppidlbnaaGreatDoor
/- The walk through the law CastCuts. -/
namespace Go.Proofs.YtioilmppidlbnaaGreatDoor
open Go.RowKit
theorem vn.cap {g : FX} {R : List HE} {w w' : World} (h : vn R g) (hh : Hp w R w') : g.n ≤ g.a := by
 rcases h with rfl | ⟨_, rfl⟩
 ·exact hh.kN (i := 1) rfl
 ·exact hh.kN (i := 0) rfl
def iP (base : Nat) (E : Int) (D : List Nat) (ys : List Dyadic) : VP := fun v W => ∃ g : FX, v = .agg #[.slice g.A g.n g.a, .slice g.B g.m g.b] ∧ Out E D ys g ∧ ∃ w2 : World, base ≤ w2.heap.size ∧ Hp w2 [g.fk, g.eX] W
theorem iP.ext {base : Nat} {E : Int} {D : List Nat} {ys : List Dyadic} (v : Value) (w w' : World) (h : iP base E D ys v w) (hb : Below w.heap.size w w') : iP base E D ys v w' := let ⟨g, h1, h2, w2, h3, h4⟩ := h; ⟨g, h1, h2, w2, h3, h4.ext hb⟩
def na (base : Nat) (E : Int) (D : List Nat) (ys zs : List Dyadic) : VP := fun v W => ∃ g h : FX, v = .tuple #[.agg #[.slice g.A g.n g.a, .slice g.B g.m g.b], .agg #[.slice h.A h.n h.a, .slice h.B h.m h.b], .int .i64 E] ∧ Out E D ys g ∧ Out E D zs h ∧ ∃ w2 : World, base ≤ w2.heap.size ∧ Hp w2 [h.fk, h.eX, g.eX, g.fk] W
theorem na.ext {base : Nat} {E : Int} {D : List Nat} {ys zs : List Dyadic} (v : Value) (w w' : World) (h : na base E D ys zs v w) (hb : Below w.heap.size w w') : na base E D ys zs v w' := let ⟨g, h, h1, h2, h3, w2, h4, h5⟩ := h; ⟨g, h, h1, h2, h3, w2, h4, h5.ext hb⟩
theorem ub {f : FX} (h : f.pN) (h0 : f.e = 0) : ∀ d ∈ f.ns, d ≤ 6 := fun d hd => by
 obtain ⟨hdeg, -, -, hlow, -, -⟩ := FX.fv h0
 have h1 := hlow d hd
 have h2 := h.2.2.2 (d : Int) (by rw [hdeg]; unfold bK; exact List.mem_map_of_mem hd)
 omega
theorem vg {c : NR} (h : n6 c = false) : lT 125 c c.d ∧ Sz 125 (1 - c.d) := by
 have h' := of_decide_eq_false h
 obtain ⟨h1, h2⟩ := zM h
 exact ⟨⟨h1, by omega, rfl, h2.mono (by omega)⟩, (Sz.one.mono (show 1 ≤ 124 by omega)).sub h2⟩
theorem qD {f : FX} (h : f.pN) (k q : Nat) (hk : k + 120 * (260 + 2 * (q * 6)) ≤ 300000) : f.e = 0 → ∀ d ∈ f.ns, k + f.m * (260 + 2 * (q * d)) ≤ 300000 := fun h0 d hd => by
 have h1 : q * d ≤ q * 6 := Nat.mul_le_mul_left _ (ub h h0 d hd)
 have h2 : f.m * (260 + 2 * (q * d)) ≤ 120 * (260 + 2 * (q * 6)) := Nat.mul_le_mul h.2.1 (by omega)
 omega
theorem nI (fa : FX) (ax : Int) (c : NR) (w : World) (hT : fL w) (hf : fa.at_ w) :
  Calls Tryz.prog 7 #[.agg #[.slice fa.A fa.n fa.a, .slice fa.B fa.m fa.b], .int .i64 ax, .agg #[.bool c.neg, .string c.bj, .int .i64 c.e]] w fun r w' => r = .returned (.bool true) ∧ Below w.heap.size w w' := by
 have hh := Hp.start w
 refine aj (N := 102) (l := [.agg #[.slice fa.A fa.n fa.a, .slice fa.B fa.m fa.b], .int .i64 ax, .agg #[.bool c.neg, .string c.bj, .int .i64 c.e]]) Tryz.func7 rfl rfl (by simp) ?_
 refine sr ?_
 refine cj hh [_,_] ?_
 intro b3 w3 hh
 refine cj hh [_,_,_] ?_
 intro b5 w5 hh
 refine aB (aa (ah (sr ?_)))
 refine cJ hh 1 [_,_] ?_
 refine aU (po fa _ (hf.ext hh.below)) au.out rfl (by decide) ?_
 rintro e_ w21 ⟨p1, rfl, hs, hb_⟩
 refine ⟨_, rfl, ?_⟩
 replace hh := hh.ext hb_
 cases p1 with
 | true =>
  refine mB ?_
  first | refine gS ?_ | (refine gT ?_; refine cJ hh 0 [_,_,_] ?_) | refine gV ?_
  first | refine cz (by decide) rfl rfl (by decide) ?_ | refine wl_guard_skipV (by decide) rfl rfl ?_
  first | refine cW ?_ | refine cZ ?_
  refine aa (cT (sr ?_))
  refine bA hh (iQ _ (hT.hp hh)) rfl ?_
  intro w26 hh
  refine aB (aa (ao (aQ ?_)))
  refine cw ?_
  exact ⟨rfl, hh.below⟩
 | false =>
  have hs := hs rfl
  have hfc := fun w1 => nz c w1
  refine mB ?_
  first | refine gS ?_ | (refine gT ?_; refine cJ hh 0 [_,_,_] ?_) | refine gV ?_
  cases hfr : n6 c with
  | true =>
   rw [hfr] at hfc
   refine bg rfl rfl ?_
   refine bA hh (hfc _) rfl ?_
   intro w24 hh
   first | refine cW ?_ | refine cZ ?_
   refine aa (cT (sr ?_))
   refine bA hh (iQ _ (hT.hp hh)) rfl ?_
   intro w26 hh
   refine aB (aa (ao (aQ ?_)))
   refine cw ?_
   exact ⟨rfl, hh.below⟩
  | false =>
   rw [hfr] at hfc
   obtain ⟨vs, hs1⟩ := vg hfr
   obtain ⟨hsl, hsm, hsn, hsd⟩ := id hs
   refine bg rfl rfl ?_
   refine bA hh (hfc _) rfl ?_
   intro w24 hh
   first | refine cW ?_ | refine cZ ?_
   refine aa (cF (ak (ai (sr ?_))))
   refine cJ hh 1 [_,_] ?_
   refine aU (zY fa _ (hf.ext hh.below) (by omega) (by omega)) au.out rfl (by decide) ?_
   rintro e_ w28 ⟨o, R, d1, d2, d3, d4, rfl, hmi, h2⟩
   refine ⟨_, rfl, ?_⟩
   have hcap := hmi.cap h2
   replace hh : Hp w (_ :: _ :: R) _ := (hh.join h2).perm List.perm_append_comm
   clear h2
   have hol : o.cs.length = o.m := by rw [d2, d4]; exact hf.ln.2
   have ol : o.rv 124 := ⟨by rw [d3]; omega, by rw [d4]; omega, by rw [d2]; exact hsl.num⟩
   have hon : o.n ≤ 100000 := by omega
   have q1 : o.e = fa.e := by unfold FX.e; rw [d1, d2]
   have q2 : o.ns = fa.ns := by unfold FX.ns; rw [d1]
   have q3 : dN o ax = dN fa ax := by unfold dN; rw [q1, d3]
   have hk1 := qD hs 124 125 (by decide)
   have hk2 := qD hs 124 2 (by decide)
   rw [← q1, ← q2, ← d4] at hk1 hk2
   have hcut := fun w1 hT1 ho => vp o ax c c.d 124 125 w1 hT1 ho ol hcap vs hs1 (by decide) hk1
   have hhv := fun w1 hT1 ho => rh o ax 124 2 w1 hT1 ho ol hcap gp.1 gp.2 (by decide) hk2
   have hrc := fun w1 hb => wJ fa ax c c.d 124 125 w1 (hf.ext hb) hsl vs hs1 (by decide) (by decide)
   have hrh := fun w1 hb => wJ fa ax (nR (cg (-1))) (cg (-1)) 124 2 w1 (hf.ext hb) hsl (lT.of gp.1 (by decide)) gp.2 (by decide) (by decide)
   rw [q3, q2, d2] at hcut hhv
   clear hk1 hk2 q1 q2 q3 hs
   generalize dN fa ax = E at *
   generalize eL false c.d fa.ns ax.toNat (fa.cs.map NR.d) = y0 at *
   generalize eL true c.d fa.ns ax.toNat (fa.cs.map NR.d) = y1 at *
   generalize eL false (cg (-1)) fa.ns ax.toNat (fa.cs.map NR.d) = z0 at *
   generalize eL true (cg (-1)) fa.ns ax.toNat (fa.cs.map NR.d) = z1 at *
   generalize fa.ns = D at *
   refine bW hh ?_
   intro b7 w7 hh
   refine stC hh 0 [_,_] ?_
   intro ws hh
   replace hh : Hp _ (.blk _ _ [_, _] _ :: _) _ := hh
   refine aa (sr ?_)
   refine cJ hh 0 [_,_] (mI ?_)
   refine cJ hh 1 [_,_,_] ?_
   refine aU (hcut _ (hT.hp hh) (hmi.at_ hol (fun x hx => by simp [hx]) hh)) au.out rfl (by decide) ?_
   rintro e_ w33 ⟨g1, h1, o1, p1, rfl, h2⟩
   refine ⟨_, rfl, ?_⟩
   replace hh := hh.join h2
   simp only [List.cons_append, List.nil_append] at hh
   clear h2
   refine mT ?_
   refine fi ?_
   refine fi ?_
   refine fi ?_
   refine bW hh ?_
   intro b8 w8 hh
   refine bW hh ?_
   intro b9 w9 hh
   refine stC hh 1 [_,_] ?_
   intro ws hh
   replace hh : Hp _ (_ :: .blk _ _ [_, _] _ :: _) _ := hh
   refine stC hh 0 [_,_] ?_
   intro ws hh
   replace hh : Hp _ (.blk _ _ [_, _] _ :: _) _ := hh
   refine aI (aa (sr ?_))
   refine cJ hh 8 [_,_] (mI ?_)
   refine cJ hh 7 [_,_,_] ?_
   refine aU (hrc _ hh.below) au.out rfl (by decide) ?_
   rintro e_ w41 ⟨g2, h2', o2, p2, rfl, h2⟩
   refine ⟨_, rfl, ?_⟩
   replace hh := hh.join h2
   simp only [List.cons_append, List.nil_append] at hh
   clear h2
   refine mT ?_
   refine fi ?_
   refine fi ?_
   refine fi ?_
   refine bW hh ?_
   intro b11 w11 hh
   refine bW hh ?_
   intro b12 w12 hh
   refine stC hh 1 [_,_] ?_
   intro ws hh
   replace hh : Hp _ (_ :: .blk _ _ [_, _] _ :: _) _ := hh
   refine stC hh 0 [_,_] ?_
   intro ws hh
   replace hh : Hp _ (.blk _ _ [_, _] _ :: _) _ := hh
   refine aI (aa (sr ?_))
   refine cJ hh 12 [_,_] (mI ?_)
   refine aU (hhv _ (hT.hp hh) (hmi.at_ hol (fun x hx => by simp [hx]) hh)) au.out rfl (by decide) ?_
   rintro e_ w48 ⟨g3, h3, o3, p3, rfl, h2⟩
   refine ⟨_, rfl, ?_⟩
   replace hh := hh.join h2
   simp only [List.cons_append, List.nil_append] at hh
   clear h2
   refine mT ?_
   refine fi ?_
   refine fi ?_
   refine fi ?_
   refine bW hh ?_
   intro b14 w14 hh
   refine bW hh ?_
   intro b15 w15 hh
   refine stC hh 1 [_,_] ?_
   intro ws hh
   replace hh : Hp _ (_ :: .blk _ _ [_, _] _ :: _) _ := hh
   refine stC hh 0 [_,_] ?_
   intro ws hh
   replace hh : Hp _ (.blk _ _ [_, _] _ :: _) _ := hh
   refine aI (aa (ah ?_))
   have hpre := hh
   refine jT [8, 9] [6, 7] [0, 0, 0, 7, 15, 31, 31, 31, 0, 0, 831, 1919, 4095] 10 [[(3, none)], [(1, none)], [], [(53, some 0), (54, some 1), (55, some 2)], [(56, some 3)], [(52, some 4)], [(52, some 4)], [(52, some 4)], [], []] [(9, 18), (8, 17), (7, 59), (6, 58), (5, 57), (4, 52), (3, 56), (2, 55), (1, 54), (0, 53)] hh mixed (by kernel_rfl) (oy rfl aA.out (oy rfl aA.out kP)) rfl (by repeat (first | exact ie | refine gl ?_ | refine ij ?_)) ?_
   refine dJ 20 [_,_] ?_
   refine dw ?_
   refine dC (fun _ hj => qB _) ?_
   refine br (i := 3) (na hh.sz E D z0 z1) (na.ext) ?_ ?_
   ·intro ρ1 w1 hj hR
    exact bM rfl (bH au.out (aH (show ρ1 53 = Value.agg _ from hR.1) (aH (show ρ1 54 = Value.int _ _ from hR.2.1) (aH (show ρ1 55 = Value.agg _ from hR.2.2.1) bD)))) (hrh _ hj.hp.below) (fun _ _ ⟨g, h, q1, q2, q3, q4⟩ => ⟨_, q3, q4.below, g, h, rfl, q1, q2, _, hj.bl.size, q4⟩)
   refine br (i := 4) (na hh.sz E D z0 z1) (na.ext) ?_ ?_
   ·intro ρ1 w1 hj hR
    exact let ⟨g, h, e1, e2⟩ := hR.1; fj rfl (kf e1) ⟨Below.refl _ _, g, h, rfl, e2⟩
   refine br (i := 5) (iP hh.sz E D z0) (iP.ext) ?_ ?_
   ·intro ρ1 w1 hj hR
    exact let ⟨g, h, e1, e2⟩ := hR.1; fj rfl (ec (vs := [_, _, _]) e1 rfl) (let ⟨o1, _, w2, q1, q2⟩ := e2; ⟨Below.refl _ _, g, rfl, o1, w2, q1, (q2.sub (.cons _ (.cons _ (List.Sublist.refl _)))).perm (List.Perm.swap _ _ _)⟩)
   refine br (i := 6) (iP hh.sz E D z1) (iP.ext) ?_ ?_
   ·intro ρ1 w1 hj hR
    exact let ⟨g, h, e1, e2⟩ := hR.1; fj rfl (ec (vs := [_, _, _]) e1 rfl) (let ⟨_, o1, w2, q1, q2⟩ := e2; ⟨Below.refl _ _, h, rfl, o1, w2, q1, q2.sub (List.sublist_append_left [_, _] _)⟩)
   refine br (i := 7) (Is (.int .i64 E)) (Is.ext) ?_ ?_
   ·intro ρ1 w1 hj hR
    exact let ⟨g, h, e1, e2⟩ := hR.1; fj rfl (ec (vs := [_, _, _]) e1 rfl) ⟨Below.refl _ _, rfl⟩
   refine br (i := 8) (bE _ 28 _) bE.ext (fun ρ1 w1 hj hR => db aA.out hj.bl (fun v w2 h hb => ⟨hb, h⟩)) ?_
   refine br (i := 9) (bE _ 28 _) bE.ext (fun ρ1 w1 hj hR => db aA.out hj.bl (fun v w2 h hb => ⟨hb, h⟩)) ?_
   refine aX ?_
   intro f W hJ hV hD
   have hb_7 := hJ.bl
   obtain ⟨v18, v17, v59, v58, v57, v52, v56, v55, v54, v53, _⟩ := hV
   obtain ⟨g56, u56, e56, -⟩ := v56
   obtain ⟨g52, u52, e52, -⟩ := v52
   obtain ⟨g57, e57, o57⟩ : iP hh.sz E D z0 (f 5) W := v57
   obtain ⟨g58, e58, o58⟩ : iP hh.sz E D z1 (f 6) W := v58
   obtain ⟨b17, e17, hl17, hc17⟩ : bE _ _ _ (f 8) W := v17
   obtain ⟨b18, e18, hl18, hc18⟩ : bE _ _ _ (f 9) W := v18
   have hne := yU hD (i := 8) (j := 9) (by decide) (by decide) (by decide) e17 e18
   replace hh := hJ.xP hh hl17 hc17 hl18 hc18 hne
   clear hD hne
   refine aK (aZ (ae e18 (ae e17 (ae v59 (ae e58 (ae e57 (ae e52 (ae e56 (ae v55 (ae v54 (ae v53 aM))))))))))) ?_
   dsimp only [bQ]
   clear e56 e52 e57 e58 e17 e18 hJ
   obtain ⟨o57, w57, s57, t57⟩ := o57
   obtain ⟨o58, w58, s58, t58⟩ := o58
   have n17 := (hh.own _ (List.mem_of_getElem? (i := 1) rfl)).2.1
   have n18 := (hh.own _ (List.mem_of_getElem? (i := 0) rfl)).2.1
   obtain ⟨O, hh, hO⟩ := Hp.zJ hpre hh rfl rfl
   simp only [List.cons_append] at hh
   have st57 := fun (H : List HE) (ws : World) (h1 : Hp w H ws) (h2 : ∀ x ∈ O, x ∈ H) => FX.Al t57 s57 hO (FX.ne t57 n18 (by decide) (by decide)) (FX.ne t57 n17 (by decide) (by decide)) h1 h2
   have st58 := fun (H : List HE) (ws : World) (h1 : Hp w H ws) (h2 : ∀ x ∈ O, x ∈ H) => FX.Al t58 s58 hO (FX.ne t58 n18 (by decide) (by decide)) (FX.ne t58 n17 (by decide) (by decide)) h1 h2
   clear hO hpre
   refine stC hh 1 [_,_] ?_
   intro ws hh
   replace hh : Hp _ (_ :: .blk _ _ [_, _] _ :: _) _ := hh
   refine stC hh 0 [_,_] ?_
   intro ws hh
   replace hh : Hp _ (.blk _ _ [_, _] _ :: _) _ := hh
   refine aI (aa (ah (sr (mI (mI ?_)))))
   refine fW (mB ?_)
   first | refine gS ?_ | (refine gT ?_; refine mI ?_) | refine gV ?_
   first | refine gS ?_ | (refine gT ?_; refine mI ?_) | refine gV ?_
   first | refine gS ?_ | (refine gT ?_; refine fW ?_) | refine gV ?_
   first | refine cW ?_ | refine cZ ?_
   refine mB ?_
   first | refine gS ?_ | (refine gT ?_; refine cJ hh 15 [_,_] ?_) | refine gV ?_
   first | refine gS ?_ | (refine gT ?_; refine cJ hh 9 [_,_] ?_) | refine gV ?_
   refine bg rfl rfl ?_
   refine bA hh (cL g1 g2 _ (hh.dP (List.mem_of_getElem? (i := 19) rfl) (List.mem_of_getElem? (i := 18) rfl)) (hh.dP (List.mem_of_getElem? (i := 13) rfl) (List.mem_of_getElem? (i := 12) rfl)) (o1.same o2) o1.n o1.m) rfl ?_
   intro w71 hh
   first | refine gS ?_ | (refine gT ?_; refine mG ?_) | refine gV ?_
   first | refine cW ?_ | refine cZ ?_
   refine mB ?_
   first | refine gS ?_ | (refine gT ?_; refine cJ hh 14 [_,_] ?_) | refine gV ?_
   first | refine gS ?_ | (refine gT ?_; refine cJ hh 8 [_,_] ?_) | refine gV ?_
   refine bg rfl rfl ?_
   refine bA hh (cL h1 h2' _ (hh.dP (List.mem_of_getElem? (i := 16) rfl) (List.mem_of_getElem? (i := 17) rfl)) (hh.dP (List.mem_of_getElem? (i := 10) rfl) (List.mem_of_getElem? (i := 11) rfl)) (p1.same p2) p1.n p1.m) rfl ?_
   intro w77 hh
   first | refine gS ?_ | (refine gT ?_; refine mG ?_) | refine gV ?_
   first | refine cW ?_ | refine cZ ?_
   refine mB ?_
   first | refine gS ?_ | (refine gT ?_; refine cJ hh 3 [_,_] ?_) | refine gV ?_
   first | refine gS ?_ | (refine gT ?_; refine cJ hh 1 [_,_] ?_) | refine gV ?_
   refine bg rfl rfl ?_
   refine bA hh (cL g3 g57 _ (hh.dP (List.mem_of_getElem? (i := 7) rfl) (List.mem_of_getElem? (i := 6) rfl)) (st57 _ _ hh (fun x hx => by simp [hx])) (o3.same o57) o3.n o3.m) rfl ?_
   intro w83 hh
   first | refine gS ?_ | (refine gT ?_; refine mG ?_) | refine gV ?_
   first | refine cW ?_ | refine cZ ?_
   refine mB ?_
   first | refine gS ?_ | (refine gT ?_; refine cJ hh 2 [_,_] ?_) | refine gV ?_
   first | refine gS ?_ | (refine gT ?_; refine cJ hh 0 [_,_] ?_) | refine gV ?_
   refine bg rfl rfl ?_
   refine bA hh (cL h3 g58 _ (hh.dP (List.mem_of_getElem? (i := 4) rfl) (List.mem_of_getElem? (i := 5) rfl)) (st58 _ _ hh (fun x hx => by simp [hx])) (p3.same o58) p3.n p3.m) rfl ?_
   intro w89 hh
   trace_state
   first | refine gS ?_ | (refine gT ?_; refine mG ?_) | refine gV ?_
   first | refine cW ?_ | refine cZ ?_
   refine aa (cF (ak (ai (sr (bG ?_)))))
   refine bJ hh 15 ?_
   replace hh := hh.sub (List.Sublist.cons _ (List.Sublist.cons _ (List.Sublist.cons _ (List.Sublist.cons _ (List.Sublist.cons _ (List.Sublist.cons _ (List.Sublist.cons _ (List.Sublist.cons _ (List.Sublist.cons _ (List.Sublist.cons _ (List.Sublist.cons _ (List.Sublist.cons _ (List.Sublist.cons _ (List.Sublist.cons _ (List.Sublist.cons_cons _ (List.Sublist.cons _ (List.Sublist.cons _ (List.Sublist.cons_cons _ (List.Sublist.cons _ (List.Sublist.cons_cons _ (List.Sublist.cons_cons _ (List.Sublist.cons _ (List.Sublist.cons_cons _ (List.Sublist.refl _))))))))))))))))))))))))
   replace hh := hh.perm (List.perm_middle (l₁ := [_, _]))
   simp only [List.cons_append, List.nil_append] at hh
   refine rg hh (i := 0) rfl rfl aN.out aA.out rfl rfl ?_
   intro wc hh
   simp only [List.set_cons_zero] at hh
   replace hh := hh.sub (List.Sublist.cons _ (List.Sublist.cons_cons _ (List.Sublist.cons_cons _ (List.Sublist.cons_cons _ (List.Sublist.cons_cons _ (List.Sublist.refl _))))))
   refine aa (sr (bG ?_))
   refine bJ hh 0 ?_
   replace hh := hh.perm (List.perm_middle (l₁ := [_]))
   simp only [List.cons_append, List.nil_append] at hh
   refine rg hh (i := 0) rfl rfl aN.out aA.out rfl rfl ?_
   intro wc hh
   simp only [List.set_cons_zero] at hh
   replace hh := hh.sub (List.Sublist.cons _ (List.Sublist.cons _ (List.Sublist.cons_cons _ (List.Sublist.cons_cons _ (List.Sublist.refl _)))))
   refine aa (sr ?_)
   refine cJ hh 0 [_,_] ?_
   refine cJ hh 1 [_,_] ?_
   refine bA hh (cL o fa _ (hmi.at_ hol (fun x hx => by simp [hx]) hh) (hf.ext hh.below) ⟨d1, d2⟩ hon (by omega)) rfl ?_
   intro w98 hh
   refine mB ?_
   refine bg rfl rfl ?_
   refine bA hh (iQ _ (hT.hp hh)) rfl ?_
   intro w100 hh
   first | refine cW ?_ | refine cZ ?_
   refine aB (aa (ao ?_))
   refine cw ?_
   exact ⟨rfl, hh.below⟩
end Go.Proofs.YtioilmppidlbnaaGreatDoor
/- The row and the card of CastCuts. -/
namespace Go.Proofs.YtioilmppidlbnaaGreatDoor.castCuts
open Go.ChangeShapes Go.WideShapes Go.ChangeAt Go.RowKit Go.ChangeMaps
theorem own : ownKnob Tryz.prog.godebug = none := by kernel_rfl
set_option maxRecDepth 100000 in
theorem lifted (os : Os) (started : os.Started) (H : Type) (enc : TypeId × Value → H) :
  ReturnsInHanded {} Tryz.checked os 7 .any (fun w args => (Rows.castCutsSpec.pre enc Tryz.prog Tryz.f7 Rows.castCutsRow.domain false w args ∧ laidMetH Tryz.prog Rows.castCutsRow.laid w) ∧ sizedMet enc Tryz.prog Tryz.f7 (OpenSpec.ofChange Rows.castCutsSpec) false w args)
   (Rows.castCutsSpec.post enc Tryz.prog Tryz.f7 false true false false) := by
 refine returnsInHanded_of_change_and (C := Tryz.checked) (X := fun w _ => laidMetH Tryz.prog Rows.castCutsRow.laid w) (fun _ _ _ hh h => h.of_heap hh) own started (by kernel_rfl) Tryz.func7
  (ChangeSpec.witness_shaped (enc := enc) (C := Tryz.checked) (os := os) (X := fun w _ => laidMetH Tryz.prog Rows.castCutsRow.laid w) false (World.laidAll Tryz.prog os Rows.castCutsRow.laid) #[.agg #[.slice none 0 0, .slice none 0 0], .int .i64 0, .agg #[.bool false, .string ⟨#[]⟩, .int .i64 0]] 8 (World.laidAll_os _ _ _)
   (World.shaped_of_ZipB (by kernel_rfl) (by kernel_rfl)) (by kernel_rfl) (by kernel_rfl) (by kernel_rfl)
   (by rw [MakeChecks.laidMetH_plain _ _ _ (by kernel_rfl)]; exact laidMet_laidAll _ (by kernel_rfl) (by kernel_rfl))) ?_
 intro W base args ds gs before hval0 hW hc _ hL _
 have hval : ∀ (j : Nat) t v, Tryz.f7.params[j]? = some t → args[j]? = some v → Value.okWide Tryz.prog W .any base t v := hval0
 have hW' := hW
 obtain ⟨p, q, hA0, hV, rfl, hfz, hnd⟩ := hW
 have hA : DataW.TrodAll enc Tryz.prog W 0 (fun _ => true) true Tryz.f7.params.toList args.toList ds p := hA0
 rw [Tryz.params7] at hA hval
 obtain ⟨v0, vs0, d0, ds0, p0, q0, hargs, rfl, rfl, h0, r0⟩ := trodAll_cons hA
 obtain ⟨v1, vs1, d1, ds1, p1, q1, rfl, rfl, rfl, h1, r1⟩ := trodAll_cons r0
 obtain ⟨v2, vs2, d2, ds2, p2, q2, rfl, rfl, rfl, h2, r2⟩ := trodAll_cons r1
 obtain ⟨rfl, rfl, rfl⟩ := trodAll_nil r2
 obtain rfl : args = #[v0, v1, v2] := by cases args; simp_all
 obtain ⟨rfl, rfl⟩ := trodVars_none hV
 obtain ⟨f0, rfl, hS0⟩ := uk (hval 0 28 v0 rfl rfl) h0
 obtain ⟨x1, rfl, rfl, rfl, b1⟩ := open_int Tryz.underlying3 (hval 1 3 v1 rfl rfl) h1
 obtain ⟨x2, rfl, _, _⟩ := vf (hval 2 39 v2 rfl rfl) h2
 refine (nI f0 x1 x2 W (rn hL) hS0).mono fun e W' ⟨he, hb⟩ => ?_
 subst he
 exact ⟨_, rfl, vB hW' rfl (by kernel_rfl) (by rw [Tryz.params7]; exact of_decide_eq_true (by kernel_rfl)) (by kernel_rfl) Tryz.underlying4 rfl rfl rfl hb⟩
theorem row_holds : Rows.CastCutsSaid :=
 OpenClaim.holds_of_wide 7 Tryz.f7 rfl rfl rfl rfl rfl rfl rfl ⟨rfl, rfl, rfl, rfl, rfl⟩ rfl rfl rfl rfl rfl (by kernel_rfl) Tryz.func7 (by kernel_rfl)
  (of_decide_eq_true (by kernel_rfl)) (by unfold Func.isWrapper; first | (rw [if_pos (by decide +kernel)]; kernel_rfl) | (rw [if_neg (by decide +kernel)]; exact ⟨rfl, rfl⟩))
  (fun os started H enc _ => lifted os started H enc)
theorem holds : Rows.CastCutsCardSaid :=
 Claim7.holds_tied_plain_at .later [] [.data, .data, .pinned] true (true, "0b215af0b67f448459599e78ac8335c1e55d291f4b1ea5a16e79847ce8851b12") false row_holds (fun _ h => by cases h) (by kernel_rfl) (fun _ h => by cases h) castCuts_row_tie rfl ⟨rfl, rfl⟩ (by kernel_rfl) rfl
  (fun f fn hf hfn => by
   obtain rfl : f = 7 := Option.some.inj ((show Tryz.prog.funcNamed "ogee/ogeelaw13.CastCuts" = some 7 by kernel_rfl).symm.trans hf) |>.symm
   obtain rfl : fn = Tryz.f7 := (Option.some.inj (Tryz.func7.symm.trans hfn)).symm
   exact ⟨by kernel_rfl, fun j t ht => by
    rw [Tryz.params7] at ht
    have hm : t ∈ [28, 3, 39] := by simpa using Array.mem_of_getElem? ht
    have hall : ([28, 3, 39].all fun u => !Tryz.prog.wantsStandIn u) = true := by kernel_rfl
    exact (show Tryz.prog.wantsStandIn t = false by simpa using List.all_eq_true.1 hall t hm)⟩)
  (by kernel_rfl)
#print axioms holds
end Go.Proofs.YtioilmppidlbnaaGreatDoor.castCuts
