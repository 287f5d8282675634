/- Lemmas for liftValues, part 5. -/
import Derived.RangeFuncFrom
import Derived.RangeFuncCalls
import Derived.RangeFuncLeaves
import Derived.Shelf.Abstract
import Derived.OrdersIn
import Derived.Test.YtioilmppidlbnaaGreatDoorZ4
/- The walk through lift.times. -/
namespace Go.Proofs.YtioilmppidlbnaaGreatDoor
open Go.RowKit
def bU (a b : List Nat) : List Nat := List.zipWith (· + ·) a b
theorem gl {a b : List Nat} (h : a.length = b.length) : (bU a b).length = a.length := by simp [bU, h]
theorem md {a b : List Nat} {i x y : Nat} (h1 : a[i]? = some x) (h2 : b[i]? = some y) : (bU a b)[i]? = some (x + y) := by
 unfold bU
 rw [List.getElem?_zipWith, h1, h2]
theorem jJ : ∀ (a b : List Nat), cN a b = bU a b
 | [], [] => rfl
 | [], _ :: _ => rfl
 | _ :: _, [] => rfl
 | x :: a, y :: b => by rw [cN, jJ a b]; rfl
theorem kz {a b : List Nat} (h : a.length = b.length) : cN a.reverse b.reverse = (bU a b).reverse := by
 rw [jJ]
 exact (List.reverse_zipWith h).symm
theorem uJ {N : Nat} {L M : List (Nat × Dyadic)} (h : ∀ q ∈ M, q.2 = 0) : fM N (L ++ M) = fM N L := by
 unfold fM
 refine List.map_congr_left fun p _ => ?_
 rw [jx, uA (l := M) fun q hq => by rw [h q hq]; split <;> rfl]
 grind
theorem vJ (N : Nat) : gU N [.bool false, .string (ByteArray.mk #[]), .int .i64 0] = bG NR.cells ((fM N []).map nR) := by
 rw [wq, List.map_replicate]
 induction N with
 | zero => rfl
 | succ n ih => rw [List.replicate_succ, fZ, ← ih]; rfl
def nA (ds es : List Nat) (xs ys : List Dyadic) (k : Nat) : List (Nat × Dyadic) :=
 (List.range k).flatMap fun k => (List.range (au ds)).map fun i => (ee (cN ds es) (cN (bY ds i) (bY es k)), (xs[i]?).getD 0 * (ys[k]?).getD 0)
theorem nu (ds es : List Nat) (xs ys : List Dyadic) (k : Nat) : nA ds es xs ys (k + 1) = nA ds es xs ys k ++ (List.range (au ds)).map fun i => (ee (cN ds es) (cN (bY ds i) (bY es k)), (xs[i]?).getD 0 * (ys[k]?).getD 0) := by
 unfold nA
 rw [List.range_succ, List.flatMap_append, List.flatMap_singleton]
theorem p5 (ds es : List Nat) (xs ys : List Dyadic) (k : Nat) : (nA ds es xs ys k).length = k * au ds := by
 unfold nA
 rw [lG (m := au ds) _ _ fun a _ => by simp, List.length_range]
theorem qi {ds es : List Nat} {xs ys : List Dyadic} {k1 k2 : Nat} (hx : ∀ x ∈ xs, Sz k1 x) (hy : ∀ y ∈ ys, Sz k2 y) (k : Nat) : ∀ q ∈ nA ds es xs ys k, Sz (k1 + k2) q.2 := fun q hq => by
 unfold nA at hq
 obtain ⟨j, _, hq⟩ := List.mem_flatMap.1 hq
 obtain ⟨i, _, rfl⟩ := List.mem_map.1 hq
 refine Sz.mul ?_ ?_
 ·cases h : xs[i]? with
  | none => exact Sz.zero _
  | some x => exact hx x (List.mem_of_getElem? h)
 ·cases h : ys[j]? with
  | none => exact Sz.zero _
  | some y => exact hy y (List.mem_of_getElem? h)
theorem rJ {ns ms : List Nat} (hl : ns.length = ms.length) (i k : Nat) : rM (bU ns ms).reverse (cN (bY ns.reverse i) (bY ms.reverse k)) := by
 rw [← kz hl]
 exact me (gi _ _) (gi _ _) (by rw [List.length_reverse, List.length_reverse, hl])
def fS (ns ms : List Nat) (xs ys : List Dyadic) : List Dyadic := fM (au (bU ns ms)) (nA ns.reverse ms.reverse xs ys (au ms))
theorem kW (F FC G GC : Option Addr) (n c1 c2 c3 c4 : Nat) (ns ms : List Nat) (xs ys : List Dyadic) (k1 k2 : Nat) (w : World) (hT : fQ w)
  (hF : Sl w F n 1 (bI (bp ns))) (hFC : Sl w FC (au ns) 3 (bG NR.cells (xs.map nR))) (hG : Sl w G n 1 (bI (bp ms))) (hGC : Sl w GC (au ms) 3 (bG NR.cells (ys.map nR)))
  (hn : n ≤ 12) (hns : ∀ d ∈ ns, d ≤ 127) (hms : ∀ d ∈ ms, d ≤ 127) (hN : au (bU ns ms) ≤ 4096) (hM : au ms * au ns ≤ 1000000) (hx : ∀ x ∈ xs, Sz k1 x) (hy : ∀ y ∈ ys, Sz k2 y) (hk : k1 + k2 ≤ 100000) :
  Calls Tryz.prog 60 #[.agg #[.slice F n c1, .slice FC (au ns) c2], .agg #[.slice G n c3, .slice GC (au ms) c4]] w fun r w' => ∃ A a B b, r = .returned (.agg #[.slice A n a, .slice B (au (bU ns ms)) b]) ∧ Hp w [.row B (au (bU ns ms)) b 39 3 (bG NR.cells ((fS ns ms xs ys).map nR)), .row A n a 3 1 (bI (bp (bU ns ms)))] w' := by
 have hh := Hp.start w
 have hl1 : ns.length = n := by have := hF.1; simpa [bI, bp] using this
 have hl2 : ms.length = n := by have := hG.1; simpa [bI, bp] using this
 have hlx : xs.length = au ns := by have := hFC.cR NR.len (by decide); simpa using this
 have hly : ys.length = au ms := by have := hGC.cR NR.len (by decide); simpa using this
 have hpn := eO ns
 have hpm := eO ms
 have hMn : 1 * au ns ≤ au ms * au ns := Nat.mul_le_mul_right _ hpm
 have hMm : au ms * 1 ≤ au ms * au ns := Nat.mul_le_mul_left _ hpn
 obtain ⟨a4, rfl, s4⟩ := hGC.at_ hpm
 obtain ⟨a5, rfl, s5⟩ := hFC.at_ hpn
 have hla : (bU ns ms).length = n := by rw [gl (by omega), hl1]
 have hadd : ∀ d ∈ bU ns ms, d ≤ 254 := fun d hd => by
  obtain ⟨i, hi⟩ := List.mem_iff_getElem?.1 hd
  have hi2 := (List.getElem?_eq_some_iff.1 hi).1
  obtain ⟨x, hx1⟩ := ay (l := ns) (k := i) (by omega)
  obtain ⟨y, hy1⟩ := ay (l := ms) (k := i) (by omega)
  rw [md hx1 hy1] at hi
  have := hns x (List.mem_of_getElem? hx1)
  have := hms y (List.mem_of_getElem? hy1)
  have := Option.some.inj hi
  omega
 have hzr : gU n [Value.int .i64 0] = bI (dM n) := by rw [kN]; simp [bI, dM]
 refine al (N := 93) (l := [.agg #[.slice F n c1, .slice (some a5) (au ns) c2], .agg #[.slice G n c3, .slice (some a4) (au ms) c4]]) Tryz.func60 rfl rfl (by simp) ?_
 refine sr ?_
 refine dw hh [_,_] ?_
 intro b2 w2 hh
 refine dw hh [_,_] ?_
 intro b3 w3 hh
 refine cu hh ?_
 intro b4 w4 hh
 refine aa (sr (bK ?_))
 refine bL hh 2 ?_
 refine aV ?_
 refine fh (n := n) hh rfl rfl (by omega) (by omega) aH.out aD.out rfl (by omega) (by omega) (by decide) ?_
 intro b16 w16 hh
 refine gb [_,_] ?_
 refine cu hh ?_
 intro b5 w5 hh
 refine bM hh 0 [_,_] ?_
 intro ws hh
 replace hh : Hp _ (.blk _ _ [_, _] _ :: _) _ := hh
 refine aa (ah (sr (bK ?_)))
 refine bL hh 0 ?_
 refine aV (mI (aa (aj ?_)))
 rw [hzr] at hh
 refine bo [6, 21, 22, 23, 24, 25, 26, 27, 28, 29, 30, 31, 32, 33, 34, 35, 36, 37, 38, 39] 21
  (fun v w' => ∃ i : Nat, i ≤ n ∧ v = .int .i64 i ∧ Hp w [.blk b5 28 [.slice (some ⟨b16, 0, none⟩) n n, .slice none 0 0] (0, 0), .row (some ⟨b16, 0, none⟩) n n 3 1 (bI (bp ((bU ns ms).take i) ++ dM (n - i))), .blk b4 28 [.slice none 0 0, .slice none 0 0] (0, 0), .blk b3 28 [.slice G n c3, .slice (some a4) (au ms) c4] (0, 0), .blk b2 28 [.slice F n c1, .slice (some a5) (au ns) c2] (0, 0)] w')
  (fun v _ => n - (intOf v).toNat) ?_ ?_
 ·exact ⟨0, Nat.zero_le _, rfl, hh⟩
 ·clear hh
  rintro ρ' v w' ⟨i, hi, rfl, hh⟩
  by_cases hlt : i < n
  ·obtain ⟨x, hx1⟩ := ay (l := ns) (k := i) (by omega)
   obtain ⟨y, hy1⟩ := ay (l := ms) (k := i) (by omega)
   have hgx := bX (dY hx1)
   have hgy := bX (dY hy1)
   have hxy := md hx1 hy1
   have hx2 := hns x (List.mem_of_getElem? hx1)
   have hy2 := hms y (List.mem_of_getElem? hy1)
   have htl : (bp ((bU ns ms).take i)).length = i := by rw [cL, List.length_take]; omega
   have hil : (bI (bp ((bU ns ms).take i) ++ dM (n - i))).length = n := by rw [bR, List.length_append, htl, kY]; omega
   obtain ⟨a1, rfl, s1⟩ := hF.at_ (by omega)
   obtain ⟨a2, rfl, s2⟩ := hG.at_ (by omega)
   refine sr ?_
   refine aJ (aa (ah (cT (ak (ai (ah (aj (sr (mI (aI (aa ?_)))))))))))
   refine a6 14 [[(5, none)], [(24, some 0)], [(6, none)], [(2, none)], [(27, some 3)], [(6, none)], [(28, some 4), (29, some 5)], [(30, some 6)], [(3, none)], [(32, some 8)], [(6, none)], [(33, some 9), (34, some 10)], [(35, some 11)], [(31, some 7), (36, some 12)]] [(13, 37), (12, 36), (11, 35), (10, 34), (9, 33), (8, 32), (7, 31), (6, 30), (5, 29), (4, 28), (3, 27), (2, 26), (1, 25), (0, 24)] hh mixed (by kernel_rfl) ?_
   refine fP ?_
   refine gB 0 ?_
   refine eM ?_
   refine fP ?_
   refine gB 4 ?_
   refine eM ?_
   refine nN (i) ?_
   refine bh (i := 7) (fun ρ1 w1 hj hR => dZ aD.out (show ρ1 30 = Value.pointer _ from hR.1) ((s1.ext hj.hp.below).eC (by assumption))) ?_
   refine fP ?_
   refine gB 3 ?_
   refine eM ?_
   refine nN (i) ?_
   refine bh (i := 12) (fun ρ1 w1 hj hR => dZ aD.out (show ρ1 35 = Value.pointer _ from hR.1) ((s2.ext hj.hp.below).eC (by assumption))) ?_
   refine uP ?_
   refine bA ?_
   intro f W hJ hV
   have hb_5 := hJ.bl
   obtain ⟨v37, v36, v35, v34, v33, v32, v31, v30, v29, v28, v27, v26, v25, v24, _⟩ := hV
   replace hh := hJ.hp
   refine bf (bz (ae v37 (ae v36 (ae v35 (ae v34 (ae v33 (ae v32 (ae v31 (ae v30 (ae v29 (ae v28 (ae v27 (ae v26 (ae v25 (ae v24 bg))))))))))))))) ?_
   dsimp only [cH]
   clear hJ
   refine bm (k := i) aH.out aD.size rfl rfl (by omega) (by omega) (by decide) ?_
   refine bq hh (i := 1) (vs := [_]) rfl rfl (bJ rfl) rfl aD.out rfl (by omega) rfl ?_
   intro ws hh
   simp only [List.set_cons_zero, List.set_cons_succ] at hh
   rw [fB _ (by rw [← bR, hil]; exact hlt)] at hh
   have e5 : (bp ((bU ns ms).take i) ++ dM (n - i)).set i ((x : Int) + (y : Int)) = bp ((bU ns ms).take (i + 1)) ++ dM (n - (i + 1)) := by
    have hz : dM (n - i) = 0 :: dM (n - (i + 1)) := by
     unfold dM
     rw [show n - i = n - (i + 1) + 1 by omega, List.replicate_succ]
    rw [hz, kt _ _ _ _ _ htl, aO hxy]
    simp [bp]
   rw [e5] at hh
   refine aE (aW (ai (ao ?_)))
   refine bx (mI (aE (ai ?_)))
   refine ⟨⟨i + 1, by omega, rfl, hh⟩, by show n - (i + 1) < n - i; omega, ?_⟩
   (repeat (first | exact aw _ _ _ | refine aA rfl ?_ | refine ar rfl ?_))
  ·obtain rfl : i = n := by omega
   rw [List.take_of_length_le (by omega), Nat.sub_self] at hh
   replace hh : Hp w [.blk b5 28 [.slice (some ⟨b16, 0, none⟩) i i, .slice none 0 0] (0, 0), .row (some ⟨b16, 0, none⟩) i i 3 1 (bI (bp (bU ns ms))), .blk b4 28 [.slice none 0 0, .slice none 0 0] (0, 0), .blk b3 28 [.slice G i c3, .slice (some a4) (au ms) c4] (0, 0), .blk b2 28 [.slice F i c1, .slice (some a5) (au ns) c2] (0, 0)] w' := by
    have : bp (bU ns ms) ++ dM 0 = bp (bU ns ms) := List.append_nil _
    rw [this] at hh
    exact hh
   have hsz := fun w1 hS1 => rl (some ⟨b16, 0, none⟩) i i (bU ns ms) w1 hS1 (by omega) (fun d hd => by have := hadd d hd; omega) (by omega)
   have hzr2 := vJ (au (bU ns ms))
   refine sr ?_
   refine aJ (aa (ah (cF ?_)))
   refine aN ?_
   refine az (az (a7 (ai (sr (bK ?_)))))
   refine bL hh 0 ?_
   refine bF hh (hsz _ (hh.aQ (i := 1) rfl)) rfl ?_
   intro w42 hh
   refine fh (n := (au (bU ns ms))) hh rfl rfl (by omega) (by omega) aH.out aD.out rfl (by omega) (by omega) (by decide) ?_
   intro b43 w43 hh
   refine bK ?_
   refine bM hh 1 [_] ?_
   intro ws hh
   replace hh : Hp _ (_ :: .blk _ _ [_, _] _ :: _) _ := hh
   refine aa (ah (sr (bK ?_)))
   refine bL hh 4 ?_
   refine aV (mI (aa (aj ?_)))
   rw [hzr2] at hh
   clear hsz hzr2 hzr
   have hpr0 : fM (au (bU ns ms)) [] = fM (au (bU ns ms)) (nA ns.reverse ms.reverse xs ys 0) := rfl
   rw [hpr0] at hh
   unfold fS
   have hk12 := hk
   clear hk
   refine bo [7, 8, 9, 10, 11, 12, 48, 49, 50, 51, 52, 53, 54, 55, 56, 57, 58, 59, 60, 61, 62, 63, 64, 65, 66, 67, 68, 69, 70, 71, 72, 73, 74, 75, 76, 77, 78, 79, 80, 81, 82, 83, 84, 85, 86, 87, 88, 89, 90, 91] 48
    (fun v w' => ∃ k : Nat, k ≤ au ms ∧ v = .int .i64 k ∧ Hp w [.row (some ⟨b43, 0, none⟩) (au (bU ns ms)) (au (bU ns ms)) 39 3 (bG NR.cells ((fM (au (bU ns ms)) (nA ns.reverse ms.reverse xs ys k)).map nR)), .blk b5 28 [.slice (some ⟨b16, 0, none⟩) i i, .slice (some ⟨b43, 0, none⟩) (au (bU ns ms)) (au (bU ns ms))] (0, 0), .row (some ⟨b16, 0, none⟩) i i 3 1 (bI (bp (bU ns ms))), .blk b4 28 [.slice none 0 0, .slice none 0 0] (0, 0), .blk b3 28 [.slice G i c3, .slice (some a4) (au ms) c4] (0, 0), .blk b2 28 [.slice F i c1, .slice (some a5) (au ns) c2] (0, 0)] w')
    (fun v _ => au ms - (intOf v).toNat) ?_ ?_
   ·exact ⟨0, Nat.zero_le _, rfl, hh⟩
   ·clear hh hpr0
    rintro ρ2 v w2 ⟨k, hk, rfl, hh⟩
    by_cases hkm : k < au ms
    ·obtain ⟨yk, hyk⟩ := ay (l := ys) (k := k) (by omega)
     have hyn : (ys.map nR)[k]? = some (nR yk) := by rw [List.getElem?_map, hyk]; rfl
     have zy := hy yk (List.mem_of_getElem? hyk)
     have hsg := fun w1 => rG (nR yk) w1
     rw [NR.sign, eR] at hsg
     by_cases hy0 : yk = 0
     ·subst hy0
      rw [u0] at hsg
      refine sr ?_
      refine aJ (aa (ah (cT (ak (ai (ah (aj (sr (mI ?_)))))))))
      refine aC (k := k) aH.out aD.size rfl rfl (by omega) (by omega) (by decide) ?_
      refine cI (vs := [_, _, _]) aD.out rfl ((s4.ext hh.below).recAt NR.len hyn) rfl (by decide) ?_
      refine cu hh ?_
      intro b8 w8 hh
      refine aI ?_
      refine bM hh 0 [_,_,_] ?_
      intro ws hh
      replace hh : Hp _ (.blk _ _ [_, _, _] _ :: _) _ := hh
      refine aa (ah (sr ?_))
      refine cP hh 0 [_,_,_] ?_
      refine bF hh (hsg _) rfl ?_
      intro w54 hh
      refine dN (aa (cT ?_))
      refine aN ?_
      refine az (a7 (ai (ao ?_)))
      refine bx (mI (aE (ai ?_)))
      replace hh := hh.sub (List.Sublist.cons _ (List.Sublist.cons_cons _ (List.Sublist.cons_cons _ (List.Sublist.cons_cons _ (List.Sublist.cons_cons _ (List.Sublist.cons_cons _ (List.Sublist.cons_cons _ List.Sublist.slnil)))))))
      refine ⟨⟨k + 1, by omega, rfl, ?_⟩, by show au ms - (k + 1) < au ms - k; omega, ?_⟩
      ·rw [nu, uJ fun q hq => ?_]
       ·exact hh
       ·obtain ⟨i, _, rfl⟩ := List.mem_map.1 hq
        show (xs[i]?).getD 0 * (ys[k]?).getD 0 = 0
        rw [hyk]
        show (xs[i]?).getD 0 * 0 = 0
        grind
      ·(repeat (first | exact aw _ _ _ | refine aA rfl ?_ | refine ar rfl ?_))
     ·have hne : l0 yk 0 ≠ 0 := by
       rcases Au yk 0 with h | h | h
       ·rw [sM h]; decide
       ·exact absurd h hy0
       ·rw [sW h]; decide
      generalize l0 yk 0 = sg at *
      refine sr ?_
      refine aJ (aa (ah (cT (ak (ai (ah (aj (sr (mI ?_)))))))))
      refine aC (k := k) aH.out aD.size rfl rfl (by omega) (by omega) (by decide) ?_
      refine cI (vs := [_, _, _]) aD.out rfl ((s4.ext hh.below).recAt NR.len hyn) rfl (by decide) ?_
      refine cu hh ?_
      intro b8 w8 hh
      refine aI ?_
      refine bM hh 0 [_,_,_] ?_
      intro ws hh
      replace hh : Hp _ (.blk _ _ [_, _, _] _ :: _) _ := hh
      refine aa (ah (sr ?_))
      refine cP hh 0 [_,_,_] ?_
      refine bF hh (hsg _) rfl ?_
      intro w54 hh
      refine dN (aa (cF (ak (ai (sr (bK ?_))))))
      refine bL hh 5 ?_
      refine mI ?_
      refine aR (mV G i c3 ms k _ (hG.ext hh.below) (by omega) (fun d hd => by have := hms d hd; omega) (by omega)) av.out rfl (by decide) ?_
      rintro e_ w59 ⟨A59, c59, rfl, hown_, hb_⟩
      refine ⟨_, rfl, ?_⟩
      replace hh := hh.bu (x := .row _ _ _ _ _ _) hb_ hown_
      refine aL (aa (sr (bK ?_)))
      refine bL hh 7 ?_
      refine aV (mI (aa (aj ?_)))
      refine bo [10, 11, 12, 63, 64, 65, 66, 67, 68, 69, 70, 71, 72, 73, 74, 75, 76, 77, 78, 79, 80, 81, 82, 83, 84, 85, 86, 87, 88, 89, 90] 63
       (fun v w' => ∃ j : Nat, j ≤ au ns ∧ v = .int .i64 j ∧ Hp w [.row A59 i c59 3 1 (bI (bp (bY ms.reverse k).reverse)), .blk b8 39 [.bool (nR yk).neg, .string (nR yk).bP, .int .i64 (nR yk).e] (0, 0), .row (some ⟨b43, 0, none⟩) (au (bU ns ms)) (au (bU ns ms)) 39 3 (bG NR.cells ((fM (au (bU ns ms)) (nA ns.reverse ms.reverse xs ys k ++ (List.range j).map (fun i => (ee (cN ns.reverse ms.reverse) (cN (bY ns.reverse i) (bY ms.reverse k)), (xs[i]?).getD 0 * (ys[k]?).getD 0)))).map nR)), .blk b5 28 [.slice (some ⟨b16, 0, none⟩) i i, .slice (some ⟨b43, 0, none⟩) (au (bU ns ms)) (au (bU ns ms))] (0, 0), .row (some ⟨b16, 0, none⟩) i i 3 1 (bI (bp (bU ns ms))), .blk b4 28 [.slice none 0 0, .slice none 0 0] (0, 0), .blk b3 28 [.slice G i c3, .slice (some a4) (au ms) c4] (0, 0), .blk b2 28 [.slice F i c1, .slice (some a5) (au ns) c2] (0, 0)] w')
       (fun v _ => au ns - (intOf v).toNat) ?_ ?_
      ·refine ⟨0, Nat.zero_le _, rfl, ?_⟩
       rw [List.range_zero, List.map_nil, List.append_nil]
       exact hh
      ·clear hh
       rintro ρ3 v w3 ⟨j, hj, rfl, hh⟩
       by_cases hjn : j < au ns
       ·obtain ⟨xj, hxj⟩ := ay (l := xs) (k := j) (by omega)
        have hxn : (xs.map nR)[j]? = some (nR xj) := by rw [List.getElem?_map, hxj]; rfl
        have zx := hx xj (List.mem_of_getElem? hxj)
        have hpl := fun w1 h1 h2 h3 => pD F (some ⟨b16, 0, none⟩) A59 i c1 i c59 ns (bU ns ms) (bY ms.reverse k).reverse j w1 h1 h2 h3 (by omega) (by rw [List.reverse_reverse]; exact rJ (by omega) _ _) (by omega) (fun d hd => by have := hns d hd; omega) (fun d hd => by have := hadd d hd; omega) (by omega)
        simp only [List.reverse_reverse, ← kz (show ns.length = ms.length by omega)] at hpl
        have hplt : ee (cN ns.reverse ms.reverse) (cN (bY ns.reverse j) (bY ms.reverse k)) < au (bU ns ms) := by
         have := mb (rJ (show ns.length = ms.length by omega) j k)
         rwa [dI, ← kz (show ns.length = ms.length by omega)] at this
        obtain ⟨lV, hold⟩ := ay (l := fM (au (bU ns ms)) (nA ns.reverse ms.reverse xs ys k ++ (List.range j).map (fun i => (ee (cN ns.reverse ms.reverse) (cN (bY ns.reverse i) (bY ms.reverse k)), (xs[i]?).getD 0 * (ys[k]?).getD 0)))) (by rw [gm]; exact hplt)
        have hlen : (nA ns.reverse ms.reverse xs ys k ++ (List.range j).map (fun i => (ee (cN ns.reverse ms.reverse) (cN (bY ns.reverse i) (bY ms.reverse k)), (xs[i]?).getD 0 * (ys[k]?).getD 0))).length ≤ 1000000 := by
         rw [List.length_append, p5, List.length_map, List.length_range, dI]
         have : k * au ns + au ns ≤ au ms * au ns := by rw [← Nat.succ_mul]; exact Nat.mul_le_mul_right _ hkm
         omega
        have zold : Sz 1200000 lV := by
         refine (qa (k := k1 + k2) (fun q hq => ?_) lV (List.mem_of_getElem? hold)).mono (by omega)
         rcases List.mem_append.1 hq with hq | hq
         ·exact qi hx hy k q hq
         ·refine qi (ds := ns.reverse) (es := ms.reverse) hx hy (k + 1) q ?_
          rw [nu]
          obtain ⟨u, hu, rfl⟩ := List.mem_map.1 hq
          exact List.mem_append_right _ (List.mem_map.2 ⟨u, List.mem_range.2 (by have := List.mem_range.1 hu; rw [dI]; omega), rfl⟩)
        have hon : ((fM (au (bU ns ms)) (nA ns.reverse ms.reverse xs ys k ++ (List.range j).map (fun i => (ee (cN ns.reverse ms.reverse) (cN (bY ns.reverse i) (bY ms.reverse k)), (xs[i]?).getD 0 * (ys[k]?).getD 0)))).map nR)[ee (cN ns.reverse ms.reverse) (cN (bY ns.reverse j) (bY ms.reverse k))]? = some (nR lV) := by rw [List.getElem?_map, hold]; rfl
        have zxy : Sz 100000 (xj * yk) := (zx.mul zy).mono hk12
        have hmul := fun A cc w1 hT1 hS1 => iQ A 2 cc [nR xj, nR yk] w1 hT1 hS1 (by simpa using ⟨zx.ok (by omega), zy.ok (by omega)⟩) 100000 (by simpa [eR] using ⟨zx.mono (by omega), zy.mono (by omega)⟩) (by omega) (by omega)
        rw [show g9 ([nR xj, nR yk].map NR.d) = xj * yk by show 1 * (nR xj).d * (nR yk).d = _; rw [eR, eR, Dyadic.one_mul]] at hmul
        have hsum := fun A cc w1 hT1 hS1 => fT A 2 cc [nR lV, nR (xj * yk)] w1 hT1 hS1 (by simpa using ⟨zold.ok (by omega), zxy.ok (by omega)⟩) 1200000 (by simpa [eR] using ⟨zold, zxy.mono (by omega)⟩) (by omega)
        rw [show ji ([nR lV, nR (xj * yk)].map NR.d) = lV + xj * yk by simp only [List.map_cons, List.map_nil, eR, ig]] at hsum
        have hset := vc (v := xj * yk) hold
        have hstep : nA ns.reverse ms.reverse xs ys k ++ (List.range (j + 1)).map (fun i => (ee (cN ns.reverse ms.reverse) (cN (bY ns.reverse i) (bY ms.reverse k)), (xs[i]?).getD 0 * (ys[k]?).getD 0)) = nA ns.reverse ms.reverse xs ys k ++ (List.range j).map (fun i => (ee (cN ns.reverse ms.reverse) (cN (bY ns.reverse i) (bY ms.reverse k)), (xs[i]?).getD 0 * (ys[k]?).getD 0)) ++ [(ee (cN ns.reverse ms.reverse) (cN (bY ns.reverse j) (bY ms.reverse k)), xj * yk)] := by
         rw [List.range_succ, List.map_append, ← List.append_assoc]
         simp only [List.map_cons, List.map_nil, hxj, hyk, Option.getD_some]
        have hfin : fM (au (bU ns ms)) (nA ns.reverse ms.reverse xs ys k ++ (List.range (j + 1)).map (fun i => (ee (cN ns.reverse ms.reverse) (cN (bY ns.reverse i) (bY ms.reverse k)), (xs[i]?).getD 0 * (ys[k]?).getD 0))) = _ := (congrArg _ hstep).trans hset.symm
        clear hset hstep zold
        have hll : ((fM (au (bU ns ms)) (nA ns.reverse ms.reverse xs ys k ++ (List.range j).map (fun i => (ee (cN ns.reverse ms.reverse) (cN (bY ns.reverse i) (bY ms.reverse k)), (xs[i]?).getD 0 * (ys[k]?).getD 0)))).map nR).length = au (bU ns ms) := by rw [List.length_map, gm]
        generalize ee (cN ns.reverse ms.reverse) (cN (bY ns.reverse j) (bY ms.reverse k)) = pl at *
        generalize fM (au (bU ns ms)) (nA ns.reverse ms.reverse xs ys k ++ (List.range j).map (fun i => (ee (cN ns.reverse ms.reverse) (cN (bY ns.reverse i) (bY ms.reverse k)), (xs[i]?).getD 0 * (ys[k]?).getD 0))) = X at *
        have hrl := gn NR.len (X.map nR)
        refine sr ?_
        refine aJ (aa (ah (cT (ak (ai (ah (aj (sr (mI ?_)))))))))
        refine aC (k := j) aH.out aD.size rfl rfl (by omega) (by omega) (by decide) ?_
        refine cI (vs := [_, _, _]) aD.out rfl ((s5.ext hh.below).recAt NR.len hxn) rfl (by decide) ?_
        refine cu hh ?_
        intro b11 w11 hh
        refine aI ?_
        refine bM hh 0 [_,_,_] ?_
        intro ws hh
        replace hh : Hp _ (.blk _ _ [_, _, _] _ :: _) _ := hh
        refine aa (sr (bK ?_))
        refine bL hh 8 ?_
        refine bK ?_
        refine bL hh 4 ?_
        refine mL (mI ?_)
        refine bF hh (hpl _ (hF.ext hh.below) (hh.aQ (i := 5) rfl) (hh.aQ (i := 1) rfl)) rfl ?_
        intro w74 hh
        refine aI (aa ?_)
        refine a6 14 [[(5, none)], [(75, some 0)], [(12, none)], [(5, none)], [(78, some 3)], [(12, none)], [(79, some 4), (80, some 5)], [(81, some 6)], [(11, none)], [(8, none)], [(83, some 8), (84, some 9)], [(85, some 10)], [(82, some 7), (86, some 11)], [(87, some 12)]] [(13, 88), (12, 87), (11, 86), (10, 85), (9, 84), (8, 83), (7, 82), (6, 81), (5, 80), (4, 79), (3, 78), (2, 77), (1, 76), (0, 75)] hh mixed (by kernel_rfl) ?_
        refine fP ?_
        refine gB 4 ?_
        refine eM ?_
        refine fP ?_
        refine gB 4 ?_
        refine eM ?_
        refine vD (pl) ?_
        refine xh [_,_,_] (fun _ hj => hj.hp.gy (f := NR.cells) (x := nR lV) (l := X.map nR) (i := 3) rfl NR.len (by decide) hon) ?_
        refine gh 0 [_,_,_] ?_
        refine gh 2 [_,_,_] ?_
        refine vl [_,_,_,_,_,_] ?_
        refine dD (i := 11) (Is (.agg #[.bool (nR (xj * yk)).neg, .string (nR (xj * yk)).bP, .int .i64 (nR (xj * yk)).e])) Is.ext ?_ ?_
        ·intro ρ1 w1 hj hR
         obtain ⟨A85, c85, h85, s85⟩ := hR.1
         exact dP rfl (cW av.out (bj h85 cj)) (hmul A85 c85 _ (hT.hp hj.hp) s85) (fun _ _ hq => ⟨_, hq.1, hq.2, rfl⟩)
        refine vl [_,_,_,_,_,_] ?_
        refine dD (i := 13) (Is (.agg #[.bool (nR (lV + xj * yk)).neg, .string (nR (lV + xj * yk)).bP, .int .i64 (nR (lV + xj * yk)).e])) Is.ext ?_ ?_
        ·intro ρ1 w1 hj hR
         obtain ⟨A87, c87, h87, s87⟩ := hR.1
         exact dP rfl (cW av.out (bj h87 cj)) (hsum A87 c87 _ (hT.hp hj.hp) s87) (fun _ _ hq => ⟨_, hq.1, hq.2, rfl⟩)
        refine bA ?_
        intro f W hJ hV
        have hb_17 := hJ.bl
        obtain ⟨v88, v87, v86, v85, v84, v83, v82, v81, v80, v79, v78, v77, v76, v75, _⟩ := hV
        obtain ⟨A85, c85, e85, f85⟩ : Rows _ _ _ (f 10) W := v85
        obtain ⟨A87, c87, e87, f87⟩ : Rows _ _ _ (f 12) W := v87
        replace hh := hJ.hp
        refine bf (bz (ae v88 (ae e87 (ae v86 (ae e85 (ae v84 (ae v83 (ae v82 (ae v81 (ae v80 (ae v79 (ae v78 (ae v77 (ae v76 (ae v75 bg))))))))))))))) ?_
        dsimp only [cH]
        clear e85 e87 hJ
        refine bm (k := pl) aH.out aD.size rfl rfl (by omega) (by omega) (by decide) ?_
        refine bq hh (i := 3) (vs := [_, _, _]) rfl rfl (cM rfl) rfl aD.out rfl (by omega) rfl ?_
        intro ws hh
        simp only [List.set_cons_zero, List.set_cons_succ] at hh
        rw [show cS (bG NR.cells (X.map nR)) (pl * 3) [.bool (nR (lV + xj * yk)).neg, .string (nR (lV + xj * yk)).bP, .int .i64 (nR (lV + xj * yk)).e] = bG NR.cells ((X.map nR).set pl (nR (lV + xj * yk))) from lX NR.len (by omega), ← List.map_set] at hh
        refine aE (aW (ai (ao ?_)))
        refine bx (mI (aE (ai ?_)))
        replace hh := hh.sub (List.Sublist.cons _ (List.Sublist.cons_cons _ (List.Sublist.cons_cons _ (List.Sublist.cons_cons _ (List.Sublist.cons_cons _ (List.Sublist.cons_cons _ (List.Sublist.cons_cons _ (List.Sublist.cons_cons _ (List.Sublist.cons_cons _ List.Sublist.slnil)))))))))
        refine ⟨⟨j + 1, by omega, rfl, by rw [hfin]; exact hh⟩, by show au ns - (j + 1) < au ns - j; omega, ?_⟩
        (repeat (first | exact aw _ _ _ | refine aA rfl ?_ | refine ar rfl ?_))
       ·obtain rfl : j = au ns := by omega
        rw [show nA ns.reverse ms.reverse xs ys k ++ (List.range (au ns)).map (fun i => (ee (cN ns.reverse ms.reverse) (cN (bY ns.reverse i) (bY ms.reverse k)), (xs[i]?).getD 0 * (ys[k]?).getD 0)) = nA ns.reverse ms.reverse xs ys (k + 1) by rw [nu, dI]] at hh
        refine sr ?_
        refine aJ (aa (ah (cF ?_)))
        refine aN ?_
        refine az (az (a7 (aW (ai (ao ?_)))))
        refine bx (mI (aE (ai ?_)))
        replace hh := hh.sub (List.Sublist.cons _ (List.Sublist.cons _ (List.Sublist.cons_cons _ (List.Sublist.cons_cons _ (List.Sublist.cons_cons _ (List.Sublist.cons_cons _ (List.Sublist.cons_cons _ (List.Sublist.cons_cons _ List.Sublist.slnil))))))))
        refine ⟨⟨k + 1, by omega, rfl, hh⟩, by show au ms - (k + 1) < au ms - k; omega, ?_⟩
        (repeat (first | exact aw _ _ _ | refine aA rfl ?_ | refine ar rfl ?_))
    ·obtain rfl : k = au ms := by omega
     refine sr ?_
     refine aJ (aa (ah (cF ?_)))
     refine aN ?_
     refine az (az (a7 (ai (sr ?_))))
     refine cP hh 1 [_,_] ?_
     refine bM hh 3 [_,_] ?_
     intro ws hh
     replace hh : Hp _ (_ :: _ :: _ :: .blk _ _ [_, _] _ :: _) _ := hh
     refine aa (aq ?_)
     replace hh := hh.sub (List.Sublist.cons_cons _ (List.Sublist.cons _ (List.Sublist.cons_cons _ (List.Sublist.cons_cons _ (List.Sublist.cons _ (List.Sublist.cons _ List.Sublist.slnil))))))
     refine gG (aY rfl (aX (vs := [_, _]) aD.out (hh.ax (i := 2) (n := 2) rfl rfl) rfl) bC) ?_
     exact ⟨_, _, _, _, rfl, hh.sub (List.Sublist.cons_cons _ (List.Sublist.cons_cons _ (List.nil_sublist _)))⟩
end Go.Proofs.YtioilmppidlbnaaGreatDoor
/- The walks through package lift: forms that are alike, degrees raised. -/
namespace Go.Proofs.YtioilmppidlbnaaGreatDoor
open Go.RowKit
structure FX where
 A : Option Addr
 n : Nat
 a : Nat
 B : Option Addr
 m : Nat
 b : Nat
 ds : List Int
 cs : List NR
def FX.cells (f : FX) : List Value := [.slice f.A f.n f.a, .slice f.B f.m f.b]
theorem FX.len (f : FX) : (FX.cells f).length = 2 := rfl
def FX.v (f : FX) : Value := .agg #[.slice f.A f.n f.a, .slice f.B f.m f.b]
structure FX.at_ (f : FX) (w : World) : Prop where
 dg : Sl w f.A f.n 1 (bI f.ds)
 nm : Sl w f.B f.m 3 (bG NR.cells f.cs)
theorem FX.at_.ext {f : FX} {w w' : World} (h : f.at_ w) (hb : Below w.heap.size w w') : f.at_ w' := ⟨h.dg.ext hb, h.nm.ext hb⟩
structure FX.iA (f : FX) (k : Nat) : Prop where
 AL : f.n ≤ 1000
 Bx : f.m ≤ 100000
 num : ∀ c ∈ f.cs, c.ok ∧ Sz k c.d
def FX.e (f : FX) : Int := fE f.ds f.cs
theorem pg (f : FX) (k : Nat) (w : World) (hT : fQ w) (h : f.at_ w) (hl : f.iA k) :
  Calls Tryz.prog 64 #[.agg #[.slice f.A f.n f.a, .slice f.B f.m f.b]] w fun r w' => r = .returned (.int .i64 f.e) ∧ Below w.heap.size w w' :=
 nP f.A f.B f.n f.a f.m f.b f.ds f.cs w hT h.dg h.nm (by have := hl.AL; omega) (by have := hl.Bx; omega) fun a ha => (hl.num a ha).1
def yc (fs : List FX) : Bool := fs.any fun f => decide (f.n ≠ (fs.map FX.n).headD 0)
def fD (fs : List FX) : Int := match fs.find? (fun f => decide (f.e ≠ 0)) with | some f => f.e | none => if fs.length = 0 ∨ yc fs = true then 1 else 0
theorem oZ {α : Type} {p : α → Bool} {l : List α} (h : l.any p = false) : l.find? p = none := by
 rw [List.find?_eq_none]
 intro x hx
 have := List.any_eq_false.1 h x hx
 simpa using this
theorem vd {α : Type} {p : α → Bool} {l : List α} {i : Nat} {x : α} (h : (l.take i).any p = false) (hx : l[i]? = some x) (hp : p x = true) : l.find? p = some x := by
 have : l = l.take i ++ x :: l.drop (i + 1) := by rw [← jB hx, List.take_append_drop]
 rw [this, List.find?_append, oZ h, List.find?_cons_of_pos hp]
 rfl
theorem sv (L : Option Addr) (n c : Nat) (fs : List FX) (f : FX) (p : Addr) (w : World) (hL : Sl w L n 2 (bG FX.cells fs)) (hp : w.cell? p = some (.slice L n c)) (hn : 0 < n) :
  Calls Tryz.prog 107 #[.agg #[.slice f.A f.n f.a, .slice f.B f.m f.b], .pointer (some p)] w fun r w' => r = .returned (.bool (decide (f.n ≠ (fs.map FX.n).headD 0))) ∧ Below w.heap.size w w' := by
 have hh := Hp.start w
 have hln := hL.cR FX.len (by decide)
 obtain ⟨g, fs, rfl⟩ : ∃ g l, fs = g :: l := by
  cases fs with
  | nil => exact absurd hln (by show ¬ 0 = n; omega)
  | cons g l => exact ⟨g, l, rfl⟩
 obtain ⟨ad, rfl, hr⟩ := hL.at_ hn
 have hd : (((g :: fs).map FX.n).headD 0) = g.n := rfl
 rw [hd]
 have h0 : (g :: fs)[0]? = some g := rfl
 by_cases hg : f.n = g.n
 ·refine al (N := 13) (l := [.agg #[.slice f.A f.n f.a, .slice f.B f.m f.b], .pointer (some p)]) Tryz.func107 rfl rfl (by simp) ?_
  refine sr ?_
  refine dw hh [_,_] ?_
  intro b2 w2 hh
  refine aB (aa (ah ?_))
  refine a6 8 [[(2, none)], [(4, some 0)], [(5, some 1)], [(1, none)], [(7, some 3)], [(8, some 4)], [(9, some 5)], [(10, some 6)]] [(7, 11), (6, 10), (5, 9), (4, 8), (3, 7), (2, 6), (1, 5), (0, 4)] hh mixed (by kernel_rfl) ?_
  refine fP ?_
  refine gB 0 ?_
  refine pJ ?_
  refine lP (fun _ hj => (hj.hp.below.cell (kE hp)).trans hp) ?_
  refine bh (i := 4) (fun ρ1 w1 hj hR => cw aH.out aD.size (show ρ1 7 = Value.slice _ _ _ from hR.1) rfl (by omega) (by omega)) ?_
  refine AH ?_
  refine lP (fun _ hj => cv hj.hp.below (((hr.recAt FX.len h0)) 0 _ rfl)) ?_
  refine pJ ?_
  refine bA ?_
  intro f W hJ hV
  have hb_1 := hJ.bl
  obtain ⟨v11, v10, v9, v8, v7, v6, v5, v4, _⟩ := hV
  replace hh := hJ.hp
  refine bf (bz (ae v11 (ae v10 (ae v9 (ae v8 (ae v7 (ae v6 (ae v5 (ae v4 bg))))))))) ?_
  dsimp only [cH]
  clear hJ
  refine dt (aB (aa (aq ?_)))
  refine ck ?_
  exact ⟨by rw [decide_eq_false (by omega)], hh.below⟩
 ·refine al (N := 13) (l := [.agg #[.slice f.A f.n f.a, .slice f.B f.m f.b], .pointer (some p)]) Tryz.func107 rfl rfl (by simp) ?_
  refine sr ?_
  refine dw hh [_,_] ?_
  intro b2 w2 hh
  refine aB (aa (ah ?_))
  refine a6 8 [[(2, none)], [(4, some 0)], [(5, some 1)], [(1, none)], [(7, some 3)], [(8, some 4)], [(9, some 5)], [(10, some 6)]] [(7, 11), (6, 10), (5, 9), (4, 8), (3, 7), (2, 6), (1, 5), (0, 4)] hh mixed (by kernel_rfl) ?_
  refine fP ?_
  refine gB 0 ?_
  refine pJ ?_
  refine lP (fun _ hj => (hj.hp.below.cell (kE hp)).trans hp) ?_
  refine bh (i := 4) (fun ρ1 w1 hj hR => cw aH.out aD.size (show ρ1 7 = Value.slice _ _ _ from hR.1) rfl (by omega) (by omega)) ?_
  refine AH ?_
  refine lP (fun _ hj => cv hj.hp.below (((hr.recAt FX.len h0)) 0 _ rfl)) ?_
  refine pJ ?_
  refine bA ?_
  intro f W hJ hV
  have hb_1 := hJ.bl
  obtain ⟨v11, v10, v9, v8, v7, v6, v5, v4, _⟩ := hV
  replace hh := hJ.hp
  refine bf (bz (ae v11 (ae v10 (ae v9 (ae v8 (ae v7 (ae v6 (ae v5 (ae v4 bg))))))))) ?_
  dsimp only [cH]
  clear hJ
  refine dt (aB (aa (aq ?_)))
  refine ck ?_
  exact ⟨by rw [decide_eq_true hg], hh.below⟩
theorem r6 (A : Option Addr) (n c : Nat) (l : List FX) (g : FuncId) (cap : List Value) (p : FX → Bool) (w : World) (hS : Sl w A n 2 (bG FX.cells l)) (hn : n ≤ 1000000) [av Tryz.prog g]
  (hg : ∀ (z : FX) (w1 : World), z ∈ l → Below w.heap.size w w1 → Calls Tryz.prog g (.agg #[.slice z.A z.n z.a, .slice z.B z.m z.b] :: cap).toArray w1 fun r w' => r = .returned (.bool (p z)) ∧ Below w1.heap.size w1 w') :
  Calls Tryz.prog 153 #[.slice A n c, .func (.func g) #[] cap.toArray] w fun r w' => ∃ v, r = .returned (.int .i64 v) ∧ (0 ≤ v ↔ l.any p = true) ∧ Below w.heap.size w w' := by
 have hh := Hp.start w
 have hln := hS.cR FX.len (by decide)
 refine al (N := 19) (l := [.slice A n c, .func (.func g) #[] cap.toArray]) Tryz.func153 rfl rfl (by simp) ?_
 refine sr (aI (aa (ah (sr (mL (aV (mI (aa (aj ?_)))))))))
 refine bo [4, 5, 8, 9, 10, 11, 12, 13, 14, 15, 16, 17, 18] 8
  (fun v w' => ∃ i : Nat, i ≤ n ∧ v = .int .i64 i ∧ (l.take i).any p = false ∧ Hp w [] w')
  (fun v _ => n - (intOf v).toNat) ?_ ?_
 ·exact ⟨0, Nat.zero_le _, rfl, rfl, hh⟩
 ·clear hh
  rintro ρ' v w' ⟨i, hi, rfl, hall, hh⟩
  by_cases hlt : i < n
  ·obtain ⟨z, hz⟩ := ay (l := l) (k := i) (by omega)
   obtain ⟨ad, rfl, hr⟩ := hS.at_ (by omega)
   have hc := fun w1 => hg z w1 (List.mem_of_getElem? hz)
   cases gz : p z with
   | true =>
    rw [gz] at hc
    refine sr ?_
    refine aJ (aa (ah (cT (ak (ai (ah (aj (sr (mI (aI (aa ?_)))))))))))
    refine sr ?_
    refine fj (by first | exact eJ rfl | exact eH rfl) (by decide) ?_
    refine mL (mI ?_)
    refine aC (k := i) aH.out aD.size rfl rfl (by omega) (by omega) (by decide) ?_
    refine cI (vs := [_, _]) aD.out rfl ((hr.ext hh.below).recAt FX.len hz) rfl (by decide) ?_
    refine iE (hc _ hh.below) av.out rfl rfl (by decide) ?_
    rintro e_ w16 ⟨rfl, hb_⟩
    refine ⟨_, rfl, ?_⟩
    replace hh := hh.ext hb_
    refine aa (cT (sr (mI (aI (aa (aq (bO (aM (aM (bO (aM ?_)))))))))))
    refine ck ?_
    exact ⟨_, rfl, ⟨fun _ => List.any_eq_true.2 ⟨z, List.mem_of_getElem? hz, gz⟩, fun _ => by omega⟩, hh.below⟩
   | false =>
    rw [gz] at hc
    refine sr ?_
    refine aJ (aa (ah (cT (ak (ai (ah (aj (sr (mI (aI (aa ?_)))))))))))
    refine sr ?_
    refine fj (by first | exact eJ rfl | exact eH rfl) (by decide) ?_
    refine mL (mI ?_)
    refine aC (k := i) aH.out aD.size rfl rfl (by omega) (by omega) (by decide) ?_
    refine cI (vs := [_, _]) aD.out rfl ((hr.ext hh.below).recAt FX.len hz) rfl (by decide) ?_
    refine iE (hc _ hh.below) av.out rfl rfl (by decide) ?_
    rintro e_ w16 ⟨rfl, hb_⟩
    refine ⟨_, rfl, ?_⟩
    replace hh := hh.ext hb_
    refine aa (cF (ak (aW (ai (ao ?_)))))
    refine bx (mI (aE (ai ?_)))
    refine ⟨⟨i + 1, by omega, rfl, by rw [aO hz, List.any_append, hall, List.any_cons, List.any_nil, gz]; rfl, hh⟩, by show n - (i + 1) < n - i; omega, ?_⟩
    (repeat (first | exact aw _ _ _ | refine aA rfl ?_ | refine ar rfl ?_))
  ·rw [List.take_of_length_le (by omega)] at hall
   refine sr ?_
   refine aJ (aa (ah (cF ?_)))
   refine aN ?_
   refine az (az (a7 (ai (sr (aI (aa (aq ?_)))))))
   refine ck ?_
   exact ⟨_, rfl, ⟨fun h => absurd h (by decide), fun h => by rw [hall] at h; cases h⟩, hh.below⟩
theorem r8 (A : Option Addr) (n c : Nat) (l : List FX) (g : FuncId) (cap : List Value) (p : FX → Bool) (w : World) (hS : Sl w A n 2 (bG FX.cells l)) (hn : n ≤ 1000000) [av Tryz.prog g]
  (hg : ∀ (z : FX) (w1 : World), z ∈ l → Below w.heap.size w w1 → Calls Tryz.prog g (.agg #[.slice z.A z.n z.a, .slice z.B z.m z.b] :: cap).toArray w1 fun r w' => r = .returned (.bool (p z)) ∧ Below w1.heap.size w1 w') :
  Calls Tryz.prog 106 #[.slice A n c, .func (.func g) #[] cap.toArray] w fun r w' => r = .returned (.bool (l.any p)) ∧ Below w.heap.size w w' := by
 have hh := Hp.start w
 refine al (N := 9) (l := [.slice A n c, .func (.func g) #[] cap.toArray]) Tryz.func106 rfl rfl (by simp) ?_
 refine sr (aB (aa (sr (mL ?_))))
 refine fj (by first | exact eJ rfl | exact eH rfl) (by decide) ?_
 refine aR (r6 A n c l g cap p _ (hS.ext hh.below) hn hg) av.out rfl (by decide) ?_
 rintro e_ w7 ⟨v_, rfl, hv_, hb_⟩
 refine ⟨_, rfl, ?_⟩
 replace hh := hh.ext hb_
 cases ga : l.any p with
 | true =>
  have h0 := hv_.2 ga
  refine dz (aB (aa (aq ?_)))
  refine ck ?_
  exact ⟨rfl, hh.below⟩
 | false =>
  have h0 : ¬ 0 ≤ v_ := fun h => by rw [hv_.1 h] at ga; cases ga
  refine dz (aB (aa (aq ?_)))
  refine ck ?_
  exact ⟨rfl, hh.below⟩
theorem lW (L : Option Addr) (n c : Nat) (fs : List FX) (k : Nat) (w : World) (hT : fQ w) (hL : Sl w L n 2 (bG FX.cells fs)) (hn : n ≤ 1000000) (hf : ∀ f ∈ fs, f.at_ w) (hl : ∀ f ∈ fs, f.iA k) :
  Calls Tryz.prog 57 #[.slice L n c] w fun r w' => r = .returned (.int .i64 (fD fs)) ∧ Below w.heap.size w w' := by
 have hh := Hp.start w
 have hln := hL.cR FX.len (by decide)
 refine al (N := 26) (l := [.slice L n c]) Tryz.func57 rfl rfl (by simp) ?_
 refine sr ?_
 refine dw hh [_] ?_
 intro b1 w1 hh
 refine aI (aa (ah (sr ?_)))
 refine bL hh 0 ?_
 refine aV (mI (aa (aj ?_)))
 refine bo [2, 4, 5, 8, 9, 10, 11, 12, 13, 14, 15, 16, 17] 8
  (fun v w' => ∃ i : Nat, i ≤ n ∧ v = .int .i64 i ∧ (fs.take i).any (fun f => decide (f.e ≠ 0)) = false ∧ Hp w [.blk b1 22 [.slice L n c] (0, 0)] w')
  (fun v _ => n - (intOf v).toNat) ?_ ?_
 ·exact ⟨0, Nat.zero_le _, rfl, rfl, hh⟩
 ·clear hh
  rintro ρ' v w' ⟨i, hi, rfl, hall, hh⟩
  by_cases hlt : i < n
  ·obtain ⟨f, hx⟩ := ay (l := fs) (k := i) (by omega)
   have hmem := List.mem_of_getElem? hx
   have hc := fun w1 hT1 hb => pg f k w1 hT1 ((hf f hmem).ext hb) (hl f hmem)
   obtain ⟨ad, rfl, hr⟩ := hL.at_ (by omega)
   by_cases he : f.e = 0
   ·refine sr ?_
    refine aJ (aa (ah (cT (ak (ai (ah (aj (sr ?_))))))))
    refine aC (k := i) aH.out aD.size rfl rfl (by omega) (by omega) (by decide) ?_
    refine cI (vs := [_, _]) aD.out rfl ((hr.ext hh.below).recAt FX.len hx) rfl (by decide) ?_
    refine cu hh ?_
    intro b4 w4 hh
    refine bM hh 0 [_,_] ?_
    intro ws hh
    replace hh : Hp _ (.blk _ _ [_, _] _ :: _) _ := hh
    refine aa (sr ?_)
    refine cP hh 0 [_,_] ?_
    refine bF hh (hc _ (hT.hp hh) hh.below) rfl ?_
    intro w13 hh
    refine aI (aa (sr (mI ?_)))
    refine dt (aa (cF (ak (aW (ai (ao ?_))))))
    refine bx (mI (aE (ai ?_)))
    replace hh := hh.sub (List.Sublist.cons _ (List.Sublist.cons_cons _ List.Sublist.slnil))
    refine ⟨⟨i + 1, by omega, rfl, by rw [aO hx, List.any_append, hall, List.any_cons, List.any_nil, decide_eq_false (by omega)]; rfl, hh⟩, by show n - (i + 1) < n - i; omega, ?_⟩
    (repeat (first | exact aw _ _ _ | refine aA rfl ?_ | refine ar rfl ?_))
   ·refine sr ?_
    refine aJ (aa (ah (cT (ak (ai (ah (aj (sr ?_))))))))
    refine aC (k := i) aH.out aD.size rfl rfl (by omega) (by omega) (by decide) ?_
    refine cI (vs := [_, _]) aD.out rfl ((hr.ext hh.below).recAt FX.len hx) rfl (by decide) ?_
    refine cu hh ?_
    intro b4 w4 hh
    refine bM hh 0 [_,_] ?_
    intro ws hh
    replace hh : Hp _ (.blk _ _ [_, _] _ :: _) _ := hh
    refine aa (sr ?_)
    refine cP hh 0 [_,_] ?_
    refine bF hh (hc _ (hT.hp hh) hh.below) rfl ?_
    intro w13 hh
    refine aI (aa (sr (mI ?_)))
    refine dt (aa (cT (sr (mI (aI (aa (aq (bO (aM (aM (bO ?_)))))))))))
    refine aM ?_
    refine ck ?_
    refine ⟨?_, hh.below⟩
    unfold fD
    rw [vd hall hx (decide_eq_true he)]
  ·rw [List.take_of_length_le (by omega)] at hall
   have hlk : fD fs = if fs.length = 0 ∨ yc fs = true then 1 else 0 := by unfold fD; rw [oZ hall]
   rw [hlk]
   by_cases h0 : n = 0
   ·refine sr ?_
    refine aJ (aa (ah (cF ?_)))
    refine aN ?_
    refine az (az (a7 (ai (ah (sr ?_)))))
    refine bL hh 0 ?_
    refine aV ?_
    refine dN (mB ?_)
    first | refine gS ?_ | (refine gT ?_; refine bL hh 0 ?_) | refine gV ?_
    first | refine gS ?_ | (refine gT ?_; refine gP rfl (bj (j3 rfl) cj) (by decide) ?_) | refine gV ?_
    refine bZ (by decide) rfl rfl (by decide) ?_
    first | refine dh ?_ | refine de ?_
    refine aa (cT (sr (aI (aa (aq (aM ?_))))))
    refine ck ?_
    exact ⟨by rw [if_pos (.inl (by omega))], hh.below⟩
   ·have hcell : w'.cell? ⟨b1, 0, none⟩ = some (.slice L n c) := hh.eS (i := 0) rfl rfl
    have ho := fun w1 hb => r8 L n c fs 107 [.pointer (some ⟨b1, 0, none⟩)] (fun f => decide (f.n ≠ (fs.map FX.n).headD 0)) w1 (hL.ext (hh.below.trans (hb.mono hh.below.size))) hn (fun z w2 hz hb2 => sv L n c fs z ⟨b1, 0, none⟩ w2 ((hL.ext (hh.below.trans (hb.mono hh.below.size))).ext hb2) (cv hb2 (cv hb hcell)) (by omega))
    cases hod : yc fs with
    | true =>
     have hod2 : fs.any (fun f => decide (f.n ≠ (fs.map FX.n).headD 0)) = true := hod
     rw [hod2] at ho
     refine sr ?_
     refine aJ (aa (ah (cF ?_)))
     refine aN ?_
     refine az (az (a7 (ai (ah (sr ?_)))))
     refine bL hh 0 ?_
     refine aV ?_
     refine dN (mB ?_)
     first | refine gS ?_ | (refine gT ?_; refine bL hh 0 ?_) | refine gV ?_
     first | refine gS ?_ | (refine gT ?_; refine gP rfl (bj (j3 rfl) cj) (by decide) ?_) | refine gV ?_
     refine aZ rfl rfl ?_
     refine bF hh (ho _ (Below.refl _ _)) rfl ?_
     intro w24 hh
     first | refine dh ?_ | refine de ?_
     refine aa (cT (sr (aI (aa (aq (aM ?_))))))
     refine ck ?_
     exact ⟨by rw [if_pos (.inr rfl)], hh.below⟩
    | false =>
     have hod2 : fs.any (fun f => decide (f.n ≠ (fs.map FX.n).headD 0)) = false := hod
     rw [hod2] at ho
     refine sr ?_
     refine aJ (aa (ah (cF ?_)))
     refine aN ?_
     refine az (az (a7 (ai (ah (sr ?_)))))
     refine bL hh 0 ?_
     refine aV ?_
     refine dN (mB ?_)
     first | refine gS ?_ | (refine gT ?_; refine bL hh 0 ?_) | refine gV ?_
     first | refine gS ?_ | (refine gT ?_; refine gP rfl (bj (j3 rfl) cj) (by decide) ?_) | refine gV ?_
     refine aZ rfl rfl ?_
     refine bF hh (ho _ (Below.refl _ _)) rfl ?_
     intro w24 hh
     first | refine dh ?_ | refine de ?_
     refine aa (cF (ak (ai (sr (aI (aa (aq ?_)))))))
     refine ck ?_
     refine ⟨?_, hh.below⟩
     rw [if_neg]
     rintro (h | h)
     ·omega
     ·cases h
end Go.Proofs.YtioilmppidlbnaaGreatDoor
/- Arguments opened: forms. -/
namespace Go.Proofs.YtioilmppidlbnaaGreatDoor
open Go.ChangeShapes Go.WideShapes Go.ChangeAt Go.RowKit Go.ChangeMaps
theorem mJ {α : Type} {f : α → List Value} {p : α → Prop} {sz : Nat} {P : Program} {t e : TypeId} {H : Type} {enc : TypeId × Value → H} {W : World} {base fuel : Nat} {sp : Nat → Bool} {held : Bool} {cs : List Value} {x : DataW H × List MemPlace}
  (hf : ∀ x, (f x).length = sz) (h0 : 0 < sz) (ht : P.underlying t = some (.slice e)) (hc : P.cellsOf e = sz) (one : ∀ fuel cs x, DataW.trod enc P W base sp held fuel e cs = some x → ∃ a, cs = f a ∧ p a)
  (hfu : DataW.trod enc P W base sp held fuel t cs = some x) : ∃ (A : Option Addr) (n c : Nat) (l : List α), cs = [.slice A n c] ∧ Sl W A n sz (bG f l) ∧ ∀ a ∈ l, p a := by
 rcases Go.Deep.open_slice ht hfu with ⟨h1, _⟩ | ⟨ad, n, cp, m, k, D, Pl, h1, _, h2, h3, hm, _, h5⟩
 ·exact ⟨none, 0, 0, [], h1, Sl.nil W none sz, fun _ h => by simp at h⟩
 ·have hnm : n ≤ m := by rw [hm]; split <;> omega
  obtain ⟨l, hl, hp⟩ := rr (p := fun i a => W.cells? base (ad.add (i * sz)) sz = some (f a) ∧ p a) n fun i hi => by
   obtain ⟨cs, h6, h7⟩ := h5 i (by omega)
   rw [hc] at h6
   obtain ⟨a, rfl, h8⟩ := one _ _ _ h7
   exact ⟨a, h6, h8⟩
  refine ⟨some ad, n, cp, l, h1, ⟨by rw [gn hf, hl], fun _ => ⟨ad, rfl, fun j u hu => ?_⟩⟩, fun a ha => ?_⟩
  ·have hdm : j / sz * sz + j % sz = j := by rw [Nat.mul_comm]; exact Nat.div_add_mod j sz
   have hmod : j % sz < sz := Nat.mod_lt _ h0
   have hj : j / sz < l.length := by
    have := (List.getElem?_eq_some_iff.1 hu).1
    rw [gn hf] at this
    exact Nat.div_lt_of_lt_mul (by rw [Nat.mul_comm]; exact this)
   obtain ⟨x, hx⟩ := ay hj
   have h6 := m8 hf hx
   have h7 : (f x)[j % sz]? = some u := by
    rw [← h6, List.getElem?_take, if_pos hmod, List.getElem?_drop, hdm]
    exact hu
   have h8 := (World.cells?_some (hp _ _ hx).1).2.2 (j % sz) hmod
   rw [h7, gC, hdm] at h8
   exact h8
  ·obtain ⟨i, hi⟩ := List.mem_iff_getElem?.1 ha
   exact (hp i a hi).2
end Go.Proofs.YtioilmppidlbnaaGreatDoor
/- Arguments opened: a form, with the room that its degrees have. -/
namespace Go.Proofs.YtioilmppidlbnaaGreatDoor
open Go.ChangeShapes Go.WideShapes Go.ChangeAt Go.RowKit Go.ChangeMaps
theorem oJ {P : Program} {t e : TypeId} {H : Type} {enc : TypeId × Value → H} {W : World} {base fuel : Nat} {sp : Nat → Bool} {held : Bool} {A : Option Addr} {n c : Nat} {x : DataW H × List MemPlace}
  (ht : P.underlying t = some (.slice e)) (hfu : DataW.trod enc P W base sp held fuel t [.slice A n c] = some x) : n ≤ c := by
 rcases Go.Deep.open_slice ht hfu with ⟨h1, _⟩ | ⟨ad, n', cp, m, k, D, Pl, h1, _, h2, _⟩
 ·injection h1 with h1
  injection h1 with _ e2 e3
  omega
 ·injection h1 with h1
  injection h1 with _ e2 e3
  omega
set_option maxRecDepth 100000 in
theorem rC {H : Type} {enc : TypeId × Value → H} {W : World} {base fuel : Nat} {sp : Nat → Bool} {held : Bool} {cs : List Value} {x : DataW H × List MemPlace} (h : DataW.trod enc Tryz.prog W base sp held fuel 28 cs = some x) :
  ∃ f : FX, cs = f.cells ∧ f.at_ W ∧ f.n ≤ f.a ∧ f.m ≤ f.b := by
 have c0 : Tryz.prog.cellsOf 28 = 2 := by kernel_rfl
 have c1 : Tryz.prog.cellsOf 25 = 1 := by kernel_rfl
 have c2 : Tryz.prog.cellsOf 26 = 1 := by kernel_rfl
 obtain ⟨y0, y1, n, _, hl, h0, h1⟩ := trod_struct2 Tryz.underlying28 h
 obtain ⟨A, n, a, l, e0, s0, _⟩ := mJ IC.len (by decide) Tryz.underlying25 (by kernel_rfl) (fun _ _ _ h => uM h) h0
 rw [e0] at h0
 have hroom := oJ Tryz.underlying25 h0
 obtain ⟨B, m, b, k, e1, s1, _⟩ := mJ NR.len (by decide) Tryz.underlying26 (by kernel_rfl) (fun _ _ _ h => oO h) h1
 rw [e1] at h1
 have hroom2 := oJ Tryz.underlying26 h1
 rw [ye] at s0
 rw [c0] at hl
 match cs, hl with
 | [x0, x1], _ =>
  simp only [c1, c2] at e0 e1
  simp at e0 e1
  subst e0 e1
  exact ⟨⟨A, n, a, B, m, b, l, k⟩, rfl, ⟨s0, s1⟩, hroom, hroom2⟩
set_option maxRecDepth 100000 in
theorem nL {H : Type} {enc : TypeId × Value → H} {W : World} {r : Reach} {base b0 : Nat} {sp : Nat → Bool} {held : Bool} {v : Value} {d : DataW H} {ps : List MemPlace}
  (hval : Value.okWide Tryz.prog W r b0 28 v) (hd : DataW.Trod enc Tryz.prog W base sp held 28 v d ps) : ∃ f : FX, v = .agg #[.slice f.A f.n f.a, .slice f.B f.m f.b] ∧ f.at_ W ∧ f.m ≤ f.b := by
 obtain ⟨cs, rfl, _⟩ := okWide_struct Tryz.underlying28 hval
 obtain ⟨fuel, hf⟩ := hd
 obtain ⟨f, h1, h2, _, h4⟩ := rC hf
 refine ⟨f, ?_, h2, h4⟩
 have h3 : cs.toList = f.cells := h1
 rw [← Array.toList_inj.1 (show cs.toList = (#[.slice f.A f.n f.a, .slice f.B f.m f.b] : Array Value).toList from h3)]
end Go.Proofs.YtioilmppidlbnaaGreatDoor
/- The walk through lift.Raise. -/
namespace Go.Proofs.YtioilmppidlbnaaGreatDoor
open Go.RowKit
def kX (p : Int × Int) : Bool := decide (p.2 < p.1 ∨ 127 < p.2)
def rF (ds es : List Int) : Int := if es.length ≠ ds.length then 1 else if (ds.zip es).any kX = true then 1 else if 4096 < au (es.map Int.toNat) then 3 else 0
def eA (a b : List Nat) : List Nat := List.zipWith (· - ·) a b
def k4 (ns ts : List Nat) (xs : List Dyadic) : List Dyadic := fS ns (eA ts ns) xs ((oH (eA ts ns)).map nD)
theorem mo : ∀ {ns ts : List Nat}, ns.length = ts.length → (∀ (i n t : Nat), ns[i]? = some n → ts[i]? = some t → n ≤ t) → bU ns (eA ts ns) = ts
 | [], [], _, _ => rfl
 | [], _ :: _, h, _ => by simp at h
 | _ :: _, [], h, _ => by simp at h
 | n :: ns, t :: ts, h, h2 => by
  have h0 := h2 0 n t rfl rfl
  have ih := mo (ns := ns) (ts := ts) (by simpa using h) fun i a b ha hb => h2 (i + 1) a b ha hb
  show (n + (t - n)) :: bU ns (eA ts ns) = _
  rw [ih, show n + (t - n) = t by omega]
theorem ll : ∀ {a b : List Nat}, a.length = b.length → (∀ (i x y : Nat), a[i]? = some x → b[i]? = some y → x ≤ y) → au a ≤ au b
 | [], [], _, _ => Nat.le_refl _
 | [], _ :: _, h, _ => by simp at h
 | _ :: _, [], h, _ => by simp at h
 | x :: a, y :: b, h, h2 => by
  have h0 := h2 0 x y rfl rfl
  rw [au, au]
  exact Nat.mul_le_mul (by omega) (ll (by simpa using h) fun i p q hp hq => h2 (i + 1) p q hp hq)
theorem mj {a b : List Nat} {i x y : Nat} (h1 : a[i]? = some x) (h2 : b[i]? = some y) : (eA a b)[i]? = some (x - y) := by
 unfold eA
 rw [List.getElem?_zipWith, h1, h2]
theorem jc {a b : List Nat} (h : a.length = b.length) : (eA a b).length = a.length := by simp [eA, h]
def zY (es ds : List Int) : List Int := List.zipWith (· - ·) es ds
theorem zL {es ds : List Int} {i : Nat} {x y : Int} (h1 : es[i]? = some x) (h2 : ds[i]? = some y) : (zY es ds)[i]? = some (x - y) := by
 unfold zY
 rw [List.getElem?_zipWith, h1, h2]
theorem tA : ∀ {ts ns : List Nat}, ns.length = ts.length → (∀ (i n t : Nat), ns[i]? = some n → ts[i]? = some t → n ≤ t) → zY (bp ts) (bp ns) = bp (eA ts ns)
 | [], [], _, _ => rfl
 | [], _ :: _, h, _ => by simp at h
 | _ :: _, [], h, _ => by simp at h
 | t :: ts, n :: ns, h, h2 => by
  have h0 := h2 0 n t rfl rfl
  have ih := tA (ns := ns) (ts := ts) (by simpa using h) fun i a b ha hb => h2 (i + 1) a b ha hb
  show ((t : Int) - (n : Int)) :: zY (bp ts) (bp ns) = ((t - n : Nat) : Int) :: bp (eA ts ns)
  rw [ih, show (t : Int) - (n : Int) = ((t - n : Nat) : Int) by omega]
theorem vz {ns : List Nat} {es : List Int} (hl : es.length = (bp ns).length) (hb : ((bp ns).zip es).any kX = false) : ∃ ts : List Nat, es = bp ts ∧ ns.length = ts.length ∧ (∀ (i n t : Nat), ns[i]? = some n → ts[i]? = some t → n ≤ t) ∧ ∀ t ∈ ts, t ≤ 127 := by
 have key : ∀ (i : Nat) (d : Int), es[i]? = some d → ∃ n, ns[i]? = some n ∧ (n : Int) ≤ d ∧ d ≤ 127 := fun i d hd => by
  have hi := (List.getElem?_eq_some_iff.1 hd).1
  rw [hl, cL] at hi
  obtain ⟨n, hn⟩ := ay hi
  have hz : ((n : Int), d) ∈ (bp ns).zip es := List.mem_of_getElem? (i := i) (by rw [List.getElem?_zip_eq_some]; exact ⟨dY hn, hd⟩)
  have := List.any_eq_false.1 hb _ hz
  simp [kX] at this
  exact ⟨n, hn, by omega, by omega⟩
 refine ⟨es.map Int.toNat, ?_, by rw [List.length_map, hl, cL], fun i n t hn ht => ?_, fun t ht => ?_⟩
 ·unfold bp
  rw [List.map_map]
  refine (List.map_id' es).symm.trans (List.map_congr_left fun d hd => ?_)
  obtain ⟨i, hi⟩ := List.mem_iff_getElem?.1 hd
  obtain ⟨n, _, h1, _⟩ := key i d hi
  show d = ((d.toNat : Nat) : Int)
  omega
 ·rw [List.getElem?_map] at ht
  cases hd : es[i]? with
  | none => rw [hd] at ht; cases ht
  | some d =>
   rw [hd] at ht
   obtain rfl : d.toNat = t := by simpa using ht
   obtain ⟨n', hn', h1, _⟩ := key i d hd
   rw [hn] at hn'
   obtain rfl := Option.some.inj hn'
   omega
 ·obtain ⟨d, hd, rfl⟩ := List.mem_map.1 ht
  obtain ⟨i, hi⟩ := List.mem_iff_getElem?.1 hd
  obtain ⟨n, _, h1, h2⟩ := key i d hi
  omega
theorem fY (ts : List Nat) : (bp ts).map Int.toNat = ts := by
 unfold bp
 rw [List.map_map]
 exact List.map_id' ts
def wT (e : Int) : Ending := .returned (.tuple #[.agg #[.slice none 0 0, .slice none 0 0], .int .i64 e])
theorem qb {ds es : List Int} {i : Nat} {d e : Int} (h : ((ds.take i).zip (es.take i)).any kX = false) (hd : ds[i]? = some d) (he : es[i]? = some e) (hb : kX (d, e) = false) : ((ds.take (i + 1)).zip (es.take (i + 1))).any kX = false := by
 rw [aO hd, aO he, List.zip_append (by have := (List.getElem?_eq_some_iff.1 hd).1; have := (List.getElem?_eq_some_iff.1 he).1; simp; omega), List.any_append, h]
 show (false || ([(d, e)].any kX)) = false
 rw [List.any_cons, hb]
 rfl
theorem kZ (f : FX) (E : Option Addr) (q cE : Nat) (es : List Int) (k : Nat) (w : World) (hT : fQ w) (hf : f.at_ w) (hl : f.iA k) (hE : Sl w E q 1 (bI es)) (hq : q ≤ 1000) (hk : k ≤ 90000)
  (hM : f.e = 0 → rF f.ds es = 0 → au (es.map Int.toNat) * au (f.ds.map Int.toNat) ≤ 1000000) :
  Calls Tryz.prog 23 #[.agg #[.slice f.A f.n f.a, .slice f.B f.m f.b], .slice E q cE] w fun r w' => ((f.e ≠ 0 ∧ r = wT f.e ∨ f.e = 0 ∧ rF f.ds es ≠ 0 ∧ r = wT (rF f.ds es)) ∧ Below w.heap.size w w') ∨
   (f.e = 0 ∧ rF f.ds es = 0 ∧ ∃ (A : Option Addr) (a : Nat) (B : Option Addr) (b : Nat), r = .returned (.tuple #[.agg #[.slice A q a, .slice B (au (es.map Int.toNat)) b], .int .i64 0]) ∧ Hp w [.row B (au (es.map Int.toNat)) b 39 3 (bG NR.cells ((k4 (f.ds.map Int.toNat) (es.map Int.toNat) (f.cs.map NR.d)).map nR)), .row A q a 3 1 (bI es)] w') := by
 have hh := Hp.start w
 have hln : f.ds.length = f.n := by have := hf.dg.1; simpa [bI] using this
 have hlq : es.length = q := by have := hE.1; simpa [bI] using this
 have hlm := hf.nm.cR NR.len (by decide)
 have hck := fun w1 hT1 hb => pg f k w1 hT1 (hf.ext hb) hl
 have hn20 := hl.AL
 by_cases h0 : f.e = 0
 ·by_cases h1 : q = f.n
  ·obtain ⟨ns, xs, hv, hxs⟩ := yM h0
   refine al (N := 66) (l := [.agg #[.slice f.A f.n f.a, .slice f.B f.m f.b], .slice E q cE]) Tryz.func23 rfl rfl (by simp) ?_
   refine sr ?_
   refine dw hh [_,_] ?_
   intro b2 w2 hh
   refine cu hh ?_
   intro b4 w4 hh
   refine aI (aa (ah (sr ?_)))
   refine cP hh 1 [_,_] ?_
   refine bF hh (hck _ (hT.hp hh) hh.below) rfl ?_
   intro w11 hh
   refine aI (aa (sr (mI ?_)))
   refine dt (aa (cF (ak (ai (ah (sr (mL (aV (bK ?_)))))))))
   refine bL hh 1 ?_
   refine aV ?_
   refine dt (aa (cF (ak (ai (sr ?_)))))
   refine gb [_,_] ?_
   refine cu hh ?_
   intro b7 w7 hh
   refine bM hh 0 [_,_] ?_
   intro ws hh
   replace hh : Hp _ (.blk _ _ [_, _] _ :: _) _ := hh
   refine aa (ah (sr (mL (aV (mI (aa (aj ?_)))))))
   replace hh := hh.eI 3 1
   refine bo [5, 8, 9, 26, 27, 28, 29, 30, 31, 32, 33, 34, 35, 36, 37, 38, 39, 40, 41, 42, 43, 44, 45, 46, 47, 48, 49, 50, 51, 52, 53, 54, 55] 26
    (fun v w' => ∃ (i c7 : Nat) (A : Option Addr), i ≤ q ∧ v = .int .i64 i ∧ ((f.ds.take i).zip (es.take i)).any kX = false ∧ Hp w [.row A i c7 3 1 (bI ((zY es f.ds).take i)), .blk b7 28 [.slice A i c7, .slice none 0 0] (0, 0), .blk b4 28 [.slice none 0 0, .slice none 0 0] (0, 0), .blk b2 28 [.slice f.A f.n f.a, .slice f.B f.m f.b] (0, 0)] w')
    (fun v _ => q - (intOf v).toNat) ?_ ?_
   ·exact ⟨0, 0, none, Nat.zero_le _, rfl, rfl, hh⟩
   ·clear hh
    rintro ρ' v w' ⟨i, c7, A, hi, rfl, hall, hh⟩
    by_cases hlt : i < q
    ·obtain ⟨d, hd⟩ := ay (l := f.ds) (k := i) (by omega)
     obtain ⟨e, he⟩ := ay (l := es) (k := i) (by omega)
     have hgd := bX hd
     have hge := bX he
     have hde := zL he hd
     obtain ⟨a1, hA1, s1⟩ := hf.dg.at_ (by omega)
     obtain ⟨a2, rfl, s2⟩ := hE.at_ (by omega)
     have hdn : 0 ≤ d ∧ d ≤ 127 := by
      have hdeg := hv.Bb
      rw [hdeg] at hd
      have hlow := hv.low
      obtain ⟨nn, hnn⟩ := ay (l := ns) (k := i) (by rw [← cL, ← hdeg, hln]; omega)
      rw [dY hnn] at hd
      have := hlow nn (List.mem_of_getElem? hnn)
      have := Option.some.inj hd
      omega
     have hbad : kX (d, e) = true → rF f.ds es = 1 := fun hb => by
      unfold rF
      rw [if_neg (by omega), if_pos]
      exact List.any_eq_true.2 ⟨(d, e), List.mem_of_getElem? (i := i) (by rw [List.getElem?_zip_eq_some]; exact ⟨hd, he⟩), hb⟩
     rw [hA1] at hh
     by_cases h2 : e < d
     ·have hr1 := hbad (by unfold kX; rw [decide_eq_true]; exact .inl h2)
      refine sr ?_
      refine aJ (aa (ah (cT (ak (ai (ah (aj (sr (mI ?_)))))))))
      refine aC (k := i) aH.out aD.size rfl rfl (by omega) (by omega) (by decide) ?_
      refine aK aD.out rfl ((s2.ext hh.below).eC (by assumption)) (by decide) ?_
      refine aI (aI (aa (ah (sr (mI (bK ?_))))))
      refine bL hh 3 ?_
      refine mI ?_
      refine aC (k := i) aH.out aD.size rfl rfl (by omega) (by omega) (by decide) ?_
      refine aK aD.out rfl ((s1.ext hh.below).eC (by assumption)) (by decide) ?_
      refine aJ (mB ?_)
      first | refine gS ?_ | (refine gT ?_; refine mI ?_) | refine gV ?_
      first | refine gS ?_ | (refine gT ?_; refine bQ ?_) | refine gV ?_
      first | refine dh ?_ | refine de ?_
      refine aa (cT (sr ?_))
      refine gb [_,_] ?_
      refine bM hh 2 [_,_] ?_
      intro ws hh
      replace hh : Hp _ (_ :: _ :: .blk _ _ [_, _] _ :: _) _ := hh
      refine aI (aa (aq (aM (bO (aM (aM (bO (aM ?_))))))))
      refine wP (aY rfl (aX (vs := [_, _]) aD.out (hh.ax (i := 2) (n := 2) rfl rfl) rfl) (dq (ew rfl) bC)) ?_
      exact .inl ⟨.inr ⟨h0, by rw [hr1]; decide, by rw [hr1]; rfl⟩, hh.below⟩
     ·by_cases h3 : 127 < e
      ·have hr1 := hbad (by unfold kX; rw [decide_eq_true]; exact .inr h3)
       refine sr ?_
       refine aJ (aa (ah (cT (ak (ai (ah (aj (sr (mI ?_)))))))))
       refine aC (k := i) aH.out aD.size rfl rfl (by omega) (by omega) (by decide) ?_
       refine aK aD.out rfl ((s2.ext hh.below).eC (by assumption)) (by decide) ?_
       refine aI (aI (aa (ah (sr (mI (bK ?_))))))
       refine bL hh 3 ?_
       refine mI ?_
       refine aC (k := i) aH.out aD.size rfl rfl (by omega) (by omega) (by decide) ?_
       refine aK aD.out rfl ((s1.ext hh.below).eC (by assumption)) (by decide) ?_
       refine aJ (mB ?_)
       first | refine gS ?_ | (refine gT ?_; refine mI ?_) | refine gV ?_
       first | refine gS ?_ | (refine gT ?_; refine bQ ?_) | refine gV ?_
       first | refine dh ?_ | refine de ?_
       refine aa (cT (sr ?_))
       refine gb [_,_] ?_
       refine bM hh 2 [_,_] ?_
       intro ws hh
       replace hh : Hp _ (_ :: _ :: .blk _ _ [_, _] _ :: _) _ := hh
       refine aI (aa (aq (aM (bO (aM (aM (bO (aM ?_))))))))
       refine wP (aY rfl (aX (vs := [_, _]) aD.out (hh.ax (i := 2) (n := 2) rfl rfl) rfl) (dq (ew rfl) bC)) ?_
       exact .inl ⟨.inr ⟨h0, by rw [hr1]; decide, by rw [hr1]; rfl⟩, hh.below⟩
      ·refine sr ?_
       refine aJ (aa (ah (cT (ak (ai (ah (aj (sr (mI ?_)))))))))
       refine aC (k := i) aH.out aD.size rfl rfl (by omega) (by omega) (by decide) ?_
       refine aK aD.out rfl ((s2.ext hh.below).eC (by assumption)) (by decide) ?_
       refine aI (aI (aa (ah (sr (mI (bK ?_))))))
       refine bL hh 3 ?_
       refine mI ?_
       refine aC (k := i) aH.out aD.size rfl rfl (by omega) (by omega) (by decide) ?_
       refine aK aD.out rfl ((s1.ext hh.below).eC (by assumption)) (by decide) ?_
       refine aJ (mB ?_)
       first | refine gS ?_ | (refine gT ?_; refine mI ?_) | refine gV ?_
       first | refine gS ?_ | (refine gT ?_; refine bQ ?_) | refine gV ?_
       first | refine dh ?_ | refine de ?_
       refine aa (cF (ak (ai ?_)))
       refine a6 10 [[(7, none)], [(43, some 0)], [(9, none)], [(2, none)], [(46, some 3)], [(8, none)], [(47, some 4), (48, some 5)], [(49, some 6)], [(45, some 2), (50, some 7)], [(51, some 8)]] [(9, 52), (8, 51), (7, 50), (6, 49), (5, 48), (4, 47), (3, 46), (2, 45), (1, 44), (0, 43)] hh mixed (by kernel_rfl) ?_
       refine fP ?_
       refine gB 1 ?_
       refine eM ?_
       refine fP ?_
       refine gB 3 ?_
       refine eM ?_
       refine nN (i) ?_
       refine bh (i := 7) (fun ρ1 w1 hj hR => dZ aD.out (show ρ1 49 = Value.pointer _ from hR.1) ((s1.ext hj.hp.below).eC (by assumption))) ?_
       refine sy ?_
       refine vl [_] ?_
       refine bA ?_
       intro f W hJ hV
       have hb_12 := hJ.bl
       obtain ⟨v52, v51, v50, v49, v48, v47, v46, v45, v44, v43, _⟩ := hV
       obtain ⟨A52, c52, e52, f52⟩ : Rows _ _ _ (f 9) W := v52
       replace hh := hJ.hp
       refine bf (bz (ae e52 (ae v51 (ae v50 (ae v49 (ae v48 (ae v47 (ae v46 (ae v45 (ae v44 (ae v43 bg))))))))))) ?_
       dsimp only [cH]
       clear e52 hJ
       refine dL hh (i := 0) rfl rfl rfl (f52) aH.out aD.out rfl (by decide) (by first | rfl | exact db _ | exact cC _ | exact cA _ | exact cD NR.one _) (by omega) (by omega) (by decide) ?_
       intro A53 c53 w53 hh
       simp only [List.set_cons_zero] at hh
       refine bK ?_
       refine bM hh 1 [_] ?_
       intro ws hh
       replace hh : Hp _ (_ :: .blk _ _ [_, _] _ :: _) _ := hh
       refine aE (aW (ai (ao ?_)))
       refine bx (mI (aE (ai ?_)))
       rw [← hA1] at hh
       replace hh := hh.sub (List.Sublist.cons_cons _ (List.Sublist.cons_cons _ (List.Sublist.cons_cons _ (List.Sublist.cons_cons _ List.Sublist.slnil))))
       refine ⟨⟨i + 1, c53, A53, by omega, rfl, qb hall hd he (by unfold kX; rw [decide_eq_false]; show ¬(e < d ∨ 127 < e); omega), ?_⟩, by show q - (i + 1) < q - i; omega, ?_⟩
       ·rw [aO hde, rp]
        exact hh
       ·(repeat (first | exact aw _ _ _ | refine aA rfl ?_ | refine ar rfl ?_))
    ·obtain rfl : i = q := by omega
     rw [List.take_of_length_le (by omega), List.take_of_length_le (by omega)] at hall
     have hdeg := hv.Bb
     have hnum := hv.num
     have hlow := hv.low
     have hlen := hv.len
     have hfew := hv.Bt
     rw [hdeg] at hall hln
     obtain ⟨ts, rfl, hlt2, hle, ht127⟩ := vz (by rw [hln]; omega) hall
     have hnl : ns.length = f.n := by rw [← cL]; exact hln
     have htn : (bp ts).map Int.toNat = ts := fY ts
     have hnn : f.ds.map Int.toNat = ns := by rw [hdeg]; exact fY ns
     have hrz : rF f.ds (bp ts) = if 4096 < au ts then 3 else 0 := by
      unfold rF
      rw [hdeg, if_neg (by rw [cL, cL]; omega), if_neg (by rw [hall]; decide), htn]
     rw [htn, hnn] at hM
     rw [htn, hnn, hrz, ← hxs]
     rw [hrz] at hM
     have hbig := fun w1 hS1 => m6 E i cE ts w1 hS1 hq (fun d hd => by have := ht127 d hd; omega)
     have hany : ts.any (fun d => decide (127 < d)) = false := List.any_eq_false.2 fun d hd => by have := ht127 d hd; simp; omega
     by_cases h4 : 4096 < au ts
     ·have hb1 : l3 ts = true := by unfold l3; rw [decide_eq_true h4, Bool.or_true]
      rw [hb1] at hbig
      rw [if_pos h4]
      refine sr ?_
      refine aJ (aa (ah (cF ?_)))
      refine aN ?_
      refine az (az (a7 (ai (ah (sr (mL ?_))))))
      refine bF hh (hbig _ (hE.ext hh.below)) rfl ?_
      intro w57 hh
      refine aa (cT (sr ?_))
      refine gb [_,_] ?_
      refine bM hh 2 [_,_] ?_
      intro ws hh
      replace hh : Hp _ (_ :: _ :: .blk _ _ [_, _] _ :: _) _ := hh
      refine aI (aa (aq (aM ?_)))
      refine wP (aY rfl (aX (vs := [_, _]) aD.out (hh.ax (i := 2) (n := 2) rfl rfl) rfl) (dq (ew rfl) bC)) ?_
      exact .inl ⟨.inr ⟨h0, by decide, rfl⟩, hh.below⟩
     ·have hb1 : l3 ts = false := by unfold l3; rw [hany, decide_eq_false h4]; rfl
      rw [hb1] at hbig
      rw [if_neg h4] at hM
      rw [if_neg h4]
      have hM2 := hM h0 rfl
      have hsl : (eA ts ns).length = i := by rw [jc (by omega), ← cL]; exact hlq
      have hsub : ∀ d ∈ eA ts ns, d ≤ 127 := fun d hd => by
       obtain ⟨j, hj⟩ := List.mem_iff_getElem?.1 hd
       have hj2 := (List.getElem?_eq_some_iff.1 hj).1
       obtain ⟨x, hx⟩ := ay (l := ts) (k := j) (by rw [cL] at hlq; omega)
       obtain ⟨y, hy⟩ := ay (l := ns) (k := j) (by omega)
       rw [mj hx hy] at hj
       have := ht127 x (List.mem_of_getElem? hx)
       have := Option.some.inj hj
       omega
      have hcs : au (eA ts ns) ≤ au ts := ll (by rw [hsl, ← cL]; exact hlq.symm) fun j x y hx hy => by
       have hj2 := (List.getElem?_eq_some_iff.1 hx).1
       obtain ⟨z, hz⟩ := ay (l := ns) (k := j) (by omega)
       rw [mj hy hz] at hx
       have := Option.some.inj hx
       omega
      have hadd : bU ns (eA ts ns) = ts := mo hlt2 hle
      have hdif : zY (bp ts) f.ds = bp (eA ts ns) := by rw [hdeg]; exact tA hlt2 hle
      have hwn : vo (eA ts ns) = ((oH (eA ts ns)).map nD).map nR := by unfold vo; rw [List.map_map]; rfl
      have hw12 : (eA ts ns).length ≤ 12 := by omega
      have hwz : ∀ y ∈ (oH (eA ts ns)).map nD, Sz 1600 y := fun y hy => by
       obtain ⟨x, hx, rfl⟩ := List.mem_map.1 hy
       exact um hx hw12 hsub
      have hxz : ∀ x ∈ xs, Sz k x := fun x hx => by
       rw [hxs] at hx
       obtain ⟨c, hc, rfl⟩ := List.mem_map.1 hx
       exact (hl.num c hc).2
      have hpair : au (eA ts ns) * au ns ≤ au ts * au ns := Nat.mul_le_mul_right _ hcs
      have hfm : f.m = au ns := by rw [← hlm, hnum, List.length_map, hlen]
      have htm := fun w1 hT1 A B c3 c4 h1 h2 h3 h4' => kW f.A f.B A B i f.a f.b c3 c4 ns (eA ts ns) xs ((oH (eA ts ns)).map nD) k 1600 w1 hT1 h1 h2 h3 h4' (by omega) hlow hsub (by rw [hadd]; omega) (by omega) hxz hwz (by omega)
      rw [hadd] at htm
      have hdg := hf.dg
      have hnm := hf.nm
      rw [hdeg] at hdg
      rw [hnum, hfm] at hnm
      rw [List.take_of_length_le (by rw [hdif, cL]; omega), hdif] at hh
      rw [hfm] at hh
      rw [show f.n = i by omega] at hh hdg
      refine sr ?_
      refine aJ (aa (ah (cF ?_)))
      refine aN ?_
      refine az (az (a7 (ai (ah (sr (mL ?_))))))
      refine bF hh (hbig _ (hE.ext hh.below)) rfl ?_
      intro w57 hh
      refine aa (cF (ak (ai (sr (bK ?_)))))
      refine bL hh 1 ?_
      refine aR (mO A i c7 (eA ts ns) _ (hT.hp hh) (hh.aQ (i := 0) rfl) hw12 hsub (by omega)) av.out rfl (by decide) ?_
      rintro e_ w61 ⟨A61, c61, rfl, hown_, hb_⟩
      refine ⟨_, rfl, ?_⟩
      replace hh := hh.bu (x := .row _ _ _ _ _ _) hb_ hown_
      rw [hwn] at hh
      refine bK ?_
      refine bM hh 2 [_] ?_
      intro ws hh
      replace hh : Hp _ (_ :: _ :: .blk _ _ [_, _] _ :: _) _ := hh
      refine aa (sr ?_)
      refine cP hh 4 [_,_] ?_
      refine cP hh 2 [_,_] ?_
      refine aR (htm _ (hT.hp hh) _ _ _ _ (hdg.ext hh.below) (hnm.ext hh.below) (hh.aQ (i := 1) rfl) (hh.aQ (i := 0) rfl)) av.out rfl (by decide) ?_
      rintro e_ w65 ⟨Ar, cr, Br, br, rfl, h2⟩
      refine ⟨_, rfl, ?_⟩
      replace hh := hh.join h2
      clear h2
      refine bM hh 5 [_,_] ?_
      intro ws hh
      replace hh : Hp _ (_ :: _ :: _ :: _ :: _ :: .blk _ _ [_, _] _ :: _) _ := hh
      refine aI (aa (aq ?_))
      refine wP (aY rfl (aX (vs := [_, _]) aD.out (hh.ax (i := 5) (n := 2) rfl rfl) rfl) (dq (ew rfl) bC)) ?_
      exact .inr ⟨h0, rfl, _, _, _, _, rfl, hh.sub (List.Sublist.cons_cons _ (List.Sublist.cons_cons _ (List.nil_sublist _)))⟩
  ·have hrz : rF f.ds es = 1 := by unfold rF; rw [if_pos (by omega)]
   refine al (N := 66) (l := [.agg #[.slice f.A f.n f.a, .slice f.B f.m f.b], .slice E q cE]) Tryz.func23 rfl rfl (by simp) ?_
   refine sr ?_
   refine dw hh [_,_] ?_
   intro b2 w2 hh
   refine cu hh ?_
   intro b4 w4 hh
   refine aI (aa (ah (sr ?_)))
   refine cP hh 1 [_,_] ?_
   refine bF hh (hck _ (hT.hp hh) hh.below) rfl ?_
   intro w11 hh
   refine aI (aa (sr (mI ?_)))
   refine dt (aa (cF (ak (ai (ah (sr (mL (aV (bK ?_)))))))))
   refine bL hh 1 ?_
   refine aV ?_
   refine dt (aa (cT (sr ?_)))
   refine gb [_,_] ?_
   refine bM hh 0 [_,_] ?_
   intro ws hh
   replace hh : Hp _ (.blk _ _ [_, _] _ :: _) _ := hh
   refine aI (aa (aq (aM ?_)))
   refine wP (aY rfl (aX (vs := [_, _]) aD.out (hh.ax (i := 0) (n := 2) rfl rfl) rfl) (dq (ew rfl) bC)) ?_
   exact .inl ⟨.inr ⟨h0, by rw [hrz]; decide, by rw [hrz]; rfl⟩, hh.below⟩
 ·refine al (N := 66) (l := [.agg #[.slice f.A f.n f.a, .slice f.B f.m f.b], .slice E q cE]) Tryz.func23 rfl rfl (by simp) ?_
  refine sr ?_
  refine dw hh [_,_] ?_
  intro b2 w2 hh
  refine cu hh ?_
  intro b4 w4 hh
  refine aI (aa (ah (sr ?_)))
  refine cP hh 1 [_,_] ?_
  refine bF hh (hck _ (hT.hp hh) hh.below) rfl ?_
  intro w11 hh
  refine aI (aa (sr (mI ?_)))
  refine dt (aa (cT (sr ?_)))
  refine gb [_,_] (mI ?_)
  refine bM hh 0 [_,_] ?_
  intro ws hh
  replace hh : Hp _ (.blk _ _ [_, _] _ :: _) _ := hh
  refine aI (aa (aq (aM ?_)))
  refine wP (aY rfl (aX (vs := [_, _]) aD.out (hh.ax (i := 0) (n := 2) rfl rfl) rfl) (dq (ew rfl) bC)) ?_
  exact .inl ⟨.inl ⟨h0, rfl⟩, hh.below⟩
end Go.Proofs.YtioilmppidlbnaaGreatDoor
/- The walk through lift.raised. -/
namespace Go.Proofs.YtioilmppidlbnaaGreatDoor
open Go.RowKit
def FX.eG (f : FX) : HE := .row f.B f.m f.b 39 3 (bG NR.cells f.cs)
def FX.eB (f : FX) : HE := .row f.A f.n f.a 3 1 (bI f.ds)
def gM : List FX → List HE
 | [] => []
 | f :: fs => f.eG :: f.eB :: gM fs
theorem pX (a b : List FX) : gM (a ++ b) = gM a ++ gM b := by
 induction a with
 | nil => rfl
 | cons f a ih => rw [List.cons_append, gM, gM, ih]; rfl
theorem uD {f : FX} {fs : List FX} (h : f ∈ fs) : f.eG ∈ gM fs ∧ f.eB ∈ gM fs := by
 induction fs with
 | nil => cases h
 | cons g fs ih =>
  rcases List.mem_cons.1 h with rfl | h
  ·exact ⟨List.mem_cons_self, List.mem_cons_of_mem _ List.mem_cons_self⟩
  ·exact ⟨List.mem_cons_of_mem _ (List.mem_cons_of_mem _ (ih h).1), List.mem_cons_of_mem _ (List.mem_cons_of_mem _ (ih h).2)⟩
theorem Hp.gY {w0 w : World} {H : List HE} (h : Hp w0 H w) {f : FX} (h1 : f.eG ∈ H) (h2 : f.eB ∈ H) : f.at_ w := ⟨kg (h.own _ h2), kg (h.own _ h1)⟩
def fR (a b : List Nat) : List Nat := List.zipWith max a b
def maxD (fs : List FX) : List Nat := fs.foldl (fun a f => fR a (f.ds.map Int.toNat)) ((fs.map fun f => f.ds.map Int.toNat).headD [])
def cx (fs : List FX) : Int := if fD fs ≠ 0 then fD fs else if 4096 < au (maxD fs) then 3 else 0
theorem jF {fs : List FX} (h : fD fs = 0) : fs ≠ [] ∧ (∀ f ∈ fs, f.e = 0) ∧ ∀ f ∈ fs, f.n = (fs.map FX.n).headD 0 := by
 unfold fD at h
 split at h
 ·rename_i f hf
  have := List.find?_some hf
  simp at this
  exact absurd h this
 ·rename_i hf
  split at h
  ·cases h
  rename_i hno
  refine ⟨fun e => hno (.inl (by rw [e]; rfl)), fun f hm => ?_, fun f hm => ?_⟩
  ·have := List.find?_eq_none.1 hf f hm
   simpa using this
  ·apply Classical.byContradiction
   intro hne
   exact hno (.inr (List.any_eq_true.2 ⟨f, hm, decide_eq_true hne⟩))
theorem jh {a b : List Nat} (h : a.length = b.length) : (fR a b).length = a.length := by simp [fR, h]
theorem pS {a b : List Nat} {i x y : Nat} (h1 : a[i]? = some x) (h2 : b[i]? = some y) : (fR a b)[i]? = some (max x y) := by
 unfold fR
 rw [List.getElem?_zipWith, h1, h2]
theorem ph : ∀ (ls : List (List Nat)) (a : List Nat), (∀ l ∈ ls, l.length = a.length) → (ls.foldl fR a).length = a.length ∧ (∀ (i x y : Nat), a[i]? = some x → (ls.foldl fR a)[i]? = some y → x ≤ y) ∧ ∀ l ∈ ls, ∀ (i x y : Nat), l[i]? = some x → (ls.foldl fR a)[i]? = some y → x ≤ y
 | [], a, _ => ⟨rfl, fun i x y h1 h2 => by have h3 : a[i]? = some y := h2; rw [h1] at h3; cases h3; exact Nat.le_refl _, fun _ h => nomatch h⟩
 | l :: ls, a, h => by
  have hl := h l List.mem_cons_self
  have h2 := jh hl.symm
  obtain ⟨h3, h4, h5⟩ := ph ls (fR a l) fun m hm => by rw [h2]; exact h m (List.mem_cons_of_mem _ hm)
  refine ⟨by rw [List.foldl_cons, h3, h2], fun i x y hx hy => ?_, fun m hm i x y hx hy => ?_⟩
  ·have hi := (List.getElem?_eq_some_iff.1 hx).1
   obtain ⟨z, hz⟩ := ay (l := l) (k := i) (by omega)
   have := h4 i (max x z) y (pS hx hz) hy
   omega
  ·rcases List.mem_cons.1 hm with rfl | hm
   ·have hi := (List.getElem?_eq_some_iff.1 hx).1
    obtain ⟨z, hz⟩ := ay (l := a) (k := i) (by omega)
    have := h4 i (max z x) y (pS hz hx) hy
    omega
   ·exact h5 m hm i x y hx hy
theorem pK (B : Nat) : ∀ (ls : List (List Nat)) (a : List Nat), (∀ x ∈ a, x ≤ B) → (∀ l ∈ ls, ∀ x ∈ l, x ≤ B) → ∀ x ∈ ls.foldl fR a, x ≤ B
 | [], _, h, _ => h
 | l :: ls, a, h, h2 => pK B ls (fR a l) (fun x hx => by
   obtain ⟨i, hi⟩ := List.mem_iff_getElem?.1 hx
   unfold fR at hi
   rw [List.getElem?_zipWith] at hi
   cases h3 : a[i]? with
   | none => rw [h3] at hi; cases hi
   | some p =>
    cases h4 : l[i]? with
    | none => rw [h3, h4] at hi; cases hi
    | some q =>
     rw [h3, h4] at hi
     have h5 : max p q = x := by simpa using hi
     have := h p (List.mem_of_getElem? h3)
     have := h2 l List.mem_cons_self q (List.mem_of_getElem? h4)
     omega) fun m hm => h2 m (List.mem_cons_of_mem _ hm)
end Go.Proofs.YtioilmppidlbnaaGreatDoor
/- The walk through lift.raised. -/
namespace Go.Proofs.YtioilmppidlbnaaGreatDoor
open Go.RowKit
def FX.ns (f : FX) : List Nat := f.ds.map Int.toNat
theorem FX.fv {f : FX} (h : f.e = 0) : f.ds = bp f.ns ∧ f.cs = (f.cs.map NR.d).map nR ∧ f.ns.length ≤ 12 ∧ (∀ d ∈ f.ns, d ≤ 127) ∧ f.cs.length = au f.ns ∧ au f.ns ≤ 4096 := by
 obtain ⟨ns, xs, hv, hxs⟩ := yM h
 obtain ⟨h1, h2, h3, h4, h5, h6⟩ := hv
 have e : f.ns = ns := by unfold FX.ns; rw [h1]; exact fY ns
 subst hxs
 rw [e]
 exact ⟨h1, h2, h3, h4, by simpa using h5, h6⟩
structure u3 (D : List Nat) (ys : List Dyadic) (g : FX) : Prop where
 ds : g.ds = bp D
 cs : g.cs = ys.map nR
 n : g.n = D.length
 m : g.m = au D
def gx (D : List Nat) (f : FX) : List Dyadic := k4 f.ns D (f.cs.map NR.d)
def nE (a b : List Nat) (j : Nat) : List Nat := (fR a b).take j ++ a.drop j
theorem vK {a b : List Nat} {j x y : Nat} (h : a.length = b.length) (hx : a[j]? = some x) (hy : b[j]? = some y) : (bp (nE a b j)).set j ((max x y : Nat) : Int) = bp (nE a b (j + 1)) := by
 have hj := (List.getElem?_eq_some_iff.1 hx).1
 unfold nE
 rw [jB hx, aO (pS hx hy)]
 have hl : (bp ((fR a b).take j)).length = j := by rw [cL, List.length_take, jh h]; omega
 have e1 : bp ((fR a b).take j ++ x :: a.drop (j + 1)) = bp ((fR a b).take j) ++ (x : Int) :: bp (a.drop (j + 1)) := by simp [bp]
 rw [e1, kt _ _ _ _ _ hl]
 simp [bp]
theorem xG {a b : List Nat} {j x : Nat} (h : a.length = b.length) (hx : a[j]? = some x) : (nE a b j)[j]? = some x := by
 have hj := (List.getElem?_eq_some_iff.1 hx).1
 have hl : ((fR a b).take j).length = j := by rw [List.length_take, jh h]; omega
 unfold nE
 rw [List.getElem?_append_right (by omega), hl, Nat.sub_self, List.getElem?_drop, Nat.add_zero, hx]
theorem wh {a b : List Nat} {j : Nat} (h : a.length = b.length) (hj : j ≤ a.length) : (nE a b j).length = a.length := by
 unfold nE
 rw [List.length_append, List.length_take, jh h, List.length_drop]
 omega
theorem jP (L : Option Addr) (n c : Nat) (fs : List FX) (k : Nat) (w : World) (hT : fQ w) (hL : Sl w L n 2 (bG FX.cells fs)) (hn : n ≤ 1000) (hf : ∀ f ∈ fs, f.at_ w) (hl : ∀ f ∈ fs, f.iA k) (hm : ∀ f ∈ fs, f.m ≤ 200) (hk : k ≤ 90000) :
  Calls Tryz.prog 54 #[.slice L n c] w fun r w' => (cx fs ≠ 0 ∧ r = .returned (.tuple #[.slice none 0 0, .int .i64 (cx fs)]) ∧ Below w.heap.size w w') ∨
   (cx fs = 0 ∧ ∃ (A : Option Addr) (a : Nat) (gs : List FX), r = .returned (.tuple #[.slice A n a, .int .i64 0]) ∧ gs.length = n ∧ (∀ (i : Nat) (f g : FX), fs[i]? = some f → gs[i]? = some g → u3 (maxD fs) (gx (maxD fs) f) g) ∧ Hp w (.row A n a 28 2 (bG FX.cells gs) :: gM gs.reverse) w') := by
 have hh := Hp.start w
 have hln := hL.cR FX.len (by decide)
 have hlk := fun w1 hT1 hb => lW L n c fs k w1 hT1 (hL.ext hb) (by omega) (fun f hm => (hf f hm).ext hb) hl
 unfold cx
 by_cases h0 : fD fs = 0
 ·obtain ⟨hne, hev, hnv⟩ := jF h0
  obtain ⟨f0, h00⟩ := ay (l := fs) (k := 0) (List.length_pos_iff.2 hne)
  have hm0 := List.mem_of_getElem? h00
  have hnn : ∀ f ∈ fs, f.n = f0.n := fun f hm => by
   rw [hnv f hm]
   rcases fs with _ | ⟨g, l⟩
   ·cases h00
   ·have : g = f0 := by simpa using h00
    rw [← this]; rfl
  have hnsl : ∀ f ∈ fs, f.ns.length = f0.n := fun f hm => by
   have h1 := (hf f hm).dg.1
   rw [bR] at h1
   have h2 := hnn f hm
   unfold FX.ns
   rw [List.length_map]
   omega
  have hlow : ∀ f ∈ fs, ∀ d ∈ f.ns, d ≤ 127 := fun f hm => (FX.fv (hev f hm)).2.2.2.1
  have hdsn : ∀ f ∈ fs, f.ds = bp f.ns := fun f hm => (FX.fv (hev f hm)).1
  have h12 : f0.n ≤ 12 := by have := (FX.fv (hev f0 hm0)).2.2.1; rw [hnsl f0 hm0] at this; exact this
  have hDe : maxD fs = (fs.map FX.ns).foldl fR f0.ns := by
   unfold maxD
   rw [List.foldl_map]
   congr 1
   rcases fs with _ | ⟨g, l⟩
   ·cases h00
   ·have : g = f0 := by simpa using h00
    rw [← this]; rfl
  obtain ⟨ad, rfl, hr⟩ := hL.at_ (by have := (List.getElem?_eq_some_iff.1 h00).1; omega)
  have hn0 : 0 < n := by have := (List.getElem?_eq_some_iff.1 h00).1; omega
  rw [if_neg (by omega)]
  have hA0 := hnsl f0 hm0
  have hF := fun i => ph ((fs.take i).map FX.ns) f0.ns fun l hl => by
   obtain ⟨f, hf2, rfl⟩ := List.mem_map.1 hl
   rw [hnsl f (List.mem_of_mem_take hf2), hA0]
  refine al (N := 71) (l := [.slice (some ad) n c]) Tryz.func54 rfl rfl (by simp) ?_
  refine sr (aL (aI (aa (ah (sr (mL ?_))))))
  refine bF hh (hlk _ (hT.hp hh) hh.below) rfl ?_
  intro w16 hh
  refine aI (aa (sr (mI ?_)))
  refine dt (aa (cF (ak (ai (sr (mL ?_))))))
  refine aC (k := 0) aH.out aD.size rfl rfl (by omega) (by omega) (by decide) ?_
  refine iP ej.out rfl (by decide) ?_
  refine aK aD.out rfl (cv hh.below ((hr.recAt FX.len h00) 0 _ rfl)) (by decide) ?_
  refine aR (kF f0.A f0.n f0.a f0.ds _ ((hf f0 hm0).dg.ext hh.below) (by have := (hl f0 hm0).AL; omega)) av.out rfl (by decide) ?_
  rintro e_ w24 ⟨A24, c24, rfl, hown_, hb_⟩
  refine ⟨_, rfl, ?_⟩
  replace hh := hh.bu (x := .row _ _ _ _ _ _) hb_ hown_
  refine aL (aa (ah (sr (mL (aV (mI (aa (aj ?_))))))))
  rw [hdsn f0 hm0] at hh
  refine bo [7, 8, 9, 27, 28, 29, 30, 31, 32, 33, 34, 35, 36, 37, 38, 39, 40, 41, 42, 43, 44, 45, 46, 47, 48, 49] 27
   (fun v w' => ∃ i : Nat, i ≤ n ∧ v = .int .i64 i ∧ Hp w [.row A24 f0.n c24 3 1 (bI (bp (((fs.take i).map FX.ns).foldl fR f0.ns)))] w')
   (fun v _ => n - (intOf v).toNat) ?_ ?_
  ·exact ⟨0, Nat.zero_le _, rfl, hh⟩
  ·clear hh
   rintro ρ' v w' ⟨i, hi, rfl, hh⟩
   by_cases hlt : i < n
   ·obtain ⟨f, hx⟩ := ay (l := fs) (k := i) (by omega)
    have hmem := List.mem_of_getElem? hx
    have hfold : ((fs.take (i + 1)).map FX.ns).foldl fR f0.ns = fR (((fs.take i).map FX.ns).foldl fR f0.ns) f.ns := by rw [aO hx, List.map_append, List.foldl_append]; rfl
    have hal := (hF i).1
    generalize ((fs.take i).map FX.ns).foldl fR f0.ns = a at *
    have hab : a.length = f.ns.length := by rw [hal, hA0, hnsl f hmem]
    have hfd := hdsn f hmem
    have hfn := hnn f hmem
    have hfl := hnsl f hmem
    refine sr ?_
    refine aJ (aa (ah (cT (ak (ai (ah (aj (sr ?_))))))))
    refine aC (k := i) aH.out aD.size rfl rfl (by omega) (by omega) (by decide) ?_
    refine cI (vs := [_, _]) aD.out rfl ((hr.ext hh.below).recAt FX.len hx) rfl (by decide) ?_
    refine cu hh ?_
    intro b7 w7 hh
    refine bM hh 0 [_,_] ?_
    intro ws hh
    replace hh : Hp _ (.blk _ _ [_, _] _ :: _) _ := hh
    refine aa (sr (bK ?_))
    refine bL hh 0 ?_
    refine aV (mI (aa (aj ?_)))
    refine bo [8, 9, 34, 35, 36, 37, 38, 39, 40, 41, 42, 43, 44, 45, 46, 47, 48] 34
     (fun v w' => ∃ j : Nat, j ≤ f0.n ∧ v = .int .i64 j ∧ Hp w [.blk b7 28 [.slice f.A f.n f.a, .slice f.B f.m f.b] (0, 0), .row A24 f0.n c24 3 1 (bI (bp (nE a f.ns j)))] w')
     (fun v _ => f0.n - (intOf v).toNat) ?_ ?_
    ·refine ⟨0, Nat.zero_le _, rfl, ?_⟩
     show Hp w [_, .row A24 f0.n c24 3 1 (bI (bp (List.take 0 _ ++ List.drop 0 a)))] _
     rw [List.take_zero, List.nil_append, List.drop_zero]
     exact hh
    ·clear hh
     rintro ρ2 v w2 ⟨j, hj, rfl, hh⟩
     by_cases hjn : j < f0.n
     ·obtain ⟨x, hxa⟩ := ay (l := a) (k := j) (by omega)
      obtain ⟨y, hyb⟩ := ay (l := f.ns) (k := j) (by omega)
      have hgx := bX (dY (xG hab hxa))
      have hgy : (bI f.ds)[j]? = some (.int .i64 (y : Int)) := by rw [hfd]; exact bX (dY hyb)
      have hml : (bI (bp (nE a f.ns j))).length = f0.n := by rw [bR, cL, wh hab (by omega)]; omega
      obtain ⟨a2, hA2, s2⟩ := (hf f hmem).dg.at_ (by omega)
      have hev : Value.slice f.A f.n f.a = .slice (some a2) f.n f.a := by rw [hA2]
      obtain ⟨gd, rfl⟩ := hh.ed (i := 1) rfl (by omega)
      refine sr ?_
      refine aJ (aa (ah (cT (ak (ai (ah (aj (sr (mI ?_)))))))))
      refine aC (k := j) aH.out aD.size hev rfl (by omega) (by omega) (by decide) ?_
      refine aK aD.out rfl (cv hh.below (s2.eC hgy)) (by decide) ?_
      refine aI (aI (aa (ao (mL (mI (mL (mI ?_)))))))
      refine bm (k := j) aH.out aD.size rfl rfl (by omega) (by omega) (by decide) ?_
      refine aK aD.out rfl (hh.ct (i := 1) rfl (by first | assumption | (simp only [Nat.mul_one]; assumption))) (by decide) ?_
      refine mI ?_
      refine iV rfl rfl (by decide) ?_
      refine bm aH.out aD.size rfl rfl rfl (by omega) (by decide) ?_
      have hmx : (if (y : Int) > (x : Int) then (y : Int) else (x : Int)) = ((max x y : Nat) : Int) := by split <;> omega
      refine bq hh (i := 1) (vs := [_]) rfl rfl (bJ rfl) rfl aD.out rfl (by omega) rfl ?_
      intro ws hh
      simp only [List.set_cons_zero, List.set_cons_succ] at hh
      rw [hmx, fB _ (by rw [← bR]; omega), vK hab hxa hyb] at hh
      refine aE (aW (ai (ao ?_)))
      refine bx (mI (aE (ai ?_)))
      refine ⟨⟨j + 1, by omega, rfl, hh⟩, by show f0.n - (j + 1) < f0.n - j; omega, ?_⟩
      (repeat (first | exact aw _ _ _ | refine aA rfl ?_ | refine ar rfl ?_))
     ·obtain rfl : j = f0.n := by omega
      have hmf : nE a f.ns f0.n = fR a f.ns := by
       unfold nE
       rw [List.take_of_length_le (by rw [jh hab]; omega), List.drop_of_length_le (by omega), List.append_nil]
      rw [hmf, ← hfold] at hh
      refine sr ?_
      refine aJ (aa (ah (cF ?_)))
      refine aN ?_
      refine az (az (a7 (aW (ai (ao ?_)))))
      refine bx (mI (aE (ai ?_)))
      replace hh := hh.sub (List.Sublist.cons _ (List.Sublist.cons_cons _ List.Sublist.slnil))
      refine ⟨⟨i + 1, by omega, rfl, hh⟩, by show n - (i + 1) < n - i; omega, ?_⟩
      (repeat (first | exact aw _ _ _ | refine aA rfl ?_ | refine ar rfl ?_))
   ·obtain rfl : i = n := by omega
    have hDl := (hF i).1
    have hDg := fun (f : FX) (hm : f ∈ fs) => (hF i).2.2 f.ns (List.mem_map.2 ⟨f, by rw [List.take_of_length_le (by omega)]; exact hm, rfl⟩)
    have hDb := pK 127 ((fs.take i).map FX.ns) f0.ns (hlow f0 hm0) fun l hl => by
     obtain ⟨f, hf2, rfl⟩ := List.mem_map.1 hl
     exact hlow f (List.mem_of_mem_take hf2)
    rw [List.take_of_length_le (by omega), ← hDe] at hDl hDb hh
    simp only [List.take_of_length_le (show fs.length ≤ i by omega), ← hDe] at hDg
    clear hF hDe
    generalize maxD fs = D at *
    have hrz : ∀ f ∈ fs, rF f.ds (bp D) = if 4096 < au D then 3 else 0 := fun f hm => by
     unfold rF
     have e1 : (f.ds.zip (bp D)).any kX = false := List.any_eq_false.2 fun p hp => by
      obtain ⟨j, hj⟩ := List.mem_iff_getElem?.1 hp
      rw [List.getElem?_zip_eq_some] at hj
      obtain ⟨j1, j2⟩ := hj
      rw [hdsn f hm] at j1
      unfold bp at j1 j2
      rw [List.getElem?_map] at j1 j2
      obtain ⟨x, hx, hx2⟩ := Option.map_eq_some_iff.1 j1
      obtain ⟨y, hy, hy2⟩ := Option.map_eq_some_iff.1 j2
      have := hDg f hm j x y hx hy
      have := hDb y (List.mem_of_getElem? hy)
      unfold kX
      rw [decide_eq_true_eq]
      omega
     rw [if_neg (by rw [cL, hdsn f hm, cL, hnsl f hm]; omega), if_neg (by rw [e1]; decide), fY]
    refine sr ?_
    refine aJ (aa (ah (cF ?_)))
    refine aN ?_
    refine az (az (a7 (ai (sr (aL (aa (ah (sr (mL (aV (mI ?_)))))))))))
    refine aa (aj ?_)
    replace hh := hh.eI 28 2
    refine bW [2, 3, 10, 12, 13, 14, 52, 53, 54, 55, 56, 57, 58, 59, 60, 61, 62, 63, 64, 65, 66, 67, 68, 69] 10 52
     (fun v10 v w' => ∃ (j c10 : Nat) (A : Option Addr) (gs : List FX), j ≤ i ∧ v = .int .i64 j ∧ v10 = .slice A j c10 ∧ gs.length = j ∧ (0 < j → ¬ 4096 < au D) ∧ (∀ (t : Nat) (f g : FX), fs[t]? = some f → gs[t]? = some g → u3 D (gx D f) g) ∧ Hp w (.row A j c10 28 2 (bG FX.cells gs) :: .row A24 f0.n c24 3 1 (bI (bp D)) :: gM gs.reverse) w')
     (fun _ v _ => i - (intOf v).toNat) ?_ ?_
    ·exact ⟨0, 0, none, [], Nat.zero_le _, rfl, rfl, rfl, fun h => absurd h (Nat.lt_irrefl 0), fun t f g _ h => by simp at h, hh⟩
    ·clear hh
     rintro ρ' v10 v w' ⟨j, c10, A, gs, hj, rfl, rfl, hgl, hno, hup, hh⟩
     by_cases hlt : j < i
     ·obtain ⟨f, hx⟩ := ay (l := fs) (k := j) (by omega)
      have hmem := List.mem_of_getElem? hx
      refine sr ?_
      refine aJ (aa (ah (cT (ak (ai (ah (aj (sr ?_))))))))
      refine aC (k := j) aH.out aD.size rfl rfl (by omega) (by omega) (by decide) ?_
      refine cI (vs := [_, _]) aD.out rfl ((hr.ext hh.below).recAt FX.len hx) rfl (by decide) ?_
      refine cu hh ?_
      intro b12 w12 hh
      refine bM hh 0 [_,_] ?_
      intro ws hh
      replace hh : Hp _ (.blk _ _ [_, _] _ :: _) _ := hh
      refine aa (sr ?_)
      refine cP hh 0 [_,_] (mL ?_)
      have hrs := fun w1 hT1 hb hE => kZ f A24 f0.n c24 (bp D) k w1 hT1 ((hf f hmem).ext hb) (hl f hmem) hE (by omega) hk
      rw [hrz f hmem, fY] at hrs
      by_cases h4 : 4096 < au D
      ·rw [if_pos h4] at hrs
       have hra := fun w1 hT1 hb hE => (hrs w1 hT1 hb hE fun _ h => nomatch h).mono fun r w' h => show r = wT 3 ∧ Below w1.heap.size w1 w' from by
        rcases h with ⟨h | h, hb2⟩ | h
        ·exact absurd (hev f hmem) h.1
        ·exact ⟨h.2.2, hb2⟩
        ·exact nomatch h.2.1
       refine bF hh (hra _ (hT.hp hh) hh.below (hh.aQ (i := 2) rfl)) rfl ?_
       intro w59 hh
       refine mT ?_
       refine dE ?_
       refine dE ?_
       refine cu hh ?_
       intro b13 w13 hh
       refine bM hh 0 [_,_] ?_
       intro ws hh
       replace hh : Hp _ (.blk _ _ [_, _] _ :: _) _ := hh
       refine aI (aa (ah (sr (mI ?_))))
       refine dt (aa (cT (sr (mI (aL (aI (aa (aq (aM (bO (aM ?_)))))))))))
       refine aM (bO (aM ?_))
       refine yL ?_
       rw [if_pos h4]
       exact .inl ⟨by decide, rfl, hh.below⟩
      ·rw [if_neg h4] at hrs
       have hnn2 : f.ds.map Int.toNat = f.ns := rfl
       rw [hnn2] at hrs
       have hfc : au f.ns ≤ 200 := by
        have h1 := (FX.fv (hev f hmem)).2.2.2.2.1
        have h2 := (hf f hmem).nm.cR NR.len (by decide)
        have h3 := hm f hmem
        omega
       have hmul : au D * au f.ns ≤ 1000000 := Nat.le_trans (Nat.mul_le_mul (Nat.le_of_not_lt h4) hfc) (by decide)
       have hra := fun w1 hT1 hb hE => (hrs w1 hT1 hb hE fun _ _ => hmul).mono fun r w' h => show ∃ g : FX, u3 D (gx D f) g ∧ r = .returned (.tuple #[.agg #[.slice g.A g.n g.a, .slice g.B g.m g.b], .int .i64 0]) ∧ Hp w1 [g.eG, g.eB] w' from by
        rcases h with ⟨h | h, hb2⟩ | ⟨_, _, A1, a1, B1, b1, rfl, h2⟩
        ·exact absurd (hev f hmem) h.1
        ·exact absurd rfl h.2.1
        ·exact ⟨⟨A1, f0.n, a1, B1, au D, b1, bp D, _⟩, ⟨rfl, rfl, by rw [← hA0]; exact hDl.symm, rfl⟩, rfl, h2⟩
       refine aR (hra _ (hT.hp hh) hh.below (hh.aQ (i := 2) rfl)) av.out rfl (by decide) ?_
       rintro e_ w59 ⟨g, hu, rfl, h2⟩
       refine ⟨_, rfl, ?_⟩
       replace hh := hh.join h2
       clear h2
       refine mT ?_
       refine dE ?_
       refine dE ?_
       refine cu hh ?_
       intro b13 w13 hh
       refine bM hh 0 [_,_] ?_
       intro ws hh
       replace hh : Hp _ (.blk _ _ [_, _] _ :: _) _ := hh
       refine aI (aa (ah (sr (mI ?_))))
       refine dt (aa (cF (ak (ai (ao (mL ?_))))))
       refine cP hh 0 [_,_] ?_
       refine aG hh (cs := [_, _]) aH.out aD.out (aF (cM rfl) bE) rfl rfl (by decide) (by decide) (by decide) rfl (by decide) ?_
       intro b67 w67 hh
       refine dL hh (i := 5) rfl rfl rfl (hh.aQ (i := 0) rfl) aH.out aD.out rfl (by decide) (by first | rfl | exact db _ | exact cC _ | exact cA _ | exact cD NR.one _) (by omega) (by omega) (by decide) ?_
       intro A68 c68 w68 hh
       simp only [List.set_cons_succ] at hh
       replace hh := hh.sub (List.sublist_cons_self _ _)
       refine aL (aE (aW (ai (ao ?_))))
       refine bx (mI (aE (ai ?_)))
       replace hh := hh.sub (List.Sublist.cons _ (List.Sublist.cons_cons _ (List.Sublist.cons_cons _ (List.Sublist.cons _ (List.Sublist.cons_cons _ (List.Sublist.cons_cons _ (List.Sublist.refl _)))))))
       replace hh := hh.perm (H' := .row A68 (j + 1) c68 28 2 (bG FX.cells (gs ++ [g])) :: .row A24 f0.n c24 3 1 (bI (bp D)) :: gM (gs ++ [g]).reverse) (by
        rw [List.reverse_append, eN]
        exact List.perm_append_comm_assoc [g.eG, g.eB] [_, _] _)
       refine ⟨⟨j + 1, c68, A68, gs ++ [g], by omega, rfl, rfl, by rw [List.length_append, hgl]; rfl, fun _ => h4, fun t f' g' hf' hg' => ?_, hh⟩, by show i - (j + 1) < i - j; omega, ?_⟩
       ·by_cases ht : t < j
        ·rw [List.getElem?_append_left (by omega)] at hg'
         exact hup t f' g' hf' hg'
        ·have htl := (List.getElem?_eq_some_iff.1 hg').1
         rw [List.length_append, hgl] at htl
         obtain rfl : t = j := by have : t < j + 1 := htl; omega
         rw [List.getElem?_append_right (by omega), hgl, Nat.sub_self] at hg'
         rw [hx] at hf'
         obtain rfl := Option.some.inj hf'
         obtain rfl : g = g' := Option.some.inj hg'
         exact hu
       ·(repeat (first | exact aw _ _ _ | refine aA rfl ?_ | refine ar rfl ?_))
     ·obtain rfl : j = i := by omega
      have h4 := hno (by omega)
      refine sr ?_
      refine aJ (aa (ah (cF ?_)))
      refine aN ?_
      refine az (az (a7 (ai (sr (mL (aL (aI (aa (aq ?_)))))))))
      refine yL ?_
      rw [if_neg h4]
      exact .inr ⟨rfl, A, c10, gs, rfl, hgl, hup, hh.sub (List.Sublist.cons_cons _ (List.sublist_cons_self _ _))⟩
 ·rw [if_pos h0]
  refine al (N := 71) (l := [.slice L n c]) Tryz.func54 rfl rfl (by simp) ?_
  refine sr (aL (aI (aa (ah (sr (mL ?_))))))
  refine bF hh (hlk _ (hT.hp hh) hh.below) rfl ?_
  intro w16 hh
  refine aI (aa (sr (mI ?_)))
  refine dt (aa (cT (sr (mI (aL (aI (aa (aq (aM ?_)))))))))
  refine yL ?_
  exact .inl ⟨h0, rfl, hh.below⟩
end Go.Proofs.YtioilmppidlbnaaGreatDoor
/- The walks through lift.Both and lift.Add. -/
namespace Go.Proofs.YtioilmppidlbnaaGreatDoor
open Go.RowKit
theorem re (f g : FX) (k : Nat) (w : World) (hT : fQ w) (hf : f.at_ w) (hg : g.at_ w) (hlf : f.iA k) (hlg : g.iA k) (hmf : f.m ≤ 200) (hmg : g.m ≤ 200) (hk : k ≤ 90000) :
  Calls Tryz.prog 25 #[.agg #[.slice f.A f.n f.a, .slice f.B f.m f.b], .agg #[.slice g.A g.n g.a, .slice g.B g.m g.b]] w fun r w' =>
   (cx [f, g] ≠ 0 ∧ r = .returned (.tuple #[.agg #[.slice none 0 0, .slice none 0 0], .agg #[.slice none 0 0, .slice none 0 0], .int .i64 (cx [f, g])]) ∧ Below w.heap.size w w') ∨
   (cx [f, g] = 0 ∧ ∃ x y : FX, u3 (maxD [f, g]) (gx (maxD [f, g]) f) x ∧ u3 (maxD [f, g]) (gx (maxD [f, g]) g) y ∧ r = .returned (.tuple #[.agg #[.slice x.A x.n x.a, .slice x.B x.m x.b], .agg #[.slice y.A y.n y.a, .slice y.B y.m y.b], .int .i64 0]) ∧ Hp w [y.eG, y.eB, x.eG, x.eB] w') := by
 have hh := Hp.start w
 have hall : ∀ x ∈ [f, g], x.at_ w ∧ x.iA k ∧ x.m ≤ 200 := by simpa using ⟨⟨hf, hlf, hmf⟩, hg, hlg, hmg⟩
 have hrs := fun A c w1 hT1 hS1 hb => jP A 2 c [f, g] k w1 hT1 hS1 (by decide) (fun x hx => (hall x hx).1.ext hb) (fun x hx => (hall x hx).2.1) (fun x hx => (hall x hx).2.2) hk
 generalize cx [f, g] = e at *
 generalize maxD [f, g] = D at *
 by_cases h0 : e = 0
 ·have hra := fun A c w1 hT1 hS1 hb => (hrs A c w1 hT1 hS1 hb).mono fun r w' h => show ∃ (B : Option Addr) (a : Nat) (x y : FX), u3 D (gx D f) x ∧ u3 D (gx D g) y ∧ r = .returned (.tuple #[.slice B 2 a, .int .i64 0]) ∧ Hp w1 [.row B 2 a 28 2 (bG FX.cells [x, y]), y.eG, y.eB, x.eG, x.eB] w' from by
   rcases h with h | ⟨_, B, a, gs, h1, h2, h3, h4⟩
   ·exact absurd h0 h.1
   ·obtain ⟨x, y, rfl⟩ : ∃ x y, gs = [x, y] := by
     match gs, h2 with
     | [x, y], _ => exact ⟨x, y, rfl⟩
    exact ⟨B, a, x, y, h3 0 f x rfl rfl, h3 1 g y rfl rfl, h1, h4⟩
  refine al (N := 26) (l := [.agg #[.slice f.A f.n f.a, .slice f.B f.m f.b], .agg #[.slice g.A g.n g.a, .slice g.B g.m g.b]]) Tryz.func25 rfl rfl (by simp) ?_
  refine sr ?_
  refine dw hh [_,_] ?_
  intro b2 w2 hh
  refine dw hh [_,_] ?_
  intro b3 w3 hh
  refine cu hh ?_
  intro b4 w4 hh
  refine cu hh ?_
  intro b5 w5 hh
  refine aI (aa (sr ?_))
  refine cP hh 3 [_,_] ?_
  refine cP hh 2 [_,_] ?_
  refine aG hh (cs := [_, _, _, _]) aH.out aD.out (aF (cM rfl) (aF (cM rfl) bE)) rfl rfl (by decide) (by decide) (by decide) rfl (by decide) ?_
  intro b11 w11 hh
  refine aR (hra _ _ _ (hT.hp hh) (hh.aQ (i := 0) rfl) hh.below) av.out rfl (by decide) ?_
  rintro e_ w12 ⟨B, a, x, y, hx, hy, rfl, h2⟩
  refine ⟨_, rfl, ?_⟩
  replace hh := hh.join h2
  obtain ⟨go, rfl⟩ := hh.ed (i := 0) rfl (by omega)
  refine mT ?_
  refine dE ?_
  refine dE ?_
  refine aL (aI (aa (ah (sr (mI ?_)))))
  refine dt (aa (cF (ak (ai (ah ?_)))))
  have hx0 : [x, y][0]? = some x := rfl
  have hy0 : [x, y][1]? = some y := rfl
  refine vf [3, 4, 5] [0, 1, 3, 0, 8, 24, 7, 127, 255] 6 [[(7, none)], [(20, some 0)], [(21, some 1)], [(7, none)], [(23, some 3)], [(24, some 4)]] [(5, 25), (4, 24), (3, 23), (2, 22), (1, 21), (0, 20)] [([], 5, [(2, 22), (1, 21), (0, 20)]), ([3], 4, [(3, 23), (2, 22), (1, 21), (0, 20)]), ([3, 4], 3, [(4, 24), (3, 23), (2, 22), (1, 21), (0, 20)]), ([3, 4, 5], 2, [(5, 25), (4, 24), (3, 23), (2, 22), (1, 21), (0, 20)])] hh mixed (by kernel_rfl) (by kernel_rfl) (by decide) ?_
  refine iC ?_
  refine bh (i := 1) (fun ρ1 w1 hj hR => cw aH.out aD.size (show ρ1 20 = Value.slice _ _ _ from hR.1) rfl (by omega) (by omega)) ?_
  refine xh [_,_] (fun _ hj => hj.hp.gy (f := FX.cells) (x := x) (l := [x, y]) (i := 0) rfl FX.len (by decide) hx0) ?_
  refine iC ?_
  refine bh (i := 4) (fun ρ1 w1 hj hR => cw aH.out aD.size (show ρ1 23 = Value.slice _ _ _ from hR.1) rfl (by omega) (by omega)) ?_
  refine xh [_,_] (fun _ hj => hj.hp.gy (f := FX.cells) (x := y) (l := [x, y]) (i := 0) rfl FX.len (by decide) hy0) ?_
  refine bA ?_
  intro p_ hp_
  simp only [List.mem_cons, List.not_mem_nil, or_false] at hp_
  rcases hp_ with rfl | rfl | rfl | rfl
  ·intro f W hJ hV
   have hb_4 := hJ.bl
   obtain ⟨v22, v21, v20, _⟩ := hV
   simp only [iW]
   have e20 : f 0 = _ := v20
   rw [e20]
   have e21 : f 1 = _ := v21
   rw [e21]
   have e22 : f 2 = _ := v22
   rw [e22]
   replace hh := hJ.hp
   clear e20 e21 e22 hJ
   refine bM hh 7 [_,_] ?_
   intro ws hh
   replace hh : Hp _ (_ :: _ :: _ :: _ :: _ :: _ :: _ :: .blk _ _ [_, _] _ :: _) _ := hh
   refine dr ?_
   refine eF (i := 3) (by kernel_rfl) rfl ?_
   refine mL ?_
   refine dr ?_
   refine eF (i := 4) (by kernel_rfl) rfl ?_
   refine bm (k := 1) aH.out aD.size rfl rfl (by omega) (by omega) (by decide) ?_
   refine dr ?_
   refine eF (i := 5) (by kernel_rfl) rfl ?_
   refine cI (vs := [_, _]) aD.out rfl (hh.gy (f := FX.cells) (x := y) (l := [x, y]) (i := 0) rfl FX.len (by decide) hy0) rfl (by decide) ?_
   refine dr ?_
   refine eX 7 (by decide) (by kernel_rfl) (by decide) (by kernel_rfl) (by kernel_rfl) ?_
   refine bM hh 6 [_,_] ?_
   intro ws hh
   replace hh : Hp _ (_ :: _ :: _ :: _ :: _ :: _ :: .blk _ _ [_, _] _ :: _) _ := hh
   refine aI (aa (aq ?_))
   refine uo (aY rfl (aX (vs := [_, _]) aD.out (hh.ax (i := 7) (n := 2) rfl rfl) rfl) (aY rfl (aX (vs := [_, _]) aD.out (hh.ax (i := 6) (n := 2) rfl rfl) rfl) (dq (ew rfl) bC))) ?_
   exact .inr ⟨h0, x, y, hx, hy, rfl, hh.sub ((List.sublist_append_left [y.eG, y.eB, x.eG, x.eB] _).cons _)⟩
  ·intro f W hJ hV
   have hb_4 := hJ.bl
   obtain ⟨v23, v22, v21, v20, _⟩ := hV
   simp only [iW]
   have e20 : f 0 = _ := v20
   rw [e20]
   have e21 : f 1 = _ := v21
   rw [e21]
   have e22 : f 2 = _ := v22
   rw [e22]
   have e23 : f 3 = _ := v23
   rw [e23]
   replace hh := hJ.hp
   clear e20 e21 e22 e23 hJ
   refine bM hh 7 [_,_] ?_
   intro ws hh
   replace hh : Hp _ (_ :: _ :: _ :: _ :: _ :: _ :: _ :: .blk _ _ [_, _] _ :: _) _ := hh
   refine dr ?_
   refine eF (i := 4) (by kernel_rfl) rfl ?_
   refine bm (k := 1) aH.out aD.size rfl rfl (by omega) (by omega) (by decide) ?_
   refine dr ?_
   refine eF (i := 5) (by kernel_rfl) rfl ?_
   refine cI (vs := [_, _]) aD.out rfl (hh.gy (f := FX.cells) (x := y) (l := [x, y]) (i := 0) rfl FX.len (by decide) hy0) rfl (by decide) ?_
   refine dr ?_
   refine eX 7 (by decide) (by kernel_rfl) (by decide) (by kernel_rfl) (by kernel_rfl) ?_
   refine bM hh 6 [_,_] ?_
   intro ws hh
   replace hh : Hp _ (_ :: _ :: _ :: _ :: _ :: _ :: .blk _ _ [_, _] _ :: _) _ := hh
   refine aI (aa (aq ?_))
   refine uo (aY rfl (aX (vs := [_, _]) aD.out (hh.ax (i := 7) (n := 2) rfl rfl) rfl) (aY rfl (aX (vs := [_, _]) aD.out (hh.ax (i := 6) (n := 2) rfl rfl) rfl) (dq (ew rfl) bC))) ?_
   exact .inr ⟨h0, x, y, hx, hy, rfl, hh.sub ((List.sublist_append_left [y.eG, y.eB, x.eG, x.eB] _).cons _)⟩
  ·intro f W hJ hV
   have hb_4 := hJ.bl
   obtain ⟨v24, v23, v22, v21, v20, _⟩ := hV
   simp only [iW]
   have e20 : f 0 = _ := v20
   rw [e20]
   have e21 : f 1 = _ := v21
   rw [e21]
   have e22 : f 2 = _ := v22
   rw [e22]
   have e23 : f 3 = _ := v23
   rw [e23]
   have e24 : f 4 = _ := v24
   rw [e24]
   replace hh := hJ.hp
   clear e20 e21 e22 e23 e24 hJ
   refine bM hh 7 [_,_] ?_
   intro ws hh
   replace hh : Hp _ (_ :: _ :: _ :: _ :: _ :: _ :: _ :: .blk _ _ [_, _] _ :: _) _ := hh
   refine dr ?_
   refine eF (i := 5) (by kernel_rfl) rfl ?_
   refine cI (vs := [_, _]) aD.out rfl (hh.gy (f := FX.cells) (x := y) (l := [x, y]) (i := 0) rfl FX.len (by decide) hy0) rfl (by decide) ?_
   refine dr ?_
   refine eX 7 (by decide) (by kernel_rfl) (by decide) (by kernel_rfl) (by kernel_rfl) ?_
   refine bM hh 6 [_,_] ?_
   intro ws hh
   replace hh : Hp _ (_ :: _ :: _ :: _ :: _ :: _ :: .blk _ _ [_, _] _ :: _) _ := hh
   refine aI (aa (aq ?_))
   refine uo (aY rfl (aX (vs := [_, _]) aD.out (hh.ax (i := 7) (n := 2) rfl rfl) rfl) (aY rfl (aX (vs := [_, _]) aD.out (hh.ax (i := 6) (n := 2) rfl rfl) rfl) (dq (ew rfl) bC))) ?_
   exact .inr ⟨h0, x, y, hx, hy, rfl, hh.sub ((List.sublist_append_left [y.eG, y.eB, x.eG, x.eB] _).cons _)⟩
  ·intro f W hJ hV
   have hb_4 := hJ.bl
   obtain ⟨v25, v24, v23, v22, v21, v20, _⟩ := hV
   simp only [iW]
   have e20 : f 0 = _ := v20
   rw [e20]
   have e21 : f 1 = _ := v21
   rw [e21]
   have e22 : f 2 = _ := v22
   rw [e22]
   have e23 : f 3 = _ := v23
   rw [e23]
   have e24 : f 4 = _ := v24
   rw [e24]
   have e25 : f 5 = _ := v25
   rw [e25]
   replace hh := hJ.hp
   clear e20 e21 e22 e23 e24 e25 hJ
   refine bM hh 7 [_,_] ?_
   intro ws hh
   replace hh : Hp _ (_ :: _ :: _ :: _ :: _ :: _ :: _ :: .blk _ _ [_, _] _ :: _) _ := hh
   refine dr ?_
   refine eX 7 (by decide) (by kernel_rfl) (by decide) (by kernel_rfl) (by kernel_rfl) ?_
   refine bM hh 6 [_,_] ?_
   intro ws hh
   replace hh : Hp _ (_ :: _ :: _ :: _ :: _ :: _ :: .blk _ _ [_, _] _ :: _) _ := hh
   refine aI (aa (aq ?_))
   refine uo (aY rfl (aX (vs := [_, _]) aD.out (hh.ax (i := 7) (n := 2) rfl rfl) rfl) (aY rfl (aX (vs := [_, _]) aD.out (hh.ax (i := 6) (n := 2) rfl rfl) rfl) (dq (ew rfl) bC))) ?_
   exact .inr ⟨h0, x, y, hx, hy, rfl, hh.sub ((List.sublist_append_left [y.eG, y.eB, x.eG, x.eB] _).cons _)⟩
 ·have hra := fun A c w1 hT1 hS1 hb => (hrs A c w1 hT1 hS1 hb).mono fun r w' h => show r = .returned (.tuple #[.slice none 0 0, .int .i64 e]) ∧ Below w1.heap.size w1 w' from by
   rcases h with h | h
   ·exact h.2
   ·exact absurd h.1 h0
  refine al (N := 26) (l := [.agg #[.slice f.A f.n f.a, .slice f.B f.m f.b], .agg #[.slice g.A g.n g.a, .slice g.B g.m g.b]]) Tryz.func25 rfl rfl (by simp) ?_
  refine sr ?_
  refine dw hh [_,_] ?_
  intro b2 w2 hh
  refine dw hh [_,_] ?_
  intro b3 w3 hh
  refine cu hh ?_
  intro b4 w4 hh
  refine cu hh ?_
  intro b5 w5 hh
  refine aI (aa (sr ?_))
  refine cP hh 3 [_,_] ?_
  refine cP hh 2 [_,_] ?_
  refine aG hh (cs := [_, _, _, _]) aH.out aD.out (aF (cM rfl) (aF (cM rfl) bE)) rfl rfl (by decide) (by decide) (by decide) rfl (by decide) ?_
  intro b11 w11 hh
  refine bF hh (hra _ _ _ (hT.hp hh) (hh.aQ (i := 0) rfl) hh.below) rfl ?_
  intro w12 hh
  refine mT ?_
  refine dE ?_
  refine dE ?_
  refine aL (aI (aa (ah (sr (mI ?_)))))
  refine dt (aa (cT (sr ?_)))
  refine gb [_,_] ?_
  refine gb [_,_] (mI ?_)
  refine bM hh 2 [_,_] ?_
  intro ws hh
  replace hh : Hp _ (_ :: _ :: .blk _ _ [_, _] _ :: _) _ := hh
  refine bM hh 1 [_,_] ?_
  intro ws hh
  replace hh : Hp _ (_ :: .blk _ _ [_, _] _ :: _) _ := hh
  refine aI (aa (aq (aM ?_)))
  refine uo (aY rfl (aX (vs := [_, _]) aD.out (hh.ax (i := 2) (n := 2) rfl rfl) rfl) (aY rfl (aX (vs := [_, _]) aD.out (hh.ax (i := 1) (n := 2) rfl rfl) rfl) (dq (ew rfl) bC))) ?_
  exact .inl ⟨h0, rfl, hh.below⟩
end Go.Proofs.YtioilmppidlbnaaGreatDoor
/- The walk through lift.Add. -/
namespace Go.Proofs.YtioilmppidlbnaaGreatDoor
open Go.RowKit
def gJ (a b : List Dyadic) : List Dyadic := List.zipWith (· + ·) a b
def zj : List (List Dyadic) → List Dyadic
 | [] => []
 | x :: l => l.foldl gJ x
theorem gk {a b : List Dyadic} (h : a.length = b.length) : (gJ a b).length = a.length := by simp [gJ, h]
theorem pP {a b : List Dyadic} {i : Nat} {x y : Dyadic} (h1 : a[i]? = some x) (h2 : b[i]? = some y) : (gJ a b)[i]? = some (x + y) := by
 unfold gJ
 rw [List.getElem?_zipWith, h1, h2]
def la (a b : List Dyadic) (j : Nat) : List Dyadic := (gJ a b).take j ++ a.drop j
theorem vZ {a b : List Dyadic} {j : Nat} {x y : Dyadic} (h : a.length = b.length) (hx : a[j]? = some x) (hy : b[j]? = some y) : (la a b j).set j (x + y) = la a b (j + 1) := by
 have hj := (List.getElem?_eq_some_iff.1 hx).1
 unfold la
 have hl : ((gJ a b).take j).length = j := by rw [List.length_take, gk h]; omega
 rw [jB hx, aO (pP hx hy), List.set_append_right _ _ (by omega), hl, Nat.sub_self]
 simp
theorem yu {a b : List Dyadic} {j : Nat} {x : Dyadic} (h : a.length = b.length) (hx : a[j]? = some x) : (la a b j)[j]? = some x := by
 have hj := (List.getElem?_eq_some_iff.1 hx).1
 have hl : ((gJ a b).take j).length = j := by rw [List.length_take, gk h]; omega
 unfold la
 rw [List.getElem?_append_right (by omega), hl, Nat.sub_self, List.getElem?_drop, Nat.add_zero, hx]
theorem vn {a b : List Dyadic} {j : Nat} (h : a.length = b.length) (hj : j ≤ a.length) : (la a b j).length = a.length := by
 unfold la
 rw [List.length_append, List.length_take, gk h, List.length_drop]
 omega
theorem u9 {a b : List Dyadic} {j : Nat} (h : a.length = b.length) (hj : j = a.length) : la a b j = gJ a b := by
 unfold la
 rw [List.take_of_length_le (by rw [gk h]; omega), List.drop_of_length_le (by omega), List.append_nil]
theorem qJ : ∀ {a b : List Nat}, a.length = b.length → au (eA a b) ≤ au a
 | [], [], _ => Nat.le_refl _
 | [], _ :: _, h => by simp at h
 | _ :: _, [], h => by simp at h
 | x :: a, y :: b, h => Nat.mul_le_mul (show x - y + 1 ≤ x + 1 by omega) (qJ (by simpa using h))
theorem tt {k : Nat} : ∀ (ls : List (List Dyadic)) (a : List Dyadic) (j : Nat), (∀ x ∈ a, Sz (k + j) x) → (∀ l ∈ ls, ∀ x ∈ l, Sz k x) → ∀ x ∈ ls.foldl gJ a, Sz (k + j + ls.length) x
 | [], _, _, h, _ => h
 | l :: ls, a, j, h, h2 => fun x hx => by
  have := tt (k := k) ls (gJ a l) (j + 1) (fun y hy => by
   obtain ⟨i, hi⟩ := List.mem_iff_getElem?.1 hy
   unfold gJ at hi
   rw [List.getElem?_zipWith] at hi
   cases h3 : a[i]? with
   | none => rw [h3] at hi; cases hi
   | some p =>
    cases h4 : l[i]? with
    | none => rw [h3, h4] at hi; cases hi
    | some q =>
     rw [h3, h4] at hi
     have h5 : p + q = y := Option.some.inj hi
     rw [← h5]
     exact (h p (List.mem_of_getElem? h3)).add ((h2 l List.mem_cons_self q (List.mem_of_getElem? h4)).mono (by omega))) (fun m hm => h2 m (List.mem_cons_of_mem _ hm)) x hx
  exact this.mono (by rw [List.length_cons]; omega)
theorem rI : ∀ (ls : List (List Dyadic)) (a : List Dyadic), (∀ l ∈ ls, l.length = a.length) → (ls.foldl gJ a).length = a.length
 | [], _, _ => rfl
 | l :: ls, a, h => by
  have h1 := gk (h l List.mem_cons_self).symm
  rw [List.foldl_cons, rI ls (gJ a l) fun m hm => by rw [h1]; exact h m (List.mem_cons_of_mem _ hm), h1]
theorem zP {f : FX} {D : List Nat} {k : Nat} (hl : f.iA k) (he : f.e = 0) (hm : f.cs.length ≤ 200) (hk : k ≤ 90000) (hlen : D.length = f.ns.length) (hD : ∀ d ∈ D, d ≤ 127) (hc : au D ≤ 4096) : ∀ x ∈ gx D f, Sz 1000000 x := fun x hx => by
 obtain ⟨_, _, h12, _, hcl, _⟩ := FX.fv he
 have hs := qJ hlen
 have hmul : au (eA D f.ns) * au f.ns ≤ 4096 * 200 := Nat.mul_le_mul (by omega) (by omega)
 have := qa (qi (ds := f.ns.reverse) (es := (eA D f.ns).reverse) (xs := f.cs.map NR.d) (ys := (oH (eA D f.ns)).map nD) (k1 := k) (k2 := 1600) (fun y hy => by
  obtain ⟨c, hc2, rfl⟩ := List.mem_map.1 hy
  exact (hl.num c hc2).2) (fun y hy => by
  obtain ⟨c, hc2, rfl⟩ := List.mem_map.1 hy
  refine um hc2 (by rw [jc hlen]; omega) fun d hd => ?_
  obtain ⟨i, hi⟩ := List.mem_iff_getElem?.1 hd
  unfold eA at hi
  rw [List.getElem?_zipWith] at hi
  cases h3 : D[i]? with
  | none => rw [h3] at hi; cases hi
  | some p =>
   cases h4 : f.ns[i]? with
   | none => rw [h3, h4] at hi; cases hi
   | some q =>
    rw [h3, h4] at hi
    have h5 : p - q = d := Option.some.inj hi
    have := hD p (List.mem_of_getElem? h3)
    omega) (au (eA D f.ns))) x hx
 rw [p5, dI] at this
 exact this.mono (by omega)
theorem Hp.lN {w0 w : World} {H : List HE} (h : Hp w0 H w) {i n c sz : Nat} {A : Option Addr} {t : TypeId} {xs : List Value} (hi : H[i]? = some (.row A n c t sz xs)) : n ≤ c := by
 have h1 : w.ownsRow w0.heap.size t sz (.slice A n c) n xs := h.at_ hi
 rcases h1.2 with ⟨_, h3⟩ | ⟨g, cap, cur, h2, _, _, h5, _⟩
 ·omega
 ·injection h2 with _ _ e3
  omega
theorem pG {f : FX} {D : List Nat} (hlen : D.length = f.ns.length) (hle : ∀ (i x y : Nat), f.ns[i]? = some x → D[i]? = some y → x ≤ y) : (gx D f).length = au D := by
 unfold gx k4 fS
 rw [gm, mo hlen.symm hle]
theorem l9 {fs : List FX} (h : fD fs = 0) (hln : ∀ f ∈ fs, f.ds.length = f.n) : ∀ f ∈ fs, (maxD fs).length = f.ns.length ∧ (∀ (i x y : Nat), f.ns[i]? = some x → (maxD fs)[i]? = some y → x ≤ y) ∧ ∀ d ∈ maxD fs, d ≤ 127 := fun f hm => by
 obtain ⟨hne, hev, hnv⟩ := jF h
 obtain ⟨f0, ft, rfl⟩ := List.exists_cons_of_ne_nil hne
 have hns : ∀ g ∈ f0 :: ft, g.ns.length = f0.n := fun g hg => by
  unfold FX.ns
  rw [List.length_map, hln g hg, hnv g hg]
  rfl
 have hDe : maxD (f0 :: ft) = ((f0 :: ft).map FX.ns).foldl fR f0.ns := by
  unfold maxD
  rw [List.foldl_map]
  rfl
 have h0 := hns f0 List.mem_cons_self
 obtain ⟨h1, _, h3⟩ := ph ((f0 :: ft).map FX.ns) f0.ns fun l hl => by
  obtain ⟨g, hg, rfl⟩ := List.mem_map.1 hl
  rw [hns g hg, h0]
 rw [hDe]
 refine ⟨by rw [h1, h0, hns f hm], h3 f.ns (List.mem_map.2 ⟨f, hm, rfl⟩), pK 127 _ _ (FX.fv (hev f0 List.mem_cons_self)).2.2.2.1 fun l hl => ?_⟩
 obtain ⟨g, hg, rfl⟩ := List.mem_map.1 hl
 exact (FX.fv (hev g hg)).2.2.2.1
theorem sT (L : Option Addr) (n c : Nat) (fs : List FX) (k : Nat) (w : World) (hT : fQ w) (hL : Sl w L n 2 (bG FX.cells fs)) (hn : n ≤ 1000) (hf : ∀ f ∈ fs, f.at_ w) (hl : ∀ f ∈ fs, f.iA k) (hm : ∀ f ∈ fs, f.m ≤ 200) (hk : k ≤ 90000) :
  Calls Tryz.prog 15 #[.slice L n c] w fun r w' => (cx fs ≠ 0 ∧ r = wT (cx fs) ∧ Below w.heap.size w w') ∨
   (cx fs = 0 ∧ ∃ g : FX, u3 (maxD fs) (zj (fs.map (gx (maxD fs)))) g ∧ r = .returned (.tuple #[.agg #[.slice g.A g.n g.a, .slice g.B g.m g.b], .int .i64 0]) ∧ Hp w [g.eG, g.eB] w') := by
 have hh := Hp.start w
 have hln := hL.cR FX.len (by decide)
 have hrs := fun w1 hT1 hb => jP L n c fs k w1 hT1 (hL.ext hb) hn (fun f hm => (hf f hm).ext hb) hl hm hk
 by_cases h0 : cx fs = 0
 ·have hlk : fD fs = 0 := by
   unfold cx at h0
   split at h0
   ·rename_i h; exact absurd h0 h
   ·rename_i h; simpa using h
  obtain ⟨hne, hev, _⟩ := jF hlk
  obtain ⟨f0, ft, rfl⟩ := List.exists_cons_of_ne_nil hne
  have hD4 : au (maxD (f0 :: ft)) ≤ 4096 := by
   unfold cx at h0
   rw [if_neg (by omega)] at h0
   split at h0
   ·cases h0
   ·omega
  have hDs : ∀ f ∈ f0 :: ft, f.cs.length ≤ 200 ∧ (maxD (f0 :: ft)).length = f.ns.length ∧ (∀ d ∈ maxD (f0 :: ft), d ≤ 127) ∧ (gx (maxD (f0 :: ft)) f).length = au (maxD (f0 :: ft)) := fun f hm2 => by
   obtain ⟨h1, h2, h3⟩ := l9 hlk (fun g hg => by have := (hf g hg).dg.1; rw [bR] at this; omega) f hm2
   have h4 := (hf f hm2).nm.cR NR.len (by decide)
   have h5 := hm f hm2
   exact ⟨by omega, h1, h3, pG h1 h2⟩
  have hsz := fun f hm => zP (hl f hm) (hev f hm) (hDs f hm).1 hk (hDs f hm).2.1 (hDs f hm).2.2.1 hD4
  have hxl := fun f hm => (hDs f hm).2.2.2
  clear hDs
  rw [h0] at hrs
  generalize maxD (f0 :: ft) = D at *
  have hra := fun w1 hT1 hb => (hrs w1 hT1 hb).mono fun r w' h => show ∃ (A : Option Addr) (a n0 a0 go b0 : Nat) (A0 : Option Addr) (gs : List FX), r = .returned (.tuple #[.slice A n a, .int .i64 0]) ∧ gs.length = ft.length ∧ n0 = D.length ∧ (∀ (i : Nat) (f g : FX), ft[i]? = some f → gs[i]? = some g → u3 D (gx D f) g) ∧
    Hp w1 (.row A n a 28 2 (bG FX.cells (⟨A0, n0, a0, some ⟨go, 0, none⟩, au D, b0, bp D, (gx D f0).map nR⟩ :: gs)) :: .row (some ⟨go, 0, none⟩) (au D) b0 39 3 (bG NR.cells ((gx D f0).map nR)) :: .row A0 n0 a0 3 1 (bI (bp D)) :: gM gs.reverse) w' from by
   rcases h with h | ⟨_, A, a, gs, h1, h2, h3, h4⟩
   ·exact absurd rfl h.1
   ·obtain ⟨g0, gs, rfl⟩ := List.exists_cons_of_ne_nil (l := gs) (by intro e; rw [e] at h2; rw [← hln] at h2; cases h2)
    obtain ⟨e1, e2, e3, e4⟩ := h3 0 f0 g0 rfl rfl
    rw [List.reverse_cons, pX] at h4
    have h5 := h4.perm (H' := .row A n a 28 2 (bG FX.cells (g0 :: gs)) :: g0.eG :: g0.eB :: gM gs.reverse) (.cons _ List.perm_append_comm)
    obtain ⟨A0, n0, a0, B0, m0, b0, ds0, cs0⟩ := g0
    cases e1; cases e2; cases e4
    obtain ⟨go, rfl⟩ := h5.ed (i := 1) rfl (eO D)
    exact ⟨A, a, n0, a0, go, b0, A0, gs, h1, by rw [← hln] at h2; simpa using h2, e3, fun i f g hf hg => h3 (i + 1) f g hf hg, h5⟩
  clear hrs
  have hnp : ft.length + 1 = n := hln
  refine al (N := 53) (l := [.slice L n c]) Tryz.func15 rfl rfl (by simp) ?_
  refine sr ?_
  refine cu hh ?_
  intro b2 w2 hh
  refine aI (aa (sr (mL ?_)))
  refine aR (hra _ (hT.hp hh) hh.below) av.out rfl (by decide) ?_
  rintro e_ w13 ⟨A, a, n0, a0, go, b0, A0, gs, rfl, hgl, hn0, hup, h2⟩
  refine ⟨_, rfl, ?_⟩
  replace hh := (hh.join h2).perm List.perm_append_comm
  obtain ⟨gq, rfl⟩ := hh.ed (i := 1) rfl (by omega)
  have hca := hh.lN (i := 1) rfl
  refine mT ?_
  refine dE ?_
  refine dE ?_
  refine aL (aI (aa (ah (sr (mI ?_)))))
  refine dt (aa (cF (ak (ai (sr (mL ?_))))))
  refine gu aH.out aD.size rfl rfl (by omega) (by omega) (by decide) ?_
  refine cI (vs := [_, _]) aD.out rfl (hh.gy (i := 1) rfl FX.len (by decide) (show (_ :: gs)[0]? = some _ from rfl)) rfl (by decide) ?_
  refine cu hh ?_
  intro b6 w6 hh
  refine bM hh 0 [_,_] ?_
  intro ws hh
  replace hh : Hp _ (.blk _ _ [_, _] _ :: _) _ := hh
  refine aa (ah (sr (mL ?_)))
  refine a8 rfl rfl (by decide) (qB aH.out aD.size rfl rfl (l := 1) rfl (by omega) (by omega)) ?_
  refine aV (mI (aa (aj ?_)))
  have hx0 := hxl f0 List.mem_cons_self
  have hxi : ∀ (i : Nat), (((ft.take i).map (gx D)).foldl gJ (gx D f0)).length = au D := fun i => by
   rw [rI _ _ fun l hl => ?_, hx0]
   obtain ⟨f, hf2, rfl⟩ := List.mem_map.1 hl
   rw [hx0, hxl f (List.mem_cons_of_mem _ (List.mem_of_mem_take hf2))]
  have hzi : ∀ (i : Nat), ∀ x ∈ ((ft.take i).map (gx D)).foldl gJ (gx D f0), Sz 1001000 x := fun i x hx => by
   refine (tt (k := 1000000) _ _ 0 (hsz f0 List.mem_cons_self) (fun l hl => ?_) x hx).mono ?_
   ·obtain ⟨f, hf2, rfl⟩ := List.mem_map.1 hl
    exact hsz f (List.mem_cons_of_mem _ (List.mem_of_mem_take hf2))
   ·rw [List.length_map, List.length_take]
    omega
  refine bo [8, 9, 10, 26, 27, 28, 29, 30, 31, 32, 33, 34, 35, 36, 37, 38, 39, 40, 41, 42, 43, 44, 45, 46, 47, 48, 49, 50, 51] 26
   (fun v w' => ∃ i : Nat, i ≤ n - 1 ∧ v = .int .i64 i ∧ Hp w (.blk b6 28 [.slice A0 n0 a0, .slice (some ⟨go, 0, none⟩) (au D) b0] (0, 0) :: .blk b2 28 [.slice none 0 0, .slice none 0 0] (0, 0) :: .row (some ⟨gq, 0, none⟩) n a 28 2 (bG FX.cells (⟨A0, n0, a0, some ⟨go, 0, none⟩, au D, b0, bp D, (gx D f0).map nR⟩ :: gs)) :: .row (some ⟨go, 0, none⟩) (au D) b0 39 3 (bG NR.cells ((((ft.take i).map (gx D)).foldl gJ (gx D f0)).map nR)) :: .row A0 n0 a0 3 1 (bI (bp D)) :: gM gs.reverse) w')
   (fun v _ => n - 1 - (intOf v).toNat) ?_ ?_
  ·exact ⟨0, Nat.zero_le _, rfl, hh⟩
  ·clear hh
   rintro ρ' v w' ⟨i, hi, rfl, hh⟩
   by_cases hlt : i < n - 1
   ·obtain ⟨f, hx⟩ := ay (l := ft) (k := i) (by omega)
    obtain ⟨g, hg⟩ := ay (l := gs) (k := i) (by omega)
    obtain ⟨A1, n1, a1, B1, m1, b1, ds1, cs1⟩ := g
    obtain ⟨e1, e2, e3, e4⟩ := hup i f _ hx hg
    cases e1; cases e2; cases e4
    have hmem := List.mem_reverse.2 (List.mem_of_getElem? hg)
    have hbk : Sl w' (if a = 1 then some ⟨gq, 0, none⟩ else (some ⟨gq, 0, none⟩ : Option Addr).map (·.add (1 * 2))) (n - 1) 2 (bG FX.cells gs) := (hh.aQ (i := 2) rfl).back (by omega) hca
    obtain ⟨ab, hAb, sb⟩ := hbk.at_ (by omega)
    have hev : Value.slice (if a = 1 then some ⟨gq, 0, none⟩ else (some ⟨gq, 0, none⟩ : Option Addr).map (·.add (1 * 2))) (n - 1) (a - 1) = .slice (some ab) (n - 1) (a - 1) := by rw [hAb]
    have hfX : ((ft.take (i + 1)).map (gx D)).foldl gJ (gx D f0) = gJ (((ft.take i).map (gx D)).foldl gJ (gx D f0)) (gx D f) := by rw [aO hx, List.map_append, List.foldl_append]; rfl
    have hxa := hxi i
    have hza := hzi i
    have hzb := hsz f (List.mem_cons_of_mem _ (List.mem_of_getElem? hx))
    generalize ((ft.take i).map (gx D)).foldl gJ (gx D f0) = X at *
    refine sr ?_
    refine aJ (aa (ah (cT (ak (ai (ah (aj (sr ?_))))))))
    refine aC (k := i) aH.out aD.size hev rfl (by omega) (by omega) (by decide) ?_
    refine cI (vs := [_, _]) aD.out rfl (show Rd _ _ [.slice A1 n1 a1, .slice B1 (au D) b1] from sb.recAt FX.len hg) rfl (by decide) ?_
    refine cu hh ?_
    intro b8 w8 hh
    refine bM hh 0 [_,_] ?_
    intro ws hh
    replace hh : Hp _ (.blk _ _ [_, _] _ :: _) _ := hh
    refine aa (sr (bK ?_))
    refine bL hh 0 ?_
    refine aV (mI (aa (aj ?_)))
    refine bo [9, 10, 33, 34, 35, 36, 37, 38, 39, 40, 41, 42, 43, 44, 45, 46, 47, 48, 49, 50] 33
     (fun v w' => ∃ j : Nat, j ≤ au D ∧ v = .int .i64 j ∧ Hp w (.blk b8 28 [.slice A1 n1 a1, .slice B1 (au D) b1] (0, 0) :: .blk b6 28 [.slice A0 n0 a0, .slice (some ⟨go, 0, none⟩) (au D) b0] (0, 0) :: .blk b2 28 [.slice none 0 0, .slice none 0 0] (0, 0) :: .row (some ⟨gq, 0, none⟩) n a 28 2 (bG FX.cells (⟨A0, n0, a0, some ⟨go, 0, none⟩, au D, b0, bp D, (gx D f0).map nR⟩ :: gs)) :: .row (some ⟨go, 0, none⟩) (au D) b0 39 3 (bG NR.cells ((la X (gx D f) j).map nR)) :: .row A0 n0 a0 3 1 (bI (bp D)) :: gM gs.reverse) w')
     (fun v _ => au D - (intOf v).toNat) ?_ ?_
    ·exact ⟨0, Nat.zero_le _, rfl, hh⟩
    ·clear hh
     rintro ρ2 v w2 ⟨j, hj, rfl, hh⟩
     have hsB := kg (hh.own _ (List.mem_append_right [_, _, _, _, _, _] (uD hmem).1))
     have hyl : (gx D f).length = au D := by
      have := hsB.cR NR.len (by decide)
      simpa using this
     by_cases hjn : j < au D
     ·obtain ⟨x, hx1⟩ := ay (l := X) (k := j) (by omega)
      obtain ⟨y, hy1⟩ := ay (l := gx D f) (k := j) (by omega)
      obtain ⟨a9, hA9, s9⟩ := hsB.at_ (by show 0 < au D; omega)
      have hev9 : Value.slice B1 (au D) b1 = .slice (some a9) (au D) b1 := by rw [show B1 = some a9 from hA9]
      have zx := hza x (List.mem_of_getElem? hx1)
      have zy := hzb y (List.mem_of_getElem? hy1)
      have hon : ((la X (gx D f) j).map nR)[j]? = some (nR x) := by rw [List.getElem?_map, yu (by omega) hx1]; rfl
      have hyn : ((gx D f).map nR)[j]? = some (nR y) := by rw [List.getElem?_map, hy1]; rfl
      have hset := vZ (a := X) (b := gx D f) (by omega) hx1 hy1
      have hsum := fun A cc w1 hT1 hS1 => fT A 2 cc [nR x, nR y] w1 hT1 hS1 (by simpa using ⟨zx.ok (by omega), zy.ok (by omega)⟩) 1001000 (by simpa [eR] using ⟨zx, zy.mono (by omega)⟩) (by omega)
      rw [show ji ([nR x, nR y].map NR.d) = x + y by simp only [List.map_cons, List.map_nil, eR, ig]] at hsum
      have hll : ((la X (gx D f) j).map nR).length = au D := by rw [List.length_map, vn (by omega) (by omega), hxa]
      generalize la X (gx D f) j = M at *
      have hrl := gn NR.len (M.map nR)
      refine sr ?_
      refine aJ (aa (ah (cT (ak (ai (ah (aj (sr (mI ?_)))))))))
      refine aC (k := j) aH.out aD.size hev9 rfl (by omega) (by omega) (by decide) ?_
      refine cI (vs := [_, _, _]) aD.out rfl (s9.recAt NR.len hyn) rfl (by decide) ?_
      refine cu hh ?_
      intro b10 w10 hh
      refine aI ?_
      refine bM hh 0 [_,_,_] ?_
      intro ws hh
      replace hh : Hp _ (.blk _ _ [_, _, _] _ :: _) _ := hh
      refine aa ?_
      refine a6 11 [[(6, none)], [(38, some 0)], [(9, none)], [(6, none)], [(41, some 3)], [(9, none)], [(42, some 4), (43, some 5)], [(44, some 6)], [(10, none)], [(45, some 7), (46, some 8)], [(47, some 9)]] [(10, 48), (9, 47), (8, 46), (7, 45), (6, 44), (5, 43), (4, 42), (3, 41), (2, 40), (1, 39), (0, 38)] hh mixed (by kernel_rfl) ?_
      refine fP ?_
      refine gB 2 ?_
      refine eM ?_
      refine fP ?_
      refine gB 2 ?_
      refine eM ?_
      refine vD (j) ?_
      refine xh [_,_,_] (fun _ hj => hj.hp.gy (f := NR.cells) (x := nR x) (l := M.map nR) (i := 5) rfl NR.len (by decide) hon) ?_
      refine gh 0 [_,_,_] ?_
      refine vl [_,_,_,_,_,_] ?_
      refine dD (i := 10) (Is (.agg #[.bool (nR (x + y)).neg, .string (nR (x + y)).bP, .int .i64 (nR (x + y)).e])) Is.ext ?_ ?_
      ·intro ρ1 w1 hj hR
       obtain ⟨A47, c47, h47, s47⟩ := hR.1
       exact dP rfl (cW av.out (bj h47 cj)) (hsum A47 c47 _ (hT.hp hj.hp) s47) (fun _ _ hq => ⟨_, hq.1, hq.2, rfl⟩)
      refine bA ?_
      intro f W hJ hV
      have hb_11 := hJ.bl
      obtain ⟨v48, v47, v46, v45, v44, v43, v42, v41, v40, v39, v38, _⟩ := hV
      obtain ⟨A47, c47, e47, f47⟩ : Rows _ _ _ (f 9) W := v47
      replace hh := hJ.hp
      refine bf (bz (ae v48 (ae e47 (ae v46 (ae v45 (ae v44 (ae v43 (ae v42 (ae v41 (ae v40 (ae v39 (ae v38 bg)))))))))))) ?_
      dsimp only [cH]
      clear e47 hJ
      refine bm (k := j) aH.out aD.size rfl rfl (by omega) (by omega) (by decide) ?_
      refine bq hh (i := 5) (vs := [_, _, _]) rfl rfl (cM rfl) rfl aD.out rfl (by omega) rfl ?_
      intro ws hh
      simp only [List.set_cons_zero, List.set_cons_succ] at hh
      rw [show cS (bG NR.cells (M.map nR)) (j * 3) [.bool (nR (x + y)).neg, .string (nR (x + y)).bP, .int .i64 (nR (x + y)).e] = bG NR.cells ((M.map nR).set j (nR (x + y))) from lX NR.len (by omega), ← List.map_set, hset] at hh
      refine aE (aW (ai (ao ?_)))
      refine bx (mI (aE (ai ?_)))
      replace hh := hh.sub (List.Sublist.cons _ (List.Sublist.cons_cons _ (List.Sublist.cons_cons _ (List.Sublist.cons_cons _ (List.Sublist.cons_cons _ (List.Sublist.cons_cons _ (List.Sublist.cons_cons _ (List.Sublist.refl _))))))))
      refine ⟨⟨j + 1, by omega, rfl, hh⟩, by show au D - (j + 1) < au D - j; omega, ?_⟩
      (repeat (first | exact aw _ _ _ | refine aA rfl ?_ | refine ar rfl ?_))
     ·obtain rfl : j = au D := by omega
      rw [u9 (by omega) (by omega), ← hfX] at hh
      refine sr ?_
      refine aJ (aa (ah (cF ?_)))
      refine aN ?_
      refine az (az (a7 (aW (ai (ao ?_)))))
      refine bx (mI (aE (ai ?_)))
      replace hh := hh.sub (List.Sublist.cons _ (List.Sublist.cons_cons _ (List.Sublist.cons_cons _ (List.Sublist.cons_cons _ (List.Sublist.cons_cons _ (List.Sublist.cons_cons _ (List.Sublist.refl _)))))))
      refine ⟨⟨i + 1, by omega, rfl, hh⟩, by show n - 1 - (i + 1) < n - 1 - i; omega, ?_⟩
      (repeat (first | exact aw _ _ _ | refine aA rfl ?_ | refine ar rfl ?_))
   ·obtain rfl : i = n - 1 := by omega
    rw [List.take_of_length_le (by omega)] at hh
    refine sr ?_
    refine aJ (aa (ah (cF ?_)))
    refine aN ?_
    refine az (az (a7 (ai (sr ?_))))
    refine cP hh 0 [_,_] ?_
    refine bM hh 1 [_,_] ?_
    intro ws hh
    replace hh : Hp _ (_ :: .blk _ _ [_, _] _ :: _) _ := hh
    refine aI (aa (aq ?_))
    refine wP (aY rfl (aX (vs := [_, _]) aD.out (hh.ax (i := 1) (n := 2) rfl rfl) rfl) (dq (ew rfl) bC)) ?_
    exact .inr ⟨h0, ⟨A0, n0, a0, some ⟨go, 0, none⟩, au D, b0, bp D, _⟩, ⟨rfl, rfl, hn0, rfl⟩, rfl, hh.sub (.cons _ (.cons _ (.cons _ (List.sublist_append_left [_, _] _))))⟩
 ·have hra := fun w1 hT1 hb => (hrs w1 hT1 hb).mono fun r w' h => show r = .returned (.tuple #[.slice none 0 0, .int .i64 (cx fs)]) ∧ Below w1.heap.size w1 w' from by
   rcases h with h | h
   ·exact h.2
   ·exact absurd h.1 h0
  generalize cx fs = e at *
  refine al (N := 53) (l := [.slice L n c]) Tryz.func15 rfl rfl (by simp) ?_
  refine sr ?_
  refine cu hh ?_
  intro b2 w2 hh
  refine aI (aa (sr (mL ?_)))
  refine bF hh (hra _ (hT.hp hh) hh.below) rfl ?_
  intro w13 hh
  refine mT ?_
  refine dE ?_
  refine dE ?_
  refine aL (aI (aa (ah (sr (mI ?_)))))
  refine dt (aa (cT (sr ?_)))
  refine gb [_,_] (mI ?_)
  refine bM hh 0 [_,_] ?_
  intro ws hh
  replace hh : Hp _ (.blk _ _ [_, _] _ :: _) _ := hh
  refine aI (aa (aq (aM ?_)))
  refine wP (aY rfl (aX (vs := [_, _]) aD.out (hh.ax (i := 0) (n := 2) rfl rfl) rfl) (dq (ew rfl) bC)) ?_
  exact .inl ⟨h0, rfl, hh.below⟩
end Go.Proofs.YtioilmppidlbnaaGreatDoor
/- The walks through lift.Mul and lift.Scale. -/
namespace Go.Proofs.YtioilmppidlbnaaGreatDoor
open Go.RowKit
def ke (f g : FX) : Int := if fD [f, g] ≠ 0 then fD [f, g] else if l3 (bU f.ns g.ns) = true then 3 else 0
def mN (a b : List Nat) (j : Nat) : List Nat := (bU a b).take j ++ a.drop j
theorem xe {a b : List Nat} {j x y : Nat} (h : a.length = b.length) (hx : a[j]? = some x) (hy : b[j]? = some y) : (bp (mN a b j)).set j ((x : Int) + (y : Int)) = bp (mN a b (j + 1)) := by
 have hj := (List.getElem?_eq_some_iff.1 hx).1
 unfold mN
 rw [jB hx, aO (md hx hy)]
 have hl : (bp ((bU a b).take j)).length = j := by rw [cL, List.length_take, gl h]; omega
 have e1 : bp ((bU a b).take j ++ x :: a.drop (j + 1)) = bp ((bU a b).take j) ++ (x : Int) :: bp (a.drop (j + 1)) := by simp [bp]
 rw [e1, kt _ _ _ _ _ hl]
 simp [bp]
theorem x6 {a b : List Nat} {j x : Nat} (h : a.length = b.length) (hx : a[j]? = some x) : (mN a b j)[j]? = some x := by
 have hj := (List.getElem?_eq_some_iff.1 hx).1
 have hl : ((bU a b).take j).length = j := by rw [List.length_take, gl h]; omega
 unfold mN
 rw [List.getElem?_append_right (by omega), hl, Nat.sub_self, List.getElem?_drop, Nat.add_zero, hx]
theorem vG {a b : List Nat} {j : Nat} (h : a.length = b.length) (hj : j ≤ a.length) : (mN a b j).length = a.length := by
 unfold mN
 rw [List.length_append, List.length_take, gl h, List.length_drop]
 omega
theorem uI {a b : List Nat} {j : Nat} (h : a.length = b.length) (hj : j = a.length) : mN a b j = bU a b := by
 unfold mN
 rw [List.take_of_length_le (by rw [gl h]; omega), List.drop_of_length_le (by omega), List.append_nil]
theorem rS (f g : FX) (k : Nat) (w : World) (hT : fQ w) (hf : f.at_ w) (hg : g.at_ w) (hlf : f.iA k) (hlg : g.iA k) (hmf : f.m ≤ 200) (hmg : g.m ≤ 200) (hk : k ≤ 50000) :
  Calls Tryz.prog 18 #[.agg #[.slice f.A f.n f.a, .slice f.B f.m f.b], .agg #[.slice g.A g.n g.a, .slice g.B g.m g.b]] w fun r w' =>
   (ke f g ≠ 0 ∧ r = wT (ke f g) ∧ Below w.heap.size w w') ∨
   (ke f g = 0 ∧ ∃ p : FX, u3 (bU f.ns g.ns) (fS f.ns g.ns (f.cs.map NR.d) (g.cs.map NR.d)) p ∧ r = .returned (.tuple #[.agg #[.slice p.A p.n p.a, .slice p.B p.m p.b], .int .i64 0]) ∧ Hp w [p.eG, p.eB] w') := by
 have hh := Hp.start w
 have hall : ∀ x ∈ [f, g], x.at_ w ∧ x.iA k := by simpa using ⟨⟨hf, hlf⟩, hg, hlg⟩
 have hlk := fun A c w1 hT1 hS1 hb => lW A 2 c [f, g] k w1 hT1 hS1 (by decide) (fun x hx => (hall x hx).1.ext hb) (fun x hx => (hall x hx).2)
 have hlnf := hf.dg.1
 have hlng := hg.dg.1
 rw [bR] at hlnf hlng
 have hlmf := hf.nm.cR NR.len (by decide)
 have hlmg := hg.nm.cR NR.len (by decide)
 unfold ke
 by_cases h0 : fD [f, g] = 0
 ·obtain ⟨_, hev, hnv⟩ := jF h0
  have hgn : g.n = f.n := hnv g (by simp)
  obtain ⟨df, cf, hf12, hflow, hfc, _⟩ := FX.fv (hev f (by simp))
  obtain ⟨dg, cg, hg12, hglow, hgc, _⟩ := FX.fv (hev g (by simp))
  have hfl : f.ns.length = f.n := by unfold FX.ns; rw [List.length_map]; omega
  have hgl : g.ns.length = f.n := by unfold FX.ns; rw [List.length_map]; omega
  rw [if_neg (by omega)]
  have hadd : ∀ d ∈ bU f.ns g.ns, d ≤ 254 := fun d hd => by
   obtain ⟨i, hi⟩ := List.mem_iff_getElem?.1 hd
   have hi2 := (List.getElem?_eq_some_iff.1 hi).1
   rw [gl (by omega)] at hi2
   obtain ⟨x, hx1⟩ := ay (l := f.ns) (k := i) (by omega)
   obtain ⟨y, hy1⟩ := ay (l := g.ns) (k := i) (by omega)
   rw [md hx1 hy1] at hi
   have := hflow x (List.mem_of_getElem? hx1)
   have := hglow y (List.mem_of_getElem? hy1)
   have := Option.some.inj hi
   omega
  refine al (N := 43) (l := [.agg #[.slice f.A f.n f.a, .slice f.B f.m f.b], .agg #[.slice g.A g.n g.a, .slice g.B g.m g.b]]) Tryz.func18 rfl rfl (by simp) ?_
  refine sr ?_
  refine dw hh [_,_] ?_
  intro b2 w2 hh
  refine dw hh [_,_] ?_
  intro b3 w3 hh
  refine cu hh ?_
  intro b4 w4 hh
  refine aI (aa (ah (sr ?_)))
  refine cP hh 2 [_,_] ?_
  refine cP hh 1 [_,_] ?_
  refine aG hh (cs := [_, _, _, _]) aH.out aD.out (aF (cM rfl) (aF (cM rfl) bE)) rfl rfl (by decide) (by decide) (by decide) rfl (by decide) ?_
  intro b12 w12 hh
  refine bF hh (hlk _ _ _ (hT.hp hh) (hh.aQ (i := 0) rfl) hh.below) rfl ?_
  intro w13 hh
  refine aI (aa (sr (mI ?_)))
  refine dt (aa (cF (ak (ai (sr (bK ?_))))))
  refine bL hh 3 ?_
  refine aR (kF f.A f.n f.a f.ds _ (hf.dg.ext hh.below) (by omega)) av.out rfl (by decide) ?_
  rintro e_ w20 ⟨A20, c20, rfl, hown_, hb_⟩
  refine ⟨_, rfl, ?_⟩
  replace hh := hh.bu (x := .row _ _ _ _ _ _) hb_ hown_
  refine aL (aa (ah (sr (bK ?_))))
  refine bL hh 3 ?_
  refine aV (mI (aa (aj ?_)))
  replace hh := hh.sub (List.Sublist.cons_cons _ (List.Sublist.cons _ (List.Sublist.cons_cons _ (List.Sublist.cons_cons _ (List.Sublist.cons_cons _ List.Sublist.slnil)))))
  rw [df] at hh
  refine bo [8, 9, 24, 25, 26, 27, 28, 29, 30, 31, 32, 33, 34, 35, 36] 24
   (fun v w' => ∃ j : Nat, j ≤ f.n ∧ v = .int .i64 j ∧ Hp w [.row A20 f.n c20 3 1 (bI (bp (mN f.ns g.ns j))), .blk b4 28 [.slice none 0 0, .slice none 0 0] (0, 0), .blk b3 28 [.slice g.A g.n g.a, .slice g.B g.m g.b] (0, 0), .blk b2 28 [.slice f.A f.n f.a, .slice f.B f.m f.b] (0, 0)] w')
   (fun v _ => f.n - (intOf v).toNat) ?_ ?_
  ·exact ⟨0, Nat.zero_le _, rfl, hh⟩
  ·clear hh
   rintro ρ' v w' ⟨j, hj, rfl, hh⟩
   by_cases hjn : j < f.n
   ·obtain ⟨x, hx⟩ := ay (l := f.ns) (k := j) (by omega)
    obtain ⟨y, hy⟩ := ay (l := g.ns) (k := j) (by omega)
    have hgx := bX (dY (x6 (b := g.ns) (by omega) hx))
    have hgy : (bI g.ds)[j]? = some (.int .i64 (y : Int)) := by rw [dg]; exact bX (dY hy)
    have hml : (bI (bp (mN f.ns g.ns j))).length = f.n := by rw [bR, cL, vG (by omega) (by omega)]; omega
    have hx127 := hflow x (List.mem_of_getElem? hx)
    have hy127 := hglow y (List.mem_of_getElem? hy)
    obtain ⟨a2, hA2, s2⟩ := hg.dg.at_ (by omega)
    have hev2 : Value.slice g.A g.n g.a = .slice (some a2) g.n g.a := by rw [hA2]
    obtain ⟨gd, rfl⟩ := hh.ed (i := 0) rfl (by omega)
    refine sr ?_
    refine aJ (aa (ah (cT (ak (ai (ah (aj (sr (mI ?_)))))))))
    refine aC (k := j) aH.out aD.size hev2 rfl (by omega) (by omega) (by decide) ?_
    refine aK aD.out rfl (cv hh.below (s2.eC hgy)) (by decide) ?_
    refine aI (aI (aa (ao (mL (mI ?_)))))
    refine bm (k := j) aH.out aD.size rfl rfl (by omega) (by omega) (by decide) ?_
    refine aK aD.out rfl (hh.ct (i := 0) rfl (by first | assumption | (simp only [Nat.mul_one]; assumption))) (by decide) ?_
    refine mI ?_
    refine bx ?_
    refine bm (k := j) aH.out aD.size rfl rfl (by omega) (by omega) (by decide) ?_
    refine bq hh (i := 0) (vs := [_]) rfl rfl (bJ rfl) rfl aD.out rfl (by omega) rfl ?_
    intro ws hh
    simp only [List.set_cons_zero] at hh
    rw [fB _ (by rw [← bR]; omega), xe (by omega) hx hy] at hh
    refine aE (aW (ai (ao ?_)))
    refine bx (mI (aE (ai ?_)))
    refine ⟨⟨j + 1, by omega, rfl, hh⟩, by show f.n - (j + 1) < f.n - j; omega, ?_⟩
    (repeat (first | exact aw _ _ _ | refine aA rfl ?_ | refine ar rfl ?_))
   ·obtain rfl : j = f.n := by omega
    rw [uI (by omega) (by omega)] at hh
    have hbig := fun w1 hS1 => m6 A20 f.n c20 (bU f.ns g.ns) w1 hS1 (by omega) (fun d hd => by have := hadd d hd; omega)
    cases hb : l3 (bU f.ns g.ns) with
    | true =>
     rw [hb] at hbig
     rw [if_pos rfl]
     refine sr ?_
     refine aJ (aa (ah (cF ?_)))
     refine aN ?_
     refine az (az (a7 (ai (ah (sr (mL ?_))))))
     refine bF hh (hbig _ (hh.aQ (i := 0) rfl)) rfl ?_
     intro w38 hh
     refine aa (cT (sr ?_))
     refine gb [_,_] ?_
     refine bM hh 1 [_,_] ?_
     intro ws hh
     replace hh : Hp _ (_ :: .blk _ _ [_, _] _ :: _) _ := hh
     refine aI (aa (aq (aM ?_)))
     refine wP (aY rfl (aX (vs := [_, _]) aD.out (hh.ax (i := 1) (n := 2) rfl rfl) rfl) (dq (ew rfl) bC)) ?_
     exact .inl ⟨by decide, rfl, hh.below⟩
    | false =>
     rw [hb] at hbig
     rw [if_neg (by decide)]
     have h4 : au (bU f.ns g.ns) ≤ 4096 := by
      unfold l3 at hb
      have := (Bool.or_eq_false_iff.1 hb).2
      have := of_decide_eq_false this
      omega
     have hfm : f.m = au f.ns := by omega
     have hgm : g.m = au g.ns := by omega
     have hmul : au g.ns * au f.ns ≤ 200 * 200 := Nat.mul_le_mul (by omega) (by omega)
     have hzs : ∀ x ∈ [f, g], ∀ y ∈ x.cs.map NR.d, Sz k y := fun x hx y hy => by
      obtain ⟨c, hc, rfl⟩ := List.mem_map.1 hy
      exact ((hall x hx).2.num c hc).2
     have htm : ∀ w1, fQ w1 → Below w.heap.size w w1 → Calls Tryz.prog 60 #[.agg #[.slice f.A f.n f.a, .slice f.B f.m f.b], .agg #[.slice g.A g.n g.a, .slice g.B g.m g.b]] w1 fun r w' => ∃ p : FX, u3 (bU f.ns g.ns) (fS f.ns g.ns (f.cs.map NR.d) (g.cs.map NR.d)) p ∧ r = .returned (.agg #[.slice p.A p.n p.a, .slice p.B p.m p.b]) ∧ Hp w1 [p.eG, p.eB] w' := fun w1 hT1 hb1 => by
      have s1 := hf.dg.ext hb1
      have s2 := hf.nm.ext hb1
      have s3 := hg.dg.ext hb1
      have s4 := hg.nm.ext hb1
      rw [df] at s1
      rw [cf, hfm] at s2
      rw [dg, hgn] at s3
      rw [cg, hgm] at s4
      rw [hgn, hfm, hgm]
      refine (kW f.A f.B g.A g.B f.n f.a f.b g.a g.b f.ns g.ns (f.cs.map NR.d) (g.cs.map NR.d) k k w1 hT1 s1 s2 s3 s4 (by omega) hflow hglow h4 (by omega) (hzs f (by simp)) (hzs g (by simp)) (by omega)).mono fun r w' h => ?_
      obtain ⟨A, a, B, b, rfl, h2⟩ := h
      exact ⟨⟨A, f.n, a, B, au (bU f.ns g.ns), b, bp (bU f.ns g.ns), _⟩, ⟨rfl, rfl, by rw [gl (by omega)]; exact hfl.symm, rfl⟩, rfl, h2⟩
     refine sr ?_
     refine aJ (aa (ah (cF ?_)))
     refine aN ?_
     refine az (az (a7 (ai (ah (sr (mL ?_))))))
     refine bF hh (hbig _ (hh.aQ (i := 0) rfl)) rfl ?_
     intro w38 hh
     refine aa (cF (ak (ai (sr ?_))))
     refine cP hh 3 [_,_] ?_
     refine cP hh 2 [_,_] ?_
     refine aR (htm _ (hT.hp hh) hh.below) av.out rfl (by decide) ?_
     rintro e_ w42 ⟨p, hp, rfl, h2⟩
     refine ⟨_, rfl, ?_⟩
     replace hh := hh.join h2
     refine bM hh 3 [_,_] ?_
     intro ws hh
     replace hh : Hp _ (_ :: _ :: _ :: .blk _ _ [_, _] _ :: _) _ := hh
     refine aI (aa (aq ?_))
     refine wP (aY rfl (aX (vs := [_, _]) aD.out (hh.ax (i := 3) (n := 2) rfl rfl) rfl) (dq (ew rfl) bC)) ?_
     exact .inr ⟨rfl, p, hp, rfl, hh.sub (List.sublist_append_left [_, _] _)⟩
 ·rw [if_pos h0]
  refine al (N := 43) (l := [.agg #[.slice f.A f.n f.a, .slice f.B f.m f.b], .agg #[.slice g.A g.n g.a, .slice g.B g.m g.b]]) Tryz.func18 rfl rfl (by simp) ?_
  refine sr ?_
  refine dw hh [_,_] ?_
  intro b2 w2 hh
  refine dw hh [_,_] ?_
  intro b3 w3 hh
  refine cu hh ?_
  intro b4 w4 hh
  refine aI (aa (ah (sr ?_)))
  refine cP hh 2 [_,_] ?_
  refine cP hh 1 [_,_] ?_
  refine aG hh (cs := [_, _, _, _]) aH.out aD.out (aF (cM rfl) (aF (cM rfl) bE)) rfl rfl (by decide) (by decide) (by decide) rfl (by decide) ?_
  intro b12 w12 hh
  refine bF hh (hlk _ _ _ (hT.hp hh) (hh.aQ (i := 0) rfl) hh.below) rfl ?_
  intro w13 hh
  refine aI (aa (sr (mI ?_)))
  refine dt (aa (cT (sr ?_)))
  refine gb [_,_] (mI ?_)
  refine bM hh 1 [_,_] ?_
  intro ws hh
  replace hh : Hp _ (_ :: .blk _ _ [_, _] _ :: _) _ := hh
  refine aI (aa (aq (aM ?_)))
  refine wP (aY rfl (aX (vs := [_, _]) aD.out (hh.ax (i := 1) (n := 2) rfl rfl) rfl) (dq (ew rfl) bC)) ?_
  exact .inl ⟨h0, rfl, hh.below⟩
end Go.Proofs.YtioilmppidlbnaaGreatDoor
/- The walks through the program's package of products of powers (mono), and through the document's answer's. -/
namespace Go.Proofs.YtioilmppidlbnaaGreatDoor
open Go.RowKit
end Go.Proofs.YtioilmppidlbnaaGreatDoor
/- The walks through the document's answer's products of powers. -/
namespace Go.Proofs.YtioilmppidlbnaaGreatDoor
open Go.RowKit
theorem nT (A B : Option Addr) (n m c c' : Nat) (xs ys : List Int) (w : World) (hx : Sl w A n 1 (bI xs)) (hy : Sl w B m 1 (bI ys)) (hn : n ≤ 100000) (hm : m ≤ 100000) :
  Calls Tryz.prog 44 #[.slice A n c, .slice B m c'] w fun e w' => e = .returned (.bool (decide (xs = ys))) ∧ Below w.heap.size w w' := by
 have hxl : xs.length = n := by have := hx.1; rw [bR] at this; omega
 have hyl : ys.length = m := by have := hy.1; rw [bR] at this; omega
 have hh := Hp.start w
 by_cases hnm : n = m
 ·subst hnm
  refine al (N := 26) (l := [.slice A n c, .slice B n c']) Tryz.func44 rfl rfl (by simp) ?_
  refine sr (aB (aa (ah (sr (mL (aV (mL (aV ?_))))))))
  refine dt (aa (cF (ak (ai (ah (sr (aI (aa (aj ?_)))))))))
  refine bo [4, 5, 11, 12, 13, 14, 15, 16, 17, 18, 19, 20, 21, 22, 23, 24, 25] 5
   (fun i w' => ∃ k : Nat, k ≤ n ∧ i = .int .i64 k ∧ xs.take k = ys.take k ∧ Hp w [] w')
   (fun i _ => n - (intOf i).toNat) ?_ ?_
  ·exact ⟨0, Nat.zero_le _, rfl, rfl, hh⟩
  ·clear hh
   rintro ρ' i w' ⟨k, hk, rfl, he, hh⟩
   replace hx := hx.ext hh.below
   replace hy := hy.ext hh.below
   by_cases hlt : k < n
   ·obtain ⟨x, hxk⟩ := ay (l := xs) (k := k) (by omega)
    obtain ⟨y, hyk⟩ := ay (l := ys) (k := k) (by omega)
    obtain ⟨ad, rfl, hr⟩ := hx.at_ (by omega)
    obtain ⟨bd, rfl, hs⟩ := hy.at_ (by omega)
    by_cases hxy : x = y
    ·subst hxy
     refine ah (sr (mI (mL (aV ?_))))
     refine aJ (aa (cT (ak (ai (ah (aj (ah ?_)))))))
     refine a6 8 [[(0, none)], [(5, none)], [(17, some 0), (18, some 1)], [(19, some 2)], [(1, none)], [(5, none)], [(21, some 4), (22, some 5)], [(23, some 6)]] [(7, 24), (6, 23), (5, 22), (4, 21), (3, 20), (2, 19), (1, 18), (0, 17)] hh mixed (by kernel_rfl) ?_
     refine iC ?_
     refine eM ?_
     refine bh (i := 2) (fun ρ1 w1 hj hR => cw aH.out aD.size (show ρ1 17 = Value.slice _ _ _ from hR.1) (show ρ1 18 = Value.int _ _ from hR.2.1) (by omega) (by omega)) ?_
     refine lP (fun _ hj => ks (hr.ext hj.bl) (bX hxk) rfl) ?_
     refine iC ?_
     refine eM ?_
     refine bh (i := 6) (fun ρ1 w1 hj hR => cw aH.out aD.size (show ρ1 21 = Value.slice _ _ _ from hR.1) (show ρ1 22 = Value.int _ _ from hR.2.1) (by omega) (by omega)) ?_
     refine lP (fun _ hj => ks (hs.ext hj.bl) (bX hyk) rfl) ?_
     refine bA ?_
     intro f W hJ hV
     have hb_6 := hJ.bl
     obtain ⟨v24, v23, v22, v21, v20, v19, v18, v17, _⟩ := hV
     replace hh := hJ.hp
     refine bf (bz (ae v24 (ae v23 (ae v22 (ae v21 (ae v20 (ae v19 (ae v18 (ae v17 bg))))))))) ?_
     dsimp only [cH]
     clear hJ
     refine dt (aa (cF (ak (aW (ai (ao (mI ?_)))))))
     refine bx (aI (aE (ai ?_)))
     refine ⟨⟨k + 1, by omega, rfl, by rw [aO hxk, aO hyk, he], hh⟩, by show n - (k + 1) < n - k; omega, ?_⟩
     (repeat (first | exact aw _ _ _ | refine aA rfl ?_ | refine ar rfl ?_))
    ·refine ah (sr (mI (mL (aV ?_))))
     refine aJ (aa (cT (ak (ai (ah (aj (ah ?_)))))))
     refine a6 8 [[(0, none)], [(5, none)], [(17, some 0), (18, some 1)], [(19, some 2)], [(1, none)], [(5, none)], [(21, some 4), (22, some 5)], [(23, some 6)]] [(7, 24), (6, 23), (5, 22), (4, 21), (3, 20), (2, 19), (1, 18), (0, 17)] hh mixed (by kernel_rfl) ?_
     refine iC ?_
     refine eM ?_
     refine bh (i := 2) (fun ρ1 w1 hj hR => cw aH.out aD.size (show ρ1 17 = Value.slice _ _ _ from hR.1) (show ρ1 18 = Value.int _ _ from hR.2.1) (by omega) (by omega)) ?_
     refine lP (fun _ hj => ks (hr.ext hj.bl) (bX hxk) rfl) ?_
     refine iC ?_
     refine eM ?_
     refine bh (i := 6) (fun ρ1 w1 hj hR => cw aH.out aD.size (show ρ1 21 = Value.slice _ _ _ from hR.1) (show ρ1 22 = Value.int _ _ from hR.2.1) (by omega) (by omega)) ?_
     refine lP (fun _ hj => ks (hs.ext hj.bl) (bX hyk) rfl) ?_
     refine bA ?_
     intro f W hJ hV
     have hb_6 := hJ.bl
     obtain ⟨v24, v23, v22, v21, v20, v19, v18, v17, _⟩ := hV
     replace hh := hJ.hp
     refine bf (bz (ae v24 (ae v23 (ae v22 (ae v21 (ae v20 (ae v19 (ae v18 (ae v17 bg))))))))) ?_
     dsimp only [cH]
     clear hJ
     refine dt (aa (cT (sr (aB (aa (aq (bO (aM (aM (bO (aM ?_)))))))))))
     refine ck ?_
     have : ¬ xs = ys := fun h => hxy (by rw [h, hyk] at hxk; exact (Option.some.inj hxk).symm)
     simp only [this, decide_false]
     first | exact ⟨rfl, hh.below⟩ | exact ⟨trivial, hh.below⟩
   ·refine ah (sr (mI (mL (aV ?_))))
    refine aJ (aa (cF ?_))
    refine aN ?_
    refine az (az (a7 (ai (sr (aB (aa (aq ?_)))))))
    refine ck ?_
    rw [List.take_of_length_le (by omega), List.take_of_length_le (by omega)] at he
    simp only [he, decide_true]
    first | exact ⟨rfl, hh.below⟩ | exact ⟨trivial, hh.below⟩
 ·refine al (N := 26) (l := [.slice A n c, .slice B m c']) Tryz.func44 rfl rfl (by simp) ?_
  refine sr (aB (aa (ah (sr (mL (aV (mL (aV ?_))))))))
  refine dt (aa (cT (sr (aB (aa (aq (aM ?_)))))))
  refine ck ?_
  have : ¬ xs = ys := fun h => hnm (by rw [← hxl, ← hyl, h])
  simp only [this, decide_false]
  first | exact ⟨rfl, hh.below⟩ | exact ⟨trivial, hh.below⟩
end Go.Proofs.YtioilmppidlbnaaGreatDoor
/- The walks through count and All. -/
namespace Go.Proofs.YtioilmppidlbnaaGreatDoor
open Go.RowKit
end Go.Proofs.YtioilmppidlbnaaGreatDoor
/- The walk through the document's answer's All. -/
namespace Go.Proofs.YtioilmppidlbnaaGreatDoor
open Go.RowKit
end Go.Proofs.YtioilmppidlbnaaGreatDoor
/- The walks through ogeeref12: forms by definition: what is wrong, ways to choose, places. -/
namespace Go.Proofs.YtioilmppidlbnaaGreatDoor
open Go.RowKit
theorem nX (A : Option Addr) (n c : Nat) (ds : List Int) (w : World) (hS : Sl w A n 1 (bI ds)) (hn : n ≤ 1000000) :
  Calls Tryz.prog 32 #[.slice A n c] w fun r w' => r = .returned (.int .i64 (y9 ds)) ∧ Below w.heap.size w w' := by
 have hh := Hp.start w
 have hln : ds.length = n := by have := hS.1; simpa [bI] using this
 unfold y9
 refine al (N := 39) (l := [.slice A n c]) Tryz.func32 rfl rfl (by simp) ?_
 refine sr (aI (aa (sr (aI (aa (ah (sr (aI (aa (aj ?_))))))))))
 refine bo [2, 4, 6, 7, 8, 9, 10, 11, 12, 13, 14, 15, 16, 17, 18, 19, 20, 21, 22, 23] 4
  (fun v w' => ∃ i : Nat, i ≤ n ∧ v = .int .i64 i ∧ (ds.take i).any (fun d => !eK d) = false ∧ Hp w [] w')
  (fun v _ => n - (intOf v).toNat) ?_ ?_
 ·exact ⟨0, Nat.zero_le _, rfl, rfl, hh⟩
 ·clear hh
  rintro ρ' v w' ⟨i, hi, rfl, hall, hh⟩
  by_cases hlt : i < n
  ·obtain ⟨d, hd⟩ := ay (l := ds) (k := i) (by omega)
   have hgi := bX hd
   obtain ⟨ad, rfl, hr⟩ := hS.at_ (by omega)
   have hbad : (!eK d) = true → ds.any (fun d => !eK d) = true := fun h => List.any_eq_true.2 ⟨d, List.mem_of_getElem? hd, h⟩
   by_cases h1 : d < 0
   ·refine ah (sr (mI (mL (aV ?_))))
    refine aJ (aa (cT (ak (ai (ah (aj (sr (mL (mI ?_)))))))))
    refine aC (k := i) aH.out aD.size rfl rfl (by omega) (by omega) (by decide) ?_
    refine aK aD.out rfl ((hr.ext hh.below).eC (by assumption)) (by decide) ?_
    refine aJ (mB ?_)
    first | refine gS ?_ | (refine gT ?_; refine mL ?_) | refine gV ?_
    first | refine gS ?_ | (refine gT ?_; refine mI ?_) | refine gV ?_
    first | refine gS ?_ | (refine gT ?_; refine aC (k := i) aH.out aD.size rfl rfl (by omega) (by omega) (by decide) ?_) | refine gV ?_
    first | refine gS ?_ | (refine gT ?_; refine aK aD.out rfl ((hr.ext hh.below).eC (by assumption)) (by decide) ?_) | refine gV ?_
    first | refine gS ?_ | (refine gT ?_; refine bQ ?_) | refine gV ?_
    first | refine dh ?_ | refine de ?_
    refine aa (cT (sr (aI (aa (aq (bO (aM (aM (bO (aM ?_))))))))))
    refine ck ?_
    rw [hbad (by simp [eK]; omega), if_pos rfl]
    exact ⟨rfl, hh.below⟩
   ·by_cases h2 : 127 < d
    ·refine ah (sr (mI (mL (aV ?_))))
     refine aJ (aa (cT (ak (ai (ah (aj (sr (mL (mI ?_)))))))))
     refine aC (k := i) aH.out aD.size rfl rfl (by omega) (by omega) (by decide) ?_
     refine aK aD.out rfl ((hr.ext hh.below).eC (by assumption)) (by decide) ?_
     refine aJ (mB ?_)
     first | refine gS ?_ | (refine gT ?_; refine mL ?_) | refine gV ?_
     first | refine gS ?_ | (refine gT ?_; refine mI ?_) | refine gV ?_
     first | refine gS ?_ | (refine gT ?_; refine aC (k := i) aH.out aD.size rfl rfl (by omega) (by omega) (by decide) ?_) | refine gV ?_
     first | refine gS ?_ | (refine gT ?_; refine aK aD.out rfl ((hr.ext hh.below).eC (by assumption)) (by decide) ?_) | refine gV ?_
     first | refine gS ?_ | (refine gT ?_; refine bQ ?_) | refine gV ?_
     first | refine dh ?_ | refine de ?_
     refine aa (cT (sr (aI (aa (aq (bO (aM (aM (bO (aM ?_))))))))))
     refine ck ?_
     rw [hbad (by simp [eK]; omega), if_pos rfl]
     exact ⟨rfl, hh.below⟩
    ·refine ah (sr (mI (mL (aV ?_))))
     refine aJ (aa (cT (ak (ai (ah (aj (sr (mL (mI ?_)))))))))
     refine aC (k := i) aH.out aD.size rfl rfl (by omega) (by omega) (by decide) ?_
     refine aK aD.out rfl ((hr.ext hh.below).eC (by assumption)) (by decide) ?_
     refine aJ (mB ?_)
     first | refine gS ?_ | (refine gT ?_; refine mL ?_) | refine gV ?_
     first | refine gS ?_ | (refine gT ?_; refine mI ?_) | refine gV ?_
     first | refine gS ?_ | (refine gT ?_; refine aC (k := i) aH.out aD.size rfl rfl (by omega) (by omega) (by decide) ?_) | refine gV ?_
     first | refine gS ?_ | (refine gT ?_; refine aK aD.out rfl ((hr.ext hh.below).eC (by assumption)) (by decide) ?_) | refine gV ?_
     first | refine gS ?_ | (refine gT ?_; refine bQ ?_) | refine gV ?_
     first | refine dh ?_ | refine de ?_
     refine aa (cF (ak (aW (ai (ao (mI ?_))))))
     refine bx (aI (aE (ai ?_)))
     refine ⟨⟨i + 1, by omega, rfl, ?_, hh⟩, by show n - (i + 1) < n - i; omega, ?_⟩
     ·rw [aO hd, List.any_append, hall, List.any_cons, List.any_nil, eK, decide_eq_true (by omega), decide_eq_true (by omega)]; rfl
     ·(repeat (first | exact aw _ _ _ | refine aA rfl ?_ | refine ar rfl ?_))
  ·rw [List.take_of_length_le (by omega)] at hall
   rw [hall, if_neg (by decide)]
   obtain ⟨ns, hns, hlow⟩ := oI hall
   have hds : ∀ (j : Nat) (d : Int), ds[j]? = some d → 0 ≤ d ∧ d ≤ 127 := fun j d hd => by
    have := List.any_eq_false.1 hall d (List.mem_of_getElem? hd)
    simp [eK] at this
    omega
   refine ah (sr (mI (mL (aV ?_))))
   refine aJ (aa (cF ?_))
   refine aN ?_
   refine az (az (a7 (ai (ah (sr (aI (aa (aj ?_))))))))
   refine bW [3, 5, 24, 25, 26, 27, 28, 29, 30, 31, 32, 33, 34, 35, 36, 37] 3 5
    (fun v3 v w' => ∃ (i : Nat) (q : Int), i ≤ n ∧ v = .int .i64 i ∧ v3 = .int .i64 q ∧ 0 ≤ q ∧ q ≤ 4097 ∧ vQ 1 ds = vQ q (ds.drop i) ∧ Hp w [] w')
    (fun _ v _ => n - (intOf v).toNat) ?_ ?_
   ·exact ⟨0, 1, Nat.zero_le _, rfl, rfl, by omega, by omega, rfl, hh⟩
   ·clear hh
    rintro ρ2 v3 v w2 ⟨j, q, hj, rfl, rfl, hq1, hq2, hc, hh⟩
    by_cases hjn : j < n
    ·obtain ⟨d, hd⟩ := ay (l := ds) (k := j) (by omega)
     have hgi := bX hd
     have hdb := hds j d hd
     obtain ⟨ad, rfl, hr⟩ := hS.at_ (by omega)
     rw [jB hd, vQ] at hc
     have hm1 : 0 * 0 ≤ q * (d + 1) := Int.mul_le_mul hq1 (by omega) (by decide) (by omega)
     have hm2 : q * (d + 1) ≤ 4097 * 128 := Int.mul_le_mul hq2 (by omega) (by omega) (by decide)
     refine ah (sr (mI (mL (aV ?_))))
     refine aJ (aa (cT (ak (ai (ah (aj (ao (mI (mL (mI ?_))))))))))
     refine aC (k := j) aH.out aD.size rfl rfl (by omega) (by omega) (by decide) ?_
     refine aK aD.out rfl ((hr.ext hh.below).eC (by assumption)) (by decide) ?_
     refine bx ?_
     refine mulC ?_
     refine qx rfl rfl (by decide) ?_
     refine aI (aE (aW (ai (ao (mI ?_)))))
     refine bx (aI (aE (ai ?_)))
     refine ⟨⟨j + 1, _, by omega, rfl, rfl, by split <;> omega, by split <;> omega, by rw [hc, show min (q * (d + 1)) 4097 = if 4097 < q * (d + 1) then 4097 else q * (d + 1) by split <;> omega], hh⟩, by show n - (j + 1) < n - j; omega, ?_⟩
     (repeat (first | exact aw _ _ _ | refine aA rfl ?_ | refine ar rfl ?_))
    ·rw [List.drop_of_length_le (by omega)] at hc
     refine ah (sr (mI (mL (aV ?_))))
     refine aJ (aa (cF ?_))
     refine aN ?_
     refine az (az (a7 (ai (sr (mI (aI (aa (aq ?_))))))))
     refine ck ?_
     exact ⟨by rw [hc]; rfl, hh.below⟩
end Go.Proofs.YtioilmppidlbnaaGreatDoor
/- The walks through ogeeref12, second part: ways to choose, rows, places, equal forms, a form of one's own. -/
namespace Go.Proofs.YtioilmppidlbnaaGreatDoor
open Go.RowKit
def BQ (n : Nat) (k : Int) : Dyadic := if k < 0 ∨ (n : Int) < k then 0 else nD (bin n k.toNat)
def Bi (ns : List Nat) : List ByteArray := (zk (bp ns)).map fX
theorem qz (L : Option Addr) (n c : Nat) (b : List NR) (M : Option Addr) (c2 : Nat) (w : World) (hS : Sl w L n 3 (bG NR.cells b)) (hS2 : Sl w M n 3 (bG NR.cells b)) (hn : n ≤ 1000000) :
  Calls Tryz.prog 56 #[.slice L n c, .slice M n c2] w fun r w' => r = .returned (.bool true) ∧ Below w.heap.size w w' := by
 have hh := Hp.start w
 have hln := hS.cR NR.len (by decide)
 refine al (N := 26) (l := [.slice L n c, .slice M n c2]) Tryz.func56 rfl rfl (by simp) ?_
 refine sr (aB (aa (ah (sr (mL (aV (mL (aV ?_))))))))
 refine dt (aa (cF (ak (ai (ah (sr (aI (aa (aj ?_)))))))))
 refine bo [4, 5, 11, 12, 13, 14, 15, 16, 17, 18, 19, 20, 21, 22, 23, 24, 25] 5
  (fun v w' => ∃ i : Nat, i ≤ n ∧ v = .int .i64 i ∧ Hp w [] w')
  (fun v _ => n - (intOf v).toNat) ?_ ?_
 ·exact ⟨0, Nat.zero_le _, rfl, hh⟩
 ·clear hh
  rintro ρ' v w' ⟨i, hi, rfl, hh⟩
  by_cases hlt : i < n
  ·obtain ⟨s, hs⟩ := ay (l := b) (k := i) (by omega)
   obtain ⟨ad, rfl, hr⟩ := hS.at_ (by omega)
   obtain ⟨ad2, rfl, hr2⟩ := hS2.at_ (by omega)
   refine ah (sr (mI (mL (aV ?_))))
   refine aJ (aa (cT (ak (ai (ah (aj (ah ?_)))))))
   refine a6 8 [[(0, none)], [(5, none)], [(17, some 0), (18, some 1)], [(19, some 2)], [(1, none)], [(5, none)], [(21, some 4), (22, some 5)], [(23, some 6)]] [(7, 24), (6, 23), (5, 22), (4, 21), (3, 20), (2, 19), (1, 18), (0, 17)] hh mixed (by kernel_rfl) ?_
   refine iC ?_
   refine eM ?_
   refine nN (i) ?_
   refine xh [_,_,_] (fun _ hj => (hr.ext hj.hp.below).recAt NR.len hs) ?_
   refine iC ?_
   refine eM ?_
   refine nN (i) ?_
   refine xh [_,_,_] (fun _ hj => (hr2.ext hj.hp.below).recAt NR.len hs) ?_
   refine bA ?_
   intro f W hJ hV
   have hb_6 := hJ.bl
   obtain ⟨v24, v23, v22, v21, v20, v19, v18, v17, _⟩ := hV
   replace hh := hJ.hp
   refine bf (bz (ae v24 (ae v23 (ae v22 (ae v21 (ae v20 (ae v19 (ae v18 (ae v17 bg))))))))) ?_
   dsimp only [cH]
   clear hJ
   first | refine mc rfl rfl (by first | assumption | rfl) (by decide) ?_ | refine l5 rfl rfl (by assumption) (by decide) ?_
   refine aa (cF (ak (aW (ai (ao (mI ?_))))))
   refine bx (aI (aE (ai ?_)))
   refine ⟨⟨i + 1, by omega, rfl, hh⟩, by show n - (i + 1) < n - i; omega, ?_⟩
   (repeat (first | exact aw _ _ _ | refine aA rfl ?_ | refine ar rfl ?_))
  ·refine ah (sr (mI (mL (aV ?_))))
   refine aJ (aa (cF ?_))
   refine aN ?_
   refine az (az (a7 (ai (sr (aB (aa (aq ?_)))))))
   refine ck ?_
   exact ⟨rfl, hh.below⟩
theorem pY (A B : Option Addr) (n c m c2 : Nat) (A' B' : Option Addr) (c' c2' : Nat) (ds : List Int) (cs : List NR) (w : World) (hS : Sl w A n 1 (bI ds)) (hS2 : Sl w B m 3 (bG NR.cells cs)) (hS3 : Sl w A' n 1 (bI ds)) (hS4 : Sl w B' m 3 (bG NR.cells cs)) (hn : n ≤ 100000) (hm : m ≤ 1000000) :
  Calls Tryz.prog 17 #[.agg #[.slice A n c, .slice B m c2], .agg #[.slice A' n c', .slice B' m c2']] w fun r w' => r = .returned (.bool true) ∧ Below w.heap.size w w' := by
 have hh := Hp.start w
 have hnum := fun w1 h1 h2 => nT A A' n n c c' ds ds w1 h1 h2 hn hn
 simp only [decide_true] at hnum
 refine al (N := 17) (l := [.agg #[.slice A n c, .slice B m c2], .agg #[.slice A' n c', .slice B' m c2']]) Tryz.func17 rfl rfl (by simp) ?_
 refine sr ?_
 refine dw hh [_,_] ?_
 intro b2 w2 hh
 refine dw hh [_,_] ?_
 intro b3 w3 hh
 refine aB (aa (sr (bK ?_)))
 refine bL hh 1 ?_
 refine bK ?_
 refine bL hh 0 ?_
 refine bF hh (hnum _ (hS.ext hh.below) (hS3.ext hh.below)) rfl ?_
 intro w9 hh
 refine mB ?_
 first | refine gS ?_ | (refine gT ?_; refine bK ?_) | refine gV ?_
 first | refine gS ?_ | (refine gT ?_; refine bL hh 1 ?_) | refine gV ?_
 first | refine gS ?_ | (refine gT ?_; refine bK ?_) | refine gV ?_
 first | refine gS ?_ | (refine gT ?_; refine bL hh 0 ?_) | refine gV ?_
 refine aZ rfl rfl ?_
 refine bF hh (qz B m c2 cs B' c2' _ (hS2.ext hh.below) (hS4.ext hh.below) hm) rfl ?_
 intro w15 hh
 first | refine dh ?_ | refine de ?_
 refine aB (aa (aq ?_))
 refine ck ?_
 exact ⟨rfl, hh.below⟩
end Go.Proofs.YtioilmppidlbnaaGreatDoor
/- The walks through ogeeref14: Big, Times. -/
namespace Go.Proofs.YtioilmppidlbnaaGreatDoor
open Go.RowKit
end Go.Proofs.YtioilmppidlbnaaGreatDoor
/- The walk through ogeeref14.Times. -/
namespace Go.Proofs.YtioilmppidlbnaaGreatDoor
open Go.RowKit
def BN (ds es : List Nat) (xs ys : List Dyadic) (i m : Nat) : List (Nat × Dyadic) := (List.range m).map fun k => (ee (cN ds es) (cN (bY ds i) (bY es k)), (xs[i]?).getD 0 * (ys[k]?).getD 0)
def BV (ds es : List Nat) (xs ys : List Dyadic) (i : Nat) : List (Nat × Dyadic) := (List.range i).flatMap fun i => BN ds es xs ys i (au es)
def bS (rs : List Nat) : List UInt8 := (bp rs).map AJ
end Go.Proofs.YtioilmppidlbnaaGreatDoor
/- Plain laws: a form, raised degree by degree. -/
namespace Go.Proofs.YtioilmppidlbnaaGreatDoor
def xp (ns : List Nat) (a : Nat) : List Nat := ns.set a (ns.getD a 0 + 1)
def BT (ns : List Nat) (a : Nat) (xs : List Dyadic) : List Dyadic :=
 (List.range (au (xp ns a))).map fun p => co ns.reverse xs (bY (xp ns a).reverse p) + if 0 < (bY (xp ns a).reverse p).getD (ns.length - 1 - a) 0 then co ns.reverse xs (A5 (bY (xp ns a).reverse p) (ns.length - 1 - a)) else 0
def BH (ns : List Nat) (xs : List Dyadic) (cs : List Nat) (zs : List Dyadic) : Prop := zs.length = au cs ∧ cs.length = ns.length ∧ (∀ (i n c : Nat), ns[i]? = some n → cs[i]? = some c → n ≤ c) ∧ ∀ row : List Nat, row.length = ns.length → co cs.reverse zs row = Bg (eA cs ns).reverse (co ns.reverse xs) row
end Go.Proofs.YtioilmppidlbnaaGreatDoor
/- The walk through ogeeref14.up. -/
namespace Go.Proofs.YtioilmppidlbnaaGreatDoor
open Go.RowKit
end Go.Proofs.YtioilmppidlbnaaGreatDoor
/- The walk through ogeeref14.Raise. -/
namespace Go.Proofs.YtioilmppidlbnaaGreatDoor
open Go.RowKit
def Bh (w : World) (b i : Nat) : Int := match w.cell? ⟨b, 0, none⟩ with
 | some (.slice (some a) _ _) => match w.cell? (a.add (i * 1)) with
  | some (.int _ z) => z
  | _ => 0
 | _ => 0
structure RS (ns ts : List Nat) (xs : List Dyadic) (k n : Nat) (F FC : Option Addr) (c1 c2 i T : Nat) (cur : List Nat) (zs : List Dyadic) (A B : Option Addr) (ca cb : Nat) (R : List HE) (w : World) : Prop where
 BU : BH ns xs cur zs
 le : ∀ (j c t : Nat), cur[j]? = some c → ts[j]? = some t → c ≤ t
 eq : ∀ (j c t : Nat), j < i → cur[j]? = some c → ts[j]? = some t → c = t
 sz : ∀ x ∈ zs, Sz (k + T) x
 src : (A = F ∧ ca = c1 ∧ B = FC ∧ cb = c2 ∧ cur = ns ∧ zs = xs) ∨ R = [.row B (au cur) cb 39 3 (bG NR.cells (zs.map nR)), .row A n ca 3 1 (bI (bp cur))]
 rd : ∀ (H : List HE) (w' : World), Hp w (H ++ R) w' → Sl w' A n 1 (bI (bp cur)) ∧ Sl w' B (au cur) 3 (bG NR.cells (zs.map nR))
end Go.Proofs.YtioilmppidlbnaaGreatDoor
/- The walks through ogeeref14.Like and ogeeref14.All. -/
namespace Go.Proofs.YtioilmppidlbnaaGreatDoor
open Go.RowKit
theorem FX.at_.ln {g : FX} {w : World} (h : g.at_ w) : g.ds.length = g.n ∧ g.cs.length = g.m := ⟨by have := h.dg.1; rw [bR] at this; omega, h.nm.cR NR.len (by decide)⟩
def Kept (fs : List FX) (R : List HE) (g : FX) : Prop := g ∈ fs ∨ (g.eG ∈ R ∧ g.eB ∈ R)
end Go.Proofs.YtioilmppidlbnaaGreatDoor
/- The contracts of package lift once more, each with one ending: a form that one owns, empty where there is an error. -/
namespace Go.Proofs.YtioilmppidlbnaaGreatDoor
open Go.RowKit
def zn (E : Int) (D : List Nat) : List Int := if E = 0 then bp D else []
def xg (E : Int) (ys : List Dyadic) : List NR := if E = 0 then ys.map nR else []
structure Out (E : Int) (D : List Nat) (ys : List Dyadic) (g : FX) : Prop where
 ds : g.ds = zn E D
 cs : g.cs = xg E ys
 n : g.n ≤ 100000
 m : g.m ≤ 1000000
def FX.nil : FX := ⟨none, 0, 0, none, 0, 0, [], []⟩
theorem Hp.uC {w0 w : World} {H : List HE} (h : Hp w0 H w) : Hp w0 (FX.nil.eG :: FX.nil.eB :: H) w := (h.eI 3 1).eI 39 3
theorem Out.err {E : Int} {D : List Nat} {ys : List Dyadic} (h : E ≠ 0) : Out E D ys FX.nil := ⟨by unfold zn; rw [if_neg h]; rfl, by unfold xg; rw [if_neg h]; rfl, Nat.zero_le _, Nat.zero_le _⟩
theorem u3.out {D : List Nat} {ys : List Dyadic} {g : FX} (h : u3 D ys g) (h1 : D.length ≤ 1000) (h2 : au D ≤ 4096) : Out 0 D ys g := ⟨h.ds, h.cs, by rw [h.n]; omega, by rw [h.m]; omega⟩
theorem lq {fs : List FX} (h : cx fs = 0) (hln : ∀ f ∈ fs, f.ds.length = f.n) : fD fs = 0 ∧ (maxD fs).length ≤ 1000 ∧ au (maxD fs) ≤ 4096 := by
 have hlk : fD fs = 0 := by
  unfold cx at h
  split at h
  ·rename_i h2; exact absurd h h2
  ·rename_i h2; simpa using h2
 obtain ⟨hne, hev, _⟩ := jF hlk
 obtain ⟨f0, ft, rfl⟩ := List.exists_cons_of_ne_nil hne
 have h1 := (l9 hlk hln f0 List.mem_cons_self).1
 have h2 := (FX.fv (hev f0 List.mem_cons_self)).2.2.1
 refine ⟨hlk, by omega, ?_⟩
 unfold cx at h
 rw [if_neg (by omega)] at h
 split at h
 ·cases h
 ·omega
theorem wR {f g : FX} (h : ke f g = 0) : fD [f, g] = 0 ∧ (bU f.ns g.ns).length ≤ 1000 ∧ au (bU f.ns g.ns) ≤ 4096 := by
 have hlk : fD [f, g] = 0 := by
  unfold ke at h
  split at h
  ·rename_i h2; exact absurd h h2
  ·rename_i h2; simpa using h2
 have h2 := (FX.fv ((jF hlk).2.1 f List.mem_cons_self)).2.2.1
 refine ⟨hlk, ?_, ?_⟩
 ·unfold bU
  rw [List.length_zipWith]
  omega
 ·unfold ke at h
  rw [if_neg (by omega)] at h
  split at h
  ·cases h
  ·rename_i hb
   have hb := (Bool.not_eq_true _).mp hb
   unfold l3 at hb
   have := (Bool.or_eq_false_iff.1 hb).2
   have := of_decide_eq_false this
   omega
theorem Out.same {E : Int} {D : List Nat} {ys : List Dyadic} {g h : FX} (h1 : Out E D ys g) (h2 : Out E D ys h) : g.ds = h.ds ∧ g.cs = h.cs := ⟨h1.ds.trans h2.ds.symm, h1.cs.trans h2.cs.symm⟩
theorem jf (g h : FX) (w : World) (hg : g.at_ w) (hh : h.at_ w) (e : g.ds = h.ds ∧ g.cs = h.cs) (hn : g.n ≤ 100000) (hm : g.m ≤ 1000000) :
  Calls Tryz.prog 17 #[.agg #[.slice g.A g.n g.a, .slice g.B g.m g.b], .agg #[.slice h.A h.n h.a, .slice h.B h.m h.b]] w fun r w' => r = .returned (.bool true) ∧ Below w.heap.size w w' := by
 have l1 := hg.ln
 have l2 := hh.ln
 obtain ⟨hg1, hg2⟩ := hg
 obtain ⟨hh1, hh2⟩ := hh
 have e1 : h.n = g.n := by rw [← l1.1, ← l2.1, e.1]
 have e2 : h.m = g.m := by rw [← l1.2, ← l2.2, e.2]
 rw [← e.1, e1] at hh1
 rw [← e.2, e2] at hh2
 rw [e1, e2]
 exact pY g.A g.B g.n g.a g.m g.b h.A h.B h.a h.b g.ds g.cs w hg1 hg2 hh1 hh2 hn hm
def mA (f : FX) (es : List Int) : Int := if f.e ≠ 0 then f.e else rF f.ds es
theorem qu (f : FX) (E : Option Addr) (q cE : Nat) (es : List Int) (k : Nat) (w : World) (hT : fQ w) (hf : f.at_ w) (hl : f.iA k) (hm : f.m ≤ 200) (hE : Sl w E q 1 (bI es)) (hq : q ≤ 1000) (hk : k ≤ 90000) :
  Calls Tryz.prog 23 #[.agg #[.slice f.A f.n f.a, .slice f.B f.m f.b], .slice E q cE] w fun r w' => ∃ g : FX, Out (mA f es) (es.map Int.toNat) (gx (es.map Int.toNat) f) g ∧ r = .returned (.tuple #[.agg #[.slice g.A g.n g.a, .slice g.B g.m g.b], .int .i64 (mA f es)]) ∧ Hp w [g.eG, g.eB] w' := by
 unfold mA
 refine (kZ f E q cE es k w hT hf hl hE hq hk fun h0 h1 => ?_).mono fun r w' h => ?_
 ·obtain ⟨_, _, _, _, h2, _⟩ := FX.fv h0
  have h3 : au (f.ds.map Int.toNat) ≤ 200 := by have := hf.ln.2; unfold FX.ns at h2; omega
  refine Nat.le_trans (Nat.mul_le_mul (?_ : _ ≤ 4096) h3) (by decide)
  unfold rF at h1
  split at h1
  ·cases h1
  split at h1
  ·cases h1
  split at h1
  ·cases h1
  omega
 ·rcases h with ⟨⟨h, rfl⟩ | ⟨h0, h1, rfl⟩, hb⟩ | ⟨h0, h1, A, a, B, b, rfl, h2⟩
  ·rw [if_pos h]
   exact ⟨FX.nil, .err h, rfl, ((Hp.start w).ext hb).uC⟩
  ·rw [if_neg (by omega)]
   exact ⟨FX.nil, .err h1, rfl, ((Hp.start w).ext hb).uC⟩
  ·rw [if_neg (by omega), h1]
   have hes : es = bp (es.map Int.toNat) := by
    obtain ⟨h3, _, _, _⟩ := FX.fv h0
    have h4 : rF (bp f.ns) es = 0 := by rw [← h3]; exact h1
    unfold rF at h4
    split at h4
    ·cases h4
    split at h4
    ·cases h4
    rename_i h5 h6
    obtain ⟨ts, rfl, _⟩ := vz (ns := f.ns) (es := es) (by omega) ((Bool.not_eq_true _).mp h6)
    rw [fY]
   have h7 : au (es.map Int.toNat) ≤ 4096 := by
    unfold rF at h1
    split at h1
    ·cases h1
    split at h1
    ·cases h1
    split at h1
    ·cases h1
    omega
   refine ⟨⟨A, q, a, B, au (es.map Int.toNat), b, es, _⟩, ⟨?_, rfl, by show q ≤ 100000; omega, by show au _ ≤ 1000000; omega⟩, rfl, h2⟩
   show es = _
   unfold zn
   rw [if_pos rfl]
   exact hes
theorem tj (f g : FX) (k : Nat) (w : World) (hT : fQ w) (hf : f.at_ w) (hg : g.at_ w) (hlf : f.iA k) (hlg : g.iA k) (hmf : f.m ≤ 200) (hmg : g.m ≤ 200) (hk : k ≤ 50000) :
  Calls Tryz.prog 18 #[.agg #[.slice f.A f.n f.a, .slice f.B f.m f.b], .agg #[.slice g.A g.n g.a, .slice g.B g.m g.b]] w fun r w' => ∃ p : FX, Out (ke f g) (bU f.ns g.ns) (fS f.ns g.ns (f.cs.map NR.d) (g.cs.map NR.d)) p ∧ r = .returned (.tuple #[.agg #[.slice p.A p.n p.a, .slice p.B p.m p.b], .int .i64 (ke f g)]) ∧ Hp w [p.eG, p.eB] w' := by
 refine (rS f g k w hT hf hg hlf hlg hmf hmg hk).mono fun r w' h => ?_
 rcases h with ⟨h, rfl, hb⟩ | ⟨h, p, hp, rfl, h2⟩
 ·exact ⟨FX.nil, .err h, rfl, ((Hp.start w).ext hb).uC⟩
 ·obtain ⟨_, h3, h4⟩ := wR h
  rw [h]
  exact ⟨p, hp.out h3 h4, rfl, h2⟩
theorem tc (L : Option Addr) (n c : Nat) (fs : List FX) (k : Nat) (w : World) (hT : fQ w) (hL : Sl w L n 2 (bG FX.cells fs)) (hn : n ≤ 1000) (hf : ∀ f ∈ fs, f.at_ w) (hl : ∀ f ∈ fs, f.iA k) (hm : ∀ f ∈ fs, f.m ≤ 200) (hk : k ≤ 90000) :
  Calls Tryz.prog 15 #[.slice L n c] w fun r w' => ∃ g : FX, Out (cx fs) (maxD fs) (zj (fs.map (gx (maxD fs)))) g ∧ r = .returned (.tuple #[.agg #[.slice g.A g.n g.a, .slice g.B g.m g.b], .int .i64 (cx fs)]) ∧ Hp w [g.eG, g.eB] w' := by
 refine (sT L n c fs k w hT hL hn hf hl hm hk).mono fun r w' h => ?_
 rcases h with ⟨h, rfl, hb⟩ | ⟨h, p, hp, rfl, h2⟩
 ·exact ⟨FX.nil, .err h, rfl, ((Hp.start w).ext hb).uC⟩
 ·obtain ⟨_, h3, h4⟩ := lq h fun f hm => (hf f hm).ln.1
  rw [h]
  exact ⟨p, hp.out h3 h4, rfl, h2⟩
theorem xA (f g : FX) (k : Nat) (w : World) (hT : fQ w) (hf : f.at_ w) (hg : g.at_ w) (hlf : f.iA k) (hlg : g.iA k) (hmf : f.m ≤ 200) (hmg : g.m ≤ 200) (hk : k ≤ 90000) :
  Calls Tryz.prog 25 #[.agg #[.slice f.A f.n f.a, .slice f.B f.m f.b], .agg #[.slice g.A g.n g.a, .slice g.B g.m g.b]] w fun r w' => ∃ x y : FX, Out (cx [f, g]) (maxD [f, g]) (gx (maxD [f, g]) f) x ∧ Out (cx [f, g]) (maxD [f, g]) (gx (maxD [f, g]) g) y ∧ r = .returned (.tuple #[.agg #[.slice x.A x.n x.a, .slice x.B x.m x.b], .agg #[.slice y.A y.n y.a, .slice y.B y.m y.b], .int .i64 (cx [f, g])]) ∧ Hp w [y.eG, y.eB, x.eG, x.eB] w' := by
 refine (re f g k w hT hf hg hlf hlg hmf hmg hk).mono fun r w' h => ?_
 rcases h with ⟨h, rfl, hb⟩ | ⟨h, x, y, hx, hy, rfl, h2⟩
 ·exact ⟨FX.nil, FX.nil, .err h, .err h, rfl, ((Hp.start w).ext hb).uC.uC⟩
 ·obtain ⟨_, h3, h4⟩ := lq h (by simpa using ⟨hf.ln.1, hg.ln.1⟩)
  rw [h]
  exact ⟨x, y, hx.out h3 h4, hy.out h3 h4, rfl, h2⟩
def FX.key (f : FX) : List Int × List NR × Nat := (f.ds, f.cs, f.n)
end Go.Proofs.YtioilmppidlbnaaGreatDoor
/- Plain: a form that is told without an error. -/
namespace Go.Proofs.YtioilmppidlbnaaGreatDoor
open Go.RowKit
theorem zN {D : List Nat} {ys : List Dyadic} {g : FX} (h : Out 0 D ys g) (h1 : D.length ≤ 12) (h2 : ∀ d ∈ D, d ≤ 127) (h3 : ys.length = au D) (h4 : au D ≤ 4096) : g.e = 0 ∧ g.ns = D ∧ g.cs.map NR.d = ys := by
 have e1 : g.ds = bp D := h.ds
 have e2 : g.cs = ys.map nR := h.cs
 refine ⟨?_, ?_, ?_⟩
 ·unfold FX.e
  rw [e1, e2]
  exact FV.ok (xs := ys) ⟨rfl, rfl, h1, h2, h3, h4⟩
 ·unfold FX.ns
  rw [e1]
  exact fY D
 ·rw [e2, List.map_map]
  exact (List.map_congr_left fun x _ => eR x).trans (List.map_id ys)
end Go.Proofs.YtioilmppidlbnaaGreatDoor
/- A range over a function, for one loop variable. Plain lemmas, no program in sight. -/
namespace Go.Proofs.YtioilmppidlbnaaGreatDoor
open Go.RowKit
abbrev kf (D : Nat) : Deferred := { target := .collected D, args := #[] }
abbrev kA (M : List Nat) : List HE := M.map fun D => .ob D (.deferred (some []))
theorem wX {N : Nat} {D : List Deferred} {a b : Act} {ρ : Rf} (h : dX N D a ρ) (k : dX N D b ρ) : a = b := by
 obtain ⟨t, d⟩ := a
 obtain ⟨t', d'⟩ := b
 obtain ⟨h1, h2, h3⟩ := h
 obtain ⟨k1, k2, k3⟩ := k
 obtain rfl : d = d' := h1.trans k1.symm
 congr 1
 refine Array.ext (h2.trans k2.symm) fun i hi hi' => ?_
 have e1 := h3 i
 have e2 := k3 i
 rw [Array.getD_eq_getD_getElem?, Array.getElem?_eq_getElem hi] at e1
 rw [Array.getD_eq_getD_getElem?, Array.getElem?_eq_getElem hi'] at e2
 exact e1.trans e2.symm
abbrev Kd := Exit → List Nat → Rf → World → Prop
structure WD (P : Program) (N : Nat) (c : Code) (Q : Kd) (ρ : Rf) (w : World) : Prop where
 out : ∀ (M : List Nat) a, dX N (M.map kf) a ρ → ∀ n, c.wpIn Fence.wide n P (fun e a' w' => ∃ M' ρ', dX N ((M' ++ M).map kf) a' ρ' ∧ Q e M' ρ' w') a w
def pZ (next : List Nat → Rf → World → Prop) (Q : Kd) : Kd
 | .normal, M, ρ, w => next M ρ w
 | e, M, ρ, w => Q e M ρ w
def nz (M : List Nat) (Q : Kd) : Kd := fun e M2 ρ w => Q e (M2 ++ M) ρ w
def wM (id : Nat) (Q : Kd) : Kd
 | .exit id', M, ρ, w => if id' = id then Q .normal M ρ w else Q (.exit id') M ρ w
 | e, M, ρ, w => Q e M ρ w
def wE (Q : Kd) : Kq := fun e ρ w => Q e [] ρ w
section
variable {P : Program} {N : Nat} {Q : Kd} {ρ : Rf} {w : World}
theorem tB {c : Code} (h : ∀ D, WC ⟨none, D, true⟩ P N c (wE Q) ρ w) : WD P N c Q ρ w :=
 ⟨fun M a hf n => wpIn_mono ((h (M.map kf)).gW a hf n) fun e a' w' ⟨ρ', hf', hq⟩ => ⟨[], ρ', hf', hq⟩⟩
theorem qg {x y : Code} (h : WD P N x (pZ (fun M ρ w => WD P N y (nz M Q) ρ w) Q) ρ w) : WD P N (.seq x y) Q ρ w :=
 ⟨fun M a hf n => wpIn_seq (wpIn_mono (h.out M a hf n) fun e a' w' ⟨M', ρ', hf', hq⟩ => by
  cases e with
  | normal =>
   refine wpIn_mono ((hq : WD P N y (nz M' Q) ρ' w').out (M' ++ M) a' hf' n) fun e a2 w2 ⟨M2, ρ2, hf2, hq2⟩ => ?_
   exact ⟨M2 ++ M', ρ2, by rw [List.append_assoc]; exact hf2, hq2⟩
  | _ => exact ⟨M', ρ', hf', hq⟩)⟩
theorem gA {x y : Code} (h : ∀ D, WC ⟨none, D, true⟩ P N x (cn (fun ρ w => WD P N y Q ρ w) (wE Q)) ρ w) : WD P N (.seq x y) Q ρ w :=
 qg (tB fun D => (h D).mono fun e ρ w hq => by
  cases e with
  | normal =>
   show WD P N y (nz [] Q) ρ w
   have e0 : nz [] Q = Q := by funext e M ρ w; unfold nz; rw [List.append_nil]
   rw [e0]
   exact hq
  | _ => exact hq)
theorem mv {id : Nat} {c : Code} (h : WD P N c (wM id Q) ρ w) : WD P N (.block id c) Q ρ w :=
 ⟨fun M a hf n => wpIn_block (wpIn_mono (h.out M a hf n) fun e a' w' ⟨M', ρ', hf', hq⟩ => by
  cases e with
  | exit id' =>
   by_cases hid : id' = id
   ·simp only [wM, hid, if_true] at hq
    simp only [Exit.inBlock, hid, if_true]
    exact ⟨M', ρ', hf', hq⟩
   ·simp only [wM, hid, if_false] at hq
    simp only [Exit.inBlock, hid, if_false]
    exact ⟨M', ρ', hf', hq⟩
  | _ => exact ⟨M', ρ', hf', hq⟩)⟩
theorem x7 {c : Code} (I : List Nat → Rf → World → Prop) (μ : Rf → World → Nat) (h0 : I [] ρ w)
  (round : ∀ M ρ w, I M ρ w → WD P N c (fun e M2 ρ' w' => pZ (fun M2 ρ' w' => I M2 ρ' w' ∧ μ ρ' w' < μ ρ w) Q e (M2 ++ M) ρ' w') ρ w) : WD P N (.loop c) Q ρ w := by
 refine ⟨fun M0 a hf n => ?_⟩
 refine wpIn_loop (fun a w => ∃ M ρ, dX N ((M ++ M0).map kf) a ρ ∧ I M ρ w) (fun a w => μ (fun i => a.tmps.getD i undef) w) ⟨[], ρ, hf, h0⟩ ?_
 rintro a w ⟨M, ρ, hf, hi⟩
 refine wpIn_mono ((round M ρ w hi).out (M ++ M0) a hf n) ?_
 rintro e a' w' ⟨M', ρ', hf', hq⟩
 rw [← List.append_assoc] at hf'
 have e1 : (fun i => a.tmps.getD i undef) = ρ := funext hf.at_
 have e2 : (fun i => a'.tmps.getD i undef) = ρ' := funext hf'.at_
 cases e with
 | normal => exact ⟨⟨_, ρ', hf', hq.1⟩, by rw [e1, e2]; exact hq.2⟩
 | _ => exact ⟨_, ρ', hf', hq⟩
def yH {α : Type} (Kp : World → World → Prop) (I : List α → World → Prop) (pre : List α) (x : α) (W : World) : Kq
 | .normal, _, W' => KeepsOthers W W' ∧ Kp W W' ∧ I (pre ++ [x]) W'
 | _, _, _ => False
def kh : Kq := fun _ _ _ => False
theorem n9 {ps : Tmp} {v : Value} {a : Array Value} : ((#[ps] : Array Tmp).zip #[v]).foldl (fun t (p, v) => t.setIfInBounds p v) a = a.setIfInBounds ps v := by simp
theorem wc {α : Type} {g : Operand} {p : Tmp} {assign body : Code} {gf : Nat} {lb : Array Value} (hp : p < N) (hg : ev ρ g = .func (.func gf) #[] lb) (eg : ∀ args w, (callFunc gf args).run P w = .ok (.enter gf args) w)
  {enc : α → Value} {Kp : World → World → Prop} {S : List α → Prop} {Nn : Nat} (hseq : ∀ n, SeqStopsK Fence.wide n P gf lb (fun x => #[enc x]) Kp S (fun _ => True) Nn w)
  (hKt : ∀ {A B C : World}, Kp A B → Kp B C → Kp A C) (hKb : ∀ (W : World) (l : Nat) (o o' : Obj), w.heap.size ≤ l → W.heap[l]? = some o → o.isCells = false → o.isWalk = false → Kp W (W.putObj l o'))
  (I : List α → World → Prop) (hI : OwnFrom w.heap.size I) (h0 : I [] w) (ρ1 : α → Rf) (hρ : ∀ x i, N ≤ i → ρ1 x i = ρ i)
  (hassign : ∀ l x W, WC ⟨some l, [], true⟩ P N assign (cn (fun ρ' W' => ρ' = ρ1 x ∧ W' = W) kh) (cq ρ p (enc x)) W)
  (hbody : ∀ l pre x W, I pre W → pre.length < Nn → WC ⟨some l, [], true⟩ P N body (yH Kp I pre x W) (ρ1 x) W)
  (hdone : ∀ (D : Nat) (xs : List α) (W : World), w.heap.size ≤ D → S xs → I xs W → W.heap[D]? = some (.deferred (some [])) → Q .normal [D] ρ W) : WD P N (.rangeFunc g #[p] assign body) Q ρ w := by
 refine ⟨fun M a hf n => ?_⟩
 have hfit : ∀ x, dX N [] { tmps := Array.ofFn fun i : Fin N => ρ1 x i, defers := [] } (ρ1 x) := fun x => by
  refine ⟨rfl, by simp, fun i => ?_⟩
  rw [Array.getD_eq_getD_getElem?]
  by_cases hi : i < N
  ·rw [Array.getElem?_eq_getElem (by simpa using hi)]
   simp
  ·rw [Array.getElem?_eq_none (by simp; omega), hρ x i (by omega), ← hf.at_ i, Array.getD_eq_getD_getElem?, Array.getElem?_eq_none (by rw [hf.sz]; omega)]
 have main : (Code.rangeFunc g #[p] assign body).wpIn Fence.wide (n + 1) P (fun e a' w' => ∃ M' ρ', dX N ((M' ++ M).map kf) a' ρ' ∧ Q e M' ρ' w') a w := by
  refine wpIn_rangeFunc_ownF (F := Fence.wide) (n := n + 1) rfl (by omega) (gf := gf) (lb := lb) (by rw [hf.eval]; exact hg) trivial eg (hseq _) hKt hKb (Below.refl _ _) (fun _ => rfl) I (fun _ _ _ => False) hI
   (fun _ _ _ _ _ hs _ _ => hs) h0 (fun x => { tmps := Array.ofFn fun i : Fin N => ρ1 x i, defers := [] }) (fun l x W K hK => ?_) (fun l pre x W hi hl => ?_) (fun D xs W hD hS hi hW => ?_) (fun _ _ _ _ _ _ h _ => h.elim)
  ·refine wpIn_mono ((hassign l x W).gW _ ⟨rfl, ?_, fun i => ?_⟩ _) fun e a' w' ⟨ρ', hf', hq⟩ => ?_
   ·rw [n9]
    simp [hf.sz]
   ·rw [n9, ← (hf.put hp (enc x)).at_ i]
    rfl
   ·cases e with
    | normal =>
     obtain ⟨rfl, rfl⟩ := hq
     rw [wX hf' (hfit x)]
     exact hK
    | _ => exact hq.elim
  ·refine wpIn_mono ((hbody l pre x W hi hl).gW _ (hfit x) _) fun e a' w' ⟨ρ', hf', hq⟩ => ?_
   cases e with
   | normal => exact hq
   | _ => exact hq.elim
  ·exact ⟨[D], ρ, ⟨by rw [hf.nd]; rfl, hf.sz, hf.at_⟩, hdone D xs W hD hS hi hW⟩
 intro b k cs hro hb _
 exact main b k cs hro hb (room_wide _)
end
def z9 (P : Program) (fn : Func) (R : Ending → World → Prop) : Kd := fun e M ρ w =>
 (e = .normal ∨ e = .ret) ∧ ∀ tmps : Array Value, (∀ i, tmps.getD i undef = ρ i) → ∀ n, LeavesInM Fence.wide n P fn tmps R (M.map kf) .returning w
theorem k5 {P : Program} {f : FuncId} {fn : Func} {c : Code} {N : Nat} {l : List Value} {w : World} {R : Ending → World → Prop}
  (hf : P.funcs[f]? = some fn) (hb : fn.body = some c) (hn : fn.ntmps = N) (ha : l.length ≤ N)
  (h : WD P N c (z9 P fn R) (oY l) w) : Calls P f l.toArray w R := by
 refine (callsIn_wide (n := 0)).1 (callsIn_of_wp_marks hf hb trivial ?_ rfl)
 refine wpIn_mono (h.out [] _ ⟨rfl, by simp [hn]; omega, fun i => ?_⟩ 0) ?_
 ·simp only [oY]
  rcases Nat.lt_or_ge i l.length with hi | hi
  ·rw [Array.getD_eq_getD_getElem?, Array.getElem?_append_left (by simpa using hi)]
   simp [List.getD_eq_getElem?_getD]
  ·rw [Array.getD_eq_getD_getElem?, Array.getElem?_append_right (by simpa using hi)]
   simp only [List.getD_eq_getElem?_getD, List.getElem?_eq_none hi, Option.getD_none, Array.getElem?_replicate]
   split <;> rfl
 ·rintro e a w' ⟨M, ρ', hf', he, hl⟩
  rw [List.append_nil] at hf'
  rcases he with rfl | rfl
  ·show LeavesInM _ _ _ _ a.tmps _ a.defers _ _
   rw [hf'.nd]
   exact hl _ hf'.at_ 0
  ·show LeavesInM _ _ _ _ a.tmps _ a.defers _ _
   rw [hf'.nd]
   exact hl _ hf'.at_ 0
theorem sj {P : Program} {f : FuncId} {fn : Func} {c : Code} {N : Nat} {l : List Value} {w : World} {R : Ending → World → Prop}
  (hf : P.funcs[f]? = some fn) (hb : fn.body = some c) (hn : fn.ntmps = N) (ha : l.length ≤ N)
  (h : WC ⟨none, [], true⟩ P N c (iX P fn R) (oY l) w) : Calls P f l.toArray w R := by
 refine (callsIn_wide (n := 0)).1 (callsIn_of_wp hf hb trivial ?_ rfl)
 refine wpIn_mono (h.gW _ ⟨rfl, by simp [hn]; omega, fun i => ?_⟩ 0) ?_
 ·simp only [oY]
  rcases Nat.lt_or_ge i l.length with hi | hi
  ·rw [Array.getD_eq_getD_getElem?, Array.getElem?_append_left (by simpa using hi)]
   simp [List.getD_eq_getElem?_getD]
  ·rw [Array.getD_eq_getD_getElem?, Array.getElem?_append_right (by simpa using hi)]
   simp only [List.getD_eq_getElem?_getD, List.getElem?_eq_none hi, Option.getD_none, Array.getElem?_replicate]
   split <;> rfl
 ·rintro e a w' ⟨ρ', hf', he, v, hr, hR⟩
  rcases he with rfl | rfl
  ·exact ⟨hf'.nd, v, hr _ hf'.at_, hR⟩
  ·exact ⟨hf'.nd, v, hr _ hf'.at_, hR⟩
def HE.zX : HE → Bool
 | .ob _ _ => false
 | _ => true
theorem nl {base : Nat} {w : World} {x : HE} {b : Nat} (h : x.holds base w) (hc : x.zX = true) (hid : x.id = some b) : ∃ o, w.heap[b]? = some o ∧ o.isCells = true := by
 cases x with
 | blk b' t cs fz =>
  obtain rfl : b' = b := Option.some.inj hid
  exact ⟨_, h.2.1, rfl⟩
 | row A n c t sz xs =>
  rcases h.2 with ⟨h1, _⟩ | ⟨g, cap, cur, h1, _, h3, _⟩
  ·injection h1 with e1
   subst e1
   cases hid
  ·injection h1 with e1
   subst e1
   obtain rfl : g = b := Option.some.inj hid
   exact ⟨_, h3, rfl⟩
 | ob _ _ => cases hc
theorem Hp.y5 {w0 w w' : World} {H : List HE} (h : Hp w0 H w) (hc : ∀ x ∈ H, x.zX = true) {row : Option Nat} (hg : w.grownBy w' row) (hr : ∀ r, row = some r → w0.heap.size ≤ r ∧ ∃ o : Obj, w.heap[r]? = some o ∧ o.isCells = false) : Hp w0 H w' := by
 refine ⟨⟨hg.os.trans h.below.os, hg.tape.trans h.below.tape, hg.output.trans h.below.output, Nat.le_trans h.size hg.size, fun k hk => ?_⟩, fun x hx => ?_, h.nd⟩
 ·refine (hg.block k (Nat.lt_of_lt_of_le hk h.size) fun e => ?_).trans (h.below.block k hk)
  have := (hr k e.symm).1
  omega
 ·refine j7 (h.own x hx) fun b hid => hg.block b (eb (h.own x hx) hid).2 fun e => ?_
  obtain ⟨o, h1, h2⟩ := nl (h.own x hx) (hc x hx) hid
  obtain ⟨_, o', h3, h4⟩ := hr b e.symm
  rw [h1] at h3
  cases h3
  rw [h2] at h4
  cases h4
def yj (base : Nat) (ids : List Nat) (w : World) (k : Nat) : Option HE := if base ≤ k ∧ ids.contains k = false then (w.heap[k]?).map fun o => .ob k o else none
def sC (base : Nat) (ids : List Nat) (w : World) : List HE := (List.range w.heap.size).filterMap (yj base ids w)
theorem mh {base : Nat} {ids : List Nat} {w : World} {k : Nat} {x : HE} (h : yj base ids w k = some x) : ∃ o, x = .ob k o ∧ base ≤ k ∧ k ∉ ids ∧ w.heap[k]? = some o := by
 unfold yj at h
 split at h
 ·rename_i h1
  obtain ⟨o, h2, h3⟩ := Option.map_eq_some_iff.1 h
  exact ⟨o, h3.symm, h1.1, by simpa using h1.2, h2⟩
 ·cases h
theorem Hp.xW {w0 w : World} {H : List HE} (h : Hp w0 H w) : Hp w0 (H ++ sC w0.heap.size (H.filterMap HE.id) w) w := by
 refine ⟨h.below, fun x hx => ?_, ?_⟩
 ·rcases List.mem_append.1 hx with hx | hx
  ·exact h.own x hx
  ·obtain ⟨k, _, hk⟩ := List.mem_filterMap.1 hx
   obtain ⟨o, rfl, h1, _, h3⟩ := mh hk
   exact ⟨h1, h3⟩
 ·rw [List.filterMap_append]
  refine List.nodup_append.2 ⟨h.nd, ?_, fun a ha b hb e => ?_⟩
  ·unfold sC
   rw [List.filterMap_filterMap]
   refine List.Pairwise.filterMap _ (fun a a' hne b hb b' hb' e => ?_) List.nodup_range
   obtain ⟨x, hx, hx2⟩ := Option.bind_eq_some_iff.1 hb
   obtain ⟨y, hy, hy2⟩ := Option.bind_eq_some_iff.1 hb'
   obtain ⟨o, rfl, _⟩ := mh hx
   obtain ⟨o', rfl, _⟩ := mh hy
   obtain rfl : a = b := Option.some.inj hx2
   obtain rfl : a' = b' := Option.some.inj hy2
   exact hne e
  ·obtain ⟨x, hx, hx2⟩ := List.mem_filterMap.1 hb
   obtain ⟨k, _, hk⟩ := List.mem_filterMap.1 hx
   obtain ⟨o, rfl, _, h2, _⟩ := mh hk
   obtain rfl : k = b := Option.some.inj hx2
   exact h2 (e ▸ ha)
theorem kT {P : Program} {fn : Func} {tmps : Array Value} {R : Ending → World → Prop} {n : Nat} {w0 : World} {H : List HE} : ∀ (M : List Nat) (w : World), Hp w0 (kA M ++ H) w → (∀ w2, Hp w0 H w2 → ∃ v, (results fn tmps).run P w2 = .ok v w2 ∧ R (.returned v) w2) →
  LeavesInM Fence.wide n P fn tmps R (M.map kf) .returning w
 | [], w, hh, h => h w hh
 | D :: M, w, hh, h => by
  have hD : w.heap[D]? = some (.deferred (some [])) := (hh.own _ List.mem_cons_self).2
  refine ⟨by simp, .inl ⟨D, w.putObj D (.deferred none), rfl, run_takeDeferred hD, kT M _ ?_ h⟩⟩
  have hb := (hh.own _ List.mem_cons_self).1
  have h2 := hh.xl (i := 0) (x := .ob D (.deferred (some []))) (y := .ob D (.deferred none)) (w' := w.putObj D (.deferred none)) rfl (fun b e => .inl e) ?_ (fun b hlt hne => World.putObj_heap_other (fun e => hne (by rw [e]; rfl))) ⟨hb, ?_⟩
  ·exact h2.sub (List.sublist_cons_self _ _)
  ·have hg := grownBy_putObj' w D (.deferred none)
   refine ⟨hg.os.trans hh.below.os, hg.tape.trans hh.below.tape, hg.output.trans hh.below.output, Nat.le_trans hh.size hg.size, fun k hk => (hg.block k (Nat.lt_of_lt_of_le hk hh.size) fun e => ?_).trans (hh.below.block k hk)⟩
   cases e
   omega
  ·exact World.putObj_heap_same (Array.getElem?_eq_some_iff.1 hD).1
theorem lk {P : Program} {fn : Func} {R : Ending → World → Prop} {ρ : Rf} {w w0 : World} {e : Exit} {M : List Nat} {H : List HE} {rs : List ResultVar} {vs : List Value} (hh : Hp w0 (kA M ++ H) w) (he : e = .normal ∨ e = .ret) (hr : fn.results = rs.toArray)
  (h : ∀ w2, Hp w0 H w2 → fm P ρ w2 rs vs ∧ R (.returned (ot vs)) w2) : z9 P fn R e M ρ w := by
 refine ⟨he, fun tmps ht n => kT M w hh fun w2 hh2 => ?_⟩
 obtain ⟨h1, h2⟩ := h w2 hh2
 obtain ⟨_, v, h3, h4⟩ := g8 (e := e) he hr h1 h2
 exact ⟨v, h3 tmps ht, h4⟩
theorem xT {P : Program} {w : World} {ρ : Rf} {d : Option Nat} {ty : TypeId} {pos : String} {af : Array Edge} {g : Option (Nat × Bool)} {x : Operand} {args : Array Operand} {ts : Array TypeId} {vs : List Value} {l : Nat} {fn : FuncId} {tmps : Array Value} {assign body : Code}
  (hx : ev ρ x = .func (.yield l) #[] #[]) (ha : oC ρ args.toList = vs) (hy : (Instr.yield l vs.toArray).run P w = .ok (.round l fn tmps assign body) w) : (execOp (ev ρ) ⟨d, .call ⟨.value x, args, ts⟩, ty, pos, af, g⟩).run P w = .ok (.round l fn tmps assign body) w := by
 have h2 : args.map (ev ρ) = vs.toArray := jK args ha
 simp [execOp, resolve, Deferred.ofValue, hx, h2, invoke, callFunc, program, Sem.run, hy]
theorem wi {P : Program} {N : Nat} {ops : Array Oper} {Q : Kq} {ρ : Rf} {w : World} {rest : List Oper} {d : Nat} {ty : TypeId} {pos : String} {af : Array Edge} {x : Operand} {args : Array Operand} {ts : Array TypeId} {vs : List Value} {l m : Nat} {R : Ending → World → Prop}
  (hx : ev ρ x = .func (.yield l) #[] #[]) (ha : oC ρ args.toList = vs) (hy : YieldAt Fence.wide m P l vs.toArray w R) (hN : d < N) (kk : ∀ e w', R e w' → ∃ v, e = .returned v ∧ WL ⟨none, [], true⟩ P N ops Q rest (cq ρ d v) w') :
  WL ⟨none, [], true⟩ P N ops Q (⟨some d, .call ⟨.value x, args, ts⟩, ty, pos, af, none⟩ :: rest) ρ w := by
 obtain ⟨fn, tmps, as_, bd, h1, h2⟩ := hy
 refine ⟨fun h => (by cases h), fun a hf n => wpListIn_plain rfl fun K hK => ⟨fun _ _ => trivial, ?_⟩⟩
 rw [hf.eval, jr _ (xT hx ha h1) (fun _ h => by cases h)]
 refine ⟨fun h => (by cases h), ?_⟩
 refine ⟨trivial, fun c cs _ => ?_⟩
 obtain ⟨e, w', hR, hs⟩ := h2.2 c cs (room_wide _)
 refine ⟨e, w', ?_, hs⟩
 obtain ⟨v, rfl, hk⟩ := kk e w' hR
 exact hK _ _ (hk.gW _ (hf.put hN v) n)
end Go.Proofs.YtioilmppidlbnaaGreatDoor
/- Ranges over functions inside a loop: the marks that they leave. Plain lemmas, no program in sight. -/
namespace Go.Proofs.YtioilmppidlbnaaGreatDoor
open Go.RowKit
section
variable {P : Program} {N : Nat} {Q : Kd} {ρ : Rf} {w : World}
theorem WD.mono {c : Code} {Q' : Kd} (h : WD P N c Q ρ w) (hq : ∀ e M ρ w, Q e M ρ w → Q' e M ρ w) : WD P N c Q' ρ w :=
 ⟨fun M a hf n => wpIn_mono (h.out M a hf n) fun e a' w' ⟨M', ρ', hf', hk⟩ => ⟨M', ρ', hf', hq e M' ρ' w' hk⟩⟩
theorem wI {c : Code} (mods : List Nat) (s0 s1 : Nat) (I : List Nat → Value → Value → World → Prop) (μ : Value → Value → World → Nat) (h0 : I [] (ρ s0) (ρ s1) w)
  (round : ∀ M ρ' v0 v1 w', I M v0 v1 w' → WD P N c (fun e M2 ρ2 w2 => pZ (fun M3 ρ2 w2 => I M3 (ρ2 s0) (ρ2 s1) w2 ∧ μ (ρ2 s0) (ρ2 s1) w2 < μ v0 v1 w' ∧ hQ mods ρ2 ρ) Q e (M2 ++ M) ρ2 w2) (cq (cq (mask mods ρ' ρ) s0 v0) s1 v1) w') : WD P N (.loop c) Q ρ w :=
 x7 (fun M ρ1 w1 => I M (ρ1 s0) (ρ1 s1) w1 ∧ hQ mods ρ1 ρ) (fun ρ1 w1 => μ (ρ1 s0) (ρ1 s1) w1) ⟨h0, fun _ _ => rfl⟩ fun M ρ1 w1 ⟨hi, ha⟩ => by
  have h := round M ρ1 (ρ1 s0) (ρ1 s1) w1 hi
  rw [jv ha, fN, fN] at h
  exact h.mono fun e M2 ρ2 w2 hq => by
   cases e with
   | normal => exact ⟨⟨hq.1, hq.2.2⟩, hq.2.1⟩
   | _ => exact hq
theorem zK {M : List Nat} {id : Nat} {next : List Nat → Rf → World → Prop} (h : next M ρ w) : wE (nz M (wM id (pZ next Q))) .normal ρ w := h
theorem vS {M M0 : List Nat} {next : List Nat → Rf → World → Prop} (h : next (M ++ M0) ρ w) : wE (nz M (fun e M2 ρ2 w2 => pZ next Q e (M2 ++ M0) ρ2 w2)) .normal ρ w := h
theorem yi {M0 : List Nat} {id : Nat} {next next' : List Nat → Rf → World → Prop} (h : next' M0 ρ w) : wE (fun e M2 ρ2 w2 => pZ next (wM id (pZ next' Q)) e (M2 ++ M0) ρ2 w2) (.exit id) ρ w := by
 show if id = id then pZ next' Q .normal ([] ++ M0) ρ w else pZ next' Q (.exit id) ([] ++ M0) ρ w
 rw [if_pos rfl]
 exact h
end
structure Marks (w0 : World) (M : List Nat) (w : World) : Prop where
 at_ : ∀ D ∈ M, w0.heap.size ≤ D ∧ w.heap[D]? = some (.deferred (some []))
 nd : M.Nodup
theorem uj (M : List Nat) : (kA M).filterMap HE.id = M := by
 induction M with
 | nil => rfl
 | cons D M ih => rw [show kA (D :: M) = .ob D (.deferred (some [])) :: kA M from rfl, List.filterMap_cons, show HE.id (.ob D (.deferred (some []))) = some D from rfl]; simp only [ih]
theorem Hp.marks {w0 w : World} {H : List HE} {M : List Nat} (h : Hp w0 (H ++ kA M) w) : Marks w0 M w := by
 refine ⟨fun D hD => h.own (.ob D (.deferred (some []))) (List.mem_append_right _ (List.mem_map_of_mem (f := fun D => HE.ob D (.deferred (some []))) hD)), ?_⟩
 have := h.nd
 rw [List.filterMap_append, uj] at this
 exact (List.nodup_append.1 this).2.1
theorem Hp.zF {w0 w : World} {H : List HE} {M : List Nat} (h : Hp w0 H w) (hc : ∀ x ∈ H, x.zX = true) (hm : Marks w0 M w) : Hp w0 (H ++ kA M) w := by
 refine ⟨h.below, fun x hx => ?_, ?_⟩
 ·rcases List.mem_append.1 hx with hx | hx
  ·exact h.own x hx
  ·obtain ⟨D, hD, rfl⟩ := List.mem_map.1 hx
   exact hm.at_ D hD
 ·rw [List.filterMap_append, uj]
  refine List.nodup_append.2 ⟨h.nd, hm.nd, fun a ha b hb e => ?_⟩
  subst e
  obtain ⟨y, hy, hyb⟩ := List.mem_filterMap.1 ha
  obtain ⟨o', h2, h3⟩ := nl (h.own y hy) (hc y hy) hyb
  rw [(hm.at_ a hb).2] at h2
  cases h2
  cases h3
theorem Marks.keeps {w0 w w' : World} {M : List Nat} (h : Marks w0 M w) (hk : KeepsOthers w w') : Marks w0 M w' := ⟨fun D hD => ⟨(h.at_ D hD).1, hk.2 D _ (h.at_ D hD).2 rfl⟩, h.nd⟩
theorem Marks.grown {w0 ws w w' : World} {M : List Nat} (h : Marks w0 M w) (hlt : ∀ D ∈ M, D < ws.heap.size) {row : Option Nat} (hg : w.grownBy w' row) (hr : ∀ r, row = some r → ws.heap.size ≤ r) : Marks w0 M w' := by
 refine ⟨fun D hD => ⟨(h.at_ D hD).1, ?_⟩, h.nd⟩
 have h1 := (h.at_ D hD).2
 refine (hg.block D (Array.getElem?_eq_some_iff.1 h1).1 fun e => ?_).trans h1
 have := hr D e.symm
 have := hlt D hD
 omega
theorem Marks.lt {w0 w : World} {M : List Nat} (h : Marks w0 M w) : ∀ D ∈ M, D < w.heap.size := fun D hD => (Array.getElem?_eq_some_iff.1 (h.at_ D hD).2).1
theorem Marks.cons {w0 ws w : World} {M : List Nat} {D : Nat} (h : Marks w0 M w) (hlt : ∀ D ∈ M, D < ws.heap.size) (h0 : w0.heap.size ≤ ws.heap.size) (hD : ws.heap.size ≤ D) (h1 : w.heap[D]? = some (.deferred (some []))) : Marks w0 (D :: M) w := by
 refine ⟨fun E hE => ?_, List.nodup_cons.2 ⟨fun hm => ?_, h.nd⟩⟩
 ·rcases List.mem_cons.1 hE with rfl | hE
  ·exact ⟨by omega, h1⟩
  ·exact h.at_ E hE
 ·have := hlt D hm
  omega
theorem Hp.zu {w0 w : World} {L : List HE} {M : List Nat} (h : Hp w0 L w) (hs : (kA M).Sublist L) : Marks w0 M w := Hp.marks (H := []) (h.sub hs)
theorem Hp.zQ {w0 w w' : World} {x y : HE} {T T' : List HE} {b : Nat} (hs : Hp w0 (x :: T) w) (hc : ∀ z ∈ x :: T, z.zX = true) (he : Hp w0 (y :: (T' ++ sC w0.heap.size ((x :: T).filterMap HE.id) w)) w') (hid : T'.filterMap HE.id = T.filterMap HE.id) (hy : y.id = some b) : KeepsOthers w w' := by
 have hoth : ∀ k, k < w.heap.size → w0.heap.size ≤ k → k ∉ (x :: T).filterMap HE.id → ∃ o, w.heap[k]? = some o ∧ HE.ob k o ∈ sC w0.heap.size ((x :: T).filterMap HE.id) w := fun k hk h0 hm => ⟨w.heap[k], Array.getElem?_eq_getElem hk, List.mem_filterMap.2 ⟨k, List.mem_range.2 hk, by
  unfold yj
  rw [if_pos ⟨h0, by simpa using hm⟩, Array.getElem?_eq_getElem hk]
  rfl⟩⟩
 have hob : ∀ z ∈ sC w0.heap.size ((x :: T).filterMap HE.id) w, z ∈ y :: (T' ++ sC w0.heap.size ((x :: T).filterMap HE.id) w) := fun z hz => List.mem_cons_of_mem _ (List.mem_append_right _ hz)
 have hbl := eb (he.own y List.mem_cons_self) hy
 have hnd := he.nd
 rw [List.filterMap_cons, hy] at hnd
 have hnd1 := (List.nodup_cons.1 hnd).1
 refine ⟨?_, fun k o h1 h2 => ?_⟩
 ·rcases Nat.eq_zero_or_pos w.heap.size with h | h
  ·omega
  ·have hk : w.heap.size - 1 < w.heap.size := by omega
   by_cases h0 : w.heap.size - 1 < w0.heap.size
   ·have := he.size
    omega
   ·by_cases hm : w.heap.size - 1 ∈ (x :: T).filterMap HE.id
    ·rw [List.filterMap_cons] at hm
     have hT : w.heap.size - 1 ∈ T.filterMap HE.id → w.heap.size ≤ w'.heap.size := fun hm => by
      obtain ⟨z, hz, hzb⟩ := List.mem_filterMap.1 (hid ▸ hm)
      have := (eb (he.own z (List.mem_cons_of_mem _ (List.mem_append_left _ hz))) hzb).2
      omega
     split at hm
     ·exact hT hm
     ·rename_i r hr
      rcases List.mem_cons.1 hm with e | hm
      ·by_cases hb : b < w.heap.size
       ·by_cases hbk : b = w.heap.size - 1
        ·omega
        ·exfalso
         by_cases hbm : b ∈ (x :: T).filterMap HE.id
         ·rw [List.filterMap_cons, hr] at hbm
          rcases List.mem_cons.1 hbm with e2 | hbm
          ·omega
          ·rw [← hid] at hbm
           exact hnd1 (by rw [List.filterMap_append]; exact List.mem_append_left _ hbm)
         ·obtain ⟨o, _, h3⟩ := hoth b hb hbl.1 hbm
          exact hnd1 (by rw [List.filterMap_append]; exact List.mem_append_right _ (List.mem_filterMap.2 ⟨_, h3, rfl⟩))
       ·omega
      ·exact hT hm
    ·obtain ⟨o, _, h3⟩ := hoth _ hk (by omega) hm
     have := (eb (he.own _ (hob _ h3)) rfl).2
     omega
 ·have hk := (Array.getElem?_eq_some_iff.1 h1).1
  by_cases h0 : k < w0.heap.size
  ·exact (he.below.block k h0).trans ((hs.below.block k h0).symm.trans h1)
  ·by_cases hm : k ∈ (x :: T).filterMap HE.id
   ·obtain ⟨z, hz, hzb⟩ := List.mem_filterMap.1 hm
    obtain ⟨o', h3, h4⟩ := nl (hs.own z hz) (hc z hz) hzb
    rw [h1] at h3
    cases h3
    rw [h2] at h4
    cases h4
   ·obtain ⟨o', h3, h4⟩ := hoth k hk (by omega) hm
    rw [h1] at h3
    cases h3
    exact (he.own _ (hob _ h4)).2
end Go.Proofs.YtioilmppidlbnaaGreatDoor
/- Plain laws: a line of numbers, parted. No program in sight. -/
namespace Go.Proofs.YtioilmppidlbnaaGreatDoor
def Ax (d : Nat) (a b : Dyadic) (i k : Nat) : Dyadic := if k < i then 0 else nD (bin (d - i) (k - i)) * a ^ i * b ^ (k - i)
def gY (xs : List Dyadic) (i : Nat) : Dyadic := (xs[i]?).getD 0
def Bm (d : Nat) (M : Nat → Nat → Dyadic) (xs : List Dyadic) : List Dyadic := (List.range (d + 1)).map fun k => sm (List.range (d + 1)) fun i => gY xs i * M i k
def BC (d : Nat) (a b : Dyadic) (xs : List Dyadic) (i j : Nat) : List Dyadic := (List.range (d + 1)).map fun k => sm (List.range i) (fun m => gY xs m * Ax d a b m k) + if i ≤ k ∧ k < i + j then gY xs i * Ax d a b i k else 0
theorem Sz.vg {q : Nat} {a : Dyadic} (h : Sz q a) {i d : Nat} (hi : i ≤ d) : Sz (1 + q * d) (a ^ i) := (Sz.pow h i).mono (by have := Nat.mul_le_mul_left q hi; omega)
theorem y6 {xs : List Dyadic} {k : Nat} (h : ∀ x ∈ xs, Sz k x) (i : Nat) : Sz k (gY xs i) := by
 unfold gY
 cases hx : xs[i]? with
 | none => exact Sz.zero _
 | some x => exact h x (List.mem_of_getElem? hx)
end Go.Proofs.YtioilmppidlbnaaGreatDoor
/- The walks through knife.lower, slices.Reverse and knife.upper. -/
namespace Go.Proofs.YtioilmppidlbnaaGreatDoor
open Go.RowKit
theorem Sz.bP {k : Nat} {x : Dyadic} (h : Sz k x) : (nR x).bP.size ≤ k + 1 := by have := h.nr.1; omega
structure Val (q : Nat) (s : NR) (x : Dyadic) : Prop where
 ok : s.ok
 bP : s.bP.size ≤ 2001
 d : s.d = x
 sz : Sz q x
theorem Val.of {q : Nat} {x : Dyadic} (h : Sz q x) (hq : q ≤ 2000) : Val q (nR x) x := ⟨h.ok (by omega), by have := h.bP; omega, eR x, h⟩
def Bn (l : List Dyadic) (i : Nat) : List Dyadic := (List.range l.length).map fun k => if k < i ∨ l.length ≤ k + i then gY l (l.length - 1 - k) else gY l k
end Go.Proofs.YtioilmppidlbnaaGreatDoor
/- The walks through ogeeref14.Add, Mul and Scale. -/
namespace Go.Proofs.YtioilmppidlbnaaGreatDoor
open Go.RowKit
def BD (R : List HE) (g : FX) : Prop := R = [g.eG, g.eB] ∨ g.m = 0 ∧ R = [g.eB]
end Go.Proofs.YtioilmppidlbnaaGreatDoor
/- The walks through bern.folded and the function that it hands back. -/
namespace Go.Proofs.YtioilmppidlbnaaGreatDoor
open Go.RowKit
def iI (d : Nat) (t : Dyadic) (xs : List Dyadic) (i : Nat) : Dyadic := sm (List.range i) fun r => gY xs r * jL d r t
theorem uR (d : Nat) (t : Dyadic) (xs : List Dyadic) (i : Nat) : iI d t xs (i + 1) = iI d t xs i + gY xs i * jL d i t := by
 unfold iI
 rw [List.range_succ, hH]
theorem pr {d i k q : Nat} {t : Dyadic} {xs : List Dyadic} (hx : ∀ x ∈ xs, Sz k x) (ht : Sz q t) (ht1 : Sz q (1 - t)) (hi : i ≤ d + 1) : Sz (k + (2 + 2 * (q * d)) + i) (iI d t xs i) := by
 have h2 := wo (l := List.range i) (f := fun r => gY xs r * jL d r t) (k := k + (2 + 2 * (q * d))) fun r hr => by
  have hr := List.mem_range.1 hr
  unfold jL
  exact ((y6 hx r).mul ((ht.vg (show r ≤ d by omega)).mul (ht1.vg (show d - r ≤ d by omega)))).mono (by omega)
 rw [List.length_range] at h2
 exact h2
theorem nS (tn : NR) (t : Dyadic) (bt bl : Addr) (L : Option Addr) (n c d : Nat) (xs : List Dyadic) (k q : Nat) (w : World) (hT : fQ w) (hS : Sl w L n 3 (bG NR.cells (xs.map nR))) (hn : n = d + 1) (hd : d ≤ 127) (hx : ∀ x ∈ xs, Sz k x) (vt : Val q tn t) (ht1 : Sz q (1 - t))
  (hb1 : Rd w bt [.bool tn.neg, .string tn.bP, .int .i64 tn.e]) (hb2 : Rd w bl [.bool (nR (1 - t)).neg, .string (nR (1 - t)).bP, .int .i64 (nR (1 - t)).e]) (hk : k ≤ 500000) (hq : q ≤ 2000) :
  Calls Tryz.prog 120 #[.slice L n c, .pointer (some bt), .pointer (some bl)] w fun r w' => r = .returned (.agg #[.bool (nR (iI d t xs (d + 1))).neg, .string (nR (iI d t xs (d + 1))).bP, .int .i64 (nR (iI d t xs (d + 1))).e]) ∧ Below w.heap.size w w' := by
 have hh := Hp.start w
 have hln : xs.length = n := by have := hS.cR NR.len (by decide); simpa using this
 have hqd : q * d ≤ 2000 * 127 := Nat.mul_le_mul hq hd
 have ht := vt.sz
 have hpw : ∀ (sn : NR) (z : Dyadic), Val q sn z → ∀ (i : Nat), i ≤ d → ∀ w1, fQ w1 → Calls Tryz.prog 121 #[.agg #[.bool sn.neg, .string sn.bP, .int .i64 sn.e], .int .i64 (i : Int)] w1 fun r w' => r = .returned (.agg #[.bool (nR (z ^ i)).neg, .string (nR (z ^ i)).bP, .int .i64 (nR (z ^ i)).e]) ∧ Below w1.heap.size w1 w' := fun sn z hz i hi w1 hT1 => by
  have h1 := hz.bP
  have h2 : i * sn.bP.size ≤ 127 * 2001 := Nat.mul_le_mul (by omega) (by omega)
  have := th sn i w1 hT1 hz.ok (by rw [Int.toNat_natCast]; omega) (by omega)
  rwa [hz.d, Int.toNat_natCast] at this
 obtain ⟨ad, rfl, hr⟩ := hS.at_ (by omega)
 refine al (N := 35) (l := [.slice (some ad) n c, .pointer (some bt), .pointer (some bl)]) Tryz.func120 rfl rfl (by simp) ?_
 refine sr ?_
 refine cu hh ?_
 intro b4 w4 hh
 refine aa (sr (mL (aV ?_)))
 refine et (aI (aa (sr ?_)))
 refine cu hh ?_
 intro b6 w6 hh
 refine aa (ah (sr (mL (aV (mI (aa (aj ?_)))))))
 refine bo [7, 8, 14, 15, 16, 17, 18, 19, 20, 21, 22, 23, 24, 25, 26, 27, 28, 29, 30, 31, 32, 33] 14
  (fun v w' => ∃ i : Nat, i ≤ n ∧ v = .int .i64 i ∧ Hp w [.blk b6 39 [.bool (nR (iI d t xs i)).neg, .string (nR (iI d t xs i)).bP, .int .i64 (nR (iI d t xs i)).e] (0, 0), .blk b4 39 [.bool false, .string (ByteArray.mk #[]), .int .i64 0] (0, 0)] w')
  (fun v _ => n - (intOf v).toNat) ?_ ?_
 ·exact ⟨0, Nat.zero_le _, rfl, hh⟩
 ·clear hh
  rintro ρ' v w' ⟨i, hi, rfl, hh⟩
  by_cases hlt : i < n
  ·obtain ⟨x, hxi⟩ := ay (l := xs) (k := i) (by omega)
   have hxn : (xs.map nR)[i]? = some (nR x) := by rw [List.getElem?_map, hxi]; rfl
   have hat : gY xs i = x := by unfold gY; rw [hxi]; rfl
   have zx := hx x (List.mem_of_getElem? hxi)
   have hpa := hpw tn t vt i (by omega)
   have hpb := hpw (nR (1 - t)) (1 - t) (Val.of ht1 hq) (d - i) (by omega)
   have zp := ht.vg (show i ≤ d by omega)
   have zq := ht1.vg (show d - i ≤ d by omega)
   have zo := pr (d := d) (i := i) hx ht ht1 (by omega)
   have zy := (zx.mul zp).mul zq
   have hst := uR d t xs i
   unfold jL at hst
   rw [hat, ← Dyadic.mul_assoc] at hst
   have hm3 := fun A cc w1 hT1 hS1 => iQ A 3 cc [nR x, nR (t ^ i), nR ((1 - t) ^ (d - i))] w1 hT1 hS1 (by simpa using ⟨zx.ok (by omega), zp.ok (by omega), zq.ok (by omega)⟩) 600000 (by simpa [eR] using ⟨zx.mono (by omega), zp.mono (by omega), zq.mono (by omega)⟩) (by omega) (by omega)
   rw [show g9 ([nR x, nR (t ^ i), nR ((1 - t) ^ (d - i))].map NR.d) = x * t ^ i * (1 - t) ^ (d - i) by simp only [List.map_cons, List.map_nil, eR]; show 1 * x * _ * _ = _; rw [Dyadic.one_mul]] at hm3
   generalize x * t ^ i * (1 - t) ^ (d - i) = y at *
   have hsum := fun A cc w1 hT1 hS1 => fT A 2 cc [nR (iI d t xs i), nR y] w1 hT1 hS1 (by simpa using ⟨zo.ok (by omega), zy.ok (by omega)⟩) 2000000 (by simpa [eR] using ⟨zo.mono (by omega), zy.mono (by omega)⟩) (by omega)
   rw [show ji ([nR (iI d t xs i), nR y].map NR.d) = iI d t xs i + y by simp only [List.map_cons, List.map_nil, eR, ig], ← hst] at hsum
   generalize hS2 : iI d t xs (i + 1) = S2 at *
   generalize iI d t xs i = S1 at *
   have e27 : (n : Int) - 1 - (i : Int) = ((d - i : Nat) : Int) := by omega
   refine sr ?_
   refine aJ (aa (ah (cT (ak (ai (ah (aj (sr (mI ?_)))))))))
   refine gu aH.out aD.size rfl rfl (by omega) (by omega) (by decide) ?_
   refine cI (vs := [_, _, _]) aD.out rfl ((hr.ext hh.below).recAt NR.len hxn) rfl (by decide) ?_
   refine cu hh ?_
   intro b8 w8 hh
   refine aI ?_
   refine bM hh 0 [_,_,_] ?_
   intro ws hh
   replace hh : Hp _ (.blk _ _ [_, _, _] _ :: _) _ := hh
   refine aa ?_
   rw [← e27] at hpb
   refine a6 12 [[(6, none)], [(8, none)], [(1, none)], [(7, none)], [(21, some 2), (22, some 3)], [(2, none)], [(5, none)], [(7, none)], [(25, some 6), (26, some 7)], [(24, some 5), (27, some 8)], [(20, some 1), (23, some 4), (28, some 9)], [(29, some 10)]] [(11, 30), (10, 29), (9, 28), (8, 27), (7, 26), (6, 25), (5, 24), (4, 23), (3, 22), (2, 21), (1, 20), (0, 19)] hh mixed (by kernel_rfl) ?_
   refine gh 1 [_,_,_] ?_
   refine gh 0 [_,_,_] ?_
   refine xh [_,_,_] (fun _ hj => hb1.ext hj.hp.below) ?_
   refine eM ?_
   refine dC (fun _ hj => hpa _ (hT.hp hj.hp)) ?_
   refine xh [_,_,_] (fun _ hj => hb2.ext hj.hp.below) ?_
   refine eM ?_
   refine eM ?_
   refine sy ?_
   refine dC (fun _ hj => hpb _ (hT.hp hj.hp)) ?_
   refine vl [_,_,_,_,_,_,_,_,_] ?_
   refine dD (i := 11) (Is (.agg #[.bool (nR y).neg, .string (nR y).bP, .int .i64 (nR y).e])) Is.ext ?_ ?_
   ·intro ρ1 w1 hj hR
    obtain ⟨A29, c29, h29, s29⟩ := hR.1
    exact dP rfl (cW av.out (bj h29 cj)) (hm3 A29 c29 _ (hT.hp hj.hp) s29) (fun _ _ hq => ⟨_, hq.1, hq.2, rfl⟩)
   refine bA ?_
   intro f W hJ hV
   have hb_6 := hJ.bl
   obtain ⟨v30, v29, v28, v27, v26, v25, v24, v23, v22, v21, v20, v19, _⟩ := hV
   obtain ⟨A29, c29, e29, f29⟩ : Rows _ _ _ (f 10) W := v29
   replace hh := hJ.hp
   refine bf (bz (ae v30 (ae e29 (ae v28 (ae v27 (ae v26 (ae v25 (ae v24 (ae v23 (ae v22 (ae v21 (ae v20 (ae v19 bg))))))))))))) ?_
   dsimp only [cH]
   clear e29 hJ
   refine aG hh (cs := [_, _, _, _, _, _]) aH.out aD.out (aF (cM rfl) (aF (cM rfl) bE)) rfl rfl (by decide) (by decide) (by decide) rfl (by decide) ?_
   intro b31 w31 hh
   refine bF hh (hsum _ _ _ (hT.hp hh) (hh.aQ (i := 0) rfl)) rfl ?_
   intro w32 hh
   refine bM hh 2 [_,_,_] ?_
   intro ws hh
   replace hh : Hp _ (_ :: _ :: .blk _ _ [_, _, _] _ :: _) _ := hh
   refine aE (aW (ai (ao ?_)))
   refine bx (mI (aE (ai ?_)))
   replace hh := hh.sub (List.Sublist.cons _ (List.Sublist.cons _ (List.Sublist.cons_cons _ (List.Sublist.cons_cons _ List.Sublist.slnil))))
   refine ⟨⟨i + 1, by omega, rfl, by rw [hS2]; exact hh⟩, by show n - (i + 1) < n - i; omega, ?_⟩
   (repeat (first | exact aw _ _ _ | refine aA rfl ?_ | refine ar rfl ?_))
  ·obtain rfl : i = n := by omega
   rw [show i = d + 1 from hn] at hh
   refine sr ?_
   refine aJ (aa (ah (cF ?_)))
   refine aN ?_
   refine az (az (a7 (ai (sr ?_))))
   refine cP hh 0 [_,_,_] ?_
   refine bM hh 1 [_,_,_] ?_
   intro ws hh
   replace hh : Hp _ (_ :: .blk _ _ [_, _, _] _ :: _) _ := hh
   refine aa (aq ?_)
   refine gG (aY rfl (aX (vs := [_, _, _]) aD.out (hh.ax (i := 1) (n := 3) rfl rfl) rfl) bC) ?_
   exact ⟨rfl, hh.below⟩
theorem pC (tn : NR) (t : Dyadic) (q : Nat) (w : World) (hT : fQ w) (vt : Val q tn t) (hq : q ≤ 2000) :
  Calls Tryz.prog 69 #[.agg #[.bool tn.neg, .string tn.bP, .int .i64 tn.e]] w fun r w' => ∃ b1 b3, r = .returned (.func (.func 120) #[] #[.pointer (some ⟨b1, 0, none⟩), .pointer (some ⟨b3, 0, none⟩)]) ∧ Hp w [.blk b3 39 [.bool (nR (1 - t)).neg, .string (nR (1 - t)).bP, .int .i64 (nR (1 - t)).e] (0, 0), .blk b1 39 [.bool tn.neg, .string tn.bP, .int .i64 tn.e] (0, 0)] w' := by
 have hh := Hp.start w
 have hof : ∀ w1, fQ w1 → Calls Tryz.prog 47 #[.int .i64 1] w1 fun r w' => r = .returned (.agg #[.bool (nR (1 : Dyadic)).neg, .string (nR (1 : Dyadic)).bP, .int .i64 (nR (1 : Dyadic)).e]) ∧ Below w1.heap.size w1 w' := fun w1 hT1 => gH 1 w1 hT1 (by decide) (by decide)
 have hsb := fun w1 hT1 => si (nR (1 : Dyadic)) tn w1 hT1 (Sz.one.ok (by omega)) vt.ok (q + 1) (by rw [eR]; exact Sz.one.mono (by omega)) (by rw [vt.d]; exact vt.sz.mono (by omega)) (by omega)
 simp only [eR, vt.d] at hsb
 refine al (N := 8) (l := [.agg #[.bool tn.neg, .string tn.bP, .int .i64 tn.e]]) Tryz.func69 rfl rfl (by simp) ?_
 refine sr ?_
 refine dw hh [_,_,_] ?_
 intro b1 w1 hh
 refine gp (by first | exact eJ rfl | exact eH rfl) (by decide) ?_
 refine aa (ah ?_)
 refine a6 4 [[], [(1, none)], [(4, some 0), (5, some 1)], []] [(3, 3), (2, 6), (1, 5), (0, 4)] hh mixed (by kernel_rfl) ?_
 refine dC (fun _ hj => hof _ (hT.hp hj.hp)) ?_
 refine gh 0 [_,_,_] ?_
 refine dC (fun _ hj => hsb _ (hT.hp hj.hp)) ?_
 refine dD (i := 3) (eu _ 39 _) eu.ext (fun ρ1 w1 hj hR => ja aD.out hj.bl (fun v w2 h hb => ⟨hb, h⟩)) ?_
 refine bA ?_
 intro f W hJ hV
 have hb_1 := hJ.bl
 obtain ⟨v3, v6, v5, v4, _⟩ := hV
 obtain ⟨b3, e3, hl3, hc3⟩ : eu _ _ _ (f 3) W := v3
 replace hh := hJ.newVar hh hl3 hc3
 refine bf (bz (ae e3 (ae v6 (ae v5 (ae v4 bg))))) ?_
 dsimp only [cH]
 clear e3 hJ
 refine bM hh 0 [_,_,_] ?_
 intro ws hh
 replace hh : Hp _ (.blk _ _ [_, _, _] _ :: _) _ := hh
 refine aa (sr ?_)
 refine gP rfl (bj (j3 rfl) (bj (j3 rfl) cj)) (by decide) ?_
 refine gp (by first | exact eJ rfl | exact eH rfl) (by decide) ?_
 refine aa (aq ?_)
 refine ck ?_
 exact ⟨_, _, rfl, hh⟩
end Go.Proofs.YtioilmppidlbnaaGreatDoor
/- slices.Chunk of a slice of numbers, and what it yields. -/
namespace Go.Proofs.YtioilmppidlbnaaGreatDoor
open Go.RowKit
theorem yY {P : Program} {ρ : Rf} {w : World} {d : Option Nat} {ty : TypeId} {pos : String} {af : Array Edge} {g : Option (Nat × Bool)} {t e : TypeId} {x lo hi mx : Operand} {ad : Addr} {n c l h q sz : Nat} {k1 k2 k3 : IntKind} {m1 m2 m3 : Int}
  (ht : P.underlying t = some (.slice e)) (hsz : (P.info? e).map (·.size) = some sz) (hx : ev ρ x = .slice (some ad) n c) (hlo : ev ρ lo = .int k1 m1) (hhi : ev ρ hi = .int k2 m2) (hmx : ev ρ mx = .int k3 m3) (e1 : m1 = (l : Int)) (e2 : m2 = (h : Int)) (e3 : m3 = (q : Int))
  (h1 : l ≤ h) (h2 : h ≤ q) (h3 : q ≤ c) (h4 : l < q) : (execOp (ev ρ) ⟨d, .slice t x (some lo) (some hi) (some mx), ty, pos, af, g⟩).run P w = .ok (.value (.slice (some (ad.add (l * sz))) (h - l) (q - l))) w := by
 obtain ⟨i, hi1, hi2⟩ := Option.map_eq_some_iff.1 hsz
 subst e1 e2 e3 hi2
 have a1 : (l : Int) ≤ h := by omega
 have a2 : (h : Int) ≤ q := by omega
 have a3 : (q : Int) ≤ c := by omega
 have a4 : ¬ q = l := by omega
 have a5 : ¬ q - l = 0 := by omega
 simp [execOp, hx, Instr.sliceAt, Instr.slice, run_underlying ht, Instr.sliceBounds, Instr.sliceBound, asIntOf, hlo, hhi, hmx, h1, h2, h3, a4, a5, sizeOf, typeInfo, hi1]
theorem qn (A : Option Addr) (n c K : Nat) (w : World) (hK : 1 ≤ K) :
  Calls Tryz.prog 70 #[.slice A n c, .int .i64 K] w fun r w' => ∃ b2 b3, r = .returned (.func (.func 122) #[] #[.pointer (some ⟨b2, 0, none⟩), .pointer (some ⟨b3, 0, none⟩)]) ∧ Hp w [.blk b3 3 [.int .i64 K] (0, 0), .blk b2 26 [.slice A n c] (0, 0)] w' := by
 have hh := Hp.start w
 refine al (N := 9) (l := [.slice A n c, .int .i64 K]) Tryz.func70 rfl rfl (by simp) ?_
 refine sr ?_
 refine dw hh [_] ?_
 intro b2 w2 hh
 refine dw hh [_] ?_
 intro b3 w3 hh
 refine gp (by first | exact eJ rfl | exact eH rfl) (by decide) ?_
 refine aa (ah (sr ?_))
 refine bL hh 0 ?_
 refine aJ (aa (cF (ak (ai (sr ?_)))))
 refine gP rfl (bj (j3 rfl) (bj (j3 rfl) cj)) (by decide) ?_
 refine gp (by first | exact eJ rfl | exact eH rfl) (by decide) ?_
 refine aa (aq ?_)
 refine ck ?_
 exact ⟨_, _, rfl, hh⟩
def qV (b2 b3 : Nat) (W W' : World) : Prop := W'.cell? ⟨b2, 0, none⟩ = W.cell? ⟨b2, 0, none⟩ ∧ W'.cell? ⟨b3, 0, none⟩ = W.cell? ⟨b3, 0, none⟩
theorem nt {W W' : World} (h : Below W.heap.size W W') : W.grownBy W' none := ⟨h.os, h.tape, h.output, h.size, fun k hk _ => h.block k hk⟩
theorem xC {b2 b3 : Nat} {A B C : World} (h : qV b2 b3 A B) (k : qV b2 b3 B C) : qV b2 b3 A C := ⟨k.1.trans h.1, k.2.trans h.2⟩
theorem x5 {b2 b3 : Nat} {w : World} (h2 : b2 < w.heap.size) (h3 : b3 < w.heap.size) (W : World) (l : Nat) (o o' : Obj) (hl : w.heap.size ≤ l) : qV b2 b3 W (W.putObj l o') :=
 ⟨World.cell?_of_block (World.putObj_heap_other (fun e => by simp at e; omega)), World.cell?_of_block (World.putObj_heap_other (fun e => by simp at e; omega))⟩
theorem uX (b2 b3 : Nat) (ad : Addr) (n c K m : Nat) (w : World) (h2 : w.cell? ⟨b2, 0, none⟩ = some (.slice (some ad) n c)) (h3 : w.cell? ⟨b3, 0, none⟩ = some (.int .i64 K)) (hn : n = m * K) (hK : 0 < K) (hc : n ≤ c) (hb : n ≤ 1000000) (hKb : K ≤ 1000000) :
  ∀ N1, SeqStopsK Fence.wide N1 Tryz.prog 122 #[.pointer (some ⟨b2, 0, none⟩), .pointer (some ⟨b3, 0, none⟩)] (fun j : Fin m => #[.slice (some (ad.add (j.val * K * 3))) K K]) (qV b2 b3) (fun xs => xs = List.finRange m) (fun _ => True) m w := by
 intro N1 l J Jx W hW hAb hAbx hY h0
 refine callsIn_wide.2 ?_
 show Calls _ _ #[.func (.yield l) #[] #[], .pointer (some ⟨b2, 0, none⟩), .pointer (some ⟨b3, 0, none⟩)] W _
 have hAbd : ∀ xs W1 W2, J xs W1 → Below W1.heap.size W1 W2 → J xs W2 := fun xs W1 W2 h hb => hAb xs W1 W2 none h (nt hb) (fun r e => nomatch e)
 have c2 := cv hW h2
 have c3 := cv hW h3
 refine sj (N := 31) (l := [.func (.yield l) #[] #[], .pointer (some ⟨b2, 0, none⟩), .pointer (some ⟨b3, 0, none⟩)]) Tryz.func122 rfl rfl (by simp) ?_
 refine sr (aI (aa (aj ?_)))
 refine bo [4, 5, 6, 7, 8, 9, 10, 11, 12, 13, 14, 15, 16, 17, 18, 19, 20, 21, 22, 23, 24, 25, 26, 27, 28, 29, 30] 4
  (fun v w' => ∃ j : Nat, j ≤ m ∧ v = .int .i64 ((j * K : Nat) : Int) ∧ J ((List.finRange m).take j) w' ∧ w'.cell? ⟨b2, 0, none⟩ = some (.slice (some ad) n c) ∧ w'.cell? ⟨b3, 0, none⟩ = some (.int .i64 K))
  (fun v _ => n + 1 - (intOf v).toNat) ?_ ?_
 ·exact ⟨0, Nat.zero_le _, by rw [Nat.zero_mul]; rfl, h0, c2, c3⟩
 ·clear c2 c3 h0
  rintro ρ' v w' ⟨j, hj, rfl, hJj, c2, c3⟩
  have hh := Hp.start w'
  by_cases hlt : j < m
  ·have h5 : (j + 1) * K ≤ m * K := Nat.mul_le_mul_right _ hlt
   have h6 : (j + 1) * K = j * K + K := Nat.succ_mul j K
   refine ah (sr (mI ?_))
   refine aK aD.out rfl (c2) (by decide) ?_
   refine aV ?_
   refine aJ (aa (cT (ak (ai (ah (aj (ah ?_)))))))
   refine yZ ?_
   refine a6 5 [[(2, none)], [(1, none)], [(4, none)], [(14, some 1), (15, some 2)], [(16, some 3)]] [(4, 17), (3, 16), (2, 15), (1, 14), (0, 13)] hh mixed (by kernel_rfl) ?_
   refine lP (fun _ hj => cv hj.bl c3) ?_
   refine lP (fun _ hj => cv hj.bl c2) ?_
   refine eM ?_
   refine bh (i := 3) (fun ρ1 w1 hj hR => qB (l := (j * K)) aH.out aD.size (show ρ1 14 = Value.slice _ _ _ from hR.1) (show ρ1 15 = Value.int _ _ from hR.2.1) (by omega) (by omega) (by omega)) ?_
   refine pJ ?_
   refine bA ?_
   intro f W hJ hV
   have hb_3 := hJ.bl
   obtain ⟨v17, v16, v15, v14, v13, _⟩ := hV
   replace hh := hJ.hp
   refine bf (bz (ae v17 (ae v16 (ae v15 (ae v14 (ae v13 bg)))))) ?_
   dsimp only [cH]
   clear hJ
   have hmin : (if ((n - j * K : Nat) : Int) < (K : Int) then ((n - j * K : Nat) : Int) else (K : Int)) = (K : Int) := if_neg (by omega)
   refine qx rfl rfl (by decide) ?_
   rw [hmin]
   have c2' := cv hh.below c2
   have c3' := cv hh.below c3
   have hJ2 := hAbd _ _ _ hJj hh.below
   have hfr : (List.finRange m)[j]? = some ⟨j, hlt⟩ := by rw [List.getElem?_eq_getElem (by rw [List.length_finRange]; exact hlt), List.getElem_finRange]; rfl
   have hy := hY ((List.finRange m).take j) ⟨j, hlt⟩ _ hJ2 (by rw [List.length_take, List.length_finRange]; omega)
   refine aI (aa (sr ?_))
   refine fj (by first | exact eJ rfl | exact eH rfl) (by decide) ?_
   refine aK aD.out rfl (c2') (by decide) ?_
   refine mI (mI (mI ?_))
   refine bx (mI (mI ?_))
   refine bx ?_
   refine a8 rfl rfl (by decide) (yY aH.out aD.size (uw rfl) rfl rfl rfl (l := j * K) (h := j * K + K) (q := j * K + K) rfl (by omega) (by omega) (by omega) (by omega) (by omega) (by omega)) ?_
   have e28 : j * K + K - j * K = K := by omega
   rw [e28]
   refine wi rfl (bj (uw rfl) cj) hy (by decide) ?_
   rintro e_ w29 (⟨rfl, hJ3, hk⟩ | ⟨rfl, hJx⟩)
   ·refine ⟨_, rfl, ?_⟩
    have c2'' := hk.1.trans c2'
    have c3'' := hk.2.trans c3'
    refine nW ?_
    refine aa (cF (ak (aW (ai (ao (mI ?_))))))
    refine aK aD.out rfl (c3'') (by decide) ?_
    refine bx (aI (aE (ai ?_)))
    refine ⟨⟨j + 1, hlt, ?_, by rw [aO hfr]; exact hJ3, c2'', c3''⟩, ?_, ?_⟩
    ·show Value.int _ (((j * K : Nat) : Int) + (K : Int)) = _
     rw [h6]
     rfl
    ·show n + 1 - (((j * K : Nat) : Int) + (K : Int)).toNat < n + 1 - ((j * K : Nat) : Int).toNat
     omega
    ·(repeat (first | exact aw _ _ _ | refine aA rfl ?_ | refine ar rfl ?_))
   ·refine ⟨_, rfl, ?_⟩
    refine nW ?_
    refine aa (cT (aq (bO (aM (aM (bO ?_))))))
    refine yp (by first | exact .inr rfl | exact .inl rfl) rfl ?_
    exact ⟨⟨_, rfl⟩, .inr ⟨_, trivial, hJx⟩⟩
  ·obtain rfl : j = m := by omega
   refine ah (sr (mI ?_))
   refine aK aD.out rfl (c2) (by decide) ?_
   refine aV ?_
   refine aJ (aa (cF ?_))
   refine aN ?_
   refine az (az (a7 ?_))
   refine yp (by first | exact .inr rfl | exact .inl rfl) rfl ?_
   rw [List.take_of_length_le (by rw [List.length_finRange]; omega)] at hJj
   exact ⟨⟨_, rfl⟩, .inl ⟨_, rfl, hJj⟩⟩
end Go.Proofs.YtioilmppidlbnaaGreatDoor
/- Plain laws: the lines of a form along an axis, changed one by one, block by block. No program in sight. -/
namespace Go.Proofs.YtioilmppidlbnaaGreatDoor
section
variable (A : List Nat) (d : Nat) (φ : List Dyadic → List Dyadic)
def BM (X : List Dyadic) (q f i : Nat) : List Dyadic := (List.range X.length).map fun p =>
 if p / au A / (d + 1) = q ∧ (p % au A < f ∨ p % au A = f ∧ p / au A % (d + 1) < i) then gY (φ (z4 A d X (p % au A) q)) (p / au A % (d + 1)) else gY X p
def BP (X : List Dyadic) (q : Nat) : List Dyadic := BM A d φ X q (au A) 0
end
section
variable {A : List Nat} {d : Nat} {φ : List Dyadic → List Dyadic} {X : List Dyadic}
def BR (A : List Nat) (d : Nat) (B : List Nat) (M : Nat → Nat → Dyadic) (xs : List Dyadic) (j : Nat) : List Dyadic := (List.range xs.length).map fun p => if p / au A / (d + 1) < j then gY (zw (A ++ d :: B) A.length M xs) p else gY xs p
end
end Go.Proofs.YtioilmppidlbnaaGreatDoor
/- Forms that a call in a drawn region hands back, with a new variable beside them. -/
namespace Go.Proofs.YtioilmppidlbnaaGreatDoor
open Go.RowKit
def Be (base : Nat) (E : Int) (D : List Nat) (ys : List Dyadic) : VP := fun v W => ∃ (g : FX) (w1 : World), v = .agg #[.slice g.A g.n g.a, .slice g.B g.m g.b] ∧ Out E D ys g ∧ base ≤ w1.heap.size ∧ Hp w1 [g.eG, g.eB] W
def Bz (base : Nat) (E : Int) (D : List Nat) (ys : List Dyadic) : VP := fun v W => ∃ (g : FX) (w1 : World), v = .tuple #[.agg #[.slice g.A g.n g.a, .slice g.B g.m g.b], .int .i64 E] ∧ Out E D ys g ∧ base ≤ w1.heap.size ∧ Hp w1 [g.eG, g.eB] W
end Go.Proofs.YtioilmppidlbnaaGreatDoor
/- The walk through cast.along: every line of a form along an axis, changed by a function. -/
namespace Go.Proofs.YtioilmppidlbnaaGreatDoor
open Go.RowKit
instance : aD Tryz.prog 115 1 false 8 [.nilFunc] := ⟨by kernel_rfl⟩
theorem uE {m : Nat} {bs : List (Fin m)} {q : Fin m} (h : bs ++ [q] = (List.finRange m).take (bs ++ [q]).length) (hb : bs.length < m) : bs = (List.finRange m).take bs.length ∧ q.val = bs.length := by
 have hl : (bs ++ [q]).length = bs.length + 1 := by simp
 rw [hl] at h
 have h1 := congrArg (List.take bs.length) h
 rw [List.take_left' rfl, List.take_take, Nat.min_eq_left (by omega)] at h1
 have h2 : (bs ++ [q])[bs.length]? = ((List.finRange m).take (bs.length + 1))[bs.length]? := by rw [← h]
 rw [List.getElem?_append_right (Nat.le_refl _), Nat.sub_self, List.getElem?_take, if_pos (by omega), show (List.finRange m)[bs.length]? = some ⟨bs.length, hb⟩ by rw [List.getElem?_eq_getElem (by rw [List.length_finRange]; exact hb), List.getElem_finRange]; rfl] at h2
 exact ⟨h1, congrArg Fin.val (Option.some.inj h2)⟩
theorem uG {P : Program} {N : Nat} {Q : Kd} {ρ : Rf} {w : World} {α : Type} {g : Operand} {p : Tmp} {assign body : Code} {gf : Nat} {lb : Array Value} (q : Nat) (hq : q < N) (hp : p < N) (hg : ev ρ g = .func (.func gf) #[] lb) (eg : ∀ args w, (callFunc gf args).run P w = .ok (.enter gf args) w)
  {enc : α → Value} {Kp : World → World → Prop} {S : List α → Prop} {Nn : Nat} (hseq : ∀ n, SeqStopsK Fence.wide n P gf lb (fun x => #[enc x]) Kp S (fun _ => True) Nn w)
  (hKt : ∀ {A B C : World}, Kp A B → Kp B C → Kp A C) (hKb : ∀ (W : World) (l : Nat) (o o' : Obj), w.heap.size ≤ l → W.heap[l]? = some o → o.isCells = false → o.isWalk = false → Kp W (W.putObj l o'))
  (I : List α → World → Prop) (hI : OwnFrom w.heap.size I) (h0 : I [] w)
  (hassign : ∀ l x W, WC ⟨some l, [], true⟩ P N assign (cn (fun ρ' W' => ρ' = cq (cq ρ p (enc x)) q (enc x) ∧ W' = W) kh) (cq ρ p (enc x)) W)
  (hbody : ∀ l pre x W, I pre W → pre.length < Nn → WC ⟨some l, [], true⟩ P N body (yH Kp I pre x W) (cq (cq ρ p (enc x)) q (enc x)) W)
  (hdone : ∀ (D : Nat) (xs : List α) (W : World), w.heap.size ≤ D → S xs → I xs W → W.heap[D]? = some (.deferred (some [])) → Q .normal [D] ρ W) : WD P N (.rangeFunc g #[p] assign body) Q ρ w :=
 wc hp hg eg hseq hKt hKb I hI h0 (fun x => cq (cq ρ p (enc x)) q (enc x)) (fun x i hi => by rw [bk _ (fun h => absurd hq (by rw [← h]; exact Nat.not_lt.2 hi)), bk _ (fun h => absurd hp (by rw [← h]; exact Nat.not_lt.2 hi))]) hassign hbody hdone
end Go.Proofs.YtioilmppidlbnaaGreatDoor
/- Plain laws: a form's value, folded line by line; a part of a slice. No program in sight. -/
namespace Go.Proofs.YtioilmppidlbnaaGreatDoor
open Go.RowKit
theorem Sl.part {w : World} {ad : Addr} {n : Nat} {l : List NR} (h : Sl w (some ad) n 3 (bG NR.cells l)) (p m : Nat) (hpm : p + m ≤ n) (hm : 0 < m) : Sl w (some (ad.add (p * 3))) m 3 (bG NR.cells ((l.drop p).take m)) := by
 have hl := h.cR NR.len (by decide)
 obtain ⟨ad', e, r⟩ := h.2 (by omega)
 obtain rfl : ad = ad' := Option.some.inj e
 refine ⟨by rw [gn NR.len, List.length_take, List.length_drop, hl, Nat.min_eq_left (by omega)], fun _ => ⟨_, rfl, fun j u hu => ?_⟩⟩
 rw [gC]
 refine r (p * 3 + j) u ?_
 rw [← oK NR.len, ← k6 NR.len, List.getElem?_take] at hu
 split at hu
 ·rw [List.getElem?_drop] at hu
  exact hu
 ·cases hu
def jb (K q : Nat) (X : List Dyadic) : List Dyadic := (X.drop (q * K)).take K
theorem oX (K q : Nat) (X : List Dyadic) : ((X.map nR).drop (q * K)).take K = (jb K q X).map nR := by unfold jb; rw [List.map_take, List.map_drop]
theorem lj {K q : Nat} {X : List Dyadic} {x : Dyadic} (h : x ∈ jb K q X) : x ∈ X := List.mem_of_mem_drop (List.mem_of_mem_take h)
theorem oD {d q : Nat} (t : Dyadic) (X : List Dyadic) : iI d t (jb (d + 1) q X) (d + 1) = sm (List.range (d + 1)) fun r => (X[r + (d + 1) * q]?).getD 0 * jL d r t := by
 unfold iI
 refine di fun r hr => ?_
 have hr := List.mem_range.1 hr
 unfold gY jb
 rw [List.getElem?_take, if_pos hr, List.getElem?_drop, show q * (d + 1) + r = r + (d + 1) * q by rw [Nat.mul_comm]; omega]
theorem wY {d m q : Nat} (t : Dyadic) (X : List Dyadic) (h : q < m) : (ik d t m X)[q]? = some (iI d t (jb (d + 1) q X) (d + 1)) := by
 unfold ik
 rw [List.getElem?_map, List.getElem?_range h, oD]
 rfl
theorem vB {d m k q : Nat} {t : Dyadic} {X : List Dyadic} (hx : ∀ x ∈ X, Sz k x) (ht : Sz q t) (ht1 : Sz q (1 - t)) : ∀ x ∈ ik d t m X, Sz (k + (2 + 2 * (q * d)) + (d + 1)) x := fun x h => by
 obtain ⟨p, _, rfl⟩ := List.mem_map.1 h
 rw [← oD]
 exact pr (fun y hy => hx y (lj hy)) ht ht1 (Nat.le_refl _)
theorem sk {ns : List Nat} {ts : List Dyadic} {i d : Nat} {t : Dyadic} (X : List Dyadic) (hd : ns[i]? = some d) (ht : ts[i]? = some t) : jO (ns.take (i + 1)).reverse (ts.take (i + 1)).reverse X = jO (ns.take i).reverse (ts.take i).reverse (ik d t (au (ns.take i)) X) := by
 rw [aO hd, aO ht, List.reverse_append, List.reverse_append]
 show jO (d :: (ns.take i).reverse) (t :: (ts.take i).reverse) X = _
 rw [jO, dI]
def su (fx : FX) (m : Nat) : Int := if fx.e ≠ 0 then fx.e else if m ≠ fx.n then 1 else 0
def kG (fx : FX) (tn : List NR) : Dyadic := if su fx tn.length = 0 then fH fx.ns.reverse (fx.cs.map NR.d) (tn.map NR.d).reverse else 0
end Go.Proofs.YtioilmppidlbnaaGreatDoor
/- A region whose order is left open, order by order, in a round of a range over a function: one operation that may float along a chain. Plain lemmas, no program in sight. -/
namespace Go.Proofs.YtioilmppidlbnaaGreatDoor
open Go.RowKit
section
variable {P : Program} {N : Nat} {Q : Kq} {ρ : Rf} {w : World} {ro : Option Nat} {D : List Deferred}
structure WR (ro : Option Nat) (D : List Deferred) (P : Program) (N : Nat) (ops : Array Oper) (Q : Kq) (fuel : Nat) (L : Array Bool) (ρ : Rf) (w : World) : Prop where
 out : ∀ a, dX N D a ρ → ∀ n, wpAnyIn (FW ro) n P .any ops (cZ N D Q) fuel L a w
theorem pj {F : Fence} {n : Nat} {o : Oper} {a : Act} {next : Rf → World → Prop} {K : Act → World → Prop} {r : Result Next} (h : o.uponIn F n P a K (cZ N D (cn next Q)) r) : o.uponIn F n P a K (cZ N D Q) r := by
 have hp : ∀ c a w, cZ N D (cn next Q) (.panic c) a w → cZ N D Q (.panic c) a w := fun _ _ _ h => h
 have ho : LetsOut (cZ N D (cn next Q)) → LetsOut (cZ N D Q) := fun ⟨a, w, h⟩ => ⟨a, w, h⟩
 cases r with
 | ok n w' =>
  cases n <;> simp only [Oper.uponIn] at h ⊢ <;> first
   | exact h
   | exact ⟨h.1, CallsIn.mono h.2 (fun e w'' he => by cases e <;> first | exact he | exact hp _ _ _ he | exact ho he)⟩
   | exact ⟨h.1, RoundIn.mono h.2 (fun e w'' he => by cases e <;> first | exact he | exact hp _ _ _ he | exact ho he)⟩
 | halt x w' => cases x <;> simp only [Oper.uponIn] at h ⊢ <;> first | exact h | exact hp _ _ _ h | exact ho h
theorem pw {ops : Array Oper} {fuel : Nat} {L : Array Bool} {rs : List Nat} (hr : Region.ready .any ops L = rs) (hne : rs ≠ [])
  (h : ∀ i ∈ rs, ∃ o, ops[i]? = some o ∧ WL ⟨ro, D, true⟩ P N ops (cn (fun ρ w => WR ro D P N ops Q fuel (L.setIfInBounds i true) ρ w) Q) [o] ρ w) : WR ro D P N ops Q (fuel + 1) L ρ w := by
 refine ⟨fun a hf n => ⟨fun e => absurd (hr.symm.trans e) hne, fun i hi => ?_⟩⟩
 rw [hr] at hi
 obtain ⟨o, ho, hw⟩ := h i hi
 have h1 := hw.gW a hf n
 have hK : ∀ a w, wpListIn (FW ro) n P ops (cZ N D (cn (fun ρ w => WR ro D P N ops Q fuel (L.setIfInBounds i true) ρ w) Q)) [] a w → wpAnyIn (FW ro) n P .any ops (cZ N D Q) fuel (L.setIfInBounds i true) a w := fun a w ⟨ρ', hf', hq⟩ => by
  have hq' : WR ro D P N ops Q fuel (L.setIfInBounds i true) ρ' w := hq
  exact hq'.out a hf' n
 unfold wpOpIn
 rw [ho]
 simp only []
 unfold wpListIn at h1
 split at h1
 ·rename_i hwt
  rw [if_pos hwt]
  have h2 := Oper.wpIn_mono hK h1
  unfold Oper.wpIn at h2 ⊢
  exact ⟨h2.1, pj h2.2⟩
 ·rename_i hwt
  rw [if_neg hwt]
  exact ⟨h1.1, hK _ _ h1.2⟩
theorem za {ops : Array Oper} {fuel : Nat} {L : Array Bool} (hr : Region.ready .any ops L = []) (h : Q .normal ρ w) : WR ro D P N ops Q fuel L ρ w :=
 ⟨fun a hf n => by
  cases fuel with
  | zero => exact ⟨hr, ρ, hf, h⟩
  | succ fuel => exact ⟨fun _ => ⟨ρ, hf, h⟩, fun i hi => by rw [hr] at hi; cases hi⟩⟩
theorem wK {id : Nat} {l : List Oper} {w0 : World} {H : List HE} (hh : Hp w0 H w) (hm : P.follows .mixedOrders = true) (h : ∀ w', JJ w0 H w w' → WR ro D P N l.toArray Q l.length (Array.replicate l.length false) ρ w') : WC ⟨ro, D, true⟩ P N (.region id l.toArray true) Q ρ w := by
 refine ⟨fun h => (by cases h), fun a hf n => wpIn_region_any hm ?_⟩
 have hb : Below w.heap.size w ({ w with drawn := w.drawn + 1 } : World) := ⟨rfl, rfl, rfl, Nat.le_refl _, fun _ _ => rfl⟩
 have := (h _ ((JJ.start hh).ext hb)).out a hf n
 simpa using this
theorem pn {F : Fence} {n : Nat} {o : Oper} {a : Act} {K : Act → World → Prop} {Q1 Q2 : Exit → Act → World → Prop} {r : Result Next} (hq : ∀ e a w, Q1 e a w → Q2 e a w) (h : o.uponIn F n P a K Q1 r) : o.uponIn F n P a K Q2 r := by
 have ho : LetsOut Q1 → LetsOut Q2 := fun ⟨a, w, h⟩ => ⟨a, w, hq _ _ _ h⟩
 cases r with
 | ok n w' =>
  cases n <;> simp only [Oper.uponIn] at h ⊢ <;> first
   | exact h
   | exact ⟨h.1, CallsIn.mono h.2 (fun e w'' he => by cases e <;> first | exact he | exact hq _ _ _ he | exact ho he)⟩
   | exact ⟨h.1, RoundIn.mono h.2 (fun e w'' he => by cases e <;> first | exact he | exact hq _ _ _ he | exact ho he)⟩
 | halt x w' => cases x <;> simp only [Oper.uponIn] at h ⊢ <;> first | exact h | exact hq _ _ _ h | exact ho h
theorem k8 {ops : Array Oper} {o : Oper} {A B : Rf → World → Prop} (h : WL ⟨ro, D, true⟩ P N ops (cn A kh) [o] ρ w) (hi : ∀ ρ w, A ρ w → B ρ w) : WL ⟨ro, D, true⟩ P N ops (cn B Q) [o] ρ w := by
 refine ⟨fun h => (by cases h), fun a hf n => ?_⟩
 have h1 := h.gW a hf n
 have hq : ∀ e a w, cZ N D (cn A kh) e a w → cZ N D (cn B Q) e a w := fun e a w ⟨ρ', hf', hk⟩ => ⟨ρ', hf', by
  cases e with
  | normal => exact hi _ _ hk
  | _ => exact hk.elim⟩
 unfold wpListIn at h1 ⊢
 split at h1
 ·rename_i hwt
  rw [if_pos hwt]
  have h2 := Oper.wpIn_mono (K' := wpListIn (FW ro) n P ops (cZ N D (cn B Q)) []) (fun a w h => hq .normal a w h) h1
  unfold Oper.wpIn at h2 ⊢
  exact ⟨h2.1, pn hq h2.2⟩
 ·rename_i hwt
  rw [if_neg hwt]
  exact ⟨h1.1, hq .normal _ _ h1.2⟩
theorem wA {ops : Array Oper} {o0 o1 o2 o3 o4 o5 o6 : Oper} {I : Bool → Bool → Bool → Bool → Bool → Rf → World → Prop} {J K : Rf → World → Prop}
  (e0 : ops[0]? = some o0) (e1 : ops[1]? = some o1) (e2 : ops[2]? = some o2) (e3 : ops[3]? = some o3) (e4 : ops[4]? = some o4) (e5 : ops[5]? = some o5) (e6 : ops[6]? = some o6)
  (r0 : Region.ready .any ops #[false, false, false, false, false, false, false] = [0, 1, 2])
  (r1 : Region.ready .any ops #[false, true, false, false, false, false, false] = [0, 2])
  (r2 : Region.ready .any ops #[false, false, true, false, false, false, false] = [0, 1])
  (r3 : Region.ready .any ops #[false, true, true, false, false, false, false] = [0, 3])
  (r4 : Region.ready .any ops #[false, true, true, true, false, false, false] = [0, 4])
  (r5 : Region.ready .any ops #[false, true, true, true, true, false, false] = [0])
  (q0 : Region.ready .any ops #[true, false, false, false, false, false, false] = [1, 2])
  (q1 : Region.ready .any ops #[true, true, false, false, false, false, false] = [2])
  (q2 : Region.ready .any ops #[true, false, true, false, false, false, false] = [1])
  (q3 : Region.ready .any ops #[true, true, true, false, false, false, false] = [3])
  (q4 : Region.ready .any ops #[true, true, true, true, false, false, false] = [4])
  (q5 : Region.ready .any ops #[true, true, true, true, true, false, false] = [5])
  (q6 : Region.ready .any ops #[true, true, true, true, true, true, false] = [6])
  (q7 : Region.ready .any ops #[true, true, true, true, true, true, true] = [])
  (s0 : ∀ a b e g ρ w, I false a b e g ρ w → WL ⟨ro, D, true⟩ P N ops (cn (fun ρ w => I true a b e g ρ w) kh) [o0] ρ w)
  (s1 : ∀ c b ρ w, I c false b false false ρ w → WL ⟨ro, D, true⟩ P N ops (cn (fun ρ w => I c true b false false ρ w) kh) [o1] ρ w)
  (s2 : ∀ c a ρ w, I c a false false false ρ w → WL ⟨ro, D, true⟩ P N ops (cn (fun ρ w => I c a true false false ρ w) kh) [o2] ρ w)
  (s3 : ∀ c ρ w, I c true true false false ρ w → WL ⟨ro, D, true⟩ P N ops (cn (fun ρ w => I c true true true false ρ w) kh) [o3] ρ w)
  (s4 : ∀ c ρ w, I c true true true false ρ w → WL ⟨ro, D, true⟩ P N ops (cn (fun ρ w => I c true true true true ρ w) kh) [o4] ρ w)
  (s5 : ∀ ρ w, I true true true true true ρ w → WL ⟨ro, D, true⟩ P N ops (cn J kh) [o5] ρ w)
  (s6 : ∀ ρ w, J ρ w → WL ⟨ro, D, true⟩ P N ops (cn K kh) [o6] ρ w)
  (fin : ∀ ρ w, K ρ w → Q .normal ρ w) (st : I false false false false false ρ w) : WR ro D P N ops Q 7 #[false, false, false, false, false, false, false] ρ w := by
 have one : ∀ {fuel : Nat} {L : Array Bool} {i : Nat} {o : Oper} {ρ : Rf} {w : World} {A : Rf → World → Prop}, Region.ready .any ops L = [i] → ops[i]? = some o → WL ⟨ro, D, true⟩ P N ops (cn A kh) [o] ρ w → (∀ ρ w, A ρ w → WR ro D P N ops Q fuel (L.setIfInBounds i true) ρ w) → WR ro D P N ops Q (fuel + 1) L ρ w := fun hr ho h hi =>
  pw hr (by simp) fun j hj => by
   obtain rfl := List.mem_singleton.1 hj
   exact ⟨_, ho, k8 h hi⟩
 have two : ∀ {fuel : Nat} {L : Array Bool} {i j : Nat} {o p : Oper} {ρ : Rf} {w : World} {A B : Rf → World → Prop}, Region.ready .any ops L = [i, j] → ops[i]? = some o → ops[j]? = some p → WL ⟨ro, D, true⟩ P N ops (cn A kh) [o] ρ w → (∀ ρ w, A ρ w → WR ro D P N ops Q fuel (L.setIfInBounds i true) ρ w) → WL ⟨ro, D, true⟩ P N ops (cn B kh) [p] ρ w → (∀ ρ w, B ρ w → WR ro D P N ops Q fuel (L.setIfInBounds j true) ρ w) → WR ro D P N ops Q (fuel + 1) L ρ w := fun hr ho hp h hi h2 hi2 =>
  pw hr (by simp) fun k hk => by
   rcases List.mem_cons.1 hk with rfl | hk
   ·exact ⟨_, ho, k8 h hi⟩
   ·obtain rfl := List.mem_singleton.1 hk
    exact ⟨_, hp, k8 h2 hi2⟩
 have n7 : ∀ ρ w, K ρ w → WR ro D P N ops Q 0 #[true, true, true, true, true, true, true] ρ w := fun ρ w h => za q7 (fin ρ w h)
 have n6 : ∀ ρ w, J ρ w → WR ro D P N ops Q 1 #[true, true, true, true, true, true, false] ρ w := fun ρ w h => one q6 e6 (s6 ρ w h) n7
 have n5 : ∀ ρ w, I true true true true true ρ w → WR ro D P N ops Q 2 #[true, true, true, true, true, false, false] ρ w := fun ρ w h => one q5 e5 (s5 ρ w h) n6
 have n4 : ∀ ρ w, I true true true true false ρ w → WR ro D P N ops Q 3 #[true, true, true, true, false, false, false] ρ w := fun ρ w h => one q4 e4 (s4 true ρ w h) n5
 have m5 : ∀ ρ w, I false true true true true ρ w → WR ro D P N ops Q 3 #[false, true, true, true, true, false, false] ρ w := fun ρ w h => one r5 e0 (s0 _ _ _ _ ρ w h) n5
 have m4 : ∀ ρ w, I false true true true false ρ w → WR ro D P N ops Q 4 #[false, true, true, true, false, false, false] ρ w := fun ρ w h => two r4 e0 e4 (s0 _ _ _ _ ρ w h) n4 (s4 false ρ w h) m5
 have n3 : ∀ ρ w, I true true true false false ρ w → WR ro D P N ops Q 4 #[true, true, true, false, false, false, false] ρ w := fun ρ w h => one q3 e3 (s3 true ρ w h) n4
 have m3 : ∀ ρ w, I false true true false false ρ w → WR ro D P N ops Q 5 #[false, true, true, false, false, false, false] ρ w := fun ρ w h => two r3 e0 e3 (s0 _ _ _ _ ρ w h) n3 (s3 false ρ w h) m4
 have n1 : ∀ ρ w, I true true false false false ρ w → WR ro D P N ops Q 5 #[true, true, false, false, false, false, false] ρ w := fun ρ w h => one q1 e2 (s2 true true ρ w h) n3
 have n2 : ∀ ρ w, I true false true false false ρ w → WR ro D P N ops Q 5 #[true, false, true, false, false, false, false] ρ w := fun ρ w h => one q2 e1 (s1 true true ρ w h) n3
 have m1 : ∀ ρ w, I false true false false false ρ w → WR ro D P N ops Q 6 #[false, true, false, false, false, false, false] ρ w := fun ρ w h => two r1 e0 e2 (s0 _ _ _ _ ρ w h) n1 (s2 false true ρ w h) m3
 have m2 : ∀ ρ w, I false false true false false ρ w → WR ro D P N ops Q 6 #[false, false, true, false, false, false, false] ρ w := fun ρ w h => two r2 e0 e1 (s0 _ _ _ _ ρ w h) n2 (s1 false true ρ w h) m3
 have n0 : ∀ ρ w, I true false false false false ρ w → WR ro D P N ops Q 6 #[true, false, false, false, false, false, false] ρ w := fun ρ w h => two q0 e1 e2 (s1 true false ρ w h) n1 (s2 true false ρ w h) n2
 refine pw r0 (by simp) fun k hk => ?_
 rcases List.mem_cons.1 hk with rfl | hk
 ·exact ⟨_, e0, k8 (s0 _ _ _ _ ρ w st) n0⟩
 ·rcases List.mem_cons.1 hk with rfl | hk
  ·exact ⟨_, e1, k8 (s1 false false ρ w st) m1⟩
  ·obtain rfl := List.mem_singleton.1 hk
   exact ⟨_, e2, k8 (s2 false false ρ w st) m2⟩
end
end Go.Proofs.YtioilmppidlbnaaGreatDoor
