/- Lemmas for liftMuls, part 6. -/
import Derived.Test.YtioilmppidlbnaaGreatDoorZ5
/- The walk through ogeeref14.Times. -/
namespace Go.Proofs.YtioilmppidlbnaaGreatDoor
open Go.RowKit
def pe (ds es : List Nat) (xs ys : List Dyadic) (i m : Nat) : List (Nat × Dyadic) := (List.range m).map fun k => (cU (cv ds es) (cv (bE ds i) (bE es k)), (xs[i]?).getD 0 * (ys[k]?).getD 0)
def oc (ds es : List Nat) (xs ys : List Dyadic) (i : Nat) : List (Nat × Dyadic) := (List.range i).flatMap fun i => pe ds es xs ys i (av es)
theorem vH (ds es : List Nat) (xs ys : List Dyadic) (i : Nat) : oc ds es xs ys (i + 1) = oc ds es xs ys i ++ pe ds es xs ys i (av es) := by
 unfold oc
 rw [List.range_succ, List.flatMap_append, List.flatMap_singleton]
theorem vb (ds es : List Nat) (xs ys : List Dyadic) (i m : Nat) : pe ds es xs ys i (m + 1) = pe ds es xs ys i m ++ [(cU (cv ds es) (cv (bE ds i) (bE es m)), (xs[i]?).getD 0 * (ys[m]?).getD 0)] := by
 unfold pe
 rw [List.range_succ, List.map_append]
 rfl
theorem xp (ds es : List Nat) (xs ys : List Dyadic) (N : Nat) : fh N (oc ds es xs ys (av ds)) = fh N (md ds es xs ys (av es)) := by
 unfold fh
 refine List.map_congr_left fun p _ => ?_
 unfold oc md pe
 rw [kA, kA]
 simp only [s8]
 exact tW _ _ _
theorem wZ (ds es : List Nat) (xs ys : List Dyadic) (i : Nat) : (oc ds es xs ys i).length = i * av es := by
 unfold oc pe
 rw [ig (m := av es) _ _ fun a _ => by simp, List.length_range]
theorem ve {ds es : List Nat} {xs ys : List Dyadic} {k1 k2 : Nat} (hx : ∀ x ∈ xs, Sz k1 x) (hy : ∀ y ∈ ys, Sz k2 y) (i m : Nat) : ∀ q ∈ pe ds es xs ys i m, Sz (k1 + k2) q.2 := fun q hq => by
 unfold pe at hq
 obtain ⟨j, _, rfl⟩ := List.mem_map.1 hq
 refine Sz.mul ?_ ?_
 ·cases h : xs[i]? with
  | none => exact Sz.zero _
  | some x => exact hx x (List.mem_of_getElem? h)
 ·cases h : ys[j]? with
  | none => exact Sz.zero _
  | some y => exact hy y (List.mem_of_getElem? h)
theorem y2 {ds es : List Nat} {xs ys : List Dyadic} {k1 k2 : Nat} (hx : ∀ x ∈ xs, Sz k1 x) (hy : ∀ y ∈ ys, Sz k2 y) (i : Nat) : ∀ q ∈ oc ds es xs ys i, Sz (k1 + k2) q.2 := fun q hq => by
 unfold oc at hq
 obtain ⟨j, _, hq⟩ := List.mem_flatMap.1 hq
 exact ve hx hy j _ q hq
def bS (rs : List Nat) : List UInt8 := (aW rs).map rJ
theorem pt {ns rs : List Nat} (h : iD ns.reverse rs) (j d r : Nat) (h1 : ns[j]? = some d) (h2 : rs.reverse[j]? = some r) : r ≤ d := by
 have hl := lz h
 rw [List.length_reverse] at hl
 have hj := (List.getElem?_eq_some_iff.1 h1).1
 rw [List.getElem?_reverse (by omega)] at h2
 refine mX h ?_ h2
 rw [List.getElem?_reverse (by omega), show ns.length - 1 - (rs.length - 1 - j) = j by omega]
 exact h1
theorem uB {ns : List Nat} (h : ∀ d ∈ ns, d ≤ 127) (hc : av ns ≤ 4096) : jc (aW ns) = av ns := by
 have e1 : (aW ns).any (fun d => !dH d) = false := List.any_eq_false.2 fun d hd => by
  unfold aW at hd
  obtain ⟨x, hx, rfl⟩ := List.mem_map.1 hd
  have := h x hx
  simp [dH]
  omega
 unfold jc
 rw [e1, if_neg (by decide)]
 have h2 := kR ns 1 (by decide) (by decide)
 have h3 : nf 1 (aW ns) = ((min (1 * av ns) 4097 : Nat) : Int) := h2
 rw [h3]
 omega
theorem xn {rs : List Nat} {j r : Nat} (h : rs[j]? = some r) (hr : r ≤ 255) : jg ((bS rs).take (j + 1)) = jg ((bS rs).take j) ++ [.int .u8 (r : Int)] := by
 have h1 : (bS rs)[j]? = some (rJ (r : Int)) := by unfold bS; rw [List.getElem?_map, cA h]; rfl
 rw [aO h1]
 unfold jg
 rw [List.map_append, List.map_cons, List.map_nil]
 have : (rJ (r : Int)).toNat = r := by
  show (UInt8.ofNat ((r : Int)).toNat).toNat = r
  rw [Int.toNat_natCast, UInt8.toNat_ofNat']
  omega
 rw [this]
theorem uE (l : List Nat) (x y : Nat) : bs (aW l) ++ [.int .i64 ((x : Int) + (y : Int))] = bs (aW (l ++ [x + y])) := by simp [bs, aW]
theorem pB (F FC G GC : Option Addr) (n c1 c2 c3 c4 : Nat) (ns ms : List Nat) (xs ys : List Dyadic) (k1 k2 : Nat) (w : World)
  (hF : Sl w F n 1 (bs (aW ns))) (hFC : Sl w FC (av ns) 3 (bF NR.cells (xs.map nR))) (hG : Sl w G n 1 (bs (aW ms))) (hGC : Sl w GC (av ms) 3 (bF NR.cells (ys.map nR)))
  (hn : n ≤ 12) (hns : ∀ d ∈ ns, d ≤ 127) (hms : ∀ d ∈ ms, d ≤ 127) (hA : ∀ d ∈ bH ns ms, d ≤ 127) (hN : av (bH ns ms) ≤ 4096) (hM : av ms * av ns ≤ 1000000) (hx : ∀ x ∈ xs, Sz k1 x) (hy : ∀ y ∈ ys, Sz k2 y) (hk : k1 + k2 ≤ 100000) (hcn : av ns ≤ 4096) (hcm : av ms ≤ 4096) :
  Calls Tryz.prog 63 #[.agg #[.slice F n c1, .slice FC (av ns) c2], .agg #[.slice G n c3, .slice GC (av ms) c4]] w fun r w' => ∃ A a B b, r = .returned (.agg #[.slice A n a, .slice B (av (bH ns ms)) b]) ∧ Hp w [.row B (av (bH ns ms)) b 39 3 (bF NR.cells ((g9 ns ms xs ys).map nR)), .row A n a 3 1 (bs (aW (bH ns ms)))] w' := by
 have hh := Hp.start w
 have hl1 : ns.length = n := by have := hF.1; simpa [bs, aW] using this
 have hl2 : ms.length = n := by have := hG.1; simpa [bs, aW] using this
 have hlx : xs.length = av ns := by have := hFC.cP NR.len (by decide); simpa using this
 have hly : ys.length = av ms := by have := hGC.cP NR.len (by decide); simpa using this
 have hpn := cX ns
 have hpm := cX ms
 have hMn : 1 * av ns ≤ av ms * av ns := Nat.mul_le_mul_right _ hpm
 have hMm : av ms * 1 ≤ av ms * av ns := Nat.mul_le_mul_left _ hpn
 obtain ⟨a4, rfl, s4⟩ := hGC.at_ hpm
 obtain ⟨a5, rfl, s5⟩ := hFC.at_ hpn
 have hla : (bH ns ms).length = n := by rw [eK (by omega), hl1]
 refine ao (N := 120) (l := [.agg #[.slice F n c1, .slice (some a5) (av ns) c2], .agg #[.slice G n c3, .slice (some a4) (av ms) c4]]) Tryz.func63 rfl rfl (by simp) ?_
 refine sr ?_
 refine dm hh [_,_] ?_
 intro b2 w2 hh
 refine dm hh [_,_] ?_
 intro b3 w3 hh
 refine cS hh ?_
 intro b4 w4 hh
 refine aa (sr ?_)
 refine fi [_,_] ?_
 refine cS hh ?_
 intro b5 w5 hh
 refine bY hh 0 [_,_] ?_
 intro ws hh
 replace hh : Hp _ (.blk _ _ [_, _] _ :: _) _ := hh
 refine aa (ah (sr (aI (aa (aj ?_)))))
 replace hh := hh.dx 3 1
 refine bp [6, 16, 17, 18, 19, 20, 21, 22, 23, 24, 25, 26, 27, 28, 29, 30, 31, 32, 33, 34, 35, 36, 37, 38] 6
  (fun v w' => ∃ (i c : Nat) (A : Option Addr), i ≤ n ∧ v = .int .i64 i ∧ Hp w [.row A i c 3 1 (bs (aW ((bH ns ms).take i))), .blk b5 28 [.slice A i c, .slice none 0 0] (0, 0), .blk b4 28 [.slice none 0 0, .slice none 0 0] (0, 0), .blk b3 28 [.slice G n c3, .slice (some a4) (av ms) c4] (0, 0), .blk b2 28 [.slice F n c1, .slice (some a5) (av ns) c2] (0, 0)] w')
  (fun v _ => n - (intOf v).toNat) ?_ ?_
 ·exact ⟨0, 0, none, Nat.zero_le _, rfl, hh⟩
 ·clear hh
  rintro ρ' v w' ⟨i, cD, A, hi, rfl, hh⟩
  by_cases hlt : i < n
  ·obtain ⟨x, hx1⟩ := ar (l := ns) (k := i) (by omega)
   obtain ⟨y, hy1⟩ := ar (l := ms) (k := i) (by omega)
   have hgx := bB (cA hx1)
   have hgy := bB (cA hy1)
   obtain ⟨a1, rfl, s1⟩ := hF.at_ (by omega)
   obtain ⟨a2, rfl, s2⟩ := hG.at_ (by omega)
   have hxb := hns x (List.mem_of_getElem? hx1)
   have hyb := hms y (List.mem_of_getElem? hy1)
   refine ah (sr (mI (bI ?_)))
   refine bP hh 4 ?_
   refine aQ ?_
   refine aG (aa (cT (ak (ai (ah (aj ?_))))))
   refine aK 14 [[(5, none)], [(23, some 0)], [(2, none)], [(25, some 2)], [(6, none)], [(26, some 3), (27, some 4)], [(28, some 5)], [(3, none)], [(30, some 7)], [(6, none)], [(31, some 8), (32, some 9)], [(33, some 10)], [(29, some 6), (34, some 11)], [(35, some 12)]] [(13, 36), (12, 35), (11, 34), (10, 33), (9, 32), (8, 31), (7, 30), (6, 29), (5, 28), (4, 27), (3, 26), (2, 25), (1, 24), (0, 23)] hh mixed (by kernel_rfl) ?_
   refine dv ?_
   refine dY 1 ?_
   refine dv ?_
   refine dY 4 ?_
   refine dn ?_
   refine hH (i) ?_
   refine aR (i := 6) (fun ρ1 w1 hj hR => cm aE.out (show ρ1 28 = Value.pointer _ from hR.1) ((s1.ext hj.hp.below).dR (by assumption))) ?_
   refine dv ?_
   refine dY 3 ?_
   refine dn ?_
   refine hH (i) ?_
   refine aR (i := 11) (fun ρ1 w1 hj hR => cm aE.out (show ρ1 33 = Value.pointer _ from hR.1) ((s2.ext hj.hp.below).dR (by assumption))) ?_
   refine ow ?_
   refine rK [_] ?_
   refine bm ?_
   intro f W hJ hV
   have hb_5 := hJ.bl
   obtain ⟨v36, v35, v34, v33, v32, v31, v30, v29, v28, v27, v26, v25, v24, v23, _⟩ := hV
   obtain ⟨A36, c36, e36, f36⟩ : Rows _ _ _ (f 13) W := v36
   replace hh := hJ.hp
   refine aU (bk (ae e36 (ae v35 (ae v34 (ae v33 (ae v32 (ae v31 (ae v30 (ae v29 (ae v28 (ae v27 (ae v26 (ae v25 (ae v24 (ae v23 aV))))))))))))))) ?_
   dsimp only [cd]
   clear e36 hJ
   refine cu hh (i := 0) rfl rfl rfl (f36) aH.out aE.out rfl (by decide) (by first | rfl | exact bZ _ | exact bK _ | exact bC _ | exact bL NR.one _) (by omega) (by omega) (by decide) ?_
   intro A37 c37 w37 hh
   simp only [List.set_cons_zero] at hh
   refine bI ?_
   refine bY hh 1 [_] ?_
   intro ws hh
   replace hh : Hp _ (_ :: .blk _ _ [_, _] _ :: _) _ := hh
   refine aC (aT (ai (al (mI ?_))))
   refine bz (aI (aC (ai ?_)))
   replace hh := hh.sub (List.Sublist.cons_cons _ (List.Sublist.cons_cons _ (List.Sublist.cons_cons _ (List.Sublist.cons_cons _ (List.Sublist.cons_cons _ List.Sublist.slnil)))))
   refine ⟨⟨i + 1, c37, A37, by omega, rfl, ?_⟩, by show n - (i + 1) < n - i; omega, ?_⟩
   ·rw [aO (ir hx1 hy1), ← uE]
    exact hh
   ·(repeat (first | exact aw _ _ _ | refine ay rfl ?_ | refine au rfl ?_))
  ·obtain rfl : i = n := by omega
   rw [List.take_of_length_le (by omega)] at hh
   have hrF := fun w1 hb1 => jb F i c1 ns w1 (hF.ext hb1) (by omega) hns (by omega)
   have hrG := fun w1 hb1 => jb G i c3 ms w1 (hG.ext hb1) (by omega) hms (by omega)
   refine ah (sr (mI (bI ?_)))
   refine bP hh 4 ?_
   refine aQ ?_
   refine aG (aa (cF ?_))
   refine aJ ?_
   refine ax (ax (aZ (ai (ah ?_))))
   refine aK 5 [[(2, none)], [(39, some 0)], [(40, some 1)], [(3, none)], [(42, some 3)]] [(4, 43), (3, 42), (2, 41), (1, 40), (0, 39)] hh mixed (by kernel_rfl) ?_
   refine dv ?_
   refine dY 4 ?_
   refine cJ (i := 2) (oA w'.heap.size 9 (av ns) 1 (fT (gH ns))) (oA.ext) ?_ ?_
   ·intro ρ1 w1 hj hR
    exact ew rfl (dI az.out (bD hR.1 db)) (hrF w1 hj.hp.below) (fun _ _ ⟨A, c, hq, ho, hb⟩ => ⟨_, hq, hb, A, c, rfl, mR ho hj.bl.size⟩)
   refine dv ?_
   refine dY 3 ?_
   refine bm ?_
   intro f W hJ hV
   have hb_6 := hJ.bl
   obtain ⟨v43, v42, v41, v40, v39, _⟩ := hV
   obtain ⟨A41, c41, e41, o41⟩ : oA _ _ _ _ _ (f 2) W := v41
   replace hh := JJ.vg hh hJ.hp o41
   clear o41
   refine aU (bk (ae v43 (ae v42 (ae e41 (ae v40 (ae v39 aV)))))) ?_
   dsimp only [cd]
   clear e41 hJ
   have hct := fun w1 hS1 => dW A i cD (aW (bH ns ms)) w1 hS1 (by omega)
   rw [uB hA hN] at hct
   refine a6 (hrG _ hh.below) az.out rfl (by decide) ?_
   rintro e_ w44 ⟨A44, c44, rfl, hown_, hb_⟩
   refine ⟨_, rfl, ?_⟩
   replace hh := hh.bu (x := .row _ _ _ _ _ _) hb_ hown_
   obtain ⟨g44, rfl⟩ := hh.cK (i := 0) rfl (by omega)
   obtain ⟨g41, rfl⟩ := hh.cK (i := 1) rfl (by omega)
   refine aL (aL (aa (ah (sr (bI ?_)))))
   refine bP hh 3 ?_
   refine bJ hh (hct _ (hh.aX (i := 2) rfl)) rfl ?_
   intro w47 hh
   refine aI (aa (aj ?_))
   replace hh := hh.dx 39 3
   refine bp [9, 48, 49, 50, 51, 52, 53, 54, 55, 56, 57] 9
    (fun v w' => ∃ (j cC : Nat) (C : Option Addr), j ≤ av (bH ns ms) ∧ v = .int .i64 ((av (bH ns ms) - j : Nat) : Int) ∧ Hp w [.row C j cC 39 3 (bF NR.cells ((List.replicate j (0 : Dyadic)).map nR)), .row (some ⟨g44, 0, none⟩) (av ms) c44 9 1 (fT (gH ms)), .row (some ⟨g41, 0, none⟩) (av ns) c41 9 1 (fT (gH ns)), .row A i cD 3 1 (bs (aW (bH ns ms))), .blk b5 28 [.slice A i cD, .slice C j cC] (0, 0), .blk b4 28 [.slice none 0 0, .slice none 0 0] (0, 0), .blk b3 28 [.slice G i c3, .slice (some a4) (av ms) c4] (0, 0), .blk b2 28 [.slice F i c1, .slice (some a5) (av ns) c2] (0, 0)] w')
    (fun v _ => (intOf v).toNat) ?_ ?_
   ·exact ⟨0, 0, none, Nat.zero_le _, rfl, hh⟩
   ·clear hh
    rintro ρ2 v w2 ⟨j, cC, C, hj, rfl, hh⟩
    by_cases hjn : j < av (bH ns ms)
    ·refine ah (sr (mI ?_))
     refine bT (aa (cT (ak (ai (ah (aj (al (bI ?_))))))))
     refine bP hh 4 ?_
     refine fi [_,_,_] ?_
     refine aP hh (cs := [_, _, _]) aH.out aE.out (aY (de rfl) bO) rfl rfl (by decide) (by decide) (by decide) rfl (by decide) ?_
     intro b55 w55 hh
     refine cu hh (i := 1) rfl rfl rfl (hh.aX (i := 0) rfl) aH.out aE.out rfl (by decide) (by first | rfl | exact bZ _ | exact bK _ | exact bC _ | exact bL NR.one _) (by omega) (by omega) (by decide) ?_
     intro A56 c56 w56 hh
     simp only [List.set_cons_zero, List.set_cons_succ] at hh
     replace hh := hh.sub (List.sublist_cons_self _ _)
     refine bI ?_
     refine bY hh 4 [_] ?_
     intro ws hh
     replace hh : Hp _ (_ :: _ :: _ :: _ :: .blk _ _ [_, _] _ :: _) _ := hh
     refine aC (aT (ai (al (mI ?_))))
     refine eR (aI (aC (ai ?_)))
     replace hh := hh.sub (List.Sublist.cons_cons _ (List.Sublist.cons_cons _ (List.Sublist.cons_cons _ (List.Sublist.cons_cons _ (List.Sublist.cons_cons _ (List.Sublist.cons_cons _ (List.Sublist.cons_cons _ (List.Sublist.cons_cons _ List.Sublist.slnil))))))))
     refine ⟨⟨j + 1, c56, A56, by omega, ?_, ?_⟩, by show ((av (bH ns ms) - j : Nat) - 1 : Int).toNat < ((av (bH ns ms) - j : Nat) : Int).toNat; omega, ?_⟩
     ·show Value.int IntKind.i64 (((av (bH ns ms) - j : Nat) : Int) - 1) = _
      rw [show ((av (bH ns ms) - j : Nat) : Int) - 1 = ((av (bH ns ms) - (j + 1) : Nat) : Int) by omega]
     ·rw [List.replicate_succ', List.map_append, dp]
      exact hh
     ·(repeat (first | exact aw _ _ _ | refine ay rfl ?_ | refine au rfl ?_))
    ·obtain rfl : j = av (bH ns ms) := by omega
     obtain ⟨gC, rfl⟩ := hh.cK (i := 0) rfl (cX _)
     rw [← rB] at hh
     refine ah (sr (mI ?_))
     refine bT (aa (cF ?_))
     refine aJ ?_
     refine ax (ax (aZ (ai (ah (sr (aI (aa (aj ?_))))))))
     unfold g9
     have hpx := xp ns.reverse ms.reverse xs ys (av (bH ns ms))
     rw [cG, cG] at hpx
     rw [← hpx]
     clear hpx
     refine bp [10, 11, 12, 13, 14, 58, 59, 60, 61, 62, 63, 64, 65, 66, 67, 68, 69, 70, 71, 72, 73, 74, 75, 76, 77, 78, 79, 80, 81, 82, 83, 84, 85, 86, 87, 88, 89, 90, 91, 92, 93, 94, 95, 96, 97, 98, 99, 100, 101, 102, 103, 104, 105, 106, 107, 108, 109, 110, 111, 112, 113, 114, 115, 116, 117, 118] 10
      (fun v w' => ∃ p : Nat, p ≤ av ns ∧ v = .int .i64 p ∧ Hp w [.row (some ⟨gC, 0, none⟩) (av (bH ns ms)) cC 39 3 (bF NR.cells ((fh (av (bH ns ms)) (oc ns.reverse ms.reverse xs ys p)).map nR)), .row (some ⟨g44, 0, none⟩) (av ms) c44 9 1 (fT (gH ms)), .row (some ⟨g41, 0, none⟩) (av ns) c41 9 1 (fT (gH ns)), .row A i cD 3 1 (bs (aW (bH ns ms))), .blk b5 28 [.slice A i cD, .slice (some ⟨gC, 0, none⟩) (av (bH ns ms)) cC] (0, 0), .blk b4 28 [.slice none 0 0, .slice none 0 0] (0, 0), .blk b3 28 [.slice G i c3, .slice (some a4) (av ms) c4] (0, 0), .blk b2 28 [.slice F i c1, .slice (some a5) (av ns) c2] (0, 0)] w')
      (fun v _ => av ns - (intOf v).toNat) ?_ ?_
     ·exact ⟨0, Nat.zero_le _, rfl, hh⟩
     ·clear hh
      rintro ρ3 v w3 ⟨p, hp, rfl, hh⟩
      by_cases hpn2 : p < av ns
      ·obtain ⟨x, hx1⟩ := ar (l := xs) (k := p) (by omega)
       have hxn : (xs.map nR)[p]? = some (nR x) := by rw [List.getElem?_map, hx1]; rfl
       have zx := hx x (List.mem_of_getElem? hx1)
       have hrp := kh (np hpn2)
       refine ah (sr (mI (mL (aQ ?_))))
       refine aG (aa (cT (ak (ai (ah (aj (sr (aI (aa (aj ?_))))))))))
       refine bp [11, 12, 13, 14, 64, 65, 66, 67, 68, 69, 70, 71, 72, 73, 74, 75, 76, 77, 78, 79, 80, 81, 82, 83, 84, 85, 86, 87, 88, 89, 90, 91, 92, 93, 94, 95, 96, 97, 98, 99, 100, 101, 102, 103, 104, 105, 106, 107, 108, 109, 110, 111, 112, 113, 114, 115, 116, 117, 118] 11
        (fun v w' => ∃ q : Nat, q ≤ av ms ∧ v = .int .i64 q ∧ Hp w [.row (some ⟨gC, 0, none⟩) (av (bH ns ms)) cC 39 3 (bF NR.cells ((fh (av (bH ns ms)) (oc ns.reverse ms.reverse xs ys p ++ pe ns.reverse ms.reverse xs ys p q)).map nR)), .row (some ⟨g44, 0, none⟩) (av ms) c44 9 1 (fT (gH ms)), .row (some ⟨g41, 0, none⟩) (av ns) c41 9 1 (fT (gH ns)), .row A i cD 3 1 (bs (aW (bH ns ms))), .blk b5 28 [.slice A i cD, .slice (some ⟨gC, 0, none⟩) (av (bH ns ms)) cC] (0, 0), .blk b4 28 [.slice none 0 0, .slice none 0 0] (0, 0), .blk b3 28 [.slice G i c3, .slice (some a4) (av ms) c4] (0, 0), .blk b2 28 [.slice F i c1, .slice (some a5) (av ns) c2] (0, 0)] w')
        (fun v _ => av ms - (intOf v).toNat) ?_ ?_
       ·refine ⟨0, Nat.zero_le _, rfl, ?_⟩
        rw [show oc ns.reverse ms.reverse xs ys p ++ pe ns.reverse ms.reverse xs ys p 0 = oc ns.reverse ms.reverse xs ys p from List.append_nil _]
        exact hh
       ·clear hh
        rintro ρ4 v w4 ⟨q, hq, rfl, hh⟩
        by_cases hqm : q < av ms
        ·obtain ⟨y, hy1⟩ := ar (l := ys) (k := q) (by omega)
         have hyn : (ys.map nR)[q]? = some (nR y) := by rw [List.getElem?_map, hy1]; rfl
         have zy := hy y (List.mem_of_getElem? hy1)
         have hrq := kh (np hqm)
         have hra := pt (gx ns.reverse p)
         have hrb := pt (gx ms.reverse q)
         have hrl : (bE ns.reverse p).reverse.length = i := by rw [List.length_reverse, dZ, List.length_reverse]; exact hl1
         have hsl : (bE ms.reverse q).reverse.length = i := by rw [List.length_reverse, dZ, List.length_reverse]; exact hl2
         have hS2 : (bH (bE ns.reverse p).reverse (bE ms.reverse q).reverse) = (cv (bE ns.reverse p) (bE ms.reverse q)).reverse := by
          have := gb (a := (bE ns.reverse p).reverse) (b := (bE ms.reverse q).reverse) (by omega)
          rw [List.reverse_reverse, List.reverse_reverse] at this
          rw [this, List.reverse_reverse]
         have hSok := mV (show ns.length = ms.length by omega) p q
         have hfin : oc ns.reverse ms.reverse xs ys p ++ pe ns.reverse ms.reverse xs ys p (q + 1) = oc ns.reverse ms.reverse xs ys p ++ pe ns.reverse ms.reverse xs ys p q ++ [(cU (cv ns.reverse ms.reverse) (cv (bE ns.reverse p) (bE ms.reverse q)), x * y)] := by
          rw [vb, ← List.append_assoc, hx1, hy1]
          rfl
         rw [← gb (show ns.length = ms.length by omega)] at hSok
         have hplt := iq hSok
         have hcr : av (cv ns.reverse ms.reverse) = av (bH ns ms) := by rw [gb (by omega), cG]
         rw [hcr] at hplt
         rw [gb (show ns.length = ms.length by omega)] at hSok
         obtain ⟨km, hold⟩ := ar (l := fh (av (bH ns ms)) (oc ns.reverse ms.reverse xs ys p ++ pe ns.reverse ms.reverse xs ys p q)) (by rw [fy]; exact hplt)
         have hlen : (oc ns.reverse ms.reverse xs ys p ++ pe ns.reverse ms.reverse xs ys p q).length ≤ 1000000 := by
          rw [List.length_append, wZ, cG]
          unfold pe
          rw [List.length_map, List.length_range]
          have : p * av ms + av ms ≤ av ms * av ns := by rw [← Nat.succ_mul, Nat.mul_comm (av ms)]; exact Nat.mul_le_mul_right _ hpn2
          omega
         have zold : Sz 1200000 km := by
          refine (qe (k := k1 + k2) (fun t ht => ?_) km (List.mem_of_getElem? hold)).mono (by omega)
          rcases List.mem_append.1 ht with ht | ht
          ·exact y2 hx hy _ t ht
          ·exact ve hx hy _ _ t ht
         have hset := oD (v := x * y) hold
         rw [← hfin] at hset
         have hon : ((fh (av (bH ns ms)) (oc ns.reverse ms.reverse xs ys p ++ pe ns.reverse ms.reverse xs ys p q)).map nR)[cU (cv ns.reverse ms.reverse) (cv (bE ns.reverse p) (bE ms.reverse q))]? = some (nR km) := by rw [List.getElem?_map, hold]; rfl
         have hll : ((fh (av (bH ns ms)) (oc ns.reverse ms.reverse xs ys p ++ pe ns.reverse ms.reverse xs ys p q)).map nR).length = (av (bH ns ms)) := by rw [List.length_map, fy]
         clear hfin
         generalize fh (av (bH ns ms)) (oc ns.reverse ms.reverse xs ys p ++ pe ns.reverse ms.reverse xs ys p q) = X at *
         refine ah (sr (mI (mL (aQ ?_))))
         refine aG (aa (cT (ak (ai (ah (aj (sr (aL (aa (ah (ah ?_)))))))))))
         refine al (aI (aa (aj ?_)))
         replace hh := hh.dx 5 1
         refine bX [12, 13, 70, 71, 72, 73, 74, 75, 76, 77, 78, 79, 80, 81, 82, 83, 84, 85, 86, 87, 88, 89, 90, 91, 92] 12 13
          (fun v12 v w' => ∃ (j cR : Nat) (R : Option Addr), j ≤ i ∧ v = .int .i64 j ∧ v12 = .slice R j cR ∧ Hp w [.row R j cR 5 1 (jg ((bS (bH (bE ns.reverse p).reverse (bE ms.reverse q).reverse)).take j)), .row (some ⟨gC, 0, none⟩) (av (bH ns ms)) cC 39 3 (bF NR.cells ((X).map nR)), .row (some ⟨g44, 0, none⟩) (av ms) c44 9 1 (fT (gH ms)), .row (some ⟨g41, 0, none⟩) (av ns) c41 9 1 (fT (gH ns)), .row A i cD 3 1 (bs (aW (bH ns ms))), .blk b5 28 [.slice A i cD, .slice (some ⟨gC, 0, none⟩) (av (bH ns ms)) cC] (0, 0), .blk b4 28 [.slice none 0 0, .slice none 0 0] (0, 0), .blk b3 28 [.slice G i c3, .slice (some a4) (av ms) c4] (0, 0), .blk b2 28 [.slice F i c1, .slice (some a5) (av ns) c2] (0, 0)] w')
          (fun _ v _ => i - (intOf v).toNat) ?_ ?_
         ·exact ⟨0, 0, none, Nat.zero_le _, rfl, rfl, hh⟩
         ·clear hh
          rintro ρ5 v12 v w5 ⟨j, cR, R, hj, rfl, rfl, hh⟩
          by_cases hjn : j < i
          ·obtain ⟨r1, hr1⟩ := ar (l := (bE ns.reverse p).reverse) (k := j) (by omega)
           obtain ⟨r2, hr2⟩ := ar (l := (bE ms.reverse q).reverse) (k := j) (by omega)
           obtain ⟨d1, hd1⟩ := ar (l := ns) (k := j) (by omega)
           obtain ⟨d2, hd2⟩ := ar (l := ms) (k := j) (by omega)
           have := hra j d1 r1 hd1 hr1
           have := hrb j d2 r2 hd2 hr2
           have := hns d1 (List.mem_of_getElem? hd1)
           have := hms d2 (List.mem_of_getElem? hd2)
           obtain ⟨ch1, hch1, hcr1⟩ := wj hr1 (by omega)
           obtain ⟨ch2, hch2, hcr2⟩ := wj hr2 (by omega)
           have hch3 : (fX (aW (bE ns.reverse p).reverse)).data.toList[(j : Int).toNat]? = some ch1 := hch1
           have hch4 : (fX (aW (bE ms.reverse q).reverse)).data.toList[(j : Int).toNat]? = some ch2 := hch2
           refine ah (sr (mI (bI ?_)))
           refine bP hh 5 ?_
           refine aQ ?_
           refine aG (aa (cT (ak (ai (ah (aj ?_))))))
           refine aK 15 [[(12, none)], [(7, none)], [(10, none)], [(78, some 1), (79, some 2)], [(80, some 3)], [(13, none)], [(81, some 4), (82, some 5)], [(8, none)], [(11, none)], [(84, some 7), (85, some 8)], [(86, some 9)], [(13, none)], [(87, some 10), (88, some 11)], [(83, some 6), (89, some 12)], [(90, some 13)]] [(14, 91), (13, 90), (12, 89), (11, 88), (10, 87), (9, 86), (8, 85), (7, 84), (6, 83), (5, 82), (4, 81), (3, 80), (2, 79), (1, 78), (0, 77)] hh mixed (by kernel_rfl) ?_
           refine eP ?_
           refine eP ?_
           refine dn ?_
           refine mu (p) ?_
           refine aR (i := 4) (fun ρ1 w1 hj hR => cm aE.out (show ρ1 80 = Value.pointer _ from hR.1) (hj.hp.ck (i := 3) rfl (by first | assumption | (simp only [Nat.mul_one]; assumption)))) ?_
           refine dn ?_
           refine aR (i := 6) (fun ρ1 w1 hj hR => gD aH.out (show ρ1 81 = Value.string _ from hR.1) (show ρ1 82 = Value.int _ _ from hR.2.1) (by omega) (by assumption)) ?_
           refine eP ?_
           refine dn ?_
           refine mu (q) ?_
           refine aR (i := 10) (fun ρ1 w1 hj hR => cm aE.out (show ρ1 86 = Value.pointer _ from hR.1) (hj.hp.ck (i := 2) rfl (by first | assumption | (simp only [Nat.mul_one]; assumption)))) ?_
           refine dn ?_
           refine aR (i := 12) (fun ρ1 w1 hj hR => gD aH.out (show ρ1 87 = Value.string _ from hR.1) (show ρ1 88 = Value.int _ _ from hR.2.1) (by omega) (by assumption)) ?_
           refine aR (i := 13) (fun ρ1 w1 hj hR => vK (show ρ1 83 = Value.int _ _ from hR.1) (show ρ1 89 = Value.int _ _ from hR.2.1)) ?_
           refine rK [_] ?_
           refine bm ?_
           intro f W hJ hV
           have hb_21 := hJ.bl
           obtain ⟨v91, v90, v89, v88, v87, v86, v85, v84, v83, v82, v81, v80, v79, v78, v77, _⟩ := hV
           obtain ⟨A91, c91, e91, f91⟩ : Rows _ _ _ (f 14) W := v91
           replace hh := hJ.hp
           refine aU (bk (ae e91 (ae v90 (ae v89 (ae v88 (ae v87 (ae v86 (ae v85 (ae v84 (ae v83 (ae v82 (ae v81 (ae v80 (ae v79 (ae v78 (ae v77 aV)))))))))))))))) ?_
           dsimp only [cd]
           clear e91 hJ
           refine cu hh (i := 0) rfl rfl rfl (f91) aH.out aE.out rfl (by decide) (by first | rfl | exact bZ _ | exact bK _ | exact bC _ | exact bL NR.one _) (by omega) (by omega) (by decide) ?_
           intro A92 c92 w92 hh
           simp only [List.set_cons_zero] at hh
           refine aL (aC (aT (ai (al (mI ?_)))))
           refine bz (aI (aC (ai ?_)))
           refine ⟨⟨j + 1, c92, A92, by omega, rfl, rfl, ?_⟩, by show i - (j + 1) < i - j; omega, ?_⟩
           ·rw [hcr1, hcr2, Nat.mod_eq_of_lt (show r1 + r2 < _ by show r1 + r2 < 256; omega)] at hh
            rw [xn (ir hr1 hr2) (by omega)]
            exact hh
           ·(repeat (first | exact aw _ _ _ | refine ay rfl ?_ | refine au rfl ?_))
          ·obtain rfl : j = i := by omega
           rw [List.take_of_length_le (by unfold bS; rw [List.length_map, cj, eK (by omega)]; omega), hS2] at hh
           have hat := fun w1 hS1 => nk A j cD (bH ns ms) (cv (bE ns.reverse p) (bE ms.reverse q)).reverse w1 hS1 (by omega) (by omega) (by rw [← hS2, eK (by omega), eK (by omega)]; omega) (pt hSok) (fun d hd => by have := hA d hd; omega)
           rw [List.reverse_reverse, ← gb (show ns.length = ms.length by omega)] at hat
           have zxy : Sz 100000 (x * y) := (zx.mul zy).mono hk
           have okx := zx.ok (by omega)
           have oky := zy.ok (by omega)
           have hmul := fun w1 => pI (nR x) (nR y) w1 (by have := okx.1; omega) (by have := oky.1; omega) (by have := okx.2; omega) (by have := okx.2; omega) (by have := oky.2; omega) (by have := oky.2; omega)
           have hsum := fun w1 => il (nR km) (nR (x * y)) w1 (zold.ok (by omega)) (zxy.ok (by omega))
           rw [fH, fH] at hmul hsum
           clear okx oky zold
           generalize cU (cv ns.reverse ms.reverse) (cv (bE ns.reverse p) (bE ms.reverse q)) = pl at *
           have hrl2 := gi NR.len (X.map nR)
           refine ah (sr (mI (bI ?_)))
           refine bP hh 5 ?_
           refine aQ ?_
           refine aG (aa (cF ?_))
           refine aJ ?_
           refine ax (ax (aZ (ai (sr (bI ?_)))))
           refine bP hh 5 ?_
           refine mL ?_
           refine jK aH.out aH.out aH.out rfl (hh.aX (i := 0) rfl) (by decide) ?_
           refine bJ hh (hat _ (hh.aX (i := 4) rfl)) rfl ?_
           intro w97 hh
           refine aI (aa ?_)
           refine aK 20 [[(5, none)], [(98, some 0)], [(14, none)], [(5, none)], [(101, some 3)], [(14, none)], [(102, some 4), (103, some 5)], [(104, some 6)], [(2, none)], [(106, some 8)], [(10, none)], [(107, some 9), (108, some 10)], [(109, some 11)], [(3, none)], [(111, some 13)], [(11, none)], [(112, some 14), (113, some 15)], [(114, some 16)], [(110, some 12), (115, some 17)], [(105, some 7), (116, some 18)]] [(19, 117), (18, 116), (17, 115), (16, 114), (15, 113), (14, 112), (13, 111), (12, 110), (11, 109), (10, 108), (9, 107), (8, 106), (7, 105), (6, 104), (5, 103), (4, 102), (3, 101), (2, 100), (1, 99), (0, 98)] hh mixed (by kernel_rfl) ?_
           refine dv ?_
           refine dY 5 ?_
           refine dn ?_
           refine dv ?_
           refine dY 5 ?_
           refine dn ?_
           refine mu (pl) ?_
           refine mh [_,_,_] (fun _ hj => hj.hp.fK (f := NR.cells) (x := nR km) (l := X.map nR) (i := 1) rfl NR.len (by decide) hon) ?_
           refine dv ?_
           refine dY 8 ?_
           refine dn ?_
           refine hH (p) ?_
           refine mh [_,_,_] (fun _ hj => (s5.ext hj.hp.below).recAt NR.len hxn) ?_
           refine dv ?_
           refine dY 7 ?_
           refine dn ?_
           refine hH (q) ?_
           refine mh [_,_,_] (fun _ hj => (s4.ext hj.hp.below).recAt NR.len hyn) ?_
           refine dC (fun _ hj => hmul _) ?_
           refine dC (fun _ hj => hsum _) ?_
           refine bm ?_
           intro f W hJ hV
           have hb_23 := hJ.bl
           obtain ⟨v117, v116, v115, v114, v113, v112, v111, v110, v109, v108, v107, v106, v105, v104, v103, v102, v101, v100, v99, v98, _⟩ := hV
           replace hh := hJ.hp
           refine aU (bk (ae v117 (ae v116 (ae v115 (ae v114 (ae v113 (ae v112 (ae v111 (ae v110 (ae v109 (ae v108 (ae v107 (ae v106 (ae v105 (ae v104 (ae v103 (ae v102 (ae v101 (ae v100 (ae v99 (ae v98 aV))))))))))))))))))))) ?_
           dsimp only [cd]
           clear hJ
           refine bj (k := pl) aH.out aE.size rfl rfl (by omega) (by omega) (by decide) ?_
           refine bx hh (i := 1) (vs := [_, _, _]) rfl rfl (de rfl) rfl aE.out rfl (by omega) rfl ?_
           intro ws hh
           simp only [List.set_cons_zero, List.set_cons_succ] at hh
           rw [show cL (bF NR.cells (X.map nR)) (pl * 3) [.bool (nR (km + x * y)).neg, .string (nR (km + x * y)).cB, .int .i64 (nR (km + x * y)).e] = bF NR.cells ((X.map nR).set pl (nR (km + x * y))) from im NR.len (by omega), ← List.map_set, hset] at hh
           refine aC (aT (ai (al (mI ?_))))
           refine bz (aI (aC (ai ?_)))
           replace hh := hh.sub (List.Sublist.cons _ (List.Sublist.cons_cons _ (List.Sublist.cons_cons _ (List.Sublist.cons_cons _ (List.Sublist.cons_cons _ (List.Sublist.cons_cons _ (List.Sublist.cons_cons _ (List.Sublist.cons_cons _ (List.Sublist.cons_cons _ List.Sublist.slnil)))))))))
           refine ⟨⟨q + 1, by omega, rfl, hh⟩, by show av ms - (q + 1) < av ms - q; omega, ?_⟩
           (repeat (first | exact aw _ _ _ | refine ay rfl ?_ | refine au rfl ?_))
        ·obtain rfl : q = av ms := by omega
         rw [show oc ns.reverse ms.reverse xs ys p ++ pe ns.reverse ms.reverse xs ys p (av ms) = oc ns.reverse ms.reverse xs ys (p + 1) by rw [vH, cG]] at hh
         refine ah (sr (mI (mL (aQ ?_))))
         refine aG (aa (cF ?_))
         refine aJ ?_
         refine ax (ax (aZ (aT (ai (al (mI ?_))))))
         refine bz (aI (aC (ai ?_)))
         refine ⟨⟨p + 1, by omega, rfl, hh⟩, by show av ns - (p + 1) < av ns - p; omega, ?_⟩
         (repeat (first | exact aw _ _ _ | refine ay rfl ?_ | refine au rfl ?_))
      ·obtain rfl : p = av ns := by omega
       refine ah (sr (mI (mL (aQ ?_))))
       refine aG (aa (cF ?_))
       refine aJ ?_
       refine ax (ax (aZ (ai (sr ?_))))
       refine dk hh 4 [_,_] ?_
       refine bY hh 5 [_,_] ?_
       intro ws hh
       replace hh : Hp _ (_ :: _ :: _ :: _ :: _ :: .blk _ _ [_, _] _ :: _) _ := hh
       refine aa (aq ?_)
       replace hh := hh.sub (List.Sublist.cons_cons _ (List.Sublist.cons _ (List.Sublist.cons _ (List.Sublist.cons_cons _ (List.Sublist.cons _ (List.Sublist.cons_cons _ (List.Sublist.cons _ (List.Sublist.cons _ List.Sublist.slnil))))))))
       refine gp (bf rfl (bg (vs := [_, _]) aE.out (hh.aD (i := 2) (n := 2) rfl rfl) rfl) bA) ?_
       exact ⟨_, _, _, _, rfl, hh.sub (List.sublist_append_left [_, _] _)⟩
end Go.Proofs.YtioilmppidlbnaaGreatDoor
/- Plain laws: a form, raised degree by degree. -/
namespace Go.Proofs.YtioilmppidlbnaaGreatDoor
def di (ns : List Nat) (a : Nat) : List Nat := ns.set a (ns.getD a 0 + 1)
def tK (ns : List Nat) (a : Nat) (xs : List Dyadic) : List Dyadic :=
 (List.range (av (di ns a))).map fun p => co ns.reverse xs (bE (di ns a).reverse p) + if 0 < (bE (di ns a).reverse p).getD (ns.length - 1 - a) 0 then co ns.reverse xs (gF (bE (di ns a).reverse p) (ns.length - 1 - a)) else 0
theorem tm (ns : List Nat) (a : Nat) (xs : List Dyadic) : (tK ns a xs).length = av (di ns a) := by simp [tK]
theorem yZ {ns : List Nat} {a : Nat} {xs : List Dyadic} {r : List Nat} (h : iD (di ns a).reverse r) : co (di ns a).reverse (tK ns a xs) r = co ns.reverse xs r + if 0 < r.getD (ns.length - 1 - a) 0 then co ns.reverse xs (gF r (ns.length - 1 - a)) else 0 := by
 have h1 := iq h
 rw [cG] at h1
 rw [tA h]
 unfold tK
 rw [List.getElem?_map, List.getElem?_range h1, Option.map_some, Option.getD_some, jN h]
theorem hZ : ∀ (ds rs : List Nat), iD ds rs ↔ rs.length = ds.length ∧ ∀ (i d r : Nat), ds[i]? = some d → rs[i]? = some r → r ≤ d
 | [], [] => by simp [iD]
 | [], _ :: _ => by simp [iD]
 | _ :: _, [] => by simp [iD]
 | d :: ds, r :: rs => by
  rw [iD, hZ ds rs]
  constructor
  ·rintro ⟨h1, h2, h3⟩
   refine ⟨by rw [List.length_cons, List.length_cons, h2], fun i e s he hs => ?_⟩
   cases i with
   | zero => cases he; cases hs; exact h1
   | succ i => exact h3 i e s he hs
  ·rintro ⟨h1, h2⟩
   exact ⟨h2 0 d r rfl rfl, by simpa using h1, fun i e s he hs => h2 (i + 1) e s he hs⟩
theorem iK {l : List Nat} {a x : Nat} (h : a < l.length) : (l.set a x).reverse = l.reverse.set (l.length - 1 - a) x := by
 refine List.ext_getElem? fun i => ?_
 by_cases hi : i < l.length
 ·rw [List.getElem?_reverse (by rw [List.length_set]; exact hi), List.getElem?_set, List.getElem?_set, List.length_set, List.length_reverse, List.getElem?_reverse hi]
  by_cases h2 : a = l.length - 1 - i
  ·rw [if_pos h2, if_pos (by omega), if_pos (by omega), if_pos (by omega)]
  ·rw [if_neg h2, if_neg (by omega)]
 ·rw [List.getElem?_eq_none (by simp; omega), List.getElem?_eq_none (by simp; omega)]
theorem vT {l : List Nat} {a : Nat} (h : a < l.length) : l.reverse.getD (l.length - 1 - a) 0 = l.getD a 0 := by
 rw [List.getD_eq_getElem?_getD, List.getD_eq_getElem?_getD, List.getElem?_reverse (by omega), show l.length - 1 - (l.length - 1 - a) = a by omega]
theorem fU (ns : List Nat) (a : Nat) : (di ns a).length = ns.length := by simp [di]
theorem gJ {ns : List Nat} {a i : Nat} (ha : a < ns.length) : (di ns a)[i]? = if a = i then some (ns.getD a 0 + 1) else ns[i]? := by
 unfold di
 rw [List.getElem?_set]
 split
 ·rfl
 ·rfl
def xg (ns : List Nat) (xs : List Dyadic) (cs : List Nat) (zs : List Dyadic) : Prop := zs.length = av cs ∧ cs.length = ns.length ∧ (∀ (i n c : Nat), ns[i]? = some n → cs[i]? = some c → n ≤ c) ∧ ∀ row : List Nat, row.length = ns.length → co cs.reverse zs row = tt (dN cs ns).reverse (co ns.reverse xs) row
theorem sub_self : ∀ (l : List Nat), ∀ x ∈ dN l l, x = 0
 | [], _, h => nomatch h
 | y :: l, x, h => by
  rcases List.mem_cons.1 h with h | h
  ·rw [h]; exact Nat.sub_self y
  ·exact sub_self l x h
theorem xg.start {ns : List Nat} {xs : List Dyadic} (h : xs.length = av ns) : xg ns xs ns xs := by
 refine ⟨h, rfl, fun i n c h1 h2 => by rw [h1] at h2; cases h2; exact Nat.le_refl _, fun row _ => ?_⟩
 rw [rC _ _ _ fun m hm => sub_self ns m (List.mem_reverse.1 hm)]
theorem xg.step {ns cs : List Nat} {xs zs : List Dyadic} {a : Nat} (h : xg ns xs cs zs) (ha : a < cs.length) : xg ns xs (di cs a) (tK cs a zs) := by
 obtain ⟨h1, h2, h3, h4⟩ := h
 refine ⟨tm _ _ _, by rw [fU, h2], fun i n c hn hc => ?_, fun row hr => ?_⟩
 ·rw [gJ ha] at hc
  split at hc
  ·rename_i e
   subst e
   cases hc
   obtain ⟨c, hc⟩ := ar ha
   have := h3 a n c hn hc
   rw [List.getD_eq_getElem?_getD, hc]
   exact Nat.le_succ_of_le this
  ·exact h3 i n c hn hc
 ·have e1 : (dN (di cs a) ns).reverse = (dN cs ns).reverse.set (cs.length - 1 - a) ((dN cs ns).reverse.getD (cs.length - 1 - a) 0 + 1) := by
   have hl : (dN cs ns).length = cs.length := iV h2
   have e2 := vT (l := dN cs ns) (a := a) (by omega)
   rw [hl] at e2
   rw [e2, show cs.length - 1 - a = (dN cs ns).length - 1 - a by rw [hl], ← iK (by omega)]
   congr 1
   refine List.ext_getElem? fun i => ?_
   rw [List.getElem?_set, hl]
   unfold dN
   simp only [List.getElem?_zipWith, gJ ha, List.getD_eq_getElem?_getD]
   obtain ⟨c, hc⟩ := ar ha
   obtain ⟨n, hn⟩ := ar (l := ns) (k := a) (by omega)
   have := h3 a n c hn hc
   by_cases hi : a = i
   ·subst hi
    rw [if_pos rfl, if_pos rfl, if_pos ha, hn, hc]
    show some (c + 1 - n) = some (c - n + 1)
    congr 1
    omega
   ·rw [if_neg hi, if_neg hi]
  rw [e1, q5 _ _ _ _ (by rw [List.length_reverse, iV h2]; omega) (by rw [List.length_reverse, iV h2]; omega), ← h4 row hr]
  have hdl : (gF row (cs.length - 1 - a)).length = ns.length := by unfold gF; rw [List.length_set, hr]
  rw [← h4 _ hdl]
  by_cases hok : iD (di cs a).reverse row
  ·exact yZ hok
  ·rw [qF hok]
   have n1 : ¬ iD cs.reverse row := fun h => hok (by
    rw [hZ] at h ⊢
    refine ⟨by rw [h.1, List.length_reverse, List.length_reverse, fU], fun i d r hd hr2 => ?_⟩
    unfold di at hd
    rw [iK ha, List.getElem?_set] at hd
    split at hd
    ·rename_i e
     subst e
     rw [if_pos (by rw [List.length_reverse]; omega)] at hd
     cases hd
     obtain ⟨c, hc⟩ := ar ha
     have := h.2 (cs.length - 1 - a) c r (by rw [List.getElem?_reverse (by omega), show cs.length - 1 - (cs.length - 1 - a) = a by omega]; exact hc) hr2
     rw [List.getD_eq_getElem?_getD, hc]
     exact Nat.le_succ_of_le this
    ·exact h.2 i d r hd hr2)
   rw [qF n1]
   have e3 : ∀ x : Dyadic, (0 : Dyadic) = 0 + x ↔ x = 0 := fun x => by grind
   rw [e3]
   split
   ·rename_i hpos
    refine qF fun h => hok ?_
    rw [hZ] at h ⊢
    refine ⟨by rw [hr, List.length_reverse, fU, h2], fun i d r hd hr2 => ?_⟩
    unfold di at hd
    rw [iK ha, List.getElem?_set] at hd
    unfold gF at h
    split at hd
    ·rename_i e
     subst e
     rw [if_pos (by rw [List.length_reverse]; omega)] at hd
     cases hd
     obtain ⟨c, hc⟩ := ar ha
     have := h.2 (cs.length - 1 - a) c (row.getD (cs.length - 1 - a) 0 - 1) (by rw [List.getElem?_reverse (by omega), show cs.length - 1 - (cs.length - 1 - a) = a by omega]; exact hc) (by rw [List.getElem?_set, if_pos rfl, if_pos (by omega)])
     rw [List.getD_eq_getElem?_getD, hr2] at this
     rw [List.getD_eq_getElem?_getD, hc]
     have h6 : r - 1 ≤ c := this
     show r ≤ c + 1
     omega
    ·rename_i e
     exact h.2 i d r hd (by rw [List.getElem?_set, if_neg e]; exact hr2)
   ·rfl
theorem vo {ns ts : List Nat} {xs : List Dyadic} {row : List Nat} (hl : ns.length = ts.length) (hle : ∀ (i n t : Nat), ns[i]? = some n → ts[i]? = some t → n ≤ t) (hr : iD ts.reverse row) : co ts.reverse (iA ns ts xs) row = tt (dN ts ns).reverse (co ns.reverse xs) row := by
 have hsl : (dN ts ns).length = ts.length := iV hl.symm
 have hadd : cv ns.reverse (dN ts ns).reverse = ts.reverse := by rw [gb (by omega), jZ hl hle]
 have hlt := iq hr
 rw [tA hr]
 unfold iA g9
 rw [jZ hl hle]
 have h1 := hlt
 rw [cG] at h1
 rw [lE _ h1, Option.getD_some]
 have h2 := xV (ds := ns.reverse) (es := (dN ts ns).reverse) (xs := xs) (ys := (oq (dN ts ns)).map nD) (by rw [List.length_reverse, List.length_reverse]; omega) (p := cU ts.reverse row) (by rw [hadd]; exact hlt)
 rw [hadd, jN hr] at h2
 have h3 : tY ns.reverse (dN ts ns).reverse xs ((oq (dN ts ns)).map nD) = md ns.reverse (dN ts ns).reverse xs ((oq (dN ts ns)).map nD) (av (dN ts ns)) := by
  unfold tY md
  rw [cG (dN ts ns)]
 rw [← h3, h2, ← rk _ _ _ (by rw [lz hr, List.length_reverse, List.length_reverse]; omega)]
 refine fw fun k hk => ?_
 congr 1
 unfold oq
 rw [List.map_map, List.getElem?_map, List.getElem?_range (List.mem_range.1 hk)]
 rfl
theorem xg.done {ns ts : List Nat} {xs zs : List Dyadic} (h : xg ns xs ts zs) : zs = iA ns ts xs := by
 obtain ⟨h1, h2, h3, h4⟩ := h
 refine zh (ds := ts.reverse) (by rw [cG]; exact h1) (by
  unfold iA g9
  rw [fy, jZ h2.symm h3, cG]) fun row hr => ?_
 rw [h4 row (by rw [lz hr, List.length_reverse, h2]), vo h2.symm h3 hr]
end Go.Proofs.YtioilmppidlbnaaGreatDoor
/- The walk through ogeeref14.up. -/
namespace Go.Proofs.YtioilmppidlbnaaGreatDoor
open Go.RowKit
theorem Hp.pr {w0 w : World} {H : List HE} (h : Hp w0 H w) {i b n : Nat} {t : TypeId} {l : List UInt8} {ex : List Value} {fz : Nat × Nat} (hi : H[i]? = some (.blk b t (jg l ++ ex) fz)) (hl : l.length = n) : Sl w (some ⟨b, 0, none⟩) n 1 (jg l) := by
 refine ⟨by rw [ep, hl, Nat.mul_one], fun _ => ⟨_, rfl, fun j u hu => ?_⟩⟩
 refine h.r4 hi j u ?_
 rw [List.getElem?_append_left (List.getElem?_eq_some_iff.1 hu).1]
 exact hu
theorem zM {rs : List Nat} {i r : Nat} (h : rs[i]? = some r) (hr : r ≤ 255) : (jg (bS rs))[i]? = some (.int .u8 (r : Int)) := by
 unfold jg bS
 rw [List.getElem?_map, List.getElem?_map, cA h]
 show some (Value.int .u8 ((rJ (r : Int)).toNat : Int)) = _
 have : (rJ (r : Int)).toNat = r := by
  show (UInt8.ofNat ((r : Int)).toNat).toNat = r
  rw [Int.toNat_natCast, UInt8.toNat_ofNat']
  omega
 rw [this]
theorem zz {ns rr : List Nat} {a d r : Nat} (ha : a < ns.length) (hd : ns[a]? = some d) (hok : iD (di ns a).reverse rr) (hr : rr[ns.length - 1 - a]? = some r) (hle : r ≤ d) : iD ns.reverse rr := by
 rw [hZ] at hok ⊢
 refine ⟨by rw [hok.1, List.length_reverse, List.length_reverse, fU], fun i e s he hs => ?_⟩
 by_cases hi : ns.length - 1 - a = i
 ·subst hi
  rw [hr] at hs
  cases hs
  rw [List.getElem?_reverse (by omega), show ns.length - 1 - (ns.length - 1 - a) = a by omega, hd] at he
  cases he
  exact hle
 ·refine hok.2 i e s ?_ hs
  unfold di
  rw [iK ha, List.getElem?_set, if_neg hi]
  exact he
theorem vL {ns rr : List Nat} {a d r : Nat} (ha : a < ns.length) (hd : ns[a]? = some d) (hok : iD (di ns a).reverse rr) (hr : rr[ns.length - 1 - a]? = some r) (hle : r ≤ d + 1) : iD ns.reverse (gF rr (ns.length - 1 - a)) := by
 rw [hZ] at hok ⊢
 unfold gF
 refine ⟨by rw [List.length_set, hok.1, List.length_reverse, List.length_reverse, fU], fun i e s he hs => ?_⟩
 rw [List.getElem?_set] at hs
 by_cases hi : ns.length - 1 - a = i
 ·subst hi
  rw [if_pos rfl, if_pos (List.getElem?_eq_some_iff.1 hr).1, List.getD_eq_getElem?_getD, hr] at hs
  cases hs
  rw [List.getElem?_reverse (by omega), show ns.length - 1 - (ns.length - 1 - a) = a by omega, hd] at he
  cases he
  show r - 1 ≤ d
  omega
 ·rw [if_neg hi] at hs
  refine hok.2 i e s ?_ hs
  unfold di
  rw [iK ha, List.getElem?_set, if_neg hi]
  exact he
theorem wI {rr : List Nat} {a n r : Nat} {ex : List Value} (hl : rr.length = n) (ha : a < n) (hr : rr[n - 1 - a]? = some r) (h0 : 0 < r) (h1 : r ≤ 255) : cL (jg (bS rr.reverse) ++ ex) (a * 1) [.int .u8 ((r - 1 : Nat) : Int)] = jg (bS (gF rr (n - 1 - a)).reverse) ++ ex := by
 have hb : (bS rr.reverse).length = n := by unfold bS; rw [List.length_map, cj, List.length_reverse, hl]
 rw [Nat.mul_one, cx (by rw [List.length_append, ep]; omega), List.set_append_left _ _ (by rw [ep]; omega)]
 congr 1
 have e1 : (gF rr (n - 1 - a)).reverse = rr.reverse.set a (r - 1) := by
  unfold gF
  rw [iK (by omega), hl, show n - 1 - (n - 1 - a) = a by omega, List.getD_eq_getElem?_getD, hr]
  rfl
 have e2 : (rJ ((r - 1 : Nat) : Int)).toNat = r - 1 := by
  show (UInt8.ofNat (((r - 1 : Nat) : Int)).toNat).toNat = r - 1
  rw [Int.toNat_natCast, UInt8.toNat_ofNat']
  omega
 rw [e1]
 unfold bS jg aW
 rw [List.map_set, List.map_set, List.map_set, e2]
theorem wk {ns : List Nat} {a d : Nat} (h : ns[a]? = some d) : (aW ns).set a ((d : Int) + 1) = aW (di ns a) := by
 unfold di aW
 rw [List.map_set, List.getD_eq_getElem?_getD, h]
 rfl
theorem uw (F FC : Option Addr) (n c1 c2 a k : Nat) (ns : List Nat) (xs : List Dyadic) (w : World) (hF : Sl w F n 1 (bs (aW ns))) (hFC : Sl w FC (av ns) 3 (bF NR.cells (xs.map nR)))
  (hn : n ≤ 12) (ha : a < n) (hA : ∀ d ∈ di ns a, d ≤ 127) (hN : av (di ns a) ≤ 4096) (hx : ∀ x ∈ xs, Sz k x) (hk : k ≤ 1000000) :
  Calls Tryz.prog 67 #[.agg #[.slice F n c1, .slice FC (av ns) c2], .int .i64 a] w fun r w' => ∃ A c B b, r = .returned (.agg #[.slice A n c, .slice B (av (di ns a)) b]) ∧ Hp w [.row B (av (di ns a)) b 39 3 (bF NR.cells ((tK ns a xs).map nR)), .row A n c 3 1 (bs (aW (di ns a)))] w' := by
 have hh := Hp.start w
 have hl1 : ns.length = n := by have := hF.1; simpa [bs, aW] using this
 have hlx : xs.length = av ns := by have := hFC.cP NR.len (by decide); simpa using this
 obtain ⟨a5, rfl, s5⟩ := hFC.at_ (cX ns)
 obtain ⟨a1, rfl, s1⟩ := hF.at_ (by omega)
 obtain ⟨d, hd⟩ := ar (l := ns) (k := a) (by omega)
 have hgd := bB (cA hd)
 have hli : (di ns a).length = n := by rw [fU, hl1]
 have hcl : (bs (aW ns)).length = n := by rw [bV, cj, hl1]
 have hd127 : d + 1 ≤ 127 := hA (d + 1) (List.mem_of_getElem? (i := a) (by rw [gJ (by omega), if_pos rfl, List.getD_eq_getElem?_getD, hd]; rfl))
 refine ao (N := 86) (l := [.agg #[.slice (some a1) n c1, .slice (some a5) (av ns) c2], .int .i64 a]) Tryz.func67 rfl rfl (by simp) ?_
 refine sr ?_
 refine dm hh [_,_] ?_
 intro b2 w2 hh
 refine cS hh ?_
 intro b4 w4 hh
 refine aa (sr ?_)
 refine hU hh aH.out aE.out (by decide) ?_
 intro b10 w10 hh
 refine bI ?_
 refine bP hh 2 ?_
 refine cu hh (i := 0) rfl rfl rfl (hF.ext hh.below) aH.out aE.out rfl (by decide) ?one4 (by omega) (by omega) (by decide) ?kk4
 case one4 => first | rfl | assumption | exact bC _ | exact oneCells_u8s _
 intro A13 c13 w13 hh
 simp only [List.set_cons_zero] at hh
 rw [Nat.zero_add n]
 rw [Nat.zero_add, List.nil_append] at hh
 obtain ⟨g13, rfl⟩ := hh.cK (i := 0) rfl (by omega)
 refine fi [_,_] ?_
 refine cS hh ?_
 intro b5 w5 hh
 refine bY hh 0 [_,_] ?_
 intro ws hh
 replace hh : Hp _ (.blk _ _ [_, _] _ :: _) _ := hh
 refine aa (sr (bI ?_))
 refine bP hh 0 ?_
 refine mI ?_
 refine bj (k := a) aH.out aE.size rfl rfl (by omega) (by omega) (by decide) ?_
 refine aN aE.out rfl (hh.ck (i := 1) rfl (by first | assumption | (simp only [Nat.mul_one]; assumption))) (by decide) ?_
 refine bz ?_
 refine bj (k := a) aH.out aE.size rfl rfl (by omega) (by omega) (by decide) ?_
 refine bx hh (i := 1) (vs := [_]) rfl rfl (bU rfl) rfl aE.out rfl (by omega) rfl ?_
 intro ws hh
 simp only [List.set_cons_zero, List.set_cons_succ] at hh
 rw [eD _ (by rw [← bV]; omega), wk hd] at hh
 have hrF := fun w1 hS1 => jb (some ⟨g13, 0, none⟩) n c13 (di ns a) w1 hS1 (by omega) hA (by omega)
 refine aa (sr (bI ?_))
 refine bP hh 0 ?_
 refine a6 (hrF _ (hh.aX (i := 1) rfl)) az.out rfl (by decide) ?_
 rintro e_ w24 ⟨A24, c24, rfl, hown_, hb_⟩
 refine ⟨_, rfl, ?_⟩
 replace hh := hh.bu (x := .row _ _ _ _ _ _) hb_ hown_
 obtain ⟨g24, rfl⟩ := hh.cK (i := 0) rfl (cX _)
 refine aL (aa (ah (sr (aI (aa (aj ?_))))))
 replace hh := hh.dx 39 3
 refine bp [7, 8, 9, 25, 26, 27, 28, 29, 30, 31, 32, 33, 34, 35, 36, 37, 38, 39, 40, 41, 42, 43, 44, 45, 46, 47, 48, 49, 50, 51, 52, 53, 54, 55, 56, 57, 58, 59, 60, 61, 62, 63, 64, 65, 66, 67, 68, 69, 70, 71, 72, 73, 74, 75, 76, 77, 78, 79, 80, 81, 82, 83, 84] 7
  (fun v w' => ∃ (p cC : Nat) (C : Option Addr), p ≤ av (di ns a) ∧ v = .int .i64 p ∧ Hp w [.row C p cC 39 3 (bF NR.cells (((tK ns a xs).take p).map nR)), .row (some ⟨g24, 0, none⟩) (av (di ns a)) c24 9 1 (fT (gH (di ns a))), .blk b5 28 [.slice (some ⟨g13, 0, none⟩) n c13, .slice C p cC] (0, 0), .row (some ⟨g13, 0, none⟩) n c13 3 1 (bs (aW (di ns a))), .blk b4 28 [.slice none 0 0, .slice none 0 0] (0, 0), .blk b2 28 [.slice (some a1) n c1, .slice (some a5) (av ns) c2] (0, 0)] w')
  (fun v _ => av (di ns a) - (intOf v).toNat) ?_ ?_
 ·exact ⟨0, 0, none, Nat.zero_le _, rfl, hh⟩
 ·clear hh
  rintro ρ' v w' ⟨p, cC, C, hp, rfl, hh⟩
  by_cases hpn : p < av (di ns a)
  ·have hrp := kh (np hpn)
   have hpr : p < av (di ns a).reverse := by rw [cG]; exact hpn
   have hok := gx (di ns a).reverse p
   have hrl : (bE (di ns a).reverse p).length = n := by rw [dZ, List.length_reverse, hli]
   have hup : (tK ns a xs)[p]? = some (co ns.reverse xs (bE (di ns a).reverse p) + if 0 < (bE (di ns a).reverse p).getD (n - 1 - a) 0 then co ns.reverse xs (gF (bE (di ns a).reverse p) (n - 1 - a)) else 0) := by
    unfold tK
    rw [List.getElem?_map, List.getElem?_range hpn, hl1]
    rfl
   generalize bE (di ns a).reverse p = rr at *
   obtain ⟨r, hr⟩ := ar (l := rr) (k := n - 1 - a) (by omega)
   have hrr : rr.reverse[a]? = some r := by rw [List.getElem?_reverse (by omega), hrl]; exact hr
   have hrd := mX hok (by rw [List.getElem?_reverse (by omega), hli, show n - 1 - (n - 1 - a) = a by omega, gJ (by omega), if_pos rfl]) hr
   rw [List.getD_eq_getElem?_getD, hd] at hrd
   have hrd2 : r ≤ d + 1 := hrd
   have hbl : (bS rr.reverse).length = n := by unfold bS; rw [List.length_map, cj, List.length_reverse]; exact hrl
   have e0 : (fX (aW rr.reverse)).data.toList = bS rr.reverse := eX _
   have e1 : (fX (aW rr.reverse)).size = n := by
    have : (fX (aW rr.reverse)).data.toList.length = n := by rw [e0, hbl]
    rw [Array.length_toList] at this
    exact this
   have hcell := zM hrr (by omega)
   have hla2 : a < ns.length := by omega
   have hr2 : rr[ns.length - 1 - a]? = some r := by rw [hl1]; exact hr
   have hns : ∀ x ∈ ns, x ≤ 127 := fun x hx => by
    obtain ⟨j, hj⟩ := List.mem_iff_getElem?.1 hx
    by_cases hja : a = j
    ·subst hja
     rw [hd] at hj
     cases hj
     omega
    ·exact hA x (List.mem_of_getElem? (i := j) (by rw [gJ hla2, if_neg hja]; exact hj))
   have hcn : av ns ≤ av (di ns a) := j7 (fU ns a).symm fun j x y hx hy => by
    rw [gJ hla2] at hy
    split at hy
    ·rename_i e
     subst e
     rw [List.getD_eq_getElem?_getD, hx] at hy
     cases hy
     exact Nat.le_succ x
    ·rw [hx] at hy
     cases hy
     exact Nat.le_refl _
   have hgetr : rr.getD (n - 1 - a) 0 = r := by rw [List.getD_eq_getElem?_getD, hr]; rfl
   rw [hgetr] at hup
   have hat : ∀ row : List Nat, iD ns.reverse row → ∀ w1, Below w.heap.size w w1 → Calls Tryz.prog 113 #[.slice (some a1) n c1, .string (fX (aW row.reverse))] w1 fun r w' => r = .returned (.int .i64 (cU ns.reverse row)) ∧ Below w1.heap.size w1 w' := fun row hrow w1 hb1 => by
    have := nk (some a1) n c1 ns row.reverse w1 (hF.ext hb1) (by omega) (by omega) (by rw [List.length_reverse, lz hrow, List.length_reverse]) (pt hrow) (fun d hd => by have := hns d hd; omega)
    rwa [List.reverse_reverse] at this
   have hval : ∀ row : List Nat, iD ns.reverse row → ∃ x, (xs.map nR)[cU ns.reverse row]? = some (nR x) ∧ co ns.reverse xs row = x ∧ Sz k x ∧ cU ns.reverse row < av ns := fun row hrow => by
    have hlt := iq hrow
    rw [cG] at hlt
    obtain ⟨x, hx1⟩ := ar (l := xs) (k := cU ns.reverse row) (by omega)
    exact ⟨x, by rw [List.getElem?_map, hx1]; rfl, by rw [tA hrow, hx1]; rfl, hx x (List.mem_of_getElem? hx1), hlt⟩
   have hdl : (gF rr (n - 1 - a)).length = n := by unfold gF; rw [List.length_set]; exact hrl
   have hbl2 : (bS (gF rr (n - 1 - a)).reverse).length = n := by unfold bS; rw [List.length_map, cj, List.length_reverse]; exact hdl
   by_cases hrd3 : r ≤ d
   ·have okn := zz hla2 hd hok hr2 hrd3
    obtain ⟨V, hx1, hco1, zV, hlt1⟩ := hval rr okn
    rw [hco1] at hup
    have hat1 := hat rr okn
    generalize cU ns.reverse rr = p1 at *
    by_cases h0 : 0 < r
    ·refine ah (sr (mI (mL (aQ ?_))))
     refine aG (aa (cT (ak (ai (ah (aj (sr (mL (mI ?_)))))))))
     refine bj aH.out aE.size rfl rfl rfl (by omega) (by decide) ?_
     refine aN aE.out rfl (hh.ck (i := 1) rfl (by first | assumption | (simp only [Nat.mul_one]; assumption))) (by decide) ?_
     refine jk hh aH.out aH.out aH.out rfl (by decide) ?_
     intro g35 c35 x35 w35 hh
     rw [e0] at hh
     have hcl2 : (jg (bS rr.reverse) ++ x35)[a]? = some (.int .u8 (r : Int)) := by rw [List.getElem?_append_left (by rw [ep, hbl]; exact ha)]; exact hcell
     generalize (((jg (bS rr.reverse) ++ x35).length, (jg (bS rr.reverse) ++ x35).length + 1) : Nat × Nat) = fz at hh
     refine aL (aa (sr ?_))
     refine fi [_,_,_] ?_
     refine cS hh ?_
     intro b9 w9 hh
     refine bY hh 0 [_,_,_] ?_
     intro ws hh
     replace hh : Hp _ (.blk _ _ [_, _, _] _ :: _) _ := hh
     refine aa (ah (ah ?_))
     refine aK 10 [[(8, none)], [(1, none)], [(37, some 0), (38, some 1)], [(39, some 2)], [(40, some 3)], [(2, none)], [(42, some 5)], [(1, none)], [(43, some 6), (44, some 7)], [(45, some 8)]] [(9, 46), (8, 45), (7, 44), (6, 43), (5, 42), (4, 41), (3, 40), (2, 39), (1, 38), (0, 37)] hh mixed (by kernel_rfl) ?_
     refine eP ?_
     refine dn ?_
     refine mu (a) ?_
     refine aR (i := 3) (fun ρ1 w1 hj hR => cm aE.out (show ρ1 39 = Value.pointer _ from hR.1) (hj.hp.ez (i := 1) rfl (by first | assumption | (simp only [Nat.mul_one]; assumption)))) ?_
     refine aR (i := 4) (fun ρ1 w1 hj hR => ia aH.out aH.out (show ρ1 40 = Value.int _ _ from hR.1) (by omega) (by omega)) ?_
     refine dv ?_
     refine dY 7 ?_
     refine dn ?_
     refine hH (a) ?_
     refine aR (i := 9) (fun ρ1 w1 hj hR => cm aE.out (show ρ1 45 = Value.pointer _ from hR.1) ((s1.ext hj.hp.below).dR (by assumption))) ?_
     refine bm ?_
     intro f W hJ hV
     have hb_9 := hJ.bl
     obtain ⟨v46, v45, v44, v43, v42, v41, v40, v39, v38, v37, _⟩ := hV
     replace hh := hJ.hp
     refine aU (bk (ae v46 (ae v45 (ae v44 (ae v43 (ae v42 (ae v41 (ae v40 (ae v39 (ae v38 (ae v37 aV))))))))))) ?_
     dsimp only [cd]
     clear hJ
     refine nQ (aa ?_)
     refine cT ?_
     refine aK 7 [[(2, none)], [(48, some 0)], [(2, none)], [(50, some 2)], [(8, none)], [(52, some 4)], [(51, some 3), (53, some 5)]] [(6, 54), (5, 53), (4, 52), (3, 51), (2, 50), (1, 49), (0, 48)] hh mixed (by kernel_rfl) ?_
     refine dv ?_
     refine dY 7 ?_
     refine dv ?_
     refine dY 7 ?_
     refine eP ?_
     refine cJ (i := 5) (Is (.string ⟨((bS rr.reverse)).toArray⟩)) Is.ext ?_ ?_
     ·intro ρ1 w1 hj hR
      exact fp rfl (fR (l := (bS rr.reverse)) aH.out aH.out aH.out (show ρ1 52 = Value.slice _ _ _ from hR.1) (hj.hp.pr (i := 1) rfl (hbl.trans e1.symm))) ⟨Below.refl _ _, rfl⟩
     refine dC (fun _ hj => hat1 _ hj.hp.below) ?_
     refine bm ?_
     intro f W hJ hV
     have hb_10 := hJ.bl
     obtain ⟨v54, v53, v52, v51, v50, v49, v48, _⟩ := hV
     replace hh := hJ.hp
     refine aU (bk (ae v54 (ae v53 (ae v52 (ae v51 (ae v50 (ae v49 (ae v48 aV)))))))) ?_
     dsimp only [cd]
     clear hJ
     refine aF (k := p1) aH.out aE.size rfl rfl (by omega) (by omega) (by decide) ?_
     refine cW (vs := [_, _, _]) aE.out rfl ((s5.ext hh.below).recAt NR.len hx1) rfl (by decide) ?_
     refine bY hh 0 [_,_,_] ?_
     intro ws hh
     replace hh : Hp _ (.blk _ _ [_, _, _] _ :: _) _ := hh
     refine aa (ah (sr (mL (mI ?_))))
     refine bj aH.out aE.size rfl rfl rfl (by omega) (by decide) ?_
     refine aN aE.out rfl (hh.ez (i := 1) rfl (by first | assumption | (simp only [Nat.mul_one]; assumption))) (by decide) ?_
     refine bT (aa ?_)
     have hokd : iD ns.reverse (gF rr (n - 1 - a)) := by have := vL hla2 hd hok hr2 hrd2; rwa [hl1] at this
     obtain ⟨x2, hx2, hco2, z2, hlt2⟩ := hval _ hokd
     have hsum := fun w1 => il (nR V) (nR x2) w1 (zV.ok (by omega)) (z2.ok (by omega))
     rw [fH, fH] at hsum
     have hat2 := hat _ hokd
     have hbd := wI (ex := x35) hrl ha hr h0 (by omega)
     rw [if_pos h0, hco2] at hup
     generalize cU ns.reverse (gF rr (n - 1 - a)) = p2 at *
     refine cT (sr (mL (mI ?_)))
     refine bj (k := a) aH.out aE.size rfl rfl (by omega) (by omega) (by decide) ?_
     refine aN aE.out rfl (hh.ez (i := 1) rfl (by first | assumption | (simp only [Nat.mul_one]; assumption))) (by decide) ?_
     refine nJ (b := 1) rfl rfl (by omega) (by decide) ?_
     refine bj (k := a) aH.out aE.size rfl rfl (by omega) (by omega) (by decide) ?_
     refine nF hh (i := 1) (vs := [_]) rfl rfl (bU rfl) rfl aE.out rfl (by rw [List.length_append, ep, hbl]; omega) rfl ?_
     intro ws hh
     simp only [List.set_cons_zero, List.set_cons_succ] at hh
     rw [show (r + 256 - 1) % 256 = r - 1 by omega, hbd] at hh
     refine aa ?_
     refine aK 10 [[(9, none)], [(2, none)], [(69, some 1)], [(2, none)], [(71, some 3)], [(8, none)], [(73, some 5)], [(72, some 4), (74, some 6)], [(70, some 2), (75, some 7)], [(76, some 8)]] [(9, 77), (8, 76), (7, 75), (6, 74), (5, 73), (4, 72), (3, 71), (2, 70), (1, 69), (0, 68)] hh mixed (by kernel_rfl) ?_
     refine gU 0 [_,_,_] ?_
     refine dv ?_
     refine dY 7 ?_
     refine dv ?_
     refine dY 7 ?_
     refine eP ?_
     refine cJ (i := 6) (Is (.string ⟨((bS (gF rr (n - 1 - a)).reverse)).toArray⟩)) Is.ext ?_ ?_
     ·intro ρ1 w1 hj hR
      exact fp rfl (fR (l := (bS (gF rr (n - 1 - a)).reverse)) aH.out aH.out aH.out (show ρ1 73 = Value.slice _ _ _ from hR.1) (hj.hp.pr (i := 1) rfl (hbl2.trans e1.symm))) ⟨Below.refl _ _, rfl⟩
     refine dC (fun _ hj => hat2 _ hj.hp.below) ?_
     refine hH (p2) ?_
     refine mh [_,_,_] (fun _ hj => (s5.ext hj.hp.below).recAt NR.len hx2) ?_
     refine bm ?_
     intro f W hJ hV
     have hb_13 := hJ.bl
     obtain ⟨v77, v76, v75, v74, v73, v72, v71, v70, v69, v68, _⟩ := hV
     replace hh := hJ.hp
     refine aU (bk (ae v77 (ae v76 (ae v75 (ae v74 (ae v73 (ae v72 (ae v71 (ae v70 (ae v69 (ae v68 aV))))))))))) ?_
     dsimp only [cd]
     clear hJ
     refine bJ hh (hsum _) rfl ?_
     intro w78 hh
     refine bY hh 0 [_,_,_] ?_
     intro ws hh
     replace hh : Hp _ (.blk _ _ [_, _, _] _ :: _) _ := hh
     refine aa (al (bI ?_))
     refine bP hh 4 ?_
     refine dk hh 0 [_,_,_] ?_
     refine aP hh (cs := [_, _, _]) aH.out aE.out (aY (de rfl) bO) rfl rfl (by decide) (by decide) (by decide) rfl (by decide) ?_
     intro b82 w82 hh
     refine cu hh (i := 3) rfl rfl rfl (hh.aX (i := 0) rfl) aH.out aE.out rfl (by decide) (by first | rfl | exact bZ _ | exact bK _ | exact bC _ | exact bL NR.one _) (by omega) (by omega) (by decide) ?_
     intro A83 c83 w83 hh
     simp only [List.set_cons_zero, List.set_cons_succ] at hh
     replace hh := hh.sub (List.sublist_cons_self _ _)
     refine bI ?_
     refine bY hh 4 [_] ?_
     intro ws hh
     replace hh : Hp _ (_ :: _ :: _ :: _ :: .blk _ _ [_, _] _ :: _) _ := hh
     refine aC (aT (ai (al (mI ?_))))
     refine bz (aI (aC (ai ?_)))
     replace hh := hh.sub (List.Sublist.cons _ (List.Sublist.cons _ (List.Sublist.cons_cons _ (List.Sublist.cons_cons _ (List.Sublist.cons_cons _ (List.Sublist.cons_cons _ (List.Sublist.cons_cons _ (List.Sublist.cons_cons _ List.Sublist.slnil))))))))
     refine ⟨⟨p + 1, c83, A83, by omega, rfl, ?_⟩, by show av (di ns a) - (p + 1) < av (di ns a) - p; omega, ?_⟩
     ·rw [aO hup, List.map_append, dp]
      exact hh
     ·(repeat (first | exact aw _ _ _ | refine ay rfl ?_ | refine au rfl ?_))
    ·refine ah (sr (mI (mL (aQ ?_))))
     refine aG (aa (cT (ak (ai (ah (aj (sr (mL (mI ?_)))))))))
     refine bj aH.out aE.size rfl rfl rfl (by omega) (by decide) ?_
     refine aN aE.out rfl (hh.ck (i := 1) rfl (by first | assumption | (simp only [Nat.mul_one]; assumption))) (by decide) ?_
     refine jk hh aH.out aH.out aH.out rfl (by decide) ?_
     intro g35 c35 x35 w35 hh
     rw [e0] at hh
     have hcl2 : (jg (bS rr.reverse) ++ x35)[a]? = some (.int .u8 (r : Int)) := by rw [List.getElem?_append_left (by rw [ep, hbl]; exact ha)]; exact hcell
     generalize (((jg (bS rr.reverse) ++ x35).length, (jg (bS rr.reverse) ++ x35).length + 1) : Nat × Nat) = fz at hh
     refine aL (aa (sr ?_))
     refine fi [_,_,_] ?_
     refine cS hh ?_
     intro b9 w9 hh
     refine bY hh 0 [_,_,_] ?_
     intro ws hh
     replace hh : Hp _ (.blk _ _ [_, _, _] _ :: _) _ := hh
     refine aa (ah (ah ?_))
     refine aK 10 [[(8, none)], [(1, none)], [(37, some 0), (38, some 1)], [(39, some 2)], [(40, some 3)], [(2, none)], [(42, some 5)], [(1, none)], [(43, some 6), (44, some 7)], [(45, some 8)]] [(9, 46), (8, 45), (7, 44), (6, 43), (5, 42), (4, 41), (3, 40), (2, 39), (1, 38), (0, 37)] hh mixed (by kernel_rfl) ?_
     refine eP ?_
     refine dn ?_
     refine mu (a) ?_
     refine aR (i := 3) (fun ρ1 w1 hj hR => cm aE.out (show ρ1 39 = Value.pointer _ from hR.1) (hj.hp.ez (i := 1) rfl (by first | assumption | (simp only [Nat.mul_one]; assumption)))) ?_
     refine aR (i := 4) (fun ρ1 w1 hj hR => ia aH.out aH.out (show ρ1 40 = Value.int _ _ from hR.1) (by omega) (by omega)) ?_
     refine dv ?_
     refine dY 7 ?_
     refine dn ?_
     refine hH (a) ?_
     refine aR (i := 9) (fun ρ1 w1 hj hR => cm aE.out (show ρ1 45 = Value.pointer _ from hR.1) ((s1.ext hj.hp.below).dR (by assumption))) ?_
     refine bm ?_
     intro f W hJ hV
     have hb_9 := hJ.bl
     obtain ⟨v46, v45, v44, v43, v42, v41, v40, v39, v38, v37, _⟩ := hV
     replace hh := hJ.hp
     refine aU (bk (ae v46 (ae v45 (ae v44 (ae v43 (ae v42 (ae v41 (ae v40 (ae v39 (ae v38 (ae v37 aV))))))))))) ?_
     dsimp only [cd]
     clear hJ
     refine nQ (aa ?_)
     refine cT ?_
     refine aK 7 [[(2, none)], [(48, some 0)], [(2, none)], [(50, some 2)], [(8, none)], [(52, some 4)], [(51, some 3), (53, some 5)]] [(6, 54), (5, 53), (4, 52), (3, 51), (2, 50), (1, 49), (0, 48)] hh mixed (by kernel_rfl) ?_
     refine dv ?_
     refine dY 7 ?_
     refine dv ?_
     refine dY 7 ?_
     refine eP ?_
     refine cJ (i := 5) (Is (.string ⟨((bS rr.reverse)).toArray⟩)) Is.ext ?_ ?_
     ·intro ρ1 w1 hj hR
      exact fp rfl (fR (l := (bS rr.reverse)) aH.out aH.out aH.out (show ρ1 52 = Value.slice _ _ _ from hR.1) (hj.hp.pr (i := 1) rfl (hbl.trans e1.symm))) ⟨Below.refl _ _, rfl⟩
     refine dC (fun _ hj => hat1 _ hj.hp.below) ?_
     refine bm ?_
     intro f W hJ hV
     have hb_10 := hJ.bl
     obtain ⟨v54, v53, v52, v51, v50, v49, v48, _⟩ := hV
     replace hh := hJ.hp
     refine aU (bk (ae v54 (ae v53 (ae v52 (ae v51 (ae v50 (ae v49 (ae v48 aV)))))))) ?_
     dsimp only [cd]
     clear hJ
     refine aF (k := p1) aH.out aE.size rfl rfl (by omega) (by omega) (by decide) ?_
     refine cW (vs := [_, _, _]) aE.out rfl ((s5.ext hh.below).recAt NR.len hx1) rfl (by decide) ?_
     refine bY hh 0 [_,_,_] ?_
     intro ws hh
     replace hh : Hp _ (.blk _ _ [_, _, _] _ :: _) _ := hh
     refine aa (ah (sr (mL (mI ?_))))
     refine bj aH.out aE.size rfl rfl rfl (by omega) (by decide) ?_
     refine aN aE.out rfl (hh.ez (i := 1) rfl (by first | assumption | (simp only [Nat.mul_one]; assumption))) (by decide) ?_
     refine bT (aa ?_)
     rw [if_neg h0] at hup
     refine cF (ak (ai (al (bI ?_))))
     refine bP hh 4 ?_
     refine dk hh 0 [_,_,_] ?_
     refine aP hh (cs := [_, _, _]) aH.out aE.out (aY (de rfl) bO) rfl rfl (by decide) (by decide) (by decide) rfl (by decide) ?_
     intro b82 w82 hh
     refine cu hh (i := 3) rfl rfl rfl (hh.aX (i := 0) rfl) aH.out aE.out rfl (by decide) (by first | rfl | exact bZ _ | exact bK _ | exact bC _ | exact bL NR.one _) (by omega) (by omega) (by decide) ?_
     intro A83 c83 w83 hh
     simp only [List.set_cons_zero, List.set_cons_succ] at hh
     replace hh := hh.sub (List.sublist_cons_self _ _)
     refine bI ?_
     refine bY hh 4 [_] ?_
     intro ws hh
     replace hh : Hp _ (_ :: _ :: _ :: _ :: .blk _ _ [_, _] _ :: _) _ := hh
     refine aC (aT (ai (al (mI ?_))))
     refine bz (aI (aC (ai ?_)))
     replace hh := hh.sub (List.Sublist.cons _ (List.Sublist.cons _ (List.Sublist.cons_cons _ (List.Sublist.cons_cons _ (List.Sublist.cons_cons _ (List.Sublist.cons_cons _ (List.Sublist.cons_cons _ (List.Sublist.cons_cons _ List.Sublist.slnil))))))))
     refine ⟨⟨p + 1, c83, A83, by omega, rfl, ?_⟩, by show av (di ns a) - (p + 1) < av (di ns a) - p; omega, ?_⟩
     ·rw [aO hup, Dyadic.add_zero, List.map_append, dp]
      exact hh
     ·(repeat (first | exact aw _ _ _ | refine ay rfl ?_ | refine au rfl ?_))
   ·have hno : ¬ iD ns.reverse rr := fun h => hrd3 (mX h (by rw [List.getElem?_reverse (by omega), show ns.length - 1 - (ns.length - 1 - a) = a by omega]; exact hd) hr2)
    obtain ⟨V, hV⟩ : ∃ V : Dyadic, V = 0 := ⟨0, rfl⟩
    rw [qF hno, ← hV] at hup
    have zV : Sz k V := by rw [hV]; exact Sz.zero _
    have h0 : 0 < r := by omega
    have hc0 : [Value.bool false, .string (ByteArray.mk #[]), .int .i64 0] = [.bool (nR V).neg, .string (nR V).cB, .int .i64 (nR V).e] := by rw [hV]; rfl
    refine ah (sr (mI (mL (aQ ?_))))
    refine aG (aa (cT (ak (ai (ah (aj (sr (mL (mI ?_)))))))))
    refine bj aH.out aE.size rfl rfl rfl (by omega) (by decide) ?_
    refine aN aE.out rfl (hh.ck (i := 1) rfl (by first | assumption | (simp only [Nat.mul_one]; assumption))) (by decide) ?_
    refine jk hh aH.out aH.out aH.out rfl (by decide) ?_
    intro g35 c35 x35 w35 hh
    rw [e0] at hh
    have hcl2 : (jg (bS rr.reverse) ++ x35)[a]? = some (.int .u8 (r : Int)) := by rw [List.getElem?_append_left (by rw [ep, hbl]; exact ha)]; exact hcell
    generalize (((jg (bS rr.reverse) ++ x35).length, (jg (bS rr.reverse) ++ x35).length + 1) : Nat × Nat) = fz at hh
    refine aL (aa (sr ?_))
    refine fi [_,_,_] ?_
    refine cS hh ?_
    intro b9 w9 hh
    refine bY hh 0 [_,_,_] ?_
    intro ws hh
    replace hh : Hp _ (.blk _ _ [_, _, _] _ :: _) _ := hh
    refine aa (ah (ah ?_))
    refine aK 10 [[(8, none)], [(1, none)], [(37, some 0), (38, some 1)], [(39, some 2)], [(40, some 3)], [(2, none)], [(42, some 5)], [(1, none)], [(43, some 6), (44, some 7)], [(45, some 8)]] [(9, 46), (8, 45), (7, 44), (6, 43), (5, 42), (4, 41), (3, 40), (2, 39), (1, 38), (0, 37)] hh mixed (by kernel_rfl) ?_
    refine eP ?_
    refine dn ?_
    refine mu (a) ?_
    refine aR (i := 3) (fun ρ1 w1 hj hR => cm aE.out (show ρ1 39 = Value.pointer _ from hR.1) (hj.hp.ez (i := 1) rfl (by first | assumption | (simp only [Nat.mul_one]; assumption)))) ?_
    refine aR (i := 4) (fun ρ1 w1 hj hR => ia aH.out aH.out (show ρ1 40 = Value.int _ _ from hR.1) (by omega) (by omega)) ?_
    refine dv ?_
    refine dY 7 ?_
    refine dn ?_
    refine hH (a) ?_
    refine aR (i := 9) (fun ρ1 w1 hj hR => cm aE.out (show ρ1 45 = Value.pointer _ from hR.1) ((s1.ext hj.hp.below).dR (by assumption))) ?_
    refine bm ?_
    intro f W hJ hV
    have hb_9 := hJ.bl
    obtain ⟨v46, v45, v44, v43, v42, v41, v40, v39, v38, v37, _⟩ := hV
    replace hh := hJ.hp
    refine aU (bk (ae v46 (ae v45 (ae v44 (ae v43 (ae v42 (ae v41 (ae v40 (ae v39 (ae v38 (ae v37 aV))))))))))) ?_
    dsimp only [cd]
    clear hJ
    refine nQ (aa ?_)
    rw [hc0] at hh
    refine cF (ak (ai (ah (sr (mL (mI ?_))))))
    refine bj aH.out aE.size rfl rfl rfl (by omega) (by decide) ?_
    refine aN aE.out rfl (hh.ez (i := 1) rfl (by first | assumption | (simp only [Nat.mul_one]; assumption))) (by decide) ?_
    refine bT (aa ?_)
    have hokd : iD ns.reverse (gF rr (n - 1 - a)) := by have := vL hla2 hd hok hr2 hrd2; rwa [hl1] at this
    obtain ⟨x2, hx2, hco2, z2, hlt2⟩ := hval _ hokd
    have hsum := fun w1 => il (nR V) (nR x2) w1 (zV.ok (by omega)) (z2.ok (by omega))
    rw [fH, fH] at hsum
    have hat2 := hat _ hokd
    have hbd := wI (ex := x35) hrl ha hr h0 (by omega)
    rw [if_pos h0, hco2] at hup
    generalize cU ns.reverse (gF rr (n - 1 - a)) = p2 at *
    refine cT (sr (mL (mI ?_)))
    refine bj (k := a) aH.out aE.size rfl rfl (by omega) (by omega) (by decide) ?_
    refine aN aE.out rfl (hh.ez (i := 1) rfl (by first | assumption | (simp only [Nat.mul_one]; assumption))) (by decide) ?_
    refine nJ (b := 1) rfl rfl (by omega) (by decide) ?_
    refine bj (k := a) aH.out aE.size rfl rfl (by omega) (by omega) (by decide) ?_
    refine nF hh (i := 1) (vs := [_]) rfl rfl (bU rfl) rfl aE.out rfl (by rw [List.length_append, ep, hbl]; omega) rfl ?_
    intro ws hh
    simp only [List.set_cons_zero, List.set_cons_succ] at hh
    rw [show (r + 256 - 1) % 256 = r - 1 by omega, hbd] at hh
    refine aa ?_
    refine aK 10 [[(9, none)], [(2, none)], [(69, some 1)], [(2, none)], [(71, some 3)], [(8, none)], [(73, some 5)], [(72, some 4), (74, some 6)], [(70, some 2), (75, some 7)], [(76, some 8)]] [(9, 77), (8, 76), (7, 75), (6, 74), (5, 73), (4, 72), (3, 71), (2, 70), (1, 69), (0, 68)] hh mixed (by kernel_rfl) ?_
    refine gU 0 [_,_,_] ?_
    refine dv ?_
    refine dY 7 ?_
    refine dv ?_
    refine dY 7 ?_
    refine eP ?_
    refine cJ (i := 6) (Is (.string ⟨((bS (gF rr (n - 1 - a)).reverse)).toArray⟩)) Is.ext ?_ ?_
    ·intro ρ1 w1 hj hR
     exact fp rfl (fR (l := (bS (gF rr (n - 1 - a)).reverse)) aH.out aH.out aH.out (show ρ1 73 = Value.slice _ _ _ from hR.1) (hj.hp.pr (i := 1) rfl (hbl2.trans e1.symm))) ⟨Below.refl _ _, rfl⟩
    refine dC (fun _ hj => hat2 _ hj.hp.below) ?_
    refine hH (p2) ?_
    refine mh [_,_,_] (fun _ hj => (s5.ext hj.hp.below).recAt NR.len hx2) ?_
    refine bm ?_
    intro f W hJ hV
    have hb_13 := hJ.bl
    obtain ⟨v77, v76, v75, v74, v73, v72, v71, v70, v69, v68, _⟩ := hV
    replace hh := hJ.hp
    refine aU (bk (ae v77 (ae v76 (ae v75 (ae v74 (ae v73 (ae v72 (ae v71 (ae v70 (ae v69 (ae v68 aV))))))))))) ?_
    dsimp only [cd]
    clear hJ
    refine bJ hh (hsum _) rfl ?_
    intro w78 hh
    refine bY hh 0 [_,_,_] ?_
    intro ws hh
    replace hh : Hp _ (.blk _ _ [_, _, _] _ :: _) _ := hh
    refine aa (al (bI ?_))
    refine bP hh 4 ?_
    refine dk hh 0 [_,_,_] ?_
    refine aP hh (cs := [_, _, _]) aH.out aE.out (aY (de rfl) bO) rfl rfl (by decide) (by decide) (by decide) rfl (by decide) ?_
    intro b82 w82 hh
    refine cu hh (i := 3) rfl rfl rfl (hh.aX (i := 0) rfl) aH.out aE.out rfl (by decide) (by first | rfl | exact bZ _ | exact bK _ | exact bC _ | exact bL NR.one _) (by omega) (by omega) (by decide) ?_
    intro A83 c83 w83 hh
    simp only [List.set_cons_zero, List.set_cons_succ] at hh
    replace hh := hh.sub (List.sublist_cons_self _ _)
    refine bI ?_
    refine bY hh 4 [_] ?_
    intro ws hh
    replace hh : Hp _ (_ :: _ :: _ :: _ :: .blk _ _ [_, _] _ :: _) _ := hh
    refine aC (aT (ai (al (mI ?_))))
    refine bz (aI (aC (ai ?_)))
    replace hh := hh.sub (List.Sublist.cons _ (List.Sublist.cons _ (List.Sublist.cons_cons _ (List.Sublist.cons_cons _ (List.Sublist.cons_cons _ (List.Sublist.cons_cons _ (List.Sublist.cons_cons _ (List.Sublist.cons_cons _ List.Sublist.slnil))))))))
    refine ⟨⟨p + 1, c83, A83, by omega, rfl, ?_⟩, by show av (di ns a) - (p + 1) < av (di ns a) - p; omega, ?_⟩
    ·rw [aO hup, List.map_append, dp]
     exact hh
    ·(repeat (first | exact aw _ _ _ | refine ay rfl ?_ | refine au rfl ?_))
  ·obtain rfl : p = av (di ns a) := by omega
   rw [List.take_of_length_le (by rw [tm]; omega)] at hh
   refine ah (sr (mI (mL (aQ ?_))))
   refine aG (aa (cF ?_))
   refine aJ ?_
   refine ax (ax (aZ (ai (sr ?_))))
   refine dk hh 2 [_,_] ?_
   refine bY hh 4 [_,_] ?_
   intro ws hh
   replace hh : Hp _ (_ :: _ :: _ :: _ :: .blk _ _ [_, _] _ :: _) _ := hh
   refine aa (aq ?_)
   replace hh := hh.sub (List.Sublist.cons_cons _ (List.Sublist.cons _ (List.Sublist.cons _ (List.Sublist.cons_cons _ (List.Sublist.cons_cons _ (List.Sublist.cons _ List.Sublist.slnil))))))
   refine gp (bf rfl (bg (vs := [_, _]) aE.out (hh.aD (i := 2) (n := 2) rfl rfl) rfl) bA) ?_
   exact ⟨_, _, _, _, rfl, hh.sub (List.sublist_append_left [_, _] _)⟩
end Go.Proofs.YtioilmppidlbnaaGreatDoor
/- The walk through ogeeref14.Raise. -/
namespace Go.Proofs.YtioilmppidlbnaaGreatDoor
open Go.RowKit
def nM (w : World) (b i : Nat) : Int := match w.cell? ⟨b, 0, none⟩ with
 | some (.slice (some a) _ _) => match w.cell? (a.add (i * 1)) with
  | some (.int _ z) => z
  | _ => 0
 | _ => 0
theorem qy {w : World} {b i n c : Nat} {a : Addr} {k : IntKind} {z : Int} (h1 : w.cell? ⟨b, 0, none⟩ = some (.slice (some a) n c)) (h2 : w.cell? (a.add (i * 1)) = some (.int k z)) : nM w b i = z := by
 unfold nM
 rw [h1]
 simp only
 rw [h2]
theorem yj {ds : List Nat} {xs : List Dyadic} {row : List Nat} {K : Nat} (h : ∀ x ∈ xs, Sz K x) : Sz K (co ds xs row) := by
 unfold co
 split
 ·cases h2 : xs[cU ds row]? with
  | none => exact Sz.zero _
  | some x => exact h x (List.mem_of_getElem? h2)
 ·exact Sz.zero _
theorem ze {ns : List Nat} {a K : Nat} {xs : List Dyadic} (h : ∀ x ∈ xs, Sz K x) : ∀ y ∈ tK ns a xs, Sz (K + 1) y := fun y hy => by
 unfold tK at hy
 obtain ⟨p, _, rfl⟩ := List.mem_map.1 hy
 refine Sz.add (yj h) ?_
 split
 ·exact yj h
 ·exact Sz.zero _
structure RS (ns ts : List Nat) (xs : List Dyadic) (k n : Nat) (F FC : Option Addr) (c1 c2 i T : Nat) (cur : List Nat) (zs : List Dyadic) (A B : Option Addr) (ca cb : Nat) (R : List HE) (w : World) : Prop where
 zD : xg ns xs cur zs
 le : ∀ (j c t : Nat), cur[j]? = some c → ts[j]? = some t → c ≤ t
 eq : ∀ (j c t : Nat), j < i → cur[j]? = some c → ts[j]? = some t → c = t
 sz : ∀ x ∈ zs, Sz (k + T) x
 src : (A = F ∧ ca = c1 ∧ B = FC ∧ cb = c2 ∧ cur = ns ∧ zs = xs) ∨ R = [.row B (av cur) cb 39 3 (bF NR.cells (zs.map nR)), .row A n ca 3 1 (bs (aW cur))]
 rd : ∀ (H : List HE) (w' : World), Hp w (H ++ R) w' → Sl w' A n 1 (bs (aW cur)) ∧ Sl w' B (av cur) 3 (bF NR.cells (zs.map nR))
theorem ye {cur ts : List Nat} {i c t : Nat} (hc : cur[i]? = some c) (ht : ts[i]? = some t) (h : c < t) (hle : ∀ (j c t : Nat), cur[j]? = some c → ts[j]? = some t → c ≤ t) : ∀ (j c t : Nat), (di cur i)[j]? = some c → ts[j]? = some t → c ≤ t := fun j c2 t2 h1 h2 => by
 rw [gJ (List.getElem?_eq_some_iff.1 hc).1] at h1
 split at h1
 ·rename_i e
  subst e
  rw [List.getD_eq_getElem?_getD, hc] at h1
  rw [ht] at h2
  cases h1
  cases h2
  exact h
 ·exact hle j c2 t2 h1 h2
theorem pV (F FC E : Option Addr) (n c1 m c2 q cE k : Nat) (ds es : List Int) (cs : List NR) (w : World) (hf : (⟨F, n, c1, FC, m, c2, ds, cs⟩ : FX).at_ w) (hl : (⟨F, n, c1, FC, m, c2, ds, cs⟩ : FX).iC k) (hE : Sl w E q 1 (bs es)) (hq : q ≤ 1000) (hk : k ≤ 90000) :
  Calls Tryz.prog 24 #[.agg #[.slice F n c1, .slice FC m c2], .slice E q cE] w fun r w' => ((fE ds cs ≠ 0 ∧ r = om (fE ds cs) ∨ fE ds cs = 0 ∧ kK ds es ≠ 0 ∧ r = om (kK ds es)) ∧ Below w.heap.size w w') ∨
   (fE ds cs = 0 ∧ kK ds es = 0 ∧ ∃ (g : FX) (R : List HE), qU (es.map Int.toNat) (eO (es.map Int.toNat) ⟨F, n, c1, FC, m, c2, ds, cs⟩) g ∧ (g = ⟨F, n, c1, FC, m, c2, ds, cs⟩ ∨ R = [g.fI, g.fB]) ∧ r = .returned (.tuple #[.agg #[.slice g.A g.n g.a, .slice g.B g.m g.b], .int .i64 0]) ∧ Hp w R w') := by
 have hh := Hp.start w
 have hdg : Sl w F n 1 (bs ds) := hf.dg
 have hnm : Sl w FC m 3 (bF NR.cells cs) := hf.nm
 have hln : ds.length = n := by have := hdg.1; simpa [bs] using this
 have hlq : es.length = q := by have := hE.1; simpa [bs] using this
 have hlm := hnm.cP NR.len (by decide)
 have hn20 : n ≤ 1000 := hl.Aa
 have hck := fun w1 hb => ks F FC n c1 m c2 ds cs w1 (hdg.ext hb) (hnm.ext hb) (by omega) (fun a ha => (hl.num a ha).1)
 by_cases h0 : fE ds cs = 0
 ·by_cases h1 : q = n
  ·obtain ⟨ns, xs, hv, hxs⟩ := wi h0
   refine ao (N := 69) (l := [.agg #[.slice F n c1, .slice FC m c2], .slice E q cE]) Tryz.func24 rfl rfl (by simp) ?_
   refine sr ?_
   refine dm hh [_,_] ?_
   intro b2 w2 hh
   refine cS hh ?_
   intro b4 w4 hh
   refine aI (aa (ah (sr ?_)))
   refine dk hh 1 [_,_] ?_
   refine bJ hh (hck _ hh.below) rfl ?_
   intro w10 hh
   refine aI (aa (sr (mI ?_)))
   refine dK (aa (cF (ak (ai (ah (sr (mL (aQ (bI ?_)))))))))
   refine bP hh 1 ?_
   refine aQ ?_
   refine dK (aa (cF (ak (ai (ah (sr (aI (aa (aj ?_)))))))))
   refine bp [5, 7, 22, 23, 24, 25, 26, 27, 28, 29, 30, 31, 32, 33, 34, 35, 36, 37, 38, 39, 40, 41, 42, 43, 44, 45] 7
    (fun v w' => ∃ i : Nat, i ≤ q ∧ v = .int .i64 i ∧ ((ds.take i).zip (es.take i)).any ix = false ∧ Hp w [.blk b4 28 [.slice none 0 0, .slice none 0 0] (0, 0), .blk b2 28 [.slice F n c1, .slice FC m c2] (0, 0)] w')
    (fun v _ => q - (intOf v).toNat) ?_ ?_
   ·exact ⟨0, Nat.zero_le _, rfl, rfl, hh⟩
   ·clear hh
    rintro ρ' v w' ⟨i, hi, rfl, hall, hh⟩
    by_cases hlt : i < q
    ·obtain ⟨d, hd⟩ := ar (l := ds) (k := i) (by omega)
     obtain ⟨e, he⟩ := ar (l := es) (k := i) (by omega)
     have hgd := bB hd
     have hge := bB he
     obtain ⟨a1, rfl, s1⟩ := hdg.at_ (by omega)
     obtain ⟨a2, rfl, s2⟩ := hE.at_ (by omega)
     have hbad : ix (d, e) = true → kK ds es = 1 := fun hb => by
      unfold kK
      rw [if_neg (by omega), if_pos]
      exact List.any_eq_true.2 ⟨(d, e), List.mem_of_getElem? (i := i) (by rw [List.getElem?_zip_eq_some]; exact ⟨hd, he⟩), hb⟩
     by_cases h2 : e < d
     ·have hr1 := hbad (by unfold ix; rw [decide_eq_true]; exact .inl h2)
      have hlc : decide (e < d) = true := decide_eq_true h2
      refine ah (sr (mI (mL (aQ ?_))))
      refine aG (aa (cT (ak (ai (ah (aj (ah ?_)))))))
      refine aK 13 [[(1, none)], [(7, none)], [(28, some 0), (29, some 1)], [(30, some 2)], [(2, none)], [(32, some 4)], [(7, none)], [(33, some 5), (34, some 6)], [(35, some 7)], [(31, some 3), (36, some 8)], [(37, some 9)], [(1, none), (38, some 10)], [(7, none), (38, some 10)]] [(12, 40), (11, 39), (10, 38), (9, 37), (8, 36), (7, 35), (6, 34), (5, 33), (4, 32), (3, 31), (2, 30), (1, 29), (0, 28)] hh mixed (by kernel_rfl) ?_
      refine eP ?_
      refine dn ?_
      refine hH (i) ?_
      refine aR (i := 3) (fun ρ1 w1 hj hR => cm aE.out (show ρ1 30 = Value.pointer _ from hR.1) ((s2.ext hj.hp.below).dR (by assumption))) ?_
      refine dv ?_
      refine dY 1 ?_
      refine dn ?_
      refine hH (i) ?_
      refine aR (i := 8) (fun ρ1 w1 hj hR => cm aE.out (show ρ1 35 = Value.pointer _ from hR.1) ((s1.ext hj.hp.below).dR (by assumption))) ?_
      refine zB ?_
      refine Ao ?_
      first | refine dS ?_ | refine dU ?_ | refine dG (eP ?_)
      first | refine dS ?_ | refine dU ?_ | refine dG (dn ?_)
      refine bm ?_
      intro f W hJ hV
      have hb_9 := hJ.bl
      obtain ⟨v40, v39, v38, v37, v36, v35, v34, v33, v32, v31, v30, v29, v28, _⟩ := hV
      replace hh := hJ.hp
      refine aU (bk (ae v40 (ae v39 (ae v38 (ae v37 (ae v36 (ae v35 (ae v34 (ae v33 (ae v32 (ae v31 (ae v30 (ae v29 (ae v28 aV)))))))))))))) ?_
      dsimp only [cd]
      clear hJ
      first | refine gS ?_ | (refine gT ?_; refine aF aH.out aE.size rfl rfl rfl (by omega) (by decide) ?_) | refine gV ?_
      first | refine gS ?_ | (refine gT ?_; refine aN aE.out rfl ((s2.ext hh.below).dR (by assumption)) (by decide) ?_) | refine gV ?_
      first | refine gS ?_ | (refine gT ?_; refine bT ?_) | refine gV ?_
      first | refine dD ?_ | refine dA ?_
      refine aa (cT (sr ?_))
      refine fi [_,_] ?_
      refine bY hh 0 [_,_] ?_
      intro ws hh
      replace hh : Hp _ (.blk _ _ [_, _] _ :: _) _ := hh
      refine aI (aa (aq (bR (aM (aM (bR (aM ?_)))))))
      refine og (bf rfl (bg (vs := [_, _]) aE.out (hh.aD (i := 0) (n := 2) rfl rfl) rfl) (dq (et rfl) bA)) ?_
      exact .inl ⟨.inr ⟨h0, by rw [hr1]; decide, by rw [hr1]; rfl⟩, hh.below⟩
     ·by_cases h3 : 127 < e
      ·have hr1 := hbad (by unfold ix; rw [decide_eq_true]; exact .inr h3)
       refine ah (sr (mI (mL (aQ ?_))))
       refine aG (aa (cT (ak (ai (ah (aj (ah ?_)))))))
       refine aK 13 [[(1, none)], [(7, none)], [(28, some 0), (29, some 1)], [(30, some 2)], [(2, none)], [(32, some 4)], [(7, none)], [(33, some 5), (34, some 6)], [(35, some 7)], [(31, some 3), (36, some 8)], [(37, some 9)], [(1, none), (38, some 10)], [(7, none), (38, some 10)]] [(12, 40), (11, 39), (10, 38), (9, 37), (8, 36), (7, 35), (6, 34), (5, 33), (4, 32), (3, 31), (2, 30), (1, 29), (0, 28)] hh mixed (by kernel_rfl) ?_
       refine eP ?_
       refine dn ?_
       refine hH (i) ?_
       refine aR (i := 3) (fun ρ1 w1 hj hR => cm aE.out (show ρ1 30 = Value.pointer _ from hR.1) ((s2.ext hj.hp.below).dR (by assumption))) ?_
       refine dv ?_
       refine dY 1 ?_
       refine dn ?_
       refine hH (i) ?_
       refine aR (i := 8) (fun ρ1 w1 hj hR => cm aE.out (show ρ1 35 = Value.pointer _ from hR.1) ((s1.ext hj.hp.below).dR (by assumption))) ?_
       refine zB ?_
       refine Ao ?_
       first | refine dS ?_ | refine dU ?_ | refine dG (eP ?_)
       first | refine dS ?_ | refine dU ?_ | refine dG (dn ?_)
       refine bm ?_
       intro f W hJ hV
       have hb_9 := hJ.bl
       obtain ⟨v40, v39, v38, v37, v36, v35, v34, v33, v32, v31, v30, v29, v28, _⟩ := hV
       replace hh := hJ.hp
       refine aU (bk (ae v40 (ae v39 (ae v38 (ae v37 (ae v36 (ae v35 (ae v34 (ae v33 (ae v32 (ae v31 (ae v30 (ae v29 (ae v28 aV)))))))))))))) ?_
       dsimp only [cd]
       clear hJ
       first | refine gS ?_ | (refine gT ?_; refine aF aH.out aE.size rfl rfl rfl (by omega) (by decide) ?_) | refine gV ?_
       first | refine gS ?_ | (refine gT ?_; refine aN aE.out rfl ((s2.ext hh.below).dR (by assumption)) (by decide) ?_) | refine gV ?_
       first | refine gS ?_ | (refine gT ?_; refine bT ?_) | refine gV ?_
       first | refine dD ?_ | refine dA ?_
       refine aa (cT (sr ?_))
       refine fi [_,_] ?_
       refine bY hh 0 [_,_] ?_
       intro ws hh
       replace hh : Hp _ (.blk _ _ [_, _] _ :: _) _ := hh
       refine aI (aa (aq (bR (aM (aM (bR (aM ?_)))))))
       refine og (bf rfl (bg (vs := [_, _]) aE.out (hh.aD (i := 0) (n := 2) rfl rfl) rfl) (dq (et rfl) bA)) ?_
       exact .inl ⟨.inr ⟨h0, by rw [hr1]; decide, by rw [hr1]; rfl⟩, hh.below⟩
      ·refine ah (sr (mI (mL (aQ ?_))))
       refine aG (aa (cT (ak (ai (ah (aj (ah ?_)))))))
       refine aK 13 [[(1, none)], [(7, none)], [(28, some 0), (29, some 1)], [(30, some 2)], [(2, none)], [(32, some 4)], [(7, none)], [(33, some 5), (34, some 6)], [(35, some 7)], [(31, some 3), (36, some 8)], [(37, some 9)], [(1, none), (38, some 10)], [(7, none), (38, some 10)]] [(12, 40), (11, 39), (10, 38), (9, 37), (8, 36), (7, 35), (6, 34), (5, 33), (4, 32), (3, 31), (2, 30), (1, 29), (0, 28)] hh mixed (by kernel_rfl) ?_
       refine eP ?_
       refine dn ?_
       refine hH (i) ?_
       refine aR (i := 3) (fun ρ1 w1 hj hR => cm aE.out (show ρ1 30 = Value.pointer _ from hR.1) ((s2.ext hj.hp.below).dR (by assumption))) ?_
       refine dv ?_
       refine dY 1 ?_
       refine dn ?_
       refine hH (i) ?_
       refine aR (i := 8) (fun ρ1 w1 hj hR => cm aE.out (show ρ1 35 = Value.pointer _ from hR.1) ((s1.ext hj.hp.below).dR (by assumption))) ?_
       refine zB ?_
       refine Ao ?_
       first | refine dS ?_ | refine dU ?_ | refine dG (eP ?_)
       first | refine dS ?_ | refine dU ?_ | refine dG (dn ?_)
       refine bm ?_
       intro f W hJ hV
       have hb_9 := hJ.bl
       obtain ⟨v40, v39, v38, v37, v36, v35, v34, v33, v32, v31, v30, v29, v28, _⟩ := hV
       replace hh := hJ.hp
       refine aU (bk (ae v40 (ae v39 (ae v38 (ae v37 (ae v36 (ae v35 (ae v34 (ae v33 (ae v32 (ae v31 (ae v30 (ae v29 (ae v28 aV)))))))))))))) ?_
       dsimp only [cd]
       clear hJ
       first | refine gS ?_ | (refine gT ?_; refine aF aH.out aE.size rfl rfl rfl (by omega) (by decide) ?_) | refine gV ?_
       first | refine gS ?_ | (refine gT ?_; refine aN aE.out rfl ((s2.ext hh.below).dR (by assumption)) (by decide) ?_) | refine gV ?_
       first | refine gS ?_ | (refine gT ?_; refine bT ?_) | refine gV ?_
       first | refine dD ?_ | refine dA ?_
       refine aa (cF (ak (aT (ai (al (mI ?_))))))
       refine bz (aI (aC (ai ?_)))
       refine ⟨⟨i + 1, by omega, rfl, lh hall hd he (by unfold ix; rw [decide_eq_false]; show ¬(e < d ∨ 127 < e); omega), hh⟩, by show q - (i + 1) < q - i; omega, ?_⟩
       (repeat (first | exact aw _ _ _ | refine ay rfl ?_ | refine au rfl ?_))
    ·obtain rfl : i = q := by omega
     rw [List.take_of_length_le (by omega), List.take_of_length_le (by omega)] at hall
     have hdeg := hv.Aw
     have hnum := hv.num
     have hlow := hv.low
     have hlen := hv.len
     have hfew := hv.AP
     subst hdeg
     obtain ⟨ts, rfl, hlt2, hle, ht127⟩ := rQ (by omega) hall
     have hnl : ns.length = n := by rw [← cj]; exact hln
     have htn : (aW ts).map Int.toNat = ts := eN ts
     have hrz : kK (aW ns) (aW ts) = if 4096 < av ts then 3 else 0 := by
      unfold kK
      rw [if_neg (by rw [cj, cj]; omega), if_neg (by rw [hall]; decide), htn]
     rw [htn, hrz]
     have hbig := fun w1 hS1 => nZ E i cE ts w1 hS1 (by omega)
     have hany : ts.any (fun d => decide (127 < d)) = false := List.any_eq_false.2 fun d hd => by have := ht127 d hd; simp; omega
     by_cases h4 : 4096 < av ts
     ·have hb1 : iB ts = true := by unfold iB; rw [decide_eq_true h4, Bool.or_true]
      rw [hb1] at hbig
      rw [if_pos h4]
      refine ah (sr (mI (mL (aQ ?_))))
      refine aG (aa (cF ?_))
      refine aJ ?_
      refine ax (ax (aZ (ai (ah (sr (mL ?_))))))
      refine bJ hh (hbig _ (hE.ext hh.below)) rfl ?_
      intro w47 hh
      refine aa (cT (sr ?_))
      refine fi [_,_] ?_
      refine bY hh 0 [_,_] ?_
      intro ws hh
      replace hh : Hp _ (.blk _ _ [_, _] _ :: _) _ := hh
      refine aI (aa (aq (aM ?_)))
      refine og (bf rfl (bg (vs := [_, _]) aE.out (hh.aD (i := 0) (n := 2) rfl rfl) rfl) (dq (et rfl) bA)) ?_
      exact .inl ⟨.inr ⟨h0, by decide, rfl⟩, hh.below⟩
     ·have hb1 : iB ts = false := by unfold iB; rw [hany, decide_eq_false h4]; rfl
      rw [hb1] at hbig
      rw [if_neg h4]
      have hfm : m = av ns := by rw [← hlm, hnum, List.length_map, hlen]
      have hxz : ∀ x ∈ xs, Sz k x := fun x hx => by
       rw [hxs] at hx
       obtain ⟨c, hc, rfl⟩ := List.mem_map.1 hx
       exact (hl.num c hc).2
      have hup : eO ts ⟨F, n, c1, FC, m, c2, aW ns, cs⟩ = iA ns ts xs := by
       unfold eO FX.ns
       show iA ((aW ns).map Int.toNat) ts (cs.map NR.d) = _
       rw [eN, hxs]
      rw [hup]
      clear hup
      refine ah (sr (mI (mL (aQ ?_))))
      refine aG (aa (cF ?_))
      refine aJ ?_
      refine ax (ax (aZ (ai (ah (sr (mL ?_))))))
      refine bJ hh (hbig _ (hE.ext hh.below)) rfl ?_
      intro w47 hh
      refine aa (cF (ak (ai (ah (sr (aI (aa (aj ?_))))))))
      have hst : RS ns ts xs k n F FC c1 c2 0 0 ns xs F FC c1 c2 [] w := ⟨xg.start (by rw [hlen]), hle, fun _ _ _ h => absurd h (Nat.not_lt_zero _), hxz, .inl ⟨rfl, rfl, rfl, rfl, rfl, rfl⟩, fun H w1 h => ⟨hdg.ext h.below, by rw [← hfm, ← hnum]; exact hnm.ext h.below⟩⟩
      rw [hfm] at hh
      clear hbig
      refine bp [8, 49, 50, 51, 52, 53, 54, 55, 56, 57, 58, 59, 60, 61, 62, 63, 64, 65, 66, 67] 8
       (fun v w' => ∃ (p T : Nat) (cur : List Nat) (zs : List Dyadic) (A B : Option Addr) (ca cb : Nat) (R : List HE), p ≤ n ∧ v = .int .i64 p ∧ T ≤ 127 * p ∧ RS ns ts xs k n F FC c1 c2 p T cur zs A B ca cb R w ∧ Hp w (.blk b4 28 [.slice none 0 0, .slice none 0 0] (0, 0) :: .blk b2 28 [.slice A n ca, .slice B (av cur) cb] (0, 0) :: R) w')
       (fun v _ => n - (intOf v).toNat) ?_ ?_
      ·exact ⟨0, 0, ns, xs, F, FC, c1, c2, [], Nat.zero_le _, rfl, Nat.le_refl _, hst, hh⟩
      ·clear hh hst
       rintro ρ2 v w2 ⟨p, T, cur, zs, A, B, ca, cb, R, hp, rfl, hT, hR, hh⟩
       by_cases hpn : p < n
       ·obtain ⟨tp, htp⟩ := ar (l := ts) (k := p) (by omega)
        have htb := ht127 tp (List.mem_of_getElem? htp)
        have hge := bB (cA htp)
        obtain ⟨a2, rfl, s2⟩ := hE.at_ (by omega)
        refine ah (sr (mI (mL (aQ ?_))))
        refine aG (aa (cT (ak (ai (ah (aj (aj ?_)))))))
        refine wJ [55, 56, 57, 58, 59, 60, 61, 62, 63, 64, 65, 66, 67]
         (fun w' => ∃ (T : Nat) (cur : List Nat) (zs : List Dyadic) (A B : Option Addr) (ca cb : Nat) (R : List HE), (∀ c, cur[p]? = some c → T ≤ 127 * p + c) ∧ RS ns ts xs k n F FC c1 c2 p T cur zs A B ca cb R w ∧ Hp w (.blk b4 28 [.slice none 0 0, .slice none 0 0] (0, 0) :: .blk b2 28 [.slice A n ca, .slice B (av cur) cb] (0, 0) :: R) w')
         (fun w' => 128 - (nM w' b2 p).toNat) ?_ ?_
        ·exact ⟨T, cur, zs, A, B, ca, cb, R, fun c _ => by omega, hR, hh⟩
        ·clear hh hR hT
         rintro ρ3 w3 ⟨T, cur, zs, A, B, ca, cb, R, hT, hR, hh⟩
         have hcl : cur.length = n := by rw [hR.zD.2.1]; exact hnl
         obtain ⟨c, hc⟩ := ar (l := cur) (k := p) (by omega)
         have hct := hR.le p c tp hc htp
         have hTc := hT c hc
         obtain ⟨hdg3, hnm3⟩ := hR.rd [_, _] w3 hh
         obtain ⟨aA, rfl, sA⟩ := hdg3.at_ (by omega)
         have hgc := bB (cA hc)
         have hdeg0 : nM w3 b2 p = c := qy (hh.ez (i := 1) (o := 0) rfl rfl) (sA.dR hgc)
         by_cases hlt3 : c < tp
         ·have hle2 := ye hc htp hlt3 hR.le
          have hA127 : ∀ d ∈ di cur p, d ≤ 127 := fun d hd => by
           obtain ⟨j, hj⟩ := List.mem_iff_getElem?.1 hd
           have hj2 := (List.getElem?_eq_some_iff.1 hj).1
           rw [fU] at hj2
           obtain ⟨t2, ht2⟩ := ar (l := ts) (k := j) (by omega)
           have := hle2 j d t2 hj ht2
           have := ht127 t2 (List.mem_of_getElem? ht2)
           omega
          have hcN : av (di cur p) ≤ av ts := j7 (by rw [fU]; omega) fun j x y hx hy => hle2 j x y hx hy
          have hupc := fun w1 hb1 => uw (some aA) B n ca cb p (k + T) cur zs w1 (hdg3.ext hb1) (hnm3.ext hb1) (by omega) hpn hA127 (by omega) hR.sz (by omega)
          refine ah (ah ?_)
          refine aK 9 [[(2, none)], [(55, some 0)], [(8, none)], [(56, some 1), (57, some 2)], [(58, some 3)], [(1, none)], [(8, none)], [(60, some 5), (61, some 6)], [(62, some 7)]] [(8, 63), (7, 62), (6, 61), (5, 60), (4, 59), (3, 58), (2, 57), (1, 56), (0, 55)] hh mixed (by kernel_rfl) ?_
          refine dv ?_
          refine dY 1 ?_
          refine dn ?_
          refine aR (i := 3) (fun ρ1 w1 hj hR => bQ aH.out aE.size (show ρ1 56 = Value.slice _ _ _ from hR.1) (show ρ1 57 = Value.int _ _ from hR.2.1) (by omega) (by omega)) ?_
          refine jy (fun _ hj => (sA.ext hj.bl).dR hgc) ?_
          refine eP ?_
          refine dn ?_
          refine aR (i := 7) (fun ρ1 w1 hj hR => bQ aH.out aE.size (show ρ1 60 = Value.slice _ _ _ from hR.1) (show ρ1 61 = Value.int _ _ from hR.2.1) (by omega) (by omega)) ?_
          refine jy (fun _ hj => (s2.ext hj.hp.below).dR hge) ?_
          refine bm ?_
          intro f W hJ hV
          have hb_16 := hJ.bl
          obtain ⟨v63, v62, v61, v60, v59, v58, v57, v56, v55, _⟩ := hV
          replace hh := hJ.hp
          refine aU (bk (ae v63 (ae v62 (ae v61 (ae v60 (ae v59 (ae v58 (ae v57 (ae v56 (ae v55 aV)))))))))) ?_
          dsimp only [cd]
          clear hJ
          refine aG (aa (cT (ak (ai (aj (al ?_))))))
          refine dk hh 1 [_,_] (mI ?_)
          refine a6 (hupc _ hb_16) az.out rfl (by decide) ?_
          rintro e_ w67 ⟨A3, c3, B3, cb3, rfl, h2⟩
          refine ⟨_, rfl, ?_⟩
          replace hh := hh.join h2
          clear h2
          refine bY hh 3 [_,_] ?_
          intro ws hh
          replace hh : Hp _ (_ :: _ :: _ :: .blk _ _ [_, _] _ :: _) _ := hh
          refine aC (aT (ai ?_))
          obtain ⟨a3, rfl, s3⟩ := (hh.aX (i := 1) rfl).at_ (by omega)
          have hc2 : (di cur p)[p]? = some (c + 1) := by rw [gJ (by omega), if_pos rfl, List.getD_eq_getElem?_getD, hc]; rfl
          have hdeg1 : nM ws b2 p = ((c + 1 : Nat) : Int) := qy (hh.ez (i := 3) (o := 0) rfl rfl) (s3.dR (bB (cA hc2)))
          refine ⟨⟨T + 1, di cur p, tK cur p zs, some a3, B3, c3, cb3, [.row B3 (av (di cur p)) cb3 39 3 (bF NR.cells ((tK cur p zs).map nR)), .row (some a3) n c3 3 1 (bs (aW (di cur p)))], fun c2 h2 => ?_, ⟨hR.zD.step (by omega), hle2, fun j x y hj hx hy => ?_, ze hR.sz, .inr rfl, fun H w1 h => ⟨iZ (h.own (.row (some a3) n c3 3 1 (bs (aW (di cur p)))) (List.mem_append_right _ (List.mem_cons_of_mem _ List.mem_cons_self))), iZ (h.own (.row B3 (av (di cur p)) cb3 39 3 (bF NR.cells ((tK cur p zs).map nR))) (List.mem_append_right _ List.mem_cons_self))⟩⟩, (hh.sub (List.sublist_append_left [_, _, _, _] _)).perm (List.perm_append_comm (l₁ := [_, _]) (l₂ := [_, _]))⟩, ?_, ?_⟩
          ·rw [hc2] at h2
           cases h2
           omega
          ·rw [gJ (by omega), if_neg (by omega)] at hx
           exact hR.eq j x y hj hx hy
          ·show 128 - (nM ws b2 p).toNat < 128 - (nM w3 b2 p).toNat
           rw [hdeg0, hdeg1]
           omega
          ·(repeat (first | exact aw _ _ _ | refine ay rfl ?_ | refine au rfl ?_))
         ·obtain rfl : c = tp := by omega
          refine ah (ah ?_)
          refine aK 9 [[(2, none)], [(55, some 0)], [(8, none)], [(56, some 1), (57, some 2)], [(58, some 3)], [(1, none)], [(8, none)], [(60, some 5), (61, some 6)], [(62, some 7)]] [(8, 63), (7, 62), (6, 61), (5, 60), (4, 59), (3, 58), (2, 57), (1, 56), (0, 55)] hh mixed (by kernel_rfl) ?_
          refine dv ?_
          refine dY 1 ?_
          refine dn ?_
          refine aR (i := 3) (fun ρ1 w1 hj hR => bQ aH.out aE.size (show ρ1 56 = Value.slice _ _ _ from hR.1) (show ρ1 57 = Value.int _ _ from hR.2.1) (by omega) (by omega)) ?_
          refine jy (fun _ hj => (sA.ext hj.bl).dR hgc) ?_
          refine eP ?_
          refine dn ?_
          refine aR (i := 7) (fun ρ1 w1 hj hR => bQ aH.out aE.size (show ρ1 60 = Value.slice _ _ _ from hR.1) (show ρ1 61 = Value.int _ _ from hR.2.1) (by omega) (by omega)) ?_
          refine jy (fun _ hj => (s2.ext hj.hp.below).dR hge) ?_
          refine bm ?_
          intro f W hJ hV
          have hb_16 := hJ.bl
          obtain ⟨v63, v62, v61, v60, v59, v58, v57, v56, v55, _⟩ := hV
          replace hh := hJ.hp
          refine aU (bk (ae v63 (ae v62 (ae v61 (ae v60 (ae v59 (ae v58 (ae v57 (ae v56 (ae v55 aV)))))))))) ?_
          dsimp only [cd]
          clear hJ
          refine aG (aa (cF ?_))
          refine aJ ?_
          refine ax (ax (aZ (aT (ai (al (mI ?_))))))
          refine bz (aI (aC (ai ?_)))
          refine ⟨⟨p + 1, T, cur, zs, some aA, B, ca, cb, R, by omega, rfl, by omega, ⟨hR.zD, hR.le, fun j x y hj hx hy => ?_, hR.sz, hR.src, hR.rd⟩, hh⟩, by show n - (p + 1) < n - p; omega, ?_⟩
          ·by_cases hjp : j = p
           ·subst hjp
            rw [hc] at hx
            rw [htp] at hy
            cases hx
            cases hy
            rfl
           ·exact hR.eq j x y (by omega) hx hy
          ·(repeat (first | exact aw _ _ _ | refine ay rfl ?_ | refine au rfl ?_))
       ·obtain rfl : p = n := by omega
        have hcl : cur.length = p := by rw [hR.zD.2.1]; exact hnl
        obtain rfl : cur = ts := List.ext_getElem? fun j => by
         by_cases hj : j < p
         ·obtain ⟨x, hx⟩ := ar (l := cur) (k := j) (by omega)
          obtain ⟨y, hy⟩ := ar (l := ts) (k := j) (by omega)
          rw [hx, hy, hR.eq j x y hj hx hy]
         ·rw [List.getElem?_eq_none (by omega), List.getElem?_eq_none (by omega)]
        rw [← hR.zD.done]
        refine ah (sr (mI (mL (aQ ?_))))
        refine aG (aa (cF ?_))
        refine aJ ?_
        refine ax (ax (aZ (ai (sr ?_))))
        refine dk hh 1 [_,_] ?_
        refine bY hh 0 [_,_] ?_
        intro ws hh
        replace hh : Hp _ (.blk _ _ [_, _] _ :: _) _ := hh
        refine aI (aa (aq ?_))
        refine og (bf rfl (bg (vs := [_, _]) aE.out (hh.aD (i := 0) (n := 2) rfl rfl) rfl) (dq (et rfl) bA)) ?_
        refine .inr ⟨h0, rfl, ⟨A, p, ca, B, av cur, cb, aW cur, zs.map nR⟩, R, ⟨rfl, rfl, hcl.symm, rfl⟩, ?_, rfl, hh.sub (.cons _ (.cons _ (List.Sublist.refl _)))⟩
        rcases hR.src with ⟨rfl, rfl, rfl, rfl, rfl, rfl⟩ | h
        ·exact .inl (by rw [hfm, hnum])
        ·exact .inr h
  ·have hrz : kK ds es = 1 := by unfold kK; rw [if_pos (by omega)]
   refine ao (N := 69) (l := [.agg #[.slice F n c1, .slice FC m c2], .slice E q cE]) Tryz.func24 rfl rfl (by simp) ?_
   refine sr ?_
   refine dm hh [_,_] ?_
   intro b2 w2 hh
   refine cS hh ?_
   intro b4 w4 hh
   refine aI (aa (ah (sr ?_)))
   refine dk hh 1 [_,_] ?_
   refine bJ hh (hck _ hh.below) rfl ?_
   intro w10 hh
   refine aI (aa (sr (mI ?_)))
   refine dK (aa (cF (ak (ai (ah (sr (mL (aQ (bI ?_)))))))))
   refine bP hh 1 ?_
   refine aQ ?_
   refine dK (aa (cT (sr ?_)))
   refine fi [_,_] ?_
   refine bY hh 0 [_,_] ?_
   intro ws hh
   replace hh : Hp _ (.blk _ _ [_, _] _ :: _) _ := hh
   refine aI (aa (aq (aM ?_)))
   refine og (bf rfl (bg (vs := [_, _]) aE.out (hh.aD (i := 0) (n := 2) rfl rfl) rfl) (dq (et rfl) bA)) ?_
   exact .inl ⟨.inr ⟨h0, by rw [hrz]; decide, by rw [hrz]; rfl⟩, hh.below⟩
 ·refine ao (N := 69) (l := [.agg #[.slice F n c1, .slice FC m c2], .slice E q cE]) Tryz.func24 rfl rfl (by simp) ?_
  refine sr ?_
  refine dm hh [_,_] ?_
  intro b2 w2 hh
  refine cS hh ?_
  intro b4 w4 hh
  refine aI (aa (ah (sr ?_)))
  refine dk hh 1 [_,_] ?_
  refine bJ hh (hck _ hh.below) rfl ?_
  intro w10 hh
  refine aI (aa (sr (mI ?_)))
  refine dK (aa (cT (sr ?_)))
  refine fi [_,_] (mI ?_)
  refine bY hh 0 [_,_] ?_
  intro ws hh
  replace hh : Hp _ (.blk _ _ [_, _] _ :: _) _ := hh
  refine aI (aa (aq (aM ?_)))
  refine og (bf rfl (bg (vs := [_, _]) aE.out (hh.aD (i := 0) (n := 2) rfl rfl) rfl) (dq (et rfl) bA)) ?_
  exact .inl ⟨.inl ⟨h0, rfl⟩, hh.below⟩
end Go.Proofs.YtioilmppidlbnaaGreatDoor
/- The walks through ogeeref14.Like and ogeeref14.All. -/
namespace Go.Proofs.YtioilmppidlbnaaGreatDoor
open Go.RowKit
theorem vn (f : FX) (k : Nat) (w : World) (h : f.at_ w) (hl : f.iC k) :
  Calls Tryz.prog 66 #[.agg #[.slice f.A f.n f.a, .slice f.B f.m f.b]] w fun r w' => r = .returned (.int .i64 f.e) ∧ Below w.heap.size w w' :=
 ks f.A f.B f.n f.a f.m f.b f.ds f.cs w h.dg h.nm (by have := hl.Aa; omega) fun a ha => (hl.num a ha).1
theorem l5 (L : Option Addr) (n c : Nat) (fs : List FX) (k : Nat) (w : World) (hL : Sl w L n 2 (bF FX.cells fs)) (hn : n ≤ 1000000) (hf : ∀ f ∈ fs, f.at_ w) (hl : ∀ f ∈ fs, f.iC k) :
  Calls Tryz.prog 61 #[.slice L n c] w fun r w' => r = .returned (.int .i64 (eb fs)) ∧ Below w.heap.size w w' := by
 have hh := Hp.start w
 have hln := hL.cP FX.len (by decide)
 refine ao (N := 41) (l := [.slice L n c]) Tryz.func61 rfl rfl (by simp) ?_
 refine sr (aI (aa (ah (sr (aI (aa (aj ?_)))))))
 refine bp [2, 3, 4, 6, 7, 8, 9, 10, 11, 12, 13, 14, 15, 16, 17, 18, 19] 3
  (fun v w' => ∃ i : Nat, i ≤ n ∧ v = .int .i64 i ∧ (fs.take i).any (fun f => decide (f.e ≠ 0)) = false ∧ Hp w [] w')
  (fun v _ => n - (intOf v).toNat) ?_ ?_
 ·exact ⟨0, Nat.zero_le _, rfl, rfl, hh⟩
 ·clear hh
  rintro ρ' v w' ⟨i, hi, rfl, hall, hh⟩
  by_cases hlt : i < n
  ·obtain ⟨f, hx⟩ := ar (l := fs) (k := i) (by omega)
   have hmem := List.mem_of_getElem? hx
   have hc := fun w1 hb => vn f k w1 ((hf f hmem).ext hb) (hl f hmem)
   obtain ⟨ad, rfl, hr⟩ := hL.at_ (by omega)
   by_cases he : f.e = 0
   ·refine ah (sr (mI (mL (aQ ?_))))
    refine aG (aa (cT (ak (ai (ah (aj (sr (mL (mI ?_)))))))))
    refine aF (k := i) aH.out aE.size rfl rfl (by omega) (by omega) (by decide) ?_
    refine cW (vs := [_, _]) aE.out rfl ((hr.ext hh.below).recAt FX.len hx) rfl (by decide) ?_
    refine bJ hh (hc _ hh.below) rfl ?_
    intro w16 hh
    refine aI (aa (sr (mI ?_)))
    refine dK (aa (cF (ak (aT (ai (al (mI ?_)))))))
    refine bz (aI (aC (ai ?_)))
    refine ⟨⟨i + 1, by omega, rfl, by rw [aO hx, List.any_append, hall, List.any_cons, List.any_nil, decide_eq_false (by omega)]; rfl, hh⟩, by show n - (i + 1) < n - i; omega, ?_⟩
    (repeat (first | exact aw _ _ _ | refine ay rfl ?_ | refine au rfl ?_))
   ·refine ah (sr (mI (mL (aQ ?_))))
    refine aG (aa (cT (ak (ai (ah (aj (sr (mL (mI ?_)))))))))
    refine aF (k := i) aH.out aE.size rfl rfl (by omega) (by omega) (by decide) ?_
    refine cW (vs := [_, _]) aE.out rfl ((hr.ext hh.below).recAt FX.len hx) rfl (by decide) ?_
    refine bJ hh (hc _ hh.below) rfl ?_
    intro w16 hh
    refine aI (aa (sr (mI ?_)))
    refine dK (aa (cT (sr (mI (aI (aa (aq (bR (aM (aM (bR ?_)))))))))))
    refine aM ?_
    refine cz ?_
    refine ⟨?_, hh.below⟩
    unfold eb
    rw [oO hall hx (decide_eq_true he)]
  ·rw [List.take_of_length_le (by omega)] at hall
   have hlk : eb fs = if fs.length = 0 ∨ rj fs = true then 1 else 0 := by unfold eb; rw [lW hall]
   rw [hlk]
   by_cases h0 : n = 0
   ·refine ah (sr (mI (mL (aQ ?_))))
    refine aG (aa (cF ?_))
    refine aJ ?_
    refine ax (ax (aZ (ai (ah (sr (mL (aQ ?_)))))))
    refine dP (aa (cT (sr (aI (aa (aq (aM ?_)))))))
    refine cz ?_
    exact ⟨by rw [if_pos (.inl (by omega))], hh.below⟩
   ·obtain ⟨f0, h00⟩ := ar (l := fs) (k := 0) (by omega)
    obtain ⟨ad, rfl, hr⟩ := hL.at_ (by omega)
    have hhd : (fs.map FX.n).headD 0 = f0.n := by
     rcases fs with _ | ⟨g, l⟩
     ·cases h00
     ·have : g = f0 := by simpa using h00
      rw [← this]; rfl
    clear hall
    refine ah (sr (mI (mL (aQ ?_))))
    refine aG (aa (cF ?_))
    refine aJ ?_
    refine ax (ax (aZ (ai (ah (sr (mL (aQ ?_)))))))
    refine dP (aa (cF (ak (ai (ah (sr (aI (aa (aj ?_)))))))))
    refine bp [2, 5, 23, 24, 25, 26, 27, 28, 29, 30, 31, 32, 33, 34, 35, 36, 37, 38, 39, 40] 5
     (fun v w' => ∃ i : Nat, i ≤ n ∧ v = .int .i64 i ∧ (fs.take i).any (fun f => decide (f.n ≠ (fs.map FX.n).headD 0)) = false ∧ Hp w [] w')
     (fun v _ => n - (intOf v).toNat) ?_ ?_
    ·exact ⟨0, Nat.zero_le _, rfl, rfl, hh⟩
    ·clear hh
     rintro ρ2 v w2 ⟨j, hj, rfl, hall, hh⟩
     by_cases hlt2 : j < n
     ·obtain ⟨fo, hx⟩ := ar (l := fs) (k := j) (by omega)
      by_cases ho : fo.n = f0.n
      ·refine ah (sr (mI (mL (aQ ?_))))
       refine aG (aa (cT (ak (ai (ah (aj (ah ?_)))))))
       refine aK 11 [[(0, none)], [(5, none)], [(29, some 0), (30, some 1)], [(31, some 2)], [(32, some 3)], [(33, some 4)], [(0, none)], [(35, some 6)], [(36, some 7)], [(37, some 8)], [(38, some 9)]] [(10, 39), (9, 38), (8, 37), (7, 36), (6, 35), (5, 34), (4, 33), (3, 32), (2, 31), (1, 30), (0, 29)] hh mixed (by kernel_rfl) ?_
       refine eP ?_
       refine dn ?_
       refine hH (j) ?_
       refine wS ?_
       refine jy (fun _ hj => cM hj.hp.below ((hr.recAt FX.len hx) 0 _ rfl)) ?_
       refine mi ?_
       refine eP ?_
       refine hH (0) ?_
       refine wS ?_
       refine jy (fun _ hj => cM hj.hp.below ((hr.recAt FX.len h00) 0 _ rfl)) ?_
       refine mi ?_
       refine bm ?_
       intro f W hJ hV
       have hb_12 := hJ.bl
       obtain ⟨v39, v38, v37, v36, v35, v34, v33, v32, v31, v30, v29, _⟩ := hV
       replace hh := hJ.hp
       refine aU (bk (ae v39 (ae v38 (ae v37 (ae v36 (ae v35 (ae v34 (ae v33 (ae v32 (ae v31 (ae v30 (ae v29 aV)))))))))))) ?_
       dsimp only [cd]
       clear hJ
       refine dK (aa (cF (ak (aT (ai (al (mI ?_)))))))
       refine bz (aI (aC (ai ?_)))
       refine ⟨⟨j + 1, by omega, rfl, by rw [aO hx, List.any_append, hall, List.any_cons, List.any_nil, decide_eq_false (by omega)]; rfl, hh⟩, by show n - (j + 1) < n - j; omega, ?_⟩
       (repeat (first | exact aw _ _ _ | refine ay rfl ?_ | refine au rfl ?_))
      ·refine ah (sr (mI (mL (aQ ?_))))
       refine aG (aa (cT (ak (ai (ah (aj (ah ?_)))))))
       refine aK 11 [[(0, none)], [(5, none)], [(29, some 0), (30, some 1)], [(31, some 2)], [(32, some 3)], [(33, some 4)], [(0, none)], [(35, some 6)], [(36, some 7)], [(37, some 8)], [(38, some 9)]] [(10, 39), (9, 38), (8, 37), (7, 36), (6, 35), (5, 34), (4, 33), (3, 32), (2, 31), (1, 30), (0, 29)] hh mixed (by kernel_rfl) ?_
       refine eP ?_
       refine dn ?_
       refine hH (j) ?_
       refine wS ?_
       refine jy (fun _ hj => cM hj.hp.below ((hr.recAt FX.len hx) 0 _ rfl)) ?_
       refine mi ?_
       refine eP ?_
       refine hH (0) ?_
       refine wS ?_
       refine jy (fun _ hj => cM hj.hp.below ((hr.recAt FX.len h00) 0 _ rfl)) ?_
       refine mi ?_
       refine bm ?_
       intro f W hJ hV
       have hb_12 := hJ.bl
       obtain ⟨v39, v38, v37, v36, v35, v34, v33, v32, v31, v30, v29, _⟩ := hV
       replace hh := hJ.hp
       refine aU (bk (ae v39 (ae v38 (ae v37 (ae v36 (ae v35 (ae v34 (ae v33 (ae v32 (ae v31 (ae v30 (ae v29 aV)))))))))))) ?_
       dsimp only [cd]
       clear hJ
       refine dK (aa (cT (sr (aI (aa (aq (bR (aM (aM (bR (aM ?_)))))))))))
       refine cz ?_
       exact ⟨by rw [if_pos (.inr (List.any_eq_true.2 ⟨fo, List.mem_of_getElem? hx, decide_eq_true (by omega)⟩))], hh.below⟩
     ·rw [List.take_of_length_le (by omega)] at hall
      have hod : rj fs = false := hall
      refine ah (sr (mI (mL (aQ ?_))))
      refine aG (aa (cF ?_))
      refine aJ ?_
      refine ax (ax (aZ (ai (sr (aI (aa (aq ?_)))))))
      refine cz ?_
      refine ⟨?_, hh.below⟩
      rw [if_neg]
      rintro (h | h)
      ·omega
      ·rw [hod] at h
       cases h
theorem FX.at_.ln {g : FX} {w : World} (h : g.at_ w) : g.ds.length = g.n ∧ g.cs.length = g.m := ⟨by have := h.dg.1; rw [bV] at this; omega, h.nm.cP NR.len (by decide)⟩
def Kept (fs : List FX) (R : List HE) (g : FX) : Prop := g ∈ fs ∨ (g.fI ∈ R ∧ g.fB ∈ R)
theorem Kept.at_ {w w' : World} {fs : List FX} {R H : List HE} {g : FX} (h : Kept fs R g) (hf : ∀ f ∈ fs, f.at_ w) (hs : ∀ x ∈ R, x ∈ H) (hh : Hp w H w') : g.at_ w' := by
 rcases h with h | ⟨h1, h2⟩
 ·exact (hf g h).ext hh.below
 ·exact hh.od (hs _ h1) (hs _ h2)
theorem Kept.sub {fs : List FX} {R R' : List HE} {g : FX} (h : Kept fs R g) (hs : ∀ x ∈ R, x ∈ R') : Kept fs R' g := h.imp id fun ⟨a, b⟩ => ⟨hs _ a, hs _ b⟩
theorem xH (f : FX) (E : Option Addr) (q cE k : Nat) (es : List Int) (w : World) (hf : f.at_ w) (hl : f.iC k) (hE : Sl w E q 1 (bs es)) (hq : q ≤ 1000) (hk : k ≤ 90000) :
  Calls Tryz.prog 24 #[.agg #[.slice f.A f.n f.a, .slice f.B f.m f.b], .slice E q cE] w fun r w' => ((f.e ≠ 0 ∧ r = om f.e ∨ f.e = 0 ∧ kK f.ds es ≠ 0 ∧ r = om (kK f.ds es)) ∧ Below w.heap.size w w') ∨
   (f.e = 0 ∧ kK f.ds es = 0 ∧ ∃ (g : FX) (R : List HE), qU (es.map Int.toNat) (eO (es.map Int.toNat) f) g ∧ (g = f ∨ R = [g.fI, g.fB]) ∧ r = .returned (.tuple #[.agg #[.slice g.A g.n g.a, .slice g.B g.m g.b], .int .i64 0]) ∧ Hp w R w') :=
 pV f.A f.B E f.n f.a f.m f.b q cE k f.ds es f.cs w hf hl hE hq hk
theorem zA {fs : List FX} (h : eb fs = 0) (hln : ∀ f ∈ fs, f.ds.length = f.n) : ∀ f ∈ fs, kK f.ds (aW (maxD fs)) = if 4096 < av (maxD fs) then 3 else 0 := fun f hm => by
 obtain ⟨h1, h2, h3⟩ := kW h hln f hm
 have hds := (FX.fv ((gA h).2.1 f hm)).1
 unfold kK
 have e1 : (f.ds.zip (aW (maxD fs))).any ix = false := List.any_eq_false.2 fun p hp => by
  obtain ⟨j, hj⟩ := List.mem_iff_getElem?.1 hp
  rw [List.getElem?_zip_eq_some] at hj
  obtain ⟨j1, j2⟩ := hj
  rw [hds] at j1
  unfold aW at j1 j2
  rw [List.getElem?_map] at j1 j2
  obtain ⟨x, hx, hx2⟩ := Option.map_eq_some_iff.1 j1
  obtain ⟨y, hy, hy2⟩ := Option.map_eq_some_iff.1 j2
  have := h2 j x y hx hy
  have := h3 y (List.mem_of_getElem? hy)
  unfold ix
  rw [decide_eq_true_eq]
  omega
 rw [if_neg (by rw [cj, h1, hds, cj]; omega), if_neg (by rw [e1]; decide), eN]
theorem rY (L : Option Addr) (n c : Nat) (fs : List FX) (k : Nat) (w : World) (hL : Sl w L n 2 (bF FX.cells fs)) (hn : n ≤ 1000) (hf : ∀ f ∈ fs, f.at_ w) (hl : ∀ f ∈ fs, f.iC k) (hk : k ≤ 90000) :
  Calls Tryz.prog 26 #[.slice L n c] w fun r w' => (ct fs ≠ 0 ∧ r = .returned (.tuple #[.slice none 0 0, .int .i64 (ct fs)]) ∧ Below w.heap.size w w') ∨
   (ct fs = 0 ∧ ∃ (A : Option Addr) (a : Nat) (gs : List FX) (R : List HE), r = .returned (.tuple #[.slice A n a, .int .i64 0]) ∧ gs.length = n ∧ (∀ (i : Nat) (f g : FX), fs[i]? = some f → gs[i]? = some g → qU (maxD fs) (eO (maxD fs) f) g) ∧ (∀ g ∈ gs, Kept fs R g) ∧ Hp w (.row A n a 28 2 (bF FX.cells gs) :: R) w') := by
 have hh := Hp.start w
 have hln := hL.cP FX.len (by decide)
 have hlk := fun w1 hb => l5 L n c fs k w1 (hL.ext hb) (by omega) (fun f hm => (hf f hm).ext hb) hl
 unfold ct
 by_cases h0 : eb fs = 0
 ·obtain ⟨hne, hev, hnv⟩ := gA h0
  have hml := kW h0 fun f hm => (hf f hm).ln.1
  have hrz := zA h0 fun f hm => (hf f hm).ln.1
  obtain ⟨f0, h00⟩ := ar (l := fs) (k := 0) (List.length_pos_iff.2 hne)
  have hm0 := List.mem_of_getElem? h00
  have hhd : (fs.map FX.n).headD 0 = f0.n := by
   rcases fs with _ | ⟨g, l⟩
   ·cases h00
   ·have : g = f0 := by simpa using h00
    rw [← this]; rfl
  have hnsl : ∀ f ∈ fs, f.ns.length = f0.n := fun f hm => by
   have h1 := (hf f hm).ln.1
   have h2 := hnv f hm
   rw [hhd] at h2
   unfold FX.ns
   rw [List.length_map]
   omega
  have hdsn : ∀ f ∈ fs, f.ds = aW f.ns := fun f hm => (FX.fv (hev f hm)).1
  have h12 : f0.n ≤ 12 := by have := (FX.fv (hev f0 hm0)).2.2.1; rw [hnsl f0 hm0] at this; exact this
  have hDe : maxD fs = (fs.map FX.ns).foldl fq f0.ns := by
   unfold maxD
   rw [List.foldl_map]
   congr 1
   rcases fs with _ | ⟨g, l⟩
   ·cases h00
   ·have : g = f0 := by simpa using h00
    rw [← this]; rfl
  have hA0 := hnsl f0 hm0
  have hF := fun i => (mn ((fs.take i).map FX.ns) f0.ns fun l hl => by
   obtain ⟨f, hf2, rfl⟩ := List.mem_map.1 hl
   rw [hnsl f (List.mem_of_mem_take hf2), hA0]).1
  obtain ⟨ad, rfl, hr⟩ := hL.at_ (by have := (List.getElem?_eq_some_iff.1 h00).1; omega)
  have hn0 : 0 < n := by have := (List.getElem?_eq_some_iff.1 h00).1; omega
  rw [if_neg (by omega)]
  refine ao (N := 74) (l := [.slice (some ad) n c]) Tryz.func26 rfl rfl (by simp) ?_
  refine sr (aL (aI (aa (ah (sr (mL ?_))))))
  refine bJ hh (hlk _ hh.below) rfl ?_
  intro w13 hh
  refine aI (aa (sr (mI ?_)))
  refine dK (aa (cF (ak (ai (sr ?_)))))
  refine hU hh aH.out aE.out (by decide) ?_
  intro b17 w17 hh
  refine mL ?_
  refine aF (k := 0) aH.out aE.size rfl rfl (by omega) (by omega) (by decide) ?_
  refine gK eB.out rfl (by decide) ?_
  refine aN aE.out rfl (cM hh.below ((hr.recAt FX.len h00) 0 _ rfl)) (by decide) ?_
  refine cu hh (i := 0) rfl rfl rfl ((hf f0 hm0).dg.ext hh.below) aH.out aE.out rfl (by decide) ?one5 (by omega) (by omega) (by decide) ?kk5
  case one5 => first | rfl | assumption | exact bC _ | exact oneCells_u8s _
  intro A22 c22 w22 hh
  simp only [List.set_cons_zero] at hh
  rw [Nat.zero_add f0.n]
  rw [Nat.zero_add, List.nil_append, hdsn f0 hm0] at hh
  refine aL (aa (ah (sr (aI (aa (aj ?_))))))
  refine bp [6, 7, 23, 24, 25, 26, 27, 28, 29, 30, 31, 32, 33, 34, 35, 36, 37, 38, 39, 40, 41, 42, 43, 44, 45, 46, 47, 48, 49, 50] 6
   (fun v w' => ∃ i : Nat, i ≤ n ∧ v = .int .i64 i ∧ Hp w [.row A22 f0.n c22 3 1 (bs (aW (((fs.take i).map FX.ns).foldl fq f0.ns)))] w')
   (fun v _ => n - (intOf v).toNat) ?_ ?_
  ·exact ⟨0, Nat.zero_le _, rfl, hh⟩
  ·clear hh
   rintro ρ' v w' ⟨i, hi, rfl, hh⟩
   by_cases hlt : i < n
   ·obtain ⟨fo, hx⟩ := ar (l := fs) (k := i) (by omega)
    have hmem := List.mem_of_getElem? hx
    have hfold : ((fs.take (i + 1)).map FX.ns).foldl fq f0.ns = fq (((fs.take i).map FX.ns).foldl fq f0.ns) fo.ns := by rw [aO hx, List.map_append, List.foldl_append]; rfl
    have hal := hF i
    generalize ((fs.take i).map FX.ns).foldl fq f0.ns = a at *
    have hab : a.length = fo.ns.length := by rw [hal, hA0, hnsl fo hmem]
    have hfd := hdsn fo hmem
    have hfl := hnsl fo hmem
    have hfn := (hf fo hmem).ln.1
    rw [hfd, cj, hfl] at hfn
    refine ah (sr (mI (mL (aQ ?_))))
    refine aG (aa (cT (ak (ai (ah (aj (sr (aI (aa (aj ?_))))))))))
    refine bp [7, 29, 30, 31, 32, 33, 34, 35, 36, 37, 38, 39, 40, 41, 42, 43, 44, 45, 46, 47, 48, 49, 50] 7
     (fun v w' => ∃ j : Nat, j ≤ f0.n ∧ v = .int .i64 j ∧ Hp w [.row A22 f0.n c22 3 1 (bs (aW (kx a fo.ns j)))] w')
     (fun v _ => f0.n - (intOf v).toNat) ?_ ?_
    ·refine ⟨0, Nat.zero_le _, rfl, ?_⟩
     show Hp w [.row A22 f0.n c22 3 1 (bs (aW (List.take 0 _ ++ List.drop 0 a)))] _
     rw [List.take_zero, List.nil_append, List.drop_zero]
     exact hh
    ·clear hh
     rintro ρ2 v w2 ⟨j, hj, rfl, hh⟩
     by_cases hjn : j < f0.n
     ·obtain ⟨x, hxa⟩ := ar (l := a) (k := j) (by omega)
      obtain ⟨y, hyb⟩ := ar (l := fo.ns) (k := j) (by omega)
      have hgx := bB (cA (tv hab hxa))
      have hgy : (bs fo.ds)[j]? = some (.int .i64 (y : Int)) := by rw [hfd]; exact bB (cA hyb)
      obtain ⟨a2, hA2, s2⟩ := (hf fo hmem).dg.at_ (by omega)
      have fl : ∀ w1, Below w.heap.size w w1 → w1.cell? ((ad.add (i * 2)).add 0) = some (.slice (some a2) fo.n fo.a) := fun w1 hb => by
       have := cM hb ((hr.recAt FX.len hx) 0 _ rfl)
       rwa [hA2] at this
      have hml : (bs (aW (kx a fo.ns j))).length = f0.n := by rw [bV, cj, rF hab (by omega)]; omega
      obtain ⟨gd, rfl⟩ := hh.cK (i := 0) rfl (by omega)
      refine ah (sr (mI (mL (aQ ?_))))
      refine aG (aa (cT (ak (ai (ah (aj ?_))))))
      refine aK 15 [[(5, none)], [(7, none)], [(5, none)], [(7, none)], [(37, some 2), (38, some 3)], [(39, some 4)], [(0, none)], [(6, none)], [(41, some 6), (42, some 7)], [(43, some 8)], [(44, some 9)], [(7, none)], [(45, some 10), (46, some 11)], [(47, some 12)], [(40, some 5), (48, some 13)]] [(14, 49), (13, 48), (12, 47), (11, 46), (10, 45), (9, 44), (8, 43), (7, 42), (6, 41), (5, 40), (4, 39), (3, 38), (2, 37), (1, 36), (0, 35)] hh mixed (by kernel_rfl) ?_
      refine eP ?_
      refine dn ?_
      refine eP ?_
      refine dn ?_
      refine mu (j) ?_
      refine aR (i := 5) (fun ρ1 w1 hj hR => cm aE.out (show ρ1 39 = Value.pointer _ from hR.1) (hj.hp.ck (i := 0) rfl (by rw [Nat.mul_one]; exact hgx))) ?_
      refine eP ?_
      refine dn ?_
      refine hH (i) ?_
      refine wS ?_
      refine jy (fun _ hj => fl _ hj.hp.below) ?_
      refine dn ?_
      refine aR (i := 12) (fun ρ1 w1 hj hR => bQ aH.out aE.size (show ρ1 45 = Value.slice _ _ _ from hR.1) (show ρ1 46 = Value.int _ _ from hR.2.1) (by omega) (by omega)) ?_
      refine jy (fun _ hj => (s2.ext hj.hp.below).dR hgy) ?_
      refine aR (i := 14) (fun ρ1 w1 hj hR => tM (show ρ1 40 = Value.int _ _ from hR.1) (show ρ1 48 = Value.int _ _ from hR.2.1)) ?_
      refine bm ?_
      intro f W hJ hV
      have hb_11 := hJ.bl
      obtain ⟨v49, v48, v47, v46, v45, v44, v43, v42, v41, v40, v39, v38, v37, v36, v35, _⟩ := hV
      replace hh := hJ.hp
      refine aU (bk (ae v49 (ae v48 (ae v47 (ae v46 (ae v45 (ae v44 (ae v43 (ae v42 (ae v41 (ae v40 (ae v39 (ae v38 (ae v37 (ae v36 (ae v35 aV)))))))))))))))) ?_
      dsimp only [cd]
      clear hJ
      have hmx : (if (y : Int) > (x : Int) then (y : Int) else (x : Int)) = ((max x y : Nat) : Int) := by split <;> omega
      refine bj (k := j) aH.out aE.size rfl rfl (by omega) (by omega) (by decide) ?_
      refine bx hh (i := 0) (vs := [_]) rfl rfl (bU rfl) rfl aE.out rfl (by omega) rfl ?_
      intro ws hh
      simp only [List.set_cons_zero] at hh
      rw [hmx, eD _ (by rw [← bV]; omega), qE hab hxa hyb] at hh
      refine aC (aT (ai (al (mI ?_))))
      refine bz (aI (aC (ai ?_)))
      refine ⟨⟨j + 1, by omega, rfl, hh⟩, by show f0.n - (j + 1) < f0.n - j; omega, ?_⟩
      (repeat (first | exact aw _ _ _ | refine ay rfl ?_ | refine au rfl ?_))
     ·obtain rfl : j = f0.n := by omega
      have hmf : kx a fo.ns f0.n = fq a fo.ns := by
       unfold kx
       rw [List.take_of_length_le (by rw [iJ hab]; omega), List.drop_of_length_le (by omega), List.append_nil]
      rw [hmf, ← hfold] at hh
      refine ah (sr (mI (mL (aQ ?_))))
      refine aG (aa (cF ?_))
      refine aJ ?_
      refine ax (ax (aZ (aT (ai (al (mI ?_))))))
      refine bz (aI (aC (ai ?_)))
      refine ⟨⟨i + 1, by omega, rfl, hh⟩, by show n - (i + 1) < n - i; omega, ?_⟩
      (repeat (first | exact aw _ _ _ | refine ay rfl ?_ | refine au rfl ?_))
   ·obtain rfl : i = n := by omega
    rw [List.take_of_length_le (by omega), ← hDe] at hh
    clear hF hDe
    have hDl := (hml f0 hm0).1
    rw [hA0] at hDl
    clear hml
    generalize maxD fs = D at *
    refine ah (sr (mI (mL (aQ ?_))))
    refine aG (aa (cF ?_))
    refine aJ ?_
    refine ax (ax (aZ (ai (sr (aL (aa (ah (sr (aI (aa (aj ?_)))))))))))
    replace hh := hh.dx 28 2
    refine bX [2, 3, 8, 9, 10, 11, 51, 52, 53, 54, 55, 56, 57, 58, 59, 60, 61, 62, 63, 64, 65, 66, 67, 68, 69, 70, 71, 72] 8 9
     (fun v8 v w' => ∃ (j c8 : Nat) (A : Option Addr) (gs : List FX) (R : List HE), j ≤ i ∧ v = .int .i64 j ∧ v8 = .slice A j c8 ∧ gs.length = j ∧ (0 < j → ¬ 4096 < av D) ∧ (∀ (t : Nat) (f g : FX), fs[t]? = some f → gs[t]? = some g → qU D (eO D f) g) ∧ (∀ g ∈ gs, Kept fs R g) ∧ Hp w (.row A j c8 28 2 (bF FX.cells gs) :: .row A22 f0.n c22 3 1 (bs (aW D)) :: R) w')
     (fun _ v _ => i - (intOf v).toNat) ?_ ?_
    ·exact ⟨0, 0, none, [], [], Nat.zero_le _, rfl, rfl, rfl, fun h => absurd h (Nat.lt_irrefl 0), fun t f g _ h => by simp at h, (fun _ h => nomatch h), hh⟩
    ·clear hh
     rintro ρ' v8 v w' ⟨j, c8, A, gs, R, hj, rfl, rfl, hgl, hno, hup, hkp, hh⟩
     by_cases hlt : j < i
     ·obtain ⟨f, hx⟩ := ar (l := fs) (k := j) (by omega)
      have hmem := List.mem_of_getElem? hx
      have hrs := fun w1 hb hE => xH f A22 f0.n c22 k (aW D) w1 ((hf f hmem).ext hb) (hl f hmem) hE (by omega) hk
      rw [hrz f hmem, eN] at hrs
      refine ah (sr (mI (mL (aQ ?_))))
      refine aG (aa (cT (ak (ai (ah (aj (sr (mL (mI ?_)))))))))
      refine aF (k := j) aH.out aE.size rfl rfl (by omega) (by omega) (by decide) ?_
      refine cW (vs := [_, _]) aE.out rfl ((hr.ext hh.below).recAt FX.len hx) rfl (by decide) ?_
      refine mL ?_
      by_cases h4 : 4096 < av D
      ·rw [if_pos h4] at hrs
       have hra := fun w1 hb hE => (hrs w1 hb hE).mono fun r w' h => show r = om 3 ∧ Below w1.heap.size w1 w' from by
        rcases h with ⟨h | h, hb2⟩ | h
        ·exact absurd (hev f hmem) h.1
        ·exact ⟨h.2.2, hb2⟩
        ·exact nomatch h.2.1
       refine bJ hh (hra _ hh.below (hh.aX (i := 1) rfl)) rfl ?_
       intro w63 hh
       refine mT ?_
       refine eT ?_
       refine eT ?_
       refine cS hh ?_
       intro b10 w10 hh
       refine bY hh 0 [_,_] ?_
       intro ws hh
       replace hh : Hp _ (.blk _ _ [_, _] _ :: _) _ := hh
       refine aI (aa (ah (sr (mI ?_))))
       refine dK (aa (cT (sr (mI (aL (aI (aa (aq (aM (bR (aM ?_)))))))))))
       refine aM (bR (aM ?_))
       refine vc ?_
       rw [if_pos h4]
       exact .inl ⟨by decide, rfl, hh.below⟩
      ·rw [if_neg h4] at hrs
       have hra := fun w1 hb hE => (hrs w1 hb hE).mono fun r w' h => show ∃ (g : FX) (R2 : List HE), qU D (eO D f) g ∧ (g = f ∨ R2 = [g.fI, g.fB]) ∧ r = .returned (.tuple #[.agg #[.slice g.A g.n g.a, .slice g.B g.m g.b], .int .i64 0]) ∧ Hp w1 R2 w' from by
        rcases h with ⟨h | h, hb2⟩ | h
        ·exact absurd (hev f hmem) h.1
        ·exact absurd rfl h.2.1
        ·exact h.2.2
       refine a6 (hra _ hh.below (hh.aX (i := 1) rfl)) az.out rfl (by decide) ?_
       rintro e_ w63 ⟨g, R2, hu, hsrc, rfl, h2⟩
       refine ⟨_, rfl, ?_⟩
       replace hh : Hp w (_ :: _ :: (R ++ R2)) _ := (hh.join h2).perm List.perm_append_comm
       clear h2
       refine mT ?_
       refine eT ?_
       refine eT ?_
       refine cS hh ?_
       intro b10 w10 hh
       refine bY hh 0 [_,_] ?_
       intro ws hh
       replace hh : Hp _ (.blk _ _ [_, _] _ :: _) _ := hh
       refine aI (aa (ah (sr (mI ?_))))
       refine dK (aa (cF (ak (ai (al (mL ?_))))))
       refine dk hh 0 [_,_] ?_
       refine aP hh (cs := [_, _]) aH.out aE.out (aY (de rfl) bO) rfl rfl (by decide) (by decide) (by decide) rfl (by decide) ?_
       intro b71 w71 hh
       refine cu hh (i := 2) rfl rfl rfl (hh.aX (i := 0) rfl) aH.out aE.out rfl (by decide) (by first | rfl | exact bZ _ | exact bK _ | exact bC _ | exact bL NR.one _) (by omega) (by omega) (by decide) ?_
       intro A72 c72 w72 hh
       simp only [List.set_cons_succ] at hh
       replace hh := hh.sub (List.sublist_cons_self _ _)
       refine aL (aC (aT (ai (al (mI ?_)))))
       refine bz (aI (aC (ai ?_)))
       replace hh := hh.sub (List.Sublist.cons _ (List.Sublist.cons_cons _ (List.Sublist.cons_cons _ (List.Sublist.refl _))))
       refine ⟨⟨j + 1, c72, A72, gs ++ [g], R ++ R2, by omega, rfl, rfl, by rw [List.length_append, hgl]; rfl, fun _ => h4, fun t f' g' hf' hg' => ?_, fun g' hg' => ?_, by rw [dp]; exact hh⟩, by show i - (j + 1) < i - j; omega, ?_⟩
       ·by_cases ht : t < j
        ·rw [List.getElem?_append_left (by omega)] at hg'
         exact hup t f' g' hf' hg'
        ·have htl := (List.getElem?_eq_some_iff.1 hg').1
         rw [List.length_append, hgl] at htl
         obtain rfl : t = j := by have : t < j + 1 := htl; omega
         rw [List.getElem?_append_right (by omega), hgl, Nat.sub_self] at hg'
         rw [hx] at hf'
         obtain rfl := Option.some.inj hf'
         obtain rfl : g = g' := Option.some.inj hg'
         exact hu
       ·rcases List.mem_append.1 hg' with h | h
        ·exact (hkp g' h).sub fun x hx => List.mem_append_left _ hx
        ·obtain rfl := List.mem_singleton.1 h
         rcases hsrc with rfl | rfl
         ·exact .inl hmem
         ·exact .inr ⟨List.mem_append_right _ List.mem_cons_self, List.mem_append_right _ (List.mem_cons_of_mem _ List.mem_cons_self)⟩
       ·(repeat (first | exact aw _ _ _ | refine ay rfl ?_ | refine au rfl ?_))
     ·obtain rfl : j = i := by omega
      have h4 := hno (by omega)
      refine ah (sr (mI (mL (aQ ?_))))
      refine aG (aa (cF ?_))
      refine aJ ?_
      refine ax (ax (aZ (ai (sr (mL (aL (aI (aa (aq ?_)))))))))
      refine vc ?_
      rw [if_neg h4]
      exact .inr ⟨rfl, A, c8, gs, R, rfl, hgl, hup, hkp, hh.sub (List.Sublist.cons_cons _ (List.sublist_cons_self _ _))⟩
 ·rw [if_pos h0]
  refine ao (N := 74) (l := [.slice L n c]) Tryz.func26 rfl rfl (by simp) ?_
  refine sr (aL (aI (aa (ah (sr (mL ?_))))))
  refine bJ hh (hlk _ hh.below) rfl ?_
  intro w13 hh
  refine aI (aa (sr (mI ?_)))
  refine dK (aa (cT (sr (mI (aL (aI (aa (aq (aM ?_)))))))))
  refine vc ?_
  exact .inl ⟨h0, rfl, hh.below⟩
end Go.Proofs.YtioilmppidlbnaaGreatDoor
/- The contracts of package lift once more, each with one ending: a form that one owns, empty where there is an error. -/
namespace Go.Proofs.YtioilmppidlbnaaGreatDoor
open Go.RowKit
def zk (E : Int) (D : List Nat) : List Int := if E = 0 then aW D else []
def yV (E : Int) (ys : List Dyadic) : List NR := if E = 0 then ys.map nR else []
structure Out (E : Int) (D : List Nat) (ys : List Dyadic) (g : FX) : Prop where
 ds : g.ds = zk E D
 cs : g.cs = yV E ys
 n : g.n ≤ 100000
 m : g.m ≤ 1000000
def FX.nil : FX := ⟨none, 0, 0, none, 0, 0, [], []⟩
theorem Hp.r8 {w0 w : World} {H : List HE} (h : Hp w0 H w) : Hp w0 (FX.nil.fI :: FX.nil.fB :: H) w := (h.dx 3 1).dx 39 3
theorem Out.err {E : Int} {D : List Nat} {ys : List Dyadic} (h : E ≠ 0) : Out E D ys FX.nil := ⟨by unfold zk; rw [if_neg h]; rfl, by unfold yV; rw [if_neg h]; rfl, Nat.zero_le _, Nat.zero_le _⟩
theorem qU.out {D : List Nat} {ys : List Dyadic} {g : FX} (h : qU D ys g) (h1 : D.length ≤ 1000) (h2 : av D ≤ 4096) : Out 0 D ys g := ⟨h.ds, h.cs, by rw [h.n]; omega, by rw [h.m]; omega⟩
theorem uN {fs : List FX} (h : ct fs = 0) (hln : ∀ f ∈ fs, f.ds.length = f.n) : eb fs = 0 ∧ (maxD fs).length ≤ 1000 ∧ av (maxD fs) ≤ 4096 := by
 have hlk : eb fs = 0 := by
  unfold ct at h
  split at h
  ·rename_i h2; exact absurd h h2
  ·rename_i h2; simpa using h2
 obtain ⟨hne, hev, _⟩ := gA hlk
 obtain ⟨f0, ft, rfl⟩ := List.exists_cons_of_ne_nil hne
 have h1 := (kW hlk hln f0 List.mem_cons_self).1
 have h2 := (FX.fv (hev f0 List.mem_cons_self)).2.2.1
 refine ⟨hlk, by omega, ?_⟩
 unfold ct at h
 rw [if_neg (by omega)] at h
 split at h
 ·cases h
 ·omega
theorem zi {f g : FX} (h : jM f g = 0) : eb [f, g] = 0 ∧ (bH f.ns g.ns).length ≤ 1000 ∧ av (bH f.ns g.ns) ≤ 4096 := by
 have hlk : eb [f, g] = 0 := by
  unfold jM at h
  split at h
  ·rename_i h2; exact absurd h h2
  ·rename_i h2; simpa using h2
 have h2 := (FX.fv ((gA hlk).2.1 f List.mem_cons_self)).2.2.1
 refine ⟨hlk, ?_, ?_⟩
 ·unfold bH
  rw [List.length_zipWith]
  omega
 ·unfold jM at h
  rw [if_neg (by omega)] at h
  split at h
  ·cases h
  ·rename_i hb
   have hb := (Bool.not_eq_true _).mp hb
   unfold iB at hb
   have := (Bool.or_eq_false_iff.1 hb).2
   have := of_decide_eq_false this
   omega
theorem Out.same {E : Int} {D : List Nat} {ys : List Dyadic} {g h : FX} (h1 : Out E D ys g) (h2 : Out E D ys h) : g.ds = h.ds ∧ g.cs = h.cs := ⟨h1.ds.trans h2.ds.symm, h1.cs.trans h2.cs.symm⟩
theorem gB (g h : FX) (w : World) (hg : g.at_ w) (hh : h.at_ w) (e : g.ds = h.ds ∧ g.cs = h.cs) (hn : g.n ≤ 100000) (hm : g.m ≤ 1000000) :
  Calls Tryz.prog 17 #[.agg #[.slice g.A g.n g.a, .slice g.B g.m g.b], .agg #[.slice h.A h.n h.a, .slice h.B h.m h.b]] w fun r w' => r = .returned (.bool true) ∧ Below w.heap.size w w' := by
 have l1 := hg.ln
 have l2 := hh.ln
 obtain ⟨hg1, hg2⟩ := hg
 obtain ⟨hh1, hh2⟩ := hh
 have e1 : h.n = g.n := by rw [← l1.1, ← l2.1, e.1]
 have e2 : h.m = g.m := by rw [← l1.2, ← l2.2, e.2]
 rw [← e.1, e1] at hh1
 rw [← e.2, e2] at hh2
 rw [e1, e2]
 exact pG g.A g.B g.n g.a g.m g.b h.A h.B h.a h.b g.ds g.cs w hg1 hg2 hh1 hh2 hn hm
def mK (f : FX) (es : List Int) : Int := if f.e ≠ 0 then f.e else kK f.ds es
theorem qn (f : FX) (E : Option Addr) (q cE : Nat) (es : List Int) (k : Nat) (w : World) (hT : iu w) (hf : f.at_ w) (hl : f.iC k) (hm : f.m ≤ 200) (hE : Sl w E q 1 (bs es)) (hq : q ≤ 1000) (hk : k ≤ 90000) :
  Calls Tryz.prog 23 #[.agg #[.slice f.A f.n f.a, .slice f.B f.m f.b], .slice E q cE] w fun r w' => ∃ g : FX, Out (mK f es) (es.map Int.toNat) (eO (es.map Int.toNat) f) g ∧ r = .returned (.tuple #[.agg #[.slice g.A g.n g.a, .slice g.B g.m g.b], .int .i64 (mK f es)]) ∧ Hp w [g.fI, g.fB] w' := by
 unfold mK
 refine (lF f E q cE es k w hT hf hl hE hq hk fun h0 h1 => ?_).mono fun r w' h => ?_
 ·obtain ⟨_, _, _, _, h2, _⟩ := FX.fv h0
  have h3 : av (f.ds.map Int.toNat) ≤ 200 := by have := hf.ln.2; unfold FX.ns at h2; omega
  refine Nat.le_trans (Nat.mul_le_mul (?_ : _ ≤ 4096) h3) (by decide)
  unfold kK at h1
  split at h1
  ·cases h1
  split at h1
  ·cases h1
  split at h1
  ·cases h1
  omega
 ·rcases h with ⟨⟨h, rfl⟩ | ⟨h0, h1, rfl⟩, hb⟩ | ⟨h0, h1, A, a, B, b, rfl, h2⟩
  ·rw [if_pos h]
   exact ⟨FX.nil, .err h, rfl, ((Hp.start w).ext hb).r8⟩
  ·rw [if_neg (by omega)]
   exact ⟨FX.nil, .err h1, rfl, ((Hp.start w).ext hb).r8⟩
  ·rw [if_neg (by omega), h1]
   have hes : es = aW (es.map Int.toNat) := by
    obtain ⟨h3, _, _, _⟩ := FX.fv h0
    have h4 : kK (aW f.ns) es = 0 := by rw [← h3]; exact h1
    unfold kK at h4
    split at h4
    ·cases h4
    split at h4
    ·cases h4
    rename_i h5 h6
    obtain ⟨ts, rfl, _⟩ := rQ (ns := f.ns) (es := es) (by omega) ((Bool.not_eq_true _).mp h6)
    rw [eN]
   have h7 : av (es.map Int.toNat) ≤ 4096 := by
    unfold kK at h1
    split at h1
    ·cases h1
    split at h1
    ·cases h1
    split at h1
    ·cases h1
    omega
   refine ⟨⟨A, q, a, B, av (es.map Int.toNat), b, es, _⟩, ⟨?_, rfl, by show q ≤ 100000; omega, by show av _ ≤ 1000000; omega⟩, rfl, h2⟩
   show es = _
   unfold zk
   rw [if_pos rfl]
   exact hes
theorem wA (f g : FX) (k : Nat) (w : World) (hT : iu w) (hf : f.at_ w) (hg : g.at_ w) (hlf : f.iC k) (hlg : g.iC k) (hmf : f.m ≤ 200) (hmg : g.m ≤ 200) (hk : k ≤ 50000) :
  Calls Tryz.prog 18 #[.agg #[.slice f.A f.n f.a, .slice f.B f.m f.b], .agg #[.slice g.A g.n g.a, .slice g.B g.m g.b]] w fun r w' => ∃ p : FX, Out (jM f g) (bH f.ns g.ns) (g9 f.ns g.ns (f.cs.map NR.d) (g.cs.map NR.d)) p ∧ r = .returned (.tuple #[.agg #[.slice p.A p.n p.a, .slice p.B p.m p.b], .int .i64 (jM f g)]) ∧ Hp w [p.fI, p.fB] w' := by
 refine (sV f g k w hT hf hg hlf hlg hmf hmg hk).mono fun r w' h => ?_
 rcases h with ⟨h, rfl, hb⟩ | ⟨h, p, hp, rfl, h2⟩
 ·exact ⟨FX.nil, .err h, rfl, ((Hp.start w).ext hb).r8⟩
 ·obtain ⟨_, h3, h4⟩ := zi h
  rw [h]
  exact ⟨p, hp.out h3 h4, rfl, h2⟩
theorem sB (L : Option Addr) (n c : Nat) (fs : List FX) (k : Nat) (w : World) (hT : iu w) (hL : Sl w L n 2 (bF FX.cells fs)) (hn : n ≤ 1000) (hf : ∀ f ∈ fs, f.at_ w) (hl : ∀ f ∈ fs, f.iC k) (hm : ∀ f ∈ fs, f.m ≤ 200) (hk : k ≤ 90000) :
  Calls Tryz.prog 15 #[.slice L n c] w fun r w' => ∃ g : FX, Out (ct fs) (maxD fs) (u0 (fs.map (eO (maxD fs)))) g ∧ r = .returned (.tuple #[.agg #[.slice g.A g.n g.a, .slice g.B g.m g.b], .int .i64 (ct fs)]) ∧ Hp w [g.fI, g.fB] w' := by
 refine (sq L n c fs k w hT hL hn hf hl hm hk).mono fun r w' h => ?_
 rcases h with ⟨h, rfl, hb⟩ | ⟨h, p, hp, rfl, h2⟩
 ·exact ⟨FX.nil, .err h, rfl, ((Hp.start w).ext hb).r8⟩
 ·obtain ⟨_, h3, h4⟩ := uN h fun f hm => (hf f hm).ln.1
  rw [h]
  exact ⟨p, hp.out h3 h4, rfl, h2⟩
def FX.key (f : FX) : List Int × List NR × Nat := (f.ds, f.cs, f.n)
theorem qS : ∀ {fs gs : List FX}, fs.map FX.key = gs.map FX.key → eb fs = eb gs ∧ ct fs = ct gs ∧ maxD fs = maxD gs ∧ ∀ D, fs.map (eO D) = gs.map (eO D) := fun {fs gs} h => by
 have e1 : ∀ (p : List Int × List NR × Nat → Bool) (l : List FX), l.any (fun f => p f.key) = (l.map FX.key).any p := fun p l => by rw [List.any_map]; rfl
 have hn : fs.map FX.n = gs.map FX.n := by
  have := congrArg (List.map (fun x : List Int × List NR × Nat => x.2.2)) h
  rwa [List.map_map, List.map_map] at this
 have hl : fs.length = gs.length := by have := congrArg List.length h; simpa using this
 have hlike : eb fs = eb gs := by
  have ho : rj fs = rj gs := by
   have a := e1 (fun x => decide (x.2.2 ≠ (fs.map FX.n).headD 0)) fs
   have b := e1 (fun x => decide (x.2.2 ≠ (fs.map FX.n).headD 0)) gs
   rw [h, ← b] at a
   unfold rj
   rw [← hn]
   exact a
  have hf : (fs.find? (fun f => decide (f.e ≠ 0))).map FX.key = (gs.find? (fun f => decide (f.e ≠ 0))).map FX.key := by
   have a : ∀ l : List FX, (l.find? (fun f => decide (f.e ≠ 0))).map FX.key = (l.map FX.key).find? (fun x => decide (fE x.1 x.2.1 ≠ 0)) := fun l => by rw [List.find?_map]; rfl
   rw [a, a, h]
  unfold eb
  rw [ho, hl]
  cases h1 : fs.find? (fun f => decide (f.e ≠ 0)) with
  | none =>
   rw [h1] at hf
   cases h2 : gs.find? (fun f => decide (f.e ≠ 0)) with
   | none => rfl
   | some g => rw [h2] at hf; cases hf
  | some f =>
   rw [h1] at hf
   cases h2 : gs.find? (fun f => decide (f.e ≠ 0)) with
   | none => rw [h2] at hf; cases hf
   | some g =>
    rw [h2] at hf
    have hk : f.key = g.key := Option.some.inj hf
    unfold FX.key at hk
    show fE f.ds f.cs = fE g.ds g.cs
    injection hk with a b
    injection b with b c
    rw [a, b]
 have hmax : maxD fs = maxD gs := by
  have a : ∀ l : List FX, maxD l = (l.map FX.key).foldl (fun a x => fq a (x.1.map Int.toNat)) (((l.map FX.key).map fun x => x.1.map Int.toNat).headD []) := fun l => by unfold maxD; rw [List.foldl_map, List.map_map]; rfl
  rw [a, a, h]
 refine ⟨hlike, by unfold ct; rw [hlike, hmax], hmax, fun D => ?_⟩
 have a : ∀ l : List FX, l.map (eO D) = (l.map FX.key).map fun x => iA (x.1.map Int.toNat) D (x.2.1.map NR.d) := fun l => by rw [List.map_map]; rfl
 rw [a, a, h]
end Go.Proofs.YtioilmppidlbnaaGreatDoor
/- Forms that a call in a drawn region hands back, with a new variable beside them. -/
namespace Go.Proofs.YtioilmppidlbnaaGreatDoor
open Go.RowKit
abbrev Hp.sz {w0 w : World} {H : List HE} (_ : Hp w0 H w) : Nat := w.heap.size
def mZ (base : Nat) (E : Int) (D : List Nat) (ys : List Dyadic) : VP := fun v W => ∃ (g : FX) (w1 : World), v = .agg #[.slice g.A g.n g.a, .slice g.B g.m g.b] ∧ Out E D ys g ∧ base ≤ w1.heap.size ∧ Hp w1 [g.fI, g.fB] W
theorem mZ.ext {base : Nat} {E : Int} {D : List Nat} {ys : List Dyadic} (v : Value) (w w' : World) (h : mZ base E D ys v w) (hb : Below w.heap.size w w') : mZ base E D ys v w' := let ⟨g, w1, h1, h2, h3, h4⟩ := h; ⟨g, w1, h1, h2, h3, h4.ext hb⟩
def mU (base : Nat) (E : Int) (D : List Nat) (ys : List Dyadic) : VP := fun v W => ∃ (g : FX) (w1 : World), v = .tuple #[.agg #[.slice g.A g.n g.a, .slice g.B g.m g.b], .int .i64 E] ∧ Out E D ys g ∧ base ≤ w1.heap.size ∧ Hp w1 [g.fI, g.fB] W
theorem mU.ext {base : Nat} {E : Int} {D : List Nat} {ys : List Dyadic} (v : Value) (w w' : World) (h : mU base E D ys v w) (hb : Below w.heap.size w w') : mU base E D ys v w' := let ⟨g, w1, h1, h2, h3, h4⟩ := h; ⟨g, w1, h1, h2, h3, h4.ext hb⟩
theorem wa {base : Nat} {W : World} {A : Option Addr} {n c sz b : Nat} {t' t : TypeId} {xs : List Value} {cs : Array Value} {fz : Nat × Nat} (h : HE.holds base W (.row A n c t' sz xs)) (h3 : W.heap[b]? = some (.cells cs t fz)) (hne : t' ≠ t) : (HE.row A n c t' sz xs).id ≠ some b := by
 intro hid
 rcases h.2 with ⟨h1, _⟩ | ⟨g, cap, cur, h1, _, h4, _⟩
 ·injection h1 with e1
  subst e1
  cases hid
 ·injection h1 with e1
  subst e1
  obtain rfl : g = b := Option.some.inj hid
  rw [h3] at h4
  injection h4 with h4
  injection h4 with _ h5
  exact hne h5.symm
theorem FX.ne {g : FX} {w1 W : World} {b : Nat} {t : TypeId} {cs : Array Value} {fz : Nat × Nat} (h : Hp w1 [g.fI, g.fB] W) (h3 : W.heap[b]? = some (.cells cs t fz)) (h1 : 39 ≠ t) (h2 : 3 ≠ t) : ∀ x ∈ [g.fI, g.fB], x.id ≠ some b := fun x hx => by
 have hx2 := h.own x hx
 rcases List.mem_cons.1 hx with rfl | hx
 ·exact wa hx2 h3 h1
 ·obtain rfl := List.mem_singleton.1 hx
  exact wa hx2 h3 h2
theorem JJ.oV {w0 w W w1 : World} {H L : List HE} {t : TypeId} {cs : List Value} {b : Nat} (hJ : JJ w0 H w W) (hs : Hp w0 H w) (h2 : w.heap.size ≤ b) (h3 : W.heap[b]? = some (.cells cs.toArray t (0, 0))) (hb : w.heap.size ≤ w1.heap.size) (hL : Hp w1 L W) (hne : ∀ x ∈ L, x.id ≠ some b) : Hp w0 (.blk b t cs (0, 0) :: (L ++ H)) W := by
 have h1 := hs.join (⟨hJ.bl, fun x hx => l4 (hL.own x hx) hb, hL.nd⟩ : Hp w L W)
 refine ⟨h1.below, fun x hx => ?_, ?_⟩
 ·rcases List.mem_cons.1 hx with rfl | hx
  ·exact ⟨Nat.le_trans hs.size h2, h3, .inr (Nat.le_refl _)⟩
  ·exact h1.own x hx
 ·rw [List.filterMap_cons]
  show (b :: (L ++ H).filterMap HE.id).Nodup
  refine List.nodup_cons.2 ⟨fun hm => ?_, h1.nd⟩
  obtain ⟨y, hy, hyb⟩ := List.mem_filterMap.1 hm
  rcases List.mem_append.1 hy with hy | hy
  ·exact hne y hy hyb
  ·have := (eU (hs.own y hy) hyb).2
   omega
end Go.Proofs.YtioilmppidlbnaaGreatDoor
/- The walks through ogeeref14.Add, Mul and Scale. -/
namespace Go.Proofs.YtioilmppidlbnaaGreatDoor
open Go.RowKit
def vu (R : List HE) (g : FX) : Prop := R = [g.fI, g.fB] ∨ g.m = 0 ∧ R = [g.fB]
theorem vu.at_ {w w' : World} {R H : List HE} {g : FX} (h : vu R g) (hc : g.cs.length = g.m) (hs : ∀ x ∈ R, x ∈ H) (hh : Hp w H w') : g.at_ w' := by
 rcases h with rfl | ⟨h0, rfl⟩
 ·exact hh.od (hs _ List.mem_cons_self) (hs _ (List.mem_cons_of_mem _ List.mem_cons_self))
 ·refine ⟨iZ (hh.own _ (hs _ List.mem_cons_self)), ?_⟩
  rw [h0] at hc ⊢
  rw [List.eq_nil_of_length_eq_zero hc]
  exact ⟨rfl, fun h => absurd h (by decide)⟩
theorem yq (f : FX) (w : World) (hf : f.at_ w) (hn : f.n ≤ 1000000) (hm : f.m ≤ 1000000) :
  Calls Tryz.prog 14 #[.agg #[.slice f.A f.n f.a, .slice f.B f.m f.b]] w fun r w' => ∃ (g : FX) (R : List HE), g.ds = f.ds ∧ g.cs = f.cs ∧ g.n = f.n ∧ g.m = f.m ∧ r = .returned (.agg #[.slice g.A g.n g.a, .slice g.B g.m g.b]) ∧ vu R g ∧ Hp w R w' :=
 (qM f.A f.B f.n f.a f.m f.b f.ds f.cs w hf.dg hf.nm hn hm).mono fun _ _ ⟨A, a, B, b, R, h1, h2, h3⟩ => ⟨⟨A, f.n, a, B, f.m, b, f.ds, f.cs⟩, R, rfl, rfl, rfl, rfl, h1, h2, h3⟩
theorem za (L : Option Addr) (n c : Nat) (fs : List FX) (k : Nat) (w : World) (hL : Sl w L n 2 (bF FX.cells fs)) (hn : n ≤ 1000) (hf : ∀ f ∈ fs, f.at_ w) (hl : ∀ f ∈ fs, f.iC k) (hm : ∀ f ∈ fs, f.m ≤ 200) (hk : k ≤ 90000) :
  Calls Tryz.prog 16 #[.slice L n c] w fun r w' => ∃ g : FX, Out (ct fs) (maxD fs) (u0 (fs.map (eO (maxD fs)))) g ∧ r = .returned (.tuple #[.agg #[.slice g.A g.n g.a, .slice g.B g.m g.b], .int .i64 (ct fs)]) ∧ Hp w [g.fI, g.fB] w' := by
 have hh := Hp.start w
 have hln := hL.cP FX.len (by decide)
 have hrs := fun w1 hb => rY L n c fs k w1 (hL.ext hb) hn (fun f hm => (hf f hm).ext hb) hl hk
 by_cases h0 : ct fs = 0
 ·have hlk : eb fs = 0 := by
   unfold ct at h0
   split at h0
   ·rename_i h; exact absurd h0 h
   ·rename_i h; simpa using h
  obtain ⟨hne, hev, _⟩ := gA hlk
  obtain ⟨f0, ft, rfl⟩ := List.exists_cons_of_ne_nil hne
  have hD4 : av (maxD (f0 :: ft)) ≤ 4096 := by
   unfold ct at h0
   rw [if_neg (by omega)] at h0
   split at h0
   ·cases h0
   ·omega
  have hDs : ∀ f ∈ f0 :: ft, f.cs.length ≤ 200 ∧ (maxD (f0 :: ft)).length = f.ns.length ∧ (∀ d ∈ maxD (f0 :: ft), d ≤ 127) ∧ (eO (maxD (f0 :: ft)) f).length = av (maxD (f0 :: ft)) := fun f hm2 => by
   obtain ⟨h1, h2, h3⟩ := kW hlk (fun g hg => (hf g hg).ln.1) f hm2
   have h4 := (hf f hm2).ln.2
   have h5 := hm f hm2
   exact ⟨by omega, h1, h3, tO h1 h2⟩
  have hsz := fun f hm => wL (hl f hm) (hev f hm) (hDs f hm).1 hk (hDs f hm).2.1 (hDs f hm).2.2.1 hD4
  have hxl := fun f hm => (hDs f hm).2.2.2
  have hD12 : (maxD (f0 :: ft)).length ≤ 12 := by have := (hDs f0 List.mem_cons_self).2.1; have := (FX.fv (hev f0 List.mem_cons_self)).2.2.1; omega
  clear hDs
  rw [h0] at hrs
  generalize maxD (f0 :: ft) = D at *
  have hra := fun w1 hb => (hrs w1 hb).mono fun r w' h => show ∃ (A : Option Addr) (a : Nat) (g0 : FX) (gs : List FX) (R : List HE), r = .returned (.tuple #[.slice A n a, .int .i64 0]) ∧ gs.length = ft.length ∧ qU D (eO D f0) g0 ∧ (∀ (i : Nat) (f g : FX), ft[i]? = some f → gs[i]? = some g → qU D (eO D f) g) ∧ (∀ g ∈ g0 :: gs, Kept (f0 :: ft) R g) ∧ Hp w1 (.row A n a 28 2 (bF FX.cells (g0 :: gs)) :: R) w' from by
   rcases h with h | ⟨_, A, a, gs, R, h1, h2, h3, h4, h5⟩
   ·exact absurd rfl h.1
   ·obtain ⟨g0, gs, rfl⟩ := List.exists_cons_of_ne_nil (l := gs) (by intro e; rw [e] at h2; rw [← hln] at h2; cases h2)
    exact ⟨A, a, g0, gs, R, h1, by rw [← hln] at h2; simpa using h2, h3 0 f0 g0 rfl rfl, fun i f g hf hg => h3 (i + 1) f g hf hg, h4, h5⟩
  clear hrs
  have hnp : ft.length + 1 = n := hln
  rw [h0]
  refine ao (N := 54) (l := [.slice L n c]) Tryz.func16 rfl rfl (by simp) ?_
  refine sr ?_
  refine cS hh ?_
  intro b2 w2 hh
  refine aI (aa (sr (mL ?_)))
  refine a6 (hra _ hh.below) az.out rfl (by decide) ?_
  rintro e_ w11 ⟨A1, a1, g0, gs, R, rfl, hgl, hg0, hup, hkp, h2⟩
  refine ⟨_, rfl, ?_⟩
  replace hh : Hp w (_ :: _ :: R) _ := (hh.join h2).perm (List.Perm.cons _ List.perm_append_comm)
  clear h2
  obtain ⟨gq, rfl⟩ := hh.cK (i := 0) rfl (by omega)
  have hR1 : ∀ (a b c d e : HE), ∀ x ∈ R, x ∈ a :: b :: c :: d :: e :: R := fun a b c d e x hx => by simp [hx]
  have k0 := (hkp g0 List.mem_cons_self).at_ hf (fun x hx => List.mem_cons_of_mem _ (List.mem_cons_of_mem _ hx)) hh
  obtain ⟨d1, d2, d3, d4⟩ := hg0
  have hown := fun w1 hb => yq g0 w1 (k0.ext hb) (by rw [d3]; omega) (by rw [d4]; omega)
  have h00 : (g0 :: gs)[0]? = some g0 := rfl
  refine mT ?_
  refine eT ?_
  refine eT ?_
  refine aL (aI (aa (ah (sr (mI ?_)))))
  refine dK (aa (cF (ak (ai (sr (mL ?_))))))
  refine bj (k := 0) aH.out aE.size rfl rfl (by omega) (by omega) (by decide) ?_
  refine cW (vs := [_, _]) aE.out rfl (hh.fK (f := FX.cells) (x := g0) (l := g0 :: gs) (i := 0) rfl FX.len (by decide) h00) rfl (by decide) ?_
  refine a6 (hown _ (Below.refl _ _)) az.out rfl (by decide) ?_
  rintro e_ w21 ⟨⟨A0, n0, a0, B0, m0, b0, ds0, cs0⟩, R0, e1, e2, e3, e4, rfl, hmi, h2⟩
  refine ⟨_, rfl, ?_⟩
  rw [d1] at e1
  rw [d2] at e2
  rw [d3] at e3
  rw [d4] at e4
  cases e1; cases e2; cases e3; cases e4
  obtain rfl : R0 = [_, _] := hmi.resolve_right fun h => absurd h.1 (by have := cX D; show ¬ av D = 0; omega)
  replace hh := hh.join h2
  clear hmi
  clear h2
  obtain ⟨go, rfl⟩ := hh.cK (i := 0) rfl (cX D)
  refine cS hh ?_
  intro b6 w6 hh
  refine bY hh 0 [_,_] ?_
  intro ws hh
  replace hh : Hp _ (.blk _ _ [_, _] _ :: _) _ := hh
  refine aa (ah (sr (aI (aa (aj ?_)))))
  have hx0 := hxl f0 List.mem_cons_self
  have hxi : ∀ (i : Nat), (((ft.take i).map (eO D)).foldl gk (eO D f0)).length = av D := fun i => by
   rw [nW _ _ fun l hl => ?_, hx0]
   obtain ⟨f, hf2, rfl⟩ := List.mem_map.1 hl
   rw [hx0, hxl f (List.mem_cons_of_mem _ (List.mem_of_mem_take hf2))]
  have hzi : ∀ (i : Nat), ∀ x ∈ ((ft.take i).map (eO D)).foldl gk (eO D f0), Sz 1001000 x := fun i x hx => by
   refine (pA (k := 1000000) _ _ 0 (hsz f0 List.mem_cons_self) (fun l hl => ?_) x hx).mono ?_
   ·obtain ⟨f, hf2, rfl⟩ := List.mem_map.1 hl
    exact hsz f (List.mem_cons_of_mem _ (List.mem_of_mem_take hf2))
   ·rw [List.length_map, List.length_take]
    omega
  refine bp [7, 8, 22, 23, 24, 25, 26, 27, 28, 29, 30, 31, 32, 33, 34, 35, 36, 37, 38, 39, 40, 41, 42, 43, 44, 45, 46, 47, 48, 49, 50, 51, 52] 7
   (fun v w' => ∃ i : Nat, i ≤ n - 1 ∧ v = .int .i64 ((i + 1 : Nat) : Int) ∧ Hp w (.blk b6 28 [.slice A0 D.length a0, .slice (some ⟨go, 0, none⟩) (av D) b0] (0, 0) :: .row (some ⟨go, 0, none⟩) (av D) b0 39 3 (bF NR.cells ((((ft.take i).map (eO D)).foldl gk (eO D f0)).map nR)) :: .row A0 D.length a0 3 1 (bs (aW D)) :: .row (some ⟨gq, 0, none⟩) n a1 28 2 (bF FX.cells (g0 :: gs)) :: .blk b2 28 [.slice none 0 0, .slice none 0 0] (0, 0) :: R) w')
   (fun v _ => n - (intOf v).toNat) ?_ ?_
  ·exact ⟨0, Nat.zero_le _, rfl, hh⟩
  ·clear hh k0 hown
   rintro ρ' v w' ⟨i, hi, rfl, hh⟩
   by_cases hlt : i < n - 1
   ·obtain ⟨fo, hx⟩ := ar (l := ft) (k := i) (by omega)
    obtain ⟨⟨A9, n9, a9, B9, m9, b9, ds9, cs9⟩, hg⟩ := ar (l := gs) (k := i) (by omega)
    have hmem := List.mem_of_getElem? hg
    obtain ⟨d5, d6, d7, d8⟩ := hup i fo _ hx hg
    cases d5; cases d6; cases d7; cases d8
    have hgq : (g0 :: gs)[i + 1]? = some (⟨A9, D.length, a9, B9, av D, b9, aW D, (eO D fo).map nR⟩ : FX) := by rw [List.getElem?_cons_succ]; exact hg
    have kg := hkp _ (List.mem_cons_of_mem _ hmem)
    have hfX : ((ft.take (i + 1)).map (eO D)).foldl gk (eO D f0) = gk (((ft.take i).map (eO D)).foldl gk (eO D f0)) (eO D fo) := by rw [aO hx, List.map_append, List.foldl_append]; rfl
    have hxa := hxi i
    have hza := hzi i
    have hzb := hsz fo (List.mem_cons_of_mem _ (List.mem_of_getElem? hx))
    have hyl := hxl fo (List.mem_cons_of_mem _ (List.mem_of_getElem? hx))
    have hR6 : ∀ x ∈ R, ∀ (a b c d e : HE), x ∈ a :: b :: c :: d :: e :: R := fun x hx a b c d e => by simp [hx]
    obtain ⟨ad9, hA9, -⟩ := (kg.at_ hf (fun x hx => hR6 x hx _ _ _ _ _) hh).nm.at_ (cX D)
    cases hA9
    generalize ((ft.take i).map (eO D)).foldl gk (eO D f0) = X at *
    refine ah (sr (mI (mL (aQ ?_))))
    refine aG (aa (cT (ak (ai (ah (aj (sr (aI (aa (aj ?_))))))))))
    refine bp [8, 28, 29, 30, 31, 32, 33, 34, 35, 36, 37, 38, 39, 40, 41, 42, 43, 44, 45, 46, 47, 48, 49, 50, 51, 52] 8
     (fun v w' => ∃ j : Nat, j ≤ av D ∧ v = .int .i64 j ∧ Hp w (.blk b6 28 [.slice A0 D.length a0, .slice (some ⟨go, 0, none⟩) (av D) b0] (0, 0) :: .row (some ⟨go, 0, none⟩) (av D) b0 39 3 (bF NR.cells ((jG X (eO D fo) j).map nR)) :: .row A0 D.length a0 3 1 (bs (aW D)) :: .row (some ⟨gq, 0, none⟩) n a1 28 2 (bF FX.cells (g0 :: gs)) :: .blk b2 28 [.slice none 0 0, .slice none 0 0] (0, 0) :: R) w')
     (fun v _ => av D - (intOf v).toNat) ?_ ?_
    ·exact ⟨0, Nat.zero_le _, rfl, hh⟩
    ·clear hh
     rintro ρ2 v w2 ⟨j, hj, rfl, hh⟩
     by_cases hjn : j < av D
     ·obtain ⟨x, hx1⟩ := ar (l := X) (k := j) (by omega)
      obtain ⟨y, hy1⟩ := ar (l := eO D fo) (k := j) (by omega)
      obtain ⟨ad, hA9, s9⟩ := (kg.at_ hf (fun x hx => hR6 x hx _ _ _ _ _) hh).nm.at_ (cX D)
      cases hA9
      have zx := hza x (List.mem_of_getElem? hx1)
      have zy := hzb y (List.mem_of_getElem? hy1)
      have hon : ((jG X (eO D fo) j).map nR)[j]? = some (nR x) := by rw [List.getElem?_map, tB (by omega) hx1]; rfl
      have hyn : ((eO D fo).map nR)[j]? = some (nR y) := by rw [List.getElem?_map, hy1]; rfl
      have hset := qp (a := X) (b := eO D fo) (by omega) hx1 hy1
      have hsum := fun w1 => il (nR x) (nR y) w1 (zx.ok (by omega)) (zy.ok (by omega))
      rw [fH, fH] at hsum
      have hll : ((jG X (eO D fo) j).map nR).length = av D := by rw [List.length_map, q9 (by omega) (by omega), hxa]
      generalize jG X (eO D fo) j = M at *
      have hrl := gi NR.len (M.map nR)
      refine ah (sr (mI (bI ?_)))
      refine bP hh 0 ?_
      refine aQ ?_
      refine aG (aa (cT (ak (ai (ah (aj ?_))))))
      refine aK 17 [[(6, none)], [(35, some 0)], [(8, none)], [(6, none)], [(38, some 3)], [(8, none)], [(39, some 4), (40, some 5)], [(41, some 6)], [(4, none)], [(7, none)], [(43, some 8), (44, some 9)], [(45, some 10)], [(46, some 11)], [(8, none)], [(47, some 12), (48, some 13)], [(49, some 14)], [(42, some 7), (50, some 15)]] [(16, 51), (15, 50), (14, 49), (13, 48), (12, 47), (11, 46), (10, 45), (9, 44), (8, 43), (7, 42), (6, 41), (5, 40), (4, 39), (3, 38), (2, 37), (1, 36), (0, 35)] hh mixed (by kernel_rfl) ?_
      refine dv ?_
      refine dY 0 ?_
      refine dn ?_
      refine dv ?_
      refine dY 0 ?_
      refine dn ?_
      refine mu (j) ?_
      refine mh [_,_,_] (fun _ hj => hj.hp.fK (f := NR.cells) (x := nR x) (l := M.map nR) (i := 1) rfl NR.len (by decide) hon) ?_
      refine eP ?_
      refine dn ?_
      refine mu ((i + 1)) ?_
      refine dv ?_
      refine jy (fun _ hj => (show Rd _ _ [.slice A9 D.length a9, .slice _ (av D) b9] from hj.hp.fK (f := FX.cells) (l := g0 :: gs) (i := 3) rfl FX.len (by decide) hgq) 1 _ rfl) ?_
      refine dn ?_
      refine aR (i := 14) (fun ρ1 w1 hj hR => bQ aH.out aE.size (show ρ1 47 = Value.slice _ _ _ from hR.1) (show ρ1 48 = Value.int _ _ from hR.2.1) (by omega) (by omega)) ?_
      refine mh [_,_,_] (fun _ hj => (s9.ext hj.bl).recAt NR.len hyn) ?_
      refine dC (fun _ hj => hsum _) ?_
      refine bm ?_
      intro f W hJ hV
      have hb_11 := hJ.bl
      obtain ⟨v51, v50, v49, v48, v47, v46, v45, v44, v43, v42, v41, v40, v39, v38, v37, v36, v35, _⟩ := hV
      replace hh := hJ.hp
      refine aU (bk (ae v51 (ae v50 (ae v49 (ae v48 (ae v47 (ae v46 (ae v45 (ae v44 (ae v43 (ae v42 (ae v41 (ae v40 (ae v39 (ae v38 (ae v37 (ae v36 (ae v35 aV)))))))))))))))))) ?_
      dsimp only [cd]
      clear hJ
      refine bj (k := j) aH.out aE.size rfl rfl (by omega) (by omega) (by decide) ?_
      refine bx hh (i := 1) (vs := [_, _, _]) rfl rfl (de rfl) rfl aE.out rfl (by omega) rfl ?_
      intro ws hh
      simp only [List.set_cons_zero, List.set_cons_succ] at hh
      rw [show cL (bF NR.cells (M.map nR)) (j * 3) [.bool (nR (x + y)).neg, .string (nR (x + y)).cB, .int .i64 (nR (x + y)).e] = bF NR.cells ((M.map nR).set j (nR (x + y))) from im NR.len (by omega), ← List.map_set, hset] at hh
      refine aC (aT (ai (al (mI ?_))))
      refine bz (aI (aC (ai ?_)))
      refine ⟨⟨j + 1, by omega, rfl, hh⟩, by show av D - (j + 1) < av D - j; omega, ?_⟩
      (repeat (first | exact aw _ _ _ | refine ay rfl ?_ | refine au rfl ?_))
     ·obtain rfl : j = av D := by omega
      rw [oP (by omega) (by omega), ← hfX] at hh
      refine ah (sr (mI (bI ?_)))
      refine bP hh 0 ?_
      refine aQ ?_
      refine aG (aa (cF ?_))
      refine aJ ?_
      refine ax (ax (aZ (aT (ai (al (mI ?_))))))
      refine bz (aI (aC (ai ?_)))
      refine ⟨⟨i + 1, by omega, rfl, hh⟩, by show n - (i + 1 + 1) < n - (i + 1); omega, ?_⟩
      (repeat (first | exact aw _ _ _ | refine ay rfl ?_ | refine au rfl ?_))
   ·obtain rfl : i = n - 1 := by omega
    rw [List.take_of_length_le (by omega)] at hh
    refine ah (sr (mI (mL (aQ ?_))))
    refine aG (aa (cF ?_))
    refine aJ ?_
    refine ax (ax (aZ (ai (sr ?_))))
    refine dk hh 0 [_,_] ?_
    refine bY hh 4 [_,_] ?_
    intro ws hh
    replace hh : Hp _ (_ :: _ :: _ :: _ :: .blk _ _ [_, _] _ :: _) _ := hh
    refine aI (aa (aq ?_))
    refine og (bf rfl (bg (vs := [_, _]) aE.out (hh.aD (i := 4) (n := 2) rfl rfl) rfl) (dq (et rfl) bA)) ?_
    exact ⟨⟨A0, D.length, a0, some ⟨go, 0, none⟩, av D, b0, aW D, _⟩, ⟨rfl, rfl, by show D.length ≤ 100000; omega, by show av D ≤ 1000000; omega⟩, rfl, hh.sub (.cons _ (List.sublist_append_left [_, _] _))⟩
 ·have hra := fun w1 hb => (hrs w1 hb).mono fun r w' h => show r = .returned (.tuple #[.slice none 0 0, .int .i64 (ct fs)]) ∧ Below w1.heap.size w1 w' from by
   rcases h with h | h
   ·exact h.2
   ·exact absurd h.1 h0
  have ho := Out.err (D := maxD fs) (ys := u0 (fs.map (eO (maxD fs)))) h0
  generalize ct fs = e at *
  refine ao (N := 54) (l := [.slice L n c]) Tryz.func16 rfl rfl (by simp) ?_
  refine sr ?_
  refine cS hh ?_
  intro b2 w2 hh
  refine aI (aa (sr (mL ?_)))
  refine bJ hh (hra _ hh.below) rfl ?_
  intro w11 hh
  refine mT ?_
  refine eT ?_
  refine eT ?_
  refine aL (aI (aa (ah (sr (mI ?_)))))
  refine dK (aa (cT (sr ?_)))
  refine fi [_,_] (mI ?_)
  refine bY hh 0 [_,_] ?_
  intro ws hh
  replace hh : Hp _ (.blk _ _ [_, _] _ :: _) _ := hh
  refine aI (aa (aq (aM ?_)))
  refine og (bf rfl (bg (vs := [_, _]) aE.out (hh.aD (i := 0) (n := 2) rfl rfl) rfl) (dq (et rfl) bA)) ?_
  exact ⟨FX.nil, ho, rfl, (hh.sub (List.nil_sublist _)).r8⟩
theorem zp (fa g : FX) (k : Nat) (w : World) (hf : fa.at_ w) (hg : g.at_ w) (hlf : fa.iC k) (hlg : g.iC k) (hmf : fa.m ≤ 200) (hmg : g.m ≤ 200) (hk : k ≤ 50000) :
  Calls Tryz.prog 19 #[.agg #[.slice fa.A fa.n fa.a, .slice fa.B fa.m fa.b], .agg #[.slice g.A g.n g.a, .slice g.B g.m g.b]] w fun r w' => ∃ p : FX, Out (jM fa g) (bH fa.ns g.ns) (g9 fa.ns g.ns (fa.cs.map NR.d) (g.cs.map NR.d)) p ∧ r = .returned (.tuple #[.agg #[.slice p.A p.n p.a, .slice p.B p.m p.b], .int .i64 (jM fa g)]) ∧ Hp w [p.fI, p.fB] w' := by
 have hh := Hp.start w
 have hall : ∀ x ∈ [fa, g], x.at_ w ∧ x.iC k := by simpa using ⟨⟨hf, hlf⟩, hg, hlg⟩
 have hlk := fun A c w1 hS1 hb => l5 A 2 c [fa, g] k w1 hS1 (by decide) (fun x hx => (hall x hx).1.ext hb) (fun x hx => (hall x hx).2)
 have hlnf := hf.ln.1
 have hlng := hg.ln.1
 have hlmf := hf.ln.2
 have hlmg := hg.ln.2
 unfold jM
 by_cases h0 : eb [fa, g] = 0
 ·obtain ⟨_, hev, hnv⟩ := gA h0
  have hgn : g.n = fa.n := hnv g (by simp)
  obtain ⟨df, cf, hf12, hflow, hfc, _⟩ := FX.fv (hev fa (by simp))
  obtain ⟨dg, cg, hg12, hglow, hgc, _⟩ := FX.fv (hev g (by simp))
  have hfl : fa.ns.length = fa.n := by unfold FX.ns; rw [List.length_map]; omega
  have hgl : g.ns.length = fa.n := by unfold FX.ns; rw [List.length_map]; omega
  rw [if_neg (by omega)]
  have hal : (bH fa.ns g.ns).length = fa.n := by rw [eK (by omega)]; exact hfl
  refine ao (N := 44) (l := [.agg #[.slice fa.A fa.n fa.a, .slice fa.B fa.m fa.b], .agg #[.slice g.A g.n g.a, .slice g.B g.m g.b]]) Tryz.func19 rfl rfl (by simp) ?_
  refine sr ?_
  refine dm hh [_,_] ?_
  intro b2 w2 hh
  refine dm hh [_,_] ?_
  intro b3 w3 hh
  refine cS hh ?_
  intro b4 w4 hh
  refine aI (aa (ah (sr ?_)))
  refine dk hh 2 [_,_] ?_
  refine dk hh 1 [_,_] ?_
  refine aP hh (cs := [_, _, _, _]) aH.out aE.out (aY (de rfl) (aY (de rfl) bO)) rfl rfl (by decide) (by decide) (by decide) rfl (by decide) ?_
  intro b11 w11 hh
  refine bJ hh (hlk _ _ _ (hh.aX (i := 0) rfl) hh.below) rfl ?_
  intro w12 hh
  refine aI (aa (sr (mI ?_)))
  refine dK (aa (cF (ak (ai (sr (aL (aa (ah (sr (aI (aa ?_)))))))))))
  refine aj ?_
  replace hh := hh.sub (List.Sublist.cons _ (List.Sublist.cons_cons _ (List.Sublist.cons_cons _ (List.Sublist.cons_cons _ List.Sublist.slnil))))
  replace hh := hh.dx 3 1
  refine bX [7, 8, 17, 18, 19, 20, 21, 22, 23, 24, 25, 26, 27, 28, 29, 30, 31, 32, 33, 34, 35, 36, 37] 7 8
   (fun v7 v w' => ∃ (j c7 : Nat) (A : Option Addr), j ≤ fa.n ∧ v = .int .i64 j ∧ v7 = .slice A j c7 ∧ Hp w [.row A j c7 3 1 (bs (aW ((bH fa.ns g.ns).take j))), .blk b4 28 [.slice none 0 0, .slice none 0 0] (0, 0), .blk b3 28 [.slice g.A g.n g.a, .slice g.B g.m g.b] (0, 0), .blk b2 28 [.slice fa.A fa.n fa.a, .slice fa.B fa.m fa.b] (0, 0)] w')
   (fun _ v _ => fa.n - (intOf v).toNat) ?_ ?_
  ·exact ⟨0, 0, none, Nat.zero_le _, rfl, rfl, hh⟩
  ·clear hh
   rintro ρ' v7 v w' ⟨j, c7, A, hj, rfl, rfl, hh⟩
   by_cases hjn : j < fa.n
   ·obtain ⟨x, hx⟩ := ar (l := fa.ns) (k := j) (by omega)
    obtain ⟨y, hy⟩ := ar (l := g.ns) (k := j) (by omega)
    have hgx : (bs fa.ds)[j]? = some (.int .i64 (x : Int)) := by rw [df]; exact bB (cA hx)
    have hgy : (bs g.ds)[j]? = some (.int .i64 (y : Int)) := by rw [dg]; exact bB (cA hy)
    have hx127 := hflow x (List.mem_of_getElem? hx)
    have hy127 := hglow y (List.mem_of_getElem? hy)
    have hxy : (x : Int) + (y : Int) = ((x + y : Nat) : Int) := by omega
    obtain ⟨a1, hA1, s1⟩ := hf.dg.at_ (by omega)
    obtain ⟨a2, hA2, s2⟩ := hg.dg.at_ (by omega)
    have hat := cA (ir hx hy)
    rw [hA1, hA2] at hh
    refine ah (sr (mI (bI ?_)))
    refine bP hh 3 ?_
    refine aQ ?_
    refine aG (aa (cT (ak (ai (ah (aj ?_))))))
    refine aK 13 [[(7, none)], [(2, none)], [(25, some 1)], [(8, none)], [(26, some 2), (27, some 3)], [(28, some 4)], [(3, none)], [(30, some 6)], [(8, none)], [(31, some 7), (32, some 8)], [(33, some 9)], [(29, some 5), (34, some 10)], [(35, some 11)]] [(12, 36), (11, 35), (10, 34), (9, 33), (8, 32), (7, 31), (6, 30), (5, 29), (4, 28), (3, 27), (2, 26), (1, 25), (0, 24)] hh mixed (by kernel_rfl) ?_
    refine eP ?_
    refine dv ?_
    refine dY 3 ?_
    refine dn ?_
    refine aR (i := 4) (fun ρ1 w1 hj hR => bQ aH.out aE.size (show ρ1 26 = Value.slice _ _ _ from hR.1) (show ρ1 27 = Value.int _ _ from hR.2.1) (by omega) (by omega)) ?_
    refine jy (fun _ hj => (s1.ext hj.hp.below).dR hgx) ?_
    refine dv ?_
    refine dY 2 ?_
    refine dn ?_
    refine aR (i := 9) (fun ρ1 w1 hj hR => bQ aH.out aE.size (show ρ1 31 = Value.slice _ _ _ from hR.1) (show ρ1 32 = Value.int _ _ from hR.2.1) (by omega) (by omega)) ?_
    refine jy (fun _ hj => (s2.ext hj.hp.below).dR hgy) ?_
    refine ow ?_
    refine rK [_] ?_
    refine bm ?_
    intro f W hJ hV
    have hb_8 := hJ.bl
    obtain ⟨v36, v35, v34, v33, v32, v31, v30, v29, v28, v27, v26, v25, v24, _⟩ := hV
    obtain ⟨A36, c36, e36, f36⟩ : Rows _ _ _ (f 12) W := v36
    replace hh := hJ.hp
    refine aU (bk (ae e36 (ae v35 (ae v34 (ae v33 (ae v32 (ae v31 (ae v30 (ae v29 (ae v28 (ae v27 (ae v26 (ae v25 (ae v24 aV)))))))))))))) ?_
    dsimp only [cd]
    clear e36 hJ
    refine cu hh (i := 0) rfl rfl rfl (f36) aH.out aE.out rfl (by decide) (by first | rfl | exact bZ _ | exact bK _ | exact bC _ | exact bL NR.one _) (by omega) (by omega) (by decide) ?_
    intro A37 c37 w37 hh
    simp only [List.set_cons_zero] at hh
    refine aL (aC (aT (ai (al (mI ?_)))))
    refine bz (aI (aC (ai ?_)))
    rw [← hA1, ← hA2] at hh
    replace hh := hh.sub (List.Sublist.cons_cons _ (List.Sublist.cons_cons _ (List.Sublist.cons_cons _ (List.Sublist.cons_cons _ List.Sublist.slnil))))
    have e1 : bs (aW ((bH fa.ns g.ns).take (j + 1))) = bs (aW ((bH fa.ns g.ns).take j)) ++ [.int .i64 ((x : Int) + (y : Int))] := by
     rw [aO (ir hx hy)]
     simp [aW, bs]
    refine ⟨⟨j + 1, c37, A37, by omega, rfl, rfl, by rw [e1]; exact hh⟩, by show fa.n - (j + 1) < fa.n - j; omega, ?_⟩
    (repeat (first | exact aw _ _ _ | refine ay rfl ?_ | refine au rfl ?_))
   ·obtain rfl : j = fa.n := by omega
    rw [List.take_of_length_le (by omega)] at hh
    have hbig := fun w1 hS1 => nZ A fa.n c7 (bH fa.ns g.ns) w1 hS1 (by omega)
    cases hb : iB (bH fa.ns g.ns) with
    | true =>
     rw [hb] at hbig
     rw [if_pos rfl]
     refine ah (sr (mI (bI ?_)))
     refine bP hh 3 ?_
     refine aQ ?_
     refine aG (aa (cF ?_))
     refine aJ ?_
     refine ax (ax (aZ (ai (ah (sr (mL ?_))))))
     refine bJ hh (hbig _ (hh.aX (i := 0) rfl)) rfl ?_
     intro w39 hh
     refine aa (cT (sr ?_))
     refine fi [_,_] ?_
     refine bY hh 1 [_,_] ?_
     intro ws hh
     replace hh : Hp _ (_ :: .blk _ _ [_, _] _ :: _) _ := hh
     refine aI (aa (aq (aM ?_)))
     refine og (bf rfl (bg (vs := [_, _]) aE.out (hh.aD (i := 1) (n := 2) rfl rfl) rfl) (dq (et rfl) bA)) ?_
     exact ⟨FX.nil, .err (by decide), rfl, (hh.sub (List.nil_sublist _)).r8⟩
    | false =>
     rw [hb] at hbig
     rw [if_neg (by decide)]
     unfold iB at hb
     obtain ⟨hb1, hb2⟩ := Bool.or_eq_false_iff.1 hb
     have h4 := of_decide_eq_false hb2
     have h4' : av (bH fa.ns g.ns) ≤ 4096 := by omega
     have hA : ∀ d ∈ bH fa.ns g.ns, d ≤ 127 := fun d hd => by
      have := List.any_eq_false.1 hb1 d hd
      simpa using this
     have hfm : fa.m = av fa.ns := by omega
     have hgm : g.m = av g.ns := by omega
     have hmul : av g.ns * av fa.ns ≤ 200 * 200 := Nat.mul_le_mul (by omega) (by omega)
     have hzs : ∀ x ∈ [fa, g], ∀ y ∈ x.cs.map NR.d, Sz k y := fun x hx y hy => by
      obtain ⟨c, hc, rfl⟩ := List.mem_map.1 hy
      exact ((hall x hx).2.num c hc).2
     have htm : ∀ w1, Below w.heap.size w w1 → Calls Tryz.prog 63 #[.agg #[.slice fa.A fa.n fa.a, .slice fa.B fa.m fa.b], .agg #[.slice g.A g.n g.a, .slice g.B g.m g.b]] w1 fun r w' => ∃ p : FX, qU (bH fa.ns g.ns) (g9 fa.ns g.ns (fa.cs.map NR.d) (g.cs.map NR.d)) p ∧ r = .returned (.agg #[.slice p.A p.n p.a, .slice p.B p.m p.b]) ∧ Hp w1 [p.fI, p.fB] w' := fun w1 hb1 => by
      have s1 := hf.dg.ext hb1
      have s2 := hf.nm.ext hb1
      have s3 := hg.dg.ext hb1
      have s4 := hg.nm.ext hb1
      rw [df] at s1
      rw [cf, hfm] at s2
      rw [dg, hgn] at s3
      rw [cg, hgm] at s4
      rw [hgn, hfm, hgm]
      refine (pB fa.A fa.B g.A g.B fa.n fa.a fa.b g.a g.b fa.ns g.ns (fa.cs.map NR.d) (g.cs.map NR.d) k k w1 s1 s2 s3 s4 (by omega) hflow hglow hA (by omega) (by omega) (hzs fa (by simp)) (hzs g (by simp)) (by omega) (by omega) (by omega)).mono fun r w' h => ?_
      obtain ⟨A, a, B, b, rfl, h2⟩ := h
      exact ⟨⟨A, fa.n, a, B, av (bH fa.ns g.ns), b, aW (bH fa.ns g.ns), _⟩, ⟨rfl, rfl, hal.symm, rfl⟩, rfl, h2⟩
     refine ah (sr (mI (bI ?_)))
     refine bP hh 3 ?_
     refine aQ ?_
     refine aG (aa (cF ?_))
     refine aJ ?_
     refine ax (ax (aZ (ai (ah (sr (mL ?_))))))
     refine bJ hh (hbig _ (hh.aX (i := 0) rfl)) rfl ?_
     intro w39 hh
     refine aa (cF (ak (ai (sr ?_))))
     refine dk hh 3 [_,_] ?_
     refine dk hh 2 [_,_] ?_
     refine a6 (htm _ hh.below) az.out rfl (by decide) ?_
     rintro e_ w43 ⟨p, hp, rfl, h2⟩
     refine ⟨_, rfl, ?_⟩
     replace hh := hh.join h2
     clear h2
     refine bY hh 3 [_,_] ?_
     intro ws hh
     replace hh : Hp _ (_ :: _ :: _ :: .blk _ _ [_, _] _ :: _) _ := hh
     refine aI (aa (aq ?_))
     refine og (bf rfl (bg (vs := [_, _]) aE.out (hh.aD (i := 3) (n := 2) rfl rfl) rfl) (dq (et rfl) bA)) ?_
     exact ⟨p, hp.out (by omega) h4', rfl, hh.sub (List.sublist_append_left [_, _] _)⟩
 ·rw [if_pos h0]
  refine ao (N := 44) (l := [.agg #[.slice fa.A fa.n fa.a, .slice fa.B fa.m fa.b], .agg #[.slice g.A g.n g.a, .slice g.B g.m g.b]]) Tryz.func19 rfl rfl (by simp) ?_
  refine sr ?_
  refine dm hh [_,_] ?_
  intro b2 w2 hh
  refine dm hh [_,_] ?_
  intro b3 w3 hh
  refine cS hh ?_
  intro b4 w4 hh
  refine aI (aa (ah (sr ?_)))
  refine dk hh 2 [_,_] ?_
  refine dk hh 1 [_,_] ?_
  refine aP hh (cs := [_, _, _, _]) aH.out aE.out (aY (de rfl) (aY (de rfl) bO)) rfl rfl (by decide) (by decide) (by decide) rfl (by decide) ?_
  intro b11 w11 hh
  refine bJ hh (hlk _ _ _ (hh.aX (i := 0) rfl) hh.below) rfl ?_
  intro w12 hh
  refine aI (aa (sr (mI ?_)))
  refine dK (aa (cT (sr ?_)))
  refine fi [_,_] (mI ?_)
  refine bY hh 1 [_,_] ?_
  intro ws hh
  replace hh : Hp _ (_ :: .blk _ _ [_, _] _ :: _) _ := hh
  refine aI (aa (aq (aM ?_)))
  refine og (bf rfl (bg (vs := [_, _]) aE.out (hh.aD (i := 1) (n := 2) rfl rfl) rfl) (dq (et rfl) bA)) ?_
  exact ⟨FX.nil, .err h0, rfl, (hh.sub (List.nil_sublist _)).r8⟩
end Go.Proofs.YtioilmppidlbnaaGreatDoor
/- The walks through ogeelaw14's own helpers: what is more than is reckoned with. -/
namespace Go.Proofs.YtioilmppidlbnaaGreatDoor
open Go.RowKit
def qL (a : NR) : Bool := decide ((8 : Int) < a.cB.size ∨ a.e < -60 ∨ 60 < a.e)
theorem su (a : NR) (w : World) :
  Calls Tryz.prog 22 #[.agg #[.bool a.neg, .string a.cB, .int .i64 a.e]] w fun r w' => r = .returned (.bool (qL a)) ∧ Below w.heap.size w w' := by
 have hh := Hp.start w
 by_cases h1 : (8 : Int) < a.cB.size
 ·refine ao (N := 18) (l := [.agg #[.bool a.neg, .string a.cB, .int .i64 a.e]]) Tryz.func22 rfl rfl (by simp) ?_
  refine sr ?_
  refine dm hh [_,_,_] ?_
  intro b1 w1 hh
  refine aB (aa (sr (bI (bI ?_))))
  refine bP hh 0 ?_
  refine cY aH.out rfl (by decide) ?_
  refine bT (mB ?_)
  first | refine gS ?_ | (refine gT ?_; refine bI ?_) | refine gV ?_
  first | refine gS ?_ | (refine gT ?_; refine bP hh 0 ?_) | refine gV ?_
  first | refine gS ?_ | (refine gT ?_; refine aG ?_) | refine gV ?_
  first | refine dD ?_ | refine dA ?_
  refine mB ?_
  first | refine gS ?_ | (refine gT ?_; refine bI ?_) | refine gV ?_
  first | refine gS ?_ | (refine gT ?_; refine bP hh 0 ?_) | refine gV ?_
  first | refine gS ?_ | (refine gT ?_; refine bT ?_) | refine gV ?_
  first | refine dD ?_ | refine dA ?_
  refine aB (aa (aq ?_))
  refine cz ?_
  refine ⟨?_, hh.below⟩
  unfold qL
  rw [decide_eq_true (.inl h1)]
 ·by_cases h2 : a.e < -60
  ·refine ao (N := 18) (l := [.agg #[.bool a.neg, .string a.cB, .int .i64 a.e]]) Tryz.func22 rfl rfl (by simp) ?_
   refine sr ?_
   refine dm hh [_,_,_] ?_
   intro b1 w1 hh
   refine aB (aa (sr (bI (bI ?_))))
   refine bP hh 0 ?_
   refine cY aH.out rfl (by decide) ?_
   refine bT (mB ?_)
   first | refine gS ?_ | (refine gT ?_; refine bI ?_) | refine gV ?_
   first | refine gS ?_ | (refine gT ?_; refine bP hh 0 ?_) | refine gV ?_
   first | refine gS ?_ | (refine gT ?_; refine aG ?_) | refine gV ?_
   first | refine dD ?_ | refine dA ?_
   refine mB ?_
   first | refine gS ?_ | (refine gT ?_; refine bI ?_) | refine gV ?_
   first | refine gS ?_ | (refine gT ?_; refine bP hh 0 ?_) | refine gV ?_
   first | refine gS ?_ | (refine gT ?_; refine bT ?_) | refine gV ?_
   first | refine dD ?_ | refine dA ?_
   refine aB (aa (aq ?_))
   refine cz ?_
   refine ⟨?_, hh.below⟩
   unfold qL
   rw [decide_eq_true (.inr (.inl h2))]
  ·by_cases h3 : 60 < a.e
   ·refine ao (N := 18) (l := [.agg #[.bool a.neg, .string a.cB, .int .i64 a.e]]) Tryz.func22 rfl rfl (by simp) ?_
    refine sr ?_
    refine dm hh [_,_,_] ?_
    intro b1 w1 hh
    refine aB (aa (sr (bI (bI ?_))))
    refine bP hh 0 ?_
    refine cY aH.out rfl (by decide) ?_
    refine bT (mB ?_)
    first | refine gS ?_ | (refine gT ?_; refine bI ?_) | refine gV ?_
    first | refine gS ?_ | (refine gT ?_; refine bP hh 0 ?_) | refine gV ?_
    first | refine gS ?_ | (refine gT ?_; refine aG ?_) | refine gV ?_
    first | refine dD ?_ | refine dA ?_
    refine mB ?_
    first | refine gS ?_ | (refine gT ?_; refine bI ?_) | refine gV ?_
    first | refine gS ?_ | (refine gT ?_; refine bP hh 0 ?_) | refine gV ?_
    first | refine gS ?_ | (refine gT ?_; refine bT ?_) | refine gV ?_
    first | refine dD ?_ | refine dA ?_
    refine aB (aa (aq ?_))
    refine cz ?_
    refine ⟨?_, hh.below⟩
    unfold qL
    rw [decide_eq_true (.inr (.inr h3))]
   ·refine ao (N := 18) (l := [.agg #[.bool a.neg, .string a.cB, .int .i64 a.e]]) Tryz.func22 rfl rfl (by simp) ?_
    refine sr ?_
    refine dm hh [_,_,_] ?_
    intro b1 w1 hh
    refine aB (aa (sr (bI (bI ?_))))
    refine bP hh 0 ?_
    refine cY aH.out rfl (by decide) ?_
    refine bT (mB ?_)
    first | refine gS ?_ | (refine gT ?_; refine bI ?_) | refine gV ?_
    first | refine gS ?_ | (refine gT ?_; refine bP hh 0 ?_) | refine gV ?_
    first | refine gS ?_ | (refine gT ?_; refine aG ?_) | refine gV ?_
    first | refine dD ?_ | refine dA ?_
    refine mB ?_
    first | refine gS ?_ | (refine gT ?_; refine bI ?_) | refine gV ?_
    first | refine gS ?_ | (refine gT ?_; refine bP hh 0 ?_) | refine gV ?_
    first | refine gS ?_ | (refine gT ?_; refine bT ?_) | refine gV ?_
    first | refine dD ?_ | refine dA ?_
    refine aB (aa (aq ?_))
    refine cz ?_
    refine ⟨?_, hh.below⟩
    unfold qL
    rw [decide_eq_false (by omega)]
theorem Az {a : NR} (h : qL a = false) : a.ok ∧ Sz 124 a.d := by
 have h' := of_decide_eq_false h
 have h1 : (a.cB.size : Int) ≤ 8 := by omega
 have h2 : -60 ≤ a.e := by omega
 have h3 : a.e ≤ 60 := by omega
 exact ⟨⟨by omega, by omega, by omega⟩, Sz.raw (m := 64) (E := 60) (by omega) h2 h3⟩
def FX.small (f : FX) : Prop := f.iC 124 ∧ f.m ≤ 60 ∧ f.n ≤ 20
theorem ph (f : FX) (w : World) (hf : f.at_ w) :
  Calls Tryz.prog 20 #[.agg #[.slice f.A f.n f.a, .slice f.B f.m f.b]] w fun r w' => ∃ b : Bool, r = .returned (.bool b) ∧ (b = false → f.small) ∧ Below w.heap.size w w' := by
 have hh := Hp.start w
 have hl1 := hf.ln.1
 have hl2 := hf.ln.2
 by_cases h1 : 20 < f.n
 ·refine ao (N := 49) (l := [.agg #[.slice f.A f.n f.a, .slice f.B f.m f.b]]) Tryz.func20 rfl rfl (by simp) ?_
  refine sr ?_
  refine dm hh [_,_] ?_
  intro b1 w1 hh
  refine aB (aa (ah (sr (bI ?_))))
  refine bP hh 0 ?_
  refine aQ ?_
  refine bT (mB ?_)
  first | refine gS ?_ | (refine gT ?_; refine bI ?_) | refine gV ?_
  first | refine gS ?_ | (refine gT ?_; refine bP hh 0 ?_) | refine gV ?_
  first | refine gS ?_ | (refine gT ?_; refine aQ ?_) | refine gV ?_
  first | refine gS ?_ | (refine gT ?_; refine bT ?_) | refine gV ?_
  first | refine dD ?_ | refine dA ?_
  refine aa ?_
  refine cT (sr (aB (aa (aq (aM ?_)))))
  refine cz ?_
  exact ⟨_, rfl, fun h => (by cases h), hh.below⟩
 ·by_cases h2 : 60 < f.m
  ·refine ao (N := 49) (l := [.agg #[.slice f.A f.n f.a, .slice f.B f.m f.b]]) Tryz.func20 rfl rfl (by simp) ?_
   refine sr ?_
   refine dm hh [_,_] ?_
   intro b1 w1 hh
   refine aB (aa (ah (sr (bI ?_))))
   refine bP hh 0 ?_
   refine aQ ?_
   refine bT (mB ?_)
   first | refine gS ?_ | (refine gT ?_; refine bI ?_) | refine gV ?_
   first | refine gS ?_ | (refine gT ?_; refine bP hh 0 ?_) | refine gV ?_
   first | refine gS ?_ | (refine gT ?_; refine aQ ?_) | refine gV ?_
   first | refine gS ?_ | (refine gT ?_; refine bT ?_) | refine gV ?_
   first | refine dD ?_ | refine dA ?_
   refine aa ?_
   refine cT (sr (aB (aa (aq (aM ?_)))))
   refine cz ?_
   exact ⟨_, rfl, fun h => (by cases h), hh.below⟩
  ·refine ao (N := 49) (l := [.agg #[.slice f.A f.n f.a, .slice f.B f.m f.b]]) Tryz.func20 rfl rfl (by simp) ?_
   refine sr ?_
   refine dm hh [_,_] ?_
   intro b1 w1 hh
   refine aB (aa (ah (sr (bI ?_))))
   refine bP hh 0 ?_
   refine aQ ?_
   refine bT (mB ?_)
   first | refine gS ?_ | (refine gT ?_; refine bI ?_) | refine gV ?_
   first | refine gS ?_ | (refine gT ?_; refine bP hh 0 ?_) | refine gV ?_
   first | refine gS ?_ | (refine gT ?_; refine aQ ?_) | refine gV ?_
   first | refine gS ?_ | (refine gT ?_; refine bT ?_) | refine gV ?_
   first | refine dD ?_ | refine dA ?_
   refine aa ?_
   refine cF (ak (ai (ah (sr (aI (aa (aj ?_)))))))
   refine bp [2, 3, 15, 16, 17, 18, 19, 20, 21, 22, 23, 24, 25, 26, 27] 3
    (fun v w' => ∃ i : Nat, i ≤ f.m ∧ v = .int .i64 i ∧ (∀ x ∈ f.cs.take i, qL x = false) ∧ Hp w [.blk b1 28 [.slice f.A f.n f.a, .slice f.B f.m f.b] (0, 0)] w')
    (fun v _ => f.m - (intOf v).toNat) ?_ ?_
   ·exact ⟨0, Nat.zero_le _, rfl, fun x hx => (by simp at hx), hh⟩
   ·clear hh
    rintro ρ' v w' ⟨i, hi, rfl, hall, hh⟩
    by_cases hlt : i < f.m
    ·obtain ⟨x, hx⟩ := ar (l := f.cs) (k := i) (by omega)
     obtain ⟨a2, hA2, s2⟩ := hf.nm.at_ (by omega)
     have hev : Value.slice f.B f.m f.b = .slice (some a2) f.m f.b := by rw [hA2]
     have hc := fun w1 => su x w1
     cases hb : qL x with
     | true =>
      rw [hb] at hc
      refine ah (sr (mI (bI ?_)))
      refine bP hh 0 ?_
      refine aQ ?_
      refine aG (aa (cT (ak (ai (ah (aj (sr (bI ?_))))))))
      refine bP hh 0 ?_
      refine mI ?_
      refine aF (k := i) aH.out aE.size hev rfl (by omega) (by omega) (by decide) ?_
      refine cW (vs := [_, _, _]) aE.out rfl ((s2.ext hh.below).recAt NR.len hx) rfl (by decide) ?_
      refine bJ hh (hc _) rfl ?_
      intro w27 hh
      refine aa (cT (sr (aB (aa (aq (bR (aM (aM (bR (aM ?_))))))))))
      refine cz ?_
      exact ⟨_, rfl, fun h => (by cases h), hh.below⟩
     | false =>
      rw [hb] at hc
      refine ah (sr (mI (bI ?_)))
      refine bP hh 0 ?_
      refine aQ ?_
      refine aG (aa (cT (ak (ai (ah (aj (sr (bI ?_))))))))
      refine bP hh 0 ?_
      refine mI ?_
      refine aF (k := i) aH.out aE.size hev rfl (by omega) (by omega) (by decide) ?_
      refine cW (vs := [_, _, _]) aE.out rfl ((s2.ext hh.below).recAt NR.len hx) rfl (by decide) ?_
      refine bJ hh (hc _) rfl ?_
      intro w27 hh
      refine aa (cF (ak (aT (ai (al (mI ?_))))))
      refine bz (aI (aC (ai ?_)))
      refine ⟨⟨i + 1, by omega, rfl, fun y hy => ?_, hh⟩, by show f.m - (i + 1) < f.m - i; omega, ?_⟩
      ·rw [aO hx, List.mem_append, List.mem_singleton] at hy
       rcases hy with hy | rfl
       ·exact hall y hy
       ·exact hb
      ·(repeat (first | exact aw _ _ _ | refine ay rfl ?_ | refine au rfl ?_))
    ·rw [List.take_of_length_le (by omega)] at hall
     have hfin : f.small := ⟨⟨by omega, by omega, fun c hc => Az (hall c hc)⟩, by omega, by omega⟩
     clear hall
     refine ah (sr (mI (bI ?_)))
     refine bP hh 0 ?_
     refine aQ ?_
     refine aG (aa (cF ?_))
     refine aJ ?_
     refine ax (ax (aZ (ai (ah (sr (aI (aa (aj ?_))))))))
     refine bp [2, 4, 28, 29, 30, 31, 32, 33, 34, 35, 36, 37, 38, 39, 40, 41, 42, 43, 44, 45, 46, 47, 48] 4
      (fun v w' => ∃ i : Nat, i ≤ f.n ∧ v = .int .i64 i ∧ Hp w [.blk b1 28 [.slice f.A f.n f.a, .slice f.B f.m f.b] (0, 0)] w')
      (fun v _ => f.n - (intOf v).toNat) ?_ ?_
     ·exact ⟨0, Nat.zero_le _, rfl, hh⟩
     ·clear hh
      rintro ρ2 v w2 ⟨j, hj, rfl, hh⟩
      by_cases hlt2 : j < f.n
      ·obtain ⟨d, hd⟩ := ar (l := f.ds) (k := j) (by omega)
       have hgd := bB hd
       obtain ⟨a1, hA1, s1⟩ := hf.dg.at_ (by omega)
       have hev : Value.slice f.A f.n f.a = .slice (some a1) f.n f.a := by rw [hA1]
       by_cases h6 : 6 < d
       ·by_cases h128 : d < 128
        ·refine ah (sr (mI (bI ?_)))
         refine bP hh 0 ?_
         refine aQ ?_
         refine aG (aa (cT (ak (ai (ah (aj (sr (bI ?_))))))))
         refine bP hh 0 ?_
         refine mI ?_
         refine aF (k := j) aH.out aE.size hev rfl (by omega) (by omega) (by decide) ?_
         refine aN aE.out rfl ((s1.ext hh.below).dR hgd) (by decide) ?_
         refine bT (mB ?_)
         first | refine gS ?_ | (refine gT ?_; refine bI ?_) | refine gV ?_
         first | refine gS ?_ | (refine gT ?_; refine bP hh 0 ?_) | refine gV ?_
         first | refine gS ?_ | (refine gT ?_; refine mI ?_) | refine gV ?_
         first | refine gS ?_ | (refine gT ?_; refine aF (k := j) aH.out aE.size hev rfl (by omega) (by omega) (by decide) ?_) | refine gV ?_
         refine bo rfl rfl ?_
         refine aN aE.out rfl ((s1.ext hh.below).dR hgd) (by decide) ?_
         first | refine gS ?_ | (refine gT ?_; refine aG ?_) | refine gV ?_
         first | refine dD ?_ | refine dA ?_
         refine aa (cT (sr (aB (aa (aq (bR (aM (aM (bR (aM ?_))))))))))
         refine cz ?_
         exact ⟨_, rfl, fun h => (by cases h), hh.below⟩
        ·refine ah (sr (mI (bI ?_)))
         refine bP hh 0 ?_
         refine aQ ?_
         refine aG (aa (cT (ak (ai (ah (aj (sr (bI ?_))))))))
         refine bP hh 0 ?_
         refine mI ?_
         refine aF (k := j) aH.out aE.size hev rfl (by omega) (by omega) (by decide) ?_
         refine aN aE.out rfl ((s1.ext hh.below).dR hgd) (by decide) ?_
         refine bT (mB ?_)
         first | refine gS ?_ | (refine gT ?_; refine bI ?_) | refine gV ?_
         first | refine gS ?_ | (refine gT ?_; refine bP hh 0 ?_) | refine gV ?_
         first | refine gS ?_ | (refine gT ?_; refine mI ?_) | refine gV ?_
         first | refine gS ?_ | (refine gT ?_; refine aF (k := j) aH.out aE.size hev rfl (by omega) (by omega) (by decide) ?_) | refine gV ?_
         refine bo rfl rfl ?_
         refine aN aE.out rfl ((s1.ext hh.below).dR hgd) (by decide) ?_
         first | refine gS ?_ | (refine gT ?_; refine aG ?_) | refine gV ?_
         first | refine dD ?_ | refine dA ?_
         refine aa (cF (ak (aT (ai (al (mI ?_))))))
         refine bz (aI (aC (ai ?_)))
         refine ⟨⟨j + 1, by omega, rfl, hh⟩, by show f.n - (j + 1) < f.n - j; omega, ?_⟩
         (repeat (first | exact aw _ _ _ | refine ay rfl ?_ | refine au rfl ?_))
       ·refine ah (sr (mI (bI ?_)))
        refine bP hh 0 ?_
        refine aQ ?_
        refine aG (aa (cT (ak (ai (ah (aj (sr (bI ?_))))))))
        refine bP hh 0 ?_
        refine mI ?_
        refine aF (k := j) aH.out aE.size hev rfl (by omega) (by omega) (by decide) ?_
        refine aN aE.out rfl ((s1.ext hh.below).dR hgd) (by decide) ?_
        refine bT (mB ?_)
        first | refine gS ?_ | (refine gT ?_; refine bI ?_) | refine gV ?_
        first | refine gS ?_ | (refine gT ?_; refine bP hh 0 ?_) | refine gV ?_
        first | refine gS ?_ | (refine gT ?_; refine mI ?_) | refine gV ?_
        first | refine gS ?_ | (refine gT ?_; refine cI aH.out aE.size rfl rfl (by omega) (by omega) (by decide) ?_) | refine gV ?_
        first | (refine cw (by decide) rfl rfl (by decide) ?_) | (refine wl_guard_skipV (by decide) rfl rfl ?_)
        first | refine gS ?_ | (refine gT ?_; refine aG ?_) | refine gV ?_
        first | refine dD ?_ | refine dA ?_
        refine aa (cF (ak (aT (ai (al (mI ?_))))))
        refine bz (aI (aC (ai ?_)))
        refine ⟨⟨j + 1, by omega, rfl, hh⟩, by show f.n - (j + 1) < f.n - j; omega, ?_⟩
        (repeat (first | exact aw _ _ _ | refine ay rfl ?_ | refine au rfl ?_))
      ·refine ah (sr (mI (bI ?_)))
       refine bP hh 0 ?_
       refine aQ ?_
       refine aG (aa (cF ?_))
       refine aJ ?_
       refine ax (ax (aZ (ai (sr (aB (aa (aq ?_)))))))
       refine cz ?_
       exact ⟨_, rfl, fun _ => hfin, hh.below⟩
theorem px (A : Option Addr) (n c : Nat) (ds : List Int) (w : World) (hS : Sl w A n 1 (bs ds)) :
  Calls Tryz.prog 21 #[.slice A n c] w fun r w' => ∃ b : Bool, r = .returned (.bool b) ∧ (b = false → n ≤ 20) ∧ Below w.heap.size w w' := by
 have hh := Hp.start w
 have hln : ds.length = n := by have := hS.1; simpa [bs] using this
 by_cases h1 : 20 < n
 ·refine ao (N := 38) (l := [.slice A n c]) Tryz.func21 rfl rfl (by simp) ?_
  refine sr (aB (aa (ah (sr (mL (aQ ?_))))))
  refine bT (aa (cT (sr (aB (aa (aq (aM ?_)))))))
  refine cz ?_
  exact ⟨_, rfl, fun h => (by cases h), hh.below⟩
 ·have hc := fun w1 hb => dW A n c ds w1 (hS.ext hb) (by omega)
  generalize jc ds = q at *
  refine ao (N := 38) (l := [.slice A n c]) Tryz.func21 rfl rfl (by simp) ?_
  refine sr (aB (aa (ah (sr (mL (aQ ?_))))))
  refine bT (aa (cF (ak (ai (sr (mL ?_))))))
  refine bJ hh (hc _ hh.below) rfl ?_
  intro w9 hh
  refine aI (aa (ah (sr (aI (aa (aj ?_))))))
  refine bp [2, 4, 10, 11, 12, 13, 14, 15, 16, 17, 18, 19, 20, 21, 22, 23, 24, 25, 26, 27, 28, 29, 30, 31] 4
   (fun v w' => ∃ i : Nat, i ≤ n ∧ v = .int .i64 i ∧ Hp w [] w')
   (fun v _ => n - (intOf v).toNat) ?_ ?_
  ·exact ⟨0, Nat.zero_le _, rfl, hh⟩
  ·clear hh
   rintro ρ2 v w2 ⟨j, hj, rfl, hh⟩
   by_cases hlt : j < n
   ·obtain ⟨d, hd⟩ := ar (l := ds) (k := j) (by omega)
    have hgd := bB hd
    obtain ⟨a1, rfl, hr⟩ := hS.at_ (by omega)
    by_cases h6 : 8 < d
    ·by_cases h128 : d < 128
     ·by_cases h4 : q ≤ 4096
      ·refine ah (sr (mI (mL (aQ ?_))))
       refine aG (aa (cT (ak (ai (ah (aj (sr (mL (mI ?_)))))))))
       refine aF (k := j) aH.out aE.size rfl rfl (by omega) (by omega) (by decide) ?_
       refine aN aE.out rfl ((hr.ext hh.below).dR (by assumption)) (by decide) ?_
       refine bT (mB ?_)
       first | refine gS ?_ | (refine gT ?_; refine mL ?_) | refine gV ?_
       first | refine gS ?_ | (refine gT ?_; refine mI ?_) | refine gV ?_
       first | refine gS ?_ | (refine gT ?_; refine aF (k := j) aH.out aE.size rfl rfl (by omega) (by omega) (by decide) ?_) | refine gV ?_
       first | refine gS ?_ | (refine gT ?_; refine aN aE.out rfl ((hr.ext hh.below).dR (by assumption)) (by decide) ?_) | refine gV ?_
       first | refine gS ?_ | (refine gT ?_; refine aG ?_) | refine gV ?_
       first | refine dD ?_ | refine dA ?_
       refine mB ?_
       first | refine gS ?_ | (refine gT ?_; refine mI ?_) | refine gV ?_
       first | refine gS ?_ | (refine gT ?_; refine nQ ?_) | refine gV ?_
       first | refine dD ?_ | refine dA ?_
       refine aa ?_
       refine cT (sr (aB (aa (aq (bR (aM (aM (bR (aM ?_)))))))))
       refine cz ?_
       exact ⟨_, rfl, fun h => (by cases h), hh.below⟩
      ·refine ah (sr (mI (mL (aQ ?_))))
       refine aG (aa (cT (ak (ai (ah (aj (sr (mL (mI ?_)))))))))
       refine aF (k := j) aH.out aE.size rfl rfl (by omega) (by omega) (by decide) ?_
       refine aN aE.out rfl ((hr.ext hh.below).dR (by assumption)) (by decide) ?_
       refine bT (mB ?_)
       first | refine gS ?_ | (refine gT ?_; refine mL ?_) | refine gV ?_
       first | refine gS ?_ | (refine gT ?_; refine mI ?_) | refine gV ?_
       first | refine gS ?_ | (refine gT ?_; refine aF (k := j) aH.out aE.size rfl rfl (by omega) (by omega) (by decide) ?_) | refine gV ?_
       first | refine gS ?_ | (refine gT ?_; refine aN aE.out rfl ((hr.ext hh.below).dR (by assumption)) (by decide) ?_) | refine gV ?_
       first | refine gS ?_ | (refine gT ?_; refine aG ?_) | refine gV ?_
       first | refine dD ?_ | refine dA ?_
       refine mB ?_
       first | refine gS ?_ | (refine gT ?_; refine mI ?_) | refine gV ?_
       first | refine gS ?_ | (refine gT ?_; refine nQ ?_) | refine gV ?_
       first | refine dD ?_ | refine dA ?_
       refine aa ?_
       refine cF (ak (aT (ai (al (mI ?_)))))
       refine bz (aI (aC (ai ?_)))
       refine ⟨⟨j + 1, by omega, rfl, hh⟩, by show n - (j + 1) < n - j; omega, ?_⟩
       (repeat (first | exact aw _ _ _ | refine ay rfl ?_ | refine au rfl ?_))
     ·refine ah (sr (mI (mL (aQ ?_))))
      refine aG (aa (cT (ak (ai (ah (aj (sr (mL (mI ?_)))))))))
      refine aF (k := j) aH.out aE.size rfl rfl (by omega) (by omega) (by decide) ?_
      refine aN aE.out rfl ((hr.ext hh.below).dR (by assumption)) (by decide) ?_
      refine bT (mB ?_)
      first | refine gS ?_ | (refine gT ?_; refine mL ?_) | refine gV ?_
      first | refine gS ?_ | (refine gT ?_; refine mI ?_) | refine gV ?_
      first | refine gS ?_ | (refine gT ?_; refine aF (k := j) aH.out aE.size rfl rfl (by omega) (by omega) (by decide) ?_) | refine gV ?_
      first | refine gS ?_ | (refine gT ?_; refine aN aE.out rfl ((hr.ext hh.below).dR (by assumption)) (by decide) ?_) | refine gV ?_
      first | refine gS ?_ | (refine gT ?_; refine aG ?_) | refine gV ?_
      first | refine dD ?_ | refine dA ?_
      refine mB ?_
      first | refine gS ?_ | (refine gT ?_; refine mI ?_) | refine gV ?_
      first | refine gS ?_ | (refine gT ?_; refine nQ ?_) | refine gV ?_
      first | refine dD ?_ | refine dA ?_
      refine aa ?_
      refine cF (ak (aT (ai (al (mI ?_)))))
      refine bz (aI (aC (ai ?_)))
      refine ⟨⟨j + 1, by omega, rfl, hh⟩, by show n - (j + 1) < n - j; omega, ?_⟩
      (repeat (first | exact aw _ _ _ | refine ay rfl ?_ | refine au rfl ?_))
    ·refine ah (sr (mI (mL (aQ ?_))))
     refine aG (aa (cT (ak (ai (ah (aj (sr (mL (mI ?_)))))))))
     refine aF (k := j) aH.out aE.size rfl rfl (by omega) (by omega) (by decide) ?_
     refine aN aE.out rfl ((hr.ext hh.below).dR (by assumption)) (by decide) ?_
     refine bT (mB ?_)
     first | refine gS ?_ | (refine gT ?_; refine mL ?_) | refine gV ?_
     first | refine gS ?_ | (refine gT ?_; refine mI ?_) | refine gV ?_
     first | refine gS ?_ | (refine gT ?_; refine aF (k := j) aH.out aE.size rfl rfl (by omega) (by omega) (by decide) ?_) | refine gV ?_
     first | refine gS ?_ | (refine gT ?_; refine aN aE.out rfl ((hr.ext hh.below).dR (by assumption)) (by decide) ?_) | refine gV ?_
     first | refine gS ?_ | (refine gT ?_; refine aG ?_) | refine gV ?_
     first | refine dD ?_ | refine dA ?_
     refine mB ?_
     first | refine gS ?_ | (refine gT ?_; refine mI ?_) | refine gV ?_
     first | refine gS ?_ | (refine gT ?_; refine nQ ?_) | refine gV ?_
     first | refine dD ?_ | refine dA ?_
     refine aa ?_
     refine cF (ak (aT (ai (al (mI ?_)))))
     refine bz (aI (aC (ai ?_)))
     refine ⟨⟨j + 1, by omega, rfl, hh⟩, by show n - (j + 1) < n - j; omega, ?_⟩
     (repeat (first | exact aw _ _ _ | refine ay rfl ?_ | refine au rfl ?_))
   ·by_cases h3 : 300 < q
    ·refine ah (sr (mI (mL (aQ ?_))))
     refine aG (aa (cF ?_))
     refine aJ ?_
     refine ax (ax (aZ (ai (sr (mI ?_)))))
     refine bT (mB ?_)
     first | refine gS ?_ | (refine gT ?_; refine mI ?_) | refine gV ?_
     first | refine gS ?_ | (refine gT ?_; refine nQ ?_) | refine gV ?_
     first | refine dD ?_ | refine dA ?_
     refine aB (aa (aq ?_))
     refine cz ?_
     exact ⟨_, rfl, fun _ => by omega, hh.below⟩
    ·refine ah (sr (mI (mL (aQ ?_))))
     refine aG (aa (cF ?_))
     refine aJ ?_
     refine ax (ax (aZ (ai (sr (mI ?_)))))
     refine bT (mB ?_)
     first | refine gS ?_ | (refine gT ?_; refine mI ?_) | refine gV ?_
     first | refine gS ?_ | (refine gT ?_; refine nQ ?_) | refine gV ?_
     first | refine dD ?_ | refine dA ?_
     refine aB (aa (aq ?_))
     refine cz ?_
     exact ⟨_, rfl, fun _ => by omega, hh.below⟩
theorem qt (L : Option Addr) (n c : Nat) (fs : List FX) (w : World) (hL : Sl w L n 2 (bF FX.cells fs)) (hf : ∀ f ∈ fs, f.at_ w) :
  Calls Tryz.prog 12 #[.slice L n c] w fun r w' => ∃ b : Bool, r = .returned (.bool b) ∧ (b = false → n ≤ 3 ∧ ∀ f ∈ fs, f.small) ∧ Below w.heap.size w w' := by
 have hh := Hp.start w
 have hln := hL.cP FX.len (by decide)
 by_cases h1 : 3 < n
 ·refine ao (N := 62) (l := [.slice L n c]) Tryz.func12 rfl rfl (by simp) ?_
  refine sr (aB (aa (ah (sr (mL (aQ ?_))))))
  refine bT (aa (cT (sr (aB (aa (aq (aM ?_)))))))
  refine cz ?_
  exact ⟨_, rfl, fun h => (by cases h), hh.below⟩
 ·refine ao (N := 62) (l := [.slice L n c]) Tryz.func12 rfl rfl (by simp) ?_
  refine sr (aB (aa (ah (sr (mL (aQ ?_))))))
  refine bT (aa (cF (ak (ai (ah (sr (aI (aa (aj ?_)))))))))
  refine bp [2, 3, 10, 11, 12, 13, 14, 15, 16, 17, 18, 19, 20] 3
   (fun v w' => ∃ i : Nat, i ≤ n ∧ v = .int .i64 i ∧ (∀ f ∈ fs.take i, f.small) ∧ Hp w [] w')
   (fun v _ => n - (intOf v).toNat) ?_ ?_
  ·exact ⟨0, Nat.zero_le _, rfl, fun x hx => (by simp at hx), hh⟩
  ·clear hh
   rintro ρ' v w' ⟨i, hi, rfl, hall, hh⟩
   by_cases hlt : i < n
   ·obtain ⟨f, hx⟩ := ar (l := fs) (k := i) (by omega)
    have hmem := List.mem_of_getElem? hx
    have hc := fun w1 hb => ph f w1 ((hf f hmem).ext hb)
    obtain ⟨ad, rfl, hr⟩ := hL.at_ (by omega)
    refine ah (sr (mI (mL (aQ ?_))))
    refine aG (aa (cT (ak (ai (ah (aj (sr (mL (mI ?_)))))))))
    refine aF (k := i) aH.out aE.size rfl rfl (by omega) (by omega) (by decide) ?_
    refine cW (vs := [_, _]) aE.out rfl ((hr.ext hh.below).recAt FX.len hx) rfl (by decide) ?_
    refine a6 (hc _ hh.below) az.out rfl (by decide) ?_
    rintro e_ w20 ⟨b, rfl, hb, hb_⟩
    refine ⟨_, rfl, ?_⟩
    replace hh := hh.ext hb_
    cases b with
    | true =>
     refine aa (cT (sr (aB (aa (aq (bR (aM (aM (bR (aM ?_))))))))))
     refine cz ?_
     exact ⟨_, rfl, fun h => (by cases h), hh.below⟩
    | false =>
     have hb := hb rfl
     refine aa (cF (ak (aT (ai (al (mI ?_))))))
     refine bz (aI (aC (ai ?_)))
     refine ⟨⟨i + 1, by omega, rfl, fun y hy => ?_, hh⟩, by show n - (i + 1) < n - i; omega, ?_⟩
     ·rw [aO hx, List.mem_append, List.mem_singleton] at hy
      rcases hy with hy | rfl
      ·exact hall y hy
      ·exact hb
     ·(repeat (first | exact aw _ _ _ | refine ay rfl ?_ | refine au rfl ?_))
   ·rw [List.take_of_length_le (by omega)] at hall
    refine ah (sr (mI (mL (aQ ?_))))
    refine aG (aa (cF ?_))
    refine aJ ?_
    refine ax (ax (aZ (ai (sr (aL (aa (ah (sr (aI (aa (aj ?_)))))))))))
    replace hh := hh.dx 3 1
    refine bX [4, 5, 6, 21, 22, 23, 24, 25, 26, 27, 28, 29, 30, 31, 32, 33, 34, 35, 36, 37, 38, 39, 40, 41, 42, 43, 44, 45, 46, 47, 48, 49, 50, 51, 52, 53, 54, 55, 56, 57, 58, 59] 4 5
     (fun v4 v w' => ∃ (i m c4 : Nat) (A : Option Addr) (ds : List Int), i ≤ n ∧ v = .int .i64 i ∧ v4 = .slice A m c4 ∧ m ≤ 20 ∧ ds.length = m ∧ Hp w [.row A m c4 3 1 (bs ds)] w')
     (fun _ v _ => n - (intOf v).toNat) ?_ ?_
    ·exact ⟨0, 0, 0, none, [], Nat.zero_le _, rfl, rfl, by omega, rfl, hh⟩
    ·clear hh
     rintro ρ2 v4 v w2 ⟨i, m, c4, A, ds, hi, rfl, rfl, hm, hdl, hh⟩
     by_cases hlt2 : i < n
     ·obtain ⟨fo, hx⟩ := ar (l := fs) (k := i) (by omega)
      have hmem := List.mem_of_getElem? hx
      have hfn := (hall fo hmem).2.2
      have hl1 := (hf fo hmem).ln.1
      obtain ⟨ad, rfl, hr⟩ := hL.at_ (by omega)
      refine ah (sr (mI (mL (aQ ?_))))
      refine aG (aa (cT (ak (ai (ah (aj (sr (aI (aa (aj ?_))))))))))
      refine bX [4, 6, 27, 28, 29, 30, 31, 32, 33, 34, 35, 36, 37, 38, 39, 40, 41, 42, 43, 44, 45, 46, 47, 48, 49, 50, 51, 52, 53, 54, 55, 56, 57, 58, 59] 4 6
       (fun v4 v w' => ∃ (k m c4 : Nat) (A : Option Addr) (ds : List Int), k ≤ fo.n ∧ k ≤ m ∧ v = .int .i64 k ∧ v4 = .slice A m c4 ∧ m ≤ 20 ∧ ds.length = m ∧ Hp w [.row A m c4 3 1 (bs ds)] w')
       (fun _ v _ => fo.n - (intOf v).toNat) ?_ ?_
      ·exact ⟨0, m, c4, A, ds, Nat.zero_le _, Nat.zero_le _, rfl, rfl, hm, hdl, hh⟩
      ·clear hh hdl hm
       rintro ρ3 v4 v w3 ⟨k, m, c4, A, ds, hk, hkm, rfl, rfl, hm, hdl, hh⟩
       by_cases hkn : k < fo.n
       ·obtain ⟨y, hy⟩ := ar (l := fo.ds) (k := k) (by omega)
        have hgy := bB hy
        obtain ⟨a2, hA2, s2⟩ := (hf fo hmem).dg.at_ (by omega)
        have fl : ∀ w1, Below w.heap.size w w1 → w1.cell? ((ad.add (i * 2)).add 0) = some (.slice (some a2) fo.n fo.a) := fun w1 hb => by
         have := cM hb ((hr.recAt FX.len hx) 0 _ rfl)
         rwa [hA2] at this
        refine ah (sr (mI (mL (mI ?_))))
        refine aF (k := i) aH.out aE.size rfl rfl (by omega) (by omega) (by decide) ?_
        refine gK eB.out rfl (by decide) ?_
        refine aN aE.out rfl (fl _ hh.below) (by decide) ?_
        by_cases hkl : k = m
        ·refine aQ ?_
         refine aG (aa (cT (ak (ai (ah (aj (ah (sr (mI (mL (aQ ?_)))))))))))
         refine dP (aa (cT (al (mL ?_))))
         refine aP hh (cs := [_]) aH.out aE.out (aY rfl bO) rfl rfl (by decide) (by decide) (by decide) rfl (by decide) ?_
         intro b42 w42 hh
         refine cu hh (i := 1) rfl rfl rfl (hh.aX (i := 0) rfl) aH.out aE.out rfl (by decide) (by first | rfl | exact bZ _ | exact bK _ | exact bC _ | exact bL NR.one _) (by omega) (by omega) (by decide) ?_
         intro A43 c43 w43 hh
         simp only [List.set_cons_zero, List.set_cons_succ] at hh
         replace hh := hh.sub (List.sublist_cons_self _ _)
         refine aL (aa ?_)
         obtain ⟨gd, rfl⟩ := hh.cK (i := 0) rfl (by omega)
         obtain ⟨es, he1⟩ : ∃ es, bs es = bs ds ++ [.int .i64 0] := ⟨ds ++ [0], by simp [bs]⟩
         have hel0 : es.length = m + 1 := by
          have := congrArg List.length he1
          simpa [bs, hdl] using this
         replace hh : Hp w [.row (some ⟨gd, 0, none⟩) (m + 1) c43 3 1 (bs ds ++ [.int .i64 0])] _ := hh
         rw [← he1] at hh
         obtain ⟨x, hx2⟩ := ar (l := es) (k := k) (by omega)
         have hgx := bB hx2
         have hel : (bs es).length = m + 1 := by rw [bV, hel0]
         refine aK 15 [[(4, none)], [(6, none)], [(4, none)], [(6, none)], [(46, some 2), (47, some 3)], [(48, some 4)], [(0, none)], [(5, none)], [(50, some 6), (51, some 7)], [(52, some 8)], [(53, some 9)], [(6, none)], [(54, some 10), (55, some 11)], [(56, some 12)], [(49, some 5), (57, some 13)]] [(14, 58), (13, 57), (12, 56), (11, 55), (10, 54), (9, 53), (8, 52), (7, 51), (6, 50), (5, 49), (4, 48), (3, 47), (2, 46), (1, 45), (0, 44)] hh mixed (by kernel_rfl) ?_
         refine eP ?_
         refine dn ?_
         refine eP ?_
         refine dn ?_
         refine mu (k) ?_
         refine aR (i := 5) (fun ρ1 w1 hj hR => cm aE.out (show ρ1 48 = Value.pointer _ from hR.1) (hj.hp.ck (i := 0) rfl (by rw [Nat.mul_one]; exact hgx))) ?_
         refine eP ?_
         refine dn ?_
         refine hH (i) ?_
         refine wS ?_
         refine jy (fun _ hj => fl _ hj.hp.below) ?_
         refine dn ?_
         refine aR (i := 12) (fun ρ1 w1 hj hR => bQ aH.out aE.size (show ρ1 54 = Value.slice _ _ _ from hR.1) (show ρ1 55 = Value.int _ _ from hR.2.1) (by omega) (by omega)) ?_
         refine jy (fun _ hj => (s2.ext hj.hp.below).dR hgy) ?_
         refine aR (i := 14) (fun ρ1 w1 hj hR => tM (show ρ1 49 = Value.int _ _ from hR.1) (show ρ1 57 = Value.int _ _ from hR.2.1)) ?_
         refine bm ?_
         intro f W hJ hV
         have hb_17 := hJ.bl
         obtain ⟨v58, v57, v56, v55, v54, v53, v52, v51, v50, v49, v48, v47, v46, v45, v44, _⟩ := hV
         replace hh := hJ.hp
         refine aU (bk (ae v58 (ae v57 (ae v56 (ae v55 (ae v54 (ae v53 (ae v52 (ae v51 (ae v50 (ae v49 (ae v48 (ae v47 (ae v46 (ae v45 (ae v44 aV)))))))))))))))) ?_
         dsimp only [cd]
         clear hJ
         refine bj (k := k) aH.out aE.size rfl rfl (by omega) (by omega) (by decide) ?_
         refine bx hh (i := 0) (vs := [_]) rfl rfl (bU rfl) rfl aE.out rfl (by omega) rfl ?_
         intro ws hh
         simp only [List.set_cons_zero] at hh
         rw [eD _ (by rw [← bV]; omega)] at hh
         refine aC (aT (ai (al (mI ?_))))
         refine bz (aI (aC (ai ?_)))
         refine ⟨⟨k + 1, m + 1, _, _, _, by omega, by omega, rfl, rfl, by omega, by rw [List.length_set]; exact hel0, hh⟩, by show fo.n - (k + 1) < fo.n - k; omega, ?_⟩
         (repeat (first | exact aw _ _ _ | refine ay rfl ?_ | refine au rfl ?_))
        ·refine aQ ?_
         refine aG (aa (cT (ak (ai (ah (aj (ah (sr (mI (mL (aQ ?_)))))))))))
         refine dP (aa (cF (ak (ai ?_))))
         obtain ⟨gd, rfl⟩ := hh.cK (i := 0) rfl (by omega)
         have hel0 := hdl
         obtain ⟨x, hx2⟩ := ar (l := ds) (k := k) (by omega)
         have hgx := bB hx2
         have hel : (bs ds).length = m := by rw [bV, hel0]
         refine aK 15 [[(4, none)], [(6, none)], [(4, none)], [(6, none)], [(46, some 2), (47, some 3)], [(48, some 4)], [(0, none)], [(5, none)], [(50, some 6), (51, some 7)], [(52, some 8)], [(53, some 9)], [(6, none)], [(54, some 10), (55, some 11)], [(56, some 12)], [(49, some 5), (57, some 13)]] [(14, 58), (13, 57), (12, 56), (11, 55), (10, 54), (9, 53), (8, 52), (7, 51), (6, 50), (5, 49), (4, 48), (3, 47), (2, 46), (1, 45), (0, 44)] hh mixed (by kernel_rfl) ?_
         refine eP ?_
         refine dn ?_
         refine eP ?_
         refine dn ?_
         refine mu (k) ?_
         refine aR (i := 5) (fun ρ1 w1 hj hR => cm aE.out (show ρ1 48 = Value.pointer _ from hR.1) (hj.hp.ck (i := 0) rfl (by rw [Nat.mul_one]; exact hgx))) ?_
         refine eP ?_
         refine dn ?_
         refine hH (i) ?_
         refine wS ?_
         refine jy (fun _ hj => fl _ hj.hp.below) ?_
         refine dn ?_
         refine aR (i := 12) (fun ρ1 w1 hj hR => bQ aH.out aE.size (show ρ1 54 = Value.slice _ _ _ from hR.1) (show ρ1 55 = Value.int _ _ from hR.2.1) (by omega) (by omega)) ?_
         refine jy (fun _ hj => (s2.ext hj.hp.below).dR hgy) ?_
         refine aR (i := 14) (fun ρ1 w1 hj hR => tM (show ρ1 49 = Value.int _ _ from hR.1) (show ρ1 57 = Value.int _ _ from hR.2.1)) ?_
         refine bm ?_
         intro f W hJ hV
         have hb_17 := hJ.bl
         obtain ⟨v58, v57, v56, v55, v54, v53, v52, v51, v50, v49, v48, v47, v46, v45, v44, _⟩ := hV
         replace hh := hJ.hp
         refine aU (bk (ae v58 (ae v57 (ae v56 (ae v55 (ae v54 (ae v53 (ae v52 (ae v51 (ae v50 (ae v49 (ae v48 (ae v47 (ae v46 (ae v45 (ae v44 aV)))))))))))))))) ?_
         dsimp only [cd]
         clear hJ
         refine bj (k := k) aH.out aE.size rfl rfl (by omega) (by omega) (by decide) ?_
         refine bx hh (i := 0) (vs := [_]) rfl rfl (bU rfl) rfl aE.out rfl (by omega) rfl ?_
         intro ws hh
         simp only [List.set_cons_zero] at hh
         rw [eD _ (by rw [← bV]; omega)] at hh
         refine aC (aT (ai (al (mI ?_))))
         refine bz (aI (aC (ai ?_)))
         refine ⟨⟨k + 1, m, _, _, _, by omega, by omega, rfl, rfl, by omega, by rw [List.length_set]; exact hel0, hh⟩, by show fo.n - (k + 1) < fo.n - k; omega, ?_⟩
         (repeat (first | exact aw _ _ _ | refine ay rfl ?_ | refine au rfl ?_))
       ·refine ah (sr (mI (mL (mI ?_))))
        refine aF (k := i) aH.out aE.size rfl rfl (by omega) (by omega) (by decide) ?_
        refine gK eB.out rfl (by decide) ?_
        refine aN aE.out rfl (cM hh.below ((hr.recAt FX.len hx) 0 _ rfl)) (by decide) ?_
        refine aQ ?_
        refine aG (aa (cF ?_))
        refine aJ ?_
        refine ax (ax (aZ (aT (ai (al (mI ?_))))))
        refine bz (aI (aC (ai ?_)))
        refine ⟨⟨i + 1, m, c4, A, ds, by omega, rfl, rfl, hm, hdl, hh⟩, by show n - (i + 1) < n - i; omega, ?_⟩
        (repeat (first | exact aw _ _ _ | refine ay rfl ?_ | refine au rfl ?_))
     ·have hs := fun w1 hS1 => px A m c4 ds w1 hS1
      refine ah (sr (mI (mL (aQ ?_))))
      refine aG (aa (cF ?_))
      refine aJ ?_
      refine ax (ax (aZ (ai (sr (mL ?_)))))
      refine a6 (hs _ (hh.aX (i := 0) rfl)) az.out rfl (by decide) ?_
      rintro e_ w61 ⟨b, rfl, -, hb_⟩
      refine ⟨_, rfl, ?_⟩
      replace hh := hh.ext hb_
      refine aB (aa (aq ?_))
      refine cz ?_
      exact ⟨b, rfl, fun _ => ⟨by omega, hall⟩, hh.below⟩
end Go.Proofs.YtioilmppidlbnaaGreatDoor
/- The walks through ogeelaw14's examples. -/
namespace Go.Proofs.YtioilmppidlbnaaGreatDoor
open Go.RowKit
abbrev ki (l : List Int) (A : Option Addr) (a : Nat) (B : Option Addr) (b : Nat) : FX := ⟨A, 1, a, B, l.length, b, [(l.length : Int) - 1], l.map fun z : Int => nR (z : Dyadic)⟩
theorem wX {l : List Int} {A : Option Addr} {a : Nat} {B : Option Addr} {b : Nat} (hn : l.length ≤ 100) (hl : ∀ z ∈ l, z.natAbs < 256) : (ki l A a B b).iC 124 := by
 refine ⟨by show 1 ≤ 1000; omega, by show l.length ≤ 100000; omega, fun c hc => ?_⟩
 obtain ⟨z, hz, rfl⟩ := List.mem_map.1 hc
 have h : Sz 24 (z : Dyadic) := As (e := 0) (hl z hz) (by decide) (by decide)
 exact ⟨h.ok (by omega), by rw [fH]; exact h.mono (by omega)⟩
theorem dV (l : List Int) (A : Option Addr) (c : Nat) (w : World) (hS : Sl w A l.length 1 (bs l)) (h0 : 0 < l.length) (hn : l.length ≤ 100) (hl : ∀ z ∈ l, z.natAbs < 256) :
  Calls Tryz.prog 52 #[.slice A l.length c] w fun r w' => ∃ (A : Option Addr) (a : Nat) (B : Option Addr) (b : Nat), r = .returned (.agg #[.slice A 1 a, .slice B l.length b]) ∧ Hp w [(ki l A a B b).fI, (ki l A a B b).fB] w' := by
 have hh := Hp.start w
 obtain ⟨n, hn2⟩ : ∃ n, n = l.length := ⟨_, rfl⟩
 have hnd : (ki l none 0 none 0).ds = [(n : Int) - 1] := by rw [hn2]
 rw [← hn2] at hS h0 hn ⊢
 refine ao (N := 27) (l := [.slice A n c]) Tryz.func52 rfl rfl (by simp) ?_
 refine sr ?_
 refine cS hh ?_
 intro b2 w2 hh
 refine aa (sr (mL (aQ ?_)))
 refine eR ?_
 refine aP hh (cs := [_]) aH.out aE.out (aY (bU rfl) bO) rfl rfl (by decide) (by decide) (by decide) rfl (by decide) ?_
 intro b8 w8 hh
 refine fi [_,_] ?_
 refine cS hh ?_
 intro b3 w3 hh
 refine bY hh 0 [_,_] ?_
 intro ws hh
 replace hh : Hp _ (.blk _ _ [_, _] _ :: _) _ := hh
 refine aa (ah (sr (aI (aa (aj ?_)))))
 replace hh := hh.perm (List.perm_middle (l₁ := [_]))
 simp only [List.cons_append, List.nil_append] at hh
 have hcap := hh.yw (i := 0) rfl
 replace hh := hh.perm (List.perm_middle (l₁ := [_]))
 simp only [List.cons_append, List.nil_append] at hh
 replace hh := hh.dx 39 3
 refine bp [4, 10, 11, 12, 13, 14, 15, 16, 17, 18, 19, 20, 21, 22, 23, 24, 25] 4
  (fun v w' => ∃ (i c1 : Nat) (B : Option Addr), i ≤ n ∧ v = .int .i64 i ∧ Hp w [.row B i c1 39 3 (bF NR.cells ((l.take i).map fun z : Int => nR (z : Dyadic))), .blk b3 28 [.slice (some ⟨b8, 0, none⟩) 1 1, .slice B i c1] (0, 0), .row (some ⟨b8, 0, none⟩) 1 1 3 1 (bs [(n : Int) - 1]), .blk b2 28 [.slice none 0 0, .slice none 0 0] (0, 0)] w')
  (fun v _ => n - (intOf v).toNat) ?_ ?_
 ·exact ⟨0, 0, none, Nat.zero_le _, rfl, hh⟩
 ·clear hh
  rintro ρ' v w' ⟨i, c1, B, hi, rfl, hh⟩
  by_cases hlt : i < n
  ·obtain ⟨z, hz⟩ := ar (l := l) (k := i) (by omega)
   have hgz := bB hz
   have hzb := hl z (List.mem_of_getElem? hz)
   obtain ⟨ad, rfl, hr⟩ := hS.at_ (by omega)
   refine ah (sr (mI (mL (aQ ?_))))
   refine aG (aa (cT (ak (ai (ah (aj ?_))))))
   refine aK 8 [[(3, none)], [(16, some 0)], [(0, none)], [(4, none)], [(18, some 2), (19, some 3)], [(20, some 4)], [(21, some 5)], [(22, some 6)]] [(7, 23), (6, 22), (5, 21), (4, 20), (3, 19), (2, 18), (1, 17), (0, 16)] hh mixed (by kernel_rfl) ?_
   refine dv ?_
   refine dY 1 ?_
   refine eP ?_
   refine dn ?_
   refine hH (i) ?_
   refine aR (i := 5) (fun ρ1 w1 hj hR => cm aE.out (show ρ1 20 = Value.pointer _ from hR.1) ((hr.ext hj.hp.below).dR (by assumption))) ?_
   refine dC (fun _ hj => uT z _ (by omega) (by omega)) ?_
   refine rK [_,_,_] ?_
   refine bm ?_
   intro f W hJ hV
   have hb_5 := hJ.bl
   obtain ⟨v23, v22, v21, v20, v19, v18, v17, v16, _⟩ := hV
   obtain ⟨A23, c23, e23, f23⟩ : Rows _ _ _ (f 7) W := v23
   replace hh := hJ.hp
   refine aU (bk (ae e23 (ae v22 (ae v21 (ae v20 (ae v19 (ae v18 (ae v17 (ae v16 aV))))))))) ?_
   dsimp only [cd]
   clear e23 hJ
   refine cu hh (i := 0) rfl rfl rfl (f23) aH.out aE.out rfl (by decide) (by first | rfl | exact bZ _ | exact bK _ | exact bC _ | exact bL NR.one _) (by omega) (by omega) (by decide) ?_
   intro A24 c24 w24 hh
   simp only [List.set_cons_zero] at hh
   refine bI ?_
   refine bY hh 1 [_] ?_
   intro ws hh
   replace hh : Hp _ (_ :: .blk _ _ [_, _] _ :: _) _ := hh
   refine aC (aT (ai (al (mI ?_))))
   refine bz (aI (aC (ai ?_)))
   replace hh := hh.sub (List.Sublist.cons_cons _ (List.Sublist.cons_cons _ (List.Sublist.cons_cons _ (List.Sublist.cons_cons _ List.Sublist.slnil))))
   refine ⟨⟨i + 1, c24, A24, by omega, rfl, ?_⟩, by show n - (i + 1) < n - i; omega, ?_⟩
   ·rw [aO hz, List.map_append, dp]
    exact hh
   ·(repeat (first | exact aw _ _ _ | refine ay rfl ?_ | refine au rfl ?_))
  ·obtain rfl : i = n := by omega
   rw [List.take_of_length_le (by omega)] at hh
   refine ah (sr (mI (mL (aQ ?_))))
   refine aG (aa (cF ?_))
   refine aJ ?_
   refine ax (ax (aZ (ai (sr ?_))))
   refine dk hh 1 [_,_] ?_
   refine bY hh 3 [_,_] ?_
   intro ws hh
   replace hh : Hp _ (_ :: _ :: _ :: .blk _ _ [_, _] _ :: _) _ := hh
   refine aa (aq ?_)
   replace hh := hh.sub (List.Sublist.cons_cons _ (List.Sublist.cons _ (List.Sublist.cons_cons _ (List.Sublist.cons_cons _ List.Sublist.slnil))))
   refine gp (bf rfl (bg (vs := [_, _]) aE.out (hh.aD (i := 2) (n := 2) rfl rfl) rfl) bA) ?_
   refine ⟨some ⟨b8, 0, none⟩, 1, B, c1, rfl, ?_⟩
   unfold FX.fI FX.fB
   dsimp only
   rw [← hn2]
   exact hh.sub (List.sublist_append_left [_, _] _)
def oQ (ds : List Int) (cs : List NR) : VP := fun v W => ∃ g : FX, v = .agg #[.slice g.A g.n g.a, .slice g.B g.m g.b] ∧ g.ds = ds ∧ g.cs = cs ∧ g.at_ W
theorem oQ.ext {ds : List Int} {cs : List NR} (v : Value) (w w' : World) (h : oQ ds cs v w) (hb : Below w.heap.size w w') : oQ ds cs v w' := let ⟨g, h1, h2, h3, h4⟩ := h; ⟨g, h1, h2, h3, h4.ext hb⟩
theorem iT (l : List Int) (fa : FX) (A : Option Addr) (c : Nat) (w : World) (hf : fa.at_ w) (hd : fa.ds = [(l.length : Int) - 1]) (hc : fa.cs = l.map fun z : Int => nR (z : Dyadic)) (hS : Sl w A l.length 1 (bs l)) (h0 : 0 < l.length) (hn : l.length ≤ 100) (hl : ∀ z ∈ l, z.natAbs < 256) :
  Calls Tryz.prog 53 #[.agg #[.slice fa.A fa.n fa.a, .slice fa.B fa.m fa.b], .int .i64 0, .slice A l.length c] w fun r w' => r = .returned (.bool true) ∧ Below w.heap.size w w' := by
 have hh := Hp.start w
 have l1 := hf.ln.1
 have l2 := hf.ln.2
 have e1 : fa.n = 1 := by rw [← l1, hd]; rfl
 have e2 : fa.m = l.length := by rw [← l2, hc, List.length_map]
 have hform := fun w1 hb => dV l A c w1 (hS.ext hb) h0 hn hl
 refine ao (N := 15) (l := [.agg #[.slice fa.A fa.n fa.a, .slice fa.B fa.m fa.b], .int .i64 0, .slice A l.length c]) Tryz.func53 rfl rfl (by simp) ?_
 refine sr ?_
 refine dm hh [_,_] ?_
 intro b3 w3 hh
 refine aB (aa (ah ?_))
 refine aK 6 [[(1, none)], [(7, some 0)], [(8, some 1)], [(3, none), (9, some 2)], [(2, none), (9, some 2)], [(11, some 4), (9, some 2)]] [(5, 12), (4, 11), (3, 10), (2, 9), (1, 8), (0, 7)] hh mixed (by kernel_rfl) ?_
 refine dn ?_
 refine At ?_
 refine Ao ?_
 first | refine dS ?_ | refine dU ?_ | refine dG (gU 0 [_,_] ?_)
 first | refine dS ?_ | refine dU ?_ | refine dG (eP ?_)
 refine cJ (i := 5) (oQ fa.ds fa.cs) (oQ.ext) ?_ ?_
 ·intro ρ1 w1 hj hR
  exact kt rfl (show ρ1 9 = Value.bool _ from hR.2.1) (ew rfl (dI az.out (bD (show ρ1 11 = Value.slice _ _ _ from hR.1) db)) (hform _ hj.hp.below) (fun _ _ ⟨A2, a2, B2, b2', q1, q2⟩ => ⟨_, q1, q2.below, ki l A2 a2 B2 b2', rfl, hd.symm, hc.symm, q2.od List.mem_cons_self (List.mem_cons_of_mem _ List.mem_cons_self)⟩))
 refine bm ?_
 intro f W hJ hV
 have hb_1 := hJ.bl
 obtain ⟨v12, v11, v10, v9, v8, v7, _⟩ := hV
 obtain ⟨g12, e12, o12⟩ : oQ _ _ (f 5) W := v12
 replace hh := hJ.hp
 refine aU (bk (ae e12 (ae v11 (ae v10 (ae v9 (ae v8 (ae v7 aV))))))) ?_
 dsimp only [cd]
 clear e12 hJ
 refine bo rfl rfl ?_
 refine bJ hh (gB fa g12 _ (hf.ext hh.below) o12.2.2 ⟨o12.1.symm, o12.2.1.symm⟩ (by omega) (by omega)) rfl ?_
 intro w13 hh
 first | refine dD ?_ | refine dA ?_
 refine aB (aa (aq ?_))
 refine cz ?_
 exact ⟨rfl, hh.below⟩
end Go.Proofs.YtioilmppidlbnaaGreatDoor
/- The walk through ogeelaw14.awake. -/
namespace Go.Proofs.YtioilmppidlbnaaGreatDoor
open Go.RowKit
theorem si {l : List Int} {D : List Nat} {ys : List Dyadic} {g : FX} {w w' : World} (h : Out 0 D ys g) (h1 : aW D = [(l.length : Int) - 1]) (h2 : ys = l.map fun z : Int => (z : Dyadic)) (hh : Hp w [g.fI, g.fB] w') : ∃ (A : Option Addr) (a : Nat) (B : Option Addr) (b : Nat), g = ki l A a B b := by
 have hg := hh.od List.mem_cons_self (List.mem_cons_of_mem _ List.mem_cons_self)
 have l1 := hg.ln
 obtain ⟨ql, hc0, -, -⟩ := h
 obtain ⟨A, n, a, B, m, b, ds, cs⟩ := g
 have hd : ds = [(l.length : Int) - 1] := ql.trans h1
 have hc : cs = l.map fun z : Int => nR (z : Dyadic) := hc0.trans (by unfold yV; rw [if_pos rfl, h2, List.map_map]; rfl)
 obtain ⟨q1, q2⟩ : ds.length = n ∧ cs.length = m := l1
 clear ql hc0 h1 h2 hg hh
 subst hd hc q1
 obtain rfl : l.length = m := by rw [← q2, List.length_map]
 exact ⟨A, a, B, b, rfl⟩
theorem vV (l es l2 : List Int) (A : Option Addr) (a : Nat) (B : Option Addr) (b : Nat) (E : Option Addr) (c : Nat) (w : World) (hT : iu w) (hf : (ki l A a B b).at_ w) (hl : (ki l A a B b).iC 124) (hn : l.length ≤ 200) (hS : Sl w E 1 1 (bs es))
  (h : mK (ki l A a B b) es = 0 ∧ eO (es.map Int.toNat) (ki l A a B b) = (l2.map fun z : Int => (z : Dyadic)) ∧ aW (es.map Int.toNat) = [(l2.length : Int) - 1]) :
  Calls Tryz.prog 23 #[.agg #[.slice A 1 a, .slice B l.length b], .slice E 1 c] w fun r w' => ∃ (A : Option Addr) (a : Nat) (B : Option Addr) (b : Nat), r = .returned (.tuple #[.agg #[.slice A 1 a, .slice B l2.length b], .int .i64 0]) ∧ Hp w [(ki l2 A a B b).fI, (ki l2 A a B b).fB] w' := by
 have := qn (ki l A a B b) E 1 c es 124 w hT hf hl hn hS (by omega) (by omega)
 rw [h.1] at this
 refine this.mono fun r w' ⟨g, o, hr, hh⟩ => ?_
 obtain ⟨A, a, B, b, rfl⟩ := si o h.2.2 h.2.1 hh
 exact ⟨A, a, B, b, hr, hh⟩
theorem Ay (f g : FX) (l2 : List Int) (L : Option Addr) (c : Nat) (w : World) (hT : iu w) (hf : f.at_ w) (hg : g.at_ w) (hl : f.iC 124) (hl2 : g.iC 124) (hm : f.m ≤ 200) (hm2 : g.m ≤ 200) (hS : Sl w L 2 2 (bF FX.cells [f, g]))
  (h : ct [f, g] = 0 ∧ u0 ([f, g].map (eO (maxD [f, g]))) = (l2.map fun z : Int => (z : Dyadic)) ∧ aW (maxD [f, g]) = [(l2.length : Int) - 1]) :
  Calls Tryz.prog 15 #[.slice L 2 c] w fun r w' => ∃ (A : Option Addr) (a : Nat) (B : Option Addr) (b : Nat), r = .returned (.tuple #[.agg #[.slice A 1 a, .slice B l2.length b], .int .i64 0]) ∧ Hp w [(ki l2 A a B b).fI, (ki l2 A a B b).fB] w' := by
 have hall : ∀ x ∈ [f, g], x.at_ w ∧ x.iC 124 ∧ x.m ≤ 200 := by simpa using ⟨⟨hf, hl, hm⟩, hg, hl2, hm2⟩
 have := sB L 2 c [f, g] 124 w hT hS (by omega) (fun x hx => (hall x hx).1) (fun x hx => (hall x hx).2.1) (fun x hx => (hall x hx).2.2) (by omega)
 rw [h.1] at this
 refine this.mono fun r w' ⟨g, o, hr, hh⟩ => ?_
 obtain ⟨A, a, B, b, rfl⟩ := si o h.2.2 h.2.1 hh
 exact ⟨A, a, B, b, hr, hh⟩
theorem Ae (f g : FX) (l2 : List Int) (w : World) (hT : iu w) (hf : f.at_ w) (hg : g.at_ w) (hl : f.iC 124) (hl2 : g.iC 124) (hm : f.m ≤ 200) (hm2 : g.m ≤ 200)
  (h : jM f g = 0 ∧ g9 f.ns g.ns (f.cs.map NR.d) (g.cs.map NR.d) = (l2.map fun z : Int => (z : Dyadic)) ∧ aW (bH f.ns g.ns) = [(l2.length : Int) - 1]) :
  Calls Tryz.prog 18 #[.agg #[.slice f.A f.n f.a, .slice f.B f.m f.b], .agg #[.slice g.A g.n g.a, .slice g.B g.m g.b]] w fun r w' => ∃ (A : Option Addr) (a : Nat) (B : Option Addr) (b : Nat), r = .returned (.tuple #[.agg #[.slice A 1 a, .slice B l2.length b], .int .i64 0]) ∧ Hp w [(ki l2 A a B b).fI, (ki l2 A a B b).fB] w' := by
 have := wA f g 124 w hT hf hg hl hl2 hm hm2 (by omega)
 rw [h.1] at this
 refine this.mono fun r w' ⟨g, o, hr, hh⟩ => ?_
 obtain ⟨A, a, B, b, rfl⟩ := si o h.2.2 h.2.1 hh
 exact ⟨A, a, B, b, hr, hh⟩
theorem u5 (l es : List Int) (e : Int) (A : Option Addr) (a : Nat) (B : Option Addr) (b : Nat) (E : Option Addr) (c : Nat) (w : World) (hT : iu w) (hf : (ki l A a B b).at_ w) (hl : (ki l A a B b).iC 124) (hn : l.length ≤ 200) (hS : Sl w E 1 1 (bs es)) (h : mK (ki l A a B b) es = e) :
  Calls Tryz.prog 23 #[.agg #[.slice A 1 a, .slice B l.length b], .slice E 1 c] w fun r w' => ∃ g : FX, r = .returned (.tuple #[.agg #[.slice g.A g.n g.a, .slice g.B g.m g.b], .int .i64 e]) ∧ Below w.heap.size w w' := by
 have := qn (ki l A a B b) E 1 c es 124 w hT hf hl hn hS (by omega) (by omega)
 rw [h] at this
 exact this.mono fun r w' ⟨g, o, hr, hh⟩ => ⟨g, hr, hh.below⟩
theorem xB (w : World) (hT : iu w) :
  Calls Tryz.prog 15 #[.slice none 0 0] w fun r w' => ∃ g : FX, r = .returned (.tuple #[.agg #[.slice g.A g.n g.a, .slice g.B g.m g.b], .int .i64 1]) ∧ Below w.heap.size w w' :=
 (sB none 0 0 [] 124 w hT (Sl.nil _ _ _) (by omega) (fun _ h => nomatch h) (fun _ h => nomatch h) (fun _ h => nomatch h) (by omega)).mono fun r w' ⟨g, o, hr, hh⟩ => ⟨g, hr, hh.below⟩
theorem jo (w : World) (hT : iu w) : Calls Tryz.prog 13 #[] w fun r w' => r = .returned (.bool true) ∧ Below w.heap.size w w' := by
 have hh := Hp.start w
 have iC : ∀ (l : List Int) (A : Option Addr) (a : Nat) (B : Option Addr) (b : Nat), l.length ≤ 100 → (∀ z ∈ l, z.natAbs < 256) → (ki l A a B b).iC 124 := fun _ _ _ _ _ h1 h2 => wX h1 h2
 refine ao (N := 101) (l := []) Tryz.func13 rfl rfl (by simp) ?_
 refine sr (aB (aa (sr ?_)))
 refine aP hh (cs := [_, _]) aH.out aE.out (aY rfl (aY rfl bO)) rfl rfl (by decide) (by decide) (by decide) rfl (by decide) ?_
 intro b16 w16 hh
 refine a6 (dV [0, 1] _ _ _ (hh.aX (i := 0) rfl) (by decide) (by decide) (by decide)) az.out rfl (by decide) ?_
 rintro e_ w17 ⟨Af1, af1, Bf1, bf1, rfl, h2⟩
 refine ⟨_, rfl, ?_⟩
 replace hh := hh.join h2
 clear h2
 refine aP hh (cs := [_]) aH.out aE.out (aY rfl bO) rfl rfl (by decide) (by decide) (by decide) rfl (by decide) ?_
 intro b18 w18 hh
 refine a6 (vV [0, 1] [2] [0, 1, 1] Af1 af1 Bf1 bf1 _ _ _ (hT.hp hh) (hh.od (List.mem_of_getElem? (i := 1) rfl) (List.mem_of_getElem? (i := 2) rfl)) (iC _ _ _ _ _ (by decide) (by decide)) (by decide) (hh.aX (i := 0) rfl) ⟨by kernel_rfl, by kernel_rfl, by kernel_rfl⟩) az.out rfl (by decide) ?_
 rintro e_ w19 ⟨Ar1, ar1, Br1, br1, rfl, h2⟩
 refine ⟨_, rfl, ?_⟩
 replace hh := hh.join h2
 clear h2
 replace hh := hh.sub (List.Sublist.cons_cons _ (List.Sublist.cons_cons _ (List.Sublist.cons _ (List.Sublist.cons _ (List.Sublist.cons _ (List.Sublist.cons _ List.Sublist.slnil))))))
 refine mT ?_
 refine eT ?_
 refine eT ?_
 refine cS hh ?_
 intro b1 w1 hh
 refine bY hh 0 [_,_] ?_
 intro ws hh
 replace hh : Hp _ (.blk _ _ [_, _] _ :: _) _ := hh
 refine aI (aa (sr ?_))
 refine aP hh (cs := [_]) aH.out aE.out (aY rfl bO) rfl rfl (by decide) (by decide) (by decide) rfl (by decide) ?_
 intro b23 w23 hh
 refine a6 (dV [3] _ _ _ (hh.aX (i := 0) rfl) (by decide) (by decide) (by decide)) az.out rfl (by decide) ?_
 rintro e_ w24 ⟨Af2, af2, Bf2, bf2, rfl, h2⟩
 refine ⟨_, rfl, ?_⟩
 replace hh := hh.join h2
 clear h2
 refine aP hh (cs := [_]) aH.out aE.out (aY rfl bO) rfl rfl (by decide) (by decide) (by decide) rfl (by decide) ?_
 intro b25 w25 hh
 refine a6 (vV [3] [2] [3, 6, 3] Af2 af2 Bf2 bf2 _ _ _ (hT.hp hh) (hh.od (List.mem_of_getElem? (i := 1) rfl) (List.mem_of_getElem? (i := 2) rfl)) (iC _ _ _ _ _ (by decide) (by decide)) (by decide) (hh.aX (i := 0) rfl) ⟨by kernel_rfl, by kernel_rfl, by kernel_rfl⟩) az.out rfl (by decide) ?_
 rintro e_ w26 ⟨Ar2, ar2, Br2, br2, rfl, h2⟩
 refine ⟨_, rfl, ?_⟩
 replace hh := hh.join h2
 clear h2
 replace hh := hh.sub (List.Sublist.cons_cons _ (List.Sublist.cons_cons _ (List.Sublist.cons _ (List.Sublist.cons _ (List.Sublist.cons _ (List.Sublist.cons _ (List.Sublist.cons_cons _ (List.Sublist.cons_cons _ (List.Sublist.cons_cons _ List.Sublist.slnil)))))))))
 refine mT ?_
 refine eT ?_
 refine eT ?_
 refine cS hh ?_
 intro b3 w3 hh
 refine bY hh 0 [_,_] ?_
 intro ws hh
 replace hh : Hp _ (.blk _ _ [_, _] _ :: _) _ := hh
 refine aI (aa (sr ?_))
 refine aP hh (cs := [_, _]) aH.out aE.out (aY rfl (aY rfl bO)) rfl rfl (by decide) (by decide) (by decide) rfl (by decide) ?_
 intro b30 w30 hh
 refine a6 (dV [0, 1] _ _ _ (hh.aX (i := 0) rfl) (by decide) (by decide) (by decide)) az.out rfl (by decide) ?_
 rintro e_ w31 ⟨Af3, af3, Bf3, bf3, rfl, h2⟩
 refine ⟨_, rfl, ?_⟩
 replace hh := hh.join h2
 clear h2
 refine aP hh (cs := [_]) aH.out aE.out (aY rfl bO) rfl rfl (by decide) (by decide) (by decide) rfl (by decide) ?_
 intro b32 w32 hh
 refine a6 (dV [3] _ _ _ (hh.aX (i := 0) rfl) (by decide) (by decide) (by decide)) az.out rfl (by decide) ?_
 rintro e_ w33 ⟨Af4, af4, Bf4, bf4, rfl, h2⟩
 refine ⟨_, rfl, ?_⟩
 replace hh := hh.join h2
 clear h2
 refine aP hh (cs := [_, _, _, _]) aH.out aE.out (aY (de rfl) (aY (de rfl) bO)) rfl rfl (by decide) (by decide) (by decide) rfl (by decide) ?_
 intro b34 w34 hh
 refine a6 (Ay (ki [0, 1] Af3 af3 Bf3 bf3) (ki [3] Af4 af4 Bf4 bf4) [3, 4] _ _ _ (hT.hp hh) (hh.od (List.mem_of_getElem? (i := 4) rfl) (List.mem_of_getElem? (i := 5) rfl)) (hh.od (List.mem_of_getElem? (i := 1) rfl) (List.mem_of_getElem? (i := 2) rfl)) (iC _ _ _ _ _ (by decide) (by decide)) (iC _ _ _ _ _ (by decide) (by decide)) (Nat.le_of_ble_eq_true rfl) (Nat.le_of_ble_eq_true rfl) (hh.aX (i := 0) rfl) ⟨by kernel_rfl, by kernel_rfl, by kernel_rfl⟩) az.out rfl (by decide) ?_
 rintro e_ w35 ⟨Ar3, ar3, Br3, br3, rfl, h2⟩
 refine ⟨_, rfl, ?_⟩
 replace hh := hh.join h2
 clear h2
 replace hh := hh.sub (List.Sublist.cons_cons _ (List.Sublist.cons_cons _ (List.Sublist.cons _ (List.Sublist.cons _ (List.Sublist.cons _ (List.Sublist.cons _ (List.Sublist.cons _ (List.Sublist.cons _ (List.Sublist.cons _ (List.Sublist.cons_cons _ (List.Sublist.cons_cons _ (List.Sublist.cons_cons _ (List.Sublist.cons_cons _ (List.Sublist.cons_cons _ (List.Sublist.cons_cons _ List.Sublist.slnil)))))))))))))))
 refine mT ?_
 refine eT ?_
 refine eT ?_
 refine cS hh ?_
 intro b5 w5 hh
 refine bY hh 0 [_,_] ?_
 intro ws hh
 replace hh : Hp _ (.blk _ _ [_, _] _ :: _) _ := hh
 refine aI (aa (sr ?_))
 refine aP hh (cs := [_, _]) aH.out aE.out (aY rfl (aY rfl bO)) rfl rfl (by decide) (by decide) (by decide) rfl (by decide) ?_
 intro b39 w39 hh
 refine a6 (dV [0, 1] _ _ _ (hh.aX (i := 0) rfl) (by decide) (by decide) (by decide)) az.out rfl (by decide) ?_
 rintro e_ w40 ⟨Af5, af5, Bf5, bf5, rfl, h2⟩
 refine ⟨_, rfl, ?_⟩
 replace hh := hh.join h2
 clear h2
 refine aP hh (cs := [_, _]) aH.out aE.out (aY rfl (aY rfl bO)) rfl rfl (by decide) (by decide) (by decide) rfl (by decide) ?_
 intro b41 w41 hh
 refine a6 (dV [0, 1] _ _ _ (hh.aX (i := 0) rfl) (by decide) (by decide) (by decide)) az.out rfl (by decide) ?_
 rintro e_ w42 ⟨Af6, af6, Bf6, bf6, rfl, h2⟩
 refine ⟨_, rfl, ?_⟩
 replace hh := hh.join h2
 clear h2
 refine a6 (Ae (ki [0, 1] Af5 af5 Bf5 bf5) (ki [0, 1] Af6 af6 Bf6 bf6) [0, 0, 1] _ (hT.hp hh) (hh.od (List.mem_of_getElem? (i := 3) rfl) (List.mem_of_getElem? (i := 4) rfl)) (hh.od (List.mem_of_getElem? (i := 0) rfl) (List.mem_of_getElem? (i := 1) rfl)) (iC _ _ _ _ _ (by decide) (by decide)) (iC _ _ _ _ _ (by decide) (by decide)) (Nat.le_of_ble_eq_true rfl) (Nat.le_of_ble_eq_true rfl) ⟨by kernel_rfl, by kernel_rfl, by kernel_rfl⟩) az.out rfl (by decide) ?_
 rintro e_ w43 ⟨Ar4, ar4, Br4, br4, rfl, h2⟩
 refine ⟨_, rfl, ?_⟩
 replace hh := hh.join h2
 clear h2
 replace hh := hh.sub (List.Sublist.cons_cons _ (List.Sublist.cons_cons _ (List.Sublist.cons _ (List.Sublist.cons _ (List.Sublist.cons _ (List.Sublist.cons _ (List.Sublist.cons _ (List.Sublist.cons _ (List.Sublist.cons_cons _ (List.Sublist.cons_cons _ (List.Sublist.cons_cons _ (List.Sublist.cons_cons _ (List.Sublist.cons_cons _ (List.Sublist.cons_cons _ (List.Sublist.cons_cons _ (List.Sublist.cons_cons _ (List.Sublist.cons_cons _ List.Sublist.slnil)))))))))))))))))
 refine mT ?_
 refine eT ?_
 refine eT ?_
 refine cS hh ?_
 intro b7 w7 hh
 refine bY hh 0 [_,_] ?_
 intro ws hh
 replace hh : Hp _ (.blk _ _ [_, _] _ :: _) _ := hh
 refine aI (aa (sr ?_))
 refine aP hh (cs := [_, _]) aH.out aE.out (aY rfl (aY rfl bO)) rfl rfl (by decide) (by decide) (by decide) rfl (by decide) ?_
 intro b47 w47 hh
 refine a6 (dV [1, 1] _ _ _ (hh.aX (i := 0) rfl) (by decide) (by decide) (by decide)) az.out rfl (by decide) ?_
 rintro e_ w48 ⟨Af7, af7, Bf7, bf7, rfl, h2⟩
 refine ⟨_, rfl, ?_⟩
 replace hh := hh.join h2
 clear h2
 refine aP hh (cs := [_, _]) aH.out aE.out (aY rfl (aY rfl bO)) rfl rfl (by decide) (by decide) (by decide) rfl (by decide) ?_
 intro b49 w49 hh
 refine a6 (dV [1, 1] _ _ _ (hh.aX (i := 0) rfl) (by decide) (by decide) (by decide)) az.out rfl (by decide) ?_
 rintro e_ w50 ⟨Af8, af8, Bf8, bf8, rfl, h2⟩
 refine ⟨_, rfl, ?_⟩
 replace hh := hh.join h2
 clear h2
 refine a6 (Ae (ki [1, 1] Af7 af7 Bf7 bf7) (ki [1, 1] Af8 af8 Bf8 bf8) [1, 2, 1] _ (hT.hp hh) (hh.od (List.mem_of_getElem? (i := 3) rfl) (List.mem_of_getElem? (i := 4) rfl)) (hh.od (List.mem_of_getElem? (i := 0) rfl) (List.mem_of_getElem? (i := 1) rfl)) (iC _ _ _ _ _ (by decide) (by decide)) (iC _ _ _ _ _ (by decide) (by decide)) (Nat.le_of_ble_eq_true rfl) (Nat.le_of_ble_eq_true rfl) ⟨by kernel_rfl, by kernel_rfl, by kernel_rfl⟩) az.out rfl (by decide) ?_
 rintro e_ w51 ⟨Ar5, ar5, Br5, br5, rfl, h2⟩
 refine ⟨_, rfl, ?_⟩
 replace hh := hh.join h2
 clear h2
 replace hh := hh.sub (List.Sublist.cons_cons _ (List.Sublist.cons_cons _ (List.Sublist.cons _ (List.Sublist.cons _ (List.Sublist.cons _ (List.Sublist.cons _ (List.Sublist.cons _ (List.Sublist.cons _ (List.Sublist.cons_cons _ (List.Sublist.cons_cons _ (List.Sublist.cons_cons _ (List.Sublist.cons_cons _ (List.Sublist.cons_cons _ (List.Sublist.cons_cons _ (List.Sublist.cons_cons _ (List.Sublist.cons_cons _ (List.Sublist.cons_cons _ (List.Sublist.cons_cons _ (List.Sublist.cons_cons _ (List.Sublist.cons_cons _ List.Sublist.slnil))))))))))))))))))))
 refine mT ?_
 refine eT ?_
 refine eT ?_
 refine cS hh ?_
 intro b9 w9 hh
 refine bY hh 0 [_,_] ?_
 intro ws hh
 replace hh : Hp _ (.blk _ _ [_, _] _ :: _) _ := hh
 refine aI (aa (sr ?_))
 refine aP hh (cs := [_, _, _]) aH.out aE.out (aY rfl (aY rfl (aY rfl bO))) rfl rfl (by decide) (by decide) (by decide) rfl (by decide) ?_
 intro b55 w55 hh
 refine a6 (dV [0, 0, 1] _ _ _ (hh.aX (i := 0) rfl) (by decide) (by decide) (by decide)) az.out rfl (by decide) ?_
 rintro e_ w56 ⟨Af9, af9, Bf9, bf9, rfl, h2⟩
 refine ⟨_, rfl, ?_⟩
 replace hh := hh.join h2
 clear h2
 refine aP hh (cs := [_]) aH.out aE.out (aY rfl bO) rfl rfl (by decide) (by decide) (by decide) rfl (by decide) ?_
 intro b57 w57 hh
 refine a6 (u5 [0, 0, 1] [1] 1 Af9 af9 Bf9 bf9 _ _ _ (hT.hp hh) (hh.od (List.mem_of_getElem? (i := 1) rfl) (List.mem_of_getElem? (i := 2) rfl)) (iC _ _ _ _ _ (by decide) (by decide)) (by decide) (hh.aX (i := 0) rfl) (by kernel_rfl)) az.out rfl (by decide) ?_
 rintro e_ w58 ⟨g1, rfl, hb_⟩
 refine ⟨_, rfl, ?_⟩
 replace hh := hh.ext hb_
 replace hh := hh.sub (List.Sublist.cons _ (List.Sublist.cons _ (List.Sublist.cons _ (List.Sublist.cons _ (List.Sublist.cons_cons _ (List.Sublist.cons_cons _ (List.Sublist.cons_cons _ (List.Sublist.cons_cons _ (List.Sublist.cons_cons _ (List.Sublist.cons_cons _ (List.Sublist.cons_cons _ (List.Sublist.cons_cons _ (List.Sublist.cons_cons _ (List.Sublist.cons_cons _ (List.Sublist.cons_cons _ (List.Sublist.cons_cons _ (List.Sublist.cons_cons _ (List.Sublist.cons_cons _ (List.Sublist.cons_cons _ List.Sublist.slnil)))))))))))))))))))
 refine mT ?_
 refine eT ?_
 refine eT ?_
 refine cS hh ?_
 intro b11 w11 hh
 refine bY hh 0 [_,_] ?_
 intro ws hh
 replace hh : Hp _ (.blk _ _ [_, _] _ :: _) _ := hh
 refine aI (aa (sr ?_))
 refine a6 (xB _ (hT.hp hh)) az.out rfl (by decide) ?_
 rintro e_ w62 ⟨g2, rfl, hb_⟩
 refine ⟨_, rfl, ?_⟩
 replace hh := hh.ext hb_
 replace hh := hh.sub (List.Sublist.cons _ (List.Sublist.cons_cons _ (List.Sublist.cons_cons _ (List.Sublist.cons_cons _ (List.Sublist.cons_cons _ (List.Sublist.cons_cons _ (List.Sublist.cons_cons _ (List.Sublist.cons_cons _ (List.Sublist.cons_cons _ (List.Sublist.cons_cons _ (List.Sublist.cons_cons _ (List.Sublist.cons_cons _ (List.Sublist.cons_cons _ (List.Sublist.cons_cons _ (List.Sublist.cons_cons _ (List.Sublist.cons_cons _ List.Sublist.slnil))))))))))))))))
 refine mT ?_
 refine eT ?_
 refine eT ?_
 refine cS hh ?_
 intro b13 w13 hh
 refine bY hh 0 [_,_] ?_
 intro ws hh
 replace hh : Hp _ (.blk _ _ [_, _] _ :: _) _ := hh
 refine aI (aa (sr ?_))
 refine dk hh 13 [_,_] (mI ?_)
 refine aP hh (cs := [_, _, _]) aH.out aE.out (aY rfl (aY rfl (aY rfl bO))) rfl rfl (by decide) (by decide) (by decide) rfl (by decide) ?_
 intro b67 w67 hh
 replace hh := hh.sub (List.Sublist.cons_cons _ (List.Sublist.cons _ (List.Sublist.cons_cons _ (List.Sublist.cons_cons _ (List.Sublist.cons_cons _ (List.Sublist.cons_cons _ (List.Sublist.cons_cons _ (List.Sublist.cons_cons _ (List.Sublist.cons_cons _ (List.Sublist.cons_cons _ (List.Sublist.cons_cons _ (List.Sublist.cons_cons _ (List.Sublist.cons_cons _ (List.Sublist.cons_cons _ (List.Sublist.cons_cons _ (List.Sublist.cons_cons _ (List.Sublist.cons_cons _ List.Sublist.slnil)))))))))))))))))
 refine bJ hh (iT [0, 1, 1] (ki [0, 1, 1] Ar1 ar1 Br1 br1) _ _ _ (hh.od (List.mem_of_getElem? (i := 14) rfl) (List.mem_of_getElem? (i := 15) rfl)) rfl rfl (hh.aX (i := 0) rfl) (by decide) (by decide) (by decide)) rfl ?_
 intro w68 hh
 replace hh := hh.sub (List.Sublist.cons _ (List.Sublist.cons_cons _ (List.Sublist.cons_cons _ (List.Sublist.cons_cons _ (List.Sublist.cons_cons _ (List.Sublist.cons_cons _ (List.Sublist.cons_cons _ (List.Sublist.cons_cons _ (List.Sublist.cons_cons _ (List.Sublist.cons_cons _ (List.Sublist.cons_cons _ (List.Sublist.cons_cons _ (List.Sublist.cons_cons _ (List.Sublist.cons_cons _ (List.Sublist.cons_cons _ (List.Sublist.cons_cons _ List.Sublist.slnil))))))))))))))))
 refine mB ?_
 first | refine gS ?_ | (refine gT ?_; refine dk hh 9 [_,_] ?_) | refine gV ?_
 first | refine gS ?_ | (refine gT ?_; refine mI ?_) | refine gV ?_
 first | (refine cw (by decide) rfl rfl (by decide) ?_) | (refine bo rfl rfl ?_; (refine aP hh (cs := [_, _, _]) aH.out aE.out (aY rfl (aY rfl (aY rfl bO))) rfl rfl (by decide) (by decide) (by decide) rfl (by decide) ?_); (intro b72 w72 hh)) | (refine wl_guard_skipV (by decide) rfl rfl ?_)
 refine bo rfl rfl ?_
 refine bJ hh (iT [3, 6, 3] (ki [3, 6, 3] Ar2 ar2 Br2 br2) _ _ _ (hh.od (List.mem_of_getElem? (i := 11) rfl) (List.mem_of_getElem? (i := 12) rfl)) rfl rfl (hh.aX (i := 0) rfl) (by decide) (by decide) (by decide)) rfl ?_
 intro w73 hh
 replace hh := hh.sub (List.Sublist.cons _ (List.Sublist.cons_cons _ (List.Sublist.cons_cons _ (List.Sublist.cons_cons _ (List.Sublist.cons_cons _ (List.Sublist.cons_cons _ (List.Sublist.cons_cons _ (List.Sublist.cons_cons _ (List.Sublist.cons_cons _ (List.Sublist.cons_cons _ (List.Sublist.cons_cons _ (List.Sublist.cons_cons _ (List.Sublist.cons_cons _ (List.Sublist.cons_cons _ (List.Sublist.cons_cons _ (List.Sublist.cons_cons _ List.Sublist.slnil))))))))))))))))
 first | refine dD ?_ | refine dA ?_
 refine mB ?_
 first | refine gS ?_ | (refine gT ?_; refine dk hh 6 [_,_] ?_) | refine gV ?_
 first | refine gS ?_ | (refine gT ?_; refine mI ?_) | refine gV ?_
 first | (refine cw (by decide) rfl rfl (by decide) ?_) | (refine bo rfl rfl ?_; (refine aP hh (cs := [_, _]) aH.out aE.out (aY rfl (aY rfl bO)) rfl rfl (by decide) (by decide) (by decide) rfl (by decide) ?_); (intro b78 w78 hh)) | (refine wl_guard_skipV (by decide) rfl rfl ?_)
 refine bo rfl rfl ?_
 refine bJ hh (iT [3, 4] (ki [3, 4] Ar3 ar3 Br3 br3) _ _ _ (hh.od (List.mem_of_getElem? (i := 8) rfl) (List.mem_of_getElem? (i := 9) rfl)) rfl rfl (hh.aX (i := 0) rfl) (by decide) (by decide) (by decide)) rfl ?_
 intro w79 hh
 replace hh := hh.sub (List.Sublist.cons _ (List.Sublist.cons_cons _ (List.Sublist.cons_cons _ (List.Sublist.cons_cons _ (List.Sublist.cons_cons _ (List.Sublist.cons_cons _ (List.Sublist.cons_cons _ (List.Sublist.cons_cons _ (List.Sublist.cons_cons _ (List.Sublist.cons_cons _ (List.Sublist.cons_cons _ (List.Sublist.cons_cons _ (List.Sublist.cons_cons _ (List.Sublist.cons_cons _ (List.Sublist.cons_cons _ (List.Sublist.cons_cons _ List.Sublist.slnil))))))))))))))))
 first | refine dD ?_ | refine dA ?_
 refine mB ?_
 first | refine gS ?_ | (refine gT ?_; refine dk hh 3 [_,_] ?_) | refine gV ?_
 first | refine gS ?_ | (refine gT ?_; refine mI ?_) | refine gV ?_
 first | (refine cw (by decide) rfl rfl (by decide) ?_) | (refine bo rfl rfl ?_; (refine aP hh (cs := [_, _, _]) aH.out aE.out (aY rfl (aY rfl (aY rfl bO))) rfl rfl (by decide) (by decide) (by decide) rfl (by decide) ?_); (intro b84 w84 hh)) | (refine wl_guard_skipV (by decide) rfl rfl ?_)
 refine bo rfl rfl ?_
 refine bJ hh (iT [0, 0, 1] (ki [0, 0, 1] Ar4 ar4 Br4 br4) _ _ _ (hh.od (List.mem_of_getElem? (i := 5) rfl) (List.mem_of_getElem? (i := 6) rfl)) rfl rfl (hh.aX (i := 0) rfl) (by decide) (by decide) (by decide)) rfl ?_
 intro w85 hh
 replace hh := hh.sub (List.Sublist.cons _ (List.Sublist.cons_cons _ (List.Sublist.cons_cons _ (List.Sublist.cons_cons _ (List.Sublist.cons_cons _ (List.Sublist.cons_cons _ (List.Sublist.cons_cons _ (List.Sublist.cons_cons _ (List.Sublist.cons_cons _ (List.Sublist.cons_cons _ (List.Sublist.cons_cons _ (List.Sublist.cons_cons _ (List.Sublist.cons_cons _ (List.Sublist.cons_cons _ (List.Sublist.cons_cons _ (List.Sublist.cons_cons _ List.Sublist.slnil))))))))))))))))
 first | refine dD ?_ | refine dA ?_
 refine mB ?_
 first | refine gS ?_ | (refine gT ?_; refine dk hh 0 [_,_] ?_) | refine gV ?_
 first | refine gS ?_ | (refine gT ?_; refine mI ?_) | refine gV ?_
 first | (refine cw (by decide) rfl rfl (by decide) ?_) | (refine bo rfl rfl ?_; (refine aP hh (cs := [_, _, _]) aH.out aE.out (aY rfl (aY rfl (aY rfl bO))) rfl rfl (by decide) (by decide) (by decide) rfl (by decide) ?_); (intro b90 w90 hh)) | (refine wl_guard_skipV (by decide) rfl rfl ?_)
 refine bo rfl rfl ?_
 refine bJ hh (iT [1, 2, 1] (ki [1, 2, 1] Ar5 ar5 Br5 br5) _ _ _ (hh.od (List.mem_of_getElem? (i := 2) rfl) (List.mem_of_getElem? (i := 3) rfl)) rfl rfl (hh.aX (i := 0) rfl) (by decide) (by decide) (by decide)) rfl ?_
 intro w91 hh
 replace hh := hh.sub (List.Sublist.cons _ (List.Sublist.cons_cons _ (List.Sublist.cons_cons _ (List.Sublist.cons_cons _ (List.Sublist.cons_cons _ (List.Sublist.cons_cons _ (List.Sublist.cons_cons _ (List.Sublist.cons_cons _ (List.Sublist.cons_cons _ (List.Sublist.cons_cons _ (List.Sublist.cons_cons _ (List.Sublist.cons_cons _ (List.Sublist.cons_cons _ (List.Sublist.cons_cons _ (List.Sublist.cons_cons _ (List.Sublist.cons_cons _ List.Sublist.slnil))))))))))))))))
 first | refine dD ?_ | refine dA ?_
 refine mB ?_
 first | refine gS ?_ | (refine gT ?_; refine mI ?_) | refine gV ?_
 first | refine gS ?_ | (refine gT ?_; refine dP ?_) | refine gV ?_
 first | refine dD ?_ | refine dA ?_
 refine mB ?_
 first | refine gS ?_ | (refine gT ?_; refine mI ?_) | refine gV ?_
 first | refine gS ?_ | (refine gT ?_; refine dP ?_) | refine gV ?_
 first | refine dD ?_ | refine dA ?_
 refine aB (aa (aq ?_))
 refine cz ?_
 exact ⟨rfl, hh.below⟩
end Go.Proofs.YtioilmppidlbnaaGreatDoor
/- The walk through the law LiftRaises. -/
namespace Go.Proofs.YtioilmppidlbnaaGreatDoor
open Go.RowKit
theorem yP {α : Type} {x : α} {H R : List α} (n : Nat) (h : H.drop n = R) (hx : x ∈ R) : x ∈ H := List.mem_of_mem_drop (h ▸ hx)
end Go.Proofs.YtioilmppidlbnaaGreatDoor
