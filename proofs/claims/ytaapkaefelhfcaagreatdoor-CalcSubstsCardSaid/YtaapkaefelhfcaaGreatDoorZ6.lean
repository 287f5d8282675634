/- Lemmas for calcSubsts, part 6. -/
import Derived.Test.YtaapkaefelhfcaaGreatDoorZ5
/- The walks through ogeeref08.put and Gather. -/
namespace Go.Proofs.YtaapkaefelhfcaaGreatDoor
open Go.RowKit
theorem mA {x : TR} (b : List TR) : ∀ {a : List TR}, (∀ t ∈ a, fM t.m x.m = true) → fK (a ++ b) x = a ++ fK b x
 | [], _ => rfl
 | t :: a, h => by
  rw [List.cons_append, fK, if_pos (h t List.mem_cons_self), mA b fun s hs => h s (List.mem_cons_of_mem _ hs)]
  rfl
theorem xX {x : TR} {l : List TR} (h : ∀ t ∈ l, fM t.m x.m = true) : fK l x = l ++ [⟨x.m, nR x.c.d⟩] := by
 have := mA [] h
 rwa [List.append_nil] at this
theorem zi {x t : TR} {l : List TR} {i : Nat} (hx : l[i]? = some t) (h : ∀ s ∈ l.take i, fM s.m x.m = true) (h1 : fM t.m x.m = false) : fK l x = if t.m = x.m then l.take i ++ ⟨x.m, nR (t.c.d + x.c.d)⟩ :: l.drop (i + 1) else l.take i ++ ⟨x.m, nR x.c.d⟩ :: l.drop i := by
 have e : l = l.take i ++ t :: l.drop (i + 1) := by rw [← iT hx, List.take_append_drop]
 have e2 : fK l x = l.take i ++ fK (t :: l.drop (i + 1)) x := by
  conv => lhs; rw [e]
  exact mA _ h
 rw [e2, fK, if_neg (by rw [h1]; decide), iT hx]
 by_cases he : t.m = x.m
 ·rw [if_pos he, if_neg (by rw [he, iJ]; decide)]
 ·rw [if_neg he, if_pos]
  cases h2 : fM x.m t.m with
  | true => rfl
  | false => exact absurd (kx h1 h2) he
theorem ur (A : Option Addr) (n c : Nat) (l : List TR) (x : TR) (w : World) (hS : Sl w A n 4 (aQ TR.cells l)) (hcn : n ≤ c) (hn : n ≤ 1000000) (ho : ∀ t ∈ l, t.c.ok) (hx : x.c.ok) :
  Calls Tryz.prog 190 #[.slice A n c, .agg #[.string x.m, .bool x.c.neg, .string x.c.bJ, .int .i64 x.c.e]] w fun r w' => ∃ A' c', r = .returned (.slice A' (fK l x).length c') ∧ Hp w [.row A' (fK l x).length c' 55 4 (aQ TR.cells (fK l x))] w' := by
 have hh := Hp.start w
 have hln := hS.cg TR.len (by decide)
 have hfo := fun w1 => dR x.c w1 (by have := hx.1; omega) (by have := hx.2.1; omega) (by have := hx.2.2; omega)
 refine ak (N := 76) (l := [.slice A n c, .agg #[.string x.m, .bool x.c.neg, .string x.c.bJ, .int .i64 x.c.e]]) Tryz.func190 rfl rfl (by simp) ?_
 refine sr ?_
 refine cK hh [_,_,_,_] ?_
 intro b3 w3 hh
 refine aL (ae (sr (aI (ae (ah (al ?_))))))
 refine bs [5, 7, 8, 9, 10, 11, 12, 13, 14, 15, 16, 17, 18, 19, 20, 21, 22] 5
  (fun v w' => ∃ i : Nat, i ≤ n ∧ v = .int .i64 i ∧ (∀ t ∈ l.take i, fM t.m x.m = true) ∧ Hp w [.blk b3 55 [.string x.m, .bool x.c.neg, .string x.c.bJ, .int .i64 x.c.e] (0, 0)] w')
  (fun v _ => n - (intOf v).toNat) ?_ ?_
 ·exact ⟨0, Nat.zero_le _, rfl, fun t ht => (nomatch ht), hh⟩
 ·clear hh
  rintro ρ' v w' ⟨i, hi, rfl, hall, hh⟩
  by_cases hlt : i < n
  ·obtain ⟨t, ht⟩ := aD (l := l) (k := i) (by omega)
   obtain ⟨ad, rfl, hr⟩ := hS.at_ (by omega)
   have hto := ho t (List.mem_of_getElem? ht)
   cases hl : fM t.m x.m with
   | true =>
    have hbl : Op.bytesLess t.m.toList x.m.toList = true := by rw [gR, hl]
    refine ah (ah ?_)
    refine aX 12 [[(5, none)], [(0, none)], [(8, some 1)], [(7, some 0), (9, some 2)], [(10, some 3)], [(0, none), (11, some 4)], [(5, none), (11, some 4)], [(12, some 5), (13, some 6), (11, some 4)], [(14, some 7), (11, some 4)], [(15, some 8), (11, some 4)], [(3, none), (11, some 4)], [(17, some 10), (11, some 4)]] [(11, 18), (10, 17), (9, 16), (8, 15), (7, 14), (6, 13), (5, 12), (4, 11), (3, 10), (2, 9), (1, 8), (0, 7)] hh mixed (by kernel_rfl) ?_
    refine eb ?_
    refine fN ?_
    refine qV ?_
    refine xI ?_
    refine ie ?_
    first | refine dS ?_ | refine dU ?_ | refine dG (fN ?_)
    first | refine dS ?_ | refine dU ?_ | refine dG (eb ?_)
    first | refine dS ?_ | refine dU ?_ | refine dG (iA (i) ?_)
    first | refine dS ?_ | refine dU ?_ | refine dG (jP ?_)
    first | refine dS ?_ | refine dU ?_ | refine dG (hU (fun _ hj => ((hr.ext hj.hp.below).recAt TR.len ht).cell (i := 0) rfl) ?_)
    first | refine dS ?_ | refine dU ?_ | refine dG (cD ?_)
    first | refine dS ?_ | refine dU ?_ | refine dG (dF 0 ?_)
    refine a0 ?_
    intro f W hJ hV
    have hb_2 := hJ.bl
    obtain ⟨v18, v17, v16, v15, v14, v13, v12, v11, v10, v9, v8, v7, _⟩ := hV
    replace hh := hJ.hp
    refine aN (a4 (aa v18 (aa v17 (aa v16 (aa v15 (aa v14 (aa v13 (aa v12 (aa v11 (aa v10 (aa v9 (aa v8 (aa v7 aM))))))))))))) ?_
    dsimp only [ca]
    clear hJ
    first | refine gS ?_ | (refine gT ?_; refine kK rfl rfl (by decide) ?_) | refine gV ?_
    first | refine cR ?_ | refine cQ ?_
    refine ae ?_
    rw [hbl]
    refine cT (aj (ai (al (aq (mI ?_)))))
    refine bL (aI (aE (aW (ai ?_))))
    refine ⟨⟨i + 1, by omega, rfl, fun s hs => ?_, hh⟩, by show n - (i + 1) < n - i; omega, ?_⟩
    ·rw [aJ ht] at hs
     rcases List.mem_append.1 hs with hs | hs
     ·exact hall s hs
     ·rw [List.mem_singleton.1 hs]; exact hl
    ·(repeat (first | exact aw _ _ _ | refine ax rfl ?_ | refine ar rfl ?_))
   | false =>
    have hbl : Op.bytesLess t.m.toList x.m.toList = false := by rw [gR, hl]
    have hput := zi ht hall hl
    have hS1 := hS.front (m := i) (by omega)
    rw [show (aQ TR.cells l).take (i * 4) = aQ TR.cells (l.take i) from ix TR.len l i] at hS1
    have o1 := bf TR.one (l.take i)
    refine ah (ah ?_)
    refine aX 12 [[(5, none)], [(0, none)], [(8, some 1)], [(7, some 0), (9, some 2)], [(10, some 3)], [(0, none), (11, some 4)], [(5, none), (11, some 4)], [(12, some 5), (13, some 6), (11, some 4)], [(14, some 7), (11, some 4)], [(15, some 8), (11, some 4)], [(3, none), (11, some 4)], [(17, some 10), (11, some 4)]] [(11, 18), (10, 17), (9, 16), (8, 15), (7, 14), (6, 13), (5, 12), (4, 11), (3, 10), (2, 9), (1, 8), (0, 7)] hh mixed (by kernel_rfl) ?_
    refine eb ?_
    refine fN ?_
    refine qV ?_
    refine xI ?_
    refine ie ?_
    first | refine dS ?_ | refine dU ?_ | refine dG (fN ?_)
    first | refine dS ?_ | refine dU ?_ | refine dG (eb ?_)
    first | refine dS ?_ | refine dU ?_ | refine dG (iA (i) ?_)
    first | refine dS ?_ | refine dU ?_ | refine dG (jP ?_)
    first | refine dS ?_ | refine dU ?_ | refine dG (hU (fun _ hj => ((hr.ext hj.hp.below).recAt TR.len ht).cell (i := 0) rfl) ?_)
    first | refine dS ?_ | refine dU ?_ | refine dG (cD ?_)
    first | refine dS ?_ | refine dU ?_ | refine dG (dF 0 ?_)
    refine a0 ?_
    intro f W hJ hV
    have hb_2 := hJ.bl
    obtain ⟨v18, v17, v16, v15, v14, v13, v12, v11, v10, v9, v8, v7, _⟩ := hV
    replace hh := hJ.hp
    refine aN (a4 (aa v18 (aa v17 (aa v16 (aa v15 (aa v14 (aa v13 (aa v12 (aa v11 (aa v10 (aa v9 (aa v8 (aa v7 aM))))))))))))) ?_
    dsimp only [ca]
    clear hJ
    first | refine gS ?_ | (refine gT ?_; refine kK rfl rfl (by decide) ?_) | refine gV ?_
    first | refine cR ?_ | refine cQ ?_
    refine ae ?_
    rw [hbl]
    refine cF ?_
    refine aP ?_
    refine ay (ay (a6 (ai (sr ?_))))
    refine iH hh aF.out aC.out (by decide) ?_
    intro b23 w23 hh
    refine mL (mI ?_)
    refine jg (h := i) aF.out aC.size rfl rfl (by omega) (by omega) (by decide) ?_
    refine bF hh (i := 0) rfl rfl rfl (hS1.ext hh.below) aF.out aC.out rfl (by decide) ?one9 (by omega) (by omega) (by decide) ?kk9
    case one9 => first | rfl | assumption | exact oneCells_i64s _ | exact oneCells_u8s _
    intro A27 c27 w27 hh
    simp only [List.set_cons_zero] at hh
    refine aL (ae (ah (ah ?_)))
    have hpl := fun w1 => ta t.c x.c w1 hto hx
    by_cases he : t.m = x.m
    ·rw [if_pos he] at hput
     have hS2 := hS.back (l := i + 1) (by omega) hcn
     rw [show (aQ TR.cells l).drop ((i + 1) * 4) = aQ TR.cells (l.drop (i + 1)) from fY TR.len l (i + 1)] at hS2
     have o2 := bf TR.one (l.drop (i + 1))
     refine aX 12 [[(5, none)], [(0, none)], [(29, some 1)], [(28, some 0), (30, some 2)], [(31, some 3)], [(0, none), (32, some 4)], [(5, none), (32, some 4)], [(33, some 5), (34, some 6), (32, some 4)], [(35, some 7), (32, some 4)], [(36, some 8), (32, some 4)], [(3, none), (32, some 4)], [(38, some 10), (32, some 4)]] [(11, 39), (10, 38), (9, 37), (8, 36), (7, 35), (6, 34), (5, 33), (4, 32), (3, 31), (2, 30), (1, 29), (0, 28)] hh mixed (by kernel_rfl) ?_
     refine eb ?_
     refine fN ?_
     refine qV ?_
     refine xI ?_
     refine ie ?_
     first | refine dS ?_ | refine dU ?_ | refine dG (fN ?_)
     first | refine dS ?_ | refine dU ?_ | refine dG (eb ?_)
     first | refine dS ?_ | refine dU ?_ | refine dG (iA (i) ?_)
     first | refine dS ?_ | refine dU ?_ | refine dG (jP ?_)
     first | refine dS ?_ | refine dU ?_ | refine dG (hU (fun _ hj => ((hr.ext hj.hp.below).recAt TR.len ht).cell (i := 0) rfl) ?_)
     first | refine dS ?_ | refine dU ?_ | refine dG (cD ?_)
     first | refine dS ?_ | refine dU ?_ | refine dG (dF 1 ?_)
     refine a0 ?_
     intro f W hJ hV
     have hb_5 := hJ.bl
     obtain ⟨v39, v38, v37, v36, v35, v34, v33, v32, v31, v30, v29, v28, _⟩ := hV
     replace hh := hJ.hp
     refine aN (a4 (aa v39 (aa v38 (aa v37 (aa v36 (aa v35 (aa v34 (aa v33 (aa v32 (aa v31 (aa v30 (aa v29 (aa v28 aM))))))))))))) ?_
     dsimp only [ca]
     clear hJ
     first | refine gS ?_ | (refine gT ?_; (first | refine dD rfl rfl (by first | rfl | assumption | decide) (by decide) ?_ | refine dy rfl rfl (by first | assumption | decide) (by decide) ?_)) | refine gV ?_
     first | refine cR ?_ | refine cQ ?_
     refine ae (cT (ah ?_))
     refine aX 13 [[(6, none)], [(3, none)], [(43, some 1)], [(0, none)], [(5, none)], [(45, some 3), (46, some 4)], [(47, some 5)], [(48, some 6)], [(3, none)], [(50, some 8)], [(49, some 7), (51, some 9)], [(44, some 2), (52, some 10)], [(53, some 11)]] [(12, 54), (11, 53), (10, 52), (9, 51), (8, 50), (7, 49), (6, 48), (5, 47), (4, 46), (3, 45), (2, 44), (1, 43), (0, 42)] hh mixed (by kernel_rfl) ?_
     refine fN ?_
     refine cD ?_
     refine dF 1 ?_
     refine fN ?_
     refine eb ?_
     refine iA (i) ?_
     refine jP ?_
     refine rh [_,_,_] (fun _ hj => ((hr.ext hj.hp.below).recAt TR.len ht).drop 1) ?_
     refine cD ?_
     refine ef 1 [_,_,_] ?_
     refine dC (fun _ hj => hpl _) ?_
     refine dB [_,_,_,_] ?_
     refine pD [_,_,_,_] ?_
     refine a0 ?_
     intro f W hJ hV
     have hb_6 := hJ.bl
     obtain ⟨v54, v53, v52, v51, v50, v49, v48, v47, v46, v45, v44, v43, v42, _⟩ := hV
     obtain ⟨A54, c54, e54, f54⟩ : Rows _ _ _ (f 12) W := v54
     replace hh := hJ.hp
     refine aN (a4 (aa e54 (aa v53 (aa v52 (aa v51 (aa v50 (aa v49 (aa v48 (aa v47 (aa v46 (aa v45 (aa v44 (aa v43 (aa v42 aM)))))))))))))) ?_
     dsimp only [ca]
     clear e54 hJ
     refine bF hh (i := 0) rfl rfl rfl (f54) aF.out aC.out rfl (by decide) (by first | rfl | exact bU _ | exact bI _ | exact oneCells_i64s _ | exact bf NR.one _) (by omega) (by omega) (by decide) ?_
     intro A55 c55 w55 hh
     simp only [List.set_cons_zero] at hh
     refine aL (ae (sr (mL (mL (mI ?_)))))
     refine bL ?_
     refine a8 rfl rfl (by decide) (gw aF.out aC.size rfl rfl (l := i + 1) (by omega) (by omega) (by omega)) ?_
     refine bF hh (i := 0) rfl rfl rfl (hS2.ext hh.below) aF.out aC.out rfl (by decide) ?one10 (by omega) (by omega) (by decide) ?kk10
     case one10 => first | rfl | assumption | exact oneCells_i64s _ | exact oneCells_u8s _
     intro A61 c61 w61 hh
     simp only [List.set_cons_zero] at hh
     refine aL (ae (ao (az ?_)))
     refine cA ?_
     have e1 : (fK l x).length = 0 + i + 1 + (n - (i + 1)) := by rw [hput, List.length_append, List.length_cons, List.length_take, List.length_drop]; omega
     have e2 : aQ TR.cells (fK l x) = [] ++ aQ TR.cells (l.take i) ++ [.string x.m, .bool (nR (t.c.d + x.c.d)).neg, .string (nR (t.c.d + x.c.d)).bJ, .int .i64 (nR (t.c.d + x.c.d)).e] ++ aQ TR.cells (l.drop (i + 1)) := by rw [hput, bR, fX, List.nil_append, List.append_assoc]; rfl
     exact ⟨_, _, by rw [e1], by rw [e1, e2]; exact hh.sub (List.Sublist.cons_cons _ (List.nil_sublist _))⟩
    ·rw [if_neg he] at hput
     have hS2 := hS.back (l := i) (by omega) hcn
     rw [show (aQ TR.cells l).drop (i * 4) = aQ TR.cells (l.drop i) from fY TR.len l i] at hS2
     have o2 := bf TR.one (l.drop i)
     refine aX 12 [[(5, none)], [(0, none)], [(29, some 1)], [(28, some 0), (30, some 2)], [(31, some 3)], [(0, none), (32, some 4)], [(5, none), (32, some 4)], [(33, some 5), (34, some 6), (32, some 4)], [(35, some 7), (32, some 4)], [(36, some 8), (32, some 4)], [(3, none), (32, some 4)], [(38, some 10), (32, some 4)]] [(11, 39), (10, 38), (9, 37), (8, 36), (7, 35), (6, 34), (5, 33), (4, 32), (3, 31), (2, 30), (1, 29), (0, 28)] hh mixed (by kernel_rfl) ?_
     refine eb ?_
     refine fN ?_
     refine qV ?_
     refine xI ?_
     refine ie ?_
     first | refine dS ?_ | refine dU ?_ | refine dG (fN ?_)
     first | refine dS ?_ | refine dU ?_ | refine dG (eb ?_)
     first | refine dS ?_ | refine dU ?_ | refine dG (iA (i) ?_)
     first | refine dS ?_ | refine dU ?_ | refine dG (jP ?_)
     first | refine dS ?_ | refine dU ?_ | refine dG (hU (fun _ hj => ((hr.ext hj.hp.below).recAt TR.len ht).cell (i := 0) rfl) ?_)
     first | refine dS ?_ | refine dU ?_ | refine dG (cD ?_)
     first | refine dS ?_ | refine dU ?_ | refine dG (dF 1 ?_)
     refine a0 ?_
     intro f W hJ hV
     have hb_5 := hJ.bl
     obtain ⟨v39, v38, v37, v36, v35, v34, v33, v32, v31, v30, v29, v28, _⟩ := hV
     replace hh := hJ.hp
     refine aN (a4 (aa v39 (aa v38 (aa v37 (aa v36 (aa v35 (aa v34 (aa v33 (aa v32 (aa v31 (aa v30 (aa v29 (aa v28 aM))))))))))))) ?_
     dsimp only [ca]
     clear hJ
     first | refine gS ?_ | (refine gT ?_; (first | refine dD rfl rfl (by first | rfl | assumption | decide) (by decide) ?_ | refine dy rfl rfl (by first | assumption | decide) (by decide) ?_)) | refine gV ?_
     first | refine cR ?_ | refine cQ ?_
     refine ae (cF (aj (ai (ah ?_))))
     refine aX 8 [[(6, none)], [(3, none)], [(63, some 1)], [(3, none)], [(65, some 3)], [(66, some 4)], [(64, some 2), (67, some 5)], [(68, some 6)]] [(7, 69), (6, 68), (5, 67), (4, 66), (3, 65), (2, 64), (1, 63), (0, 62)] hh mixed (by kernel_rfl) ?_
     refine fN ?_
     refine cD ?_
     refine dF 1 ?_
     refine cD ?_
     refine ef 1 [_,_,_] ?_
     refine dC (fun _ hj => hfo _) ?_
     refine dB [_,_,_,_] ?_
     refine pD [_,_,_,_] ?_
     refine a0 ?_
     intro f W hJ hV
     have hb_8 := hJ.bl
     obtain ⟨v69, v68, v67, v66, v65, v64, v63, v62, _⟩ := hV
     obtain ⟨A69, c69, e69, f69⟩ : Rows _ _ _ (f 7) W := v69
     replace hh := hJ.hp
     refine aN (a4 (aa e69 (aa v68 (aa v67 (aa v66 (aa v65 (aa v64 (aa v63 (aa v62 aM))))))))) ?_
     dsimp only [ca]
     clear e69 hJ
     refine bF hh (i := 0) rfl rfl rfl (f69) aF.out aC.out rfl (by decide) (by first | rfl | exact bU _ | exact bI _ | exact oneCells_i64s _ | exact bf NR.one _) (by omega) (by omega) (by decide) ?_
     intro A70 c70 w70 hh
     simp only [List.set_cons_zero] at hh
     refine aL (ae (sr (mL (mL (mI ?_)))))
     refine a8 rfl rfl (by decide) (gw aF.out aC.size rfl rfl (l := i) (by omega) (by omega) (by omega)) ?_
     refine bF hh (i := 0) rfl rfl rfl (hS2.ext hh.below) aF.out aC.out rfl (by decide) ?one11 (by omega) (by omega) (by decide) ?kk11
     case one11 => first | rfl | assumption | exact oneCells_i64s _ | exact oneCells_u8s _
     intro A75 c75 w75 hh
     simp only [List.set_cons_zero] at hh
     refine aL (ae (ao ?_))
     refine cA ?_
     have e1 : (fK l x).length = 0 + i + 1 + (n - i) := by rw [hput, List.length_append, List.length_cons, List.length_take, List.length_drop]; omega
     have e2 : aQ TR.cells (fK l x) = [] ++ aQ TR.cells (l.take i) ++ [.string x.m, .bool (nR x.c.d).neg, .string (nR x.c.d).bJ, .int .i64 (nR x.c.d).e] ++ aQ TR.cells (l.drop i) := by rw [hput, bR, fX, List.nil_append, List.append_assoc]; rfl
     exact ⟨_, _, by rw [e1], by rw [e1, e2]; exact hh.sub (List.Sublist.cons_cons _ (List.nil_sublist _))⟩
  ·obtain rfl : i = n := by omega
   have hput := xX (x := x) (l := l) (by rwa [List.take_of_length_le (by omega)] at hall)
   rw [show l ++ [⟨x.m, nR x.c.d⟩] = l.take i ++ ⟨x.m, nR x.c.d⟩ :: l.drop i by rw [List.take_of_length_le (by omega), List.drop_of_length_le (by omega)]] at hput
   have hS1 := hS.front (m := i) (by omega)
   rw [show (aQ TR.cells l).take (i * 4) = aQ TR.cells (l.take i) from ix TR.len l i] at hS1
   have o1 := bf TR.one (l.take i)
   have hS2 := hS.back (l := i) (by omega) hcn
   rw [show (aQ TR.cells l).drop (i * 4) = aQ TR.cells (l.drop i) from fY TR.len l i] at hS2
   have o2 := bf TR.one (l.drop i)
   refine ah (ah ?_)
   refine aX 12 [[(5, none)], [(0, none)], [(8, some 1)], [(7, some 0), (9, some 2)], [(10, some 3)], [(0, none), (11, some 4)], [(5, none), (11, some 4)], [(12, some 5), (13, some 6), (11, some 4)], [(14, some 7), (11, some 4)], [(15, some 8), (11, some 4)], [(3, none), (11, some 4)], [(17, some 10), (11, some 4)]] [(11, 18), (10, 17), (9, 16), (8, 15), (7, 14), (6, 13), (5, 12), (4, 11), (3, 10), (2, 9), (1, 8), (0, 7)] hh mixed (by kernel_rfl) ?_
   refine eb ?_
   refine fN ?_
   refine qV ?_
   refine xI ?_
   refine ie ?_
   first | refine dS ?_ | refine dU ?_ | refine dG (fN ?_)
   first | refine dS ?_ | refine dU ?_ | refine dG (eb ?_)
   first | refine eX (i := 7) rfl (fun ρ1 w1 hj hR => (show ρ1 11 = Value.bool _ from hR.2.2.1)) (by decide) ?_ | refine ek (i := 7) rfl (fun ρ1 w1 hj hR => (show ρ1 11 = undef from hR.2.2.1)) ?_ | refine dL (i := 7) rfl (fun ρ1 w1 hj hR => (show ρ1 11 = Value.bool _ from hR.2.2.1)) (fun ρ1 w1 hj hR => eI aF.out aC.size (show ρ1 12 = Value.slice _ _ _ from hR.1) (show ρ1 13 = Value.int _ _ from hR.2.1) (by omega) (by omega)) ?_
   first | refine dS ?_ | refine dU ?_ | refine dG (jP ?_)
   first | refine dS ?_ | refine dU ?_ | refine dG (hU (fun _ hj => hT) ?_)
   first | refine dS ?_ | refine dU ?_ | refine dG (cD ?_)
   first | refine dS ?_ | refine dU ?_ | refine dG (dF 0 ?_)
   refine a0 ?_
   intro f W hJ hV
   have hb_2 := hJ.bl
   obtain ⟨v18, v17, v16, v15, v14, v13, v12, v11, v10, v9, v8, v7, _⟩ := hV
   replace hh := hJ.hp
   refine aN (a4 (aa v18 (aa v17 (aa v16 (aa v15 (aa v14 (aa v13 (aa v12 (aa v11 (aa v10 (aa v9 (aa v8 (aa v7 aM))))))))))))) ?_
   dsimp only [ca]
   clear hJ
   first | refine gS ?_ | (refine gT ?_; refine kK rfl rfl (by decide) ?_) | refine gV ?_
   first | refine cR ?_ | refine cQ ?_
   refine ae (cF ?_)
   refine aP ?_
   refine ay (ay (a6 (ai (sr ?_))))
   refine iH hh aF.out aC.out (by decide) ?_
   intro b23 w23 hh
   refine mL (mI ?_)
   refine jg (h := i) aF.out aC.size rfl rfl (by omega) (by omega) (by decide) ?_
   refine bF hh (i := 0) rfl rfl rfl (hS1.ext hh.below) aF.out aC.out rfl (by decide) ?one12 (by omega) (by omega) (by decide) ?kk12
   case one12 => first | rfl | assumption | exact oneCells_i64s _ | exact oneCells_u8s _
   intro A27 c27 w27 hh
   simp only [List.set_cons_zero] at hh
   refine aL (ae (ah (ah ?_)))
   refine aX 12 [[(5, none)], [(0, none)], [(29, some 1)], [(28, some 0), (30, some 2)], [(31, some 3)], [(0, none), (32, some 4)], [(5, none), (32, some 4)], [(33, some 5), (34, some 6), (32, some 4)], [(35, some 7), (32, some 4)], [(36, some 8), (32, some 4)], [(3, none), (32, some 4)], [(38, some 10), (32, some 4)]] [(11, 39), (10, 38), (9, 37), (8, 36), (7, 35), (6, 34), (5, 33), (4, 32), (3, 31), (2, 30), (1, 29), (0, 28)] hh mixed (by kernel_rfl) ?_
   refine eb ?_
   refine fN ?_
   refine qV ?_
   refine xI ?_
   refine ie ?_
   first | refine dS ?_ | refine dU ?_ | refine dG (fN ?_)
   first | refine dS ?_ | refine dU ?_ | refine dG (eb ?_)
   first | refine eX (i := 7) rfl (fun ρ1 w1 hj hR => (show ρ1 32 = Value.bool _ from hR.2.2.1)) (by decide) ?_ | refine ek (i := 7) rfl (fun ρ1 w1 hj hR => (show ρ1 32 = undef from hR.2.2.1)) ?_ | refine dL (i := 7) rfl (fun ρ1 w1 hj hR => (show ρ1 32 = Value.bool _ from hR.2.2.1)) (fun ρ1 w1 hj hR => eI aF.out aC.size (show ρ1 33 = Value.slice _ _ _ from hR.1) (show ρ1 34 = Value.int _ _ from hR.2.1) (by omega) (by omega)) ?_
   first | refine dS ?_ | refine dU ?_ | refine dG (jP ?_)
   first | refine dS ?_ | refine dU ?_ | refine dG (hU (fun _ hj => hT) ?_)
   first | refine dS ?_ | refine dU ?_ | refine dG (cD ?_)
   first | refine dS ?_ | refine dU ?_ | refine dG (dF 1 ?_)
   refine a0 ?_
   intro f W hJ hV
   have hb_5 := hJ.bl
   obtain ⟨v39, v38, v37, v36, v35, v34, v33, v32, v31, v30, v29, v28, _⟩ := hV
   replace hh := hJ.hp
   refine aN (a4 (aa v39 (aa v38 (aa v37 (aa v36 (aa v35 (aa v34 (aa v33 (aa v32 (aa v31 (aa v30 (aa v29 (aa v28 aM))))))))))))) ?_
   dsimp only [ca]
   clear hJ
   first | refine gS ?_ | (refine gT ?_; (first | refine dD rfl rfl (by first | rfl | assumption | decide) (by decide) ?_ | refine dy rfl rfl (by first | assumption | decide) (by decide) ?_)) | refine gV ?_
   first | refine cR ?_ | refine cQ ?_
   refine ae (cF (aj (ai (ah ?_))))
   refine aX 8 [[(6, none)], [(3, none)], [(63, some 1)], [(3, none)], [(65, some 3)], [(66, some 4)], [(64, some 2), (67, some 5)], [(68, some 6)]] [(7, 69), (6, 68), (5, 67), (4, 66), (3, 65), (2, 64), (1, 63), (0, 62)] hh mixed (by kernel_rfl) ?_
   refine fN ?_
   refine cD ?_
   refine dF 1 ?_
   refine cD ?_
   refine ef 1 [_,_,_] ?_
   refine dC (fun _ hj => hfo _) ?_
   refine dB [_,_,_,_] ?_
   refine pD [_,_,_,_] ?_
   refine a0 ?_
   intro f W hJ hV
   have hb_8 := hJ.bl
   obtain ⟨v69, v68, v67, v66, v65, v64, v63, v62, _⟩ := hV
   obtain ⟨A69, c69, e69, f69⟩ : Rows _ _ _ (f 7) W := v69
   replace hh := hJ.hp
   refine aN (a4 (aa e69 (aa v68 (aa v67 (aa v66 (aa v65 (aa v64 (aa v63 (aa v62 aM))))))))) ?_
   dsimp only [ca]
   clear e69 hJ
   refine bF hh (i := 0) rfl rfl rfl (f69) aF.out aC.out rfl (by decide) (by first | rfl | exact bU _ | exact bI _ | exact oneCells_i64s _ | exact bf NR.one _) (by omega) (by omega) (by decide) ?_
   intro A70 c70 w70 hh
   simp only [List.set_cons_zero] at hh
   refine aL (ae (sr (mL (mL (mI ?_)))))
   refine a8 rfl rfl (by decide) (gw aF.out aC.size rfl rfl (l := i) (by omega) (by omega) (by omega)) ?_
   refine bF hh (i := 0) rfl rfl rfl (hS2.ext hh.below) aF.out aC.out rfl (by decide) ?one13 (by omega) (by omega) (by decide) ?kk13
   case one13 => first | rfl | assumption | exact oneCells_i64s _ | exact oneCells_u8s _
   intro A75 c75 w75 hh
   simp only [List.set_cons_zero] at hh
   refine aL (ae (ao ?_))
   refine cA ?_
   have e1 : (fK l x).length = 0 + i + 1 + (i - i) := by rw [hput, List.length_append, List.length_cons, List.length_take, List.length_drop]; omega
   have e2 : aQ TR.cells (fK l x) = [] ++ aQ TR.cells (l.take i) ++ [.string x.m, .bool (nR x.c.d).neg, .string (nR x.c.d).bJ, .int .i64 (nR x.c.d).e] ++ aQ TR.cells (l.drop i) := by rw [hput, bR, fX, List.nil_append, List.append_assoc]; rfl
   exact ⟨_, _, by rw [e1], by rw [e1, e2]; exact hh.sub (List.Sublist.cons_cons _ (List.nil_sublist _))⟩
theorem qB {k : Nat} {l : List TR} (ho : gi k l) (hk : k + l.length ≤ 3999980) : gi (k + l.length) (gg l) := fun t ht => by
 have h := tH l (fun t ht => (ho t ht).2) t ht
 exact ⟨by rw [tg l t ht]; exact h.ok (by omega), h⟩
theorem ja (v : Int) (A : Option Addr) (n c : Nat) (l : List TR) (k : Nat) (w : World) (hS : Sl w A n 4 (aQ TR.cells l)) (hn : n ≤ 100000) (ho : gi k l) (hk : k + n ≤ 3999980) :
  Calls Tryz.prog 94 #[.int .i64 v, .slice A n c] w fun r w' => ∃ g : PX, cC (eW l) v (aT l) g ∧ r = .returned (.tuple #[.agg #[.int .i64 g.v, .slice g.A g.n g.c], .int .i64 (eW l)]) ∧ Hp w [g.row] w' := by
 have hh := Hp.start w
 have hln := hS.cg TR.len (by decide)
 refine ak (N := 49) (l := [.int .i64 v, .slice A n c]) Tryz.func94 rfl rfl (by simp) ?_
 refine sr ?_
 refine cv hh ?_
 intro b4 w4 hh
 refine aI (ae (sr (aL (ae (ah (sr (aI (ae (al ?_)))))))))
 replace hh := hh.di 55 4
 refine ct [6, 7, 10, 11, 12, 13, 14, 15, 16, 17, 18, 19, 20, 21] 6 7
  (fun a x w' => ∃ (i : Nat) (A' : Option Addr) (c' : Nat), i ≤ n ∧ x = .int .i64 i ∧ a = .slice A' (gg (l.take i)).length c' ∧ Hp w [.row A' (gg (l.take i)).length c' 55 4 (aQ TR.cells (gg (l.take i))), .blk b4 24 [.int .i64 0, .slice none 0 0] (0, 0)] w')
  (fun _ x _ => n - (intOf x).toNat) ?_ ?_
 ·exact ⟨0, none, 0, Nat.zero_le _, rfl, rfl, hh⟩
 ·clear hh
  rintro ρ' a_ x_ w' ⟨i, A', c', hi, rfl, rfl, hh⟩
  have hGl := qL (l.take i)
  rw [List.length_take] at hGl
  by_cases hlt : i < n
  ·obtain ⟨x, hx⟩ := aD (l := l) (k := i) (by omega)
   obtain ⟨ad, rfl, hr⟩ := hS.at_ (by omega)
   have hgo := qB (l := l.take i) (k := k) (fun t ht => ho t (List.mem_of_mem_take ht)) (by rw [List.length_take]; omega)
   refine ah (sr (mI (mL (aO ?_))))
   refine aU (ae (cT (aj (ai (ah (al (aq (mL (mL (mI ?_))))))))))
   refine aR (k := i) aF.out aC.size rfl rfl (by omega) (by omega) (by decide) ?_
   refine bQ (vs := [_, _, _, _]) aC.out rfl ((hr.ext hh.below).recAt TR.len hx) rfl (by decide) ?_
   refine aV (ur A' (gg (l.take i)).length c' (gg (l.take i)) x _ (hh.aK (i := 0) rfl) (hh.g7 (i := 0) rfl) (by omega) (fun t ht => (hgo t ht).1) (ho x (List.mem_of_getElem? hx)).1) av.out rfl (by decide) ?_
   rintro e_ w21 ⟨A2, c2, rfl, h3⟩
   refine ⟨_, rfl, ?_⟩
   replace hh := hh.join h3
   simp only [List.cons_append, List.nil_append] at hh
   rw [← fR, ← aJ hx] at hh ⊢
   refine aL (aE (aW (ai (aq (mI ?_)))))
   refine bL (aI (aE (ai ?_)))
   replace hh := hh.sub (List.Sublist.cons_cons _ (List.Sublist.cons _ (List.Sublist.cons_cons _ List.Sublist.slnil)))
   refine ⟨⟨i + 1, A2, c2, by omega, rfl, rfl, hh⟩, by show n - (i + 1) < n - i; omega, ?_⟩
   (repeat (first | exact aw _ _ _ | refine ax rfl ?_ | refine ar rfl ?_))
  ·obtain rfl : i = n := by omega
   rw [List.take_of_length_le (by omega)] at hh hGl ⊢
   have hgo := qB ho (by omega)
   have hgt : aT l = (gg l).filter kM := rfl
   unfold eW
   rw [hgt]
   generalize gg l = G at *
   obtain ⟨m, hm⟩ : ∃ m, m = G.length := ⟨_, rfl⟩
   rw [← hm] at hh ⊢
   refine ah (sr (mI (mL (aO ?_))))
   refine aU (ae (cF ?_))
   refine aP ?_
   refine ay (ay (a6 (ai (sr (aL (ae (ah (sr (aI (ae (al ?_)))))))))))
   replace hh := hh.di 55 4
   refine ct [8, 9, 22, 23, 24, 25, 26, 27, 28, 29, 30, 31, 32, 33, 34, 35, 36, 37, 38, 39, 40, 41] 8 9
    (fun a x w' => ∃ (j : Nat) (B : Option Addr) (d : Nat), j ≤ m ∧ x = .int .i64 j ∧ a = .slice B ((G.take j).filter kM).length d ∧ Hp w [.row B ((G.take j).filter kM).length d 55 4 (aQ TR.cells ((G.take j).filter kM)), .row A' m c' 55 4 (aQ TR.cells G), .blk b4 24 [.int .i64 0, .slice none 0 0] (0, 0)] w')
    (fun _ x _ => m - (intOf x).toNat) ?_ ?_
   ·exact ⟨0, none, 0, Nat.zero_le _, rfl, rfl, hh⟩
   ·clear hh
    rintro ρ2 a2 x2 w2 ⟨j, B, d, hj, rfl, rfl, hh⟩
    have hfl : ((G.take j).filter kM).length ≤ j := Nat.le_trans (List.length_filter_le _ _) (by rw [List.length_take]; omega)
    by_cases hjm : j < m
    ·obtain ⟨t, ht⟩ := aD (l := G) (k := j) (by omega)
     have hto := hgo t (List.mem_of_getElem? ht)
     have hsg := fun w1 => ej t.c w1 (by have := hto.1.1; omega)
     have hzz : t.c.i.sign = 0 ↔ t.c.d = 0 := by
      rw [Int.sign_eq_zero_iff_zero]
      exact ⟨fun h => by unfold NR.d; rw [h]; rfl, gQ⟩
     obtain ⟨g0, rfl⟩ := hh.eO (i := 1) rfl (by omega)
     by_cases hz : t.c.d = 0
     ·have hs := hzz.2 hz
      have hft : (G.take (j + 1)).filter kM = (G.take j).filter kM := by
       rw [aJ ht, List.filter_append, List.filter_cons, if_neg (by unfold kM; rw [decide_eq_true hz]; decide)]
       simp
      refine ah (sr (mI (mL (aO ?_))))
      refine aU (ae (cT (aj (ai (ah (al (sr (mL (mI ?_)))))))))
      refine bp (k := j) aF.out aC.size rfl rfl (by omega) (by omega) (by decide) ?_
      refine bC ?_
      refine bQ (vs := [_, _, _]) aC.out rfl ((hh.iZ (f := TR.cells) (x := t) (l := G) (i := 1) rfl TR.len (by decide) ht).drop 1) rfl (by decide) ?_
      refine bG hh (hsg _) rfl ?_
      intro w33 hh
      refine cE (ae (cF (aj (aW (ai (aq (mI ?_)))))))
      refine bL (aI (aE (ai ?_)))
      refine ⟨⟨j + 1, B, d, by omega, rfl, by rw [hft]; rfl, by rw [hft]; exact hh⟩, by show m - (j + 1) < m - j; omega, ?_⟩
      (repeat (first | exact aw _ _ _ | refine ax rfl ?_ | refine ar rfl ?_))
     ·have hs : ¬ t.c.i.sign = 0 := fun h => hz (hzz.1 h)
      have hft : (G.take (j + 1)).filter kM = (G.take j).filter kM ++ [t] := by
       rw [aJ ht, List.filter_append, List.filter_cons, if_pos (by unfold kM; rw [decide_eq_false hz]; rfl)]
       simp
      refine ah (sr (mI (mL (aO ?_))))
      refine aU (ae (cT (aj (ai (ah (al (sr (mL (mI ?_)))))))))
      refine bp (k := j) aF.out aC.size rfl rfl (by omega) (by omega) (by decide) ?_
      refine bC ?_
      refine bQ (vs := [_, _, _]) aC.out rfl ((hh.iZ (f := TR.cells) (x := t) (l := G) (i := 1) rfl TR.len (by decide) ht).drop 1) rfl (by decide) ?_
      refine bG hh (hsg _) rfl ?_
      intro w33 hh
      refine cE (ae (cT (aq (mL (mL (mI ?_))))))
      refine bp (k := j) aF.out aC.size rfl rfl (by omega) (by omega) (by decide) ?_
      refine bQ (vs := [_, _, _, _]) aC.out rfl (hh.iZ (f := TR.cells) (x := t) (l := G) (i := 1) rfl TR.len (by decide) ht) rfl (by decide) ?_
      refine bB hh (cs := [_, _, _, _]) aF.out aC.out (bm (dM rfl) cn) rfl rfl (by decide) (by decide) (by decide) rfl (by decide) ?_
      intro b40 w40 hh
      refine bF hh (i := 1) rfl rfl rfl (hh.aK (i := 0) rfl) aF.out aC.out rfl (by decide) (by first | rfl | exact bU _ | exact bI _ | exact oneCells_i64s _ | exact bf NR.one _) (by omega) (by omega) (by decide) ?_
      intro A41 c41 w41 hh
      simp only [List.set_cons_zero, List.set_cons_succ] at hh
      replace hh := hh.sub (List.sublist_cons_self _ _)
      refine aL (aE (aW (ai (aq (mI ?_)))))
      refine bL (aI (aE (ai ?_)))
      refine ⟨⟨j + 1, A41, c41, by omega, rfl, by rw [hft, List.length_append]; rfl, by rw [hft, List.length_append, bR, fB]; exact hh⟩, by show m - (j + 1) < m - j; omega, ?_⟩
      (repeat (first | exact aw _ _ _ | refine ax rfl ?_ | refine ar rfl ?_))
    ·obtain rfl : j = m := by omega
     rw [List.take_of_length_le (by omega)] at hh hfl ⊢
     generalize G.filter kM = F at *
     by_cases h4 : 4096 < F.length
     ·rw [if_pos h4]
      refine ah (sr (mI (mL (aO ?_))))
      refine aU (ae (cF ?_))
      refine aP ?_
      refine ay (ay (a6 (ai (ah (sr (mL (aO ?_)))))))
      refine bY (ae (cT (sr ?_)))
      refine ep [_,_] ?_
      refine bE hh 2 [_,_] ?_
      intro ws hh
      replace hh : Hp _ (_ :: _ :: .blk _ _ [_, _] _ :: _) _ := hh
      refine aI (ae (ao (az ?_)))
      refine gL (aG rfl (aH (vs := [_, _]) aC.out (hh.au (i := 2) (n := 2) rfl rfl) rfl) (bS (cf rfl) a7)) ?_
      exact ⟨PX.nil, cC.err (by decide), rfl, (hh.sub (List.nil_sublist _)).fP⟩
     ·rw [if_neg h4]
      refine ah (sr (mI (mL (aO ?_))))
      refine aU (ae (cF ?_))
      refine aP ?_
      refine ay (ay (a6 (ai (ah (sr (mL (aO ?_)))))))
      refine bY (ae (cF (aj (ai (sr (mI (mL ?_)))))))
      refine ep [_,_] ?_
      refine bE hh 2 [_,_] ?_
      intro ws hh
      replace hh : Hp _ (_ :: _ :: .blk _ _ [_, _] _ :: _) _ := hh
      refine aI (ae (ao ?_))
      refine gL (aG rfl (aH (vs := [_, _]) aC.out (hh.au (i := 2) (n := 2) rfl rfl) rfl) (bS (cf rfl) a7)) ?_
      exact ⟨⟨v, B, F.length, d, F⟩, ⟨rfl, rfl⟩, rfl, hh.sub (List.Sublist.cons_cons _ (List.nil_sublist _))⟩
end Go.Proofs.YtaapkaefelhfcaaGreatDoor
/- The walks through ogeeref08.Like and Times. -/
namespace Go.Proofs.YtaapkaefelhfcaaGreatDoor
open Go.RowKit
theorem sx (g : PX) (k : Nat) (w : World) (h : g.at_ w) (hl : g.jO k) :
  Calls Tryz.prog 87 #[.agg #[.int .i64 g.v, .slice g.A g.n g.c]] w fun r w' => r = .returned (.int .i64 g.e) ∧ Below w.heap.size w w' :=
 pT g.v g.A g.n g.c g.ts w h hl.n fun t ht => ⟨(hl.ok t ht).1, hl.sz t ht⟩
theorem mj (L : Option Addr) (n c : Nat) (ps : List PX) (k : Nat) (w : World) (hL : Sl w L n 2 (aQ PX.cells ps)) (hn : n ≤ 1000000) (hf : ∀ g ∈ ps, g.at_ w) (hl : ∀ g ∈ ps, g.jO k) :
  Calls Tryz.prog 101 #[.slice L n c] w fun r w' => r = .returned (.int .i64 (er ps)) ∧ Below w.heap.size w w' := by
 have hh := Hp.start w
 have hln := hL.cg PX.len (by decide)
 refine ak (N := 39) (l := [.slice L n c]) Tryz.func101 rfl rfl (by simp) ?_
 refine sr (aI (ae (ah (sr (aI (ae (al ?_)))))))
 refine bs [2, 3, 4, 6, 7, 8, 9, 10, 11, 12, 13, 14, 15, 16, 17, 18, 19] 3
  (fun v w' => ∃ i : Nat, i ≤ n ∧ v = .int .i64 i ∧ (ps.take i).any (fun g => decide (g.e ≠ 0)) = false ∧ Hp w [] w')
  (fun v _ => n - (intOf v).toNat) ?_ ?_
 ·exact ⟨0, Nat.zero_le _, rfl, rfl, hh⟩
 ·clear hh
  rintro ρ' v w' ⟨i, hi, rfl, hall, hh⟩
  by_cases hlt : i < n
  ·obtain ⟨g, hx⟩ := aD (l := ps) (k := i) (by omega)
   have hmem := List.mem_of_getElem? hx
   have hc := fun w1 hb => sx g k w1 ((hf g hmem).ext hb) (hl g hmem)
   obtain ⟨ad, rfl, hr⟩ := hL.at_ (by omega)
   by_cases he : g.e = 0
   ·refine ah (sr (mI (mL (aO ?_))))
    refine aU (ae (cT (aj (ai (ah (al (sr (mL (mI ?_)))))))))
    refine aR (k := i) aF.out aC.size rfl rfl (by omega) (by omega) (by decide) ?_
    refine bQ (vs := [_, _]) aC.out rfl ((hr.ext hh.below).recAt PX.len hx) rfl (by decide) ?_
    refine bG hh (hc _ hh.below) rfl ?_
    intro w16 hh
    refine aI (ae (sr (mI ?_)))
    refine cE (ae (cF (aj (aW (ai (aq (mI ?_)))))))
    refine bL (aI (aE (ai ?_)))
    refine ⟨⟨i + 1, by omega, rfl, by rw [aJ hx, List.any_append, hall, List.any_cons, List.any_nil, decide_eq_false (by omega)]; rfl, hh⟩, by show n - (i + 1) < n - i; omega, ?_⟩
    (repeat (first | exact aw _ _ _ | refine ax rfl ?_ | refine ar rfl ?_))
   ·refine ah (sr (mI (mL (aO ?_))))
    refine aU (ae (cT (aj (ai (ah (al (sr (mL (mI ?_)))))))))
    refine aR (k := i) aF.out aC.size rfl rfl (by omega) (by omega) (by decide) ?_
    refine bQ (vs := [_, _]) aC.out rfl ((hr.ext hh.below).recAt PX.len hx) rfl (by decide) ?_
    refine bG hh (hc _ hh.below) rfl ?_
    intro w16 hh
    refine aI (ae (sr (mI ?_)))
    refine cE (ae (cT (sr (mI (aI (ae (ao (br (az (az (br ?_)))))))))))
    refine az ?_
    refine cA ?_
    refine ⟨?_, hh.below⟩
    unfold er
    rw [mN hall hx (decide_eq_true he)]
  ·rw [List.take_of_length_le (by omega)] at hall
   have hlk : er ps = if ps.length = 0 ∨ nT ps = true then 1 else 0 := by unfold er; rw [gh hall]
   rw [hlk]
   clear hall
   refine ah (sr (mI (mL (aO ?_))))
   refine aU (ae (cF ?_))
   refine aP ?_
   refine ay (ay (a6 (ai (ah (sr (aI (ae (al ?_))))))))
   refine bs [2, 5, 20, 21, 22, 23, 24, 25, 26, 27, 28, 29, 30, 31, 32, 33, 34, 35] 5
    (fun v w' => ∃ i : Nat, i ≤ n ∧ v = .int .i64 i ∧ (ps.take i).any (fun g => decide (g.v ≠ (ps.map PX.v).headD 0)) = false ∧ Hp w [] w')
    (fun v _ => n - (intOf v).toNat) ?_ ?_
   ·exact ⟨0, Nat.zero_le _, rfl, rfl, hh⟩
   ·clear hh
    rintro ρ2 v w2 ⟨j, hj, rfl, hall, hh⟩
    by_cases hlt2 : j < n
    ·obtain ⟨go, hx⟩ := aD (l := ps) (k := j) (by omega)
     obtain ⟨g0, h00⟩ := aD (l := ps) (k := 0) (by omega)
     obtain ⟨ad, rfl, hr⟩ := hL.at_ (by omega)
     have hhd : (ps.map PX.v).headD 0 = g0.v := by
      rcases ps with _ | ⟨g, l⟩
      ·cases h00
      ·have : g = g0 := by simpa using h00
       rw [← this]; rfl
     by_cases ho : go.v = g0.v
     ·refine ah (sr (mI (mL (aO ?_))))
      refine aU (ae (cT (aj (ai (ah (al (ah ?_)))))))
      refine aX 9 [[(0, none)], [(5, none)], [(26, some 0), (27, some 1)], [(28, some 2)], [(29, some 3)], [(0, none)], [(31, some 5)], [(32, some 6)], [(33, some 7)]] [(8, 34), (7, 33), (6, 32), (5, 31), (4, 30), (3, 29), (2, 28), (1, 27), (0, 26)] hh mixed (by kernel_rfl) ?_
      refine fN ?_
      refine eb ?_
      refine iA (j) ?_
      refine jP ?_
      refine hU (fun _ hj => cO hj.hp.below ((hr.recAt PX.len hx) 0 _ rfl)) ?_
      refine fN ?_
      refine iA (0) ?_
      refine jP ?_
      refine hU (fun _ hj => cO hj.hp.below ((hr.recAt PX.len h00) 0 _ rfl)) ?_
      refine a0 ?_
      intro f W hJ hV
      have hb_10 := hJ.bl
      obtain ⟨v34, v33, v32, v31, v30, v29, v28, v27, v26, _⟩ := hV
      replace hh := hJ.hp
      refine aN (a4 (aa v34 (aa v33 (aa v32 (aa v31 (aa v30 (aa v29 (aa v28 (aa v27 (aa v26 aM)))))))))) ?_
      dsimp only [ca]
      clear hJ
      refine cE (ae (cF (aj (aW (ai (aq (mI ?_)))))))
      refine bL (aI (aE (ai ?_)))
      refine ⟨⟨j + 1, by omega, rfl, by rw [aJ hx, List.any_append, hall, List.any_cons, List.any_nil, decide_eq_false (by omega)]; rfl, hh⟩, by show n - (j + 1) < n - j; omega, ?_⟩
      (repeat (first | exact aw _ _ _ | refine ax rfl ?_ | refine ar rfl ?_))
     ·refine ah (sr (mI (mL (aO ?_))))
      refine aU (ae (cT (aj (ai (ah (al (ah ?_)))))))
      refine aX 9 [[(0, none)], [(5, none)], [(26, some 0), (27, some 1)], [(28, some 2)], [(29, some 3)], [(0, none)], [(31, some 5)], [(32, some 6)], [(33, some 7)]] [(8, 34), (7, 33), (6, 32), (5, 31), (4, 30), (3, 29), (2, 28), (1, 27), (0, 26)] hh mixed (by kernel_rfl) ?_
      refine fN ?_
      refine eb ?_
      refine iA (j) ?_
      refine jP ?_
      refine hU (fun _ hj => cO hj.hp.below ((hr.recAt PX.len hx) 0 _ rfl)) ?_
      refine fN ?_
      refine iA (0) ?_
      refine jP ?_
      refine hU (fun _ hj => cO hj.hp.below ((hr.recAt PX.len h00) 0 _ rfl)) ?_
      refine a0 ?_
      intro f W hJ hV
      have hb_10 := hJ.bl
      obtain ⟨v34, v33, v32, v31, v30, v29, v28, v27, v26, _⟩ := hV
      replace hh := hJ.hp
      refine aN (a4 (aa v34 (aa v33 (aa v32 (aa v31 (aa v30 (aa v29 (aa v28 (aa v27 (aa v26 aM)))))))))) ?_
      dsimp only [ca]
      clear hJ
      refine cE (ae (cT (sr (aI (ae (ao (br (az (az (br (az ?_)))))))))))
      refine cA ?_
      exact ⟨by rw [if_pos (.inr (List.any_eq_true.2 ⟨go, List.mem_of_getElem? hx, decide_eq_true (by omega)⟩))], hh.below⟩
    ·rw [List.take_of_length_le (by omega)] at hall
     have hod : nT ps = false := hall
     by_cases h0 : n = 0
     ·refine ah (sr (mI (mL (aO ?_))))
      refine aU (ae (cF ?_))
      refine aP ?_
      refine ay (ay (a6 (ai (ah (sr (mL (aO ?_)))))))
      refine ck (ae (cT (sr (aI (ae (ao (az ?_)))))))
      refine cA ?_
      exact ⟨by rw [if_pos (.inl (by omega))], hh.below⟩
     ·refine ah (sr (mI (mL (aO ?_))))
      refine aU (ae (cF ?_))
      refine aP ?_
      refine ay (ay (a6 (ai (ah (sr (mL (aO ?_)))))))
      refine ck (ae (cF (aj (ai (sr (aI (ae (ao ?_))))))))
      refine cA ?_
      refine ⟨?_, hh.below⟩
      rw [if_neg]
      rintro (h | h)
      ·omega
      ·rw [hod] at h
       cases h
theorem pL (p q : PX) (k k2 : Nat) (w : World) (hp : p.at_ w) (hq : q.at_ w) (lp : p.jO k) (lq : q.jO k2) (hk : k + k2 ≤ 900000) :
  Calls Tryz.prog 193 #[.agg #[.int .i64 p.v, .slice p.A p.n p.c], .agg #[.int .i64 q.v, .slice q.A q.n q.c]] w fun r w' => ∃ g : PX, cC (ee p.ts q.ts) p.v (aT (cd p.ts q.ts)) g ∧ r = .returned (.tuple #[.agg #[.int .i64 g.v, .slice g.A g.n g.c], .int .i64 (ee p.ts q.ts)]) ∧ Hp w [g.row] w' := by
 have hh := Hp.start w
 obtain ⟨pv, pA, pn, pc, ps⟩ := p
 obtain ⟨qv, qA, qn, qc, qs⟩ := q
 have hpl : ps.length = pn := hp.ln
 have hql : qs.length = qn := hq.ln
 have hpn : pn ≤ 1000000 := lp.n
 have hqn : qn ≤ 1000000 := lq.n
 have okp : gi k ps := lp.ok
 have okq : gi k2 qs := lq.ok
 have szp : ∀ t ∈ ps, t.m.size ≤ 100000 := lp.sz
 have szq : ∀ t ∈ qs, t.m.size ≤ 100000 := lq.sz
 replace hp : Sl w pA pn 4 (aQ TR.cells ps) := hp
 replace hq : Sl w qA qn 4 (aQ TR.cells qs) := hq
 clear lp lq
 show Calls _ _ _ _ fun r w' => ∃ g : PX, cC (ee ps qs) pv (aT (cd ps qs)) g ∧ r = .returned (.tuple #[.agg #[.int .i64 g.v, .slice g.A g.n g.c], .int .i64 (ee ps qs)]) ∧ Hp w [g.row] w'
 have hmm : pn * qn ≤ 1000000 * 1000000 := Nat.mul_le_mul hpn hqn
 obtain ⟨m, hm⟩ : ∃ m, m = pn * qn := ⟨_, rfl⟩
 have hmi : (pn : Int) * (qn : Int) = (m : Int) := by rw [hm]; exact (Int.natCast_mul _ _).symm
 by_cases h6 : 65536 < m
 ·rw [tM (by rw [hpl, hql, ← hm]; exact h6)]
  refine ak (N := 78) (l := [.agg #[.int .i64 pv, .slice pA pn pc], .agg #[.int .i64 qv, .slice qA qn qc]]) Tryz.func193 rfl rfl (by simp) ?_
  refine sr ?_
  refine cK hh [_,_] ?_
  intro b2 w2 hh
  refine cK hh [_,_] ?_
  intro b3 w3 hh
  refine cv hh ?_
  intro b4 w4 hh
  refine aI (ae (ah (sr (bC ?_))))
  refine bH hh 2 ?_
  refine aO (bC ?_)
  refine bH hh 1 ?_
  refine aO ?_
  refine mulC ?_
  refine bY (ae (cT (sr ?_)))
  refine ep [_,_] ?_
  refine bE hh 0 [_,_] ?_
  intro ws hh
  replace hh : Hp _ (.blk _ _ [_, _] _ :: _) _ := hh
  refine aI (ae (ao (az ?_)))
  refine gL (aG rfl (aH (vs := [_, _]) aC.out (hh.au (i := 0) (n := 2) rfl rfl) rfl) (bS (cf rfl) a7)) ?_
  exact ⟨PX.nil, cC.err (by decide), rfl, (hh.sub (List.nil_sublist _)).fP⟩
 ·have hbig : ¬ 65536 < ps.length * qs.length := by rw [hpl, hql, ← hm]; exact h6
  refine ak (N := 78) (l := [.agg #[.int .i64 pv, .slice pA pn pc], .agg #[.int .i64 qv, .slice qA qn qc]]) Tryz.func193 rfl rfl (by simp) ?_
  refine sr ?_
  refine cK hh [_,_] ?_
  intro b2 w2 hh
  refine cK hh [_,_] ?_
  intro b3 w3 hh
  refine cv hh ?_
  intro b4 w4 hh
  refine aI (ae (ah (sr (bC ?_))))
  refine bH hh 2 ?_
  refine aO (bC ?_)
  refine bH hh 1 ?_
  refine aO ?_
  refine mulC ?_
  refine bY (ae (cF (aj (ai (sr (aL (ae (ah (sr (aI (ae ?_)))))))))))
  refine al ?_
  replace hh := hh.di 55 4
  have hall : ∀ i, ((ps.take i).flatMap fun x => qs.map (kO x)).length ≤ 65536 := fun i => by
   have h1 : (cd ps qs).length = ((ps.take i).flatMap fun x => qs.map (kO x)).length + ((ps.drop i).flatMap fun x => qs.map (kO x)).length := by
    unfold cd
    rw [← List.length_append, ← List.flatMap_append, List.take_append_drop]
   rw [kL] at h1
   omega
  refine ct [5, 6, 7, 8, 9, 10, 20, 21, 22, 23, 24, 25, 26, 27, 28, 29, 30, 31, 32, 33, 34, 35, 36, 37, 38, 39, 40, 41, 42, 43, 44, 45, 46, 47, 48, 49, 50, 51, 52, 53, 54, 55, 56, 57, 58, 59, 60, 61, 62, 63, 64, 65, 66, 67, 68, 69, 70, 71] 6 7
   (fun a x w' => ∃ (i : Nat) (M : List TR) (A' : Option Addr) (c' : Nat), i ≤ pn ∧ x = .int .i64 i ∧ a = .slice A' M.length c' ∧ M = ((ps.take i).flatMap fun x => qs.map (kO x)) ∧ (∀ e ∈ ((ps.take i).flatMap fun x => qs.map fun y => jh x.m y.m), e = 0) ∧ Hp w [.row A' M.length c' 55 4 (aQ TR.cells M), .blk b4 24 [.int .i64 0, .slice none 0 0] (0, 0), .blk b3 24 [.int .i64 qv, .slice qA qn qc] (0, 0), .blk b2 24 [.int .i64 pv, .slice pA pn pc] (0, 0)] w')
   (fun _ x _ => pn - (intOf x).toNat) ?_ ?_
  ·exact ⟨0, [], none, 0, Nat.zero_le _, rfl, rfl, rfl, fun e he => (nomatch he), hh⟩
  ·clear hh
   rintro ρ' a_ x_ w' ⟨i, M, A', c', hi, rfl, rfl, hM, hz, hh⟩
   have hMl := hall i
   rw [← hM] at hMl
   by_cases hlt : i < pn
   ·obtain ⟨x, hx⟩ := aD (l := ps) (k := i) (by omega)
    obtain ⟨ad, rfl, hr⟩ := hp.at_ (by omega)
    have hxm := List.mem_of_getElem? hx
    have hxo := okp x hxm
    have hxs := szp x hxm
    refine ah (sr (mI (bC ?_)))
    refine bH hh 3 ?_
    refine aO ?_
    refine aU (ae (cT (aj (ai (ah (al (sr (aI (ae (al ?_))))))))))
    refine ct [5, 6, 8, 9, 10, 27, 28, 29, 30, 31, 32, 33, 34, 35, 36, 37, 38, 39, 40, 41, 42, 43, 44, 45, 46, 47, 48, 49, 50, 51, 52, 53, 54, 55, 56, 57, 58, 59, 60, 61, 62, 63, 64, 65, 66, 67, 68, 69, 70, 71] 6 8
     (fun a z w' => ∃ (j : Nat) (N : List TR) (A' : Option Addr) (c' : Nat), j ≤ qn ∧ z = .int .i64 j ∧ a = .slice A' N.length c' ∧ N = M ++ (qs.take j).map (kO x) ∧ (∀ e ∈ (qs.take j).map (fun y => jh x.m y.m), e = 0) ∧ Hp w [.row A' N.length c' 55 4 (aQ TR.cells N), .blk b4 24 [.int .i64 0, .slice none 0 0] (0, 0), .blk b3 24 [.int .i64 qv, .slice qA qn qc] (0, 0), .blk b2 24 [.int .i64 pv, .slice (some ad) pn pc] (0, 0)] w')
     (fun _ z _ => qn - (intOf z).toNat) ?_ ?_
    ·exact ⟨0, M, A', c', Nat.zero_le _, rfl, rfl, by simp, fun e he => (nomatch he), hh⟩
    ·clear hh
     rintro ρ2 a2 x2 w2 ⟨j, N, A2, c2, hj, rfl, rfl, hN, hz2, hh⟩
     by_cases hjn : j < qn
     ·obtain ⟨y, hy⟩ := aD (l := qs) (k := j) (by omega)
      obtain ⟨ad2, rfl, hr2⟩ := hq.at_ (by omega)
      have hym := List.mem_of_getElem? hy
      have hyo := okq y hym
      have hys := szq y hym
      have hmul : ∀ w1, Calls Tryz.prog 241 #[.string x.m, .string y.m] w1 fun r w' => r = .returned (.tuple #[.string (mulM x.m y.m), .int .i64 (jh x.m y.m)]) ∧ Below w1.heap.size w1 w' := fun w1 => uV x.m y.m w1 hxs hys
      have htm := fun w1 => rF x.c y.c w1 (by have := hxo.1.1; omega) (by have := hyo.1.1; omega) (by have := hxo.1.2.1; omega) (by have := hxo.1.2.2; omega) (by have := hyo.1.2.1; omega) (by have := hyo.1.2.2; omega)
      obtain ⟨R, hR⟩ := nY (f := fun x y => jh x.m y.m) hx hy
      have hzz : ∀ e ∈ ((ps.take i).flatMap fun x => qs.map fun y => jh x.m y.m) ++ (qs.take j).map (fun y => jh x.m y.m), e = 0 := fun e he => by
       rcases List.mem_append.1 he with he | he
       ·exact hz e he
       ·exact hz2 e he
      have hNl : N.length < 65536 := by
       have h1 := hall (i + 1)
       rw [ir hx, List.length_append, ← hM] at h1
       rw [hN, List.length_append]
       simp at h1 ⊢
       omega
      by_cases he : jh x.m y.m = 0
      ·refine ah (sr (mI (bC ?_)))
       refine bH hh 2 ?_
       refine aO ?_
       refine aU (ae (cT (aj (ai (ah (al (ah ?_)))))))
       refine aX 17 [[(2, none)], [(35, some 0)], [(7, none)], [(36, some 1), (37, some 2)], [(38, some 3)], [(39, some 4)], [(3, none)], [(41, some 6)], [(8, none)], [(42, some 7), (43, some 8)], [(44, some 9)], [(45, some 10)], [(40, some 5), (46, some 11)], [(47, some 12)], [(34, some 13)], [(34, some 13)], [(48, some 14)]] [(16, 9), (15, 49), (14, 48), (13, 34), (12, 47), (11, 46), (10, 45), (9, 44), (8, 43), (7, 42), (6, 41), (5, 40), (4, 39), (3, 38), (2, 37), (1, 36), (0, 35)] hh mixed (by kernel_rfl) ?_
       refine cD ?_
       refine dF 3 ?_
       refine eb ?_
       refine iA (i) ?_
       refine jP ?_
       refine hU (fun _ hj => ((hr.ext hj.hp.below).recAt TR.len hx).cell (i := 0) rfl) ?_
       refine cD ?_
       refine dF 2 ?_
       refine eb ?_
       refine iA (j) ?_
       refine jP ?_
       refine hU (fun _ hj => ((hr2.ext hj.hp.below).recAt TR.len hy).cell (i := 0) rfl) ?_
       refine dC (fun _ hj => hmul _) ?_
       refine B0 ?_
       refine yj ?_
       refine yj ?_
       refine CU ?_
       refine a0 ?_
       intro f W hJ hV
       have hb_10 := hJ.bl
       obtain ⟨v9, v49, v48, v34, v47, v46, v45, v44, v43, v42, v41, v40, v39, v38, v37, v36, v35, _⟩ := hV
       replace hh := hJ.hp
       refine aN (a4 (aa v9 (aa v49 (aa v48 (aa v34 (aa v47 (aa v46 (aa v45 (aa v44 (aa v43 (aa v42 (aa v41 (aa v40 (aa v39 (aa v38 (aa v37 (aa v36 (aa v35 aM)))))))))))))))))) ?_
       dsimp only [ca]
       clear hJ
       refine aI (ae (ah (sr (mI ?_))))
       refine cE (ae (cF (aj (ai ?_))))
       refine aX 17 [[(6, none)], [(9, none)], [(2, none)], [(56, some 2)], [(7, none)], [(57, some 3), (58, some 4)], [(59, some 5)], [(60, some 6)], [(3, none)], [(62, some 8)], [(8, none)], [(63, some 9), (64, some 10)], [(65, some 11)], [(66, some 12)], [(61, some 7), (67, some 13)], [(55, some 1), (68, some 14)], [(69, some 15)]] [(16, 70), (15, 69), (14, 68), (13, 67), (12, 66), (11, 65), (10, 64), (9, 63), (8, 62), (7, 61), (6, 60), (5, 59), (4, 58), (3, 57), (2, 56), (1, 55), (0, 54)] hh mixed (by kernel_rfl) ?_
       refine fN ?_
       refine Cu ?_
       refine cD ?_
       refine dF 3 ?_
       refine eb ?_
       refine iA (i) ?_
       refine jP ?_
       refine rh [_,_,_] (fun _ hj => ((hr.ext hj.hp.below).recAt TR.len hx).drop 1) ?_
       refine cD ?_
       refine dF 2 ?_
       refine eb ?_
       refine iA (j) ?_
       refine jP ?_
       refine rh [_,_,_] (fun _ hj => ((hr2.ext hj.hp.below).recAt TR.len hy).drop 1) ?_
       refine dC (fun _ hj => htm _) ?_
       refine dB [_,_,_,_] ?_
       refine pD [_,_,_,_] ?_
       refine a0 ?_
       intro f W hJ hV
       have hb_13 := hJ.bl
       obtain ⟨v70, v69, v68, v67, v66, v65, v64, v63, v62, v61, v60, v59, v58, v57, v56, v55, v54, _⟩ := hV
       obtain ⟨A70, c70, e70, f70⟩ : Rows _ _ _ (f 16) W := v70
       replace hh := hJ.hp
       refine aN (a4 (aa e70 (aa v69 (aa v68 (aa v67 (aa v66 (aa v65 (aa v64 (aa v63 (aa v62 (aa v61 (aa v60 (aa v59 (aa v58 (aa v57 (aa v56 (aa v55 (aa v54 aM)))))))))))))))))) ?_
       dsimp only [ca]
       clear e70 hJ
       refine bF hh (i := 0) rfl rfl rfl (f70) aF.out aC.out rfl (by decide) (by first | rfl | exact bU _ | exact bI _ | exact oneCells_i64s _ | exact bf NR.one _) (by omega) (by omega) (by decide) ?_
       intro A71 c71 w71 hh
       simp only [List.set_cons_zero] at hh
       refine aL (aE (aW (ai (aq (mI ?_)))))
       refine bL (aI (aE (ai ?_)))
       have e1 : aQ TR.cells N ++ [.string (mulM x.m y.m), .bool (nR (x.c.d * y.c.d)).neg, .string (nR (x.c.d * y.c.d)).bJ, .int .i64 (nR (x.c.d * y.c.d)).e] = aQ TR.cells (N ++ [kO x y]) := by rw [bR, fB]; rfl
       rw [e1] at hh
       refine ⟨⟨j + 1, N ++ [kO x y], _, _, by omega, rfl, by rw [List.length_append]; rfl, by rw [hN, aJ hy, List.map_append, List.append_assoc]; rfl, fun e h => ?_, ?_⟩, by show qn - (j + 1) < qn - j; omega, ?_⟩
       ·rw [aJ hy, List.map_append, List.mem_append] at h
        rcases h with h | h
        ·exact hz2 e h
        ·rw [List.mem_singleton.1 h]; exact he
       ·rw [List.length_append]; exact hh
       ·(repeat (first | exact aw _ _ _ | refine ax rfl ?_ | refine ar rfl ?_))
      ·rw [vH hbig hR hzz he]
       generalize jh x.m y.m = e at *
       refine ah (sr (mI (bC ?_)))
       refine bH hh 2 ?_
       refine aO ?_
       refine aU (ae (cT (aj (ai (ah (al (ah ?_)))))))
       refine aX 17 [[(2, none)], [(35, some 0)], [(7, none)], [(36, some 1), (37, some 2)], [(38, some 3)], [(39, some 4)], [(3, none)], [(41, some 6)], [(8, none)], [(42, some 7), (43, some 8)], [(44, some 9)], [(45, some 10)], [(40, some 5), (46, some 11)], [(47, some 12)], [(34, some 13)], [(34, some 13)], [(48, some 14)]] [(16, 9), (15, 49), (14, 48), (13, 34), (12, 47), (11, 46), (10, 45), (9, 44), (8, 43), (7, 42), (6, 41), (5, 40), (4, 39), (3, 38), (2, 37), (1, 36), (0, 35)] hh mixed (by kernel_rfl) ?_
       refine cD ?_
       refine dF 3 ?_
       refine eb ?_
       refine iA (i) ?_
       refine jP ?_
       refine hU (fun _ hj => ((hr.ext hj.hp.below).recAt TR.len hx).cell (i := 0) rfl) ?_
       refine cD ?_
       refine dF 2 ?_
       refine eb ?_
       refine iA (j) ?_
       refine jP ?_
       refine hU (fun _ hj => ((hr2.ext hj.hp.below).recAt TR.len hy).cell (i := 0) rfl) ?_
       refine dC (fun _ hj => hmul _) ?_
       refine B0 ?_
       refine yj ?_
       refine yj ?_
       refine CU ?_
       refine a0 ?_
       intro f W hJ hV
       have hb_10 := hJ.bl
       obtain ⟨v9, v49, v48, v34, v47, v46, v45, v44, v43, v42, v41, v40, v39, v38, v37, v36, v35, _⟩ := hV
       replace hh := hJ.hp
       refine aN (a4 (aa v9 (aa v49 (aa v48 (aa v34 (aa v47 (aa v46 (aa v45 (aa v44 (aa v43 (aa v42 (aa v41 (aa v40 (aa v39 (aa v38 (aa v37 (aa v36 (aa v35 aM)))))))))))))))))) ?_
       dsimp only [ca]
       clear hJ
       refine aI (ae (ah (sr (mI ?_))))
       refine cE (ae (cT (sr ?_)))
       refine ep [_,_] (mI ?_)
       refine bE hh 1 [_,_] ?_
       intro ws hh
       replace hh : Hp _ (_ :: .blk _ _ [_, _] _ :: _) _ := hh
       refine aI (ae (ao (az (br (az (az (br (br (az (az (br ?_)))))))))))
       refine az ?_
       refine gL (aG rfl (aH (vs := [_, _]) aC.out (hh.au (i := 1) (n := 2) rfl rfl) rfl) (bS (cf rfl) a7)) ?_
       exact ⟨PX.nil, cC.err he, rfl, (hh.sub (List.nil_sublist _)).fP⟩
     ·obtain rfl : j = qn := by omega
      rw [List.take_of_length_le (by omega)] at hz2 hN
      refine ah (sr (mI (bC ?_)))
      refine bH hh 2 ?_
      refine aO ?_
      refine aU (ae (cF ?_))
      refine aP ?_
      refine ay (ay (a6 (aW (ai (aq (mI ?_))))))
      refine bL (aI (aE (ai ?_)))
      refine ⟨⟨i + 1, N, A2, c2, by omega, rfl, rfl, by rw [ir hx, ← hM, List.take_of_length_le (by omega)]; exact hN, fun e h => ?_, hh⟩, by show pn - (i + 1) < pn - i; omega, ?_⟩
      ·rw [ir (f := fun (x y : TR) => jh x.m y.m) hx, List.mem_append, List.take_length] at h
       rcases h with h | h
       ·exact hz e h
       ·exact hz2 e h
      ·(repeat (first | exact aw _ _ _ | refine ax rfl ?_ | refine ar rfl ?_))
   ·obtain rfl : i = pn := by omega
    rw [List.take_of_length_le (by omega)] at hz hM
    have hMp : M = cd ps qs := hM
    rw [tJ hbig hz, ← hMp]
    have hpo := lV okp okq (by omega)
    rw [← hMp] at hpo
    refine ah (sr (mI (bC ?_)))
    refine bH hh 3 ?_
    refine aO ?_
    refine aU (ae (cF ?_))
    refine aP ?_
    refine ay (ay (a6 (ai (sr (bC ?_)))))
    refine bH hh 3 ?_
    refine mL ?_
    refine aV (ja pv A' M.length c' M (k + k2) _ (hh.aK (i := 0) rfl) (by omega) hpo (by omega)) av.out rfl (by decide) ?_
    rintro e_ w75 ⟨g, og, rfl, h3⟩
    refine ⟨_, rfl, ?_⟩
    replace hh := hh.join h3
    simp only [List.cons_append, List.nil_append] at hh
    refine dp ?_
    refine dp ?_
    refine bE hh 2 [_,_] ?_
    intro ws hh
    replace hh : Hp _ (_ :: _ :: .blk _ _ [_, _] _ :: _) _ := hh
    refine aI (ae (ao ?_))
    refine gL (aG rfl (aH (vs := [_, _]) aC.out (hh.au (i := 2) (n := 2) rfl rfl) rfl) (bS (cf rfl) a7)) ?_
    exact ⟨g, og, rfl, hh.sub (List.Sublist.cons_cons _ (List.nil_sublist _))⟩
end Go.Proofs.YtaapkaefelhfcaaGreatDoor
/- The walks through poly.Const and poly.Var. -/
namespace Go.Proofs.YtaapkaefelhfcaaGreatDoor
open Go.RowKit
def eZ (v : Int) : ByteArray := ⟨(List.replicate v.toNat 0).toArray⟩
theorem lg {v : Int} (h : 0 ≤ v) : ((eZ v).size : Int) = v := by
 have : (eZ v).size = v.toNat := by unfold eZ; show (List.replicate v.toNat (0 : UInt8)).toArray.size = _; rw [List.size_toArray, List.length_replicate]
 omega
theorem pX (v : Int) : dN (eZ v).data.toList = true := by
 unfold dN eZ
 rw [List.all_eq_true]
 intro c hc
 have : (⟨(List.replicate v.toNat (0 : UInt8)).toArray⟩ : ByteArray).data.toList = List.replicate v.toNat 0 := rfl
 rw [this] at hc
 rw [(List.mem_replicate.1 hc).2]
 decide
theorem sv {l : List TR} (h : l.length ≤ 4096) : eW l = 0 := by
 unfold eW
 have := iz l
 rw [if_neg (by omega)]
theorem yt {v : Int} {t : TR} (hf : gD v = true) (h : fk v t = true) : j2 v [t] = 0 := by
 unfold j2
 rw [if_neg (by rw [hf]; simp [h]), if_neg (by simp), sv (by simp)]
def lB (v : Int) : Int := if gD v = false then 1 else 0
theorem mi (v : Int) (c : NR) (k : Nat) (w : World) (hT : hG w) (hc : c.ok ∧ Sz k c.d) (hk : k ≤ 2999980) :
  Calls Tryz.prog 63 #[.int .i64 v, .agg #[.bool c.neg, .string c.bJ, .int .i64 c.e]] w fun r w' => ∃ g : PX, cC (lB v) v (aT [⟨eZ v, c⟩]) g ∧ r = .returned (.tuple #[.agg #[.int .i64 g.v, .slice g.A g.n g.c], .int .i64 (lB v)]) ∧ Hp w [g.row] w' := by
 have hh := Hp.start w
 have hfw := fun w1 => mE v w1
 cases hf : gD v with
 | false =>
  rw [hf] at hfw
  rw [show lB v = 1 by unfold lB; rw [if_pos hf]]
  refine ak (N := 20) (l := [.int .i64 v, .agg #[.bool c.neg, .string c.bJ, .int .i64 c.e]]) Tryz.func63 rfl rfl (by simp) ?_
  refine sr ?_
  refine cK hh [_,_,_] ?_
  intro b3 w3 hh
  refine cv hh ?_
  intro b4 w4 hh
  refine aI (ae (ah (sr (mI ?_))))
  refine bG hh (hfw _) rfl ?_
  intro w7 hh
  refine fi ?_
  refine ae (cT (sr ?_))
  refine ep [_,_] ?_
  refine bE hh 0 [_,_] ?_
  intro ws hh
  replace hh : Hp _ (.blk _ _ [_, _] _ :: _) _ := hh
  refine aI (ae (ao (az ?_)))
  refine gL (aG rfl (aH (vs := [_, _]) aC.out (hh.au (i := 0) (n := 2) rfl rfl) rfl) (bS (cf rfl) a7)) ?_
  exact ⟨PX.nil, cC.err (by decide), rfl, (hh.sub (List.nil_sublist _)).fP⟩
 | true =>
  rw [hf] at hfw
  obtain ⟨h0, h12⟩ := eE.1 hf
  have hm : j2 v [⟨eZ v, c⟩] = 0 := yt hf (by unfold fk; rw [pX, decide_eq_true (lg h0)]; rfl)
  have hmk := fun A cc w1 hT1 hS1 => j7 v A 1 cc [⟨eZ v, c⟩] k w1 hT1 hS1 (by decide) (by omega) (fun t ht => by rw [List.mem_singleton.1 ht]; exact hc) (fun t ht => by rw [List.mem_singleton.1 ht]; have := lg h0; show (eZ v).size ≤ _; omega)
  rw [hm] at hmk
  rw [show lB v = 0 by unfold lB; rw [if_neg (by rw [hf]; decide)]]
  refine ak (N := 20) (l := [.int .i64 v, .agg #[.bool c.neg, .string c.bJ, .int .i64 c.e]]) Tryz.func63 rfl rfl (by simp) ?_
  refine sr ?_
  refine cK hh [_,_,_] ?_
  intro b3 w3 hh
  refine cv hh ?_
  intro b4 w4 hh
  refine aI (ae (ah (sr (mI ?_))))
  refine bG hh (hfw _) rfl ?_
  intro w7 hh
  refine fi ?_
  refine ae (cF (aj (ai (ah ?_))))
  refine kG [] [0, 0, 2, 6, 0, 30, 62, 127, 255, 255, 1023, 2047] 7 [[(0, none)], [(0, none)], [(11, some 1)], [(12, some 2)], [(3, none)], [(13, some 3), (14, some 4)], [(15, some 5)]] [(6, 16), (5, 15), (4, 14), (3, 13), (2, 12), (1, 11), (0, 10)] [([], 4, [(6, 16), (5, 15), (4, 14), (3, 13), (2, 12), (1, 11), (0, 10)])] hh mixed (by kernel_rfl) (by kernel_rfl) (by decide) ?_
  refine eb ?_
  refine eb ?_
  refine bj (i := 2) (eM v.toNat 1 (je (List.replicate v.toNat 0))) (eM.ext) ?_ ?_
  ·intro ρ1 w1 hj hR
   exact oI v.toNat ▸ vK (n := v.toNat) (show ρ1 11 = Value.int _ _ from hR.1) (show ρ1 11 = Value.int _ _ from hR.1) (by omega) (by omega) aF.out aC.out rfl (by omega) (by omega) (fun _ _ h1 h2 => ⟨h2, h1⟩)
  refine bj (i := 3) (Is (.string (eZ v))) (Is.ext) ?_ ?_
  ·intro ρ1 w1 hj hR
   exact let ⟨g, e, o⟩ := hR.1; bZ rfl (iX (l := List.replicate v.toNat 0) aF.out aF.out aF.out e o) ⟨Below.refl _ _, rfl⟩
  refine ef 1 [_,_,_] ?_
  refine dB [_,_,_,_] ?_
  refine pD [_,_,_,_] ?_
  refine a0 ?_
  intro p_ hp_
  simp only [List.mem_cons, List.not_mem_nil, or_false] at hp_
  rcases hp_ with rfl
  intro f W hJ hV
  have hb_3 := hJ.bl
  obtain ⟨v16, v15, v14, v13, v12, v11, v10, _⟩ := hV
  simp only [iD]
  have e10 : f 0 = _ := v10
  rw [e10]
  have e11 : f 1 = _ := v11
  rw [e11]
  obtain ⟨g12, e12, o12⟩ : eM v.toNat 1 (je (List.replicate v.toNat 0)) (f 2) W := v12
  rw [e12]
  have e13 : f 3 = _ := v13
  rw [e13]
  have e14 : f 4 = _ := v14
  rw [e14]
  have e15 : f 5 = _ := v15
  rw [e15]
  obtain ⟨A16, c16, e16, f16⟩ : Rows _ _ _ (f 6) W := v16
  rw [e16]
  replace hh := hJ.hp
  clear e10 e11 e12 e13 e14 e15 e16 hJ
  refine aV (hmk _ _ _ (hT.hp hh) f16) av.out rfl (by decide) ?_; rintro e_ w17 ⟨g, og, rfl, h3⟩; refine ⟨_, rfl, ?_⟩; replace hh := hh.join h3
  refine cS ?_
  simp only [List.cons_append, List.nil_append] at hh
  refine cV (i := 8) (by repeat (first | exact bX | refine bA ?_ | refine bV ?_ | refine np_scope ?_)) rfl (by kernel_rfl) (by kernel_rfl) (by kernel_rfl) (fun _ => cX (show _ = Value.tuple (List.toArray _) from rfl) rfl) (by decide) ?_
  refine cV (i := 9) (by repeat (first | exact bX | refine bA ?_ | refine bV ?_ | refine np_scope ?_)) rfl (by kernel_rfl) (by kernel_rfl) (by kernel_rfl) (fun _ => cX (show _ = Value.tuple (List.toArray _) from rfl) rfl) (by decide) ?_
  refine dO 10 (by decide) (by kernel_rfl) (by decide) (by kernel_rfl) (by kernel_rfl) ?_
  refine bE hh 1 [_,_] ?_
  intro ws hh
  replace hh : Hp _ (_ :: .blk _ _ [_, _] _ :: _) _ := hh
  refine aI (ae (ao ?_))
  refine gL (aG rfl (aH (vs := [_, _]) aC.out (hh.au (i := 1) (n := 2) rfl rfl) rfl) (bS (cf rfl) a7)) ?_
  exact ⟨g, og, rfl, hh.sub (List.Sublist.cons_cons _ (List.nil_sublist _))⟩
def De (v : Int) (x : Nat) : ByteArray := ⟨((List.replicate v.toNat (0 : UInt8)).set x 1).toArray⟩
def C4 (v x : Int) : Int := if gD v = false ∨ x < 0 ∨ v ≤ x then 1 else 0
end Go.Proofs.YtaapkaefelhfcaaGreatDoor
/- The walks through ogeeref08.Make, Const, Var. -/
namespace Go.Proofs.YtaapkaefelhfcaaGreatDoor
open Go.RowKit
theorem pK (v : Int) (c : NR) (k : Nat) (w : World) (hc : c.ok ∧ Sz k c.d) (hk : k ≤ 2999980) :
  Calls Tryz.prog 148 #[.int .i64 v, .agg #[.bool c.neg, .string c.bJ, .int .i64 c.e]] w fun r w' => ∃ g : PX, cC (lB v) v (aT [⟨eZ v, c⟩]) g ∧ r = .returned (.tuple #[.agg #[.int .i64 g.v, .slice g.A g.n g.c], .int .i64 (lB v)]) ∧ Hp w [g.row] w' := by
 have hh := Hp.start w
 cases hf : gD v with
 | false =>
  have hbv : ¬ (0 ≤ v ∧ v ≤ 12) := fun h => by rw [eE.2 h] at hf; cases hf
  rw [show lB v = 1 by unfold lB; rw [if_pos hf]]
  by_cases h0 : v < 0
  ·refine ak (N := 23) (l := [.int .i64 v, .agg #[.bool c.neg, .string c.bJ, .int .i64 c.e]]) Tryz.func148 rfl rfl (by simp) ?_
   refine sr ?_
   refine cK hh [_,_,_] ?_
   intro b3 w3 hh
   refine cv hh ?_
   intro b4 w4 hh
   refine aI (ae (ah (sr (mI ?_))))
   refine aU (mB ?_)
   first | refine gS ?_ | (refine gT ?_; refine mI ?_) | refine gV ?_
   first | refine gS ?_ | (refine gT ?_; refine bY ?_) | refine gV ?_
   first | refine cR ?_ | refine cQ ?_
   refine ae (cT (sr ?_))
   refine ep [_,_] ?_
   refine bE hh 0 [_,_] ?_
   intro ws hh
   replace hh : Hp _ (.blk _ _ [_, _] _ :: _) _ := hh
   refine aI (ae (ao (az ?_)))
   refine gL (aG rfl (aH (vs := [_, _]) aC.out (hh.au (i := 0) (n := 2) rfl rfl) rfl) (bS (cf rfl) a7)) ?_
   exact ⟨PX.nil, cC.err (by decide), rfl, (hh.sub (List.nil_sublist _)).fP⟩
  ·refine ak (N := 23) (l := [.int .i64 v, .agg #[.bool c.neg, .string c.bJ, .int .i64 c.e]]) Tryz.func148 rfl rfl (by simp) ?_
   refine sr ?_
   refine cK hh [_,_,_] ?_
   intro b3 w3 hh
   refine cv hh ?_
   intro b4 w4 hh
   refine aI (ae (ah (sr (mI ?_))))
   refine aU (mB ?_)
   first | refine gS ?_ | (refine gT ?_; refine mI ?_) | refine gV ?_
   first | refine gS ?_ | (refine gT ?_; refine bY ?_) | refine gV ?_
   first | refine cR ?_ | refine cQ ?_
   refine ae (cT (sr ?_))
   refine ep [_,_] ?_
   refine bE hh 0 [_,_] ?_
   intro ws hh
   replace hh : Hp _ (.blk _ _ [_, _] _ :: _) _ := hh
   refine aI (ae (ao (az ?_)))
   refine gL (aG rfl (aH (vs := [_, _]) aC.out (hh.au (i := 0) (n := 2) rfl rfl) rfl) (bS (cf rfl) a7)) ?_
   exact ⟨PX.nil, cC.err (by decide), rfl, (hh.sub (List.nil_sublist _)).fP⟩
 | true =>
  obtain ⟨h0, h12⟩ := eE.1 hf
  have hg := fun A cc w1 hS1 => ja v A 1 cc [⟨eZ v, c⟩] k w1 hS1 (by decide) (fun t ht => by rw [List.mem_singleton.1 ht]; exact hc) (by omega)
  rw [sv (by simp)] at hg
  rw [show lB v = 0 by unfold lB; rw [if_neg (by rw [hf]; decide)]]
  generalize aT [⟨eZ v, c⟩] = G at *
  refine ak (N := 23) (l := [.int .i64 v, .agg #[.bool c.neg, .string c.bJ, .int .i64 c.e]]) Tryz.func148 rfl rfl (by simp) ?_
  refine sr ?_
  refine cK hh [_,_,_] ?_
  intro b3 w3 hh
  refine cv hh ?_
  intro b4 w4 hh
  refine aI (ae (ah (sr (mI ?_))))
  refine aU (mB ?_)
  first | refine gS ?_ | (refine gT ?_; refine mI ?_) | refine gV ?_
  first | refine gS ?_ | (refine gT ?_; refine bY ?_) | refine gV ?_
  first | refine cR ?_ | refine cQ ?_
  refine ae (cF (aj (ai (ah ?_))))
  refine kG [] [0, 0, 2, 6, 0, 30, 62, 127, 255, 255, 1023, 2047] 7 [[(0, none)], [(0, none)], [(14, some 1)], [(15, some 2)], [(3, none)], [(16, some 3), (17, some 4)], [(18, some 5)]] [(6, 19), (5, 18), (4, 17), (3, 16), (2, 15), (1, 14), (0, 13)] [([], 4, [(6, 19), (5, 18), (4, 17), (3, 16), (2, 15), (1, 14), (0, 13)])] hh mixed (by kernel_rfl) (by kernel_rfl) (by decide) ?_
  refine eb ?_
  refine eb ?_
  refine bj (i := 2) (eM v.toNat 1 (je (List.replicate v.toNat 0))) (eM.ext) ?_ ?_
  ·intro ρ1 w1 hj hR
   exact oI v.toNat ▸ vK (n := v.toNat) (show ρ1 14 = Value.int _ _ from hR.1) (show ρ1 14 = Value.int _ _ from hR.1) (by omega) (by omega) aF.out aC.out rfl (by omega) (by omega) (fun _ _ h1 h2 => ⟨h2, h1⟩)
  refine bj (i := 3) (Is (.string (eZ v))) (Is.ext) ?_ ?_
  ·intro ρ1 w1 hj hR
   exact let ⟨g, e, o⟩ := hR.1; bZ rfl (iX (l := List.replicate v.toNat 0) aF.out aF.out aF.out e o) ⟨Below.refl _ _, rfl⟩
  refine ef 1 [_,_,_] ?_
  refine dB [_,_,_,_] ?_
  refine pD [_,_,_,_] ?_
  refine a0 ?_
  intro p_ hp_
  simp only [List.mem_cons, List.not_mem_nil, or_false] at hp_
  rcases hp_ with rfl
  intro f W hJ hV
  have hb_3 := hJ.bl
  obtain ⟨v19, v18, v17, v16, v15, v14, v13, _⟩ := hV
  simp only [iD]
  have e13 : f 0 = _ := v13
  rw [e13]
  have e14 : f 1 = _ := v14
  rw [e14]
  obtain ⟨g15, e15, o15⟩ : eM v.toNat 1 (je (List.replicate v.toNat 0)) (f 2) W := v15
  rw [e15]
  have e16 : f 3 = _ := v16
  rw [e16]
  have e17 : f 4 = _ := v17
  rw [e17]
  have e18 : f 5 = _ := v18
  rw [e18]
  obtain ⟨A19, c19, e19, f19⟩ : Rows _ _ _ (f 6) W := v19
  rw [e19]
  replace hh := hJ.hp
  clear e13 e14 e15 e16 e17 e18 e19 hJ
  refine aV (hg _ _ _ f19) av.out rfl (by decide) ?_; rintro e_ w20 ⟨g, og, rfl, h3⟩; refine ⟨_, rfl, ?_⟩; replace hh := hh.join h3
  refine cS ?_
  simp only [List.cons_append, List.nil_append] at hh
  refine cV (i := 8) (by repeat (first | exact bX | refine bA ?_ | refine bV ?_ | refine np_scope ?_)) rfl (by kernel_rfl) (by kernel_rfl) (by kernel_rfl) (fun _ => cX (show _ = Value.tuple (List.toArray _) from rfl) rfl) (by decide) ?_
  refine cV (i := 9) (by repeat (first | exact bX | refine bA ?_ | refine bV ?_ | refine np_scope ?_)) rfl (by kernel_rfl) (by kernel_rfl) (by kernel_rfl) (fun _ => cX (show _ = Value.tuple (List.toArray _) from rfl) rfl) (by decide) ?_
  refine dO 10 (by decide) (by kernel_rfl) (by decide) (by kernel_rfl) (by kernel_rfl) ?_
  refine bE hh 1 [_,_] ?_
  intro ws hh
  replace hh : Hp _ (_ :: .blk _ _ [_, _] _ :: _) _ := hh
  refine aI (ae (ao ?_))
  refine gL (aG rfl (aH (vs := [_, _]) aC.out (hh.au (i := 1) (n := 2) rfl rfl) rfl) (bS (cf rfl) a7)) ?_
  exact ⟨g, og, rfl, hh.sub (List.Sublist.cons_cons _ (List.nil_sublist _))⟩
end Go.Proofs.YtaapkaefelhfcaaGreatDoor
/- The walk through poly.Pow. -/
namespace Go.Proofs.YtaapkaefelhfcaaGreatDoor
open Go.RowKit
def CO (p : PX) (n : Nat) : List TR × Int := (List.replicate n p).foldl gX (aT [⟨eZ p.v, nR ((1 : Int) : Dyadic)⟩], 0)
def CW (p : PX) (n : Int) : Int := if p.e = 0 then (if n < 0 ∨ 127 < n then 1 else (CO p n.toNat).2) else p.e
end Go.Proofs.YtaapkaefelhfcaaGreatDoor
/- The walks through ogeeref08.Mul and Pow. -/
namespace Go.Proofs.YtaapkaefelhfcaaGreatDoor
open Go.RowKit
def CY (ps : List PX) (R : List HE) (g : PX) : Prop := (g ∈ ps ∧ R = []) ∨ R = [g.row]
end Go.Proofs.YtaapkaefelhfcaaGreatDoor
/- The walk through poly.Degs. -/
namespace Go.Proofs.YtaapkaefelhfcaaGreatDoor
open Go.RowKit
def B4 (s : ByteArray) (i : Nat) : Int := match s.data.toList[i]? with | some c => c.toNat | none => 0
def Dd (l : List TR) (i : Nat) : Int := l.foldl (fun m t => max m (B4 t.m i)) 0
def CP (m : Nat) (l : List TR) : List Int := (List.range m).map (Dd l)
def Dj (v : Int) (ts : List TR) : List Int := if fA v ts = 0 then CP v.toNat ts else []
end Go.Proofs.YtaapkaefelhfcaaGreatDoor
/- The walks through ogeeref08.Degs and Own. -/
namespace Go.Proofs.YtaapkaefelhfcaaGreatDoor
open Go.RowKit
theorem ns (g : PX) (w : World) (hg : g.at_ w) (hn : g.n ≤ 1000000) :
  Calls Tryz.prog 19 #[.agg #[.int .i64 g.v, .slice g.A g.n g.c]] w fun r w' => ∃ h : PX, (h.v = g.v ∧ h.ts = g.ts ∧ h.n = g.n) ∧ r = .returned (.agg #[.int .i64 h.v, .slice h.A h.n h.c]) ∧ Hp w [h.row] w' := by
 have hh := Hp.start w
 have hgl := hg.ln
 have og := bf TR.one g.ts
 refine ak (N := 10) (l := [.agg #[.int .i64 g.v, .slice g.A g.n g.c]]) Tryz.func19 rfl rfl (by simp) ?_
 refine sr ?_
 refine cK hh [_,_] ?_
 intro b1 w1 hh
 refine cv hh ?_
 intro b2 w2 hh
 refine ae (ah ?_)
 refine kG [] [0, 1, 0, 0, 8, 28, 63, 127] 6 [[(1, none)], [(3, some 0)], [], [(1, none)], [(6, some 3)], [(5, some 2), (7, some 4)]] [(5, 8), (4, 7), (3, 6), (2, 5), (1, 4), (0, 3)] [([], 1, [(5, 8), (4, 7), (3, 6), (2, 5), (1, 4), (0, 3)])] hh mixed (by kernel_rfl) (by kernel_rfl) (by decide) ?_
 refine cD ?_
 refine dF 1 ?_
 refine wX (i := 2) aF.out aC.out (fun w1 hj => hj.bl.size) ?_
 refine cD ?_
 refine dF 1 ?_
 refine uN (i := 5) (fun ρ1 w1 hj hR => hR.1) (fun ρ1 w1 hj hR => ⟨_, _, (show ρ1 7 = Value.slice _ _ _ from hR.2.1), hg.ext hj.hp.below⟩) aF.out aC.out rfl (by decide) (by first | rfl | assumption) (by unfold maxLen; omega) (by omega) (fun w1 hj => hj.bl.size) ?_
 refine a0 ?_
 intro p_ hp_
 simp only [List.mem_cons, List.not_mem_nil, or_false] at hp_
 rcases hp_ with rfl
 intro f W hJ hV
 have hb_1 := hJ.bl
 obtain ⟨v8, v7, v6, v5, v4, v3, _⟩ := hV
 simp only [iD]
 have e3 : f 0 = _ := v3
 rw [e3]
 have e4 : f 1 = _ := v4
 rw [e4]
 obtain ⟨g5, e5, _⟩ : tV _ _ _ (f 2) W := v5
 rw [e5]
 have e6 : f 3 = _ := v6
 rw [e6]
 have e7 : f 4 = _ := v7
 rw [e7]
 obtain ⟨A8, c8, e8, o8⟩ : pI _ _ _ _ _ (f 5) W := v8
 rw [e8]
 replace hh := JJ.yG hh hJ.hp o8
 clear o8
 clear e3 e4 e5 e6 e7 e8 hJ
 refine ep [_,_] ?_
 refine cS ?_
 refine dO 7 (by decide) (by kernel_rfl) (by decide) (by kernel_rfl) (by kernel_rfl) ?_
 refine bE hh 1 [_,_] ?_
 intro ws hh
 replace hh : Hp _ (_ :: .blk _ _ [_, _] _ :: _) _ := hh
 refine ae (ao ?_)
 refine gI (aG rfl (aH (vs := [_, _]) aC.out (hh.au (i := 1) (n := 2) rfl rfl) rfl) a7) ?_
 exact ⟨⟨g.v, A8, g.n, c8, g.ts⟩, ⟨rfl, rfl, rfl⟩, rfl, hh.sub (List.Sublist.cons_cons _ (List.nil_sublist _))⟩
end Go.Proofs.YtaapkaefelhfcaaGreatDoor
/- The walks through ogeeref08.Terms and Same. -/
namespace Go.Proofs.YtaapkaefelhfcaaGreatDoor
open Go.RowKit
theorem z6 (n : Nat) (m m' : ByteArray) (s s' : Bool) (a a' : ByteArray) (e e' : Int) (w : World) : (Op.equalIn (n + 4) 55 (.agg #[.string m, .bool s, .string a, .int .i64 e]) (.agg #[.string m', .bool s', .string a', .int .i64 e'])).run Tryz.prog w = .ok (m == m' && ((s == s' && a == a') && e == e')) w := by
 have h1 := fun (u : ByteArray) (x : Bool) (y : ByteArray) (z : Int) => vE (P := Tryz.prog) (cs := #[.string u, .bool x, .string y, .int .i64 z]) (off := 0) (aC.out (P := Tryz.prog) (t := 9)) rfl
 have h2 := fun (u : ByteArray) (x : Bool) (y : ByteArray) (z : Int) => A0 (P := Tryz.prog) (cs := #[.string u, .bool x, .string y, .int .i64 z]) (vs := #[.bool x, .string y, .int .i64 z]) (off := 1) (aC.out (P := Tryz.prog) (t := 29)) rfl
 rw [Op.equalIn]
 simp [run_underlying Tryz.underlying55, h1, h2, B3, ui]
 cases h : m == m' <;> cases h' : ((s == s' && a == a') && e == e') <;> simp_all
theorem sU {x y : TR} : (x.m == y.m && ((x.c.neg == y.c.neg && x.c.bJ == y.c.bJ) && x.c.e == y.c.e)) = true ↔ x = y := by
 obtain ⟨m, s, a, e⟩ := x
 obtain ⟨m', s', a', e'⟩ := y
 rw [Bool.and_eq_true, lG, yp, TR.mk.injEq]
section
variable {ρ : Rf} {w : World} {d : Option Nat} {ty u : TypeId} {pos : String} {af : Array Edge} {g : Option (Nat × Bool)} {x y : Operand} {s t : TR}
theorem AZ {r : Bool} (hx : ev ρ x = .agg s.cells.toArray) (hy : ev ρ y = .agg t.cells.toArray) (hr : (s.m == t.m && ((s.c.neg == t.c.neg && s.c.bJ == t.c.bJ) && s.c.e == t.c.e)) = r) :
  (execOp (ev ρ) ⟨d, .binOp .neq 55 x y u, ty, pos, af, g⟩).run Tryz.prog w = .ok (.value (.bool !r)) w := by
 have h1 : (Op.equal 55 (.agg s.cells.toArray) (.agg t.cells.toArray)).run Tryz.prog w = .ok r w := by rw [← hr]; exact z6 9996 s.m t.m s.c.neg t.c.neg s.c.bJ t.c.bJ s.c.e t.c.e w
 simp only [execOp, hx, hy]
 simp [eqGuard, binOp, h1]
theorem Ah (hx : ev ρ x = .agg s.cells.toArray) (hy : ev ρ y = .agg t.cells.toArray) (h : s = t) :
  (execOp (ev ρ) ⟨d, .binOp .neq 55 x y u, ty, pos, af, g⟩).run Tryz.prog w = .ok (.value (.bool false)) w := AZ hx hy (sU.2 h)
theorem Av (hx : ev ρ x = .agg s.cells.toArray) (hy : ev ρ y = .agg t.cells.toArray) (h : ¬ s = t) :
  (execOp (ev ρ) ⟨d, .binOp .neq 55 x y u, ty, pos, af, g⟩).run Tryz.prog w = .ok (.value (.bool true)) w := AZ hx hy (r := false) (Bool.eq_false_iff.2 fun h1 => h (sU.1 h1))
end
theorem zA {α : Type} {a b : List α} {i : Nat} (ha : a.length ≤ i) (hb : b.length ≤ i) (h : a.take i = b.take i) : a = b := by
 rwa [List.take_of_length_le ha, List.take_of_length_le hb] at h
theorem rG (A : Option Addr) (n c : Nat) (a : List TR) (B : Option Addr) (m d : Nat) (b : List TR) (w : World) (hS : Sl w A n 4 (aQ TR.cells a)) (hS2 : Sl w B m 4 (aQ TR.cells b)) (hn : n ≤ 1000000) (hm : m ≤ 1000000) :
  Calls Tryz.prog 96 #[.slice A n c, .slice B m d] w fun r w' => ∃ v, r = .returned (.bool v) ∧ (v = true ↔ a = b) ∧ Below w.heap.size w w' := by
 have hh := Hp.start w
 have hla := hS.cg TR.len (by decide)
 have hlb := hS2.cg TR.len (by decide)
 by_cases hnm : n = m
 ·subst hnm
  refine ak (N := 26) (l := [.slice A n c, .slice B n d]) Tryz.func96 rfl rfl (by simp) ?_
  refine sr (aB (ae (ah (sr (mL (aO (mL (aO ?_))))))))
  refine cE (ae (cF (aj (ai (ah (sr (aI (ae (al ?_)))))))))
  refine bs [4, 5, 11, 12, 13, 14, 15, 16, 17, 18, 19, 20, 21, 22, 23, 24, 25] 5
   (fun v w' => ∃ i : Nat, i ≤ n ∧ v = .int .i64 i ∧ a.take i = b.take i ∧ Hp w [] w')
   (fun v _ => n - (intOf v).toNat) ?_ ?_
  ·exact ⟨0, Nat.zero_le _, rfl, rfl, hh⟩
  ·clear hh
   rintro ρ' v w' ⟨i, hi, rfl, he, hh⟩
   by_cases hlt : i < n
   ·obtain ⟨s, hs⟩ := aD (l := a) (k := i) (by omega)
    obtain ⟨t, ht⟩ := aD (l := b) (k := i) (by omega)
    obtain ⟨ad, rfl, hr⟩ := hS.at_ (by omega)
    obtain ⟨ad2, rfl, hr2⟩ := hS2.at_ (by omega)
    by_cases hst : s = t
    ·refine ah (sr (mI (mL (aO ?_))))
     refine aU (ae (cT (aj (ai (ah (al (ah ?_)))))))
     refine aX 8 [[(0, none)], [(5, none)], [(17, some 0), (18, some 1)], [(19, some 2)], [(1, none)], [(5, none)], [(21, some 4), (22, some 5)], [(23, some 6)]] [(7, 24), (6, 23), (5, 22), (4, 21), (3, 20), (2, 19), (1, 18), (0, 17)] hh mixed (by kernel_rfl) ?_
     refine fN ?_
     refine eb ?_
     refine iA (i) ?_
     refine rh [_,_,_,_] (fun _ hj => (hr.ext hj.hp.below).recAt TR.len hs) ?_
     refine fN ?_
     refine eb ?_
     refine iA (i) ?_
     refine rh [_,_,_,_] (fun _ hj => (hr2.ext hj.hp.below).recAt TR.len ht) ?_
     refine a0 ?_
     intro f W hJ hV
     have hb_6 := hJ.bl
     obtain ⟨v24, v23, v22, v21, v20, v19, v18, v17, _⟩ := hV
     replace hh := hJ.hp
     refine aN (a4 (aa v24 (aa v23 (aa v22 (aa v21 (aa v20 (aa v19 (aa v18 (aa v17 aM))))))))) ?_
     dsimp only [ca]
     clear hJ
     refine a8 rfl rfl (by decide) (Ah (s := s) (t := t) rfl rfl hst) ?_
     skip
     refine ae (cF (aj (aW (ai (aq (mI ?_))))))
     refine bL (aI (aE (ai ?_)))
     refine ⟨⟨i + 1, by omega, rfl, by rw [aJ hs, aJ ht, he, hst], hh⟩, by show n - (i + 1) < n - i; omega, ?_⟩
     (repeat (first | exact aw _ _ _ | refine ax rfl ?_ | refine ar rfl ?_))
    ·refine ah (sr (mI (mL (aO ?_))))
     refine aU (ae (cT (aj (ai (ah (al (ah ?_)))))))
     refine aX 8 [[(0, none)], [(5, none)], [(17, some 0), (18, some 1)], [(19, some 2)], [(1, none)], [(5, none)], [(21, some 4), (22, some 5)], [(23, some 6)]] [(7, 24), (6, 23), (5, 22), (4, 21), (3, 20), (2, 19), (1, 18), (0, 17)] hh mixed (by kernel_rfl) ?_
     refine fN ?_
     refine eb ?_
     refine iA (i) ?_
     refine rh [_,_,_,_] (fun _ hj => (hr.ext hj.hp.below).recAt TR.len hs) ?_
     refine fN ?_
     refine eb ?_
     refine iA (i) ?_
     refine rh [_,_,_,_] (fun _ hj => (hr2.ext hj.hp.below).recAt TR.len ht) ?_
     refine a0 ?_
     intro f W hJ hV
     have hb_6 := hJ.bl
     obtain ⟨v24, v23, v22, v21, v20, v19, v18, v17, _⟩ := hV
     replace hh := hJ.hp
     refine aN (a4 (aa v24 (aa v23 (aa v22 (aa v21 (aa v20 (aa v19 (aa v18 (aa v17 aM))))))))) ?_
     dsimp only [ca]
     clear hJ
     refine a8 rfl rfl (by decide) (Av (s := s) (t := t) rfl rfl hst) ?_
     skip
     refine ae (cT (sr (aB (ae (ao (br (az (az (br (az ?_))))))))))
     refine cA ?_
     refine ⟨_, rfl, ⟨fun h => (nomatch h), fun h => absurd ?_ hst⟩, hh.below⟩
     rw [h, ht] at hs
     exact (Option.some.inj hs).symm
   ·refine ah (sr (mI (mL (aO ?_))))
    refine aU (ae (cF ?_))
    refine aP ?_
    refine ay (ay (a6 (ai (sr (aB (ae (ao ?_)))))))
    refine cA ?_
    exact ⟨_, rfl, ⟨fun _ => zA (by omega) (by omega) he, fun _ => rfl⟩, hh.below⟩
 ·refine ak (N := 26) (l := [.slice A n c, .slice B m d]) Tryz.func96 rfl rfl (by simp) ?_
  refine sr (aB (ae (ah (sr (mL (aO (mL (aO ?_))))))))
  refine cE (ae (cT (sr (aB (ae (ao (az ?_)))))))
  refine cA ?_
  exact ⟨_, rfl, ⟨fun h => (nomatch h), fun h => absurd (by rw [← hla, ← hlb, h]) hnm⟩, hh.below⟩
theorem ni (p q : PX) (w : World) (hp : p.at_ w) (hq : q.at_ w) (hn : p.n ≤ 1000000) (hm : q.n ≤ 1000000) :
  Calls Tryz.prog 26 #[.agg #[.int .i64 p.v, .slice p.A p.n p.c], .agg #[.int .i64 q.v, .slice q.A q.n q.c]] w fun r w' => ∃ v, r = .returned (.bool v) ∧ (v = true ↔ p.v = q.v ∧ p.ts = q.ts) ∧ Below w.heap.size w w' := by
 have hh := Hp.start w
 have ht := fun w1 hb => rG p.A p.n p.c p.ts q.A q.n q.c q.ts w1 (hp.ext hb) (hq.ext hb) hn hm
 by_cases hv : p.v = q.v
 ·refine ak (N := 17) (l := [.agg #[.int .i64 p.v, .slice p.A p.n p.c], .agg #[.int .i64 q.v, .slice q.A q.n q.c]]) Tryz.func26 rfl rfl (by simp) ?_
  refine sr ?_
  refine cK hh [_,_] ?_
  intro b2 w2 hh
  refine cK hh [_,_] ?_
  intro b3 w3 hh
  refine aB (ae (sr (bC ?_)))
  refine bH hh 1 ?_
  refine bC ?_
  refine bH hh 0 ?_
  refine ck (mB ?_)
  first | refine gS ?_ | (refine gT ?_; refine bC ?_) | refine gV ?_
  first | refine gS ?_ | (refine gT ?_; refine bH hh 1 ?_) | refine gV ?_
  first | refine gS ?_ | (refine gT ?_; refine bC ?_) | refine gV ?_
  first | refine gS ?_ | (refine gT ?_; refine bH hh 0 ?_) | refine gV ?_
  refine bu rfl rfl ?_
  refine aV (ht _ hh.below) av.out rfl (by decide) ?_
  rintro e_ w15 ⟨v_, rfl, hv_, hb_⟩
  refine ⟨_, rfl, ?_⟩
  replace hh := hh.ext hb_
  first | refine cR ?_ | refine cQ ?_
  refine aB (ae (ao ?_))
  refine cA ?_
  exact ⟨v_, rfl, hv_.trans ⟨fun h => ⟨hv, h⟩, fun h => h.2⟩, hh.below⟩
 ·refine ak (N := 17) (l := [.agg #[.int .i64 p.v, .slice p.A p.n p.c], .agg #[.int .i64 q.v, .slice q.A q.n q.c]]) Tryz.func26 rfl rfl (by simp) ?_
  refine sr ?_
  refine cK hh [_,_] ?_
  intro b2 w2 hh
  refine cK hh [_,_] ?_
  intro b3 w3 hh
  refine aB (ae (sr (bC ?_)))
  refine bH hh 1 ?_
  refine bC ?_
  refine bH hh 0 ?_
  refine ck (mB ?_)
  first | refine gS ?_ | (refine gT ?_; refine bC ?_) | refine gV ?_
  first | refine gS ?_ | (refine gT ?_; refine bH hh 1 ?_) | refine gV ?_
  first | refine gS ?_ | (refine gT ?_; refine bC ?_) | refine gV ?_
  first | refine gS ?_ | (refine gT ?_; refine bH hh 0 ?_) | refine gV ?_
  refine cm (by decide) rfl rfl (by decide) ?_
  first | refine cR ?_ | refine cQ ?_
  refine aB (ae (ao ?_))
  refine cA ?_
  exact ⟨_, rfl, ⟨fun h => (nomatch h), fun h => absurd h.1 hv⟩, hh.below⟩
end Go.Proofs.YtaapkaefelhfcaaGreatDoor
/- The walks through ogeelaw08's own helpers. -/
namespace Go.Proofs.YtaapkaefelhfcaaGreatDoor
open Go.RowKit
def C3 (a : NR) : Bool := decide ((24 : Int) < a.bJ.size ∨ a.e < -300 ∨ 300 < a.e)
structure Di (ts : List TR) : Prop where
 n : ts.length ≤ 12
 ok : gi 492 ts
 sz : ∀ t ∈ ts, t.m.size ≤ 50
end Go.Proofs.YtaapkaefelhfcaaGreatDoor
/- Plain: what polynomials come to hangs on their variables and terms alone; how long it is. -/
namespace Go.Proofs.YtaapkaefelhfcaaGreatDoor
open Go.RowKit
def PX.norm (g : PX) : PX := ⟨g.v, none, 0, 0, g.ts⟩
theorem qq (ps : List PX) : er (ps.map PX.norm) = er ps := by
 have h1 : (ps.map PX.norm).find? (fun g => decide (g.e ≠ 0)) = (ps.find? fun g => decide (g.e ≠ 0)).map PX.norm := List.find?_map ..
 have h2 : nT (ps.map PX.norm) = nT ps := by
  unfold nT
  rw [List.any_map, List.map_map]
  rfl
 unfold er
 rw [h1, h2, List.length_map]
 cases ps.find? (fun g => decide (g.e ≠ 0)) <;> rfl
theorem pr (ps : List PX) : fa (ps.map PX.norm) = fa ps := by unfold fa; rw [List.map_map]; rfl
theorem cC.n4 {E v : Int} {ts : List TR} {g : PX} {w : World} (o : cC E v ts g) (h : g.at_ w) (hb : E = 0 → ts.length ≤ 4096) : g.n ≤ 4096 := by
 have hl := h.ln
 have hts := o.ts
 by_cases hE : E = 0
 ·rw [if_pos hE] at hts
  have := hb hE
  rw [hts] at hl
  omega
 ·rw [if_neg hE] at hts
  rw [hts] at hl
  have h0 : g.n = 0 := hl.symm
  omega
structure xf (ps os : List PX) (R : List HE) : Prop where
 eq : ∀ (j : Nat) (g o : PX), ps[j]? = some g → os[j]? = some o → o.v = g.v ∧ o.ts = g.ts ∧ o.n = g.n
 my : ∀ o ∈ os, o.row ∈ R ∧ o.n ≤ o.c
theorem xf.add {ps os : List PX} {R : List HE} {g o : PX} (h : xf ps os R) (hx : ps[os.length]? = some g) (he : o.v = g.v ∧ o.ts = g.ts ∧ o.n = g.n) (hc : o.n ≤ o.c) : xf ps (os ++ [o]) (o.row :: R) := by
 refine ⟨fun j g2 o2 h1 h2 => ?_, fun o2 h2 => ?_⟩
 ·by_cases hj : j < os.length
  ·rw [List.getElem?_append_left hj] at h2
   exact h.eq j g2 o2 h1 h2
  ·by_cases hj2 : j = os.length
   ·subst hj2
    rw [List.getElem?_append_right (Nat.le_refl _), Nat.sub_self] at h2
    rw [hx] at h1
    cases h1; cases h2
    exact he
   ·rw [List.getElem?_eq_none (by rw [List.length_append]; simp; omega)] at h2
    cases h2
 ·rcases List.mem_append.1 h2 with h2 | h2
  ·exact ⟨List.mem_cons_of_mem _ (h.my o2 h2).1, (h.my o2 h2).2⟩
  ·rw [List.mem_singleton.1 h2]
   exact ⟨List.mem_cons_self, hc⟩
theorem xf.key {ps os : List PX} {R : List HE} (h : xf ps os R) (hl : os.length = ps.length) : os.map PX.norm = ps.map PX.norm := by
 apply List.ext_getElem?
 intro j
 rw [List.getElem?_map, List.getElem?_map]
 by_cases hj : j < os.length
 ·obtain ⟨o, ho⟩ := aD hj
  obtain ⟨g, hg⟩ := aD (l := ps) (k := j) (by omega)
  obtain ⟨e1, e2, _⟩ := h.eq j g o hg ho
  rw [ho, hg]
  show some (PX.norm o) = some (PX.norm g)
  unfold PX.norm
  rw [e1, e2]
 ·rw [List.getElem?_eq_none (by omega), List.getElem?_eq_none (by omega)]
theorem vS {w w' : World} {H : List HE} {g : PX} (hh : Hp w H w') (h : g.row ∈ H) : g.at_ w' := qY (hh.own g.row h)
end Go.Proofs.YtaapkaefelhfcaaGreatDoor
/- The walk through poly.Scale. -/
namespace Go.Proofs.YtaapkaefelhfcaaGreatDoor
open Go.RowKit
def C6 (p : PX) (c : Dyadic) : Int := if p.e = 0 then eW (p.ts.map (CM c)) else p.e
end Go.Proofs.YtaapkaefelhfcaaGreatDoor
/- Plain: polynomials with whole numbers, given byte by byte; what they come to can be reckoned. No program in sight. -/
namespace Go.Proofs.YtaapkaefelhfcaaGreatDoor
open Go.RowKit
abbrev ZT := List (List UInt8 × Int)
def zT (L : ZT) : List TR := L.map fun x => ⟨str x.1, nR ((x.2 : Int) : Dyadic)⟩
def zS (L : ZT) (b : List UInt8) : Int := match L with | [] => 0 | x :: L => (if x.1 = b then x.2 else 0) + zS L b
theorem Aw {a : Int} (h : (a : Dyadic) = 0) : a = 0 := gQ (p := 0) h
def zC : ZT → Bool
 | [] => true
 | [x] => !decide (x.2 = 0)
 | x :: y :: L => !decide (x.2 = 0) && (Op.bytesLess x.1 y.1 && zC (y :: L))
theorem pe : ∀ {L : ZT}, zC L = true → Canon (zT L) := fun {L} h => by
 have h1 : ∀ {L : ZT}, zC L = true → kY (zT L) = true ∧ ∀ x ∈ L, x.2 ≠ 0 := fun {L} => by
  induction L with
  | nil => exact fun _ => ⟨rfl, fun x hx => nomatch hx⟩
  | cons x L ih =>
   intro h
   cases L with
   | nil => exact ⟨rfl, fun y hy => by rw [List.mem_singleton.1 hy]; simpa [zC] using h⟩
   | cons y L =>
    simp only [zC, Bool.and_eq_true, Bool.not_eq_true', decide_eq_false_iff_not] at h
    obtain ⟨i1, i2⟩ := ih h.2.2
    refine ⟨?_, fun z hz => ?_⟩
    ·show (fM (str x.1) (str y.1) && kY (zT (y :: L))) = true
     rw [i1, show fM (str x.1) (str y.1) = true by unfold fM; rw [dm, dm]; exact h.2.1]
     rfl
    ·rcases List.mem_cons.1 hz with rfl | hz
     ·exact h.1
     ·exact i2 z hz
 obtain ⟨i1, i2⟩ := h1 h
 refine ⟨mm.1 i1, fun t ht => ?_, fun t ht => ?_⟩
 ·obtain ⟨x, hx, rfl⟩ := List.mem_map.1 ht
  show (nR _).d ≠ 0
  rw [dX]
  exact fun e => i2 x hx (Aw e)
 ·obtain ⟨x, hx, rfl⟩ := List.mem_map.1 ht
  show nR _ = nR (nR _).d
  rw [dX]
def zE (L K : ZT) : Bool := (L ++ K).all fun x => decide (zS L x.1 = zS K x.1)
def zP (P Q : ZT) : ZT := P.flatMap fun x => Q.map fun y => ((mulL x.1 y.1).1, x.2 * y.2)
def Dk (P Q : ZT) : List Int := P.flatMap fun x => Q.map fun y => (mulL x.1 y.1).2
theorem yn (L : ZT) : (zT L).length = L.length := List.length_map _
def zM (v : Int) (L : ZT) : Bool := L.all fun x => dN x.1 && decide ((x.1.length : Int) = v)
theorem Bm {v : Int} {L : ZT} (h : zM v L = true) : ∀ t ∈ zT L, fk v t = true := fun t ht => by
 obtain ⟨x, hx, rfl⟩ := List.mem_map.1 ht
 have := List.all_eq_true.1 h x hx
 unfold fk
 show (dN (str x.1).data.toList && decide (((str x.1).size : Int) = v)) = true
 rw [dm, eh]
 exact this
theorem qP {v : Int} {L : ZT} (hf : gD v = true) (h : (zC L && zM v L) = true) (hn : L.length ≤ 4096) : fA v (zT L) = 0 := by
 rw [Bool.and_eq_true] at h
 exact rR hf (by rw [yn]; exact hn) (Bm h.2) (pe h.1)
def zB (L : ZT) : Bool := L.all fun x => decide (x.2.natAbs < 256) && decide (x.1.length ≤ 50)
theorem AF {L : ZT} (h : zB L = true) : gi 24 (zT L) ∧ ∀ t ∈ zT L, t.m.size ≤ 50 := by
 refine ⟨fun t ht => ?_, fun t ht => ?_⟩
 ·obtain ⟨x, hx, rfl⟩ := List.mem_map.1 ht
  have := Bool.and_eq_true_iff.1 (List.all_eq_true.1 h x hx)
  have z : Sz 24 ((x.2 : Int) : Dyadic) := z3 (m := x.2) (e := 0) (of_decide_eq_true this.1) (by decide) (by decide)
  exact ⟨z.ok (by decide), by show Sz 24 (nR _).d; rw [dX]; exact z⟩
 ·obtain ⟨x, hx, rfl⟩ := List.mem_map.1 ht
  have := Bool.and_eq_true_iff.1 (List.all_eq_true.1 h x hx)
  show (str x.1).size ≤ 50
  rw [eh]
  exact of_decide_eq_true this.2
theorem mD {v : Int} {A : Option Addr} {n c : Nat} {L : ZT} (h : zB L = true) (hn : n ≤ 1000000) (hc : n ≤ c) : (⟨v, A, n, c, zT L⟩ : PX).jO 24 := ⟨hn, hc, (AF h).1, fun t ht => Nat.le_trans ((AF h).2 t ht) (by decide)⟩
end Go.Proofs.YtaapkaefelhfcaaGreatDoor
/- The walks through ogeelaw08.whole and two; the chapter's examples one by one. -/
namespace Go.Proofs.YtaapkaefelhfcaaGreatDoor
open Go.RowKit
def Df (n : Int) : ZT := [([0, 1], n), ([1, 0], 1)]
theorem cC.zT {v : Int} {K : ZT} {g : PX} {w : World} (o : cC 0 v (zT K) g) (h : g.at_ w) : ∃ A c, g = ⟨v, A, K.length, c, zT K⟩ := by
 obtain ⟨gv, gA, gn, gc, gts⟩ := g
 obtain rfl : v = gv := o.v.symm
 obtain rfl : Go.Proofs.YtaapkaefelhfcaaGreatDoor.zT K = gts := o.ts.symm
 have : (Go.Proofs.YtaapkaefelhfcaaGreatDoor.zT K).length = gn := h.ln
 rw [yn] at this
 exact ⟨gA, gc, by rw [this]⟩
theorem oP {g h : PX} (h1 : g.e = 0) (h2 : h.e = 0) (h3 : h.v = g.v) : er [g, h] = 0 := by
 have e : [g, h].find? (fun g => decide (g.e ≠ 0)) = none := gh (List.any_eq_false.2 fun x hx => by
  rcases List.mem_cons.1 hx with rfl | hx
  ·simp [h1]
  ·rw [List.mem_singleton.1 hx]; simp [h2])
 unfold er
 rw [e]
 show (if 2 = 0 ∨ nT [g, h] = true then (1 : Int) else 0) = 0
 rw [if_neg]
 rintro (h0 | h0)
 ·cases h0
 ·obtain ⟨x, hx, hx2⟩ := List.any_eq_true.1 h0
  have hx3 : x.v ≠ g.v := of_decide_eq_true hx2
  rcases List.mem_cons.1 hx with rfl | hx
  ·exact hx3 rfl
  ·rw [List.mem_singleton.1 hx] at hx3
   exact hx3 h3
end Go.Proofs.YtaapkaefelhfcaaGreatDoor
/- The walk through ogeelaw08.awake. -/
namespace Go.Proofs.YtaapkaefelhfcaaGreatDoor
open Go.RowKit
end Go.Proofs.YtaapkaefelhfcaaGreatDoor
/- The walk through the law PolyMakes. -/
namespace Go.Proofs.YtaapkaefelhfcaaGreatDoor
open Go.RowKit
def CQ (ds : List Int) : VP := fun v W => ∃ g : Option Addr × Nat, v = .slice g.1 ds.length g.2 ∧ Sl W g.1 ds.length 1 (ij ds)
theorem cC.same {E v : Int} {ts : List TR} {g h : PX} (o : cC E v ts g) (p : cC E v ts h) : g.v = h.v ∧ g.ts = h.ts := ⟨o.v.trans p.v.symm, o.ts.trans p.ts.symm⟩
theorem kg {g h : PX} (w : World) (hg : g.at_ w) (hh : h.at_ w) (e : g.v = h.v ∧ g.ts = h.ts) (hn : g.n ≤ 1000000) (hm : h.n ≤ 1000000) :
  Calls Tryz.prog 26 #[.agg #[.int .i64 g.v, .slice g.A g.n g.c], .agg #[.int .i64 h.v, .slice h.A h.n h.c]] w fun r w' => r = .returned (.bool true) ∧ Below w.heap.size w w' :=
 (ni g h w hg hh hn hm).mono fun r w' ⟨v, hr, hv, hb⟩ => ⟨by rw [hr, hv.2 e], hb⟩
end Go.Proofs.YtaapkaefelhfcaaGreatDoor
/- Plain: what is answered without an error may be; with one it is zero. -/
namespace Go.Proofs.YtaapkaefelhfcaaGreatDoor
open Go.RowKit
structure Db (E : Int) (g : PX) : Prop where
 bad : E ≠ 0 → g.v = 0 ∧ g.ts = []
 ok : E = 0 → g.e = 0 ∧ gi 100000 g.ts ∧ ∀ t ∈ g.ts, t.m.size ≤ 100000
theorem vJ {l : List TR} (h : eW l = 0) : (aT l).length ≤ 4096 := by
 unfold eW at h
 by_cases h4 : 4096 < (aT l).length
 ·rw [if_pos h4] at h; omega
 ·omega
theorem uc {k j : Nat} {l : List TR} (h : gi k l) (hk : k + l.length ≤ j) (hj : j ≤ 3999990) : gi j (aT l) := fun t ht => by
 have h3 : Sz j t.c.d := (ku (fun t ht => (h t ht).2) t ht).mono hk
 exact ⟨by rw [(eL l).nf t ht]; exact h3.ok hj, h3⟩
theorem vj {l : List TR} (h : ∀ t ∈ l, t.m.size ≤ 100000) : ∀ t ∈ aT l, t.m.size ≤ 100000 := fun t ht => by
 obtain ⟨s, hs, e⟩ := jy t ht
 rw [← e]
 exact h s hs
end Go.Proofs.YtaapkaefelhfcaaGreatDoor
/- Plain: orders do not matter; the walk through ogeelaw08.same. -/
namespace Go.Proofs.YtaapkaefelhfcaaGreatDoor
open Go.RowKit
theorem Bb (p q : PX) : oW [p, q] = p.ts ++ q.ts := by show p.ts ++ (q.ts ++ []) = _; rw [List.append_nil]
end Go.Proofs.YtaapkaefelhfcaaGreatDoor
/- What comes of putting polynomials into one, by the rule of Horner: plain, no program in sight. -/
namespace Go.Proofs.YtaapkaefelhfcaaGreatDoor
open Go.RowKit
def kZ (j : Nat) (t : TR) : Nat := match t.m.data.toList[j]? with | some e => e.toNat | none => 0
theorem BP {j : Nat} {t : TR} {e : UInt8} (h : t.m.data.toList[j]? = some e) : kZ j t = e.toNat := by unfold kZ; rw [h]
def bK (p : List TR) (j n : Nat) : List TR := p.filter fun t => decide (kZ j t = n)
def fw (q : List TR) (sub : List TR → Int × List TR) (p : List TR) (j n : Nat) (a : Int × List TR) : Int × List TR :=
 if a.1 ≠ 0 then a else if a.2.length = 0 ∧ (bK p j n).length = 0 then a else
 if ee a.2 q ≠ 0 then (ee a.2 q, []) else if (sub (bK p j n)).1 ≠ 0 then ((sub (bK p j n)).1, []) else
 if eW (aT (cd a.2 q) ++ (sub (bK p j n)).2) ≠ 0 then (eW (aT (cd a.2 q) ++ (sub (bK p j n)).2), []) else (0, aT (aT (cd a.2 q) ++ (sub (bK p j n)).2))
def cx (q : List TR) (sub : List TR → Int × List TR) (p : List TR) (j : Nat) : Nat → Int × List TR
 | 0 => (0, [])
 | i + 1 => fw q sub p j (127 - i) (cx q sub p j i)
theorem lu (q : List TR) (sub : List TR → Int × List TR) (p : List TR) (j i : Nat) : cx q sub p j (i + 1) = fw q sub p j (127 - i) (cx q sub p j i) := rfl
def eV (v : Int) : List (List TR) → Nat → List TR → Int × List TR
 | [], _, p => (0, aT [⟨eZ v, (p.map TR.c).headD (nR 0)⟩])
 | q :: qs, j, p => cx q (eV v qs (j + 1)) p j 128
theorem jn {q : List TR} {sub : List TR → Int × List TR} {p : List TR} {j i k : Nat} (h : (cx q sub p j i).1 ≠ 0) (hk : i ≤ k) : cx q sub p j k = cx q sub p j i := by
 induction k with
 | zero =>
  obtain rfl : i = 0 := by omega
  rfl
 | succ k ih =>
  by_cases e : i = k + 1
  ·rw [e]
  ·have := ih (by omega)
   show fw q sub p j (127 - k) (cx q sub p j k) = _
   rw [this]
   unfold fw
   rw [if_pos h]
theorem x7 {p q : List TR} {k j : Nat} (hp : gi k p) (hq : gi j q) (sq : ∀ t ∈ q, t.m.size ≤ 100000) (h : ee p q = 0) (hk : k + j ≤ 900000) : gi (k + j + p.length * q.length) (aT (cd p q)) ∧ ∀ t ∈ aT (cd p q), t.m.size ≤ 100000 := by
 obtain ⟨h6, _, h4⟩ := nM h
 have ho := lV hp hq (by omega)
 have hz := ku fun t ht => (ho t ht).2
 rw [kL] at hz
 refine ⟨fun t ht => ?_, (wj hp hq sq h hk).2⟩
 have : Sz (k + j + p.length * q.length) t.c.d := hz t ht
 refine ⟨?_, this⟩
 rw [(eL _).nf t ht]
 exact this.ok (by omega)
structure jS (v : Int) (k : Nat) (l : List TR) : Prop where
 e : fA v l = 0
 ok : gi k l
 sz : ∀ t ∈ l, t.m.size ≤ 100000
theorem jS.mono {v : Int} {k j : Nat} {l : List TR} (h : jS v k l) (hk : k ≤ j) : jS v j l := ⟨h.e, h.ok.mono hk, h.sz⟩
theorem jS.nil {v : Int} {k : Nat} (hv : gD v = true) : jS v k [] := ⟨rR hv (Nat.zero_le _) (fun _ h => nomatch h) ⟨.nil, (fun _ h => nomatch h), (fun _ h => nomatch h)⟩, (fun _ h => nomatch h), (fun _ h => nomatch h)⟩
theorem jS.len {v : Int} {k : Nat} {l : List TR} (h : jS v k l) : l.length ≤ 4096 := (dZ h.e).2.1
theorem rC {v : Int} {p q : List TR} {k j T : Nat} (hp : jS v k p) (hq : jS v j q) (hT : q.length ≤ T) (h : ee p q = 0) (hk : k + j ≤ 900000) : jS v (k + j + 4096 * T) (aT (cd p q)) := by
 obtain ⟨h6, h5, h4⟩ := nM h
 obtain ⟨f1, f2, f3, f4⟩ := dZ hp.e
 have := x7 hp.ok hq.ok hq.sz h hk
 have hm : p.length * q.length ≤ 4096 * T := Nat.mul_le_mul hp.len hT
 exact ⟨jV f1 h4 (wU f3 h5), this.1.mono (by omega), this.2⟩
theorem vM {v : Int} {a b : List TR} {k : Nat} (ha : jS v k a) (hb : jS v k b) (h : eW (a ++ b) = 0) (hk : k ≤ 3000000) : jS v (k + 8192) (aT (a ++ b)) := by
 obtain ⟨f1, f2, f3, f4⟩ := dZ ha.e
 obtain ⟨g1, g2, g3, g4⟩ := dZ hb.e
 have hl : (a ++ b).length ≤ 8192 := by rw [List.length_append]; omega
 refine ⟨jV f1 (vJ h) fun t ht => ?_, uc (fun t ht => ?_) (show k + (a ++ b).length ≤ k + 8192 by omega) (by omega), vj fun t ht => ?_⟩
 ·rcases List.mem_append.1 ht with h | h
  ·exact f3 t h
  ·exact g3 t h
 ·rcases List.mem_append.1 ht with h | h
  ·exact ha.ok t h
  ·exact hb.ok t h
 ·rcases List.mem_append.1 ht with h | h
  ·exact ha.sz t h
  ·exact hb.sz t h
theorem yw {v : Int} {q p : List TR} {sub : List TR → Int × List TR} {j n : Nat} {a : Int × List TR} {S K T B S' : Nat} (ha : jS v S a.2) (hq : jS v K q) (hT : q.length ≤ T) (hb : (sub (bK p j n)).1 = 0 → jS v B (sub (bK p j n)).2) (h1 : S + K + 4096 * T + 8192 ≤ S') (h2 : B + 8192 ≤ S') (hS : S' ≤ 900000)
  (h : (fw q sub p j n a).1 = 0) : jS v S' (fw q sub p j n a).2 := by
 unfold fw at h ⊢
 by_cases c0 : a.1 ≠ 0
 ·rw [if_pos c0] at h; exact absurd h c0
 ·rw [if_neg c0] at h ⊢
  by_cases c1 : a.2.length = 0 ∧ (bK p j n).length = 0
  ·rw [if_pos c1]
   exact ha.mono (by omega)
  ·rw [if_neg c1] at h ⊢
   by_cases c2 : ee a.2 q ≠ 0
   ·rw [if_pos c2] at h; exact absurd h c2
   ·rw [if_neg c2] at h ⊢
    by_cases c3 : (sub (bK p j n)).1 ≠ 0
    ·rw [if_pos c3] at h; exact absurd h c3
    ·rw [if_neg c3] at h ⊢
     by_cases c4 : eW (aT (cd a.2 q) ++ (sub (bK p j n)).2) ≠ 0
     ·rw [if_pos c4] at h; exact absurd h c4
     ·rw [if_neg c4]
      exact (vM ((rC ha hq hT (by omega) (by omega)).mono (show _ ≤ S' - 8192 by omega)) ((hb (by omega)).mono (by omega)) (by omega) (by omega)).mono (by omega)
theorem yE {q p : List TR} {sub : List TR → Int × List TR} {j n : Nat} {a : Int × List TR} (ha : a.1 ≠ 0 → a.2 = []) (h : (fw q sub p j n a).1 ≠ 0) : (fw q sub p j n a).2 = [] := by
 unfold fw at h ⊢
 by_cases c0 : a.1 ≠ 0
 ·rw [if_pos c0]; exact ha c0
 ·rw [if_neg c0] at h ⊢
  by_cases c1 : a.2.length = 0 ∧ (bK p j n).length = 0
  ·rw [if_pos c1] at h; exact absurd h c0
  ·rw [if_neg c1] at h ⊢
   by_cases c2 : ee a.2 q ≠ 0
   ·rw [if_pos c2]
   ·rw [if_neg c2] at h ⊢
    by_cases c3 : (sub (bK p j n)).1 ≠ 0
    ·rw [if_pos c3]
    ·rw [if_neg c3] at h ⊢
     by_cases c4 : eW (aT (cd a.2 q) ++ (sub (bK p j n)).2) ≠ 0
     ·rw [if_pos c4]
     ·rw [if_neg c4] at h; exact absurd rfl h
theorem qM {q p : List TR} {sub : List TR → Int × List TR} {j : Nat} : ∀ i, (cx q sub p j i).1 ≠ 0 → (cx q sub p j i).2 = []
 | 0 => fun _ => rfl
 | i + 1 => yE (qM i)
theorem xz {p : List TR} {j n : Nat} (h : ∀ t ∈ p, kZ j t < n) : bK p j n = [] := List.filter_eq_nil_iff.2 fun t ht => by
 have := h t ht
 simp only [decide_eq_true_eq]
 omega
theorem gC {p : List TR} {j n : Nat} : ∀ t ∈ bK p j n, t ∈ p := fun t ht => (List.mem_filter.1 ht).1
theorem lh {q p : List TR} {sub : List TR → Int × List TR} {j D : Nat} (h : ∀ t ∈ p, kZ j t ≤ D) : ∀ i, i + D ≤ 127 → cx q sub p j i = (0, [])
 | 0, _ => rfl
 | i + 1, hi => by
  show fw q sub p j (127 - i) (cx q sub p j i) = _
  rw [lh h i (by omega), show fw q sub p j (127 - i) (0, []) = (0, []) by
   unfold fw
   rw [if_neg (by decide), if_pos ⟨rfl, by rw [xz fun t ht => by have := h t ht; omega]; rfl⟩]]
def hF (c : Nat) : List Nat → Nat → Nat
 | [], k => k
 | d :: ds, k => hF c ds k + d * c + 8192
theorem jj (c k : Nat) : hF c [] k = k := rfl
theorem iC (c d k : Nat) (ds : List Nat) : hF c (d :: ds) k = hF c ds k + d * c + 8192 := rfl
theorem l6 {v : Int} {q p : List TR} {sub : List TR → Int × List TR} {j D K T B c : Nat} (hv : gD v = true) (hq : jS v K q) (hT : q.length ≤ T) (hD : ∀ t ∈ p, kZ j t ≤ D) (hD2 : D ≤ 127) (hb : ∀ n, (sub (bK p j n)).1 = 0 → jS v B (sub (bK p j n)).2) (hc : K + 4096 * T + 8192 ≤ c) (hS : B + D * c + 8192 ≤ 900000) :
  ∀ i, i ≤ 128 → (cx q sub p j i).1 = 0 → jS v (B + (i + D - 128) * c + 8192) (cx q sub p j i).2
 | 0, _, _ => jS.nil hv
 | i + 1, hi, h0 => by
  by_cases h1 : i + 1 + D ≤ 127
  ·rw [lh hD _ h1]
   exact jS.nil hv
  ·have h2 : (cx q sub p j i).1 = 0 := by
    refine Classical.byContradiction fun c => ?_
    rw [jn c (Nat.le_succ i)] at h0
    exact c h0
   have hle : (i + 1 + D - 128) * c ≤ D * c := Nat.mul_le_mul_right _ (by omega)
   by_cases h3 : i + D ≤ 127
   ·have h4 := lh (q := q) (sub := sub) hD i h3
    show jS v _ (fw q sub p j (127 - i) (cx q sub p j i)).2
    have h5 : (fw q sub p j (127 - i) (cx q sub p j i)).1 = 0 := h0
    rw [h4] at h5 ⊢
    rw [show i + 1 + D - 128 = 0 by omega, Nat.zero_mul]
    unfold fw at h5 ⊢
    rw [if_neg (by decide)] at h5 ⊢
    by_cases c1 : ((0 : Int), ([] : List TR)).2.length = 0 ∧ (bK p j (127 - i)).length = 0
    ·rw [if_pos c1]; exact jS.nil hv
    ·rw [if_neg c1] at h5 ⊢
     by_cases c2 : ee [] q ≠ 0
     ·rw [if_pos c2] at h5; exact absurd h5 c2
     ·rw [if_neg c2] at h5 ⊢
      by_cases c3 : (sub (bK p j (127 - i))).1 ≠ 0
      ·rw [if_pos c3] at h5; exact absurd h5 c3
      ·rw [if_neg c3] at h5 ⊢
       by_cases c4 : eW (aT (cd [] q) ++ (sub (bK p j (127 - i))).2) ≠ 0
       ·rw [if_pos c4] at h5; exact absurd h5 c4
       ·rw [if_neg c4]
        have hn : jS v B (aT (cd [] q)) := jS.nil hv
        exact (vM hn (hb _ (by omega)) (by omega) (by omega)).mono (by omega)
   ·have ih := l6 hv hq hT hD hD2 hb hc hS i (by omega) h2
    have e1 : (i + 1 + D - 128) * c = (i + D - 128) * c + c := by rw [show i + 1 + D - 128 = (i + D - 128) + 1 by omega, Nat.succ_mul]
    rw [e1] at hle ⊢
    generalize (i + D - 128) * c = y at *
    generalize D * c = z at *
    exact yw ih hq hT (hb _) (by omega) (by omega) (by omega) h0
theorem xC {v : Int} {k : Nat} {x : NR} (hv : gD v = true) (hx : Sz k x.d) (hk : k ≤ 900000) : jS v (k + 1) (aT [⟨eZ v, x⟩]) := by
 have h1 := eE.1 hv
 have h2 := lg h1.1
 refine ⟨jV hv (Nat.le_trans (iz _) (show 1 ≤ 4096 by decide)) fun t ht => ?_, fun t ht => ?_, fun t ht => ?_⟩
 ·rw [List.mem_singleton.1 ht]
  unfold fk
  rw [Bool.and_eq_true, decide_eq_true_eq]
  exact ⟨pX v, h2⟩
 ·have h1 : Sz (k + 1) t.c.d := ku (k := k) (l := [⟨eZ v, x⟩]) (fun s hs => by rw [List.mem_singleton.1 hs]; exact hx) t ht
  exact ⟨by rw [(eL _).nf t ht]; exact h1.ok (by omega), h1⟩
 ·obtain ⟨s, hs, e⟩ := jy t ht
  rw [← e, List.mem_singleton.1 hs]
  show (eZ v).size ≤ 100000
  omega
theorem vt {v : Int} {K T c0 : Nat} (hv : gD v = true) (hc0 : K + 4096 * T + 8192 ≤ c0) : ∀ (qs : List (List TR)) (j : Nat) (p : List TR) (ds : List Nat) (k : Nat), (∀ q ∈ qs, jS v K q ∧ q.length ≤ T) → gi k p → ds.length = qs.length → (∀ (i d : Nat), ds[i]? = some d → d ≤ 127 ∧ ∀ t ∈ p, kZ (j + i) t ≤ d) → hF c0 ds (k + 1) ≤ 900000 →
  (eV v qs j p).1 = 0 → jS v (hF c0 ds (k + 1)) (eV v qs j p).2 := by
 intro qs
 induction qs with
 | nil =>
  intro j p ds k _ hok hds _ hB _
  obtain rfl : ds = [] := List.length_eq_zero_iff.1 hds
  rw [jj] at hB ⊢
  refine xC hv ?_ (by omega)
  cases p with
  | nil => show Sz k (nR 0).d; rw [dX]; exact Sz.zero k
  | cons t p => exact (hok t List.mem_cons_self).2
 | cons q qs ih =>
  intro j p ds k hq hok hds hD hB h0
  cases ds with
  | nil => cases hds
  | cons d ds =>
   have hd := hD 0 d rfl
   rw [iC] at hB ⊢
   have hB1 : hF c0 ds (k + 1) ≤ 900000 := by omega
   have hsub : ∀ n, (eV v qs (j + 1) (bK p j n)).1 = 0 → jS v (hF c0 ds (k + 1)) (eV v qs (j + 1) (bK p j n)).2 := fun n hn => by
    refine ih (j + 1) (bK p j n) ds k (fun r hr => hq r (List.mem_cons_of_mem _ hr)) (fun t ht => hok t (gC t ht)) (by simpa using hds) (fun i e he => ?_) hB1 hn
    have h2 := hD (i + 1) e (by simpa using he)
    refine ⟨h2.1, fun t ht => ?_⟩
    have h3 := h2.2 t (gC t ht)
    rwa [show j + 1 + i = j + (i + 1) by omega]
   have h1 := l6 (sub := eV v qs (j + 1)) (p := p) (j := j) hv (hq q List.mem_cons_self).1 (hq q List.mem_cons_self).2 hd.2 hd.1 hsub hc0 hB 128 (Nat.le_refl _) h0
   rw [show 128 + d - 128 = d by omega] at h1
   exact h1
end Go.Proofs.YtaapkaefelhfcaaGreatDoor
/- Terms that rise: those of one power of a variable lie side by side. Plain, no program in sight. -/
namespace Go.Proofs.YtaapkaefelhfcaaGreatDoor
open Go.RowKit
theorem sI : ∀ {a b : List UInt8} {j : Nat} {x y : UInt8}, Op.bytesLess a b = true → a.take j = b.take j → a[j]? = some x → b[j]? = some y → x.toNat ≤ y.toNat
 | [], _, j, x, y, _, _, hx, _ => by simp at hx
 | _, [], j, x, y, _, _, _, hy => by simp at hy
 | c :: a, d :: b, 0, x, y, h, _, hx, hy => by
  simp only [List.getElem?_cons_zero, Option.some.injEq] at hx hy
  subst hx; subst hy
  simp only [Op.bytesLess, Bool.or_eq_true, Bool.and_eq_true, decide_eq_true_eq, beq_iff_eq] at h
  rcases h with h | ⟨h, _⟩
  ·exact Nat.le_of_lt (UInt8.lt_iff_toNat_lt.1 h)
  ·rw [h]; exact Nat.le_refl _
 | c :: a, d :: b, j + 1, x, y, h, ht, hx, hy => by
  simp only [List.take_succ_cons, List.cons.injEq] at ht
  obtain ⟨rfl, ht⟩ := ht
  simp only [List.getElem?_cons_succ] at hx hy
  refine sI (a := a) (b := b) ?_ ht hx hy
  simpa [Op.bytesLess] using h
structure wV (v : Int) (j : Nat) (p : List TR) : Prop where
 nZ : pN p
 may : ∀ t ∈ p, fk v t = true
 pre : ∀ a ∈ p, ∀ b ∈ p, a.m.data.toList.take j = b.m.data.toList.take j
theorem wV.size {v : Int} {j : Nat} {p : List TR} (h : wV v j p) : ∀ t ∈ p, (t.m.data.toList.length : Int) = v := fun t ht => by
 rw [← cw]
 exact of_decide_eq_true (Bool.and_eq_true_iff.1 (h.may t ht)).2
theorem wV.get {v : Int} {j : Nat} {p : List TR} (h : wV v j p) (hj : (j : Int) < v) {t : TR} (ht : t ∈ p) : ∃ e : UInt8, t.m.data.toList[j]? = some e ∧ kZ j t = e.toNat ∧ e.toNat < 128 := by
 obtain ⟨e, he⟩ := aD (l := t.m.data.toList) (k := j) (by have := h.size t ht; omega)
 exact ⟨e, he, BP he, hO (Bool.and_eq_true_iff.1 (h.may t ht)).1 he⟩
theorem wV.mono {v : Int} {j : Nat} {p : List TR} (h : wV v j p) (hj : (j : Int) < v) : p.Pairwise fun a b => kZ j a ≤ kZ j b := by
 refine List.Pairwise.imp_of_mem (fun {a b} ha hb hl => ?_) h.nZ
 obtain ⟨x, hx, ex, _⟩ := h.get hj ha
 obtain ⟨y, hy, ey, _⟩ := h.get hj hb
 rw [ex, ey]
 exact sI hl (h.pre a ha b hb) hx hy
theorem wV.with {v : Int} {j n : Nat} {p : List TR} (h : wV v j p) (hj : (j : Int) < v) : wV v (j + 1) (bK p j n) := by
 refine ⟨h.nZ.filter _, fun t ht => h.may t (gC t ht), fun a ha b hb => ?_⟩
 obtain ⟨ha1, ha2⟩ := List.mem_filter.1 ha
 obtain ⟨hb1, hb2⟩ := List.mem_filter.1 hb
 obtain ⟨x, hx, ex, _⟩ := h.get hj ha1
 obtain ⟨y, hy, ey, _⟩ := h.get hj hb1
 have exy : x = y := UInt8.toNat_inj.1 (by rw [← ex, ← ey, of_decide_eq_true ha2, of_decide_eq_true hb2])
 rw [aJ hx, aJ hy, h.pre a ha1 b hb1, exy]
theorem yc {α : Type} {p : List α} {fr en : Nat} (h : fr ≤ en) : p.drop fr = (p.drop fr).take (en - fr) ++ p.drop en := by
 have : p.drop en = (p.drop fr).drop (en - fr) := by rw [List.drop_drop]; congr 1; omega
 rw [this, List.take_append_drop]
theorem tx {p : List TR} {j n fr en : Nat} (hfe : fr ≤ en) (h1 : ∀ t ∈ p.take fr, kZ j t < n) (h2 : ∀ t ∈ (p.drop fr).take (en - fr), kZ j t = n) (h3 : ∀ t ∈ p.drop en, n < kZ j t) : bK p j n = (p.drop fr).take (en - fr) := by
 have e : p = p.take fr ++ ((p.drop fr).take (en - fr) ++ p.drop en) := by
  have : p.drop en = (p.drop fr).drop (en - fr) := by rw [List.drop_drop]; congr 1; omega
  rw [this, List.take_append_drop, List.take_append_drop]
 unfold bK
 conv => lhs; rw [e]
 rw [List.filter_append, List.filter_append, List.filter_eq_nil_iff.2, List.filter_eq_self.2, List.filter_eq_nil_iff.2, List.nil_append, List.append_nil]
 ·intro t ht
  have := h3 t ht
  simp only [decide_eq_true_eq]
  omega
 ·intro t ht
  have := h2 t ht
  simpa using this
 ·intro t ht
  have := h1 t ht
  simp only [decide_eq_true_eq]
  omega
theorem xD {p : List TR} {j fr n : Nat} {x : TR} (h : p.Pairwise fun a b => kZ j a ≤ kZ j b) (hx : p[fr]? = some x) (hn : kZ j x < n) : ∀ t ∈ p.take (fr + 1), kZ j t < n := fun t ht => by
 rw [aJ hx] at ht
 rcases List.mem_append.1 ht with ht | ht
 ·have e : p = p.take fr ++ x :: p.drop (fr + 1) := by rw [← iT hx, List.take_append_drop]
  rw [e, List.pairwise_append] at h
  have := h.2.2 t ht x List.mem_cons_self
  omega
 ·obtain rfl := List.mem_singleton.1 ht
  exact hn
end Go.Proofs.YtaapkaefelhfcaaGreatDoor
/- The walks through calc.has and calc.Derive. -/
namespace Go.Proofs.YtaapkaefelhfcaaGreatDoor
open Go.RowKit
def lr (p : PX) (i : Int) : Int := if p.e = 0 then (if i < 0 ∨ p.v ≤ i then 1 else 0) else p.e
theorem qG (p : PX) (i : Int) (k : Nat) (w : World) (hT : hG w) (hp : p.at_ w) (lp : p.jO k) :
  Calls Tryz.prog 90 #[.agg #[.int .i64 p.v, .slice p.A p.n p.c], .int .i64 i] w fun r w' => r = .returned (.int .i64 (lr p i)) ∧ Below w.heap.size w w' := by
 have hh := Hp.start w
 have hck := fun w1 hT1 hb => l8 p k w1 hT1 (hp.ext hb) lp
 unfold lr
 by_cases h0 : p.e = 0
 ·rw [if_pos h0]
  rw [h0] at hck
  by_cases h1 : i < 0
  ·rw [if_pos (.inl h1)]
   refine ak (N := 19) (l := [.agg #[.int .i64 p.v, .slice p.A p.n p.c], .int .i64 i]) Tryz.func90 rfl rfl (by simp) ?_
   refine sr ?_
   refine cK hh [_,_] ?_
   intro b2 w2 hh
   refine aI (ae (ah (sr ?_)))
   refine dh hh 0 [_,_] ?_
   refine bG hh (hck _ (hT.hp hh) hh.below) rfl ?_
   intro w7 hh
   refine aI (ae (sr (mI ?_)))
   refine cE (ae (cF (aj (ai (ah (sr (mI ?_)))))))
   refine aU (mB ?_)
   first | refine gS ?_ | (refine gT ?_; refine mI ?_) | refine gV ?_
   first | refine gS ?_ | (refine gT ?_; refine bC ?_) | refine gV ?_
   first | refine gS ?_ | (refine gT ?_; refine bH hh 0 ?_) | refine gV ?_
   first | refine gS ?_ | (refine gT ?_; refine dn ?_) | refine gV ?_
   first | refine cR ?_ | refine cQ ?_
   refine ae (cT (sr (aI (ae (ao (az ?_))))))
   refine cA ?_
   exact ⟨rfl, hh.below⟩
  ·by_cases h2 : p.v ≤ i
   ·rw [if_pos (.inr h2)]
    refine ak (N := 19) (l := [.agg #[.int .i64 p.v, .slice p.A p.n p.c], .int .i64 i]) Tryz.func90 rfl rfl (by simp) ?_
    refine sr ?_
    refine cK hh [_,_] ?_
    intro b2 w2 hh
    refine aI (ae (ah (sr ?_)))
    refine dh hh 0 [_,_] ?_
    refine bG hh (hck _ (hT.hp hh) hh.below) rfl ?_
    intro w7 hh
    refine aI (ae (sr (mI ?_)))
    refine cE (ae (cF (aj (ai (ah (sr (mI ?_)))))))
    refine aU (mB ?_)
    first | refine gS ?_ | (refine gT ?_; refine mI ?_) | refine gV ?_
    first | refine gS ?_ | (refine gT ?_; refine bC ?_) | refine gV ?_
    first | refine gS ?_ | (refine gT ?_; refine bH hh 0 ?_) | refine gV ?_
    first | refine gS ?_ | (refine gT ?_; refine dn ?_) | refine gV ?_
    first | refine cR ?_ | refine cQ ?_
    refine ae (cT (sr (aI (ae (ao (az ?_))))))
    refine cA ?_
    exact ⟨rfl, hh.below⟩
   ·rw [if_neg (by omega)]
    refine ak (N := 19) (l := [.agg #[.int .i64 p.v, .slice p.A p.n p.c], .int .i64 i]) Tryz.func90 rfl rfl (by simp) ?_
    refine sr ?_
    refine cK hh [_,_] ?_
    intro b2 w2 hh
    refine aI (ae (ah (sr ?_)))
    refine dh hh 0 [_,_] ?_
    refine bG hh (hck _ (hT.hp hh) hh.below) rfl ?_
    intro w7 hh
    refine aI (ae (sr (mI ?_)))
    refine cE (ae (cF (aj (ai (ah (sr (mI ?_)))))))
    refine aU (mB ?_)
    first | refine gS ?_ | (refine gT ?_; refine mI ?_) | refine gV ?_
    first | refine gS ?_ | (refine gT ?_; refine bC ?_) | refine gV ?_
    first | refine gS ?_ | (refine gT ?_; refine bH hh 0 ?_) | refine gV ?_
    first | refine gS ?_ | (refine gT ?_; refine dn ?_) | refine gV ?_
    first | refine cR ?_ | refine cQ ?_
    refine ae (cF (aj (ai (sr (aI (ae (ao ?_)))))))
    refine cA ?_
    exact ⟨rfl, hh.below⟩
 ·rw [if_neg h0]
  refine ak (N := 19) (l := [.agg #[.int .i64 p.v, .slice p.A p.n p.c], .int .i64 i]) Tryz.func90 rfl rfl (by simp) ?_
  refine sr ?_
  refine cK hh [_,_] ?_
  intro b2 w2 hh
  refine aI (ae (ah (sr ?_)))
  refine dh hh 0 [_,_] ?_
  refine bG hh (hck _ (hT.hp hh) hh.below) rfl ?_
  intro w7 hh
  refine aI (ae (sr (mI ?_)))
  refine cE (ae (cT (sr (mI (aI (ae (ao (az ?_))))))))
  refine cA ?_
  exact ⟨rfl, hh.below⟩
theorem Hp.Ak {w0 w : World} {H : List HE} (h : Hp w0 H w) {i b n : Nat} {t : TypeId} {l : List UInt8} {ex : List Value} {fz : Nat × Nat} (hi : H[i]? = some (.blk b t (je l ++ ex) fz)) (hl : l.length = n) : Sl w (some ⟨b, 0, none⟩) n 1 (je l) := by
 refine ⟨by rw [gH, hl, Nat.mul_one], fun _ => ⟨_, rfl, fun j u hu => ?_⟩⟩
 refine h.vg hi j u ?_
 rw [List.getElem?_append_left (List.getElem?_eq_some_iff.1 hu).1]
 exact hu
def rS (i : Nat) (t : TR) : Option TR := match t.m.data.toList[i]? with | some e => if e.toNat = 0 then none else some ⟨str (t.m.data.toList.set i (e - 1)), nR (t.c.d * ((e.toNat : Int) : Dyadic))⟩ | none => none
def kf (i : Nat) (l : List TR) : List TR := l.filterMap (rS i)
theorem xb {i j : Nat} {l : List TR} {x : TR} (h : l[j]? = some x) : kf i (l.take (j + 1)) = kf i (l.take j) ++ (rS i x).toList := by
 unfold kf
 rw [aJ h, List.filterMap_append]
 congr 1
theorem vB {p : PX} {i : Int} (h : lr p i = 0) : p.e = 0 ∧ 0 ≤ i ∧ i < p.v := by
 unfold lr at h
 by_cases h0 : p.e = 0
 ·rw [if_pos h0] at h
  by_cases h1 : i < 0 ∨ p.v ≤ i
  ·rw [if_pos h1] at h; cases h
  ·exact ⟨h0, by omega, by omega⟩
 ·rw [if_neg h0] at h; exact absurd h h0
theorem zH {l : List UInt8} {ex : List Value} {i : Nat} {e : UInt8} (h : i < l.length) (he : e.toNat ≠ 0) : cB (je l ++ ex) (i * 1) [.int .u8 (((e.toNat + 256 - 1) % 256 : Nat) : Int)] = je (l.set i (e - 1)) ++ ex := by
 have hl : i < (je l).length := by rw [gH]; exact h
 have h1 : (1 : UInt8) ≤ e := by rw [UInt8.le_iff_toNat_le]; show 1 ≤ e.toNat; omega
 have h2 : e.toNat < 256 := e.toNat_lt
 have h3 : (e - 1).toNat = (e.toNat + 256 - 1) % 256 := by
  rw [UInt8.toNat_sub_of_le _ _ h1]
  show e.toNat - 1 = _
  omega
 rw [Nat.mul_one, cz (by rw [List.length_append]; omega), List.set_append_left _ _ hl]
 congr 1
 unfold je
 rw [List.map_set, h3]
theorem jo {l : List UInt8} : dN l = true ↔ ∀ c ∈ l, c.toNat < 128 := by
 unfold dN
 rw [List.all_eq_true]
 exact ⟨fun h c hc => of_decide_eq_true (h c hc), fun h c hc => decide_eq_true (h c hc)⟩
theorem qj {i : Nat} {t s : TR} (h : rS i t = some s) : ∃ e, t.m.data.toList[i]? = some e ∧ e.toNat ≠ 0 ∧ s = ⟨str (t.m.data.toList.set i (e - 1)), nR (t.c.d * ((e.toNat : Int) : Dyadic))⟩ := by
 unfold rS at h
 split at h
 ·rename_i e he
  by_cases h0 : e.toNat = 0
  ·rw [if_pos h0] at h; cases h
  ·rw [if_neg h0] at h
   exact ⟨e, he, h0, (Option.some.inj h).symm⟩
 ·cases h
theorem xY {v : Int} {i : Nat} {t s : TR} (h : rS i t = some s) (ht : fk v t = true) : fk v s = true := by
 obtain ⟨e, he, h0, rfl⟩ := qj h
 unfold fk at ht ⊢
 rw [Bool.and_eq_true, decide_eq_true_eq] at ht
 rw [Bool.and_eq_true, decide_eq_true_eq]
 refine ⟨?_, ?_⟩
 ·show dN (str _).data.toList = true
  rw [dm, jo]
  intro c hc
  rcases List.mem_or_eq_of_mem_set hc with hc | rfl
  ·exact jo.1 ht.1 c hc
  ·have h1 : (1 : UInt8) ≤ e := by rw [UInt8.le_iff_toNat_le]; show 1 ≤ e.toNat; omega
   rw [UInt8.toNat_sub_of_le _ _ h1]
   have := jo.1 ht.1 e (List.mem_of_getElem? he)
   omega
 ·show ((str _).size : Int) = v
  rw [eh, List.length_set, ← cw]
  exact ht.2
theorem wg {i k : Nat} {t s : TR} (h : rS i t = some s) (ht : Sz k t.c.d) (hk : k ≤ 1000000) : s.c.ok ∧ Sz (k + 24) s.c.d ∧ s.m.size = t.m.size := by
 obtain ⟨e, he, h0, rfl⟩ := qj h
 have he8 : e.toNat < 256 := e.toNat_lt
 have zn : Sz 24 ((e.toNat : Int) : Dyadic) := z3 (m := (e.toNat : Int)) (e := 0) (by omega) (by decide) (by decide)
 have hs := ht.mul zn
 exact ⟨hs.ok (by omega), by show Sz _ (nR _).d; rw [dX]; exact hs, by show (str _).size = _; rw [eh, List.length_set, ← cw]⟩
theorem zl {v : Int} {ts : List TR} {i k : Nat} (h : fA v ts = 0) (ho : gi k ts) (hz : ∀ t ∈ ts, t.m.size ≤ 100000) (hk : k ≤ 100000) : j2 v (kf i ts) = 0 ∧ gi (k + 24) (kf i ts) ∧ ∀ t ∈ kf i ts, t.m.size ≤ 100000 := by
 obtain ⟨h1, h2, h3, _⟩ := dZ h
 have hl : (kf i ts).length ≤ 4096 := Nat.le_trans (List.length_filterMap_le _ _) h2
 have hm : ∀ s ∈ kf i ts, ∃ t ∈ ts, rS i t = some s := fun s hs => List.mem_filterMap.1 hs
 refine ⟨?_, fun s hs => ?_, fun s hs => ?_⟩
 ·unfold j2
  rw [if_neg, if_neg (by omega)]
  ·unfold eW
   have := iz (kf i ts)
   rw [if_neg (by omega)]
  ·rintro (h5 | h5)
   ·rw [h1] at h5; cases h5
   ·obtain ⟨s, hs, h6⟩ := List.any_eq_true.1 h5
    obtain ⟨t, ht, h7⟩ := hm s hs
    rw [xY h7 (h3 t ht)] at h6
    cases h6
 ·obtain ⟨t, ht, h7⟩ := hm s hs
  have := wg h7 (ho t ht).2 (by omega)
  exact ⟨this.1, this.2.1⟩
 ·obtain ⟨t, ht, h7⟩ := hm s hs
  rw [(wg h7 (ho t ht).2 (by omega)).2.2]
  exact hz t ht
theorem kS (p : PX) (which : Int) (k : Nat) (w : World) (hT : hG w) (hp : p.at_ w) (lp : p.jO k) (hk : k ≤ 100000) :
  Calls Tryz.prog 22 #[.agg #[.int .i64 p.v, .slice p.A p.n p.c], .int .i64 which] w fun r w' => ∃ g : PX, cC (lr p which) p.v (aT (kf which.toNat p.ts)) g ∧ r = .returned (.tuple #[.agg #[.int .i64 g.v, .slice g.A g.n g.c], .int .i64 (lr p which)]) ∧ Hp w [g.row] w' := by
 have hh := Hp.start w
 have hck := fun w1 hT1 hb => qG p which k w1 hT1 (hp.ext hb) lp
 by_cases h0 : lr p which = 0
 ·obtain ⟨hpe, hi0, hiv⟩ := vB h0
  rw [h0] at hck ⊢
  obtain ⟨hf, h4, hmy, _⟩ := dZ hpe
  replace hf := eE.1 hf
  obtain ⟨pv, pA, pn, pc, ts⟩ := p
  replace hpl : ts.length = pn := hp.ln
  replace hp : Sl w pA pn 4 (aQ TR.cells ts) := hp
  have okp : gi k ts := lp.ok
  have szp : ∀ t ∈ ts, t.m.size ≤ 100000 := lp.sz
  replace hmy : ∀ t ∈ ts, fk pv t = true := hmy
  replace h4 : ts.length ≤ 4096 := h4
  replace hf : 0 ≤ pv ∧ pv ≤ 12 := hf
  replace hiv : which < pv := hiv
  obtain ⟨j, rfl⟩ : ∃ j : Nat, which = (j : Int) := ⟨which.toNat, by omega⟩
  rw [show ((j : Int)).toNat = j from rfl]
  show Calls _ _ _ _ fun r w' => ∃ g : PX, cC 0 pv (aT (kf j ts)) g ∧ r = .returned (.tuple #[.agg #[.int .i64 g.v, .slice g.A g.n g.c], .int .i64 0]) ∧ Hp w [g.row] w'
  refine ak (N := 64) (l := [.agg #[.int .i64 pv, .slice pA pn pc], .int .i64 j]) Tryz.func22 rfl rfl (by simp) ?_
  refine sr ?_
  refine cK hh [_,_] ?_
  intro b2 w2 hh
  refine cv hh ?_
  intro b4 w4 hh
  refine aI (ae (ah (sr ?_)))
  refine dh hh 1 [_,_] (mI ?_)
  refine bG hh (hck _ (hT.hp hh) hh.below) rfl ?_
  intro w14 hh
  refine aI (ae (sr (mI ?_)))
  refine cE (ae (cF (aj (ai (sr (aL (ae (ah (sr (bC ?_))))))))))
  refine bH hh 1 ?_
  refine aO (mI (ae (al ?_)))
  replace hh := hh.di 55 4
  refine ct [7, 9, 10, 11, 22, 23, 24, 25, 26, 27, 28, 29, 30, 31, 32, 33, 34, 35, 36, 37, 38, 39, 40, 41, 42, 43, 44, 45, 46, 47, 48, 49, 50, 51, 52, 53, 54, 55, 56, 57] 7 22
   (fun a v w' => ∃ (i : Nat) (M : List TR) (A : Option Addr) (c : Nat), i ≤ pn ∧ v = .int .i64 i ∧ M = kf j (ts.take i) ∧ a = .slice A M.length c ∧ Hp w [.row A M.length c 55 4 (aQ TR.cells M), .blk b4 24 [.int .i64 0, .slice none 0 0] (0, 0), .blk b2 24 [.int .i64 pv, .slice pA pn pc] (0, 0)] w')
   (fun _ v _ => pn - (intOf v).toNat) ?_ ?_
  ·exact ⟨0, [], none, 0, Nat.zero_le _, rfl, rfl, rfl, hh⟩
  ·clear hh
   rintro ρ' a_ v w' ⟨i, M, A, c, hi, rfl, hM, rfl, hh⟩
   have hMl : M.length ≤ i := by rw [hM]; exact Nat.le_trans (List.length_filterMap_le _ _) (by rw [List.length_take]; omega)
   by_cases hlt : i < pn
   ·obtain ⟨x, hx⟩ := aD (l := ts) (k := i) (by omega)
    obtain ⟨ad, rfl, hr⟩ := hp.at_ (by omega)
    have hxo := okp x (List.mem_of_getElem? hx)
    have hmx := Bool.and_eq_true_iff.1 (hmy x (List.mem_of_getElem? hx))
    have hxz : (x.m.size : Int) = pv := of_decide_eq_true hmx.2
    obtain ⟨e, he⟩ := aD (l := x.m.data.toList) (k := j) (by rw [← cw]; omega)
    have he8 : e.toNat < 256 := e.toNat_lt
    have hbl : j < x.m.data.toList.length := (List.getElem?_eq_some_iff.1 he).1
    have hdt : rS j x = if e.toNat = 0 then none else some ⟨str (x.m.data.toList.set j (e - 1)), nR (x.c.d * ((e.toNat : Int) : Dyadic))⟩ := by unfold rS; rw [he]
    have hsn := xb (i := j) hx
    rw [← hM] at hsn
    refine sr ?_
    refine aU (ae (ah (cT (aj (ai (ah (al (sr ?_))))))))
    refine aR (k := i) aF.out aC.size rfl rfl (by omega) (by omega) (by decide) ?_
    refine bQ (vs := [_, _, _, _]) aC.out rfl ((hr.ext hh.below).recAt TR.len hx) rfl (by decide) ?_
    refine cv hh ?_
    intro b9 w9 hh
    refine bE hh 0 [_,_,_,_] ?_
    intro ws hh
    replace hh : Hp _ (.blk _ _ [_, _, _, _] _ :: _) _ := hh
    refine ae (sr (bC ?_))
    refine bH hh 0 ?_
    refine rW hh aF.out aF.out aF.out rfl (by decide) ?_
    intro g28 c28 x28 w28 hh
    have hcl : (je x.m.data.toList ++ x28)[j]? = some (.int .u8 (e.toNat : Int)) := by rw [List.getElem?_append_left (by rw [gH]; exact hbl)]; unfold je; rw [List.getElem?_map, he]; rfl
    generalize (((je x.m.data.toList ++ x28).length, (je x.m.data.toList ++ x28).length + 1) : Nat × Nat) = fz at hh
    by_cases he0 : e.toNat = 0
    ·rw [hdt, if_pos he0] at hsn
     refine aL (ae (ah (sr (mL (mI ?_)))))
     refine bp (k := j) aF.out aC.size rfl rfl (by omega) (by omega) (by decide) ?_
     refine bh aC.out rfl (hh.dY (i := 0) rfl (by first | assumption | (simp only [Nat.mul_one]; assumption))) (by decide) ?_
     refine ck (ae (cT ?_))
     refine aP ?_
     refine ay (a6 (ai (aq ?_)))
     refine bL (mI (aE (ai ?_)))
     replace hh := hh.sub (List.Sublist.cons _ (List.Sublist.cons _ (List.Sublist.cons_cons _ (List.Sublist.cons_cons _ (List.Sublist.cons_cons _ List.Sublist.slnil)))))
     refine ⟨⟨i + 1, M, A, c, by omega, rfl, by rw [hsn]; simp, rfl, hh⟩, by show pn - (i + 1) < pn - i; omega, ?_⟩
     (repeat (first | exact aw _ _ _ | refine ax rfl ?_ | refine ar rfl ?_))
    ·rw [hdt, if_neg he0] at hsn
     refine aL (ae (ah (sr (mL (mI ?_)))))
     refine bp (k := j) aF.out aC.size rfl rfl (by omega) (by omega) (by decide) ?_
     refine bh aC.out rfl (hh.dY (i := 0) rfl (by first | assumption | (simp only [Nat.mul_one]; assumption))) (by decide) ?_
     refine ck (ae (cF (aj (ai (sr (mL (mI ?_)))))))
     refine bp (k := j) aF.out aC.size rfl rfl (by omega) (by omega) (by decide) ?_
     refine bh aC.out rfl (hh.dY (i := 0) rfl (by first | assumption | (simp only [Nat.mul_one]; assumption))) (by decide) ?_
     refine cP aF.out aF.out rfl (by omega) (by omega) (by decide) ?_
     refine aI (ae (sr (mL (mI ?_))))
     refine bp (k := j) aF.out aC.size rfl rfl (by omega) (by omega) (by decide) ?_
     refine bh aC.out rfl (hh.dY (i := 0) rfl (by first | assumption | (simp only [Nat.mul_one]; assumption))) (by decide) ?_
     refine rA (b := 1) rfl rfl (by omega) (by decide) ?_
     refine bp (k := j) aF.out aC.size rfl rfl (by omega) (by omega) (by decide) ?_
     refine nU hh (i := 0) (vs := [_]) rfl rfl (cb rfl) rfl aC.out rfl (by rw [List.length_append, gH]; omega) rfl ?_
     intro ws hh
     simp only [List.set_cons_zero] at hh
     rw [zH hbl he0] at hh
     have hbl2 : (x.m.data.toList.set j (e - 1)).length = x.m.size := by rw [List.length_set, ← cw]
     have zn : Sz 24 ((e.toNat : Int) : Dyadic) := z3 (m := (e.toNat : Int)) (e := 0) (by omega) (by decide) (by decide)
     have hdm := fun A cc w1 hT1 hS1 => gF A 2 cc [x.c, nR ((e.toNat : Int) : Dyadic)] w1 hT1 hS1 (by simpa using ⟨hxo.1, zn.ok (by decide)⟩) (k + 24) (by simpa [dX] using ⟨hxo.2.mono (by omega), zn.mono (by omega)⟩) (by omega) (by decide)
     rw [show g9 ([x.c, nR ((e.toNat : Int) : Dyadic)].map NR.d) = x.c.d * ((e.toNat : Int) : Dyadic) by show 1 * x.c.d * (nR _).d = _; rw [dX, Dyadic.one_mul]] at hdm
     refine ae ?_
     refine aX 11 [[(7, none)], [(10, none)], [(46, some 1)], [(9, none)], [(48, some 3)], [(11, none)], [(50, some 5)], [(49, some 4), (51, some 6)], [(52, some 7)], [(47, some 2), (53, some 8)], [(54, some 9)]] [(10, 55), (9, 54), (8, 53), (7, 52), (6, 51), (5, 50), (4, 49), (3, 48), (2, 47), (1, 46), (0, 45)] hh mixed (by kernel_rfl) ?_
     refine fN ?_
     refine fN ?_
     refine bj (i := 2) (Is (.string ⟨((x.m.data.toList.set j (e - 1))).toArray⟩)) Is.ext ?_ ?_
     ·intro ρ1 w1 hj hR
      exact bZ rfl (iX (l := (x.m.data.toList.set j (e - 1))) aF.out aF.out aF.out (show ρ1 46 = Value.slice _ _ _ from hR.1) (hj.hp.Ak (i := 0) rfl hbl2)) ⟨Below.refl _ _, rfl⟩
     refine cD ?_
     refine ef 1 [_,_,_] ?_
     refine eb ?_
     refine dC (fun _ hj => mK (e.toNat : Int) _ (hT.hp hj.hp) (by omega) (by omega)) ?_
     refine pD [_,_,_,_,_,_] ?_
     refine bj (i := 8) (Is (.agg #[.bool (nR (x.c.d * ((e.toNat : Int) : Dyadic))).neg, .string (nR (x.c.d * ((e.toNat : Int) : Dyadic))).bJ, .int .i64 (nR (x.c.d * ((e.toNat : Int) : Dyadic))).e])) Is.ext ?_ ?_
     ·intro ρ1 w1 hj hR
      obtain ⟨A52, c52, h52, s52⟩ := hR.1
      exact bW rfl (a3 av.out (aA h52 a9)) (hdm A52 c52 _ (hT.hp hj.hp) s52) (fun _ _ hq => ⟨_, hq.1, hq.2, rfl⟩)
     refine dB [_,_,_,_] ?_
     refine pD [_,_,_,_] ?_
     refine a0 ?_
     intro f W hJ hV
     have hb_12 := hJ.bl
     obtain ⟨v55, v54, v53, v52, v51, v50, v49, v48, v47, v46, v45, _⟩ := hV
     obtain ⟨A52, c52, e52, f52⟩ : Rows _ _ _ (f 7) W := v52
     obtain ⟨A55, c55, e55, f55⟩ : Rows _ _ _ (f 10) W := v55
     replace hh := hJ.hp
     refine aN (a4 (aa e55 (aa v54 (aa v53 (aa e52 (aa v51 (aa v50 (aa v49 (aa v48 (aa v47 (aa v46 (aa v45 aM)))))))))))) ?_
     dsimp only [ca]
     clear e52 e55 hJ
     refine bF hh (i := 2) rfl rfl rfl (f55) aF.out aC.out rfl (by decide) (by first | rfl | exact bU _ | exact bI _ | exact oneCells_i64s _ | exact bf NR.one _) (by omega) (by omega) (by decide) ?_
     intro A56 c56 w56 hh
     simp only [List.set_cons_zero, List.set_cons_succ] at hh
     refine aL (aE (aW (ai (aq ?_))))
     refine bL (mI (aE (ai ?_)))
     replace hh := hh.sub (List.Sublist.cons _ (List.Sublist.cons _ (List.Sublist.cons_cons _ (List.Sublist.cons_cons _ (List.Sublist.cons_cons _ List.Sublist.slnil)))))
     refine ⟨⟨i + 1, M ++ [⟨str (x.m.data.toList.set j (e - 1)), nR (x.c.d * ((e.toNat : Int) : Dyadic))⟩], A56, c56, by omega, rfl, by rw [hsn]; rfl, by rw [List.length_append]; rfl, by rw [List.length_append, bR, fB]; exact hh⟩, by show pn - (i + 1) < pn - i; omega, ?_⟩
     (repeat (first | exact aw _ _ _ | refine ax rfl ?_ | refine ar rfl ?_))
   ·obtain rfl : i = pn := by omega
    rw [List.take_of_length_le (by omega)] at hM
    have hmk : j2 pv M = 0 ∧ gi (k + 24) M ∧ ∀ t ∈ M, t.m.size ≤ 100000 := by
     rw [hM]
     exact zl hpe okp szp hk
    have hmc := fun A c w1 hT1 hS1 => j7 pv A M.length c M (k + 24) w1 hT1 hS1 (by omega) (by omega) hmk.2.1 hmk.2.2
    rw [hmk.1] at hmc
    refine sr ?_
    refine aU (ae (ah (cF ?_)))
    refine aP ?_
    refine ay (ay (a6 (ai (sr (bC ?_)))))
    refine bH hh 2 ?_
    refine mL ?_
    refine aV (hmc _ _ _ (hT.hp hh) (hh.aK (i := 0) rfl)) av.out rfl (by decide) ?_
    rintro e_ w61 ⟨g, og, rfl, h3⟩
    refine ⟨_, rfl, ?_⟩
    replace hh := hh.join h3
    simp only [List.cons_append, List.nil_append] at hh
    refine dp ?_
    refine dp ?_
    refine bE hh 2 [_,_] ?_
    intro ws hh
    replace hh : Hp _ (_ :: _ :: .blk _ _ [_, _] _ :: _) _ := hh
    refine aI (ae (ao ?_))
    refine gL (aG rfl (aH (vs := [_, _]) aC.out (hh.au (i := 2) (n := 2) rfl rfl) rfl) (bS (cf rfl) a7)) ?_
    rw [hM] at og
    exact ⟨g, og, rfl, hh.sub (List.Sublist.cons_cons _ (List.nil_sublist _))⟩
 ·generalize lr p which = e at *
  refine ak (N := 64) (l := [.agg #[.int .i64 p.v, .slice p.A p.n p.c], .int .i64 which]) Tryz.func22 rfl rfl (by simp) ?_
  refine sr ?_
  refine cK hh [_,_] ?_
  intro b2 w2 hh
  refine cv hh ?_
  intro b4 w4 hh
  refine aI (ae (ah (sr ?_)))
  refine dh hh 1 [_,_] (mI ?_)
  refine bG hh (hck _ (hT.hp hh) hh.below) rfl ?_
  intro w14 hh
  refine aI (ae (sr (mI ?_)))
  refine cE (ae (cT (sr ?_)))
  refine ep [_,_] (mI ?_)
  refine bE hh 0 [_,_] ?_
  intro ws hh
  replace hh : Hp _ (.blk _ _ [_, _] _ :: _) _ := hh
  refine aI (ae (ao (az ?_)))
  refine gL (aG rfl (aH (vs := [_, _]) aC.out (hh.au (i := 0) (n := 2) rfl rfl) rfl) (bS (cf rfl) a7)) ?_
  exact ⟨PX.nil, cC.err h0, rfl, (hh.sub (List.nil_sublist _)).fP⟩
end Go.Proofs.YtaapkaefelhfcaaGreatDoor
/- Where several endings of a loop meet: what holds there, once. Plain, no program in sight. -/
namespace Go.Proofs.YtaapkaefelhfcaaGreatDoor
open Go.RowKit
section
variable {ro : Mode} {P : Program} {N : Nat} {Q : Kq} {ρ : Rf} {w : World}
theorem yN {c : Code} {id : Nat} {next : Rf → World → Prop} (mods : List Nat) (s0 : Nat) (J : Value → World → Prop) (hc : WC ro P N c (m3 id (eo (fun ρ2 w2 => J (ρ2 s0) w2 ∧ g6 mods ρ2 ρ) Q)) ρ w)
  (hn : ∀ ρ' v0 w', J v0 w' → next (cL (mask mods ρ' ρ) s0 v0) w') : WC ro P N c (m3 id (eo next Q)) ρ w :=
 hc.mono fun e ρ2 w2 hq => by
  have key : J (ρ2 s0) w2 ∧ g6 mods ρ2 ρ → next ρ2 w2 := fun h => by
   have := hn ρ2 (ρ2 s0) w2 h.1
   rwa [iw h.2, iB] at this
  cases e with
  | normal => exact key hq
  | exit i =>
   by_cases h : i = id
   ·subst h
    simp only [m3, eo, if_true] at hq ⊢
    exact key hq
   ·simp only [m3, eo, if_neg h] at hq ⊢
    exact hq
  | _ => exact hq
theorem qx {a c : Code} (mods : List Nat) (J : World → Prop) (hc : WC ro P N a (eo (fun ρ2 w2 => J w2 ∧ g6 mods ρ2 ρ) Q) ρ w) (hn : ∀ ρ' w', J w' → WC ro P N c Q (mask mods ρ' ρ) w') : WC ro P N (.seq a c) Q ρ w :=
 ah (hc.mono fun e ρ2 w2 hq => by
  cases e with
  | normal =>
   have := hn ρ2 w2 hq.1
   rwa [iw hq.2] at this
  | _ => exact hq)
end
end Go.Proofs.YtaapkaefelhfcaaGreatDoor
/- The walk through calc.put. -/
namespace Go.Proofs.YtaapkaefelhfcaaGreatDoor
open Go.RowKit
theorem JJ.wm {w0 w W w1 : World} {H L : List HE} (hJ : JJ w0 H w W) (hs : Hp w0 H w) (hb : w.heap.size ≤ w1.heap.size) (hL : Hp w1 L W) : Hp w0 (L ++ H) W :=
 hs.join (⟨hJ.bl, fun x hx => kb (hL.own x hx) hb, hL.nd⟩ : Hp w L W)
def jG (base : Nat) (E v : Int) (ts : List TR) : VP := gM base E v ts
theorem jG.ext {base : Nat} {E v : Int} {ts : List TR} (x : Value) (w w' : World) (h : jG base E v ts x w) (hb : Below w.heap.size w w') : jG base E v ts x w' := gM.ext x w w' h hb
theorem nh (v : Int) : aT [⟨eZ v, nR 0⟩] = [] := by
 unfold aT gg kM
 rfl
theorem vh (lA : Option Addr) (lc K T c0 : Nat) (v : Int) (ls : List PX) (hv : gD v = true) (hlc : ls.length ≤ lc) (hl12 : ls.length ≤ 12) (hls : ∀ g ∈ ls, jS v K g.ts ∧ g.v = v ∧ g.jO K ∧ g.ts.length ≤ T) (hc0 : K + 4096 * T + 8192 ≤ c0) (hc1 : c0 ≤ 440000) :
  ∀ (qs : List PX) (j : Nat) (p : List TR) (A : Option Addr) (n c : Nat) (ds : List Nat) (k : Nat) (w : World), ls.drop j = qs → j ≤ ls.length → hG w → Sl w lA ls.length 2 (aQ PX.cells ls) → (∀ g ∈ ls, g.at_ w) → Sl w A n 4 (aQ TR.cells p) → n ≤ c → wV ls.length j p → gi k p → n ≤ 4096 → ds.length = qs.length → (∀ (i d : Nat), ds[i]? = some d → d ≤ 127 ∧ ∀ t ∈ p, kZ (j + i) t ≤ d) → hF c0 ds (k + 1) ≤ 440000 →
  Calls Tryz.prog 99 #[.slice A n c, .int .i64 j, .slice lA ls.length lc, .int .i64 v] w fun r w' => ∃ g : PX, cC (eV v (qs.map PX.ts) j p).1 v (eV v (qs.map PX.ts) j p).2 g ∧ r = .returned (.tuple #[.agg #[.int .i64 g.v, .slice g.A g.n g.c], .int .i64 (eV v (qs.map PX.ts) j p).1]) ∧ Hp w [g.row] w' := by
 intro qs
 have hK : K ≤ 440000 := by omega
 have hco : lB v = 0 := if_neg (by rw [hv]; decide)
 induction qs with
 | nil =>
  intro j p A n c ds k w hq hj hT hL hat hS hnc hsr hok hn hds hD hB
  have hh := Hp.start w
  have hln := hS.cg TR.len (by decide)
  obtain rfl : j = ls.length := by
   have := congrArg List.length hq
   rw [List.length_drop] at this
   simp only [List.length_nil] at this
   omega
  obtain rfl : ds = [] := List.length_eq_zero_iff.1 hds
  rw [jj] at hB
  have hcn := fun c hc w1 hT1 => mi v c k w1 hT1 hc (by omega)
  rw [hco] at hcn
  cases p with
  | nil =>
   obtain rfl : n = 0 := by simpa using hln.symm
   show Calls _ _ _ _ fun r w' => ∃ g : PX, cC 0 v (aT [⟨eZ v, nR 0⟩]) g ∧ r = .returned (.tuple #[.agg #[.int .i64 g.v, .slice g.A g.n g.c], .int .i64 0]) ∧ Hp w [g.row] w'
   refine ak (N := 118) (l := [.slice A 0 c, .int .i64 ls.length, .slice lA ls.length lc, .int .i64 v]) Tryz.func99 rfl rfl (by simp) ?_
   refine sr ?_
   refine cv hh ?_
   intro b8 w8 hh
   refine aI (ae (ah (sr (mI (mL (aO ?_))))))
   refine ck (ae (cT (ah (sr (mL (aO ?_))))))
   refine ck (ae (cT (sr (mI ?_))))
   refine ep [_,_,_] ?_
   refine aV (hcn (nR 0) ⟨(Sz.zero k).ok (by omega), by rw [dX]; exact Sz.zero k⟩ _ (hT.hp hh)) av.out rfl (by decide) ?_
   rintro e_ w25 ⟨g, og, rfl, h3⟩
   refine ⟨_, rfl, ?_⟩
   replace hh := hh.join h3
   simp only [List.cons_append, List.nil_append] at hh
   refine dp ?_
   refine dp ?_
   refine bE hh 1 [_,_] ?_
   intro ws hh
   replace hh : Hp _ (_ :: .blk _ _ [_, _] _ :: _) _ := hh
   refine aI (ae (ao (az (az ?_))))
   refine gL (aG rfl (aH (vs := [_, _]) aC.out (hh.au (i := 1) (n := 2) rfl rfl) rfl) (bS (cf rfl) a7)) ?_
   exact ⟨g, og, rfl, hh.sub (List.Sublist.cons_cons _ (List.nil_sublist _))⟩
  | cons t p =>
   have hn1 : p.length + 1 = n := by simpa using hln
   have ht := hok t List.mem_cons_self
   obtain ⟨ad, rfl, hr⟩ := hS.at_ (by omega)
   show Calls _ _ _ _ fun r w' => ∃ g : PX, cC 0 v (aT [⟨eZ v, t.c⟩]) g ∧ r = .returned (.tuple #[.agg #[.int .i64 g.v, .slice g.A g.n g.c], .int .i64 0]) ∧ Hp w [g.row] w'
   refine ak (N := 118) (l := [.slice (some ad) n c, .int .i64 ls.length, .slice lA ls.length lc, .int .i64 v]) Tryz.func99 rfl rfl (by simp) ?_
   refine sr ?_
   refine cv hh ?_
   intro b8 w8 hh
   refine aI (ae (ah (sr (mI (mL (aO ?_))))))
   refine ck (ae (cT (ah (sr (mL (aO ?_))))))
   refine ck (ae (cF (aj (ai (sr (mI (mL ?_)))))))
   refine aR (k := 0) aF.out aC.size rfl rfl (by omega) (by omega) (by decide) ?_
   refine bz dE.out rfl (by decide) ?_
   refine bQ (vs := [_, _, _]) aC.out rfl (((hr.ext hh.below).recAt TR.len (show (t :: p)[0]? = some t from rfl)).drop 1) rfl (by decide) ?_
   refine aV (hcn t.c ht _ (hT.hp hh)) av.out rfl (by decide) ?_
   rintro e_ w33 ⟨g, og, rfl, h3⟩
   refine ⟨_, rfl, ?_⟩
   replace hh := hh.join h3
   simp only [List.cons_append, List.nil_append] at hh
   refine dp ?_
   refine dp ?_
   refine bE hh 1 [_,_] ?_
   intro ws hh
   replace hh : Hp _ (_ :: .blk _ _ [_, _] _ :: _) _ := hh
   refine aI (ae (ao (az ?_)))
   refine gL (aG rfl (aH (vs := [_, _]) aC.out (hh.au (i := 1) (n := 2) rfl rfl) rfl) (bS (cf rfl) a7)) ?_
   exact ⟨g, og, rfl, hh.sub (List.Sublist.cons_cons _ (List.nil_sublist _))⟩
 | cons q qs ih =>
  intro j p A n c ds k w hq hj hT hL hat hS hnc hsr hok hn hds hD hB
  have hh := Hp.start w
  have hln := hS.cg TR.len (by decide)
  cases ds with
  | nil => cases hds
  | cons d ds =>
   have hd := hD 0 d rfl
   have hjl : j < ls.length := by
    rcases Nat.lt_or_ge j ls.length with h | h
    ·exact h
    ·rw [List.drop_of_length_le h] at hq; cases hq
   have hqj : ls[j]? = some q := by rw [← List.head?_drop, hq]; rfl
   have hqs : ls.drop (j + 1) = qs := by rw [← List.tail_drop, hq]; rfl
   obtain ⟨hqk, hqv, hql, hqT⟩ := hls q (List.mem_of_getElem? hqj)
   rw [iC] at hB
   have hB1 : hF c0 ds (k + 1) ≤ 440000 := by omega
   have hmono := hsr.mono (by omega)
   rw [List.map_cons]
   show Calls _ _ _ _ fun r w' => ∃ g : PX, cC (cx q.ts (eV v (qs.map PX.ts) (j + 1)) p j 128).1 v (cx q.ts (eV v (qs.map PX.ts) (j + 1)) p j 128).2 g ∧ r = .returned (.tuple #[.agg #[.int .i64 g.v, .slice g.A g.n g.c], .int .i64 (cx q.ts (eV v (qs.map PX.ts) (j + 1)) p j 128).1]) ∧ Hp w [g.row] w'
   have hDs : ∀ n (i e : Nat), ds[i]? = some e → e ≤ 127 ∧ ∀ t ∈ bK p j n, kZ (j + 1 + i) t ≤ e := fun n i e he => by
    have h2 := hD (i + 1) e (by simpa using he)
    refine ⟨h2.1, fun t ht => ?_⟩
    have h3 := h2.2 t (gC t ht)
    rwa [show j + 1 + i = j + (i + 1) by omega]
   have hrec : ∀ (m fr en : Nat) (w1 : World), hG w1 → Below w.heap.size w w1 → fr ≤ en → en ≤ n → bK p j m = (p.drop fr).take (en - fr) → Calls Tryz.prog 99 #[.slice (if c = fr then A else A.map (·.add (fr * 4))) (en - fr) (c - fr), .int .i64 ((j : Int) + 1), .slice lA ls.length lc, .int .i64 v] w1 fun r w' => ∃ g : PX, cC (eV v (qs.map PX.ts) (j + 1) (bK p j m)).1 v (eV v (qs.map PX.ts) (j + 1) (bK p j m)).2 g ∧ r = .returned (.tuple #[.agg #[.int .i64 g.v, .slice g.A g.n g.c], .int .i64 (eV v (qs.map PX.ts) (j + 1) (bK p j m)).1]) ∧ Hp w1 [g.row] w' := fun m fr en w1 hT1 hb h1 h2 hw => by
    have hcut := (hS.ext hb).cut h1 h2 hnc
    rw [fY TR.len, ix TR.len, ← hw] at hcut
    exact ih (j + 1) (bK p j m) _ (en - fr) (c - fr) ds k w1 hqs (by omega) hT1 (hL.ext hb) (fun g hg => (hat g hg).ext hb) hcut (by omega) (hsr.with (by omega)) (fun t ht => hok t (gC t ht)) (by omega) (by simpa using hds) (hDs m) hB1
   have hsub : ∀ m, (eV v (qs.map PX.ts) (j + 1) (bK p j m)).1 = 0 → jS v (hF c0 ds (k + 1)) (eV v (qs.map PX.ts) (j + 1) (bK p j m)).2 := fun m hm => by
    refine vt hv hc0 (qs.map PX.ts) (j + 1) (bK p j m) ds k (fun r hr => ?_) (fun t ht => hok t (gC t ht)) (by rw [List.length_map]; simpa using hds) (hDs m) (by omega) hm
    obtain ⟨g, hg, rfl⟩ := List.mem_map.1 hr
    have := hls g (List.mem_of_mem_drop (by rw [hqs]; exact hg))
    exact ⟨this.1, this.2.2.2⟩
   generalize eV v (qs.map PX.ts) (j + 1) = sub at hrec hsub ⊢
   have hlim := l6 (sub := sub) (p := p) (j := j) hv hqk hqT hd.2 hd.1 hsub hc0 (by omega)
   have hlim2 : ∀ i, i ≤ 128 → (cx q.ts sub p j i).1 = 0 → jS v 440000 (cx q.ts sub p j i).2 := fun i hi h0 => (hlim i hi h0).mono (by
    have : (i + d - 128) * c0 ≤ d * c0 := Nat.mul_le_mul_right _ (by omega)
    omega)
   have hcn := fun w1 hT1 => mi v (nR 0) 0 w1 hT1 ⟨(Sz.zero 0).ok (by decide), by rw [dX]; exact Sz.zero 0⟩ (by decide)
   rw [hco, nh] at hcn
   refine ak (N := 118) (l := [.slice A n c, .int .i64 j, .slice lA ls.length lc, .int .i64 v]) Tryz.func99 rfl rfl (by simp) ?_
   refine sr ?_
   refine cv hh ?_
   intro b8 w8 hh
   refine aI (ae (ah (sr (mI (mL (aO ?_))))))
   refine ck (ae (cF (aj (ai (sr (mI ?_))))))
   refine ep [_,_,_] ?_
   refine aV (hcn _ (hT.hp hh)) av.out rfl (by decide) ?_
   rintro e_ w39 ⟨g, og, rfl, h3⟩
   refine ⟨_, rfl, ?_⟩
   replace hh := hh.join h3
   simp only [List.cons_append, List.nil_append] at hh
   refine mT ?_
   refine dp ?_
   refine dp ?_
   refine cv hh ?_
   intro b10 w10 hh
   refine bE hh 0 [_,_] ?_
   intro ws hh
   replace hh : Hp _ (.blk _ _ [_, _] _ :: _) _ := hh
   refine aI (ae (sr (mL (aO (aI (ae (ah (sr (aI (ae (al ?_)))))))))))
   refine tr [11, 12, 13, 14, 15, 44, 45, 46, 47, 48, 49, 50, 51, 52, 53, 54, 55, 56, 57, 58, 59, 60, 61, 62, 63, 64, 65, 66, 67, 68, 69, 70, 71, 72, 73, 74, 75, 76, 77, 78, 79, 80, 81, 82, 83, 84, 85, 86, 87, 88, 89, 90, 91, 92, 93, 94, 95, 96, 97, 98, 99, 100, 101, 102, 103, 104, 105, 106, 107, 108, 109, 110, 111, 112] 11 12 13
    (fun e en nv w' => ∃ (i en_ : Nat) (e_ ov : Int) (oA : Option Addr) (on oc : Nat) (os : List TR), i ≤ 128 ∧ nv = .int .i64 (127 - (i : Int)) ∧ en = .int .i64 en_ ∧ e = .int .i64 e_ ∧ e_ = (cx q.ts sub p j i).1 ∧ en_ ≤ n ∧ (e_ = 0 → ov = v ∧ os = (cx q.ts sub p j i).2 ∧ (∀ t ∈ p.take en_, kZ j t < 128 - i) ∧ (∀ t ∈ p.drop en_, 128 - i ≤ kZ j t)) ∧ Hp w [.blk b10 24 [.int .i64 ov, .slice oA on oc] (0, 0), .row oA on oc 55 4 (aQ TR.cells os), .blk b8 24 [.int .i64 0, .slice none 0 0] (0, 0)] w')
    (fun _ _ nv _ => (intOf nv + 1).toNat) ?_ ?_
   ·refine ⟨0, n, 0, g.v, g.A, g.n, g.c, g.ts, Nat.zero_le _, rfl, rfl, rfl, rfl, Nat.le_refl _, fun _ => ⟨og.v, og.ts, fun t ht => ?_, fun t ht => ?_⟩, hh⟩
    ·obtain ⟨x, _, hx, h8⟩ := hsr.get (by omega) (List.mem_of_mem_take ht)
     rw [hx]
     exact h8
    ·rw [List.drop_of_length_le (by omega)] at ht
     cases ht
   ·clear hh og h3
    rintro ρ' e_ en_ nv_ w' ⟨i, en, e, ov, oA, on, oc, os, hi, rfl, rfl, rfl, he, hen, hok0, hh⟩
    by_cases hcn : i < 128 ∧ e = 0
    ·obtain ⟨hi8, rfl⟩ := hcn
     obtain ⟨rfl, rfl, hlo, hhi⟩ := hok0 rfl
     clear hok0
     obtain ⟨m, hm⟩ : ∃ m, m = 127 - i := ⟨_, rfl⟩
     rw [show (127 - (i : Int)) = (m : Int) by omega]
     refine ah (sr (mI ?_))
     refine dn (mB ?_)
     first | refine gS ?_ | (refine gT ?_; refine mI ?_) | refine gV ?_
     first | refine gS ?_ | (refine gT ?_; refine ck ?_) | refine gV ?_
     first | refine cR ?_ | refine cQ ?_
     refine ae (cT (aj (ai (ah (al (sr (mI (aI (ae (ah (al ?_)))))))))))
     refine yN [14, 53, 54, 55, 56, 57, 58, 59, 60, 61, 62, 63, 64, 65, 66, 67, 68, 69] 14
      (fun f w' => ∃ fr : Nat, fr ≤ en ∧ f = .int .i64 fr ∧ bK p j m = (p.drop fr).take (en - fr) ∧ (∀ t ∈ p.take fr, kZ j t < m) ∧ Hp w [.blk b10 24 [.int .i64 ov, .slice oA on oc] (0, 0), .row oA on oc 55 4 (aQ TR.cells (cx q.ts sub p j i).2), .blk b8 24 [.int .i64 0, .slice none 0 0] (0, 0)] w') ?_ ?_
     ·refine bs [14, 53, 54, 55, 56, 57, 58, 59, 60, 61, 62, 63, 64, 65, 66, 67, 68, 69] 14
       (fun f w' => ∃ fr : Nat, fr ≤ en ∧ f = .int .i64 fr ∧ (∀ t ∈ (p.drop fr).take (en - fr), kZ j t = m) ∧ Hp w [.blk b10 24 [.int .i64 ov, .slice oA on oc] (0, 0), .row oA on oc 55 4 (aQ TR.cells (cx q.ts sub p j i).2), .blk b8 24 [.int .i64 0, .slice none 0 0] (0, 0)] w')
       (fun f _ => (intOf f).toNat) ?_ ?_
      ·exact ⟨en, Nat.le_refl _, rfl, (fun t ht => by rw [Nat.sub_self] at ht; cases ht), hh⟩
      ·clear hh
       rintro ρ' f w' ⟨fr, hfr, rfl, hmid, hh⟩
       by_cases h0 : 0 < fr
       ·obtain ⟨fr, rfl⟩ : ∃ g, fr = g + 1 := ⟨fr - 1, by omega⟩
        obtain ⟨x, hx⟩ := aD (l := p) (k := fr) (by omega)
        obtain ⟨ad, rfl, hr⟩ := hS.at_ (by omega)
        obtain ⟨e, hex, hxe, h8⟩ := hsr.get (by omega) (List.mem_of_getElem? hx)
        by_cases hem : e.toNat = m
        ·refine ah (sr (mI ?_))
         refine bY (mB ?_)
         first | refine gS ?_ | (refine gT ?_; refine mL ?_) | refine gV ?_
         first | refine gS ?_ | (refine gT ?_; refine mI ?_) | refine gV ?_
         first | refine gS ?_ | (refine gT ?_; refine eB ?_) | refine gV ?_
         first | refine gS ?_ | (refine gT ?_; refine aR (k := fr) aF.out aC.size rfl rfl (by omega) (by omega) (by decide) ?_) | refine gV ?_
         first | refine gS ?_ | (refine gT ?_; refine bz dE.out rfl (by decide) ?_) | refine gV ?_
         refine bu rfl rfl ?_
         refine bh aC.out rfl (((hr.ext hh.below).recAt TR.len hx).cell (i := 0) rfl) (by decide) ?_
         first | refine gS ?_ | (refine gT ?_; refine mI ?_) | refine gV ?_
         first | refine gS ?_ | (refine gT ?_; refine bo aF.out rfl rfl (by omega) (by assumption) (by decide) ?_) | refine gV ?_
         first | refine gS ?_ | (refine gT ?_; refine cP aF.out aF.out rfl (by omega) (by omega) (by decide) ?_) | refine gV ?_
         first | refine gS ?_ | (refine gT ?_; refine mI ?_) | refine gV ?_
         first | refine gS ?_ | (refine gT ?_; refine ck ?_) | refine gV ?_
         first | refine cR ?_ | refine cQ ?_
         refine ae (cT (aj (ai (al (aq (mI ?_))))))
         refine eB (aI (aE (aW (ai ?_))))
         refine ⟨⟨fr, by omega, by show Value.int .i64 (((fr + 1 : Nat) : Int) - 1) = _; congr 1; omega, fun t ht => ?_, hh⟩, by show (((fr + 1 : Nat) : Int) - 1).toNat < ((fr + 1 : Nat) : Int).toNat; omega, ?_⟩
         ·rw [iT hx, show en - fr = (en - (fr + 1)) + 1 by omega, List.take_succ_cons] at ht
          rcases List.mem_cons.1 ht with rfl | ht
          ·rw [hxe, hem]
          ·exact hmid t ht
         ·(repeat (first | exact aw _ _ _ | refine ax rfl ?_ | refine ar rfl ?_))
        ·have hlt : e.toNat < m := by
          have := hlo x (by rw [show en = (fr + 1) + (en - (fr + 1)) by omega, List.take_add]; exact List.mem_append_left _ (by rw [aJ hx]; exact List.mem_append_right _ List.mem_cons_self))
          omega
         have hall := xD hmono hx (n := m) (by rw [hxe]; exact hlt)
         refine ah (sr (mI ?_))
         refine bY (mB ?_)
         first | refine gS ?_ | (refine gT ?_; refine mL ?_) | refine gV ?_
         first | refine gS ?_ | (refine gT ?_; refine mI ?_) | refine gV ?_
         first | refine gS ?_ | (refine gT ?_; refine eB ?_) | refine gV ?_
         first | refine gS ?_ | (refine gT ?_; refine aR (k := fr) aF.out aC.size rfl rfl (by omega) (by omega) (by decide) ?_) | refine gV ?_
         first | refine gS ?_ | (refine gT ?_; refine bz dE.out rfl (by decide) ?_) | refine gV ?_
         refine bu rfl rfl ?_
         refine bh aC.out rfl (((hr.ext hh.below).recAt TR.len hx).cell (i := 0) rfl) (by decide) ?_
         first | refine gS ?_ | (refine gT ?_; refine mI ?_) | refine gV ?_
         first | refine gS ?_ | (refine gT ?_; refine bo aF.out rfl rfl (by omega) (by assumption) (by decide) ?_) | refine gV ?_
         first | refine gS ?_ | (refine gT ?_; refine cP aF.out aF.out rfl (by omega) (by omega) (by decide) ?_) | refine gV ?_
         first | refine gS ?_ | (refine gT ?_; refine mI ?_) | refine gV ?_
         first | refine gS ?_ | (refine gT ?_; refine ck ?_) | refine gV ?_
         first | refine cR ?_ | refine cQ ?_
         refine ae (cF ?_)
         refine aP ?_
         refine ay (ay (a6 (ai ?_)))
         refine ⟨⟨fr + 1, hfr, rfl, tx hfr hall hmid (fun t ht => by have := hhi t ht; omega), hall, hh⟩, ?_⟩
         (repeat (first | exact aw _ _ _ | refine ax rfl ?_ | refine ar rfl ?_))
       ·obtain rfl : fr = 0 := by omega
        refine ah (sr (mI ?_))
        refine bY (mB ?_)
        first | refine gS ?_ | (refine gT ?_; refine mL ?_) | refine gV ?_
        first | refine gS ?_ | (refine gT ?_; refine mI ?_) | refine gV ?_
        first | refine gS ?_ | (refine gT ?_; refine eB ?_) | refine gV ?_
        first | refine gS ?_ | (refine gT ?_; refine cJ aF.out aC.size rfl rfl (by omega) (by omega) (by decide) ?_) | refine gV ?_
        first | refine gS ?_ | (refine gT ?_; refine bz dE.out rfl (by decide) ?_) | refine gV ?_
        first | (refine cm (by decide) rfl rfl (by decide) ?_) | (refine gj (by decide) rfl rfl ?_)
        first | refine gS ?_ | (refine gT ?_; refine mI ?_) | refine gV ?_
        first | refine gS ?_ | (refine gT ?_; refine bo aF.out rfl rfl (by omega) (by assumption) (by decide) ?_) | refine gV ?_
        first | refine gS ?_ | (refine gT ?_; refine cP aF.out aF.out rfl (by omega) (by omega) (by decide) ?_) | refine gV ?_
        first | refine gS ?_ | (refine gT ?_; refine mI ?_) | refine gV ?_
        first | refine gS ?_ | (refine gT ?_; refine ck ?_) | refine gV ?_
        first | refine cR ?_ | refine cQ ?_
        refine ae (cF ?_)
        refine aP ?_
        refine ay (ay (a6 (ai ?_)))
        refine ⟨⟨0, hfr, rfl, tx hfr (fun t ht => by cases ht) hmid (fun t ht => by have := hhi t ht; omega), (fun t ht => by cases ht), hh⟩, ?_⟩
        (repeat (first | exact aw _ _ _ | refine ax rfl ?_ | refine ar rfl ?_))
     ·skip
      clear hh
      rintro ρ' f w' ⟨fr, hfr, rfl, hwi, hbl, hh⟩
      have hnx : cx q.ts sub p j (i + 1) = fw q.ts sub p j m (cx q.ts sub p j i) := by rw [lu, hm]
      have hop := hlim2 i (by omega) he.symm
      unfold fw at hnx
      rw [if_neg (by rw [← he]; decide)] at hnx
      have hmi : m = 128 - (i + 1) := by omega
      have hmi2 : (127 - ((i + 1 : Nat) : Int)) = (m : Int) - 1 := by omega
      have hdf : ∀ t ∈ p.drop fr, m ≤ kZ j t := fun t ht => by
       rw [yc hfr] at ht
       rcases List.mem_append.1 ht with ht | ht
       ·rw [← hwi] at ht
        have := of_decide_eq_true (List.mem_filter.1 ht).2
        omega
       ·have := hhi t ht
        omega
      have hst : (cx q.ts sub p j i) = (0, (cx q.ts sub p j i).2) := by rw [he]
      generalize (cx q.ts sub p j i).2 = os at *
      have hoc : on ≤ oc := hh.g7 (i := 1) rfl
      have hon : os.length = on := (hh.aK (i := 1) rfl).cg TR.len (by decide)
      have hwl : (bK p j m).length = en - fr := by rw [hwi, List.length_take, List.length_drop]; omega
      by_cases hsk : os.length = 0 ∧ (bK p j m).length = 0
      ·rw [if_pos hsk] at hnx
       obtain ⟨h1, h2⟩ := hsk
       obtain rfl : on = 0 := by omega
       obtain rfl : fr = en := by omega
       refine ah (sr (bC ?_))
       refine bH hh 0 ?_
       refine aO ?_
       refine ck (mB ?_)
       first | refine gS ?_ | (refine gT ?_; refine mI ?_) | refine gV ?_
       first | refine gS ?_ | (refine gT ?_; refine mI ?_) | refine gV ?_
       first | refine gS ?_ | (refine gT ?_; refine ck ?_) | refine gV ?_
       first | refine cR ?_ | refine cQ ?_
       refine ae (cT ?_)
       refine aP ?_
       refine ay (a6 (ai (aq (mI ?_))))
       refine eB (aI (aE (ai ?_)))
       refine ⟨⟨i + 1, fr, 0, ov, oA, 0, oc, os, by omega, by rw [hmi2]; rfl, rfl, rfl, by rw [hnx]; exact he, hen, fun _ => ⟨rfl, by rw [hnx, hst], fun t ht => by rw [← hmi]; exact hbl t ht, fun t ht => by rw [← hmi]; exact hdf t ht⟩, hh⟩, by show ((m : Int) - 1 + 1).toNat < ((m : Int) + 1).toNat; omega, ?_⟩
       (repeat (first | exact aw _ _ _ | refine ax rfl ?_ | refine ar rfl ?_))
      ·rw [if_neg hsk] at hnx
       refine qx [70, 71, 72, 73, 74, 75, 76, 77, 78]
        (fun w' => Hp w [.blk b10 24 [.int .i64 ov, .slice oA on oc] (0, 0), .row oA on oc 55 4 (aQ TR.cells os), .blk b8 24 [.int .i64 0, .slice none 0 0] (0, 0)] w') ?_ ?_
       ·by_cases h0 : on = 0
        ·subst h0
         have hne : fr ≠ en := fun h => hsk ⟨hon, by omega⟩
         refine sr (bC ?_)
         refine bH hh 0 ?_
         refine aO ?_
         refine ck (mB ?_)
         first | refine gS ?_ | (refine gT ?_; refine mI ?_) | refine gV ?_
         first | refine gS ?_ | (refine gT ?_; refine mI ?_) | refine gV ?_
         first | refine gS ?_ | (refine gT ?_; refine ck ?_) | refine gV ?_
         first | refine cR ?_ | refine cQ ?_
         refine ae (cF (aj (ai ?_)))
         refine ⟨hh, ?_⟩
         (repeat (first | exact aw _ _ _ | refine ax rfl ?_ | refine ar rfl ?_))
         exact fun _ _ => rfl
        ·refine sr (bC ?_)
         refine bH hh 0 ?_
         refine aO ?_
         refine ck (mB ?_)
         first | refine gS ?_ | (refine gT ?_; refine mI ?_) | refine gV ?_
         first | refine gS ?_ | (refine gT ?_; refine mI ?_) | refine gV ?_
         first | refine gS ?_ | (refine gT ?_; refine ck ?_) | refine gV ?_
         first | refine cR ?_ | refine cQ ?_
         refine ae (cF (aj (ai ?_)))
         refine ⟨hh, ?_⟩
         (repeat (first | exact aw _ _ _ | refine ax rfl ?_ | refine ar rfl ?_))
         exact fun _ _ => rfl
       ·skip
        clear hh
        rintro ρ' w' hh
        obtain ⟨lad, rfl, hlr⟩ := hL.at_ (by omega)
        have hlp : er [⟨ov, oA, on, oc, os⟩, q] = 0 := oP hop.e (by unfold PX.e; rw [hqv]; exact hqk.e) hqv
        have hmu : ∀ (A2 : Option Addr) (w1 : World), hG w1 → Sl w1 A2 2 2 (aQ PX.cells [⟨ov, oA, on, oc, os⟩, q]) → Sl w1 oA on 4 (aQ TR.cells os) → Below w.heap.size w w1 → Calls Tryz.prog 31 #[.slice A2 2 2] w1 fun r w' => ∃ g : PX, cC (ee os q.ts) ov (aT (cd os q.ts)) g ∧ r = .returned (.tuple #[.agg #[.int .i64 g.v, .slice g.A g.n g.c], .int .i64 (ee os q.ts)]) ∧ Hp w1 [g.row] w' := fun A2 w1 hT1 s1 s2 hb => by
         have h1 := sY A2 2 2 [⟨ov, oA, on, oc, os⟩, q] 440000 505536 w1 hT1 s1 (by decide) (by decide) (fun g hg => by
          rcases List.mem_cons.1 hg with rfl | hg
          ·exact s2
          ·rw [List.mem_singleton.1 hg]; exact (hat q (List.mem_of_getElem? hqj)).ext hb) (fun g hg => by
          rcases List.mem_cons.1 hg with rfl | hg
          ·exact ⟨by have := hop.len; show on ≤ 1000000; omega, hoc, hop.ok, hop.sz⟩
          ·rw [List.mem_singleton.1 hg]; exact ⟨hql.n, hql.cap, hql.ok.mono hK, hql.sz⟩) (by decide) (by decide)
         unfold vv at h1
         rw [if_pos hlp] at h1
         exact h1
        refine sr ?_
        refine cv hh ?_
        intro b15 w15 hh
        refine ae (ah (ah ?_))
        refine cq [] [9] [0, 0, 0, 6, 14, 31, 63, 127, 255, 255, 511, 2047] 10 [[(10, none)], [(2, none)], [(1, none)], [(81, some 1), (82, some 2)], [(83, some 3)], [(80, some 0), (84, some 4)], [(85, some 5)], [(86, some 6)], [(79, some 7)], [(79, some 7)]] [(9, 88), (8, 87), (7, 79), (6, 86), (5, 85), (4, 84), (3, 83), (2, 82), (1, 81), (0, 80)] hh mixed (by kernel_rfl) cG rfl (by repeat (first | exact bX | refine bA ?_ | refine bV ?_)) ?_
        refine ef 1 [_,_] ?_
        refine fN ?_
        refine eb ?_
        refine iA (j) ?_
        refine rh [_,_] (fun _ hj => (hlr.ext hj.hp.below).recAt PX.len hqj) ?_
        refine bj (i := 5) (eM 2 2 (aQ PX.cells [⟨ov, oA, on, oc, os⟩, q])) (eM.ext) ?_ ?_
        ·intro ρ1 w1 hj hR
         exact fH (sz := 2) aF.out aC.out (show pE ρ1 [(0, .tmp 80), (1, .tmp 84)] = [(0, .agg #[.int .i64 ov, .slice oA on oc]), (1, .agg #[.int .i64 q.v, .slice q.A q.n q.c])] from bm (show ρ1 80 = _ from hR.1) (bm (show ρ1 84 = _ from hR.2.1) cn)) rfl rfl (by decide) (by decide) rfl fun v w2 h hb => ⟨hb, h⟩
        refine bj (i := 6) (fE hh.sz (ee os q.ts) ov (aT (cd os q.ts))) (fE.ext) ?_ ?_
        ·intro ρ1 w1 hj hR
         exact let ⟨b, e1, s1⟩ := hR.1; bW rfl (a3 av.out (aA e1 a9)) (hmu _ w1 (hT.hp hj.hp) s1 (hj.hp.aK (i := 2) rfl) hj.hp.below) (fun _ _ ⟨g, og, hq, h3⟩ => ⟨_, hq, h3.below, g, w1, rfl, og, hj.bl.size, h3⟩)
        refine bj (i := 7) (fE hh.sz (ee os q.ts) ov (aT (cd os q.ts))) (fE.ext) ?_ ?_
        ·intro ρ1 w1 hj hR
         exact let ⟨g, u, e1, e2⟩ := hR.1; bZ rfl (dg e1) ⟨Below.refl _ _, g, u, rfl, e2⟩
        refine bj (i := 8) (jG hh.sz (ee os q.ts) ov (aT (cd os q.ts))) (jG.ext) ?_ ?_
        ·intro ρ1 w1 hj hR
         exact let ⟨g, u, e1, e2⟩ := hR.1; bZ rfl (cX (vs := [_, _]) e1 rfl) ⟨Below.refl _ _, g, u, rfl, e2⟩
        refine bj (i := 9) (Is (.int .i64 (ee os q.ts))) (Is.ext) ?_ ?_
        ·intro ρ1 w1 hj hR
         exact let ⟨g, u, e1, e2⟩ := hR.1; bZ rfl (cX (vs := [_, _]) e1 rfl) ⟨Below.refl _ _, rfl⟩
        refine a0 ?_
        intro f W hJ hV _
        have hb_15 := hJ.bl
        obtain ⟨v88, v87, v79, v86, v85, v84, v83, v82, v81, v80, _⟩ := hV
        obtain ⟨g85, e85, o85⟩ : eM 2 2 (aQ PX.cells [⟨ov, oA, on, oc, os⟩, q]) (f 5) W := v85
        obtain ⟨g86, u86, e86, -⟩ := v86
        obtain ⟨g79, u79, e79, -⟩ := v79
        obtain ⟨g87, u87, e87, o87, q87, h87⟩ := v87
        replace hh := JJ.wm hJ hh q87 h87
        refine aN (a4 (aa v88 (aa e87 (aa e79 (aa e86 (aa e85 (aa v84 (aa v83 (aa v82 (aa v81 (aa v80 aM))))))))))) ?_
        dsimp only [ca]
        clear e85 e86 e79 e87 hJ
        simp only [List.cons_append, List.nil_append] at hh
        obtain ⟨gv, gA, gn, gc, gts⟩ := g87
        replace hh := show Hp w (.row gA gn gc 55 4 (aQ TR.cells gts) :: _) W from hh
        by_cases hte : ee os q.ts = 0
        ·rw [if_neg (by rw [hte]; decide)] at hnx
         rw [hte] at o87
         obtain rfl : ov = gv := o87.v.symm
         obtain rfl : aT (cd os q.ts) = gts := o87.ts.symm
         have hgc : gn ≤ gc := hh.g7 (i := 0) rfl
         have hgl : (aT (cd os q.ts)).length = gn := (hh.aK (i := 0) rfl).cg TR.len (by decide)
         have hgo := rC hop hqk hqT hte (by omega)
         refine bE hh 2 [_,_] ?_
         intro ws hh
         replace hh : Hp _ (_ :: _ :: .blk _ _ [_, _] _ :: _) _ := hh
         refine aI (ae (sr (mI ?_)))
         refine ck (ae (cT (aq (mL (mI (mI ?_))))))
         dsimp only at hh
         refine a8 rfl rfl (by decide) (gG (lo := some (.tmp 93)) (hi := some (.tmp 94)) (l := fr) (h := en) aF.out aC.size rfl ⟨_, _, rfl, rfl⟩ ⟨_, _, rfl, rfl⟩ hfr (by omega)) ?_
         refine mI ?_
         refine bL (mL (mI ?_))
         refine aV (hrec m fr en _ (hT.hp hh) hh.below hfr hen hwi) av.out rfl (by decide) ?_
         rintro e_ w100 ⟨g2, og2, rfl, h4⟩
         refine ⟨_, rfl, ?_⟩
         replace hh := hh.join h4
         simp only [List.cons_append, List.nil_append] at hh
         have hs2 := hsub m
         obtain ⟨hv2, hA2, hn2, hc2, ht2⟩ := g2
         replace hh := show Hp w (.row hA2 hn2 hc2 55 4 (aQ TR.cells ht2) :: _) _ from hh
         by_cases hE2 : (sub (bK p j m)).1 = 0
         ·rw [if_neg (by rw [hE2]; decide)] at hnx
          rw [hE2] at og2
          obtain rfl : ov = hv2 := og2.v.symm
          obtain rfl : (sub (bK p j m)).2 = ht2 := og2.ts.symm
          have ho2 := hs2 hE2
          have hc2c : hn2 ≤ hc2 := hh.g7 (i := 0) rfl
          have hl2 : ((sub (bK p j m)).2).length = hn2 := (hh.aK (i := 0) rfl).cg TR.len (by decide)
          generalize (sub (bK p j m)).2 = us at *
          refine mT ?_
          refine dp ?_
          refine dp ?_
          refine bE hh 2 [_,_] ?_
          intro ws hh
          replace hh : Hp _ (_ :: _ :: .blk _ _ [_, _] _ :: _) _ := hh
          refine aI (ae (ah (sr (mI ?_))))
          refine ck (ae (cT (aq ?_)))
          refine dh hh 3 [_,_] ?_
          refine dh hh 2 [_,_] ?_
          refine bB hh (cs := [_, _, _, _]) aF.out aC.out (bm (dM rfl) (bm (dM rfl) cn)) rfl rfl (by decide) (by decide) (by decide) rfl (by decide) ?_
          intro b108 w108 hh
          dsimp only at hh
          have hlp2 : er [⟨ov, gA, gn, gc, aT (cd os q.ts)⟩, ⟨ov, hA2, hn2, hc2, us⟩] = 0 := oP hgo.e ho2.e rfl
          have had := uh (some ⟨b108, 0, none⟩) 2 2 [⟨ov, gA, gn, gc, aT (cd os q.ts)⟩, ⟨ov, hA2, hn2, hc2, us⟩] 2000000 _ (hT.hp hh) (hh.aK (i := 0) rfl) (by decide) (fun g hg => by
           rcases List.mem_cons.1 hg with rfl | hg
           ·exact hh.aK (i := 2) rfl
           ·rw [List.mem_singleton.1 hg]; exact hh.aK (i := 1) rfl) (fun g hg => by
           rcases List.mem_cons.1 hg with rfl | hg
           ·exact ⟨by have := hgo.len; show gn ≤ 1000000; omega, hgc, hgo.ok.mono (by omega), hgo.sz⟩
           ·rw [List.mem_singleton.1 hg]; exact ⟨by have := ho2.len; show hn2 ≤ 1000000; omega, hc2c, ho2.ok.mono (by omega), ho2.sz⟩) (by decide)
          unfold sS at had
          rw [if_pos hlp2, Bb] at had
          dsimp only at had
          refine aV (had) av.out rfl (by decide) ?_
          rintro e_ w109 ⟨g3, og3, rfl, h5⟩
          refine ⟨_, rfl, ?_⟩
          replace hh := hh.join h5
          simp only [List.cons_append, List.nil_append] at hh
          obtain ⟨hv3, hA3, hn3, hc3, ht3⟩ := g3
          replace hh := show Hp w (.row hA3 hn3 hc3 55 4 (aQ TR.cells ht3) :: _) _ from hh
          refine mT ?_
          refine dp ?_
          refine dp ?_
          refine bE hh 5 [_,_] ?_
          intro ws hh
          replace hh : Hp _ (_ :: _ :: _ :: _ :: _ :: .blk _ _ [_, _] _ :: _) _ := hh
          refine aI (ae (aq (mI (aI (aE (aW (ai (aq (mI ?_)))))))))
          refine eB (aI (aE (ai ?_)))
          replace hh := hh.sub (List.Sublist.cons_cons _ (List.Sublist.cons _ (List.Sublist.cons _ (List.Sublist.cons _ (List.Sublist.cons _ (List.Sublist.cons_cons _ (List.Sublist.cons _ (List.Sublist.cons_cons _ List.Sublist.slnil))))))))
          replace hh := hh.perm (List.perm_middle (l₁ := [_]))
          simp only [List.cons_append, List.nil_append] at hh
          try dsimp only at hh
          refine ⟨⟨i + 1, fr, eW (aT (cd os q.ts) ++ us), hv3, hA3, hn3, hc3, ht3, by omega, by rw [hmi2]; rfl, rfl, rfl, ?_, by omega, fun h => ⟨?_, ?_, fun t ht => by rw [← hmi]; exact hbl t ht, fun t ht => by rw [← hmi]; exact hdf t ht⟩, hh⟩, by show ((m : Int) - 1 + 1).toNat < ((m : Int) + 1).toNat; omega, ?_⟩
          ·rw [hnx]
           by_cases hg : eW (aT (cd os q.ts) ++ us) ≠ 0
           ·rw [if_pos hg]
           ·rw [if_neg hg]; omega
          ·have := og3.v
           rw [if_pos h] at this
           exact this
          ·rw [hnx, if_neg (by rw [h]; decide)]
           have := og3.ts
           rw [if_pos h] at this
           exact this
          ·(repeat (first | exact aw _ _ _ | refine ax rfl ?_ | refine ar rfl ?_))
         ·rw [if_pos hE2] at hnx
          refine mT ?_
          refine dp ?_
          refine dp ?_
          refine bE hh 2 [_,_] ?_
          intro ws hh
          replace hh : Hp _ (_ :: _ :: .blk _ _ [_, _] _ :: _) _ := hh
          refine aI (ae (ah (sr (mI ?_))))
          refine ck (ae (cF (aj (ai (aq (mI (aI (aE (aW (ai (aq ?_)))))))))))
          refine mI ?_
          refine eB (aI (aE (ai ?_)))
          replace hh := hh.sub (List.Sublist.cons _ (List.Sublist.cons_cons _ (List.Sublist.cons _ (List.Sublist.cons_cons _ (List.Sublist.cons _ (List.Sublist.cons_cons _ List.Sublist.slnil))))))
          replace hh := hh.perm (List.perm_middle (l₁ := [_]))
          simp only [List.cons_append, List.nil_append] at hh
          refine ⟨⟨i + 1, fr, _, ov, gA, gn, gc, aT (cd os q.ts), by omega, by rw [hmi2]; rfl, rfl, rfl, by rw [hnx], by omega, fun h => absurd h hE2, hh⟩, by show ((m : Int) - 1 + 1).toNat < ((m : Int) + 1).toNat; omega, ?_⟩
          (repeat (first | exact aw _ _ _ | refine ax rfl ?_ | refine ar rfl ?_))
        ·rw [if_pos hte] at hnx
         refine bE hh 2 [_,_] ?_
         intro ws hh
         replace hh : Hp _ (_ :: _ :: .blk _ _ [_, _] _ :: _) _ := hh
         refine aI (ae (sr (mI ?_)))
         refine ck (ae (cF (aj (ai (ah (sr (mI ?_)))))))
         refine ck (ae (cF (aj (ai (aq (mI (aI (aE (aW (ai (aq ?_)))))))))))
         refine mI ?_
         refine eB (aI (aE (ai ?_)))
         replace hh := hh.sub (List.Sublist.cons_cons _ (List.Sublist.cons _ (List.Sublist.cons_cons _ (List.Sublist.cons _ (List.Sublist.cons_cons _ List.Sublist.slnil)))))
         replace hh := hh.perm (List.perm_middle (l₁ := [_]))
         simp only [List.cons_append, List.nil_append] at hh
         refine ⟨⟨i + 1, fr, ee os q.ts, gv, gA, gn, gc, gts, by omega, by rw [hmi2]; rfl, rfl, rfl, by rw [hnx], by omega, fun h => absurd h hte, hh⟩, by show ((m : Int) - 1 + 1).toNat < ((m : Int) + 1).toNat; omega, ?_⟩
         (repeat (first | exact aw _ _ _ | refine ax rfl ?_ | refine ar rfl ?_))
    ·have hfin : cx q.ts sub p j 128 = cx q.ts sub p j i := by
      by_cases h8 : i = 128
      ·rw [h8]
      ·exact jn (by omega) hi
     rw [hfin]
     by_cases he0 : e = 0
     ·subst he0
      obtain ⟨rfl, rfl, -, -⟩ := hok0 rfl
      clear hok0 hfin
      generalize cx q.ts sub p j i = X at *
      obtain rfl : i = 128 := by omega
      rw [← he]
      refine ah (sr (mI ?_))
      refine dn (mB ?_)
      first | refine gS ?_ | (refine gT ?_; refine mI ?_) | refine gV ?_
      first | refine gS ?_ | (refine gT ?_; refine ck ?_) | refine gV ?_
      first | refine cR ?_ | refine cQ ?_
      refine ae (cF ?_)
      refine aP ?_
      refine ay (ay (a6 (ai (ah (sr (mI ?_))))))
      refine cE (ae (cF (aj (ai (sr ?_)))))
      refine dh hh 0 [_,_] ?_
      refine bE hh 2 [_,_] ?_
      intro ws hh
      replace hh : Hp _ (_ :: _ :: .blk _ _ [_, _] _ :: _) _ := hh
      refine aI (ae (ao ?_))
      refine gL (aG rfl (aH (vs := [_, _]) aC.out (hh.au (i := 2) (n := 2) rfl rfl) rfl) (bS (cf rfl) a7)) ?_
      exact ⟨⟨ov, oA, on, oc, _⟩, ⟨rfl, rfl⟩, rfl, hh.sub (.cons _ (List.Sublist.cons_cons _ (List.nil_sublist _)))⟩
     ·rw [← he]
      clear hok0 hfin
      generalize cx q.ts sub p j i = X at *
      by_cases h8 : i = 128
      ·subst h8
       refine ah (sr (mI ?_))
       refine dn (mB ?_)
       first | refine gS ?_ | (refine gT ?_; refine mI ?_) | refine gV ?_
       first | refine gS ?_ | (refine gT ?_; refine ck ?_) | refine gV ?_
       first | refine cR ?_ | refine cQ ?_
       refine ae (cF ?_)
       refine aP ?_
       refine ay (ay (a6 (ai (ah (sr (mI ?_))))))
       refine cE (ae (cT (sr ?_)))
       refine ep [_,_] (mI ?_)
       refine bE hh 2 [_,_] ?_
       intro ws hh
       replace hh : Hp _ (_ :: _ :: .blk _ _ [_, _] _ :: _) _ := hh
       refine aI (ae (ao (az ?_)))
       refine gL (aG rfl (aH (vs := [_, _]) aC.out (hh.au (i := 2) (n := 2) rfl rfl) rfl) (bS (cf rfl) a7)) ?_
       exact ⟨PX.nil, cC.err he0, rfl, (hh.sub (List.nil_sublist _)).fP⟩
      ·refine ah (sr (mI ?_))
       refine dn (mB ?_)
       first | refine gS ?_ | (refine gT ?_; refine mI ?_) | refine gV ?_
       first | refine gS ?_ | (refine gT ?_; refine ck ?_) | refine gV ?_
       first | refine cR ?_ | refine cQ ?_
       refine ae (cF ?_)
       refine aP ?_
       refine ay (ay (a6 (ai (ah (sr (mI ?_))))))
       refine cE (ae (cT (sr ?_)))
       refine ep [_,_] (mI ?_)
       refine bE hh 2 [_,_] ?_
       intro ws hh
       replace hh : Hp _ (_ :: _ :: .blk _ _ [_, _] _ :: _) _ := hh
       refine aI (ae (ao (az ?_)))
       refine gL (aG rfl (aH (vs := [_, _]) aC.out (hh.au (i := 2) (n := 2) rfl rfl) rfl) (bS (cf rfl) a7)) ?_
       exact ⟨PX.nil, cC.err he0, rfl, (hh.sub (List.nil_sublist _)).fP⟩
end Go.Proofs.YtaapkaefelhfcaaGreatDoor
/- The walk through calc.Subst. -/
namespace Go.Proofs.YtaapkaefelhfcaaGreatDoor
open Go.RowKit
def jR (p : PX) (ls : List PX) : Int × List TR :=
 if p.e ≠ 0 then (p.e, []) else if (ls.length : Int) ≠ p.v then (1, []) else if ls.length ≠ 0 ∧ er ls ≠ 0 then (er ls, []) else eV (fa ls) (ls.map PX.ts) 0 p.ts
theorem uo (f : PX) (p : Addr) (x : Int) (w : World) (hp : w.cell? p = some (.int .i64 x)) :
  Calls Tryz.prog 98 #[.agg #[.int .i64 f.v, .slice f.A f.n f.c], .pointer (some p)] w fun r w' => r = .returned (.bool (decide (f.v ≠ x))) ∧ Below w.heap.size w w' := by
 have hh := Hp.start w
 by_cases hg : f.v = x
 ·refine ak (N := 8) (l := [.agg #[.int .i64 f.v, .slice f.A f.n f.c], .pointer (some p)]) Tryz.func98 rfl rfl (by simp) ?_
  refine sr ?_
  refine cK hh [_,_] ?_
  intro b2 w2 hh
  refine aB (ae (sr (bC ?_)))
  refine bH hh 0 ?_
  refine bh aC.out rfl ((hh.below.cell (l5 hp)).trans hp) (by decide) ?_
  refine cE (aB (ae (ao ?_)))
  refine cA ?_
  exact ⟨by rw [decide_eq_false (by omega)], hh.below⟩
 ·refine ak (N := 8) (l := [.agg #[.int .i64 f.v, .slice f.A f.n f.c], .pointer (some p)]) Tryz.func98 rfl rfl (by simp) ?_
  refine sr ?_
  refine cK hh [_,_] ?_
  intro b2 w2 hh
  refine aB (ae (sr (bC ?_)))
  refine bH hh 0 ?_
  refine bh aC.out rfl ((hh.below.cell (l5 hp)).trans hp) (by decide) ?_
  refine cE (aB (ae (ao ?_)))
  refine cA ?_
  exact ⟨by rw [decide_eq_true hg], hh.below⟩
structure Cv (p : PX) (ls : List PX) (k K T c0 : Nat) (ds : List Nat) : Prop where
 len : ds.length = ls.length
 B9 : ∀ (i d : Nat), ds[i]? = some d → d ≤ 127 ∧ ∀ t ∈ p.ts, kZ i t ≤ d
 grow : hF c0 ds (k + 1) ≤ 440000
 step : K + 4096 * T + 8192 ≤ c0
 top : c0 ≤ 440000
 jO : ∀ g ∈ ls, g.jO K
 CI : ∀ g ∈ ls, g.ts.length ≤ T
theorem tn {v : Int} {ts : List TR} (h : fA v ts = 0) : wV v 0 ts := by
 obtain ⟨_, _, h3, h4⟩ := dZ h
 exact ⟨h4.nZ, h3, fun a _ b _ => by rw [List.take_zero, List.take_zero]⟩
theorem l0 (p : PX) (lA : Option Addr) (lc : Nat) (ls : List PX) (k K T c0 : Nat) (ds : List Nat) (w : World) (hT : hG w) (hp : p.at_ w) (lp : p.jO k) (hL : Sl w lA ls.length 2 (aQ PX.cells ls)) (hat : ∀ g ∈ ls, g.at_ w) (hlc : ls.length ≤ lc) (hf : Cv p ls k K T c0 ds) :
  Calls Tryz.prog 28 #[.agg #[.int .i64 p.v, .slice p.A p.n p.c], .slice lA ls.length lc] w fun r w' => ∃ g : PX, cC (jR p ls).1 (fa ls) (jR p ls).2 g ∧ r = .returned (.tuple #[.agg #[.int .i64 g.v, .slice g.A g.n g.c], .int .i64 (jR p ls).1]) ∧ Hp w [g.row] w' := by
 have hh := Hp.start w
 have hck := fun w1 hT1 hb => l8 p k w1 hT1 (hp.ext hb) lp
 unfold jR
 by_cases h0 : p.e ≠ 0
 ·rw [if_pos h0]
  generalize p.e = e at *
  refine ak (N := 54) (l := [.agg #[.int .i64 p.v, .slice p.A p.n p.c], .slice lA ls.length lc]) Tryz.func28 rfl rfl (by simp) ?_
  refine sr ?_
  refine cK hh [_,_] ?_
  intro b2 w2 hh
  refine cv hh ?_
  intro b4 w4 hh
  refine aI (ae (ah (sr ?_)))
  refine dh hh 1 [_,_] ?_
  refine bG hh (hck _ (hT.hp hh) hh.below) rfl ?_
  intro w12 hh
  refine aI (ae (sr (mI ?_)))
  refine cE (ae (cT (sr ?_)))
  refine ep [_,_] (mI ?_)
  refine bE hh 0 [_,_] ?_
  intro ws hh
  replace hh : Hp _ (.blk _ _ [_, _] _ :: _) _ := hh
  refine aI (ae (ao (az ?_)))
  refine gL (aG rfl (aH (vs := [_, _]) aC.out (hh.au (i := 0) (n := 2) rfl rfl) rfl) (bS (cf rfl) a7)) ?_
  exact ⟨PX.nil, cC.err h0, rfl, (hh.sub (List.nil_sublist _)).fP⟩
 ·rw [if_neg h0]
  have hpe : p.e = 0 := by omega
  rw [hpe] at hck
  by_cases h1 : (ls.length : Int) ≠ p.v
  ·rw [if_pos h1]
   refine ak (N := 54) (l := [.agg #[.int .i64 p.v, .slice p.A p.n p.c], .slice lA ls.length lc]) Tryz.func28 rfl rfl (by simp) ?_
   refine sr ?_
   refine cK hh [_,_] ?_
   intro b2 w2 hh
   refine cv hh ?_
   intro b4 w4 hh
   refine aI (ae (ah (sr ?_)))
   refine dh hh 1 [_,_] ?_
   refine bG hh (hck _ (hT.hp hh) hh.below) rfl ?_
   intro w12 hh
   refine aI (ae (sr (mI ?_)))
   refine cE (ae (cF (aj (ai (ah (sr (mL (aO (bC ?_)))))))))
   refine bH hh 1 ?_
   refine cE (ae (cT (sr ?_)))
   refine ep [_,_] ?_
   refine bE hh 0 [_,_] ?_
   intro ws hh
   replace hh : Hp _ (.blk _ _ [_, _] _ :: _) _ := hh
   refine aI (ae (ao (az ?_)))
   refine gL (aG rfl (aH (vs := [_, _]) aC.out (hh.au (i := 0) (n := 2) rfl rfl) rfl) (bS (cf rfl) a7)) ?_
   exact ⟨PX.nil, cC.err (by decide), rfl, (hh.sub (List.nil_sublist _)).fP⟩
  ·rw [if_neg h1]
   obtain ⟨hfw, h4, hmy, hca⟩ := dZ hpe
   replace hfw := eE.1 hfw
   have hl12 : ls.length ≤ 12 := by omega
   have hpl := hp.ln
   have hsr := tn hpe
   have hput := fun (v : Int) (hv : gD v = true) (hz : ∀ g ∈ ls, fA v g.ts = 0) (hvv : ∀ g ∈ ls, g.v = v) w1 hT1 hb => vh lA lc K T c0 v ls hv hlc hl12 (fun g hg => ⟨⟨hz g hg, (hf.jO g hg).ok, (hf.jO g hg).sz⟩, hvv g hg, hf.jO g hg, hf.CI g hg⟩) hf.step hf.top ls 0 p.ts p.A p.n p.c ds k w1 rfl (Nat.zero_le _) hT1 (hL.ext hb) (fun g hg => (hat g hg).ext hb) (hp.ext hb) lp.cap (by rw [show ((ls.length : Nat) : Int) = p.v by omega]; exact hsr) lp.ok (by omega) hf.len (fun i d h => by rw [Nat.zero_add]; exact hf.B9 i d h) hf.grow
   by_cases hn : ls = []
   ·subst hn
    rw [if_neg (fun h => h.1 rfl)]
    have hpu := hput 0 rfl (fun g hg => by cases hg) (fun g hg => by cases hg)
    refine ak (N := 54) (l := [.agg #[.int .i64 p.v, .slice p.A p.n p.c], .slice lA 0 lc]) Tryz.func28 rfl rfl (by simp) ?_
    refine sr ?_
    refine cK hh [_,_] ?_
    intro b2 w2 hh
    refine cv hh ?_
    intro b4 w4 hh
    refine aI (ae (ah (sr ?_)))
    refine dh hh 1 [_,_] ?_
    refine bG hh (hck _ (hT.hp hh) hh.below) rfl ?_
    intro w12 hh
    refine aI (ae (sr (mI ?_)))
    refine cE (ae (cF (aj (ai (ah (sr (mL (aO (bC ?_)))))))))
    refine bH hh 1 ?_
    refine cE (ae (cF (aj (ai (sr ?_)))))
    refine cv hh ?_
    intro b7 w7 hh
    refine bE hh 0 [_] ?_
    intro ws hh
    replace hh : Hp _ (.blk _ _ [_] _ :: _) _ := hh
    refine ae (ah (sr (mL (aO ?_))))
    refine bY (ae (cF (aj (ai (sr (bC ?_))))))
    refine bH hh 2 ?_
    refine mL ?_
    refine bH hh 0 ?_
    replace hh := show Hp w (.blk b7 3 [.int .i64 0] (0, 0) :: _) _ from hh
    refine aV (hpu _ (hT.hp hh) hh.below) av.out rfl (by decide) ?_
    rintro e_ w51 ⟨g, og, rfl, h3⟩
    refine ⟨_, rfl, ?_⟩
    replace hh := hh.join h3
    simp only [List.cons_append, List.nil_append] at hh
    refine dp ?_
    refine dp ?_
    refine bE hh 2 [_,_] ?_
    intro ws hh
    replace hh : Hp _ (_ :: _ :: .blk _ _ [_, _] _ :: _) _ := hh
    refine aI (ae (ao ?_))
    refine gL (aG rfl (aH (vs := [_, _]) aC.out (hh.au (i := 2) (n := 2) rfl rfl) rfl) (bS (cf rfl) a7)) ?_
    exact ⟨g, og, rfl, hh.sub (List.Sublist.cons_cons _ (List.nil_sublist _))⟩
   ·have hlp0 : 0 < ls.length := List.length_pos_iff.2 hn
    obtain ⟨lad, rfl, hlr⟩ := hL.at_ hlp0
    refine ak (N := 54) (l := [.agg #[.int .i64 p.v, .slice p.A p.n p.c], .slice (some lad) ls.length lc]) Tryz.func28 rfl rfl (by simp) ?_
    refine sr ?_
    refine cK hh [_,_] ?_
    intro b2 w2 hh
    refine cv hh ?_
    intro b4 w4 hh
    refine aI (ae (ah (sr ?_)))
    refine dh hh 1 [_,_] ?_
    refine bG hh (hck _ (hT.hp hh) hh.below) rfl ?_
    intro w12 hh
    refine aI (ae (sr (mI ?_)))
    refine cE (ae (cF (aj (ai (ah (sr (mL (aO (bC ?_)))))))))
    refine bH hh 1 ?_
    refine cE (ae (cF (aj (ai (sr ?_)))))
    refine cv hh ?_
    intro b7 w7 hh
    refine bE hh 0 [_] ?_
    intro ws hh
    replace hh : Hp _ (.blk _ _ [_] _ :: _) _ := hh
    refine ae (ah (sr (mL (aO ?_))))
    refine bY (ae (cT (ah (sr (mL (aO (mI (ae (al ?_)))))))))
    replace hh := show Hp w (.blk b7 3 [.int .i64 0] (0, 0) :: _) _ from hh
    refine bs [5, 9, 10, 28, 29, 30, 31, 32, 33, 34, 35, 36, 37, 38] 28
     (fun v w' => ∃ i : Nat, i ≤ ls.length ∧ v = .int .i64 i ∧ (ls.take i).any (fun g => decide (g.e ≠ 0)) = false ∧ Hp w [.blk b7 3 [.int .i64 0] (0, 0), .blk b4 24 [.int .i64 0, .slice none 0 0] (0, 0), .blk b2 24 [.int .i64 p.v, .slice p.A p.n p.c] (0, 0)] w')
     (fun v _ => ls.length - (intOf v).toNat) ?_ ?_
    ·exact ⟨0, Nat.zero_le _, rfl, rfl, hh⟩
    ·clear hh
     rintro ρ' v w' ⟨i, hi, rfl, hall, hh⟩
     by_cases hlt : i < ls.length
     ·obtain ⟨g, hx⟩ := aD (l := ls) (k := i) hlt
      have hmem := List.mem_of_getElem? hx
      have hc := fun w1 hT1 hb => l8 g K w1 hT1 ((hat g hmem).ext hb) (hf.jO g hmem)
      by_cases he : g.e = 0
      ·refine sr ?_
       refine aU (ae (ah (cT (aj (ai (ah (al (sr ?_))))))))
       refine aR (k := i) aF.out aC.size rfl rfl (by omega) (by omega) (by decide) ?_
       refine bQ (vs := [_, _]) aC.out rfl ((hlr.ext hh.below).recAt PX.len hx) rfl (by decide) ?_
       refine cv hh ?_
       intro b9 w9 hh
       refine bE hh 0 [_,_] ?_
       intro ws hh
       replace hh : Hp _ (.blk _ _ [_, _] _ :: _) _ := hh
       refine ae (sr ?_)
       refine dh hh 0 [_,_] ?_
       refine bG hh (hc _ (hT.hp hh) hh.below) rfl ?_
       intro w33 hh
       refine aI (ae (sr (mI ?_)))
       refine cE (ae (cF (aj (aW (ai (aq ?_))))))
       refine bL (mI (aE (ai ?_)))
       replace hh := hh.sub (List.Sublist.cons _ (List.Sublist.cons_cons _ (List.Sublist.cons_cons _ (List.Sublist.cons_cons _ List.Sublist.slnil))))
       refine ⟨⟨i + 1, by omega, rfl, by rw [aJ hx, List.any_append, hall, List.any_cons, List.any_nil, decide_eq_false (by omega)]; rfl, hh⟩, by show ls.length - (i + 1) < ls.length - i; omega, ?_⟩
       (repeat (first | exact aw _ _ _ | refine ax rfl ?_ | refine ar rfl ?_))
      ·have hlk : er ls = g.e := by unfold er; rw [mN hall hx (decide_eq_true he)]
       rw [if_pos ⟨by omega, by rw [hlk]; exact he⟩, hlk]
       refine sr ?_
       refine aU (ae (ah (cT (aj (ai (ah (al (sr ?_))))))))
       refine aR (k := i) aF.out aC.size rfl rfl (by omega) (by omega) (by decide) ?_
       refine bQ (vs := [_, _]) aC.out rfl ((hlr.ext hh.below).recAt PX.len hx) rfl (by decide) ?_
       refine cv hh ?_
       intro b9 w9 hh
       refine bE hh 0 [_,_] ?_
       intro ws hh
       replace hh : Hp _ (.blk _ _ [_, _] _ :: _) _ := hh
       refine ae (sr ?_)
       refine dh hh 0 [_,_] ?_
       refine bG hh (hc _ (hT.hp hh) hh.below) rfl ?_
       intro w33 hh
       refine aI (ae (sr (mI ?_)))
       refine cE (ae (cT (sr ?_)))
       refine ep [_,_] (mI ?_)
       refine bE hh 2 [_,_] ?_
       intro ws hh
       replace hh : Hp _ (_ :: _ :: .blk _ _ [_, _] _ :: _) _ := hh
       refine aI (ae (ao (br (az (az (br (az (az ?_))))))))
       refine gL (aG rfl (aH (vs := [_, _]) aC.out (hh.au (i := 2) (n := 2) rfl rfl) rfl) (bS (cf rfl) a7)) ?_
       exact ⟨PX.nil, cC.err he, rfl, (hh.sub (List.nil_sublist _)).fP⟩
     ·rw [List.take_of_length_le (by omega)] at hall
      have hlk : er ls = if ls.length = 0 ∨ nT ls = true then 1 else 0 := by unfold er; rw [gh hall]
      obtain ⟨g0, h00⟩ := aD (l := ls) (k := 0) hlp0
      have hhv : fa ls = g0.v := by
       cases ls with
       | nil => cases hlp0
       | cons x l => cases h00; rfl
      have hall0 : ∀ g ∈ ls, g.e = 0 := fun g hg => by
       have := List.any_eq_false.1 hall g hg
       simpa using this
      refine sr ?_
      refine aU (ae (ah (cF ?_)))
      refine aP ?_
      refine ay (ay (a6 (ai (sr (mL ?_)))))
      refine aR (k := 0) aF.out aC.size rfl rfl (by omega) (by omega) (by decide) ?_
      refine bz dE.out rfl (by decide) ?_
      refine bh aC.out rfl (((hlr.ext hh.below).recAt PX.len h00).cell (i := 0) rfl) (by decide) ?_
      refine bE hh 0 [_] ?_
      intro ws hh
      replace hh : Hp _ (.blk _ _ [_] _ :: _) _ := hh
      refine ae (sr (mL ?_))
      refine ff rfl (aA (kd rfl) a9) (by decide) ?_
      replace hh := show Hp w (.blk b7 3 [.int .i64 g0.v] (0, 0) :: _) _ from hh
      rw [← hhv] at hh
      have hcell : World.cell? _ ⟨b7, 0, none⟩ = some (.int .i64 (fa ls)) := hh.dY (i := 0) rfl rfl
      have hoa := fun w1 hb => oQ (some lad) ls.length lc ls 98 [.pointer (some ⟨b7, 0, none⟩)] (fun g => decide (g.v ≠ fa ls)) w1 (hL.ext (hh.below.trans (hb.mono hh.below.size))) (by omega) (fun z w2 hz hb2 => uo z ⟨b7, 0, none⟩ (fa ls) w2 (cO hb2 (cO hb hcell)))
      cases hod : nT ls with
      | true =>
       have hod2 : ls.any (fun g => decide (g.v ≠ fa ls)) = true := hod
       rw [hod2] at hoa
       have hl1 : er ls = 1 := by rw [hlk, if_pos (.inr hod)]
       rw [if_pos ⟨by omega, by rw [hl1]; decide⟩, hl1]
       refine bG hh (hoa _ (Below.refl _ _)) rfl ?_
       intro w45 hh
       refine ae (cT (sr ?_))
       refine ep [_,_] ?_
       refine bE hh 1 [_,_] ?_
       intro ws hh
       replace hh : Hp _ (_ :: .blk _ _ [_, _] _ :: _) _ := hh
       refine aI (ae (ao (az ?_)))
       refine gL (aG rfl (aH (vs := [_, _]) aC.out (hh.au (i := 1) (n := 2) rfl rfl) rfl) (bS (cf rfl) a7)) ?_
       exact ⟨PX.nil, cC.err (by decide), rfl, (hh.sub (List.nil_sublist _)).fP⟩
      | false =>
       have hod2 : ls.any (fun g => decide (g.v ≠ fa ls)) = false := hod
       rw [hod2] at hoa
       have hl0 : er ls = 0 := by
        rw [hlk, if_neg (fun h => h.elim (fun h => by omega) fun h => by rw [hod] at h; cases h)]
       rw [if_neg (fun h => h.2 hl0)]
       have hvv := (lz hl0).2.2
       have hg0 := hall0 g0 (List.mem_of_getElem? h00)
       unfold PX.e at hg0
       have hpu := hput (fa ls) (by rw [hhv]; exact (dZ hg0).1) (fun g hg => by rw [← hvv g hg]; exact hall0 g hg) hvv
       refine bG hh (hoa _ (Below.refl _ _)) rfl ?_
       intro w45 hh
       refine ae (cF (aj (ai (sr (bC ?_)))))
       refine bH hh 2 ?_
       refine mL ?_
       refine bH hh 0 ?_
       refine aV (hpu _ (hT.hp hh) hh.below) av.out rfl (by decide) ?_
       rintro e_ w51 ⟨g, og, rfl, h3⟩
       refine ⟨_, rfl, ?_⟩
       replace hh := hh.join h3
       simp only [List.cons_append, List.nil_append] at hh
       refine dp ?_
       refine dp ?_
       refine bE hh 2 [_,_] ?_
       intro ws hh
       replace hh : Hp _ (_ :: _ :: .blk _ _ [_, _] _ :: _) _ := hh
       refine aI (ae (ao ?_))
       refine gL (aG rfl (aH (vs := [_, _]) aC.out (hh.au (i := 2) (n := 2) rfl rfl) rfl) (bS (cf rfl) a7)) ?_
       exact ⟨g, og, rfl, hh.sub (List.Sublist.cons_cons _ (List.nil_sublist _))⟩
end Go.Proofs.YtaapkaefelhfcaaGreatDoor
/- The walks through ogeelaw09's own helpers. -/
namespace Go.Proofs.YtaapkaefelhfcaaGreatDoor
open Go.RowKit
def vf (a : NR) : Bool := decide ((8 : Int) < a.bJ.size ∨ a.e < -60 ∨ 60 < a.e)
theorem uX (a : NR) (w : World) :
  Calls Tryz.prog 17 #[.agg #[.bool a.neg, .string a.bJ, .int .i64 a.e]] w fun r w' => r = .returned (.bool (vf a)) ∧ Below w.heap.size w w' := by
 have hh := Hp.start w
 by_cases h1 : (8 : Int) < a.bJ.size
 ·refine ak (N := 18) (l := [.agg #[.bool a.neg, .string a.bJ, .int .i64 a.e]]) Tryz.func17 rfl rfl (by simp) ?_
  refine sr ?_
  refine cK hh [_,_,_] ?_
  intro b1 w1 hh
  refine aB (ae (sr (bC (bC ?_))))
  refine bH hh 0 ?_
  refine bg aF.out rfl (by decide) ?_
  refine bY (mB ?_)
  first | refine gS ?_ | (refine gT ?_; refine bC ?_) | refine gV ?_
  first | refine gS ?_ | (refine gT ?_; refine bH hh 0 ?_) | refine gV ?_
  first | refine gS ?_ | (refine gT ?_; refine aU ?_) | refine gV ?_
  first | refine cR ?_ | refine cQ ?_
  refine mB ?_
  first | refine gS ?_ | (refine gT ?_; refine bC ?_) | refine gV ?_
  first | refine gS ?_ | (refine gT ?_; refine bH hh 0 ?_) | refine gV ?_
  first | refine gS ?_ | (refine gT ?_; refine bY ?_) | refine gV ?_
  first | refine cR ?_ | refine cQ ?_
  refine aB (ae (ao ?_))
  refine cA ?_
  refine ⟨?_, hh.below⟩
  unfold vf
  rw [decide_eq_true (.inl h1)]
 ·by_cases h2 : a.e < -60
  ·refine ak (N := 18) (l := [.agg #[.bool a.neg, .string a.bJ, .int .i64 a.e]]) Tryz.func17 rfl rfl (by simp) ?_
   refine sr ?_
   refine cK hh [_,_,_] ?_
   intro b1 w1 hh
   refine aB (ae (sr (bC (bC ?_))))
   refine bH hh 0 ?_
   refine bg aF.out rfl (by decide) ?_
   refine bY (mB ?_)
   first | refine gS ?_ | (refine gT ?_; refine bC ?_) | refine gV ?_
   first | refine gS ?_ | (refine gT ?_; refine bH hh 0 ?_) | refine gV ?_
   first | refine gS ?_ | (refine gT ?_; refine aU ?_) | refine gV ?_
   first | refine cR ?_ | refine cQ ?_
   refine mB ?_
   first | refine gS ?_ | (refine gT ?_; refine bC ?_) | refine gV ?_
   first | refine gS ?_ | (refine gT ?_; refine bH hh 0 ?_) | refine gV ?_
   first | refine gS ?_ | (refine gT ?_; refine bY ?_) | refine gV ?_
   first | refine cR ?_ | refine cQ ?_
   refine aB (ae (ao ?_))
   refine cA ?_
   refine ⟨?_, hh.below⟩
   unfold vf
   rw [decide_eq_true (.inr (.inl h2))]
  ·by_cases h3 : 60 < a.e
   ·refine ak (N := 18) (l := [.agg #[.bool a.neg, .string a.bJ, .int .i64 a.e]]) Tryz.func17 rfl rfl (by simp) ?_
    refine sr ?_
    refine cK hh [_,_,_] ?_
    intro b1 w1 hh
    refine aB (ae (sr (bC (bC ?_))))
    refine bH hh 0 ?_
    refine bg aF.out rfl (by decide) ?_
    refine bY (mB ?_)
    first | refine gS ?_ | (refine gT ?_; refine bC ?_) | refine gV ?_
    first | refine gS ?_ | (refine gT ?_; refine bH hh 0 ?_) | refine gV ?_
    first | refine gS ?_ | (refine gT ?_; refine aU ?_) | refine gV ?_
    first | refine cR ?_ | refine cQ ?_
    refine mB ?_
    first | refine gS ?_ | (refine gT ?_; refine bC ?_) | refine gV ?_
    first | refine gS ?_ | (refine gT ?_; refine bH hh 0 ?_) | refine gV ?_
    first | refine gS ?_ | (refine gT ?_; refine bY ?_) | refine gV ?_
    first | refine cR ?_ | refine cQ ?_
    refine aB (ae (ao ?_))
    refine cA ?_
    refine ⟨?_, hh.below⟩
    unfold vf
    rw [decide_eq_true (.inr (.inr h3))]
   ·refine ak (N := 18) (l := [.agg #[.bool a.neg, .string a.bJ, .int .i64 a.e]]) Tryz.func17 rfl rfl (by simp) ?_
    refine sr ?_
    refine cK hh [_,_,_] ?_
    intro b1 w1 hh
    refine aB (ae (sr (bC (bC ?_))))
    refine bH hh 0 ?_
    refine bg aF.out rfl (by decide) ?_
    refine bY (mB ?_)
    first | refine gS ?_ | (refine gT ?_; refine bC ?_) | refine gV ?_
    first | refine gS ?_ | (refine gT ?_; refine bH hh 0 ?_) | refine gV ?_
    first | refine gS ?_ | (refine gT ?_; refine aU ?_) | refine gV ?_
    first | refine cR ?_ | refine cQ ?_
    refine mB ?_
    first | refine gS ?_ | (refine gT ?_; refine bC ?_) | refine gV ?_
    first | refine gS ?_ | (refine gT ?_; refine bH hh 0 ?_) | refine gV ?_
    first | refine gS ?_ | (refine gT ?_; refine bY ?_) | refine gV ?_
    first | refine cR ?_ | refine cQ ?_
    refine aB (ae (ao ?_))
    refine cA ?_
    refine ⟨?_, hh.below⟩
    unfold vf
    rw [decide_eq_false (by omega)]
theorem CN {a : NR} (h : vf a = false) : a.ok ∧ Sz 124 a.d := by
 have h' := of_decide_eq_false h
 have h1 : (a.bJ.size : Int) ≤ 8 := by omega
 have h2 : -60 ≤ a.e := by omega
 have h3 : a.e ≤ 60 := by omega
 exact ⟨⟨by omega, by omega, by omega⟩, Sz.raw (m := 64) (E := 60) (by omega) h2 h3⟩
structure BB (ts : List TR) : Prop where
 n : ts.length ≤ 10
 ok : gi 124 ts
 sz : ∀ t ∈ ts, t.m.size ≤ 20
 ex : ∀ t ∈ ts, ∀ c ∈ t.m.data.toList, c.toNat ≤ 6
theorem BB.jO {g : PX} {w : World} (h : BB g.ts) (ha : g.at_ w) (hc : g.n ≤ g.c) : g.jO 124 := ⟨by have := h.n; have := ha.ln; omega, hc, h.ok, fun t ht => Nat.le_trans (h.sz t ht) (by decide)⟩
theorem mf (v : Int) (A : Option Addr) (n c : Nat) (ts : List TR) (w : World) (hS : Sl w A n 4 (aQ TR.cells ts)) :
  Calls Tryz.prog 15 #[.agg #[.int .i64 v, .slice A n c]] w fun r w' => ∃ b : Bool, r = .returned (.bool b) ∧ (b = false → BB ts) ∧ Below w.heap.size w w' := by
 have hh := Hp.start w
 have hln := hS.cg TR.len (by decide)
 by_cases h1 : 10 < n
 ·refine ak (N := 45) (l := [.agg #[.int .i64 v, .slice A n c]]) Tryz.func15 rfl rfl (by simp) ?_
  refine sr ?_
  refine cK hh [_,_] ?_
  intro b1 w1 hh
  refine aB (ae (ah (sr (bC ?_))))
  refine bH hh 0 ?_
  refine aO ?_
  refine bY (ae (cT (sr (aB (ae (ao (az ?_)))))))
  refine cA ?_
  exact ⟨_, rfl, fun h => (nomatch h), hh.below⟩
 ·refine ak (N := 45) (l := [.agg #[.int .i64 v, .slice A n c]]) Tryz.func15 rfl rfl (by simp) ?_
  refine sr ?_
  refine cK hh [_,_] ?_
  intro b1 w1 hh
  refine aB (ae (ah (sr (bC ?_))))
  refine bH hh 0 ?_
  refine aO ?_
  refine bY (ae (cF (aj (ai (ah (sr (aI (ae (al ?_)))))))))
  refine bs [2, 3, 4, 5, 10, 11, 12, 13, 14, 15, 16, 17, 18, 19, 20, 21, 22, 23, 24, 25, 26, 27, 28, 29, 30, 31, 32, 33, 34, 35, 36, 37, 38, 39, 40, 41, 42, 43, 44] 3
   (fun x w' => ∃ i : Nat, i ≤ n ∧ x = .int .i64 i ∧ gi 124 (ts.take i) ∧ (∀ t ∈ ts.take i, t.m.size ≤ 20 ∧ ∀ c ∈ t.m.data.toList, c.toNat ≤ 6) ∧ Hp w [.blk b1 24 [.int .i64 v, .slice A n c] (0, 0)] w')
   (fun v _ => n - (intOf v).toNat) ?_ ?_
  ·exact ⟨0, Nat.zero_le _, rfl, fun t ht => (nomatch ht), fun t ht => (nomatch ht), hh⟩
  ·clear hh
   rintro ρ' x_ w' ⟨i, hi, rfl, hall, hsz, hh⟩
   by_cases hlt : i < n
   ·obtain ⟨x, hx⟩ := aD (l := ts) (k := i) (by omega)
    obtain ⟨ad, rfl, hr⟩ := hS.at_ (by omega)
    have hfa := fun w1 => uX x.c w1
    have hbm := cw x.m
    refine ah (sr (mI (bC ?_)))
    refine bH hh 0 ?_
    refine aO ?_
    refine aU (ae (cT (aj (ai (ah (al (sr (bC ?_))))))))
    refine bH hh 0 ?_
    refine mI ?_
    refine aR (k := i) aF.out aC.size rfl rfl (by omega) (by omega) (by decide) ?_
    refine bz dE.out rfl (by decide) ?_
    refine bh aC.out rfl (((hr.ext hh.below).recAt TR.len hx).cell (i := 0) rfl) (by decide) ?_
    refine aS (ae (ah (sr (bC ?_))))
    refine bH hh 0 ?_
    refine mI ?_
    refine aR (k := i) aF.out aC.size rfl rfl (by omega) (by omega) (by decide) ?_
    refine bz dE.out rfl (by decide) ?_
    refine bQ (vs := [_, _, _]) aC.out rfl (((hr.ext hh.below).recAt TR.len hx).drop 1) rfl (by decide) ?_
    refine bG hh (hfa _) rfl ?_
    intro w29 hh
    cases hf : vf x.c with
    | true =>
     refine mB ?_
     first | refine gS ?_ | (refine gT ?_; refine mS ?_) | refine gV ?_
     first | refine gS ?_ | (refine gT ?_; refine bg aF.out rfl (by decide) ?_) | refine gV ?_
     first | refine gS ?_ | (refine gT ?_; refine bY ?_) | refine gV ?_
     first | refine cR ?_ | refine cQ ?_
     refine ae (cT (sr (aB (ae (ao (az (br (az (az (br (az ?_)))))))))))
     refine cA ?_
     exact ⟨_, rfl, fun h => (nomatch h), hh.below⟩
    | false =>
     by_cases h5 : 20 < x.m.size
     ·refine mB ?_
      first | refine gS ?_ | (refine gT ?_; refine mS ?_) | refine gV ?_
      first | refine gS ?_ | (refine gT ?_; refine bg aF.out rfl (by decide) ?_) | refine gV ?_
      first | refine gS ?_ | (refine gT ?_; refine bY ?_) | refine gV ?_
      first | refine cR ?_ | refine cQ ?_
      refine ae (cT (sr (aB (ae (ao (az (br (az (az (br (az ?_)))))))))))
      refine cA ?_
      exact ⟨_, rfl, fun h => (nomatch h), hh.below⟩
     ·refine mB ?_
      first | refine gS ?_ | (refine gT ?_; refine mS ?_) | refine gV ?_
      first | refine gS ?_ | (refine gT ?_; refine bg aF.out rfl (by decide) ?_) | refine gV ?_
      first | refine gS ?_ | (refine gT ?_; refine bY ?_) | refine gV ?_
      first | refine cR ?_ | refine cQ ?_
      refine ae (cF (aj (ai (sr (aI (ae (al ?_)))))))
      refine bs [2, 5, 35, 36, 37, 38, 39, 40, 41, 42, 43, 44] 5
       (fun y w' => ∃ q : Nat, q ≤ x.m.size ∧ y = .int .i64 q ∧ (∀ c ∈ x.m.data.toList.take q, c.toNat ≤ 6) ∧ Hp w [.blk b1 24 [.int .i64 v, .slice (some ad) n c] (0, 0)] w')
       (fun v _ => x.m.size - (intOf v).toNat) ?_ ?_
      ·exact ⟨0, Nat.zero_le _, rfl, fun t ht => (nomatch ht), hh⟩
      ·clear hh
       rintro ρ' y_ w' ⟨q, hq, rfl, hex, hh⟩
       by_cases hlq : q < x.m.size
       ·obtain ⟨e, he⟩ := aD (l := x.m.data.toList) (k := q) (by omega)
        by_cases h6 : 6 < e.toNat
        ·refine ah (sr (mI (mS ?_)))
         refine bg aF.out rfl (by decide) ?_
         refine aU (ae (cT (aj (ai (ah (al (sr (mS (mI ?_)))))))))
         refine bo aF.out rfl rfl (by omega) (by assumption) (by decide) ?_
         refine bY (ae (cT (sr (aB (ae (ao (br (az (az (br (br ?_)))))))))))
         refine az (az (br (az ?_)))
         refine cA ?_
         exact ⟨_, rfl, fun h => (nomatch h), hh.below⟩
        ·refine ah (sr (mI (mS ?_)))
         refine bg aF.out rfl (by decide) ?_
         refine aU (ae (cT (aj (ai (ah (al (sr (mS (mI ?_)))))))))
         refine bo aF.out rfl rfl (by omega) (by assumption) (by decide) ?_
         refine bY (ae (cF (aj (aW (ai (aq (mI ?_)))))))
         refine bL (aI (aE (ai ?_)))
         refine ⟨⟨q + 1, by omega, rfl, fun t ht => ?_, hh⟩, by show x.m.size - (q + 1) < x.m.size - q; omega, ?_⟩
         ·rw [aJ he] at ht
          rcases List.mem_append.1 ht with ht | ht
          ·exact hex t ht
          ·rw [List.mem_singleton.1 ht]; omega
         ·(repeat (first | exact aw _ _ _ | refine ax rfl ?_ | refine ar rfl ?_))
       ·rw [List.take_of_length_le (by omega)] at hex
        refine ah (sr (mI (mS ?_)))
        refine bg aF.out rfl (by decide) ?_
        refine aU (ae (cF ?_))
        refine aP ?_
        refine ay (ay (a6 (aW (ai (aq (mI ?_))))))
        refine bL (aI (aE (ai ?_)))
        refine ⟨⟨i + 1, by omega, rfl, fun t ht => ?_, fun t ht => ?_, hh⟩, by show n - (i + 1) < n - i; omega, ?_⟩
        ·rw [aJ hx] at ht
         rcases List.mem_append.1 ht with ht | ht
         ·exact hall t ht
         ·rw [List.mem_singleton.1 ht]; exact CN hf
        ·rw [aJ hx] at ht
         rcases List.mem_append.1 ht with ht | ht
         ·exact hsz t ht
         ·rw [List.mem_singleton.1 ht]; exact ⟨by omega, hex⟩
        ·(repeat (first | exact aw _ _ _ | refine ax rfl ?_ | refine ar rfl ?_))
   ·rw [List.take_of_length_le (by omega)] at hall hsz
    refine ah (sr (mI (bC ?_)))
    refine bH hh 0 ?_
    refine aO ?_
    refine aU (ae (cF ?_))
    refine aP ?_
    refine ay (ay (a6 (ai (sr (aB (ae (ao ?_)))))))
    refine cA ?_
    exact ⟨_, rfl, fun _ => ⟨by omega, hall, fun t ht => (hsz t ht).1, fun t ht => (hsz t ht).2⟩, hh.below⟩
theorem cj (n : Int) (w : World) (h1 : -9223372036854775808 ≤ n) (h2 : n ≤ 9223372036854775807) :
  Calls Tryz.prog 84 #[.int .i64 n] w fun r w' => r = .returned (.agg #[.bool (nR (n : Dyadic)).neg, .string (nR (n : Dyadic)).bJ, .int .i64 (nR (n : Dyadic)).e]) ∧ Below w.heap.size w w' := by
 have hh := Hp.start w
 refine ak (N := 5) (l := [.int .i64 n]) Tryz.func84 rfl rfl (by simp) ?_
 refine sr ?_
 refine cv hh ?_
 intro b2 w2 hh
 refine ae (sr (mI ?_))
 refine bG hh (xl n _ h1 h2) rfl ?_
 intro w4 hh
 refine bE hh 0 [_,_,_] ?_
 intro ws hh
 replace hh : Hp _ (.blk _ _ [_, _, _] _ :: _) _ := hh
 refine ae (ao ?_)
 refine gI (aG rfl (aH (vs := [_, _, _]) aC.out (hh.au (i := 0) (n := 3) rfl rfl) rfl) a7) ?_
 exact ⟨rfl, hh.below⟩
theorem eG (v : Int) (A : Option Addr) (n c : Nat) (w : World) :
  Calls Tryz.prog 83 #[.int .i64 v, .slice A n c] w fun r w' => r = .returned (.agg #[.int .i64 v, .slice A n c]) ∧ Below w.heap.size w w' := by
 have hh := Hp.start w
 refine ak (N := 8) (l := [.int .i64 v, .slice A n c]) Tryz.func83 rfl rfl (by simp) ?_
 refine sr ?_
 refine cv hh ?_
 intro b4 w4 hh
 refine ae (sr (mI (mL ?_)))
 refine ep [_,_] ?_
 refine bE hh 0 [_,_] ?_
 intro ws hh
 replace hh : Hp _ (.blk _ _ [_, _] _ :: _) _ := hh
 refine ae (ao ?_)
 refine gI (aG rfl (aH (vs := [_, _]) aC.out (hh.au (i := 0) (n := 2) rfl rfl) rfl) a7) ?_
 exact ⟨rfl, hh.below⟩
end Go.Proofs.YtaapkaefelhfcaaGreatDoor
/- Powers of a number, kept in a row: the walk through (*calc.powers).at; cells behind a pointer. -/
namespace Go.Proofs.YtaapkaefelhfcaaGreatDoor
open Go.RowKit
structure vc (E : Value → HE) (g o : Nat) : Prop where
 ld : ∀ {w0 w : World} {Hr : List HE} {v : Value}, Hp w0 (E v :: Hr) w → w.cell? ⟨g, o, none⟩ = some v
 st : ∀ {ro : Mode} {P : Program} {N : Nat} {ops : Array Oper} {Q : Kq} {ρ : Rf} {w w0 : World} {rest : List Oper} {Hr : List HE} {ty : TypeId} {pos : String} {af : Array Edge} {t : TypeId} {x y : Operand} {by' : Nat} {ag : Bool} {zc : List Value} {v v' : Value},
  Hp w0 (E v :: Hr) w → ev ρ x = .pointer (some ⟨g, o, none⟩) → ev ρ y = v' → v'.cells = #[v'] → db P t = some (1, ag, by', zc) → v'.oneCell' = true →
  (∀ w', Hp w0 (E v' :: Hr) w' → WL ro P N ops Q rest ρ w') → WL ro P N ops Q (⟨none, .store t x y, ty, pos, af, none⟩ :: rest) ρ w
theorem dY {b : Nat} {t : TypeId} : vc (fun v => .blk b t [v] (0, 0)) b 0 :=
 ⟨fun hh => hh.dY (i := 0) rfl rfl, fun hh hx hy hc ht h1 k => nU hh (i := 0) (vs := [_]) hx rfl hy hc ht rfl (Nat.le_refl _) (by simp [h1]) k⟩
theorem cI {g m c i : Nat} {t : TypeId} {xs : List Value} (hi : i < xs.length) : vc (fun v => .row (some ⟨g, 0, none⟩) m c t 1 (xs.set i v)) g (i * 1) := by
 refine ⟨fun {w0 w Hr v} hh => ?_, fun {ro P N ops Q ρ w w0 rest Hr ty pos af t' x y by' ag zc v v'} hh hx hy hc ht h1 k => ?_⟩
 ·exact hh.cI (i := 0) (o := i * 1) rfl (by rw [Nat.mul_one]; exact List.getElem?_set_self hi)
 ·refine bP hh (i := 0) (vs := [v']) hx rfl hy hc ht rfl (by rw [List.length_set]; omega) (by simp [h1]) fun w' hh' => k w' ?_
  have e : cB (xs.set i v) (i * 1) [v'] = xs.set i v' := by
   rw [Nat.mul_one, cz (by rw [List.length_set]; exact hi), List.set_set]
  rw [e] at hh'
  exact hh'
def vr (w : World) (a : Addr) : Nat := match w.cell? a with | some v => lenOf v | none => 0
def ml (x : Dyadic) (m : Nat) : List NR := (List.range m).map fun i => nR (x ^ i)
theorem rU {x : Dyadic} {m i : Nat} (h : i < m) : (ml x m)[i]? = some (nR (x ^ i)) := by
 unfold ml
 rw [List.getElem?_map, List.getElem?_range h]
 rfl
theorem o5 (x : Dyadic) (m : Nat) : ml x (m + 1) = ml x m ++ [nR (x ^ m)] := by unfold ml; rw [List.range_succ, List.map_append]; rfl
theorem oL {w0 : World} {Hr : List HE} {E : Value → HE} {g o : Nat} (hE : vc E g o) (x : NR) (n m : Nat) (A : Option Addr) (c k : Nat) (w : World) (hT : hG w0) (hh : Hp w0 (E (.slice A m c) :: .row A m c 29 3 (aQ NR.cells (ml x.d m)) :: Hr) w) (hn : n ≤ 127) (hm : m ≤ 1000) (hx : x.ok ∧ Sz k x.d) (hk : k ≤ 1000) :
  Calls Tryz.prog 86 #[.pointer (some ⟨g, o, none⟩), .agg #[.bool x.neg, .string x.bJ, .int .i64 x.e], .int .i64 n] w fun r w' => r = .returned (.agg #[.bool (nR (x.d ^ n)).neg, .string (nR (x.d ^ n)).bJ, .int .i64 (nR (x.d ^ n)).e]) ∧ ∃ (A' : Option Addr) (m' c' : Nat), m' ≤ 1000 ∧ Hp w0 (E (.slice A' m' c') :: .row A' m' c' 29 3 (aQ NR.cells (ml x.d m')) :: Hr) w' := by
 refine ak (N := 61) (l := [.pointer (some ⟨g, o, none⟩), .agg #[.bool x.neg, .string x.bJ, .int .i64 x.e], .int .i64 n]) Tryz.func86 rfl rfl (by simp) ?_
 refine sr ?_
 refine cK hh [_,_,_] ?_
 intro b4 w4 hh
 refine cv hh ?_
 intro b6 w6 hh
 refine ae (ah (sr (mP ?_)))
 refine fh rfl (by decide) ?_
 refine bz dE.out rfl (by decide) ?_
 refine bh aC.out rfl (hE.ld (hh.sub (.cons _ (.cons _ (List.Sublist.refl _))))) (by decide) ?_
 have hpow : ∀ q, q ≤ 127 → Sz 128000 (x.d ^ q) := fun q hq => by
  have h1 := hx.2.pow q
  exact h1.mono (by have := Nat.mul_le_mul hk hq; omega)
 by_cases h0 : m = 0
 ·subst h0
  refine aO ?_
  refine ck (ae (cT ?_))
  refine cq [] [0] [0, 0, 2, 6, 14, 0, 32, 126, 255, 511, 1023] 7 [[(0, none)], [(0, none)], [(14, some 1)], [(15, some 2)], [(16, some 3)], [], [(18, some 5)]] [(6, 19), (5, 18), (4, 17), (3, 16), (2, 15), (1, 14), (0, 13)] hh mixed (by kernel_rfl) cG rfl (by repeat (first | exact bX | refine bA ?_ | refine bV ?_)) ?_
  refine za ?_
  refine za ?_
  refine Bq ?_
  refine jP ?_
  refine hU (fun _ hj => hE.ld (hj.hp.sub (.cons _ (.cons _ (List.Sublist.refl _))))) ?_
  refine dC (fun _ hj => mK 1 _ (hT.hp hj.hp) (by decide) (by decide)) ?_
  refine pD [_,_,_] ?_
  refine a0 ?_
  intro f W hJ hV _
  have hb_2 := hJ.bl
  obtain ⟨v19, v18, v17, v16, v15, v14, v13, _⟩ := hV
  obtain ⟨A19, c19, e19, f19⟩ : Rows _ _ _ (f 6) W := v19
  replace hh := hJ.hp
  refine aN (a4 (aa e19 (aa v18 (aa v17 (aa v16 (aa v15 (aa v14 (aa v13 aM)))))))) ?_
  dsimp only [ca]
  clear e19 hJ
  refine bF hh (i := 3) rfl rfl rfl (f19) aF.out aC.out rfl (by decide) (by first | rfl | exact bU _ | exact bI _ | exact oneCells_i64s _ | exact bf NR.one _) (by omega) (by omega) (by decide) ?_
  intro A20 c20 w20 hh
  simp only [List.set_cons_zero, List.set_cons_succ] at hh
  refine fh rfl (by decide) ?_
  refine bz dE.out rfl (by decide) ?_
  replace hh := hh.perm (List.perm_middle (l₁ := [_, _]))
  simp only [List.cons_append, List.nil_append] at hh
  refine hE.st (v' := .slice A20 (0 + 1) c20) hh rfl rfl rfl aC.out rfl ?_
  intro ws hh
  replace hh := hh.perm (List.perm_middle (l₁ := [_, _]))
  simp only [List.cons_append, List.nil_append] at hh
  replace hh := hh.perm (List.perm_middle (l₁ := [_, _]))
  simp only [List.cons_append, List.nil_append] at hh
  refine ae (ah (al ?_))
  have e0 : aQ NR.cells (ml x.d 0) ++ [.bool (nR ((1 : Int) : Dyadic)).neg, .string (nR ((1 : Int) : Dyadic)).bJ, .int .i64 (nR ((1 : Int) : Dyadic)).e] = aQ NR.cells (ml x.d (0 + 1)) := by rw [o5, bR, fB, Dyadic.pow_zero]; rfl
  rw [e0] at hh
  refine pd [23, 24, 25, 26, 27, 28, 29, 30, 31, 32, 33, 34, 35, 36, 37, 38, 39, 40, 41, 42, 43, 44, 45, 46, 47, 48, 49, 50, 51, 52, 53]
   (fun w' => ∃ (m : Nat) (A : Option Addr) (c : Nat), 0 < m ∧ m ≤ 1000 ∧ Hp w0 (.blk b6 29 [.bool false, .string (ByteArray.mk #[]), .int .i64 0] (0, 0) :: .blk b4 29 [.bool x.neg, .string x.bJ, .int .i64 x.e] (0, 0) :: E (.slice A m c) :: .row A m c 29 3 (aQ NR.cells (ml x.d m)) :: Hr) w')
   (fun w' => n + 1 - vr w' ⟨g, o, none⟩) ?_ ?_
  ·exact ⟨0 + 1, _, _, by decide, by decide, hh⟩
  ·clear hh
   rintro ρ' w' ⟨m, A, c, hm0, hm1, hh⟩
   have hcell := hE.ld (hh.sub (.cons _ (.cons _ (List.Sublist.refl _))))
   obtain ⟨q, rfl⟩ : ∃ q, m = q + 1 := ⟨m - 1, by omega⟩
   refine ah (sr (mP ?_))
   refine fh rfl (by decide) ?_
   refine bz dE.out rfl (by decide) ?_
   refine bh aC.out rfl (hcell) (by decide) ?_
   by_cases hmn : q + 1 ≤ n
   ·have hdm := fun A cc w1 hT1 hS1 => gF A 2 cc [nR (x.d ^ q), x] w1 hT1 hS1 (by simpa using ⟨(hpow q (by omega)).ok (by decide), hx.1⟩) 128000 (by simpa [dX] using ⟨hpow q (by omega), hx.2.mono (by omega)⟩) (by decide) (by decide)
    rw [show g9 ([nR (x.d ^ q), x].map NR.d) = x.d ^ (q + 1) by show 1 * (nR (x.d ^ q)).d * x.d = _; rw [dX, Dyadic.one_mul, Dyadic.pow_succ]] at hdm
    have hq0 := rU (x := x.d) (show q < q + 1 by omega)
    obtain ⟨gq, rfl⟩ := hh.eO (i := 3) rfl (by omega)
    refine aO (mI ?_)
    refine uI (ae (cT (aj (ai (al ?_)))))
    refine cq [] [0] [0, 0, 2, 6, 14, 0, 32, 96, 224, 0, 512, 1536, 3584, 7680, 15872, 32736, 65504, 0, 262112, 524256, 1048544, 2097150, 4194303, 8388607, 16777215] 21 [[(0, none)], [(0, none)], [(31, some 1)], [(32, some 2)], [(33, some 3)], [(0, none)], [(35, some 5)], [(36, some 6)], [(37, some 7)], [(0, none)], [(39, some 9)], [(40, some 10)], [(41, some 11)], [(42, some 12)], [(43, some 13)], [(38, some 8), (44, some 14)], [(45, some 15)], [(4, none)], [(46, some 16), (47, some 17)], [(48, some 18)], [(49, some 19)]] [(20, 50), (19, 49), (18, 48), (17, 47), (16, 46), (15, 45), (14, 44), (13, 43), (12, 42), (11, 41), (10, 40), (9, 39), (8, 38), (7, 37), (6, 36), (5, 35), (4, 34), (3, 33), (2, 32), (1, 31), (0, 30)] hh mixed (by kernel_rfl) cG rfl (by repeat (first | exact bX | refine bA ?_ | refine bV ?_)) ?_
    refine za ?_
    refine za ?_
    refine Bq ?_
    refine jP ?_
    refine hU (fun _ hj => hE.ld (hj.hp.sub (.cons _ (.cons _ (List.Sublist.refl _))))) ?_
    refine za ?_
    refine Bq ?_
    refine jP ?_
    refine hU (fun _ hj => hE.ld (hj.hp.sub (.cons _ (.cons _ (List.Sublist.refl _))))) ?_
    refine za ?_
    refine Bq ?_
    refine jP ?_
    refine hU (fun _ hj => hE.ld (hj.hp.sub (.cons _ (.cons _ (List.Sublist.refl _))))) ?_
    refine qV ?_
    refine jU ?_
    refine AH (q) ?_
    refine rh [_,_,_] (fun _ hj => hj.hp.iZ (f := NR.cells) (x := nR (x.d ^ q)) (l := ml x.d (q + 1)) (i := 3) rfl NR.len (by decide) hq0) ?_
    refine ef 1 [_,_,_] ?_
    refine pD [_,_,_,_,_,_] ?_
    refine bj (i := 19) (Is (.agg #[.bool (nR (x.d ^ (q + 1))).neg, .string (nR (x.d ^ (q + 1))).bJ, .int .i64 (nR (x.d ^ (q + 1))).e])) Is.ext ?_ ?_
    ·intro ρ1 w1 hj hR
     obtain ⟨A48, c48, h48, s48⟩ := hR.1
     exact bW rfl (a3 av.out (aA h48 a9)) (hdm A48 c48 _ (hT.hp hj.hp) s48) (fun _ _ hq => ⟨_, hq.1, hq.2, rfl⟩)
    refine pD [_,_,_] ?_
    refine a0 ?_
    intro f W hJ hV _
    have hb_4 := hJ.bl
    obtain ⟨v50, v49, v48, v47, v46, v45, v44, v43, v42, v41, v40, v39, v38, v37, v36, v35, v34, v33, v32, v31, v30, _⟩ := hV
    obtain ⟨A48, c48, e48, f48⟩ : Rows _ _ _ (f 18) W := v48
    obtain ⟨A50, c50, e50, f50⟩ : Rows _ _ _ (f 20) W := v50
    replace hh := hJ.hp
    refine aN (a4 (aa e50 (aa v49 (aa e48 (aa v47 (aa v46 (aa v45 (aa v44 (aa v43 (aa v42 (aa v41 (aa v40 (aa v39 (aa v38 (aa v37 (aa v36 (aa v35 (aa v34 (aa v33 (aa v32 (aa v31 (aa v30 aM)))))))))))))))))))))) ?_
    dsimp only [ca]
    clear e48 e50 hJ
    refine bF hh (i := 3) rfl rfl rfl (f50) aF.out aC.out rfl (by decide) (by first | rfl | exact bU _ | exact bI _ | exact oneCells_i64s _ | exact bf NR.one _) (by omega) (by omega) (by decide) ?_
    intro A51 c51 w51 hh
    simp only [List.set_cons_zero, List.set_cons_succ] at hh
    refine fh rfl (by decide) ?_
    refine bz dE.out rfl (by decide) ?_
    replace hh := hh.perm (List.perm_middle (l₁ := [_, _]))
    simp only [List.cons_append, List.nil_append] at hh
    refine hE.st (v' := .slice A51 (q + 1 + 1) c51) hh rfl rfl rfl aC.out rfl ?_
    intro ws hh
    replace hh := hh.perm (List.perm_middle (l₁ := [_, _]))
    simp only [List.cons_append, List.nil_append] at hh
    replace hh := hh.perm (List.perm_middle (l₁ := [_, _]))
    simp only [List.cons_append, List.nil_append] at hh
    refine aE (aW (ai ?_))
    have e1 : aQ NR.cells (ml x.d (q + 1)) ++ [.bool (nR (x.d ^ (q + 1))).neg, .string (nR (x.d ^ (q + 1))).bJ, .int .i64 (nR (x.d ^ (q + 1))).e] = aQ NR.cells (ml x.d (q + 1 + 1)) := by rw [show ml x.d (q + 1 + 1) = ml x.d (q + 1) ++ [nR (x.d ^ (q + 1))] from o5 _ _, bR, fB]; rfl
    rw [e1] at hh
    have hcell2 := hE.ld (hh.sub (.cons _ (.cons _ (List.Sublist.refl _))))
    refine ⟨⟨q + 1 + 1, _, _, by omega, by omega, hh⟩, ?_, ?_⟩
    ·unfold vr
     rw [hcell, hcell2]
     show n + 1 - (q + 1 + 1) < n + 1 - (q + 1)
     omega
    ·(repeat (first | exact aw _ _ _ | refine ax rfl ?_ | refine ar rfl ?_))
   ·have hn0 := rU (x := x.d) (m := q + 1) (i := n) (by omega)
    obtain ⟨gq, rfl⟩ := hh.eO (i := 3) rfl (by omega)
    refine aO (mI ?_)
    refine uI (ae (cF ?_))
    refine aP ?_
    refine ay (ay (a6 (ai (sr (mP ?_)))))
    refine fh rfl (by decide) ?_
    refine bz dE.out rfl (by decide) ?_
    refine bh aC.out rfl (hE.ld (hh.sub (.cons _ (.cons _ (List.Sublist.refl _))))) (by decide) ?_
    refine mI ?_
    refine bp (k := n) aF.out aC.size rfl rfl (by omega) (by omega) (by decide) ?_
    refine bQ (vs := [_, _, _]) aC.out rfl (hh.iZ (f := NR.cells) (x := nR (x.d ^ n)) (l := ml x.d (q + 1)) (i := 3) rfl NR.len (by decide) hn0) rfl (by decide) ?_
    refine bE hh 0 [_,_,_] ?_
    intro ws hh
    replace hh : Hp _ (.blk _ _ [_, _, _] _ :: _) _ := hh
    refine ae (ao ?_)
    refine gI (aG rfl (aH (vs := [_, _, _]) aC.out (hh.au (i := 0) (n := 3) rfl rfl) rfl) a7) ?_
    exact ⟨rfl, _, _, _, hm1, hh.sub (.cons _ (.cons _ (List.Sublist.refl _)))⟩
 ·refine aO ?_
  refine ck (ae (cF (aj (ai (ah (al ?_))))))
  refine pd [23, 24, 25, 26, 27, 28, 29, 30, 31, 32, 33, 34, 35, 36, 37, 38, 39, 40, 41, 42, 43, 44, 45, 46, 47, 48, 49, 50, 51, 52, 53]
   (fun w' => ∃ (m : Nat) (A : Option Addr) (c : Nat), 0 < m ∧ m ≤ 1000 ∧ Hp w0 (.blk b6 29 [.bool false, .string (ByteArray.mk #[]), .int .i64 0] (0, 0) :: .blk b4 29 [.bool x.neg, .string x.bJ, .int .i64 x.e] (0, 0) :: E (.slice A m c) :: .row A m c 29 3 (aQ NR.cells (ml x.d m)) :: Hr) w')
   (fun w' => n + 1 - vr w' ⟨g, o, none⟩) ?_ ?_
  ·exact ⟨m, A, c, by omega, hm, hh⟩
  ·clear hh
   rintro ρ' w' ⟨m, A, c, hm0, hm1, hh⟩
   have hcell := hE.ld (hh.sub (.cons _ (.cons _ (List.Sublist.refl _))))
   obtain ⟨q, rfl⟩ : ∃ q, m = q + 1 := ⟨m - 1, by omega⟩
   refine ah (sr (mP ?_))
   refine fh rfl (by decide) ?_
   refine bz dE.out rfl (by decide) ?_
   refine bh aC.out rfl (hcell) (by decide) ?_
   by_cases hmn : q + 1 ≤ n
   ·have hdm := fun A cc w1 hT1 hS1 => gF A 2 cc [nR (x.d ^ q), x] w1 hT1 hS1 (by simpa using ⟨(hpow q (by omega)).ok (by decide), hx.1⟩) 128000 (by simpa [dX] using ⟨hpow q (by omega), hx.2.mono (by omega)⟩) (by decide) (by decide)
    rw [show g9 ([nR (x.d ^ q), x].map NR.d) = x.d ^ (q + 1) by show 1 * (nR (x.d ^ q)).d * x.d = _; rw [dX, Dyadic.one_mul, Dyadic.pow_succ]] at hdm
    have hq0 := rU (x := x.d) (show q < q + 1 by omega)
    obtain ⟨gq, rfl⟩ := hh.eO (i := 3) rfl (by omega)
    refine aO (mI ?_)
    refine uI (ae (cT (aj (ai (al ?_)))))
    refine cq [] [0] [0, 0, 2, 6, 14, 0, 32, 96, 224, 0, 512, 1536, 3584, 7680, 15872, 32736, 65504, 0, 262112, 524256, 1048544, 2097150, 4194303, 8388607, 16777215] 21 [[(0, none)], [(0, none)], [(31, some 1)], [(32, some 2)], [(33, some 3)], [(0, none)], [(35, some 5)], [(36, some 6)], [(37, some 7)], [(0, none)], [(39, some 9)], [(40, some 10)], [(41, some 11)], [(42, some 12)], [(43, some 13)], [(38, some 8), (44, some 14)], [(45, some 15)], [(4, none)], [(46, some 16), (47, some 17)], [(48, some 18)], [(49, some 19)]] [(20, 50), (19, 49), (18, 48), (17, 47), (16, 46), (15, 45), (14, 44), (13, 43), (12, 42), (11, 41), (10, 40), (9, 39), (8, 38), (7, 37), (6, 36), (5, 35), (4, 34), (3, 33), (2, 32), (1, 31), (0, 30)] hh mixed (by kernel_rfl) cG rfl (by repeat (first | exact bX | refine bA ?_ | refine bV ?_)) ?_
    refine za ?_
    refine za ?_
    refine Bq ?_
    refine jP ?_
    refine hU (fun _ hj => hE.ld (hj.hp.sub (.cons _ (.cons _ (List.Sublist.refl _))))) ?_
    refine za ?_
    refine Bq ?_
    refine jP ?_
    refine hU (fun _ hj => hE.ld (hj.hp.sub (.cons _ (.cons _ (List.Sublist.refl _))))) ?_
    refine za ?_
    refine Bq ?_
    refine jP ?_
    refine hU (fun _ hj => hE.ld (hj.hp.sub (.cons _ (.cons _ (List.Sublist.refl _))))) ?_
    refine qV ?_
    refine jU ?_
    refine AH (q) ?_
    refine rh [_,_,_] (fun _ hj => hj.hp.iZ (f := NR.cells) (x := nR (x.d ^ q)) (l := ml x.d (q + 1)) (i := 3) rfl NR.len (by decide) hq0) ?_
    refine ef 1 [_,_,_] ?_
    refine pD [_,_,_,_,_,_] ?_
    refine bj (i := 19) (Is (.agg #[.bool (nR (x.d ^ (q + 1))).neg, .string (nR (x.d ^ (q + 1))).bJ, .int .i64 (nR (x.d ^ (q + 1))).e])) Is.ext ?_ ?_
    ·intro ρ1 w1 hj hR
     obtain ⟨A48, c48, h48, s48⟩ := hR.1
     exact bW rfl (a3 av.out (aA h48 a9)) (hdm A48 c48 _ (hT.hp hj.hp) s48) (fun _ _ hq => ⟨_, hq.1, hq.2, rfl⟩)
    refine pD [_,_,_] ?_
    refine a0 ?_
    intro f W hJ hV _
    have hb_4 := hJ.bl
    obtain ⟨v50, v49, v48, v47, v46, v45, v44, v43, v42, v41, v40, v39, v38, v37, v36, v35, v34, v33, v32, v31, v30, _⟩ := hV
    obtain ⟨A48, c48, e48, f48⟩ : Rows _ _ _ (f 18) W := v48
    obtain ⟨A50, c50, e50, f50⟩ : Rows _ _ _ (f 20) W := v50
    replace hh := hJ.hp
    refine aN (a4 (aa e50 (aa v49 (aa e48 (aa v47 (aa v46 (aa v45 (aa v44 (aa v43 (aa v42 (aa v41 (aa v40 (aa v39 (aa v38 (aa v37 (aa v36 (aa v35 (aa v34 (aa v33 (aa v32 (aa v31 (aa v30 aM)))))))))))))))))))))) ?_
    dsimp only [ca]
    clear e48 e50 hJ
    refine bF hh (i := 3) rfl rfl rfl (f50) aF.out aC.out rfl (by decide) (by first | rfl | exact bU _ | exact bI _ | exact oneCells_i64s _ | exact bf NR.one _) (by omega) (by omega) (by decide) ?_
    intro A51 c51 w51 hh
    simp only [List.set_cons_zero, List.set_cons_succ] at hh
    refine fh rfl (by decide) ?_
    refine bz dE.out rfl (by decide) ?_
    replace hh := hh.perm (List.perm_middle (l₁ := [_, _]))
    simp only [List.cons_append, List.nil_append] at hh
    refine hE.st (v' := .slice A51 (q + 1 + 1) c51) hh rfl rfl rfl aC.out rfl ?_
    intro ws hh
    replace hh := hh.perm (List.perm_middle (l₁ := [_, _]))
    simp only [List.cons_append, List.nil_append] at hh
    replace hh := hh.perm (List.perm_middle (l₁ := [_, _]))
    simp only [List.cons_append, List.nil_append] at hh
    refine aE (aW (ai ?_))
    have e1 : aQ NR.cells (ml x.d (q + 1)) ++ [.bool (nR (x.d ^ (q + 1))).neg, .string (nR (x.d ^ (q + 1))).bJ, .int .i64 (nR (x.d ^ (q + 1))).e] = aQ NR.cells (ml x.d (q + 1 + 1)) := by rw [show ml x.d (q + 1 + 1) = ml x.d (q + 1) ++ [nR (x.d ^ (q + 1))] from o5 _ _, bR, fB]; rfl
    rw [e1] at hh
    have hcell2 := hE.ld (hh.sub (.cons _ (.cons _ (List.Sublist.refl _))))
    refine ⟨⟨q + 1 + 1, _, _, by omega, by omega, hh⟩, ?_, ?_⟩
    ·unfold vr
     rw [hcell, hcell2]
     show n + 1 - (q + 1 + 1) < n + 1 - (q + 1)
     omega
    ·(repeat (first | exact aw _ _ _ | refine ax rfl ?_ | refine ar rfl ?_))
   ·have hn0 := rU (x := x.d) (m := q + 1) (i := n) (by omega)
    obtain ⟨gq, rfl⟩ := hh.eO (i := 3) rfl (by omega)
    refine aO (mI ?_)
    refine uI (ae (cF ?_))
    refine aP ?_
    refine ay (ay (a6 (ai (sr (mP ?_)))))
    refine fh rfl (by decide) ?_
    refine bz dE.out rfl (by decide) ?_
    refine bh aC.out rfl (hE.ld (hh.sub (.cons _ (.cons _ (List.Sublist.refl _))))) (by decide) ?_
    refine mI ?_
    refine bp (k := n) aF.out aC.size rfl rfl (by omega) (by omega) (by decide) ?_
    refine bQ (vs := [_, _, _]) aC.out rfl (hh.iZ (f := NR.cells) (x := nR (x.d ^ n)) (l := ml x.d (q + 1)) (i := 3) rfl NR.len (by decide) hn0) rfl (by decide) ?_
    refine bE hh 0 [_,_,_] ?_
    intro ws hh
    replace hh : Hp _ (.blk _ _ [_, _, _] _ :: _) _ := hh
    refine ae (ao ?_)
    refine gI (aG rfl (aH (vs := [_, _, _]) aC.out (hh.au (i := 0) (n := 3) rfl rfl) rfl) a7) ?_
    exact ⟨rfl, _, _, _, hm1, hh.sub (.cons _ (.cons _ (List.Sublist.refl _)))⟩
end Go.Proofs.YtaapkaefelhfcaaGreatDoor
