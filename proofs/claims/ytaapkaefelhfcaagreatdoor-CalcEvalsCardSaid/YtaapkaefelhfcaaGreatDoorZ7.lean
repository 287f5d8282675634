/- The row and the card of CalcEvals. -/
import Derived.Test.YtaapkaefelhfcaaGreatDoorCards
import Derived.Test.YtaapkaefelhfcaaGreatDoorTie
import Derived.SevenTiedAt
import Derived.Test.YtaapkaefelhfcaaGreatDoorZ6
/- The walk through ogeelaw09.awake. -/
namespace Go.Proofs.YtaapkaefelhfcaaGreatDoor
open Go.RowKit
set_option maxRecDepth 10000 in
theorem rF (w : World) (hT : gW w) : Calls Tryz.prog 18 #[] w fun r w' => r = .returned (.bool true) ∧ Below w.heap.size w w' := by
 have hh := Hp.start w
 refine aj (N := 144) (l := []) Tryz.func18 rfl rfl (by simp) ?_
 refine sr (aB (ae (sr ?_)))
 refine bA hh (ca 2 _ (by decide) (by decide)) rfl ?_
 intro w17 hh
 refine eH [_,_,_,_] ?_
 refine bA hh (ca 1 _ (by decide) (by decide)) rfl ?_
 intro w19 hh
 refine eH [_,_,_,_] ?_
 refine bO hh (cs := [_, _, _, _, _, _, _, _]) aF.out aA.out (br (ez rfl) (br (ez rfl) ct)) rfl rfl (by decide) (by decide) (by decide) rfl (by decide) ?_
 intro b21 w21 hh
 refine bA hh (eE 2 (some ⟨b21, 0, none⟩) 2 2 _) rfl ?_
 intro w22 hh
 refine cj hh ?_
 intro b1 w1 hh
 refine bD hh 0 [_,_] ?_
 intro ws hh
 replace hh : Hp _ (.blk _ _ [_, _] _ :: _) _ := hh
 refine ae (ah ?_)
 replace hh := show Hp w [.blk b1 24 [.int .i64 2, .slice (some ⟨b21, 0, none⟩) 2 2] (0, 0), .row (some ⟨b21, 0, none⟩) 2 2 55 4 (aP TR.cells (zT qZ))] _ from hh
 refine cg [8] [7] [0, 0, 2, 6, 15, 31, 63, 63, 0, 383, 1023] 9 [[(1, none)], [], [], [(25, some 1), (26, some 2)], [(24, some 0), (27, some 3)], [(28, some 4)], [(23, some 5)], [(23, some 5)], []] [(8, 2), (7, 30), (6, 29), (5, 23), (4, 28), (3, 27), (2, 26), (1, 25), (0, 24)] hh mixed (by kernel_rfl) (ku rfl aA.out cA) rfl (by repeat (first | exact bW | refine bC ?_ | refine bV ?_)) ?_
 refine dZ 0 [_,_] ?_
 refine dC (fun _ hj => ca 3 _ (by decide) (by decide)) ?_
 refine dC (fun _ hj => ca (-1) _ (by decide) (by decide)) ?_
 refine px [_,_,_,_,_,_] ?_
 refine bk (i := 4) (Is (.tuple #[.agg #[.bool (nR ((-7 : Int) : Dyadic)).neg, .string (nR ((-7 : Int) : Dyadic)).bu, .int .i64 (nR ((-7 : Int) : Dyadic)).e], .int .i64 0])) Is.ext ?_ ?_
 ·intro ρ1 w1 hj hR
  obtain ⟨A27, c27, h27, s27⟩ := hR.2.1
  exact bU rfl (a3 ar.out (az (show ρ1 24 = Value.agg (List.toArray _) from hR.1) (az h27 a7))) (B1 (some ⟨b21, 0, none⟩) 2 A27 c27 _ (hT.hp hj.hp) (hj.hp.aJ (i := 1) rfl) (by decide) s27) (fun _ _ hq => ⟨_, hq.1, hq.2, rfl⟩)
 refine Cw ?_
 refine Bz ?_
 refine Bz ?_
 refine bk (i := 8) (cH _ 29 _) cH.ext (fun ρ1 w1 hj hR => fq aA.out hj.bl (fun v w2 h hb => ⟨hb, h⟩)) ?_
 refine a6 ?_
 intro f W hJ hV _
 have hb_2 := hJ.bl
 obtain ⟨v2, v30, v29, v23, v28, v27, v26, v25, v24, _⟩ := hV
 obtain ⟨A27, c27, e27, f27⟩ : Rows _ _ _ (f 3) W := v27
 obtain ⟨b2, e2, hl2, hc2⟩ : cH _ _ _ (f 8) W := v2
 replace hh := hJ.newVar hh hl2 hc2
 refine aK (a4 (aa e2 (aa v30 (aa v29 (aa v23 (aa v28 (aa e27 (aa v26 (aa v25 (aa v24 aM)))))))))) ?_
 dsimp only [bX]
 clear e27 e2 hJ
 refine bD hh 0 [_,_,_] ?_
 intro ws hh
 replace hh : Hp _ (.blk _ _ [_, _, _] _ :: _) _ := hh
 refine aI (ae (sr ?_))
 refine cB hh 1 [_,_] ?_
 refine aR (B2 [([1, 1], 2)] 0 _ 2 _ (hT.hp hh) (hh.aJ (i := 2) rfl) (by decide) (by decide) zj rfl) ar.out rfl (by decide) ?_
 rintro e_ w33 ⟨A4, c4, rfl, h2⟩
 refine ⟨_, rfl, ?_⟩
 replace hh := hh.join h2
 simp only [List.cons_append, List.nil_append] at hh
 clear h2
 refine mT ?_
 refine dx ?_
 refine dx ?_
 refine cj hh ?_
 intro b4 w4 hh
 refine bD hh 0 [_,_] ?_
 intro ws hh
 replace hh : Hp _ (.blk _ _ [_, _] _ :: _) _ := hh
 refine aI (ae (sr ?_))
 refine cB hh 3 [_,_] ?_
 refine aR (B2 [([2, 0], 1)] 1 _ 2 _ (hT.hp hh) (hh.aJ (i := 4) rfl) (by decide) (by decide) yW rfl) ar.out rfl (by decide) ?_
 rintro e_ w38 ⟨A6, c6, rfl, h2⟩
 refine ⟨_, rfl, ?_⟩
 replace hh := hh.join h2
 simp only [List.cons_append, List.nil_append] at hh
 clear h2
 refine mT ?_
 refine dx ?_
 refine dx ?_
 refine cj hh ?_
 intro b6 w6 hh
 refine bD hh 0 [_,_] ?_
 intro ws hh
 replace hh : Hp _ (.blk _ _ [_, _] _ :: _) _ := hh
 refine aI (ae (sr ?_))
 refine bA hh (ca 1 _ (by decide) (by decide)) rfl ?_
 intro w41 hh
 refine eH [_,_,_,_] ?_
 refine bA hh (ca 1 _ (by decide) (by decide)) rfl ?_
 intro w43 hh
 refine eH [_,_,_,_] ?_
 refine bO hh (cs := [_, _, _, _, _, _, _, _]) aF.out aA.out (br (ez rfl) (br (ez rfl) ct)) rfl rfl (by decide) (by decide) (by decide) rfl (by decide) ?_
 intro b45 w45 hh
 refine bA hh (eE 2 (some ⟨b45, 0, none⟩) 2 2 _) rfl ?_
 intro w46 hh
 refine cj hh ?_
 intro b8 w8 hh
 refine bD hh 0 [_,_] ?_
 intro ws hh
 replace hh : Hp _ (.blk _ _ [_, _] _ :: _) _ := hh
 refine ae (ah ?_)
 replace hh := show Hp w (.blk b8 24 [.int .i64 2, .slice (some ⟨b45, 0, none⟩) 2 2] (0, 0) :: .row (some ⟨b45, 0, none⟩) 2 2 55 4 (aP TR.cells (zT qS)) :: _) _ from hh
 refine cg [10] [9] [0, 1, 3, 7, 0, 16, 63, 127, 255, 255, 0, 1535, 4095] 11 [[], [(48, some 0)], [(49, some 1)], [(50, some 2)], [(8, none)], [(52, some 4)], [(51, some 3), (53, some 5)], [(54, some 6)], [(47, some 7)], [(47, some 7)], []] [(10, 9), (9, 56), (8, 55), (7, 47), (6, 54), (5, 53), (4, 52), (3, 51), (2, 50), (1, 49), (0, 48)] hh mixed (by kernel_rfl) (ku rfl aA.out cA) rfl (by repeat (first | exact bW | refine bC ?_ | refine bV ?_)) ?_
 refine dC (fun _ hj => ca (1) _ (by decide) (by decide)) ?_
 refine dB [_,_,_,_] ?_
 refine bk (i := 2) (fm 1 4 (aP TR.cells (zT [([2], 1)]))) (fm.ext) ?_ ?_
 ·intro ρ1 w1 hj hR
  exact fp (sz := 4) aF.out aA.out (show pf ρ1 [(0, .tmp 49)] = [(0, .agg #[.string (str [2]), .bool (nR ((1 : Int) : Dyadic)).neg, .string (nR ((1 : Int) : Dyadic)).bu, .int .i64 (nR ((1 : Int) : Dyadic)).e])] from br (show ρ1 49 = _ from hR.1) ct) rfl rfl (by decide) (by decide) rfl fun v w2 h hb => ⟨hb, h⟩
 refine bk (i := 3) (mm 1 1 (zT [([2], 1)])) (mm.ext) ?_ ?_
 ·intro ρ1 w1 hj hR
  exact let ⟨b, e1, s1⟩ := hR.1; bU rfl (a3 ar.out (az rfl (az e1 a7))) (eE 1 (some ⟨b, 0, none⟩) 1 1 w1) (fun _ _ hq => ⟨_, hq.1, hq.2, b, rfl, s1.ext hq.2⟩)
 refine dZ 0 [_,_] ?_
 refine bk (i := 5) (fm 1 2 (aP PX.cells [⟨2, some ⟨b45, 0, none⟩, 2, 2, zT qS⟩])) (fm.ext) ?_ ?_
 ·intro ρ1 w1 hj hR
  exact fp (sz := 2) aF.out aA.out (show pf ρ1 [(0, .tmp 52)] = [(0, .agg #[.int .i64 2, .slice (some ⟨b45, 0, none⟩) 2 2])] from br (show ρ1 52 = _ from hR.1) ct) rfl rfl (by decide) (by decide) rfl fun v w2 h hb => ⟨hb, h⟩
 refine bk (i := 6) (ix hh.sz 0 2 (zT [([0, 2], 1), ([1, 1], 2), ([2, 0], 1)])) (ix.ext) ?_ ?_
 ·intro ρ1 w1 hj hR
  exact let ⟨b, e1, s1⟩ := hR.1; let ⟨d, e2, s2⟩ := hR.2.1; bU rfl (a3 ar.out (az e1 (az e2 a7))) (Cu b d b45 w1 (hT.hp hj.hp) s1 s2 (hj.hp.aJ (i := 1) rfl)) (fun _ _ ⟨g, og, hq, h3⟩ => ⟨_, hq, h3.below, g, w1, rfl, og, hj.bl.size, h3⟩)
 refine bk (i := 7) (ix hh.sz 0 2 (zT [([0, 2], 1), ([1, 1], 2), ([2, 0], 1)])) (ix.ext) ?_ ?_
 ·intro ρ1 w1 hj hR
  exact let ⟨g, u, e1, e2⟩ := hR.1; bY rfl (df e1) ⟨Below.refl _ _, g, u, rfl, e2⟩
 refine bk (i := 8) (iq hh.sz 0 2 (zT [([0, 2], 1), ([1, 1], 2), ([2, 0], 1)])) (iq.ext) ?_ ?_
 ·intro ρ1 w1 hj hR
  exact let ⟨g, u, e1, e2⟩ := hR.1; bY rfl (eb (vs := [_, _]) e1 rfl) ⟨Below.refl _ _, g, u, rfl, e2⟩
 refine bk (i := 9) (Is (.int .i64 0)) (Is.ext) ?_ ?_
 ·intro ρ1 w1 hj hR
  exact let ⟨g, u, e1, e2⟩ := hR.1; bY rfl (eb (vs := [_, _]) e1 rfl) ⟨Below.refl _ _, rfl⟩
 refine bk (i := 10) (cH _ 24 _) cH.ext (fun ρ1 w1 hj hR => fq aA.out hj.bl (fun v w2 h hb => ⟨hb, h⟩)) ?_
 refine a6 ?_
 intro f W hJ hV _
 have hb_6 := hJ.bl
 obtain ⟨v9, v56, v55, v47, v54, v53, v52, v51, v50, v49, v48, _⟩ := hV
 obtain ⟨g50, e50, o50⟩ : fm 1 4 (aP TR.cells (zT [([2], 1)])) (f 2) W := v50
 obtain ⟨g51, e51, o51⟩ : mm 1 1 (zT [([2], 1)]) (f 3) W := v51
 obtain ⟨g53, e53, o53⟩ : fm 1 2 (aP PX.cells [⟨2, some ⟨b45, 0, none⟩, 2, 2, zT qS⟩]) (f 5) W := v53
 obtain ⟨g54, u54, e54, -⟩ := v54
 obtain ⟨g47, u47, e47, -⟩ := v47
 obtain ⟨g55, u55, e55, o55, q55, h55⟩ := v55
 obtain ⟨b9, e9, hl9, hc9⟩ : cH _ _ _ (f 10) W := v9
 replace hh := hJ.mq hh hl9 hc9 q55 h55 (PX.ne h55 hc9 (by decide))
 refine aK (a4 (aa e9 (aa v56 (aa e55 (aa e47 (aa e54 (aa e53 (aa v52 (aa e51 (aa e50 (aa v49 (aa v48 aM)))))))))))) ?_
 dsimp only [bX]
 clear e50 e51 e53 e54 e47 e55 e9 hJ
 simp only [List.cons_append, List.nil_append] at hh
 obtain ⟨A9, c9, rfl⟩ := o55.zT (show PX.at_ _ _ from hh.aJ (i := 1) rfl)
 refine bD hh 0 [_,_] ?_
 intro ws hh
 replace hh : Hp _ (.blk _ _ [_, _] _ :: _) _ := hh
 refine aI (ae (ah ?_))
 refine cg [6] [5] [0, 0, 3, 7, 15, 15, 0, 95, 255] 7 [[(1, none)], [], [(58, some 0), (59, some 1)], [(60, some 2)], [(57, some 3)], [(57, some 3)], []] [(6, 11), (5, 62), (4, 61), (3, 57), (2, 60), (1, 59), (0, 58)] hh mixed (by kernel_rfl) (ku rfl aA.out cA) rfl (by repeat (first | exact bW | refine bC ?_ | refine bV ?_)) ?_
 refine dZ 9 [_,_] ?_
 refine dC (fun _ hj => ca (3) _ (by decide) (by decide)) ?_
 refine bk (i := 2) (ix hh.sz 0 1 (zT [([0], 2), ([1], 9)])) (ix.ext) ?_ ?_
 ·intro ρ1 w1 hj hR
  exact bU rfl (a3 ar.out (az (show ρ1 58 = Value.agg _ from hR.1) (az rfl (az (show ρ1 59 = Value.agg _ from hR.2.1) a7)))) (BU (some ⟨b21, 0, none⟩) 2 w1 (hT.hp hj.hp) (hj.hp.aJ (i := 10) rfl) (by decide)) (fun _ _ ⟨g, og, hq, h3⟩ => ⟨_, hq, h3.below, g, w1, rfl, og, hj.bl.size, h3⟩)
 refine bk (i := 3) (ix hh.sz 0 1 (zT [([0], 2), ([1], 9)])) (ix.ext) ?_ ?_
 ·intro ρ1 w1 hj hR
  exact let ⟨g, u, e1, e2⟩ := hR.1; bY rfl (df e1) ⟨Below.refl _ _, g, u, rfl, e2⟩
 refine bk (i := 4) (iq hh.sz 0 1 (zT [([0], 2), ([1], 9)])) (iq.ext) ?_ ?_
 ·intro ρ1 w1 hj hR
  exact let ⟨g, u, e1, e2⟩ := hR.1; bY rfl (eb (vs := [_, _]) e1 rfl) ⟨Below.refl _ _, g, u, rfl, e2⟩
 refine bk (i := 5) (Is (.int .i64 0)) (Is.ext) ?_ ?_
 ·intro ρ1 w1 hj hR
  exact let ⟨g, u, e1, e2⟩ := hR.1; bY rfl (eb (vs := [_, _]) e1 rfl) ⟨Below.refl _ _, rfl⟩
 refine bk (i := 6) (cH _ 24 _) cH.ext (fun ρ1 w1 hj hR => fq aA.out hj.bl (fun v w2 h hb => ⟨hb, h⟩)) ?_
 refine a6 ?_
 intro f W hJ hV _
 have hb_7 := hJ.bl
 obtain ⟨v11, v62, v61, v57, v60, v59, v58, _⟩ := hV
 obtain ⟨g60, u60, e60, -⟩ := v60
 obtain ⟨g57, u57, e57, -⟩ := v57
 obtain ⟨g61, u61, e61, o61, q61, h61⟩ := v61
 obtain ⟨b11, e11, hl11, hc11⟩ : cH _ _ _ (f 6) W := v11
 replace hh := hJ.mq hh hl11 hc11 q61 h61 (PX.ne h61 hc11 (by decide))
 refine aK (a4 (aa e11 (aa v62 (aa e61 (aa e57 (aa e60 (aa v59 (aa v58 aM)))))))) ?_
 dsimp only [bX]
 clear e60 e57 e61 e11 hJ
 simp only [List.cons_append, List.nil_append] at hh
 obtain ⟨A11, c11, rfl⟩ := o61.zT (show PX.at_ _ _ from hh.aJ (i := 1) rfl)
 refine bD hh 0 [_,_] ?_
 intro ws hh
 replace hh : Hp _ (.blk _ _ [_, _] _ :: _) _ := hh
 refine aI (ae (ah ?_))
 refine cg [7] [6] [0, 0, 2, 7, 15, 31, 31, 0, 191, 511] 8 [[(8, none)], [], [(65, some 1)], [(64, some 0), (66, some 2)], [(67, some 3)], [(63, some 4)], [(63, some 4)], []] [(7, 13), (6, 69), (5, 68), (4, 63), (3, 67), (2, 66), (1, 65), (0, 64)] hh mixed (by kernel_rfl) (ku rfl aA.out cA) rfl (by repeat (first | exact bW | refine bC ?_ | refine bV ?_)) ?_
 refine dZ 4 [_,_] ?_
 refine dC (fun _ hj => ca 1 _ (by decide) (by decide)) ?_
 refine px [_,_,_] ?_
 refine bk (i := 3) (Is (.tuple #[.agg #[.bool (nR 0).neg, .string (nR 0).bu, .int .i64 (nR 0).e], .int .i64 1])) Is.ext ?_ ?_
 ·intro ρ1 w1 hj hR
  obtain ⟨A66, c66, h66, s66⟩ := hR.2.1
  exact bU rfl (a3 ar.out (az (show ρ1 64 = Value.agg (List.toArray _) from hR.1) (az h66 a7))) (xW (some ⟨b45, 0, none⟩) 2 A66 c66 _ (hT.hp hj.hp) (hj.hp.aJ (i := 5) rfl) (by decide) s66) (fun _ _ hq => ⟨_, hq.1, hq.2, rfl⟩)
 refine Cw ?_
 refine Bz ?_
 refine Bz ?_
 refine bk (i := 7) (cH _ 29 _) cH.ext (fun ρ1 w1 hj hR => fq aA.out hj.bl (fun v w2 h hb => ⟨hb, h⟩)) ?_
 refine a6 ?_
 intro f W hJ hV _
 have hb_8 := hJ.bl
 obtain ⟨v13, v69, v68, v63, v67, v66, v65, v64, _⟩ := hV
 obtain ⟨A66, c66, e66, f66⟩ : Rows _ _ _ (f 2) W := v66
 obtain ⟨b13, e13, hl13, hc13⟩ : cH _ _ _ (f 7) W := v13
 replace hh := hJ.newVar hh hl13 hc13
 refine aK (a4 (aa e13 (aa v69 (aa v68 (aa v63 (aa v67 (aa e66 (aa v65 (aa v64 aM))))))))) ?_
 dsimp only [bX]
 clear e66 e13 hJ
 refine bD hh 0 [_,_,_] ?_
 intro ws hh
 replace hh : Hp _ (.blk _ _ [_, _, _] _ :: _) _ := hh
 refine aI (ae (sr ?_))
 refine bA hh (eE 0 none 0 0 _) rfl ?_
 intro w71 hh
 refine aR (y3 _ (hT.hp hh)) ar.out rfl (by decide) ?_
 rintro e_ w72 ⟨g15, rfl, hb_⟩
 refine ⟨_, rfl, ?_⟩
 replace hh := hh.ext hb_
 refine mT ?_
 refine dx ?_
 refine dx ?_
 refine cj hh ?_
 intro b15 w15 hh
 refine bD hh 0 [_,_] ?_
 intro ws hh
 replace hh : Hp _ (.blk _ _ [_, _] _ :: _) _ := hh
 refine aI (ae (ah ?_))
 replace hh := show Hp w (_ :: _ :: .blk b11 24 [.int .i64 1, .slice A11 2 c11] (0, 0) :: .row A11 2 c11 55 4 (aP TR.cells (zT [([0], 2), ([1], 9)])) :: .blk b9 24 [.int .i64 2, .slice A9 3 c9] (0, 0) :: .row A9 3 c9 55 4 (aP TR.cells (zT [([0, 2], 1), ([1, 1], 2), ([2, 0], 1)])) :: _ :: _ :: .blk b6 24 [.int .i64 2, .slice A6 1 c6] (0, 0) :: .row A6 1 c6 55 4 (aP TR.cells (zT [([2, 0], 1)])) :: .blk b4 24 [.int .i64 2, .slice A4 1 c4] (0, 0) :: .row A4 1 c4 55 4 (aP TR.cells (zT [([1, 1], 2)])) :: _) _ from hh
 refine cg [] [] [0, 0, 3, 7, 15, 31, 63, 127, 255, 255, 767, 1791, 3839, 8191, 16383, 32767, 65535, 131071, 262143, 524287, 1048575, 1048575, 3145727, 7340031, 15728639, 33554431, 67108863, 134217727, 268435455, 536870911, 1073741823, 2147483647, 4294967295, 4294967295, 12884901887, 12884901887, 47244640255, 47244640255, 184683593727, 545460846591, 1095216660479, 2199023255551, 4398046511103, 8796093022207, 17592186044415, 35184372088831, 70368744177663, 140737488355327, 281474976710655, 281474976710655, 844424930131967, 844424930131967, 3096224743817215, 8725724278030335, 17732923532771327, 36028797018963967, 72057594037927935, 144115188075855871, 288230376151711743, 576460752303423487, 1152921504606846975, 2305843009213693951, 4611686018427387903, 9223372036854775807, 18446744073709551615, 36893488147419103231, 73786976294838206463, 147573952589676412927, 295147905179352825855, 590295810358705651711] 55 [[(2, none)], [], [(75, some 0), (76, some 1)], [(77, some 2)], [(3, none), (78, some 3)], [(79, some 4), (78, some 3)], [(78, some 3), (80, some 5)], [(81, some 6)], [(4, none), (82, some 7)], [(82, some 7)], [(84, some 9), (82, some 7)], [(85, some 10), (82, some 7)], [(86, some 11), (82, some 7)], [(83, some 8), (87, some 12), (82, some 7)], [(82, some 7), (88, some 13)], [(89, some 14)], [(5, none), (90, some 15)], [(91, some 16), (90, some 15)], [(90, some 15), (92, some 17)], [(93, some 18)], [(6, none), (94, some 19)], [(94, some 19)], [(96, some 21), (94, some 19)], [(97, some 22), (94, some 19)], [(98, some 23), (94, some 19)], [(95, some 20), (99, some 24), (94, some 19)], [(94, some 19), (100, some 25)], [(101, some 26)], [(7, none), (102, some 27)], [(103, some 28), (102, some 27)], [(102, some 27), (104, some 29)], [(105, some 30)], [(9, none), (106, some 31)], [(106, some 31)], [(108, some 33), (106, some 31)], [(106, some 31)], [(110, some 35), (106, some 31)], [(106, some 31)], [(112, some 37), (106, some 31)], [(109, some 34), (111, some 36), (113, some 38), (106, some 31)], [(114, some 39), (106, some 31)], [(107, some 32), (115, some 40), (106, some 31)], [(106, some 31), (116, some 41)], [(117, some 42)], [(10, none), (118, some 43)], [(119, some 44), (118, some 43)], [(118, some 43), (120, some 45)], [(121, some 46)], [(11, none), (122, some 47)], [(122, some 47)], [(124, some 49), (122, some 47)], [(122, some 47)], [(126, some 51), (122, some 47)], [(125, some 50), (127, some 52), (122, some 47)], [(128, some 53), (122, some 47)]] [(54, 129), (53, 128), (52, 127), (51, 126), (50, 125), (49, 124), (48, 123), (47, 122), (46, 121), (45, 120), (44, 119), (43, 118), (42, 117), (41, 116), (40, 115), (39, 114), (38, 113), (37, 112), (36, 111), (35, 110), (34, 109), (33, 108), (32, 107), (31, 106), (30, 105), (29, 104), (28, 103), (27, 102), (26, 101), (25, 100), (24, 99), (23, 98), (22, 97), (21, 96), (20, 95), (19, 94), (18, 93), (17, 92), (16, 91), (15, 90), (14, 89), (13, 88), (12, 87), (11, 86), (10, 85), (9, 84), (8, 83), (7, 82), (6, 81), (5, 80), (4, 79), (3, 78), (2, 77), (1, 76), (0, 75)] hh mixed (by kernel_rfl) cA rfl (by repeat (first | exact bW | refine bC ?_ | refine bV ?_)) ?_
 refine dZ 12 [_,_,_] ?_
 refine dC (fun _ hj => ca (-7) _ (by decide) (by decide)) ?_
 first | refine bm (i := 2) (fun ρ1 w1 hj hR => vx (show ρ1 75 = Value.agg (List.toArray _) from hR.1) (show ρ1 76 = Value.agg (List.toArray _) from hR.2.1) (by first | assumption | rfl)) ?_ | refine bm (i := 2) (fun ρ1 w1 hj hR => vX (show ρ1 75 = Value.agg (List.toArray _) from hR.1) (show ρ1 76 = Value.agg (List.toArray _) from hR.2.1) (by assumption)) ?_
 refine gY ?_
 first | refine dS ?_ | refine dU ?_ | refine dG (ej ?_)
 first | refine dS ?_ | refine dU ?_ | refine dG (lZ ?_)
 first | refine n0 ?_ | refine oP ?_
 refine gY ?_
 first | refine dS ?_ | refine dU ?_ | refine dG (dZ 10 [_,_] ?_)
 refine bK (i := 9) rfl (fun ρ1 w1 hj hR => (show ρ1 82 = Value.bool _ from hR.1)) (fun ρ1 w1 hj hR => a3 ar.out (az rfl a7)) (fun w1 hj => ca (2) _ (by decide) (by decide)) ?_
 first | refine dS ?_ | refine dU ?_ | refine dG (dB [_,_,_,_] ?_)
 refine eG (i := 11) (cs := [_, _, _, _]) rfl (fun ρ1 w1 hj hR => (show ρ1 82 = Value.bool _ from hR.2.1)) aF.out aA.out (fun ρ1 w1 hj hR => (br (show ρ1 85 = Value.agg (List.toArray _) from hR.1) ct)) rfl rfl (by decide) (by decide) rfl ?_
 refine bk (i := 12) (fG 2 1 (zT [([1, 1], 2)])) (fG.ext) ?_ ?_
 ·intro ρ1 w1 hj hR
  obtain ⟨A86, c86, h86, s86⟩ := hR.1
  exact cM rfl (show ρ1 82 = Value.bool _ from hR.2.1) (bU rfl (a3 ar.out (az rfl (az h86 a7))) (eE 2 A86 1 c86 w1) (fun _ _ hq => ⟨_, hq.1, hq.2, (A86, c86), rfl, s86.ext hq.2⟩))
 refine bk (i := 13) (Is (.bool true)) (Is.ext) ?_ ?_
 ·intro ρ1 w1 hj hR
  exact let ⟨p, e1, s1⟩ := hR.2.1; cM rfl (show ρ1 82 = Value.bool _ from hR.2.2.1) (bU rfl (a3 ar.out (az (show ρ1 83 = Value.agg _ from hR.1) (az e1 a7))) (vk [([1, 1], 2)] 2 A4 1 c4 p.1 p.2 w1 (hj.hp.aJ (i := 11) rfl) s1 (by decide)) (fun _ _ hq => ⟨_, hq.1, hq.2, rfl⟩))
 first | refine n0 ?_ | refine oP ?_
 refine gY ?_
 first | refine dS ?_ | refine dU ?_ | refine dG (ej ?_)
 first | refine dS ?_ | refine dU ?_ | refine dG (lZ ?_)
 first | refine n0 ?_ | refine oP ?_
 refine gY ?_
 first | refine dS ?_ | refine dU ?_ | refine dG (dZ 8 [_,_] ?_)
 refine bK (i := 21) rfl (fun ρ1 w1 hj hR => (show ρ1 94 = Value.bool _ from hR.1)) (fun ρ1 w1 hj hR => a3 ar.out (az rfl a7)) (fun w1 hj => ca (1) _ (by decide) (by decide)) ?_
 first | refine dS ?_ | refine dU ?_ | refine dG (dB [_,_,_,_] ?_)
 refine eG (i := 23) (cs := [_, _, _, _]) rfl (fun ρ1 w1 hj hR => (show ρ1 94 = Value.bool _ from hR.2.1)) aF.out aA.out (fun ρ1 w1 hj hR => (br (show ρ1 97 = Value.agg (List.toArray _) from hR.1) ct)) rfl rfl (by decide) (by decide) rfl ?_
 refine bk (i := 24) (fG 2 1 (zT [([2, 0], 1)])) (fG.ext) ?_ ?_
 ·intro ρ1 w1 hj hR
  obtain ⟨A98, c98, h98, s98⟩ := hR.1
  exact cM rfl (show ρ1 94 = Value.bool _ from hR.2.1) (bU rfl (a3 ar.out (az rfl (az h98 a7))) (eE 2 A98 1 c98 w1) (fun _ _ hq => ⟨_, hq.1, hq.2, (A98, c98), rfl, s98.ext hq.2⟩))
 refine bk (i := 25) (Is (.bool true)) (Is.ext) ?_ ?_
 ·intro ρ1 w1 hj hR
  exact let ⟨p, e1, s1⟩ := hR.2.1; cM rfl (show ρ1 94 = Value.bool _ from hR.2.2.1) (bU rfl (a3 ar.out (az (show ρ1 95 = Value.agg _ from hR.1) (az e1 a7))) (vk [([2, 0], 1)] 2 A6 1 c6 p.1 p.2 w1 (hj.hp.aJ (i := 9) rfl) s1 (by decide)) (fun _ _ hq => ⟨_, hq.1, hq.2, rfl⟩))
 first | refine n0 ?_ | refine oP ?_
 refine gY ?_
 first | refine dS ?_ | refine dU ?_ | refine dG (ej ?_)
 first | refine dS ?_ | refine dU ?_ | refine dG (lZ ?_)
 first | refine n0 ?_ | refine oP ?_
 refine gY ?_
 first | refine dS ?_ | refine dU ?_ | refine dG (dZ 4 [_,_] ?_)
 refine bK (i := 33) rfl (fun ρ1 w1 hj hR => (show ρ1 106 = Value.bool _ from hR.1)) (fun ρ1 w1 hj hR => a3 ar.out (az rfl a7)) (fun w1 hj => ca (1) _ (by decide) (by decide)) ?_
 first | refine dS ?_ | refine dU ?_ | refine dG (dB [_,_,_,_] ?_)
 refine bK (i := 35) rfl (fun ρ1 w1 hj hR => (show ρ1 106 = Value.bool _ from hR.1)) (fun ρ1 w1 hj hR => a3 ar.out (az rfl a7)) (fun w1 hj => ca (2) _ (by decide) (by decide)) ?_
 first | refine dS ?_ | refine dU ?_ | refine dG (dB [_,_,_,_] ?_)
 refine bK (i := 37) rfl (fun ρ1 w1 hj hR => (show ρ1 106 = Value.bool _ from hR.1)) (fun ρ1 w1 hj hR => a3 ar.out (az rfl a7)) (fun w1 hj => ca (1) _ (by decide) (by decide)) ?_
 first | refine dS ?_ | refine dU ?_ | refine dG (dB [_,_,_,_] ?_)
 refine eG (i := 39) (cs := [_, _, _, _, _, _, _, _, _, _, _, _]) rfl (fun ρ1 w1 hj hR => (show ρ1 106 = Value.bool _ from hR.2.2.2.1)) aF.out aA.out (fun ρ1 w1 hj hR => (br (show ρ1 109 = Value.agg (List.toArray _) from hR.1) (br (show ρ1 111 = Value.agg (List.toArray _) from hR.2.1) (br (show ρ1 113 = Value.agg (List.toArray _) from hR.2.2.1) ct)))) rfl rfl (by decide) (by decide) rfl ?_
 refine bk (i := 40) (fG 2 3 (zT [([0, 2], 1), ([1, 1], 2), ([2, 0], 1)])) (fG.ext) ?_ ?_
 ·intro ρ1 w1 hj hR
  obtain ⟨A114, c114, h114, s114⟩ := hR.1
  exact cM rfl (show ρ1 106 = Value.bool _ from hR.2.1) (bU rfl (a3 ar.out (az rfl (az h114 a7))) (eE 2 A114 3 c114 w1) (fun _ _ hq => ⟨_, hq.1, hq.2, (A114, c114), rfl, s114.ext hq.2⟩))
 refine bk (i := 41) (Is (.bool true)) (Is.ext) ?_ ?_
 ·intro ρ1 w1 hj hR
  exact let ⟨p, e1, s1⟩ := hR.2.1; cM rfl (show ρ1 106 = Value.bool _ from hR.2.2.1) (bU rfl (a3 ar.out (az (show ρ1 107 = Value.agg _ from hR.1) (az e1 a7))) (vk [([0, 2], 1), ([1, 1], 2), ([2, 0], 1)] 2 A9 3 c9 p.1 p.2 w1 (hj.hp.aJ (i := 5) rfl) s1 (by decide)) (fun _ _ hq => ⟨_, hq.1, hq.2, rfl⟩))
 first | refine n0 ?_ | refine oP ?_
 refine gY ?_
 first | refine dS ?_ | refine dU ?_ | refine dG (ej ?_)
 first | refine dS ?_ | refine dU ?_ | refine dG (lZ ?_)
 first | refine n0 ?_ | refine oP ?_
 refine gY ?_
 first | refine dS ?_ | refine dU ?_ | refine dG (dZ 2 [_,_] ?_)
 refine bK (i := 49) rfl (fun ρ1 w1 hj hR => (show ρ1 122 = Value.bool _ from hR.1)) (fun ρ1 w1 hj hR => a3 ar.out (az rfl a7)) (fun w1 hj => ca (2) _ (by decide) (by decide)) ?_
 first | refine dS ?_ | refine dU ?_ | refine dG (dB [_,_,_,_] ?_)
 refine bK (i := 51) rfl (fun ρ1 w1 hj hR => (show ρ1 122 = Value.bool _ from hR.1)) (fun ρ1 w1 hj hR => a3 ar.out (az rfl a7)) (fun w1 hj => ca (9) _ (by decide) (by decide)) ?_
 first | refine dS ?_ | refine dU ?_ | refine dG (dB [_,_,_,_] ?_)
 refine eG (i := 53) (cs := [_, _, _, _, _, _, _, _]) rfl (fun ρ1 w1 hj hR => (show ρ1 122 = Value.bool _ from hR.2.2.1)) aF.out aA.out (fun ρ1 w1 hj hR => (br (show ρ1 125 = Value.agg (List.toArray _) from hR.1) (br (show ρ1 127 = Value.agg (List.toArray _) from hR.2.1) ct))) rfl rfl (by decide) (by decide) rfl ?_
 refine bk (i := 54) (fG 1 2 (zT [([0], 2), ([1], 9)])) (fG.ext) ?_ ?_
 ·intro ρ1 w1 hj hR
  obtain ⟨A128, c128, h128, s128⟩ := hR.1
  exact cM rfl (show ρ1 122 = Value.bool _ from hR.2.1) (bU rfl (a3 ar.out (az rfl (az h128 a7))) (eE 1 A128 2 c128 w1) (fun _ _ hq => ⟨_, hq.1, hq.2, (A128, c128), rfl, s128.ext hq.2⟩))
 refine a6 ?_
 intro f W hJ hV _
 have hb_10 := hJ.bl
 obtain ⟨v129, v128, v127, v126, v125, v124, v123, v122, v121, v120, v119, v118, v117, v116, v115, v114, v113, v112, v111, v110, v109, v108, v107, v106, v105, v104, v103, v102, v101, v100, v99, v98, v97, v96, v95, v94, v93, v92, v91, v90, v89, v88, v87, v86, v85, v84, v83, v82, v81, v80, v79, v78, v77, v76, v75, _⟩ := hV
 obtain ⟨A86, c86, e86, f86⟩ : Rows _ _ _ (f 11) W := v86
 obtain ⟨g87, e87, o87⟩ : fG 2 1 (zT [([1, 1], 2)]) (f 12) W := v87
 obtain ⟨A98, c98, e98, f98⟩ : Rows _ _ _ (f 23) W := v98
 obtain ⟨g99, e99, o99⟩ : fG 2 1 (zT [([2, 0], 1)]) (f 24) W := v99
 obtain ⟨A114, c114, e114, f114⟩ : Rows _ _ _ (f 39) W := v114
 obtain ⟨g115, e115, o115⟩ : fG 2 3 (zT [([0, 2], 1), ([1, 1], 2), ([2, 0], 1)]) (f 40) W := v115
 obtain ⟨A128, c128, e128, f128⟩ : Rows _ _ _ (f 53) W := v128
 obtain ⟨g129, e129, o129⟩ : fG 1 2 (zT [([0], 2), ([1], 9)]) (f 54) W := v129
 replace hh := hJ.hp
 refine aK (a4 (aa e129 (aa e128 (aa v127 (aa v126 (aa v125 (aa v124 (aa v123 (aa v122 (aa v121 (aa v120 (aa v119 (aa v118 (aa v117 (aa v116 (aa e115 (aa e114 (aa v113 (aa v112 (aa v111 (aa v110 (aa v109 (aa v108 (aa v107 (aa v106 (aa v105 (aa v104 (aa v103 (aa v102 (aa v101 (aa v100 (aa e99 (aa e98 (aa v97 (aa v96 (aa v95 (aa v94 (aa v93 (aa v92 (aa v91 (aa v90 (aa v89 (aa v88 (aa e87 (aa e86 (aa v85 (aa v84 (aa v83 (aa v82 (aa v81 (aa v80 (aa v79 (aa v78 (aa v77 (aa v76 (aa v75 aM)))))))))))))))))))))))))))))))))))))))))))))))))))))))) ?_
 dsimp only [bX]
 clear e86 e87 e98 e99 e114 e115 e128 e129 hJ
 refine bq rfl rfl ?_
 refine bA hh (vk [([0], 2), ([1], 9)] 1 A11 2 c11 g129.1 g129.2 _ (hh.aJ (i := 3) rfl) o129 (by decide)) rfl ?_
 intro w130 hh
 first | refine cS ?_ | refine cU ?_
 refine mB ?_
 first | refine gS ?_ | (refine gT ?_; refine mI ?_) | refine gV ?_
 first | refine gS ?_ | (refine gT ?_; refine cu ?_) | refine gV ?_
 first | refine cS ?_ | refine cU ?_
 refine mB ?_
 first | refine gS ?_ | (refine gT ?_; refine mI ?_) | refine gV ?_
 first | refine gS ?_ | (refine gT ?_; refine cu ?_) | refine gV ?_
 first | refine cS ?_ | refine cU ?_
 refine mB ?_
 first | refine gS ?_ | (refine gT ?_; refine mI ?_) | refine gV ?_
 first | refine gS ?_ | (refine gT ?_; refine cu ?_) | refine gV ?_
 first | refine cS ?_ | refine cU ?_
 refine aB (ae (al ?_))
 refine cn ?_
 exact ⟨rfl, hh.below⟩
end Go.Proofs.YtaapkaefelhfcaaGreatDoor
/- The walks through the document's has and Derive (ogeeref09). -/
namespace Go.Proofs.YtaapkaefelhfcaaGreatDoor
open Go.RowKit
theorem nL (p : PX) (i : Int) (k : Nat) (w : World) (hp : p.at_ w) (lp : p.lk k) :
  Calls Tryz.prog 92 #[.agg #[.int .i64 p.v, .slice p.A p.n p.c], .int .i64 i] w fun r w' => r = .returned (.int .i64 (gf p i)) ∧ Below w.heap.size w w' := by
 have hh := Hp.start w
 have hck := fun w1 hb => sK p k w1 (hp.ext hb) lp
 unfold gf
 by_cases h0 : p.e = 0
 ·rw [if_pos h0]
  rw [h0] at hck
  by_cases h1 : i < 0
  ·rw [if_pos (.inl h1)]
   refine aj (N := 19) (l := [.agg #[.int .i64 p.v, .slice p.A p.n p.c], .int .i64 i]) Tryz.func92 rfl rfl (by simp) ?_
   refine sr ?_
   refine cz hh [_,_] ?_
   intro b2 w2 hh
   refine aI (ae (ah (sr ?_)))
   refine cB hh 0 [_,_] ?_
   refine bA hh (hck _ hh.below) rfl ?_
   intro w7 hh
   refine aI (ae (sr (mI ?_)))
   refine cQ (ae (cF (ak (ai (ah (sr (mI ?_)))))))
   refine aW (mB ?_)
   first | refine gS ?_ | (refine gT ?_; refine mI ?_) | refine gV ?_
   first | refine gS ?_ | (refine gT ?_; refine bB ?_) | refine gV ?_
   first | refine gS ?_ | (refine gT ?_; refine bE hh 0 ?_) | refine gV ?_
   first | refine gS ?_ | (refine gT ?_; refine dg ?_) | refine gV ?_
   first | refine cS ?_ | refine cU ?_
   refine ae (cT (sr (aI (ae (al (aD ?_))))))
   refine cn ?_
   exact ⟨rfl, hh.below⟩
  ·by_cases h2 : p.v ≤ i
   ·rw [if_pos (.inr h2)]
    refine aj (N := 19) (l := [.agg #[.int .i64 p.v, .slice p.A p.n p.c], .int .i64 i]) Tryz.func92 rfl rfl (by simp) ?_
    refine sr ?_
    refine cz hh [_,_] ?_
    intro b2 w2 hh
    refine aI (ae (ah (sr ?_)))
    refine cB hh 0 [_,_] ?_
    refine bA hh (hck _ hh.below) rfl ?_
    intro w7 hh
    refine aI (ae (sr (mI ?_)))
    refine cQ (ae (cF (ak (ai (ah (sr (mI ?_)))))))
    refine aW (mB ?_)
    first | refine gS ?_ | (refine gT ?_; refine mI ?_) | refine gV ?_
    first | refine gS ?_ | (refine gT ?_; refine bB ?_) | refine gV ?_
    first | refine gS ?_ | (refine gT ?_; refine bE hh 0 ?_) | refine gV ?_
    first | refine gS ?_ | (refine gT ?_; refine dg ?_) | refine gV ?_
    first | refine cS ?_ | refine cU ?_
    refine ae (cT (sr (aI (ae (al (aD ?_))))))
    refine cn ?_
    exact ⟨rfl, hh.below⟩
   ·rw [if_neg (by omega)]
    refine aj (N := 19) (l := [.agg #[.int .i64 p.v, .slice p.A p.n p.c], .int .i64 i]) Tryz.func92 rfl rfl (by simp) ?_
    refine sr ?_
    refine cz hh [_,_] ?_
    intro b2 w2 hh
    refine aI (ae (ah (sr ?_)))
    refine cB hh 0 [_,_] ?_
    refine bA hh (hck _ hh.below) rfl ?_
    intro w7 hh
    refine aI (ae (sr (mI ?_)))
    refine cQ (ae (cF (ak (ai (ah (sr (mI ?_)))))))
    refine aW (mB ?_)
    first | refine gS ?_ | (refine gT ?_; refine mI ?_) | refine gV ?_
    first | refine gS ?_ | (refine gT ?_; refine bB ?_) | refine gV ?_
    first | refine gS ?_ | (refine gT ?_; refine bE hh 0 ?_) | refine gV ?_
    first | refine gS ?_ | (refine gT ?_; refine dg ?_) | refine gV ?_
    first | refine cS ?_ | refine cU ?_
    refine ae (cF (ak (ai (sr (aI (ae (al ?_)))))))
    refine cn ?_
    exact ⟨rfl, hh.below⟩
 ·rw [if_neg h0]
  refine aj (N := 19) (l := [.agg #[.int .i64 p.v, .slice p.A p.n p.c], .int .i64 i]) Tryz.func92 rfl rfl (by simp) ?_
  refine sr ?_
  refine cz hh [_,_] ?_
  intro b2 w2 hh
  refine aI (ae (ah (sr ?_)))
  refine cB hh 0 [_,_] ?_
  refine bA hh (hck _ hh.below) rfl ?_
  intro w7 hh
  refine aI (ae (sr (mI ?_)))
  refine cQ (ae (cT (sr (mI (aI (ae (al (aD ?_))))))))
  refine cn ?_
  exact ⟨rfl, hh.below⟩
theorem pw (p : PX) (which : Int) (k : Nat) (w : World) (hp : p.at_ w) (lp : p.lk k) (hk : k ≤ 100000) :
  Calls Tryz.prog 23 #[.agg #[.int .i64 p.v, .slice p.A p.n p.c], .int .i64 which] w fun r w' => ∃ g : PX, cZ (gf p which) p.v (aZ (iU which.toNat p.ts)) g ∧ r = .returned (.tuple #[.agg #[.int .i64 g.v, .slice g.A g.n g.c], .int .i64 (gf p which)]) ∧ Hp w [g.row] w' := by
 have hh := Hp.start w
 have hck := fun w1 hb => nL p which k w1 (hp.ext hb) lp
 by_cases h0 : gf p which = 0
 ·obtain ⟨hpe, hi0, hiv⟩ := nn h0
  rw [h0] at hck ⊢
  obtain ⟨hf, h4, hmy, _⟩ := dW hpe
  replace hf := eB.1 hf
  obtain ⟨pv, pA, pn, pc, ts⟩ := p
  replace hpl : ts.length = pn := hp.ln
  replace hp : Sl w pA pn 4 (aP TR.cells ts) := hp
  have okp : fT k ts := lp.ok
  have szp : ∀ t ∈ ts, t.m.size ≤ 100000 := lp.sz
  replace hmy : ∀ t ∈ ts, ew pv t = true := hmy
  replace h4 : ts.length ≤ 4096 := h4
  replace hf : 0 ≤ pv ∧ pv ≤ 12 := hf
  replace hiv : which < pv := hiv
  obtain ⟨j, rfl⟩ : ∃ j : Nat, which = (j : Int) := ⟨which.toNat, by omega⟩
  rw [show ((j : Int)).toNat = j from rfl]
  show Calls _ _ _ _ fun r w' => ∃ g : PX, cZ 0 pv (aZ (iU j ts)) g ∧ r = .returned (.tuple #[.agg #[.int .i64 g.v, .slice g.A g.n g.c], .int .i64 0]) ∧ Hp w [g.row] w'
  refine aj (N := 66) (l := [.agg #[.int .i64 pv, .slice pA pn pc], .int .i64 j]) Tryz.func23 rfl rfl (by simp) ?_
  refine sr ?_
  refine cz hh [_,_] ?_
  intro b2 w2 hh
  refine cj hh ?_
  intro b4 w4 hh
  refine aI (ae (ah (sr ?_)))
  refine cB hh 1 [_,_] (mI ?_)
  refine bA hh (hck _ hh.below) rfl ?_
  intro w13 hh
  refine aI (ae (sr (mI ?_)))
  refine cQ (ae (cF (ak (ai (sr (aL (ae (ah (sr (aI (ae ?_)))))))))))
  refine ao ?_
  replace hh := hh.dK 55 4
  refine cE [7, 8, 9, 10, 18, 19, 20, 21, 22, 23, 24, 25, 26, 27, 28, 29, 30, 31, 32, 33, 34, 35, 36, 37, 38, 39, 40, 41, 42, 43, 44, 45, 46, 47, 48, 49, 50, 51, 52, 53, 54, 55, 56, 57, 58, 59] 7 8
   (fun a v w' => ∃ (i : Nat) (M : List TR) (A : Option Addr) (c : Nat), i ≤ pn ∧ v = .int .i64 i ∧ M = iU j (ts.take i) ∧ a = .slice A M.length c ∧ Hp w [.row A M.length c 55 4 (aP TR.cells M), .blk b4 24 [.int .i64 0, .slice none 0 0] (0, 0), .blk b2 24 [.int .i64 pv, .slice pA pn pc] (0, 0)] w')
   (fun _ v _ => pn - (intOf v).toNat) ?_ ?_
  ·exact ⟨0, [], none, 0, Nat.zero_le _, rfl, rfl, rfl, hh⟩
  ·clear hh
   rintro ρ' a_ v w' ⟨i, M, A, c, hi, rfl, hM, rfl, hh⟩
   have hMl : M.length ≤ i := by rw [hM]; exact Nat.le_trans (List.length_filterMap_le _ _) (by rw [List.length_take]; omega)
   by_cases hlt : i < pn
   ·obtain ⟨x, hx⟩ := aE (l := ts) (k := i) (by omega)
    obtain ⟨ad, rfl, hr⟩ := hp.at_ (by omega)
    have hxo := okp x (List.mem_of_getElem? hx)
    have hmx := Bool.and_eq_true_iff.1 (hmy x (List.mem_of_getElem? hx))
    have hxz : (x.m.size : Int) = pv := of_decide_eq_true hmx.2
    obtain ⟨e, he⟩ := aE (l := x.m.data.toList) (k := j) (by rw [← bZ]; omega)
    have he8 : e.toNat < 256 := e.toNat_lt
    have hbl : j < x.m.data.toList.length := (List.getElem?_eq_some_iff.1 he).1
    have hdt : om j x = if e.toNat = 0 then none else some ⟨str (x.m.data.toList.set j (e - 1)), nR (x.c.d * ((e.toNat : Int) : Dyadic))⟩ := by unfold om; rw [he]
    have hsn := qq (i := j) hx
    rw [← hM] at hsn
    refine ah (sr (mI (bB ?_)))
    refine bE hh 2 ?_
    refine a0 ?_
    refine aW (ae (cT (ak (ai (ah (ao (sr (bB ?_))))))))
    refine bE hh 2 ?_
    refine mI ?_
    refine aQ (k := i) aF.out aA.size rfl rfl (by omega) (by omega) (by decide) ?_
    refine bI dE.out rfl (by decide) ?_
    refine bj aA.out rfl (((hr.ext hh.below).recAt TR.len hx).cell (i := 0) rfl) (by decide) ?_
    refine lE hh aF.out aF.out aF.out rfl (by decide) ?_
    intro g31 c31 x31 w31 hh
    have hcl : (iQ x.m.data.toList ++ x31)[j]? = some (.int .u8 (e.toNat : Int)) := by rw [List.getElem?_append_left (by rw [fc]; exact hbl)]; unfold iQ; rw [List.getElem?_map, he]; rfl
    generalize (((iQ x.m.data.toList ++ x31).length, (iQ x.m.data.toList ++ x31).length + 1) : Nat × Nat) = fz at hh
    by_cases he0 : e.toNat = 0
    ·rw [hdt, if_pos he0] at hsn
     refine aL (ae (sr (mL (mI ?_))))
     refine bg (k := j) aF.out aA.size rfl rfl (by omega) (by omega) (by decide) ?_
     refine bj aA.out rfl (hh.dh (i := 0) rfl (by first | assumption | (simp only [Nat.mul_one]; assumption))) (by decide) ?_
     refine cJ aF.out aF.out rfl (by omega) (by omega) (by decide) ?_
     refine aI (ae (ah (sr (mI ?_))))
     refine cu (ae (cT ?_))
     refine aO ?_
     refine ay (a8 (ai (aq (mI ?_))))
     refine bL (aI (aC (ai ?_)))
     replace hh := hh.sub (List.Sublist.cons _ (List.Sublist.cons_cons _ (List.Sublist.cons_cons _ (List.Sublist.cons_cons _ List.Sublist.slnil))))
     refine ⟨⟨i + 1, M, A, c, by omega, rfl, by rw [hsn]; simp, rfl, hh⟩, by show pn - (i + 1) < pn - i; omega, ?_⟩
     (repeat (first | exact aw _ _ _ | refine ax rfl ?_ | refine au rfl ?_))
    ·rw [hdt, if_neg he0] at hsn
     refine aL (ae (sr (mL (mI ?_))))
     refine bg (k := j) aF.out aA.size rfl rfl (by omega) (by omega) (by decide) ?_
     refine bj aA.out rfl (hh.dh (i := 0) rfl (by first | assumption | (simp only [Nat.mul_one]; assumption))) (by decide) ?_
     refine cJ aF.out aF.out rfl (by omega) (by omega) (by decide) ?_
     refine aI (ae (ah (sr (mI ?_))))
     refine cu (ae (cF (ak (ai (sr (mL (mI ?_)))))))
     refine bg (k := j) aF.out aA.size rfl rfl (by omega) (by omega) (by decide) ?_
     refine bj aA.out rfl (hh.dh (i := 0) rfl (by first | assumption | (simp only [Nat.mul_one]; assumption))) (by decide) ?_
     refine n8 (b := 1) rfl rfl (by omega) (by decide) ?_
     refine bg (k := j) aF.out aA.size rfl rfl (by omega) (by omega) (by decide) ?_
     refine lS hh (i := 0) (vs := [_]) rfl rfl (bT rfl) rfl aA.out rfl (by rw [List.length_append, fc]; omega) rfl ?_
     intro ws hh
     simp only [List.set_cons_zero] at hh
     rw [vi hbl he0] at hh
     have hbl2 : (x.m.data.toList.set j (e - 1)).length = x.m.size := by rw [List.length_set, ← bZ]
     have zn : Sz 24 ((e.toNat : Int) : Dyadic) := xC (m := (e.toNat : Int)) (e := 0) (by omega) (by decide) (by decide)
     have hno := zn.ok (by decide)
     have htm := fun w1 => gZ (nR ((e.toNat : Int) : Dyadic)) x.c w1 (by have := hno.1; omega) (by have := hxo.1.1; omega) (by have := hno.2.1; omega) (by have := hno.2.2; omega) (by have := hxo.1.2.1; omega) (by have := hxo.1.2.2; omega)
     rw [dy, Dyadic.mul_comm] at htm
     refine ae ?_
     refine aU 14 [[(7, none)], [(9, none)], [(46, some 1)], [(10, none)], [(48, some 3)], [(2, none)], [(50, some 5)], [(8, none)], [(51, some 6), (52, some 7)], [(53, some 8)], [(54, some 9)], [(49, some 4), (55, some 10)], [(47, some 2), (56, some 11)], [(57, some 12)]] [(13, 58), (12, 57), (11, 56), (10, 55), (9, 54), (8, 53), (7, 52), (6, 51), (5, 50), (4, 49), (3, 48), (2, 47), (1, 46), (0, 45)] hh mixed (by kernel_rfl) ?_
     refine fX ?_
     refine fX ?_
     refine bk (i := 2) (Is (.string ⟨((x.m.data.toList.set j (e - 1))).toArray⟩)) Is.ext ?_ ?_
     ·intro ρ1 w1 hj hR
      exact bY rfl (iL (l := (x.m.data.toList.set j (e - 1))) aF.out aF.out aF.out (show ρ1 46 = Value.slice _ _ _ from hR.1) (hj.hp.u6 (i := 0) rfl hbl2)) ⟨Below.refl _ _, rfl⟩
     refine ej ?_
     refine dC (fun _ hj => mC (e.toNat : Int) _ (by omega) (by omega)) ?_
     refine cw ?_
     refine dI 3 ?_
     refine ej ?_
     refine bm (i := 8) (fun ρ1 w1 hj hR => eh aF.out aA.size (show ρ1 51 = Value.slice _ _ _ from hR.1) (show ρ1 52 = Value.int _ _ from hR.2.1) (by omega) (by omega)) ?_
     refine lT ?_
     refine qQ [_,_,_] (fun _ hj => ((hr.ext hj.hp.below).recAt TR.len hx).drop 1) ?_
     refine dC (fun _ hj => htm _) ?_
     refine dB [_,_,_,_] ?_
     refine px [_,_,_,_] ?_
     refine a6 ?_
     intro f W hJ hV
     have hb_12 := hJ.bl
     obtain ⟨v58, v57, v56, v55, v54, v53, v52, v51, v50, v49, v48, v47, v46, v45, _⟩ := hV
     obtain ⟨A58, c58, e58, f58⟩ : Rows _ _ _ (f 13) W := v58
     replace hh := hJ.hp
     refine aK (a4 (aa e58 (aa v57 (aa v56 (aa v55 (aa v54 (aa v53 (aa v52 (aa v51 (aa v50 (aa v49 (aa v48 (aa v47 (aa v46 (aa v45 aM))))))))))))))) ?_
     dsimp only [bX]
     clear e58 hJ
     refine bG hh (i := 1) rfl rfl rfl (f58) aF.out aA.out rfl (by decide) (by first | rfl | exact bQ _ | exact bF _ | exact oneCells_i64s _ | exact bf NR.one _) (by omega) (by omega) (by decide) ?_
     intro A59 c59 w59 hh
     simp only [List.set_cons_zero, List.set_cons_succ] at hh
     refine aL (aC (aT (ai (aq (mI ?_)))))
     refine bL (aI (aC (ai ?_)))
     replace hh := hh.sub (List.Sublist.cons _ (List.Sublist.cons_cons _ (List.Sublist.cons_cons _ (List.Sublist.cons_cons _ List.Sublist.slnil))))
     refine ⟨⟨i + 1, M ++ [⟨str (x.m.data.toList.set j (e - 1)), nR (x.c.d * ((e.toNat : Int) : Dyadic))⟩], A59, c59, by omega, rfl, by rw [hsn]; rfl, by rw [List.length_append]; rfl, by rw [List.length_append, bS, gk]; exact hh⟩, by show pn - (i + 1) < pn - i; omega, ?_⟩
     (repeat (first | exact aw _ _ _ | refine ax rfl ?_ | refine au rfl ?_))
   ·obtain rfl : i = pn := by omega
    rw [List.take_of_length_le (by omega)] at hM
    have hmk : iT pv M = 0 ∧ fT (k + 24) M ∧ ∀ t ∈ M, t.m.size ≤ 100000 := by
     rw [hM]
     exact wb hpe okp szp hk
    have hg0 : fe M = 0 := by unfold fe; rw [if_neg]; have := (vB hmk.1).2.2; omega
    have hmc := fun A c w1 hS1 => kK pv A M.length c M (k + 24) w1 hS1 (by omega) hmk.2.1 (by omega)
    rw [hg0] at hmc
    refine ah (sr (mI (bB ?_)))
    refine bE hh 2 ?_
    refine a0 ?_
    refine aW (ae (cF ?_))
    refine aO ?_
    refine ay (ay (a8 (ai (sr (bB ?_)))))
    refine bE hh 2 ?_
    refine mL ?_
    refine aR (hmc _ _ _ (hh.aJ (i := 0) rfl)) ar.out rfl (by decide) ?_
    rintro e_ w63 ⟨g, og, rfl, h3⟩
    refine ⟨_, rfl, ?_⟩
    replace hh := hh.join h3
    simp only [List.cons_append, List.nil_append] at hh
    refine dx ?_
    refine dx ?_
    refine bD hh 2 [_,_] ?_
    intro ws hh
    replace hh : Hp _ (_ :: _ :: .blk _ _ [_, _] _ :: _) _ := hh
    refine aI (ae (al ?_))
    refine iV (aH rfl (aG (vs := [_, _]) aA.out (hh.av (i := 2) (n := 2) rfl rfl) rfl) (cb (cv rfl) a9)) ?_
    rw [hM] at og
    exact ⟨g, og, rfl, hh.sub (List.Sublist.cons_cons _ (List.nil_sublist _))⟩
 ·generalize gf p which = e at *
  refine aj (N := 66) (l := [.agg #[.int .i64 p.v, .slice p.A p.n p.c], .int .i64 which]) Tryz.func23 rfl rfl (by simp) ?_
  refine sr ?_
  refine cz hh [_,_] ?_
  intro b2 w2 hh
  refine cj hh ?_
  intro b4 w4 hh
  refine aI (ae (ah (sr ?_)))
  refine cB hh 1 [_,_] (mI ?_)
  refine bA hh (hck _ hh.below) rfl ?_
  intro w13 hh
  refine aI (ae (sr (mI ?_)))
  refine cQ (ae (cT (sr ?_)))
  refine eH [_,_] (mI ?_)
  refine bD hh 0 [_,_] ?_
  intro ws hh
  replace hh : Hp _ (.blk _ _ [_, _] _ :: _) _ := hh
  refine aI (ae (al (aD ?_)))
  refine iV (aH rfl (aG (vs := [_, _]) aA.out (hh.av (i := 0) (n := 2) rfl rfl) rfl) (cb (cv rfl) a9)) ?_
  exact ⟨PX.nil, cZ.err h0, rfl, (hh.sub (List.nil_sublist _)).iW⟩
end Go.Proofs.YtaapkaefelhfcaaGreatDoor
/- The walk through the document's Face (ogeeref09). -/
namespace Go.Proofs.YtaapkaefelhfcaaGreatDoor
open Go.RowKit
theorem th (p : PX) (which : Int) (y : NR) (k : Nat) (w : World) (hp : p.at_ w) (lp : p.lk k) (hy : y.ok ∧ Sz k y.d) (hk : k ≤ 1000) :
  Calls Tryz.prog 25 #[.agg #[.int .i64 p.v, .slice p.A p.n p.c], .int .i64 which, .agg #[.bool y.neg, .string y.bu, .int .i64 y.e]] w fun r w' => ∃ g : PX, cZ (gf p which) (p.v - 1) (aZ (iA which.toNat y.d p.ts)) g ∧ r = .returned (.tuple #[.agg #[.int .i64 g.v, .slice g.A g.n g.c], .int .i64 (gf p which)]) ∧ Hp w [g.row] w' := by
 have hh := Hp.start w
 have hck := fun w1 hb => nL p which k w1 (hp.ext hb) lp
 by_cases h0 : gf p which = 0
 ·obtain ⟨hpe, hi0, hiv⟩ := nn h0
  rw [h0] at hck ⊢
  obtain ⟨hf, h4, hmy, _⟩ := dW hpe
  replace hf := eB.1 hf
  obtain ⟨pv, pA, pn, pc, ts⟩ := p
  replace hpl : ts.length = pn := hp.ln
  replace hp : Sl w pA pn 4 (aP TR.cells ts) := hp
  have okp : fT k ts := lp.ok
  have szp : ∀ t ∈ ts, t.m.size ≤ 100000 := lp.sz
  replace hmy : ∀ t ∈ ts, ew pv t = true := hmy
  replace h4 : ts.length ≤ 4096 := h4
  replace hf : 0 ≤ pv ∧ pv ≤ 12 := hf
  replace hiv : which < pv := hiv
  obtain ⟨j, rfl⟩ : ∃ j : Nat, which = (j : Int) := ⟨which.toNat, by omega⟩
  rw [show ((j : Int)).toNat = j from rfl]
  show Calls _ _ _ _ fun r w' => ∃ g : PX, cZ 0 (pv - 1) (aZ (iA j y.d ts)) g ∧ r = .returned (.tuple #[.agg #[.int .i64 g.v, .slice g.A g.n g.c], .int .i64 0]) ∧ Hp w [g.row] w'
  refine aj (N := 66) (l := [.agg #[.int .i64 pv, .slice pA pn pc], .int .i64 j, .agg #[.bool y.neg, .string y.bu, .int .i64 y.e]]) Tryz.func25 rfl rfl (by simp) ?_
  refine sr ?_
  refine cz hh [_,_] ?_
  intro b3 w3 hh
  refine cz hh [_,_,_] ?_
  intro b5 w5 hh
  refine cj hh ?_
  intro b6 w6 hh
  refine aI (ae (ah (sr ?_)))
  refine cB hh 2 [_,_] (mI ?_)
  refine bA hh (hck _ hh.below) rfl ?_
  intro w15 hh
  refine aI (ae (sr (mI ?_)))
  refine cQ (ae (cF (ak (ai (sr (aL (ae (ah (sr (aI (ae ?_)))))))))))
  refine ao ?_
  replace hh := hh.dK 55 4
  refine cE [9, 10, 11, 12, 20, 21, 22, 23, 24, 25, 26, 27, 28, 29, 30, 31, 32, 33, 34, 35, 36, 37, 38, 39, 40, 41, 42, 43, 44, 45, 46, 47, 48, 49, 50, 51, 52, 53, 54, 55, 56, 57, 58] 9 10
   (fun a v w' => ∃ (i : Nat) (M : List TR) (A : Option Addr) (c : Nat), i ≤ pn ∧ v = .int .i64 i ∧ M = iA j y.d (ts.take i) ∧ a = .slice A M.length c ∧ Hp w [.row A M.length c 55 4 (aP TR.cells M), .blk b6 24 [.int .i64 0, .slice none 0 0] (0, 0), .blk b5 29 [.bool y.neg, .string y.bu, .int .i64 y.e] (0, 0), .blk b3 24 [.int .i64 pv, .slice pA pn pc] (0, 0)] w')
   (fun _ v _ => pn - (intOf v).toNat) ?_ ?_
  ·exact ⟨0, [], none, 0, Nat.zero_le _, rfl, rfl, rfl, hh⟩
  ·clear hh
   rintro ρ' a_ v w' ⟨i, M, A, c, hi, rfl, hM, rfl, hh⟩
   have hMl : M.length = i := by rw [hM]; unfold iA; rw [List.length_map, List.length_take]; omega
   by_cases hlt : i < pn
   ·obtain ⟨x, hx⟩ := aE (l := ts) (k := i) (by omega)
    obtain ⟨ad, rfl, hr⟩ := hp.at_ (by omega)
    have hxo := okp x (List.mem_of_getElem? hx)
    have hmx := Bool.and_eq_true_iff.1 (hmy x (List.mem_of_getElem? hx))
    have hxz : (x.m.size : Int) = pv := of_decide_eq_true hmx.2
    obtain ⟨e, he⟩ := aE (l := x.m.data.toList) (k := j) (by rw [← bZ]; omega)
    have he8 := g9 hmx.1 he
    have zp : Sz 128000 (y.d ^ e.toNat) := (hy.2.pow e.toNat).mono (by have := Nat.mul_le_mul hk (show e.toNat ≤ 127 by omega); omega)
    have hpw := fun w1 => uT y (e.toNat : Int) w1 hy.1 k hy.2 (by have := Nat.mul_le_mul hk (show e.toNat ≤ 127 by omega); show k * e.toNat ≤ 3999980; omega) (by omega)
    rw [show ((e.toNat : Int)).toNat = e.toNat from rfl] at hpw
    have hpo := zp.ok (by decide)
    have htm := fun w1 => gZ x.c (nR (y.d ^ e.toNat)) w1 (by have := hxo.1.1; omega) (by have := hpo.1; omega) (by have := hxo.1.2.1; omega) (by have := hxo.1.2.2; omega) (by have := hpo.2.1; omega) (by have := hpo.2.2; omega)
    rw [dy] at htm
    have hjl : j < x.m.data.toList.length := (List.getElem?_eq_some_iff.1 he).1
    have hjs : j + 1 ≤ x.m.size := by rw [bZ]; omega
    have hsz100 := szp x (List.mem_of_getElem? hx)
    have hc1 : (str (x.m.data.toList.take j)).size + (str (x.m.data.toList.drop (j + 1))).size ≤ 9223372036854775807 := by rw [dT, dT, List.length_take, List.length_drop, ← bZ]; omega
    refine ah (sr (mI (bB ?_)))
    refine bE hh 3 ?_
    refine a0 ?_
    refine aW (ae (cT (ak (ai (ah (ao (sr (bB ?_))))))))
    refine bE hh 3 ?_
    refine mI ?_
    refine aQ (k := i) aF.out aA.size rfl rfl (by omega) (by omega) (by decide) ?_
    refine bI dE.out rfl (by decide) ?_
    refine bj aA.out rfl (((hr.ext hh.below).recAt TR.len hx).cell (i := 0) rfl) (by decide) ?_
    refine aS (ae (ah ?_))
    refine aU 14 [[(3, none)], [(33, some 0)], [(10, none)], [(34, some 1), (35, some 2)], [(36, some 3)], [(37, some 4)], [(5, none)], [(11, none)], [(1, none)], [(40, some 7), (41, some 8)], [(42, some 9)], [(39, some 6), (43, some 10)], [(38, some 5), (44, some 11)], []] [(13, 12), (12, 45), (11, 44), (10, 43), (9, 42), (8, 41), (7, 40), (6, 39), (5, 38), (4, 37), (3, 36), (2, 35), (1, 34), (0, 33)] hh mixed (by kernel_rfl) ?_
    refine cw ?_
    refine dI 3 ?_
    refine ej ?_
    refine jN (i) ?_
    refine lT ?_
    refine qQ [_,_,_] (fun _ hj => ((hr.ext hj.hp.below).recAt TR.len hx).drop 1) ?_
    refine dZ 2 [_,_,_] ?_
    refine B9 ?_
    refine ej ?_
    refine bm (i := 9) (fun ρ1 w1 hj hR => iD aF.out (show ρ1 40 = Value.string _ from hR.1) (show ρ1 41 = Value.int _ _ from hR.2.1) (by omega) (by assumption)) ?_
    refine bm (i := 10) (fun ρ1 w1 hj hR => jF aF.out aF.out (show ρ1 42 = Value.int _ _ from hR.1) (by omega) (by omega)) ?_
    refine dC (fun _ hj => hpw _) ?_
    refine dC (fun _ hj => htm _) ?_
    refine bk (i := 13) (cH _ 29 _) cH.ext (fun ρ1 w1 hj hR => fq aA.out hj.bl (fun v w2 h hb => ⟨hb, h⟩)) ?_
    refine a6 ?_
    intro f W hJ hV
    have hb_9 := hJ.bl
    obtain ⟨v12, v45, v44, v43, v42, v41, v40, v39, v38, v37, v36, v35, v34, v33, _⟩ := hV
    obtain ⟨b12, e12, hl12, hc12⟩ : cH _ _ _ (f 13) W := v12
    replace hh := hJ.newVar hh hl12 hc12
    refine aK (a4 (aa e12 (aa v45 (aa v44 (aa v43 (aa v42 (aa v41 (aa v40 (aa v39 (aa v38 (aa v37 (aa v36 (aa v35 (aa v34 (aa v33 aM))))))))))))))) ?_
    dsimp only [bX]
    clear e12 hJ
    refine bD hh 0 [_,_,_] ?_
    intro ws hh
    replace hh : Hp _ (.blk _ _ [_, _, _] _ :: _) _ := hh
    refine ae ?_
    refine aU 12 [[(9, none)], [(11, none)], [(1, none)], [(47, some 1), (48, some 2)], [(11, none)], [(1, none)], [(51, some 5)], [(50, some 4), (52, some 6)], [(49, some 3), (53, some 7)], [(12, none)], [(54, some 8), (55, some 9)], [(56, some 10)]] [(11, 57), (10, 56), (9, 55), (8, 54), (7, 53), (6, 52), (5, 51), (4, 50), (3, 49), (2, 48), (1, 47), (0, 46)] hh mixed (by kernel_rfl) ?_
    refine fX ?_
    refine B9 ?_
    refine ej ?_
    refine bk (i := 3) (Is (.string (str (x.m.data.toList.take j)))) (Is.ext) ?_ ?_
    ·intro ρ1 w1 hj hR
     exact bY rfl ((gL (ρ := ρ1) (x := .tmp 47) (lo := none) (hi := some (.tmp 48)) (l := 0) (h := j) aF.out (show ρ1 47 = Value.string x.m from hR.1) rfl ⟨.i64, j, hR.2.1, rfl⟩ (Nat.zero_le _) (by omega)).trans (by rw [rK (by omega)])) ⟨Below.refl _ _, rfl⟩
    refine B9 ?_
    refine ej ?_
    refine uX ?_
    refine bk (i := 7) (Is (.string (str (x.m.data.toList.drop (j + 1))))) (Is.ext) ?_ ?_
    ·intro ρ1 w1 hj hR
     exact bY rfl ((gL (ρ := ρ1) (x := .tmp 50) (lo := some (.tmp 52)) (hi := none) (l := j + 1) (h := x.m.size) aF.out (show ρ1 50 = Value.string x.m from hR.1) ⟨.i64, (j : Int) + 1, hR.2.1, rfl⟩ rfl hjs (Nat.le_refl _)).trans (by rw [tn])) ⟨Below.refl _ _, rfl⟩
    refine bk (i := 8) (Is (.string (str (x.m.data.toList.take j ++ x.m.data.toList.drop (j + 1))))) (Is.ext) ?_ ?_
    ·intro ρ1 w1 hj hR
     exact bY rfl ((AA (ρ := ρ1) (x := .tmp 49) (y := .tmp 53) (show ρ1 49 = Value.string _ from hR.1) (show ρ1 53 = Value.string _ from hR.2.1) hc1).trans (by rw [nV])) ⟨Below.refl _ _, rfl⟩
    refine dZ 0 [_,_,_] ?_
    refine dB [_,_,_,_] ?_
    refine px [_,_,_,_] ?_
    refine a6 ?_
    intro f W hJ hV
    have hb_10 := hJ.bl
    obtain ⟨v57, v56, v55, v54, v53, v52, v51, v50, v49, v48, v47, v46, _⟩ := hV
    obtain ⟨A57, c57, e57, f57⟩ : Rows _ _ _ (f 11) W := v57
    replace hh := hJ.hp
    refine aK (a4 (aa e57 (aa v56 (aa v55 (aa v54 (aa v53 (aa v52 (aa v51 (aa v50 (aa v49 (aa v48 (aa v47 (aa v46 aM))))))))))))) ?_
    dsimp only [bX]
    clear e57 hJ
    refine bG hh (i := 1) rfl rfl rfl (f57) aF.out aA.out rfl (by decide) (by first | rfl | exact bQ _ | exact bF _ | exact oneCells_i64s _ | exact bf NR.one _) (by omega) (by omega) (by decide) ?_
    intro A58 c58 w58 hh
    simp only [List.set_cons_zero, List.set_cons_succ] at hh
    refine aL (aC (aT (ai (aq (mI ?_)))))
    refine bL (aI (aC (ai ?_)))
    replace hh := hh.sub (List.Sublist.cons _ (List.Sublist.cons_cons _ (List.Sublist.cons_cons _ (List.Sublist.cons_cons _ (List.Sublist.cons_cons _ List.Sublist.slnil)))))
    have hft : oO j y.d x = ⟨str (x.m.data.toList.take j ++ x.m.data.toList.drop (j + 1)), nR (x.c.d * y.d ^ e.toNat)⟩ := by unfold oO; rw [he]
    refine ⟨⟨i + 1, M ++ [oO j y.d x], A58, c58, by omega, rfl, by rw [hM]; unfold iA; rw [aN hx, List.map_append]; rfl, by rw [List.length_append]; rfl, by rw [List.length_append, bS, gk, hft]; exact hh⟩, by show pn - (i + 1) < pn - i; omega, ?_⟩
    (repeat (first | exact aw _ _ _ | refine ax rfl ?_ | refine au rfl ?_))
   ·obtain rfl : i = pn := by omega
    rw [List.take_of_length_le (by omega)] at hM
    have hmk : iT (pv - 1) M = 0 ∧ fT (k + 128000) M ∧ ∀ t ∈ M, t.m.size ≤ 100000 := by
     rw [hM]
     exact u7 hpe okp szp (by omega) (by omega) hy.2 hk
    have hg0 : fe M = 0 := by unfold fe; rw [if_neg]; have := (vB hmk.1).2.2; omega
    have hmc := fun A c w1 hS1 => kK (pv - 1) A M.length c M (k + 128000) w1 hS1 (by omega) hmk.2.1 (by omega)
    rw [hg0] at hmc
    refine ah (sr (mI (bB ?_)))
    refine bE hh 3 ?_
    refine a0 ?_
    refine aW (ae (cF ?_))
    refine aO ?_
    refine ay (ay (a8 (ai (sr (bB ?_)))))
    refine bE hh 3 ?_
    refine eA (mL ?_)
    refine aR (hmc _ _ _ (hh.aJ (i := 0) rfl)) ar.out rfl (by decide) ?_
    rintro e_ w63 ⟨g, og, rfl, h3⟩
    refine ⟨_, rfl, ?_⟩
    replace hh := hh.join h3
    simp only [List.cons_append, List.nil_append] at hh
    refine dx ?_
    refine dx ?_
    refine bD hh 2 [_,_] ?_
    intro ws hh
    replace hh : Hp _ (_ :: _ :: .blk _ _ [_, _] _ :: _) _ := hh
    refine aI (ae (al ?_))
    refine iV (aH rfl (aG (vs := [_, _]) aA.out (hh.av (i := 2) (n := 2) rfl rfl) rfl) (cb (cv rfl) a9)) ?_
    rw [hM] at og
    exact ⟨g, og, rfl, hh.sub (List.Sublist.cons_cons _ (List.nil_sublist _))⟩
 ·generalize gf p which = e at *
  refine aj (N := 66) (l := [.agg #[.int .i64 p.v, .slice p.A p.n p.c], .int .i64 which, .agg #[.bool y.neg, .string y.bu, .int .i64 y.e]]) Tryz.func25 rfl rfl (by simp) ?_
  refine sr ?_
  refine cz hh [_,_] ?_
  intro b3 w3 hh
  refine cz hh [_,_,_] ?_
  intro b5 w5 hh
  refine cj hh ?_
  intro b6 w6 hh
  refine aI (ae (ah (sr ?_)))
  refine cB hh 2 [_,_] (mI ?_)
  refine bA hh (hck _ hh.below) rfl ?_
  intro w15 hh
  refine aI (ae (sr (mI ?_)))
  refine cQ (ae (cT (sr ?_)))
  refine eH [_,_] (mI ?_)
  refine bD hh 0 [_,_] ?_
  intro ws hh
  replace hh : Hp _ (.blk _ _ [_, _] _ :: _) _ := hh
  refine aI (ae (al (aD ?_)))
  refine iV (aH rfl (aG (vs := [_, _]) aA.out (hh.av (i := 0) (n := 2) rfl rfl) rfl) (cb (cv rfl) a9)) ?_
  exact ⟨PX.nil, cZ.err h0, rfl, (hh.sub (List.nil_sublist _)).iW⟩
end Go.Proofs.YtaapkaefelhfcaaGreatDoor
/- The walk through the document's Eval (ogeeref09). -/
namespace Go.Proofs.YtaapkaefelhfcaaGreatDoor
open Go.RowKit
theorem rQ (p : PX) (ys : List NR) (xA : Option Addr) (xn xc : Nat) (k : Nat) (w : World) (hp : p.at_ w) (lp : p.lk k) (hS : Sl w xA xn 3 (aP NR.cells ys)) (hl : ys.length = xn) (hy : ∀ y ∈ ys, y.ok ∧ Sz k y.d) (hk : k ≤ 1000) :
  Calls Tryz.prog 21 #[.agg #[.int .i64 p.v, .slice p.A p.n p.c], .slice xA xn xc] w fun r w' => r = .returned (.tuple #[.agg #[.bool (gX p ys).neg, .string (gX p ys).bu, .int .i64 (gX p ys).e], .int .i64 (il p xn)]) ∧ Below w.heap.size w w' := by
 have hh := Hp.start w
 subst hl
 have hck := fun w1 hb => sK p k w1 (hp.ext hb) lp
 unfold gX il
 by_cases h0 : p.e = 0
 ·rw [h0] at hck
  simp only [if_pos h0]
  by_cases h1 : (ys.length : Int) = p.v
  ·simp only [if_pos h1]
   obtain ⟨hf, h4, hmy, _⟩ := dW h0
   replace hf := eB.1 hf
   obtain ⟨pv, pA, pn, pc, ts⟩ := p
   replace hpl : ts.length = pn := hp.ln
   replace hp : Sl w pA pn 4 (aP TR.cells ts) := hp
   have okp : fT k ts := lp.ok
   have szp : ∀ t ∈ ts, t.m.size ≤ 100000 := lp.sz
   replace hmy : ∀ t ∈ ts, ew pv t = true := hmy
   replace h4 : ts.length ≤ 4096 := h4
   replace hf : 0 ≤ pv ∧ pv ≤ 12 := hf
   replace h1 : (ys.length : Int) = pv := h1
   subst h1
   have hyl : ys.length ≤ 12 := by omega
   have ow : ∀ i, i ≤ 4096 → Sz 1700000 (ja ys ts i) := fun i hi => (uS hk (fun y h => (hy y h).2) okp (fun t h => (Bool.and_eq_true_iff.1 (hmy t h)).1) hyl i).mono (by omega)
   show Calls _ _ _ _ fun r w' => r = .returned (.tuple #[.agg #[.bool (nR (ja ys ts ts.length)).neg, .string (nR (ja ys ts ts.length)).bu, .int .i64 (nR (ja ys ts ts.length)).e], .int .i64 0]) ∧ Below w.heap.size w w'
   refine aj (N := 66) (l := [.agg #[.int .i64 ys.length, .slice pA pn pc], .slice xA ys.length xc]) Tryz.func21 rfl rfl (by simp) ?_
   refine sr ?_
   refine cz hh [_,_] ?_
   intro b2 w2 hh
   refine cj hh ?_
   intro b4 w4 hh
   refine aI (ae (ah (sr ?_)))
   refine cB hh 1 [_,_] ?_
   refine bA hh (hck _ hh.below) rfl ?_
   intro w13 hh
   refine aI (ae (sr (mI ?_)))
   refine cQ (ae (cF (ak (ai (ah (sr (mL (a0 (bB ?_)))))))))
   refine bE hh 1 ?_
   refine cQ (ae (cF (ak (ai (sr ?_)))))
   refine eH [_,_,_] ?_
   refine cj hh ?_
   intro b7 w7 hh
   refine bD hh 0 [_,_,_] ?_
   intro ws hh
   replace hh : Hp _ (.blk _ _ [_, _, _] _ :: _) _ := hh
   refine ae (ah (sr (aI (ae (ao ?_)))))
   refine bs [8, 9, 10, 11, 25, 26, 27, 28, 29, 30, 31, 32, 33, 34, 35, 36, 37, 38, 39, 40, 41, 42, 43, 44, 45, 46, 47, 48, 49, 50, 51, 52, 53, 54, 55, 56, 57, 58, 59, 60, 61, 62, 63, 64] 8
    (fun v w' => ∃ i : Nat, i ≤ pn ∧ v = .int .i64 i ∧ Hp w [.blk b7 29 [.bool (nR (ja ys ts i)).neg, .string (nR (ja ys ts i)).bu, .int .i64 (nR (ja ys ts i)).e] (0, 0), .blk b4 29 [.bool false, .string (ByteArray.mk #[]), .int .i64 0] (0, 0), .blk b2 24 [.int .i64 ys.length, .slice pA pn pc] (0, 0)] w')
    (fun v _ => pn - (intOf v).toNat) ?_ ?_
   ·exact ⟨0, Nat.zero_le _, rfl, hh⟩
   ·clear hh
    rintro ρ' v w' ⟨i, hi, rfl, hh⟩
    by_cases hlt : i < pn
    ·obtain ⟨x, hx⟩ := aE (l := ts) (k := i) (by omega)
     obtain ⟨ad, rfl, hr⟩ := hp.at_ (by omega)
     have hxo := okp x (List.mem_of_getElem? hx)
     have hmx := Bool.and_eq_true_iff.1 (hmy x (List.mem_of_getElem? hx))
     have hxz : (x.m.size : Int) = ys.length := of_decide_eq_true hmx.2
     refine ah (sr (mI (bB ?_)))
     refine bE hh 2 ?_
     refine a0 ?_
     refine aW (ae (cT (ak (ai (ah (ao (sr (bB ?_))))))))
     refine bE hh 2 ?_
     refine mI ?_
     refine aQ (k := i) aF.out aA.size rfl rfl (by omega) (by omega) (by decide) ?_
     refine bI dE.out rfl (by decide) ?_
     refine bR (vs := [_, _, _]) aA.out rfl (((hr.ext hh.below).recAt TR.len hx).drop 1) rfl (by decide) ?_
     refine cj hh ?_
     intro b9 w9 hh
     refine bD hh 0 [_,_,_] ?_
     intro ws hh
     replace hh : Hp _ (.blk _ _ [_, _, _] _ :: _) _ := hh
     refine ae (ah (sr (aI (ae (ao ?_)))))
     refine bs [10, 11, 38, 39, 40, 41, 42, 43, 44, 45, 46, 47, 48, 49, 50, 51, 52, 53, 54, 55, 56, 57, 58, 59, 60, 61] 10
      (fun v w' => ∃ (q : Nat) (z : NR), q ≤ ys.length ∧ v = .int .i64 q ∧ z.ok ∧ z.d = uu x.c.d ys x.m q ∧ Hp w [.blk b9 29 [.bool z.neg, .string z.bu, .int .i64 z.e] (0, 0), .blk b7 29 [.bool (nR (ja ys ts i)).neg, .string (nR (ja ys ts i)).bu, .int .i64 (nR (ja ys ts i)).e] (0, 0), .blk b4 29 [.bool false, .string (ByteArray.mk #[]), .int .i64 0] (0, 0), .blk b2 24 [.int .i64 ys.length, .slice (some ad) pn pc] (0, 0)] w')
      (fun v _ => ys.length - (intOf v).toNat) ?_ ?_
     ·exact ⟨0, x.c, Nat.zero_le _, rfl, hxo.1, rfl, hh⟩
     ·clear hh
      rintro ρ' v w' ⟨q, z, hq, rfl, hzo, hzd, hh⟩
      by_cases hlq : q < ys.length
      ·obtain ⟨y, hyq⟩ := aE (l := ys) (k := q) hlq
       obtain ⟨xad, rfl, hxr⟩ := hS.at_ (by omega)
       obtain ⟨e, he⟩ := aE (l := x.m.data.toList) (k := q) (by rw [← bZ]; omega)
       have he8 := g9 hmx.1 he
       have hyo := hy y (List.mem_of_getElem? hyq)
       have hzs : Sz 1600000 z.d := by rw [hzd]; exact (nB hxo.2 hk (fun y h => (hy y h).2) hmx.1 q).mono (by omega)
       refine ah (sr (mI (bB ?_)))
       refine bE hh 3 ?_
       refine aW (ae (cT (ak (ai (ah (ao (sr (aI (ae (ao ?_))))))))))
       refine bs [11, 44, 45, 46, 47, 48, 49, 50, 51, 52, 53, 54, 55, 56, 57, 58, 59, 60, 61] 11
        (fun v w' => ∃ (n : Nat) (u : NR), n ≤ e.toNat ∧ v = .int .u8 n ∧ u.ok ∧ u.d = z.d * y.d ^ n ∧ Hp w [.blk b9 29 [.bool u.neg, .string u.bu, .int .i64 u.e] (0, 0), .blk b7 29 [.bool (nR (ja ys ts i)).neg, .string (nR (ja ys ts i)).bu, .int .i64 (nR (ja ys ts i)).e] (0, 0), .blk b4 29 [.bool false, .string (ByteArray.mk #[]), .int .i64 0] (0, 0), .blk b2 24 [.int .i64 ys.length, .slice (some ad) pn pc] (0, 0)] w')
        (fun v _ => e.toNat - (intOf v).toNat) ?_ ?_
       ·exact ⟨0, z, Nat.zero_le _, rfl, hzo, by rw [Dyadic.pow_zero, Dyadic.mul_one], hh⟩
       ·clear hh
        rintro ρ' v w' ⟨n, u, hn, rfl, huo, hud, hh⟩
        by_cases hln : n < e.toNat
        ·have zp : Sz 128000 (y.d ^ (n + 1)) := (hyo.2.pow (n + 1)).mono (by have := Nat.mul_le_mul hk (show n + 1 ≤ 127 by omega); omega)
         have hu2 : Sz 1728000 (z.d * y.d ^ (n + 1)) := (hzs.mul zp).mono (by omega)
         have htm := fun w1 => gZ u y w1 (by have := huo.1; omega) (by have := hyo.1.1; omega) (by have := huo.2.1; omega) (by have := huo.2.2; omega) (by have := hyo.1.2.1; omega) (by have := hyo.1.2.2; omega)
         rw [hud, show z.d * y.d ^ n * y.d = z.d * y.d ^ (n + 1) by rw [Dyadic.pow_succ, Dyadic.mul_assoc]] at htm
         refine ah (sr (mI (bB ?_)))
         refine bE hh 3 ?_
         refine mI ?_
         refine aQ (k := i) aF.out aA.size rfl rfl (by omega) (by omega) (by decide) ?_
         refine bI dE.out rfl (by decide) ?_
         refine bj aA.out rfl (((hr.ext hh.below).recAt TR.len hx).cell (i := 0) rfl) (by decide) ?_
         refine mI ?_
         refine bo aF.out rfl rfl (by omega) (by assumption) (by decide) ?_
         refine aW (ae (cT (ak (ai (ah (ao ?_))))))
         refine aU 5 [[(9, none)], [(1, none)], [(10, none)], [(57, some 1), (58, some 2)], [(59, some 3)]] [(4, 60), (3, 59), (2, 58), (1, 57), (0, 56)] hh mixed (by kernel_rfl) ?_
         refine dZ 0 [_,_,_] ?_
         refine fX ?_
         refine ej ?_
         refine jN (q) ?_
         refine qQ [_,_,_] (fun _ hj => (hxr.ext hj.hp.below).recAt NR.len hyq) ?_
         refine a6 ?_
         intro f W hJ hV
         have hb_17 := hJ.bl
         obtain ⟨v60, v59, v58, v57, v56, _⟩ := hV
         replace hh := hJ.hp
         refine aK (a4 (aa v60 (aa v59 (aa v58 (aa v57 (aa v56 aM)))))) ?_
         dsimp only [bX]
         clear hJ
         refine bA hh (htm _) rfl ?_
         intro w61 hh
         refine bD hh 0 [_,_,_] ?_
         intro ws hh
         replace hh : Hp _ (.blk _ _ [_, _, _] _ :: _) _ := hh
         refine aC (aT (ai (aq (mI ?_))))
         refine fD (b := 1) rfl rfl (by decide) ?_
         refine aI (aC (ai ?_))
         refine ⟨⟨n + 1, nR (z.d * y.d ^ (n + 1)), by omega, ?_, hu2.ok (by decide), by rw [dy], hh⟩, ?_, ?_⟩
         ·show Value.int .u8 (((n : Int) + 1) % 256) = _
          congr 1
          omega
         ·show e.toNat - (((n : Int) + 1) % 256).toNat < e.toNat - n
          omega
         ·(repeat (first | exact aw _ _ _ | refine ax rfl ?_ | refine au rfl ?_))
        ·obtain rfl : n = e.toNat := by omega
         refine ah (sr (mI (bB ?_)))
         refine bE hh 3 ?_
         refine mI ?_
         refine aQ (k := i) aF.out aA.size rfl rfl (by omega) (by omega) (by decide) ?_
         refine bI dE.out rfl (by decide) ?_
         refine bj aA.out rfl (((hr.ext hh.below).recAt TR.len hx).cell (i := 0) rfl) (by decide) ?_
         refine mI ?_
         refine bo aF.out rfl rfl (by omega) (by assumption) (by decide) ?_
         refine aW (ae (cF ?_))
         refine aO ?_
         refine ay (ay (a8 (aT (ai (aq (mI ?_))))))
         refine bL (aI (aC (ai ?_)))
         refine ⟨⟨q + 1, u, by omega, rfl, huo, by rw [hud, hzd]; show _ = uu x.c.d ys x.m q * wi ys x.m q; rw [vU hyq he], hh⟩, by show ys.length - (q + 1) < ys.length - q; omega, ?_⟩
         (repeat (first | exact aw _ _ _ | refine ax rfl ?_ | refine au rfl ?_))
      ·obtain rfl : q = ys.length := by omega
       have hpl2 := fun w1 => nc (nR (ja ys ts i)) z w1 ((ow i (by omega)).ok (by decide)) hzo
       rw [dy, show ja ys ts i + z.d = ja ys ts (i + 1) by show _ = ja ys ts i + _; rw [hx, hzd]] at hpl2
       refine ah (sr (mI (bB ?_)))
       refine bE hh 3 ?_
       refine aW (ae (cF ?_))
       refine aO ?_
       refine ay (ay (a8 (ai (aq ?_))))
       refine cB hh 1 [_,_,_] ?_
       refine cB hh 0 [_,_,_] ?_
       refine bA hh (hpl2 _) rfl ?_
       intro w64 hh
       refine bD hh 1 [_,_,_] ?_
       intro ws hh
       replace hh : Hp _ (_ :: .blk _ _ [_, _, _] _ :: _) _ := hh
       refine aC (aT (ai (aq (mI ?_))))
       refine bL (aI (aC (ai ?_)))
       replace hh := hh.sub (List.Sublist.cons _ (List.Sublist.cons_cons _ (List.Sublist.cons_cons _ (List.Sublist.cons_cons _ List.Sublist.slnil))))
       refine ⟨⟨i + 1, by omega, rfl, hh⟩, by show pn - (i + 1) < pn - i; omega, ?_⟩
       (repeat (first | exact aw _ _ _ | refine ax rfl ?_ | refine au rfl ?_))
    ·obtain rfl : i = pn := by omega
     refine ah (sr (mI (bB ?_)))
     refine bE hh 2 ?_
     refine a0 ?_
     refine aW (ae (cF ?_))
     refine aO ?_
     refine ay (ay (a8 (ai (sr ?_))))
     refine cB hh 0 [_,_,_] ?_
     refine bD hh 1 [_,_,_] ?_
     intro ws hh
     replace hh : Hp _ (_ :: .blk _ _ [_, _, _] _ :: _) _ := hh
     refine aI (ae (al ?_))
     refine iV (aH rfl (aG (vs := [_, _, _]) aA.out (hh.av (i := 1) (n := 3) rfl rfl) rfl) (cb (cv rfl) a9)) ?_
     exact ⟨by rw [hpl], hh.below⟩
  ·simp only [if_neg h1]
   rw [if_neg (by decide)]
   refine aj (N := 66) (l := [.agg #[.int .i64 p.v, .slice p.A p.n p.c], .slice xA ys.length xc]) Tryz.func21 rfl rfl (by simp) ?_
   refine sr ?_
   refine cz hh [_,_] ?_
   intro b2 w2 hh
   refine cj hh ?_
   intro b4 w4 hh
   refine aI (ae (ah (sr ?_)))
   refine cB hh 1 [_,_] ?_
   refine bA hh (hck _ hh.below) rfl ?_
   intro w13 hh
   refine aI (ae (sr (mI ?_)))
   refine cQ (ae (cF (ak (ai (ah (sr (mL (a0 (bB ?_)))))))))
   refine bE hh 1 ?_
   refine cQ (ae (cT (sr ?_)))
   refine eH [_,_,_] ?_
   refine bD hh 0 [_,_,_] ?_
   intro ws hh
   replace hh : Hp _ (.blk _ _ [_, _, _] _ :: _) _ := hh
   refine aI (ae (al (aD ?_)))
   refine iV (aH rfl (aG (vs := [_, _, _]) aA.out (hh.av (i := 0) (n := 3) rfl rfl) rfl) (cb (cv rfl) a9)) ?_
   exact ⟨rfl, hh.below⟩
 ·simp only [if_neg h0]
  generalize p.e = e at *
  refine aj (N := 66) (l := [.agg #[.int .i64 p.v, .slice p.A p.n p.c], .slice xA ys.length xc]) Tryz.func21 rfl rfl (by simp) ?_
  refine sr ?_
  refine cz hh [_,_] ?_
  intro b2 w2 hh
  refine cj hh ?_
  intro b4 w4 hh
  refine aI (ae (ah (sr ?_)))
  refine cB hh 1 [_,_] ?_
  refine bA hh (hck _ hh.below) rfl ?_
  intro w13 hh
  refine aI (ae (sr (mI ?_)))
  refine cQ (ae (cT (sr ?_)))
  refine eH [_,_,_] (mI ?_)
  refine bD hh 0 [_,_,_] ?_
  intro ws hh
  replace hh : Hp _ (.blk _ _ [_, _, _] _ :: _) _ := hh
  refine aI (ae (al (aD ?_)))
  refine iV (aH rfl (aG (vs := [_, _, _]) aA.out (hh.av (i := 0) (n := 3) rfl rfl) rfl) (cb (cv rfl) a9)) ?_
  exact ⟨rfl, hh.below⟩
end Go.Proofs.YtaapkaefelhfcaaGreatDoor
/- The walk through the law CalcEvals. -/
namespace Go.Proofs.YtaapkaefelhfcaaGreatDoor
open Go.RowKit
theorem sa (j : Nat) (l : List TR) : (aZ (iU j l)).length ≤ l.length := Nat.le_trans (gy _) (List.length_filterMap_le _ _)
theorem sR (j : Nat) (y : Dyadic) (l : List TR) : (aZ (iA j y l)).length ≤ l.length := Nat.le_trans (gy _) (by unfold iA; rw [List.length_map]; exact Nat.le_refl _)
theorem se {o p : PX} (hv : o.v = p.v) (ht : o.ts = p.ts) (i : Int) : gf o i = gf p i := by unfold gf PX.e; rw [hv, ht]
theorem qh {o p : PX} (hv : o.v = p.v) (ht : o.ts = p.ts) (n : Nat) : il o n = il p n := by unfold il PX.e; rw [hv, ht]
theorem wB {o p : PX} (hv : o.v = p.v) (ht : o.ts = p.ts) (xs : List NR) : gX o xs = gX p xs := by unfold gX; rw [qh hv ht, ht]
theorem nh (p : PX) (xA : Option Addr) (xn xc : Nat) (xs : List NR) (which : Int) (y : NR) (w : World) (hT : gW w) (hp : p.at_ w) (hpc : p.n ≤ p.c) (hS : Sl w xA xn 3 (aP NR.cells xs)) :
  Calls Tryz.prog 3 #[.agg #[.int .i64 p.v, .slice p.A p.n p.c], .slice xA xn xc, .int .i64 which, .agg #[.bool y.neg, .string y.bu, .int .i64 y.e]] w fun r w' => r = .returned (.bool true) ∧ Below w.heap.size w w' := by
 have hh := Hp.start w
 have hln := hS.cx NR.len (by decide)
 have oc1 := bf NR.one xs
 have hfa := fun w1 => k6 y w1
 have haw := fun w1 hT1 => rF w1 hT1
 refine aj (N := 133) (l := [.agg #[.int .i64 p.v, .slice p.A p.n p.c], .slice xA xn xc, .int .i64 which, .agg #[.bool y.neg, .string y.bu, .int .i64 y.e]]) Tryz.func3 rfl rfl (by simp) ?_
 refine sr ?_
 refine cz hh [_,_] ?_
 intro b4 w4 hh
 refine cz hh [_,_,_] ?_
 intro b7 w7 hh
 refine aB (ae (ah (sr ?_)))
 refine cB hh 1 [_,_] ?_
 refine aR (qV p.v p.A p.n p.c p.ts _ (hp.ext hh.below)) ar.out rfl (by decide) ?_
 rintro e_ w25 ⟨b, rfl, hb, hb_⟩
 refine ⟨_, rfl, ?_⟩
 replace hh := hh.ext hb_
 cases b with
 | true =>
  refine mB ?_
  first | refine gS ?_ | (refine gT ?_; refine mL ?_) | refine gV ?_
  refine cd (by decide) rfl rfl (by decide) ?_
  first | refine cS ?_ | refine cU ?_
  refine mB ?_
  first | refine gS ?_ | (refine gT ?_; refine cB hh 0 [_,_,_] ?_) | refine gV ?_
  refine cd (by decide) rfl rfl (by decide) ?_
  first | refine cS ?_ | refine cU ?_
  refine ae (cT (sr ?_))
  refine bA hh (haw _ (hT.hp hh)) rfl ?_
  intro w34 hh
  refine aB (ae (al (aD ?_)))
  refine cn ?_
  exact ⟨rfl, hh.below⟩
 | false =>
  have hsm := hb rfl
  clear hb
  refine mB ?_
  first | refine gS ?_ | (refine gT ?_; refine mL ?_) | refine gV ?_
  refine bq rfl rfl ?_
  refine aR (sL xA xn xc xs _ (hS.ext hh.below)) ar.out rfl (by decide) ?_
  rintro e_ w28 ⟨b, rfl, hb, hb_⟩
  refine ⟨_, rfl, ?_⟩
  replace hh := hh.ext hb_
  cases b with
  | true =>
   first | refine cS ?_ | refine cU ?_
   refine mB ?_
   first | refine gS ?_ | (refine gT ?_; refine cB hh 0 [_,_,_] ?_) | refine gV ?_
   refine cd (by decide) rfl rfl (by decide) ?_
   first | refine cS ?_ | refine cU ?_
   refine ae (cT (sr ?_))
   refine bA hh (haw _ (hT.hp hh)) rfl ?_
   intro w34 hh
   refine aB (ae (al (aD ?_)))
   refine cn ?_
   exact ⟨rfl, hh.below⟩
  | false =>
   obtain ⟨hx20, hxo⟩ := hb rfl
   clear hb
   cases hfx : rh y with
   | true =>
    rw [hfx] at hfa
    first | refine cS ?_ | refine cU ?_
    refine mB ?_
    first | refine gS ?_ | (refine gT ?_; refine cB hh 0 [_,_,_] ?_) | refine gV ?_
    refine bq rfl rfl ?_
    refine bA hh (hfa _) rfl ?_
    intro w32 hh
    first | refine cS ?_ | refine cU ?_
    refine ae (cT (sr ?_))
    refine bA hh (haw _ (hT.hp hh)) rfl ?_
    intro w34 hh
    refine aB (ae (al (aD ?_)))
    refine cn ?_
    exact ⟨rfl, hh.below⟩
   | false =>
    rw [hfx] at hfa
    have hyo := Bx hfx
    have lp := hsm.lk hp hpc
    have hpl := hp.ln
    have hp10 := hsm.n
    first | refine cS ?_ | refine cU ?_
    refine mB ?_
    first | refine gS ?_ | (refine gT ?_; refine cB hh 0 [_,_,_] ?_) | refine gV ?_
    refine bq rfl rfl ?_
    refine bA hh (hfa _) rfl ?_
    intro w32 hh
    first | refine cS ?_ | refine cU ?_
    refine ae (cF (ak (ai (sr ?_))))
    refine cB hh 1 [_,_] ?_
    refine aR (rX p _ (hp.ext hh.below) lp.n) ar.out rfl (by decide) ?_
    rintro e_ w36 ⟨o, ⟨o1, o2, o3⟩, rfl, h4⟩
    refine ⟨_, rfl, ?_⟩
    replace hh := hh.join h4
    clear h4
    simp only [List.cons_append, List.nil_append] at hh
    replace hh := show Hp w (.row o.A o.n o.c 55 4 (aP TR.cells o.ts) :: _) _ from hh
    have loc : o.n ≤ o.c := hh.jK (i := 0) rfl
    have lo : o.lk 124 := ⟨by rw [o3]; exact lp.n, loc, by rw [o2]; exact lp.ok, by rw [o2]; exact lp.sz⟩
    refine cj hh ?_
    intro b9 w9 hh
    refine bD hh 0 [_,_] ?_
    intro ws hh
    replace hh : Hp _ (.blk _ _ [_, _] _ :: _) _ := hh
    refine ae (sr ?_)
    refine gi hh aF.out aA.out (by decide) ?_
    intro b37 w37 hh
    refine mL ?_
    refine bG hh (i := 0) rfl rfl rfl (hS.ext hh.below) aF.out aA.out rfl (by decide) ?one1 (by omega) (by omega) (by decide) ?kk1
    case one1 => first | rfl | assumption | exact oneCells_i64s _ | exact oneCells_u8s _
    intro A39 c39 w39 hh
    simp only [List.set_cons_zero] at hh
    rw [Nat.zero_add xn]
    rw [Nat.zero_add, List.nil_append] at hh
    have hev := fun w1 hT1 ha hb => j8 o xs A39 xn c39 124 w1 hT1 ha lo hb hln hxo (by decide)
    rw [qh o1 o2, wB o1 o2] at hev
    have hdr := fun w1 hT1 ha => iP o which 124 w1 hT1 ha lo (by decide)
    rw [se o1 o2] at hdr
    have hfc := fun w1 hT1 ha => m9 o which y 124 w1 hT1 ha lo hyo (by decide)
    rw [se o1 o2] at hfc
    refine aL (ae (sr ?_))
    refine cB hh 1 [_,_] (mL ?_)
    refine bA hh (hev _ (hT.hp hh) (hh.aJ (i := 2) rfl) (hh.aJ (i := 0) rfl)) rfl ?_
    intro w43 hh
    refine mT ?_
    refine dx ?_
    refine dx ?_
    refine cj hh ?_
    intro b11 w11 hh
    refine bD hh 0 [_,_,_] ?_
    intro ws hh
    replace hh : Hp _ (.blk _ _ [_, _, _] _ :: _) _ := hh
    refine aI (ae (sr ?_))
    refine cB hh 5 [_,_] (mL ?_)
    refine bA hh (rQ p xs xA xn xc 124 _ (hp.ext hh.below) lp (hS.ext hh.below) hln hxo (by decide)) rfl ?_
    intro w49 hh
    refine mT ?_
    refine dx ?_
    refine dx ?_
    refine cj hh ?_
    intro b13 w13 hh
    refine bD hh 0 [_,_,_] ?_
    intro ws hh
    replace hh : Hp _ (.blk _ _ [_, _, _] _ :: _) _ := hh
    refine aI (ae (sr ?_))
    refine cB hh 3 [_,_] (mI ?_)
    refine aR (hdr _ (hT.hp hh) (hh.aJ (i := 4) rfl)) ar.out rfl (by decide) ?_
    rintro e_ w55 ⟨g, og, rfl, h4⟩
    refine ⟨_, rfl, ?_⟩
    replace hh := hh.join h4
    clear h4
    simp only [List.cons_append, List.nil_append] at hh
    replace hh := show Hp w (.row g.A g.n g.c 55 4 (aP TR.cells g.ts) :: _) _ from hh
    rw [o1, o2] at og
    have qg := Nat.le_trans (og.len (hh.aJ (i := 0) rfl)) (sa _ _)
    refine mT ?_
    refine dx ?_
    refine dx ?_
    refine cj hh ?_
    intro b15 w15 hh
    refine bD hh 0 [_,_] ?_
    intro ws hh
    replace hh : Hp _ (.blk _ _ [_, _] _ :: _) _ := hh
    refine aI (ae (sr ?_))
    refine cB hh 8 [_,_] (mI ?_)
    refine aR (pw p which 124 _ (hp.ext hh.below) lp (by decide)) ar.out rfl (by decide) ?_
    rintro e_ w61 ⟨k, ok, rfl, h4⟩
    refine ⟨_, rfl, ?_⟩
    replace hh := hh.join h4
    clear h4
    simp only [List.cons_append, List.nil_append] at hh
    replace hh := show Hp w (.row k.A k.n k.c 55 4 (aP TR.cells k.ts) :: _) _ from hh
    have qk := Nat.le_trans (ok.len (hh.aJ (i := 0) rfl)) (sa _ _)
    refine mT ?_
    refine dx ?_
    refine dx ?_
    refine cj hh ?_
    intro b17 w17 hh
    refine bD hh 0 [_,_] ?_
    intro ws hh
    replace hh : Hp _ (.blk _ _ [_, _] _ :: _) _ := hh
    refine aI (ae (sr ?_))
    refine cB hh 7 [_,_] (mI ?_)
    refine cB hh 9 [_,_,_] ?_
    refine aR (hfc _ (hT.hp hh) (hh.aJ (i := 8) rfl)) ar.out rfl (by decide) ?_
    rintro e_ w68 ⟨g2, og2, rfl, h4⟩
    refine ⟨_, rfl, ?_⟩
    replace hh := hh.join h4
    clear h4
    simp only [List.cons_append, List.nil_append] at hh
    replace hh := show Hp w (.row g2.A g2.n g2.c 55 4 (aP TR.cells g2.ts) :: _) _ from hh
    rw [o1, o2] at og2
    have qg2 := Nat.le_trans (og2.len (hh.aJ (i := 0) rfl)) (sR _ _ _)
    refine mT ?_
    refine dx ?_
    refine dx ?_
    refine cj hh ?_
    intro b19 w19 hh
    refine bD hh 0 [_,_] ?_
    intro ws hh
    replace hh : Hp _ (.blk _ _ [_, _] _ :: _) _ := hh
    refine aI (ae (sr ?_))
    refine cB hh 12 [_,_] (mI ?_)
    refine cB hh 11 [_,_,_] ?_
    refine aR (th p which y 124 _ (hp.ext hh.below) lp hyo (by decide)) ar.out rfl (by decide) ?_
    rintro e_ w75 ⟨k2, ok2, rfl, h4⟩
    refine ⟨_, rfl, ?_⟩
    replace hh := hh.join h4
    clear h4
    simp only [List.cons_append, List.nil_append] at hh
    replace hh := show Hp w (.row k2.A k2.n k2.c 55 4 (aP TR.cells k2.ts) :: _) _ from hh
    have qk2 := Nat.le_trans (ok2.len (hh.aJ (i := 0) rfl)) (sR _ _ _)
    generalize gf p which = E at *
    generalize il p xn = F at *
    generalize gX p xs = V at *
    refine mT ?_
    refine dx ?_
    refine dx ?_
    refine cj hh ?_
    intro b21 w21 hh
    refine bD hh 0 [_,_] ?_
    intro ws hh
    replace hh : Hp _ (.blk _ _ [_, _] _ :: _) _ := hh
    refine aI (ae (ah (sr ?_)))
    refine cB hh 9 [_,_,_] ?_
    refine cB hh 8 [_,_,_] ?_
    first | refine kq rfl rfl (by first | assumption | rfl) (by decide) ?_ | refine ki rfl rfl (by assumption) (by decide) ?_
    refine mB ?_
    first | refine gS ?_ | (refine gT ?_; refine mI ?_) | refine gV ?_
    first | refine gS ?_ | (refine gT ?_; refine mI ?_) | refine gV ?_
    first | refine gS ?_ | (refine gT ?_; refine cQ ?_) | refine gV ?_
    first | refine cS ?_ | refine cU ?_
    refine mB ?_
    first | refine gS ?_ | (refine gT ?_; refine cB hh 6 [_,_] ?_) | refine gV ?_
    first | refine gS ?_ | (refine gT ?_; refine cB hh 4 [_,_] ?_) | refine gV ?_
    refine bq rfl rfl ?_
    refine bA hh (j7 (g := g) (h := k) _ (hh.aJ (i := 7) rfl) (hh.aJ (i := 5) rfl) (og.same ok) (by omega) (by omega)) rfl ?_
    intro w89 hh
    first | refine gS ?_ | (refine gT ?_; refine gg ?_) | refine gV ?_
    first | refine cS ?_ | refine cU ?_
    refine mB ?_
    first | refine gS ?_ | (refine gT ?_; refine mI ?_) | refine gV ?_
    first | refine gS ?_ | (refine gT ?_; refine mI ?_) | refine gV ?_
    first | refine gS ?_ | (refine gT ?_; refine cQ ?_) | refine gV ?_
    first | refine cS ?_ | refine cU ?_
    refine mB ?_
    first | refine gS ?_ | (refine gT ?_; refine cB hh 2 [_,_] ?_) | refine gV ?_
    first | refine gS ?_ | (refine gT ?_; refine cB hh 0 [_,_] ?_) | refine gV ?_
    refine bq rfl rfl ?_
    refine bA hh (j7 (g := g2) (h := k2) _ (hh.aJ (i := 3) rfl) (hh.aJ (i := 1) rfl) (og2.same ok2) (by omega) (by omega)) rfl ?_
    intro w100 hh
    first | refine gS ?_ | (refine gT ?_; refine gg ?_) | refine gV ?_
    first | refine cS ?_ | refine cU ?_
    refine mB ?_
    first | refine gS ?_ | (refine gT ?_; refine mI ?_) | refine gV ?_
    first | refine gS ?_ | (refine gT ?_; refine mI ?_) | refine gV ?_
    first | refine gS ?_ | (refine gT ?_; refine cQ ?_) | refine gV ?_
    first | refine cS ?_ | refine cU ?_
    refine ae (cF (ak (ai (sr (bB ?_)))))
    refine bE hh 6 ?_
    replace hh := hh.perm (List.perm_middle (l₁ := [_, _, _, _, _, _, _]))
    simp only [List.cons_append, List.nil_append] at hh
    refine tk hh (i := 0) rfl rfl aF.out aA.out rfl rfl ?_
    intro wc hh
    simp only [List.set_cons_zero] at hh
    refine ae (sr (bB ?_))
    refine bE hh 3 ?_
    replace hh := hh.perm (List.perm_middle (l₁ := [_, _, _, _]))
    simp only [List.cons_append, List.nil_append] at hh
    refine tk hh (i := 0) rfl rfl aF.out aA.out rfl rfl ?_
    intro wc2 hh
    simp only [List.set_cons_zero] at hh
    replace hh := hh.sub (List.Sublist.cons _ (List.Sublist.cons _ (List.Sublist.cons _ (List.Sublist.cons _ (List.Sublist.cons _ (List.Sublist.cons _ (List.Sublist.cons _ (List.Sublist.cons _ (List.Sublist.cons _ (List.Sublist.cons _ (List.Sublist.cons_cons _ (List.Sublist.cons_cons _ (List.Sublist.cons_cons _ (List.Sublist.cons _ (List.Sublist.cons_cons _ List.Sublist.slnil)))))))))))))))
    refine ae (ah (sr (aI (ae (ao ?_)))))
    refine bs [8, 23, 112, 113, 114, 115, 116, 117, 118, 119, 120, 121, 122, 123, 124, 125, 126] 23
     (fun v w' => ∃ i : Nat, i ≤ xn ∧ v = .int .i64 i ∧ Hp w [.row A39 xn c39 29 3 (aP NR.cells xs), .blk b9 24 [.int .i64 o.v, .slice o.A o.n o.c] (0, 0), .row o.A o.n o.c 55 4 (aP TR.cells o.ts), .blk b4 24 [.int .i64 p.v, .slice p.A p.n p.c] (0, 0)] w')
     (fun v _ => xn - (intOf v).toNat) ?_ ?_
    ·exact ⟨0, Nat.zero_le _, rfl, hh⟩
    ·clear hh
     rintro ρ' v w' ⟨i, hi, rfl, hh⟩
     by_cases hlt : i < xn
     ·obtain ⟨x, hx⟩ := aE (l := xs) (k := i) (by omega)
      obtain ⟨ad, rfl, hr⟩ := hS.at_ (by omega)
      obtain ⟨gm, rfl⟩ := hh.eM (i := 0) rfl (by omega)
      refine ah (sr (mI (mL (a0 ?_))))
      refine aW (ae (cT (ak (ai (ah (ao (ah ?_)))))))
      refine aU 8 [[(10, none)], [(23, none)], [(118, some 0), (119, some 1)], [(120, some 2)], [(1, none)], [(23, none)], [(122, some 4), (123, some 5)], [(124, some 6)]] [(7, 125), (6, 124), (5, 123), (4, 122), (3, 121), (2, 120), (1, 119), (0, 118)] hh mixed (by kernel_rfl) ?_
      refine fX ?_
      refine ej ?_
      refine AB (i) ?_
      refine qQ [_,_,_] (fun _ hj => hj.hp.iX (f := NR.cells) (x := x) (l := xs) (i := 0) rfl NR.len (by decide) hx) ?_
      refine fX ?_
      refine ej ?_
      refine jN (i) ?_
      refine qQ [_,_,_] (fun _ hj => (hr.ext hj.hp.below).recAt NR.len hx) ?_
      refine a6 ?_
      intro f W hJ hV
      have hb_18 := hJ.bl
      obtain ⟨v125, v124, v123, v122, v121, v120, v119, v118, _⟩ := hV
      replace hh := hJ.hp
      refine aK (a4 (aa v125 (aa v124 (aa v123 (aa v122 (aa v121 (aa v120 (aa v119 (aa v118 aM))))))))) ?_
      dsimp only [bX]
      clear hJ
      first | refine kq rfl rfl (by first | assumption | rfl) (by decide) ?_ | refine ki rfl rfl (by assumption) (by decide) ?_
      refine ae (cF (ak (aT (ai (aq (mI ?_))))))
      refine bL (aI (aC (ai ?_)))
      refine ⟨⟨i + 1, by omega, rfl, hh⟩, by show xn - (i + 1) < xn - i; omega, ?_⟩
      (repeat (first | exact aw _ _ _ | refine ax rfl ?_ | refine au rfl ?_))
     ·refine ah (sr (mI (mL (a0 ?_))))
      refine aW (ae (cF ?_))
      refine aO ?_
      refine ay (ay (a8 (ai (sr ?_))))
      refine cB hh 1 [_,_] ?_
      refine cB hh 3 [_,_] ?_
      refine bA hh (j7 (g := o) (h := p) _ (hh.aJ (i := 2) rfl) (hp.ext hh.below) ⟨o1, o2⟩ lo.n lp.n) rfl ?_
      intro w129 hh
      refine mB ?_
      refine bq rfl rfl ?_
      refine bA hh (haw _ (hT.hp hh)) rfl ?_
      intro w131 hh
      first | refine cS ?_ | refine cU ?_
      refine aB (ae (al ?_))
      refine cn ?_
      exact ⟨rfl, hh.below⟩
end Go.Proofs.YtaapkaefelhfcaaGreatDoor
/- The row and the card of CalcEvals. -/
namespace Go.Proofs.YtaapkaefelhfcaaGreatDoor.calcEvals
open Go.ChangeShapes Go.WideShapes Go.ChangeAt Go.RowKit Go.ChangeMaps
theorem own : ownKnob Tryz.prog.godebug = none := by kernel_rfl
set_option maxRecDepth 100000 in
theorem lifted (os : Os) (started : os.Started) (H : Type) (enc : TypeId × Value → H) :
  ReturnsInHanded {} Tryz.checked os 3 .any (fun w args => (Rows.calcEvalsSpec.pre enc Tryz.prog Tryz.f3 Rows.calcEvalsRow.domain false w args ∧ laidMetH Tryz.prog Rows.calcEvalsRow.laid w) ∧ sizedMet enc Tryz.prog Tryz.f3 (OpenSpec.ofChange Rows.calcEvalsSpec) false w args)
   (Rows.calcEvalsSpec.post enc Tryz.prog Tryz.f3 false true false false) := by
 refine returnsInHanded_of_change_and (C := Tryz.checked) (X := fun w _ => laidMetH Tryz.prog Rows.calcEvalsRow.laid w) (fun _ _ _ hh h => h.of_heap hh) own started (by kernel_rfl) Tryz.func3
  (ChangeSpec.witness_shaped (enc := enc) (C := Tryz.checked) (os := os) (X := fun w _ => laidMetH Tryz.prog Rows.calcEvalsRow.laid w) false (World.laidAll Tryz.prog os Rows.calcEvalsRow.laid) #[.agg #[.int .i64 0, .slice none 0 0], .slice none 0 0, .int .i64 0, .agg #[.bool false, .string ⟨#[]⟩, .int .i64 0]] 8 (World.laidAll_os _ _ _)
   (World.shaped_of_ZipB (by kernel_rfl) (by kernel_rfl)) (by kernel_rfl) (by kernel_rfl) (by kernel_rfl)
   (by rw [MakeChecks.laidMetH_plain _ _ _ (by kernel_rfl)]; exact laidMet_laidAll _ (by kernel_rfl) (by kernel_rfl))) ?_
 intro W base args ds gs before hval0 hW hc _ hL _
 have hval : ∀ (j : Nat) t v, Tryz.f3.params[j]? = some t → args[j]? = some v → Value.okWide Tryz.prog W .any base t v := hval0
 have hW' := hW
 obtain ⟨p, q, hA0, hV, rfl, hfz, hnd⟩ := hW
 have hA : DataW.TrodAll enc Tryz.prog W 0 (fun _ => true) true Tryz.f3.params.toList args.toList ds p := hA0
 rw [Tryz.params3] at hA hval
 obtain ⟨v0, vs0, d0, ds0, p0, q0, hargs, rfl, rfl, h0, r0⟩ := trodAll_cons hA
 obtain ⟨v1, vs1, d1, ds1, p1, q1, rfl, rfl, rfl, h1, r1⟩ := trodAll_cons r0
 obtain ⟨v2, vs2, d2, ds2, p2, q2, rfl, rfl, rfl, h2, r2⟩ := trodAll_cons r1
 obtain ⟨v3, vs3, d3, ds3, p3, q3, rfl, rfl, rfl, h3, r3⟩ := trodAll_cons r2
 obtain ⟨rfl, rfl, rfl⟩ := trodAll_nil r3
 obtain rfl : args = #[v0, v1, v2, v3] := by cases args; simp_all
 obtain ⟨rfl, rfl⟩ := trodVars_none hV
 obtain ⟨f0, rfl, hS0, hR0⟩ := xr (hval 0 24 v0 rfl rfl) h0
 obtain ⟨A1, n1, c1, l1, rfl, hS1, _⟩ := xb (hval 1 25 v1 rfl rfl) h1
 obtain ⟨x2, rfl, rfl, rfl, b2⟩ := open_int Tryz.underlying3 (hval 2 3 v2 rfl rfl) h2
 obtain ⟨x3, rfl, _, _⟩ := yS (hval 3 29 v3 rfl rfl) h3
 refine (nh f0 A1 n1 c1 l1 x2 x3 W (sC hL) hS0 hR0 hS1).mono fun e W' ⟨he, hb⟩ => ?_
 subst he
 exact ⟨_, rfl, x9 hW' rfl (by kernel_rfl) (by rw [Tryz.params3]; exact of_decide_eq_true (by kernel_rfl)) (by kernel_rfl) Tryz.underlying4 rfl rfl rfl hb⟩
set_option maxHeartbeats 8000000 in
theorem row_holds : Rows.CalcEvalsSaid :=
 OpenClaim.holds_of_wide 3 Tryz.f3 rfl rfl rfl rfl rfl rfl rfl ⟨rfl, rfl, rfl, rfl, rfl⟩ rfl rfl rfl rfl rfl (by as_aux_lemma => kernel_rfl) Tryz.func3 (by rw [joinedFacts]; simp only [Bool.and_eq_true]; and_intros <;> as_aux_lemma => kernel_rfl)
  (of_decide_eq_true (by as_aux_lemma => kernel_rfl)) (by unfold Func.isWrapper; first | (rw [if_pos (by decide +kernel)]; kernel_rfl) | (rw [if_neg (by decide +kernel)]; exact ⟨rfl, rfl⟩))
  (fun os started H enc _ => lifted os started H enc)
set_option maxHeartbeats 8000000 in
theorem holds : Rows.CalcEvalsCardSaid :=
 Claim7.holds_tied_plain_at .later [] [.data, .data, .pinned] true (true, "2e058731d083964e00da79f56b5eaec75083ca1c857dbc4a5b6262d178933a13") false row_holds (fun _ h => by cases h) (by as_aux_lemma => kernel_rfl) (fun _ h => by cases h) calcEvals_row_tie rfl ⟨rfl, rfl⟩ (by as_aux_lemma => kernel_rfl) rfl
  (fun f fn hf hfn => by
   obtain rfl : f = 3 := Option.some.inj ((show Tryz.prog.funcNamed "ogee/ogeelaw09.CalcEvals" = some 3 by as_aux_lemma => kernel_rfl).symm.trans hf) |>.symm
   obtain rfl : fn = Tryz.f3 := (Option.some.inj (Tryz.func3.symm.trans hfn)).symm
   exact ⟨by as_aux_lemma => kernel_rfl, fun j t ht => by
    rw [Tryz.params3] at ht
    have hm : t ∈ [24, 25, 3, 29] := by simpa using Array.mem_of_getElem? ht
    have hall : ([24, 25, 3, 29].all fun u => !Tryz.prog.wantsStandIn u) = true := by as_aux_lemma => kernel_rfl
    exact (show Tryz.prog.wantsStandIn t = false by simpa using List.all_eq_true.1 hall t hm)⟩)
  (by as_aux_lemma => kernel_rfl)
#print axioms holds
end Go.Proofs.YtaapkaefelhfcaaGreatDoor.calcEvals
