/- The row and the card of PolyForm. -/
import Derived.Test.YtkgdagjklakajaaGreatDoorCards
import Derived.Test.YtkgdagjklakajaaGreatDoorTie
import Derived.SevenTiedAt
import Derived.Test.YtkgdagjklakajaaGreatDoorZ5
/- The walk through ogeelaw08.awake. -/
namespace Go.Proofs.YtkgdagjklakajaaGreatDoor
open Go.RowKit
theorem xc (w : World) (hT : fS w) : Calls Tryz.prog 28 #[.int .i64 2, .int .i64 2] w fun r w' => ∃ g : PX, r = .returned (.tuple #[.agg #[.int .i64 g.v, .slice g.A g.n g.c], .int .i64 1]) ∧ Below w.heap.size w w' :=
 (so 2 2 w hT).mono fun r w' ⟨g, _, hr, h3⟩ => ⟨g, hr, h3.below⟩
theorem um (w : World) (hT : fS w) : Calls Tryz.prog 26 #[.int .i64 13, .agg #[.bool (nR ((1 : Int) : Dyadic)).neg, .string (nR ((1 : Int) : Dyadic)).cq, .int .i64 (nR ((1 : Int) : Dyadic)).e]] w fun r w' => ∃ g : PX, r = .returned (.tuple #[.agg #[.int .i64 g.v, .slice g.A g.n g.c], .int .i64 1]) ∧ Below w.heap.size w w' := by
 have z1 : Sz 24 ((1 : Int) : Dyadic) := xg (m := 1) (e := 0) (by decide) (by decide) (by decide)
 exact (ki 13 (nR ((1 : Int) : Dyadic)) 24 w hT ⟨z1.ok (by decide), by rw [fh]; exact z1⟩ (by decide)).mono fun r w' ⟨g, _, hr, h3⟩ => ⟨g, hr, h3.below⟩
theorem xw (w : World) (hT : fS w) : Calls Tryz.prog 37 #[.slice none 0 0] w fun r w' => ∃ g : PX, r = .returned (.tuple #[.agg #[.int .i64 g.v, .slice g.A g.n g.c], .int .i64 1]) ∧ Below w.heap.size w w' :=
 (m5 none 0 0 [] 24 w hT (Sl.nil _ _ _) (by decide) (fun g hg => nomatch hg) (fun g hg => nomatch hg) (by decide)).mono fun r w' ⟨g, _, hr, h3⟩ => ⟨g, hr, h3.below⟩
theorem xm (A : Option Addr) (c : Nat) (w : World) (hT : fS w) (hA : Sl w A 2 4 (a8 TR.cells (zT (rz 1)))) (hc : 2 ≤ c) : Calls Tryz.prog 35 #[.agg #[.int .i64 2, .slice A 2 c], .int .i64 (-1)] w fun r w' => ∃ g : PX, r = .returned (.tuple #[.agg #[.int .i64 g.v, .slice g.A g.n g.c], .int .i64 1]) ∧ Below w.heap.size w w' := by
 have hpe : (⟨2, A, 2, c, zT (rz 1)⟩ : PX).e = 0 := jX (show fB 2 = true by decide) rfl (by decide)
 have := mE ⟨2, A, 2, c, zT (rz 1)⟩ (-1) 24 w hT hA (mD rfl (by decide) hc) (by decide) (.inl (by decide))
 rw [show me ⟨2, A, 2, c, zT (rz 1)⟩ (-1) = 1 by unfold me; rw [if_pos hpe, if_pos (.inl (by decide))]] at this
 exact this.mono fun r w' ⟨g, _, hr, h3⟩ => ⟨g, hr, h3.below⟩
theorem zr (A : Option Addr) (c : Nat) (w : World) (hT : fS w) (hA : Sl w A 1 4 (a8 TR.cells (zT [([2, 1], 1)]))) (hc : 1 ≤ c) : Calls Tryz.prog 24 #[.agg #[.int .i64 2, .slice A 1 c]] w fun r w' => ∃ A' c', r = .returned (.slice A' 2 c') ∧ Hp w [.row A' 2 c' 3 1 (eo [2, 1])] w' := by
 have hpe : gB 2 (zT [([2, 1], 1)]) = 0 := jX (show fB 2 = true by decide) rfl (by decide)
 have := q6 ⟨2, A, 1, c, zT [([2, 1], 1)]⟩ 24 w hT hA (mD rfl (by decide) hc)
 rw [show yv 2 (zT [([2, 1], 1)]) = [2, 1] by unfold yv; rw [if_pos hpe]; rfl] at this
 exact this
theorem zX (A B : Option Addr) (c d : Nat) (w : World) (hA : Sl w A 2 1 (eo [2, 1])) (hB : Sl w B 2 1 (eo [2, 1])) : Calls Tryz.prog 23 #[.slice A 2 c, .slice B 2 d] w fun r w' => r = .returned (.bool true) ∧ Below w.heap.size w w' := nq A B 2 2 c d [2, 1] [2, 1] w hA hB (by decide) (by decide)
theorem fN (w : World) (hT : fS w) : Calls Tryz.prog 17 #[] w fun r w' => r = .returned (.bool true) ∧ Below w.heap.size w w' := by
 have hh := Hp.start w
 refine al (N := 128) (l := []) Tryz.func17 rfl rfl (by simp) ?_
 refine sr (aB (ah (sr ?_)))
 refine bC hh (bZ 2 _ (by decide) (by decide)) rfl ?_
 intro w17 hh
 refine eD [_,_,_,_] ?_
 refine bC hh (bZ 3 _ (by decide) (by decide)) rfl ?_
 intro w19 hh
 refine eD [_,_,_,_] ?_
 refine bC hh (bZ (-2) _ (by decide) (by decide)) rfl ?_
 intro w21 hh
 refine eD [_,_,_,_] ?_
 refine bf hh (cs := [_, _, _, _, _, _, _, _, _, _, _, _]) aG.out aD.out (aZ (cu rfl) (aZ (cu rfl) (aZ (cu rfl) bQ))) rfl rfl (by decide) (by decide) (by decide) rfl (by decide) ?_
 intro b23 w23 hh
 refine aN (zm [([1], 2), ([0], 3), ([1], -2)] [([0], 3)] 1 _ 3 _ _ (hT.hp hh) (hh.aM (i := 0) rfl) (by decide) rfl rfl rfl rfl) au.out rfl (by decide) ?_
 rintro e_ w24 ⟨A1, c1, rfl, h2⟩
 refine ⟨_, rfl, ?_⟩
 replace hh := hh.join h2
 simp only [List.cons_append, List.nil_append] at hh
 clear h2
 replace hh := hh.sub (List.Sublist.cons_cons _ (List.Sublist.cons _ List.Sublist.slnil))
 refine mT ?_
 refine dw ?_
 refine dw ?_
 refine cx hh ?_
 intro b1 w1 hh
 refine bL hh 0 [_,_] ?_
 intro ws hh
 replace hh : Hp _ (.blk _ _ [_, _] _ :: _) _ := hh
 refine aI (ah (sr ?_))
 refine aN (kR 1 _ (by decide) (by decide)) au.out rfl (by decide) ?_
 rintro e_ w28 ⟨A2, c2, rfl, h2⟩
 refine ⟨_, rfl, ?_⟩
 replace hh := hh.join h2
 simp only [List.cons_append, List.nil_append] at hh
 clear h2
 refine aN (kR (-1) _ (by decide) (by decide)) au.out rfl (by decide) ?_
 rintro e_ w29 ⟨A3, c3, rfl, h2⟩
 refine ⟨_, rfl, ?_⟩
 replace hh := hh.join h2
 simp only [List.cons_append, List.nil_append] at hh
 clear h2
 refine bf hh (cs := [_, _, _, _]) aG.out aD.out (aZ (cu rfl) (aZ (cu rfl) bQ)) rfl rfl (by decide) (by decide) (by decide) rfl (by decide) ?_
 intro b30 w30 hh
 refine aN (zN (rz 1) (rz (-1)) [([0, 2], -1), ([2, 0], 1)] 2 _ A2 A3 c2 c3 2 2 _ (hT.hp hh) (hh.aM (i := 0) rfl) (hh.aM (i := 2) rfl) (hh.aM (i := 1) rfl) (by decide) (hh.g9 (i := 2) rfl) (hh.g9 (i := 1) rfl) (by decide) rfl rfl rfl rfl rfl rfl) au.out rfl (by decide) ?_
 rintro e_ w31 ⟨A4, c4, rfl, h2⟩
 refine ⟨_, rfl, ?_⟩
 replace hh := hh.join h2
 simp only [List.cons_append, List.nil_append] at hh
 clear h2
 replace hh := hh.sub (List.Sublist.cons_cons _ (List.Sublist.cons _ (List.Sublist.cons _ (List.Sublist.cons _ (List.Sublist.cons_cons _ (List.Sublist.cons_cons _ List.Sublist.slnil))))))
 refine mT ?_
 refine dw ?_
 refine dw ?_
 refine cx hh ?_
 intro b3 w3 hh
 refine bL hh 0 [_,_] ?_
 intro ws hh
 replace hh : Hp _ (.blk _ _ [_, _] _ :: _) _ := hh
 refine aI (ah (sr ?_))
 refine bC hh (bZ 1 _ (by decide) (by decide)) rfl ?_
 intro w35 hh
 refine eD [_,_,_,_] ?_
 refine bC hh (bZ 1 _ (by decide) (by decide)) rfl ?_
 intro w37 hh
 refine eD [_,_,_,_] ?_
 refine bf hh (cs := [_, _, _, _, _, _, _, _]) aG.out aD.out (aZ (cu rfl) (aZ (cu rfl) bQ)) rfl rfl (by decide) (by decide) (by decide) rfl (by decide) ?_
 intro b39 w39 hh
 refine eD [_,_] ?_
 refine aN (zQ [([0], 1), ([1], 1)] [([0], 1), ([1], 2), ([2], 1)] _ 2 2 _ (hT.hp hh) (hh.aM (i := 0) rfl) (by decide) (by decide) rfl rfl rfl rfl rfl rfl) au.out rfl (by decide) ?_
 rintro e_ w41 ⟨A5, c5, rfl, h2⟩
 refine ⟨_, rfl, ?_⟩
 replace hh := hh.join h2
 simp only [List.cons_append, List.nil_append] at hh
 clear h2
 replace hh := hh.sub (List.Sublist.cons_cons _ (List.Sublist.cons _ (List.Sublist.cons_cons _ (List.Sublist.cons_cons _ (List.Sublist.cons_cons _ (List.Sublist.cons_cons _ List.Sublist.slnil))))))
 refine mT ?_
 refine dw ?_
 refine dw ?_
 refine cx hh ?_
 intro b5 w5 hh
 refine bL hh 0 [_,_] ?_
 intro ws hh
 replace hh : Hp _ (.blk _ _ [_, _] _ :: _) _ := hh
 refine aI (ah (sr ?_))
 refine aN (xw _ (hT.hp hh)) au.out rfl (by decide) ?_
 rintro e_ w45 ⟨g4, rfl, hb_⟩
 refine ⟨_, rfl, ?_⟩
 replace hh := hh.ext hb_
 refine mT ?_
 refine dw ?_
 refine dw ?_
 refine cx hh ?_
 intro b7 w7 hh
 refine bL hh 0 [_,_] ?_
 intro ws hh
 replace hh : Hp _ (.blk _ _ [_, _] _ :: _) _ := hh
 refine aI (ah (sr ?_))
 replace hh := hh.sub (List.Sublist.cons _ (List.Sublist.cons_cons _ (List.Sublist.cons_cons _ (List.Sublist.cons_cons _ (List.Sublist.cons_cons _ (List.Sublist.cons_cons _ (List.Sublist.cons_cons _ List.Sublist.slnil)))))))
 refine aN (xc _ (hT.hp hh)) au.out rfl (by decide) ?_
 rintro e_ w49 ⟨g5, rfl, hb_⟩
 refine ⟨_, rfl, ?_⟩
 replace hh := hh.ext hb_
 refine mT ?_
 refine dw ?_
 refine dw ?_
 refine cx hh ?_
 intro b9 w9 hh
 refine bL hh 0 [_,_] ?_
 intro ws hh
 replace hh : Hp _ (.blk _ _ [_, _] _ :: _) _ := hh
 refine aI (ah (sr ?_))
 replace hh := hh.sub (List.Sublist.cons _ (List.Sublist.cons_cons _ (List.Sublist.cons_cons _ (List.Sublist.cons_cons _ (List.Sublist.cons_cons _ (List.Sublist.cons_cons _ (List.Sublist.cons_cons _ List.Sublist.slnil)))))))
 refine aN (kR 1 _ (by decide) (by decide)) au.out rfl (by decide) ?_
 rintro e_ w53 ⟨A6, c6, rfl, h2⟩
 refine ⟨_, rfl, ?_⟩
 replace hh := hh.join h2
 simp only [List.cons_append, List.nil_append] at hh
 clear h2
 refine aN (xm A6 c6 _ (hT.hp hh) (hh.aM (i := 0) rfl) (hh.g9 (i := 0) rfl)) au.out rfl (by decide) ?_
 rintro e_ w54 ⟨g6, rfl, hb_⟩
 refine ⟨_, rfl, ?_⟩
 replace hh := hh.ext hb_
 refine mT ?_
 refine dw ?_
 refine dw ?_
 refine cx hh ?_
 intro b11 w11 hh
 refine bL hh 0 [_,_] ?_
 intro ws hh
 replace hh : Hp _ (.blk _ _ [_, _] _ :: _) _ := hh
 refine aI (ah (sr ?_))
 replace hh := hh.sub (List.Sublist.cons _ (List.Sublist.cons _ (List.Sublist.cons_cons _ (List.Sublist.cons_cons _ (List.Sublist.cons_cons _ (List.Sublist.cons_cons _ (List.Sublist.cons_cons _ (List.Sublist.cons_cons _ List.Sublist.slnil))))))))
 refine bC hh (bZ 1 _ (by decide) (by decide)) rfl ?_
 intro w58 hh
 refine aN (um _ (hT.hp hh)) au.out rfl (by decide) ?_
 rintro e_ w59 ⟨g7, rfl, hb_⟩
 refine ⟨_, rfl, ?_⟩
 replace hh := hh.ext hb_
 refine mT ?_
 refine dw ?_
 refine dw ?_
 refine cx hh ?_
 intro b13 w13 hh
 refine bL hh 0 [_,_] ?_
 intro ws hh
 replace hh : Hp _ (.blk _ _ [_, _] _ :: _) _ := hh
 refine aI (ah (sr ?_))
 replace hh := hh.sub (List.Sublist.cons _ (List.Sublist.cons_cons _ (List.Sublist.cons_cons _ (List.Sublist.cons_cons _ (List.Sublist.cons_cons _ (List.Sublist.cons_cons _ (List.Sublist.cons_cons _ List.Sublist.slnil)))))))
 refine bC hh (bZ 1 _ (by decide) (by decide)) rfl ?_
 intro w62 hh
 refine eD [_,_,_,_] ?_
 refine bf hh (cs := [_, _, _, _]) aG.out aD.out (aZ (cu rfl) bQ) rfl rfl (by decide) (by decide) (by decide) rfl (by decide) ?_
 intro b64 w64 hh
 refine eD [_,_] ?_
 refine aN (zr _ 1 _ (hT.hp hh) (hh.aM (i := 0) rfl) (by decide)) au.out rfl (by decide) ?_
 rintro e_ w66 ⟨A8, c8, rfl, h2⟩
 refine ⟨_, rfl, ?_⟩
 replace hh := hh.join h2
 simp only [List.cons_append, List.nil_append] at hh
 clear h2
 replace hh := hh.sub (List.Sublist.cons_cons _ (List.Sublist.cons _ (List.Sublist.cons_cons _ (List.Sublist.cons_cons _ (List.Sublist.cons_cons _ (List.Sublist.cons_cons _ (List.Sublist.cons_cons _ (List.Sublist.cons_cons _ List.Sublist.slnil))))))))
 refine aL (ah (aj ?_))
 refine eH [] [] [0, 1, 3, 7, 15, 31, 63, 127, 255, 511, 1023, 2047, 4095, 8191, 16383, 32767, 65535, 131071, 262143, 524287, 1048575, 2097151, 4194303, 8388607, 16777215, 33554431, 67108863, 134217727, 268435455, 134217727, 671088639, 1744830463, 4294967295, 8589934591, 17179869183, 34359738367, 68719476735, 34359738367, 171798691839, 171798691839, 721554505727, 2095944040447, 4398046511103, 8796093022207, 17592186044415, 35184372088831, 70368744177663, 35184372088831, 175921860444159, 175921860444159, 738871813865471, 738871813865471, 2990671627550719, 8901646138474495, 18014398509481983, 36028797018963967, 72057594037927935, 144115188075855871, 144115188075855871, 576460752303423487, 1152921504606846975, 2305843009213693951] 59 [[(2, none)], [(67, some 0)], [(68, some 1)], [(4, none), (69, some 2)], [(70, some 3), (69, some 2)], [(69, some 2), (71, some 4)], [(72, some 5)], [(6, none), (73, some 6)], [(74, some 7), (73, some 6)], [(73, some 6), (75, some 8)], [(76, some 9)], [(8, none), (77, some 10)], [(78, some 11), (77, some 10)], [(77, some 10), (79, some 12)], [(80, some 13)], [(10, none), (81, some 14)], [(82, some 15), (81, some 14)], [(81, some 14), (83, some 16)], [(84, some 17)], [(12, none), (85, some 18)], [(86, some 19), (85, some 18)], [(85, some 18), (87, some 20)], [(88, some 21)], [(14, none), (89, some 22)], [(90, some 23), (89, some 22)], [(89, some 22), (91, some 24)], [(92, some 25)], [(1, none), (93, some 26)], [(94, some 27), (93, some 26)], [(93, some 26)], [(96, some 29), (93, some 26)], [(97, some 30), (93, some 26)], [(95, some 28), (98, some 31), (93, some 26)], [(93, some 26), (99, some 32)], [(100, some 33)], [(3, none), (101, some 34)], [(102, some 35), (101, some 34)], [(101, some 34)], [(104, some 37), (101, some 34)], [(101, some 34)], [(106, some 39), (101, some 34)], [(105, some 38), (107, some 40), (101, some 34)], [(103, some 36), (108, some 41), (101, some 34)], [(101, some 34), (109, some 42)], [(110, some 43)], [(5, none), (111, some 44)], [(112, some 45), (111, some 44)], [(111, some 44)], [(114, some 47), (111, some 44)], [(111, some 44)], [(116, some 49), (111, some 44)], [(111, some 44)], [(118, some 51), (111, some 44)], [(115, some 48), (117, some 50), (119, some 52), (111, some 44)], [(113, some 46), (120, some 53), (111, some 44)], [(111, some 44), (121, some 54)], [(122, some 55)], [(15, none), (123, some 56)], [(123, some 56)]] [(58, 125), (57, 124), (56, 123), (55, 122), (54, 121), (53, 120), (52, 119), (51, 118), (50, 117), (49, 116), (48, 115), (47, 114), (46, 113), (45, 112), (44, 111), (43, 110), (42, 109), (41, 108), (40, 107), (39, 106), (38, 105), (37, 104), (36, 103), (35, 102), (34, 101), (33, 100), (32, 99), (31, 98), (30, 97), (29, 96), (28, 95), (27, 94), (26, 93), (25, 92), (24, 91), (23, 90), (22, 89), (21, 88), (20, 87), (19, 86), (18, 85), (17, 84), (16, 83), (15, 82), (14, 81), (13, 80), (12, 79), (11, 78), (10, 77), (9, 76), (8, 75), (7, 74), (6, 73), (5, 72), (4, 71), (3, 70), (2, 69), (1, 68), (0, 67)] hh mixed (by kernel_rfl) fj rfl (by repeat (first | exact bY | refine bK ?_ | refine bX ?_)) ?_
 refine eG ?_
 refine k9 ?_
 refine ji ?_
 first | refine dS ?_ | refine dU ?_ | refine dG (eG ?_)
 first | refine dS ?_ | refine dU ?_ | refine dG (k9 ?_)
 first | refine nj ?_ | refine nk ?_
 refine ji ?_
 first | refine dS ?_ | refine dU ?_ | refine dG (eG ?_)
 first | refine dS ?_ | refine dU ?_ | refine dG (k9 ?_)
 first | refine nj ?_ | refine nk ?_
 refine ji ?_
 first | refine dS ?_ | refine dU ?_ | refine dG (eG ?_)
 first | refine dS ?_ | refine dU ?_ | refine dG (k9 ?_)
 first | refine nj ?_ | refine nk ?_
 refine ji ?_
 first | refine dS ?_ | refine dU ?_ | refine dG (eG ?_)
 first | refine dS ?_ | refine dU ?_ | refine dG (k9 ?_)
 first | refine nj ?_ | refine nk ?_
 refine ji ?_
 first | refine dS ?_ | refine dU ?_ | refine dG (eG ?_)
 first | refine dS ?_ | refine dU ?_ | refine dG (k9 ?_)
 first | refine nj ?_ | refine nk ?_
 refine ji ?_
 first | refine dS ?_ | refine dU ?_ | refine dG (eG ?_)
 first | refine dS ?_ | refine dU ?_ | refine dG (k9 ?_)
 first | refine nj ?_ | refine nk ?_
 refine ji ?_
 first | refine dS ?_ | refine dU ?_ | refine dG (dx ?_)
 first | refine dS ?_ | refine dU ?_ | refine dG (fi 5 ?_)
 refine bM (i := 29) rfl (fun ρ1 w1 hj hR => (show ρ1 93 = Value.bool _ from hR.1)) (fun ρ1 w1 hj hR => bs au.out (aF rfl bq)) (fun w1 hj => bZ 3 _ (by decide) (by decide)) ?_
 first | refine dS ?_ | refine dU ?_ | refine dG (dB [_,_,_,_] ?_)
 refine dR (i := 31) (cs := [_, _, _, _]) rfl (fun ρ1 w1 hj hR => (show ρ1 93 = Value.bool _ from hR.2.1)) aG.out aD.out (fun ρ1 w1 hj hR => (aZ (show ρ1 97 = Value.agg (List.toArray _) from hR.1) bQ)) rfl rfl (by decide) (by decide) rfl ?_
 refine bW (i := 32) (Is (.bool true)) Is.ext ?_ ?_
 ·intro ρ1 w1 hj hR
  obtain ⟨A98, c98, h98, s98⟩ := hR.2.1
  refine dA rfl ((show ρ1 93 = Value.bool _ from hR.2.2.1)) ?_
  exact cZ rfl (bs au.out (aF (show ρ1 95 = Value.slice _ _ _ from hR.1) (aF h98 bq))) (rP [([0], 3)] A1 1 c1 A98 c98 _ (hj.hp.aM (i := 6) rfl) s98 (by decide)) (fun _ _ hq => ⟨_, hq.1, hq.2, rfl⟩)
 first | refine nj ?_ | refine nk ?_
 refine ji ?_
 first | refine dS ?_ | refine dU ?_ | refine dG (dx ?_)
 first | refine dS ?_ | refine dU ?_ | refine dG (fi 3 ?_)
 refine bM (i := 37) rfl (fun ρ1 w1 hj hR => (show ρ1 101 = Value.bool _ from hR.1)) (fun ρ1 w1 hj hR => bs au.out (aF rfl bq)) (fun w1 hj => bZ (-1) _ (by decide) (by decide)) ?_
 first | refine dS ?_ | refine dU ?_ | refine dG (dB [_,_,_,_] ?_)
 refine bM (i := 39) rfl (fun ρ1 w1 hj hR => (show ρ1 101 = Value.bool _ from hR.1)) (fun ρ1 w1 hj hR => bs au.out (aF rfl bq)) (fun w1 hj => bZ 1 _ (by decide) (by decide)) ?_
 first | refine dS ?_ | refine dU ?_ | refine dG (dB [_,_,_,_] ?_)
 refine dR (i := 41) (cs := [_, _, _, _, _, _, _, _]) rfl (fun ρ1 w1 hj hR => (show ρ1 101 = Value.bool _ from hR.2.2.1)) aG.out aD.out (fun ρ1 w1 hj hR => (aZ (show ρ1 105 = Value.agg (List.toArray _) from hR.1) (aZ (show ρ1 107 = Value.agg (List.toArray _) from hR.2.1) bQ))) rfl rfl (by decide) (by decide) rfl ?_
 refine bW (i := 42) (Is (.bool true)) Is.ext ?_ ?_
 ·intro ρ1 w1 hj hR
  obtain ⟨A108, c108, h108, s108⟩ := hR.2.1
  refine dA rfl ((show ρ1 101 = Value.bool _ from hR.2.2.1)) ?_
  exact cZ rfl (bs au.out (aF (show ρ1 103 = Value.slice _ _ _ from hR.1) (aF h108 bq))) (rP [([0, 2], -1), ([2, 0], 1)] A4 2 c4 A108 c108 _ (hj.hp.aM (i := 4) rfl) s108 (by decide)) (fun _ _ hq => ⟨_, hq.1, hq.2, rfl⟩)
 first | refine nj ?_ | refine nk ?_
 refine ji ?_
 first | refine dS ?_ | refine dU ?_ | refine dG (dx ?_)
 first | refine dS ?_ | refine dU ?_ | refine dG (fi 1 ?_)
 refine bM (i := 47) rfl (fun ρ1 w1 hj hR => (show ρ1 111 = Value.bool _ from hR.1)) (fun ρ1 w1 hj hR => bs au.out (aF rfl bq)) (fun w1 hj => bZ 1 _ (by decide) (by decide)) ?_
 first | refine dS ?_ | refine dU ?_ | refine dG (dB [_,_,_,_] ?_)
 refine bM (i := 49) rfl (fun ρ1 w1 hj hR => (show ρ1 111 = Value.bool _ from hR.1)) (fun ρ1 w1 hj hR => bs au.out (aF rfl bq)) (fun w1 hj => bZ 2 _ (by decide) (by decide)) ?_
 first | refine dS ?_ | refine dU ?_ | refine dG (dB [_,_,_,_] ?_)
 refine bM (i := 51) rfl (fun ρ1 w1 hj hR => (show ρ1 111 = Value.bool _ from hR.1)) (fun ρ1 w1 hj hR => bs au.out (aF rfl bq)) (fun w1 hj => bZ 1 _ (by decide) (by decide)) ?_
 first | refine dS ?_ | refine dU ?_ | refine dG (dB [_,_,_,_] ?_)
 refine dR (i := 53) (cs := [_, _, _, _, _, _, _, _, _, _, _, _]) rfl (fun ρ1 w1 hj hR => (show ρ1 111 = Value.bool _ from hR.2.2.2.1)) aG.out aD.out (fun ρ1 w1 hj hR => (aZ (show ρ1 115 = Value.agg (List.toArray _) from hR.1) (aZ (show ρ1 117 = Value.agg (List.toArray _) from hR.2.1) (aZ (show ρ1 119 = Value.agg (List.toArray _) from hR.2.2.1) bQ)))) rfl rfl (by decide) (by decide) rfl ?_
 refine bW (i := 54) (Is (.bool true)) Is.ext ?_ ?_
 ·intro ρ1 w1 hj hR
  obtain ⟨A120, c120, h120, s120⟩ := hR.2.1
  refine dA rfl ((show ρ1 111 = Value.bool _ from hR.2.2.1)) ?_
  exact cZ rfl (bs au.out (aF (show ρ1 113 = Value.slice _ _ _ from hR.1) (aF h120 bq))) (rP [([0], 1), ([1], 2), ([2], 1)] A5 3 c5 A120 c120 _ (hj.hp.aM (i := 2) rfl) s120 (by decide)) (fun _ _ hq => ⟨_, hq.1, hq.2, rfl⟩)
 first | refine nj ?_ | refine nk ?_
 refine ji ?_
 first | refine dS ?_ | refine dU ?_ | refine dG (gE ?_)
 refine dR (i := 58) (cs := [_, _]) rfl (fun ρ1 w1 hj hR => (show ρ1 123 = Value.bool _ from hR.1)) aG.out aD.out (fun ρ1 w1 hj hR => (aZ rfl (aZ rfl bQ))) rfl rfl (by decide) (by decide) rfl ?_
 refine bp ?_
 intro f W hJ hV _
 have hb_9 := hJ.bl
 obtain ⟨v125, v124, v123, v122, v121, v120, v119, v118, v117, v116, v115, v114, v113, v112, v111, v110, v109, v108, v107, v106, v105, v104, v103, v102, v101, v100, v99, v98, v97, v96, v95, v94, v93, v92, v91, v90, v89, v88, v87, v86, v85, v84, v83, v82, v81, v80, v79, v78, v77, v76, v75, v74, v73, v72, v71, v70, v69, v68, v67, _⟩ := hV
 obtain ⟨A98, c98, e98, f98⟩ : Rows _ _ _ (f 31) W := v98
 obtain ⟨A108, c108, e108, f108⟩ : Rows _ _ _ (f 41) W := v108
 obtain ⟨A120, c120, e120, f120⟩ : Rows _ _ _ (f 53) W := v120
 obtain ⟨A125, c125, e125, f125⟩ : Rows _ _ _ (f 58) W := v125
 replace hh := hJ.hp
 refine a6 (bu (ai e125 (ai v124 (ai v123 (ai v122 (ai v121 (ai e120 (ai v119 (ai v118 (ai v117 (ai v116 (ai v115 (ai v114 (ai v113 (ai v112 (ai v111 (ai v110 (ai v109 (ai e108 (ai v107 (ai v106 (ai v105 (ai v104 (ai v103 (ai v102 (ai v101 (ai v100 (ai v99 (ai e98 (ai v97 (ai v96 (ai v95 (ai v94 (ai v93 (ai v92 (ai v91 (ai v90 (ai v89 (ai v88 (ai v87 (ai v86 (ai v85 (ai v84 (ai v83 (ai v82 (ai v81 (ai v80 (ai v79 (ai v78 (ai v77 (ai v76 (ai v75 (ai v74 (ai v73 (ai v72 (ai v71 (ai v70 (ai v69 (ai v68 (ai v67 a5)))))))))))))))))))))))))))))))))))))))))))))))))))))))))))) ?_
 dsimp only [cC]
 clear e98 e108 e120 e125 hJ
 refine a9 rfl rfl ?_
 refine bC hh (zX A8 A125 c8 c125 _ (hh.aM (i := 0) rfl) f125) rfl ?_
 intro w126 hh
 first | refine cU ?_ | refine cV ?_
 refine aB (ah (aq ?_))
 refine cf ?_
 exact ⟨rfl, hh.below⟩
end Go.Proofs.YtkgdagjklakajaaGreatDoor
/- The walk through the law PolyMakes. -/
namespace Go.Proofs.YtkgdagjklakajaaGreatDoor
open Go.RowKit
def zO (ds : List Int) : VP := fun v W => ∃ g : Option Addr × Nat, v = .slice g.1 ds.length g.2 ∧ Sl W g.1 ds.length 1 (eo ds)
theorem dk.oJ {E v : Int} {l : List TR} {g : PX} {w : World} (o : dk E v (a3 l) g) (h : g.at_ w) (hc : g.n ≤ g.c) (hs : zh l) : g.oJ 504 ∧ g.n ≤ 12 := by
 have hl := h.ln
 have hts := o.ts
 by_cases hE : E = 0
 ·rw [if_pos hE] at hts
  have h1 := gj l
  have h2 := hs.n
  rw [hts] at hl
  refine ⟨⟨by omega, hc, ?_, ?_⟩, by omega⟩
  ·rw [hts]
   intro t ht
   have h3 : Sz 504 t.c.d := (jt (fun t ht => (hs.ok t ht).2) t ht).mono (by omega)
   exact ⟨by rw [(dX l).nf t ht]; exact h3.ok (by decide), h3⟩
  ·rw [hts]
   intro t ht
   obtain ⟨s, hs2, e⟩ := gh t ht
   rw [← e]
   exact Nat.le_trans (hs.sz s hs2) (by decide)
 ·rw [if_neg hE] at hts
  rw [hts] at hl
  have h0 : g.n = 0 := hl.symm
  exact ⟨⟨by omega, hc, by rw [hts]; exact fun t ht => (nomatch ht), by rw [hts]; exact fun t ht => (nomatch ht)⟩, by omega⟩
theorem pX {g h : PX} (w : World) (hg : g.at_ w) (hh : h.at_ w) (e : g.v = h.v ∧ g.ts = h.ts) (hn : g.n ≤ 1000000) (hm : h.n ≤ 1000000) :
  Calls Tryz.prog 20 #[.agg #[.int .i64 g.v, .slice g.A g.n g.c], .agg #[.int .i64 h.v, .slice h.A h.n h.c]] w fun r w' => r = .returned (.bool true) ∧ Below w.heap.size w w' :=
 (qq g h w hg hh hn hm).mono fun r w' ⟨v, hr, hv, hb⟩ => ⟨by rw [hr, hv.2 e], hb⟩
end Go.Proofs.YtkgdagjklakajaaGreatDoor
/- Plain: what is answered without an error may be; with one it is zero. -/
namespace Go.Proofs.YtkgdagjklakajaaGreatDoor
open Go.RowKit
structure rh (E : Int) (g : PX) : Prop where
 bad : E ≠ 0 → g.v = 0 ∧ g.ts = []
 ok : E = 0 → g.e = 0 ∧ gm 100000 g.ts ∧ ∀ t ∈ g.ts, t.m.size ≤ 100000
theorem dk.pS {E v : Int} {ts : List TR} {g : PX} (o : dk E v ts g) (h : E = 0 → gB v ts = 0 ∧ gm 100000 ts ∧ ∀ t ∈ ts, t.m.size ≤ 100000) : rh E g := by
 refine ⟨fun hE => ⟨by rw [o.v, if_neg hE], by rw [o.ts, if_neg hE]⟩, fun hE => ?_⟩
 have h1 := h hE
 have e1 : g.v = v := by rw [o.v, if_pos hE]
 have e2 : g.ts = ts := by rw [o.ts, if_pos hE]
 unfold PX.e
 rw [e1, e2]
 exact h1
theorem oC {l : List TR} (h : gC l = 0) : (a3 l).length ≤ 4096 := by
 unfold gC at h
 by_cases h4 : 4096 < (a3 l).length
 ·rw [if_pos h4] at h; omega
 ·omega
theorem wK {v : Int} {l : List TR} (h : gD v l = 0) : fB v = true ∧ (∀ t ∈ l, fu v t = true) ∧ (a3 l).length ≤ 4096 := by
 unfold gD at h
 by_cases h1 : fB v = false ∨ (l.any fun t => !fu v t) = true
 ·rw [if_pos h1] at h; omega
 ·rw [if_neg h1] at h
  by_cases h2 : 65536 < l.length
  ·rw [if_pos h2] at h; omega
  ·rw [if_neg h2] at h
   refine ⟨by cases hf : fB v with | true => rfl | false => exact absurd (.inl hf) h1, fun t ht => ?_, oC h⟩
   cases hm : fu v t with
   | true => rfl
   | false => exact absurd (.inr (List.any_eq_true.2 ⟨t, ht, by rw [hm]; rfl⟩)) h1
theorem jK {k j : Nat} {l : List TR} (h : gm k l) (hk : k + l.length ≤ j) (hj : j ≤ 3999990) : gm j (a3 l) := fun t ht => by
 have h3 : Sz j t.c.d := (jt (fun t ht => (h t ht).2) t ht).mono hk
 exact ⟨by rw [(dX l).nf t ht]; exact h3.ok hj, h3⟩
theorem jQ {l : List TR} (h : ∀ t ∈ l, t.m.size ≤ 100000) : ∀ t ∈ a3 l, t.m.size ≤ 100000 := fun t ht => by
 obtain ⟨s, hs, e⟩ := gh t ht
 rw [← e]
 exact h s hs
theorem u2 {v : Int} {l : List TR} {g : PX} (o : dk (gD v l) v (a3 l) g) (hs : zh l) : rh (gD v l) g := o.pS fun h => by
 obtain ⟨h1, h2, h3⟩ := wK h
 have := hs.n
 exact ⟨gN h1 h3 h2, jK hs.ok (by omega) (by decide), jQ fun t ht => Nat.le_trans (hs.sz t ht) (by decide)⟩
theorem wE {ps : List PX} {g : PX} (o : dk (rb ps) (n9 ps) (a3 (mv ps)) g) (hs : ∀ p ∈ ps, gm 2000 p.ts ∧ p.ts.length ≤ 100 ∧ ∀ t ∈ p.ts, t.m.size ≤ 100000) (hn : ps.length ≤ 8) : rh (rb ps) g := o.pS fun h => by
 unfold rb at h
 by_cases hl : iA ps = 0
 ·rw [if_pos hl] at h
  obtain ⟨hne, hev, hvv⟩ := lS hl
  have hmem : ∀ t ∈ mv ps, ∃ p ∈ ps, t ∈ p.ts := fun t ht => List.mem_flatMap.1 ht
  have hlen : (mv ps).length ≤ ps.length * 100 := lK fun p hp => (hs p hp).2.1
  obtain ⟨g0, pt, rfl⟩ := List.exists_cons_of_ne_nil hne
  have hf := (eV (hev g0 List.mem_cons_self)).1
  rw [lY (g := g0) rfl] at hvv ⊢
  refine ⟨gN hf (oC h) fun t ht => ?_, jK (k := 2000) (fun t ht => ?_) (by omega) (by decide), jQ fun t ht => ?_⟩
  ·obtain ⟨p, hp, ht⟩ := hmem t ht
   rw [← hvv p hp]
   exact (eV (hev p hp)).2.2.1 t ht
  ·obtain ⟨p, hp, ht⟩ := hmem t ht
   exact (hs p hp).1 t ht
  ·obtain ⟨p, hp, ht⟩ := hmem t ht
   exact (hs p hp).2.2 t ht
 ·rw [if_neg hl] at h
  exact absurd h hl
theorem wI {p q g : PX} (o : dk (lu [p, q]) (n9 [p, q]) (xl [p, q]).1 g) (hp : gm 2000 p.ts) (hq : gm 2000 q.ts) (sq : ∀ t ∈ q.ts, t.m.size ≤ 100000) : rh (lu [p, q]) g := o.pS fun h => by
 unfold lu at h
 by_cases hl : iA [p, q] = 0
 ·rw [if_pos hl] at h
  obtain ⟨hne, hev, hvv⟩ := lS hl
  replace h : gx p.ts q.ts = 0 := h
  have hpe := eV (hev p List.mem_cons_self)
  obtain ⟨h6, hz, h4⟩ := lN h
  have htl := oK hp hq sq h (by decide)
  show gB p.v (a3 (du p.ts q.ts)) = 0 ∧ gm 100000 (a3 (du p.ts q.ts)) ∧ _
  exact ⟨gN hpe.1 h4 (uI hpe.2.2.1 hz), htl.1.mono (by decide), htl.2⟩
 ·rw [if_neg hl] at h
  exact absurd h hl
theorem wV {p g : PX} {c : Dyadic} (o : dk (rl p c) p.v (a3 (p.ts.map (oE c))) g) (hp : gm 2000 p.ts) (hc : Sz 2000 c) (sp : ∀ t ∈ p.ts, t.m.size ≤ 100000) (hn : p.ts.length ≤ 100) : rh (rl p c) g := o.pS fun h => by
 unfold rl at h
 by_cases hl : p.e = 0
 ·rw [if_pos hl] at h
  have hpe := eV hl
  have hm : ∀ t ∈ p.ts.map (oE c), ∃ s ∈ p.ts, s.m = t.m := fun t ht => by
   obtain ⟨s, hs, rfl⟩ := List.mem_map.1 ht
   exact ⟨s, hs, rfl⟩
  refine ⟨gN hpe.1 (oC h) fun t ht => ?_, jK (sR hp hc (by decide)) (by rw [List.length_map]; omega) (by decide), jQ fun t ht => ?_⟩
  ·obtain ⟨s, hs, e⟩ := hm t ht
   exact vG e (hpe.2.2.1 s hs)
  ·obtain ⟨s, hs, e⟩ := hm t ht
   rw [← e]
   exact sp s hs
 ·rw [if_neg hl] at h
  exact absurd h hl
theorem wj {v : Int} {ts : List TR} (h : gB v ts = 0) : gD v ts.reverse = 0 ∧ a3 ts.reverse = ts := by
 obtain ⟨h1, h2, h3, h4⟩ := eV h
 have hg := r7 h4
 refine ⟨?_, hg⟩
 unfold gD
 rw [if_neg, if_neg (by rw [List.length_reverse]; omega)]
 ·unfold gC
  rw [hg, if_neg (by omega)]
 ·rintro (h5 | h5)
  ·rw [h1] at h5; cases h5
  ·obtain ⟨t, ht, h6⟩ := List.any_eq_true.1 h5
   rw [h3 t (List.mem_reverse.1 ht)] at h6
   cases h6
end Go.Proofs.YtkgdagjklakajaaGreatDoor
/- The walks through slices.Equal of terms and poly.Same. -/
namespace Go.Proofs.YtkgdagjklakajaaGreatDoor
open Go.RowKit
theorem rG (A : Option Addr) (n c : Nat) (a : List TR) (B : Option Addr) (m d : Nat) (b : List TR) (w : World) (hS : Sl w A n 4 (a8 TR.cells a)) (hS2 : Sl w B m 4 (a8 TR.cells b)) (hn : n ≤ 1000000) (hm : m ≤ 1000000) :
  Calls Tryz.prog 110 #[.slice A n c, .slice B m d] w fun r w' => ∃ v, r = .returned (.bool v) ∧ (v = true ↔ a = b) ∧ Below w.heap.size w w' := by
 have hh := Hp.start w
 have hla := hS.bV TR.len (by decide)
 have hlb := hS2.bV TR.len (by decide)
 by_cases hnm : n = m
 ·subst hnm
  refine al (N := 26) (l := [.slice A n c, .slice B n d]) Tryz.func110 rfl rfl (by simp) ?_
  refine sr (aB (ah (aj (sr (mL (a0 (mL (a0 ?_))))))))
  refine er (ah (cF (ao (ak (aj (sr (mL (a0 (mI (ah (ar ?_)))))))))))
  refine bA [4, 5, 13, 14, 15, 16, 17, 18, 19, 20, 21, 22, 23, 24, 25] 13
   (fun v w' => ∃ i : Nat, i ≤ n ∧ v = .int .i64 i ∧ a.take i = b.take i ∧ Hp w [] w')
   (fun v _ => n - (intOf v).toNat) ?_ ?_
  ·exact ⟨0, Nat.zero_le _, rfl, rfl, hh⟩
  ·clear hh
   rintro ρ' v w' ⟨i, hi, rfl, he, hh⟩
   by_cases hlt : i < n
   ·obtain ⟨s, hs⟩ := aH (l := a) (k := i) (by omega)
    obtain ⟨t, ht⟩ := aH (l := b) (k := i) (by omega)
    obtain ⟨ad, rfl, hr⟩ := hS.at_ (by omega)
    obtain ⟨ad2, rfl, hr2⟩ := hS2.at_ (by omega)
    by_cases hst : s = t
    ·refine sr ?_
     refine aV (ah (aj (cT (ao (ak (aj (ar (sr (mI (aI (ah ?_)))))))))))
     refine aj ?_
     refine a4 8 [[(0, none)], [(5, none)], [(16, some 0), (17, some 1)], [(18, some 2)], [(1, none)], [(5, none)], [(20, some 4), (21, some 5)], [(22, some 6)]] [(7, 23), (6, 22), (5, 21), (4, 20), (3, 19), (2, 18), (1, 17), (0, 16)] hh mixed (by kernel_rfl) ?_
     refine gE ?_
     refine eG ?_
     refine jV (i) ?_
     refine rq [_,_,_,_] (fun _ hj => (hr.ext hj.hp.below).recAt TR.len hs) ?_
     refine gE ?_
     refine eG ?_
     refine jV (i) ?_
     refine rq [_,_,_,_] (fun _ hj => (hr2.ext hj.hp.below).recAt TR.len ht) ?_
     refine bp ?_
     intro f W hJ hV
     have hb_6 := hJ.bl
     obtain ⟨v23, v22, v21, v20, v19, v18, v17, v16, _⟩ := hV
     replace hh := hJ.hp
     refine a6 (bu (ai v23 (ai v22 (ai v21 (ai v20 (ai v19 (ai v18 (ai v17 (ai v16 a5))))))))) ?_
     dsimp only [cC]
     clear hJ
     refine aU rfl rfl (by decide) (sX (s := s) (t := t) rfl rfl hst) ?_
     skip
     refine ah (cF (ao (aW (ak (aw ?_)))))
     refine bJ (mI (aE (ak ?_)))
     refine ⟨⟨i + 1, by omega, rfl, by rw [aT hs, aT ht, he, hst], hh⟩, by show n - (i + 1) < n - i; omega, ?_⟩
     (repeat (first | exact az _ _ _ | refine aC rfl ?_ | refine ay rfl ?_))
    ·refine sr ?_
     refine aV (ah (aj (cT (ao (ak (aj (ar (sr (mI (aI (ah ?_)))))))))))
     refine aj ?_
     refine a4 8 [[(0, none)], [(5, none)], [(16, some 0), (17, some 1)], [(18, some 2)], [(1, none)], [(5, none)], [(20, some 4), (21, some 5)], [(22, some 6)]] [(7, 23), (6, 22), (5, 21), (4, 20), (3, 19), (2, 18), (1, 17), (0, 16)] hh mixed (by kernel_rfl) ?_
     refine gE ?_
     refine eG ?_
     refine jV (i) ?_
     refine rq [_,_,_,_] (fun _ hj => (hr.ext hj.hp.below).recAt TR.len hs) ?_
     refine gE ?_
     refine eG ?_
     refine jV (i) ?_
     refine rq [_,_,_,_] (fun _ hj => (hr2.ext hj.hp.below).recAt TR.len ht) ?_
     refine bp ?_
     intro f W hJ hV
     have hb_6 := hJ.bl
     obtain ⟨v23, v22, v21, v20, v19, v18, v17, v16, _⟩ := hV
     replace hh := hJ.hp
     refine a6 (bu (ai v23 (ai v22 (ai v21 (ai v20 (ai v19 (ai v18 (ai v17 (ai v16 a5))))))))) ?_
     dsimp only [cC]
     clear hJ
     refine aU rfl rfl (by decide) (tp (s := s) (t := t) rfl rfl hst) ?_
     skip
     refine ah (cT (sr (aB (ah (aq (bO (aJ (aJ (bO (aJ ?_))))))))))
     refine cf ?_
     refine ⟨_, rfl, ⟨fun h => (nomatch h), fun h => absurd ?_ hst⟩, hh.below⟩
     rw [h, ht] at hs
     exact (Option.some.inj hs).symm
   ·refine sr ?_
    refine aV (ah (aj (cF ?_)))
    refine aX ?_
    refine aA (aA (bj (ak (sr (aB (ah (aq ?_)))))))
    refine cf ?_
    exact ⟨_, rfl, ⟨fun _ => td (by omega) (by omega) he, fun _ => rfl⟩, hh.below⟩
 ·refine al (N := 26) (l := [.slice A n c, .slice B m d]) Tryz.func110 rfl rfl (by simp) ?_
  refine sr (aB (ah (aj (sr (mL (a0 (mL (a0 ?_))))))))
  refine er (ah (cT (sr (aB (ah (aq (aJ ?_)))))))
  refine cf ?_
  exact ⟨_, rfl, ⟨fun h => (nomatch h), fun h => absurd (by rw [← hla, ← hlb, h]) hnm⟩, hh.below⟩
theorem qM (p q : PX) (w : World) (hp : p.at_ w) (hq : q.at_ w) (hn : p.n ≤ 1000000) (hm : q.n ≤ 1000000) :
  Calls Tryz.prog 41 #[.agg #[.int .i64 p.v, .slice p.A p.n p.c], .agg #[.int .i64 q.v, .slice q.A q.n q.c]] w fun r w' => ∃ v, r = .returned (.bool v) ∧ (v = true ↔ p.v = q.v ∧ p.ts = q.ts) ∧ Below w.heap.size w w' := by
 have hh := Hp.start w
 have ht := fun w1 hb => rG p.A p.n p.c p.ts q.A q.n q.c q.ts w1 (hp.ext hb) (hq.ext hb) hn hm
 by_cases hv : p.v = q.v
 ·refine al (N := 17) (l := [.agg #[.int .i64 p.v, .slice p.A p.n p.c], .agg #[.int .i64 q.v, .slice q.A q.n q.c]]) Tryz.func41 rfl rfl (by simp) ?_
  refine sr ?_
  refine df hh [_,_] ?_
  intro b2 w2 hh
  refine df hh [_,_] ?_
  intro b3 w3 hh
  refine aB (ah (sr (bG ?_)))
  refine bI hh 1 ?_
  refine bG ?_
  refine bI hh 0 ?_
  refine ea (mB ?_)
  first | refine gS ?_ | (refine gT ?_; refine bG ?_) | refine gV ?_
  first | refine gS ?_ | (refine gT ?_; refine bI hh 1 ?_) | refine gV ?_
  first | refine gS ?_ | (refine gT ?_; refine bG ?_) | refine gV ?_
  first | refine gS ?_ | (refine gT ?_; refine bI hh 0 ?_) | refine gV ?_
  refine a9 rfl rfl ?_
  refine aN (ht _ hh.below) au.out rfl (by decide) ?_
  rintro e_ w15 ⟨v_, rfl, hv_, hb_⟩
  refine ⟨_, rfl, ?_⟩
  replace hh := hh.ext hb_
  first | refine cU ?_ | refine cV ?_
  refine aB (ah (aq ?_))
  refine cf ?_
  exact ⟨v_, rfl, hv_.trans ⟨fun h => ⟨hv, h⟩, fun h => h.2⟩, hh.below⟩
 ·refine al (N := 17) (l := [.agg #[.int .i64 p.v, .slice p.A p.n p.c], .agg #[.int .i64 q.v, .slice q.A q.n q.c]]) Tryz.func41 rfl rfl (by simp) ?_
  refine sr ?_
  refine df hh [_,_] ?_
  intro b2 w2 hh
  refine df hh [_,_] ?_
  intro b3 w3 hh
  refine aB (ah (sr (bG ?_)))
  refine bI hh 1 ?_
  refine bG ?_
  refine bI hh 0 ?_
  refine ea (mB ?_)
  first | refine gS ?_ | (refine gT ?_; refine bG ?_) | refine gV ?_
  first | refine gS ?_ | (refine gT ?_; refine bI hh 1 ?_) | refine gV ?_
  first | refine gS ?_ | (refine gT ?_; refine bG ?_) | refine gV ?_
  first | refine gS ?_ | (refine gT ?_; refine bI hh 0 ?_) | refine gV ?_
  refine bH (by decide) rfl rfl (by decide) ?_
  first | refine cU ?_ | refine cV ?_
  refine aB (ah (aq ?_))
  refine cf ?_
  exact ⟨_, rfl, ⟨fun h => (nomatch h), fun h => absurd h.1 hv⟩, hh.below⟩
end Go.Proofs.YtkgdagjklakajaaGreatDoor
/- The walk through the law PolyForm. -/
namespace Go.Proofs.YtkgdagjklakajaaGreatDoor
open Go.RowKit
theorem r9 {g h : PX} (w : World) (hg : g.at_ w) (hh : h.at_ w) (e : g.v = h.v ∧ g.ts = h.ts) (hn : g.n ≤ 1000000) (hm : h.n ≤ 1000000) :
  Calls Tryz.prog 41 #[.agg #[.int .i64 g.v, .slice g.A g.n g.c], .agg #[.int .i64 h.v, .slice h.A h.n h.c]] w fun r w' => r = .returned (.bool true) ∧ Below w.heap.size w w' :=
 (qM g h w hg hh hn hm).mono fun r w' ⟨v, hr, hv, hb⟩ => ⟨by rw [hr, hv.2 e], hb⟩
theorem u0 {g q : PX} {w : World} (h1 : g.at_ w) (h2 : q.at_ w) : ∀ p ∈ [g, q], p.at_ w := fun p hp => by
 rcases List.mem_cons.1 hp with rfl | hp
 ·exact h1
 ·rw [List.mem_singleton.1 hp]; exact h2
theorem jY {H R : List HE} (k : Nat) (h : H.drop k = R) {x : HE} (hx : x ∈ R) : x ∈ H := List.mem_of_mem_drop (h ▸ hx)
theorem ml (v : Int) (A : Option Addr) (n c : Nat) (l : List TR) (q : PX) (x : NR) (w : World) (hT : fS w) (hS : Sl w A n 4 (a8 TR.cells l)) (hq : q.at_ w) (hqc : q.n ≤ q.c) :
  Calls Tryz.prog 6 #[.int .i64 v, .slice A n c, .agg #[.int .i64 q.v, .slice q.A q.n q.c], .agg #[.bool x.neg, .string x.cq, .int .i64 x.e]] w fun r w' => r = .returned (.bool true) ∧ Below w.heap.size w w' := by
 have hh := Hp.start w
 have hln := hS.bV TR.len (by decide)
 have hfa := fun w1 => mC x w1
 refine al (N := 138) (l := [.int .i64 v, .slice A n c, .agg #[.int .i64 q.v, .slice q.A q.n q.c], .agg #[.bool x.neg, .string x.cq, .int .i64 x.e]]) Tryz.func6 rfl rfl (by simp) ?_
 refine sr ?_
 refine df hh [_,_] ?_
 intro b6 w6 hh
 refine df hh [_,_,_] ?_
 intro b7 w7 hh
 refine aB (ah (aj (sr (mL ?_))))
 refine aN (lC A n c l _ (hS.ext hh.below)) au.out rfl (by decide) ?_
 rintro e_ w26 ⟨b, rfl, hb, hb_⟩
 refine ⟨_, rfl, ?_⟩
 replace hh := hh.ext hb_
 cases b with
 | true =>
  refine mB ?_
  first | refine gS ?_ | (refine gT ?_; refine bG ?_) | refine gV ?_
  first | refine gS ?_ | (refine gT ?_; refine bI hh 1 ?_) | refine gV ?_
  refine bH (by decide) rfl rfl (by decide) ?_
  first | refine cU ?_ | refine cV ?_
  refine mB ?_
  first | refine gS ?_ | (refine gT ?_; refine dp hh 0 [_,_,_] ?_) | refine gV ?_
  refine bH (by decide) rfl rfl (by decide) ?_
  first | refine cU ?_ | refine cV ?_
  refine ah (cT (sr ?_))
  refine bC hh (fN _ (hT.hp hh)) rfl ?_
  intro w36 hh
  refine aB (ah (aq (aJ ?_)))
  refine cf ?_
  exact ⟨rfl, hh.below⟩
 | false =>
  have hsm := hb rfl
  clear hb
  refine mB ?_
  first | refine gS ?_ | (refine gT ?_; refine bG ?_) | refine gV ?_
  first | refine gS ?_ | (refine gT ?_; refine bI hh 1 ?_) | refine gV ?_
  refine a9 rfl rfl ?_
  refine aN (lC q.A q.n q.c q.ts _ (hq.ext hh.below)) au.out rfl (by decide) ?_
  rintro e_ w30 ⟨b, rfl, hb, hb_⟩
  refine ⟨_, rfl, ?_⟩
  replace hh := hh.ext hb_
  cases b with
  | true =>
   first | refine cU ?_ | refine cV ?_
   refine mB ?_
   first | refine gS ?_ | (refine gT ?_; refine dp hh 0 [_,_,_] ?_) | refine gV ?_
   refine bH (by decide) rfl rfl (by decide) ?_
   first | refine cU ?_ | refine cV ?_
   refine ah (cT (sr ?_))
   refine bC hh (fN _ (hT.hp hh)) rfl ?_
   intro w36 hh
   refine aB (ah (aq (aJ ?_)))
   refine cf ?_
   exact ⟨rfl, hh.below⟩
  | false =>
   have hsq := hb rfl
   clear hb
   cases hfx : qC x with
   | true =>
    rw [hfx] at hfa
    first | refine cU ?_ | refine cV ?_
    refine mB ?_
    first | refine gS ?_ | (refine gT ?_; refine dp hh 0 [_,_,_] ?_) | refine gV ?_
    refine a9 rfl rfl ?_
    refine bC hh (hfa _) rfl ?_
    intro w34 hh
    first | refine cU ?_ | refine cV ?_
    refine ah (cT (sr ?_))
    refine bC hh (fN _ (hT.hp hh)) rfl ?_
    intro w36 hh
    refine aB (ah (aq (aJ ?_)))
    refine cf ?_
    exact ⟨rfl, hh.below⟩
   | false =>
    rw [hfx] at hfa
    have hxo := zz hfx
    have hn12 : n ≤ 12 := by have := hsm.n; omega
    have hsz : ∀ t ∈ l, t.m.size ≤ 100000 := fun t ht => Nat.le_trans (hsm.sz t ht) (by decide)
    have ql := hsq.oJ hq hqc
    have hqn : q.ts.length ≤ 12 := hsq.n
    first | refine cU ?_ | refine cV ?_
    refine mB ?_
    first | refine gS ?_ | (refine gT ?_; refine dp hh 0 [_,_,_] ?_) | refine gV ?_
    refine a9 rfl rfl ?_
    refine bC hh (hfa _) rfl ?_
    intro w34 hh
    first | refine cU ?_ | refine cV ?_
    refine ah (cF (ao (ak (sr (mI (mL ?_))))))
    refine aN (fJ v A n c l 492 _ (hT.hp hh) (hS.ext hh.below) (by omega) (by decide) hsm.ok hsz) au.out rfl (by decide) ?_
    rintro e_ w40 ⟨g, og, rfl, h2⟩
    refine ⟨_, rfl, ?_⟩
    replace hh := hh.join h2
    clear h2
    simp only [List.cons_append, List.nil_append] at hh
    replace hh := show Hp w (.row g.A g.n g.c 58 4 (a8 TR.cells g.ts) :: _) w40 from hh
    obtain ⟨gl, gn⟩ := og.oJ (hh.aM (i := 0) rfl) (hh.g9 (i := 0) rfl) hsm
    have ag := u2 og hsm
    have ggl : g.ts.length ≤ 12 := by have h9 : g.ts.length = g.n := PX.at_.ln (hh.aM (i := 0) rfl); omega
    clear og
    generalize gD v l = E1 at *
    have hps : ∀ p ∈ [g, q], p.oJ 504 := fun p hp => by
     rcases List.mem_cons.1 hp with rfl | hp
     ·exact gl
     ·rw [List.mem_singleton.1 hp]; exact ⟨ql.n, ql.cap, ql.ok.mono (by decide), ql.sz⟩
    have hp2 : ∀ p ∈ [g, q], gm 2000 p.ts ∧ p.ts.length ≤ 100 ∧ ∀ t ∈ p.ts, t.m.size ≤ 100000 := fun p hp => by
     refine ⟨(hps p hp).ok.mono (by decide), ?_, (hps p hp).sz⟩
     rcases List.mem_cons.1 hp with rfl | hp
     ·omega
     ·rw [List.mem_singleton.1 hp]; omega
    refine mT ?_
    refine dw ?_
    refine dw ?_
    refine cx hh ?_
    intro b9 w9 hh
    refine bL hh 0 [_,_] ?_
    intro ws hh
    replace hh : Hp _ (.blk _ _ [_, _] _ :: _) _ := hh
    refine aI (ah (sr ?_))
    refine dp hh 0 [_,_] ?_
    refine dp hh 3 [_,_] ?_
    refine bf hh (cs := [_, _, _, _]) aG.out aD.out (aZ (cu rfl) (aZ (cu rfl) bQ)) rfl rfl (by decide) (by decide) (by decide) rfl (by decide) ?_
    intro b46 w46 hh
    refine aN (m5 _ 2 2 [g, q] 504 _ (hT.hp hh) (hh.aM (i := 0) rfl) (by decide) (u0 (hh.aM (i := 2) rfl) (hq.ext hh.below)) hps (by decide)) au.out rfl (by decide) ?_
    rintro e_ w47 ⟨a, oa, rfl, h2⟩
    refine ⟨_, rfl, ?_⟩
    replace hh := hh.join h2
    clear h2
    simp only [List.cons_append, List.nil_append] at hh
    replace hh := show Hp w (.row a.A a.n a.c 58 4 (a8 TR.cells a.ts) :: _) w47 from hh
    have aa := wE oa hp2 (Nat.le_of_ble_eq_true rfl)
    clear oa
    generalize rb [g, q] = E2 at *
    replace hh := hh.sub (List.Sublist.cons_cons _ (List.Sublist.cons _ (List.Sublist.cons_cons _ (List.Sublist.cons_cons _ (List.Sublist.cons_cons _ (List.Sublist.cons_cons _ List.Sublist.slnil))))))
    refine mT ?_
    refine dw ?_
    refine dw ?_
    refine cx hh ?_
    intro b11 w11 hh
    refine bL hh 0 [_,_] ?_
    intro ws hh
    replace hh : Hp _ (.blk _ _ [_, _] _ :: _) _ := hh
    refine aI (ah (sr ?_))
    refine dp hh 2 [_,_] ?_
    refine dp hh 5 [_,_] ?_
    refine bf hh (cs := [_, _, _, _]) aG.out aD.out (aZ (cu rfl) (aZ (cu rfl) bQ)) rfl rfl (by decide) (by decide) (by decide) rfl (by decide) ?_
    intro b53 w53 hh
    refine aN (mM _ 2 2 [g, q] 504 _ (hT.hp hh) (hh.aM (i := 0) rfl) (by decide) (by decide) (u0 (hh.aM (i := 4) rfl) (hq.ext hh.below)) hps (by decide)) au.out rfl (by decide) ?_
    rintro e_ w54 ⟨m, om, rfl, h2⟩
    refine ⟨_, rfl, ?_⟩
    replace hh := hh.join h2
    clear h2
    simp only [List.cons_append, List.nil_append] at hh
    replace hh := show Hp w (.row m.A m.n m.c 58 4 (a8 TR.cells m.ts) :: _) w54 from hh
    have am := wI om (hp2 g List.mem_cons_self).1 (hp2 q (List.mem_cons_of_mem _ List.mem_cons_self)).1 ql.sz
    clear om hps hp2
    generalize lu [g, q] = E3 at *
    replace hh := hh.sub (List.Sublist.cons_cons _ (List.Sublist.cons _ (List.Sublist.cons_cons _ (List.Sublist.cons_cons _ (List.Sublist.cons_cons _ (List.Sublist.cons_cons _ (List.Sublist.cons_cons _ (List.Sublist.cons_cons _ List.Sublist.slnil))))))))
    refine mT ?_
    refine dw ?_
    refine dw ?_
    refine cx hh ?_
    intro b13 w13 hh
    refine bL hh 0 [_,_] ?_
    intro ws hh
    replace hh : Hp _ (.blk _ _ [_, _] _ :: _) _ := hh
    refine aI (ah (sr ?_))
    refine dp hh 4 [_,_] ?_
    refine dp hh 6 [_,_,_] ?_
    refine aN (o7 g x 504 _ (hT.hp hh) (hh.aM (i := 5) rfl) gl ⟨hxo.1, hxo.2.mono (by decide)⟩ (by decide)) au.out rfl (by decide) ?_
    rintro e_ w60 ⟨s, os, rfl, h2⟩
    refine ⟨_, rfl, ?_⟩
    replace hh := hh.join h2
    clear h2
    simp only [List.cons_append, List.nil_append] at hh
    replace hh := show Hp w (.row s.A s.n s.c 58 4 (a8 TR.cells s.ts) :: _) w60 from hh
    have as_ := wV os (gl.ok.mono (by decide)) (hxo.2.mono (by decide)) gl.sz (by omega)
    clear os
    generalize rl g x.d = E4 at *
    refine mT ?_
    refine dw ?_
    refine dw ?_
    refine cx hh ?_
    intro b15 w15 hh
    refine bL hh 0 [_,_] ?_
    intro ws hh
    replace hh : Hp _ (.blk _ _ [_, _] _ :: _) _ := hh
    refine aI (ah (sr ?_))
    refine dp hh 6 [_,_] ?_
    refine dp hh 4 [_,_] ?_
    refine dp hh 2 [_,_] ?_
    refine dp hh 0 [_,_] ?_
    refine bf hh (cs := [_, _, _, _, _, _, _, _]) aG.out aD.out (aZ (cu rfl) (aZ (cu rfl) (aZ (cu rfl) (aZ (cu rfl) bQ)))) rfl rfl (by decide) (by decide) (by decide) rfl (by decide) ?_
    intro b67 w67 hh
    refine aL (ah (sr (mI (mI (mI (mI ?_))))))
    refine bf hh (cs := [_, _, _, _]) aG.out aD.out (aZ (bB rfl) (aZ (bB rfl) (aZ (bB rfl) (aZ (bB rfl) bQ)))) rfl rfl (by decide) (by decide) (by decide) rfl (by decide) ?_
    intro b72 w72 hh
    refine aL (ah (aj (sr (aI (ah (ar ?_))))))
    replace hh := hh.perm (List.perm_middle (l₁ := [_, _, _]))
    simp only [List.cons_append, List.nil_append] at hh
    replace hh := hh.perm (List.perm_middle (l₁ := [_, _, _, _, _]))
    simp only [List.cons_append, List.nil_append] at hh
    replace hh := hh.perm (List.perm_middle (l₁ := [_, _, _, _, _, _, _]))
    simp only [List.cons_append, List.nil_append] at hh
    replace hh := hh.perm (List.perm_middle (l₁ := [_, _, _, _, _, _, _, _, _]))
    simp only [List.cons_append, List.nil_append] at hh
    replace hh := hh.perm (List.perm_middle (l₁ := [_, _, _, _]))
    simp only [List.cons_append, List.nil_append] at hh
    replace hh := hh.perm (List.perm_middle (l₁ := [_, _, _, _, _]))
    simp only [List.cons_append, List.nil_append] at hh
    replace hh := hh.sub (List.Sublist.cons_cons _ (List.Sublist.cons_cons _ (List.Sublist.cons_cons _ (List.Sublist.cons_cons _ (List.Sublist.cons_cons _ (List.Sublist.cons_cons _ (List.Sublist.cons _ (List.Sublist.cons _ (List.Sublist.cons _ (List.Sublist.cons _ (List.Sublist.cons _ (List.Sublist.cons _ List.Sublist.slnil))))))))))))
    have hans0 : ∀ (i : Nat) (z : PX) (E : Int), [g, a, m, s][i]? = some z → [E1, E2, E3, E4][i]? = some E → rh E z := fun i z E h1 h2 => by
     rcases i with _ | _ | _ | _ | i
     ·cases h1; cases h2; exact ag
     ·cases h1; cases h2; exact aa
     ·cases h1; cases h2; exact am
     ·cases h1; cases h2; exact as_
     ·cases h1
    replace hh := show ∃ (pS : List PX) (errs : List Int), pS.length = 4 ∧ errs.length = 4 ∧ (∀ (i : Nat) (z : PX) (E : Int), pS[i]? = some z → errs[i]? = some E → rh E z) ∧ Hp w (.row (some ⟨b67, 0, none⟩) 4 4 31 2 (a8 PX.cells pS) :: .row (some ⟨b72, 0, none⟩) 4 4 32 1 (eo errs) :: pS.map PX.row) w72 from ⟨[g, a, m, s], [E1, E2, E3, E4], rfl, rfl, hans0, hh⟩
    obtain ⟨pS, errs, hal, hel, hans, hh⟩ := hh
    clear hans0
    clear ag aa am as_ gl gn ggl hsm hsq hsz hxo hfa hfx ql hqn
    refine bA [8, 19, 20, 21, 22, 23, 24, 73, 74, 75, 76, 77, 78, 79, 80, 81, 82, 83, 84, 85, 86, 87, 88, 89, 90, 91, 92, 93, 94, 95, 96, 97, 98, 99, 100, 101, 102, 103, 104, 105, 106, 107, 108, 109, 110, 111, 112, 113, 114, 115, 116, 117, 118, 119, 120, 121, 122, 123, 124, 125, 126, 127, 128, 129, 130, 131, 132, 133, 134, 135, 136] 19
     (fun y w' => ∃ i : Nat, i ≤ 4 ∧ y = .int .i64 i ∧ Hp w (.row (some ⟨b67, 0, none⟩) 4 4 31 2 (a8 PX.cells pS) :: .row (some ⟨b72, 0, none⟩) 4 4 32 1 (eo errs) :: pS.map PX.row) w')
     (fun y _ => 4 - (intOf y).toNat) ?_ ?_
    ·exact ⟨0, Nat.zero_le _, rfl, hh⟩
    ·clear hh
     rintro ρ' y w' ⟨i, hi, rfl, hh⟩
     by_cases hlt : i < 4
     ·obtain ⟨z, hz⟩ := aH (l := pS) (k := i) (by omega)
      obtain ⟨E, hE⟩ := aH (l := errs) (k := i) (by omega)
      have hza := hans i z E hz hE
      have hzm : z.row ∈ pS.map PX.row := List.mem_map.2 ⟨z, List.mem_of_getElem? hz, rfl⟩
      have hEE := eW hE
      have hzn : z.ts.length = z.n := PX.at_.ln (kD hh (jY 2 rfl hzm))
      obtain ⟨zv, zA, zn, zc, zt⟩ := z
      replace hzn : zt.length = zn := hzn
      refine aj (sr (mI (mL (a0 ?_))))
      refine aV (ah (cT (ao (ak (aj (ar (sr (mL (mI ?_)))))))))
      refine bg (k := i) aG.out aD.size rfl rfl (by omega) (by omega) (by decide) ?_
      refine bS (vs := [_, _]) aD.out rfl (show Rd _ _ [.int .i64 zv, .slice zA zn zc] from hh.o0 (f := PX.cells) (x := ⟨zv, zA, zn, zc, zt⟩) (l := pS) (i := 0) rfl PX.len (by decide) hz) rfl (by decide) ?_
      by_cases hE0 : E = 0
      ·subst hE0
       obtain ⟨hz0, hzo, hzs⟩ := hza.ok rfl
       replace hz0 : gB zv zt = 0 := hz0
       replace hzo : gm 100000 zt := hzo
       replace hzs : ∀ t ∈ zt, t.m.size ≤ 100000 := hzs
       have hz4 := (eV hz0).2.1
       have hrm := wj hz0
       have hck := fun w1 hT1 hS1 => kC zv zA zn zc zt w1 hT1 hS1 (by omega) (fun t ht => ⟨(hzo t ht).1, hzs t ht⟩)
       rw [hz0] at hck
       have hg2 : ∀ X : List TR, X = zt.reverse → ∀ T d w1, fS w1 → Sl w1 T X.length 4 (a8 TR.cells X) → Calls Tryz.prog 18 #[.int .i64 zv, .slice T X.length d] w1 fun r w' => ∃ y : PX, dk 0 zv zt y ∧ r = .returned (.tuple #[.agg #[.int .i64 y.v, .slice y.A y.n y.c], .int .i64 0]) ∧ Hp w1 [y.row] w' := fun X hX T d w1 hT1 hS1 => by
        have hXl : X.length = zn := by rw [hX, List.length_reverse]; exact hzn
        have := fJ zv T X.length d X 100000 w1 hT1 hS1 (by omega) (by decide) (fun t ht => hzo t (by rw [hX] at ht; exact List.mem_reverse.1 ht)) (fun t ht => hzs t (by rw [hX] at ht; exact List.mem_reverse.1 ht))
        rw [show gD zv X = 0 by rw [hX]; exact hrm.1, show a3 X = zt by rw [hX]; exact hrm.2] at this
        exact this
       refine cx hh ?_
       intro b20 w20 hh
       refine bL hh 0 [_,_] ?_
       intro ws hh
       replace hh : Hp _ (.blk _ _ [_, _] _ :: _) _ := hh
       refine ah (aj (sr (mL (mI ?_))))
       refine bg (k := i) aG.out aD.size rfl rfl (by omega) (by omega) (by decide) ?_
       refine bE aD.out rfl (hh.cd (i := 2) rfl (by first | assumption | (simp only [Nat.mul_one]; assumption))) (by decide) ?_
       refine er (ah (cF (ao (ak (aj (sr ?_))))))
       refine dp hh 0 [_,_] ?_
       refine bC hh (hck _ (hT.hp hh) (kD hh (jY 3 rfl hzm))) rfl ?_
       intro w98 hh
       refine er (ah (cF (ao (ak (sr (aL (ah (aj (sr (bG ?_))))))))))
       refine bI hh 0 ?_
       refine a0 (aI (ah (ar ?_)))
       replace hh := hh.eU 58 4
       refine cE [21, 22, 103, 104, 105, 106, 107, 108, 109, 110, 111, 112, 113, 114, 115] 21 22
        (fun a k w' => ∃ (j : Nat) (X : List TR) (T : Option Addr) (d : Nat), j ≤ zn ∧ k = .int .i64 j ∧ a = .slice T X.length d ∧ X = (zt.drop j).reverse ∧ Hp w (.row T X.length d 58 4 (a8 TR.cells X) :: .blk b20 31 [.int .i64 zv, .slice zA zn zc] (0, 0) :: .row (some ⟨b67, 0, none⟩) 4 4 31 2 (a8 PX.cells pS) :: .row (some ⟨b72, 0, none⟩) 4 4 32 1 (eo errs) :: pS.map PX.row) w')
        (fun _ k _ => (intOf k).toNat) ?_ ?_
       ·exact ⟨zn, [], none, 0, Nat.le_refl _, rfl, rfl, by rw [List.drop_of_length_le (by omega)]; rfl, hh⟩
       ·clear hh
        rintro ρ2 a_ k_ w2 ⟨j, X, T, d, hj, rfl, rfl, hX, hh⟩
        have hXl : X.length = zn - j := by rw [hX, List.length_reverse, List.length_drop]; omega
        by_cases hj0 : 0 < j
        ·obtain ⟨q, rfl⟩ : ∃ q, j = q + 1 := ⟨j - 1, by omega⟩
         obtain ⟨xq, hxq⟩ := aH (l := zt) (k := q) (by omega)
         obtain ⟨ad, hA, hr⟩ := Sl.at_ (show Sl w2 zA zn 4 (a8 TR.cells zt) from kD hh (jY 4 rfl hzm)) (by omega)
         subst hA
         refine aj (sr (mI ?_))
         refine cb (ah (cT (ao (ak (aj (ar (aw (mL (bG ?_)))))))))
         refine bI hh 1 ?_
         refine mI ?_
         refine eK ?_
         refine aY (k := q) aG.out aD.size rfl rfl (by omega) (by omega) (by decide) ?_
         refine bS (vs := [_, _, _, _]) aD.out rfl (hr.recAt TR.len hxq) rfl (by decide) ?_
         refine bf hh (cs := [_, _, _, _]) aG.out aD.out (aZ (cu rfl) bQ) rfl rfl (by decide) (by decide) (by decide) rfl (by decide) ?_
         intro b114 w114 hh
         refine cB hh (i := 1) rfl rfl rfl (hh.aM (i := 0) rfl) aG.out aD.out rfl (by decide) (by first | rfl | exact de _ | exact cz _ | exact oneCells_i64s _ | exact ca NR.one _) (by omega) (by omega) (by decide) ?_
         intro A115 c115 w115 hh
         simp only [List.set_cons_zero, List.set_cons_succ] at hh
         replace hh := hh.sub (List.sublist_cons_self _ _)
         refine aL (aE (aW (ak (aw (mI ?_)))))
         refine eK (aI (aE (ak ?_)))
         refine ⟨⟨q, X ++ [xq], A115, c115, by omega, congrArg (Value.int .i64) (show ((q + 1 : Nat) : Int) - 1 = (q : Int) by omega), by rw [List.length_append]; rfl, by rw [hX, ic hxq, List.reverse_cons], by rw [List.length_append, cK, pP]; exact hh⟩, by show (((q + 1 : Nat) : Int) - 1).toNat < ((q + 1 : Nat) : Int).toNat; omega, ?_⟩
         (repeat (first | exact az _ _ _ | refine aC rfl ?_ | refine ay rfl ?_))
        ·obtain rfl : j = 0 := by omega
         rw [List.drop_zero] at hX
         have hmk := hg2 X hX
         refine aj (sr (mI ?_))
         refine cb (ah (cF ?_))
         refine aX ?_
         refine aA (aA (bj (ak (sr (bG ?_)))))
         refine bI hh 1 ?_
         refine mL ?_
         refine aN (hmk _ _ _ (hT.hp hh) (hh.aM (i := 0) rfl)) au.out rfl (by decide) ?_
         rintro e_ w120 ⟨y, oy, rfl, h2⟩
         refine ⟨_, rfl, ?_⟩
         replace hh := hh.join h2
         clear h2
         simp only [List.cons_append, List.nil_append] at hh
         replace hh := show Hp w (.row y.A y.n y.c 58 4 (a8 TR.cells y.ts) :: _) w120 from hh
         have yn := oy.n4 (hh.aM (i := 0) rfl) fun _ => hz4
         refine mT ?_
         refine dw ?_
         refine dw ?_
         refine cx hh ?_
         intro b23 w23 hh
         refine bL hh 0 [_,_] ?_
         intro ws hh
         replace hh : Hp _ (.blk _ _ [_, _] _ :: _) _ := hh
         refine aI (ah (sr (mI ?_)))
         refine er (mB ?_)
         first | refine gS ?_ | (refine gT ?_; refine dp hh 3 [_,_] ?_) | refine gV ?_
         first | refine gS ?_ | (refine gT ?_; refine dp hh 0 [_,_] ?_) | refine gV ?_
         refine a9 rfl rfl ?_
         refine bC hh (pX (g := ⟨zv, zA, zn, zc, zt⟩) (h := y) _ (kD hh (jY 6 rfl hzm)) (hh.aM (i := 1) rfl) ⟨oy.v.symm, oy.ts.symm⟩ (by show zn ≤ 1000000; omega) (by omega)) rfl ?_
         intro w128 hh
         first | refine gS ?_ | (refine gT ?_; refine eM ?_) | refine gV ?_
         first | refine cU ?_ | refine cV ?_
         refine mB ?_
         first | refine gS ?_ | (refine gT ?_; refine dp hh 3 [_,_] ?_) | refine gV ?_
         first | refine gS ?_ | (refine gT ?_; refine dp hh 0 [_,_] ?_) | refine gV ?_
         refine a9 rfl rfl ?_
         refine bC hh (r9 (g := ⟨zv, zA, zn, zc, zt⟩) (h := y) _ (kD hh (jY 6 rfl hzm)) (hh.aM (i := 1) rfl) ⟨oy.v.symm, oy.ts.symm⟩ (by show zn ≤ 1000000; omega) (by omega)) rfl ?_
         intro w134 hh
         first | refine gS ?_ | (refine gT ?_; refine eM ?_) | refine gV ?_
         first | refine cU ?_ | refine cV ?_
         refine ah (cF (ao (aW (ak (aw (mI ?_))))))
         refine bJ (aI (aE (ak ?_)))
         replace hh := hh.sub (List.Sublist.cons _ (List.Sublist.cons _ (List.Sublist.cons _ (List.Sublist.cons _ (List.Sublist.cons_cons _ (List.Sublist.cons_cons _ (List.Sublist.refl _)))))))
         refine ⟨⟨i + 1, by omega, rfl, hh⟩, by show 4 - (i + 1) < 4 - i; omega, ?_⟩
         (repeat (first | exact az _ _ _ | refine aC rfl ?_ | refine ay rfl ?_))
      ·obtain ⟨hv0, ht0⟩ := hza.bad hE0
       replace hv0 : zv = 0 := hv0
       replace ht0 : zt = [] := ht0
       have hn0 : zn = 0 := by rw [← hzn, ht0]; rfl
       refine cx hh ?_
       intro b20 w20 hh
       refine bL hh 0 [_,_] ?_
       intro ws hh
       replace hh : Hp _ (.blk _ _ [_, _] _ :: _) _ := hh
       refine ah (aj (sr (mL (mI ?_))))
       refine bg (k := i) aG.out aD.size rfl rfl (by omega) (by omega) (by decide) ?_
       refine bE aD.out rfl (hh.cd (i := 2) rfl (by first | assumption | (simp only [Nat.mul_one]; assumption))) (by decide) ?_
       refine er (ah (cT (aj (sr (bG ?_)))))
       refine bI hh 0 ?_
       refine er (mB ?_)
       first | refine gS ?_ | (refine gT ?_; refine bG ?_) | refine gV ?_
       first | refine gS ?_ | (refine gT ?_; refine bI hh 0 ?_) | refine gV ?_
       first | refine gS ?_ | (refine gT ?_; refine a0 ?_) | refine gV ?_
       first | refine gS ?_ | (refine gT ?_; refine er ?_) | refine gV ?_
       first | refine cU ?_ | refine cV ?_
       refine ah (cF (ao (ak ?_)))
       refine aX ?_
       refine aA (bj (ak (aw (mI ?_))))
       refine bJ (aI (aE (ak ?_)))
       replace hh := hh.sub (List.Sublist.cons _ (List.Sublist.cons_cons _ (List.Sublist.cons_cons _ (List.Sublist.refl _))))
       refine ⟨⟨i + 1, by omega, rfl, hh⟩, by show 4 - (i + 1) < 4 - i; omega, ?_⟩
       (repeat (first | exact az _ _ _ | refine aC rfl ?_ | refine ay rfl ?_))
     ·refine aj (sr (mI (mL (a0 ?_))))
      refine aV (ah (cF ?_))
      refine aX ?_
      refine aA (aA (bj (ak (sr ?_))))
      refine bC hh (fN _ (hT.hp hh)) rfl ?_
      intro w137 hh
      refine aB (ah (aq ?_))
      refine cf ?_
      exact ⟨rfl, hh.below⟩
end Go.Proofs.YtkgdagjklakajaaGreatDoor
/- The row and the card of PolyForm. -/
namespace Go.Proofs.YtkgdagjklakajaaGreatDoor.polyForm
open Go.ChangeShapes Go.WideShapes Go.ChangeAt Go.RowKit Go.ChangeMaps
theorem own : ownKnob Tryz.prog.godebug = none := by kernel_rfl
set_option maxRecDepth 100000 in
theorem lifted (os : Os) (started : os.Started) (H : Type) (enc : TypeId × Value → H) :
  ReturnsInHanded {} Tryz.checked os 6 .any (fun w args => (Rows.polyFormSpec.pre enc Tryz.prog Tryz.f6 Rows.polyFormRow.domain false w args ∧ laidMetH Tryz.prog Rows.polyFormRow.laid w) ∧ sizedMet enc Tryz.prog Tryz.f6 (OpenSpec.ofChange Rows.polyFormSpec) false w args)
   (Rows.polyFormSpec.post enc Tryz.prog Tryz.f6 false true false false) := by
 refine returnsInHanded_of_change_and (C := Tryz.checked) (X := fun w _ => laidMetH Tryz.prog Rows.polyFormRow.laid w) (fun _ _ _ hh h => h.of_heap hh) own started (by kernel_rfl) Tryz.func6
  (ChangeSpec.witness_shaped (enc := enc) (C := Tryz.checked) (os := os) (X := fun w _ => laidMetH Tryz.prog Rows.polyFormRow.laid w) false (World.laidAll Tryz.prog os Rows.polyFormRow.laid) #[.int .i64 0, .slice none 0 0, .agg #[.int .i64 0, .slice none 0 0], .agg #[.bool false, .string ⟨#[]⟩, .int .i64 0]] 8 (World.laidAll_os _ _ _)
   (World.shaped_of_ZipB (by kernel_rfl) (by kernel_rfl)) (by kernel_rfl) (by kernel_rfl) (by kernel_rfl)
   (by rw [MakeChecks.laidMetH_plain _ _ _ (by kernel_rfl)]; exact laidMet_laidAll _ (by kernel_rfl) (by kernel_rfl))) ?_
 intro W base args ds gs before hval0 hW hc _ hL _
 have hval : ∀ (j : Nat) t v, Tryz.f6.params[j]? = some t → args[j]? = some v → Value.okWide Tryz.prog W .any base t v := hval0
 have hW' := hW
 obtain ⟨p, q, hA0, hV, rfl, hfz, hnd⟩ := hW
 have hA : DataW.TrodAll enc Tryz.prog W 0 (fun _ => true) true Tryz.f6.params.toList args.toList ds p := hA0
 rw [Tryz.params6] at hA hval
 obtain ⟨v0, vs0, d0, ds0, p0, q0, hargs, rfl, rfl, h0, r0⟩ := trodAll_cons hA
 obtain ⟨v1, vs1, d1, ds1, p1, q1, rfl, rfl, rfl, h1, r1⟩ := trodAll_cons r0
 obtain ⟨v2, vs2, d2, ds2, p2, q2, rfl, rfl, rfl, h2, r2⟩ := trodAll_cons r1
 obtain ⟨v3, vs3, d3, ds3, p3, q3, rfl, rfl, rfl, h3, r3⟩ := trodAll_cons r2
 obtain ⟨rfl, rfl, rfl⟩ := trodAll_nil r3
 obtain rfl : args = #[v0, v1, v2, v3] := by cases args; simp_all
 obtain ⟨rfl, rfl⟩ := trodVars_none hV
 obtain ⟨x0, rfl, rfl, rfl, b0⟩ := open_int Tryz.underlying3 (hval 0 3 v0 rfl rfl) h0
 obtain ⟨A1, n1, c1, l1, rfl, hS1, _⟩ := r4 (hval 1 22 v1 rfl rfl) h1
 obtain ⟨f2, rfl, hS2, hR2⟩ := uE (hval 2 31 v2 rfl rfl) h2
 obtain ⟨x3, rfl, _, _⟩ := uM (hval 3 26 v3 rfl rfl) h3
 refine (ml x0 A1 n1 c1 l1 f2 x3 W (pJ hL) hS1 hS2 hR2).mono fun e W' ⟨he, hb⟩ => ?_
 subst he
 exact ⟨_, rfl, ve hW' rfl (by kernel_rfl) (by rw [Tryz.params6]; exact of_decide_eq_true (by kernel_rfl)) (by kernel_rfl) Tryz.underlying4 rfl rfl rfl hb⟩
theorem row_holds : Rows.PolyFormSaid :=
 OpenClaim.holds_of_wide 6 Tryz.f6 rfl rfl rfl rfl rfl rfl rfl ⟨rfl, rfl, rfl, rfl, rfl⟩ rfl rfl rfl rfl rfl (by kernel_rfl) Tryz.func6 (by kernel_rfl)
  (of_decide_eq_true (by kernel_rfl)) (by unfold Func.isWrapper; first | (rw [if_pos (by decide +kernel)]; kernel_rfl) | (rw [if_neg (by decide +kernel)]; exact ⟨rfl, rfl⟩))
  (fun os started H enc _ => lifted os started H enc)
theorem holds : Rows.PolyFormCardSaid :=
 Claim7.holds_tied_plain_at .later [] [.data, .data, .pinned] true (true, "1c564a1a92a31679145c774681ebb04fb442f740ab3476e1cad723baa630082f") false row_holds (fun _ h => by cases h) (by kernel_rfl) (fun _ h => by cases h) polyForm_row_tie rfl ⟨rfl, rfl⟩ (by kernel_rfl) rfl
  (fun f fn hf hfn => by
   obtain rfl : f = 6 := Option.some.inj ((show Tryz.prog.funcNamed "ogee/ogeelaw08.PolyForm" = some 6 by kernel_rfl).symm.trans hf) |>.symm
   obtain rfl : fn = Tryz.f6 := (Option.some.inj (Tryz.func6.symm.trans hfn)).symm
   exact ⟨by kernel_rfl, fun j t ht => by
    rw [Tryz.params6] at ht
    have hm : t ∈ [3, 22, 31, 26] := by simpa using Array.mem_of_getElem? ht
    have hall : ([3, 22, 31, 26].all fun u => !Tryz.prog.wantsStandIn u) = true := by kernel_rfl
    exact (show Tryz.prog.wantsStandIn t = false by simpa using List.all_eq_true.1 hall t hm)⟩)
  (by kernel_rfl)
#print axioms holds
end Go.Proofs.YtkgdagjklakajaaGreatDoor.polyForm
