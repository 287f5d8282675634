/- The row and the card of PolyMakes. -/
import Derived.Test.YtkgdagjklakajaaGreatDoorCards
import Derived.Test.YtkgdagjklakajaaGreatDoorTie
import Derived.SevenTiedAt
import Derived.Test.YtkgdagjklakajaaGreatDoorZ5
/- The walks through ogeeref08.put and Gather. -/
namespace Go.Proofs.YtkgdagjklakajaaGreatDoor
open Go.RowKit
theorem lu {x : TR} (b : List TR) : ∀ {a : List TR}, (∀ t ∈ a, fc t.m x.m = true) → eY (a ++ b) x = a ++ eY b x
 | [], _ => rfl
 | t :: a, h => by
  rw [List.cons_append, eY, if_pos (h t List.mem_cons_self), lu b fun s hs => h s (List.mem_cons_of_mem _ hs)]
  rfl
theorem u0 {x : TR} {l : List TR} (h : ∀ t ∈ l, fc t.m x.m = true) : eY l x = l ++ [⟨x.m, nR x.c.d⟩] := by
 have := lu [] h
 rwa [List.append_nil] at this
theorem wq {x t : TR} {l : List TR} {i : Nat} (hx : l[i]? = some t) (h : ∀ s ∈ l.take i, fc s.m x.m = true) (h1 : fc t.m x.m = false) : eY l x = if t.m = x.m then l.take i ++ ⟨x.m, nR (t.c.d + x.c.d)⟩ :: l.drop (i + 1) else l.take i ++ ⟨x.m, nR x.c.d⟩ :: l.drop i := by
 have e : l = l.take i ++ t :: l.drop (i + 1) := by rw [← iJ hx, List.take_append_drop]
 have e2 : eY l x = l.take i ++ eY (t :: l.drop (i + 1)) x := by
  conv => lhs; rw [e]
  exact lu _ h
 rw [e2, eY, if_neg (by rw [h1]; decide), iJ hx]
 by_cases he : t.m = x.m
 ·rw [if_pos he, if_neg (by rw [he, gN]; decide)]
 ·rw [if_neg he, if_pos]
  cases h2 : fc x.m t.m with
  | true => rfl
  | false => exact absurd (jQ h1 h2) he
theorem rC (A : Option Addr) (n c : Nat) (l : List TR) (x : TR) (w : World) (hS : Sl w A n 4 (a6 TR.cells l)) (hcn : n ≤ c) (hn : n ≤ 1000000) (ho : ∀ t ∈ l, t.c.ok) (hx : x.c.ok) :
  Calls Tryz.prog 169 #[.slice A n c, .agg #[.string x.m, .bool x.c.neg, .string x.c.bV, .int .i64 x.c.e]] w fun r w' => ∃ A' c', r = .returned (.slice A' (eY l x).length c') ∧ Hp w [.row A' (eY l x).length c' 58 4 (a6 TR.cells (eY l x))] w' := by
 have hh := Hp.start w
 have hln := hS.cd TR.len (by decide)
 have hfo := fun w1 => dt x.c w1 (by have := hx.1; omega) (by have := hx.2.1; omega) (by have := hx.2.2; omega)
 refine ak (N := 76) (l := [.slice A n c, .agg #[.string x.m, .bool x.c.neg, .string x.c.bV, .int .i64 x.c.e]]) Tryz.func169 rfl rfl (by simp) ?_
 refine sr ?_
 refine cR hh [_,_,_,_] ?_
 intro b3 w3 hh
 refine aL (ah (sr (aI (ah (ai (ao ?_))))))
 refine bC [5, 7, 8, 9, 10, 11, 12, 13, 14, 15, 16, 17, 18, 19, 20, 21, 22] 5
  (fun v w' => ∃ i : Nat, i ≤ n ∧ v = .int .i64 i ∧ (∀ t ∈ l.take i, fc t.m x.m = true) ∧ Hp w [.blk b3 58 [.string x.m, .bool x.c.neg, .string x.c.bV, .int .i64 x.c.e] (0, 0)] w')
  (fun v _ => n - (intOf v).toNat) ?_ ?_
 ·exact ⟨0, Nat.zero_le _, rfl, fun t ht => (nomatch ht), hh⟩
 ·clear hh
  rintro ρ' v w' ⟨i, hi, rfl, hall, hh⟩
  by_cases hlt : i < n
  ·obtain ⟨t, ht⟩ := aK (l := l) (k := i) (by omega)
   obtain ⟨ad, rfl, hr⟩ := hS.at_ (by omega)
   have hto := ho t (List.mem_of_getElem? ht)
   cases hl : fc t.m x.m with
   | true =>
    have hbl : Op.bytesLess t.m.toList x.m.toList = true := by rw [gg, hl]
    refine ai (ai ?_)
    refine aX 12 [[(5, none)], [(0, none)], [(8, some 1)], [(7, some 0), (9, some 2)], [(10, some 3)], [(0, none), (11, some 4)], [(5, none), (11, some 4)], [(12, some 5), (13, some 6), (11, some 4)], [(14, some 7), (11, some 4)], [(15, some 8), (11, some 4)], [(3, none), (11, some 4)], [(17, some 10), (11, some 4)]] [(11, 18), (10, 17), (9, 16), (8, 15), (7, 14), (6, 13), (5, 12), (4, 11), (3, 10), (2, 9), (1, 8), (0, 7)] hh mixed (by kernel_rfl) ?_
    refine dP ?_
    refine fO ?_
    refine rP ?_
    refine ue ?_
    refine fQ ?_
    first | refine dS ?_ | refine dU ?_ | refine dG (fO ?_)
    first | refine dS ?_ | refine dU ?_ | refine dG (dP ?_)
    first | refine dS ?_ | refine dU ?_ | refine dG (jT (i) ?_)
    first | refine dS ?_ | refine dU ?_ | refine dG (oc ?_)
    first | refine dS ?_ | refine dU ?_ | refine dG (jd (fun _ hj => ((hr.ext hj.hp.below).recAt TR.len ht).cell (i := 0) rfl) ?_)
    first | refine dS ?_ | refine dU ?_ | refine dG (cv ?_)
    first | refine dS ?_ | refine dU ?_ | refine dG (dH 0 ?_)
    refine a0 ?_
    intro f W hJ hV
    have hb_2 := hJ.bl
    obtain ⟨v18, v17, v16, v15, v14, v13, v12, v11, v10, v9, v8, v7, _⟩ := hV
    replace hh := hJ.hp
    refine aR (a5 (aa v18 (aa v17 (aa v16 (aa v15 (aa v14 (aa v13 (aa v12 (aa v11 (aa v10 (aa v9 (aa v8 (aa v7 aQ))))))))))))) ?_
    dsimp only [bX]
    clear hJ
    first | refine gS ?_ | (refine gT ?_; refine jN rfl rfl (by decide) ?_) | refine gV ?_
    first | refine ct ?_ | refine cu ?_
    refine ah ?_
    rw [hbl]
    refine cT (al (aj (ao (aq (mI ?_)))))
    refine bJ (aI (aF (aZ (aj ?_))))
    refine ⟨⟨i + 1, by omega, rfl, fun s hs => ?_, hh⟩, by show n - (i + 1) < n - i; omega, ?_⟩
    ·rw [aN ht] at hs
     rcases List.mem_append.1 hs with hs | hs
     ·exact hall s hs
     ·rw [List.mem_singleton.1 hs]; exact hl
    ·(repeat (first | exact ax _ _ _ | refine aA rfl ?_ | refine aw rfl ?_))
   | false =>
    have hbl : Op.bytesLess t.m.toList x.m.toList = false := by rw [gg, hl]
    have hput := wq ht hall hl
    have hS1 := hS.front (m := i) (by omega)
    rw [show (a6 TR.cells l).take (i * 4) = a6 TR.cells (l.take i) from iD TR.len l i] at hS1
    have o1 := bk TR.one (l.take i)
    refine ai (ai ?_)
    refine aX 12 [[(5, none)], [(0, none)], [(8, some 1)], [(7, some 0), (9, some 2)], [(10, some 3)], [(0, none), (11, some 4)], [(5, none), (11, some 4)], [(12, some 5), (13, some 6), (11, some 4)], [(14, some 7), (11, some 4)], [(15, some 8), (11, some 4)], [(3, none), (11, some 4)], [(17, some 10), (11, some 4)]] [(11, 18), (10, 17), (9, 16), (8, 15), (7, 14), (6, 13), (5, 12), (4, 11), (3, 10), (2, 9), (1, 8), (0, 7)] hh mixed (by kernel_rfl) ?_
    refine dP ?_
    refine fO ?_
    refine rP ?_
    refine ue ?_
    refine fQ ?_
    first | refine dS ?_ | refine dU ?_ | refine dG (fO ?_)
    first | refine dS ?_ | refine dU ?_ | refine dG (dP ?_)
    first | refine dS ?_ | refine dU ?_ | refine dG (jT (i) ?_)
    first | refine dS ?_ | refine dU ?_ | refine dG (oc ?_)
    first | refine dS ?_ | refine dU ?_ | refine dG (jd (fun _ hj => ((hr.ext hj.hp.below).recAt TR.len ht).cell (i := 0) rfl) ?_)
    first | refine dS ?_ | refine dU ?_ | refine dG (cv ?_)
    first | refine dS ?_ | refine dU ?_ | refine dG (dH 0 ?_)
    refine a0 ?_
    intro f W hJ hV
    have hb_2 := hJ.bl
    obtain ⟨v18, v17, v16, v15, v14, v13, v12, v11, v10, v9, v8, v7, _⟩ := hV
    replace hh := hJ.hp
    refine aR (a5 (aa v18 (aa v17 (aa v16 (aa v15 (aa v14 (aa v13 (aa v12 (aa v11 (aa v10 (aa v9 (aa v8 (aa v7 aQ))))))))))))) ?_
    dsimp only [bX]
    clear hJ
    first | refine gS ?_ | (refine gT ?_; refine jN rfl rfl (by decide) ?_) | refine gV ?_
    first | refine ct ?_ | refine cu ?_
    refine ah ?_
    rw [hbl]
    refine cF ?_
    refine aY ?_
    refine ay (ay (bg (aj (sr ?_))))
    refine fE hh aG.out az.out (by decide) ?_
    intro b23 w23 hh
    refine mL (mI ?_)
    refine ie (h := i) aG.out az.size rfl rfl (by omega) (by omega) (by decide) ?_
    refine bO hh (i := 0) rfl rfl rfl (hS1.ext hh.below) aG.out az.out rfl (by decide) ?one9 (by omega) (by omega) (by decide) ?kk9
    case one9 => first | rfl | assumption | exact oneCells_i64s _ | exact oneCells_u8s _
    intro A27 c27 w27 hh
    simp only [List.set_cons_zero] at hh
    refine aL (ah (ai (ai ?_)))
    have hpl := fun w1 => qM t.c x.c w1 hto hx
    by_cases he : t.m = x.m
    ·rw [if_pos he] at hput
     have hS2 := hS.back (l := i + 1) (by omega) hcn
     rw [show (a6 TR.cells l).drop ((i + 1) * 4) = a6 TR.cells (l.drop (i + 1)) from fT TR.len l (i + 1)] at hS2
     have o2 := bk TR.one (l.drop (i + 1))
     refine aX 12 [[(5, none)], [(0, none)], [(29, some 1)], [(28, some 0), (30, some 2)], [(31, some 3)], [(0, none), (32, some 4)], [(5, none), (32, some 4)], [(33, some 5), (34, some 6), (32, some 4)], [(35, some 7), (32, some 4)], [(36, some 8), (32, some 4)], [(3, none), (32, some 4)], [(38, some 10), (32, some 4)]] [(11, 39), (10, 38), (9, 37), (8, 36), (7, 35), (6, 34), (5, 33), (4, 32), (3, 31), (2, 30), (1, 29), (0, 28)] hh mixed (by kernel_rfl) ?_
     refine dP ?_
     refine fO ?_
     refine rP ?_
     refine ue ?_
     refine fQ ?_
     first | refine dS ?_ | refine dU ?_ | refine dG (fO ?_)
     first | refine dS ?_ | refine dU ?_ | refine dG (dP ?_)
     first | refine dS ?_ | refine dU ?_ | refine dG (jT (i) ?_)
     first | refine dS ?_ | refine dU ?_ | refine dG (oc ?_)
     first | refine dS ?_ | refine dU ?_ | refine dG (jd (fun _ hj => ((hr.ext hj.hp.below).recAt TR.len ht).cell (i := 0) rfl) ?_)
     first | refine dS ?_ | refine dU ?_ | refine dG (cv ?_)
     first | refine dS ?_ | refine dU ?_ | refine dG (dH 1 ?_)
     refine a0 ?_
     intro f W hJ hV
     have hb_5 := hJ.bl
     obtain ⟨v39, v38, v37, v36, v35, v34, v33, v32, v31, v30, v29, v28, _⟩ := hV
     replace hh := hJ.hp
     refine aR (a5 (aa v39 (aa v38 (aa v37 (aa v36 (aa v35 (aa v34 (aa v33 (aa v32 (aa v31 (aa v30 (aa v29 (aa v28 aQ))))))))))))) ?_
     dsimp only [bX]
     clear hJ
     first | refine gS ?_ | (refine gT ?_; (first | refine di rfl rfl (by first | rfl | assumption | decide) (by decide) ?_ | refine da rfl rfl (by first | assumption | decide) (by decide) ?_)) | refine gV ?_
     first | refine ct ?_ | refine cu ?_
     refine ah (cT (ai ?_))
     refine aX 13 [[(6, none)], [(3, none)], [(43, some 1)], [(0, none)], [(5, none)], [(45, some 3), (46, some 4)], [(47, some 5)], [(48, some 6)], [(3, none)], [(50, some 8)], [(49, some 7), (51, some 9)], [(44, some 2), (52, some 10)], [(53, some 11)]] [(12, 54), (11, 53), (10, 52), (9, 51), (8, 50), (7, 49), (6, 48), (5, 47), (4, 46), (3, 45), (2, 44), (1, 43), (0, 42)] hh mixed (by kernel_rfl) ?_
     refine fO ?_
     refine cv ?_
     refine dH 1 ?_
     refine fO ?_
     refine dP ?_
     refine jT (i) ?_
     refine oc ?_
     refine uV [_,_,_] (fun _ hj => ((hr.ext hj.hp.below).recAt TR.len ht).drop 1) ?_
     refine cv ?_
     refine ec 1 [_,_,_] ?_
     refine dC (fun _ hj => hpl _) ?_
     refine dB [_,_,_,_] ?_
     refine uT [_,_,_,_] ?_
     refine a0 ?_
     intro f W hJ hV
     have hb_6 := hJ.bl
     obtain ⟨v54, v53, v52, v51, v50, v49, v48, v47, v46, v45, v44, v43, v42, _⟩ := hV
     obtain ⟨A54, c54, e54, f54⟩ : Rows _ _ _ (f 12) W := v54
     replace hh := hJ.hp
     refine aR (a5 (aa e54 (aa v53 (aa v52 (aa v51 (aa v50 (aa v49 (aa v48 (aa v47 (aa v46 (aa v45 (aa v44 (aa v43 (aa v42 aQ)))))))))))))) ?_
     dsimp only [bX]
     clear e54 hJ
     refine bO hh (i := 0) rfl rfl rfl (f54) aG.out az.out rfl (by decide) (by first | rfl | exact cq _ | exact bW _ | exact oneCells_i64s _ | exact bk NR.one _) (by omega) (by omega) (by decide) ?_
     intro A55 c55 w55 hh
     simp only [List.set_cons_zero] at hh
     refine aL (ah (sr (mL (mL (mI ?_)))))
     refine bJ ?_
     refine aW rfl rfl (by decide) (fI aG.out az.size rfl rfl (l := i + 1) (by omega) (by omega) (by omega)) ?_
     refine bO hh (i := 0) rfl rfl rfl (hS2.ext hh.below) aG.out az.out rfl (by decide) ?one10 (by omega) (by omega) (by decide) ?kk10
     case one10 => first | rfl | assumption | exact oneCells_i64s _ | exact oneCells_u8s _
     intro A61 c61 w61 hh
     simp only [List.set_cons_zero] at hh
     refine aL (ah (an (aC ?_)))
     refine cf ?_
     have e1 : (eY l x).length = 0 + i + 1 + (n - (i + 1)) := by rw [hput, List.length_append, List.length_cons, List.length_take, List.length_drop]; omega
     have e2 : a6 TR.cells (eY l x) = [] ++ a6 TR.cells (l.take i) ++ [.string x.m, .bool (nR (t.c.d + x.c.d)).neg, .string (nR (t.c.d + x.c.d)).bV, .int .i64 (nR (t.c.d + x.c.d)).e] ++ a6 TR.cells (l.drop (i + 1)) := by rw [hput, cz, fq, List.nil_append, List.append_assoc]; rfl
     exact ⟨_, _, by rw [e1], by rw [e1, e2]; exact hh.sub (List.Sublist.cons_cons _ (List.nil_sublist _))⟩
    ·rw [if_neg he] at hput
     have hS2 := hS.back (l := i) (by omega) hcn
     rw [show (a6 TR.cells l).drop (i * 4) = a6 TR.cells (l.drop i) from fT TR.len l i] at hS2
     have o2 := bk TR.one (l.drop i)
     refine aX 12 [[(5, none)], [(0, none)], [(29, some 1)], [(28, some 0), (30, some 2)], [(31, some 3)], [(0, none), (32, some 4)], [(5, none), (32, some 4)], [(33, some 5), (34, some 6), (32, some 4)], [(35, some 7), (32, some 4)], [(36, some 8), (32, some 4)], [(3, none), (32, some 4)], [(38, some 10), (32, some 4)]] [(11, 39), (10, 38), (9, 37), (8, 36), (7, 35), (6, 34), (5, 33), (4, 32), (3, 31), (2, 30), (1, 29), (0, 28)] hh mixed (by kernel_rfl) ?_
     refine dP ?_
     refine fO ?_
     refine rP ?_
     refine ue ?_
     refine fQ ?_
     first | refine dS ?_ | refine dU ?_ | refine dG (fO ?_)
     first | refine dS ?_ | refine dU ?_ | refine dG (dP ?_)
     first | refine dS ?_ | refine dU ?_ | refine dG (jT (i) ?_)
     first | refine dS ?_ | refine dU ?_ | refine dG (oc ?_)
     first | refine dS ?_ | refine dU ?_ | refine dG (jd (fun _ hj => ((hr.ext hj.hp.below).recAt TR.len ht).cell (i := 0) rfl) ?_)
     first | refine dS ?_ | refine dU ?_ | refine dG (cv ?_)
     first | refine dS ?_ | refine dU ?_ | refine dG (dH 1 ?_)
     refine a0 ?_
     intro f W hJ hV
     have hb_5 := hJ.bl
     obtain ⟨v39, v38, v37, v36, v35, v34, v33, v32, v31, v30, v29, v28, _⟩ := hV
     replace hh := hJ.hp
     refine aR (a5 (aa v39 (aa v38 (aa v37 (aa v36 (aa v35 (aa v34 (aa v33 (aa v32 (aa v31 (aa v30 (aa v29 (aa v28 aQ))))))))))))) ?_
     dsimp only [bX]
     clear hJ
     first | refine gS ?_ | (refine gT ?_; (first | refine di rfl rfl (by first | rfl | assumption | decide) (by decide) ?_ | refine da rfl rfl (by first | assumption | decide) (by decide) ?_)) | refine gV ?_
     first | refine ct ?_ | refine cu ?_
     refine ah (cF (al (aj (ai ?_))))
     refine aX 8 [[(6, none)], [(3, none)], [(63, some 1)], [(3, none)], [(65, some 3)], [(66, some 4)], [(64, some 2), (67, some 5)], [(68, some 6)]] [(7, 69), (6, 68), (5, 67), (4, 66), (3, 65), (2, 64), (1, 63), (0, 62)] hh mixed (by kernel_rfl) ?_
     refine fO ?_
     refine cv ?_
     refine dH 1 ?_
     refine cv ?_
     refine ec 1 [_,_,_] ?_
     refine dC (fun _ hj => hfo _) ?_
     refine dB [_,_,_,_] ?_
     refine uT [_,_,_,_] ?_
     refine a0 ?_
     intro f W hJ hV
     have hb_8 := hJ.bl
     obtain ⟨v69, v68, v67, v66, v65, v64, v63, v62, _⟩ := hV
     obtain ⟨A69, c69, e69, f69⟩ : Rows _ _ _ (f 7) W := v69
     replace hh := hJ.hp
     refine aR (a5 (aa e69 (aa v68 (aa v67 (aa v66 (aa v65 (aa v64 (aa v63 (aa v62 aQ))))))))) ?_
     dsimp only [bX]
     clear e69 hJ
     refine bO hh (i := 0) rfl rfl rfl (f69) aG.out az.out rfl (by decide) (by first | rfl | exact cq _ | exact bW _ | exact oneCells_i64s _ | exact bk NR.one _) (by omega) (by omega) (by decide) ?_
     intro A70 c70 w70 hh
     simp only [List.set_cons_zero] at hh
     refine aL (ah (sr (mL (mL (mI ?_)))))
     refine aW rfl rfl (by decide) (fI aG.out az.size rfl rfl (l := i) (by omega) (by omega) (by omega)) ?_
     refine bO hh (i := 0) rfl rfl rfl (hS2.ext hh.below) aG.out az.out rfl (by decide) ?one11 (by omega) (by omega) (by decide) ?kk11
     case one11 => first | rfl | assumption | exact oneCells_i64s _ | exact oneCells_u8s _
     intro A75 c75 w75 hh
     simp only [List.set_cons_zero] at hh
     refine aL (ah (an ?_))
     refine cf ?_
     have e1 : (eY l x).length = 0 + i + 1 + (n - i) := by rw [hput, List.length_append, List.length_cons, List.length_take, List.length_drop]; omega
     have e2 : a6 TR.cells (eY l x) = [] ++ a6 TR.cells (l.take i) ++ [.string x.m, .bool (nR x.c.d).neg, .string (nR x.c.d).bV, .int .i64 (nR x.c.d).e] ++ a6 TR.cells (l.drop i) := by rw [hput, cz, fq, List.nil_append, List.append_assoc]; rfl
     exact ⟨_, _, by rw [e1], by rw [e1, e2]; exact hh.sub (List.Sublist.cons_cons _ (List.nil_sublist _))⟩
  ·obtain rfl : i = n := by omega
   have hput := u0 (x := x) (l := l) (by rwa [List.take_of_length_le (by omega)] at hall)
   rw [show l ++ [⟨x.m, nR x.c.d⟩] = l.take i ++ ⟨x.m, nR x.c.d⟩ :: l.drop i by rw [List.take_of_length_le (by omega), List.drop_of_length_le (by omega)]] at hput
   have hS1 := hS.front (m := i) (by omega)
   rw [show (a6 TR.cells l).take (i * 4) = a6 TR.cells (l.take i) from iD TR.len l i] at hS1
   have o1 := bk TR.one (l.take i)
   have hS2 := hS.back (l := i) (by omega) hcn
   rw [show (a6 TR.cells l).drop (i * 4) = a6 TR.cells (l.drop i) from fT TR.len l i] at hS2
   have o2 := bk TR.one (l.drop i)
   refine ai (ai ?_)
   refine aX 12 [[(5, none)], [(0, none)], [(8, some 1)], [(7, some 0), (9, some 2)], [(10, some 3)], [(0, none), (11, some 4)], [(5, none), (11, some 4)], [(12, some 5), (13, some 6), (11, some 4)], [(14, some 7), (11, some 4)], [(15, some 8), (11, some 4)], [(3, none), (11, some 4)], [(17, some 10), (11, some 4)]] [(11, 18), (10, 17), (9, 16), (8, 15), (7, 14), (6, 13), (5, 12), (4, 11), (3, 10), (2, 9), (1, 8), (0, 7)] hh mixed (by kernel_rfl) ?_
   refine dP ?_
   refine fO ?_
   refine rP ?_
   refine ue ?_
   refine fQ ?_
   first | refine dS ?_ | refine dU ?_ | refine dG (fO ?_)
   first | refine dS ?_ | refine dU ?_ | refine dG (dP ?_)
   first | refine eI (i := 7) rfl (fun ρ1 w1 hj hR => (show ρ1 11 = Value.bool _ from hR.2.2.1)) (by decide) ?_ | refine dN (i := 7) rfl (fun ρ1 w1 hj hR => (show ρ1 11 = undef from hR.2.2.1)) ?_ | refine dr (i := 7) rfl (fun ρ1 w1 hj hR => (show ρ1 11 = Value.bool _ from hR.2.2.1)) (fun ρ1 w1 hj hR => cM aG.out az.size (show ρ1 12 = Value.slice _ _ _ from hR.1) (show ρ1 13 = Value.int _ _ from hR.2.1) (by omega) (by omega)) ?_
   first | refine dS ?_ | refine dU ?_ | refine dG (oc ?_)
   first | refine dS ?_ | refine dU ?_ | refine dG (jd (fun _ hj => hT) ?_)
   first | refine dS ?_ | refine dU ?_ | refine dG (cv ?_)
   first | refine dS ?_ | refine dU ?_ | refine dG (dH 0 ?_)
   refine a0 ?_
   intro f W hJ hV
   have hb_2 := hJ.bl
   obtain ⟨v18, v17, v16, v15, v14, v13, v12, v11, v10, v9, v8, v7, _⟩ := hV
   replace hh := hJ.hp
   refine aR (a5 (aa v18 (aa v17 (aa v16 (aa v15 (aa v14 (aa v13 (aa v12 (aa v11 (aa v10 (aa v9 (aa v8 (aa v7 aQ))))))))))))) ?_
   dsimp only [bX]
   clear hJ
   first | refine gS ?_ | (refine gT ?_; refine jN rfl rfl (by decide) ?_) | refine gV ?_
   first | refine ct ?_ | refine cu ?_
   refine ah (cF ?_)
   refine aY ?_
   refine ay (ay (bg (aj (sr ?_))))
   refine fE hh aG.out az.out (by decide) ?_
   intro b23 w23 hh
   refine mL (mI ?_)
   refine ie (h := i) aG.out az.size rfl rfl (by omega) (by omega) (by decide) ?_
   refine bO hh (i := 0) rfl rfl rfl (hS1.ext hh.below) aG.out az.out rfl (by decide) ?one12 (by omega) (by omega) (by decide) ?kk12
   case one12 => first | rfl | assumption | exact oneCells_i64s _ | exact oneCells_u8s _
   intro A27 c27 w27 hh
   simp only [List.set_cons_zero] at hh
   refine aL (ah (ai (ai ?_)))
   refine aX 12 [[(5, none)], [(0, none)], [(29, some 1)], [(28, some 0), (30, some 2)], [(31, some 3)], [(0, none), (32, some 4)], [(5, none), (32, some 4)], [(33, some 5), (34, some 6), (32, some 4)], [(35, some 7), (32, some 4)], [(36, some 8), (32, some 4)], [(3, none), (32, some 4)], [(38, some 10), (32, some 4)]] [(11, 39), (10, 38), (9, 37), (8, 36), (7, 35), (6, 34), (5, 33), (4, 32), (3, 31), (2, 30), (1, 29), (0, 28)] hh mixed (by kernel_rfl) ?_
   refine dP ?_
   refine fO ?_
   refine rP ?_
   refine ue ?_
   refine fQ ?_
   first | refine dS ?_ | refine dU ?_ | refine dG (fO ?_)
   first | refine dS ?_ | refine dU ?_ | refine dG (dP ?_)
   first | refine eI (i := 7) rfl (fun ρ1 w1 hj hR => (show ρ1 32 = Value.bool _ from hR.2.2.1)) (by decide) ?_ | refine dN (i := 7) rfl (fun ρ1 w1 hj hR => (show ρ1 32 = undef from hR.2.2.1)) ?_ | refine dr (i := 7) rfl (fun ρ1 w1 hj hR => (show ρ1 32 = Value.bool _ from hR.2.2.1)) (fun ρ1 w1 hj hR => cM aG.out az.size (show ρ1 33 = Value.slice _ _ _ from hR.1) (show ρ1 34 = Value.int _ _ from hR.2.1) (by omega) (by omega)) ?_
   first | refine dS ?_ | refine dU ?_ | refine dG (oc ?_)
   first | refine dS ?_ | refine dU ?_ | refine dG (jd (fun _ hj => hT) ?_)
   first | refine dS ?_ | refine dU ?_ | refine dG (cv ?_)
   first | refine dS ?_ | refine dU ?_ | refine dG (dH 1 ?_)
   refine a0 ?_
   intro f W hJ hV
   have hb_5 := hJ.bl
   obtain ⟨v39, v38, v37, v36, v35, v34, v33, v32, v31, v30, v29, v28, _⟩ := hV
   replace hh := hJ.hp
   refine aR (a5 (aa v39 (aa v38 (aa v37 (aa v36 (aa v35 (aa v34 (aa v33 (aa v32 (aa v31 (aa v30 (aa v29 (aa v28 aQ))))))))))))) ?_
   dsimp only [bX]
   clear hJ
   first | refine gS ?_ | (refine gT ?_; (first | refine di rfl rfl (by first | rfl | assumption | decide) (by decide) ?_ | refine da rfl rfl (by first | assumption | decide) (by decide) ?_)) | refine gV ?_
   first | refine ct ?_ | refine cu ?_
   refine ah (cF (al (aj (ai ?_))))
   refine aX 8 [[(6, none)], [(3, none)], [(63, some 1)], [(3, none)], [(65, some 3)], [(66, some 4)], [(64, some 2), (67, some 5)], [(68, some 6)]] [(7, 69), (6, 68), (5, 67), (4, 66), (3, 65), (2, 64), (1, 63), (0, 62)] hh mixed (by kernel_rfl) ?_
   refine fO ?_
   refine cv ?_
   refine dH 1 ?_
   refine cv ?_
   refine ec 1 [_,_,_] ?_
   refine dC (fun _ hj => hfo _) ?_
   refine dB [_,_,_,_] ?_
   refine uT [_,_,_,_] ?_
   refine a0 ?_
   intro f W hJ hV
   have hb_8 := hJ.bl
   obtain ⟨v69, v68, v67, v66, v65, v64, v63, v62, _⟩ := hV
   obtain ⟨A69, c69, e69, f69⟩ : Rows _ _ _ (f 7) W := v69
   replace hh := hJ.hp
   refine aR (a5 (aa e69 (aa v68 (aa v67 (aa v66 (aa v65 (aa v64 (aa v63 (aa v62 aQ))))))))) ?_
   dsimp only [bX]
   clear e69 hJ
   refine bO hh (i := 0) rfl rfl rfl (f69) aG.out az.out rfl (by decide) (by first | rfl | exact cq _ | exact bW _ | exact oneCells_i64s _ | exact bk NR.one _) (by omega) (by omega) (by decide) ?_
   intro A70 c70 w70 hh
   simp only [List.set_cons_zero] at hh
   refine aL (ah (sr (mL (mL (mI ?_)))))
   refine aW rfl rfl (by decide) (fI aG.out az.size rfl rfl (l := i) (by omega) (by omega) (by omega)) ?_
   refine bO hh (i := 0) rfl rfl rfl (hS2.ext hh.below) aG.out az.out rfl (by decide) ?one13 (by omega) (by omega) (by decide) ?kk13
   case one13 => first | rfl | assumption | exact oneCells_i64s _ | exact oneCells_u8s _
   intro A75 c75 w75 hh
   simp only [List.set_cons_zero] at hh
   refine aL (ah (an ?_))
   refine cf ?_
   have e1 : (eY l x).length = 0 + i + 1 + (i - i) := by rw [hput, List.length_append, List.length_cons, List.length_take, List.length_drop]; omega
   have e2 : a6 TR.cells (eY l x) = [] ++ a6 TR.cells (l.take i) ++ [.string x.m, .bool (nR x.c.d).neg, .string (nR x.c.d).bV, .int .i64 (nR x.c.d).e] ++ a6 TR.cells (l.drop i) := by rw [hput, cz, fq, List.nil_append, List.append_assoc]; rfl
   exact ⟨_, _, by rw [e1], by rw [e1, e2]; exact hh.sub (List.Sublist.cons_cons _ (List.nil_sublist _))⟩
theorem nS {k : Nat} {l : List TR} (ho : jb k l) (hk : k + l.length ≤ 3999980) : jb (k + l.length) (fK l) := fun t ht => by
 have h := rh l (fun t ht => (ho t ht).2) t ht
 exact ⟨by rw [qi l t ht]; exact h.ok (by omega), h⟩
theorem hU (v : Int) (A : Option Addr) (n c : Nat) (l : List TR) (k : Nat) (w : World) (hS : Sl w A n 4 (a6 TR.cells l)) (hn : n ≤ 100000) (ho : jb k l) (hk : k + n ≤ 3999980) :
  Calls Tryz.prog 96 #[.int .i64 v, .slice A n c] w fun r w' => ∃ g : PX, cQ (gH l) v (bu l) g ∧ r = .returned (.tuple #[.agg #[.int .i64 g.v, .slice g.A g.n g.c], .int .i64 (gH l)]) ∧ Hp w [g.row] w' := by
 have hh := Hp.start w
 have hln := hS.cd TR.len (by decide)
 refine ak (N := 49) (l := [.int .i64 v, .slice A n c]) Tryz.func96 rfl rfl (by simp) ?_
 refine sr ?_
 refine cg hh ?_
 intro b4 w4 hh
 refine aI (ah (sr (aL (ah (ai (sr (aI (ah (ao ?_)))))))))
 replace hh := hh.er 58 4
 refine cD [6, 7, 10, 11, 12, 13, 14, 15, 16, 17, 18, 19, 20, 21] 6 7
  (fun a x w' => ∃ (i : Nat) (A' : Option Addr) (c' : Nat), i ≤ n ∧ x = .int .i64 i ∧ a = .slice A' (fK (l.take i)).length c' ∧ Hp w [.row A' (fK (l.take i)).length c' 58 4 (a6 TR.cells (fK (l.take i))), .blk b4 31 [.int .i64 0, .slice none 0 0] (0, 0)] w')
  (fun _ x _ => n - (intOf x).toNat) ?_ ?_
 ·exact ⟨0, none, 0, Nat.zero_le _, rfl, rfl, hh⟩
 ·clear hh
  rintro ρ' a_ x_ w' ⟨i, A', c', hi, rfl, rfl, hh⟩
  have hGl := n5 (l.take i)
  rw [List.length_take] at hGl
  by_cases hlt : i < n
  ·obtain ⟨x, hx⟩ := aK (l := l) (k := i) (by omega)
   obtain ⟨ad, rfl, hr⟩ := hS.at_ (by omega)
   have hgo := nS (l := l.take i) (k := k) (fun t ht => ho t (List.mem_of_mem_take ht)) (by rw [List.length_take]; omega)
   refine ai (sr (mI (mL (a3 ?_))))
   refine aO (ah (cT (al (aj (ai (ao (aq (mL (mL (mI ?_))))))))))
   refine aV (k := i) aG.out az.size rfl rfl (by omega) (by omega) (by decide) ?_
   refine bR (vs := [_, _, _, _]) az.out rfl ((hr.ext hh.below).recAt TR.len hx) rfl (by decide) ?_
   refine aM (rC A' (fK (l.take i)).length c' (fK (l.take i)) x _ (hh.aE (i := 0) rfl) (hh.gp (i := 0) rfl) (by omega) (fun t ht => (hgo t ht).1) (ho x (List.mem_of_getElem? hx)).1) ar.out rfl (by decide) ?_
   rintro e_ w21 ⟨A2, c2, rfl, h3⟩
   refine ⟨_, rfl, ?_⟩
   replace hh := hh.join h3
   simp only [List.cons_append, List.nil_append] at hh
   rw [← fo, ← aN hx] at hh ⊢
   refine aL (aF (aZ (aj (aq (mI ?_)))))
   refine bJ (aI (aF (aj ?_)))
   replace hh := hh.sub (List.Sublist.cons_cons _ (List.Sublist.cons _ (List.Sublist.cons_cons _ List.Sublist.slnil)))
   refine ⟨⟨i + 1, A2, c2, by omega, rfl, rfl, hh⟩, by show n - (i + 1) < n - i; omega, ?_⟩
   (repeat (first | exact ax _ _ _ | refine aA rfl ?_ | refine aw rfl ?_))
  ·obtain rfl : i = n := by omega
   rw [List.take_of_length_le (by omega)] at hh hGl ⊢
   have hgo := nS ho (by omega)
   have hgt : bu l = (fK l).filter jV := rfl
   unfold gH
   rw [hgt]
   generalize fK l = G at *
   obtain ⟨m, hm⟩ : ∃ m, m = G.length := ⟨_, rfl⟩
   rw [← hm] at hh ⊢
   refine ai (sr (mI (mL (a3 ?_))))
   refine aO (ah (cF ?_))
   refine aY ?_
   refine ay (ay (bg (aj (sr (aL (ah (ai (sr (aI (ah (ao ?_)))))))))))
   replace hh := hh.er 58 4
   refine cD [8, 9, 22, 23, 24, 25, 26, 27, 28, 29, 30, 31, 32, 33, 34, 35, 36, 37, 38, 39, 40, 41] 8 9
    (fun a x w' => ∃ (j : Nat) (B : Option Addr) (d : Nat), j ≤ m ∧ x = .int .i64 j ∧ a = .slice B ((G.take j).filter jV).length d ∧ Hp w [.row B ((G.take j).filter jV).length d 58 4 (a6 TR.cells ((G.take j).filter jV)), .row A' m c' 58 4 (a6 TR.cells G), .blk b4 31 [.int .i64 0, .slice none 0 0] (0, 0)] w')
    (fun _ x _ => m - (intOf x).toNat) ?_ ?_
   ·exact ⟨0, none, 0, Nat.zero_le _, rfl, rfl, hh⟩
   ·clear hh
    rintro ρ2 a2 x2 w2 ⟨j, B, d, hj, rfl, rfl, hh⟩
    have hfl : ((G.take j).filter jV).length ≤ j := Nat.le_trans (List.length_filter_le _ _) (by rw [List.length_take]; omega)
    by_cases hjm : j < m
    ·obtain ⟨t, ht⟩ := aK (l := G) (k := j) (by omega)
     have hto := hgo t (List.mem_of_getElem? ht)
     have hsg := fun w1 => dM t.c w1 (by have := hto.1.1; omega)
     have hzz : t.c.i.sign = 0 ↔ t.c.d = 0 := by
      rw [Int.sign_eq_zero_iff_zero]
      exact ⟨fun h => by unfold NR.d; rw [h]; rfl, fX⟩
     obtain ⟨g0, rfl⟩ := hh.gG (i := 1) rfl (by omega)
     by_cases hz : t.c.d = 0
     ·have hs := hzz.2 hz
      have hft : (G.take (j + 1)).filter jV = (G.take j).filter jV := by
       rw [aN ht, List.filter_append, List.filter_cons, if_neg (by unfold jV; rw [decide_eq_true hz]; decide)]
       simp
      refine ai (sr (mI (mL (a3 ?_))))
      refine aO (ah (cT (al (aj (ai (ao (sr (mL (mI ?_)))))))))
      refine bj (k := j) aG.out az.size rfl rfl (by omega) (by omega) (by decide) ?_
      refine bH ?_
      refine bR (vs := [_, _, _]) az.out rfl ((hh.mZ (f := TR.cells) (x := t) (l := G) (i := 1) rfl TR.len (by decide) ht).drop 1) rfl (by decide) ?_
      refine bB hh (hsg _) rfl ?_
      intro w33 hh
      refine fj (ah (cF (al (aZ (aj (aq (mI ?_)))))))
      refine bJ (aI (aF (aj ?_)))
      refine ⟨⟨j + 1, B, d, by omega, rfl, by rw [hft]; rfl, by rw [hft]; exact hh⟩, by show m - (j + 1) < m - j; omega, ?_⟩
      (repeat (first | exact ax _ _ _ | refine aA rfl ?_ | refine aw rfl ?_))
     ·have hs : ¬ t.c.i.sign = 0 := fun h => hz (hzz.1 h)
      have hft : (G.take (j + 1)).filter jV = (G.take j).filter jV ++ [t] := by
       rw [aN ht, List.filter_append, List.filter_cons, if_pos (by unfold jV; rw [decide_eq_false hz]; rfl)]
       simp
      refine ai (sr (mI (mL (a3 ?_))))
      refine aO (ah (cT (al (aj (ai (ao (sr (mL (mI ?_)))))))))
      refine bj (k := j) aG.out az.size rfl rfl (by omega) (by omega) (by decide) ?_
      refine bH ?_
      refine bR (vs := [_, _, _]) az.out rfl ((hh.mZ (f := TR.cells) (x := t) (l := G) (i := 1) rfl TR.len (by decide) ht).drop 1) rfl (by decide) ?_
      refine bB hh (hsg _) rfl ?_
      intro w33 hh
      refine fj (ah (cT (aq (mL (mL (mI ?_))))))
      refine bj (k := j) aG.out az.size rfl rfl (by omega) (by omega) (by decide) ?_
      refine bR (vs := [_, _, _, _]) az.out rfl (hh.mZ (f := TR.cells) (x := t) (l := G) (i := 1) rfl TR.len (by decide) ht) rfl (by decide) ?_
      refine bz hh (cs := [_, _, _, _]) aG.out az.out (bp (dJ rfl) cn) rfl rfl (by decide) (by decide) (by decide) rfl (by decide) ?_
      intro b40 w40 hh
      refine bO hh (i := 1) rfl rfl rfl (hh.aE (i := 0) rfl) aG.out az.out rfl (by decide) (by first | rfl | exact cq _ | exact bW _ | exact oneCells_i64s _ | exact bk NR.one _) (by omega) (by omega) (by decide) ?_
      intro A41 c41 w41 hh
      simp only [List.set_cons_zero, List.set_cons_succ] at hh
      replace hh := hh.sub (List.sublist_cons_self _ _)
      refine aL (aF (aZ (aj (aq (mI ?_)))))
      refine bJ (aI (aF (aj ?_)))
      refine ⟨⟨j + 1, A41, c41, by omega, rfl, by rw [hft, List.length_append]; rfl, by rw [hft, List.length_append, cz, qP]; exact hh⟩, by show m - (j + 1) < m - j; omega, ?_⟩
      (repeat (first | exact ax _ _ _ | refine aA rfl ?_ | refine aw rfl ?_))
    ·obtain rfl : j = m := by omega
     rw [List.take_of_length_le (by omega)] at hh hfl ⊢
     generalize G.filter jV = F at *
     by_cases h4 : 4096 < F.length
     ·rw [if_pos h4]
      refine ai (sr (mI (mL (a3 ?_))))
      refine aO (ah (cF ?_))
      refine aY ?_
      refine ay (ay (bg (aj (ai (sr (mL (a3 ?_)))))))
      refine bQ (ah (cT (sr ?_)))
      refine dY [_,_] ?_
      refine bE hh 2 [_,_] ?_
      intro ws hh
      replace hh : Hp _ (_ :: _ :: .blk _ _ [_, _] _ :: _) _ := hh
      refine aI (ah (an (aC ?_)))
      refine iF (aJ rfl (aH (vs := [_, _]) az.out (hh.au (i := 2) (n := 2) rfl rfl) rfl) (bT (cm rfl) a4)) ?_
      exact ⟨PX.nil, cQ.err (by decide), rfl, (hh.sub (List.nil_sublist _)).fR⟩
     ·rw [if_neg h4]
      refine ai (sr (mI (mL (a3 ?_))))
      refine aO (ah (cF ?_))
      refine aY ?_
      refine ay (ay (bg (aj (ai (sr (mL (a3 ?_)))))))
      refine bQ (ah (cF (al (aj (sr (mI (mL ?_)))))))
      refine dY [_,_] ?_
      refine bE hh 2 [_,_] ?_
      intro ws hh
      replace hh : Hp _ (_ :: _ :: .blk _ _ [_, _] _ :: _) _ := hh
      refine aI (ah (an ?_))
      refine iF (aJ rfl (aH (vs := [_, _]) az.out (hh.au (i := 2) (n := 2) rfl rfl) rfl) (bT (cm rfl) a4)) ?_
      exact ⟨⟨v, B, F.length, d, F⟩, ⟨rfl, rfl⟩, rfl, hh.sub (List.Sublist.cons_cons _ (List.nil_sublist _))⟩
end Go.Proofs.YtkgdagjklakajaaGreatDoor
/- The walks through ogeeref08.Like and Times. -/
namespace Go.Proofs.YtkgdagjklakajaaGreatDoor
open Go.RowKit
theorem vG (g : PX) (k : Nat) (w : World) (h : g.at_ w) (hl : g.pP k) :
  Calls Tryz.prog 22 #[.agg #[.int .i64 g.v, .slice g.A g.n g.c]] w fun r w' => r = .returned (.int .i64 g.e) ∧ Below w.heap.size w w' :=
 j3 g.v g.A g.n g.c g.ts w h hl.n fun t ht => ⟨(hl.ok t ht).1, hl.sz t ht⟩
end Go.Proofs.YtkgdagjklakajaaGreatDoor
/- The walks through ogeeref08.Make, Const, Var. -/
namespace Go.Proofs.YtkgdagjklakajaaGreatDoor
open Go.RowKit
theorem pf (v : Int) (A : Option Addr) (n c : Nat) (l : List TR) (k : Nat) (w : World) (hS : Sl w A n 4 (a6 TR.cells l)) (hn : n ≤ 100000) (ho : jb k l) (hk : k + n ≤ 3999980) (hz : ∀ t ∈ l, t.m.size ≤ 100000) :
  Calls Tryz.prog 19 #[.int .i64 v, .slice A n c] w fun r w' => ∃ g : PX, cQ (gM v l) v (bu l) g ∧ r = .returned (.tuple #[.agg #[.int .i64 g.v, .slice g.A g.n g.c], .int .i64 (gM v l)]) ∧ Hp w [g.row] w' := by
 have hh := Hp.start w
 have hln := hS.cd TR.len (by decide)
 cases hf : fA v with
 | false =>
  have hbv : ¬ (0 ≤ v ∧ v ≤ 12) := fun h => by rw [dw.2 h] at hf; cases hf
  rw [show gM v l = 1 by unfold gM; rw [if_pos (.inl hf)]]
  by_cases h0 : v < 0
  ·refine ak (N := 38) (l := [.int .i64 v, .slice A n c]) Tryz.func19 rfl rfl (by simp) ?_
   refine sr ?_
   refine cg hh ?_
   intro b4 w4 hh
   refine aI (ah (ai (sr (mI ?_))))
   refine aO (mB ?_)
   first | refine gS ?_ | (refine gT ?_; refine mI ?_) | refine gV ?_
   first | refine gS ?_ | (refine gT ?_; refine bQ ?_) | refine gV ?_
   first | refine ct ?_ | refine cu ?_
   refine ah (cT (sr ?_))
   refine dY [_,_] ?_
   refine bE hh 0 [_,_] ?_
   intro ws hh
   replace hh : Hp _ (.blk _ _ [_, _] _ :: _) _ := hh
   refine aI (ah (an (aC ?_)))
   refine iF (aJ rfl (aH (vs := [_, _]) az.out (hh.au (i := 0) (n := 2) rfl rfl) rfl) (bT (cm rfl) a4)) ?_
   exact ⟨PX.nil, cQ.err (by decide), rfl, (hh.sub (List.nil_sublist _)).fR⟩
  ·refine ak (N := 38) (l := [.int .i64 v, .slice A n c]) Tryz.func19 rfl rfl (by simp) ?_
   refine sr ?_
   refine cg hh ?_
   intro b4 w4 hh
   refine aI (ah (ai (sr (mI ?_))))
   refine aO (mB ?_)
   first | refine gS ?_ | (refine gT ?_; refine mI ?_) | refine gV ?_
   first | refine gS ?_ | (refine gT ?_; refine bQ ?_) | refine gV ?_
   first | refine ct ?_ | refine cu ?_
   refine ah (cT (sr ?_))
   refine dY [_,_] ?_
   refine bE hh 0 [_,_] ?_
   intro ws hh
   replace hh : Hp _ (.blk _ _ [_, _] _ :: _) _ := hh
   refine aI (ah (an (aC ?_)))
   refine iF (aJ rfl (aH (vs := [_, _]) az.out (hh.au (i := 0) (n := 2) rfl rfl) rfl) (bT (cm rfl) a4)) ?_
   exact ⟨PX.nil, cQ.err (by decide), rfl, (hh.sub (List.nil_sublist _)).fR⟩
 | true =>
  obtain ⟨hv0, hv12⟩ := dw.1 hf
  refine ak (N := 38) (l := [.int .i64 v, .slice A n c]) Tryz.func19 rfl rfl (by simp) ?_
  refine sr ?_
  refine cg hh ?_
  intro b4 w4 hh
  refine aI (ah (ai (sr (mI ?_))))
  refine aO (mB ?_)
  first | refine gS ?_ | (refine gT ?_; refine mI ?_) | refine gV ?_
  first | refine gS ?_ | (refine gT ?_; refine bQ ?_) | refine gV ?_
  first | refine ct ?_ | refine cu ?_
  refine ah (cF (al (aj (ai (sr (aI (ah (ao ?_))))))))
  refine bC [5, 6, 14, 15, 16, 17, 18, 19, 20, 21, 22, 23, 24, 25, 26, 27, 28] 6
   (fun x w' => ∃ i : Nat, i ≤ n ∧ x = .int .i64 i ∧ (l.take i).any (fun t => !iI v t) = false ∧ Hp w [.blk b4 31 [.int .i64 0, .slice none 0 0] (0, 0)] w')
   (fun x _ => n - (intOf x).toNat) ?_ ?_
  ·exact ⟨0, Nat.zero_le _, rfl, rfl, hh⟩
  ·clear hh
   rintro ρ' x_ w' ⟨i, hi, rfl, hall, hh⟩
   by_cases hlt : i < n
   ·obtain ⟨x, hx⟩ := aK (l := l) (k := i) (by omega)
    obtain ⟨ad, rfl, hr⟩ := hS.at_ (by omega)
    have hxz := hz x (List.mem_of_getElem? hx)
    have hmay : ∀ w1, Calls Tryz.prog 95 #[.string x.m, .int .i64 v] w1 fun r w' => r = .returned (.bool (iI v x)) ∧ Below w1.heap.size w1 w' := fun w1 => mA x.m v w1 (by omega)
    cases hm : iI v x with
    | false =>
     rw [hm] at hmay
     rw [show gM v l = 1 by unfold gM; rw [if_pos (.inr (List.any_eq_true.2 ⟨x, List.mem_of_getElem? hx, by rw [hm]; rfl⟩))]]
     refine ai (sr (mI (mL (a3 ?_))))
     refine aO (ah (cT (al (aj (ai (ao (sr (mL (mI ?_)))))))))
     refine aV (k := i) aG.out az.size rfl rfl (by omega) (by omega) (by decide) ?_
     refine cY ee.out rfl (by decide) ?_
     refine bF az.out rfl (((hr.ext hh.below).recAt TR.len hx).cell (i := 0) rfl) (by decide) ?_
     refine mI ?_
     refine bB hh (hmay _) rfl ?_
     intro w26 hh
     refine eS ?_
     refine ah (cT (sr ?_))
     refine dY [_,_] ?_
     refine bE hh 0 [_,_] ?_
     intro ws hh
     replace hh : Hp _ (.blk _ _ [_, _] _ :: _) _ := hh
     refine aI (ah (an (bP (aC (aC (bP (aC ?_)))))))
     refine iF (aJ rfl (aH (vs := [_, _]) az.out (hh.au (i := 0) (n := 2) rfl rfl) rfl) (bT (cm rfl) a4)) ?_
     exact ⟨PX.nil, cQ.err (by decide), rfl, (hh.sub (List.nil_sublist _)).fR⟩
    | true =>
     rw [hm] at hmay
     refine ai (sr (mI (mL (a3 ?_))))
     refine aO (ah (cT (al (aj (ai (ao (sr (mL (mI ?_)))))))))
     refine aV (k := i) aG.out az.size rfl rfl (by omega) (by omega) (by decide) ?_
     refine cY ee.out rfl (by decide) ?_
     refine bF az.out rfl (((hr.ext hh.below).recAt TR.len hx).cell (i := 0) rfl) (by decide) ?_
     refine mI ?_
     refine bB hh (hmay _) rfl ?_
     intro w26 hh
     refine eS ?_
     refine ah (cF (al (aZ (aj (aq (mI ?_))))))
     refine bJ (aI (aF (aj ?_)))
     refine ⟨⟨i + 1, by omega, rfl, by rw [aN hx, List.any_append, hall, List.any_cons, List.any_nil, hm]; rfl, hh⟩, by show n - (i + 1) < n - i; omega, ?_⟩
     (repeat (first | exact ax _ _ _ | refine aA rfl ?_ | refine aw rfl ?_))
   ·rw [List.take_of_length_le (by omega)] at hall
    have e1 : gM v l = if 65536 < l.length then 3 else gH l := by unfold gM; rw [if_neg (by rw [hf, hall]; decide)]
    by_cases h6 : 65536 < n
    ·rw [e1, if_pos (by omega)]
     refine ai (sr (mI (mL (a3 ?_))))
     refine aO (ah (cF ?_))
     refine aY ?_
     refine ay (ay (bg (aj (ai (sr (mL (a3 ?_)))))))
     refine bQ (ah (cT (sr ?_)))
     refine dY [_,_] ?_
     refine bE hh 0 [_,_] ?_
     intro ws hh
     replace hh : Hp _ (.blk _ _ [_, _] _ :: _) _ := hh
     refine aI (ah (an (aC ?_)))
     refine iF (aJ rfl (aH (vs := [_, _]) az.out (hh.au (i := 0) (n := 2) rfl rfl) rfl) (bT (cm rfl) a4)) ?_
     exact ⟨PX.nil, cQ.err (by decide), rfl, (hh.sub (List.nil_sublist _)).fR⟩
    ·rw [e1, if_neg (by omega)]
     refine ai (sr (mI (mL (a3 ?_))))
     refine aO (ah (cF ?_))
     refine aY ?_
     refine ay (ay (bg (aj (ai (sr (mL (a3 ?_)))))))
     refine bQ (ah (cF (al (aj (sr (mI (mL ?_)))))))
     refine aM (hU v A n c l k _ (hS.ext hh.below) hn ho hk) ar.out rfl (by decide) ?_
     rintro e_ w35 ⟨g, og, rfl, h3⟩
     refine ⟨_, rfl, ?_⟩
     replace hh := hh.join h3
     simp only [List.cons_append, List.nil_append] at hh
     refine dL ?_
     refine dL ?_
     refine bE hh 1 [_,_] ?_
     intro ws hh
     replace hh : Hp _ (_ :: .blk _ _ [_, _] _ :: _) _ := hh
     refine aI (ah (an ?_))
     refine iF (aJ rfl (aH (vs := [_, _]) az.out (hh.au (i := 1) (n := 2) rfl rfl) rfl) (bT (cm rfl) a4)) ?_
     exact ⟨g, og, rfl, hh.sub (List.Sublist.cons_cons _ (List.nil_sublist _))⟩
theorem nL (v : Int) (c : NR) (k : Nat) (w : World) (hc : c.ok ∧ Sz k c.d) (hk : k ≤ 2999980) :
  Calls Tryz.prog 27 #[.int .i64 v, .agg #[.bool c.neg, .string c.bV, .int .i64 c.e]] w fun r w' => ∃ g : PX, cQ (kv v) v (bu [⟨eG v, c⟩]) g ∧ r = .returned (.tuple #[.agg #[.int .i64 g.v, .slice g.A g.n g.c], .int .i64 (kv v)]) ∧ Hp w [g.row] w' := by
 have hh := Hp.start w
 cases hf : fA v with
 | false =>
  have hbv : ¬ (0 ≤ v ∧ v ≤ 12) := fun h => by rw [dw.2 h] at hf; cases hf
  rw [show kv v = 1 by unfold kv; rw [if_pos hf]]
  by_cases h0 : v < 0
  ·refine ak (N := 23) (l := [.int .i64 v, .agg #[.bool c.neg, .string c.bV, .int .i64 c.e]]) Tryz.func27 rfl rfl (by simp) ?_
   refine sr ?_
   refine cR hh [_,_,_] ?_
   intro b3 w3 hh
   refine cg hh ?_
   intro b4 w4 hh
   refine aI (ah (ai (sr (mI ?_))))
   refine aO (mB ?_)
   first | refine gS ?_ | (refine gT ?_; refine mI ?_) | refine gV ?_
   first | refine gS ?_ | (refine gT ?_; refine bQ ?_) | refine gV ?_
   first | refine ct ?_ | refine cu ?_
   refine ah (cT (sr ?_))
   refine dY [_,_] ?_
   refine bE hh 0 [_,_] ?_
   intro ws hh
   replace hh : Hp _ (.blk _ _ [_, _] _ :: _) _ := hh
   refine aI (ah (an (aC ?_)))
   refine iF (aJ rfl (aH (vs := [_, _]) az.out (hh.au (i := 0) (n := 2) rfl rfl) rfl) (bT (cm rfl) a4)) ?_
   exact ⟨PX.nil, cQ.err (by decide), rfl, (hh.sub (List.nil_sublist _)).fR⟩
  ·refine ak (N := 23) (l := [.int .i64 v, .agg #[.bool c.neg, .string c.bV, .int .i64 c.e]]) Tryz.func27 rfl rfl (by simp) ?_
   refine sr ?_
   refine cR hh [_,_,_] ?_
   intro b3 w3 hh
   refine cg hh ?_
   intro b4 w4 hh
   refine aI (ah (ai (sr (mI ?_))))
   refine aO (mB ?_)
   first | refine gS ?_ | (refine gT ?_; refine mI ?_) | refine gV ?_
   first | refine gS ?_ | (refine gT ?_; refine bQ ?_) | refine gV ?_
   first | refine ct ?_ | refine cu ?_
   refine ah (cT (sr ?_))
   refine dY [_,_] ?_
   refine bE hh 0 [_,_] ?_
   intro ws hh
   replace hh : Hp _ (.blk _ _ [_, _] _ :: _) _ := hh
   refine aI (ah (an (aC ?_)))
   refine iF (aJ rfl (aH (vs := [_, _]) az.out (hh.au (i := 0) (n := 2) rfl rfl) rfl) (bT (cm rfl) a4)) ?_
   exact ⟨PX.nil, cQ.err (by decide), rfl, (hh.sub (List.nil_sublist _)).fR⟩
 | true =>
  obtain ⟨h0, h12⟩ := dw.1 hf
  have hg := fun A cc w1 hS1 => hU v A 1 cc [⟨eG v, c⟩] k w1 hS1 (by decide) (fun t ht => by rw [List.mem_singleton.1 ht]; exact hc) (by omega)
  rw [mH (by simp)] at hg
  rw [show kv v = 0 by unfold kv; rw [if_neg (by rw [hf]; decide)]]
  generalize bu [⟨eG v, c⟩] = G at *
  refine ak (N := 23) (l := [.int .i64 v, .agg #[.bool c.neg, .string c.bV, .int .i64 c.e]]) Tryz.func27 rfl rfl (by simp) ?_
  refine sr ?_
  refine cR hh [_,_,_] ?_
  intro b3 w3 hh
  refine cg hh ?_
  intro b4 w4 hh
  refine aI (ah (ai (sr (mI ?_))))
  refine aO (mB ?_)
  first | refine gS ?_ | (refine gT ?_; refine mI ?_) | refine gV ?_
  first | refine gS ?_ | (refine gT ?_; refine bQ ?_) | refine gV ?_
  first | refine ct ?_ | refine cu ?_
  refine ah (cF (al (aj (ai ?_))))
  refine ij [] [0, 0, 2, 6, 0, 30, 62, 127, 255, 255, 1023, 2047] 7 [[(0, none)], [(0, none)], [(14, some 1)], [(15, some 2)], [(3, none)], [(16, some 3), (17, some 4)], [(18, some 5)]] [(6, 19), (5, 18), (4, 17), (3, 16), (2, 15), (1, 14), (0, 13)] [([], 4, [(6, 19), (5, 18), (4, 17), (3, 16), (2, 15), (1, 14), (0, 13)])] hh mixed (by kernel_rfl) (by kernel_rfl) (by decide) ?_
  refine dP ?_
  refine dP ?_
  refine bU (i := 2) (hH v.toNat 1 (je (List.replicate v.toNat 0))) (hH.ext) ?_ ?_
  ·intro ρ1 w1 hj hR
   exact iV v.toNat ▸ tO (n := v.toNat) (show ρ1 14 = Value.int _ _ from hR.1) (show ρ1 14 = Value.int _ _ from hR.1) (by omega) (by omega) aG.out az.out rfl (by omega) (by omega) (fun _ _ h1 h2 => ⟨h2, h1⟩)
  refine bU (i := 3) (Is (.string (eG v))) (Is.ext) ?_ ?_
  ·intro ρ1 w1 hj hR
   exact let ⟨g, e, o⟩ := hR.1; fS rfl (gd (l := List.replicate v.toNat 0) aG.out aG.out aG.out e o) ⟨Below.refl _ _, rfl⟩
  refine ec 1 [_,_,_] ?_
  refine dB [_,_,_,_] ?_
  refine uT [_,_,_,_] ?_
  refine a0 ?_
  intro p_ hp_
  simp only [List.mem_cons, List.not_mem_nil, or_false] at hp_
  rcases hp_ with rfl
  intro f W hJ hV
  have hb_3 := hJ.bl
  obtain ⟨v19, v18, v17, v16, v15, v14, v13, _⟩ := hV
  simp only [iZ]
  have e13 : f 0 = _ := v13
  rw [e13]
  have e14 : f 1 = _ := v14
  rw [e14]
  obtain ⟨g15, e15, o15⟩ : hH v.toNat 1 (je (List.replicate v.toNat 0)) (f 2) W := v15
  rw [e15]
  have e16 : f 3 = _ := v16
  rw [e16]
  have e17 : f 4 = _ := v17
  rw [e17]
  have e18 : f 5 = _ := v18
  rw [e18]
  obtain ⟨A19, c19, e19, f19⟩ : Rows _ _ _ (f 6) W := v19
  rw [e19]
  replace hh := hJ.hp
  clear e13 e14 e15 e16 e17 e18 e19 hJ
  refine aM (hg _ _ _ f19) ar.out rfl (by decide) ?_; rintro e_ w20 ⟨g, og, rfl, h3⟩; refine ⟨_, rfl, ?_⟩; replace hh := hh.join h3
  refine cw ?_
  simp only [List.cons_append, List.nil_append] at hh
  refine bY (i := 8) (by repeat (first | exact bM | refine br ?_ | refine bL ?_ | refine np_scope ?_)) rfl (by kernel_rfl) (by kernel_rfl) (by kernel_rfl) (fun _ => dk (show _ = Value.tuple (List.toArray _) from rfl) rfl) (by decide) ?_
  refine bY (i := 9) (by repeat (first | exact bM | refine br ?_ | refine bL ?_ | refine np_scope ?_)) rfl (by kernel_rfl) (by kernel_rfl) (by kernel_rfl) (fun _ => dk (show _ = Value.tuple (List.toArray _) from rfl) rfl) (by decide) ?_
  refine dz 10 (by decide) (by kernel_rfl) (by decide) (by kernel_rfl) (by kernel_rfl) ?_
  refine bE hh 1 [_,_] ?_
  intro ws hh
  replace hh : Hp _ (_ :: .blk _ _ [_, _] _ :: _) _ := hh
  refine aI (ah (an ?_))
  refine iF (aJ rfl (aH (vs := [_, _]) az.out (hh.au (i := 1) (n := 2) rfl rfl) rfl) (bT (cm rfl) a4)) ?_
  exact ⟨g, og, rfl, hh.sub (List.Sublist.cons_cons _ (List.nil_sublist _))⟩
theorem qe (v x : Int) (w : World) :
  Calls Tryz.prog 29 #[.int .i64 v, .int .i64 x] w fun r w' => ∃ g : PX, cQ (gR v x) v (bu [⟨l3 v x.toNat, nR ((1 : Int) : Dyadic)⟩]) g ∧ r = .returned (.tuple #[.agg #[.int .i64 g.v, .slice g.A g.n g.c], .int .i64 (gR v x)]) ∧ Hp w [g.row] w' := by
 have hh := Hp.start w
 by_cases hv0 : v < 0
 ·rw [show gR v x = 1 by unfold gR; rw [if_pos (.inl (by cases hf : fA v with | false => rfl | true => have := dw.1 hf; omega))]]
  refine ak (N := 37) (l := [.int .i64 v, .int .i64 x]) Tryz.func29 rfl rfl (by simp) ?_
  refine sr ?_
  refine cg hh ?_
  intro b4 w4 hh
  refine aI (ah (ai (sr (mI ?_))))
  refine aO (mB ?_)
  first | refine gS ?_ | (refine gT ?_; refine mI ?_) | refine gV ?_
  first | refine gS ?_ | (refine gT ?_; refine bQ ?_) | refine gV ?_
  first | refine ct ?_ | refine cu ?_
  refine mB ?_
  first | refine gS ?_ | (refine gT ?_; refine mI ?_) | refine gV ?_
  first | refine gS ?_ | (refine gT ?_; refine aO ?_) | refine gV ?_
  first | refine ct ?_ | refine cu ?_
  refine mB ?_
  first | refine gS ?_ | (refine gT ?_; refine mI ?_) | refine gV ?_
  first | refine gS ?_ | (refine gT ?_; refine mI ?_) | refine gV ?_
  first | refine gS ?_ | (refine gT ?_; refine cP ?_) | refine gV ?_
  first | refine ct ?_ | refine cu ?_
  refine ah (cT (sr ?_))
  refine dY [_,_] ?_
  refine bE hh 0 [_,_] ?_
  intro ws hh
  replace hh : Hp _ (.blk _ _ [_, _] _ :: _) _ := hh
  refine aI (ah (an (aC ?_)))
  refine iF (aJ rfl (aH (vs := [_, _]) az.out (hh.au (i := 0) (n := 2) rfl rfl) rfl) (bT (cm rfl) a4)) ?_
  exact ⟨PX.nil, cQ.err (by decide), rfl, (hh.sub (List.nil_sublist _)).fR⟩
 ·by_cases hv1 : 12 < v
  ·rw [show gR v x = 1 by unfold gR; rw [if_pos (.inl (by cases hf : fA v with | false => rfl | true => have := dw.1 hf; omega))]]
   refine ak (N := 37) (l := [.int .i64 v, .int .i64 x]) Tryz.func29 rfl rfl (by simp) ?_
   refine sr ?_
   refine cg hh ?_
   intro b4 w4 hh
   refine aI (ah (ai (sr (mI ?_))))
   refine aO (mB ?_)
   first | refine gS ?_ | (refine gT ?_; refine mI ?_) | refine gV ?_
   first | refine gS ?_ | (refine gT ?_; refine bQ ?_) | refine gV ?_
   first | refine ct ?_ | refine cu ?_
   refine mB ?_
   first | refine gS ?_ | (refine gT ?_; refine mI ?_) | refine gV ?_
   first | refine gS ?_ | (refine gT ?_; refine aO ?_) | refine gV ?_
   first | refine ct ?_ | refine cu ?_
   refine mB ?_
   first | refine gS ?_ | (refine gT ?_; refine mI ?_) | refine gV ?_
   first | refine gS ?_ | (refine gT ?_; refine mI ?_) | refine gV ?_
   first | refine gS ?_ | (refine gT ?_; refine cP ?_) | refine gV ?_
   first | refine ct ?_ | refine cu ?_
   refine ah (cT (sr ?_))
   refine dY [_,_] ?_
   refine bE hh 0 [_,_] ?_
   intro ws hh
   replace hh : Hp _ (.blk _ _ [_, _] _ :: _) _ := hh
   refine aI (ah (an (aC ?_)))
   refine iF (aJ rfl (aH (vs := [_, _]) az.out (hh.au (i := 0) (n := 2) rfl rfl) rfl) (bT (cm rfl) a4)) ?_
   exact ⟨PX.nil, cQ.err (by decide), rfl, (hh.sub (List.nil_sublist _)).fR⟩
  ·have hf : fA v = true := dw.2 ⟨by omega, by omega⟩
   by_cases hx0 : x < 0
   ·rw [show gR v x = 1 by unfold gR; rw [if_pos (.inr (.inl hx0))]]
    refine ak (N := 37) (l := [.int .i64 v, .int .i64 x]) Tryz.func29 rfl rfl (by simp) ?_
    refine sr ?_
    refine cg hh ?_
    intro b4 w4 hh
    refine aI (ah (ai (sr (mI ?_))))
    refine aO (mB ?_)
    first | refine gS ?_ | (refine gT ?_; refine mI ?_) | refine gV ?_
    first | refine gS ?_ | (refine gT ?_; refine bQ ?_) | refine gV ?_
    first | refine ct ?_ | refine cu ?_
    refine mB ?_
    first | refine gS ?_ | (refine gT ?_; refine mI ?_) | refine gV ?_
    first | refine gS ?_ | (refine gT ?_; refine aO ?_) | refine gV ?_
    first | refine ct ?_ | refine cu ?_
    refine mB ?_
    first | refine gS ?_ | (refine gT ?_; refine mI ?_) | refine gV ?_
    first | refine gS ?_ | (refine gT ?_; refine mI ?_) | refine gV ?_
    first | refine gS ?_ | (refine gT ?_; refine cP ?_) | refine gV ?_
    first | refine ct ?_ | refine cu ?_
    refine ah (cT (sr ?_))
    refine dY [_,_] ?_
    refine bE hh 0 [_,_] ?_
    intro ws hh
    replace hh : Hp _ (.blk _ _ [_, _] _ :: _) _ := hh
    refine aI (ah (an (aC ?_)))
    refine iF (aJ rfl (aH (vs := [_, _]) az.out (hh.au (i := 0) (n := 2) rfl rfl) rfl) (bT (cm rfl) a4)) ?_
    exact ⟨PX.nil, cQ.err (by decide), rfl, (hh.sub (List.nil_sublist _)).fR⟩
   ·by_cases hx1 : v ≤ x
    ·rw [show gR v x = 1 by unfold gR; rw [if_pos (.inr (.inr hx1))]]
     refine ak (N := 37) (l := [.int .i64 v, .int .i64 x]) Tryz.func29 rfl rfl (by simp) ?_
     refine sr ?_
     refine cg hh ?_
     intro b4 w4 hh
     refine aI (ah (ai (sr (mI ?_))))
     refine aO (mB ?_)
     first | refine gS ?_ | (refine gT ?_; refine mI ?_) | refine gV ?_
     first | refine gS ?_ | (refine gT ?_; refine bQ ?_) | refine gV ?_
     first | refine ct ?_ | refine cu ?_
     refine mB ?_
     first | refine gS ?_ | (refine gT ?_; refine mI ?_) | refine gV ?_
     first | refine gS ?_ | (refine gT ?_; refine aO ?_) | refine gV ?_
     first | refine ct ?_ | refine cu ?_
     refine mB ?_
     first | refine gS ?_ | (refine gT ?_; refine mI ?_) | refine gV ?_
     first | refine gS ?_ | (refine gT ?_; refine mI ?_) | refine gV ?_
     first | refine gS ?_ | (refine gT ?_; refine cP ?_) | refine gV ?_
     first | refine ct ?_ | refine cu ?_
     refine ah (cT (sr ?_))
     refine dY [_,_] ?_
     refine bE hh 0 [_,_] ?_
     intro ws hh
     replace hh : Hp _ (.blk _ _ [_, _] _ :: _) _ := hh
     refine aI (ah (an (aC ?_)))
     refine iF (aJ rfl (aH (vs := [_, _]) az.out (hh.au (i := 0) (n := 2) rfl rfl) rfl) (bT (cm rfl) a4)) ?_
     exact ⟨PX.nil, cQ.err (by decide), rfl, (hh.sub (List.nil_sublist _)).fR⟩
    ·rw [show gR v x = 0 by unfold gR; rw [if_neg (by rintro (h | h | h); exact absurd (hf.symm.trans h) (by decide); omega; omega)]]
     have z1 : Sz 24 ((1 : Int) : Dyadic) := vg (m := 1) (e := 0) (by decide) (by decide) (by decide)
     have hg := fun A cc w1 hS1 => hU v A 1 cc [⟨l3 v x.toNat, nR ((1 : Int) : Dyadic)⟩] 24 w1 hS1 (by decide) (fun t ht => by rw [List.mem_singleton.1 ht]; exact ⟨z1.ok (by decide), by show Sz 24 (nR _).d; rw [eM]; exact z1⟩) (by omega)
     rw [mH (by simp)] at hg
     generalize bu [⟨l3 v x.toNat, nR ((1 : Int) : Dyadic)⟩] = G at *
     refine ak (N := 37) (l := [.int .i64 v, .int .i64 x]) Tryz.func29 rfl rfl (by simp) ?_
     refine sr ?_
     refine cg hh ?_
     intro b4 w4 hh
     refine aI (ah (ai (sr (mI ?_))))
     refine aO (mB ?_)
     first | refine gS ?_ | (refine gT ?_; refine mI ?_) | refine gV ?_
     first | refine gS ?_ | (refine gT ?_; refine bQ ?_) | refine gV ?_
     first | refine ct ?_ | refine cu ?_
     refine mB ?_
     first | refine gS ?_ | (refine gT ?_; refine mI ?_) | refine gV ?_
     first | refine gS ?_ | (refine gT ?_; refine aO ?_) | refine gV ?_
     first | refine ct ?_ | refine cu ?_
     refine mB ?_
     first | refine gS ?_ | (refine gT ?_; refine mI ?_) | refine gV ?_
     first | refine gS ?_ | (refine gT ?_; refine mI ?_) | refine gV ?_
     first | refine gS ?_ | (refine gT ?_; refine cP ?_) | refine gV ?_
     first | refine ct ?_ | refine cu ?_
     refine ah (cF (al (aj (sr (mI ?_)))))
     refine ff (n := (v.toNat)) hh rfl rfl (by omega) (by omega) aG.out az.out rfl (by omega) (by omega) (by decide) ?_
     intro b24 w24 hh
     refine aL (ah (sr (mL (mI ?_))))
     refine bj (k := (x.toNat)) aG.out az.size rfl rfl (by omega) (by omega) (by decide) ?_
     rw [iV] at hh
     have hll : (je (List.replicate v.toNat 0)).length = v.toNat := by simp [je]
     refine bq hh (i := 0) (vs := [_]) rfl rfl (bG rfl) rfl az.out rfl (by rw [hll]; omega) rfl ?_
     intro ws hh
     simp only [List.set_cons_zero] at hh
     rw [show bS (je (List.replicate v.toNat 0)) (x.toNat * 1) [.int .u8 1] = je ((List.replicate v.toNat 0).set x.toNat 1) from oC (l := List.replicate v.toNat 0) (i := x.toNat) (c := 1) (by rw [List.length_replicate]; omega)] at hh
     refine ah (ai ?_)
     refine ij [] [0, 0, 2, 0, 14, 30, 63, 127, 127, 511, 1023] 6 [[(0, none)], [(6, none)], [(29, some 1)], [], [(30, some 2), (31, some 3)], [(32, some 4)]] [(5, 33), (4, 32), (3, 31), (2, 30), (1, 29), (0, 28)] [([], 4, [(5, 33), (4, 32), (3, 31), (2, 30), (1, 29), (0, 28)])] hh mixed (by kernel_rfl) (by kernel_rfl) (by decide) ?_
     refine dP ?_
     refine fO ?_
     refine bU (i := 2) (Is (.string ⟨(((List.replicate v.toNat 0).set x.toNat 1)).toArray⟩)) Is.ext ?_ ?_
     ·intro ρ1 w1 hj hR
      exact fS rfl (gd (l := ((List.replicate v.toNat 0).set x.toNat 1)) aG.out aG.out aG.out (show ρ1 29 = Value.slice _ _ _ from hR.1) (hj.hp.aE (i := 0) rfl)) ⟨Below.refl _ _, rfl⟩
     refine dC (fun _ hj => nT 1 _ (by decide) (by decide)) ?_
     refine dB [_,_,_,_] ?_
     refine uT [_,_,_,_] ?_
     refine a0 ?_
     intro p_ hp_
     simp only [List.mem_cons, List.not_mem_nil, or_false] at hp_
     rcases hp_ with rfl
     intro f W hJ hV
     have hb_5 := hJ.bl
     obtain ⟨v33, v32, v31, v30, v29, v28, _⟩ := hV
     simp only [iZ]
     have e28 : f 0 = _ := v28
     rw [e28]
     have e29 : f 1 = _ := v29
     rw [e29]
     have e30 : f 2 = _ := v30
     rw [e30]
     have e31 : f 3 = _ := v31
     rw [e31]
     have e32 : f 4 = _ := v32
     rw [e32]
     obtain ⟨A33, c33, e33, f33⟩ : Rows _ _ _ (f 5) W := v33
     rw [e33]
     replace hh := hJ.hp
     clear e28 e29 e30 e31 e32 e33 hJ
     refine aM (hg _ _ _ f33) ar.out rfl (by decide) ?_; rintro e_ w34 ⟨g, og, rfl, h3⟩; refine ⟨_, rfl, ?_⟩; replace hh := hh.join h3
     refine cw ?_
     simp only [List.cons_append, List.nil_append] at hh
     refine bY (i := 7) (by repeat (first | exact bM | refine br ?_ | refine bL ?_ | refine np_scope ?_)) rfl (by kernel_rfl) (by kernel_rfl) (by kernel_rfl) (fun _ => dk (show _ = Value.tuple (List.toArray _) from rfl) rfl) (by decide) ?_
     refine bY (i := 8) (by repeat (first | exact bM | refine br ?_ | refine bL ?_ | refine np_scope ?_)) rfl (by kernel_rfl) (by kernel_rfl) (by kernel_rfl) (fun _ => dk (show _ = Value.tuple (List.toArray _) from rfl) rfl) (by decide) ?_
     refine dz 9 (by decide) (by kernel_rfl) (by decide) (by kernel_rfl) (by kernel_rfl) ?_
     refine bE hh 2 [_,_] ?_
     intro ws hh
     replace hh : Hp _ (_ :: _ :: .blk _ _ [_, _] _ :: _) _ := hh
     refine aI (ah (an ?_))
     refine iF (aJ rfl (aH (vs := [_, _]) az.out (hh.au (i := 2) (n := 2) rfl rfl) rfl) (bT (cm rfl) a4)) ?_
     exact ⟨g, og, rfl, hh.sub (List.Sublist.cons_cons _ (List.nil_sublist _))⟩
end Go.Proofs.YtkgdagjklakajaaGreatDoor
/- The walks through ogeeref08.Mul and Pow. -/
namespace Go.Proofs.YtkgdagjklakajaaGreatDoor
open Go.RowKit
def zR (ps : List PX) (R : List HE) (g : PX) : Prop := (g ∈ ps ∧ R = []) ∨ R = [g.row]
end Go.Proofs.YtkgdagjklakajaaGreatDoor
/- The walks through ogeeref08.Degs and Own. -/
namespace Go.Proofs.YtkgdagjklakajaaGreatDoor
open Go.RowKit
theorem tZ (k : Nat) (l : List TR) : gf (k + 1) l = gf k l ++ [pC l k] := by unfold gf; rw [List.range_succ, List.map_append]; rfl
theorem kO (p : PX) (k : Nat) (w : World) (hp : p.at_ w) (lp : p.pP k) :
  Calls Tryz.prog 25 #[.agg #[.int .i64 p.v, .slice p.A p.n p.c]] w fun r w' => ∃ A c, r = .returned (.slice A (l8 p.v p.ts).length c) ∧ Hp w [.row A (l8 p.v p.ts).length c 3 1 (dF (l8 p.v p.ts))] w' := by
 have hh := Hp.start w
 have hck := fun w1 hb => vG p k w1 (hp.ext hb) lp
 by_cases h0 : p.e = 0
 ·rw [show l8 p.v p.ts = gf p.v.toNat p.ts from if_pos h0, eX]
  rw [h0] at hck
  obtain ⟨hf, h4, hmy, _⟩ := iG h0
  have hpl : p.ts.length = p.n := hp.ln
  obtain ⟨pv, pA, pn, pc, ts⟩ := p
  replace hf := dw.1 hf
  replace hmy : ∀ t ∈ ts, iI pv t = true := hmy
  replace hp : Sl w pA pn 4 (a6 TR.cells ts) := hp
  have hn := lp.n
  replace hn : pn ≤ 1000000 := hn
  replace hpl : ts.length = pn := hpl
  obtain ⟨m, rfl⟩ : ∃ m : Nat, pv = (m : Int) := ⟨pv.toNat, by show pv = _; have : 0 ≤ pv := hf.1; omega⟩
  replace hf : m ≤ 12 := by have h9 : (m : Int) ≤ 12 := hf.2; omega
  show Calls _ _ _ _ fun r w' => ∃ A c, r = .returned (.slice A m c) ∧ Hp w [.row A m c 3 1 (dF (gf m ts))] w'
  refine ak (N := 39) (l := [.agg #[.int .i64 m, .slice pA pn pc]]) Tryz.func25 rfl rfl (by simp) ?_
  refine sr ?_
  refine cR hh [_,_] ?_
  intro b1 w1 hh
  refine aL (ah (ai (sr ?_)))
  refine du hh 0 [_,_] ?_
  refine bB hh (hck _ hh.below) rfl ?_
  intro w8 hh
  refine fj (ah (cF (al (aj (sr (aL (ah (ai (sr (aI (ah ?_)))))))))))
  refine ao ?_
  replace hh := hh.er 3 1
  refine cD [3, 4, 5, 6, 10, 11, 12, 13, 14, 15, 16, 17, 18, 19, 20, 21, 22, 23, 24, 25, 26, 27, 28, 29, 30, 31, 32, 33, 34, 35, 36, 37] 3 4
   (fun a v w' => ∃ (q : Nat) (A' : Option Addr) (c' : Nat), q ≤ m ∧ v = .int .i64 q ∧ a = .slice A' q c' ∧ Hp w [.row A' q c' 3 1 (dF (gf q ts)), .blk b1 31 [.int .i64 m, .slice pA pn pc] (0, 0)] w')
   (fun _ v _ => m - (intOf v).toNat) ?_ ?_
  ·exact ⟨0, none, 0, Nat.zero_le _, rfl, rfl, hh⟩
  ·clear hh
   rintro ρ' a_ v w' ⟨q, A', c', hq, rfl, rfl, hh⟩
   by_cases hlt : q < m
   ·refine ai (sr (mI (bH ?_)))
    refine bK hh 1 ?_
    refine aO (ah (cT (al (aj (ai (ao (sr (aI (ah (ai (ai ?_)))))))))))
    refine aq (aI (ah (ao ?_)))
    refine cD [5, 6, 16, 17, 18, 19, 20, 21, 22, 23, 24, 25, 26, 27, 28, 29, 30, 31, 32, 33] 5 6
     (fun d v w' => ∃ i : Nat, i ≤ pn ∧ v = .int .i64 i ∧ d = .int .i64 (pC (ts.take i) q) ∧ Hp w [.row A' q c' 3 1 (dF (gf q ts)), .blk b1 31 [.int .i64 m, .slice pA pn pc] (0, 0)] w')
     (fun _ v _ => pn - (intOf v).toNat) ?_ ?_
    ·exact ⟨0, Nat.zero_le _, rfl, rfl, hh⟩
    ·clear hh
     rintro ρ2 d v w2 ⟨i, hi, rfl, rfl, hh⟩
     by_cases hin : i < pn
     ·obtain ⟨x, hx⟩ := aK (l := ts) (k := i) (by omega)
      obtain ⟨ad, rfl, hr⟩ := hp.at_ (by omega)
      have hmx := Bool.and_eq_true_iff.1 (hmy x (List.mem_of_getElem? hx))
      have hxz : x.m.size = m := by have := of_decide_eq_true hmx.2; omega
      obtain ⟨e, he⟩ := aK (l := x.m.data.toList) (k := q) (by rw [← dA]; omega)
      have he8 : e.toNat < 256 := e.toNat_lt
      have hmx2 : pC (ts.take (i + 1)) q = max (pC (ts.take i) q) (e.toNat : Int) := by rw [aN hx, pV, qk he]
      have hmv : (if (e.toNat : Int) > pC (ts.take i) q then (e.toNat : Int) else pC (ts.take i) q) = pC (ts.take (i + 1)) q := by rw [hmx2]; split <;> omega
      generalize pC (ts.take i) q = d0 at *
      refine ai (sr (mI (bH ?_)))
      refine bK hh 1 ?_
      refine a3 ?_
      refine aO (ah (cT (al (aj (ai (ao (aq (mI (bH ?_)))))))))
      refine bK hh 1 ?_
      refine mI ?_
      refine aV (k := i) aG.out az.size rfl rfl (by omega) (by omega) (by decide) ?_
      refine cY ee.out rfl (by decide) ?_
      refine bF az.out rfl (((hr.ext hh.below).recAt TR.len hx).cell (i := 0) rfl) (by decide) ?_
      refine mI ?_
      refine bD aG.out rfl rfl (by omega) (by assumption) (by decide) ?_
      refine dx aG.out aG.out rfl (by omega) (by omega) (by decide) ?_
      refine hZ rfl rfl (by decide) ?_
      refine aI (aF (aZ (aj (aq (mI ?_)))))
      refine bJ (aI (aF (aj ?_)))
      refine ⟨⟨i + 1, by omega, rfl, congrArg (Value.int .i64) hmv, hh⟩, by show pn - (i + 1) < pn - i; omega, ?_⟩
      (repeat (first | exact ax _ _ _ | refine aA rfl ?_ | refine aw rfl ?_))
     ·obtain rfl : i = pn := by omega
      rw [List.take_of_length_le (by omega)]
      refine ai (sr (mI (bH ?_)))
      refine bK hh 1 ?_
      refine a3 ?_
      refine aO (ah (cF ?_))
      refine aY ?_
      refine ay (ay (bg (aj (aq (mL (mI ?_))))))
      refine bz hh (cs := [_]) aG.out az.out (bp (bG rfl) cn) rfl rfl (by decide) (by decide) (by decide) rfl (by decide) ?_
      intro b36 w36 hh
      refine bO hh (i := 1) rfl rfl rfl (hh.aE (i := 0) rfl) aG.out az.out rfl (by decide) (by first | rfl | exact cq _ | exact bW _ | exact oneCells_i64s _ | exact bk NR.one _) (by omega) (by omega) (by decide) ?_
      intro A37 c37 w37 hh
      simp only [List.set_cons_zero, List.set_cons_succ] at hh
      replace hh := hh.sub (List.sublist_cons_self _ _)
      refine aL (aF (aZ (aj (aq (mI ?_)))))
      refine bJ (aI (aF (aj ?_)))
      have e1 : dF (gf q ts) ++ [.int .i64 (pC ts q)] = dF (gf (q + 1) ts) := by rw [tZ, q9]; rfl
      rw [e1] at hh
      refine ⟨⟨q + 1, _, _, by omega, rfl, rfl, hh⟩, by show m - (q + 1) < m - q; omega, ?_⟩
      (repeat (first | exact ax _ _ _ | refine aA rfl ?_ | refine aw rfl ?_))
   ·obtain rfl : q = m := by omega
    refine ai (sr (mI (bH ?_)))
    refine bK hh 1 ?_
    refine aO (ah (cF ?_))
    refine aY ?_
    refine ay (ay (bg (aj (sr (mL (aL (ah (an ?_))))))))
    refine cf ?_
    exact ⟨_, _, rfl, hh.sub (List.Sublist.cons_cons _ (List.nil_sublist _))⟩
 ·rw [show l8 p.v p.ts = [] from if_neg h0]
  refine ak (N := 39) (l := [.agg #[.int .i64 p.v, .slice p.A p.n p.c]]) Tryz.func25 rfl rfl (by simp) ?_
  refine sr ?_
  refine cR hh [_,_] ?_
  intro b1 w1 hh
  refine aL (ah (ai (sr ?_)))
  refine du hh 0 [_,_] ?_
  refine bB hh (hck _ hh.below) rfl ?_
  intro w8 hh
  refine fj (ah (cT (sr (aL (ah (an (aC ?_)))))))
  refine cf ?_
  exact ⟨none, 0, rfl, (hh.sub (List.nil_sublist _)).er 3 1⟩
end Go.Proofs.YtkgdagjklakajaaGreatDoor
/- The walks through ogeeref08.Terms and Same. -/
namespace Go.Proofs.YtkgdagjklakajaaGreatDoor
open Go.RowKit
theorem xH (n : Nat) (m m' : ByteArray) (s s' : Bool) (a a' : ByteArray) (e e' : Int) (w : World) : (Op.equalIn (n + 4) 58 (.agg #[.string m, .bool s, .string a, .int .i64 e]) (.agg #[.string m', .bool s', .string a', .int .i64 e'])).run Tryz.prog w = .ok (m == m' && ((s == s' && a == a') && e == e')) w := by
 have h1 := fun (u : ByteArray) (x : Bool) (y : ByteArray) (z : Int) => sY (P := Tryz.prog) (cs := #[.string u, .bool x, .string y, .int .i64 z]) (off := 0) (az.out (P := Tryz.prog) (t := 9)) rfl
 have h2 := fun (u : ByteArray) (x : Bool) (y : ByteArray) (z : Int) => x7 (P := Tryz.prog) (cs := #[.string u, .bool x, .string y, .int .i64 z]) (vs := #[.bool x, .string y, .int .i64 z]) (off := 1) (az.out (P := Tryz.prog) (t := 26)) rfl
 rw [Op.equalIn]
 simp [run_underlying Tryz.underlying58, h1, h2, zn, sA]
 cases h : m == m' <;> cases h' : ((s == s' && a == a') && e == e') <;> simp_all
theorem q7 {x y : TR} : (x.m == y.m && ((x.c.neg == y.c.neg && x.c.bV == y.c.bV) && x.c.e == y.c.e)) = true ↔ x = y := by
 obtain ⟨m, s, a, e⟩ := x
 obtain ⟨m', s', a', e'⟩ := y
 rw [Bool.and_eq_true, ku, vW, TR.mk.injEq]
section
variable {ρ : Rf} {w : World} {d : Option Nat} {ty u : TypeId} {pos : String} {af : Array Edge} {g : Option (Nat × Bool)} {x y : Operand} {s t : TR}
theorem xU {r : Bool} (hx : ev ρ x = .agg s.cells.toArray) (hy : ev ρ y = .agg t.cells.toArray) (hr : (s.m == t.m && ((s.c.neg == t.c.neg && s.c.bV == t.c.bV) && s.c.e == t.c.e)) = r) :
  (execOp (ev ρ) ⟨d, .binOp .neq 58 x y u, ty, pos, af, g⟩).run Tryz.prog w = .ok (.value (.bool !r)) w := by
 have h1 : (Op.equal 58 (.agg s.cells.toArray) (.agg t.cells.toArray)).run Tryz.prog w = .ok r w := by rw [← hr]; exact xH 9996 s.m t.m s.c.neg t.c.neg s.c.bV t.c.bV s.c.e t.c.e w
 simp only [execOp, hx, hy]
 simp [eqGuard, binOp, h1]
theorem xP (hx : ev ρ x = .agg s.cells.toArray) (hy : ev ρ y = .agg t.cells.toArray) (h : s = t) :
  (execOp (ev ρ) ⟨d, .binOp .neq 58 x y u, ty, pos, af, g⟩).run Tryz.prog w = .ok (.value (.bool false)) w := xU hx hy (q7.2 h)
theorem wJ (hx : ev ρ x = .agg s.cells.toArray) (hy : ev ρ y = .agg t.cells.toArray) (h : ¬ s = t) :
  (execOp (ev ρ) ⟨d, .binOp .neq 58 x y u, ty, pos, af, g⟩).run Tryz.prog w = .ok (.value (.bool true)) w := xU hx hy (r := false) (Bool.eq_false_iff.2 fun h1 => h (q7.1 h1))
end
theorem xG {α : Type} {a b : List α} {i : Nat} (ha : a.length ≤ i) (hb : b.length ≤ i) (h : a.take i = b.take i) : a = b := by
 rwa [List.take_of_length_le ha, List.take_of_length_le hb] at h
theorem iU (A : Option Addr) (n c : Nat) (a : List TR) (B : Option Addr) (m d : Nat) (b : List TR) (w : World) (hS : Sl w A n 4 (a6 TR.cells a)) (hS2 : Sl w B m 4 (a6 TR.cells b)) (hn : n ≤ 1000000) (hm : m ≤ 1000000) :
  Calls Tryz.prog 30 #[.slice A n c, .slice B m d] w fun r w' => ∃ v, r = .returned (.bool v) ∧ (v = true ↔ a = b) ∧ Below w.heap.size w w' := by
 have hh := Hp.start w
 have hla := hS.cd TR.len (by decide)
 have hlb := hS2.cd TR.len (by decide)
 by_cases hnm : n = m
 ·subst hnm
  refine ak (N := 26) (l := [.slice A n c, .slice B n d]) Tryz.func30 rfl rfl (by simp) ?_
  refine sr (aB (ah (ai (sr (mL (a3 (mL (a3 ?_))))))))
  refine fj (ah (cF (al (aj (ai (sr (aI (ah (ao ?_)))))))))
  refine bC [4, 5, 11, 12, 13, 14, 15, 16, 17, 18, 19, 20, 21, 22, 23, 24, 25] 5
   (fun v w' => ∃ i : Nat, i ≤ n ∧ v = .int .i64 i ∧ a.take i = b.take i ∧ Hp w [] w')
   (fun v _ => n - (intOf v).toNat) ?_ ?_
  ·exact ⟨0, Nat.zero_le _, rfl, rfl, hh⟩
  ·clear hh
   rintro ρ' v w' ⟨i, hi, rfl, he, hh⟩
   by_cases hlt : i < n
   ·obtain ⟨s, hs⟩ := aK (l := a) (k := i) (by omega)
    obtain ⟨t, ht⟩ := aK (l := b) (k := i) (by omega)
    obtain ⟨ad, rfl, hr⟩ := hS.at_ (by omega)
    obtain ⟨ad2, rfl, hr2⟩ := hS2.at_ (by omega)
    by_cases hst : s = t
    ·refine ai (sr (mI (mL (a3 ?_))))
     refine aO (ah (cT (al (aj (ai (ao (ai ?_)))))))
     refine aX 8 [[(0, none)], [(5, none)], [(17, some 0), (18, some 1)], [(19, some 2)], [(1, none)], [(5, none)], [(21, some 4), (22, some 5)], [(23, some 6)]] [(7, 24), (6, 23), (5, 22), (4, 21), (3, 20), (2, 19), (1, 18), (0, 17)] hh mixed (by kernel_rfl) ?_
     refine fO ?_
     refine dP ?_
     refine jT (i) ?_
     refine uV [_,_,_,_] (fun _ hj => (hr.ext hj.hp.below).recAt TR.len hs) ?_
     refine fO ?_
     refine dP ?_
     refine jT (i) ?_
     refine uV [_,_,_,_] (fun _ hj => (hr2.ext hj.hp.below).recAt TR.len ht) ?_
     refine a0 ?_
     intro f W hJ hV
     have hb_6 := hJ.bl
     obtain ⟨v24, v23, v22, v21, v20, v19, v18, v17, _⟩ := hV
     replace hh := hJ.hp
     refine aR (a5 (aa v24 (aa v23 (aa v22 (aa v21 (aa v20 (aa v19 (aa v18 (aa v17 aQ))))))))) ?_
     dsimp only [bX]
     clear hJ
     refine aW rfl rfl (by decide) (xP (s := s) (t := t) rfl rfl hst) ?_
     skip
     refine ah (cF (al (aZ (aj (aq (mI ?_))))))
     refine bJ (aI (aF (aj ?_)))
     refine ⟨⟨i + 1, by omega, rfl, by rw [aN hs, aN ht, he, hst], hh⟩, by show n - (i + 1) < n - i; omega, ?_⟩
     (repeat (first | exact ax _ _ _ | refine aA rfl ?_ | refine aw rfl ?_))
    ·refine ai (sr (mI (mL (a3 ?_))))
     refine aO (ah (cT (al (aj (ai (ao (ai ?_)))))))
     refine aX 8 [[(0, none)], [(5, none)], [(17, some 0), (18, some 1)], [(19, some 2)], [(1, none)], [(5, none)], [(21, some 4), (22, some 5)], [(23, some 6)]] [(7, 24), (6, 23), (5, 22), (4, 21), (3, 20), (2, 19), (1, 18), (0, 17)] hh mixed (by kernel_rfl) ?_
     refine fO ?_
     refine dP ?_
     refine jT (i) ?_
     refine uV [_,_,_,_] (fun _ hj => (hr.ext hj.hp.below).recAt TR.len hs) ?_
     refine fO ?_
     refine dP ?_
     refine jT (i) ?_
     refine uV [_,_,_,_] (fun _ hj => (hr2.ext hj.hp.below).recAt TR.len ht) ?_
     refine a0 ?_
     intro f W hJ hV
     have hb_6 := hJ.bl
     obtain ⟨v24, v23, v22, v21, v20, v19, v18, v17, _⟩ := hV
     replace hh := hJ.hp
     refine aR (a5 (aa v24 (aa v23 (aa v22 (aa v21 (aa v20 (aa v19 (aa v18 (aa v17 aQ))))))))) ?_
     dsimp only [bX]
     clear hJ
     refine aW rfl rfl (by decide) (wJ (s := s) (t := t) rfl rfl hst) ?_
     skip
     refine ah (cT (sr (aB (ah (an (bP (aC (aC (bP (aC ?_))))))))))
     refine cf ?_
     refine ⟨_, rfl, ⟨fun h => (nomatch h), fun h => absurd ?_ hst⟩, hh.below⟩
     rw [h, ht] at hs
     exact (Option.some.inj hs).symm
   ·refine ai (sr (mI (mL (a3 ?_))))
    refine aO (ah (cF ?_))
    refine aY ?_
    refine ay (ay (bg (aj (sr (aB (ah (an ?_)))))))
    refine cf ?_
    exact ⟨_, rfl, ⟨fun _ => xG (by omega) (by omega) he, fun _ => rfl⟩, hh.below⟩
 ·refine ak (N := 26) (l := [.slice A n c, .slice B m d]) Tryz.func30 rfl rfl (by simp) ?_
  refine sr (aB (ah (ai (sr (mL (a3 (mL (a3 ?_))))))))
  refine fj (ah (cT (sr (aB (ah (an (aC ?_)))))))
  refine cf ?_
  exact ⟨_, rfl, ⟨fun h => (nomatch h), fun h => absurd (by rw [← hla, ← hlb, h]) hnm⟩, hh.below⟩
theorem ql (p q : PX) (w : World) (hp : p.at_ w) (hq : q.at_ w) (hn : p.n ≤ 1000000) (hm : q.n ≤ 1000000) :
  Calls Tryz.prog 20 #[.agg #[.int .i64 p.v, .slice p.A p.n p.c], .agg #[.int .i64 q.v, .slice q.A q.n q.c]] w fun r w' => ∃ v, r = .returned (.bool v) ∧ (v = true ↔ p.v = q.v ∧ p.ts = q.ts) ∧ Below w.heap.size w w' := by
 have hh := Hp.start w
 have ht := fun w1 hb => iU p.A p.n p.c p.ts q.A q.n q.c q.ts w1 (hp.ext hb) (hq.ext hb) hn hm
 by_cases hv : p.v = q.v
 ·refine ak (N := 17) (l := [.agg #[.int .i64 p.v, .slice p.A p.n p.c], .agg #[.int .i64 q.v, .slice q.A q.n q.c]]) Tryz.func20 rfl rfl (by simp) ?_
  refine sr ?_
  refine cR hh [_,_] ?_
  intro b2 w2 hh
  refine cR hh [_,_] ?_
  intro b3 w3 hh
  refine aB (ah (sr (bH ?_)))
  refine bK hh 1 ?_
  refine bH ?_
  refine bK hh 0 ?_
  refine dK (mB ?_)
  first | refine gS ?_ | (refine gT ?_; refine bH ?_) | refine gV ?_
  first | refine gS ?_ | (refine gT ?_; refine bK hh 1 ?_) | refine gV ?_
  first | refine gS ?_ | (refine gT ?_; refine bH ?_) | refine gV ?_
  first | refine gS ?_ | (refine gT ?_; refine bK hh 0 ?_) | refine gV ?_
  refine a8 rfl rfl ?_
  refine aM (ht _ hh.below) ar.out rfl (by decide) ?_
  rintro e_ w15 ⟨v_, rfl, hv_, hb_⟩
  refine ⟨_, rfl, ?_⟩
  replace hh := hh.ext hb_
  first | refine ct ?_ | refine cu ?_
  refine aB (ah (an ?_))
  refine cf ?_
  exact ⟨v_, rfl, hv_.trans ⟨fun h => ⟨hv, h⟩, fun h => h.2⟩, hh.below⟩
 ·refine ak (N := 17) (l := [.agg #[.int .i64 p.v, .slice p.A p.n p.c], .agg #[.int .i64 q.v, .slice q.A q.n q.c]]) Tryz.func20 rfl rfl (by simp) ?_
  refine sr ?_
  refine cR hh [_,_] ?_
  intro b2 w2 hh
  refine cR hh [_,_] ?_
  intro b3 w3 hh
  refine aB (ah (sr (bH ?_)))
  refine bK hh 1 ?_
  refine bH ?_
  refine bK hh 0 ?_
  refine dK (mB ?_)
  first | refine gS ?_ | (refine gT ?_; refine bH ?_) | refine gV ?_
  first | refine gS ?_ | (refine gT ?_; refine bK hh 1 ?_) | refine gV ?_
  first | refine gS ?_ | (refine gT ?_; refine bH ?_) | refine gV ?_
  first | refine gS ?_ | (refine gT ?_; refine bK hh 0 ?_) | refine gV ?_
  refine bZ (by decide) rfl rfl (by decide) ?_
  first | refine ct ?_ | refine cu ?_
  refine aB (ah (an ?_))
  refine cf ?_
  exact ⟨_, rfl, ⟨fun h => (nomatch h), fun h => absurd h.1 hv⟩, hh.below⟩
end Go.Proofs.YtkgdagjklakajaaGreatDoor
/- The walks through ogeelaw08's own helpers. -/
namespace Go.Proofs.YtkgdagjklakajaaGreatDoor
open Go.RowKit
def qa (a : NR) : Bool := decide ((24 : Int) < a.bV.size ∨ a.e < -300 ∨ 300 < a.e)
theorem mr (a : NR) (w : World) :
  Calls Tryz.prog 16 #[.agg #[.bool a.neg, .string a.bV, .int .i64 a.e]] w fun r w' => r = .returned (.bool (qa a)) ∧ Below w.heap.size w w' := by
 have hh := Hp.start w
 by_cases h1 : (24 : Int) < a.bV.size
 ·refine ak (N := 18) (l := [.agg #[.bool a.neg, .string a.bV, .int .i64 a.e]]) Tryz.func16 rfl rfl (by simp) ?_
  refine sr ?_
  refine cR hh [_,_,_] ?_
  intro b1 w1 hh
  refine aB (ah (sr (bH (bH ?_))))
  refine bK hh 0 ?_
  refine bo aG.out rfl (by decide) ?_
  refine bQ (mB ?_)
  first | refine gS ?_ | (refine gT ?_; refine bH ?_) | refine gV ?_
  first | refine gS ?_ | (refine gT ?_; refine bK hh 0 ?_) | refine gV ?_
  first | refine gS ?_ | (refine gT ?_; refine aO ?_) | refine gV ?_
  first | refine ct ?_ | refine cu ?_
  refine mB ?_
  first | refine gS ?_ | (refine gT ?_; refine bH ?_) | refine gV ?_
  first | refine gS ?_ | (refine gT ?_; refine bK hh 0 ?_) | refine gV ?_
  first | refine gS ?_ | (refine gT ?_; refine bQ ?_) | refine gV ?_
  first | refine ct ?_ | refine cu ?_
  refine aB (ah (an ?_))
  refine cf ?_
  refine ⟨?_, hh.below⟩
  unfold qa
  rw [decide_eq_true (.inl h1)]
 ·by_cases h2 : a.e < -300
  ·refine ak (N := 18) (l := [.agg #[.bool a.neg, .string a.bV, .int .i64 a.e]]) Tryz.func16 rfl rfl (by simp) ?_
   refine sr ?_
   refine cR hh [_,_,_] ?_
   intro b1 w1 hh
   refine aB (ah (sr (bH (bH ?_))))
   refine bK hh 0 ?_
   refine bo aG.out rfl (by decide) ?_
   refine bQ (mB ?_)
   first | refine gS ?_ | (refine gT ?_; refine bH ?_) | refine gV ?_
   first | refine gS ?_ | (refine gT ?_; refine bK hh 0 ?_) | refine gV ?_
   first | refine gS ?_ | (refine gT ?_; refine aO ?_) | refine gV ?_
   first | refine ct ?_ | refine cu ?_
   refine mB ?_
   first | refine gS ?_ | (refine gT ?_; refine bH ?_) | refine gV ?_
   first | refine gS ?_ | (refine gT ?_; refine bK hh 0 ?_) | refine gV ?_
   first | refine gS ?_ | (refine gT ?_; refine bQ ?_) | refine gV ?_
   first | refine ct ?_ | refine cu ?_
   refine aB (ah (an ?_))
   refine cf ?_
   refine ⟨?_, hh.below⟩
   unfold qa
   rw [decide_eq_true (.inr (.inl h2))]
  ·by_cases h3 : 300 < a.e
   ·refine ak (N := 18) (l := [.agg #[.bool a.neg, .string a.bV, .int .i64 a.e]]) Tryz.func16 rfl rfl (by simp) ?_
    refine sr ?_
    refine cR hh [_,_,_] ?_
    intro b1 w1 hh
    refine aB (ah (sr (bH (bH ?_))))
    refine bK hh 0 ?_
    refine bo aG.out rfl (by decide) ?_
    refine bQ (mB ?_)
    first | refine gS ?_ | (refine gT ?_; refine bH ?_) | refine gV ?_
    first | refine gS ?_ | (refine gT ?_; refine bK hh 0 ?_) | refine gV ?_
    first | refine gS ?_ | (refine gT ?_; refine aO ?_) | refine gV ?_
    first | refine ct ?_ | refine cu ?_
    refine mB ?_
    first | refine gS ?_ | (refine gT ?_; refine bH ?_) | refine gV ?_
    first | refine gS ?_ | (refine gT ?_; refine bK hh 0 ?_) | refine gV ?_
    first | refine gS ?_ | (refine gT ?_; refine bQ ?_) | refine gV ?_
    first | refine ct ?_ | refine cu ?_
    refine aB (ah (an ?_))
    refine cf ?_
    refine ⟨?_, hh.below⟩
    unfold qa
    rw [decide_eq_true (.inr (.inr h3))]
   ·refine ak (N := 18) (l := [.agg #[.bool a.neg, .string a.bV, .int .i64 a.e]]) Tryz.func16 rfl rfl (by simp) ?_
    refine sr ?_
    refine cR hh [_,_,_] ?_
    intro b1 w1 hh
    refine aB (ah (sr (bH (bH ?_))))
    refine bK hh 0 ?_
    refine bo aG.out rfl (by decide) ?_
    refine bQ (mB ?_)
    first | refine gS ?_ | (refine gT ?_; refine bH ?_) | refine gV ?_
    first | refine gS ?_ | (refine gT ?_; refine bK hh 0 ?_) | refine gV ?_
    first | refine gS ?_ | (refine gT ?_; refine aO ?_) | refine gV ?_
    first | refine ct ?_ | refine cu ?_
    refine mB ?_
    first | refine gS ?_ | (refine gT ?_; refine bH ?_) | refine gV ?_
    first | refine gS ?_ | (refine gT ?_; refine bK hh 0 ?_) | refine gV ?_
    first | refine gS ?_ | (refine gT ?_; refine bQ ?_) | refine gV ?_
    first | refine ct ?_ | refine cu ?_
    refine aB (ah (an ?_))
    refine cf ?_
    refine ⟨?_, hh.below⟩
    unfold qa
    rw [decide_eq_false (by omega)]
theorem ze {a : NR} (h : qa a = false) : a.ok ∧ Sz 492 a.d := by
 have h' := of_decide_eq_false h
 have h1 : (a.bV.size : Int) ≤ 24 := by omega
 have h2 : -300 ≤ a.e := by omega
 have h3 : a.e ≤ 300 := by omega
 exact ⟨⟨by omega, by omega, by omega⟩, Sz.raw (m := 192) (E := 300) (by omega) h2 h3⟩
structure zQ (ts : List TR) : Prop where
 n : ts.length ≤ 12
 ok : jb 492 ts
 sz : ∀ t ∈ ts, t.m.size ≤ 50
theorem qE (A : Option Addr) (n c : Nat) (ts : List TR) (w : World) (hS : Sl w A n 4 (a6 TR.cells ts)) :
  Calls Tryz.prog 15 #[.slice A n c] w fun r w' => ∃ b : Bool, r = .returned (.bool b) ∧ (b = false → zQ ts) ∧ Below w.heap.size w w' := by
 have hh := Hp.start w
 have hln := hS.cd TR.len (by decide)
 by_cases h1 : 12 < n
 ·refine ak (N := 28) (l := [.slice A n c]) Tryz.func15 rfl rfl (by simp) ?_
  refine sr (aB (ah (ai (sr (mL (a3 ?_))))))
  refine bQ (ah (cT (sr (aB (ah (an (aC ?_)))))))
  refine cf ?_
  exact ⟨_, rfl, fun h => (nomatch h), hh.below⟩
 ·refine ak (N := 28) (l := [.slice A n c]) Tryz.func15 rfl rfl (by simp) ?_
  refine sr (aB (ah (ai (sr (mL (a3 ?_))))))
  refine bQ (ah (cF (al (aj (ai (sr (aI (ah (ao ?_)))))))))
  refine bC [2, 3, 7, 8, 9, 10, 11, 12, 13, 14, 15, 16, 17, 18, 19, 20, 21, 22, 23, 24, 25, 26, 27] 3
   (fun v w' => ∃ i : Nat, i ≤ n ∧ v = .int .i64 i ∧ jb 492 (ts.take i) ∧ (∀ t ∈ ts.take i, t.m.size ≤ 50) ∧ Hp w [] w')
   (fun v _ => n - (intOf v).toNat) ?_ ?_
  ·exact ⟨0, Nat.zero_le _, rfl, fun t ht => (nomatch ht), fun t ht => (nomatch ht), hh⟩
  ·clear hh
   rintro ρ' v w' ⟨i, hi, rfl, hall, hsz, hh⟩
   by_cases hlt : i < n
   ·obtain ⟨x, hx⟩ := aK (l := ts) (k := i) (by omega)
    obtain ⟨ad, rfl, hr⟩ := hS.at_ (by omega)
    have hfa := fun w1 => mr x.c w1
    have hbm := dA x.m
    cases hf : qa x.c with
    | true =>
     rw [hf] at hfa
     refine ai (sr (mI (mL (a3 ?_))))
     refine aO (ah (cT (al (aj (ai (ao (sr (mL (mI ?_)))))))))
     refine aV (k := i) aG.out az.size rfl rfl (by omega) (by omega) (by decide) ?_
     refine cY ee.out rfl (by decide) ?_
     refine bR (vs := [_, _, _]) az.out rfl (((hr.ext hh.below).recAt TR.len hx).drop 1) rfl (by decide) ?_
     refine bB hh (hfa _) rfl ?_
     intro w18 hh
     refine mB ?_
     first | refine gS ?_ | (refine gT ?_; refine mL ?_) | refine gV ?_
     first | refine gS ?_ | (refine gT ?_; refine mI ?_) | refine gV ?_
     first | refine gS ?_ | (refine gT ?_; refine aV aG.out az.size rfl rfl rfl (by omega) (by decide) ?_) | refine gV ?_
     first | refine gS ?_ | (refine gT ?_; refine cY ee.out rfl (by decide) ?_) | refine gV ?_
     first | (refine bZ (by decide) rfl rfl (by decide) ?_) | (refine eK (by decide) rfl rfl ?_)
     first | refine gS ?_ | (refine gT ?_; refine bo aG.out rfl (by decide) ?_) | refine gV ?_
     first | refine gS ?_ | (refine gT ?_; refine bQ ?_) | refine gV ?_
     first | refine ct ?_ | refine cu ?_
     refine ah (cT (sr (aB (ah (an (bP (aC (aC (bP (aC ?_))))))))))
     refine cf ?_
     exact ⟨_, rfl, fun h => (nomatch h), hh.below⟩
    | false =>
     rw [hf] at hfa
     by_cases h5 : 50 < x.m.size
     ·refine ai (sr (mI (mL (a3 ?_))))
      refine aO (ah (cT (al (aj (ai (ao (sr (mL (mI ?_)))))))))
      refine aV (k := i) aG.out az.size rfl rfl (by omega) (by omega) (by decide) ?_
      refine cY ee.out rfl (by decide) ?_
      refine bR (vs := [_, _, _]) az.out rfl (((hr.ext hh.below).recAt TR.len hx).drop 1) rfl (by decide) ?_
      refine bB hh (hfa _) rfl ?_
      intro w18 hh
      refine mB ?_
      first | refine gS ?_ | (refine gT ?_; refine mL ?_) | refine gV ?_
      first | refine gS ?_ | (refine gT ?_; refine mI ?_) | refine gV ?_
      first | refine gS ?_ | (refine gT ?_; refine aV (k := i) aG.out az.size rfl rfl (by omega) (by omega) (by decide) ?_) | refine gV ?_
      first | refine gS ?_ | (refine gT ?_; refine cY ee.out rfl (by decide) ?_) | refine gV ?_
      refine a8 rfl rfl ?_
      refine bF az.out rfl (((hr.ext hh.below).recAt TR.len hx).cell (i := 0) rfl) (by decide) ?_
      first | refine gS ?_ | (refine gT ?_; refine bo aG.out rfl (by decide) ?_) | refine gV ?_
      first | refine gS ?_ | (refine gT ?_; refine bQ ?_) | refine gV ?_
      first | refine ct ?_ | refine cu ?_
      refine ah (cT (sr (aB (ah (an (bP (aC (aC (bP (aC ?_))))))))))
      refine cf ?_
      exact ⟨_, rfl, fun h => (nomatch h), hh.below⟩
     ·refine ai (sr (mI (mL (a3 ?_))))
      refine aO (ah (cT (al (aj (ai (ao (sr (mL (mI ?_)))))))))
      refine aV (k := i) aG.out az.size rfl rfl (by omega) (by omega) (by decide) ?_
      refine cY ee.out rfl (by decide) ?_
      refine bR (vs := [_, _, _]) az.out rfl (((hr.ext hh.below).recAt TR.len hx).drop 1) rfl (by decide) ?_
      refine bB hh (hfa _) rfl ?_
      intro w18 hh
      refine mB ?_
      first | refine gS ?_ | (refine gT ?_; refine mL ?_) | refine gV ?_
      first | refine gS ?_ | (refine gT ?_; refine mI ?_) | refine gV ?_
      first | refine gS ?_ | (refine gT ?_; refine aV (k := i) aG.out az.size rfl rfl (by omega) (by omega) (by decide) ?_) | refine gV ?_
      first | refine gS ?_ | (refine gT ?_; refine cY ee.out rfl (by decide) ?_) | refine gV ?_
      refine a8 rfl rfl ?_
      refine bF az.out rfl (((hr.ext hh.below).recAt TR.len hx).cell (i := 0) rfl) (by decide) ?_
      first | refine gS ?_ | (refine gT ?_; refine bo aG.out rfl (by decide) ?_) | refine gV ?_
      first | refine gS ?_ | (refine gT ?_; refine bQ ?_) | refine gV ?_
      first | refine ct ?_ | refine cu ?_
      refine ah (cF (al (aZ (aj (aq (mI ?_))))))
      refine bJ (aI (aF (aj ?_)))
      refine ⟨⟨i + 1, by omega, rfl, fun t ht => ?_, fun t ht => ?_, hh⟩, by show n - (i + 1) < n - i; omega, ?_⟩
      ·rw [aN hx] at ht
       rcases List.mem_append.1 ht with ht | ht
       ·exact hall t ht
       ·rw [List.mem_singleton.1 ht]; exact ze hf
      ·rw [aN hx] at ht
       rcases List.mem_append.1 ht with ht | ht
       ·exact hsz t ht
       ·rw [List.mem_singleton.1 ht]; omega
      ·(repeat (first | exact ax _ _ _ | refine aA rfl ?_ | refine aw rfl ?_))
   ·rw [List.take_of_length_le (by omega)] at hall hsz
    refine ai (sr (mI (mL (a3 ?_))))
    refine aO (ah (cF ?_))
    refine aY ?_
    refine ay (ay (bg (aj (sr (aB (ah (an ?_)))))))
    refine cf ?_
    exact ⟨_, rfl, fun _ => ⟨by omega, hall, hsz⟩, hh.below⟩
end Go.Proofs.YtkgdagjklakajaaGreatDoor
/- The walks through ogeelaw08.whole and two; the chapter's examples one by one. -/
namespace Go.Proofs.YtkgdagjklakajaaGreatDoor
open Go.RowKit
theorem ck (n : Int) (w : World) (h1 : -9223372036854775808 ≤ n) (h2 : n ≤ 9223372036854775807) :
  Calls Tryz.prog 40 #[.int .i64 n] w fun r w' => r = .returned (.agg #[.bool (nR (n : Dyadic)).neg, .string (nR (n : Dyadic)).bV, .int .i64 (nR (n : Dyadic)).e]) ∧ Below w.heap.size w w' := by
 have hh := Hp.start w
 refine ak (N := 5) (l := [.int .i64 n]) Tryz.func40 rfl rfl (by simp) ?_
 refine sr ?_
 refine cg hh ?_
 intro b2 w2 hh
 refine ah (sr (mI ?_))
 refine bB hh (nT n _ h1 h2) rfl ?_
 intro w4 hh
 refine bE hh 0 [_,_,_] ?_
 intro ws hh
 replace hh : Hp _ (.blk _ _ [_, _, _] _ :: _) _ := hh
 refine ah (an ?_)
 refine gm (aJ rfl (aH (vs := [_, _, _]) az.out (hh.au (i := 0) (n := 3) rfl rfl) rfl) a4) ?_
 exact ⟨rfl, hh.below⟩
def rJ (n : Int) : ZT := [([0, 1], n), ([1, 0], 1)]
theorem lb (n : Int) (w : World) (h1 : -9223372036854775808 ≤ n) (h2 : n ≤ 9223372036854775807) :
  Calls Tryz.prog 88 #[.int .i64 n] w fun r w' => ∃ (A : Option Addr) (c : Nat), r = .returned (.agg #[.int .i64 2, .slice A 2 c]) ∧ Hp w [.row A 2 c 58 4 (a6 TR.cells (zT (rJ n)))] w' := by
 have hh := Hp.start w
 refine ak (N := 10) (l := [.int .i64 n]) Tryz.func88 rfl rfl (by simp) ?_
 refine sr ?_
 refine cg hh ?_
 intro b2 w2 hh
 refine ah (sr (mI ?_))
 refine bB hh (ck n _ h1 h2) rfl ?_
 intro w4 hh
 refine dY [_,_,_,_] ?_
 refine bB hh (ck 1 _ (by decide) (by decide)) rfl ?_
 intro w6 hh
 refine dY [_,_,_,_] ?_
 refine bz hh (cs := [_, _, _, _, _, _, _, _]) aG.out az.out (bp (dJ rfl) (bp (dJ rfl) cn)) rfl rfl (by decide) (by decide) (by decide) rfl (by decide) ?_
 intro b8 w8 hh
 refine dY [_,_] ?_
 refine bE hh 1 [_,_] ?_
 intro ws hh
 replace hh : Hp _ (_ :: .blk _ _ [_, _] _ :: _) _ := hh
 refine ah (an ?_)
 refine gm (aJ rfl (aH (vs := [_, _]) az.out (hh.au (i := 1) (n := 2) rfl rfl) rfl) a4) ?_
 exact ⟨_, _, rfl, hh.sub (List.Sublist.cons_cons _ (List.nil_sublist _))⟩
theorem cQ.zT {v : Int} {K : ZT} {g : PX} {w : World} (o : cQ 0 v (zT K) g) (h : g.at_ w) : ∃ A c, g = ⟨v, A, K.length, c, zT K⟩ := by
 obtain ⟨gv, gA, gn, gc, gts⟩ := g
 obtain rfl : v = gv := o.v.symm
 obtain rfl : Go.Proofs.YtkgdagjklakajaaGreatDoor.zT K = gts := o.ts.symm
 have : (Go.Proofs.YtkgdagjklakajaaGreatDoor.zT K).length = gn := h.ln
 rw [gL] at this
 exact ⟨gA, gc, by rw [this]⟩
theorem zi (L K : ZT) (v : Int) (A : Option Addr) (n c : Nat) (w : World) (hT : gQ w) (hS : Sl w A n 4 (a6 TR.cells (zT L))) (hn : n ≤ 4096) (hf : fA v = true) (hk : (zC K && zE K L) = true) (hm : zM v L = true) (hb : zB L = true) :
  Calls Tryz.prog 18 #[.int .i64 v, .slice A n c] w fun r w' => ∃ A' c', r = .returned (.tuple #[.agg #[.int .i64 v, .slice A' K.length c'], .int .i64 0]) ∧ Hp w [.row A' K.length c' 58 4 (a6 TR.cells (zT K))] w' := by
 have hln := hS.cd TR.len (by decide)
 rw [gL] at hln
 have := g1 v A n c (zT L) 24 w hT hS (by omega) (by decide) (sU hb).1 fun t ht => Nat.le_trans ((sU hb).2 t ht) (by decide)
 rw [wI hf hm (by omega), lz hk] at this
 refine this.mono fun r w' ⟨g, og, hr, h3⟩ => ?_
 obtain ⟨A', c', rfl⟩ := og.zT (h3.aE (i := 0) rfl)
 exact ⟨A', c', hr, h3⟩
theorem ve {g h : PX} (h1 : g.e = 0) (h2 : h.e = 0) (h3 : h.v = g.v) : jX [g, h] = 0 := by
 have e : [g, h].find? (fun g => decide (g.e ≠ 0)) = none := ik (List.any_eq_false.2 fun x hx => by
  rcases List.mem_cons.1 hx with rfl | hx
  ·simp [h1]
  ·rw [List.mem_singleton.1 hx]; simp [h2])
 unfold jX
 rw [e]
 show (if 2 = 0 ∨ wk [g, h] = true then (1 : Int) else 0) = 0
 rw [if_neg]
 rintro (h0 | h0)
 ·cases h0
 ·obtain ⟨x, hx, hx2⟩ := List.any_eq_true.1 h0
  have hx3 : x.v ≠ g.v := of_decide_eq_true hx2
  rcases List.mem_cons.1 hx with rfl | hx
  ·exact hx3 rfl
  ·rw [List.mem_singleton.1 hx] at hx3
   exact hx3 h3
theorem zD (P Q K : ZT) (v : Int) (L : Option Addr) (A B : Option Addr) (a b n c : Nat) (w : World) (hT : gQ w) (hL : Sl w L 2 2 [.int .i64 v, .slice A n a, .int .i64 v, .slice B n b]) (hA : Sl w A n 4 (a6 TR.cells (zT P))) (hB : Sl w B n 4 (a6 TR.cells (zT Q))) (hc : 2 ≤ c) (ha : n ≤ a) (hb : n ≤ b) (hn : n ≤ 60) (hf : fA v = true)
  (h1 : (zC P && zM v P) = true) (h2 : (zC Q && zM v Q) = true) (h3 : (zB P && zB Q) = true) (hk : (zC K && zE K (zP P Q)) = true) (he : (yP P Q).all (fun e => decide (e = 0)) = true) :
  Calls Tryz.prog 33 #[.slice L 2 c] w fun r w' => ∃ A' c', r = .returned (.tuple #[.agg #[.int .i64 v, .slice A' K.length c'], .int .i64 0]) ∧ Hp w [.row A' K.length c' 58 4 (a6 TR.cells (zT K))] w' := by
 have hlp := hA.cd TR.len (by decide)
 have hlq := hB.cd TR.len (by decide)
 rw [gL] at hlp hlq
 rw [Bool.and_eq_true] at h3
 have hpe : (⟨v, A, n, a, zT P⟩ : PX).e = 0 := kQ hf h1 (by omega)
 have hqe : (⟨v, B, n, b, zT Q⟩ : PX).e = 0 := kQ hf h2 (by omega)
 have := rX L 2 c [⟨v, A, n, a, zT P⟩, ⟨v, B, n, b, zT Q⟩] 24 w hT hL hc (by decide) (fun g hg => by
  rcases List.mem_cons.1 hg with rfl | hg
  ·exact hA
  ·rw [List.mem_singleton.1 hg]; exact hB) (fun g hg => by
  rcases List.mem_cons.1 hg with rfl | hg
  ·exact mR h3.1 (by omega) ha
  ·rw [List.mem_singleton.1 hg]; exact mR h3.2 (by omega) hb) (by decide)
 have hlk := ve hpe hqe rfl
 have hms : yo [⟨v, A, n, a, zT P⟩, ⟨v, B, n, b, zT Q⟩] = (zT K, 0) := by
  show eC (zT P, 0) ⟨v, B, n, b, zT Q⟩ = _
  exact (s8 (g := ⟨v, B, n, b, zT Q⟩) (h := ⟨0, none, 0, 0, zT Q⟩) rfl).trans (sv hk he (by rw [hlp, hlq]; exact Nat.le_trans (Nat.mul_le_mul hn hn) (by decide)))
 unfold td at this
 rw [if_pos hlk, hms] at this
 refine this.mono fun r w' ⟨g, og, hr, h3⟩ => ?_
 obtain ⟨A', c', rfl⟩ := og.zT (h3.aE (i := 0) rfl)
 exact ⟨A', c', hr, h3⟩
theorem zt (P K : ZT) (A : Option Addr) (n c : Nat) (w : World) (hT : gQ w) (hA : Sl w A n 4 (a6 TR.cells (zT P))) (hc : n ≤ c) (hn : n ≤ 60)
  (h1 : (zC P && zM 1 P) = true) (h3 : zB P = true) (h0 : (zC P && zE P (zP [([0], 1)] P)) = true) (e0 : (yP [([0], 1)] P).all (fun e => decide (e = 0)) = true) (hk : (zC K && zE K (zP P P)) = true) (he : (yP P P).all (fun e => decide (e = 0)) = true) :
  Calls Tryz.prog 35 #[.agg #[.int .i64 1, .slice A n c], .int .i64 2] w fun r w' => ∃ A' c', r = .returned (.tuple #[.agg #[.int .i64 1, .slice A' K.length c'], .int .i64 0]) ∧ Hp w [.row A' K.length c' 58 4 (a6 TR.cells (zT K))] w' := by
 have hlp := hA.cd TR.len (by decide)
 rw [gL] at hlp
 have hpe : (⟨1, A, n, c, zT P⟩ : PX).e = 0 := kQ (show fA 1 = true by decide) h1 (by omega)
 have := m3 ⟨1, A, n, c, zT P⟩ 2 24 w hT hA (mR h3 (by omega) hc) (by decide) (.inl (by decide))
 have hg1 : bu [⟨eG 1, nR ((1 : Int) : Dyadic)⟩] = zT [([0], 1)] := lz (L := [([0], 1)]) (K := [([0], 1)]) rfl
 have hpw : j6 ⟨1, A, n, c, zT P⟩ 2 = (zT K, 0) := by
  show eC (eC (bu [⟨eG 1, nR ((1 : Int) : Dyadic)⟩], 0) ⟨1, A, n, c, zT P⟩) ⟨1, A, n, c, zT P⟩ = _
  have e : ∀ a, eC a ⟨1, A, n, c, zT P⟩ = eC a ⟨0, none, 0, 0, zT P⟩ := fun a => s8 rfl
  rw [hg1, e, e, sv h0 e0 (by rw [hlp]; show 1 * n ≤ 4096; omega)]
  exact sv hk he (by rw [hlp]; exact Nat.le_trans (Nat.mul_le_mul hn hn) (by decide))
 have e2 : mQ ⟨1, A, n, c, zT P⟩ 2 = 0 := by
  unfold mQ
  rw [if_pos hpe, if_neg (by decide), show ((2 : Int).toNat) = 2 from rfl, hpw]
 rw [e2, show ((2 : Int).toNat) = 2 from rfl, hpw] at this
 refine this.mono fun r w' ⟨g, og, hr, h3⟩ => ?_
 obtain ⟨A', c', rfl⟩ := og.zT (h3.aE (i := 0) rfl)
 exact ⟨A', c', hr, h3⟩
theorem sw (K : ZT) (A : Option Addr) (n c : Nat) (B : Option Addr) (d : Nat) (w : World) (hA : Sl w A n 4 (a6 TR.cells (zT K))) (hB : Sl w B n 4 (a6 TR.cells (zT K))) (hn : n ≤ 60) :
  Calls Tryz.prog 30 #[.slice A n c, .slice B n d] w fun r w' => r = .returned (.bool true) ∧ Below w.heap.size w w' :=
 (iU A n c (zT K) B n d (zT K) w hA hB (by omega) (by omega)).mono fun r w' ⟨v, hr, hv, hb⟩ => ⟨by rw [hr, hv.2 rfl], hb⟩
end Go.Proofs.YtkgdagjklakajaaGreatDoor
/- The walk through ogeelaw08.awake. -/
namespace Go.Proofs.YtkgdagjklakajaaGreatDoor
open Go.RowKit
theorem xq (w : World) (hT : gQ w) : Calls Tryz.prog 28 #[.int .i64 2, .int .i64 2] w fun r w' => ∃ g : PX, r = .returned (.tuple #[.agg #[.int .i64 g.v, .slice g.A g.n g.c], .int .i64 1]) ∧ Below w.heap.size w w' :=
 (nk 2 2 w hT).mono fun r w' ⟨g, _, hr, h3⟩ => ⟨g, hr, h3.below⟩
theorem uE (w : World) (hT : gQ w) : Calls Tryz.prog 26 #[.int .i64 13, .agg #[.bool (nR ((1 : Int) : Dyadic)).neg, .string (nR ((1 : Int) : Dyadic)).bV, .int .i64 (nR ((1 : Int) : Dyadic)).e]] w fun r w' => ∃ g : PX, r = .returned (.tuple #[.agg #[.int .i64 g.v, .slice g.A g.n g.c], .int .i64 1]) ∧ Below w.heap.size w w' := by
 have z1 : Sz 24 ((1 : Int) : Dyadic) := vg (m := 1) (e := 0) (by decide) (by decide) (by decide)
 exact (iK 13 (nR ((1 : Int) : Dyadic)) 24 w hT ⟨z1.ok (by decide), by rw [eM]; exact z1⟩ (by decide)).mono fun r w' ⟨g, _, hr, h3⟩ => ⟨g, hr, h3.below⟩
theorem wA (w : World) (hT : gQ w) : Calls Tryz.prog 37 #[.slice none 0 0] w fun r w' => ∃ g : PX, r = .returned (.tuple #[.agg #[.int .i64 g.v, .slice g.A g.n g.c], .int .i64 1]) ∧ Below w.heap.size w w' :=
 (rS none 0 0 [] 24 w hT (Sl.nil _ _ _) (by decide) (fun g hg => nomatch hg) (fun g hg => nomatch hg) (by decide)).mono fun r w' ⟨g, _, hr, h3⟩ => ⟨g, hr, h3.below⟩
theorem xK (A : Option Addr) (c : Nat) (w : World) (hT : gQ w) (hA : Sl w A 2 4 (a6 TR.cells (zT (rJ 1)))) (hc : 2 ≤ c) : Calls Tryz.prog 35 #[.agg #[.int .i64 2, .slice A 2 c], .int .i64 (-1)] w fun r w' => ∃ g : PX, r = .returned (.tuple #[.agg #[.int .i64 g.v, .slice g.A g.n g.c], .int .i64 1]) ∧ Below w.heap.size w w' := by
 have hpe : (⟨2, A, 2, c, zT (rJ 1)⟩ : PX).e = 0 := kQ (show fA 2 = true by decide) rfl (by decide)
 have := m3 ⟨2, A, 2, c, zT (rJ 1)⟩ (-1) 24 w hT hA (mR rfl (by decide) hc) (by decide) (.inl (by decide))
 rw [show mQ ⟨2, A, 2, c, zT (rJ 1)⟩ (-1) = 1 by unfold mQ; rw [if_pos hpe, if_pos (.inl (by decide))]] at this
 exact this.mono fun r w' ⟨g, _, hr, h3⟩ => ⟨g, hr, h3.below⟩
theorem yY (A : Option Addr) (c : Nat) (w : World) (hT : gQ w) (hA : Sl w A 1 4 (a6 TR.cells (zT [([2, 1], 1)]))) (hc : 1 ≤ c) : Calls Tryz.prog 24 #[.agg #[.int .i64 2, .slice A 1 c]] w fun r w' => ∃ A' c', r = .returned (.slice A' 2 c') ∧ Hp w [.row A' 2 c' 3 1 (dF [2, 1])] w' := by
 have hpe : gj 2 (zT [([2, 1], 1)]) = 0 := kQ (show fA 2 = true by decide) rfl (by decide)
 have := jk ⟨2, A, 1, c, zT [([2, 1], 1)]⟩ 24 w hT hA (mR rfl (by decide) hc)
 rw [show l8 2 (zT [([2, 1], 1)]) = [2, 1] by unfold l8; rw [if_pos hpe]; rfl] at this
 exact this
theorem zA (A B : Option Addr) (c d : Nat) (w : World) (hA : Sl w A 2 1 (dF [2, 1])) (hB : Sl w B 2 1 (dF [2, 1])) : Calls Tryz.prog 23 #[.slice A 2 c, .slice B 2 d] w fun r w' => r = .returned (.bool true) ∧ Below w.heap.size w w' := jY A B 2 2 c d [2, 1] [2, 1] w hA hB (by decide) (by decide)
theorem px (w : World) (hT : gQ w) : Calls Tryz.prog 17 #[] w fun r w' => r = .returned (.bool true) ∧ Below w.heap.size w w' := by
 have hh := Hp.start w
 refine ak (N := 128) (l := []) Tryz.func17 rfl rfl (by simp) ?_
 refine sr (aB (ah (sr ?_)))
 refine bB hh (ck 2 _ (by decide) (by decide)) rfl ?_
 intro w17 hh
 refine dY [_,_,_,_] ?_
 refine bB hh (ck 3 _ (by decide) (by decide)) rfl ?_
 intro w19 hh
 refine dY [_,_,_,_] ?_
 refine bB hh (ck (-2) _ (by decide) (by decide)) rfl ?_
 intro w21 hh
 refine dY [_,_,_,_] ?_
 refine bz hh (cs := [_, _, _, _, _, _, _, _, _, _, _, _]) aG.out az.out (bp (dJ rfl) (bp (dJ rfl) (bp (dJ rfl) cn))) rfl rfl (by decide) (by decide) (by decide) rfl (by decide) ?_
 intro b23 w23 hh
 refine aM (zi [([1], 2), ([0], 3), ([1], -2)] [([0], 3)] 1 _ 3 _ _ (hT.hp hh) (hh.aE (i := 0) rfl) (by decide) rfl rfl rfl rfl) ar.out rfl (by decide) ?_
 rintro e_ w24 ⟨A1, c1, rfl, h2⟩
 refine ⟨_, rfl, ?_⟩
 replace hh := hh.join h2
 simp only [List.cons_append, List.nil_append] at hh
 clear h2
 replace hh := hh.sub (List.Sublist.cons_cons _ (List.Sublist.cons _ List.Sublist.slnil))
 refine mT ?_
 refine dL ?_
 refine dL ?_
 refine cg hh ?_
 intro b1 w1 hh
 refine bE hh 0 [_,_] ?_
 intro ws hh
 replace hh : Hp _ (.blk _ _ [_, _] _ :: _) _ := hh
 refine aI (ah (sr ?_))
 refine aM (lb 1 _ (by decide) (by decide)) ar.out rfl (by decide) ?_
 rintro e_ w28 ⟨A2, c2, rfl, h2⟩
 refine ⟨_, rfl, ?_⟩
 replace hh := hh.join h2
 simp only [List.cons_append, List.nil_append] at hh
 clear h2
 refine aM (lb (-1) _ (by decide) (by decide)) ar.out rfl (by decide) ?_
 rintro e_ w29 ⟨A3, c3, rfl, h2⟩
 refine ⟨_, rfl, ?_⟩
 replace hh := hh.join h2
 simp only [List.cons_append, List.nil_append] at hh
 clear h2
 refine bz hh (cs := [_, _, _, _]) aG.out az.out (bp (dJ rfl) (bp (dJ rfl) cn)) rfl rfl (by decide) (by decide) (by decide) rfl (by decide) ?_
 intro b30 w30 hh
 refine aM (zD (rJ 1) (rJ (-1)) [([0, 2], -1), ([2, 0], 1)] 2 _ A2 A3 c2 c3 2 2 _ (hT.hp hh) (hh.aE (i := 0) rfl) (hh.aE (i := 2) rfl) (hh.aE (i := 1) rfl) (by decide) (hh.gp (i := 2) rfl) (hh.gp (i := 1) rfl) (by decide) rfl rfl rfl rfl rfl rfl) ar.out rfl (by decide) ?_
 rintro e_ w31 ⟨A4, c4, rfl, h2⟩
 refine ⟨_, rfl, ?_⟩
 replace hh := hh.join h2
 simp only [List.cons_append, List.nil_append] at hh
 clear h2
 replace hh := hh.sub (List.Sublist.cons_cons _ (List.Sublist.cons _ (List.Sublist.cons _ (List.Sublist.cons _ (List.Sublist.cons_cons _ (List.Sublist.cons_cons _ List.Sublist.slnil))))))
 refine mT ?_
 refine dL ?_
 refine dL ?_
 refine cg hh ?_
 intro b3 w3 hh
 refine bE hh 0 [_,_] ?_
 intro ws hh
 replace hh : Hp _ (.blk _ _ [_, _] _ :: _) _ := hh
 refine aI (ah (sr ?_))
 refine bB hh (ck 1 _ (by decide) (by decide)) rfl ?_
 intro w35 hh
 refine dY [_,_,_,_] ?_
 refine bB hh (ck 1 _ (by decide) (by decide)) rfl ?_
 intro w37 hh
 refine dY [_,_,_,_] ?_
 refine bz hh (cs := [_, _, _, _, _, _, _, _]) aG.out az.out (bp (dJ rfl) (bp (dJ rfl) cn)) rfl rfl (by decide) (by decide) (by decide) rfl (by decide) ?_
 intro b39 w39 hh
 refine dY [_,_] ?_
 refine aM (zt [([0], 1), ([1], 1)] [([0], 1), ([1], 2), ([2], 1)] _ 2 2 _ (hT.hp hh) (hh.aE (i := 0) rfl) (by decide) (by decide) rfl rfl rfl rfl rfl rfl) ar.out rfl (by decide) ?_
 rintro e_ w41 ⟨A5, c5, rfl, h2⟩
 refine ⟨_, rfl, ?_⟩
 replace hh := hh.join h2
 simp only [List.cons_append, List.nil_append] at hh
 clear h2
 replace hh := hh.sub (List.Sublist.cons_cons _ (List.Sublist.cons _ (List.Sublist.cons_cons _ (List.Sublist.cons_cons _ (List.Sublist.cons_cons _ (List.Sublist.cons_cons _ List.Sublist.slnil))))))
 refine mT ?_
 refine dL ?_
 refine dL ?_
 refine cg hh ?_
 intro b5 w5 hh
 refine bE hh 0 [_,_] ?_
 intro ws hh
 replace hh : Hp _ (.blk _ _ [_, _] _ :: _) _ := hh
 refine aI (ah (sr ?_))
 refine aM (wA _ (hT.hp hh)) ar.out rfl (by decide) ?_
 rintro e_ w45 ⟨g4, rfl, hb_⟩
 refine ⟨_, rfl, ?_⟩
 replace hh := hh.ext hb_
 refine mT ?_
 refine dL ?_
 refine dL ?_
 refine cg hh ?_
 intro b7 w7 hh
 refine bE hh 0 [_,_] ?_
 intro ws hh
 replace hh : Hp _ (.blk _ _ [_, _] _ :: _) _ := hh
 refine aI (ah (sr ?_))
 replace hh := hh.sub (List.Sublist.cons _ (List.Sublist.cons_cons _ (List.Sublist.cons_cons _ (List.Sublist.cons_cons _ (List.Sublist.cons_cons _ (List.Sublist.cons_cons _ (List.Sublist.cons_cons _ List.Sublist.slnil)))))))
 refine aM (xq _ (hT.hp hh)) ar.out rfl (by decide) ?_
 rintro e_ w49 ⟨g5, rfl, hb_⟩
 refine ⟨_, rfl, ?_⟩
 replace hh := hh.ext hb_
 refine mT ?_
 refine dL ?_
 refine dL ?_
 refine cg hh ?_
 intro b9 w9 hh
 refine bE hh 0 [_,_] ?_
 intro ws hh
 replace hh : Hp _ (.blk _ _ [_, _] _ :: _) _ := hh
 refine aI (ah (sr ?_))
 replace hh := hh.sub (List.Sublist.cons _ (List.Sublist.cons_cons _ (List.Sublist.cons_cons _ (List.Sublist.cons_cons _ (List.Sublist.cons_cons _ (List.Sublist.cons_cons _ (List.Sublist.cons_cons _ List.Sublist.slnil)))))))
 refine aM (lb 1 _ (by decide) (by decide)) ar.out rfl (by decide) ?_
 rintro e_ w53 ⟨A6, c6, rfl, h2⟩
 refine ⟨_, rfl, ?_⟩
 replace hh := hh.join h2
 simp only [List.cons_append, List.nil_append] at hh
 clear h2
 refine aM (xK A6 c6 _ (hT.hp hh) (hh.aE (i := 0) rfl) (hh.gp (i := 0) rfl)) ar.out rfl (by decide) ?_
 rintro e_ w54 ⟨g6, rfl, hb_⟩
 refine ⟨_, rfl, ?_⟩
 replace hh := hh.ext hb_
 refine mT ?_
 refine dL ?_
 refine dL ?_
 refine cg hh ?_
 intro b11 w11 hh
 refine bE hh 0 [_,_] ?_
 intro ws hh
 replace hh : Hp _ (.blk _ _ [_, _] _ :: _) _ := hh
 refine aI (ah (sr ?_))
 replace hh := hh.sub (List.Sublist.cons _ (List.Sublist.cons _ (List.Sublist.cons_cons _ (List.Sublist.cons_cons _ (List.Sublist.cons_cons _ (List.Sublist.cons_cons _ (List.Sublist.cons_cons _ (List.Sublist.cons_cons _ List.Sublist.slnil))))))))
 refine bB hh (ck 1 _ (by decide) (by decide)) rfl ?_
 intro w58 hh
 refine aM (uE _ (hT.hp hh)) ar.out rfl (by decide) ?_
 rintro e_ w59 ⟨g7, rfl, hb_⟩
 refine ⟨_, rfl, ?_⟩
 replace hh := hh.ext hb_
 refine mT ?_
 refine dL ?_
 refine dL ?_
 refine cg hh ?_
 intro b13 w13 hh
 refine bE hh 0 [_,_] ?_
 intro ws hh
 replace hh : Hp _ (.blk _ _ [_, _] _ :: _) _ := hh
 refine aI (ah (sr ?_))
 replace hh := hh.sub (List.Sublist.cons _ (List.Sublist.cons_cons _ (List.Sublist.cons_cons _ (List.Sublist.cons_cons _ (List.Sublist.cons_cons _ (List.Sublist.cons_cons _ (List.Sublist.cons_cons _ List.Sublist.slnil)))))))
 refine bB hh (ck 1 _ (by decide) (by decide)) rfl ?_
 intro w62 hh
 refine dY [_,_,_,_] ?_
 refine bz hh (cs := [_, _, _, _]) aG.out az.out (bp (dJ rfl) cn) rfl rfl (by decide) (by decide) (by decide) rfl (by decide) ?_
 intro b64 w64 hh
 refine dY [_,_] ?_
 refine aM (yY _ 1 _ (hT.hp hh) (hh.aE (i := 0) rfl) (by decide)) ar.out rfl (by decide) ?_
 rintro e_ w66 ⟨A8, c8, rfl, h2⟩
 refine ⟨_, rfl, ?_⟩
 replace hh := hh.join h2
 simp only [List.cons_append, List.nil_append] at hh
 clear h2
 replace hh := hh.sub (List.Sublist.cons_cons _ (List.Sublist.cons _ (List.Sublist.cons_cons _ (List.Sublist.cons_cons _ (List.Sublist.cons_cons _ (List.Sublist.cons_cons _ (List.Sublist.cons_cons _ (List.Sublist.cons_cons _ List.Sublist.slnil))))))))
 refine aL (ah (ai ?_))
 refine cH [] [] [0, 1, 3, 7, 15, 31, 63, 127, 255, 511, 1023, 2047, 4095, 8191, 16383, 32767, 65535, 131071, 262143, 524287, 1048575, 2097151, 4194303, 8388607, 16777215, 33554431, 67108863, 134217727, 268435455, 134217727, 671088639, 1744830463, 4294967295, 8589934591, 17179869183, 34359738367, 68719476735, 34359738367, 171798691839, 171798691839, 721554505727, 2095944040447, 4398046511103, 8796093022207, 17592186044415, 35184372088831, 70368744177663, 35184372088831, 175921860444159, 175921860444159, 738871813865471, 738871813865471, 2990671627550719, 8901646138474495, 18014398509481983, 36028797018963967, 72057594037927935, 144115188075855871, 144115188075855871, 576460752303423487, 1152921504606846975, 2305843009213693951] 59 [[(2, none)], [(67, some 0)], [(68, some 1)], [(4, none), (69, some 2)], [(70, some 3), (69, some 2)], [(69, some 2), (71, some 4)], [(72, some 5)], [(6, none), (73, some 6)], [(74, some 7), (73, some 6)], [(73, some 6), (75, some 8)], [(76, some 9)], [(8, none), (77, some 10)], [(78, some 11), (77, some 10)], [(77, some 10), (79, some 12)], [(80, some 13)], [(10, none), (81, some 14)], [(82, some 15), (81, some 14)], [(81, some 14), (83, some 16)], [(84, some 17)], [(12, none), (85, some 18)], [(86, some 19), (85, some 18)], [(85, some 18), (87, some 20)], [(88, some 21)], [(14, none), (89, some 22)], [(90, some 23), (89, some 22)], [(89, some 22), (91, some 24)], [(92, some 25)], [(1, none), (93, some 26)], [(94, some 27), (93, some 26)], [(93, some 26)], [(96, some 29), (93, some 26)], [(97, some 30), (93, some 26)], [(95, some 28), (98, some 31), (93, some 26)], [(93, some 26), (99, some 32)], [(100, some 33)], [(3, none), (101, some 34)], [(102, some 35), (101, some 34)], [(101, some 34)], [(104, some 37), (101, some 34)], [(101, some 34)], [(106, some 39), (101, some 34)], [(105, some 38), (107, some 40), (101, some 34)], [(103, some 36), (108, some 41), (101, some 34)], [(101, some 34), (109, some 42)], [(110, some 43)], [(5, none), (111, some 44)], [(112, some 45), (111, some 44)], [(111, some 44)], [(114, some 47), (111, some 44)], [(111, some 44)], [(116, some 49), (111, some 44)], [(111, some 44)], [(118, some 51), (111, some 44)], [(115, some 48), (117, some 50), (119, some 52), (111, some 44)], [(113, some 46), (120, some 53), (111, some 44)], [(111, some 44), (121, some 54)], [(122, some 55)], [(15, none), (123, some 56)], [(123, some 56)]] [(58, 125), (57, 124), (56, 123), (55, 122), (54, 121), (53, 120), (52, 119), (51, 118), (50, 117), (49, 116), (48, 115), (47, 114), (46, 113), (45, 112), (44, 111), (43, 110), (42, 109), (41, 108), (40, 107), (39, 106), (38, 105), (37, 104), (36, 103), (35, 102), (34, 101), (33, 100), (32, 99), (31, 98), (30, 97), (29, 96), (28, 95), (27, 94), (26, 93), (25, 92), (24, 91), (23, 90), (22, 89), (21, 88), (20, 87), (19, 86), (18, 85), (17, 84), (16, 83), (15, 82), (14, 81), (13, 80), (12, 79), (11, 78), (10, 77), (9, 76), (8, 75), (7, 74), (6, 73), (5, 72), (4, 71), (3, 70), (2, 69), (1, 68), (0, 67)] hh mixed (by kernel_rfl) dg rfl (by repeat (first | exact bM | refine br ?_ | refine bL ?_)) ?_
 refine dP ?_
 refine jn ?_
 refine fQ ?_
 first | refine dS ?_ | refine dU ?_ | refine dG (dP ?_)
 first | refine dS ?_ | refine dU ?_ | refine dG (jn ?_)
 first | refine k0 ?_ | refine kZ ?_
 refine fQ ?_
 first | refine dS ?_ | refine dU ?_ | refine dG (dP ?_)
 first | refine dS ?_ | refine dU ?_ | refine dG (jn ?_)
 first | refine k0 ?_ | refine kZ ?_
 refine fQ ?_
 first | refine dS ?_ | refine dU ?_ | refine dG (dP ?_)
 first | refine dS ?_ | refine dU ?_ | refine dG (jn ?_)
 first | refine k0 ?_ | refine kZ ?_
 refine fQ ?_
 first | refine dS ?_ | refine dU ?_ | refine dG (dP ?_)
 first | refine dS ?_ | refine dU ?_ | refine dG (jn ?_)
 first | refine k0 ?_ | refine kZ ?_
 refine fQ ?_
 first | refine dS ?_ | refine dU ?_ | refine dG (dP ?_)
 first | refine dS ?_ | refine dU ?_ | refine dG (jn ?_)
 first | refine k0 ?_ | refine kZ ?_
 refine fQ ?_
 first | refine dS ?_ | refine dU ?_ | refine dG (dP ?_)
 first | refine dS ?_ | refine dU ?_ | refine dG (jn ?_)
 first | refine k0 ?_ | refine kZ ?_
 refine fQ ?_
 first | refine dS ?_ | refine dU ?_ | refine dG (cv ?_)
 first | refine dS ?_ | refine dU ?_ | refine dG (dH 5 ?_)
 refine bs (i := 29) rfl (fun ρ1 w1 hj hR => (show ρ1 93 = Value.bool _ from hR.1)) (fun ρ1 w1 hj hR => a7 ar.out (aD rfl a9)) (fun w1 hj => ck 3 _ (by decide) (by decide)) ?_
 first | refine dS ?_ | refine dU ?_ | refine dG (dB [_,_,_,_] ?_)
 refine ep (i := 31) (cs := [_, _, _, _]) rfl (fun ρ1 w1 hj hR => (show ρ1 93 = Value.bool _ from hR.2.1)) aG.out az.out (fun ρ1 w1 hj hR => (bp (show ρ1 97 = Value.agg (List.toArray _) from hR.1) cn)) rfl rfl (by decide) (by decide) rfl ?_
 refine bU (i := 32) (Is (.bool true)) Is.ext ?_ ?_
 ·intro ρ1 w1 hj hR
  obtain ⟨A98, c98, h98, s98⟩ := hR.2.1
  refine cE rfl ((show ρ1 93 = Value.bool _ from hR.2.2.1)) ?_
  exact cK rfl (a7 ar.out (aD (show ρ1 95 = Value.slice _ _ _ from hR.1) (aD h98 a9))) (sw [([0], 3)] A1 1 c1 A98 c98 _ (hj.hp.aE (i := 6) rfl) s98 (by decide)) (fun _ _ hq => ⟨_, hq.1, hq.2, rfl⟩)
 first | refine k0 ?_ | refine kZ ?_
 refine fQ ?_
 first | refine dS ?_ | refine dU ?_ | refine dG (cv ?_)
 first | refine dS ?_ | refine dU ?_ | refine dG (dH 3 ?_)
 refine bs (i := 37) rfl (fun ρ1 w1 hj hR => (show ρ1 101 = Value.bool _ from hR.1)) (fun ρ1 w1 hj hR => a7 ar.out (aD rfl a9)) (fun w1 hj => ck (-1) _ (by decide) (by decide)) ?_
 first | refine dS ?_ | refine dU ?_ | refine dG (dB [_,_,_,_] ?_)
 refine bs (i := 39) rfl (fun ρ1 w1 hj hR => (show ρ1 101 = Value.bool _ from hR.1)) (fun ρ1 w1 hj hR => a7 ar.out (aD rfl a9)) (fun w1 hj => ck 1 _ (by decide) (by decide)) ?_
 first | refine dS ?_ | refine dU ?_ | refine dG (dB [_,_,_,_] ?_)
 refine ep (i := 41) (cs := [_, _, _, _, _, _, _, _]) rfl (fun ρ1 w1 hj hR => (show ρ1 101 = Value.bool _ from hR.2.2.1)) aG.out az.out (fun ρ1 w1 hj hR => (bp (show ρ1 105 = Value.agg (List.toArray _) from hR.1) (bp (show ρ1 107 = Value.agg (List.toArray _) from hR.2.1) cn))) rfl rfl (by decide) (by decide) rfl ?_
 refine bU (i := 42) (Is (.bool true)) Is.ext ?_ ?_
 ·intro ρ1 w1 hj hR
  obtain ⟨A108, c108, h108, s108⟩ := hR.2.1
  refine cE rfl ((show ρ1 101 = Value.bool _ from hR.2.2.1)) ?_
  exact cK rfl (a7 ar.out (aD (show ρ1 103 = Value.slice _ _ _ from hR.1) (aD h108 a9))) (sw [([0, 2], -1), ([2, 0], 1)] A4 2 c4 A108 c108 _ (hj.hp.aE (i := 4) rfl) s108 (by decide)) (fun _ _ hq => ⟨_, hq.1, hq.2, rfl⟩)
 first | refine k0 ?_ | refine kZ ?_
 refine fQ ?_
 first | refine dS ?_ | refine dU ?_ | refine dG (cv ?_)
 first | refine dS ?_ | refine dU ?_ | refine dG (dH 1 ?_)
 refine bs (i := 47) rfl (fun ρ1 w1 hj hR => (show ρ1 111 = Value.bool _ from hR.1)) (fun ρ1 w1 hj hR => a7 ar.out (aD rfl a9)) (fun w1 hj => ck 1 _ (by decide) (by decide)) ?_
 first | refine dS ?_ | refine dU ?_ | refine dG (dB [_,_,_,_] ?_)
 refine bs (i := 49) rfl (fun ρ1 w1 hj hR => (show ρ1 111 = Value.bool _ from hR.1)) (fun ρ1 w1 hj hR => a7 ar.out (aD rfl a9)) (fun w1 hj => ck 2 _ (by decide) (by decide)) ?_
 first | refine dS ?_ | refine dU ?_ | refine dG (dB [_,_,_,_] ?_)
 refine bs (i := 51) rfl (fun ρ1 w1 hj hR => (show ρ1 111 = Value.bool _ from hR.1)) (fun ρ1 w1 hj hR => a7 ar.out (aD rfl a9)) (fun w1 hj => ck 1 _ (by decide) (by decide)) ?_
 first | refine dS ?_ | refine dU ?_ | refine dG (dB [_,_,_,_] ?_)
 refine ep (i := 53) (cs := [_, _, _, _, _, _, _, _, _, _, _, _]) rfl (fun ρ1 w1 hj hR => (show ρ1 111 = Value.bool _ from hR.2.2.2.1)) aG.out az.out (fun ρ1 w1 hj hR => (bp (show ρ1 115 = Value.agg (List.toArray _) from hR.1) (bp (show ρ1 117 = Value.agg (List.toArray _) from hR.2.1) (bp (show ρ1 119 = Value.agg (List.toArray _) from hR.2.2.1) cn)))) rfl rfl (by decide) (by decide) rfl ?_
 refine bU (i := 54) (Is (.bool true)) Is.ext ?_ ?_
 ·intro ρ1 w1 hj hR
  obtain ⟨A120, c120, h120, s120⟩ := hR.2.1
  refine cE rfl ((show ρ1 111 = Value.bool _ from hR.2.2.1)) ?_
  exact cK rfl (a7 ar.out (aD (show ρ1 113 = Value.slice _ _ _ from hR.1) (aD h120 a9))) (sw [([0], 1), ([1], 2), ([2], 1)] A5 3 c5 A120 c120 _ (hj.hp.aE (i := 2) rfl) s120 (by decide)) (fun _ _ hq => ⟨_, hq.1, hq.2, rfl⟩)
 first | refine k0 ?_ | refine kZ ?_
 refine fQ ?_
 first | refine dS ?_ | refine dU ?_ | refine dG (fO ?_)
 refine ep (i := 58) (cs := [_, _]) rfl (fun ρ1 w1 hj hR => (show ρ1 123 = Value.bool _ from hR.1)) aG.out az.out (fun ρ1 w1 hj hR => (bp rfl (bp rfl cn))) rfl rfl (by decide) (by decide) rfl ?_
 refine a0 ?_
 intro f W hJ hV _
 have hb_9 := hJ.bl
 obtain ⟨v125, v124, v123, v122, v121, v120, v119, v118, v117, v116, v115, v114, v113, v112, v111, v110, v109, v108, v107, v106, v105, v104, v103, v102, v101, v100, v99, v98, v97, v96, v95, v94, v93, v92, v91, v90, v89, v88, v87, v86, v85, v84, v83, v82, v81, v80, v79, v78, v77, v76, v75, v74, v73, v72, v71, v70, v69, v68, v67, _⟩ := hV
 obtain ⟨A98, c98, e98, f98⟩ : Rows _ _ _ (f 31) W := v98
 obtain ⟨A108, c108, e108, f108⟩ : Rows _ _ _ (f 41) W := v108
 obtain ⟨A120, c120, e120, f120⟩ : Rows _ _ _ (f 53) W := v120
 obtain ⟨A125, c125, e125, f125⟩ : Rows _ _ _ (f 58) W := v125
 replace hh := hJ.hp
 refine aR (a5 (aa e125 (aa v124 (aa v123 (aa v122 (aa v121 (aa e120 (aa v119 (aa v118 (aa v117 (aa v116 (aa v115 (aa v114 (aa v113 (aa v112 (aa v111 (aa v110 (aa v109 (aa e108 (aa v107 (aa v106 (aa v105 (aa v104 (aa v103 (aa v102 (aa v101 (aa v100 (aa v99 (aa e98 (aa v97 (aa v96 (aa v95 (aa v94 (aa v93 (aa v92 (aa v91 (aa v90 (aa v89 (aa v88 (aa v87 (aa v86 (aa v85 (aa v84 (aa v83 (aa v82 (aa v81 (aa v80 (aa v79 (aa v78 (aa v77 (aa v76 (aa v75 (aa v74 (aa v73 (aa v72 (aa v71 (aa v70 (aa v69 (aa v68 (aa v67 aQ)))))))))))))))))))))))))))))))))))))))))))))))))))))))))))) ?_
 dsimp only [bX]
 clear e98 e108 e120 e125 hJ
 refine a8 rfl rfl ?_
 refine bB hh (zA A8 A125 c8 c125 _ (hh.aE (i := 0) rfl) f125) rfl ?_
 intro w126 hh
 first | refine ct ?_ | refine cu ?_
 refine aB (ah (an ?_))
 refine cf ?_
 exact ⟨rfl, hh.below⟩
end Go.Proofs.YtkgdagjklakajaaGreatDoor
/- The walk through the law PolyMakes. -/
namespace Go.Proofs.YtkgdagjklakajaaGreatDoor
open Go.RowKit
def gi (ds : List Int) : VP := fun v W => ∃ g : Option Addr × Nat, v = .slice g.1 ds.length g.2 ∧ Sl W g.1 ds.length 1 (dF ds)
theorem gi.ext {ds : List Int} (v : Value) (w w' : World) (h : gi ds v w) (hb : Below w.heap.size w w') : gi ds v w' := let ⟨g, h1, h2⟩ := h; ⟨g, h1, h2.ext hb⟩
theorem cQ.pP {E v : Int} {l : List TR} {g : PX} {w : World} (o : cQ E v (bu l) g) (h : g.at_ w) (hc : g.n ≤ g.c) (hs : zQ l) : g.pP 504 ∧ g.n ≤ 12 := by
 have hl := h.ln
 have hts := o.ts
 by_cases hE : E = 0
 ·rw [if_pos hE] at hts
  have h1 := eo l
  have h2 := hs.n
  rw [hts] at hl
  refine ⟨⟨by omega, hc, ?_, ?_⟩, by omega⟩
  ·rw [hts]
   intro t ht
   have h3 : Sz 504 t.c.d := (k7 (fun t ht => (hs.ok t ht).2) t ht).mono (by omega)
   exact ⟨by rw [(fH l).nf t ht]; exact h3.ok (by decide), h3⟩
  ·rw [hts]
   intro t ht
   obtain ⟨s, hs2, e⟩ := kh t ht
   rw [← e]
   exact Nat.le_trans (hs.sz s hs2) (by decide)
 ·rw [if_neg hE] at hts
  rw [hts] at hl
  have h0 : g.n = 0 := hl.symm
  exact ⟨⟨by omega, hc, by rw [hts]; exact fun t ht => (nomatch ht), by rw [hts]; exact fun t ht => (nomatch ht)⟩, by omega⟩
theorem cQ.same {E v : Int} {ts : List TR} {g h : PX} (o : cQ E v ts g) (p : cQ E v ts h) : g.v = h.v ∧ g.ts = h.ts := ⟨o.v.trans p.v.symm, o.ts.trans p.ts.symm⟩
theorem cQ.len {E v : Int} {ts : List TR} {g : PX} {w : World} (o : cQ E v ts g) (h : g.at_ w) : g.n ≤ ts.length := by
 have hl := h.ln
 have hts := o.ts
 by_cases hE : E = 0
 ·rw [if_pos hE] at hts
  rw [hts] at hl
  omega
 ·rw [if_neg hE] at hts
  rw [hts] at hl
  have h0 : g.n = 0 := hl.symm
  omega
theorem ju {g h : PX} (w : World) (hg : g.at_ w) (hh : h.at_ w) (e : g.v = h.v ∧ g.ts = h.ts) (hn : g.n ≤ 1000000) (hm : h.n ≤ 1000000) :
  Calls Tryz.prog 20 #[.agg #[.int .i64 g.v, .slice g.A g.n g.c], .agg #[.int .i64 h.v, .slice h.A h.n h.c]] w fun r w' => r = .returned (.bool true) ∧ Below w.heap.size w w' :=
 (ql g h w hg hh hn hm).mono fun r w' ⟨v, hr, hv, hb⟩ => ⟨by rw [hr, hv.2 e], hb⟩
theorem sO (v : Int) (ts : List TR) : (l8 v ts).length ≤ 12 := by
 unfold l8
 by_cases h : gj v ts = 0
 ·rw [if_pos h, eX]
  have := dw.1 (iG h).1
  omega
 ·rw [if_neg h]
  exact Nat.zero_le _
theorem m0 (ds : List Int) (A B : Option Addr) (a b : Nat) (w : World) (hA : Sl w A ds.length 1 (dF ds)) (hB : Sl w B ds.length 1 (dF ds)) (hn : ds.length ≤ 12) :
  Calls Tryz.prog 23 #[.slice A ds.length a, .slice B ds.length b] w fun r w' => r = .returned (.bool true) ∧ Below w.heap.size w w' := by
 have h := jY A B ds.length ds.length a b ds ds w hA hB (by omega) (by omega)
 rw [show decide (ds = ds) = true from decide_eq_true rfl] at h
 exact h
theorem lZ (v which : Int) (A : Option Addr) (n c : Nat) (l : List TR) (x : NR) (w : World) (hT : gQ w) (hS : Sl w A n 4 (a6 TR.cells l)) :
  Calls Tryz.prog 3 #[.int .i64 v, .int .i64 which, .slice A n c, .agg #[.bool x.neg, .string x.bV, .int .i64 x.e]] w fun r w' => r = .returned (.bool true) ∧ Below w.heap.size w w' := by
 have hh := Hp.start w
 have hln := hS.cd TR.len (by decide)
 have hfa := fun w1 => mr x w1
 have haw := fun w1 hT1 => px w1 hT1
 refine ak (N := 132) (l := [.int .i64 v, .int .i64 which, .slice A n c, .agg #[.bool x.neg, .string x.bV, .int .i64 x.e]]) Tryz.func3 rfl rfl (by simp) ?_
 refine sr ?_
 refine cR hh [_,_,_] ?_
 intro b7 w7 hh
 refine aB (ah (ai (sr (mL ?_))))
 refine aM (qE A n c l _ (hS.ext hh.below)) ar.out rfl (by decide) ?_
 rintro e_ w24 ⟨b, rfl, hb, hb_⟩
 refine ⟨_, rfl, ?_⟩
 replace hh := hh.ext hb_
 cases b with
 | true =>
  refine mB ?_
  first | refine gS ?_ | (refine gT ?_; refine du hh 0 [_,_,_] ?_) | refine gV ?_
  first | refine bZ (by decide) rfl rfl (by decide) ?_ | refine eK (by decide) rfl rfl ?_
  first | refine ct ?_ | refine cu ?_
  refine ah (cT (sr ?_))
  refine bB hh (haw _ (hT.hp hh)) rfl ?_
  intro w29 hh
  refine aB (ah (an (aC ?_)))
  refine cf ?_
  exact ⟨rfl, hh.below⟩
 | false =>
  have hsm := hb rfl
  clear hb
  cases hfx : qa x with
  | true =>
   rw [hfx] at hfa
   refine mB ?_
   first | refine gS ?_ | (refine gT ?_; refine du hh 0 [_,_,_] ?_) | refine gV ?_
   refine a8 rfl rfl ?_
   refine bB hh (hfa _) rfl ?_
   intro w27 hh
   first | refine ct ?_ | refine cu ?_
   refine ah (cT (sr ?_))
   refine bB hh (haw _ (hT.hp hh)) rfl ?_
   intro w29 hh
   refine aB (ah (an (aC ?_)))
   refine cf ?_
   exact ⟨rfl, hh.below⟩
  | false =>
   rw [hfx] at hfa
   have hxo := ze hfx
   have hn12 : n ≤ 12 := by have := hsm.n; omega
   have hsz : ∀ t ∈ l, t.m.size ≤ 100000 := fun t ht => Nat.le_trans (hsm.sz t ht) (by decide)
   have o1 := bk TR.one l
   refine mB ?_
   first | refine gS ?_ | (refine gT ?_; refine du hh 0 [_,_,_] ?_) | refine gV ?_
   refine a8 rfl rfl ?_
   refine bB hh (hfa _) rfl ?_
   intro w27 hh
   first | refine ct ?_ | refine cu ?_
   refine ah (cF (al (aj (sr ?_))))
   refine fE hh aG.out az.out (by decide) ?_
   intro b30 w30 hh
   refine mL ?_
   refine bO hh (i := 0) rfl rfl rfl (hS.ext hh.below) aG.out az.out rfl (by decide) ?one8 (by omega) (by omega) (by decide) ?kk8
   case one8 => first | rfl | assumption | exact oneCells_i64s _ | exact oneCells_u8s _
   intro A32 c32 w32 hh
   simp only [List.set_cons_zero] at hh
   rw [Nat.zero_add n]
   rw [Nat.zero_add, List.nil_append] at hh
   refine aL (ah (sr (mI (mL ?_))))
   refine aM (g1 v A32 n c32 l 492 _ (hT.hp hh) (hh.aE (i := 0) rfl) (by omega) (by decide) hsm.ok hsz) ar.out rfl (by decide) ?_
   rintro e_ w36 ⟨g, og, rfl, h2⟩
   refine ⟨_, rfl, ?_⟩
   replace hh := hh.join h2
   clear h2
   replace hh := show Hp w (.row g.A g.n g.c 58 4 (a6 TR.cells g.ts) :: _) w36 from hh
   refine mT ?_
   refine dL ?_
   refine dL ?_
   refine cg hh ?_
   intro b10 w10 hh
   refine bE hh 0 [_,_] ?_
   intro ws hh
   replace hh : Hp _ (.blk _ _ [_, _] _ :: _) _ := hh
   refine aI (ah (sr (mI (mL ?_))))
   refine aM (pf v A n c l 492 _ (hS.ext hh.below) (by omega) hsm.ok (by omega) hsz) ar.out rfl (by decide) ?_
   rintro e_ w42 ⟨k, ok, rfl, h2⟩
   refine ⟨_, rfl, ?_⟩
   replace hh := hh.join h2
   clear h2
   simp only [List.cons_append, List.nil_append] at hh
   replace hh := show Hp w (.row k.A k.n k.c 58 4 (a6 TR.cells k.ts) :: _) w42 from hh
   obtain ⟨gl, gn⟩ := og.pP (hh.aE (i := 2) rfl) (hh.gp (i := 2) rfl) hsm
   obtain ⟨kl, kn⟩ := ok.pP (hh.aE (i := 0) rfl) (hh.gp (i := 0) rfl) hsm
   have rl : (⟨v, A32, n, c32, l⟩ : PX).pP 492 := ⟨by show n ≤ 1000000; omega, hh.gp (i := 3) rfl, hsm.ok, hsz⟩
   have hsame := og.same ok
   have hck : ∀ t ∈ l, t.c.ok ∧ t.m.size ≤ 100000 := fun t ht => ⟨(hsm.ok t ht).1, hsz t ht⟩
   have hkd := fun w1 h1 => kO k 504 w1 h1 kl
   rw [show l8 k.v k.ts = l8 g.v g.ts by rw [hsame.1, hsame.2]] at hkd
   generalize gM v l = E at *
   refine mT ?_
   refine dL ?_
   refine dL ?_
   refine cg hh ?_
   intro b12 w12 hh
   refine bE hh 0 [_,_] ?_
   intro ws hh
   replace hh : Hp _ (.blk _ _ [_, _] _ :: _) _ := hh
   refine aI (ah (sr (mI (mL ?_))))
   refine dY [_,_] ?_
   refine cg hh ?_
   intro b14 w14 hh
   refine bE hh 0 [_,_] ?_
   intro ws hh
   replace hh : Hp _ (.blk _ _ [_, _] _ :: _) _ := hh
   refine ah (ai (ai ?_))
   refine cH [] [] [0, 0, 3, 7, 15, 15, 63, 127, 255, 511, 1023, 2047, 1023, 8191, 16383, 32767, 65535, 131071, 262143, 131071, 1048575, 2097151, 4194303, 8388607, 16777215, 33554431, 67108863, 33554431, 268435455, 536870911, 1073741823, 2147483647] 28 [[(11, none)], [(13, none)], [(48, some 0), (49, some 1)], [(50, some 2)], [(10, none), (51, some 3)], [(12, none), (51, some 3)], [(52, some 4), (53, some 5), (51, some 3)], [(54, some 6), (51, some 3)], [(51, some 3), (55, some 7)], [(56, some 8)], [(14, none), (57, some 9)], [(58, some 10), (57, some 9)], [(14, none), (57, some 9)], [(60, some 12), (57, some 9)], [(59, some 11), (61, some 13), (57, some 9)], [(57, some 9), (62, some 14)], [(63, some 15)], [(14, none), (64, some 16)], [(65, some 17), (64, some 16)], [(14, none), (64, some 16)], [(67, some 19), (64, some 16)], [(66, some 18), (68, some 20), (64, some 16)], [(69, some 21), (64, some 16)], [(64, some 16), (70, some 22)], [(71, some 23)], [(10, none), (72, some 24)], [(73, some 25), (72, some 24)], [(12, none), (72, some 24)]] [(27, 75), (26, 74), (25, 73), (24, 72), (23, 71), (22, 70), (21, 69), (20, 68), (19, 67), (18, 66), (17, 65), (16, 64), (15, 63), (14, 62), (13, 61), (12, 60), (11, 59), (10, 58), (9, 57), (8, 56), (7, 55), (6, 54), (5, 53), (4, 52), (3, 51), (2, 50), (1, 49), (0, 48)] hh mixed (by kernel_rfl) dg rfl (by repeat (first | exact bM | refine br ?_ | refine bL ?_)) ?_
   refine dP ?_
   refine dP ?_
   refine y3 ?_
   refine fQ ?_
   first | refine dS ?_ | refine dU ?_ | refine dG (ec 3 [_,_] ?_)
   first | refine dS ?_ | refine dU ?_ | refine dG (ec 1 [_,_] ?_)
   refine bs (i := 6) rfl (fun ρ1 w1 hj hR => (show ρ1 51 = Value.bool _ from hR.2.2.1)) (fun ρ1 w1 hj hR => a7 ar.out (aD (show ρ1 52 = Value.agg (List.toArray _) from hR.1) (aD (show ρ1 53 = Value.agg (List.toArray _) from hR.2.1) a9))) (fun w1 hj => ju (g := g) (h := k) _ (hj.hp.aE (i := 4) rfl) (hj.hp.aE (i := 2) rfl) hsame (by omega) (by omega)) ?_
   first | refine dS ?_ | refine dU ?_ | refine dG (lY ?_)
   first | refine k0 ?_ | refine kZ ?_
   refine fQ ?_
   first | refine dS ?_ | refine dU ?_ | refine dG (ec 0 [_,_] ?_)
   refine bs (i := 11) rfl (fun ρ1 w1 hj hR => (show ρ1 57 = Value.bool _ from hR.2.1)) (fun ρ1 w1 hj hR => a7 ar.out (aD (show ρ1 58 = Value.agg (List.toArray _) from hR.1) a9)) (fun w1 hj => kJ v A32 n c32 l _ (hT.hp hj.hp) (hj.hp.aE (i := 5) rfl) (by omega) hck) ?_
   first | refine dS ?_ | refine dU ?_ | refine dG (ec 0 [_,_] ?_)
   refine bs (i := 13) rfl (fun ρ1 w1 hj hR => (show ρ1 57 = Value.bool _ from hR.2.1)) (fun ρ1 w1 hj hR => a7 ar.out (aD (show ρ1 60 = Value.agg (List.toArray _) from hR.1) a9)) (fun w1 hj => j3 v A32 n c32 l _ (hj.hp.aE (i := 5) rfl) (by omega) hck) ?_
   first | refine dS ?_ | refine dU ?_ | refine dG (y3 ?_)
   first | refine k0 ?_ | refine kZ ?_
   refine fQ ?_
   first | refine dS ?_ | refine dU ?_ | refine dG (ec 0 [_,_] ?_)
   refine bU (i := 18) (gi (l8 v l)) (gi.ext) ?_ ?_
   ·intro ρ1 w1 hj hR
    refine cE rfl (show ρ1 64 = Value.bool _ from hR.2.1) ?_; exact cK rfl (a7 ar.out (aD (show ρ1 65 = Value.agg (List.toArray _) from hR.1) a9)) (jk ⟨v, A32, n, c32, l⟩ 492 w1 (hT.hp hj.hp) (hj.hp.aE (i := 5) rfl) rl) (fun _ _ ⟨A, c, hq, h3⟩ => ⟨_, hq, h3.below, (A, c), rfl, h3.aE (i := 0) rfl⟩)
   first | refine dS ?_ | refine dU ?_ | refine dG (ec 0 [_,_] ?_)
   refine bU (i := 20) (gi (l8 v l)) (gi.ext) ?_ ?_
   ·intro ρ1 w1 hj hR
    refine cE rfl (show ρ1 64 = Value.bool _ from hR.2.1) ?_; exact cK rfl (a7 ar.out (aD (show ρ1 67 = Value.agg (List.toArray _) from hR.1) a9)) (kO ⟨v, A32, n, c32, l⟩ 492 w1 (hj.hp.aE (i := 5) rfl) rl) (fun _ _ ⟨A, c, hq, h3⟩ => ⟨_, hq, h3.below, (A, c), rfl, h3.aE (i := 0) rfl⟩)
   refine bU (i := 21) (Is (.bool true)) (Is.ext) ?_ ?_
   ·intro ρ1 w1 hj hR
    refine cE rfl (show ρ1 64 = Value.bool _ from hR.2.2.1) ?_; exact let ⟨a, e1, s1⟩ := hR.1; let ⟨b, e2, s2⟩ := hR.2.1; cK rfl (a7 ar.out (aD e1 (aD e2 a9))) (m0 (l8 v l) a.1 b.1 a.2 b.2 w1 s1 s2 (sO _ _)) (fun _ _ hq => ⟨_, hq.1, hq.2, rfl⟩)
   first | refine dS ?_ | refine dU ?_ | refine dG (lY ?_)
   first | refine k0 ?_ | refine kZ ?_
   refine fQ ?_
   first | refine dS ?_ | refine dU ?_ | refine dG (ec 3 [_,_] ?_)
   refine bU (i := 26) (gi (l8 g.v g.ts)) (gi.ext) ?_ ?_
   ·intro ρ1 w1 hj hR
    refine cE rfl (show ρ1 72 = Value.bool _ from hR.2.1) ?_; exact cK rfl (a7 ar.out (aD (show ρ1 73 = Value.agg (List.toArray _) from hR.1) a9)) (jk g 504 w1 (hT.hp hj.hp) (hj.hp.aE (i := 4) rfl) gl) (fun _ _ ⟨A, c, hq, h3⟩ => ⟨_, hq, h3.below, (A, c), rfl, h3.aE (i := 0) rfl⟩)
   first | refine dS ?_ | refine dU ?_ | refine dG (ec 1 [_,_] ?_)
   refine a0 ?_
   intro f W hJ hV _
   have hb_7 := hJ.bl
   obtain ⟨v75, v74, v73, v72, v71, v70, v69, v68, v67, v66, v65, v64, v63, v62, v61, v60, v59, v58, v57, v56, v55, v54, v53, v52, v51, v50, v49, v48, _⟩ := hV
   obtain ⟨g66, e66, o66⟩ : gi (l8 v l) (f 18) W := v66
   obtain ⟨g68, e68, o68⟩ : gi (l8 v l) (f 20) W := v68
   obtain ⟨g74, e74, o74⟩ : gi (l8 g.v g.ts) (f 26) W := v74
   replace hh := hJ.hp
   refine aR (a5 (aa v75 (aa e74 (aa v73 (aa v72 (aa v71 (aa v70 (aa v69 (aa e68 (aa v67 (aa e66 (aa v65 (aa v64 (aa v63 (aa v62 (aa v61 (aa v60 (aa v59 (aa v58 (aa v57 (aa v56 (aa v55 (aa v54 (aa v53 (aa v52 (aa v51 (aa v50 (aa v49 (aa v48 aQ))))))))))))))))))))))))))))) ?_
   dsimp only [bX]
   clear e66 e68 e74 hJ
   refine a8 rfl rfl ?_
   refine aM (hkd _ (hh.aE (i := 2) rfl)) ar.out rfl (by decide) ?_
   rintro e_ w76 ⟨A76, c76, rfl, h2⟩
   refine ⟨_, rfl, ?_⟩
   have hb76 := h2.below
   replace hh := hh.join h2
   clear h2
   refine a8 rfl rfl ?_
   refine bB hh (m0 (l8 g.v g.ts) g74.1 A76 g74.2 c76 _ (o74.ext hb76) (hh.aE (i := 0) rfl) (sO _ _)) rfl ?_
   intro w77 hh
   simp only [List.cons_append, List.nil_append] at hh
   first | refine gS ?_ | (refine gT ?_; refine eS ?_) | refine gV ?_
   first | refine ct ?_ | refine cu ?_
   refine ah (cF (al (aj (sr (mI ?_)))))
   refine du hh 7 [_,_,_] ?_
   replace hh := hh.sub (List.Sublist.cons _ (List.Sublist.cons _ (List.Sublist.cons _ (List.Sublist.cons _ (List.Sublist.cons_cons _ (List.Sublist.cons_cons _ (List.Sublist.cons_cons _ (List.Sublist.cons_cons _ List.Sublist.slnil))))))))
   refine aM (iK v x 492 _ (hT.hp hh) hxo (by decide)) ar.out rfl (by decide) ?_
   rintro e_ w83 ⟨g2, og2, rfl, h2⟩
   refine ⟨_, rfl, ?_⟩
   replace hh := hh.join h2
   clear h2
   simp only [List.cons_append, List.nil_append] at hh
   replace hh := show Hp w (.row g2.A g2.n g2.c 58 4 (a6 TR.cells g2.ts) :: _) w83 from hh
   have qg2 := Nat.le_trans (og2.len (hh.aE (i := 0) rfl)) (eo _)
   refine mT ?_
   refine dL ?_
   refine dL ?_
   refine cg hh ?_
   intro b15 w15 hh
   refine bE hh 0 [_,_] ?_
   intro ws hh
   replace hh : Hp _ (.blk _ _ [_, _] _ :: _) _ := hh
   refine aI (ah (sr (mI ?_)))
   refine du hh 5 [_,_,_] ?_
   refine aM (nL v x 492 _ hxo (by decide)) ar.out rfl (by decide) ?_
   rintro e_ w89 ⟨k2, ok2, rfl, h2⟩
   refine ⟨_, rfl, ?_⟩
   replace hh := hh.join h2
   clear h2
   simp only [List.cons_append, List.nil_append] at hh
   replace hh := show Hp w (.row k2.A k2.n k2.c 58 4 (a6 TR.cells k2.ts) :: _) w89 from hh
   have qk2 := Nat.le_trans (ok2.len (hh.aE (i := 0) rfl)) (eo _)
   refine mT ?_
   refine dL ?_
   refine dL ?_
   refine cg hh ?_
   intro b17 w17 hh
   refine bE hh 0 [_,_] ?_
   intro ws hh
   replace hh : Hp _ (.blk _ _ [_, _] _ :: _) _ := hh
   refine aI (ah (sr (mI (mI ?_))))
   refine aM (nk v which _ (hT.hp hh)) ar.out rfl (by decide) ?_
   rintro e_ w95 ⟨g3, og3, rfl, h2⟩
   refine ⟨_, rfl, ?_⟩
   replace hh := hh.join h2
   clear h2
   simp only [List.cons_append, List.nil_append] at hh
   replace hh := show Hp w (.row g3.A g3.n g3.c 58 4 (a6 TR.cells g3.ts) :: _) w95 from hh
   have qg3 := Nat.le_trans (og3.len (hh.aE (i := 0) rfl)) (eo _)
   refine mT ?_
   refine dL ?_
   refine dL ?_
   refine cg hh ?_
   intro b19 w19 hh
   refine bE hh 0 [_,_] ?_
   intro ws hh
   replace hh : Hp _ (.blk _ _ [_, _] _ :: _) _ := hh
   refine aI (ah (sr (mI (mI ?_))))
   refine aM (qe v which _) ar.out rfl (by decide) ?_
   rintro e_ w101 ⟨k3, ok3, rfl, h2⟩
   refine ⟨_, rfl, ?_⟩
   replace hh := hh.join h2
   clear h2
   simp only [List.cons_append, List.nil_append] at hh
   replace hh := show Hp w (.row k3.A k3.n k3.c 58 4 (a6 TR.cells k3.ts) :: _) w101 from hh
   have qk3 := Nat.le_trans (ok3.len (hh.aE (i := 0) rfl)) (eo _)
   refine mT ?_
   refine dL ?_
   refine dL ?_
   refine cg hh ?_
   intro b21 w21 hh
   refine bE hh 0 [_,_] ?_
   intro ws hh
   replace hh : Hp _ (.blk _ _ [_, _] _ :: _) _ := hh
   refine aI (ah (sr (bH ?_)))
   refine bK hh 8 ?_
   replace hh := hh.perm (List.perm_middle (l₁ := [_, _, _, _, _, _, _, _, _]))
   simp only [List.cons_append, List.nil_append] at hh
   refine vl hh (i := 0) rfl rfl aG.out az.out rfl rfl ?_
   intro wc hh
   simp only [List.set_cons_zero] at hh
   replace hh := hh.sub (List.Sublist.cons _ (List.Sublist.cons_cons _ (List.Sublist.cons_cons _ (List.Sublist.cons_cons _ (List.Sublist.cons_cons _ (List.Sublist.cons_cons _ (List.Sublist.cons_cons _ (List.Sublist.cons_cons _ (List.Sublist.cons_cons _ (List.Sublist.cons _ (List.Sublist.cons_cons _ (List.Sublist.cons _ List.Sublist.slnil))))))))))))
   refine ah (sr (mI (mI ?_)))
   refine dK (mB ?_)
   first | refine gS ?_ | (refine gT ?_; refine mI ?_) | refine gV ?_
   first | refine gS ?_ | (refine gT ?_; refine mI ?_) | refine gV ?_
   first | refine gS ?_ | (refine gT ?_; refine dK ?_) | refine gV ?_
   first | refine ct ?_ | refine cu ?_
   refine mB ?_
   first | refine gS ?_ | (refine gT ?_; refine du hh 6 [_,_] ?_) | refine gV ?_
   first | refine gS ?_ | (refine gT ?_; refine du hh 4 [_,_] ?_) | refine gV ?_
   refine a8 rfl rfl ?_
   refine bB hh (ju (g := g2) (h := k2) _ (hh.aE (i := 7) rfl) (hh.aE (i := 5) rfl) (og2.same ok2) (Nat.le_trans qg2 (Nat.le_of_ble_eq_true rfl)) (Nat.le_trans qk2 (Nat.le_of_ble_eq_true rfl))) rfl ?_
   intro w117 hh
   first | refine ct ?_ | refine cu ?_
   refine mB ?_
   first | refine gS ?_ | (refine gT ?_; refine du hh 2 [_,_] ?_) | refine gV ?_
   first | refine gS ?_ | (refine gT ?_; refine du hh 0 [_,_] ?_) | refine gV ?_
   refine a8 rfl rfl ?_
   refine bB hh (ju (g := g3) (h := k3) _ (hh.aE (i := 3) rfl) (hh.aE (i := 1) rfl) (og3.same ok3) (Nat.le_trans qg3 (Nat.le_of_ble_eq_true rfl)) (Nat.le_trans qk3 (Nat.le_of_ble_eq_true rfl))) rfl ?_
   intro w122 hh
   first | refine ct ?_ | refine cu ?_
   refine mB ?_
   first | refine gS ?_ | (refine gT ?_; refine mL ?_) | refine gV ?_
   first | refine gS ?_ | (refine gT ?_; refine mL ?_) | refine gV ?_
   refine a8 rfl rfl ?_
   refine aM (iU A32 n c32 l A n c l _ (hh.aE (i := 8) rfl) (hS.ext hh.below) (by omega) (by omega)) ar.out rfl (by decide) ?_
   rintro e_ w127 ⟨v_, rfl, hv_, hb_⟩
   refine ⟨_, rfl, ?_⟩
   replace hh := hh.ext hb_
   obtain rfl : v_ = true := hv_.2 rfl
   first | refine ct ?_ | refine cu ?_
   refine mB ?_
   refine a8 rfl rfl ?_
   refine bB hh (haw _ (hT.hp hh)) rfl ?_
   intro w130 hh
   first | refine ct ?_ | refine cu ?_
   refine aB (ah (an ?_))
   refine cf ?_
   exact ⟨rfl, hh.below⟩
end Go.Proofs.YtkgdagjklakajaaGreatDoor
/- The row and the card of PolyMakes. -/
namespace Go.Proofs.YtkgdagjklakajaaGreatDoor.polyMakes
open Go.ChangeShapes Go.WideShapes Go.ChangeAt Go.RowKit Go.ChangeMaps
theorem own : ownKnob Tryz.prog.godebug = none := by kernel_rfl
set_option maxRecDepth 100000 in
theorem lifted (os : Os) (started : os.Started) (H : Type) (enc : TypeId × Value → H) :
  ReturnsInHanded {} Tryz.checked os 3 .any (fun w args => (Rows.polyMakesSpec.pre enc Tryz.prog Tryz.f3 Rows.polyMakesRow.domain false w args ∧ laidMetH Tryz.prog Rows.polyMakesRow.laid w) ∧ sizedMet enc Tryz.prog Tryz.f3 (OpenSpec.ofChange Rows.polyMakesSpec) false w args)
   (Rows.polyMakesSpec.post enc Tryz.prog Tryz.f3 false true false false) := by
 refine returnsInHanded_of_change_and (C := Tryz.checked) (X := fun w _ => laidMetH Tryz.prog Rows.polyMakesRow.laid w) (fun _ _ _ hh h => h.of_heap hh) own started (by kernel_rfl) Tryz.func3
  (ChangeSpec.witness_shaped (enc := enc) (C := Tryz.checked) (os := os) (X := fun w _ => laidMetH Tryz.prog Rows.polyMakesRow.laid w) false (World.laidAll Tryz.prog os Rows.polyMakesRow.laid) #[.int .i64 0, .int .i64 0, .slice none 0 0, .agg #[.bool false, .string ⟨#[]⟩, .int .i64 0]] 8 (World.laidAll_os _ _ _)
   (World.shaped_of_ZipB (by kernel_rfl) (by kernel_rfl)) (by kernel_rfl) (by kernel_rfl) (by kernel_rfl)
   (by rw [MakeChecks.laidMetH_plain _ _ _ (by kernel_rfl)]; exact laidMet_laidAll _ (by kernel_rfl) (by kernel_rfl))) ?_
 intro W base args ds gs before hval0 hW hc _ hL _
 have hval : ∀ (j : Nat) t v, Tryz.f3.params[j]? = some t → args[j]? = some v → Value.okWide Tryz.prog W .any base t v := hval0
 have hW' := hW
 obtain ⟨p, q, hA0, hV, rfl, hfz, hnd⟩ := hW
 have hA : DataW.TrodAll enc Tryz.prog W 0 (fun _ => true) true Tryz.f3.params.toList args.toList ds p := hA0
 rw [Tryz.params3] at hA hval
 obtain ⟨v0, vs0, d0, ds0, p0, q0, hargs, rfl, rfl, h0, r0⟩ := trodAll_cons hA
 obtain ⟨v1, vs1, d1, ds1, p1, q1, rfl, rfl, rfl, h1, r1⟩ := trodAll_cons r0
 obtain ⟨v2, vs2, d2, ds2, p2, q2, rfl, rfl, rfl, h2, r2⟩ := trodAll_cons r1
 obtain ⟨v3, vs3, d3, ds3, p3, q3, rfl, rfl, rfl, h3, r3⟩ := trodAll_cons r2
 obtain ⟨rfl, rfl, rfl⟩ := trodAll_nil r3
 obtain rfl : args = #[v0, v1, v2, v3] := by cases args; simp_all
 obtain ⟨rfl, rfl⟩ := trodVars_none hV
 obtain ⟨x0, rfl, rfl, rfl, b0⟩ := open_int Tryz.underlying3 (hval 0 3 v0 rfl rfl) h0
 obtain ⟨x1, rfl, rfl, rfl, b1⟩ := open_int Tryz.underlying3 (hval 1 3 v1 rfl rfl) h1
 obtain ⟨A2, n2, c2, l2, rfl, hS2, _⟩ := rB (hval 2 22 v2 rfl rfl) h2
 obtain ⟨x3, rfl, _, _⟩ := vw (hval 3 26 v3 rfl rfl) h3
 refine (lZ x0 x1 A2 n2 c2 l2 x3 W (p6 hL) hS2).mono fun e W' ⟨he, hb⟩ => ?_
 subst he
 exact ⟨_, rfl, vS hW' rfl (by kernel_rfl) (by rw [Tryz.params3]; exact of_decide_eq_true (by kernel_rfl)) (by kernel_rfl) Tryz.underlying4 rfl rfl rfl hb⟩
theorem row_holds : Rows.PolyMakesSaid :=
 OpenClaim.holds_of_wide 3 Tryz.f3 rfl rfl rfl rfl rfl rfl rfl ⟨rfl, rfl, rfl, rfl, rfl⟩ rfl rfl rfl rfl rfl (by kernel_rfl) Tryz.func3 (by kernel_rfl)
  (of_decide_eq_true (by kernel_rfl)) (by unfold Func.isWrapper; first | (rw [if_pos (by decide +kernel)]; kernel_rfl) | (rw [if_neg (by decide +kernel)]; exact ⟨rfl, rfl⟩))
  (fun os started H enc _ => lifted os started H enc)
theorem holds : Rows.PolyMakesCardSaid :=
 Claim7.holds_tied_plain_at .later [] [.data, .data, .pinned] true (true, "1c564a1a92a31679145c774681ebb04fb442f740ab3476e1cad723baa630082f") false row_holds (fun _ h => by cases h) (by kernel_rfl) (fun _ h => by cases h) polyMakes_row_tie rfl ⟨rfl, rfl⟩ (by kernel_rfl) rfl
  (fun f fn hf hfn => by
   obtain rfl : f = 3 := Option.some.inj ((show Tryz.prog.funcNamed "ogee/ogeelaw08.PolyMakes" = some 3 by kernel_rfl).symm.trans hf) |>.symm
   obtain rfl : fn = Tryz.f3 := (Option.some.inj (Tryz.func3.symm.trans hfn)).symm
   exact ⟨by kernel_rfl, fun j t ht => by
    rw [Tryz.params3] at ht
    have hm : t ∈ [3, 3, 22, 26] := by simpa using Array.mem_of_getElem? ht
    have hall : ([3, 3, 22, 26].all fun u => !Tryz.prog.wantsStandIn u) = true := by kernel_rfl
    exact (show Tryz.prog.wantsStandIn t = false by simpa using List.all_eq_true.1 hall t hm)⟩)
  (by kernel_rfl)
#print axioms holds
end Go.Proofs.YtkgdagjklakajaaGreatDoor.polyMakes
