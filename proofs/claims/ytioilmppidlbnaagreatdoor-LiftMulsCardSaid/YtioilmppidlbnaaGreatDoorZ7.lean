/- The row and the card of LiftMuls. -/
import Derived.Test.YtioilmppidlbnaaGreatDoorCards
import Derived.Test.YtioilmppidlbnaaGreatDoorTie
import Derived.SevenTiedAt
import Derived.Test.YtioilmppidlbnaaGreatDoorZ6
/- The walk through the law LiftMuls. -/
namespace Go.Proofs.YtioilmppidlbnaaGreatDoor
open Go.RowKit
structure jU (fs os : List FX) (R : List HE) : Prop where
 eq : ∀ (j : Nat) (f o : FX), fs[j]? = some f → os[j]? = some o → o.ds = f.ds ∧ o.cs = f.cs ∧ o.n = f.n ∧ o.m = f.m
 my : ∀ o ∈ os, ∃ R0, vu R0 o ∧ ∀ x ∈ R0, x ∈ R
theorem jU.add {fs os : List FX} {R R0 : List HE} {f o : FX} {i : Nat} (h : jU fs os R) (hl : os.length = i) (hx : fs[i]? = some f) (he : o.ds = f.ds ∧ o.cs = f.cs ∧ o.n = f.n ∧ o.m = f.m) (hm : vu R0 o) : jU fs (os ++ [o]) (R ++ R0) := by
 refine ⟨fun j f' o' hf ho => ?_, fun o' ho => ?_⟩
 ·by_cases hj : j < i
  ·rw [List.getElem?_append_left (by omega)] at ho
   exact h.eq j f' o' hf ho
  ·have hj2 := (List.getElem?_eq_some_iff.1 ho).1
   rw [List.length_append, hl] at hj2
   obtain rfl : j = i := by have : j < i + 1 := hj2; omega
   rw [List.getElem?_append_right (by omega), hl, Nat.sub_self] at ho
   rw [hx] at hf
   obtain rfl := Option.some.inj hf
   obtain rfl : o = o' := Option.some.inj ho
   exact he
 ·rcases List.mem_append.1 ho with ho | ho
  ·obtain ⟨R1, h1, h2⟩ := h.my o' ho
   exact ⟨R1, h1, fun x hx => List.mem_append_left _ (h2 x hx)⟩
  ·obtain rfl := List.mem_singleton.1 ho
   exact ⟨R0, hm, fun x hx => List.mem_append_right _ hx⟩
theorem jU.key {fs os : List FX} {R : List HE} (h : jU fs os R) (hl : os.length = fs.length) : os.map FX.key = fs.map FX.key := by
 refine List.ext_getElem? fun j => ?_
 rw [List.getElem?_map, List.getElem?_map]
 by_cases hj : j < fs.length
 ·obtain ⟨f, hf⟩ := ar (l := fs) hj
  obtain ⟨o, ho⟩ := ar (l := os) (k := j) (by omega)
  obtain ⟨h1, h2, h3, _⟩ := h.eq j f o hf ho
  rw [hf, ho]
  show some (o.ds, o.cs, o.n) = some (f.ds, f.cs, f.n)
  rw [h1, h2, h3]
 ·rw [List.getElem?_eq_none (by omega), List.getElem?_eq_none (by omega)]
theorem jU.of {fs os : List FX} {R : List HE} (h : jU fs os R) (hl : os.length = fs.length) {o : FX} (ho : o ∈ os) : ∃ f ∈ fs, o.ds = f.ds ∧ o.cs = f.cs ∧ o.n = f.n ∧ o.m = f.m := by
 obtain ⟨j, hj⟩ := List.mem_iff_getElem?.1 ho
 obtain ⟨f, hf⟩ := ar (l := fs) (k := j) (by have := (List.getElem?_eq_some_iff.1 hj).1; omega)
 exact ⟨f, List.mem_of_getElem? hf, h.eq j f o hf hj⟩
theorem n4 (L : Option Addr) (n c : Nat) (fs : List FX) (w : World) (hT : iu w) (hL : Sl w L n 2 (bF FX.cells fs)) (hf : ∀ f ∈ fs, f.at_ w) :
  Calls Tryz.prog 3 #[.slice L n c] w fun r w' => r = .returned (.bool true) ∧ Below w.heap.size w w' := by
 have hh := Hp.start w
 have hln := hL.cP FX.len (by decide)
 refine ao (N := 101) (l := [.slice L n c]) Tryz.func3 rfl rfl (by simp) ?_
 refine sr (aB (aa (ah (sr (mL ?_)))))
 refine a6 (qt L n c fs _ (hL.ext hh.below) (fun z hz => (hf z hz).ext hh.below)) az.out rfl (by decide) ?_
 rintro e_ w15 ⟨p1, rfl, hm, hb_⟩
 refine ⟨_, rfl, ?_⟩
 replace hh := hh.ext hb_
 cases p1 with
 | true =>
  refine aa (cT (sr ?_))
  refine bJ hh (jo _ (hT.hp hh)) rfl ?_
  intro w16 hh
  refine aB (aa (aq (aM ?_)))
  refine cz ?_
  exact ⟨rfl, hh.below⟩
 | false =>
  obtain ⟨hn3, hsm⟩ := hm rfl
  clear hm hb_
  refine aa (cF (ak (ai (sr (aL (aa (ah (sr (aI (aa (aj ?_)))))))))))
  replace hh := hh.dx 28 2
  refine bX [3, 4, 17, 18, 19, 20, 21, 22, 23, 24, 25, 26, 27, 28, 29, 30] 3 4
   (fun v3 v w' => ∃ (i c3 : Nat) (A : Option Addr) (os : List FX) (R : List HE), i ≤ n ∧ v = .int .i64 i ∧ v3 = .slice A i c3 ∧ os.length = i ∧ jU fs os R ∧ Hp w (.row A i c3 28 2 (bF FX.cells os) :: R) w')
   (fun _ v _ => n - (intOf v).toNat) ?_ ?_
  ·exact ⟨0, 0, none, [], [], Nat.zero_le _, rfl, rfl, rfl, ⟨fun j f o _ h => (by simp at h), fun o h => (by cases h)⟩, hh⟩
  ·clear hh
   rintro ρ' v3 v w' ⟨i, c3, A, os, R, hi, rfl, rfl, hol, hcp, hh⟩
   by_cases hlt : i < n
   ·obtain ⟨z, hx⟩ := ar (l := fs) (k := i) (by omega)
    have hmem := List.mem_of_getElem? hx
    obtain ⟨zl, zm, zn⟩ := hsm z hmem
    obtain ⟨ad, rfl, hr⟩ := hL.at_ (by omega)
    refine ah (sr (mI (mL (aQ ?_))))
    refine aG (aa (cT (ak (ai (ah (aj (al (mL (mL (mI ?_))))))))))
    refine aF (k := i) aH.out aE.size rfl rfl (by omega) (by omega) (by decide) ?_
    refine cW (vs := [_, _]) aE.out rfl ((hr.ext hh.below).recAt FX.len hx) rfl (by decide) ?_
    refine a6 (yq z _ ((hf z hmem).ext hh.below) (by omega) (by omega)) az.out rfl (by decide) ?_
    rintro e_ w28 ⟨o, R0, d1, d2, d3, d4, rfl, hmi, h2⟩
    refine ⟨_, rfl, ?_⟩
    replace hh : Hp w (_ :: (R ++ R0)) _ := (hh.join h2).perm List.perm_append_comm
    clear h2
    refine aP hh (cs := [_, _]) aH.out aE.out (aY (de rfl) bO) rfl rfl (by decide) (by decide) (by decide) rfl (by decide) ?_
    intro b29 w29 hh
    refine cu hh (i := 1) rfl rfl rfl (hh.aX (i := 0) rfl) aH.out aE.out rfl (by decide) (by first | rfl | exact bZ _ | exact bK _ | exact bC _ | exact bL NR.one _) (by omega) (by omega) (by decide) ?_
    intro A30 c30 w30 hh
    simp only [List.set_cons_succ] at hh
    replace hh := hh.sub (List.sublist_cons_self _ _)
    refine aL (aC (aT (ai (al (mI ?_)))))
    refine bz (aI (aC (ai ?_)))
    replace hh := hh.sub (List.Sublist.cons_cons _ (List.Sublist.refl _))
    refine ⟨⟨i + 1, c30, A30, os ++ [o], R ++ R0, by omega, rfl, rfl, by rw [List.length_append, hol]; rfl, hcp.add hol hx ⟨d1, d2, d3, d4⟩ hmi, by rw [dp]; exact hh⟩, by show n - (i + 1) < n - i; omega, ?_⟩
    (repeat (first | exact aw _ _ _ | refine ay rfl ?_ | refine au rfl ?_))
   ·obtain rfl : i = n := by omega
    have hol2 : os.length = fs.length := by omega
    obtain ⟨k1, k2, k3, k4⟩ := qS (hcp.key hol2)
    have hall : ∀ o ∈ os, o.iC 124 ∧ o.m ≤ 200 ∧ o.cs.length = o.m ∧ o.n ≤ 100000 := fun o ho => by
     obtain ⟨z, hz, e1, e2, e3, e4⟩ := hcp.of hol2 ho
     obtain ⟨zl, zm, zn⟩ := hsm z hz
     exact ⟨⟨by omega, by omega, by rw [e2]; exact zl.num⟩, by omega, by rw [e2, e4]; exact (hf z hz).ln.2, by omega⟩
    have hat : ∀ (k : Nat) (H : List HE) (w1 : World), Hp w H w1 → H.drop k = R → ∀ o ∈ os, o.at_ w1 := fun k H w1 h1 hd o ho => by
     obtain ⟨R0, h2, h3⟩ := hcp.my o ho
     exact h2.at_ (hall o ho).2.2.1 (fun x hx => yP k hd (h3 x hx)) h1
    have hadd := fun w1 hT1 hS1 ho => sB A i c3 os 124 w1 hT1 hS1 (by omega) ho (fun o h => (hall o h).1) (fun o h => (hall o h).2.1) (by omega)
    rw [k2, k3, k4] at hadd
    have hadd2 := fun w1 (hb : Below w.heap.size w w1) => za L i c fs 124 w1 (hL.ext hb) (by omega) (fun z hz => (hf z hz).ext hb) (fun z hz => (hsm z hz).1) (fun z hz => by have := (hsm z hz).2.1; omega) (by omega)
    clear k1 k2 k3 k4
    generalize ct fs = e at *
    generalize u0 (fs.map (eO (maxD fs))) = ys at *
    generalize maxD fs = D at *
    refine ah (sr (mI (mL (aQ ?_))))
    refine aG (aa (cF ?_))
    refine aJ ?_
    refine ax (ax (aZ (ai (sr (mL ?_)))))
    refine a6 (hadd _ (hT.hp hh) (hh.aX (i := 0) rfl) (hat 1 _ _ hh rfl)) az.out rfl (by decide) ?_
    rintro e_ w33 ⟨a, oa, rfl, h2⟩
    refine ⟨_, rfl, ?_⟩
    replace hh := hh.join h2
    clear h2
    refine mT ?_
    refine eT ?_
    refine eT ?_
    refine cS hh ?_
    intro b5 w5 hh
    refine bY hh 0 [_,_] ?_
    intro ws hh
    replace hh : Hp _ (.blk _ _ [_, _] _ :: _) _ := hh
    refine aI (aa (sr (mL ?_)))
    refine a6 (hadd2 _ hh.below) az.out rfl (by decide) ?_
    rintro e_ w38 ⟨b, ob, rfl, h2⟩
    refine ⟨_, rfl, ?_⟩
    replace hh := hh.join h2
    clear h2
    refine mT ?_
    refine eT ?_
    refine eT ?_
    refine cS hh ?_
    intro b7 w7 hh
    refine bY hh 0 [_,_] ?_
    intro ws hh
    replace hh : Hp _ (.blk _ _ [_, _] _ :: _) _ := hh
    refine aI (aa (ah (sr (mI (mI ?_)))))
    refine dK (mB ?_)
    first | refine gS ?_ | (refine gT ?_; refine dk hh 3 [_,_] ?_) | refine gV ?_
    first | refine gS ?_ | (refine gT ?_; refine dk hh 0 [_,_] ?_) | refine gV ?_
    refine bo rfl rfl ?_
    refine bJ hh (gB a b _ (hh.od (List.mem_of_getElem? (i := 4) rfl) (List.mem_of_getElem? (i := 5) rfl)) (hh.od (List.mem_of_getElem? (i := 1) rfl) (List.mem_of_getElem? (i := 2) rfl)) (oa.same ob) oa.n oa.m) rfl ?_
    intro w47 hh
    replace hh := hh.sub (List.Sublist.cons _ (List.Sublist.cons _ (List.Sublist.cons _ (List.Sublist.cons_cons _ (List.Sublist.cons_cons _ (List.Sublist.cons _ (List.Sublist.cons_cons _ (List.Sublist.refl _))))))))
    first | refine gS ?_ | (refine gT ?_; refine qT ?_) | refine gV ?_
    first | refine dD ?_ | refine dA ?_
    refine aa (cF (ak (ai (sr (bI ?_)))))
    refine bP hh 0 ?_
    replace hh := hh.perm (List.perm_middle (l₁ := [_]))
    simp only [List.cons_append, List.nil_append] at hh
    refine wb hh (i := 0) rfl rfl aH.out aE.out rfl rfl ?_
    intro wc hh
    simp only [List.set_cons_zero] at hh
    replace hh := hh.sub (List.Sublist.cons _ (List.Sublist.cons _ (List.Sublist.cons_cons _ (List.Sublist.refl _))))
    by_cases h1 : 1 < i
    ·obtain ⟨z0, hz0⟩ := ar (l := fs) (k := 0) (by omega)
     obtain ⟨z1, hz1⟩ := ar (l := fs) (k := 1) (by omega)
     obtain ⟨o0, ho0⟩ := ar (l := os) (k := 0) (by omega)
     obtain ⟨o1, ho1⟩ := ar (l := os) (k := 1) (by omega)
     have mo0 := List.mem_of_getElem? ho0
     have mo1 := List.mem_of_getElem? ho1
     have mz0 := List.mem_of_getElem? hz0
     have mz1 := List.mem_of_getElem? hz1
     obtain ⟨p1, p2, p3, p4⟩ := hcp.eq 0 z0 o0 hz0 ho0
     obtain ⟨q1, q2, q3, q4⟩ := hcp.eq 1 z1 o1 hz1 ho1
     obtain ⟨k1, -, -, -⟩ := qS (fs := [o0, o1]) (gs := [z0, z1]) (by simp [FX.key, p1, p2, p3, q1, q2, q3])
     have hmul := fun w1 hT1 h2 h3 => wA o0 o1 124 w1 hT1 h2 h3 (hall o0 mo0).1 (hall o1 mo1).1 (hall o0 mo0).2.1 (hall o1 mo1).2.1 (by omega)
     have e0 : jM o0 o1 = jM z0 z1 := by unfold jM FX.ns; rw [k1, p1, q1]
     have e1 : o0.ns = z0.ns := by unfold FX.ns; rw [p1]
     have e2 : o1.ns = z1.ns := by unfold FX.ns; rw [q1]
     rw [e0, e1, e2, p2, q2] at hmul
     have hmul2 := fun w1 (hb : Below w.heap.size w w1) => zp z0 z1 124 w1 ((hf z0 mz0).ext hb) ((hf z1 mz1).ext hb) (hsm z0 mz0).1 (hsm z1 mz1).1 (by have := (hsm z0 mz0).2.1; omega) (by have := (hsm z1 mz1).2.1; omega) (by omega)
     clear e0 e1 e2 k1 p1 p2 p3 p4 q1 q2 q3 q4
     generalize jM z0 z1 = em at *
     generalize bH z0.ns z1.ns = Dm at *
     generalize g9 z0.ns z1.ns (z0.cs.map NR.d) (z1.cs.map NR.d) = ym at *
     obtain ⟨ad, rfl, hr⟩ := hL.at_ (by omega)
     obtain ⟨go, rfl⟩ := hh.cK (i := 0) rfl (by omega)
     refine aa (ah (sr (mL (aQ ?_))))
     refine bT (aa (cT (ah ?_)))
     refine iL [10] [9] [0, 1, 3, 0, 8, 24, 63, 127, 255, 255, 0, 1535, 4095] 11 [[(3, none)], [(56, some 0)], [(57, some 1)], [(3, none)], [(59, some 3)], [(60, some 4)], [(58, some 2), (61, some 5)], [(62, some 6)], [(55, some 7)], [(55, some 7)], []] [(10, 9), (9, 64), (8, 63), (7, 55), (6, 62), (5, 61), (4, 60), (3, 59), (2, 58), (1, 57), (0, 56)] hh mixed (by kernel_rfl) (oU rfl aE.out jz) rfl (by repeat (first | exact nt | refine lf ?_ | refine mY ?_)) ?_
     refine eP ?_
     refine mu (0) ?_
     refine mh [_,_] (fun _ hj => hj.hp.fK (f := FX.cells) (x := o0) (l := os) (i := 0) rfl FX.len (by decide) ho0) ?_
     refine eP ?_
     refine mu (1) ?_
     refine mh [_,_] (fun _ hj => hj.hp.fK (f := FX.cells) (x := o1) (l := os) (i := 0) rfl FX.len (by decide) ho1) ?_
     refine cJ (i := 6) (mU hh.sz em Dm ym) (mU.ext) ?_ ?_
     ·intro ρ1 w1 hj hR
      exact ew rfl (dI az.out (bD (show ρ1 58 = Value.agg (List.toArray _) from hR.1) (bD (show ρ1 61 = Value.agg (List.toArray _) from hR.2.1) db))) (hmul _ (hT.hp hj.hp) (hat 1 _ _ hj.hp rfl o0 mo0) (hat 1 _ _ hj.hp rfl o1 mo1)) (fun _ _ ⟨g, q1, q2, q3⟩ => ⟨_, q2, q3.below, g, _, rfl, q1, hj.bl.size, q3⟩)
     refine cJ (i := 7) (mU hh.sz em Dm ym) (mU.ext) ?_ ?_
     ·intro ρ1 w1 hj hR
      exact let ⟨g, u, e1, e2⟩ := hR.1; fp rfl (jS e1) ⟨Below.refl _ _, g, u, rfl, e2⟩
     refine cJ (i := 8) (mZ hh.sz em Dm ym) (mZ.ext) ?_ ?_
     ·intro ρ1 w1 hj hR
      exact let ⟨g, u, e1, e2⟩ := hR.1; fp rfl (gQ (vs := [_, _]) e1 rfl) ⟨Below.refl _ _, g, u, rfl, e2⟩
     refine cJ (i := 9) (Is (.int .i64 em)) (Is.ext) ?_ ?_
     ·intro ρ1 w1 hj hR
      exact let ⟨g, u, e1, e2⟩ := hR.1; fp rfl (gQ (vs := [_, _]) e1 rfl) ⟨Below.refl _ _, rfl⟩
     refine cJ (i := 10) (ef _ 28 _) ef.ext (fun ρ1 w1 hj hR => iX aE.out hj.bl (fun v w2 h hb => ⟨hb, h⟩)) ?_
     refine bm ?_
     intro f W hJ hV _
     have hb_14 := hJ.bl
     obtain ⟨v9, v64, v63, v55, v62, v61, v60, v59, v58, v57, v56, _⟩ := hV
     obtain ⟨g62, u62, e62, -⟩ := v62
     obtain ⟨g55, u55, e55, -⟩ := v55
     obtain ⟨g63, u63, e63, o63, q63, h63⟩ := v63
     obtain ⟨b9, e9, hl9, hc9⟩ : ef _ _ _ (f 10) W := v9
     replace hh := hJ.oV hh hl9 hc9 q63 h63 (FX.ne h63 hc9 (by decide) (by decide))
     refine aU (bk (ae e9 (ae v64 (ae e63 (ae e55 (ae e62 (ae v61 (ae v60 (ae v59 (ae v58 (ae v57 (ae v56 aV)))))))))))) ?_
     dsimp only [cd]
     clear e62 e55 e63 e9 hJ
     refine bY hh 0 [_,_] ?_
     intro ws hh
     replace hh : Hp _ (.blk _ _ [_, _] _ :: _) _ := hh
     refine aI (aa (ah ?_))
     refine iL [10] [9] [0, 1, 3, 0, 8, 24, 63, 127, 255, 255, 0, 1535, 4095] 11 [[(0, none)], [(66, some 0)], [(67, some 1)], [(0, none)], [(69, some 3)], [(70, some 4)], [(68, some 2), (71, some 5)], [(72, some 6)], [(65, some 7)], [(65, some 7)], []] [(10, 11), (9, 74), (8, 73), (7, 65), (6, 72), (5, 71), (4, 70), (3, 69), (2, 68), (1, 67), (0, 66)] hh mixed (by kernel_rfl) (oU rfl aE.out jz) rfl (by repeat (first | exact nt | refine lf ?_ | refine mY ?_)) ?_
     refine eP ?_
     refine hH (0) ?_
     refine mh [_,_] (fun _ hj => (hr.ext hj.hp.below).recAt FX.len hz0) ?_
     refine eP ?_
     refine hH (1) ?_
     refine mh [_,_] (fun _ hj => (hr.ext hj.hp.below).recAt FX.len hz1) ?_
     refine cJ (i := 6) (mU hh.sz em Dm ym) (mU.ext) ?_ ?_
     ·intro ρ1 w1 hj hR
      exact ew rfl (dI az.out (bD (show ρ1 68 = Value.agg (List.toArray _) from hR.1) (bD (show ρ1 71 = Value.agg (List.toArray _) from hR.2.1) db))) (hmul2 _ hj.hp.below) (fun _ _ ⟨g, q1, q2, q3⟩ => ⟨_, q2, q3.below, g, _, rfl, q1, hj.bl.size, q3⟩)
     refine cJ (i := 7) (mU hh.sz em Dm ym) (mU.ext) ?_ ?_
     ·intro ρ1 w1 hj hR
      exact let ⟨g, u, e1, e2⟩ := hR.1; fp rfl (jS e1) ⟨Below.refl _ _, g, u, rfl, e2⟩
     refine cJ (i := 8) (mZ hh.sz em Dm ym) (mZ.ext) ?_ ?_
     ·intro ρ1 w1 hj hR
      exact let ⟨g, u, e1, e2⟩ := hR.1; fp rfl (gQ (vs := [_, _]) e1 rfl) ⟨Below.refl _ _, g, u, rfl, e2⟩
     refine cJ (i := 9) (Is (.int .i64 em)) (Is.ext) ?_ ?_
     ·intro ρ1 w1 hj hR
      exact let ⟨g, u, e1, e2⟩ := hR.1; fp rfl (gQ (vs := [_, _]) e1 rfl) ⟨Below.refl _ _, rfl⟩
     refine cJ (i := 10) (ef _ 28 _) ef.ext (fun ρ1 w1 hj hR => iX aE.out hj.bl (fun v w2 h hb => ⟨hb, h⟩)) ?_
     refine bm ?_
     intro f W hJ hV _
     have hb_15 := hJ.bl
     obtain ⟨v11, v74, v73, v65, v72, v71, v70, v69, v68, v67, v66, _⟩ := hV
     obtain ⟨g72, u72, e72, -⟩ := v72
     obtain ⟨g65, u65, e65, -⟩ := v65
     obtain ⟨g73, u73, e73, o73, q73, h73⟩ := v73
     obtain ⟨b11, e11, hl11, hc11⟩ : ef _ _ _ (f 10) W := v11
     replace hh := hJ.oV hh hl11 hc11 q73 h73 (FX.ne h73 hc11 (by decide) (by decide))
     refine aU (bk (ae e11 (ae v74 (ae e73 (ae e65 (ae e72 (ae v71 (ae v70 (ae v69 (ae v68 (ae v67 (ae v66 aV)))))))))))) ?_
     dsimp only [cd]
     clear e72 e65 e73 e11 hJ
     refine bY hh 0 [_,_] ?_
     intro ws hh
     replace hh : Hp _ (.blk _ _ [_, _] _ :: _) _ := hh
     refine aI (aa (sr (mI (mI ?_))))
     refine dK (mB ?_)
     first | refine gS ?_ | (refine gT ?_; refine dk hh 3 [_,_] ?_) | refine gV ?_
     first | refine gS ?_ | (refine gT ?_; refine dk hh 0 [_,_] ?_) | refine gV ?_
     refine bo rfl rfl ?_
     refine bJ hh (gB g63 g73 _ (hh.od (List.mem_of_getElem? (i := 4) rfl) (List.mem_of_getElem? (i := 5) rfl)) (hh.od (List.mem_of_getElem? (i := 1) rfl) (List.mem_of_getElem? (i := 2) rfl)) (o63.same o73) o63.n o63.m) rfl ?_
     intro w81 hh
     replace hh := hh.sub (List.Sublist.cons _ (List.Sublist.cons _ (List.Sublist.cons _ (List.Sublist.cons _ (List.Sublist.cons _ (List.Sublist.cons _ (List.Sublist.cons_cons _ (List.Sublist.refl _))))))))
     first | refine gS ?_ | (refine gT ?_; refine qT ?_) | refine gV ?_
     first | refine dD ?_ | refine dA ?_
     refine aa (cF (ak (ai (ah (sr (aI (aa (aj ?_))))))))
     refine bp [2, 13, 84, 85, 86, 87, 88, 89, 90, 91, 92, 93, 94, 95, 96, 97, 98, 99] 13
      (fun v w' => ∃ j : Nat, j ≤ i ∧ v = .int .i64 j ∧ Hp w (.row (some ⟨go, 0, none⟩) i c3 28 2 (bF FX.cells os) :: R) w')
      (fun v _ => i - (intOf v).toNat) ?_ ?_
     ·exact ⟨0, Nat.zero_le _, rfl, hh⟩
     ·clear hh
      rintro ρ3 v w3 ⟨j, hj, rfl, hh⟩
      by_cases hlt2 : j < i
      ·obtain ⟨z, hx⟩ := ar (l := fs) (k := j) (by omega)
       obtain ⟨o, ho⟩ := ar (l := os) (k := j) (by omega)
       obtain ⟨e1, e2, e3, e4⟩ := hcp.eq j z o hx ho
       obtain ⟨-, o2, -, o4⟩ := hall o (List.mem_of_getElem? ho)
       skip
       skip
       refine ah (sr (mI (mL (aQ ?_))))
       refine aG (aa (cT (ak (ai (ah (aj (ah ?_)))))))
       refine iL [] [] [0, 0, 3, 7, 0, 0, 48, 112, 255, 511] 8 [[(3, none)], [(13, none)], [(90, some 0), (91, some 1)], [(92, some 2)], [(0, none)], [(13, none)], [(94, some 4), (95, some 5)], [(96, some 6)]] [(7, 97), (6, 96), (5, 95), (4, 94), (3, 93), (2, 92), (1, 91), (0, 90)] hh mixed (by kernel_rfl) jz rfl (by repeat (first | exact nt | refine lf ?_ | refine mY ?_)) ?_
       refine eP ?_
       refine dn ?_
       refine mu (j) ?_
       refine mh [_,_] (fun _ hj => hj.hp.fK (f := FX.cells) (x := o) (l := os) (i := 0) rfl FX.len (by decide) ho) ?_
       refine eP ?_
       refine dn ?_
       refine hH (j) ?_
       refine mh [_,_] (fun _ hj => (hr.ext hj.hp.below).recAt FX.len hx) ?_
       refine bm ?_
       intro f W hJ hV _
       have hb_21 := hJ.bl
       obtain ⟨v97, v96, v95, v94, v93, v92, v91, v90, _⟩ := hV
       replace hh := hJ.hp
       refine aU (bk (ae v97 (ae v96 (ae v95 (ae v94 (ae v93 (ae v92 (ae v91 (ae v90 aV))))))))) ?_
       dsimp only [cd]
       clear hJ
       refine bJ hh (gB o z _ (hat 1 _ _ hh rfl o (List.mem_of_getElem? ho)) ((hf z (List.mem_of_getElem? hx)).ext hh.below) ⟨e1, e2⟩ o4 (by omega)) rfl ?_
       intro w98 hh
       refine qT ?_
       refine aa (cF (ak (aT (ai (al (mI ?_))))))
       refine bz (aI (aC (ai ?_)))
       refine ⟨⟨j + 1, by omega, rfl, hh⟩, by show i - (j + 1) < i - j; omega, ?_⟩
       (repeat (first | exact aw _ _ _ | refine ay rfl ?_ | refine au rfl ?_))
      ·refine ah (sr (mI (mL (aQ ?_))))
       refine aG (aa (cF ?_))
       refine aJ ?_
       refine ax (ax (aZ (ai (sr ?_))))
       refine bJ hh (jo _ (hT.hp hh)) rfl ?_
       intro w100 hh
       refine aB (aa (aq ?_))
       refine cz ?_
       exact ⟨rfl, hh.below⟩
    ·refine aa (ah (sr (mL (aQ ?_))))
     refine bT (aa (cF (ak (ai (ah (sr (aI (aa (aj ?_)))))))))
     refine bp [2, 13, 84, 85, 86, 87, 88, 89, 90, 91, 92, 93, 94, 95, 96, 97, 98, 99] 13
      (fun v w' => ∃ j : Nat, j ≤ i ∧ v = .int .i64 j ∧ Hp w (.row A i c3 28 2 (bF FX.cells os) :: R) w')
      (fun v _ => i - (intOf v).toNat) ?_ ?_
     ·exact ⟨0, Nat.zero_le _, rfl, hh⟩
     ·clear hh
      rintro ρ3 v w3 ⟨j, hj, rfl, hh⟩
      by_cases hlt2 : j < i
      ·obtain ⟨z, hx⟩ := ar (l := fs) (k := j) (by omega)
       obtain ⟨o, ho⟩ := ar (l := os) (k := j) (by omega)
       obtain ⟨e1, e2, e3, e4⟩ := hcp.eq j z o hx ho
       obtain ⟨-, o2, -, o4⟩ := hall o (List.mem_of_getElem? ho)
       obtain ⟨ad, rfl, hr⟩ := hL.at_ (by omega)
       obtain ⟨go, rfl⟩ := hh.cK (i := 0) rfl (by omega)
       refine ah (sr (mI (mL (aQ ?_))))
       refine aG (aa (cT (ak (ai (ah (aj (ah ?_)))))))
       refine iL [] [] [0, 0, 3, 7, 0, 0, 48, 112, 255, 511] 8 [[(3, none)], [(13, none)], [(90, some 0), (91, some 1)], [(92, some 2)], [(0, none)], [(13, none)], [(94, some 4), (95, some 5)], [(96, some 6)]] [(7, 97), (6, 96), (5, 95), (4, 94), (3, 93), (2, 92), (1, 91), (0, 90)] hh mixed (by kernel_rfl) jz rfl (by repeat (first | exact nt | refine lf ?_ | refine mY ?_)) ?_
       refine eP ?_
       refine dn ?_
       refine mu (j) ?_
       refine mh [_,_] (fun _ hj => hj.hp.fK (f := FX.cells) (x := o) (l := os) (i := 0) rfl FX.len (by decide) ho) ?_
       refine eP ?_
       refine dn ?_
       refine hH (j) ?_
       refine mh [_,_] (fun _ hj => (hr.ext hj.hp.below).recAt FX.len hx) ?_
       refine bm ?_
       intro f W hJ hV _
       have hb_21 := hJ.bl
       obtain ⟨v97, v96, v95, v94, v93, v92, v91, v90, _⟩ := hV
       replace hh := hJ.hp
       refine aU (bk (ae v97 (ae v96 (ae v95 (ae v94 (ae v93 (ae v92 (ae v91 (ae v90 aV))))))))) ?_
       dsimp only [cd]
       clear hJ
       refine bJ hh (gB o z _ (hat 1 _ _ hh rfl o (List.mem_of_getElem? ho)) ((hf z (List.mem_of_getElem? hx)).ext hh.below) ⟨e1, e2⟩ o4 (by omega)) rfl ?_
       intro w98 hh
       refine qT ?_
       refine aa (cF (ak (aT (ai (al (mI ?_))))))
       refine bz (aI (aC (ai ?_)))
       refine ⟨⟨j + 1, by omega, rfl, hh⟩, by show i - (j + 1) < i - j; omega, ?_⟩
       (repeat (first | exact aw _ _ _ | refine ay rfl ?_ | refine au rfl ?_))
      ·refine ah (sr (mI (mL (aQ ?_))))
       refine aG (aa (cF ?_))
       refine aJ ?_
       refine ax (ax (aZ (ai (sr ?_))))
       refine bJ hh (jo _ (hT.hp hh)) rfl ?_
       intro w100 hh
       refine aB (aa (aq ?_))
       refine cz ?_
       exact ⟨rfl, hh.below⟩
end Go.Proofs.YtioilmppidlbnaaGreatDoor
/- The row and the card of LiftMuls. -/
namespace Go.Proofs.YtioilmppidlbnaaGreatDoor.liftMuls
open Go.ChangeShapes Go.WideShapes Go.ChangeAt Go.RowKit Go.ChangeMaps
theorem own : ownKnob Tryz.prog.godebug = none := by kernel_rfl
set_option maxRecDepth 100000 in
theorem lifted (os : Os) (started : os.Started) (H : Type) (enc : TypeId × Value → H) :
  ReturnsInHanded {} Tryz.checked os 3 .any (fun w args => (Rows.liftMulsSpec.pre enc Tryz.prog Tryz.f3 Rows.liftMulsRow.domain false w args ∧ laidMetH Tryz.prog Rows.liftMulsRow.laid w) ∧ sizedMet enc Tryz.prog Tryz.f3 (OpenSpec.ofChange Rows.liftMulsSpec) false w args)
   (Rows.liftMulsSpec.post enc Tryz.prog Tryz.f3 false true false false) := by
 refine returnsInHanded_of_change_and (C := Tryz.checked) (X := fun w _ => laidMetH Tryz.prog Rows.liftMulsRow.laid w) (fun _ _ _ hh h => h.of_heap hh) own started (by kernel_rfl) Tryz.func3
  (ChangeSpec.witness_shaped (enc := enc) (C := Tryz.checked) (os := os) (X := fun w _ => laidMetH Tryz.prog Rows.liftMulsRow.laid w) false (World.laidAll Tryz.prog os Rows.liftMulsRow.laid) #[.slice none 0 0] 8 (World.laidAll_os _ _ _)
   (World.shaped_of_ZipB (by kernel_rfl) (by kernel_rfl)) (by kernel_rfl) (by kernel_rfl) (by kernel_rfl)
   (by rw [MakeChecks.laidMetH_plain _ _ _ (by kernel_rfl)]; exact laidMet_laidAll _ (by kernel_rfl) (by kernel_rfl))) ?_
 intro W base args ds gs before hval0 hW hc _ hL _
 have hval : ∀ (j : Nat) t v, Tryz.f3.params[j]? = some t → args[j]? = some v → Value.okWide Tryz.prog W .any base t v := hval0
 have hW' := hW
 obtain ⟨p, q, hA0, hV, rfl, hfz, hnd⟩ := hW
 have hA : DataW.TrodAll enc Tryz.prog W 0 (fun _ => true) true Tryz.f3.params.toList args.toList ds p := hA0
 rw [Tryz.params3] at hA hval
 obtain ⟨v0, vs0, d0, ds0, p0, q0, hargs, rfl, rfl, h0, r0⟩ := trodAll_cons hA
 obtain ⟨rfl, rfl, rfl⟩ := trodAll_nil r0
 obtain rfl : args = #[v0] := by cases args; simp_all
 obtain ⟨rfl, rfl⟩ := trodVars_none hV
 obtain ⟨A0, n0, c0, l0, rfl, hS0, hF0⟩ := sf (hval 0 22 v0 rfl rfl) h0
 refine (n4 A0 n0 c0 l0 W (qB hL) hS0 hF0).mono fun e W' ⟨he, hb⟩ => ?_
 subst he
 exact ⟨_, rfl, vQ hW' rfl (by kernel_rfl) (by rw [Tryz.params3]; exact of_decide_eq_true (by kernel_rfl)) (by kernel_rfl) Tryz.underlying4 rfl rfl rfl hb⟩
theorem row_holds : Rows.LiftMulsSaid :=
 OpenClaim.holds_of_wide 3 Tryz.f3 rfl rfl rfl rfl rfl rfl rfl ⟨rfl, rfl, rfl, rfl, rfl⟩ rfl rfl rfl rfl rfl (by kernel_rfl) Tryz.func3 (by kernel_rfl)
  (of_decide_eq_true (by kernel_rfl)) (by unfold Func.isWrapper; first | (rw [if_pos (by decide +kernel)]; kernel_rfl) | (rw [if_neg (by decide +kernel)]; exact ⟨rfl, rfl⟩))
  (fun os started H enc _ => lifted os started H enc)
theorem holds : Rows.LiftMulsCardSaid :=
 Claim7.holds_tied_plain_at .later [] [.data, .data, .pinned] true (true, "0b215af0b67f448459599e78ac8335c1e55d291f4b1ea5a16e79847ce8851b12") false row_holds (fun _ h => by cases h) (by kernel_rfl) (fun _ h => by cases h) liftMuls_row_tie rfl ⟨rfl, rfl⟩ (by kernel_rfl) rfl
  (fun f fn hf hfn => by
   obtain rfl : f = 3 := Option.some.inj ((show Tryz.prog.funcNamed "ogee/ogeelaw14.LiftMuls" = some 3 by kernel_rfl).symm.trans hf) |>.symm
   obtain rfl : fn = Tryz.f3 := (Option.some.inj (Tryz.func3.symm.trans hfn)).symm
   exact ⟨by kernel_rfl, fun j t ht => by
    rw [Tryz.params3] at ht
    have hm : t ∈ [22] := by simpa using Array.mem_of_getElem? ht
    have hall : ([22].all fun u => !Tryz.prog.wantsStandIn u) = true := by kernel_rfl
    exact (show Tryz.prog.wantsStandIn t = false by simpa using List.all_eq_true.1 hall t hm)⟩)
  (by kernel_rfl)
#print axioms holds
end Go.Proofs.YtioilmppidlbnaaGreatDoor.liftMuls
