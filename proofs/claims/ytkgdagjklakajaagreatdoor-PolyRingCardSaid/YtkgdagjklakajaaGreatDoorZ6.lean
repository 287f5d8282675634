/- The row and the card of PolyRing. -/
import Derived.Test.YtkgdagjklakajaaGreatDoorCards
import Derived.Test.YtkgdagjklakajaaGreatDoorTie
import Derived.SevenTiedAt
import Derived.Test.YtkgdagjklakajaaGreatDoorZ5
/- The walks through ogeelaw08.whole and two; the chapter's examples one by one. -/
namespace Go.Proofs.YtkgdagjklakajaaGreatDoor
open Go.RowKit
theorem bM (n : Int) (w : World) (h1 : -9223372036854775808 ≤ n) (h2 : n ≤ 9223372036854775807) :
  Calls Tryz.prog 40 #[.int .i64 n] w fun r w' => r = .returned (.agg #[.bool (nR (n : Dyadic)).neg, .string (nR (n : Dyadic)).cC, .int .i64 (nR (n : Dyadic)).e]) ∧ Below w.heap.size w w' := by
 have hh := Hp.start w
 refine ak (N := 5) (l := [.int .i64 n]) Tryz.func40 rfl rfl (by simp) ?_
 refine sr ?_
 refine cj hh ?_
 intro b2 w2 hh
 refine aa (sr (mI ?_))
 refine bE hh (uv n _ h1 h2) rfl ?_
 intro w4 hh
 refine bK hh 0 [_,_,_] ?_
 intro ws hh
 replace hh : Hp _ (.blk _ _ [_, _, _] _ :: _) _ := hh
 refine aa (ao ?_)
 refine hO (aU rfl (aV (vs := [_, _, _]) aC.out (hh.aw (i := 0) (n := 3) rfl rfl) rfl) bg) ?_
 exact ⟨rfl, hh.below⟩
def sT (n : Int) : ZT := [([0, 1], n), ([1, 0], 1)]
theorem lj (n : Int) (w : World) (h1 : -9223372036854775808 ≤ n) (h2 : n ≤ 9223372036854775807) :
  Calls Tryz.prog 88 #[.int .i64 n] w fun r w' => ∃ (A : Option Addr) (c : Nat), r = .returned (.agg #[.int .i64 2, .slice A 2 c]) ∧ Hp w [.row A 2 c 58 4 (a8 TR.cells (zT (sT n)))] w' := by
 have hh := Hp.start w
 refine ak (N := 10) (l := [.int .i64 n]) Tryz.func88 rfl rfl (by simp) ?_
 refine sr ?_
 refine cj hh ?_
 intro b2 w2 hh
 refine aa (sr (mI ?_))
 refine bE hh (bM n _ h1 h2) rfl ?_
 intro w4 hh
 refine eM [_,_,_,_] ?_
 refine bE hh (bM 1 _ (by decide) (by decide)) rfl ?_
 intro w6 hh
 refine eM [_,_,_,_] ?_
 refine aO hh (cs := [_, _, _, _, _, _, _, _]) aJ.out aC.out (aG (bq rfl) (aG (bq rfl) bC)) rfl rfl (by decide) (by decide) (by decide) rfl (by decide) ?_
 intro b8 w8 hh
 refine eM [_,_] ?_
 refine bK hh 1 [_,_] ?_
 intro ws hh
 replace hh : Hp _ (_ :: .blk _ _ [_, _] _ :: _) _ := hh
 refine aa (ao ?_)
 refine hO (aU rfl (aV (vs := [_, _]) aC.out (hh.aw (i := 1) (n := 2) rfl rfl) rfl) bg) ?_
 exact ⟨_, _, rfl, hh.sub (List.Sublist.cons_cons _ (List.nil_sublist _))⟩
theorem dm.zT {v : Int} {K : ZT} {g : PX} {w : World} (o : dm 0 v (zT K) g) (h : g.at_ w) : ∃ A c, g = ⟨v, A, K.length, c, zT K⟩ := by
 obtain ⟨gv, gA, gn, gc, gts⟩ := g
 obtain rfl : v = gv := o.v.symm
 obtain rfl : Go.Proofs.YtkgdagjklakajaaGreatDoor.zT K = gts := o.ts.symm
 have : (Go.Proofs.YtkgdagjklakajaaGreatDoor.zT K).length = gn := h.ln
 rw [gG] at this
 exact ⟨gA, gc, by rw [this]⟩
theorem Aa (L K : ZT) (v : Int) (A : Option Addr) (n c : Nat) (w : World) (hT : gM w) (hS : Sl w A n 4 (a8 TR.cells (zT L))) (hn : n ≤ 4096) (hf : gh v = true) (hk : (zC K && zE K L) = true) (hm : zM v L = true) (hb : zB L = true) :
  Calls Tryz.prog 18 #[.int .i64 v, .slice A n c] w fun r w' => ∃ A' c', r = .returned (.tuple #[.agg #[.int .i64 v, .slice A' K.length c'], .int .i64 0]) ∧ Hp w [.row A' K.length c' 58 4 (a8 TR.cells (zT K))] w' := by
 have hln := hS.ck TR.len (by decide)
 rw [gG] at hln
 have := jk v A n c (zT L) 24 w hT hS (by omega) (by decide) (tW hb).1 fun t ht => Nat.le_trans ((tW hb).2 t ht) (by decide)
 rw [xE hf hm (by omega), lI hk] at this
 refine this.mono fun r w' ⟨g, og, hr, h3⟩ => ?_
 obtain ⟨A', c', rfl⟩ := og.zT (h3.az (i := 0) rfl)
 exact ⟨A', c', hr, h3⟩
theorem fJ {g h : PX} (h1 : g.e = 0) (h2 : h.e = 0) (h3 : h.v = g.v) : eX [g, h] = 0 := by
 have e : [g, h].find? (fun g => decide (g.e ≠ 0)) = none := gx (List.any_eq_false.2 fun x hx => by
  rcases List.mem_cons.1 hx with rfl | hx
  ·simp [h1]
  ·rw [List.mem_singleton.1 hx]; simp [h2])
 unfold eX
 rw [e]
 show (if 2 = 0 ∨ vV [g, h] = true then (1 : Int) else 0) = 0
 rw [if_neg]
 rintro (h0 | h0)
 ·cases h0
 ·obtain ⟨x, hx, hx2⟩ := List.any_eq_true.1 h0
  have hx3 : x.v ≠ g.v := of_decide_eq_true hx2
  rcases List.mem_cons.1 hx with rfl | hx
  ·exact hx3 rfl
  ·rw [List.mem_singleton.1 hx] at hx3
   exact hx3 h3
theorem AF (P Q K : ZT) (v : Int) (L : Option Addr) (A B : Option Addr) (a b n c : Nat) (w : World) (hT : gM w) (hL : Sl w L 2 2 [.int .i64 v, .slice A n a, .int .i64 v, .slice B n b]) (hA : Sl w A n 4 (a8 TR.cells (zT P))) (hB : Sl w B n 4 (a8 TR.cells (zT Q))) (hc : 2 ≤ c) (ha : n ≤ a) (hb : n ≤ b) (hn : n ≤ 60) (hf : gh v = true)
  (h1 : (zC P && zM v P) = true) (h2 : (zC Q && zM v Q) = true) (h3 : (zB P && zB Q) = true) (hk : (zC K && zE K (zP P Q)) = true) (he : (zU P Q).all (fun e => decide (e = 0)) = true) :
  Calls Tryz.prog 33 #[.slice L 2 c] w fun r w' => ∃ A' c', r = .returned (.tuple #[.agg #[.int .i64 v, .slice A' K.length c'], .int .i64 0]) ∧ Hp w [.row A' K.length c' 58 4 (a8 TR.cells (zT K))] w' := by
 have hlp := hA.ck TR.len (by decide)
 have hlq := hB.ck TR.len (by decide)
 rw [gG] at hlp hlq
 rw [Bool.and_eq_true] at h3
 have hpe : (⟨v, A, n, a, zT P⟩ : PX).e = 0 := kA hf h1 (by omega)
 have hqe : (⟨v, B, n, b, zT Q⟩ : PX).e = 0 := kA hf h2 (by omega)
 have := gF L 2 c [⟨v, A, n, a, zT P⟩, ⟨v, B, n, b, zT Q⟩] 24 w hT hL hc (by decide) (fun g hg => by
  rcases List.mem_cons.1 hg with rfl | hg
  ·exact hA
  ·rw [List.mem_singleton.1 hg]; exact hB) (fun g hg => by
  rcases List.mem_cons.1 hg with rfl | hg
  ·exact nV h3.1 (by omega) ha
  ·rw [List.mem_singleton.1 hg]; exact nV h3.2 (by omega) hb) (by decide)
 have hlk := fJ hpe hqe rfl
 have hms : uA [⟨v, A, n, a, zT P⟩, ⟨v, B, n, b, zT Q⟩] = (zT K, 0) := by
  show dT (zT P, 0) ⟨v, B, n, b, zT Q⟩ = _
  exact (tL (g := ⟨v, B, n, b, zT Q⟩) (h := ⟨0, none, 0, 0, zT Q⟩) rfl).trans (sv hk he (by rw [hlp, hlq]; exact Nat.le_trans (Nat.mul_le_mul hn hn) (by decide)))
 unfold eE at this
 rw [if_pos hlk, hms] at this
 refine this.mono fun r w' ⟨g, og, hr, h3⟩ => ?_
 obtain ⟨A', c', rfl⟩ := og.zT (h3.az (i := 0) rfl)
 exact ⟨A', c', hr, h3⟩
theorem Aw (P K : ZT) (A : Option Addr) (n c : Nat) (w : World) (hT : gM w) (hA : Sl w A n 4 (a8 TR.cells (zT P))) (hc : n ≤ c) (hn : n ≤ 60)
  (h1 : (zC P && zM 1 P) = true) (h3 : zB P = true) (h0 : (zC P && zE P (zP [([0], 1)] P)) = true) (e0 : (zU [([0], 1)] P).all (fun e => decide (e = 0)) = true) (hk : (zC K && zE K (zP P P)) = true) (he : (zU P P).all (fun e => decide (e = 0)) = true) :
  Calls Tryz.prog 35 #[.agg #[.int .i64 1, .slice A n c], .int .i64 2] w fun r w' => ∃ A' c', r = .returned (.tuple #[.agg #[.int .i64 1, .slice A' K.length c'], .int .i64 0]) ∧ Hp w [.row A' K.length c' 58 4 (a8 TR.cells (zT K))] w' := by
 have hlp := hA.ck TR.len (by decide)
 rw [gG] at hlp
 have hpe : (⟨1, A, n, c, zT P⟩ : PX).e = 0 := kA (show gh 1 = true by decide) h1 (by omega)
 have := nm ⟨1, A, n, c, zT P⟩ 2 24 w hT hA (nV h3 (by omega) hc) (by decide) (.inl (by decide))
 have hg1 : aP [⟨fu 1, nR ((1 : Int) : Dyadic)⟩] = zT [([0], 1)] := lI (L := [([0], 1)]) (K := [([0], 1)]) rfl
 have hpw : j9 ⟨1, A, n, c, zT P⟩ 2 = (zT K, 0) := by
  show dT (dT (aP [⟨fu 1, nR ((1 : Int) : Dyadic)⟩], 0) ⟨1, A, n, c, zT P⟩) ⟨1, A, n, c, zT P⟩ = _
  have e : ∀ a, dT a ⟨1, A, n, c, zT P⟩ = dT a ⟨0, none, 0, 0, zT P⟩ := fun a => tL rfl
  rw [hg1, e, e, sv h0 e0 (by rw [hlp]; show 1 * n ≤ 4096; omega)]
  exact sv hk he (by rw [hlp]; exact Nat.le_trans (Nat.mul_le_mul hn hn) (by decide))
 have e2 : nO ⟨1, A, n, c, zT P⟩ 2 = 0 := by
  unfold nO
  rw [if_pos hpe, if_neg (by decide), show ((2 : Int).toNat) = 2 from rfl, hpw]
 rw [e2, show ((2 : Int).toNat) = 2 from rfl, hpw] at this
 refine this.mono fun r w' ⟨g, og, hr, h3⟩ => ?_
 obtain ⟨A', c', rfl⟩ := og.zT (h3.az (i := 0) rfl)
 exact ⟨A', c', hr, h3⟩
theorem sy (K : ZT) (A : Option Addr) (n c : Nat) (B : Option Addr) (d : Nat) (w : World) (hA : Sl w A n 4 (a8 TR.cells (zT K))) (hB : Sl w B n 4 (a8 TR.cells (zT K))) (hn : n ≤ 60) :
  Calls Tryz.prog 30 #[.slice A n c, .slice B n d] w fun r w' => r = .returned (.bool true) ∧ Below w.heap.size w w' :=
 (k5 A n c (zT K) B n d (zT K) w hA hB (by omega) (by omega)).mono fun r w' ⟨v, hr, hv, hb⟩ => ⟨by rw [hr, hv.2 rfl], hb⟩
end Go.Proofs.YtkgdagjklakajaaGreatDoor
/- The walk through ogeelaw08.awake. -/
namespace Go.Proofs.YtkgdagjklakajaaGreatDoor
open Go.RowKit
theorem xO (w : World) (hT : gM w) : Calls Tryz.prog 28 #[.int .i64 2, .int .i64 2] w fun r w' => ∃ g : PX, r = .returned (.tuple #[.agg #[.int .i64 g.v, .slice g.A g.n g.c], .int .i64 1]) ∧ Below w.heap.size w w' :=
 (rY 2 2 w hT).mono fun r w' ⟨g, _, hr, h3⟩ => ⟨g, hr, h3.below⟩
theorem vi (w : World) (hT : gM w) : Calls Tryz.prog 26 #[.int .i64 13, .agg #[.bool (nR ((1 : Int) : Dyadic)).neg, .string (nR ((1 : Int) : Dyadic)).cC, .int .i64 (nR ((1 : Int) : Dyadic)).e]] w fun r w' => ∃ g : PX, r = .returned (.tuple #[.agg #[.int .i64 g.v, .slice g.A g.n g.c], .int .i64 1]) ∧ Below w.heap.size w w' := by
 have z1 : Sz 24 ((1 : Int) : Dyadic) := wR (m := 1) (e := 0) (by decide) (by decide) (by decide)
 exact (kF 13 (nR ((1 : Int) : Dyadic)) 24 w hT ⟨z1.ok (by decide), by rw [eO]; exact z1⟩ (by decide)).mono fun r w' ⟨g, _, hr, h3⟩ => ⟨g, hr, h3.below⟩
theorem yu (w : World) (hT : gM w) : Calls Tryz.prog 37 #[.slice none 0 0] w fun r w' => ∃ g : PX, r = .returned (.tuple #[.agg #[.int .i64 g.v, .slice g.A g.n g.c], .int .i64 1]) ∧ Below w.heap.size w w' :=
 (cP none 0 0 [] 24 w hT (Sl.nil _ _ _) (by decide) (fun g hg => nomatch hg) (fun g hg => nomatch hg) (by decide)).mono fun r w' ⟨g, _, hr, h3⟩ => ⟨g, hr, h3.below⟩
theorem yi (A : Option Addr) (c : Nat) (w : World) (hT : gM w) (hA : Sl w A 2 4 (a8 TR.cells (zT (sT 1)))) (hc : 2 ≤ c) : Calls Tryz.prog 35 #[.agg #[.int .i64 2, .slice A 2 c], .int .i64 (-1)] w fun r w' => ∃ g : PX, r = .returned (.tuple #[.agg #[.int .i64 g.v, .slice g.A g.n g.c], .int .i64 1]) ∧ Below w.heap.size w w' := by
 have hpe : (⟨2, A, 2, c, zT (sT 1)⟩ : PX).e = 0 := kA (show gh 2 = true by decide) rfl (by decide)
 have := nm ⟨2, A, 2, c, zT (sT 1)⟩ (-1) 24 w hT hA (nV rfl (by decide) hc) (by decide) (.inl (by decide))
 rw [show nO ⟨2, A, 2, c, zT (sT 1)⟩ (-1) = 1 by unfold nO; rw [if_pos hpe, if_pos (.inl (by decide))]] at this
 exact this.mono fun r w' ⟨g, _, hr, h3⟩ => ⟨g, hr, h3.below⟩
theorem z2 (A : Option Addr) (c : Nat) (w : World) (hT : gM w) (hA : Sl w A 1 4 (a8 TR.cells (zT [([2, 1], 1)]))) (hc : 1 ≤ c) : Calls Tryz.prog 24 #[.agg #[.int .i64 2, .slice A 1 c]] w fun r w' => ∃ A' c', r = .returned (.slice A' 2 c') ∧ Hp w [.row A' 2 c' 3 1 (eU [2, 1])] w' := by
 have hpe : gC 2 (zT [([2, 1], 1)]) = 0 := kA (show gh 2 = true by decide) rfl (by decide)
 have := rG ⟨2, A, 1, c, zT [([2, 1], 1)]⟩ 24 w hT hA (nV rfl (by decide) hc)
 rw [show zy 2 (zT [([2, 1], 1)]) = [2, 1] by unfold zy; rw [if_pos hpe]; rfl] at this
 exact this
theorem AG (A B : Option Addr) (c d : Nat) (w : World) (hA : Sl w A 2 1 (eU [2, 1])) (hB : Sl w B 2 1 (eU [2, 1])) : Calls Tryz.prog 23 #[.slice A 2 c, .slice B 2 d] w fun r w' => r = .returned (.bool true) ∧ Below w.heap.size w w' := n5 A B 2 2 c d [2, 1] [2, 1] w hA hB (by decide) (by decide)
theorem eN (w : World) (hT : gM w) : Calls Tryz.prog 17 #[] w fun r w' => r = .returned (.bool true) ∧ Below w.heap.size w w' := by
 have hh := Hp.start w
 refine ak (N := 128) (l := []) Tryz.func17 rfl rfl (by simp) ?_
 refine sr (aB (aa (sr ?_)))
 refine bE hh (bM 2 _ (by decide) (by decide)) rfl ?_
 intro w17 hh
 refine eM [_,_,_,_] ?_
 refine bE hh (bM 3 _ (by decide) (by decide)) rfl ?_
 intro w19 hh
 refine eM [_,_,_,_] ?_
 refine bE hh (bM (-2) _ (by decide) (by decide)) rfl ?_
 intro w21 hh
 refine eM [_,_,_,_] ?_
 refine aO hh (cs := [_, _, _, _, _, _, _, _, _, _, _, _]) aJ.out aC.out (aG (bq rfl) (aG (bq rfl) (aG (bq rfl) bC))) rfl rfl (by decide) (by decide) (by decide) rfl (by decide) ?_
 intro b23 w23 hh
 refine aH (Aa [([1], 2), ([0], 3), ([1], -2)] [([0], 3)] 1 _ 3 _ _ (hT.hp hh) (hh.az (i := 0) rfl) (by decide) rfl rfl rfl rfl) ar.out rfl (by decide) ?_
 rintro e_ w24 ⟨A1, c1, rfl, h2⟩
 refine ⟨_, rfl, ?_⟩
 replace hh := hh.join h2
 simp only [List.cons_append, List.nil_append] at hh
 clear h2
 replace hh := hh.sub (List.Sublist.cons_cons _ (List.Sublist.cons _ List.Sublist.slnil))
 refine mT ?_
 refine cM ?_
 refine cM ?_
 refine cj hh ?_
 intro b1 w1 hh
 refine bK hh 0 [_,_] ?_
 intro ws hh
 replace hh : Hp _ (.blk _ _ [_, _] _ :: _) _ := hh
 refine aI (aa (sr ?_))
 refine aH (lj 1 _ (by decide) (by decide)) ar.out rfl (by decide) ?_
 rintro e_ w28 ⟨A2, c2, rfl, h2⟩
 refine ⟨_, rfl, ?_⟩
 replace hh := hh.join h2
 simp only [List.cons_append, List.nil_append] at hh
 clear h2
 refine aH (lj (-1) _ (by decide) (by decide)) ar.out rfl (by decide) ?_
 rintro e_ w29 ⟨A3, c3, rfl, h2⟩
 refine ⟨_, rfl, ?_⟩
 replace hh := hh.join h2
 simp only [List.cons_append, List.nil_append] at hh
 clear h2
 refine aO hh (cs := [_, _, _, _]) aJ.out aC.out (aG (bq rfl) (aG (bq rfl) bC)) rfl rfl (by decide) (by decide) (by decide) rfl (by decide) ?_
 intro b30 w30 hh
 refine aH (AF (sT 1) (sT (-1)) [([0, 2], -1), ([2, 0], 1)] 2 _ A2 A3 c2 c3 2 2 _ (hT.hp hh) (hh.az (i := 0) rfl) (hh.az (i := 2) rfl) (hh.az (i := 1) rfl) (by decide) (hh.dI (i := 2) rfl) (hh.dI (i := 1) rfl) (by decide) rfl rfl rfl rfl rfl rfl) ar.out rfl (by decide) ?_
 rintro e_ w31 ⟨A4, c4, rfl, h2⟩
 refine ⟨_, rfl, ?_⟩
 replace hh := hh.join h2
 simp only [List.cons_append, List.nil_append] at hh
 clear h2
 replace hh := hh.sub (List.Sublist.cons_cons _ (List.Sublist.cons _ (List.Sublist.cons _ (List.Sublist.cons _ (List.Sublist.cons_cons _ (List.Sublist.cons_cons _ List.Sublist.slnil))))))
 refine mT ?_
 refine cM ?_
 refine cM ?_
 refine cj hh ?_
 intro b3 w3 hh
 refine bK hh 0 [_,_] ?_
 intro ws hh
 replace hh : Hp _ (.blk _ _ [_, _] _ :: _) _ := hh
 refine aI (aa (sr ?_))
 refine bE hh (bM 1 _ (by decide) (by decide)) rfl ?_
 intro w35 hh
 refine eM [_,_,_,_] ?_
 refine bE hh (bM 1 _ (by decide) (by decide)) rfl ?_
 intro w37 hh
 refine eM [_,_,_,_] ?_
 refine aO hh (cs := [_, _, _, _, _, _, _, _]) aJ.out aC.out (aG (bq rfl) (aG (bq rfl) bC)) rfl rfl (by decide) (by decide) (by decide) rfl (by decide) ?_
 intro b39 w39 hh
 refine eM [_,_] ?_
 refine aH (Aw [([0], 1), ([1], 1)] [([0], 1), ([1], 2), ([2], 1)] _ 2 2 _ (hT.hp hh) (hh.az (i := 0) rfl) (by decide) (by decide) rfl rfl rfl rfl rfl rfl) ar.out rfl (by decide) ?_
 rintro e_ w41 ⟨A5, c5, rfl, h2⟩
 refine ⟨_, rfl, ?_⟩
 replace hh := hh.join h2
 simp only [List.cons_append, List.nil_append] at hh
 clear h2
 replace hh := hh.sub (List.Sublist.cons_cons _ (List.Sublist.cons _ (List.Sublist.cons_cons _ (List.Sublist.cons_cons _ (List.Sublist.cons_cons _ (List.Sublist.cons_cons _ List.Sublist.slnil))))))
 refine mT ?_
 refine cM ?_
 refine cM ?_
 refine cj hh ?_
 intro b5 w5 hh
 refine bK hh 0 [_,_] ?_
 intro ws hh
 replace hh : Hp _ (.blk _ _ [_, _] _ :: _) _ := hh
 refine aI (aa (sr ?_))
 refine aH (yu _ (hT.hp hh)) ar.out rfl (by decide) ?_
 rintro e_ w45 ⟨g4, rfl, hb_⟩
 refine ⟨_, rfl, ?_⟩
 replace hh := hh.ext hb_
 refine mT ?_
 refine cM ?_
 refine cM ?_
 refine cj hh ?_
 intro b7 w7 hh
 refine bK hh 0 [_,_] ?_
 intro ws hh
 replace hh : Hp _ (.blk _ _ [_, _] _ :: _) _ := hh
 refine aI (aa (sr ?_))
 replace hh := hh.sub (List.Sublist.cons _ (List.Sublist.cons_cons _ (List.Sublist.cons_cons _ (List.Sublist.cons_cons _ (List.Sublist.cons_cons _ (List.Sublist.cons_cons _ (List.Sublist.cons_cons _ List.Sublist.slnil)))))))
 refine aH (xO _ (hT.hp hh)) ar.out rfl (by decide) ?_
 rintro e_ w49 ⟨g5, rfl, hb_⟩
 refine ⟨_, rfl, ?_⟩
 replace hh := hh.ext hb_
 refine mT ?_
 refine cM ?_
 refine cM ?_
 refine cj hh ?_
 intro b9 w9 hh
 refine bK hh 0 [_,_] ?_
 intro ws hh
 replace hh : Hp _ (.blk _ _ [_, _] _ :: _) _ := hh
 refine aI (aa (sr ?_))
 replace hh := hh.sub (List.Sublist.cons _ (List.Sublist.cons_cons _ (List.Sublist.cons_cons _ (List.Sublist.cons_cons _ (List.Sublist.cons_cons _ (List.Sublist.cons_cons _ (List.Sublist.cons_cons _ List.Sublist.slnil)))))))
 refine aH (lj 1 _ (by decide) (by decide)) ar.out rfl (by decide) ?_
 rintro e_ w53 ⟨A6, c6, rfl, h2⟩
 refine ⟨_, rfl, ?_⟩
 replace hh := hh.join h2
 simp only [List.cons_append, List.nil_append] at hh
 clear h2
 refine aH (yi A6 c6 _ (hT.hp hh) (hh.az (i := 0) rfl) (hh.dI (i := 0) rfl)) ar.out rfl (by decide) ?_
 rintro e_ w54 ⟨g6, rfl, hb_⟩
 refine ⟨_, rfl, ?_⟩
 replace hh := hh.ext hb_
 refine mT ?_
 refine cM ?_
 refine cM ?_
 refine cj hh ?_
 intro b11 w11 hh
 refine bK hh 0 [_,_] ?_
 intro ws hh
 replace hh : Hp _ (.blk _ _ [_, _] _ :: _) _ := hh
 refine aI (aa (sr ?_))
 replace hh := hh.sub (List.Sublist.cons _ (List.Sublist.cons _ (List.Sublist.cons_cons _ (List.Sublist.cons_cons _ (List.Sublist.cons_cons _ (List.Sublist.cons_cons _ (List.Sublist.cons_cons _ (List.Sublist.cons_cons _ List.Sublist.slnil))))))))
 refine bE hh (bM 1 _ (by decide) (by decide)) rfl ?_
 intro w58 hh
 refine aH (vi _ (hT.hp hh)) ar.out rfl (by decide) ?_
 rintro e_ w59 ⟨g7, rfl, hb_⟩
 refine ⟨_, rfl, ?_⟩
 replace hh := hh.ext hb_
 refine mT ?_
 refine cM ?_
 refine cM ?_
 refine cj hh ?_
 intro b13 w13 hh
 refine bK hh 0 [_,_] ?_
 intro ws hh
 replace hh : Hp _ (.blk _ _ [_, _] _ :: _) _ := hh
 refine aI (aa (sr ?_))
 replace hh := hh.sub (List.Sublist.cons _ (List.Sublist.cons_cons _ (List.Sublist.cons_cons _ (List.Sublist.cons_cons _ (List.Sublist.cons_cons _ (List.Sublist.cons_cons _ (List.Sublist.cons_cons _ List.Sublist.slnil)))))))
 refine bE hh (bM 1 _ (by decide) (by decide)) rfl ?_
 intro w62 hh
 refine eM [_,_,_,_] ?_
 refine aO hh (cs := [_, _, _, _]) aJ.out aC.out (aG (bq rfl) bC) rfl rfl (by decide) (by decide) (by decide) rfl (by decide) ?_
 intro b64 w64 hh
 refine eM [_,_] ?_
 refine aH (z2 _ 1 _ (hT.hp hh) (hh.az (i := 0) rfl) (by decide)) ar.out rfl (by decide) ?_
 rintro e_ w66 ⟨A8, c8, rfl, h2⟩
 refine ⟨_, rfl, ?_⟩
 replace hh := hh.join h2
 simp only [List.cons_append, List.nil_append] at hh
 clear h2
 replace hh := hh.sub (List.Sublist.cons_cons _ (List.Sublist.cons _ (List.Sublist.cons_cons _ (List.Sublist.cons_cons _ (List.Sublist.cons_cons _ (List.Sublist.cons_cons _ (List.Sublist.cons_cons _ (List.Sublist.cons_cons _ List.Sublist.slnil))))))))
 refine aL (aa (ai ?_))
 refine dw [] [] [0, 1, 3, 7, 15, 31, 63, 127, 255, 511, 1023, 2047, 4095, 8191, 16383, 32767, 65535, 131071, 262143, 524287, 1048575, 2097151, 4194303, 8388607, 16777215, 33554431, 67108863, 134217727, 268435455, 134217727, 671088639, 1744830463, 4294967295, 8589934591, 17179869183, 34359738367, 68719476735, 34359738367, 171798691839, 171798691839, 721554505727, 2095944040447, 4398046511103, 8796093022207, 17592186044415, 35184372088831, 70368744177663, 35184372088831, 175921860444159, 175921860444159, 738871813865471, 738871813865471, 2990671627550719, 8901646138474495, 18014398509481983, 36028797018963967, 72057594037927935, 144115188075855871, 144115188075855871, 576460752303423487, 1152921504606846975, 2305843009213693951] 59 [[(2, none)], [(67, some 0)], [(68, some 1)], [(4, none), (69, some 2)], [(70, some 3), (69, some 2)], [(69, some 2), (71, some 4)], [(72, some 5)], [(6, none), (73, some 6)], [(74, some 7), (73, some 6)], [(73, some 6), (75, some 8)], [(76, some 9)], [(8, none), (77, some 10)], [(78, some 11), (77, some 10)], [(77, some 10), (79, some 12)], [(80, some 13)], [(10, none), (81, some 14)], [(82, some 15), (81, some 14)], [(81, some 14), (83, some 16)], [(84, some 17)], [(12, none), (85, some 18)], [(86, some 19), (85, some 18)], [(85, some 18), (87, some 20)], [(88, some 21)], [(14, none), (89, some 22)], [(90, some 23), (89, some 22)], [(89, some 22), (91, some 24)], [(92, some 25)], [(1, none), (93, some 26)], [(94, some 27), (93, some 26)], [(93, some 26)], [(96, some 29), (93, some 26)], [(97, some 30), (93, some 26)], [(95, some 28), (98, some 31), (93, some 26)], [(93, some 26), (99, some 32)], [(100, some 33)], [(3, none), (101, some 34)], [(102, some 35), (101, some 34)], [(101, some 34)], [(104, some 37), (101, some 34)], [(101, some 34)], [(106, some 39), (101, some 34)], [(105, some 38), (107, some 40), (101, some 34)], [(103, some 36), (108, some 41), (101, some 34)], [(101, some 34), (109, some 42)], [(110, some 43)], [(5, none), (111, some 44)], [(112, some 45), (111, some 44)], [(111, some 44)], [(114, some 47), (111, some 44)], [(111, some 44)], [(116, some 49), (111, some 44)], [(111, some 44)], [(118, some 51), (111, some 44)], [(115, some 48), (117, some 50), (119, some 52), (111, some 44)], [(113, some 46), (120, some 53), (111, some 44)], [(111, some 44), (121, some 54)], [(122, some 55)], [(15, none), (123, some 56)], [(123, some 56)]] [(58, 125), (57, 124), (56, 123), (55, 122), (54, 121), (53, 120), (52, 119), (51, 118), (50, 117), (49, 116), (48, 115), (47, 114), (46, 113), (45, 112), (44, 111), (43, 110), (42, 109), (41, 108), (40, 107), (39, 106), (38, 105), (37, 104), (36, 103), (35, 102), (34, 101), (33, 100), (32, 99), (31, 98), (30, 97), (29, 96), (28, 95), (27, 94), (26, 93), (25, 92), (24, 91), (23, 90), (22, 89), (21, 88), (20, 87), (19, 86), (18, 85), (17, 84), (16, 83), (15, 82), (14, 81), (13, 80), (12, 79), (11, 78), (10, 77), (9, 76), (8, 75), (7, 74), (6, 73), (5, 72), (4, 71), (3, 70), (2, 69), (1, 68), (0, 67)] hh mixed (by kernel_rfl) dZ rfl (by repeat (first | exact bS | refine bG ?_ | refine bT ?_)) ?_
 refine fe ?_
 refine lM ?_
 refine jJ ?_
 first | refine dS ?_ | refine dU ?_ | refine dG (fe ?_)
 first | refine dS ?_ | refine dU ?_ | refine dG (lM ?_)
 first | refine ov ?_ | refine n6 ?_
 refine jJ ?_
 first | refine dS ?_ | refine dU ?_ | refine dG (fe ?_)
 first | refine dS ?_ | refine dU ?_ | refine dG (lM ?_)
 first | refine ov ?_ | refine n6 ?_
 refine jJ ?_
 first | refine dS ?_ | refine dU ?_ | refine dG (fe ?_)
 first | refine dS ?_ | refine dU ?_ | refine dG (lM ?_)
 first | refine ov ?_ | refine n6 ?_
 refine jJ ?_
 first | refine dS ?_ | refine dU ?_ | refine dG (fe ?_)
 first | refine dS ?_ | refine dU ?_ | refine dG (lM ?_)
 first | refine ov ?_ | refine n6 ?_
 refine jJ ?_
 first | refine dS ?_ | refine dU ?_ | refine dG (fe ?_)
 first | refine dS ?_ | refine dU ?_ | refine dG (lM ?_)
 first | refine ov ?_ | refine n6 ?_
 refine jJ ?_
 first | refine dS ?_ | refine dU ?_ | refine dG (fe ?_)
 first | refine dS ?_ | refine dU ?_ | refine dG (lM ?_)
 first | refine ov ?_ | refine n6 ?_
 refine jJ ?_
 first | refine dS ?_ | refine dU ?_ | refine dG (dN ?_)
 first | refine dS ?_ | refine dU ?_ | refine dG (fC 5 ?_)
 refine bR (i := 29) rfl (fun ρ1 w1 hj hR => (show ρ1 93 = Value.bool _ from hR.1)) (fun ρ1 w1 hj hR => bh ar.out (aF rfl bj)) (fun w1 hj => bM 3 _ (by decide) (by decide)) ?_
 first | refine dS ?_ | refine dU ?_ | refine dG (dB [_,_,_,_] ?_)
 refine en (i := 31) (cs := [_, _, _, _]) rfl (fun ρ1 w1 hj hR => (show ρ1 93 = Value.bool _ from hR.2.1)) aJ.out aC.out (fun ρ1 w1 hj hR => (aG (show ρ1 97 = Value.agg (List.toArray _) from hR.1) bC)) rfl rfl (by decide) (by decide) rfl ?_
 refine bz (i := 32) (Is (.bool true)) Is.ext ?_ ?_
 ·intro ρ1 w1 hj hR
  obtain ⟨A98, c98, h98, s98⟩ := hR.2.1
  refine dQ rfl ((show ρ1 93 = Value.bool _ from hR.2.2.1)) ?_
  exact cG rfl (bh ar.out (aF (show ρ1 95 = Value.slice _ _ _ from hR.1) (aF h98 bj))) (sy [([0], 3)] A1 1 c1 A98 c98 _ (hj.hp.az (i := 6) rfl) s98 (by decide)) (fun _ _ hq => ⟨_, hq.1, hq.2, rfl⟩)
 first | refine ov ?_ | refine n6 ?_
 refine jJ ?_
 first | refine dS ?_ | refine dU ?_ | refine dG (dN ?_)
 first | refine dS ?_ | refine dU ?_ | refine dG (fC 3 ?_)
 refine bR (i := 37) rfl (fun ρ1 w1 hj hR => (show ρ1 101 = Value.bool _ from hR.1)) (fun ρ1 w1 hj hR => bh ar.out (aF rfl bj)) (fun w1 hj => bM (-1) _ (by decide) (by decide)) ?_
 first | refine dS ?_ | refine dU ?_ | refine dG (dB [_,_,_,_] ?_)
 refine bR (i := 39) rfl (fun ρ1 w1 hj hR => (show ρ1 101 = Value.bool _ from hR.1)) (fun ρ1 w1 hj hR => bh ar.out (aF rfl bj)) (fun w1 hj => bM 1 _ (by decide) (by decide)) ?_
 first | refine dS ?_ | refine dU ?_ | refine dG (dB [_,_,_,_] ?_)
 refine en (i := 41) (cs := [_, _, _, _, _, _, _, _]) rfl (fun ρ1 w1 hj hR => (show ρ1 101 = Value.bool _ from hR.2.2.1)) aJ.out aC.out (fun ρ1 w1 hj hR => (aG (show ρ1 105 = Value.agg (List.toArray _) from hR.1) (aG (show ρ1 107 = Value.agg (List.toArray _) from hR.2.1) bC))) rfl rfl (by decide) (by decide) rfl ?_
 refine bz (i := 42) (Is (.bool true)) Is.ext ?_ ?_
 ·intro ρ1 w1 hj hR
  obtain ⟨A108, c108, h108, s108⟩ := hR.2.1
  refine dQ rfl ((show ρ1 101 = Value.bool _ from hR.2.2.1)) ?_
  exact cG rfl (bh ar.out (aF (show ρ1 103 = Value.slice _ _ _ from hR.1) (aF h108 bj))) (sy [([0, 2], -1), ([2, 0], 1)] A4 2 c4 A108 c108 _ (hj.hp.az (i := 4) rfl) s108 (by decide)) (fun _ _ hq => ⟨_, hq.1, hq.2, rfl⟩)
 first | refine ov ?_ | refine n6 ?_
 refine jJ ?_
 first | refine dS ?_ | refine dU ?_ | refine dG (dN ?_)
 first | refine dS ?_ | refine dU ?_ | refine dG (fC 1 ?_)
 refine bR (i := 47) rfl (fun ρ1 w1 hj hR => (show ρ1 111 = Value.bool _ from hR.1)) (fun ρ1 w1 hj hR => bh ar.out (aF rfl bj)) (fun w1 hj => bM 1 _ (by decide) (by decide)) ?_
 first | refine dS ?_ | refine dU ?_ | refine dG (dB [_,_,_,_] ?_)
 refine bR (i := 49) rfl (fun ρ1 w1 hj hR => (show ρ1 111 = Value.bool _ from hR.1)) (fun ρ1 w1 hj hR => bh ar.out (aF rfl bj)) (fun w1 hj => bM 2 _ (by decide) (by decide)) ?_
 first | refine dS ?_ | refine dU ?_ | refine dG (dB [_,_,_,_] ?_)
 refine bR (i := 51) rfl (fun ρ1 w1 hj hR => (show ρ1 111 = Value.bool _ from hR.1)) (fun ρ1 w1 hj hR => bh ar.out (aF rfl bj)) (fun w1 hj => bM 1 _ (by decide) (by decide)) ?_
 first | refine dS ?_ | refine dU ?_ | refine dG (dB [_,_,_,_] ?_)
 refine en (i := 53) (cs := [_, _, _, _, _, _, _, _, _, _, _, _]) rfl (fun ρ1 w1 hj hR => (show ρ1 111 = Value.bool _ from hR.2.2.2.1)) aJ.out aC.out (fun ρ1 w1 hj hR => (aG (show ρ1 115 = Value.agg (List.toArray _) from hR.1) (aG (show ρ1 117 = Value.agg (List.toArray _) from hR.2.1) (aG (show ρ1 119 = Value.agg (List.toArray _) from hR.2.2.1) bC)))) rfl rfl (by decide) (by decide) rfl ?_
 refine bz (i := 54) (Is (.bool true)) Is.ext ?_ ?_
 ·intro ρ1 w1 hj hR
  obtain ⟨A120, c120, h120, s120⟩ := hR.2.1
  refine dQ rfl ((show ρ1 111 = Value.bool _ from hR.2.2.1)) ?_
  exact cG rfl (bh ar.out (aF (show ρ1 113 = Value.slice _ _ _ from hR.1) (aF h120 bj))) (sy [([0], 1), ([1], 2), ([2], 1)] A5 3 c5 A120 c120 _ (hj.hp.az (i := 2) rfl) s120 (by decide)) (fun _ _ hq => ⟨_, hq.1, hq.2, rfl⟩)
 first | refine ov ?_ | refine n6 ?_
 refine jJ ?_
 first | refine dS ?_ | refine dU ?_ | refine dG (iB ?_)
 refine en (i := 58) (cs := [_, _]) rfl (fun ρ1 w1 hj hR => (show ρ1 123 = Value.bool _ from hR.1)) aJ.out aC.out (fun ρ1 w1 hj hR => (aG rfl (aG rfl bC))) rfl rfl (by decide) (by decide) rfl ?_
 refine bo ?_
 intro f W hJ hV _
 have hb_9 := hJ.bl
 obtain ⟨v125, v124, v123, v122, v121, v120, v119, v118, v117, v116, v115, v114, v113, v112, v111, v110, v109, v108, v107, v106, v105, v104, v103, v102, v101, v100, v99, v98, v97, v96, v95, v94, v93, v92, v91, v90, v89, v88, v87, v86, v85, v84, v83, v82, v81, v80, v79, v78, v77, v76, v75, v74, v73, v72, v71, v70, v69, v68, v67, _⟩ := hV
 obtain ⟨A98, c98, e98, f98⟩ : Rows _ _ _ (f 31) W := v98
 obtain ⟨A108, c108, e108, f108⟩ : Rows _ _ _ (f 41) W := v108
 obtain ⟨A120, c120, e120, f120⟩ : Rows _ _ _ (f 53) W := v120
 obtain ⟨A125, c125, e125, f125⟩ : Rows _ _ _ (f 58) W := v125
 replace hh := hJ.hp
 refine a7 (bu (ah e125 (ah v124 (ah v123 (ah v122 (ah v121 (ah e120 (ah v119 (ah v118 (ah v117 (ah v116 (ah v115 (ah v114 (ah v113 (ah v112 (ah v111 (ah v110 (ah v109 (ah e108 (ah v107 (ah v106 (ah v105 (ah v104 (ah v103 (ah v102 (ah v101 (ah v100 (ah v99 (ah e98 (ah v97 (ah v96 (ah v95 (ah v94 (ah v93 (ah v92 (ah v91 (ah v90 (ah v89 (ah v88 (ah v87 (ah v86 (ah v85 (ah v84 (ah v83 (ah v82 (ah v81 (ah v80 (ah v79 (ah v78 (ah v77 (ah v76 (ah v75 (ah v74 (ah v73 (ah v72 (ah v71 (ah v70 (ah v69 (ah v68 (ah v67 a6)))))))))))))))))))))))))))))))))))))))))))))))))))))))))))) ?_
 dsimp only [cJ]
 clear e98 e108 e120 e125 hJ
 refine aX rfl rfl ?_
 refine bE hh (AG A8 A125 c8 c125 _ (hh.az (i := 0) rfl) f125) rfl ?_
 intro w126 hh
 first | refine ct ?_ | refine cq ?_
 refine aB (aa (ao ?_))
 refine cd ?_
 exact ⟨rfl, hh.below⟩
end Go.Proofs.YtkgdagjklakajaaGreatDoor
/- The walk through the law PolyMakes. -/
namespace Go.Proofs.YtkgdagjklakajaaGreatDoor
open Go.RowKit
def AH (ds : List Int) : VP := fun v W => ∃ g : Option Addr × Nat, v = .slice g.1 ds.length g.2 ∧ Sl W g.1 ds.length 1 (eU ds)
theorem gg {g h : PX} (w : World) (hg : g.at_ w) (hh : h.at_ w) (e : g.v = h.v ∧ g.ts = h.ts) (hn : g.n ≤ 1000000) (hm : h.n ≤ 1000000) :
  Calls Tryz.prog 20 #[.agg #[.int .i64 g.v, .slice g.A g.n g.c], .agg #[.int .i64 h.v, .slice h.A h.n h.c]] w fun r w' => r = .returned (.bool true) ∧ Below w.heap.size w w' :=
 (qW g h w hg hh hn hm).mono fun r w' ⟨v, hr, hv, hb⟩ => ⟨by rw [hr, hv.2 e], hb⟩
end Go.Proofs.YtkgdagjklakajaaGreatDoor
/- Plain: what is answered without an error may be; with one it is zero. -/
namespace Go.Proofs.YtkgdagjklakajaaGreatDoor
open Go.RowKit
structure vd (E : Int) (g : PX) : Prop where
 bad : E ≠ 0 → g.v = 0 ∧ g.ts = []
 ok : E = 0 → g.e = 0 ∧ gi 100000 g.ts ∧ ∀ t ∈ g.ts, t.m.size ≤ 100000
theorem dm.AJ {E v : Int} {ts : List TR} {g : PX} (o : dm E v ts g) (h : E = 0 → gC v ts = 0 ∧ gi 100000 ts ∧ ∀ t ∈ ts, t.m.size ≤ 100000) : vd E g := by
 refine ⟨fun hE => ⟨by rw [o.v, if_neg hE], by rw [o.ts, if_neg hE]⟩, fun hE => ?_⟩
 have h1 := h hE
 have e1 : g.v = v := by rw [o.v, if_pos hE]
 have e2 : g.ts = ts := by rw [o.ts, if_pos hE]
 unfold PX.e
 rw [e1, e2]
 exact h1
theorem pK {l : List TR} (h : gJ l = 0) : (aP l).length ≤ 4096 := by
 unfold gJ at h
 by_cases h4 : 4096 < (aP l).length
 ·rw [if_pos h4] at h; omega
 ·omega
theorem j4 {k j : Nat} {l : List TR} (h : gi k l) (hk : k + l.length ≤ j) (hj : j ≤ 3999990) : gi j (aP l) := fun t ht => by
 have h3 : Sz j t.c.d := (lv (fun t ht => (h t ht).2) t ht).mono hk
 exact ⟨by rw [(eP l).nf t ht]; exact h3.ok hj, h3⟩
theorem j8 {l : List TR} (h : ∀ t ∈ l, t.m.size ≤ 100000) : ∀ t ∈ aP l, t.m.size ≤ 100000 := fun t ht => by
 obtain ⟨s, hs, e⟩ := iJ t ht
 rw [← e]
 exact h s hs
theorem yy {ps : List PX} {g : PX} (o : dm (gd ps) (l0 ps) (aP (gf ps)) g) (hs : ∀ p ∈ ps, gi 2000 p.ts ∧ p.ts.length ≤ 100 ∧ ∀ t ∈ p.ts, t.m.size ≤ 100000) (hn : ps.length ≤ 8) : vd (gd ps) g := o.AJ fun h => by
 unfold gd at h
 by_cases hl : eX ps = 0
 ·rw [if_pos hl] at h
  obtain ⟨hne, hev, hvv⟩ := g9 hl
  have hmem : ∀ t ∈ gf ps, ∃ p ∈ ps, t ∈ p.ts := fun t ht => List.mem_flatMap.1 ht
  have hlen : (gf ps).length ≤ ps.length * 100 := mm fun p hp => (hs p hp).2.1
  obtain ⟨g0, pt, rfl⟩ := List.exists_cons_of_ne_nil hne
  have hf := (eR (hev g0 List.mem_cons_self)).1
  rw [mV (g := g0) rfl] at hvv ⊢
  refine ⟨ji hf (pK h) fun t ht => ?_, j4 (k := 2000) (fun t ht => ?_) (by omega) (by decide), j8 fun t ht => ?_⟩
  ·obtain ⟨p, hp, ht⟩ := hmem t ht
   rw [← hvv p hp]
   exact (eR (hev p hp)).2.2.1 t ht
  ·obtain ⟨p, hp, ht⟩ := hmem t ht
   exact (hs p hp).1 t ht
  ·obtain ⟨p, hp, ht⟩ := hmem t ht
   exact (hs p hp).2.2 t ht
 ·rw [if_neg hl] at h
  exact absurd h hl
theorem tX {p q g : PX} (o : dm (eE [p, q]) (l0 [p, q]) (uA [p, q]).1 g) (hp : gi 2000 p.ts) (hq : gi 2000 q.ts) (sq : ∀ t ∈ q.ts, t.m.size ≤ 100000) : vd (eE [p, q]) g := o.AJ fun h => by
 unfold eE at h
 by_cases hl : eX [p, q] = 0
 ·rw [if_pos hl] at h
  obtain ⟨hne, hev, hvv⟩ := g9 hl
  replace h : fm p.ts q.ts = 0 := h
  have hpe := eR (hev p List.mem_cons_self)
  obtain ⟨h6, hz, h4⟩ := lb h
  have htl := p6 hp hq sq h (by decide)
  show gC p.v (aP (cL p.ts q.ts)) = 0 ∧ gi 100000 (aP (cL p.ts q.ts)) ∧ _
  exact ⟨ji hpe.1 h4 (vc hpe.2.2.1 hz), htl.1.mono (by decide), htl.2⟩
 ·rw [if_neg hl] at h
  exact absurd h hl
theorem xV {p g : PX} {c : Dyadic} (o : dm (rA p c) p.v (aP (p.ts.map (fP c))) g) (hp : gi 2000 p.ts) (hc : Sz 2000 c) (sp : ∀ t ∈ p.ts, t.m.size ≤ 100000) (hn : p.ts.length ≤ 100) : vd (rA p c) g := o.AJ fun h => by
 unfold rA at h
 by_cases hl : p.e = 0
 ·rw [if_pos hl] at h
  have hpe := eR hl
  have hm : ∀ t ∈ p.ts.map (fP c), ∃ s ∈ p.ts, s.m = t.m := fun t ht => by
   obtain ⟨s, hs, rfl⟩ := List.mem_map.1 ht
   exact ⟨s, hs, rfl⟩
  refine ⟨ji hpe.1 (pK h) fun t ht => ?_, j4 (tj hp hc (by decide)) (by rw [List.length_map]; omega) (by decide), j8 fun t ht => ?_⟩
  ·obtain ⟨s, hs, e⟩ := hm t ht
   exact vI e (hpe.2.2.1 s hs)
  ·obtain ⟨s, hs, e⟩ := hm t ht
   rw [← e]
   exact sp s hs
 ·rw [if_neg hl] at h
  exact absurd h hl
end Go.Proofs.YtkgdagjklakajaaGreatDoor
/- Plain: orders do not matter; the walk through ogeelaw08.same. -/
namespace Go.Proofs.YtkgdagjklakajaaGreatDoor
open Go.RowKit
theorem kg {v : Int} {ts : List TR} (h : ts.length ≤ 12) : gC v ts = 0 ∨ gC v ts = 1 := by
 unfold gC
 split
 ·exact .inr rfl
 ·rw [if_neg (by omega)]
  split
  ·exact .inl rfl
  ·exact .inr rfl
theorem ni {ps : List PX} (h : ∀ g ∈ ps, g.e = 0 ∨ g.e = 1) : eX ps = 0 ∨ eX ps = 1 := by
 unfold eX
 split
 ·rename_i f hf
  have h1 := h f (List.mem_of_find?_eq_some hf)
  exact h1
 ·split
  ·exact .inr rfl
  ·exact .inl rfl
theorem oJ {ps : List PX} {v : Int} (h0 : ps ≠ []) (he : ∀ g ∈ ps, g.e = 0) (hv : ∀ g ∈ ps, g.v = v) : eX ps = 0 := by
 unfold eX
 rw [gx (List.any_eq_false.2 fun x hx => by simp [he x hx])]
 show (if ps.length = 0 ∨ vV ps = true then (1 : Int) else 0) = 0
 rw [if_neg]
 rintro (h | h)
 ·exact h0 (List.eq_nil_of_length_eq_zero h)
 ·obtain ⟨x, hx, hx2⟩ := List.any_eq_true.1 h
  have hx3 : x.v ≠ l0 ps := of_decide_eq_true hx2
  obtain ⟨g, l, rfl⟩ := List.exists_cons_of_ne_nil h0
  exact hx3 ((hv x hx).trans (hv g List.mem_cons_self).symm)
theorem u0 {ps qs : List PX} (h : ∀ g, g ∈ ps ↔ g ∈ qs) (hp : ps ≠ []) (hq : qs ≠ []) (hs : ∀ g ∈ ps, g.e = 0 ∨ g.e = 1) : eX ps = eX qs := by
 have hs2 : ∀ g ∈ qs, g.e = 0 ∨ g.e = 1 := fun g hg => hs g ((h g).2 hg)
 rcases ni hs with h1 | h1
 ·obtain ⟨_, h2, h3⟩ := g9 h1
  rw [h1, oJ hq (fun g hg => h2 g ((h g).2 hg)) fun g hg => h3 g ((h g).2 hg)]
 ·rcases ni hs2 with h4 | h4
  ·obtain ⟨_, h2, h3⟩ := g9 h4
   rw [oJ hp (fun g hg => h2 g ((h g).1 hg)) fun g hg => h3 g ((h g).1 hg), h4]
  ·rw [h1, h4]
theorem ke {l : List TR} (h : l.length ≤ 4096) : gJ l = 0 := by
 unfold gJ
 have := bW l
 rw [if_neg (by omega)]
theorem dk {ps : List PX} (h : (gf ps).length ≤ 4096) : gd ps = eX ps := by
 unfold gd
 by_cases h0 : eX ps = 0
 ·rw [if_pos h0, ke h, h0]
 ·rw [if_neg h0]
theorem wH {v : Int} {x y : TR} (hx : eW v x = true) (hy : eW v y = true) : iC x.m y.m = 0 ∨ iC x.m y.m = 3 := by
 unfold eW at hx hy
 rw [Bool.and_eq_true, decide_eq_true_eq] at hx hy
 have hb : fa (· + ·) x.m.data.toList y.m.data.toList = some (List.zipWith (· + ·) (ints x.m.data.toList) (ints y.m.data.toList)) := xG hx.1 hy.1 (by rw [← dF, ← dF]; omega)
 unfold iC mulL
 rw [hb]
 show wL _ = 0 ∨ wL _ = 3
 unfold wL
 split
 ·exact .inl rfl
 ·exact .inr rfl
theorem kp {v : Int} {p q : List TR} (hp : ∀ t ∈ p, eW v t = true) (hq : ∀ t ∈ q, eW v t = true) (hl : p.length * q.length ≤ 4096) :
  (fm p q = 0 ∧ ∀ x ∈ p, ∀ y ∈ q, iC x.m y.m = 0) ∨ (fm p q = 3 ∧ ∃ x ∈ p, ∃ y ∈ q, iC x.m y.m ≠ 0) := by
 have hin : ∀ e ∈ jj p q, ∃ x ∈ p, ∃ y ∈ q, iC x.m y.m = e := fun e he => by
  obtain ⟨x, hx, he⟩ := List.mem_flatMap.1 he
  obtain ⟨y, hy, rfl⟩ := List.mem_map.1 he
  exact ⟨x, hx, y, hy, rfl⟩
 by_cases ha : ∀ e ∈ jj p q, e = 0
 ·refine .inl ⟨?_, fun x hx y hy => ha _ (List.mem_flatMap.2 ⟨x, hx, List.mem_map.2 ⟨y, hy, rfl⟩⟩)⟩
  rw [nH (by omega) ha, ke (by rw [jN]; exact hl)]
 ·refine .inr ?_
  unfold fm
  rw [if_neg (by omega)]
  cases hf : (jj p q).find? fun e => decide (e ≠ 0) with
  | none => exact absurd (fun e he => by have := List.find?_eq_none.1 hf e he; simpa using this) ha
  | some e =>
   have h0 : e ≠ 0 := by have := List.find?_some hf; simpa using this
   obtain ⟨x, hx, y, hy, h1⟩ := hin e (List.mem_of_find?_eq_some hf)
   refine ⟨?_, x, hx, y, hy, by rw [h1]; exact h0⟩
   rcases wH (hp x hx) (hq y hy) with h2 | h2
   ·exact absurd (h1.symm.trans h2) h0
   ·exact h1.symm.trans h2
theorem uN {v : Int} {p q : List TR} (hp : ∀ t ∈ p, eW v t = true) (hq : ∀ t ∈ q, eW v t = true) (hl : p.length * q.length ≤ 4096) : fm p q = fm q p := by
 rcases kp hp hq hl with ⟨h1, h2⟩ | ⟨h1, x, hx, y, hy, h2⟩
 ·rcases kp hq hp (by rw [Nat.mul_comm]; exact hl) with ⟨h3, _⟩ | ⟨_, x, hx, y, hy, h4⟩
  ·rw [h1, h3]
  ·exact absurd (by rw [o5]; exact h2 y hy x hx) h4
 ·rcases kp hq hp (by rw [Nat.mul_comm]; exact hl) with ⟨_, h4⟩ | ⟨h3, _⟩
  ·exact absurd (by rw [o5]; exact h4 y hy x hx) h2
  ·rw [h1, h3]
theorem dm.v0 {v : Int} {ts : List TR} {g : PX} (o : dm 0 v ts g) : g.v = v := o.v
theorem dm.t0 {v : Int} {ts : List TR} {g : PX} (o : dm 0 v ts g) : g.ts = ts := o.ts
theorem iz (p q : PX) : gf [p, q] = p.ts ++ q.ts := by show p.ts ++ (q.ts ++ []) = _; rw [List.append_nil]
theorem tE (p q r : PX) : gf [p, q, r] = p.ts ++ (q.ts ++ r.ts) := by show p.ts ++ (q.ts ++ (r.ts ++ [])) = _; rw [List.append_nil]
theorem rb (p q r : List TR) : aP (p ++ (q ++ r)) = aP (r ++ (q ++ p)) := gk fun m => by
 rw [cm, cm, cm, cm]
 grind
theorem jw (g h : PX) (E F : Int) (w : World) (hg : g.at_ w) (hh0 : h.at_ w) (he : E = 0 → F = 0 → g.v = h.v ∧ g.ts = h.ts) (hn : g.n ≤ 1000000) (hm : h.n ≤ 1000000) :
  Calls Tryz.prog 38 #[.agg #[.int .i64 g.v, .slice g.A g.n g.c], .int .i64 E, .agg #[.int .i64 h.v, .slice h.A h.n h.c], .int .i64 F] w fun r w' => r = .returned (.bool true) ∧ Below w.heap.size w w' := by
 have hh := Hp.start w
 by_cases hE : E = 0
 ·by_cases hF : F = 0
  ·have hs := fun w1 hb => gg (g := g) (h := h) w1 (hg.ext hb) (hh0.ext hb) (he hE hF) hn hm
   refine ak (N := 20) (l := [.agg #[.int .i64 g.v, .slice g.A g.n g.c], .int .i64 E, .agg #[.int .i64 h.v, .slice h.A h.n h.c], .int .i64 F]) Tryz.func38 rfl rfl (by simp) ?_
   refine sr ?_
   refine dp hh [_,_] ?_
   intro b4 w4 hh
   refine dp hh [_,_] ?_
   intro b6 w6 hh
   refine aB (aa (sr (mI ?_)))
   refine dR (mB ?_)
   first | refine gS ?_ | (refine gT ?_; refine mI ?_) | refine gV ?_
   first | refine gS ?_ | (refine gT ?_; refine dR ?_) | refine gV ?_
   first | refine ct ?_ | refine cq ?_
   refine mB ?_
   first | refine gS ?_ | (refine gT ?_; refine cf hh 1 [_,_] ?_) | refine gV ?_
   first | refine gS ?_ | (refine gT ?_; refine cf hh 0 [_,_] ?_) | refine gV ?_
   refine aX rfl rfl ?_
   refine bE hh (hs _ hh.below) rfl ?_
   intro w18 hh
   first | refine ct ?_ | refine cq ?_
   refine aB (aa (ao ?_))
   refine cd ?_
   exact ⟨rfl, hh.below⟩
  ·refine ak (N := 20) (l := [.agg #[.int .i64 g.v, .slice g.A g.n g.c], .int .i64 E, .agg #[.int .i64 h.v, .slice h.A h.n h.c], .int .i64 F]) Tryz.func38 rfl rfl (by simp) ?_
   refine sr ?_
   refine dp hh [_,_] ?_
   intro b4 w4 hh
   refine dp hh [_,_] ?_
   intro b6 w6 hh
   refine aB (aa (sr (mI ?_)))
   refine dR (mB ?_)
   first | refine gS ?_ | (refine gT ?_; refine mI ?_) | refine gV ?_
   first | refine gS ?_ | (refine gT ?_; refine dR ?_) | refine gV ?_
   first | refine ct ?_ | refine cq ?_
   refine mB ?_
   first | refine gS ?_ | (refine gT ?_; refine cf hh 1 [_,_] ?_) | refine gV ?_
   first | refine gS ?_ | (refine gT ?_; refine cf hh 0 [_,_] ?_) | refine gV ?_
   refine bH (by decide) rfl rfl (by decide) ?_
   first | refine ct ?_ | refine cq ?_
   refine aB (aa (ao ?_))
   refine cd ?_
   exact ⟨rfl, hh.below⟩
 ·refine ak (N := 20) (l := [.agg #[.int .i64 g.v, .slice g.A g.n g.c], .int .i64 E, .agg #[.int .i64 h.v, .slice h.A h.n h.c], .int .i64 F]) Tryz.func38 rfl rfl (by simp) ?_
  refine sr ?_
  refine dp hh [_,_] ?_
  intro b4 w4 hh
  refine dp hh [_,_] ?_
  intro b6 w6 hh
  refine aB (aa (sr (mI ?_)))
  refine dR (mB ?_)
  first | refine gS ?_ | (refine gT ?_; refine mI ?_) | refine gV ?_
  first | refine gS ?_ | (refine gT ?_; refine dR ?_) | refine gV ?_
  first | refine ct ?_ | refine cq ?_
  refine mB ?_
  first | refine gS ?_ | (refine gT ?_; refine cf hh 1 [_,_] ?_) | refine gV ?_
  first | refine gS ?_ | (refine gT ?_; refine cf hh 0 [_,_] ?_) | refine gV ?_
  refine bH (by decide) rfl rfl (by decide) ?_
  first | refine ct ?_ | refine cq ?_
  refine aB (aa (ao ?_))
  refine cd ?_
  exact ⟨rfl, hh.below⟩
end Go.Proofs.YtkgdagjklakajaaGreatDoor
/- The walks through slices.Equal of terms and poly.Same. -/
namespace Go.Proofs.YtkgdagjklakajaaGreatDoor
open Go.RowKit
end Go.Proofs.YtkgdagjklakajaaGreatDoor
/- The walk through the law PolyForm. -/
namespace Go.Proofs.YtkgdagjklakajaaGreatDoor
open Go.RowKit
theorem fh {g q : PX} {w : World} (h1 : g.at_ w) (h2 : q.at_ w) : ∀ p ∈ [g, q], p.at_ w := fun p hp => by
 rcases List.mem_cons.1 hp with rfl | hp
 ·exact h1
 ·rw [List.mem_singleton.1 hp]; exact h2
end Go.Proofs.YtkgdagjklakajaaGreatDoor
/- The walk through the law PolyRing. -/
namespace Go.Proofs.YtkgdagjklakajaaGreatDoor
open Go.RowKit
theorem nh {p q r : PX} {w : World} (h1 : p.at_ w) (h2 : q.at_ w) (h3 : r.at_ w) : ∀ g ∈ [p, q, r], g.at_ w := fun g hg => by
 rcases List.mem_cons.1 hg with rfl | hg
 ·exact h1
 ·exact fh h2 h3 g hg
theorem iF {P : PX → Prop} {p q : PX} (h1 : P p) (h2 : P q) : ∀ g ∈ [p, q], P g := fun g hg => by
 rcases List.mem_cons.1 hg with rfl | hg
 ·exact h1
 ·rw [List.mem_singleton.1 hg]; exact h2
theorem y8 {P : PX → Prop} {p q r : PX} (h1 : P p) (h2 : P q) (h3 : P r) : ∀ g ∈ [p, q, r], P g := fun g hg => by
 rcases List.mem_cons.1 hg with rfl | hg
 ·exact h1
 ·exact iF h2 h3 g hg
theorem PX.md.mono {g : PX} {k j : Nat} (h : g.md k) (hk : k ≤ j) : g.md j := ⟨h.n, h.cap, h.ok.mono hk, h.sz⟩
theorem z5 {p q : PX} (h : eX [p, q] = 0) : eE [p, q] = fm p.ts q.ts := by
 unfold eE
 rw [if_pos h]
 rfl
theorem vQ {ps : List PX} (h : gd ps = 0) : (aP (gf ps)).length ≤ 4096 := by
 unfold gd at h
 by_cases h0 : eX ps = 0
 ·rw [if_pos h0] at h; exact pK h
 ·rw [if_neg h0] at h; exact absurd h h0
theorem vd.Ae {E : Int} {g : PX} (h : vd E g) : gi 100000 g.ts ∧ ∀ t ∈ g.ts, t.m.size ≤ 100000 := by
 by_cases hE : E = 0
 ·exact (h.ok hE).2
 ·rw [(h.bad hE).2]
  exact ⟨fun t ht => (nomatch ht), fun t ht => (nomatch ht)⟩
theorem dm.when {E v : Int} {ts : List TR} {g : PX} (o : dm E v ts g) (h : E = 0) : g.v = v ∧ g.ts = ts := ⟨by rw [o.v, if_pos h], by rw [o.ts, if_pos h]⟩
set_option maxRecDepth 10000 in
theorem nM (p q r : PX) (w : World) (hT : gM w) (hp : p.at_ w) (hpc : p.n ≤ p.c) (hq : q.at_ w) (hqc : q.n ≤ q.c) (hr : r.at_ w) (hrc : r.n ≤ r.c) :
  Calls Tryz.prog 5 #[.agg #[.int .i64 p.v, .slice p.A p.n p.c], .agg #[.int .i64 q.v, .slice q.A q.n q.c], .agg #[.int .i64 r.v, .slice r.A r.n r.c]] w fun e w' => e = .returned (.bool true) ∧ Below w.heap.size w w' := by
 have hh := Hp.start w
 refine ak (N := 184) (l := [.agg #[.int .i64 p.v, .slice p.A p.n p.c], .agg #[.int .i64 q.v, .slice q.A q.n q.c], .agg #[.int .i64 r.v, .slice r.A r.n r.c]]) Tryz.func5 rfl rfl (by simp) ?_
 refine sr ?_
 refine dp hh [_,_] ?_
 intro b3 w3 hh
 refine dp hh [_,_] ?_
 intro b4 w4 hh
 refine dp hh [_,_] ?_
 intro b5 w5 hh
 refine aB (aa (ai (sr ?_)))
 refine cf hh 2 [_,_] ?_
 refine cf hh 1 [_,_] ?_
 refine cf hh 0 [_,_] ?_
 refine aO hh (cs := [_, _, _, _, _, _]) aJ.out aC.out (aG (bq rfl) (aG (bq rfl) (aG (bq rfl) bC))) rfl rfl (by decide) (by decide) (by decide) rfl (by decide) ?_
 intro b32 w32 hh
 refine aH (sD _ 3 3 [p, q, r] _ (hh.az (i := 0) rfl) (nh (hp.ext hh.below) (hq.ext hh.below) (hr.ext hh.below))) ar.out rfl (by decide) ?_
 rintro e_ w33 ⟨b, rfl, hb, hb_⟩
 refine ⟨_, rfl, ?_⟩
 replace hh := hh.ext hb_
 cases b with
 | true =>
  refine aa (cT (sr ?_))
  refine bE hh (eN _ (hT.hp hh)) rfl ?_
  intro w34 hh
  refine aB (aa (ao (aM ?_)))
  refine cd ?_
  exact ⟨rfl, hh.below⟩
 | false =>
  have hsm := (hb rfl).2
  have sp := hsm p List.mem_cons_self
  have sq := hsm q (List.mem_cons_of_mem _ List.mem_cons_self)
  have sr_ := hsm r (List.mem_cons_of_mem _ (List.mem_cons_of_mem _ List.mem_cons_self))
  have lp := sp.md hp hpc
  have lq := sq.md hq hqc
  have lr := sr_.md hr hrc
  have np := sp.n
  have nq := sq.n
  have nr := sr_.n
  have pe : p.e = 0 ∨ p.e = 1 := kg np
  have qe : q.e = 0 ∨ q.e = 1 := kg nq
  have re : r.e = 0 ∨ r.e = 1 := kg nr
  have f1 : (gf [p, q, r]).length ≤ 36 := by rw [tE, List.length_append, List.length_append]; omega
  have f2 : (gf [r, q, p]).length ≤ 36 := by rw [tE, List.length_append, List.length_append]; omega
  have hE : gd [r, q, p] = gd [p, q, r] := by
   rw [dk (by omega), dk (by omega)]
   refine u0 (fun g => ?_) (by simp) (by simp) (y8 re qe pe)
   simp only [List.mem_cons, List.not_mem_nil, or_false]
   constructor
   ·rintro (h | h | h)
    ·exact .inr (.inr h)
    ·exact .inr (.inl h)
    ·exact .inl h
   ·rintro (h | h | h)
    ·exact .inr (.inr h)
    ·exact .inr (.inl h)
    ·exact .inl h
  clear hb hsm
  replace hh := hh.sub (List.Sublist.cons _ (List.Sublist.cons_cons _ (List.Sublist.cons_cons _ (List.Sublist.cons_cons _ List.Sublist.slnil))))
  refine aa (cF (al (aj (sr ?_))))
  refine cf hh 2 [_,_] ?_
  refine cf hh 1 [_,_] ?_
  refine cf hh 0 [_,_] ?_
  refine aO hh (cs := [_, _, _, _, _, _]) aJ.out aC.out (aG (bq rfl) (aG (bq rfl) (aG (bq rfl) bC))) rfl rfl (by decide) (by decide) (by decide) rfl (by decide) ?_
  intro b39 w39 hh
  refine aH (cP _ 3 3 [p, q, r] 492 _ (hT.hp hh) (hh.az (i := 0) rfl) (by decide) (nh (hp.ext hh.below) (hq.ext hh.below) (hr.ext hh.below)) (y8 lp lq lr) (by decide)) ar.out rfl (by decide) ?_
  rintro e_ w40 ⟨a, oa, rfl, h2⟩
  refine ⟨_, rfl, ?_⟩
  replace hh := hh.join h2
  clear h2
  simp only [List.cons_append, List.nil_append] at hh
  replace hh := show Hp w (.row a.A a.n a.c 58 4 (a8 TR.cells a.ts) :: _) w40 from hh
  have na := oa.n4 (hh.az (i := 0) rfl) fun _ => by have := bW (gf [p, q, r]); omega
  replace hh := hh.sub (List.Sublist.cons_cons _ (List.Sublist.cons _ (List.Sublist.cons_cons _ (List.Sublist.cons_cons _ (List.Sublist.cons_cons _ List.Sublist.slnil)))))
  refine mT ?_
  refine cM ?_
  refine cM ?_
  refine cj hh ?_
  intro b7 w7 hh
  refine bK hh 0 [_,_] ?_
  intro ws hh
  replace hh : Hp _ (.blk _ _ [_, _] _ :: _) _ := hh
  refine aI (aa (sr ?_))
  refine cf hh 2 [_,_] ?_
  refine cf hh 3 [_,_] ?_
  refine cf hh 4 [_,_] ?_
  refine aO hh (cs := [_, _, _, _, _, _]) aJ.out aC.out (aG (bq rfl) (aG (bq rfl) (aG (bq rfl) bC))) rfl rfl (by decide) (by decide) (by decide) rfl (by decide) ?_
  intro b47 w47 hh
  refine aH (cP _ 3 3 [r, q, p] 492 _ (hT.hp hh) (hh.az (i := 0) rfl) (by decide) (nh (hr.ext hh.below) (hq.ext hh.below) (hp.ext hh.below)) (y8 lr lq lp) (by decide)) ar.out rfl (by decide) ?_
  rintro e_ w48 ⟨b, ob, rfl, h2⟩
  refine ⟨_, rfl, ?_⟩
  replace hh := hh.join h2
  clear h2
  simp only [List.cons_append, List.nil_append] at hh
  replace hh := show Hp w (.row b.A b.n b.c 58 4 (a8 TR.cells b.ts) :: _) w48 from hh
  have nb := ob.n4 (hh.az (i := 0) rfl) fun _ => by have := bW (gf [r, q, p]); omega
  rw [hE] at ob
  have hab : gd [p, q, r] = 0 → gd [r, q, p] = 0 → a.v = b.v ∧ a.ts = b.ts := fun h0 _ => by
   rw [h0] at oa ob
   have hl : eX [p, q, r] = 0 := by rwa [dk (by omega)] at h0
   have hl2 : eX [r, q, p] = 0 := by rw [dk (by omega), dk (by omega)] at hE; rw [hE, hl]
   have h3 := (g9 hl).2.2 r (by simp)
   rw [oa.v0, ob.v0, oa.t0, ob.t0, tE, tE, rb]
   exact ⟨h3.symm, rfl⟩
  refine mT ?_
  refine cM ?_
  refine cM ?_
  refine cj hh ?_
  intro b9 w9 hh
  refine bK hh 0 [_,_] ?_
  intro ws hh
  replace hh : Hp _ (.blk _ _ [_, _] _ :: _) _ := hh
  refine aI (aa (ai (sr (mI (mI ?_)))))
  refine dR (mB ?_)
  first | refine gS ?_ | (refine gT ?_; refine cf hh 3 [_,_] ?_) | refine gV ?_
  first | refine gS ?_ | (refine gT ?_; refine mI ?_) | refine gV ?_
  first | refine gS ?_ | (refine gT ?_; refine cf hh 0 [_,_] ?_) | refine gV ?_
  first | refine gS ?_ | (refine gT ?_; refine mI ?_) | refine gV ?_
  refine aX rfl rfl ?_
  refine bE hh (jw a b (gd [p, q, r]) (gd [r, q, p]) _ (hh.az (i := 4) rfl) (hh.az (i := 1) rfl) hab (by omega) (by omega)) rfl ?_
  intro w59 hh
  by_cases h0 : gd [p, q, r] = 0
  ·have hl : eX [p, q, r] = 0 := by rwa [dk (by omega)] at h0
   obtain ⟨_, he0, hv0⟩ := g9 hl
   have e1 : p.e = 0 := he0 p (by simp)
   have e2 : q.e = 0 := he0 q (by simp)
   have e3 : r.e = 0 := he0 r (by simp)
   have v1 : q.v = p.v := hv0 q (by simp)
   have v2 : r.v = p.v := hv0 r (by simp)
   have k1 := eR e1
   have k2 := eR e2
   have k3 := eR e3
   rw [v1] at k2
   rw [v2] at k3
   have o1 : gi 2000 p.ts := lp.ok.mono (by decide)
   have o2 : gi 2000 q.ts := lq.ok.mono (by decide)
   have o3 : gi 2000 r.ts := lr.ok.mono (by decide)
   clear he0 hv0 hab oa ob hE f1 f2 na nb pe qe re hl
   first | refine gS ?_ | (refine gT ?_; refine eo ?_) | refine gV ?_
   first | refine ct ?_ | refine cq ?_
   refine aa (cF (al (aj (ai (sr (mI ?_))))))
   refine dR (aa (cF (al (aj (sr ?_)))))
   refine cf hh 7 [_,_] ?_
   refine cf hh 6 [_,_] ?_
   refine aO hh (cs := [_, _, _, _]) aJ.out aC.out (aG (bq rfl) (aG (bq rfl) bC)) rfl rfl (by decide) (by decide) (by decide) rfl (by decide) ?_
   intro b74 w74 hh
   replace hh := hh.sub (List.Sublist.cons_cons _ (List.Sublist.cons _ (List.Sublist.cons _ (List.Sublist.cons _ (List.Sublist.cons _ (List.Sublist.cons _ (List.Sublist.cons_cons _ (List.Sublist.cons_cons _ (List.Sublist.cons_cons _ List.Sublist.slnil)))))))))
   refine aH (gF _ 2 2 [p, q] 492 _ (hT.hp hh) (hh.az (i := 0) rfl) (by decide) (by decide) (fh (hp.ext hh.below) (hq.ext hh.below)) (iF lp lq) (by decide)) ar.out rfl (by decide) ?_
   rintro e_ w75 ⟨c, oc, rfl, h2⟩
   refine ⟨_, rfl, ?_⟩
   replace hh := hh.join h2
   clear h2
   simp only [List.cons_append, List.nil_append] at hh
   replace hh := show Hp w (.row c.A c.n c.c 58 4 (a8 TR.cells c.ts) :: _) w75 from hh
   have ccc := hh.dI (i := 0) rfl
   have nc := oc.n4 (hh.az (i := 0) rfl) (kt (iF (P := fun g => g.ts.length ≤ 4096) (by omega) (by omega)))
   replace hh := hh.sub (List.Sublist.cons_cons _ (List.Sublist.cons _ (List.Sublist.cons_cons _ (List.Sublist.cons_cons _ (List.Sublist.cons_cons _ List.Sublist.slnil)))))
   refine mT ?_
   refine cM ?_
   refine cM ?_
   refine cj hh ?_
   intro b11 w11 hh
   refine bK hh 0 [_,_] ?_
   intro ws hh
   replace hh : Hp _ (.blk _ _ [_, _] _ :: _) _ := hh
   refine aI (aa (sr ?_))
   refine cf hh 3 [_,_] ?_
   refine cf hh 4 [_,_] ?_
   refine aO hh (cs := [_, _, _, _]) aJ.out aC.out (aG (bq rfl) (aG (bq rfl) bC)) rfl rfl (by decide) (by decide) (by decide) rfl (by decide) ?_
   intro b81 w81 hh
   refine aH (gF _ 2 2 [q, p] 492 _ (hT.hp hh) (hh.az (i := 0) rfl) (by decide) (by decide) (fh (hq.ext hh.below) (hp.ext hh.below)) (iF lq lp) (by decide)) ar.out rfl (by decide) ?_
   rintro e_ w82 ⟨d, od, rfl, h2⟩
   refine ⟨_, rfl, ?_⟩
   replace hh := hh.join h2
   clear h2
   simp only [List.cons_append, List.nil_append] at hh
   replace hh := show Hp w (.row d.A d.n d.c 58 4 (a8 TR.cells d.ts) :: _) w82 from hh
   have ccd := hh.dI (i := 0) rfl
   have nd := od.n4 (hh.az (i := 0) rfl) (kt (iF (P := fun g => g.ts.length ≤ 4096) (by omega) (by omega)))
   have hM : eE [q, p] = eE [p, q] := by
    rw [z5 (fJ e1 e2 v1), z5 (fJ e2 e1 v1.symm)]
    have h9 : q.ts.length * p.ts.length ≤ 12 * 12 := Nat.mul_le_mul nq np
    exact uN k2.2.2.1 k1.2.2.1 (by omega)
   have hcd : eE [p, q] = 0 → eE [q, p] = 0 → c.v = d.v ∧ c.ts = d.ts := fun h3 h4 => by
    obtain ⟨c1, c2⟩ := oc.when h3
    obtain ⟨d1, d2⟩ := od.when h4
    rw [c1, c2, d1, d2]
    exact ⟨v1.symm, sI p.ts q.ts⟩
   refine mT ?_
   refine cM ?_
   refine cM ?_
   refine cj hh ?_
   intro b13 w13 hh
   refine bK hh 0 [_,_] ?_
   intro ws hh
   replace hh : Hp _ (.blk _ _ [_, _] _ :: _) _ := hh
   refine aI (aa (ai (sr (mI (mI ?_)))))
   refine dR (mB ?_)
   first | refine gS ?_ | (refine gT ?_; refine cf hh 3 [_,_] ?_) | refine gV ?_
   first | refine gS ?_ | (refine gT ?_; refine mI ?_) | refine gV ?_
   first | refine gS ?_ | (refine gT ?_; refine cf hh 0 [_,_] ?_) | refine gV ?_
   first | refine gS ?_ | (refine gT ?_; refine mI ?_) | refine gV ?_
   refine aX rfl rfl ?_
   refine bE hh (jw c d (eE [p, q]) (eE [q, p]) _ (hh.az (i := 4) rfl) (hh.az (i := 1) rfl) hcd (by omega) (by omega)) rfl ?_
   intro w93 hh
   clear hcd od
   first | refine gS ?_ | (refine gT ?_; refine eo ?_) | refine gV ?_
   first | refine ct ?_ | refine cq ?_
   refine aa (cF (al (aj (sr ?_))))
   refine cf hh 6 [_,_] ?_
   refine cf hh 5 [_,_] ?_
   refine aO hh (cs := [_, _, _, _]) aJ.out aC.out (aG (bq rfl) (aG (bq rfl) bC)) rfl rfl (by decide) (by decide) (by decide) rfl (by decide) ?_
   intro b99 w99 hh
   replace hh := hh.sub (List.Sublist.cons_cons _ (List.Sublist.cons _ (List.Sublist.cons _ (List.Sublist.cons _ (List.Sublist.cons_cons _ (List.Sublist.cons_cons _ (List.Sublist.cons_cons _ (List.Sublist.cons_cons _ (List.Sublist.cons_cons _ List.Sublist.slnil)))))))))
   have hs0 : gd [q, r] = 0 := by rw [dk (by rw [iz, List.length_append]; omega), fJ e2 e3 (v2.trans v1.symm)]
   refine aH (cP _ 2 2 [q, r] 492 _ (hT.hp hh) (hh.az (i := 0) rfl) (by decide) (fh (hq.ext hh.below) (hr.ext hh.below)) (iF lq lr) (by decide)) ar.out rfl (by decide) ?_
   rintro e_ w100 ⟨s, os, rfl, h2⟩
   refine ⟨_, rfl, ?_⟩
   replace hh := hh.join h2
   clear h2
   simp only [List.cons_append, List.nil_append] at hh
   replace hh := show Hp w (.row s.A s.n s.c 58 4 (a8 TR.cells s.ts) :: _) w100 from hh
   have ccs := hh.dI (i := 0) rfl
   obtain ⟨s1, s2⟩ := os.when hs0
   rw [iz] at s2
   clear os
   have ls2 : s.ts.length ≤ 24 := by rw [s2]; have := bW (q.ts ++ r.ts); rw [List.length_append] at this; omega
   have sl : s.ts.length = s.n := PX.at_.ln (hh.az (i := 0) rfl)
   have ls : s.md 600 := ⟨by omega, ccs, by rw [s2]; exact j4 (k := 492) (fun t ht => by rcases List.mem_append.1 ht with ht | ht; exact lq.ok t ht; exact lr.ok t ht) (by rw [List.length_append]; omega) (by decide), by rw [s2]; exact j8 fun t ht => by rcases List.mem_append.1 ht with ht | ht; exact lq.sz t ht; exact lr.sz t ht⟩
   replace hh := hh.sub (List.Sublist.cons_cons _ (List.Sublist.cons _ (List.Sublist.cons_cons _ (List.Sublist.cons_cons _ (List.Sublist.cons_cons _ (List.Sublist.cons_cons _ (List.Sublist.cons_cons _ List.Sublist.slnil)))))))
   refine mT ?_
   refine cM ?_
   refine cM ?_
   refine cj hh ?_
   intro b15 w15 hh
   refine bK hh 0 [_,_] ?_
   intro ws hh
   replace hh : Hp _ (.blk _ _ [_, _] _ :: _) _ := hh
   refine aI (aa (sr ?_))
   refine cf hh 6 [_,_] ?_
   refine cf hh 0 [_,_] ?_
   refine aO hh (cs := [_, _, _, _]) aJ.out aC.out (aG (bq rfl) (aG (bq rfl) bC)) rfl rfl (by decide) (by decide) (by decide) rfl (by decide) ?_
   intro b106 w106 hh
   refine aH (gF _ 2 2 [p, s] 600 _ (hT.hp hh) (hh.az (i := 0) rfl) (by decide) (by decide) (fh (hp.ext hh.below) (hh.az (i := 2) rfl)) (iF (lp.mono (by decide)) ls) (by decide)) ar.out rfl (by decide) ?_
   rintro e_ w107 ⟨x, ox, rfl, h2⟩
   refine ⟨_, rfl, ?_⟩
   replace hh := hh.join h2
   clear h2
   simp only [List.cons_append, List.nil_append] at hh
   replace hh := show Hp w (.row x.A x.n x.c 58 4 (a8 TR.cells x.ts) :: _) w107 from hh
   have ccx := hh.dI (i := 0) rfl
   have nx := ox.n4 (hh.az (i := 0) rfl) (kt (iF (P := fun g => g.ts.length ≤ 4096) (by omega) (by omega)))
   replace hh := hh.sub (List.Sublist.cons_cons _ (List.Sublist.cons _ (List.Sublist.cons _ (List.Sublist.cons _ (List.Sublist.cons_cons _ (List.Sublist.cons_cons _ (List.Sublist.cons_cons _ (List.Sublist.cons_cons _ (List.Sublist.cons_cons _ List.Sublist.slnil)))))))))
   refine mT ?_
   refine cM ?_
   refine cM ?_
   refine cj hh ?_
   intro b17 w17 hh
   refine bK hh 0 [_,_] ?_
   intro ws hh
   replace hh : Hp _ (.blk _ _ [_, _] _ :: _) _ := hh
   refine aI (aa (sr ?_))
   refine cf hh 6 [_,_] ?_
   refine cf hh 4 [_,_] ?_
   refine aO hh (cs := [_, _, _, _]) aJ.out aC.out (aG (bq rfl) (aG (bq rfl) bC)) rfl rfl (by decide) (by decide) (by decide) rfl (by decide) ?_
   intro b113 w113 hh
   refine aH (gF _ 2 2 [p, r] 492 _ (hT.hp hh) (hh.az (i := 0) rfl) (by decide) (by decide) (fh (hp.ext hh.below) (hr.ext hh.below)) (iF lp lr) (by decide)) ar.out rfl (by decide) ?_
   rintro e_ w114 ⟨y, oy, rfl, h2⟩
   refine ⟨_, rfl, ?_⟩
   replace hh := hh.join h2
   clear h2
   simp only [List.cons_append, List.nil_append] at hh
   replace hh := show Hp w (.row y.A y.n y.c 58 4 (a8 TR.cells y.ts) :: _) w114 from hh
   have ccy := hh.dI (i := 0) rfl
   have ny := oy.n4 (hh.az (i := 0) rfl) (kt (iF (P := fun g => g.ts.length ≤ 4096) (by omega) (by omega)))
   have ac := (tX oc o1 o2 lq.sz).Ae
   have ay := (tX oy o1 o3 lr.sz).Ae
   have lc : c.md 100000 := ⟨by omega, ccc, ac.1, ac.2⟩
   have ly : y.md 100000 := ⟨by omega, ccy, ay.1, ay.2⟩
   replace hh := hh.sub (List.Sublist.cons_cons _ (List.Sublist.cons _ (List.Sublist.cons_cons _ (List.Sublist.cons_cons _ (List.Sublist.cons_cons _ (List.Sublist.cons_cons _ (List.Sublist.cons_cons _ (List.Sublist.cons_cons _ (List.Sublist.cons_cons _ List.Sublist.slnil)))))))))
   refine mT ?_
   refine cM ?_
   refine cM ?_
   refine cj hh ?_
   intro b19 w19 hh
   refine bK hh 0 [_,_] ?_
   intro ws hh
   replace hh : Hp _ (.blk _ _ [_, _] _ :: _) _ := hh
   refine aI (aa (sr ?_))
   refine cf hh 4 [_,_] ?_
   refine cf hh 0 [_,_] ?_
   refine aO hh (cs := [_, _, _, _]) aJ.out aC.out (aG (bq rfl) (aG (bq rfl) bC)) rfl rfl (by decide) (by decide) (by decide) rfl (by decide) ?_
   intro b120 w120 hh
   refine aH (cP _ 2 2 [c, y] 100000 _ (hT.hp hh) (hh.az (i := 0) rfl) (by decide) (fh (hh.az (i := 6) rfl) (hh.az (i := 2) rfl)) (iF lc ly) (by decide)) ar.out rfl (by decide) ?_
   rintro e_ w121 ⟨z, oz, rfl, h2⟩
   refine ⟨_, rfl, ?_⟩
   replace hh := hh.join h2
   clear h2
   simp only [List.cons_append, List.nil_append] at hh
   replace hh := show Hp w (.row z.A z.n z.c 58 4 (a8 TR.cells z.ts) :: _) w121 from hh
   have ccz := hh.dI (i := 0) rfl
   have nz := oz.n4 (hh.az (i := 0) rfl) vQ
   have hxz : eE [p, q] = 0 → eE [p, r] = 0 → eE [p, s] = 0 → gd [c, y] = 0 → x.v = z.v ∧ x.ts = z.ts := fun g1 g2 g3 g4 => by
    obtain ⟨a1, a2⟩ := oc.when g1
    obtain ⟨b1, b2⟩ := oy.when g2
    obtain ⟨d1, d2⟩ := ox.when g3
    obtain ⟨f1, f2⟩ := oz.when g4
    rw [d1, f1, d2, f2]
    refine ⟨a1.symm, ?_⟩
    show aP (cL p.ts s.ts) = aP (gf [c, y])
    rw [iz, s2, a2, b2]
    exact r5 p.ts q.ts r.ts
   clear oc oy ox oz ac ay lc ly
   replace hh := hh.sub (List.Sublist.cons_cons _ (List.Sublist.cons _ (List.Sublist.cons _ (List.Sublist.cons _ (List.Sublist.cons_cons _ (List.Sublist.cons_cons _ (List.Sublist.cons _ (List.Sublist.cons _ (List.Sublist.cons_cons _ (List.Sublist.cons_cons _ (List.Sublist.cons_cons _ List.Sublist.slnil)))))))))))
   have z1 : Sz 492 ((-1 : Int) : Dyadic) := (wR (m := -1) (e := 0) (by decide) (by decide) (by decide)).mono (by decide)
   have hsE : rA q ((-1 : Int) : Dyadic) = 0 := by unfold rA; rw [if_pos e2, ke (by rw [List.length_map]; omega)]
   have hsc := fun w1 hT1 h1 => qp q (nR ((-1 : Int) : Dyadic)) 492 w1 hT1 h1 lq ⟨z1.ok (by decide), by rw [eO]; exact z1⟩ (by decide)
   rw [eO, hsE] at hsc
   have hu0 : gd [p, q] = 0 := by rw [dk (by rw [iz, List.length_append]; omega), fJ e1 e2 v1]
   have hua : ∀ u : PX, dm (gd [p, q]) (l0 [p, q]) (aP (gf [p, q])) u → u.ts.length = u.n → u.n ≤ u.c → u.e = 0 ∧ u.md 100000 ∧ u.v = p.v ∧ u.ts = aP (p.ts ++ q.ts) := fun u ou un uc => by
    obtain ⟨h3, h4, h5⟩ := (yy ou (iF (P := fun g => gi 2000 g.ts ∧ g.ts.length ≤ 100 ∧ ∀ t ∈ g.ts, t.m.size ≤ 100000) ⟨o1, by omega, lp.sz⟩ ⟨o2, by omega, lq.sz⟩) (Nat.le_of_ble_eq_true rfl)).ok hu0
    obtain ⟨u1, u2⟩ := ou.when hu0
    rw [iz] at u2
    have h8 := bW (p.ts ++ q.ts)
    rw [List.length_append, ← u2] at h8
    exact ⟨h3, ⟨by omega, uc, h4, h5⟩, u1, u2⟩
   have hma : ∀ m : PX, dm 0 q.v (aP (q.ts.map (fP ((-1 : Int) : Dyadic)))) m → m.ts.length = m.n → m.n ≤ m.c → m.e = 0 ∧ m.md 100000 := fun m om mn mc => by
    have h2 := xV (p := q) (g := m) (c := ((-1 : Int) : Dyadic)) (by rw [hsE]; exact om) o2 (z1.mono (by decide)) lq.sz (by omega)
    rw [hsE] at h2
    obtain ⟨h3, h4, h5⟩ := h2.ok rfl
    have h8 := bW (q.ts.map (fP ((-1 : Int) : Dyadic)))
    rw [List.length_map, ← om.t0] at h8
    exact ⟨h3, ⟨by omega, mc, h4, h5⟩⟩
   by_cases hj : eE [p, s] = 0
   ·by_cases hg : eE [p, q] = 0
    ·by_cases hk : eE [p, r] = 0
     ·refine mT ?_
      refine cM ?_
      refine cM ?_
      refine cj hh ?_
      intro b21 w21 hh
      refine bK hh 0 [_,_] ?_
      intro ws hh
      replace hh : Hp _ (.blk _ _ [_, _] _ :: _) _ := hh
      refine aI (aa (ai (sr (mI ?_))))
      refine cI (mB ?_)
      first | refine gS ?_ | (refine gT ?_; refine mI ?_) | refine gV ?_
      first | refine gS ?_ | (refine gT ?_; refine cI ?_) | refine gV ?_
      first | refine ct ?_ | refine cq ?_
      refine mB ?_
      first | refine gS ?_ | (refine gT ?_; refine mI ?_) | refine gV ?_
      first | refine gS ?_ | (refine gT ?_; refine cI ?_) | refine gV ?_
      first | refine ct ?_ | refine cq ?_
      refine mB ?_
      first | refine gS ?_ | (refine gT ?_; refine mI ?_) | refine gV ?_
      first | refine gS ?_ | (refine gT ?_; refine cI ?_) | refine gV ?_
      first | refine ct ?_ | refine cq ?_
      refine mB ?_
      first | refine gS ?_ | (refine gT ?_; refine cf hh 2 [_,_] ?_) | refine gV ?_
      first | refine gS ?_ | (refine gT ?_; refine mI ?_) | refine gV ?_
      first | refine gS ?_ | (refine gT ?_; refine cf hh 0 [_,_] ?_) | refine gV ?_
      first | refine gS ?_ | (refine gT ?_; refine mI ?_) | refine gV ?_
      refine aX rfl rfl ?_
      refine bE hh (jw x z (eE [p, s]) (gd [c, y]) _ (hh.az (i := 3) rfl) (hh.az (i := 1) rfl) (hxz hg hk) (by omega) (by omega)) rfl ?_
      intro w143 hh
      first | refine gS ?_ | (refine gT ?_; refine eo ?_) | refine gV ?_
      first | refine ct ?_ | refine cq ?_
      refine aa (cF (al (aj (ai ?_))))
      replace hh := hh.sub (List.Sublist.cons _ (List.Sublist.cons _ (List.Sublist.cons _ (List.Sublist.cons _ (List.Sublist.cons_cons _ (List.Sublist.cons_cons _ (List.Sublist.cons_cons _ List.Sublist.slnil)))))))
      refine dw [6] [5] [0, 0, 3, 7, 15, 15, 0, 95, 255] 7 [[(4, none)], [], [(147, some 0), (148, some 1)], [(149, some 2)], [(146, some 3)], [(146, some 3)], []] [(6, 23), (5, 151), (4, 150), (3, 146), (2, 149), (1, 148), (0, 147)] hh mixed (by kernel_rfl) (il rfl aC.out dZ) rfl (by repeat (first | exact bS | refine bG ?_ | refine bT ?_)) ?_
      refine gj 1 [_,_] ?_
      refine dC (fun _ hj => bM (-1) _ (by decide) (by decide)) ?_
      refine bz (i := 2) (eI hh.sz 0 q.v (aP (q.ts.map (fP ((-1 : Int) : Dyadic))))) (eI.ext) ?_ ?_
      ·intro ρ1 w1 hj hR
       exact cG rfl (bh ar.out (aF (show ρ1 147 = Value.agg (List.toArray _) from hR.1) (aF (show ρ1 148 = Value.agg (List.toArray _) from hR.2.1) bj))) (hsc w1 (hT.hp hj.hp) (hq.ext hj.hp.below)) (fun _ _ ⟨g, og, hq, h3⟩ => ⟨_, hq, h3.below, g, w1, rfl, og, hj.bl.size, h3⟩)
      refine bz (i := 3) (eI hh.sz 0 q.v (aP (q.ts.map (fP ((-1 : Int) : Dyadic))))) (eI.ext) ?_ ?_
      ·intro ρ1 w1 hj hR
       exact let ⟨g, u, e1, e2⟩ := hR.1; dD rfl (dt e1) ⟨Below.refl _ _, g, u, rfl, e2⟩
      refine bz (i := 4) (fo hh.sz 0 q.v (aP (q.ts.map (fP ((-1 : Int) : Dyadic))))) (fo.ext) ?_ ?_
      ·intro ρ1 w1 hj hR
       exact let ⟨g, u, e1, e2⟩ := hR.1; dD rfl (cw (vs := [_, _]) e1 rfl) ⟨Below.refl _ _, g, u, rfl, e2⟩
      refine bz (i := 5) (Is (.int .i64 0)) (Is.ext) ?_ ?_
      ·intro ρ1 w1 hj hR
       exact let ⟨g, u, e1, e2⟩ := hR.1; dD rfl (cw (vs := [_, _]) e1 rfl) ⟨Below.refl _ _, rfl⟩
      refine bz (i := 6) (ca _ 31 _) ca.ext (fun ρ1 w1 hj hR => eY aC.out hj.bl (fun v w2 h hb => ⟨hb, h⟩)) ?_
      refine bo ?_
      intro f W hJ hV _
      have hb_19 := hJ.bl
      obtain ⟨v23, v151, v150, v146, v149, v148, v147, _⟩ := hV
      obtain ⟨g149, u149, e149, -⟩ := v149
      obtain ⟨g146, u146, e146, -⟩ := v146
      obtain ⟨g150, u150, e150, o150, q150, h150⟩ := v150
      obtain ⟨b23, e23, hl23, hc23⟩ : ca _ _ _ (f 6) W := v23
      replace hh := hJ.gu hh hl23 hc23 q150 h150 (PX.ne h150 hc23 (by decide))
      refine a7 (bu (ah e23 (ah v151 (ah e150 (ah e146 (ah e149 (ah v148 (ah v147 a6)))))))) ?_
      dsimp only [cJ]
      clear e149 e146 e150 e23 hJ
      simp only [List.cons_append, List.nil_append] at hh
      replace hh := show Hp w (_ :: .row g150.A g150.n g150.c 58 4 (a8 TR.cells g150.ts) :: _) W from hh
      have mc := hh.dI (i := 1) rfl
      have mn : g150.ts.length = g150.n := PX.at_.ln (hh.az (i := 1) rfl)
      obtain ⟨me, ml⟩ := hma g150 o150 mn mc
      have mv := o150.v0
      have mt := o150.t0
      refine bK hh 0 [_,_] ?_
      intro ws hh
      replace hh : Hp _ (.blk _ _ [_, _] _ :: _) _ := hh
      refine aI (aa (sr ?_))
      refine cf hh 4 [_,_] ?_
      refine cf hh 3 [_,_] ?_
      refine aO hh (cs := [_, _, _, _]) aJ.out aC.out (aG (bq rfl) (aG (bq rfl) bC)) rfl rfl (by decide) (by decide) (by decide) rfl (by decide) ?_
      intro b155 w155 hh
      refine aH (cP _ 2 2 [p, q] 492 _ (hT.hp hh) (hh.az (i := 0) rfl) (by decide) (fh (hp.ext hh.below) (hq.ext hh.below)) (iF lp lq) (by decide)) ar.out rfl (by decide) ?_
      rintro e_ w156 ⟨u, ou, rfl, h2⟩
      refine ⟨_, rfl, ?_⟩
      replace hh := hh.join h2
      clear h2
      simp only [List.cons_append, List.nil_append] at hh
      replace hh := show Hp w (.row u.A u.n u.c 58 4 (a8 TR.cells u.ts) :: _) w156 from hh
      have ccu := hh.dI (i := 0) rfl
      have un : u.ts.length = u.n := PX.at_.ln (hh.az (i := 0) rfl)
      obtain ⟨ue, ul, u1, u2⟩ := hua u ou un ccu
      clear ou
      replace hh := hh.sub (List.Sublist.cons_cons _ (List.Sublist.cons _ (List.Sublist.cons_cons _ (List.Sublist.cons_cons _ (List.Sublist.cons_cons _ (List.Sublist.cons_cons _ (List.Sublist.cons_cons _ List.Sublist.slnil)))))))
      refine mT ?_
      refine cM ?_
      refine cM ?_
      refine cj hh ?_
      intro b25 w25 hh
      refine bK hh 0 [_,_] ?_
      intro ws hh
      replace hh : Hp _ (.blk _ _ [_, _] _ :: _) _ := hh
      refine aI (aa (sr ?_))
      refine cf hh 0 [_,_] ?_
      refine cf hh 2 [_,_] ?_
      refine aO hh (cs := [_, _, _, _]) aJ.out aC.out (aG (bq rfl) (aG (bq rfl) bC)) rfl rfl (by decide) (by decide) (by decide) rfl (by decide) ?_
      intro b162 w162 hh
      have hv0 : gd [u, g150] = 0 := by
       have h8 := bW (p.ts ++ q.ts)
       have h9 := bW (q.ts.map (fP ((-1 : Int) : Dyadic)))
       rw [List.length_append] at h8
       rw [List.length_map] at h9
       rw [dk (by rw [iz, List.length_append, u2, mt]; omega), fJ ue me (by rw [mv, u1, v1])]
      refine aH (cP _ 2 2 [u, g150] 100000 _ (hT.hp hh) (hh.az (i := 0) rfl) (by decide) (fh (hh.az (i := 2) rfl) (hh.az (i := 4) rfl)) (iF ul ml) (by decide)) ar.out rfl (by decide) ?_
      rintro e_ w163 ⟨t, ot, rfl, h2⟩
      refine ⟨_, rfl, ?_⟩
      replace hh := hh.join h2
      clear h2
      simp only [List.cons_append, List.nil_append] at hh
      replace hh := show Hp w (.row t.A t.n t.c 58 4 (a8 TR.cells t.ts) :: _) w163 from hh
      have cct := hh.dI (i := 0) rfl
      have hut : t.v = p.v ∧ t.ts = p.ts := by
       obtain ⟨t1, t2⟩ := ot.when hv0
       refine ⟨t1.trans u1, ?_⟩
       rw [t2, iz, u2, mt]
       exact gX q.ts k1.2.2.2
      have tn : t.ts.length = t.n := PX.at_.ln (hh.az (i := 0) rfl)
      rw [hut.2] at tn
      have pn : p.ts.length = p.n := hp.ln
      refine mT ?_
      refine cM ?_
      refine cM ?_
      refine cj hh ?_
      intro b27 w27 hh
      refine bK hh 0 [_,_] ?_
      intro ws hh
      replace hh : Hp _ (.blk _ _ [_, _] _ :: _) _ := hh
      refine aI (aa (sr (mI ?_)))
      refine cI (mB ?_)
      first | refine gS ?_ | (refine gT ?_; refine mI ?_) | refine gV ?_
      first | refine gS ?_ | (refine gT ?_; refine dR ?_) | refine gV ?_
      first | refine gS ?_ | (refine gT ?_; refine mB ?_) | refine gV ?_
      first | refine gS ?_ | (refine gT ?_; refine mI ?_) | refine gV ?_
      first | refine gS ?_ | (refine gT ?_; refine cI ?_) | refine gV ?_
      first | refine gS ?_ | (refine gT ?_; refine mB ?_) | refine gV ?_
      first | refine gS ?_ | (refine gT ?_; refine cf hh 0 [_,_] ?_) | refine gV ?_
      first | refine gS ?_ | (refine gT ?_; refine cf hh 9 [_,_] ?_) | refine gV ?_
      refine aX rfl rfl ?_
      refine bE hh (gg (g := t) (h := p) _ (hh.az (i := 1) rfl) (hp.ext hh.below) hut (by omega) (by omega)) rfl ?_
      intro w177 hh
      first | refine gS ?_ | (refine gT ?_; (first | refine ct ?_ | refine cq ?_)) | refine gV ?_
      first | refine gS ?_ | (refine gT ?_; (first | refine ct ?_ | refine cq ?_)) | refine gV ?_
      first | refine ct ?_ | refine cq ?_
      refine mB ?_
      refine aX rfl rfl ?_
      refine bE hh (eN _ (hT.hp hh)) rfl ?_
      intro w182 hh
      first | refine ct ?_ | refine cq ?_
      refine aB (aa (ao ?_))
      refine cd ?_
      exact ⟨rfl, hh.below⟩
     ·refine mT ?_
      refine cM ?_
      refine cM ?_
      refine cj hh ?_
      intro b21 w21 hh
      refine bK hh 0 [_,_] ?_
      intro ws hh
      replace hh : Hp _ (.blk _ _ [_, _] _ :: _) _ := hh
      refine aI (aa (ai (sr (mI ?_))))
      refine cI (mB ?_)
      first | refine gS ?_ | (refine gT ?_; refine mI ?_) | refine gV ?_
      first | refine gS ?_ | (refine gT ?_; refine cI ?_) | refine gV ?_
      first | refine ct ?_ | refine cq ?_
      refine mB ?_
      first | refine gS ?_ | (refine gT ?_; refine mI ?_) | refine gV ?_
      first | refine gS ?_ | (refine gT ?_; refine cI ?_) | refine gV ?_
      first | refine ct ?_ | refine cq ?_
      refine mB ?_
      first | refine gS ?_ | (refine gT ?_; refine mI ?_) | refine gV ?_
      first | refine gS ?_ | (refine gT ?_; refine cI ?_) | refine gV ?_
      first | refine ct ?_ | refine cq ?_
      refine mB ?_
      first | refine gS ?_ | (refine gT ?_; refine cf hh 2 [_,_] ?_) | refine gV ?_
      first | refine gS ?_ | (refine gT ?_; refine mI ?_) | refine gV ?_
      first | refine gS ?_ | (refine gT ?_; refine cf hh 0 [_,_] ?_) | refine gV ?_
      first | refine gS ?_ | (refine gT ?_; refine mI ?_) | refine gV ?_
      refine bH (by decide) rfl rfl (by decide) ?_
      first | refine gS ?_ | (refine gT ?_; refine eo ?_) | refine gV ?_
      first | refine ct ?_ | refine cq ?_
      refine aa (cF (al (aj (ai ?_))))
      replace hh := hh.sub (List.Sublist.cons _ (List.Sublist.cons _ (List.Sublist.cons _ (List.Sublist.cons _ (List.Sublist.cons_cons _ (List.Sublist.cons_cons _ (List.Sublist.cons_cons _ List.Sublist.slnil)))))))
      refine dw [6] [5] [0, 0, 3, 7, 15, 15, 0, 95, 255] 7 [[(4, none)], [], [(147, some 0), (148, some 1)], [(149, some 2)], [(146, some 3)], [(146, some 3)], []] [(6, 23), (5, 151), (4, 150), (3, 146), (2, 149), (1, 148), (0, 147)] hh mixed (by kernel_rfl) (il rfl aC.out dZ) rfl (by repeat (first | exact bS | refine bG ?_ | refine bT ?_)) ?_
      refine gj 1 [_,_] ?_
      refine dC (fun _ hj => bM (-1) _ (by decide) (by decide)) ?_
      refine bz (i := 2) (eI hh.sz 0 q.v (aP (q.ts.map (fP ((-1 : Int) : Dyadic))))) (eI.ext) ?_ ?_
      ·intro ρ1 w1 hj hR
       exact cG rfl (bh ar.out (aF (show ρ1 147 = Value.agg (List.toArray _) from hR.1) (aF (show ρ1 148 = Value.agg (List.toArray _) from hR.2.1) bj))) (hsc w1 (hT.hp hj.hp) (hq.ext hj.hp.below)) (fun _ _ ⟨g, og, hq, h3⟩ => ⟨_, hq, h3.below, g, w1, rfl, og, hj.bl.size, h3⟩)
      refine bz (i := 3) (eI hh.sz 0 q.v (aP (q.ts.map (fP ((-1 : Int) : Dyadic))))) (eI.ext) ?_ ?_
      ·intro ρ1 w1 hj hR
       exact let ⟨g, u, e1, e2⟩ := hR.1; dD rfl (dt e1) ⟨Below.refl _ _, g, u, rfl, e2⟩
      refine bz (i := 4) (fo hh.sz 0 q.v (aP (q.ts.map (fP ((-1 : Int) : Dyadic))))) (fo.ext) ?_ ?_
      ·intro ρ1 w1 hj hR
       exact let ⟨g, u, e1, e2⟩ := hR.1; dD rfl (cw (vs := [_, _]) e1 rfl) ⟨Below.refl _ _, g, u, rfl, e2⟩
      refine bz (i := 5) (Is (.int .i64 0)) (Is.ext) ?_ ?_
      ·intro ρ1 w1 hj hR
       exact let ⟨g, u, e1, e2⟩ := hR.1; dD rfl (cw (vs := [_, _]) e1 rfl) ⟨Below.refl _ _, rfl⟩
      refine bz (i := 6) (ca _ 31 _) ca.ext (fun ρ1 w1 hj hR => eY aC.out hj.bl (fun v w2 h hb => ⟨hb, h⟩)) ?_
      refine bo ?_
      intro f W hJ hV _
      have hb_19 := hJ.bl
      obtain ⟨v23, v151, v150, v146, v149, v148, v147, _⟩ := hV
      obtain ⟨g149, u149, e149, -⟩ := v149
      obtain ⟨g146, u146, e146, -⟩ := v146
      obtain ⟨g150, u150, e150, o150, q150, h150⟩ := v150
      obtain ⟨b23, e23, hl23, hc23⟩ : ca _ _ _ (f 6) W := v23
      replace hh := hJ.gu hh hl23 hc23 q150 h150 (PX.ne h150 hc23 (by decide))
      refine a7 (bu (ah e23 (ah v151 (ah e150 (ah e146 (ah e149 (ah v148 (ah v147 a6)))))))) ?_
      dsimp only [cJ]
      clear e149 e146 e150 e23 hJ
      simp only [List.cons_append, List.nil_append] at hh
      replace hh := show Hp w (_ :: .row g150.A g150.n g150.c 58 4 (a8 TR.cells g150.ts) :: _) W from hh
      have mc := hh.dI (i := 1) rfl
      have mn : g150.ts.length = g150.n := PX.at_.ln (hh.az (i := 1) rfl)
      obtain ⟨me, ml⟩ := hma g150 o150 mn mc
      have mv := o150.v0
      have mt := o150.t0
      refine bK hh 0 [_,_] ?_
      intro ws hh
      replace hh : Hp _ (.blk _ _ [_, _] _ :: _) _ := hh
      refine aI (aa (sr ?_))
      refine cf hh 4 [_,_] ?_
      refine cf hh 3 [_,_] ?_
      refine aO hh (cs := [_, _, _, _]) aJ.out aC.out (aG (bq rfl) (aG (bq rfl) bC)) rfl rfl (by decide) (by decide) (by decide) rfl (by decide) ?_
      intro b155 w155 hh
      refine aH (cP _ 2 2 [p, q] 492 _ (hT.hp hh) (hh.az (i := 0) rfl) (by decide) (fh (hp.ext hh.below) (hq.ext hh.below)) (iF lp lq) (by decide)) ar.out rfl (by decide) ?_
      rintro e_ w156 ⟨u, ou, rfl, h2⟩
      refine ⟨_, rfl, ?_⟩
      replace hh := hh.join h2
      clear h2
      simp only [List.cons_append, List.nil_append] at hh
      replace hh := show Hp w (.row u.A u.n u.c 58 4 (a8 TR.cells u.ts) :: _) w156 from hh
      have ccu := hh.dI (i := 0) rfl
      have un : u.ts.length = u.n := PX.at_.ln (hh.az (i := 0) rfl)
      obtain ⟨ue, ul, u1, u2⟩ := hua u ou un ccu
      clear ou
      replace hh := hh.sub (List.Sublist.cons_cons _ (List.Sublist.cons _ (List.Sublist.cons_cons _ (List.Sublist.cons_cons _ (List.Sublist.cons_cons _ (List.Sublist.cons_cons _ (List.Sublist.cons_cons _ List.Sublist.slnil)))))))
      refine mT ?_
      refine cM ?_
      refine cM ?_
      refine cj hh ?_
      intro b25 w25 hh
      refine bK hh 0 [_,_] ?_
      intro ws hh
      replace hh : Hp _ (.blk _ _ [_, _] _ :: _) _ := hh
      refine aI (aa (sr ?_))
      refine cf hh 0 [_,_] ?_
      refine cf hh 2 [_,_] ?_
      refine aO hh (cs := [_, _, _, _]) aJ.out aC.out (aG (bq rfl) (aG (bq rfl) bC)) rfl rfl (by decide) (by decide) (by decide) rfl (by decide) ?_
      intro b162 w162 hh
      have hv0 : gd [u, g150] = 0 := by
       have h8 := bW (p.ts ++ q.ts)
       have h9 := bW (q.ts.map (fP ((-1 : Int) : Dyadic)))
       rw [List.length_append] at h8
       rw [List.length_map] at h9
       rw [dk (by rw [iz, List.length_append, u2, mt]; omega), fJ ue me (by rw [mv, u1, v1])]
      refine aH (cP _ 2 2 [u, g150] 100000 _ (hT.hp hh) (hh.az (i := 0) rfl) (by decide) (fh (hh.az (i := 2) rfl) (hh.az (i := 4) rfl)) (iF ul ml) (by decide)) ar.out rfl (by decide) ?_
      rintro e_ w163 ⟨t, ot, rfl, h2⟩
      refine ⟨_, rfl, ?_⟩
      replace hh := hh.join h2
      clear h2
      simp only [List.cons_append, List.nil_append] at hh
      replace hh := show Hp w (.row t.A t.n t.c 58 4 (a8 TR.cells t.ts) :: _) w163 from hh
      have cct := hh.dI (i := 0) rfl
      have hut : t.v = p.v ∧ t.ts = p.ts := by
       obtain ⟨t1, t2⟩ := ot.when hv0
       refine ⟨t1.trans u1, ?_⟩
       rw [t2, iz, u2, mt]
       exact gX q.ts k1.2.2.2
      have tn : t.ts.length = t.n := PX.at_.ln (hh.az (i := 0) rfl)
      rw [hut.2] at tn
      have pn : p.ts.length = p.n := hp.ln
      refine mT ?_
      refine cM ?_
      refine cM ?_
      refine cj hh ?_
      intro b27 w27 hh
      refine bK hh 0 [_,_] ?_
      intro ws hh
      replace hh : Hp _ (.blk _ _ [_, _] _ :: _) _ := hh
      refine aI (aa (sr (mI ?_)))
      refine cI (mB ?_)
      first | refine gS ?_ | (refine gT ?_; refine mI ?_) | refine gV ?_
      first | refine gS ?_ | (refine gT ?_; refine dR ?_) | refine gV ?_
      first | refine gS ?_ | (refine gT ?_; refine mB ?_) | refine gV ?_
      first | refine gS ?_ | (refine gT ?_; refine mI ?_) | refine gV ?_
      first | refine gS ?_ | (refine gT ?_; refine cI ?_) | refine gV ?_
      first | refine gS ?_ | (refine gT ?_; refine mB ?_) | refine gV ?_
      first | refine gS ?_ | (refine gT ?_; refine cf hh 0 [_,_] ?_) | refine gV ?_
      first | refine gS ?_ | (refine gT ?_; refine cf hh 9 [_,_] ?_) | refine gV ?_
      refine aX rfl rfl ?_
      refine bE hh (gg (g := t) (h := p) _ (hh.az (i := 1) rfl) (hp.ext hh.below) hut (by omega) (by omega)) rfl ?_
      intro w177 hh
      first | refine gS ?_ | (refine gT ?_; (first | refine ct ?_ | refine cq ?_)) | refine gV ?_
      first | refine gS ?_ | (refine gT ?_; (first | refine ct ?_ | refine cq ?_)) | refine gV ?_
      first | refine ct ?_ | refine cq ?_
      refine mB ?_
      refine aX rfl rfl ?_
      refine bE hh (eN _ (hT.hp hh)) rfl ?_
      intro w182 hh
      first | refine ct ?_ | refine cq ?_
      refine aB (aa (ao ?_))
      refine cd ?_
      exact ⟨rfl, hh.below⟩
    ·refine mT ?_
     refine cM ?_
     refine cM ?_
     refine cj hh ?_
     intro b21 w21 hh
     refine bK hh 0 [_,_] ?_
     intro ws hh
     replace hh : Hp _ (.blk _ _ [_, _] _ :: _) _ := hh
     refine aI (aa (ai (sr (mI ?_))))
     refine cI (mB ?_)
     first | refine gS ?_ | (refine gT ?_; refine mI ?_) | refine gV ?_
     first | refine gS ?_ | (refine gT ?_; refine cI ?_) | refine gV ?_
     first | refine ct ?_ | refine cq ?_
     refine mB ?_
     first | refine gS ?_ | (refine gT ?_; refine mI ?_) | refine gV ?_
     first | refine gS ?_ | (refine gT ?_; refine cI ?_) | refine gV ?_
     first | refine ct ?_ | refine cq ?_
     refine mB ?_
     first | refine gS ?_ | (refine gT ?_; refine mI ?_) | refine gV ?_
     first | refine gS ?_ | (refine gT ?_; refine cI ?_) | refine gV ?_
     first | refine ct ?_ | refine cq ?_
     refine mB ?_
     first | refine gS ?_ | (refine gT ?_; refine cf hh 2 [_,_] ?_) | refine gV ?_
     first | refine gS ?_ | (refine gT ?_; refine mI ?_) | refine gV ?_
     first | refine gS ?_ | (refine gT ?_; refine cf hh 0 [_,_] ?_) | refine gV ?_
     first | refine gS ?_ | (refine gT ?_; refine mI ?_) | refine gV ?_
     refine bH (by decide) rfl rfl (by decide) ?_
     first | refine gS ?_ | (refine gT ?_; refine eo ?_) | refine gV ?_
     first | refine ct ?_ | refine cq ?_
     refine aa (cF (al (aj (ai ?_))))
     replace hh := hh.sub (List.Sublist.cons _ (List.Sublist.cons _ (List.Sublist.cons _ (List.Sublist.cons _ (List.Sublist.cons_cons _ (List.Sublist.cons_cons _ (List.Sublist.cons_cons _ List.Sublist.slnil)))))))
     refine dw [6] [5] [0, 0, 3, 7, 15, 15, 0, 95, 255] 7 [[(4, none)], [], [(147, some 0), (148, some 1)], [(149, some 2)], [(146, some 3)], [(146, some 3)], []] [(6, 23), (5, 151), (4, 150), (3, 146), (2, 149), (1, 148), (0, 147)] hh mixed (by kernel_rfl) (il rfl aC.out dZ) rfl (by repeat (first | exact bS | refine bG ?_ | refine bT ?_)) ?_
     refine gj 1 [_,_] ?_
     refine dC (fun _ hj => bM (-1) _ (by decide) (by decide)) ?_
     refine bz (i := 2) (eI hh.sz 0 q.v (aP (q.ts.map (fP ((-1 : Int) : Dyadic))))) (eI.ext) ?_ ?_
     ·intro ρ1 w1 hj hR
      exact cG rfl (bh ar.out (aF (show ρ1 147 = Value.agg (List.toArray _) from hR.1) (aF (show ρ1 148 = Value.agg (List.toArray _) from hR.2.1) bj))) (hsc w1 (hT.hp hj.hp) (hq.ext hj.hp.below)) (fun _ _ ⟨g, og, hq, h3⟩ => ⟨_, hq, h3.below, g, w1, rfl, og, hj.bl.size, h3⟩)
     refine bz (i := 3) (eI hh.sz 0 q.v (aP (q.ts.map (fP ((-1 : Int) : Dyadic))))) (eI.ext) ?_ ?_
     ·intro ρ1 w1 hj hR
      exact let ⟨g, u, e1, e2⟩ := hR.1; dD rfl (dt e1) ⟨Below.refl _ _, g, u, rfl, e2⟩
     refine bz (i := 4) (fo hh.sz 0 q.v (aP (q.ts.map (fP ((-1 : Int) : Dyadic))))) (fo.ext) ?_ ?_
     ·intro ρ1 w1 hj hR
      exact let ⟨g, u, e1, e2⟩ := hR.1; dD rfl (cw (vs := [_, _]) e1 rfl) ⟨Below.refl _ _, g, u, rfl, e2⟩
     refine bz (i := 5) (Is (.int .i64 0)) (Is.ext) ?_ ?_
     ·intro ρ1 w1 hj hR
      exact let ⟨g, u, e1, e2⟩ := hR.1; dD rfl (cw (vs := [_, _]) e1 rfl) ⟨Below.refl _ _, rfl⟩
     refine bz (i := 6) (ca _ 31 _) ca.ext (fun ρ1 w1 hj hR => eY aC.out hj.bl (fun v w2 h hb => ⟨hb, h⟩)) ?_
     refine bo ?_
     intro f W hJ hV _
     have hb_19 := hJ.bl
     obtain ⟨v23, v151, v150, v146, v149, v148, v147, _⟩ := hV
     obtain ⟨g149, u149, e149, -⟩ := v149
     obtain ⟨g146, u146, e146, -⟩ := v146
     obtain ⟨g150, u150, e150, o150, q150, h150⟩ := v150
     obtain ⟨b23, e23, hl23, hc23⟩ : ca _ _ _ (f 6) W := v23
     replace hh := hJ.gu hh hl23 hc23 q150 h150 (PX.ne h150 hc23 (by decide))
     refine a7 (bu (ah e23 (ah v151 (ah e150 (ah e146 (ah e149 (ah v148 (ah v147 a6)))))))) ?_
     dsimp only [cJ]
     clear e149 e146 e150 e23 hJ
     simp only [List.cons_append, List.nil_append] at hh
     replace hh := show Hp w (_ :: .row g150.A g150.n g150.c 58 4 (a8 TR.cells g150.ts) :: _) W from hh
     have mc := hh.dI (i := 1) rfl
     have mn : g150.ts.length = g150.n := PX.at_.ln (hh.az (i := 1) rfl)
     obtain ⟨me, ml⟩ := hma g150 o150 mn mc
     have mv := o150.v0
     have mt := o150.t0
     refine bK hh 0 [_,_] ?_
     intro ws hh
     replace hh : Hp _ (.blk _ _ [_, _] _ :: _) _ := hh
     refine aI (aa (sr ?_))
     refine cf hh 4 [_,_] ?_
     refine cf hh 3 [_,_] ?_
     refine aO hh (cs := [_, _, _, _]) aJ.out aC.out (aG (bq rfl) (aG (bq rfl) bC)) rfl rfl (by decide) (by decide) (by decide) rfl (by decide) ?_
     intro b155 w155 hh
     refine aH (cP _ 2 2 [p, q] 492 _ (hT.hp hh) (hh.az (i := 0) rfl) (by decide) (fh (hp.ext hh.below) (hq.ext hh.below)) (iF lp lq) (by decide)) ar.out rfl (by decide) ?_
     rintro e_ w156 ⟨u, ou, rfl, h2⟩
     refine ⟨_, rfl, ?_⟩
     replace hh := hh.join h2
     clear h2
     simp only [List.cons_append, List.nil_append] at hh
     replace hh := show Hp w (.row u.A u.n u.c 58 4 (a8 TR.cells u.ts) :: _) w156 from hh
     have ccu := hh.dI (i := 0) rfl
     have un : u.ts.length = u.n := PX.at_.ln (hh.az (i := 0) rfl)
     obtain ⟨ue, ul, u1, u2⟩ := hua u ou un ccu
     clear ou
     replace hh := hh.sub (List.Sublist.cons_cons _ (List.Sublist.cons _ (List.Sublist.cons_cons _ (List.Sublist.cons_cons _ (List.Sublist.cons_cons _ (List.Sublist.cons_cons _ (List.Sublist.cons_cons _ List.Sublist.slnil)))))))
     refine mT ?_
     refine cM ?_
     refine cM ?_
     refine cj hh ?_
     intro b25 w25 hh
     refine bK hh 0 [_,_] ?_
     intro ws hh
     replace hh : Hp _ (.blk _ _ [_, _] _ :: _) _ := hh
     refine aI (aa (sr ?_))
     refine cf hh 0 [_,_] ?_
     refine cf hh 2 [_,_] ?_
     refine aO hh (cs := [_, _, _, _]) aJ.out aC.out (aG (bq rfl) (aG (bq rfl) bC)) rfl rfl (by decide) (by decide) (by decide) rfl (by decide) ?_
     intro b162 w162 hh
     have hv0 : gd [u, g150] = 0 := by
      have h8 := bW (p.ts ++ q.ts)
      have h9 := bW (q.ts.map (fP ((-1 : Int) : Dyadic)))
      rw [List.length_append] at h8
      rw [List.length_map] at h9
      rw [dk (by rw [iz, List.length_append, u2, mt]; omega), fJ ue me (by rw [mv, u1, v1])]
     refine aH (cP _ 2 2 [u, g150] 100000 _ (hT.hp hh) (hh.az (i := 0) rfl) (by decide) (fh (hh.az (i := 2) rfl) (hh.az (i := 4) rfl)) (iF ul ml) (by decide)) ar.out rfl (by decide) ?_
     rintro e_ w163 ⟨t, ot, rfl, h2⟩
     refine ⟨_, rfl, ?_⟩
     replace hh := hh.join h2
     clear h2
     simp only [List.cons_append, List.nil_append] at hh
     replace hh := show Hp w (.row t.A t.n t.c 58 4 (a8 TR.cells t.ts) :: _) w163 from hh
     have cct := hh.dI (i := 0) rfl
     have hut : t.v = p.v ∧ t.ts = p.ts := by
      obtain ⟨t1, t2⟩ := ot.when hv0
      refine ⟨t1.trans u1, ?_⟩
      rw [t2, iz, u2, mt]
      exact gX q.ts k1.2.2.2
     have tn : t.ts.length = t.n := PX.at_.ln (hh.az (i := 0) rfl)
     rw [hut.2] at tn
     have pn : p.ts.length = p.n := hp.ln
     refine mT ?_
     refine cM ?_
     refine cM ?_
     refine cj hh ?_
     intro b27 w27 hh
     refine bK hh 0 [_,_] ?_
     intro ws hh
     replace hh : Hp _ (.blk _ _ [_, _] _ :: _) _ := hh
     refine aI (aa (sr (mI ?_)))
     refine cI (mB ?_)
     first | refine gS ?_ | (refine gT ?_; refine mI ?_) | refine gV ?_
     first | refine gS ?_ | (refine gT ?_; refine dR ?_) | refine gV ?_
     first | refine gS ?_ | (refine gT ?_; refine mB ?_) | refine gV ?_
     first | refine gS ?_ | (refine gT ?_; refine mI ?_) | refine gV ?_
     first | refine gS ?_ | (refine gT ?_; refine cI ?_) | refine gV ?_
     first | refine gS ?_ | (refine gT ?_; refine mB ?_) | refine gV ?_
     first | refine gS ?_ | (refine gT ?_; refine cf hh 0 [_,_] ?_) | refine gV ?_
     first | refine gS ?_ | (refine gT ?_; refine cf hh 9 [_,_] ?_) | refine gV ?_
     refine aX rfl rfl ?_
     refine bE hh (gg (g := t) (h := p) _ (hh.az (i := 1) rfl) (hp.ext hh.below) hut (by omega) (by omega)) rfl ?_
     intro w177 hh
     first | refine gS ?_ | (refine gT ?_; (first | refine ct ?_ | refine cq ?_)) | refine gV ?_
     first | refine gS ?_ | (refine gT ?_; (first | refine ct ?_ | refine cq ?_)) | refine gV ?_
     first | refine ct ?_ | refine cq ?_
     refine mB ?_
     refine aX rfl rfl ?_
     refine bE hh (eN _ (hT.hp hh)) rfl ?_
     intro w182 hh
     first | refine ct ?_ | refine cq ?_
     refine aB (aa (ao ?_))
     refine cd ?_
     exact ⟨rfl, hh.below⟩
   ·refine mT ?_
    refine cM ?_
    refine cM ?_
    refine cj hh ?_
    intro b21 w21 hh
    refine bK hh 0 [_,_] ?_
    intro ws hh
    replace hh : Hp _ (.blk _ _ [_, _] _ :: _) _ := hh
    refine aI (aa (ai (sr (mI ?_))))
    refine cI (mB ?_)
    first | refine gS ?_ | (refine gT ?_; refine mI ?_) | refine gV ?_
    first | refine gS ?_ | (refine gT ?_; refine cI ?_) | refine gV ?_
    first | refine ct ?_ | refine cq ?_
    refine mB ?_
    first | refine gS ?_ | (refine gT ?_; refine mI ?_) | refine gV ?_
    first | refine gS ?_ | (refine gT ?_; refine cI ?_) | refine gV ?_
    first | refine ct ?_ | refine cq ?_
    refine mB ?_
    first | refine gS ?_ | (refine gT ?_; refine mI ?_) | refine gV ?_
    first | refine gS ?_ | (refine gT ?_; refine cI ?_) | refine gV ?_
    first | refine ct ?_ | refine cq ?_
    refine mB ?_
    first | refine gS ?_ | (refine gT ?_; refine cf hh 2 [_,_] ?_) | refine gV ?_
    first | refine gS ?_ | (refine gT ?_; refine mI ?_) | refine gV ?_
    first | refine gS ?_ | (refine gT ?_; refine cf hh 0 [_,_] ?_) | refine gV ?_
    first | refine gS ?_ | (refine gT ?_; refine mI ?_) | refine gV ?_
    refine bH (by decide) rfl rfl (by decide) ?_
    first | refine gS ?_ | (refine gT ?_; refine eo ?_) | refine gV ?_
    first | refine ct ?_ | refine cq ?_
    refine aa (cF (al (aj (ai ?_))))
    replace hh := hh.sub (List.Sublist.cons _ (List.Sublist.cons _ (List.Sublist.cons _ (List.Sublist.cons _ (List.Sublist.cons_cons _ (List.Sublist.cons_cons _ (List.Sublist.cons_cons _ List.Sublist.slnil)))))))
    refine dw [6] [5] [0, 0, 3, 7, 15, 15, 0, 95, 255] 7 [[(4, none)], [], [(147, some 0), (148, some 1)], [(149, some 2)], [(146, some 3)], [(146, some 3)], []] [(6, 23), (5, 151), (4, 150), (3, 146), (2, 149), (1, 148), (0, 147)] hh mixed (by kernel_rfl) (il rfl aC.out dZ) rfl (by repeat (first | exact bS | refine bG ?_ | refine bT ?_)) ?_
    refine gj 1 [_,_] ?_
    refine dC (fun _ hj => bM (-1) _ (by decide) (by decide)) ?_
    refine bz (i := 2) (eI hh.sz 0 q.v (aP (q.ts.map (fP ((-1 : Int) : Dyadic))))) (eI.ext) ?_ ?_
    ·intro ρ1 w1 hj hR
     exact cG rfl (bh ar.out (aF (show ρ1 147 = Value.agg (List.toArray _) from hR.1) (aF (show ρ1 148 = Value.agg (List.toArray _) from hR.2.1) bj))) (hsc w1 (hT.hp hj.hp) (hq.ext hj.hp.below)) (fun _ _ ⟨g, og, hq, h3⟩ => ⟨_, hq, h3.below, g, w1, rfl, og, hj.bl.size, h3⟩)
    refine bz (i := 3) (eI hh.sz 0 q.v (aP (q.ts.map (fP ((-1 : Int) : Dyadic))))) (eI.ext) ?_ ?_
    ·intro ρ1 w1 hj hR
     exact let ⟨g, u, e1, e2⟩ := hR.1; dD rfl (dt e1) ⟨Below.refl _ _, g, u, rfl, e2⟩
    refine bz (i := 4) (fo hh.sz 0 q.v (aP (q.ts.map (fP ((-1 : Int) : Dyadic))))) (fo.ext) ?_ ?_
    ·intro ρ1 w1 hj hR
     exact let ⟨g, u, e1, e2⟩ := hR.1; dD rfl (cw (vs := [_, _]) e1 rfl) ⟨Below.refl _ _, g, u, rfl, e2⟩
    refine bz (i := 5) (Is (.int .i64 0)) (Is.ext) ?_ ?_
    ·intro ρ1 w1 hj hR
     exact let ⟨g, u, e1, e2⟩ := hR.1; dD rfl (cw (vs := [_, _]) e1 rfl) ⟨Below.refl _ _, rfl⟩
    refine bz (i := 6) (ca _ 31 _) ca.ext (fun ρ1 w1 hj hR => eY aC.out hj.bl (fun v w2 h hb => ⟨hb, h⟩)) ?_
    refine bo ?_
    intro f W hJ hV _
    have hb_19 := hJ.bl
    obtain ⟨v23, v151, v150, v146, v149, v148, v147, _⟩ := hV
    obtain ⟨g149, u149, e149, -⟩ := v149
    obtain ⟨g146, u146, e146, -⟩ := v146
    obtain ⟨g150, u150, e150, o150, q150, h150⟩ := v150
    obtain ⟨b23, e23, hl23, hc23⟩ : ca _ _ _ (f 6) W := v23
    replace hh := hJ.gu hh hl23 hc23 q150 h150 (PX.ne h150 hc23 (by decide))
    refine a7 (bu (ah e23 (ah v151 (ah e150 (ah e146 (ah e149 (ah v148 (ah v147 a6)))))))) ?_
    dsimp only [cJ]
    clear e149 e146 e150 e23 hJ
    simp only [List.cons_append, List.nil_append] at hh
    replace hh := show Hp w (_ :: .row g150.A g150.n g150.c 58 4 (a8 TR.cells g150.ts) :: _) W from hh
    have mc := hh.dI (i := 1) rfl
    have mn : g150.ts.length = g150.n := PX.at_.ln (hh.az (i := 1) rfl)
    obtain ⟨me, ml⟩ := hma g150 o150 mn mc
    have mv := o150.v0
    have mt := o150.t0
    refine bK hh 0 [_,_] ?_
    intro ws hh
    replace hh : Hp _ (.blk _ _ [_, _] _ :: _) _ := hh
    refine aI (aa (sr ?_))
    refine cf hh 4 [_,_] ?_
    refine cf hh 3 [_,_] ?_
    refine aO hh (cs := [_, _, _, _]) aJ.out aC.out (aG (bq rfl) (aG (bq rfl) bC)) rfl rfl (by decide) (by decide) (by decide) rfl (by decide) ?_
    intro b155 w155 hh
    refine aH (cP _ 2 2 [p, q] 492 _ (hT.hp hh) (hh.az (i := 0) rfl) (by decide) (fh (hp.ext hh.below) (hq.ext hh.below)) (iF lp lq) (by decide)) ar.out rfl (by decide) ?_
    rintro e_ w156 ⟨u, ou, rfl, h2⟩
    refine ⟨_, rfl, ?_⟩
    replace hh := hh.join h2
    clear h2
    simp only [List.cons_append, List.nil_append] at hh
    replace hh := show Hp w (.row u.A u.n u.c 58 4 (a8 TR.cells u.ts) :: _) w156 from hh
    have ccu := hh.dI (i := 0) rfl
    have un : u.ts.length = u.n := PX.at_.ln (hh.az (i := 0) rfl)
    obtain ⟨ue, ul, u1, u2⟩ := hua u ou un ccu
    clear ou
    replace hh := hh.sub (List.Sublist.cons_cons _ (List.Sublist.cons _ (List.Sublist.cons_cons _ (List.Sublist.cons_cons _ (List.Sublist.cons_cons _ (List.Sublist.cons_cons _ (List.Sublist.cons_cons _ List.Sublist.slnil)))))))
    refine mT ?_
    refine cM ?_
    refine cM ?_
    refine cj hh ?_
    intro b25 w25 hh
    refine bK hh 0 [_,_] ?_
    intro ws hh
    replace hh : Hp _ (.blk _ _ [_, _] _ :: _) _ := hh
    refine aI (aa (sr ?_))
    refine cf hh 0 [_,_] ?_
    refine cf hh 2 [_,_] ?_
    refine aO hh (cs := [_, _, _, _]) aJ.out aC.out (aG (bq rfl) (aG (bq rfl) bC)) rfl rfl (by decide) (by decide) (by decide) rfl (by decide) ?_
    intro b162 w162 hh
    have hv0 : gd [u, g150] = 0 := by
     have h8 := bW (p.ts ++ q.ts)
     have h9 := bW (q.ts.map (fP ((-1 : Int) : Dyadic)))
     rw [List.length_append] at h8
     rw [List.length_map] at h9
     rw [dk (by rw [iz, List.length_append, u2, mt]; omega), fJ ue me (by rw [mv, u1, v1])]
    refine aH (cP _ 2 2 [u, g150] 100000 _ (hT.hp hh) (hh.az (i := 0) rfl) (by decide) (fh (hh.az (i := 2) rfl) (hh.az (i := 4) rfl)) (iF ul ml) (by decide)) ar.out rfl (by decide) ?_
    rintro e_ w163 ⟨t, ot, rfl, h2⟩
    refine ⟨_, rfl, ?_⟩
    replace hh := hh.join h2
    clear h2
    simp only [List.cons_append, List.nil_append] at hh
    replace hh := show Hp w (.row t.A t.n t.c 58 4 (a8 TR.cells t.ts) :: _) w163 from hh
    have cct := hh.dI (i := 0) rfl
    have hut : t.v = p.v ∧ t.ts = p.ts := by
     obtain ⟨t1, t2⟩ := ot.when hv0
     refine ⟨t1.trans u1, ?_⟩
     rw [t2, iz, u2, mt]
     exact gX q.ts k1.2.2.2
    have tn : t.ts.length = t.n := PX.at_.ln (hh.az (i := 0) rfl)
    rw [hut.2] at tn
    have pn : p.ts.length = p.n := hp.ln
    refine mT ?_
    refine cM ?_
    refine cM ?_
    refine cj hh ?_
    intro b27 w27 hh
    refine bK hh 0 [_,_] ?_
    intro ws hh
    replace hh : Hp _ (.blk _ _ [_, _] _ :: _) _ := hh
    refine aI (aa (sr (mI ?_)))
    refine cI (mB ?_)
    first | refine gS ?_ | (refine gT ?_; refine mI ?_) | refine gV ?_
    first | refine gS ?_ | (refine gT ?_; refine dR ?_) | refine gV ?_
    first | refine gS ?_ | (refine gT ?_; refine mB ?_) | refine gV ?_
    first | refine gS ?_ | (refine gT ?_; refine mI ?_) | refine gV ?_
    first | refine gS ?_ | (refine gT ?_; refine cI ?_) | refine gV ?_
    first | refine gS ?_ | (refine gT ?_; refine mB ?_) | refine gV ?_
    first | refine gS ?_ | (refine gT ?_; refine cf hh 0 [_,_] ?_) | refine gV ?_
    first | refine gS ?_ | (refine gT ?_; refine cf hh 9 [_,_] ?_) | refine gV ?_
    refine aX rfl rfl ?_
    refine bE hh (gg (g := t) (h := p) _ (hh.az (i := 1) rfl) (hp.ext hh.below) hut (by omega) (by omega)) rfl ?_
    intro w177 hh
    first | refine gS ?_ | (refine gT ?_; (first | refine ct ?_ | refine cq ?_)) | refine gV ?_
    first | refine gS ?_ | (refine gT ?_; (first | refine ct ?_ | refine cq ?_)) | refine gV ?_
    first | refine ct ?_ | refine cq ?_
    refine mB ?_
    refine aX rfl rfl ?_
    refine bE hh (eN _ (hT.hp hh)) rfl ?_
    intro w182 hh
    first | refine ct ?_ | refine cq ?_
    refine aB (aa (ao ?_))
    refine cd ?_
    exact ⟨rfl, hh.below⟩
  ·have ha0 : a.n = 0 := by
    have h1 := oa.ts
    rw [if_neg h0] at h1
    have h2 : a.ts.length = a.n := PX.at_.ln (hh.az (i := 4) rfl)
    rw [h1] at h2
    exact h2.symm
   first | refine gS ?_ | (refine gT ?_; refine eo ?_) | refine gV ?_
   first | refine ct ?_ | refine cq ?_
   refine aa (cF (al (aj (ai (sr (mI ?_))))))
   refine dR (aa (cT (sr (bP ?_))))
   refine bQ hh 3 ?_
   refine a5 ?_
   refine cI (mB ?_)
   refine aX rfl rfl ?_
   refine bE hh (eN _ (hT.hp hh)) rfl ?_
   intro w69 hh
   first | refine ct ?_ | refine cq ?_
   refine aB (aa (ao (aM ?_)))
   refine cd ?_
   exact ⟨rfl, hh.below⟩
end Go.Proofs.YtkgdagjklakajaaGreatDoor
/- The row and the card of PolyRing. -/
namespace Go.Proofs.YtkgdagjklakajaaGreatDoor.polyRing
open Go.ChangeShapes Go.WideShapes Go.ChangeAt Go.RowKit Go.ChangeMaps
theorem own : ownKnob Tryz.prog.godebug = none := by kernel_rfl
set_option maxRecDepth 100000 in
theorem lifted (os : Os) (started : os.Started) (H : Type) (enc : TypeId × Value → H) :
  ReturnsInHanded {} Tryz.checked os 5 .any (fun w args => (Rows.polyRingSpec.pre enc Tryz.prog Tryz.f5 Rows.polyRingRow.domain false w args ∧ laidMetH Tryz.prog Rows.polyRingRow.laid w) ∧ sizedMet enc Tryz.prog Tryz.f5 (OpenSpec.ofChange Rows.polyRingSpec) false w args)
   (Rows.polyRingSpec.post enc Tryz.prog Tryz.f5 false true false false) := by
 refine returnsInHanded_of_change_and (C := Tryz.checked) (X := fun w _ => laidMetH Tryz.prog Rows.polyRingRow.laid w) (fun _ _ _ hh h => h.of_heap hh) own started (by kernel_rfl) Tryz.func5
  (ChangeSpec.witness_shaped (enc := enc) (C := Tryz.checked) (os := os) (X := fun w _ => laidMetH Tryz.prog Rows.polyRingRow.laid w) false (World.laidAll Tryz.prog os Rows.polyRingRow.laid) #[.agg #[.int .i64 0, .slice none 0 0], .agg #[.int .i64 0, .slice none 0 0], .agg #[.int .i64 0, .slice none 0 0]] 8 (World.laidAll_os _ _ _)
   (World.shaped_of_ZipB (by kernel_rfl) (by kernel_rfl)) (by kernel_rfl) (by kernel_rfl) (by kernel_rfl)
   (by rw [MakeChecks.laidMetH_plain _ _ _ (by kernel_rfl)]; exact laidMet_laidAll _ (by kernel_rfl) (by kernel_rfl))) ?_
 intro W base args ds gs before hval0 hW hc _ hL _
 have hval : ∀ (j : Nat) t v, Tryz.f5.params[j]? = some t → args[j]? = some v → Value.okWide Tryz.prog W .any base t v := hval0
 have hW' := hW
 obtain ⟨p, q, hA0, hV, rfl, hfz, hnd⟩ := hW
 have hA : DataW.TrodAll enc Tryz.prog W 0 (fun _ => true) true Tryz.f5.params.toList args.toList ds p := hA0
 rw [Tryz.params5] at hA hval
 obtain ⟨v0, vs0, d0, ds0, p0, q0, hargs, rfl, rfl, h0, r0⟩ := trodAll_cons hA
 obtain ⟨v1, vs1, d1, ds1, p1, q1, rfl, rfl, rfl, h1, r1⟩ := trodAll_cons r0
 obtain ⟨v2, vs2, d2, ds2, p2, q2, rfl, rfl, rfl, h2, r2⟩ := trodAll_cons r1
 obtain ⟨rfl, rfl, rfl⟩ := trodAll_nil r2
 obtain rfl : args = #[v0, v1, v2] := by cases args; simp_all
 obtain ⟨rfl, rfl⟩ := trodVars_none hV
 obtain ⟨f0, rfl, hS0, hR0⟩ := lh (hval 0 31 v0 rfl rfl) h0
 obtain ⟨f1, rfl, hS1, hR1⟩ := lh (hval 1 31 v1 rfl rfl) h1
 obtain ⟨f2, rfl, hS2, hR2⟩ := lh (hval 2 31 v2 rfl rfl) h2
 refine (nM f0 f1 f2 W (rM hL) hS0 hR0 hS1 hR1 hS2 hR2).mono fun e W' ⟨he, hb⟩ => ?_
 subst he
 exact ⟨_, rfl, xh hW' rfl (by kernel_rfl) (by rw [Tryz.params5]; exact of_decide_eq_true (by kernel_rfl)) (by kernel_rfl) Tryz.underlying4 rfl rfl rfl hb⟩
theorem row_holds : Rows.PolyRingSaid :=
 OpenClaim.holds_of_wide 5 Tryz.f5 rfl rfl rfl rfl rfl rfl rfl ⟨rfl, rfl, rfl, rfl, rfl⟩ rfl rfl rfl rfl rfl (by kernel_rfl) Tryz.func5 (by kernel_rfl)
  (of_decide_eq_true (by kernel_rfl)) (by unfold Func.isWrapper; first | (rw [if_pos (by decide +kernel)]; kernel_rfl) | (rw [if_neg (by decide +kernel)]; exact ⟨rfl, rfl⟩))
  (fun os started H enc _ => lifted os started H enc)
theorem holds : Rows.PolyRingCardSaid :=
 Claim7.holds_tied_plain_at .later [] [.data, .data, .pinned] true (true, "1c564a1a92a31679145c774681ebb04fb442f740ab3476e1cad723baa630082f") false row_holds (fun _ h => by cases h) (by kernel_rfl) (fun _ h => by cases h) polyRing_row_tie rfl ⟨rfl, rfl⟩ (by kernel_rfl) rfl
  (fun f fn hf hfn => by
   obtain rfl : f = 5 := Option.some.inj ((show Tryz.prog.funcNamed "ogee/ogeelaw08.PolyRing" = some 5 by kernel_rfl).symm.trans hf) |>.symm
   obtain rfl : fn = Tryz.f5 := (Option.some.inj (Tryz.func5.symm.trans hfn)).symm
   exact ⟨by kernel_rfl, fun j t ht => by
    rw [Tryz.params5] at ht
    have hm : t ∈ [31, 31, 31] := by simpa using Array.mem_of_getElem? ht
    have hall : ([31, 31, 31].all fun u => !Tryz.prog.wantsStandIn u) = true := by kernel_rfl
    exact (show Tryz.prog.wantsStandIn t = false by simpa using List.all_eq_true.1 hall t hm)⟩)
  (by kernel_rfl)
#print axioms holds
end Go.Proofs.YtkgdagjklakajaaGreatDoor.polyRing
