/- The row and the card of BernSums. -/
import Derived.OrdersIn
import Derived.Test.YteeckcbbnegmcaaGreatDoorCards
import Derived.Test.YteeckcbbnegmcaaGreatDoorTie
import Derived.SevenTiedAt
import Derived.Test.YteeckcbbnegmcaaGreatDoorZ6
namespace Go.Proofs.YteeckcbbnegmcaaGreatDoor
open Go.RowKit
abbrev CT := Gd
theorem CT.ext {base : Nat} {t : TypeId} {n sz : Nat} {cs : List Value} (v : Value) (w w' : World) (h : CT base t n sz cs v w) (hb : Below w.heap.size w w') : CT base t n sz cs v w' := Gd.ext v w w' h hb
section
variable {P : Program} {ρ : Rf} {w : World}
theorem JY {ops : Array Oper} {d : Option Nat} {ty : TypeId} {pos : String} {af : Array Edge} {t e : TypeId} {l cp : Operand} {kl kc : IntKind} {L C : Int} {n sz by' base : Nat} {ag : Bool} {zc : List Value} {K : Value → World → Prop} (hl : ev ρ l = .int kl L) (hc : ev ρ cp = .int kc C) (hL : L = (n : Int)) (hC : C = (n : Int))
  (ht : P.underlying t = some (.slice e)) (hte : dn P e = some (sz, ag, by', zc)) (hzl : zc.length = sz) (hb : by' * n ≤ 281474976710656) (h63 : n ≤ 9223372036854775807) (hbs : base ≤ w.heap.size)
  (hk : ∀ v w2, Gd base e n sz (fk n zc) v w2 → Below w.heap.size w w2 → K v w2) : OG P ops ⟨d, .makeSlice t l cp, ty, pos, af, none⟩ ρ w K := by
 obtain ⟨i, z, dd, hi, hd, hz, hs, hby, hzc, _⟩ := eu hte;subst hL; subst hC;obtain ⟨w', hr, hown, hg⟩ := run_make_full (P := P) w base t e i z sz ht hi hz hs kl kc n (by rw [hby]; exact hb) (by unfold maxLen; omega) hbs;have hzz : (madeCells z.cells (n * sz)).toList = fk n zc := by
  exact OY
 rw [hzz] at hown;exact fC rfl (w' := w') (v := .slice (some ⟨w.heap.size, 0, none⟩) n n) (by simp [execOp, hl, hc, hr]) (hk _ _ ⟨_, _, rfl, hown⟩ ⟨hg.os, hg.tape, hg.output, hg.size, fun j hj => hg.block j hj (by simp)⟩)
end
def p6 (q : Nat → Bool) (xs : List Dyadic) (i : Nat) : List Dyadic := ((List.range i).filter q).map fun p => (xs[p]?).getD 0
theorem Gq (q : Nat → Bool) (xs : List Dyadic) (i : Nat) : p6 q xs (i + 1) = p6 q xs i ++ if q i = true then [(xs[i]?).getD 0] else [] := by
 unfold p6;rw [List.range_succ, List.filter_append, List.map_append];congr 1;by_cases h : q i = true
 ·rw [if_pos h, List.filter_cons_of_pos h]; rfl
 ·rw [if_neg h, List.filter_cons_of_neg h]; rfl
theorem z5 (q : Nat → Bool) (xs : List Dyadic) (i : Nat) : (p6 q xs i).length ≤ i := by
 unfold p6;rw [List.length_map];exact Nat.le_trans (List.length_filter_le _ _) (by rw [List.length_range]; exact Nat.le_refl _)
def p9 (ap d : Nat) (p : Nat) : Bool := decide (p / ap % (d + 1) < d)
def CV (ns : List Nat) (a : Nat) : List Nat := ns.set a (ns.getD a 0 - 1)
def Co (ns : List Nat) (a : Nat) (xs : List Dyadic) : List Dyadic := if ns.getD a 0 = 0 then List.replicate xs.length 0 else p6 (p9 (au (ns.drop (a + 1))) (ns.getD a 0)) (jf (ns.drop (a + 1)).reverse (ns.getD a 0) (ns.getD a 0) (qf (ns.getD a 0)) xs xs.length 0) xs.length
set_option maxRecDepth 10000 in
theorem xy (fx : FX) (ax : Int) (k : Nat) (w : World) (hT : ee w) (hf : fx.at_ w) (hl : fx.kO k) (hcap : fx.n ≤ fx.a) (hk : k ≤ 500000) :
  Calls Tryz.prog 55 #[.agg #[.slice fx.A fx.n fx.a, .slice fx.B fx.m fx.b], .int .i64 ax] w fun r w' => ∃ g : FX, Out (mM fx ax) (CV fx.ns ax.toNat) (Co fx.ns ax.toNat (fx.cs.map NR.d)) g ∧ r = .returned (.tuple #[.agg #[.slice g.A g.n g.a, .slice g.B g.m g.b], .int .i64 (mM fx ax)]) ∧ Hp w [g.xG, g.vc] w' := by
 have hh := Hp.start w;have hhas := fun w1 hT1 hb => Ct fx ax k w1 hT1 (hf.ext hb) hl;by_cases hE : mM fx ax ≠ 0
 ·refine aj (N := 78) (l := [.agg #[.slice fx.A fx.n fx.a, .slice fx.B fx.m fx.b], .int .i64 ax]) Tryz.func55 rfl rfl (by simp) ?_;refine sr ?_;refine cx hh [_,_] ?_;intro b2 w2 hh;refine bR hh ?_;intro b4 w4 hh;refine aI (aa (ah (sr ?_)));refine cD hh 1 [_,_] (mI ?_);refine bz hh (hhas _ (hT.hp hh) hh.below) rfl ?_;intro w13 hh;exact RD
 ·have hE : mM fx ax = 0 := Tx;obtain ⟨h0, hx0, hx1⟩ := FU hE;obtain ⟨a, rfl⟩ : ∃ a : Nat, ax = a := ⟨ax.toNat, Tx⟩;rw [hE] at hhas ⊢;rw [Int.toNat_natCast];obtain ⟨hdeg, hnum, h12, hlow, hcnt, hmax⟩ := FX.fv h0;have hln := hf.ln.1;have hlm := hf.ln.2;have hnl : fx.ns.length = fx.n := by unfold FX.ns; rw [List.length_map]; exact hln
  obtain ⟨d, hd⟩ := ao (l := fx.ns) (k := a) Tx;have hd127 := hlow d (List.mem_of_getElem? hd);have hgd0 : fx.ns.getD a 0 = d := by rw [List.getD_eq_getElem?_getD, hd]; rfl
  have hgd : (bF fx.ds)[a]? = some (.int .i64 (d : Int)) := by rw [hdeg]; exact cj (iX hd)
  obtain ⟨ad0, hAD, sD⟩ := hf.dg.at_ Tx;have mb : Value.slice fx.A fx.n fx.a = .slice (some ad0) fx.n fx.a := by rw [hAD]
  by_cases yN : d = 0
  ·subst yN;have hcl := fun w1 hb => lk fx.A fx.n fx.a fx.ds w1 (hf.dg.ext hb) Tx;have hDN : bH (CV fx.ns a) = fx.ds := by
    unfold CV;rw [hgd0, Bi hd, hdeg]
   have hDX : Co fx.ns a (fx.cs.map NR.d) = List.replicate fx.m 0 := by
    unfold Co;rw [if_pos hgd0, List.length_map, hlm]
   refine aj (N := 78) (l := [.agg #[.slice fx.A fx.n fx.a, .slice fx.B fx.m fx.b], .int .i64 a]) Tryz.func55 rfl rfl (by simp) ?_;refine sr ?_;refine cx hh [_,_] ?_;intro b2 w2 hh;refine bR hh ?_;intro b4 w4 hh;refine aI (aa (ah (sr ?_)));refine cD hh 1 [_,_] (mI ?_);refine bz hh (hhas _ (hT.hp hh) hh.below) rfl ?_;intro w13 hh;refine aI (aa (sr (mI ?_)));refine cK (aa (cF (ar (ai (ah (sr (bD ?_)))))));refine bB hh 1 ?_;refine mI ?_;refine cZ (k := a) bg.out aN.size mb rfl Tx Tx Ty ?_;refine bT aN.out rfl ((sD.ext hh.below).xo hgd) Ty ?_;refine cW (aa (cT (ah ?_)));refine aY 7 [[(2, none)], [(24, some 0)], [(25, some 1)], [(2, none)], [(27, some 3)], [(28, some 4)], [(29, some 5)]] [(6, 30), (5, 29), (4, 28), (3, 27), (2, 26), (1, 25), (0, 24)] hh mixed Tz ?_;refine dV ?_;refine fJ 1 ?_;refine aR (i := 2) (CT hh.sz 3 fx.n 1 (bF fx.ds)) (CT.ext) ?_ ?_
   ·intro ρ1 w1 hj hR;exact a8 rfl (aM ak.out (aw (show ρ1 25 = Value.slice _ _ _ from hR.1) aX)) (hcl w1 hj.hp.below) (fun _ _ ⟨A, c, hq, ho, hb⟩ => ⟨_, hq, hb, A, c, rfl, oL ho hj.bl.size⟩)
   refine dV ?_;refine fJ 1 ?_;refine CP ?_;refine aR (i := 6) (CT hh.sz 65 fx.m 3 (az NR.cells ((List.replicate fx.m (0 : Dyadic)).map nR))) (CT.ext) ?_ ?_
   ·intro ρ1 w1 hj hR;exact ni fx.m ▸ JY (n := fx.m) (show ρ1 29 = Value.int _ _ from hR.1) (show ρ1 29 = Value.int _ _ from hR.1) rfl rfl bg.out aN.out rfl Tx Tx hj.bl.size (fun _ _ h1 h2 => ⟨h2, h1⟩)
   refine aT ?_;intro f W hJ hV;have hb_5 := hJ.bl;obtain ⟨v30, v29, v28, v27, v26, v25, v24, _⟩ := hV;obtain ⟨A26, c26, e26, o26⟩ := v26;obtain ⟨A30, c30, e30, o30⟩ := v30;replace hh := JJ.Ma hJ hh o26 o30 Ty;clear o26 o30;refine a6 (bm (ae e30 (ae v29 (ae v28 (ae v27 (ae e26 (ae v25 (ae v24 a0)))))))) ?_;dsimp only [cg];clear e26 e30 hJ;refine gj [_,_] ?_;refine bW hh 2 [_,_] ?_;intro ws hh;replace hh : Hp _ (_ :: _ :: .blk _ _ [_, _] _ :: _) _ := hh;refine aI (aa (av (aG ?_)));replace hh := hh.sub (List.Sublist.cons_cons _ (List.Sublist.cons_cons _ (List.Sublist.cons_cons _ (List.Sublist.cons _ List.Sublist.slnil))));replace hh := hh.perm (List.perm_middle (l₁ := [_]));simp only [List.cons_append, List.nil_append] at hh;refine rp ?_;exact ⟨⟨A26, fx.n, c26, A30, fx.m, c30, fx.ds, (List.replicate fx.m (0 : Dyadic)).map nR⟩, ⟨hDN.symm, by rw [hDX]; rfl, by show fx.n ≤ 100000; omega, by show fx.m ≤ 1000000; omega⟩, rfl, hh.sub (List.Sublist.cons_cons _ (List.Sublist.cons_cons _ (List.nil_sublist _)))⟩
  ·have hdg : Sl w fx.A fx.n 1 (bF (bH fx.ns)) := by rw [← hdeg]; exact hf.dg
   have hof := fun w1 hb => lW fx.A fx.n fx.a a d fx.ns w1 (hdg.ext hb) hcap Tx hd hlow hmax;have hcl := fun w1 hb => lk fx.A fx.n fx.a fx.ds w1 (hf.dg.ext hb) Tx;have hDN : bH (CV fx.ns a) = fx.ds.set a ((d : Int) - 1) := by
    unfold CV;rw [hgd0]
    conv => rhs; rw [hdeg]
    unfold bH;rw [List.map_set, show ((d - 1 : Nat) : Int) = (d : Int) - 1 by omega]
   obtain ⟨X, hX⟩ : ∃ X, X = fx.cs.map NR.d := ⟨_, rfl⟩;rw [← hX] at hnum ⊢;have hXl : X.length = fx.m := by rw [hX, List.length_map]; exact hlm
   have hXz : ∀ x ∈ X, Sz k x := fun x h => by
    rw [hX] at h;obtain ⟨z, hz, rfl⟩ := List.mem_map.1 h;exact (hl.num z hz).2
   have hDX : Co fx.ns a X = p6 (p9 (au (fx.ns.drop (a + 1))) d) (jf (fx.ns.drop (a + 1)).reverse d d (qf d) X fx.m 0) fx.m := by
    unfold Co;rw [hgd0, if_neg yN, hXl]
   have hsp : fx.m = au ((fx.ns.drop (a + 1)).reverse ++ d :: (fx.ns.take a).reverse) := by
    rw [← BF hd, cz];exact hlm.symm.trans hcnt
   have hSX : Sl w fx.B fx.m 3 (az NR.cells (X.map nR)) := by rw [← hnum]; exact hf.nm
   have hli := fun w1 hT1 hb => mN 145 (fx.ns.drop (a + 1)).reverse (fx.ns.take a).reverse d d (qf d) fx.B fx.m fx.b k X w1 hT1 (hSX.ext hb) hsp Tx Tx hd127 hXz (fun Y E ec w2 hT2 hy hs => yW E (d + 1) ec d Y k w2 hT2 hs rfl hd127 hy hk) (fun Y _ => Bv d Y);rw [cz] at hli;have hap := cL (fx.ns.drop (a + 1));have hap2 : au (fx.ns.drop (a + 1)) ≤ 4096 := by
    have h3 : au fx.ns = au (fx.ns.take (a + 1)) * au (fx.ns.drop (a + 1)) := by rw [← dQ, List.take_append_drop]
    have := Nat.le_mul_of_pos_left (au (fx.ns.drop (a + 1))) (cL (fx.ns.take (a + 1)));omega
   rw [hDX];have hYl : (jf (fx.ns.drop (a + 1)).reverse d d (qf d) X fx.m 0).length = fx.m := by rw [gy, hXl]
   generalize jf (fx.ns.drop (a + 1)).reverse d d (qf d) X fx.m 0 = Y at *;generalize au (fx.ns.drop (a + 1)) = ap at *;refine aj (N := 78) (l := [.agg #[.slice fx.A fx.n fx.a, .slice fx.B fx.m fx.b], .int .i64 a]) Tryz.func55 rfl rfl (by simp) ?_;refine sr ?_;refine cx hh [_,_] ?_;intro b2 w2 hh;refine bR hh ?_;intro b4 w4 hh;refine aI (aa (ah (sr ?_)));refine cD hh 1 [_,_] (mI ?_);refine bz hh (hhas _ (hT.hp hh) hh.below) rfl ?_;intro w13 hh;refine aI (aa (sr (mI ?_)));refine cK (aa (cF (ar (ai (ah (sr (bD ?_)))))));refine bB hh 1 ?_;refine mI ?_;refine cZ (k := a) bg.out aN.size mb rfl Tx Tx Ty ?_;refine bT aN.out rfl ((sD.ext hh.below).xo hgd) Ty ?_;refine cW (aa (cF (ar (ai (sr (bD ?_))))));refine bB hh 1 ?_;refine mI ?_;refine bz hh (hof _ hh.below) rfl ?_;intro w35 hh;refine bR hh ?_;intro b7 w7 hh;refine bW hh 0 [_,_] ?_;intro ws hh;replace hh : Hp _ (.blk _ _ [_, _] _ :: _) _ := hh;refine aa (sr (bD ?_));refine bB hh 2 ?_;refine aE (hcl _ hh.below) ak.out rfl Ty ?_;rintro e_ w38 ⟨A38, c38, rfl, hown_, hb_⟩;refine ⟨_, rfl, ?_⟩;replace hh := hh.aV (x := .row _ _ _ _ _ _) hb_ hown_;obtain ⟨gd, rfl⟩ := hh.cd (i := 0) rfl Tx;have hil := bU fx.ds
   have hm0 : 0 < fx.m := by have := cL fx.ns; omega
   refine gj [_,_] ?_;refine bR hh ?_;intro b8 w8 hh;refine bW hh 0 [_,_] ?_;intro ws hh;replace hh : Hp _ (.blk _ _ [_, _] _ :: _) _ := hh;refine aa (sr (bD ?_));refine bB hh 0 ?_;refine mI ?_;refine cS (k := a) bg.out aN.size rfl rfl Tx Tx Ty ?_;refine HV ?_;refine dT ?_;refine cS (k := a) bg.out aN.size rfl rfl Tx Tx Ty ?_;refine bL hh (i := 1) (vs := [_]) rfl rfl (cH rfl) rfl aN.out rfl Tx rfl ?_;intro ws hh;simp only [List.set_cons_zero, List.set_cons_succ] at hh;rw [ru _ Tx] at hh;refine aa (ah (sr ?_));refine cD hh 2 [_,_] (bD ?_);refine bB hh 4 ?_;refine aE (hli _ (hT.hp hh) hh.below) ak.out rfl Ty ?_;rintro e_ w50 ⟨E, ec, rfl, h4⟩;refine ⟨_, rfl, ?_⟩;replace hh := hh.join h4;clear h4;simp only [List.cons_append, List.nil_append] at hh;obtain ⟨gn, rfl⟩ := hh.cd (i := 0) rfl Tx;refine aJ (mI (aa (aq ?_)));replace hh := hh.db 65 3;refine aP [9, 10, 52, 53, 54, 55, 56, 57, 58, 59, 60, 61, 62, 63, 64, 65, 66, 67, 68, 69, 70, 71, 72, 73, 74, 75, 76] 52
    (fun v w' => ∃ (i c1 : Nat) (B : Option Addr), i ≤ fx.m ∧ v = .int .i64 i ∧ Hp w [.row B (p6 (p9 ap d) Y i).length c1 65 3 (az NR.cells ((p6 (p9 ap d) Y i).map nR)), .row (some ⟨gn, 0, none⟩) fx.m ec 65 3 (az NR.cells (Y.map nR)), .blk b8 39 [.slice (some ⟨gd, 0, none⟩) fx.n c38, .slice B (p6 (p9 ap d) Y i).length c1] (0, 0), .row (some ⟨gd, 0, none⟩) fx.n c38 3 1 (bF (fx.ds.set a ((d : Int) - 1))), .blk b7 119 [.int .i64 ((d : Int) + 1), .int .i64 (ap : Int)] (0, 0), .blk b4 39 [.slice none 0 0, .slice none 0 0] (0, 0), .blk b2 39 [.slice fx.A fx.n fx.a, .slice fx.B fx.m fx.b] (0, 0)] w')
    (fun v _ => fx.m - (intOf v).toNat) ?_ ?_
   ·exact ⟨0, 0, none, Nat.zero_le _, rfl, hh⟩
   ·clear hh;rintro ρ' v w' ⟨i, c1, B, hi, rfl, hh⟩;by_cases hlt : i < fx.m
    ·obtain ⟨x, hx⟩ := ao (l := Y) (k := i) Tx;have hxn : (Y.map nR)[i]? = some (nR x) := by rw [List.getElem?_map, hx]; rfl
     have hxd : (Y[i]?).getD 0 = x := by rw [hx]; rfl
     have hcast : ((i : Int) / (ap : Int)) % ((d : Int) + 1) = ((i / ap % (d + 1) : Nat) : Int) := by norm_cast
     have hq0 : (0 : Int) ≤ (i : Int) / (ap : Int) := Int.ediv_nonneg Tx Tx;have hst := Gq (p9 ap d) Y i;rw [hxd] at hst;have hfl := z5 (p9 ap d) Y i;have hrl := eF NR.len (Y.map nR);have hYl2 : (Y.map nR).length = fx.m := by rw [List.length_map]; exact hYl
     have hQ : p9 ap d i = decide (i / ap % (d + 1) < d) := rfl;generalize hF : p6 (p9 ap d) Y i = F at *;by_cases hdg2 : i / ap % (d + 1) < d
     ·rw [hQ, decide_eq_true hdg2, if_pos rfl] at hst;refine sr ?_;refine dZ ?_;refine gh ?_;refine Nw ?_;refine bR hh ?_;intro b10 w10 hh;refine aI ?_;refine bW hh 0 [_,_,_] ?_;intro ws hh;replace hh : Hp _ (.blk _ _ [_, _, _] _ :: _) _ := hh;refine aa (ah ?_);refine M8 ?_;refine dE ?_;refine dV ?_;refine fJ 5 ?_;refine NZ ?_;refine dV ?_;refine fJ 5 ?_;refine My ?_;refine dV ?_;refine fJ 7 ?_;refine dE ?_;refine aR (i := 10) (Is (.pointer (some (ad0.add (a * 1))))) (Is.ext) ?_ ?_
      ·exact Rv
      refine rX (fun _ hj => (sD.ext hj.hp.below).xo hgd) ?_;refine aT ?_;intro f W hJ hV;have hb_12 := hJ.bl;obtain ⟨v68, v67, v66, v65, v64, v63, v62, v61, v60, v59, v58, v57, _⟩ := hV;replace hh := hJ.hp;refine NO ?_;dsimp only [cg];clear hJ;refine bf (aa (cT (al (bD ?_))));refine bB hh 3 ?_;refine cD hh 0 [_,_,_] ?_;refine rF ?_;intro b73 w73 hh;refine Nq ?_;intro A74 c74 w74 hh;simp only [List.set_cons_zero, List.set_cons_succ] at hh;replace hh := hh.sub (List.sublist_cons_self _ _);refine bD ?_;refine bW hh 3 [_] ?_;intro ws hh;replace hh : Hp _ (_ :: _ :: _ :: .blk _ _ [_, _] _ :: _) _ := hh;refine fL ?_;refine bh (mI (aA (ai ?_)));replace hh := hh.sub (List.Sublist.cons _ (List.Sublist.cons_cons _ (List.Sublist.cons_cons _ (List.Sublist.cons_cons _ (List.Sublist.cons_cons _ (List.Sublist.cons_cons _ (List.Sublist.cons_cons _ (List.Sublist.cons_cons _ List.Sublist.slnil))))))));refine ⟨⟨i + 1, c74, A74, Tx, rfl, ?_⟩, by show fx.m - (i + 1) < fx.m - i; omega, ?_⟩
      ·rw [hst, List.length_append, List.map_append, bV];exact hh
      ·exact dL
     ·rw [hQ, decide_eq_false hdg2, if_neg Ty, List.append_nil] at hst;refine sr ?_;refine dZ ?_;refine gh ?_;refine Nw ?_;refine bR hh ?_;intro b10 w10 hh;refine aI ?_;refine bW hh 0 [_,_,_] ?_;intro ws hh;replace hh : Hp _ (.blk _ _ [_, _, _] _ :: _) _ := hh;refine aa (ah ?_);refine M8 ?_;refine dE ?_;refine dV ?_;refine fJ 5 ?_;refine NZ ?_;refine dV ?_;refine fJ 5 ?_;refine My ?_;refine dV ?_;refine fJ 7 ?_;refine dE ?_;refine aR (i := 10) (Is (.pointer (some (ad0.add (a * 1))))) (Is.ext) ?_ ?_
      ·exact Rv
      refine rX (fun _ hj => (sD.ext hj.hp.below).xo hgd) ?_;refine aT ?_;intro f W hJ hV;have hb_12 := hJ.bl;obtain ⟨v68, v67, v66, v65, v64, v63, v62, v61, v60, v59, v58, v57, _⟩ := hV;replace hh := hJ.hp;refine NO ?_;dsimp only [cg];clear hJ;refine bf (aa (cF (ar (bA (ai (al ?_))))));refine bh (mI (aA (ai ?_)));replace hh := hh.sub (List.Sublist.cons _ (List.Sublist.cons_cons _ (List.Sublist.cons_cons _ (List.Sublist.cons_cons _ (List.Sublist.cons_cons _ (List.Sublist.cons_cons _ (List.Sublist.cons_cons _ (List.Sublist.cons_cons _ List.Sublist.slnil))))))));refine ⟨⟨i + 1, c1, B, Tx, rfl, by rw [hst]; exact hh⟩, by show fx.m - (i + 1) < fx.m - i; omega, ?_⟩;exact dL
    ·obtain rfl : i = fx.m := Tx;refine sr ?_;refine mu ?_;refine cD hh 2 [_,_] ?_;refine bW hh 5 [_,_] ?_;intro ws hh;replace hh : Hp _ (_ :: _ :: _ :: _ :: _ :: .blk _ _ [_, _] _ :: _) _ := hh;refine aI (aa (av ?_));replace hh := hh.sub (List.Sublist.cons_cons _ (List.Sublist.cons _ (List.Sublist.cons _ (List.Sublist.cons_cons _ (List.Sublist.cons _ (List.Sublist.cons_cons _ (List.Sublist.cons _ List.Sublist.slnil)))))));refine rp ?_;refine ⟨⟨some ⟨gd, 0, none⟩, fx.n, c38, B, (p6 (p9 ap d) Y fx.m).length, c1, fx.ds.set a ((d : Int) - 1), (p6 (p9 ap d) Y fx.m).map nR⟩, ⟨hDN.symm, rfl, by show fx.n ≤ 100000; omega, ?_⟩, rfl, hh.sub (List.sublist_append_left [_, _] _)⟩;have := z5 (p9 ap d) Y fx.m;show (p6 (p9 ap d) Y fx.m).length ≤ 1000000;omega
def F7 (ds : List Nat) (X : List Dyadic) : Nat → List Dyadic
 | 0 => X
 | k + 1 => gM ds (ds.length - 1 - k) (eb (ds.getD (ds.length - 1 - k) 0) 1 (-1)) (F7 ds X k)
theorem z4 (ds : List Nat) (X : List Dyadic) (k : Nat) : F7 ds X (k + 1) = gM ds (ds.length - 1 - k) (eb (ds.getD (ds.length - 1 - k) 0) 1 (-1)) (F7 ds X k) := rfl
theorem Mu {ds : List Nat} {X : List Dyadic} (h : X.length = au ds) (k : Nat) : (F7 ds X k).length = au ds := by
 cases k with
 | zero => exact h
 | succ k => rw [z4, n8]
theorem FF {ds : List Nat} {a k d : Nat} {X : List Dyadic} (hx : ∀ x ∈ X, Sz k x) (hd : ds.getD a 0 = d) (hd7 : d ≤ 127) : ∀ x ∈ gM ds a (eb d 1 (-1)) X, Sz (k + 520) x := fun x h => by
 obtain ⟨p, _, rfl⟩ := List.mem_map.1 h;have hr : (cI ds p).getD a 0 ≤ d := by rw [← hd]; exact uq a (nk ds p)
 have h2 := BJ (l := List.range (ds.getD a 0 + 1)) (f := fun i => co ds X ((cI ds p).set a i) * eb d 1 (-1) i ((cI ds p).getD a 0)) (k := k + (130 + 2 * (1 * d))) fun i _ => by
  refine Sz.mul ?_ (xn Sz.one (show Sz 1 (-1 : Dyadic) from Sz.one.neg) hd7 hr);exact RA
 rw [List.length_range, hd] at h2;rw [hd];exact h2.mono Tx
theorem G4 {ds : List Nat} {X : List Dyadic} {k : Nat} (h : ∀ x ∈ X, Sz k x) (hd : ∀ d ∈ ds, d ≤ 127) : ∀ i, ∀ x ∈ F7 ds X i, Sz (k + 520 * i) x
 | 0 => h
 | i + 1 => fun x hx => (FF (G4 h hd i) rfl (zD hd _) x hx).mono Tx
def GX (b : List SR) (i : Nat) : Dyadic := match b[i]? with | some s => s.H - s.L | none => 0
def wP (b : List SR) (ns es : List Nat) : Nat → Dyadic
 | 0 => 1
 | i + 1 => wP b ns es i * GX b i ^ (ns.getD i 0 - es.getD i 0)
def jr (ns : List Nat) (p : Nat) : List Nat := (cI ns.reverse p).reverse
def PE (b : List SR) (ns : List Nat) (C : List Dyadic) (p : Nat) : TR := ⟨fX (bH (jr ns p)), nR (jo C p * wP b ns (jr ns p) b.length)⟩
def mf (b : List SR) (ns : List Nat) (C : List Dyadic) : List TR := (List.range (au ns)).map (PE b ns C)
def ud (v i : Nat) (s : SR) : List TR := aF (mF v i ++ kX v (-s.L))
def l5 (b : List SR) : List PX := b.mapIdx fun i s => ⟨b.length, none, 0, 0, ud b.length i s⟩
theorem tk {b : List SR} {i : Nat} {s : SR} (h : b[i]? = some s) : (l5 b)[i]? = some ⟨b.length, none, 0, 0, ud b.length i s⟩ := by
 unfold l5;rw [List.getElem?_mapIdx, h]
 rfl
theorem Gm (b : List SR) : (l5 b).length = b.length := by unfold l5; rw [List.length_mapIdx]
theorem AA {v i k : Nat} {s : SR} (h : v ≤ 12) (hs : s.fin k) (hk : k ≤ 100000) : ky (v : Int) (k + 10) (ud v i s) ∧ (ud v i s).length ≤ 2 := by
 have h1 := rZ (i := i) h;have h2 := sk h (SR.Ko hs).neg Tx;have hl : (mF v i ++ kX v (-s.L)).length ≤ 2 := by
  rw [List.length_append];have a1 : (mF v i).length ≤ 1 := bQ _;have a2 : (kX v (-s.L)).length ≤ 1 := bQ _;omega
 have hm : ∀ {P : TR → Prop}, (∀ t ∈ mF v i, P t) → (∀ t ∈ kX v (-s.L), P t) → ∀ t ∈ mF v i ++ kX v (-s.L), P t := fun a b t ht => (List.mem_append.1 ht).elim (a t) (b t);refine ⟨(jP (k := k + 4) (n := 2) (fD h) (hm (cu h1.e).2.2.1 (cu h2.e).2.2.1) (hm (h1.ok.mono Tx) (h2.ok.mono Tx)) (hm h1.sz h2.sz) hl Ty Tx).mono Tx, Nat.le_trans (bQ _) hl⟩
theorem Lu {r : List Nat} (h : ∀ d ∈ r, d ≤ 255) : cQ (fX (bH r)) = r := by
 unfold cQ fX bH;rw [dt, List.map_map, List.map_map];refine (List.map_congr_left fun d hd => ?_).trans (List.map_id r);have := h d hd;show (xM (d : Int)).toNat = d;obtain ⟨c, hc, e⟩ := RE (l := [d]) (i := 0) rfl this;unfold fX bH at hc;rw [dt] at hc;rw [show xM (d : Int) = c from Option.some.inj hc];exact e
theorem DS {ns : List Nat} (p : Nat) : lZ ns.reverse (jr ns p).reverse := by unfold jr; rw [List.reverse_reverse]; exact nk _ _
theorem mP (ns : List Nat) (p : Nat) : (jr ns p).length = ns.length := by
 have := x6 (DS (ns := ns) p);rwa [List.length_reverse, List.length_reverse] at this
theorem xl {ns : List Nat} {p i d r : Nat} (hd : ns[i]? = some d) (hr : (jr ns p)[i]? = some r) : r ≤ d := by
 have h1 := (List.getElem?_eq_some_iff.1 hd).1;have h2 := mP ns p;refine ((jK _ _).1 (DS (ns := ns) p)).2 (ns.length - 1 - i) d r ?_ ?_
 ·rw [List.getElem?_reverse Tx, show ns.length - 1 - (ns.length - 1 - i) = i by omega]; exact hd
 ·rw [List.getElem?_reverse Tx, show (jr ns p).length - 1 - (ns.length - 1 - i) = i by omega]; exact hr
theorem Ad {ns : List Nat} {B p : Nat} (h : ∀ d ∈ ns, d ≤ B) : ∀ r ∈ jr ns p, r ≤ B := fun r hr => by
 obtain ⟨i, hi⟩ := List.mem_iff_getElem?.1 hr;have h1 := (List.getElem?_eq_some_iff.1 hi).1;rw [mP] at h1;obtain ⟨d, hd⟩ := ao (l := ns) (k := i) h1;exact Nat.le_trans (xl hd hi) (h d (List.mem_of_getElem? hd))
theorem x9 {ns : List Nat} {p : Nat} (h : ∀ d ∈ ns, d ≤ 127) : cQ (fX (bH (jr ns p))) = jr ns p := Lu fun r hr => Nat.le_trans (Ad h r hr) Ty
theorem ze (b : List SR) (ns : List Nat) (C : List Dyadic) : (mf b ns C).length = au ns := by simp [mf]
theorem LI {b : List SR} {ns : List Nat} {C : List Dyadic} {p : Nat} (h : p < au ns) : (mf b ns C)[p]? = some (PE b ns C p) := by
 unfold mf;rw [List.getElem?_map, List.getElem?_range h]
 rfl
theorem JD {b : List SR} {ns es : List Nat} {k : Nat} (hb : ∀ s ∈ b, s.fin k) : ∀ i, i ≤ ns.length → Sz (1 + i + (k + 1) * (ns.take i).sum) (wP b ns es i)
 | 0, _ => Sz.one.mono Tx
 | i + 1, hi => by
  have h1 := JD (es := es) (ns := ns) hb i Tx;obtain ⟨d, hd⟩ := ao (l := ns) (k := i) hi;have hg : ns.getD i 0 = d := by rw [List.getD_eq_getElem?_getD, hd]; rfl
  have hw : Sz (k + 1) (GX b i) := by
   unfold GX
   cases h : b[i]? with
   | none => exact Sz.zero _
   | some s => exact ((SR.P1 (hb s (List.mem_of_getElem? h))).sub (SR.Ko (hb s (List.mem_of_getElem? h)))).mono Tx
  have h2 := hw.AL (show ns.getD i 0 - es.getD i 0 ≤ d by omega);have h3 := h1.mul h2;rw [ay hd, List.sum_append, List.sum_singleton, Nat.mul_add];exact h3.mono Tx
theorem O5 {b : List SR} {ns : List Nat} {C : List Dyadic} {k K : Nat} (hb : ∀ s ∈ b, s.fin k) (hbl : b.length = ns.length) (hC : ∀ x ∈ C, Sz K x) (hlow : ∀ d ∈ ns, d ≤ 127) (hN : ns.length ≤ 100000) (hK : K + (1 + ns.length + (k + 1) * ns.sum) ≤ 2999000) : iO (K + (1 + ns.length + (k + 1) * ns.sum)) (mf b ns C) ∧ (∀ t ∈ mf b ns C, eH (ns.length : Int) t = true) ∧ (∀ t ∈ mf b ns C, t.m.size ≤ 100000 ∧ ∃ p, cQ t.m = jr ns p) := by
 refine ⟨fun t ht => ?_, fun t ht => ?_, fun t ht => ?_⟩
 ·obtain ⟨p, hp, rfl⟩ := List.mem_map.1 ht;have h1 := JD (ns := ns) (es := jr ns p) hb ns.length (Nat.le_refl _);rw [List.take_length] at h1;have h2 := (xX hC p).mul h1;show (nR (jo C p * wP b ns (jr ns p) b.length)).ok ∧ Sz _ (nR (jo C p * wP b ns (jr ns p) b.length)).d;rw [hbl, cf];exact ⟨h2.ok Tx, h2⟩
 ·obtain ⟨p, hp, rfl⟩ := List.mem_map.1 ht;have h1 := x9 (p := p) hlow;have h2 : (fX (bH (jr ns p))).size = ns.length := by rw [← mq, h1, mP]
  unfold eH;rw [Bool.and_eq_true, decide_eq_true_eq];refine ⟨?_, by show ((fX (bH (jr ns p))).size : Int) = _; rw [h2]⟩;unfold eE;rw [List.all_eq_true];intro c hc;have : c.toNat ∈ cQ (fX (bH (jr ns p))) := List.mem_map.2 ⟨c, hc, rfl⟩;rw [h1] at this;exact decide_eq_true (by have := Ad hlow c.toNat this; omega)
 ·obtain ⟨p, hp, rfl⟩ := List.mem_map.1 ht;have h1 := x9 (p := p) hlow;have h2 : (fX (bH (jr ns p))).size = ns.length := by rw [← mq, h1, mP]
  exact ⟨by show (fX (bH (jr ns p))).size ≤ 100000; omega, p, h1⟩
theorem HC {b : List SR} {ns : List Nat} {C : List Dyadic} (h12 : ns.length ≤ 12) (hm : ∀ t ∈ mf b ns C, eH (ns.length : Int) t = true) (hc : au ns ≤ 4096) : pT (ns.length : Int) (mf b ns C) = 0 := by
 have hl := ze b ns C;unfold pT;rw [if_neg, if_neg Tx, gU Tx];rintro (h | h)
 ·rw [fD h12] at h; cases h
 ·obtain ⟨t, ht, h2⟩ := List.any_eq_true.1 h;rw [hm t ht] at h2
  cases h2
theorem Gn {b : List SR} {os : List PX} {R : List HE} {kb : Nat} (hcp : AN ((l5 b).map fun g => ⟨g.v, none, g.ts.length, 0, g.ts⟩) os R) (hol : os.length = b.length) (h12 : b.length ≤ 12) (hb : ∀ s ∈ b, s.fin kb) (hkb : kb ≤ 1000) : ∀ o ∈ os, o.kO (kb + 10) ∧ o.ts.length ≤ 2 := fun o ho => by
 obtain ⟨j, hj⟩ := List.mem_iff_getElem?.1 ho;have hjn : j < os.length := (List.getElem?_eq_some_iff.1 hj).1;obtain ⟨s, hs⟩ := ao (l := b) (k := j) Tx;obtain ⟨po, pl⟩ := AA (v := b.length) (i := j) h12 (hb s (List.mem_of_getElem? hs)) Tx;have hx := tk hs;generalize ud b.length j s = Q at hx po pl;obtain ⟨e1, e2, e3⟩ := hcp.eq j ⟨b.length, none, Q.length, 0, Q⟩ o (by rw [List.getElem?_map, hx]; rfl) hj;replace e2 : o.ts = Q := e2;replace e3 : o.n = Q.length := e3;exact Q4
def KI (b : List SR) (ns : List Nat) (C : List Dyadic) : PX := ⟨(ns.length : Int), none, 0, 0, aF (mf b ns C)⟩
def K8 (fx : FX) : List Dyadic := F7 fx.ns.reverse (fx.cs.map NR.d) fx.ns.length
def C0 (fx : FX) (b : List SR) : Int × List TR := da (KI b fx.ns (K8 fx)) (l5 b)
def rU (fx : FX) (b : List SR) : Int := if fx.e ≠ 0 then fx.e else if lS b ≠ 0 then lS b else if b.length ≠ fx.n then 1 else (C0 fx b).1
def rQ (n k kb : Nat) (ns : List Nat) : Nat := k + 520 * n + (1 + n + (kb + 1) * ns.sum)
set_option maxRecDepth 10000 in
theorem Bw (fx : FX) (L : Option Addr) (n c : Nat) (b : List SR) (k kb : Nat) (w : World) (hT : ee w) (hf : fx.at_ w) (hl : fx.kO k) (hcap : fx.n ≤ fx.a) (hB : Sl w L n 6 (az SR.cells b)) (hb : ∀ s ∈ b, s.fin kb) (hn : n ≤ 1000000) (hkb : kb ≤ 1000)
  (hK : fx.e = 0 → fx.n = n → rQ n k kb fx.ns ≤ 400000) (hgr : fx.e = 0 → fx.n = n → eZ (kb + 16394) fx.ns (rQ n k kb fx.ns + 4097) ≤ 440000) :
  Calls Tryz.prog 37 #[.agg #[.slice fx.A fx.n fx.a, .slice fx.B fx.m fx.b], .slice L n c] w fun r w' => ∃ g : PX, eK (rU fx b) n (C0 fx b).2 g ∧ r = .returned (.tuple #[.agg #[.int .i64 g.v, .slice g.A g.n g.c], .int .i64 (rU fx b)]) ∧ Hp w [g.row] w' := by
 have hh := Hp.start w;have hbl : b.length = n := hB.bk SR.len Ty;have hok : ∀ s ∈ b, s.ok := fun s hs => ⟨(hb s hs).1.ok, (hb s hs).2.ok⟩;have hck := fun w1 hT1 hb1 => xA fx k w1 hT1 (hf.ext hb1) hl;have hbc := fun w1 hT1 hb1 => pq L n c b w1 hT1 (hB.ext hb1) hok hn;by_cases h0 : fx.e = 0
 ·by_cases h1 : lS b = 0
  ·by_cases h2 : n = fx.n
   ·have hE : rU fx b = (C0 fx b).1 := by unfold rU; rw [if_neg Tx, if_neg Tx, if_neg Tx]
    have hpos : 0 < n := by
     rw [← hbl];by_cases h : b.length = 0
     ·unfold lS at h1;rw [if_pos h] at h1;split at h1 <;> omega
     ·omega
    obtain ⟨hdeg, hnum, h12, hlow, hcnt, hmax⟩ := FX.fv h0;have hln := hf.ln.1;have hlm := hf.ln.2;have hnl : fx.ns.length = n := by unfold FX.ns; rw [List.length_map]; omega
    have hdg : Sl w fx.A fx.n 1 (bF (bH fx.ns)) := by rw [← hdeg]; exact hf.dg
    obtain ⟨X, hX⟩ : ∃ X, X = fx.cs.map NR.d := ⟨_, rfl⟩;have hC : K8 fx = F7 fx.ns.reverse X n := by unfold K8; rw [hX, hnl]
    rw [← hX] at hnum;have hXl : X.length = au fx.ns := by rw [hX, List.length_map]; exact hcnt
    have hXz : ∀ x ∈ X, Sz k x := fun x h => by
     rw [hX] at h;obtain ⟨z, hz, rfl⟩ := List.mem_map.1 h;exact (hl.num z hz).2
    have hSX : Sl w fx.B fx.m 3 (az NR.cells (X.map nR)) := by rw [← hnum]; exact hf.nm
    have hmc : fx.m = au fx.ns := Tx;have hK := hK h0 h2.symm;have hgr := hgr h0 h2.symm;have hR : C0 fx b = da (KI b fx.ns (K8 fx)) (l5 b) := rfl;rw [hC] at hR;rw [hE];clear hE hC;generalize C0 fx b = R0 at *;subst hR;have hfo := fun w1 hT1 hb1 => qY L n c b w1 hT1 (hB.ext hb1) hok hn;generalize fx.ns = ns at *;generalize fx.ds = ds at *;generalize fx.cs = cs at *;have hdgw : ∀ (H : List HE) (w1 : World), Hp w H w1 → Sl w1 fx.A fx.n 1 (bF (bH ns)) := fun H w1 h => hdg.ext h.below;have hgX : ∀ j, (F7 ns.reverse X j).length = au ns := fun j => by rw [Mu (by rw [cz]; exact hXl), cz]
    have hgZ := G4 (ds := ns.reverse) hXz (fun d hd => hlow d (List.mem_reverse.1 hd));rw [h0] at hck;rw [h1] at hbc;refine D3 ?_;refine sr ?_;refine cx hh [_,_] ?_;intro b2 w2 hh;refine bR hh ?_;intro b4 w4 hh;refine aI (aa (ah (sr ?_)));refine cD hh 1 [_,_] ?_;refine fG ?_;intro w28 hh;refine aI (aa (sr (mI ?_)));refine sK ?_;refine bz hh (hbc _ (hT.hp hh) hh.below) rfl ?_;intro w34 hh;refine aI (aa (sr (mI ?_)));refine rq ?_;refine bB hh 1 ?_;refine aJ ?_;refine cK (aa (cF (ar (ai (sr (bD ?_))))));refine bB hh 1 ?_;refine aL (aa (ah (sr (bD ?_))));refine bB hh 1 ?_;refine aJ (mI (aa (aq ?_)));refine bJ [8, 9, 51, 52, 53, 54, 55, 56, 57, 58, 59, 60] 8 51
     (fun q v w' => ∃ (j : Nat) (A : Option Addr) (ac : Nat) (R : List HE), j ≤ n ∧ v = .int .i64 j ∧ q = .slice A fx.m ac ∧ (∀ (H : List HE) (w1 : World), Hp w (H ++ R) w1 → Sl w1 A fx.m 3 (az NR.cells ((F7 ns.reverse X j).map nR))) ∧ Hp w (.blk b4 24 [.int .i64 0, .slice none 0 0] (0, 0) :: .blk b2 39 [.slice fx.A fx.n fx.a, .slice fx.B fx.m fx.b] (0, 0) :: R) w')
     (fun _ v _ => n - (intOf v).toNat) ?_ ?_
    ·exact ⟨0, fx.B, fx.b, [], Nat.zero_le _, rfl, rfl, fun H w1 h => hSX.ext h.below, hh⟩
    ·clear hh;rintro ρ' q_ v w' ⟨j, A, ac, R, hj, rfl, rfl, hrd, hh⟩;by_cases hlt : j < n
     ·obtain ⟨d, hd⟩ := ao (l := ns) (k := j) Tx;have hd7 := hlow d (List.mem_of_getElem? hd);have hof := fun w1 hs => lW fx.A fx.n fx.a j d ns w1 hs hcap Tx hd hlow Tx;have hrm : ns.reverse = (ns.drop (j + 1)).reverse ++ d :: (ns.take j).reverse := BF hd;have hcn : fx.m = au ((ns.drop (j + 1)).reverse ++ d :: (ns.take j).reverse) := by rw [← hrm, cz]; exact hmc
      have hli := fun w1 hT1 hS1 => mN 116 (ns.drop (j + 1)).reverse (ns.take j).reverse d (d + 1) (kf d (eb d 1 (-1))) A fx.m ac (k + 520 * j) (F7 ns.reverse X j) w1 hT1 hS1 hcn Tx (Nat.le_refl _) hd7 (hgZ j) (fun Y E ec w2 hT2 hy hs => tI E (d + 1) ec d Y (k + 520 * j) w2 hT2 hs rfl hd7 hy (by unfold rQ at hK; omega)) (fun Y _ => by simp [kf]);have hM := Hf (M := eb d 1 (-1)) (A := (ns.drop (j + 1)).reverse) (B := (ns.take j).reverse) (X := F7 ns.reverse X j) ((hgX j).trans (hmc.symm.trans hcn));have hsu := z4 ns.reverse X j;have hgd : ns.reverse.getD (ns.reverse.length - 1 - j) 0 = d := by
       rw [List.getD_eq_getElem?_getD, List.getElem?_reverse (by rw [List.length_reverse]; omega), List.length_reverse, show ns.length - 1 - (ns.length - 1 - j) = j by omega, hd]
       rfl
      rw [hgd, show ns.reverse.length - 1 - j = (ns.drop (j + 1)).reverse.length by rw [List.length_reverse, List.length_reverse, List.length_drop]; omega] at hsu;rw [hgX j, ← hrm, ← hsu, ← hmc] at hM;rw [hM, cz] at hli;clear hM hsu hgd hcn;refine sr ?_;refine bf (aa (ah (cT (ar (ai (ah (aq (sr (mI (aI (aa (al (bD ?_)))))))))))));refine bB hh 1 ?_;refine mI ?_;refine bz hh (hof _ (hdgw _ _ hh)) rfl ?_;intro w57 hh;refine mL ?_;refine aE (hli _ (hT.hp hh) (hrd [_, _] _ hh)) ak.out rfl Ty ?_;rintro e_ w59 ⟨E, ec, rfl, h4⟩;refine ⟨_, rfl, ?_⟩;replace hh := hh.join h4;clear h4;simp only [List.cons_append, List.nil_append] at hh;refine k8 ?_;refine bh (mI (aA (ai ?_)));replace hh := hh.sub (List.Sublist.cons_cons _ (List.Sublist.cons_cons _ (List.Sublist.cons_cons _ (List.Sublist.refl _))));replace hh := hh.perm (List.perm_middle (l₁ := [_, _]));simp only [List.cons_append, List.nil_append] at hh;replace hh := hh.perm (List.perm_middle (l₁ := [_, _]));simp only [List.cons_append, List.nil_append] at hh;replace hh := hh.sub (.cons_cons _ (.cons_cons _ (.cons_cons _ (List.nil_sublist _))))
      refine ⟨⟨j + 1, E, ec, [.row E fx.m ec 65 3 (az NR.cells ((F7 ns.reverse X (j + 1)).map nR))], Tx, rfl, rfl, fun H w1 h => lB (h.own _ (List.mem_append_right _ (List.mem_singleton.2 rfl))), hh⟩, by show n - (j + 1) < n - j; omega, ?_⟩;exact dL
     ·obtain rfl : n = j := Tx;obtain ⟨adC, rfl⟩ : ∃ ad, A = some ad := let ⟨ad, e, _⟩ := (hrd [_, _] _ hh).at_ (by have := cL ns; omega); ⟨ad, e⟩;generalize hCC : F7 ns.reverse X n = C at *;have hCl : C.length = au ns := by rw [← hCC]; exact hgX n
      have hCz : ∀ x ∈ C, Sz (k + 520 * n) x := by rw [← hCC]; have := hgZ n; exact this
      clear hgX hgZ;refine sr ?_;refine nH ?_;refine aE (hfo _ (hT.hp hh) hh.below) ak.out rfl Ty ?_;rintro e_ w62 ⟨A62, c62, rfl, hown_, hb_⟩;refine ⟨_, rfl, ?_⟩;replace hh := hh.aV (x := .row _ _ _ _ _ _) hb_ hown_;obtain ⟨adS, hAS⟩ : ∃ ad, A62 = some ad := let ⟨ad, e, _⟩ := (hh.aC (i := 0) rfl).at_ hpos; ⟨ad, e⟩;rw [hAS] at hh ⊢;clear hAS;refine aL (aa (sr (aL (aa (ah (sr (mL (aJ (mI (aa (aq ?_)))))))))));replace hh := hh.db 24 2;refine bJ [10, 11, 12, 13, 14, 15, 16, 17, 18, 65, 66, 67, 68, 69, 70, 71, 72, 73, 74, 75, 76, 77, 78, 79, 80, 81, 82, 83, 84, 85, 86, 87, 88, 89, 90, 91, 92, 93, 94, 95, 96, 97] 10 65
       (fun a v w' => ∃ (i c3 : Nat) (A : Option Addr) (os : List PX) (R2 : List HE), i ≤ n ∧ v = .int .i64 i ∧ a = .slice A i c3 ∧ os.length = i ∧ AN ((l5 b).map fun g => ⟨g.v, none, g.ts.length, 0, g.ts⟩) os R2 ∧ Hp w (.row A i c3 24 2 (az PX.cells os) :: .row (some adS) n c62 81 6 (az SR.cells (b.map SR.f)) :: .blk b4 24 [.int .i64 0, .slice none 0 0] (0, 0) :: .blk b2 39 [.slice fx.A fx.n fx.a, .slice fx.B fx.m fx.b] (0, 0) :: (R2 ++ R)) w')
       (fun _ v _ => n - (intOf v).toNat) ?_ ?_
      ·exact QO
      ·clear hh;rintro ρ2 a_ v w2 ⟨i, c3, A, os, R2, hi, rfl, rfl, hol, hcp, hh⟩;by_cases hlt2 : i < n
       ·obtain ⟨s, hs⟩ := ao (l := b) (k := i) Tx;have hsf := hb s (List.mem_of_getElem? hs);have hsn : (b.map SR.f)[i]? = some s.f := by rw [List.getElem?_map, hs]; rfl
        have zL := SR.Ko hsf;obtain ⟨po, pl⟩ := AA (v := n) (i := i) Tx hsf Tx;have vo := rZ (v := n) (i := i) Tx;have co := sk (v := n) Tx zL.neg Tx;have hva := fun w1 hT1 => uE (n : Int) (i : Int) w1 hT1;rw [Od Tx hlt2] at hva;rw [Int.toNat_natCast] at hva;have zLo : (nR s.L).ok := zL.ok Tx;have hng := fun w1 hT1 => nY (nR s.L) w1 hT1 (by have := zLo.1; omega) (by have := zLo.2.1; omega) (by have := zLo.2.2; omega);rw [cf] at hng;have hcn := fun w1 hT1 => iu (n : Int) (nR (-s.L)) kb w1 hT1 ⟨zL.neg.ok Tx, by rw [cf]; exact zL.neg⟩ Tx;rw [MO Tx] at hcn;have hV : aF [⟨kE n i, nR ((1 : Int) : Dyadic)⟩] = mF n i := rfl;have hC : aF [⟨cR n, nR (-s.L)⟩] = kX n (-s.L) := rfl;have hP : aF (mF n i ++ kX n (-s.L)) = ud n i s := rfl;have tl1 : (mF n i).length ≤ 1 := bQ _;have ul1 : (kX n (-s.L)).length ≤ 1 := bQ _;have hps := tk hs;rw [hbl] at hps;rw [hV] at hva;rw [hC] at hcn;clear hV hC;generalize mF n i = VL at *;generalize kX n (-s.L) = CL at *;generalize ud n i s = PL at *;obtain ⟨ad', e', hrS⟩ := (hh.aC (i := 1) rfl).at_ hpos;obtain rfl := Option.some.inj e';refine sr ?_;refine dZ ?_;refine cn ?_;refine ct (vs := [_, _, _, _, _, _]) aN.out rfl (hrS.recAt SR.len hsn) rfl Ty ?_
        refine bR hh ?_;intro b12 w12 hh;refine aI ?_;refine bW hh 0 [_,_,_,_,_,_] ?_;intro ws hh;replace hh : Hp _ (.blk _ _ [_, _, _, _, _, _] _ :: _) _ := hh;refine aa (sr (mL (aJ (mI ?_))));replace hh := show Hp w (.blk b12 81 [.bool (nR s.L).neg, .string (nR s.L).bo, .int .i64 (nR s.L).e, .bool (nR s.H).neg, .string (nR s.H).bo, .int .i64 (nR s.H).e] (0, 0) :: _) _ from hh;refine aE (hva _ (hT.hp hh)) ak.out rfl Ty ?_;rintro e_ w74 ⟨t, ot, rfl, h4⟩;refine ⟨_, rfl, ?_⟩;have htc : t.n ≤ t.c := h4.eO (i := 0) rfl;replace hh := hh.join h4;clear h4;simp only [List.cons_append, List.nil_append] at hh;obtain ⟨tv, tA, tn, tc, tt⟩ := t;replace hh := show Hp w (.row tA tn tc 96 4 (az TR.cells tt) :: _) _ from hh;have et : VL = tt := ot.t0.symm;have ev_ : tv = (n : Int) := ot.v0;subst et ev_;have tln : VL.length = tn := (hh.aC (i := 0) rfl).bk TR.len Ty;refine mT ?_;refine dq ?_;refine dq ?_;refine bR hh ?_;intro b13 w13 hh;refine bW hh 0 [_,_] ?_;intro ws hh;replace hh : Hp _ (.blk _ _ [_, _] _ :: _) _ := hh;refine aI (aa (sr (mL (aJ (bD ?_)))));refine cD hh 2 [_,_,_] ?_;refine bz hh (hng _ (hT.hp hh)) rfl ?_;intro w82 hh;refine aE (hcn _ (hT.hp hh)) ak.out rfl Ty ?_
        rintro e_ w83 ⟨u, ou, rfl, h4⟩;refine ⟨_, rfl, ?_⟩;have huc : u.n ≤ u.c := h4.eO (i := 0) rfl;replace hh := hh.join h4;clear h4;simp only [List.cons_append, List.nil_append] at hh;obtain ⟨uv, uA, un, uc, ut⟩ := u;replace hh := show Hp w (.row uA un uc 96 4 (az TR.cells ut) :: _) _ from hh;have et : CL = ut := ou.t0.symm;have ev_ : uv = (n : Int) := ou.v0;subst et ev_;have uln : CL.length = un := (hh.aC (i := 0) rfl).bk TR.len Ty;refine mT ?_;refine dq ?_;refine dq ?_;refine bR hh ?_;intro b15 w15 hh;refine bW hh 0 [_,_] ?_;intro ws hh;replace hh : Hp _ (.blk _ _ [_, _] _ :: _) _ := hh;refine aI (aa (sr ?_));refine cD hh 2 [_,_] ?_;refine cD hh 0 [_,_] ?_;refine AV ?_;intro b89 w89 hh;have hlp : eS [⟨n, tA, tn, tc, VL⟩, ⟨n, uA, un, uc, CL⟩] = 0 := mj vo.e co.e rfl;have had := fun A3 w1 hT1 hS1 s1 s2 => lH A3 2 2 [⟨n, tA, tn, tc, VL⟩, ⟨n, uA, un, uc, CL⟩] (kb + 10) w1 hT1 hS1 Ty (fun g hg => by
         rcases List.mem_cons.1 hg with rfl | hg
         ·exact s1
         ·rw [List.mem_singleton.1 hg]; exact s2) (fun g hg => by
         rcases List.mem_cons.1 hg with rfl | hg
         ·exact ⟨by show tn ≤ 1000000; omega, htc, vo.ok.mono Tx, vo.sz⟩
         ·rw [List.mem_singleton.1 hg]; exact ⟨by show un ≤ 1000000; omega, huc, co.ok.mono Tx, co.sz⟩) Tx
        unfold yA at had;rw [if_pos hlp, BG] at had;dsimp only at had;rw [hP] at had;rw [gU (l := VL ++ CL) (by rw [List.length_append]; omega)] at had;refine aE (had _ _ (hT.hp hh) (hh.aC (i := 0) rfl) (hh.aC (i := 4) rfl) (hh.aC (i := 2) rfl)) ak.out rfl Ty ?_;rintro e_ w90 ⟨z, oz, rfl, h4⟩;refine ⟨_, rfl, ?_⟩;have hzc : z.n ≤ z.c := h4.eO (i := 0) rfl;replace hh := hh.join h4;clear h4;simp only [List.cons_append, List.nil_append] at hh;replace hh := show Hp w (.row z.A z.n z.c 96 4 (az TR.cells z.ts) :: _) _ from hh;have zln : z.ts.length = z.n := (hh.aC (i := 0) rfl).bk TR.len Ty;refine mT ?_;refine dq ?_;refine dq ?_;refine bR hh ?_;intro b17 w17 hh;refine bW hh 0 [_,_] ?_;intro ws hh;replace hh : Hp _ (.blk _ _ [_, _] _ :: _) _ := hh;refine aI (aa (al (mL ?_)));refine cD hh 0 [_,_] ?_;refine cP hh (cs := [_, _]) bg.out aN.out (aK (gO rfl) bP) rfl rfl Ty Ty Ty rfl Ty ?_;intro b95 w95 hh;refine cJ hh (i := 9) rfl rfl rfl (hh.aC (i := 0) rfl) bg.out aN.out rfl Ty (by first | rfl | exact dN _ | exact dm _ | exact bX _ | exact cq NR.one _) Tx Tx Ty ?_;intro A96 c96 w96 hh;simp only [List.set_cons_zero, List.set_cons_succ] at hh;replace hh := hh.sub (List.sublist_cons_self _ _)
        refine k8 ?_;refine bh (mI (aA (ai ?_)));replace hh := hh.sub (List.Sublist.cons _ (List.Sublist.cons_cons _ (List.Sublist.cons _ (List.Sublist.cons _ (List.Sublist.cons _ (List.Sublist.cons _ (List.Sublist.cons _ (List.Sublist.cons _ (List.Sublist.cons_cons _ (List.Sublist.cons_cons _ (List.Sublist.cons_cons _ (List.Sublist.cons_cons _ (List.Sublist.refl _)))))))))))));replace hh := hh.perm (List.perm_middle (l₁ := [_, _, _, _]));simp only [List.cons_append, List.nil_append] at hh;replace hh := hh.perm (List.perm_middle (l₁ := [_, _, _, _]));simp only [List.cons_append, List.nil_append] at hh;replace hh := hh.perm (List.perm_middle (l₁ := [_, _, _, _]));simp only [List.cons_append, List.nil_append] at hh;replace hh := hh.perm (List.perm_middle (l₁ := [_, _, _, _]));simp only [List.cons_append, List.nil_append] at hh;have hcp2 := hcp.add (g := ⟨n, none, PL.length, 0, PL⟩) (o := z) (by rw [hol, List.getElem?_map, hps]; rfl) ⟨oz.v0, oz.t0, by rw [← zln, oz.t0]⟩ hzc;refine ⟨⟨i + 1, c96, A96, os ++ [z], z.row :: R2, Tx, rfl, rfl, by rw [List.length_append, hol]; rfl, hcp2, by rw [bV, jI]; exact hh⟩, by show n - (i + 1) < n - i; omega, ?_⟩;exact dL
       ·obtain rfl : n = i := Tx;have hol2 : os.length = ((l5 b).map fun g => (⟨g.v, none, g.ts.length, 0, g.ts⟩ : PX)).length := by rw [List.length_map, Gm]; omega
        have hkey := hcp.key hol2;rw [List.map_map] at hkey;replace hkey : os.map PX.norm = (l5 b).map PX.norm := hkey;have hoc : n ≤ c3 := hh.eO (i := 0) rfl;have hn12 : n ≤ 12 := Tx;have hxb : (mf b ns C).length = au ns := ze b ns C;obtain ⟨bo1, bo2, bo3⟩ := O5 (C := C) (ns := ns) hb Tx hCz hlow Tx (by rw [hnl]; unfold rQ at hK; omega);have hmk := HC (b := b) (C := C) (ns := ns) Tx bo2 hmax;have hal : yy (bH ns) = q9 ns := by unfold yy; rw [show yj 1 (bH ns) = true from Fi ns 1 hlow Tx (Nat.le_refl _)]; rfl
        have hall := fun w1 hD => GL fx.A fx.n fx.a (bH ns) w1 hD Tx;rw [hal, Gv] at hall;have hrd2 : ∀ (H : List HE) (w1 : World), Hp w (H ++ (R2 ++ R)) w1 → Sl w1 (some adC) fx.m 3 (az NR.cells (C.map nR)) := fun H w1 h => hrd (H ++ R2) w1 (by rw [List.append_assoc]; exact h);have hmy := hcp.my;generalize hRR : (R2 ++ R : List HE) = RR at *;refine sr ?_;refine bf (aa (ah (cF (aZ (aD (aD (bq (ai (sr (aL (aa (ah (sr (bD ?_))))))))))))));refine bB hh 3 ?_;refine aE (hall _ (hdgw _ _ hh)) ak.out rfl Ty ?_;rintro e_ w100 ⟨A100, c100, rfl, hown_, hb_⟩;refine ⟨_, rfl, ?_⟩;replace hh := hh.aV (x := .row _ _ _ _ _ _) hb_ hown_;refine aJ (mI (aa (aq ?_)));replace hh := hh.db 96 4;refine bJ [19, 20, 21, 22, 23, 24, 102, 103, 104, 105, 106, 107, 108, 109, 110, 111, 112, 113, 114, 115, 116, 117, 118, 119, 120, 121, 122, 123, 124, 125, 126, 127, 128, 129, 130, 131, 132, 133, 134, 135, 136, 137, 138, 139, 140, 141, 142, 143, 144, 145, 146, 147, 148] 19 102
         (fun a v w' => ∃ (i c1 : Nat) (D : Option Addr), i ≤ au ns ∧ v = .int .i64 i ∧ a = .slice D i c1 ∧ Hp w (.row D i c1 96 4 (az TR.cells ((mf b ns C).take i)) :: .row A100 (au ns) c100 9 1 (lj (q9 ns)) :: .row A n c3 24 2 (az PX.cells os) :: .row (some adS) n c62 81 6 (az SR.cells (b.map SR.f)) :: .blk b4 24 [.int .i64 0, .slice none 0 0] (0, 0) :: .blk b2 39 [.slice fx.A fx.n fx.a, .slice fx.B fx.m fx.b] (0, 0) :: RR) w')
         (fun _ v _ => au ns - (intOf v).toNat) ?_ ?_
        ·exact ⟨0, 0, none, Nat.zero_le _, rfl, rfl, hh⟩
        ·clear hh;rintro ρ3 a_ v w3 ⟨i, c1, D, hi2, rfl, rfl, hh⟩;by_cases hlt3 : i < au ns
         ·obtain ⟨x, hx⟩ := ao (l := C) (k := i) Tx;have hxn : (C.map nR)[i]? = some (nR x) := by rw [List.getElem?_map, hx]; rfl
          have zx := hCz x (List.mem_of_getElem? hx);have hax : jo C i = x := by unfold jo; rw [hx]; rfl
          have hti := LI (b := b) (C := C) hlt3;have hms : (lj (q9 ns))[i]? = some (.string (fX (bH (jr ns i)))) := by unfold lj; rw [List.getElem?_map, I7 hlt3]; rfl
          have hmm := bo2 _ (List.mem_of_getElem? hti);have hmz := (bo3 _ (List.mem_of_getElem? hti)).1;have hrl := mP ns i;have hrr : ∀ (q d r : Nat), ns[q]? = some d → (jr ns i)[q]? = some r → r ≤ d := fun q d r h1 h2 => xl h1 h2;have hes := x9 (p := i) hlow;unfold PE at hti hmm hmz;rw [hax] at hti;generalize fX (bH (jr ns i)) = M at *;generalize jr ns i = es at *;have hex : iq M.data.toList = bH es := by rw [jC (by unfold eH at hmm; rw [Bool.and_eq_true] at hmm; exact hmm.1), lg, hes]
          have hel : (iq M.data.toList).length = n := by rw [hex, iC]; omega
          have hxp := fun w1 => gW M w1 hmz;rw [hel, hex] at hxp;obtain ⟨ad', e', hrC⟩ := (hrd2 [_, _, _, _, _, _] _ hh).at_ Tx;obtain rfl := Option.some.inj e';obtain ⟨ga, rfl⟩ := hh.cd (i := 1) rfl Tx;refine sr ?_;refine dZ ?_;refine gh ?_;refine HV ?_;refine aI (aS (aa (sr (mL (mI ?_)))));refine cZ bg.out aN.size rfl rfl rfl Tx Ty ?_;refine ct (vs := [_, _, _]) aN.out rfl (hrC.recAt NR.len hxn) rfl Ty ?_;refine bR hh ?_;intro b22 w22 hh;refine bW hh 0 [_,_,_] ?_;intro ws hh;replace hh : Hp _ (.blk _ _ [_, _, _] _ :: _) _ := hh;refine aa (ah (sr (mS ?_)));refine aE (hxp _) ak.out rfl Ty ?_;rintro e_ w112 ⟨A112, c112, rfl, hown_, hb_⟩;refine ⟨_, rfl, ?_⟩;replace hh := hh.aV (x := .row _ _ _ _ _ _) hb_ hown_;refine aJ (mI (aa (aq ?_)));rw [show x = x * wP b ns es 0 by show x = x * 1; rw [Dyadic.mul_one]] at hh;refine aP [23, 24, 114, 115, 116, 117, 118, 119, 120, 121, 122, 123, 124, 125, 126, 127, 128, 129, 130, 131, 132, 133, 134, 135, 136, 137, 138, 139, 140, 141] 114
           (fun v w' => ∃ q : Nat, q ≤ n ∧ v = .int .i64 q ∧ Hp w (.row A112 n c112 3 1 (bF (bH es)) :: .blk b22 65 [.bool (nR (x * wP b ns es q)).neg, .string (nR (x * wP b ns es q)).bo, .int .i64 (nR (x * wP b ns es q)).e] (0, 0) :: .row D i c1 96 4 (az TR.cells ((mf b ns C).take i)) :: .row (some ⟨ga, 0, none⟩) (au ns) c100 9 1 (lj (q9 ns)) :: .row A n c3 24 2 (az PX.cells os) :: .row (some adS) n c62 81 6 (az SR.cells (b.map SR.f)) :: .blk b4 24 [.int .i64 0, .slice none 0 0] (0, 0) :: .blk b2 39 [.slice fx.A fx.n fx.a, .slice fx.B fx.m fx.b] (0, 0) :: RR) w')
           (fun v _ => n - (intOf v).toNat) ?_ ?_
          ·exact ⟨0, Nat.zero_le _, rfl, hh⟩
          ·clear hh;rintro ρ4 v w4 ⟨q, hq, rfl, hh⟩;by_cases hqn : q < n
           ·obtain ⟨s, hs⟩ := ao (l := b) (k := q) Tx;obtain ⟨d, hd⟩ := ao (l := ns) (k := q) Tx;obtain ⟨r, hr⟩ := ao (l := es) (k := q) Tx;have hsf := hb s (List.mem_of_getElem? hs);have hsn : (b.map SR.f)[q]? = some s.f := by rw [List.getElem?_map, hs]; rfl
            have hrd3 := hrr q d r hd hr;have hd7 := hlow d (List.mem_of_getElem? hd);have hgE := cj (iX hr);have hgD : (bF (bH ns))[q]? = some (.int .i64 (d : Int)) := cj (iX hd);have zW := (SR.P1 hsf).sub (SR.Ko hsf);have hsu := fun w1 hT1 => lG (nR s.H) (nR s.L) w1 hT1 ((SR.P1 hsf).ok Tx) ((SR.Ko hsf).ok Tx) kb (by rw [cf]; exact SR.P1 hsf) (by rw [cf]; exact SR.Ko hsf) Tx;rw [cf, cf] at hsu;have hwi : wP b ns es (q + 1) = wP b ns es q * (s.H - s.L) ^ (d - r) := by
             show wP b ns es q * GX b q ^ (ns.getD q 0 - es.getD q 0) = _;rw [show GX b q = s.H - s.L by unfold GX; rw [hs], List.getD_eq_getElem?_getD, List.getD_eq_getElem?_getD, hd, hr]
             rfl
            have zq := zx.mul (JD (es := es) (ns := ns) hb q Tx);have hsum : (ns.take q).sum ≤ ns.sum := by
             conv => rhs; rw [← List.take_append_drop q ns, List.sum_append]
             omega
            have hsum2 := Nat.mul_le_mul_left (kb + 1) hsum;have hnw := zW.nr;have hpm : (d - r) * (nR (s.H - s.L)).bo.size ≤ 1000000 := Nat.le_trans (Nat.mul_le_mul (show d - r ≤ 127 by omega) (show (nR (s.H - s.L)).bo.size ≤ 1100 by omega)) Ty;have hpw := fun w1 hT1 => tJ (nR (s.H - s.L)) ((d : Int) - (r : Int)) w1 hT1 (zW.ok Tx) (by rw [show ((d : Int) - (r : Int)).toNat = d - r by omega]; exact hpm) Tx;rw [cf, show ((d : Int) - (r : Int)).toNat = d - r by omega] at hpw;have zp := zW.AL (show d - r ≤ 127 by omega);have hm2 := fun A cc w1 hT1 hS1 => ew A 2 cc [nR (x * wP b ns es q), nR ((s.H - s.L) ^ (d - r))] w1 hT1 hS1 (by simpa using ⟨zq.ok (by unfold rQ at hK; omega), zp.ok Tx⟩) 600000 (by simpa [cf] using ⟨zq.mono (by unfold rQ at hK; omega), zp.mono Tx⟩) Tx Tx;rw [show ic ([nR (x * wP b ns es q), nR ((s.H - s.L) ^ (d - r))].map NR.d) = x * wP b ns es (q + 1) by simp only [List.map_cons, List.map_nil, cf]; show 1 * (x * wP b ns es q) * _ = _; rw [Dyadic.one_mul, hwi, Dyadic.mul_assoc]] at hm2;obtain ⟨ad', e', hrS⟩ := (hh.aC (i := 5) rfl).at_ hpos;obtain rfl := Option.some.inj e';obtain ⟨adD, hAD, hrD⟩ := (hdgw _ _ hh).at_ Tx
            have mb : Value.slice fx.A fx.n fx.a = .slice (some adD) fx.n fx.a := by rw [hAD]
            clear hwi;generalize x * wP b ns es q = y at *;generalize hy2 : x * wP b ns es (q + 1) = y2 at *;generalize (s.H - s.L) ^ (d - r) = u at *;obtain ⟨ge, rfl⟩ := hh.cd (i := 0) rfl Tx;refine sr ?_;refine dZ ?_;refine cS (k := q) bg.out aN.size rfl rfl Tx Tx Ty ?_;refine jm ?_;refine aI (aI (aa ?_));refine aY 20 [[(22, none)], [(1, none)], [(23, none)], [(120, some 1), (121, some 2)], [(122, some 3)], [(123, some 4)], [(1, none)], [(23, none)], [(125, some 6), (126, some 7)], [(127, some 8)], [(128, some 9)], [(124, some 5), (129, some 10)], [(2, none)], [(131, some 12)], [(23, none)], [(132, some 13), (133, some 14)], [(134, some 15)], [(24, none)], [(135, some 16), (136, some 17)], [(130, some 11), (137, some 18)]] [(19, 138), (18, 137), (17, 136), (16, 135), (15, 134), (14, 133), (13, 132), (12, 131), (11, 130), (10, 129), (9, 128), (8, 127), (7, 126), (6, 125), (5, 124), (4, 123), (3, 122), (2, 121), (1, 120), (0, 119)] hh mixed Tz ?_;refine fT 1 [_,_,_] ?_;refine gk ?_;refine dE ?_;refine nT (q) ?_;refine MT ?_;refine pE [_,_,_] (fun _ hj => ((((hrS.ext hj.bl).recAt SR.len hsn).drop 3).take 3)) ?_;refine gk ?_;refine dE ?_;refine nT (q) ?_;refine MT ?_
            refine pE [_,_,_] (fun _ hj => ((((hrS.ext hj.bl).recAt SR.len hsn).drop 0).take 3)) ?_;refine dC (fun _ hj => hsu _ (hT.hp hj.hp)) ?_;refine dV ?_;refine fJ 7 ?_;refine dE ?_;refine aR (i := 15) (Is (.pointer (some (adD.add (q * 1))))) (Is.ext) ?_ ?_
            ·intro ρ1 w1 hj hR;exact fC rfl (g6 (k := q) bg.out aN.size ((show ρ1 132 = Value.slice _ _ _ from hR.1).trans mb) (show ρ1 133 = Value.int _ _ from hR.2.1) Tx Tx) ⟨Below.refl _ _, rfl⟩
            refine rX (fun _ hj => (hrD.ext hj.bl).xo hgD) ?_;refine dE ?_;refine uX ?_;refine dC (fun _ hj => hpw _ (hT.hp hj.hp)) ?_;refine aT ?_;intro f W hJ hV;have hb_33 := hJ.bl;obtain ⟨v138, v137, v136, v135, v134, v133, v132, v131, v130, v129, v128, v127, v126, v125, v124, v123, v122, v121, v120, v119, _⟩ := hV;replace hh := hJ.hp;refine a6 (bm (ae v138 (ae v137 (ae v136 (ae v135 (ae v134 (ae v133 (ae v132 (ae v131 (ae v130 (ae v129 (ae v128 (ae v127 (ae v126 (ae v125 (ae v124 (ae v123 (ae v122 (ae v121 (ae v120 (ae v119 a0))))))))))))))))))))) ?_;dsimp only [cg];clear hJ;refine wg ?_;intro b139 w139 hh;refine bz hh (hm2 _ _ _ (hT.hp hh) (hh.aC (i := 0) rfl)) rfl ?_;intro w140 hh;refine bW hh 2 [_,_,_] ?_;intro ws hh;replace hh : Hp _ (_ :: _ :: .blk _ _ [_, _, _] _ :: _) _ := hh;refine fL ?_;refine bh (mI (aA (ai ?_)));replace hh := hh.sub (List.Sublist.cons _ (List.Sublist.cons_cons _ (List.Sublist.cons_cons _ (List.Sublist.cons_cons _ (List.Sublist.cons_cons _ (List.Sublist.cons_cons _ (List.Sublist.cons_cons _ (List.Sublist.cons_cons _ (List.Sublist.cons_cons _ (List.Sublist.refl _))))))))))
            refine ⟨⟨q + 1, Tx, rfl, by rw [hy2]; exact hh⟩, by show n - (q + 1) < n - q; omega, ?_⟩;exact dL
           ·obtain rfl : n = q := Tx;rw [hbl] at hti;refine sr ?_;refine bf (aa (ah (cF (aZ (aD (aD (bq (ai (al (mL (mS ?_)))))))))));refine cD hh 1 [_,_,_] ?_;refine gj [_,_,_,_] ?_;refine z6 ?_;intro b146 w146 hh;refine M4 ?_;intro A147 c147 w147 hh;simp only [List.set_cons_zero, List.set_cons_succ] at hh;replace hh := hh.sub (List.sublist_cons_self _ _);refine k8 ?_;refine bh (mI (aA (ai ?_)));have e1 : az TR.cells ((mf b ns C).take i) ++ [.string M, .bool (nR (x * wP b ns es n)).neg, .string (nR (x * wP b ns es n)).bo, .int .i64 (nR (x * wP b ns es n)).e] = az TR.cells ((mf b ns C).take (i + 1)) := by rw [ay hti, bV, jI]; rfl
            replace hh := hh.sub (List.Sublist.cons _ (List.Sublist.cons _ (List.Sublist.cons_cons _ (List.Sublist.cons_cons _ (List.Sublist.cons_cons _ (List.Sublist.cons_cons _ (List.Sublist.cons_cons _ (List.Sublist.cons_cons _ (List.Sublist.refl _)))))))));replace hh := show Hp w (.row A147 (i + 1) c147 96 4 (az TR.cells ((mf b ns C).take i) ++ [.string M, .bool (nR (x * wP b ns es n)).neg, .string (nR (x * wP b ns es n)).bo, .int .i64 (nR (x * wP b ns es n)).e]) :: _) _ from hh;rw [e1] at hh;refine ⟨⟨i + 1, c147, A147, Tx, rfl, rfl, hh⟩, by show au ns - (i + 1) < au ns - i; omega, ?_⟩;exact dL
         ·obtain rfl : au ns = i := Tx;rw [List.take_of_length_le Tx] at hh;have hbz := fun t ht => (bo3 t ht).1;have hmA := fun w1 hT1 hS1 => mE (n : Int) D (au ns) c1 (mf b ns C) (rQ n k kb ns) w1 hT1 hS1 Tx Tx (bo1.mono (by rw [hnl]; exact Nat.le_refl _)) hbz;rw [hnl] at hmk bo2;rw [hmk] at hmA;refine sr ?_;refine bf (aa (ah (cF (aZ (aD (aD (bq (ai (sr (mL (aJ (mL ?_))))))))))));refine aE (hmA _ (hT.hp hh) (hh.aC (i := 0) rfl)) ak.out rfl Ty ?_;rintro e_ w153 ⟨g, og, rfl, h4⟩;refine ⟨_, rfl, ?_⟩;have hgc : g.n ≤ g.c := h4.eO (i := 0) rfl;replace hh := hh.join h4;clear h4;simp only [List.cons_append, List.nil_append] at hh;obtain ⟨gv, gA, gn, gc, gt⟩ := g;replace hh := show Hp w (.row gA gn gc 96 4 (az TR.cells gt) :: _) _ from hh;replace hgc : gn ≤ gc := hgc;have et : aF (mf b ns C) = gt := og.t0.symm;have ev_ : gv = (n : Int) := og.v0;subst ev_;have gln : gt.length = gn := (hh.aC (i := 0) rfl).bk TR.len Ty;have gl2 : gt.length ≤ 4096 := by rw [← et]; exact Nat.le_trans (bQ _) Tx
          have gok : ky (n : Int) (rQ n k kb ns + 4096) gt := by
           rw [← et];exact jP (fD hn12) bo2 (bo1.mono (by rw [hnl]; exact Nat.le_refl _)) hbz Tx (Nat.le_refl _) Tx
          have hgex : ∀ (i d : Nat), ns[i]? = some d → d ≤ 127 ∧ ∀ t ∈ gt, fw i t ≤ d := fun i d hd => ⟨hlow d (List.mem_of_getElem? hd), fun t ht => by
           rw [← et] at ht;obtain ⟨s, hs, e⟩ := fQ t ht;obtain ⟨_, p, hp⟩ := bo3 s hs;rw [yE, ← e, hp]
           cases hr : (jr ns p)[i]? with
           | none => exact Nat.zero_le _
           | some r => exact xl hd hr⟩
          have hall := Gn hcp Tx Tx hb Tx;have hhv : eC (l5 b) = n := by
           obtain ⟨s, hs⟩ := ao (l := b) (k := 0) Tx;rw [kI (tk hs), hbl]
          obtain ⟨ks, kh⟩ := Ej (o := ⟨(n : Int), gA, gn, gc, gt⟩) (p := KI b ns C) (by show (n : Int) = (ns.length : Int); omega) et.symm hkey;have hfit : RY ⟨(n : Int), gA, gn, gc, gt⟩ os (rQ n k kb ns + 4096) (kb + 10) 2 (kb + 16394) ns := ⟨Tx, hgex, hgr, Tx, Tx, fun g hg => (hall g hg).1, fun g hg => (hall g hg).2⟩;have hsu := fun w1 hT1 ha hs hm hc => pJ ⟨(n : Int), gA, gn, gc, gt⟩ A c3 os (rQ n k kb ns + 4096) (kb + 10) 2 (kb + 16394) ns w1 hT1 ha ⟨by show gn ≤ 1000000; omega, hgc, gok.ok, gok.sz⟩ hs hm hc hfit;rw [ks, kh, hhv, hol] at hsu;generalize da (KI b ns C) (l5 b) = R0 at *;refine mT ?_;refine dq ?_;refine dq ?_;refine bR hh ?_;intro b25 w25 hh;refine bW hh 0 [_,_] ?_;intro ws hh;replace hh : Hp _ (.blk _ _ [_, _] _ :: _) _ := hh;refine aI (aa (ah (sr (mI ?_))));refine wY ?_;refine cD hh 0 [_,_] (mL ?_);refine aE (hsu _ (hT.hp hh) (hh.aC (i := 1) rfl) (hh.aC (i := 4) rfl) (fun z hz => D2 hh (List.mem_cons_of_mem _ (List.mem_cons_of_mem _ (List.mem_cons_of_mem _ (List.mem_cons_of_mem _ (List.mem_cons_of_mem _ (List.mem_cons_of_mem _ (List.mem_cons_of_mem _ (List.mem_cons_of_mem _ (hRR ▸ List.mem_append_left R (hmy z hz).1)))))))))) hoc) ak.out rfl Ty ?_
          rintro e_ w162 ⟨z, oz, rfl, h4⟩;refine ⟨_, rfl, ?_⟩;replace hh := hh.join h4;clear h4;simp only [List.cons_append, List.nil_append] at hh;refine dq ?_;refine dq ?_;refine bW hh 7 [_,_] ?_;intro ws hh;replace hh : Hp _ (_ :: _ :: _ :: _ :: _ :: _ :: _ :: .blk _ _ [_, _] _ :: _) _ := hh;refine aI (aa (av ?_));refine P6 (eI rfl (eJ (vs := [_, _]) aN.out (hh.ck (i := 7) (n := 2) rfl rfl) rfl) (jZ (kP rfl) gg)) ?_;exact ⟨z, oz, rfl, hh.sub (List.Sublist.cons_cons _ (List.nil_sublist _))⟩
   ·have hE : rU fx b = 1 := by unfold rU; rw [if_neg Tx, if_neg Tx, if_pos Tx]
    rw [h0] at hck;rw [h1] at hbc;rw [hE];have hln := hf.ln.1;refine D3 ?_;refine sr ?_;refine cx hh [_,_] ?_;intro b2 w2 hh;refine bR hh ?_;intro b4 w4 hh;refine aI (aa (ah (sr ?_)));refine cD hh 1 [_,_] ?_;refine fG ?_;intro w28 hh;refine aI (aa (sr (mI ?_)));refine sK ?_;refine bz hh (hbc _ (hT.hp hh) hh.below) rfl ?_;intro w34 hh;refine aI (aa (sr (mI ?_)));refine rq ?_;refine bB hh 1 ?_;refine aJ ?_;refine cK (aa (cT (sr ?_)));refine gj [_,_] ?_;exact QI
  ·have hE : rU fx b = lS b := by unfold rU; rw [if_neg Tx, if_pos h1]
   rw [h0] at hck;rw [hE];refine D3 ?_;refine sr ?_;refine cx hh [_,_] ?_;intro b2 w2 hh;refine bR hh ?_;intro b4 w4 hh;refine aI (aa (ah (sr ?_)));refine cD hh 1 [_,_] ?_;refine fG ?_;intro w28 hh;refine aI (aa (sr (mI ?_)));refine sK ?_;refine bz hh (hbc _ (hT.hp hh) hh.below) rfl ?_;intro w34 hh;exact MP
 ·have hE : rU fx b = fx.e := by unfold rU; rw [if_pos h0]
  rw [hE];refine D3 ?_;refine sr ?_;refine cx hh [_,_] ?_;intro b2 w2 hh;refine bR hh ?_;intro b4 w4 hh;refine aI (aa (ah (sr ?_)));refine cD hh 1 [_,_] ?_;refine fG ?_;intro w28 hh;exact MP
section
variable {P : Program} {N : Nat} {Q : Kd} {ρ : Rf} {w : World}
theorem WD.mono {c : Code} {Q' : Kd} (h : WD P N c Q ρ w) (hq : ∀ e M ρ w, Q e M ρ w → Q' e M ρ w) : WD P N c Q' ρ w :=
 ⟨fun M a hf n => wpIn_mono (h.out M a hf n) fun e a' w' ⟨M', ρ', hf', hk⟩ => ⟨M', ρ', hf', hq e M' ρ' w' hk⟩⟩
theorem JX {c : Code} (mods : List Nat) (s0 s1 : Nat) (I : List Nat → Value → Value → World → Prop) (μ : Value → Value → World → Nat) (h0 : I [] (ρ s0) (ρ s1) w)
  (round : ∀ M ρ' v0 v1 w', I M v0 v1 w' → WD P N c (fun e M2 ρ2 w2 => xx (fun M3 ρ2 w2 => I M3 (ρ2 s0) (ρ2 s1) w2 ∧ μ (ρ2 s0) (ρ2 s1) w2 < μ v0 v1 w' ∧ iH mods ρ2 ρ) Q e (M2 ++ M) ρ2 w2) (cG (cG (mask mods ρ' ρ) s0 v0) s1 v1) w') : WD P N (.loop c) Q ρ w :=
 LZ (fun M ρ1 w1 => I M (ρ1 s0) (ρ1 s1) w1 ∧ iH mods ρ1 ρ) (fun ρ1 w1 => μ (ρ1 s0) (ρ1 s1) w1) ⟨h0, fun _ _ => rfl⟩ fun M ρ1 w1 ⟨hi, ha⟩ => by
  have h := round M ρ1 (ρ1 s0) (ρ1 s1) w1 hi;rw [iV ha, gG, gG] at h;exact h.mono fun e M2 ρ2 w2 hq => by
   cases e with
   | normal => exact ⟨⟨hq.1, hq.2.2⟩, hq.2.1⟩
   | _ => exact hq
theorem OB {M : List Nat} {id : Nat} {next : List Nat → Rf → World → Prop} (h : next M ρ w) : Kj (uF M (IB id (xx next Q))) .normal ρ w := h
theorem Il {M M0 : List Nat} {next : List Nat → Rf → World → Prop} (h : next (M ++ M0) ρ w) : Kj (uF M (fun e M2 ρ2 w2 => xx next Q e (M2 ++ M0) ρ2 w2)) .normal ρ w := h
theorem Kv {M0 : List Nat} {id : Nat} {next next' : List Nat → Rf → World → Prop} (h : next' M0 ρ w) : Kj (fun e M2 ρ2 w2 => xx next (IB id (xx next' Q)) e (M2 ++ M0) ρ2 w2) (.exit id) ρ w := by
 show if id = id then xx next' Q .normal ([] ++ M0) ρ w else xx next' Q (.exit id) ([] ++ M0) ρ w
 rw [if_pos rfl];exact h
end
structure Marks (w0 : World) (M : List Nat) (w : World) : Prop where
 at_ : ∀ D ∈ M, w0.heap.size ≤ D ∧ w.heap[D]? = some (.deferred (some []))
 nd : M.Nodup
theorem EY (M : List Nat) : (oN M).filterMap HE.id = M := by
 induction M with
 | nil => rfl
 | cons D M ih => rw [show oN (D :: M) = .ob D (.deferred (some [])) :: oN M from rfl, List.filterMap_cons, show HE.id (.ob D (.deferred (some []))) = some D from rfl]; simp only [ih]
theorem Hp.marks {w0 w : World} {H : List HE} {M : List Nat} (h : Hp w0 (H ++ oN M) w) : Marks w0 M w := by
 refine ⟨fun D hD => h.own (.ob D (.deferred (some []))) (List.mem_append_right _ (List.mem_map_of_mem (f := fun D => HE.ob D (.deferred (some []))) hD)), ?_⟩;have := h.nd;rw [List.filterMap_append, EY] at this;exact (List.nodup_append.1 this).2.1
theorem Hp.PJ {w0 w : World} {H : List HE} {M : List Nat} (h : Hp w0 H w) (hc : ∀ x ∈ H, x.P3 = true) (hm : Marks w0 M w) : Hp w0 (H ++ oN M) w := by
 refine ⟨h.below, fun x hx => ?_, ?_⟩
 ·rcases List.mem_append.1 hx with hx | hx
  ·exact h.own x hx
  ·obtain ⟨D, hD, rfl⟩ := List.mem_map.1 hx;exact hm.at_ D hD
 ·rw [List.filterMap_append, EY];refine List.nodup_append.2 ⟨h.nd, hm.nd, fun a ha b hb e => ?_⟩;subst e;obtain ⟨y, hy, hyb⟩ := List.mem_filterMap.1 ha;obtain ⟨o', h2, h3⟩ := sZ (h.own y hy) (hc y hy) hyb;rw [(hm.at_ a hb).2] at h2
  cases h2
  cases h3
theorem Marks.keeps {w0 w w' : World} {M : List Nat} (h : Marks w0 M w) (hk : KeepsOthers w w') : Marks w0 M w' := ⟨fun D hD => ⟨(h.at_ D hD).1, hk.2 D _ (h.at_ D hD).2 rfl⟩, h.nd⟩
theorem Marks.grown {w0 ws w w' : World} {M : List Nat} (h : Marks w0 M w) (hlt : ∀ D ∈ M, D < ws.heap.size) {row : Option Nat} (hg : w.grownBy w' row) (hr : ∀ r, row = some r → ws.heap.size ≤ r) : Marks w0 M w' := by
 refine ⟨fun D hD => ⟨(h.at_ D hD).1, ?_⟩, h.nd⟩;have h1 := (h.at_ D hD).2;refine (hg.block D (Array.getElem?_eq_some_iff.1 h1).1 fun e => ?_).trans h1;have := hr D e.symm;have := hlt D hD;omega
theorem Marks.lt {w0 w : World} {M : List Nat} (h : Marks w0 M w) : ∀ D ∈ M, D < w.heap.size := fun D hD => (Array.getElem?_eq_some_iff.1 (h.at_ D hD).2).1
theorem Marks.cons {w0 ws w : World} {M : List Nat} {D : Nat} (h : Marks w0 M w) (hlt : ∀ D ∈ M, D < ws.heap.size) (h0 : w0.heap.size ≤ ws.heap.size) (hD : ws.heap.size ≤ D) (h1 : w.heap[D]? = some (.deferred (some []))) : Marks w0 (D :: M) w := by
 refine ⟨fun E hE => ?_, List.nodup_cons.2 ⟨fun hm => ?_, h.nd⟩⟩
 ·rcases List.mem_cons.1 hE with rfl | hE
  ·exact ⟨Tx, h1⟩
  ·exact h.at_ E hE
 ·have := hlt D hm;omega
theorem Hp.Pg {w0 w : World} {L : List HE} {M : List Nat} (h : Hp w0 L w) (hs : (oN M).Sublist L) : Marks w0 M w := Hp.marks (H := []) (h.sub hs)
theorem Hp.Ph {w0 w w' : World} {x y : HE} {T T' : List HE} {b : Nat} (hs : Hp w0 (x :: T) w) (hc : ∀ z ∈ x :: T, z.P3 = true) (he : Hp w0 (y :: (T' ++ Ca w0.heap.size ((x :: T).filterMap HE.id) w)) w') (hid : T'.filterMap HE.id = T.filterMap HE.id) (hy : y.id = some b) : KeepsOthers w w' := by
 have hoth : ∀ k, k < w.heap.size → w0.heap.size ≤ k → k ∉ (x :: T).filterMap HE.id → ∃ o, w.heap[k]? = some o ∧ HE.ob k o ∈ Ca w0.heap.size ((x :: T).filterMap HE.id) w := fun k hk h0 hm => ⟨w.heap[k], Array.getElem?_eq_getElem hk, List.mem_filterMap.2 ⟨k, List.mem_range.2 hk, by
  unfold Mc;rw [if_pos ⟨h0, by simpa using hm⟩, Array.getElem?_eq_getElem hk]
  rfl⟩⟩
 have hob : ∀ z ∈ Ca w0.heap.size ((x :: T).filterMap HE.id) w, z ∈ y :: (T' ++ Ca w0.heap.size ((x :: T).filterMap HE.id) w) := fun z hz => List.mem_cons_of_mem _ (List.mem_append_right _ hz);have hbl := dJ (he.own y List.mem_cons_self) hy;have hnd := he.nd;rw [List.filterMap_cons, hy] at hnd;have hnd1 := (List.nodup_cons.1 hnd).1;refine ⟨?_, fun k o h1 h2 => ?_⟩
 ·rcases Nat.eq_zero_or_pos w.heap.size with h | h
  ·omega
  ·have hk : w.heap.size - 1 < w.heap.size := Tx;by_cases h0 : w.heap.size - 1 < w0.heap.size
   ·have := he.size;omega
   ·by_cases hm : w.heap.size - 1 ∈ (x :: T).filterMap HE.id
    ·rw [List.filterMap_cons] at hm;have hT : w.heap.size - 1 ∈ T.filterMap HE.id → w.heap.size ≤ w'.heap.size := fun hm => by
      obtain ⟨z, hz, hzb⟩ := List.mem_filterMap.1 (hid ▸ hm);have := (dJ (he.own z (List.mem_cons_of_mem _ (List.mem_append_left _ hz))) hzb).2;omega
     split at hm
     ·exact hT hm
     ·rename_i r hr
      rcases List.mem_cons.1 hm with e | hm
      ·by_cases hb : b < w.heap.size
       ·by_cases hbk : b = w.heap.size - 1
        ·omega
        ·exfalso;by_cases hbm : b ∈ (x :: T).filterMap HE.id
         ·rw [List.filterMap_cons, hr] at hbm
          rcases List.mem_cons.1 hbm with e2 | hbm
          ·omega
          ·rw [← hid] at hbm;exact hnd1 (by rw [List.filterMap_append]; exact List.mem_append_left _ hbm)
         ·obtain ⟨o, _, h3⟩ := hoth b hb hbl.1 hbm;exact hnd1 (by rw [List.filterMap_append]; exact List.mem_append_right _ (List.mem_filterMap.2 ⟨_, h3, rfl⟩))
       ·omega
      ·exact hT hm
    ·obtain ⟨o, _, h3⟩ := hoth _ hk Tx hm;have := (dJ (he.own _ (hob _ h3)) rfl).2;omega
 ·have hk := (Array.getElem?_eq_some_iff.1 h1).1;by_cases h0 : k < w0.heap.size
  ·exact (he.below.block k h0).trans ((hs.below.block k h0).symm.trans h1)
  ·by_cases hm : k ∈ (x :: T).filterMap HE.id
   ·obtain ⟨z, hz, hzb⟩ := List.mem_filterMap.1 hm;obtain ⟨o', h3, h4⟩ := sZ (hs.own z hz) (hc z hz) hzb;rw [h1] at h3
    cases h3
    rw [h2] at h4
    cases h4
   ·obtain ⟨o', h3, h4⟩ := hoth k hk Tx hm;rw [h1] at h3
    cases h3
    exact (he.own _ (hob _ h4)).2
def lV (d : Nat) (t : Dyadic) (xs : List Dyadic) (i : Nat) : Dyadic := sm (List.range i) fun r => jo xs r * kA d r t
theorem Gi (d : Nat) (t : Dyadic) (xs : List Dyadic) (i : Nat) : lV d t xs (i + 1) = lV d t xs i + jo xs i * kA d i t := by
 unfold lV;rw [List.range_succ, jx]
theorem ya {d i k q : Nat} {t : Dyadic} {xs : List Dyadic} (hx : ∀ x ∈ xs, Sz k x) (ht : Sz q t) (ht1 : Sz q (1 - t)) (hi : i ≤ d + 1) : Sz (k + (2 + 2 * (q * d)) + i) (lV d t xs i) := by
 have h2 := BJ (l := List.range i) (f := fun r => jo xs r * kA d r t) (k := k + (2 + 2 * (q * d))) fun r hr => by
  have hr := List.mem_range.1 hr;unfold kA;exact ((xX hx r).mul ((ht.AL (show r ≤ d by omega)).mul (ht1.AL (show d - r ≤ d by omega)))).mono Tx
 rw [List.length_range] at h2;exact h2
theorem vg (tn : NR) (t : Dyadic) (bt bl : Addr) (L : Option Addr) (n c d : Nat) (xs : List Dyadic) (k q : Nat) (w : World) (hT : ee w) (hS : Sl w L n 3 (az NR.cells (xs.map nR))) (hn : n = d + 1) (hd : d ≤ 127) (hx : ∀ x ∈ xs, Sz k x) (vt : Nr q tn t) (ht1 : Sz q (1 - t))
  (hb1 : Rd w bt [.bool tn.neg, .string tn.bo, .int .i64 tn.e]) (hb2 : Rd w bl [.bool (nR (1 - t)).neg, .string (nR (1 - t)).bo, .int .i64 (nR (1 - t)).e]) (hk : k ≤ 500000) (hq : q ≤ 2000) :
  Calls Tryz.prog 191 #[.slice L n c, .pointer (some bt), .pointer (some bl)] w fun r w' => r = .returned (.agg #[.bool (nR (lV d t xs (d + 1))).neg, .string (nR (lV d t xs (d + 1))).bo, .int .i64 (nR (lV d t xs (d + 1))).e]) ∧ Below w.heap.size w w' := by
 have hh := Hp.start w;have hln : xs.length = n := by have := hS.bk NR.len Ty; simpa using this
 have hqd : q * d ≤ 2000 * 127 := Nat.mul_le_mul hq hd;have ht := vt.sz;have hpw : ∀ (sn : NR) (z : Dyadic), Nr q sn z → ∀ (i : Nat), i ≤ d → ∀ w1, ee w1 → Calls Tryz.prog 51 #[.agg #[.bool sn.neg, .string sn.bo, .int .i64 sn.e], .int .i64 (i : Int)] w1 fun r w' => r = .returned (.agg #[.bool (nR (z ^ i)).neg, .string (nR (z ^ i)).bo, .int .i64 (nR (z ^ i)).e]) ∧ Below w1.heap.size w1 w' := fun sn z hz i hi w1 hT1 => by
  have h1 := hz.bo;have h2 : i * sn.bo.size ≤ 127 * 2001 := Nat.mul_le_mul Tx Tx;have := tJ sn i w1 hT1 hz.ok (by rw [Int.toNat_natCast]; omega) Tx;rwa [hz.d, Int.toNat_natCast] at this
 obtain ⟨ad, rfl, hr⟩ := hS.at_ Tx;refine aj (N := 35) (l := [.slice (some ad) n c, .pointer (some bt), .pointer (some bl)]) Tryz.func191 rfl rfl (by simp) ?_;refine sr ?_;refine bR hh ?_;intro b4 w4 hh;refine aa (sr (mL (aJ ?_)));refine dT (aI (aa (sr ?_)));refine bR hh ?_;intro b6 w6 hh;refine wh ?_;refine aP [7, 8, 14, 15, 16, 17, 18, 19, 20, 21, 22, 23, 24, 25, 26, 27, 28, 29, 30, 31, 32, 33] 14
  (fun v w' => ∃ i : Nat, i ≤ n ∧ v = .int .i64 i ∧ Hp w [.blk b6 65 [.bool (nR (lV d t xs i)).neg, .string (nR (lV d t xs i)).bo, .int .i64 (nR (lV d t xs i)).e] (0, 0), .blk b4 65 [.bool false, .string (ByteArray.mk #[]), .int .i64 0] (0, 0)] w')
  (fun v _ => n - (intOf v).toNat) ?_ ?_
 ·exact ⟨0, Nat.zero_le _, rfl, hh⟩
 ·clear hh;rintro ρ' v w' ⟨i, hi, rfl, hh⟩;by_cases hlt : i < n
  ·obtain ⟨x, hxi⟩ := ao (l := xs) (k := i) Tx;have hxn : (xs.map nR)[i]? = some (nR x) := by rw [List.getElem?_map, hxi]; rfl
   have hat : jo xs i = x := by unfold jo; rw [hxi]; rfl
   have zx := hx x (List.mem_of_getElem? hxi);have hpa := hpw tn t vt i Tx;have hpb := hpw (nR (1 - t)) (1 - t) (Nr.of ht1 hq) (d - i) Tx;have zp := ht.AL (show i ≤ d by omega);have zq := ht1.AL (show d - i ≤ d by omega);have zo := ya (d := d) (i := i) hx ht ht1 Tx;have zy := (zx.mul zp).mul zq;have hst := Gi d t xs i;unfold kA at hst;rw [hat, ← Dyadic.mul_assoc] at hst;have hm3 := fun A cc w1 hT1 hS1 => ew A 3 cc [nR x, nR (t ^ i), nR ((1 - t) ^ (d - i))] w1 hT1 hS1 (by simpa using ⟨zx.ok Tx, zp.ok Tx, zq.ok Tx⟩) 600000 (by simpa [cf] using ⟨zx.mono Tx, zp.mono Tx, zq.mono Tx⟩) Tx Tx;rw [show ic ([nR x, nR (t ^ i), nR ((1 - t) ^ (d - i))].map NR.d) = x * t ^ i * (1 - t) ^ (d - i) by simp only [List.map_cons, List.map_nil, cf]; show 1 * x * _ * _ = _; rw [Dyadic.one_mul]] at hm3;generalize x * t ^ i * (1 - t) ^ (d - i) = y at *;have hsum := fun A cc w1 hT1 hS1 => gL A 2 cc [nR (lV d t xs i), nR y] w1 hT1 hS1 (by simpa using ⟨zo.ok Tx, zy.ok Tx⟩) 2000000 (by simpa [cf] using ⟨zo.mono Tx, zy.mono Tx⟩) Tx;rw [show md ([nR (lV d t xs i), nR y].map NR.d) = lV d t xs i + y by simp only [List.map_cons, List.map_nil, cf, jU], ← hst] at hsum;generalize hS2 : lV d t xs (i + 1) = S2 at *
   generalize lV d t xs i = S1 at *;have e27 : (n : Int) - 1 - (i : Int) = ((d - i : Nat) : Int) := Tx;refine sr ?_;refine dZ ?_;refine uR ?_;refine JQ ?_;refine bR hh ?_;intro b8 w8 hh;refine aI ?_;refine bW hh 0 [_,_,_] ?_;intro ws hh;replace hh : Hp _ (.blk _ _ [_, _, _] _ :: _) _ := hh;refine aa ?_;rw [← e27] at hpb;refine aY 12 [[(6, none)], [(8, none)], [(1, none)], [(7, none)], [(21, some 2), (22, some 3)], [(2, none)], [(5, none)], [(7, none)], [(25, some 6), (26, some 7)], [(24, some 5), (27, some 8)], [(20, some 1), (23, some 4), (28, some 9)], [(29, some 10)]] [(11, 30), (10, 29), (9, 28), (8, 27), (7, 26), (6, 25), (5, 24), (4, 23), (3, 22), (2, 21), (1, 20), (0, 19)] hh mixed Tz ?_;refine fT 1 [_,_,_] ?_;refine fT 0 [_,_,_] ?_;refine pE [_,_,_] (fun _ hj => hb1.ext hj.hp.below) ?_;refine dE ?_;refine dC (fun _ hj => hpa _ (hT.hp hj.hp)) ?_;refine pE [_,_,_] (fun _ hj => hb2.ext hj.hp.below) ?_;refine dE ?_;refine dE ?_;refine uX ?_;refine dC (fun _ hj => hpb _ (hT.hp hj.hp)) ?_;refine sC [_,_,_,_,_,_,_,_,_] ?_;refine aR (i := 11) (Is (.agg #[.bool (nR y).neg, .string (nR y).bo, .int .i64 (nR y).e])) Is.ext ?_ ?_
   ·intro ρ1 w1 hj hR;obtain ⟨A29, c29, h29, s29⟩ := hR.1;exact a8 rfl (aM ak.out (aw h29 aX)) (hm3 A29 c29 _ (hT.hp hj.hp) s29) (fun _ _ hq => ⟨_, hq.1, hq.2, rfl⟩)
   refine aT ?_;intro f W hJ hV;have hb_6 := hJ.bl;obtain ⟨v30, v29, v28, v27, v26, v25, v24, v23, v22, v21, v20, v19, _⟩ := hV;obtain ⟨A29, c29, e29, f29⟩ : Rows _ _ _ (f 10) W := v29;replace hh := hJ.hp;refine a6 (bm (ae v30 (ae e29 (ae v28 (ae v27 (ae v26 (ae v25 (ae v24 (ae v23 (ae v22 (ae v21 (ae v20 (ae v19 a0))))))))))))) ?_;dsimp only [cg];clear e29 hJ;refine wg ?_;intro b31 w31 hh;refine bz hh (hsum _ _ _ (hT.hp hh) (hh.aC (i := 0) rfl)) rfl ?_;intro w32 hh;refine bW hh 2 [_,_,_] ?_;intro ws hh;replace hh : Hp _ (_ :: _ :: .blk _ _ [_, _, _] _ :: _) _ := hh;refine fL ?_;refine bh (mI (aA (ai ?_)));replace hh := hh.sub (List.Sublist.cons _ (List.Sublist.cons _ (List.Sublist.cons_cons _ (List.Sublist.cons_cons _ List.Sublist.slnil))));refine ⟨⟨i + 1, Tx, rfl, by rw [hS2]; exact hh⟩, by show n - (i + 1) < n - i; omega, ?_⟩;exact dL
  ·obtain rfl : i = n := Tx;rw [show i = d + 1 from hn] at hh;refine sr ?_;refine mu ?_;refine cD hh 0 [_,_,_] ?_;exact Og
theorem xK (tn : NR) (t : Dyadic) (q : Nat) (w : World) (hT : ee w) (vt : Nr q tn t) (hq : q ≤ 2000) :
  Calls Tryz.prog 125 #[.agg #[.bool tn.neg, .string tn.bo, .int .i64 tn.e]] w fun r w' => ∃ b1 b3, r = .returned (.func (.func 191) #[] #[.pointer (some ⟨b1, 0, none⟩), .pointer (some ⟨b3, 0, none⟩)]) ∧ Hp w [.blk b3 65 [.bool (nR (1 - t)).neg, .string (nR (1 - t)).bo, .int .i64 (nR (1 - t)).e] (0, 0), .blk b1 65 [.bool tn.neg, .string tn.bo, .int .i64 tn.e] (0, 0)] w' := by
 have hh := Hp.start w;have hof : ∀ w1, ee w1 → Calls Tryz.prog 50 #[.int .i64 1] w1 fun r w' => r = .returned (.agg #[.bool (nR (1 : Dyadic)).neg, .string (nR (1 : Dyadic)).bo, .int .i64 (nR (1 : Dyadic)).e]) ∧ Below w1.heap.size w1 w' := fun w1 hT1 => kS 1 w1 hT1 Ty Ty;have hsb := fun w1 hT1 => lG (nR (1 : Dyadic)) tn w1 hT1 (Sz.one.ok Tx) vt.ok (q + 1) (by rw [cf]; exact Sz.one.mono Tx) (by rw [vt.d]; exact vt.sz.mono Tx) Tx;simp only [cf, vt.d] at hsb;refine aj (N := 8) (l := [.agg #[.bool tn.neg, .string tn.bo, .int .i64 tn.e]]) Tryz.func125 rfl rfl (by simp) ?_;refine sr ?_;refine cx hh [_,_,_] ?_;intro b1 w1 hh;refine j1 (by first | exact sj rfl | exact su rfl) Ty ?_;refine aa (ah ?_);refine aY 4 [[], [(1, none)], [(4, some 0), (5, some 1)], []] [(3, 3), (2, 6), (1, 5), (0, 4)] hh mixed Tz ?_;refine dC (fun _ hj => hof _ (hT.hp hj.hp)) ?_;refine fT 0 [_,_,_] ?_;refine dC (fun _ hj => hsb _ (hT.hp hj.hp)) ?_;refine aR (i := 3) (dr _ 65 _) dr.ext (fun ρ1 w1 hj hR => jV aN.out hj.bl (fun v w2 h hb => ⟨hb, h⟩)) ?_;refine aT ?_;intro f W hJ hV;have hb_1 := hJ.bl;obtain ⟨v3, v6, v5, v4, _⟩ := hV;obtain ⟨b3, e3, hl3, hc3⟩ : dr _ _ _ (f 3) W := v3;replace hh := hJ.newVar hh hl3 hc3
 refine a6 (bm (ae e3 (ae v6 (ae v5 (ae v4 a0))))) ?_;dsimp only [cg];clear e3 hJ;refine bW hh 0 [_,_,_] ?_;intro ws hh;replace hh : Hp _ (.blk _ _ [_, _, _] _ :: _) _ := hh;refine aa (sr ?_);exact Rp
theorem Sl.part {w : World} {ad : Addr} {n : Nat} {l : List NR} (h : Sl w (some ad) n 3 (az NR.cells l)) (p m : Nat) (hpm : p + m ≤ n) (hm : 0 < m) : Sl w (some (ad.add (p * 3))) m 3 (az NR.cells ((l.drop p).take m)) := by
 have hl := h.bk NR.len Ty;obtain ⟨ad', e, r⟩ := h.2 Tx;obtain rfl : ad = ad' := Option.some.inj e;refine ⟨by rw [eF NR.len, List.length_take, List.length_drop, hl, Nat.min_eq_left Tx], fun _ => ⟨_, rfl, fun j u hu => ?_⟩⟩;rw [lz];refine r (p * 3 + j) u ?_;rw [← kR NR.len, ← jF NR.len, List.getElem?_take] at hu;split at hu
 ·rw [List.getElem?_drop] at hu;exact hu
 ·cases hu
def mH (K q : Nat) (X : List Dyadic) : List Dyadic := (X.drop (q * K)).take K
theorem wF (K q : Nat) (X : List Dyadic) : ((X.map nR).drop (q * K)).take K = (mH K q X).map nR := by unfold mH; rw [List.map_take, List.map_drop]
theorem p8 {K q : Nat} {X : List Dyadic} {x : Dyadic} (h : x ∈ mH K q X) : x ∈ X := List.mem_of_mem_drop (List.mem_of_mem_take h)
theorem vK {d q : Nat} (t : Dyadic) (X : List Dyadic) : lV d t (mH (d + 1) q X) (d + 1) = sm (List.range (d + 1)) fun r => (X[r + (d + 1) * q]?).getD 0 * kA d r t := by
 unfold lV;refine bE fun r hr => ?_;have hr := List.mem_range.1 hr;unfold jo mH;rw [List.getElem?_take, if_pos hr, List.getElem?_drop, show q * (d + 1) + r = r + (d + 1) * q by rw [Nat.mul_comm]; omega]
theorem Hh {d m q : Nat} (t : Dyadic) (X : List Dyadic) (h : q < m) : (kT d t m X)[q]? = some (lV d t (mH (d + 1) q X) (d + 1)) := by
 unfold kT;rw [List.getElem?_map, List.getElem?_range h, vK]
 rfl
theorem HJ {d m k q : Nat} {t : Dyadic} {X : List Dyadic} (hx : ∀ x ∈ X, Sz k x) (ht : Sz q t) (ht1 : Sz q (1 - t)) : ∀ x ∈ kT d t m X, Sz (k + (2 + 2 * (q * d)) + (d + 1)) x := fun x h => by
 obtain ⟨p, _, rfl⟩ := List.mem_map.1 h;rw [← vK];exact ya (fun y hy => hx y (p8 hy)) ht ht1 (Nat.le_refl _)
theorem Dm {ns : List Nat} {ts : List Dyadic} {i d : Nat} {t : Dyadic} (X : List Dyadic) (hd : ns[i]? = some d) (ht : ts[i]? = some t) : nQ (ns.take (i + 1)).reverse (ts.take (i + 1)).reverse X = nQ (ns.take i).reverse (ts.take i).reverse (kT d t (au (ns.take i)) X) := by
 rw [ay hd, ay ht, List.reverse_append, List.reverse_append];show nQ (d :: (ns.take i).reverse) (t :: (ts.take i).reverse) X = _;rw [nQ, cz]
def G1 (fx : FX) (m : Nat) : Int := if fx.e ≠ 0 then fx.e else if m ≠ fx.n then 1 else 0
def Mq (fx : FX) (tn : List NR) : Dyadic := if G1 fx tn.length = 0 then fI fx.ns.reverse (fx.cs.map NR.d) (tn.map NR.d).reverse else 0
section
variable {P : Program} {N : Nat} {Q : Kq} {ρ : Rf} {w : World} {ro : Option Nat} {D : List Deferred}
structure WR (ro : Option Nat) (D : List Deferred) (P : Program) (N : Nat) (ops : Array Oper) (Q : Kq) (fuel : Nat) (L : Array Bool) (ρ : Rf) (w : World) : Prop where
 out : ∀ a, eh N D a ρ → ∀ n, wpAnyIn (FW ro) n P .any ops (du N D Q) fuel L a w
theorem xC {F : Fence} {n : Nat} {o : Oper} {a : Act} {next : Rf → World → Prop} {K : Act → World → Prop} {r : Result Next} (h : o.uponIn F n P a K (du N D (cv next Q)) r) : o.uponIn F n P a K (du N D Q) r := by
 have hp : ∀ c a w, du N D (cv next Q) (.panic c) a w → du N D Q (.panic c) a w := fun _ _ _ h => h;have ho : LetsOut (du N D (cv next Q)) → LetsOut (du N D Q) := fun ⟨a, w, h⟩ => ⟨a, w, h⟩
 cases r with
 | ok n w' =>
  cases n <;> simp only [Oper.uponIn] at h ⊢ <;> first
   | exact h
   | exact ⟨h.1, CallsIn.mono h.2 (fun e w'' he => by cases e <;> first | exact he | exact hp _ _ _ he | exact ho he)⟩
   | exact ⟨h.1, RoundIn.mono h.2 (fun e w'' he => by cases e <;> first | exact he | exact hp _ _ _ he | exact ho he)⟩
 | halt x w' => cases x <;> simp only [Oper.uponIn] at h ⊢ <;> first | exact h | exact hp _ _ _ h | exact ho h
theorem yJ {ops : Array Oper} {fuel : Nat} {L : Array Bool} {rs : List Nat} (hr : Region.ready .any ops L = rs) (hne : rs ≠ [])
  (h : ∀ i ∈ rs, ∃ o, ops[i]? = some o ∧ WL ⟨ro, D, true⟩ P N ops (cv (fun ρ w => WR ro D P N ops Q fuel (L.setIfInBounds i true) ρ w) Q) [o] ρ w) : WR ro D P N ops Q (fuel + 1) L ρ w := by
 refine ⟨fun a hf n => ⟨fun e => absurd (hr.symm.trans e) hne, fun i hi => ?_⟩⟩;rw [hr] at hi;obtain ⟨o, ho, hw⟩ := h i hi;have h1 := hw.jy a hf n;have hK : ∀ a w, wpListIn (FW ro) n P ops (du N D (cv (fun ρ w => WR ro D P N ops Q fuel (L.setIfInBounds i true) ρ w) Q)) [] a w → wpAnyIn (FW ro) n P .any ops (du N D Q) fuel (L.setIfInBounds i true) a w := fun a w ⟨ρ', hf', hq⟩ => by
  have hq' : WR ro D P N ops Q fuel (L.setIfInBounds i true) ρ' w := hq;exact hq'.out a hf' n
 unfold wpOpIn;rw [ho];simp only [];unfold wpListIn at h1;split at h1
 ·rename_i hwt;rw [if_pos hwt];have h2 := Oper.wpIn_mono hK h1;unfold Oper.wpIn at h2 ⊢;exact ⟨h2.1, xC h2.2⟩
 ·rename_i hwt;rw [if_neg hwt];exact ⟨h1.1, hK _ _ h1.2⟩
theorem OQ {ops : Array Oper} {fuel : Nat} {L : Array Bool} (hr : Region.ready .any ops L = []) (h : Q .normal ρ w) : WR ro D P N ops Q fuel L ρ w :=
 ⟨fun a hf n => by
  cases fuel with
  | zero => exact ⟨hr, ρ, hf, h⟩
  | succ fuel => exact ⟨fun _ => ⟨ρ, hf, h⟩, fun i hi => by rw [hr] at hi; cases hi⟩⟩
theorem Jl {id : Nat} {l : List Oper} {w0 : World} {H : List HE} (hh : Hp w0 H w) (hm : P.follows .mixedOrders = true) (h : ∀ w', JJ w0 H w w' → WR ro D P N l.toArray Q l.length (Array.replicate l.length false) ρ w') : WC ⟨ro, D, true⟩ P N (.region id l.toArray true) Q ρ w := by
 refine ⟨fun h => (by cases h), fun a hf n => wpIn_region_any hm ?_⟩;have hb : Below w.heap.size w ({ w with drawn := w.drawn + 1 } : World) := ⟨rfl, rfl, rfl, Nat.le_refl _, fun _ _ => rfl⟩;have := (h _ ((JJ.start hh).ext hb)).out a hf n;simpa using this
theorem yz {F : Fence} {n : Nat} {o : Oper} {a : Act} {K : Act → World → Prop} {Q1 Q2 : Exit → Act → World → Prop} {r : Result Next} (hq : ∀ e a w, Q1 e a w → Q2 e a w) (h : o.uponIn F n P a K Q1 r) : o.uponIn F n P a K Q2 r := by
 have ho : LetsOut Q1 → LetsOut Q2 := fun ⟨a, w, h⟩ => ⟨a, w, hq _ _ _ h⟩
 cases r with
 | ok n w' =>
  cases n <;> simp only [Oper.uponIn] at h ⊢ <;> first
   | exact h
   | exact ⟨h.1, CallsIn.mono h.2 (fun e w'' he => by cases e <;> first | exact he | exact hq _ _ _ he | exact ho he)⟩
   | exact ⟨h.1, RoundIn.mono h.2 (fun e w'' he => by cases e <;> first | exact he | exact hq _ _ _ he | exact ho he)⟩
 | halt x w' => cases x <;> simp only [Oper.uponIn] at h ⊢ <;> first | exact h | exact hq _ _ _ h | exact ho h
theorem qg {ops : Array Oper} {o : Oper} {A B : Rf → World → Prop} (h : WL ⟨ro, D, true⟩ P N ops (cv A pX) [o] ρ w) (hi : ∀ ρ w, A ρ w → B ρ w) : WL ⟨ro, D, true⟩ P N ops (cv B Q) [o] ρ w := by
 refine ⟨fun h => (by cases h), fun a hf n => ?_⟩;have h1 := h.jy a hf n;have hq : ∀ e a w, du N D (cv A pX) e a w → du N D (cv B Q) e a w := fun e a w ⟨ρ', hf', hk⟩ => ⟨ρ', hf', by
  cases e with
  | normal => exact hi _ _ hk
  | _ => exact hk.elim⟩
 unfold wpListIn at h1 ⊢;split at h1
 ·rename_i hwt;rw [if_pos hwt];have h2 := Oper.wpIn_mono (K' := wpListIn (FW ro) n P ops (du N D (cv B Q)) []) (fun a w h => hq .normal a w h) h1;unfold Oper.wpIn at h2 ⊢;exact ⟨h2.1, yz hq h2.2⟩
 ·rename_i hwt;rw [if_neg hwt];exact ⟨h1.1, hq .normal _ _ h1.2⟩
theorem H8 {ops : Array Oper} {o0 o1 o2 o3 o4 o5 o6 : Oper} {I : Bool → Bool → Bool → Bool → Bool → Rf → World → Prop} {J K : Rf → World → Prop}
  (e0 : ops[0]? = some o0) (e1 : ops[1]? = some o1) (e2 : ops[2]? = some o2) (e3 : ops[3]? = some o3) (e4 : ops[4]? = some o4) (e5 : ops[5]? = some o5) (e6 : ops[6]? = some o6)
  (r0 : Region.ready .any ops #[false, false, false, false, false, false, false] = [0, 1, 2])
  (r1 : Region.ready .any ops #[false, true, false, false, false, false, false] = [0, 2])
  (r2 : Region.ready .any ops #[false, false, true, false, false, false, false] = [0, 1])
  (r3 : Region.ready .any ops #[false, true, true, false, false, false, false] = [0, 3])
  (r4 : Region.ready .any ops #[false, true, true, true, false, false, false] = [0, 4])
  (r5 : Region.ready .any ops #[false, true, true, true, true, false, false] = [0])
  (q0 : Region.ready .any ops #[true, false, false, false, false, false, false] = [1, 2])
  (q1 : Region.ready .any ops #[true, true, false, false, false, false, false] = [2])
  (q2 : Region.ready .any ops #[true, false, true, false, false, false, false] = [1])
  (q3 : Region.ready .any ops #[true, true, true, false, false, false, false] = [3])
  (q4 : Region.ready .any ops #[true, true, true, true, false, false, false] = [4])
  (q5 : Region.ready .any ops #[true, true, true, true, true, false, false] = [5])
  (q6 : Region.ready .any ops #[true, true, true, true, true, true, false] = [6])
  (q7 : Region.ready .any ops #[true, true, true, true, true, true, true] = [])
  (s0 : ∀ a b e g ρ w, I false a b e g ρ w → WL ⟨ro, D, true⟩ P N ops (cv (fun ρ w => I true a b e g ρ w) pX) [o0] ρ w)
  (s1 : ∀ c b ρ w, I c false b false false ρ w → WL ⟨ro, D, true⟩ P N ops (cv (fun ρ w => I c true b false false ρ w) pX) [o1] ρ w)
  (s2 : ∀ c a ρ w, I c a false false false ρ w → WL ⟨ro, D, true⟩ P N ops (cv (fun ρ w => I c a true false false ρ w) pX) [o2] ρ w)
  (s3 : ∀ c ρ w, I c true true false false ρ w → WL ⟨ro, D, true⟩ P N ops (cv (fun ρ w => I c true true true false ρ w) pX) [o3] ρ w)
  (s4 : ∀ c ρ w, I c true true true false ρ w → WL ⟨ro, D, true⟩ P N ops (cv (fun ρ w => I c true true true true ρ w) pX) [o4] ρ w)
  (s5 : ∀ ρ w, I true true true true true ρ w → WL ⟨ro, D, true⟩ P N ops (cv J pX) [o5] ρ w)
  (s6 : ∀ ρ w, J ρ w → WL ⟨ro, D, true⟩ P N ops (cv K pX) [o6] ρ w)
  (fin : ∀ ρ w, K ρ w → Q .normal ρ w) (st : I false false false false false ρ w) : WR ro D P N ops Q 7 #[false, false, false, false, false, false, false] ρ w := by
 have one : ∀ {fuel : Nat} {L : Array Bool} {i : Nat} {o : Oper} {ρ : Rf} {w : World} {A : Rf → World → Prop}, Region.ready .any ops L = [i] → ops[i]? = some o → WL ⟨ro, D, true⟩ P N ops (cv A pX) [o] ρ w → (∀ ρ w, A ρ w → WR ro D P N ops Q fuel (L.setIfInBounds i true) ρ w) → WR ro D P N ops Q (fuel + 1) L ρ w := fun hr ho h hi =>
  yJ hr (by simp) fun j hj => by
   obtain rfl := List.mem_singleton.1 hj;exact ⟨_, ho, qg h hi⟩
 have two : ∀ {fuel : Nat} {L : Array Bool} {i j : Nat} {o p : Oper} {ρ : Rf} {w : World} {A B : Rf → World → Prop}, Region.ready .any ops L = [i, j] → ops[i]? = some o → ops[j]? = some p → WL ⟨ro, D, true⟩ P N ops (cv A pX) [o] ρ w → (∀ ρ w, A ρ w → WR ro D P N ops Q fuel (L.setIfInBounds i true) ρ w) → WL ⟨ro, D, true⟩ P N ops (cv B pX) [p] ρ w → (∀ ρ w, B ρ w → WR ro D P N ops Q fuel (L.setIfInBounds j true) ρ w) → WR ro D P N ops Q (fuel + 1) L ρ w := fun hr ho hp h hi h2 hi2 =>
  yJ hr (by simp) fun k hk => by
   rcases List.mem_cons.1 hk with rfl | hk
   ·exact ⟨_, ho, qg h hi⟩
   ·obtain rfl := List.mem_singleton.1 hk;exact ⟨_, hp, qg h2 hi2⟩
 have n7 : ∀ ρ w, K ρ w → WR ro D P N ops Q 0 #[true, true, true, true, true, true, true] ρ w := fun ρ w h => OQ q7 (fin ρ w h);have n6 : ∀ ρ w, J ρ w → WR ro D P N ops Q 1 #[true, true, true, true, true, true, false] ρ w := fun ρ w h => one q6 e6 (s6 ρ w h) n7;have n5 : ∀ ρ w, I true true true true true ρ w → WR ro D P N ops Q 2 #[true, true, true, true, true, false, false] ρ w := fun ρ w h => one q5 e5 (s5 ρ w h) n6;have n4 : ∀ ρ w, I true true true true false ρ w → WR ro D P N ops Q 3 #[true, true, true, true, false, false, false] ρ w := fun ρ w h => one q4 e4 (s4 true ρ w h) n5;have m5 : ∀ ρ w, I false true true true true ρ w → WR ro D P N ops Q 3 #[false, true, true, true, true, false, false] ρ w := fun ρ w h => one r5 e0 (s0 _ _ _ _ ρ w h) n5;have m4 : ∀ ρ w, I false true true true false ρ w → WR ro D P N ops Q 4 #[false, true, true, true, false, false, false] ρ w := fun ρ w h => two r4 e0 e4 (s0 _ _ _ _ ρ w h) n4 (s4 false ρ w h) m5;have n3 : ∀ ρ w, I true true true false false ρ w → WR ro D P N ops Q 4 #[true, true, true, false, false, false, false] ρ w := fun ρ w h => one q3 e3 (s3 true ρ w h) n4
 have m3 : ∀ ρ w, I false true true false false ρ w → WR ro D P N ops Q 5 #[false, true, true, false, false, false, false] ρ w := fun ρ w h => two r3 e0 e3 (s0 _ _ _ _ ρ w h) n3 (s3 false ρ w h) m4;have n1 : ∀ ρ w, I true true false false false ρ w → WR ro D P N ops Q 5 #[true, true, false, false, false, false, false] ρ w := fun ρ w h => one q1 e2 (s2 true true ρ w h) n3;have n2 : ∀ ρ w, I true false true false false ρ w → WR ro D P N ops Q 5 #[true, false, true, false, false, false, false] ρ w := fun ρ w h => one q2 e1 (s1 true true ρ w h) n3;have m1 : ∀ ρ w, I false true false false false ρ w → WR ro D P N ops Q 6 #[false, true, false, false, false, false, false] ρ w := fun ρ w h => two r1 e0 e2 (s0 _ _ _ _ ρ w h) n1 (s2 false true ρ w h) m3;have m2 : ∀ ρ w, I false false true false false ρ w → WR ro D P N ops Q 6 #[false, false, true, false, false, false, false] ρ w := fun ρ w h => two r2 e0 e1 (s0 _ _ _ _ ρ w h) n2 (s1 false true ρ w h) m3;have n0 : ∀ ρ w, I true false false false false ρ w → WR ro D P N ops Q 6 #[true, false, false, false, false, false, false] ρ w := fun ρ w h => two q0 e1 e2 (s1 true false ρ w h) n1 (s2 true false ρ w h) n2
 refine yJ r0 (by simp) fun k hk => ?_
 rcases List.mem_cons.1 hk with rfl | hk
 ·exact ⟨_, e0, qg (s0 _ _ _ _ ρ w st) n0⟩
 ·rcases List.mem_cons.1 hk with rfl | hk
  ·exact ⟨_, e1, qg (s1 false false ρ w st) m1⟩
  ·obtain rfl := List.mem_singleton.1 hk;exact ⟨_, e2, qg (s2 false false ρ w st) m2⟩
end
instance : aN Tryz.prog 148 1 false 8 [.nilFunc] := {}
theorem Bd (fx : FX) (L : Option Addr) (m2 c2 : Nat) (tn : List NR) (k q G : Nat) (w : World) (hT : ee w) (hf : fx.at_ w) (hl : fx.kO k) (hcap : fx.m ≤ fx.b) (hS : Sl w L m2 3 (az NR.cells tn)) (hv : ∀ s ∈ tn, Nr q s s.d ∧ Sz q (1 - s.d)) (hq : q ≤ 2000)
  (hG : fx.e = 0 → ∀ d ∈ fx.ns, 2 + 2 * (q * d) + (d + 1) ≤ G) (hk : k + fx.n * G ≤ 500000) :
  Calls Tryz.prog 39 #[.agg #[.slice fx.A fx.n fx.a, .slice fx.B fx.m fx.b], .slice L m2 c2] w fun r w' => r = .returned (.tuple #[.agg #[.bool (nR (Mq fx tn)).neg, .string (nR (Mq fx tn)).bo, .int .i64 (nR (Mq fx tn)).e], .int .i64 (G1 fx m2)]) ∧ Below w.heap.size w w' := by
 have hh := Hp.start w;have hck := fun w1 hT1 hb => xA fx k w1 hT1 (hf.ext hb) hl;have hlt := hS.bk NR.len Ty;have hev0 : G1 fx m2 ≠ 0 → Mq fx tn = 0 := fun h => by unfold Mq; rw [hlt, if_neg h]
 by_cases h0 : fx.e = 0
 ·by_cases h1 : m2 = fx.n
  ·have hE : G1 fx m2 = 0 := by unfold G1; rw [if_neg Tx, if_neg Tx]
   have hV : Mq fx tn = fI fx.ns.reverse (fx.cs.map NR.d) (tn.map NR.d).reverse := by unfold Mq; rw [hlt, hE, if_pos rfl]
   rw [hE, hV];obtain ⟨hdeg, hnum, h12, hlow, hcnt, hmax⟩ := FX.fv h0;have hln : fx.ds.length = fx.n := hf.ln.1;have hlm := hf.ln.2;have hnl : fx.ns.length = fx.n := by unfold FX.ns; rw [List.length_map]; exact hln
   have hm : fx.m = au fx.ns := by rw [← hlm, hcnt]
   have hdg : Sl w fx.A fx.n 1 (bF (bH fx.ns)) := by rw [← hdeg]; exact hf.dg
   have hxz : ∀ x ∈ fx.cs.map NR.d, Sz k x := fun x h => by
    obtain ⟨c, hc, rfl⟩ := List.mem_map.1 h;exact (hl.num c hc).2
   have hxl : (fx.cs.map NR.d).length = au fx.ns := by rw [List.length_map, hcnt]
   have hval := vy fx.ns.reverse (tn.map NR.d).reverse (fx.cs.map NR.d) (by rw [List.length_reverse, List.length_reverse, List.length_map]; omega) (by rw [hxl, cz]);have hnm : Sl w fx.B (au fx.ns) 3 (az NR.cells ((fx.cs.map NR.d).map nR)) := by rw [← hm, ← hnum]; exact hf.nm
   have hG := hG h0;rw [hm] at hcap;refine Ib ?_;refine jq fun D_ => ?_;refine al ?_;refine cx hh [_,_] ?_;intro b2 w2 hh;refine bR hh ?_;intro b4 w4 hh;refine aI (aa ?_);refine jq fun D_ => ?_;refine sr ?_;refine cD hh 1 [_,_] ?_;refine fG ?_;intro w13 hh;refine aI (aa (sr (mI ?_)));refine cK (aa (cF (ar (ai ?_))));refine jq fun D_ => ?_;refine sr (mL (aJ (bD ?_)));refine bB hh 1 ?_;refine aJ ?_;refine cK (aa (cF (ar (ai ?_))));refine jq fun D_ => ?_;refine al (bD ?_);refine bB hh 1 ?_;refine aL (aa ?_);refine ye ?_;refine jq fun D_ => ?_;refine al (mL (aJ ?_));refine dT (aI (aa ?_));rw [hm];have hst : ∀ (H : List HE) (w1 : World), Hp w (H ++ []) w1 → Sl w1 fx.B (au fx.ns) 3 (az NR.cells ((fx.cs.map NR.d).map nR)) := fun H w1 h => hnm.ext h.below;generalize fx.cs.map NR.d = xs at *;refine uS (JX [7, 8, 9, 10, 11, 30, 31, 32, 33, 34, 35, 36, 37, 38, 39, 40, 41, 42, 43, 44, 45, 46, 47, 48, 49, 50, 51, 52, 53, 54] 7 8
    (fun M v7 v8 w' => ∃ (j : Nat) (z : Int) (X : List Dyadic) (A : Option Addr) (a : Nat) (R : List HE), j ≤ fx.n ∧ v8 = .int .i64 z ∧ z = (j : Int) - 1 ∧ v7 = .slice A (au (fx.ns.take j)) a ∧ au (fx.ns.take j) ≤ a ∧ X.length = au (fx.ns.take j) ∧ (∀ x ∈ X, Sz (k + (fx.n - j) * G) x) ∧ nQ (fx.ns.take j).reverse ((tn.map NR.d).take j).reverse X = nQ fx.ns.reverse (tn.map NR.d).reverse xs ∧ (∀ x ∈ R, x.P3 = true) ∧ (∀ (H : List HE) (w1 : World), Hp w (H ++ R) w1 → Sl w1 A (au (fx.ns.take j)) 3 (az NR.cells (X.map nR))) ∧ Hp w (.blk b4 65 [.bool false, .string (ByteArray.mk #[]), .int .i64 0] (0, 0) :: .blk b2 39 [.slice fx.A fx.n fx.a, .slice fx.B fx.m fx.b] (0, 0) :: (R ++ oN M)) w')
    (fun _ v _ => (intOf v + 1).toNat) ?_ ?_)
   ·refine ⟨fx.n, _, xs, _, _, [], Nat.le_refl _, rfl, Tx, by rw [List.take_of_length_le Tx]; rfl, by rw [List.take_of_length_le Tx]; exact hcap, by rw [List.take_of_length_le Tx]; exact hxl, fun x h => (hxz x h).mono Tx, by rw [List.take_of_length_le Tx, List.take_of_length_le (by rw [List.length_map]; omega)], fun x h => (by cases h), by rw [List.take_of_length_le Tx]; exact hst, hh⟩
   ·clear hh hst;rintro M ρ' v7 v8 w' ⟨j, z, X, A, a, R, hj, rfl, hz, rfl, hca, hXl, hXz, hXe, hcR, hrd, hh⟩;by_cases hj0 : j = 0
    ·subst hj0;obtain rfl : z = -1 := Tx;have hX : X = [fI fx.ns.reverse xs (tn.map NR.d).reverse] := by
      rw [← hval, ← hXe];simp [nQ]
     subst hX;have hh1 : Hp w ([_, _] ++ R) w' := hh.sub (.cons_cons _ (.cons_cons _ (List.sublist_append_left R _)));have hsl := hrd _ _ hh1;rw [List.take_zero] at hsl;obtain ⟨ac, rfl, sc⟩ := hsl.at_ (show 0 < au [] by decide);have hx0 : ([fI fx.ns.reverse xs (tn.map NR.d).reverse].map nR)[0]? = some (nR (fI fx.ns.reverse xs (tn.map NR.d).reverse)) := rfl;generalize fI fx.ns.reverse xs (tn.map NR.d).reverse = V at *;rw [List.take_zero];refine jq fun D_ => ?_;refine sr (mI ?_);refine dR (aa (cF (aZ (aD ?_))));refine Kv ?_;refine jq fun D_ => ?_;refine al (mL ?_);refine cZ (k := 0) bg.out aN.size rfl rfl Tx (show 0 < au [] by decide) Ty ?_;refine ct (vs := [_, _, _]) aN.out rfl (sc.recAt NR.len hx0) rfl Ty ?_;refine bW hh 0 [_,_,_] ?_;intro ws hh;replace hh : Hp _ (.blk _ _ [_, _, _] _ :: _) _ := hh;refine aI (aa ?_);refine DR fun D_ => ?_;refine av ?_;refine qk (M := M) (vs := [.agg #[.bool (nR V).neg, .string (nR V).bo, .int .i64 (nR V).e], .int .i64 0]) (hh.perm (List.perm_append_comm (l₁ := _ :: _ :: R))) (.inr rfl) rfl ?_;exact O0
    ·obtain ⟨i, rfl⟩ : ∃ i, j = i + 1 := ⟨j - 1, Tx⟩;obtain rfl : z = (i : Int) := Tx;obtain ⟨tq, htq⟩ := ao (l := tn) (k := i) Tx;obtain ⟨vt, ht1⟩ := hv tq (List.mem_of_getElem? htq);obtain ⟨d, hd⟩ := ao (l := fx.ns) (k := i) Tx;have hmd := List.mem_of_getElem? hd;have hdl := hlow d hmd;have hGd := hG d hmd;have hgd := cj (iX hd);obtain ⟨adL, rfl, sL⟩ := hS.at_ Tx;obtain ⟨adD, hAD, sD⟩ := hdg.at_ Tx;have mb : Value.slice fx.A fx.n fx.a = .slice (some adD) fx.n fx.a := by rw [hAD]
     have hh1 : Hp w ([_, _] ++ R) w' := hh.sub (.cons_cons _ (.cons_cons _ (List.sublist_append_left R _)));obtain ⟨ac, rfl, -⟩ := (hrd _ _ hh1).at_ (cL _);clear hh1;have hcs : au (fx.ns.take (i + 1)) = au (fx.ns.take i) * (d + 1) := by rw [ay hd, dQ]; simp [au]
     have hct := jn fx.ns (i + 1);have hcp := cL (fx.ns.take i);have hc4 := jn fx.ns i;have hd1c : d + 1 ≤ au (fx.ns.take (i + 1)) := by rw [hcs]; exact Nat.le_mul_of_pos_left _ hcp
     have hKG : k + (fx.n - (i + 1)) * G + G = k + (fx.n - i) * G := by
      rw [show fx.n - i = fx.n - (i + 1) + 1 by omega, Nat.add_mul, Nat.one_mul];omega
     have hKle : k + (fx.n - (i + 1)) * G ≤ 500000 := by
      have := Nat.mul_le_mul_right G (show fx.n - (i + 1) ≤ fx.n by omega);omega
     have eD : (d : Int) + 1 = ((d + 1 : Nat) : Int) := Tx;refine jq fun D_ => ?_;refine sr (mI ?_);refine dR (aa (cT (ar (ai ?_))));refine ye (uS ?_);refine jq fun D_ => ?_;refine al (mL (mI ?_));refine cn ?_;refine ct (vs := [_, _, _]) aN.out rfl ((sL.ext hh.below).recAt NR.len htq) rfl Ty ?_;refine aE (xK tq tq.d q _ (hT.hp hh) vt hq) ak.out rfl Ty ?_;rintro e_ w38 ⟨b1, b3, rfl, h2⟩;refine ⟨_, rfl, ?_⟩;replace hh := hh.join h2;simp only [List.cons_append, List.nil_append] at hh;clear h2;refine bR hh ?_;intro b9 w9 hh;refine bW hh 0 [_] ?_;intro ws hh;replace hh : Hp _ (.blk _ _ [_] _ :: _) _ := hh;refine aa ?_;refine jq fun D_ => ?_;refine al ?_;refine bR hh ?_;intro b10 w10 hh;refine aa ?_;refine ye ?_;refine jq fun D_ => ?_;refine al (mL (bD ?_));refine bB hh 5 ?_;refine mI ?_;refine cZ (k := i) bg.out aN.size mb rfl Tx Tx Ty ?_;refine bT aN.out rfl ((sD.ext hh.below).xo hgd) Ty ?_;refine bh ?_;rw [eD];refine aE (yU (some ac) (au (fx.ns.take (i + 1))) a (d + 1) _ Tx) ak.out rfl Ty ?_;rintro e_ w46 ⟨c2, c1, rfl, h2⟩;refine ⟨_, rfl, ?_⟩;replace hh := hh.join h2;simp only [List.cons_append, List.nil_append] at hh;clear h2;replace hh := hh.perm (List.perm_middle (l₁ := [_, _]))
     simp only [List.cons_append, List.nil_append] at hh;replace hh := hh.db 65 3;refine aa ?_;have hmk := hh.Pg (M := M) (by repeat (first | exact List.sublist_append_right _ _ | apply List.Sublist.cons));have hmlt := hmk.lt;replace hh := hh.sub (H' := _ :: _ :: _ :: _ :: _ :: _ :: _ :: _ :: _ :: R) (by repeat (first | exact List.sublist_append_left _ _ | apply List.Sublist.cons_cons));have hc2 := hh.dX (i := 3) (o := 0) rfl rfl;have hc1 := hh.dX (i := 2) (o := 0) rfl rfl;have hseq := Gp c2 c1 ac (au (fx.ns.take (i + 1))) a (d + 1) (au (fx.ns.take i)) _ hc2 hc1 hcs Tx hca Tx Tx
     have hcel : ∀ (A1 : Option Addr) (n1 k1 : Nat) (cs vs : List Value), ∀ x ∈ (HE.row A1 n1 k1 65 3 cs :: .blk b10 37 vs (0, 0) :: .blk c1 3 [.int .i64 ((d + 1 : Nat) : Int)] (0, 0) :: .blk c2 37 [.slice (some ac) (au (fx.ns.take (i + 1))) a] (0, 0) :: .blk b9 148 [.func (.func 191) #[] #[.pointer (some ⟨b1, 0, none⟩), .pointer (some ⟨b3, 0, none⟩)]] (0, 0) :: .blk b3 65 [.bool (nR (1 - tq.d)).neg, .string (nR (1 - tq.d)).bo, .int .i64 (nR (1 - tq.d)).e] (0, 0) :: .blk b1 65 [.bool tq.neg, .string tq.bo, .int .i64 tq.e] (0, 0) :: .blk b4 65 [.bool false, .string (ByteArray.mk #[]), .int .i64 0] (0, 0) :: .blk b2 39 [.slice fx.A fx.n fx.a, .slice fx.B fx.m fx.b] (0, 0) :: R), x.P3 = true := fun A1 n1 k1 cs vs x hx => by
      simp only [List.mem_cons] at hx
      rcases hx with rfl | rfl | rfl | rfl | rfl | rfl | rfl | rfl | rfl | hx
      all_goals first | rfl | exact hcR x hx
     trace_state
     refine uS (GH (α := Fin (au (fx.ns.take i))) (enc := fun jj : Fin (au (fx.ns.take i)) => .slice (some (ac.add (jj.val * (d + 1) * 3))) (d + 1) (d + 1)) 11 Ty Ty rfl (enters_of Tryz.func192 Tz rfl) hseq Ms (fun W l o o' h _ _ _ => Mj (lh hc2) (lh hc1) W l o o' h)
      (fun bs W => ∃ (Y : List Dyadic) (A1 : Option Addr) (k1 : Nat), Y.length = bs.length ∧ (∀ y ∈ Y, Sz (k + (fx.n - i) * G) y) ∧ (bs = (List.finRange (au (fx.ns.take i))).take bs.length → Y = (kT d tq.d (au (fx.ns.take i)) X).take bs.length) ∧ Marks w M W ∧ Hp w (.row A1 bs.length k1 65 3 (az NR.cells (Y.map nR)) :: .blk b10 37 [.slice A1 bs.length k1] (0, 0) :: .blk c1 3 [.int .i64 ((d + 1 : Nat) : Int)] (0, 0) :: .blk c2 37 [.slice (some ac) (au (fx.ns.take (i + 1))) a] (0, 0) :: .blk b9 148 [.func (.func 191) #[] #[.pointer (some ⟨b1, 0, none⟩), .pointer (some ⟨b3, 0, none⟩)]] (0, 0) :: .blk b3 65 [.bool (nR (1 - tq.d)).neg, .string (nR (1 - tq.d)).bo, .int .i64 (nR (1 - tq.d)).e] (0, 0) :: .blk b1 65 [.bool tq.neg, .string tq.bo, .int .i64 tq.e] (0, 0) :: .blk b4 65 [.bool false, .string (ByteArray.mk #[]), .int .i64 0] (0, 0) :: .blk b2 39 [.slice fx.A fx.n fx.a, .slice fx.B fx.m fx.b] (0, 0) :: R) W)
      ?own ?zero ?asg ?body ?done)
     case own =>
      intro s W W' row ⟨Y, A1, k1, h1, h2, h3, h4, h5⟩ hg hr;exact ⟨Y, A1, k1, h1, h2, h3, h4.grown hmlt hg (fun r e => (hr r e).1), h5.PR (hcel _ _ _ _ _) hg fun r e => ⟨Nat.le_trans hh.size (hr r e).1, (hr r e).2⟩⟩
     case zero => exact ⟨[], none, 0, rfl, fun y h => (by cases h), fun _ => rfl, hmk, hh⟩
     case asg =>
      intro l x W;refine al (aL (aA ?_));exact ⟨rfl, rfl⟩
     case body =>
      rintro l bs qq W ⟨Y, A1, k1, hYl, hYz, hYe, hmk2, hh0⟩ hbl;have hqm := qq.isLt;have hh := hh0.KY;simp only [List.cons_append, List.nil_append] at hh;generalize hO : Ca _ _ _ = O at hh;have hq1 : qq.val * (d + 1) + (d + 1) ≤ au (fx.ns.take (i + 1)) := by
       have := Nat.mul_le_mul_right (d + 1) (show qq.val + 1 ≤ au (fx.ns.take i) from hqm);rw [Nat.succ_mul] at this;omega
      have hline := (hrd [_, _, _, _, _, _, _, _, _] W hh0).part (qq.val * (d + 1)) (d + 1) hq1 Tx;rw [wF] at hline;have hfo := fun w1 hT1 hS1 hb1 hb2 => vg tq tq.d ⟨b1, 0, none⟩ ⟨b3, 0, none⟩ (some (ac.add (qq.val * (d + 1) * 3))) (d + 1) (d + 1) d (mH (d + 1) qq.val X) (k + (fx.n - (i + 1)) * G) q w1 hT1 hS1 rfl hdl (fun x hx => hXz x (p8 hx)) vt ht1 hb1 hb2 hKle hq;have hfz := ya (d := d) (i := d + 1) (fun x hx => hXz x (p8 (K := d + 1) (q := qq.val) hx)) vt.sz ht1 (Nat.le_refl _);have hfa := Hh (d := d) (m := au (fx.ns.take i)) tq.d X hqm;generalize lV d tq.d (mH (d + 1) qq.val X) (d + 1) = y at *;refine aq ?_;refine Jl hh mixed fun W2 hJ2 => ?_;have hst2 := hJ2.hp
      refine H8 (I := fun c x1 x2 e g ρ w' => ρ 9 = .pointer (some ⟨b9, 0, none⟩) ∧ ρ 10 = .pointer (some ⟨b10, 0, none⟩) ∧ ρ 11 = .slice (some (ac.add (qq.val * (d + 1) * 3))) (d + 1) (d + 1) ∧ (c = true → ρ 48 = .slice A1 bs.length k1) ∧ (x1 = true → ρ 49 = .func (.func 191) #[] #[.pointer (some ⟨b1, 0, none⟩), .pointer (some ⟨b3, 0, none⟩)]) ∧ (x2 = true → ρ 50 = .slice (some (ac.add (qq.val * (d + 1) * 3))) (d + 1) (d + 1)) ∧ (e = true → ρ 51 = .agg #[.bool (nR y).neg, .string (nR y).bo, .int .i64 (nR y).e]) ∧ ∃ R52 : List HE, Hp w (R52 ++ (.row A1 bs.length k1 65 3 (az NR.cells (Y.map nR)) :: .blk b10 37 [.slice A1 bs.length k1] (0, 0) :: .blk c1 3 [.int .i64 ((d + 1 : Nat) : Int)] (0, 0) :: .blk c2 37 [.slice (some ac) (au (fx.ns.take (i + 1))) a] (0, 0) :: .blk b9 148 [.func (.func 191) #[] #[.pointer (some ⟨b1, 0, none⟩), .pointer (some ⟨b3, 0, none⟩)]] (0, 0) :: .blk b3 65 [.bool (nR (1 - tq.d)).neg, .string (nR (1 - tq.d)).bo, .int .i64 (nR (1 - tq.d)).e] (0, 0) :: .blk b1 65 [.bool tq.neg, .string tq.bo, .int .i64 tq.e] (0, 0) :: .blk b4 65 [.bool false, .string (ByteArray.mk #[]), .int .i64 0] (0, 0) :: .blk b2 39 [.slice fx.A fx.n fx.a, .slice fx.B fx.m fx.b] (0, 0) :: (R ++ O))) w' ∧ (g = true → ∃ g52, ρ 52 = .slice (some ⟨g52, 0, none⟩) 1 1 ∧ R52 = [.row (some ⟨g52, 0, none⟩) 1 1 65 3 [.bool (nR y).neg, .string (nR y).bo, .int .i64 (nR y).e]]))
       (J := fun ρ w' => ρ 10 = .pointer (some ⟨b10, 0, none⟩) ∧ ∃ (A3 : Option Addr) (k3 : Nat), ρ 53 = .slice A3 (bs.length + 1) k3 ∧ Hp w (.row A3 (bs.length + 1) k3 65 3 (az NR.cells (Y.map nR) ++ [.bool (nR y).neg, .string (nR y).bo, .int .i64 (nR y).e]) :: .blk b10 37 [.slice A1 bs.length k1] (0, 0) :: .blk c1 3 [.int .i64 ((d + 1 : Nat) : Int)] (0, 0) :: .blk c2 37 [.slice (some ac) (au (fx.ns.take (i + 1))) a] (0, 0) :: .blk b9 148 [.func (.func 191) #[] #[.pointer (some ⟨b1, 0, none⟩), .pointer (some ⟨b3, 0, none⟩)]] (0, 0) :: .blk b3 65 [.bool (nR (1 - tq.d)).neg, .string (nR (1 - tq.d)).bo, .int .i64 (nR (1 - tq.d)).e] (0, 0) :: .blk b1 65 [.bool tq.neg, .string tq.bo, .int .i64 tq.e] (0, 0) :: .blk b4 65 [.bool false, .string (ByteArray.mk #[]), .int .i64 0] (0, 0) :: .blk b2 39 [.slice fx.A fx.n fx.a, .slice fx.B fx.m fx.b] (0, 0) :: (R ++ O)) w')
       (K := fun _ w' => ∃ (A3 : Option Addr) (k3 : Nat), Hp w (.row A3 (bs.length + 1) k3 65 3 (az NR.cells (Y.map nR) ++ [.bool (nR y).neg, .string (nR y).bo, .int .i64 (nR y).e]) :: .blk b10 37 [.slice A3 (bs.length + 1) k3] (0, 0) :: .blk c1 3 [.int .i64 ((d + 1 : Nat) : Int)] (0, 0) :: .blk c2 37 [.slice (some ac) (au (fx.ns.take (i + 1))) a] (0, 0) :: .blk b9 148 [.func (.func 191) #[] #[.pointer (some ⟨b1, 0, none⟩), .pointer (some ⟨b3, 0, none⟩)]] (0, 0) :: .blk b3 65 [.bool (nR (1 - tq.d)).neg, .string (nR (1 - tq.d)).bo, .int .i64 (nR (1 - tq.d)).e] (0, 0) :: .blk b1 65 [.bool tq.neg, .string tq.bo, .int .i64 tq.e] (0, 0) :: .blk b4 65 [.bool false, .string (ByteArray.mk #[]), .int .i64 0] (0, 0) :: .blk b2 39 [.slice fx.A fx.n fx.a, .slice fx.B fx.m fx.b] (0, 0) :: (R ++ O)) w')
       rfl rfl rfl rfl rfl rfl rfl Tz Tz Tz Tz Tz Tz Tz Tz Tz Tz Tz Tz Tz Tz ?s0 ?s1 ?s2 ?s3 ?s4 ?s5 ?s6 ?fin ?st
      case st => exact ⟨rfl, rfl, rfl, fun h => (by cases h), fun h => (by cases h), fun h => (by cases h), fun h => (by cases h), [], hst2, fun h => (by cases h)⟩
      case s0 =>
       rintro a b e g ρ w3 ⟨h9, h10, h11, -, h49, h50, h51, R52, hp, h52⟩;have hp2 := hp.sub (List.sublist_append_right R52 _);refine bT aN.out h10 (hp2.dX (i := 1) (o := 0) rfl rfl) Ty (aa ?_);refine ⟨(bj _ Ty _).trans h9, (bj _ Ty _).trans h10, (bj _ Ty _).trans h11, fun _ => im _ _ _, fun h => (bj _ Ty _).trans (h49 h), fun h => (bj _ Ty _).trans (h50 h), fun h => (bj _ Ty _).trans (h51 h), R52, hp, fun h => ?_⟩;obtain ⟨g52, h1, h2⟩ := h52 h;exact ⟨g52, (bj _ Ty _).trans h1, h2⟩
      case s1 =>
       rintro c b ρ w3 ⟨h9, h10, h11, h48, -, h50, h51, R52, hp, h52⟩;have hp2 := hp.sub (List.sublist_append_right R52 _);refine bT aN.out h9 (hp2.dX (i := 4) (o := 0) rfl rfl) Ty (aa ?_);exact ⟨(bj _ Ty _).trans h9, (bj _ Ty _).trans h10, (bj _ Ty _).trans h11, fun h => (bj _ Ty _).trans (h48 h), fun _ => im _ _ _, fun h => (bj _ Ty _).trans (h50 h), fun h => (by cases h), R52, hp, fun h => (by cases h)⟩
      case s2 =>
       rintro c a ρ w3 ⟨h9, h10, h11, h48, h49, -, h51, R52, hp, h52⟩;refine aQ rfl rfl Ty (ez h11) (aa ?_);exact ⟨(bj _ Ty _).trans h9, (bj _ Ty _).trans h10, (bj _ Ty _).trans h11, fun h => (bj _ Ty _).trans (h48 h), fun h => (bj _ Ty _).trans (h49 h), fun _ => im _ _ _, fun h => (by cases h), R52, hp, fun h => (by cases h)⟩
      case s3 =>
       rintro c ρ w3 ⟨h9, h10, h11, h48, h49, h50, -, R52, hp, h52⟩;have hp2 := hp.sub (List.sublist_append_right R52 _);have hp3 : Hp w ([_, _, _, _, _, _, _, _, _] ++ R) w3 := hp2.sub (by repeat (first | exact List.sublist_append_left _ _ | apply List.Sublist.cons_cons));have hl3 := (hrd _ w3 hp3).part (qq.val * (d + 1)) (d + 1) hq1 Tx;rw [wF] at hl3;refine fY (first := []) (cap := [_, _]) (hfo w3 (hT.hp hp2) hl3 (hp2.ck (i := 6) (n := 3) rfl rfl) (hp2.ck (i := 5) (n := 3) rfl rfl)) ak.out (h49 rfl) (congrArg (fun l => [] ++ (l ++ [_, _])) (aw (show ev ρ (Operand.tmp 50) = _ from h50 rfl) aX)) Ty ?_;rintro e_ w5 ⟨rfl, hb_⟩;refine ⟨_, rfl, aa ?_⟩;exact ⟨(bj _ Ty _).trans h9, (bj _ Ty _).trans h10, (bj _ Ty _).trans h11, fun h => (bj _ Ty _).trans (h48 h), fun h => (bj _ Ty _).trans (h49 h), fun h => (bj _ Ty _).trans (h50 h), fun _ => im _ _ _, R52, hp.ext hb_, fun h => (by cases h)⟩
      case s4 =>
       rintro c ρ w3 ⟨h9, h10, h11, h48, h49, h50, h51, R52, hp, -⟩;have hp2 := hp.sub (List.sublist_append_right R52 _);refine cP hp2 (cs := [_, _, _]) bg.out aN.out (aK (show ev ρ (Operand.tmp 51) = _ from h51 rfl) bP) rfl rfl Ty Ty Ty rfl Ty ?_;intro g52 w5 hp5;refine aa ?_;exact ⟨(bj _ Ty _).trans h9, (bj _ Ty _).trans h10, (bj _ Ty _).trans h11, fun h => (bj _ Ty _).trans (h48 h), fun h => (bj _ Ty _).trans (h49 h), fun h => (bj _ Ty _).trans (h50 h), fun h => (bj _ Ty _).trans (h51 h), [_], hp5, fun _ => ⟨g52, im _ _ _, rfl⟩⟩
      case s5 =>
       rintro ρ w3 ⟨h9, h10, h11, h48, h49, h50, h51, R52, hp, h52⟩;obtain ⟨g52, h52', rfl⟩ := h52 rfl;refine cJ hp (i := 1) rfl (show ev ρ (Operand.tmp 48) = _ from h48 rfl) (show ev ρ (Operand.tmp 52) = _ from h52') (hp.aC (i := 0) rfl) bg.out aN.out rfl Ty (cq NR.one [nR y]) Tx Tx Ty ?_;intro A3 k3 w5 hp5;refine aa ⟨(bj _ Ty _).trans h10, A3, k3, im _ _ _, ?_⟩;exact hp5.sub (List.sublist_cons_self _ _)
      case s6 =>
       rintro ρ w3 ⟨h10, A3, k3, h53, hp⟩;refine Br hp h10 (i := 1) rfl h53 rfl aN.out rfl (by simp) rfl ?_;intro w5 hp5;exact aa ⟨A3, k3, hp5⟩
      case fin =>
       rintro ρ ws ⟨A3, k3, hh⟩;refine bA ?_;subst hO;obtain ⟨gr, rfl⟩ := hh.cd (i := 0) rfl Tx;have hkeep := Hp.Ph (T' := _ :: _ :: _ :: _ :: _ :: _ :: _ :: _ :: R) hh0 (hcel _ _ _ _ _) hh rfl rfl;have el : (bs ++ [qq]).length = bs.length + 1 := by simp
       refine ⟨hkeep, ⟨by rw [hh.dX (i := 3) (o := 0) rfl rfl, hh0.dX (i := 3) (o := 0) rfl rfl], by rw [hh.dX (i := 2) (o := 0) rfl rfl, hh0.dX (i := 2) (o := 0) rfl rfl]⟩, Y ++ [y], some ⟨gr, 0, none⟩, k3, ?_, ?_, ?_, hmk2.keeps hkeep, ?_⟩
       ·rw [el, List.length_append, hYl]; rfl
       ·intro x hx
        rcases List.mem_append.1 hx with hx | hx
        ·exact hYz x hx
        ·obtain rfl := List.mem_singleton.1 hx;exact hfz.mono Tx
       ·intro h;obtain ⟨h1, h2⟩ := FD h hbl;rw [el, hYe h1, ← h2, ay hfa]
       ·rw [el, List.map_append, bV];exact hh.sub (by repeat (first | exact List.sublist_append_left _ _ | apply List.Sublist.cons_cons))
     case done =>
      rintro D bs W hD2 rfl ⟨Y, A1, k1, hYl, hYz, hYe, hmk2, hh0⟩ hDo;have hA2 := hYe (by rw [List.take_of_length_le (Nat.le_refl _)]);rw [List.take_of_length_le (by rw [qw, List.length_finRange]; exact Nat.le_refl _)] at hA2;rw [List.length_finRange] at hh0;subst hA2;have hmk3 := hmk2.cons hmlt hh.size hD2 hDo;have hroom := hh0.eO (i := 0) rfl;replace hh := hh0.PJ (hcel _ _ _ _ _) hmk3;simp only [List.cons_append, List.nil_append] at hh;refine DR fun D_ => ?_;refine al ?_;refine bB hh 1 ?_;refine aL (aA ?_);refine OB ?_;refine DR fun D_ => ?_;refine al (mI ?_);refine dT (aI (aA ?_));refine Il ?_;replace hh := hh.sub (List.Sublist.cons_cons _ (List.Sublist.cons _ (List.Sublist.cons _ (List.Sublist.cons _ (List.Sublist.cons _ (List.Sublist.cons _ (List.Sublist.cons _ (List.Sublist.cons_cons _ (List.Sublist.cons_cons _ (List.Sublist.refl _))))))))));replace hh := hh.perm (List.perm_middle (l₁ := [_, _]));simp only [List.cons_append, List.nil_append] at hh;replace hh := hh.perm (List.perm_middle (l₁ := [_, _]));simp only [List.cons_append, List.nil_append] at hh
      refine ⟨⟨i, (i : Int) - 1, kT d tq.d (au (fx.ns.take i)) X, A1, k1, .row A1 (au (fx.ns.take i)) k1 65 3 (az NR.cells ((kT d tq.d (au (fx.ns.take i)) X).map nR)) :: R, Tx, rfl, rfl, rfl, hroom, qw _ _ _ _, fun x hx => (HJ hXz vt.sz ht1 x hx).mono Tx, ?_, fun x hx => ?_, fun H w1 h1 => ?_, hh⟩, ?_, ?_⟩
      ·rw [← Dm X hd (by rw [List.getElem?_map, htq]; rfl)];exact hXe
      ·rcases List.mem_cons.1 hx with rfl | hx
       ·rfl
       ·exact hcR x hx
      ·exact lB (h1.own (.row A1 (au (fx.ns.take i)) k1 65 3 (az NR.cells ((kT d tq.d (au (fx.ns.take i)) X).map nR))) (List.mem_append_right _ List.mem_cons_self))
      ·show ((i : Int) - 1 + 1).toNat < ((i : Int) + 1).toNat;omega
      ·exact dL
  ·have hE : G1 fx m2 = 1 := by unfold G1; rw [if_neg Tx, if_pos h1]
   rw [hev0 (by rw [hE]; decide), hE];refine Ib ?_;refine jq fun D_ => ?_;refine al ?_;refine cx hh [_,_] ?_;intro b2 w2 hh;refine bR hh ?_;intro b4 w4 hh;refine aI (aa ?_);refine jq fun D_ => ?_;refine sr ?_;refine cD hh 1 [_,_] ?_;refine fG ?_;intro w13 hh;refine aI (aa (sr (mI ?_)));refine cK (aa (cF (ar (ai ?_))));refine jq fun D_ => ?_;refine sr (mL (aJ (bD ?_)));refine bB hh 1 ?_;refine aJ ?_;refine cK (aa (cT (sr ?_)));refine gj [_,_,_] ?_;refine bW hh 0 [_,_,_] ?_;intro ws hh;replace hh : Hp _ (.blk _ _ [_, _, _] _ :: _) _ := hh;refine aI (aa (av (aG ?_)));refine qk (M := []) (vs := [.agg #[.bool false, .string (ByteArray.mk #[]), .int .i64 0], .int .i64 1]) hh (.inr rfl) rfl ?_;exact O0
 ·have hE : G1 fx m2 = fx.e := by unfold G1; rw [if_pos h0]
  rw [hev0 (by rw [hE]; exact h0), hE];refine Ib ?_;refine jq fun D_ => ?_;refine al ?_;refine cx hh [_,_] ?_;intro b2 w2 hh;refine bR hh ?_;intro b4 w4 hh;refine aI (aa ?_);refine jq fun D_ => ?_;refine sr ?_;refine cD hh 1 [_,_] ?_;refine fG ?_;intro w13 hh;refine aI (aa (sr (mI ?_)));refine cK (aa (cT (sr ?_)));refine gj [_,_,_] (mI ?_);refine bW hh 0 [_,_,_] ?_;intro ws hh;replace hh : Hp _ (.blk _ _ [_, _, _] _ :: _) _ := hh;refine aI (aa (av (aG ?_)));refine qk (M := []) (vs := [.agg #[.bool false, .string (ByteArray.mk #[]), .int .i64 0], .int .i64 fx.e]) hh (.inr rfl) rfl ?_;exact O0
def ea (es : List UInt8) (z : Int) : VP := fun v W => ∃ g : Option Addr × Nat, v = .agg #[.int .i64 es.length, .slice g.1 1 g.2] ∧ 1 ≤ g.2 ∧ Sl W g.1 1 4 (az TR.cells [⟨str es, er z⟩])
theorem ea.ext {es : List UInt8} {z : Int} (v : Value) (w w' : World) (h : ea es z v w) (hb : Below w.heap.size w w') : ea es z v w' := let ⟨g, h1, h2, h3⟩ := h; ⟨g, h1, h2, h3.ext hb⟩
def Rh (l : List Int) : Bool := l.all fun z => decide (z.natAbs < 256)
theorem mC {l : List Int} (h : Rh l = true) : ∀ z ∈ l, z.natAbs < 256 := fun z hz => of_decide_eq_true (List.all_eq_true.1 h z hz)
theorem Qr (l : List Int) (A : Option Addr) (n c : Nat) (w : World) (hS : Sl w A n 1 (bF l)) (hl : Rh l = true) (hn : n ≤ 1000) : Calls Tryz.prog 104 #[.slice A n c] w fun r w' => ∃ v, r = .returned v ∧ Rows n 3 (az NR.cells (l.map er)) v w' ∧ Below w.heap.size w w' :=
 (lu l A n c w hS (mC hl) hn).mono fun r w' ⟨B, c', hr, h3⟩ => ⟨_, hr, ⟨B, c', rfl, h3.aC (i := 0) rfl⟩, h3.below⟩
theorem F3 (l : List Int) (A : Option Addr) (n c : Nat) (w : World) (hS : Sl w A n 1 (bF l)) (hl : Rh l = true) (hn : n ≤ 1000) : Calls Tryz.prog 105 #[.slice A n c] w fun r w' => ∃ v, r = .returned v ∧ Rows n 6 (az SR.cells (jX l)) v w' ∧ Below w.heap.size w w' :=
 (B8 l A n c w hS (mC hl) hn).mono fun r w' ⟨B, c', hr, h3⟩ => ⟨_, hr, ⟨B, c', rfl, h3.aC (i := 0) rfl⟩, h3.below⟩
theorem qG (z : Int) (es : List UInt8) (A : Option Addr) (n c : Nat) (w : World) (hS : Sl w A n 1 (nC es)) (hz : z.natAbs < 256) (hn : es.length = n) (hn2 : n ≤ 1000) : Calls Tryz.prog 107 #[.int .i64 z, .slice A n c] w fun r w' => ∃ v, r = .returned v ∧ ea es z v w' ∧ Below w.heap.size w w' :=
 (xV z es A n c w hS hz hn hn2).mono fun r w' ⟨B, c', hr, h3⟩ => ⟨_, hr, ⟨(B, c'), by rw [hn], h3.eO (i := 0) rfl, h3.aC (i := 0) rfl⟩, h3.below⟩
def Mb (es : List UInt8) (z : Int) : PX := ⟨es.length, none, 0, 0, [⟨str es, er z⟩]⟩
theorem Hb {p q : PX} (hv : p.v = q.v) (ht : p.ts = q.ts) (b : List SR) (ds : List Int) : jt p b ds = jt q b ds ∧ KA p ds = KA q ds ∧ da p (br b) = da q (br b) := by
 obtain ⟨pv, pA, pn, pc, pt⟩ := p;obtain ⟨qv, qA, qn, qc, qt⟩ := q;replace hv : pv = qv := hv;replace ht : pt = qt := ht;subst hv ht;exact ⟨rfl, rfl, rfl⟩
def SB (z : Int) (es : List UInt8) (bl ds l : List Int) : Bool := decide (z.natAbs < 256 ∧ es.length ≤ 12 ∧ jt (Mb es z) (jX bl) ds = 0 ∧ pR (KA (Mb es z) ds) (da (Mb es z) (br (jX bl))).2 = l.map (fun z : Int => (z : Dyadic)) ∧ eZ (124 + 124 + 16394) (gJ es.length [⟨str es, er z⟩]) (124 + 1) ≤ 440000) && Rh bl && Rh l
theorem Rn (z : Int) (es : List UInt8) (bl ds l : List Int) (A : Option Addr) (c : Nat) (B : Option Addr) (n bc : Nat) (M : Option Addr) (m mc : Nat) (D : Option Addr) (k dc : Nat) (w : World) (hT : ee w) (o : 1 ≤ c ∧ Sl w A 1 4 (az TR.cells [⟨str es, er z⟩])) (hB : Sl w B n 6 (az SR.cells (jX bl))) (hM : Sl w M m 1 (bF ds)) (hmc : m ≤ mc) (hS : Sl w D k 1 (bF l))
  (hn : n ≤ 1000) (hm : m ≤ 1000) (hk : k ≤ 1000) (hc : SB z es bl ds l = true) :
  Calls Tryz.prog 106 #[.agg #[.int .i64 es.length, .slice A 1 c], .slice B n bc, .slice M m mc, .slice D k dc] w fun r w' => r = .returned (.bool true) ∧ Below w.heap.size w w' := by
 unfold SB at hc;rw [Bool.and_eq_true, Bool.and_eq_true] at hc;obtain ⟨⟨hc, hbl⟩, hl⟩ := hc;obtain ⟨hz, hes, hE, hX, hg⟩ := of_decide_eq_true hc;have hk1 := Hb (p := ⟨es.length, A, 1, c, [⟨str es, er z⟩]⟩) (q := Mb es z) rfl rfl (jX bl) ds;refine GN ⟨es.length, A, 1, c, [⟨str es, er z⟩]⟩ B n bc (jX bl) M m mc ds D k dc l w hT o.2 ⟨by show 1 ≤ 1000000; decide, o.1, fun t ht => ?_, fun t ht => ?_⟩ hB (fun s hs => ?_) hn hM hm hmc hg hS (mC hl) hk (hk1.1.trans hE) (by rw [hk1.2.1, hk1.2.2]; exact hX)
 ·rw [List.mem_singleton.1 ht];exact ⟨(oU hz).1, (oU hz).2.mono Ty⟩
 ·rw [List.mem_singleton.1 ht];show (str es).size ≤ 100000;rw [kM];omega
 ·obtain ⟨y, hy, rfl⟩ := List.mem_map.1 hs;have h1 := oU (mC hbl y hy);exact ⟨⟨(Sz.zero 124).ok Ty, by show Sz 124 (nR 0).d; rw [cf]; exact Sz.zero _⟩, ⟨h1.1, h1.2.mono Ty⟩⟩
abbrev fZ (A : Option Addr) (a : Nat) (B : Option Addr) (b : Nat) : FX := ⟨A, 1, a, B, 3, b, [2], [0, 0, 4].map er⟩
theorem Cz (A : Option Addr) (a : Nat) (B : Option Addr) (b : Nat) : (fZ A a B b).kO 24 := ⟨by show 1 ≤ 1000; decide, by show 3 ≤ 100000; decide, fun c hc => by
 obtain ⟨z, hz, rfl⟩ := List.mem_map.1 hc;exact oU (mC (l := [0, 0, 4]) Ty z hz)⟩
theorem LL (A : Option Addr) (a : Nat) (B : Option Addr) (b : Nat) (L : Option Addr) (lc : Nat) (w : World) (hT : ee w) (hf : (fZ A a B b).at_ w) (hb : 3 ≤ b) (hS : Sl w L 1 3 (az NR.cells [nR (((1 : Int) : Dyadic) * pU (-1))])) :
  Calls Tryz.prog 39 #[.agg #[.slice A 1 a, .slice B 3 b], .slice L 1 lc] w fun r w' => r = .returned (.tuple #[.agg #[.bool (nR ((1 : Int) : Dyadic)).neg, .string (nR ((1 : Int) : Dyadic)).bo, .int .i64 (nR ((1 : Int) : Dyadic)).e], .int .i64 0]) ∧ Below w.heap.size w w' := by
 have z : Sz 25 (((1 : Int) : Dyadic) * pU (-1)) := (show Sz 24 ((1 : Int) : Dyadic) from KV (m := 1) (e := 0) Ty Ty Ty).mul (show Sz 1 (pU (-1)) from ⟨1, by decide +kernel, Ty⟩);have hE : G1 (fZ none 0 none 0) 1 = 0 := by decide +kernel
 have hV : Mq (fZ none 0 none 0) [nR (((1 : Int) : Dyadic) * pU (-1))] = ((1 : Int) : Dyadic) := by decide +kernel
 have hns : (fZ A a B b).ns = [2] := rfl;have := Bd (fZ A a B b) L 1 lc [nR (((1 : Int) : Dyadic) * pU (-1))] 24 30 (2 + 2 * (30 * 2) + (2 + 1)) w hT hf (Cz A a B b) hb hS (fun s hs => by
  rw [List.mem_singleton.1 hs, cf];exact ⟨Nr.of (z.mono Ty) Ty, ((show Sz 25 (1 : Dyadic) from Sz.one.mono Ty).sub z).mono Ty⟩) Ty (fun _ d hd => by
  rw [hns, List.mem_singleton] at hd;subst hd;decide) (by show 24 + 1 * _ ≤ 500000; decide)
 rw [show G1 (fZ A a B b) 1 = 0 from hE, show Mq (fZ A a B b) [nR (((1 : Int) : Dyadic) * pU (-1))] = ((1 : Int) : Dyadic) from hV] at this;exact this
theorem RM (A : Option Addr) (a : Nat) (B : Option Addr) (b : Nat) (w : World) (hT : ee w) (hf : (fZ A a B b).at_ w) (ha : 1 ≤ a) :
  Calls Tryz.prog 55 #[.agg #[.slice A 1 a, .slice B 3 b], .int .i64 0] w fun r w' => ∃ g : FX, Out 0 [1] ([0, 8].map fun z : Int => (z : Dyadic)) g ∧ r = .returned (.tuple #[.agg #[.slice g.A g.n g.a, .slice g.B g.m g.b], .int .i64 0]) ∧ Hp w [g.xG, g.vc] w' := by
 have hE : mM (fZ none 0 none 0) 0 = 0 := by decide +kernel
 have hN : CV [2] 0 = [1] := by decide +kernel
 have hX : Co [2] 0 (([0, 0, 4].map er).map NR.d) = [0, 8].map fun z : Int => (z : Dyadic) := by decide +kernel
 have := xy (fZ A a B b) 0 24 w hT hf (Cz A a B b) ha Ty;rw [show mM (fZ A a B b) 0 = 0 from hE, show CV (fZ A a B b).ns (0 : Int).toNat = [1] from hN, show Co (fZ A a B b).ns (0 : Int).toNat ((fZ A a B b).cs.map NR.d) = _ from hX] at this;exact this
theorem Rr (A : Option Addr) (a : Nat) (B : Option Addr) (b : Nat) (L : Option Addr) (lc : Nat) (w : World) (hT : ee w) (hf : (fZ A a B b).at_ w) (ha : 1 ≤ a) (hL : Sl w L 1 6 (az SR.cells (jX [2]))) :
  Calls Tryz.prog 37 #[.agg #[.slice A 1 a, .slice B 3 b], .slice L 1 lc] w fun r w' => ∃ g : PX, eK 0 1 [⟨str [2], er 4⟩] g ∧ r = .returned (.tuple #[.agg #[.int .i64 g.v, .slice g.A g.n g.c], .int .i64 0]) ∧ Hp w [g.row] w' := by
 have hE : rU (fZ none 0 none 0) (jX [2]) = 0 := by decide +kernel
 have hR : (C0 (fZ none 0 none 0) (jX [2])).2 = [⟨str [2], er 4⟩] := by kernel_rfl
 have hG : rQ 1 24 24 [2] ≤ 400000 ∧ eZ (24 + 16394) [2] (rQ 1 24 24 [2] + 4097) ≤ 440000 := by decide +kernel
 have := Bw (fZ A a B b) L 1 lc (jX [2]) 24 24 w hT hf (Cz A a B b) ha hL (fun s hs => by
  obtain ⟨y, hy, rfl⟩ := List.mem_map.1 hs;have h1 := oU (mC (l := [2]) Ty y hy);exact ⟨⟨(Sz.zero 24).ok Ty, by show Sz 24 (nR 0).d; rw [cf]; exact Sz.zero _⟩, ⟨h1.1, h1.2⟩⟩) Ty Ty (fun _ _ => hG.1) (fun _ _ => hG.2)
 rw [show rU (fZ A a B b) (jX [2]) = 0 from hE, show (C0 (fZ A a B b) (jX [2])).2 = _ from hR] at this;exact this
theorem SG (ns : List Nat) (l : List Int) (A : Option Addr) (n c : Nat) (w : World) (hT : ee w) (hS : Sl w A n 1 (bF (bH ns))) (h : (decide (ns.length ≤ 12 ∧ au ns ≤ 4096) && ns.all (fun d => decide (d ≤ 127)) && decide ((yo ns).map (fun k : Nat => (k : Int)) = l)) = true) :
  Calls Tryz.prog 46 #[.slice A n c] w fun r w' => ∃ v, r = .returned v ∧ Rows (au ns) 3 (az NR.cells (l.map er)) v w' ∧ Below w.heap.size w w' := by
 rw [Bool.and_eq_true, Bool.and_eq_true] at h;obtain ⟨⟨h1, h2⟩, h3⟩ := h;have h1 := of_decide_eq_true h1;have e : l.map er = E6 ns := by
  rw [← of_decide_eq_true h3, List.map_map]
  rfl
 rw [e];exact (mR A n c ns w hT hS h1.1 (fun d hd => of_decide_eq_true (List.all_eq_true.1 h2 d hd)) h1.2).mono fun r w' ⟨B, c', hr, ho, hb⟩ => ⟨_, hr, ⟨B, c', rfl, lB ho⟩, hb⟩
theorem Po (g : FX) (h : FX) (w : World) (og : Out 0 [1] ([0, 8].map fun z : Int => (z : Dyadic)) g) (hg : g.at_ w) (oh : h.ds = [1] ∧ h.cs = [0, 8].map er ∧ h.at_ w) :
  Calls Tryz.prog 23 #[.agg #[.slice g.A g.n g.a, .slice g.B g.m g.b], .agg #[.slice h.A h.n h.a, .slice h.B h.m h.b]] w fun r w' => r = .returned (.bool true) ∧ Below w.heap.size w w' :=
 zl g h w hg oh.2.2 ⟨og.ds.trans oh.1.symm, og.cs.trans oh.2.1.symm⟩ og.n og.m
theorem Pd (p : PX) (q : Option Addr × Nat) (w : World) (op : eK 0 1 [⟨str [2], er 4⟩] p) (hp : p.at_ w) (hq : 1 ≤ q.2 ∧ Sl w q.1 1 4 (az TR.cells [⟨str [2], er 4⟩])) :
  Calls Tryz.prog 15 #[.agg #[.int .i64 p.v, .slice p.A p.n p.c], .agg #[.int .i64 1, .slice q.1 1 q.2]] w fun r w' => r = .returned (.bool true) ∧ Below w.heap.size w w' := by
 have hv : p.v = 1 := op.v;have ht : p.ts = [⟨str [2], er 4⟩] := op.ts;have hn : p.n = 1 := by have := hp.ln; rw [ht] at this; exact this.symm
 refine (zI p ⟨1, q.1, 1, q.2, [⟨str [2], er 4⟩]⟩ w hp hq.2 Tx (by show 1 ≤ 1000000; decide)).mono fun r w' ⟨v, hr, hi, hb⟩ => ?_;rw [hr, hi.2 ⟨hv, ht⟩];exact ⟨rfl, hb⟩
set_option maxRecDepth 100000 in
theorem jw (w : World) (hT : ee w) : Calls Tryz.prog 30 #[] w fun r w' => r = .returned (.bool true) ∧ Below w.heap.size w w' := by
 have hh := Hp.start w;refine aj (N := 116) (l := []) Tryz.func30 rfl rfl (by simp) ?_;refine sr (aB (aa (sr ?_)));refine cP hh (cs := [_]) bg.out aN.out (aK rfl bP) rfl rfl Ty Ty Ty rfl Ty ?_;intro b8 w8 hh;refine cP hh (cs := [_, _, _]) bg.out aN.out (aK rfl (aK rfl (aK rfl bP))) rfl rfl Ty Ty Ty rfl Ty ?_;intro b9 w9 hh;refine aE (lu [0, 0, 4] _ 3 _ _ (hh.aC (i := 0) rfl) (mC Ty) Ty) ak.out rfl Ty ?_;rintro e_ w10 ⟨A1, c1, rfl, h2⟩;refine ⟨_, rfl, ?_⟩;have hc1 : 3 ≤ c1 := h2.eO (i := 0) rfl;replace hh := hh.join h2;simp only [List.cons_append, List.nil_append] at hh;clear h2;replace hh := hh.sub (List.Sublist.cons_cons _ (List.Sublist.cons _ (List.Sublist.cons_cons _ List.Sublist.slnil)));refine gj [_,_] ?_;refine bR hh ?_;intro b1 w1 hh;refine bW hh 0 [_,_] ?_;intro ws hh;replace hh : Hp _ (.blk _ _ [_, _] _ :: _) _ := hh;refine aa (ah ?_)
 refine ef [8] [7] [0, 0, 2, 6, 15, 31, 63, 63, 0, 383, 1023] 9 [[(1, none)], [], [(14, some 1)], [(15, some 2)], [(13, some 0), (16, some 3)], [(17, some 4)], [(12, some 5)], [(12, some 5)], []] [(8, 2), (7, 19), (6, 18), (5, 12), (4, 17), (3, 16), (2, 15), (1, 14), (0, 13)] hh mixed Tz (qm rfl aN.out e8) rfl (by repeat (first | exact cB | refine bO ?_ | refine cA ?_)) ?_;refine fT 0 [_,_] ?_;refine dC (fun _ hj => k5 1 _ Ty Ty) ?_;refine dC (fun _ hj => xF (nR ((1 : Int) : Dyadic)) (-1) _ (by decide +kernel) (by decide +kernel) (by decide +kernel) Ty Ty) ?_;refine sC [_,_,_] ?_;refine aR (i := 4) (Is (.tuple #[.agg #[.bool (nR ((1 : Int) : Dyadic)).neg, .string (nR ((1 : Int) : Dyadic)).bo, .int .i64 (nR ((1 : Int) : Dyadic)).e], .int .i64 0])) Is.ext ?_ ?_
 ·intro ρ1 w1 hj hR;obtain ⟨A16, c16, h16, s16⟩ := hR.2.1;exact a8 rfl (aM ak.out (aw (show ρ1 13 = Value.agg (List.toArray _) from hR.1) (aw h16 aX))) (LL (some ⟨b8, 0, none⟩) 1 A1 c1 A16 c16 _ (hT.hp hj.hp) ⟨hj.hp.aC (i := 2) rfl, hj.hp.aC (i := 1) rfl⟩ hc1 s16) (fun _ _ hq => ⟨_, hq.1, hq.2, rfl⟩)
 refine Sq ?_;refine Rb ?_;refine Rb ?_;refine aR (i := 8) (dr _ 65 _) dr.ext (fun ρ1 w1 hj hR => jV aN.out hj.bl (fun v w2 h hb => ⟨hb, h⟩)) ?_;refine aT ?_;intro f W hJ hV _;have hb_2 := hJ.bl;obtain ⟨v2, v19, v18, v12, v17, v16, v15, v14, v13, _⟩ := hV;obtain ⟨A16, c16, e16, f16⟩ : Rows _ _ _ (f 3) W := v16;obtain ⟨b2, e2, hl2, hc2⟩ : dr _ _ _ (f 8) W := v2;replace hh := hJ.newVar hh hl2 hc2;refine a6 (bm (ae e2 (ae v19 (ae v18 (ae v12 (ae v17 (ae e16 (ae v15 (ae v14 (ae v13 a0)))))))))) ?_;dsimp only [cg];clear e16 e2 hJ;refine bW hh 0 [_,_,_] ?_;intro ws hh;replace hh : Hp _ (.blk _ _ [_, _, _] _ :: _) _ := hh;refine aI (aa (sr ?_));refine cD hh 1 [_,_] ?_;refine aE (RM (some ⟨b8, 0, none⟩) 1 A1 c1 _ (hT.hp hh) ⟨hh.aC (i := 3) rfl, hh.aC (i := 2) rfl⟩ (Nat.le_refl _)) ak.out rfl Ty ?_;rintro e_ w22 ⟨g, og, rfl, h4⟩;refine ⟨_, rfl, ?_⟩;replace hh := hh.join h4;clear h4;simp only [List.cons_append, List.nil_append] at hh;replace hh := show Hp w (.row g.B g.m g.b 65 3 (az NR.cells g.cs) :: .row g.A g.n g.a 3 1 (bF g.ds) :: _) _ from hh;refine mT ?_;refine dq ?_;refine dq ?_;refine bR hh ?_;intro b4 w4 hh;refine bW hh 0 [_,_] ?_;intro ws hh
 replace hh : Hp _ (.blk _ _ [_, _] _ :: _) _ := hh;refine aI (aa (ah ?_));refine ef [7] [6] [0, 0, 2, 7, 15, 31, 31, 0, 191, 511] 8 [[(1, none)], [], [(27, some 1)], [(26, some 0), (28, some 2)], [(29, some 3)], [(25, some 4)], [(25, some 4)], []] [(7, 6), (6, 31), (5, 30), (4, 25), (3, 29), (2, 28), (1, 27), (0, 26)] hh mixed Tz (qm rfl aN.out e8) rfl (by repeat (first | exact cB | refine bO ?_ | refine cA ?_)) ?_;refine fT 4 [_,_] ?_;refine sC [_] ?_;refine aR (i := 2) (Rows 1 6 (az SR.cells (jX [2]))) Rows.ext ?_ ?_
 ·intro ρ1 w1 hj hR;obtain ⟨A27, c27, h27, s27⟩ := hR.1;exact a8 rfl (aM ak.out (aw h27 aX)) (F3 [2] A27 1 c27 _ s27 Ty Ty) (fun _ _ ⟨v, hq, hp, hb⟩ => ⟨v, hq, hb, hp⟩)
 refine aR (i := 3) (jY hh.sz 0 1 [⟨str [2], er 4⟩]) (jY.ext) ?_ ?_
 ·intro ρ1 w1 hj hR;obtain ⟨A28, c28, h28, s28⟩ := hR.2.1;exact a8 rfl (aM ak.out (aw (show ρ1 26 = Value.agg (List.toArray _) from hR.1) (aw h28 aX))) (Rr (some ⟨b8, 0, none⟩) 1 A1 c1 A28 c28 w1 (hT.hp hj.hp) ⟨hj.hp.aC (i := 6) rfl, hj.hp.aC (i := 5) rfl⟩ (Nat.le_refl _) s28) (fun _ _ ⟨g, og, hq, h3⟩ => ⟨_, hq, h3.below, g, w1, rfl, og, hj.bl.size, h3⟩)
 refine aR (i := 4) (jY hh.sz 0 1 [⟨str [2], er 4⟩]) (jY.ext) ?_ ?_
 ·exact Pr
 refine aR (i := 5) (jW hh.sz 0 1 [⟨str [2], er 4⟩]) (jW.ext) ?_ ?_
 ·exact OD
 refine aR (i := 6) (Is (.int .i64 0)) (Is.ext) ?_ ?_
 ·exact OO
 refine aR (i := 7) (dr _ 24 _) dr.ext (fun ρ1 w1 hj hR => jV aN.out hj.bl (fun v w2 h hb => ⟨hb, h⟩)) ?_;refine aT ?_;intro f W hJ hV _;have hb_4 := hJ.bl;obtain ⟨v6, v31, v30, v25, v29, v28, v27, v26, _⟩ := hV;obtain ⟨A27, c27, e27, f27⟩ : Rows _ _ _ (f 1) W := v27;obtain ⟨A28, c28, e28, f28⟩ : Rows _ _ _ (f 2) W := v28;obtain ⟨g29, u29, e29, -⟩ := v29;obtain ⟨g25, u25, e25, -⟩ := v25;obtain ⟨g30, u30, e30, o30, q30, h30⟩ := v30;obtain ⟨b6, e6, hl6, hc6⟩ : dr _ _ _ (f 7) W := v6;replace hh := hJ.qd hh hl6 hc6 q30 h30 (PX.ne h30 hc6 Ty);refine a6 (bm (ae e6 (ae v31 (ae e30 (ae e25 (ae e29 (ae e28 (ae e27 (ae v26 a0))))))))) ?_;dsimp only [cg];clear e27 e28 e29 e25 e30 e6 hJ;refine bW hh 0 [_,_] ?_;intro ws hh;replace hh : Hp _ (.blk _ _ [_, _] _ :: _) _ := hh;refine aI (aa (ah ?_))
 refine ef [] [] [0, 1, 0, 7, 0, 31, 63, 127, 255, 127, 1023, 127, 4095, 8191, 16383, 32767, 65535, 32767, 262143, 32767, 1048575, 2097151, 4194303, 8388607, 16777215, 8388607, 67108863, 8388607, 8388607, 536870911, 1073741823, 2147483647, 4294967295, 8589934591, 4294967295, 34359738367, 4294967295, 137438953471, 274877906943, 549755813887, 1099511627775, 1099511627775, 4398046511103, 8796093022207, 17592186044415, 35184372088831, 70368744177663, 140737488355327, 281474976710655, 562949953421311, 562949953421311, 562949953421311, 2814749767106559, 8444249301319679, 18014398509481983, 36028797018963967, 72057594037927935, 144115188075855871, 288230376151711743, 576460752303423487, 1152921504606846975, 2305843009213693951, 2305843009213693951, 6917529027641081855, 18446744073709551615, 36893488147419103231, 73786976294838206463, 147573952589676412927, 295147905179352825855, 590295810358705651711, 1180591620717411303423, 2361183241434822606847, 4722366482869645213695, 2361183241434822606847, 18889465931478580854783, 37778931862957161709567, 75557863725914323419135, 151115727451828646838271, 302231454903657293676543, 604462909807314587353087, 302231454903657293676543, 2417851639229258349412351, 4835703278458516698824703, 9671406556917033397649407, 19342813113834066795298815] 81 [[], [(32, some 0)], [], [(34, some 2)], [], [(33, some 1), (35, some 3), (36, some 4)], [(37, some 5)], [(38, some 6)], [(39, some 7), (38, some 6)], [(38, some 6)], [(41, some 9), (38, some 6)], [(38, some 6)], [(40, some 8), (42, some 10), (43, some 11), (38, some 6)], [(38, some 6), (44, some 12)], [(45, some 13)], [(46, some 14)], [(47, some 15), (46, some 14)], [(46, some 14)], [(49, some 17), (46, some 14)], [(46, some 14)], [(48, some 16), (50, some 18), (51, some 19), (46, some 14)], [(46, some 14), (52, some 20)], [(53, some 21)], [(54, some 22)], [(55, some 23), (54, some 22)], [(54, some 22)], [(57, some 25), (54, some 22)], [(54, some 22)], [(54, some 22)], [(56, some 24), (58, some 26), (59, some 27), (60, some 28), (54, some 22)], [(54, some 22), (61, some 29)], [(62, some 30)], [(63, some 31)], [(64, some 32), (63, some 31)], [(63, some 31)], [(66, some 34), (63, some 31)], [(63, some 31)], [(65, some 33), (67, some 35), (68, some 36), (63, some 31)], [(63, some 31), (69, some 37)], [(70, some 38)], [(2, none), (71, some 39)], [(71, some 39)], [(72, some 40), (73, some 41), (71, some 39)], [(71, some 39), (74, some 42)], [(75, some 43)], [(3, none), (76, some 44)], [(77, some 45), (76, some 44)], [(76, some 44), (78, some 46)], [(79, some 47)], [(4, none), (80, some 48)], [(80, some 48)], [(80, some 48)], [(83, some 51), (80, some 48)], [(82, some 50), (84, some 52), (80, some 48)], [(81, some 49), (85, some 53), (80, some 48)], [(80, some 48), (86, some 54)], [(87, some 55)], [(5, none), (88, some 56)], [(89, some 57), (88, some 56)], [(88, some 56), (90, some 58)], [(91, some 59)], [(6, none), (92, some 60)], [(92, some 60)], [(94, some 62), (92, some 60)], [(93, some 61), (95, some 63), (92, some 60)], [(92, some 60), (96, some 64)], [(97, some 65)], [(7, none), (98, some 66)], [(99, some 67), (98, some 66)], [(98, some 66), (100, some 68)], [(101, some 69)], [(102, some 70)], [(103, some 71), (102, some 70)], [(102, some 70)], [(105, some 73), (102, some 70)], [(104, some 72), (106, some 74), (102, some 70)], [(102, some 70), (107, some 75)], [(108, some 76)], [(109, some 77)], [(110, some 78), (109, some 77)], [(109, some 77)]] [(80, 112), (79, 111), (78, 110), (77, 109), (76, 108), (75, 107), (74, 106), (73, 105), (72, 104), (71, 103), (70, 102), (69, 101), (68, 100), (67, 99), (66, 98), (65, 97), (64, 96), (63, 95), (62, 94), (61, 93), (60, 92), (59, 91), (58, 90), (57, 89), (56, 88), (55, 87), (54, 86), (53, 85), (52, 84), (51, 83), (50, 82), (49, 81), (48, 80), (47, 79), (46, 78), (45, 77), (44, 76), (43, 75), (42, 74), (41, 73), (40, 72), (39, 71), (38, 70), (37, 69), (36, 68), (35, 67), (34, 66), (33, 65), (32, 64), (31, 63), (30, 62), (29, 61), (28, 60), (27, 59), (26, 58), (25, 57), (24, 56), (23, 55), (22, 54), (21, 53), (20, 52), (19, 51), (18, 50), (17, 49), (16, 48), (15, 47), (14, 46), (13, 45), (12, 44), (11, 43), (10, 42), (9, 41), (8, 40), (7, 39), (6, 38), (5, 37), (4, 36), (3, 35), (2, 34), (1, 33), (0, 32)] hh mixed Tz e8 rfl (by repeat (first | exact cB | refine bO ?_ | refine cA ?_)) ?_
 refine sC [_] ?_;refine aR (i := 1) (ea [1] 1) ea.ext ?_ ?_
 ·intro ρ1 w1 hj hR;obtain ⟨A32, c32, h32, s32⟩ := hR.1;exact a8 rfl (aM ak.out (aw rfl (aw h32 aX))) (qG 1 [1] A32 1 c32 _ s32 Ty rfl Ty) (fun _ _ ⟨v, hq, hp, hb⟩ => ⟨v, hq, hb, hp⟩)
 refine sC [_] ?_;refine aR (i := 3) (Rows 1 6 (az SR.cells (jX [1]))) Rows.ext ?_ ?_
 ·intro ρ1 w1 hj hR;obtain ⟨A34, c34, h34, s34⟩ := hR.1;exact a8 rfl (aM ak.out (aw h34 aX)) (F3 [1] A34 1 c34 _ s34 rfl Ty) (fun _ _ ⟨v, hq, hp, hb⟩ => ⟨v, hq, hb, hp⟩)
 refine sC [_,_] ?_;refine aR (i := 5) (Is (.bool true)) Is.ext ?_ ?_
 ·intro ρ1 w1 hj hR;obtain ⟨A35, c35, h35, s35⟩ := hR.2.1;obtain ⟨A36, c36, h36, s36⟩ := hR.2.2.1;obtain ⟨g33, e33, o33⟩ := hR.1;exact a8 rfl (aM ak.out (aw e33 (aw h35 (aw rfl (aw h36 aX))))) (Rn 1 [1] [1] [] [0, 1] g33.1 g33.2 A35 1 c35 none 0 0 A36 2 c36 _ (hT.hp hj.hp) o33 s35 (Sl.nil _ _ _) Ty s36 Ty Ty Ty (by decide +kernel)) (fun _ _ hq => ⟨_, hq.1, hq.2, rfl⟩)
 refine nJ ?_;refine aW (i := 7) (cs := [_]) rfl (fun ρ1 w1 hj hR => (show ρ1 38 = Value.bool _ from hR.1)) bg.out aN.out (fun ρ1 w1 hj hR => (aK rfl bP)) rfl rfl Ty Ty rfl ?_;refine aR (i := 8) (ea [1] 1) ea.ext ?_ ?_
 ·intro ρ1 w1 hj hR;obtain ⟨A39, c39, h39, s39⟩ := hR.1;refine a7 rfl ((show ρ1 38 = Value.bool _ from hR.2.1)) ?_;exact a8 rfl (aM ak.out (aw rfl (aw h39 aX))) (qG 1 [1] A39 1 c39 _ s39 Ty rfl Ty) (fun _ _ ⟨v, hq, hp, hb⟩ => ⟨v, hq, hb, hp⟩)
 refine aW (i := 9) (cs := [_]) rfl (fun ρ1 w1 hj hR => (show ρ1 38 = Value.bool _ from hR.1)) bg.out aN.out (fun ρ1 w1 hj hR => (aK rfl bP)) rfl rfl Ty Ty rfl ?_;refine aR (i := 10) (Rows 1 6 (az SR.cells (jX [4]))) Rows.ext ?_ ?_
 ·intro ρ1 w1 hj hR;obtain ⟨A41, c41, h41, s41⟩ := hR.1;refine a7 rfl ((show ρ1 38 = Value.bool _ from hR.2.1)) ?_;exact a8 rfl (aM ak.out (aw h41 aX)) (F3 [4] A41 1 c41 _ s41 rfl Ty) (fun _ _ ⟨v, hq, hp, hb⟩ => ⟨v, hq, hb, hp⟩)
 refine aW (i := 11) (cs := [_, _]) rfl (fun ρ1 w1 hj hR => (show ρ1 38 = Value.bool _ from hR.1)) bg.out aN.out (fun ρ1 w1 hj hR => (aK rfl (aK rfl bP))) rfl rfl Ty Ty rfl ?_;refine aR (i := 12) (Is (.bool true)) Is.ext ?_ ?_
 ·intro ρ1 w1 hj hR;obtain ⟨A42, c42, h42, s42⟩ := hR.2.1;obtain ⟨A43, c43, h43, s43⟩ := hR.2.2.1;obtain ⟨g40, e40, o40⟩ := hR.1;refine a7 rfl ((show ρ1 38 = Value.bool _ from hR.2.2.2.1)) ?_;exact a8 rfl (aM ak.out (aw e40 (aw h42 (aw rfl (aw h43 aX))))) (Rn 1 [1] [4] [] [0, 4] g40.1 g40.2 A42 1 c42 none 0 0 A43 2 c43 _ (hT.hp hj.hp) o40 s42 (Sl.nil _ _ _) Ty s43 Ty Ty Ty (by decide +kernel)) (fun _ _ hq => ⟨_, hq.1, hq.2, rfl⟩)
 refine FJ ?_;refine nJ ?_;refine aW (i := 15) (cs := [_]) rfl (fun ρ1 w1 hj hR => (show ρ1 46 = Value.bool _ from hR.1)) bg.out aN.out (fun ρ1 w1 hj hR => (aK rfl bP)) rfl rfl Ty Ty rfl ?_;refine aR (i := 16) (ea [2] 1) ea.ext ?_ ?_
 ·intro ρ1 w1 hj hR;obtain ⟨A47, c47, h47, s47⟩ := hR.1;refine a7 rfl ((show ρ1 46 = Value.bool _ from hR.2.1)) ?_;exact a8 rfl (aM ak.out (aw rfl (aw h47 aX))) (qG 1 [2] A47 1 c47 _ s47 Ty rfl Ty) (fun _ _ ⟨v, hq, hp, hb⟩ => ⟨v, hq, hb, hp⟩)
 refine aW (i := 17) (cs := [_]) rfl (fun ρ1 w1 hj hR => (show ρ1 46 = Value.bool _ from hR.1)) bg.out aN.out (fun ρ1 w1 hj hR => (aK rfl bP)) rfl rfl Ty Ty rfl ?_;refine aR (i := 18) (Rows 1 6 (az SR.cells (jX [2]))) Rows.ext ?_ ?_
 ·intro ρ1 w1 hj hR;obtain ⟨A49, c49, h49, s49⟩ := hR.1;refine a7 rfl ((show ρ1 46 = Value.bool _ from hR.2.1)) ?_;exact a8 rfl (aM ak.out (aw h49 aX)) (F3 [2] A49 1 c49 _ s49 rfl Ty) (fun _ _ ⟨v, hq, hp, hb⟩ => ⟨v, hq, hb, hp⟩)
 refine aW (i := 19) (cs := [_, _, _]) rfl (fun ρ1 w1 hj hR => (show ρ1 46 = Value.bool _ from hR.1)) bg.out aN.out (fun ρ1 w1 hj hR => (aK rfl (aK rfl (aK rfl bP)))) rfl rfl Ty Ty rfl ?_;refine aR (i := 20) (Is (.bool true)) Is.ext ?_ ?_
 ·intro ρ1 w1 hj hR;obtain ⟨A50, c50, h50, s50⟩ := hR.2.1;obtain ⟨A51, c51, h51, s51⟩ := hR.2.2.1;obtain ⟨g48, e48, o48⟩ := hR.1;refine a7 rfl ((show ρ1 46 = Value.bool _ from hR.2.2.2.1)) ?_;exact a8 rfl (aM ak.out (aw e48 (aw h50 (aw rfl (aw h51 aX))))) (Rn 1 [2] [2] [] [0, 0, 4] g48.1 g48.2 A50 1 c50 none 0 0 A51 3 c51 _ (hT.hp hj.hp) o48 s50 (Sl.nil _ _ _) Ty s51 Ty Ty Ty (by decide +kernel)) (fun _ _ hq => ⟨_, hq.1, hq.2, rfl⟩)
 refine FJ ?_;refine nJ ?_;refine aW (i := 23) (cs := [_]) rfl (fun ρ1 w1 hj hR => (show ρ1 54 = Value.bool _ from hR.1)) bg.out aN.out (fun ρ1 w1 hj hR => (aK rfl bP)) rfl rfl Ty Ty rfl ?_;refine aR (i := 24) (ea [0] 3) ea.ext ?_ ?_
 ·intro ρ1 w1 hj hR;obtain ⟨A55, c55, h55, s55⟩ := hR.1;refine a7 rfl ((show ρ1 54 = Value.bool _ from hR.2.1)) ?_;exact a8 rfl (aM ak.out (aw rfl (aw h55 aX))) (qG 3 [0] A55 1 c55 _ s55 Ty rfl Ty) (fun _ _ ⟨v, hq, hp, hb⟩ => ⟨v, hq, hb, hp⟩)
 refine aW (i := 25) (cs := [_]) rfl (fun ρ1 w1 hj hR => (show ρ1 54 = Value.bool _ from hR.1)) bg.out aN.out (fun ρ1 w1 hj hR => (aK rfl bP)) rfl rfl Ty Ty rfl ?_;refine aR (i := 26) (Rows 1 6 (az SR.cells (jX [1]))) Rows.ext ?_ ?_
 ·intro ρ1 w1 hj hR;obtain ⟨A57, c57, h57, s57⟩ := hR.1;refine a7 rfl ((show ρ1 54 = Value.bool _ from hR.2.1)) ?_;exact a8 rfl (aM ak.out (aw h57 aX)) (F3 [1] A57 1 c57 _ s57 rfl Ty) (fun _ _ ⟨v, hq, hp, hb⟩ => ⟨v, hq, hb, hp⟩)
 refine aR (i := 27) (iW 1 1 (bF [2])) (iW.ext) ?_ ?_
 ·intro ρ1 w1 hj hR;exact a7 rfl (show ρ1 54 = Value.bool _ from hR.1) (iZ (sz := 1) bg.out aN.out (show wI ρ1 [(0, .const (.int .i64 2))] = [(0, .int .i64 2)] from rfl) rfl rfl Ty Ty rfl fun v w2 h hb => ⟨hb, h⟩)
 refine aW (i := 28) (cs := [_, _, _]) rfl (fun ρ1 w1 hj hR => (show ρ1 54 = Value.bool _ from hR.1)) bg.out aN.out (fun ρ1 w1 hj hR => (aK rfl (aK rfl (aK rfl bP)))) rfl rfl Ty Ty rfl ?_;refine aR (i := 29) (Is (.bool true)) Is.ext ?_ ?_
 ·intro ρ1 w1 hj hR;obtain ⟨A58, c58, h58, s58⟩ := hR.2.1;obtain ⟨A60, c60, h60, s60⟩ := hR.2.2.2.1;obtain ⟨g56, e56, o56⟩ := hR.1;obtain ⟨g59, e59, o59⟩ := hR.2.2.1;refine a7 rfl ((show ρ1 54 = Value.bool _ from hR.2.2.2.2.1)) ?_;exact a8 rfl (aM ak.out (aw e56 (aw h58 (aw e59 (aw h60 aX))))) (Rn 3 [0] [1] [2] [3, 6, 3] g56.1 g56.2 A58 1 c58 (some ⟨g59, 0, none⟩) 1 1 A60 3 c60 _ (hT.hp hj.hp) o56 s58 o59 Ty s60 Ty Ty Ty (by decide +kernel)) (fun _ _ hq => ⟨_, hq.1, hq.2, rfl⟩)
 refine FJ ?_;refine nJ ?_;refine aW (i := 32) (cs := [_, _]) rfl (fun ρ1 w1 hj hR => (show ρ1 63 = Value.bool _ from hR.1)) bg.out aN.out (fun ρ1 w1 hj hR => (aK rfl (aK rfl bP))) rfl rfl Ty Ty rfl ?_;refine aR (i := 33) (ea [1, 1] 1) ea.ext ?_ ?_
 ·intro ρ1 w1 hj hR;obtain ⟨A64, c64, h64, s64⟩ := hR.1;refine a7 rfl ((show ρ1 63 = Value.bool _ from hR.2.1)) ?_;exact a8 rfl (aM ak.out (aw rfl (aw h64 aX))) (qG 1 [1, 1] A64 2 c64 _ s64 Ty rfl Ty) (fun _ _ ⟨v, hq, hp, hb⟩ => ⟨v, hq, hb, hp⟩)
 refine aW (i := 34) (cs := [_, _]) rfl (fun ρ1 w1 hj hR => (show ρ1 63 = Value.bool _ from hR.1)) bg.out aN.out (fun ρ1 w1 hj hR => (aK rfl (aK rfl bP))) rfl rfl Ty Ty rfl ?_;refine aR (i := 35) (Rows 2 6 (az SR.cells (jX [1, 1]))) Rows.ext ?_ ?_
 ·intro ρ1 w1 hj hR;obtain ⟨A66, c66, h66, s66⟩ := hR.1;refine a7 rfl ((show ρ1 63 = Value.bool _ from hR.2.1)) ?_;exact a8 rfl (aM ak.out (aw h66 aX)) (F3 [1, 1] A66 2 c66 _ s66 rfl Ty) (fun _ _ ⟨v, hq, hp, hb⟩ => ⟨v, hq, hb, hp⟩)
 refine aW (i := 36) (cs := [_, _, _, _]) rfl (fun ρ1 w1 hj hR => (show ρ1 63 = Value.bool _ from hR.1)) bg.out aN.out (fun ρ1 w1 hj hR => (aK rfl (aK rfl (aK rfl (aK rfl bP))))) rfl rfl Ty Ty rfl ?_;refine aR (i := 37) (Is (.bool true)) Is.ext ?_ ?_
 ·intro ρ1 w1 hj hR;obtain ⟨A67, c67, h67, s67⟩ := hR.2.1;obtain ⟨A68, c68, h68, s68⟩ := hR.2.2.1;obtain ⟨g65, e65, o65⟩ := hR.1;refine a7 rfl ((show ρ1 63 = Value.bool _ from hR.2.2.2.1)) ?_;exact a8 rfl (aM ak.out (aw e65 (aw h67 (aw rfl (aw h68 aX))))) (Rn 1 [1, 1] [1, 1] [] [0, 0, 0, 1] g65.1 g65.2 A67 2 c67 none 0 0 A68 4 c68 _ (hT.hp hj.hp) o65 s67 (Sl.nil _ _ _) Ty s68 Ty Ty Ty (by decide +kernel)) (fun _ _ hq => ⟨_, hq.1, hq.2, rfl⟩)
 refine FJ ?_;refine nJ ?_;refine dG (fT 5 [_,_,_] ?_);refine lT (i := 41) rfl (fun ρ1 w1 hj hR => (show ρ1 71 = Value.bool _ from hR.1)) (fun ρ1 w1 hj hR => aM ak.out (aw rfl aX)) (fun w1 hj => k5 1 _ Ty Ty) ?_;refine xk (i := 42) rfl (fun ρ1 w1 hj hR => (show ρ1 71 = Value.bool _ from hR.2.2.1)) (fun ρ1 w1 hj hR => Em (show ρ1 72 = Value.agg (List.toArray _) from hR.1) (show ρ1 73 = Value.agg (List.toArray _) from hR.2.1) (by first | assumption | rfl)) ?_;refine FJ ?_;refine nJ ?_;refine dG (dE ?_);refine dG (yi ?_);refine FJ ?_;refine nJ ?_;refine dG (fT 2 [_,_] ?_);refine aW (i := 50) (cs := [_]) rfl (fun ρ1 w1 hj hR => (show ρ1 80 = Value.bool _ from hR.1)) bg.out aN.out (fun ρ1 w1 hj hR => (aK rfl bP)) rfl rfl Ty Ty rfl ?_;refine aW (i := 51) (cs := [_, _]) rfl (fun ρ1 w1 hj hR => (show ρ1 80 = Value.bool _ from hR.1)) bg.out aN.out (fun ρ1 w1 hj hR => (aK rfl (aK rfl bP))) rfl rfl Ty Ty rfl ?_;refine aR (i := 52) (Rows 2 3 (az NR.cells ([0, 8].map er))) Rows.ext ?_ ?_
 ·intro ρ1 w1 hj hR;obtain ⟨A83, c83, h83, s83⟩ := hR.1;refine a7 rfl ((show ρ1 80 = Value.bool _ from hR.2.1)) ?_;exact a8 rfl (aM ak.out (aw h83 aX)) (Qr [0, 8] A83 2 c83 _ s83 rfl Ty) (fun _ _ ⟨v, hq, hp, hb⟩ => ⟨v, hq, hb, hp⟩)
 refine aR (i := 53) (wQ [1] ([0, 8].map er)) (wQ.ext) ?_ ?_
 ·intro ρ1 w1 hj hR;obtain ⟨A82, c82, h82, s82⟩ := hR.1;obtain ⟨A84, c84, h84, s84⟩ := hR.2.1;exact a7 rfl (show ρ1 80 = Value.bool _ from hR.2.2.1) (fC rfl (sy (cs := [_, _]) aN.out kF.out (aK h82 (aK h84 bP)) rfl) ⟨Below.refl _ _, ⟨A82, 1, c82, A84, 2, c84, [1], [0, 8].map er⟩, rfl, rfl, rfl, ⟨s82, s84⟩⟩)
 refine aR (i := 54) (Is (.bool true)) Is.ext ?_ ?_
 ·intro ρ1 w1 hj hR;obtain ⟨g85, e85, o85⟩ := hR.2.1;refine a7 rfl ((show ρ1 80 = Value.bool _ from hR.2.2.1)) ?_;exact a8 rfl (aM ak.out (aw (show ρ1 81 = Value.agg (List.toArray _) from hR.1) (aw e85 aX))) (Po g g85 _ og ⟨hj.hp.aC (i := 4) rfl, hj.hp.aC (i := 3) rfl⟩ o85) (fun _ _ hq => ⟨_, hq.1, hq.2, rfl⟩)
 refine FJ ?_;refine nJ ?_;refine dG (dE ?_);refine dG (yi ?_);refine FJ ?_;refine nJ ?_;refine dG (fT 0 [_,_] ?_);refine aW (i := 62) (cs := [_]) rfl (fun ρ1 w1 hj hR => (show ρ1 92 = Value.bool _ from hR.1)) bg.out aN.out (fun ρ1 w1 hj hR => (aK rfl bP)) rfl rfl Ty Ty rfl ?_;refine aR (i := 63) (ea [2] 4) ea.ext ?_ ?_
 ·intro ρ1 w1 hj hR;obtain ⟨A94, c94, h94, s94⟩ := hR.1;refine a7 rfl ((show ρ1 92 = Value.bool _ from hR.2.1)) ?_;exact a8 rfl (aM ak.out (aw rfl (aw h94 aX))) (qG 4 [2] A94 1 c94 _ s94 Ty rfl Ty) (fun _ _ ⟨v, hq, hp, hb⟩ => ⟨v, hq, hb, hp⟩)
 refine aR (i := 64) (Is (.bool true)) Is.ext ?_ ?_
 ·intro ρ1 w1 hj hR;obtain ⟨g95, e95, o95⟩ := hR.2.1;refine a7 rfl ((show ρ1 92 = Value.bool _ from hR.2.2.1)) ?_;exact a8 rfl (aM ak.out (aw (show ρ1 93 = Value.agg (List.toArray _) from hR.1) (aw e95 aX))) (Pd g30 g95 _ o30 (hj.hp.aC (i := 1) rfl) o95) (fun _ _ hq => ⟨_, hq.1, hq.2, rfl⟩)
 refine FJ ?_;refine nJ ?_;refine dG (dE ?_);refine dG (yi ?_);refine FJ ?_;refine nJ ?_;refine aW (i := 71) (cs := [_]) rfl (fun ρ1 w1 hj hR => (show ρ1 102 = Value.bool _ from hR.1)) bg.out aN.out (fun ρ1 w1 hj hR => (aK rfl bP)) rfl rfl Ty Ty rfl ?_;refine aR (i := 72) (Rows 3 3 (az NR.cells ([1, 2, 1].map er))) Rows.ext ?_ ?_
 ·intro ρ1 w1 hj hR;obtain ⟨A103, c103, h103, s103⟩ := hR.1;refine a7 rfl ((show ρ1 102 = Value.bool _ from hR.2.1)) ?_;exact a8 rfl (aM ak.out (aw h103 aX)) (SG [2] [1, 2, 1] A103 1 c103 _ (hT.hp hj.hp) s103 (by decide +kernel)) (fun _ _ ⟨v, hq, hp, hb⟩ => ⟨v, hq, hb, hp⟩)
 refine aW (i := 73) (cs := [_, _, _]) rfl (fun ρ1 w1 hj hR => (show ρ1 102 = Value.bool _ from hR.1)) bg.out aN.out (fun ρ1 w1 hj hR => (aK rfl (aK rfl (aK rfl bP)))) rfl rfl Ty Ty rfl ?_;refine aR (i := 74) (Rows 3 3 (az NR.cells ([1, 2, 1].map er))) Rows.ext ?_ ?_
 ·intro ρ1 w1 hj hR;obtain ⟨A105, c105, h105, s105⟩ := hR.1;refine a7 rfl ((show ρ1 102 = Value.bool _ from hR.2.1)) ?_;exact a8 rfl (aM ak.out (aw h105 aX)) (Qr [1, 2, 1] A105 3 c105 _ s105 rfl Ty) (fun _ _ ⟨v, hq, hp, hb⟩ => ⟨v, hq, hb, hp⟩)
 refine aR (i := 75) (Is (.bool true)) Is.ext ?_ ?_
 ·intro ρ1 w1 hj hR;obtain ⟨A104, c104, h104, s104⟩ := hR.1;obtain ⟨A106, c106, h106, s106⟩ := hR.2.1;refine a7 rfl ((show ρ1 102 = Value.bool _ from hR.2.2.1)) ?_;exact a8 rfl (aM ak.out (aw h104 (aw h106 aX))) (j4 A104 3 c104 ([1, 2, 1].map er) A106 c106 _ s104 s106 Ty) (fun _ _ hq => ⟨_, hq.1, hq.2, rfl⟩)
 refine FJ ?_;refine nJ ?_;refine aW (i := 78) (cs := [_, _]) rfl (fun ρ1 w1 hj hR => (show ρ1 109 = Value.bool _ from hR.1)) bg.out aN.out (fun ρ1 w1 hj hR => (aK rfl (aK rfl bP))) rfl rfl Ty Ty rfl ?_;refine aR (i := 79) (Rows 6 3 (az NR.cells ([1, 2, 1, 1, 2, 1].map er))) Rows.ext ?_ ?_
 ·intro ρ1 w1 hj hR;obtain ⟨A110, c110, h110, s110⟩ := hR.1;refine a7 rfl ((show ρ1 109 = Value.bool _ from hR.2.1)) ?_;exact a8 rfl (aM ak.out (aw h110 aX)) (SG [1, 2] [1, 2, 1, 1, 2, 1] A110 2 c110 _ (hT.hp hj.hp) s110 (by decide +kernel)) (fun _ _ ⟨v, hq, hp, hb⟩ => ⟨v, hq, hb, hp⟩)
 refine aW (i := 80) (cs := [_, _, _, _, _, _]) rfl (fun ρ1 w1 hj hR => (show ρ1 109 = Value.bool _ from hR.1)) bg.out aN.out (fun ρ1 w1 hj hR => (aK rfl (aK rfl (aK rfl (aK rfl (aK rfl (aK rfl bP))))))) rfl rfl Ty Ty rfl ?_;refine aT ?_;intro f W hJ hV _;have hb_5 := hJ.bl;obtain ⟨v112, v111, v110, v109, v108, v107, v106, v105, v104, v103, v102, v101, v100, v99, v98, v97, v96, v95, v94, v93, v92, v91, v90, v89, v88, v87, v86, v85, v84, v83, v82, v81, v80, v79, v78, v77, v76, v75, v74, v73, v72, v71, v70, v69, v68, v67, v66, v65, v64, v63, v62, v61, v60, v59, v58, v57, v56, v55, v54, v53, v52, v51, v50, v49, v48, v47, v46, v45, v44, v43, v42, v41, v40, v39, v38, v37, v36, v35, v34, v33, v32, _⟩ := hV;obtain ⟨A32, c32, e32, f32⟩ : Rows _ _ _ (f 0) W := v32;obtain ⟨g33, e33, o33⟩ : ea [1] 1 (f 1) W := v33;obtain ⟨A34, c34, e34, f34⟩ : Rows _ _ _ (f 2) W := v34;obtain ⟨A35, c35, e35, f35⟩ : Rows _ _ _ (f 3) W := v35;obtain ⟨A36, c36, e36, f36⟩ : Rows _ _ _ (f 4) W := v36;obtain ⟨A39, c39, e39, f39⟩ : Rows _ _ _ (f 7) W := v39;obtain ⟨g40, e40, o40⟩ : ea [1] 1 (f 8) W := v40;obtain ⟨A41, c41, e41, f41⟩ : Rows _ _ _ (f 9) W := v41;obtain ⟨A42, c42, e42, f42⟩ : Rows _ _ _ (f 10) W := v42
 obtain ⟨A43, c43, e43, f43⟩ : Rows _ _ _ (f 11) W := v43;obtain ⟨A47, c47, e47, f47⟩ : Rows _ _ _ (f 15) W := v47;obtain ⟨g48, e48, o48⟩ : ea [2] 1 (f 16) W := v48;obtain ⟨A49, c49, e49, f49⟩ : Rows _ _ _ (f 17) W := v49;obtain ⟨A50, c50, e50, f50⟩ : Rows _ _ _ (f 18) W := v50;obtain ⟨A51, c51, e51, f51⟩ : Rows _ _ _ (f 19) W := v51;obtain ⟨A55, c55, e55, f55⟩ : Rows _ _ _ (f 23) W := v55;obtain ⟨g56, e56, o56⟩ : ea [0] 3 (f 24) W := v56;obtain ⟨A57, c57, e57, f57⟩ : Rows _ _ _ (f 25) W := v57;obtain ⟨A58, c58, e58, f58⟩ : Rows _ _ _ (f 26) W := v58;obtain ⟨g59, e59, o59⟩ : iW 1 1 (bF [2]) (f 27) W := v59;obtain ⟨A60, c60, e60, f60⟩ : Rows _ _ _ (f 28) W := v60;obtain ⟨A64, c64, e64, f64⟩ : Rows _ _ _ (f 32) W := v64;obtain ⟨g65, e65, o65⟩ : ea [1, 1] 1 (f 33) W := v65;obtain ⟨A66, c66, e66, f66⟩ : Rows _ _ _ (f 34) W := v66;obtain ⟨A67, c67, e67, f67⟩ : Rows _ _ _ (f 35) W := v67;obtain ⟨A68, c68, e68, f68⟩ : Rows _ _ _ (f 36) W := v68;obtain ⟨A82, c82, e82, f82⟩ : Rows _ _ _ (f 50) W := v82;obtain ⟨A83, c83, e83, f83⟩ : Rows _ _ _ (f 51) W := v83;obtain ⟨A84, c84, e84, f84⟩ : Rows _ _ _ (f 52) W := v84;obtain ⟨g85, e85, o85⟩ : wQ [1] ([0, 8].map er) (f 53) W := v85
 obtain ⟨A94, c94, e94, f94⟩ : Rows _ _ _ (f 62) W := v94;obtain ⟨g95, e95, o95⟩ : ea [2] 4 (f 63) W := v95;obtain ⟨A103, c103, e103, f103⟩ : Rows _ _ _ (f 71) W := v103;obtain ⟨A104, c104, e104, f104⟩ : Rows _ _ _ (f 72) W := v104;obtain ⟨A105, c105, e105, f105⟩ : Rows _ _ _ (f 73) W := v105;obtain ⟨A106, c106, e106, f106⟩ : Rows _ _ _ (f 74) W := v106;obtain ⟨A110, c110, e110, f110⟩ : Rows _ _ _ (f 78) W := v110;obtain ⟨A111, c111, e111, f111⟩ : Rows _ _ _ (f 79) W := v111;obtain ⟨A112, c112, e112, f112⟩ : Rows _ _ _ (f 80) W := v112;replace hh := hJ.hp
 refine a6 (bm (ae e112 (ae e111 (ae e110 (ae v109 (ae v108 (ae v107 (ae e106 (ae e105 (ae e104 (ae e103 (ae v102 (ae v101 (ae v100 (ae v99 (ae v98 (ae v97 (ae v96 (ae e95 (ae e94 (ae v93 (ae v92 (ae v91 (ae v90 (ae v89 (ae v88 (ae v87 (ae v86 (ae e85 (ae e84 (ae e83 (ae e82 (ae v81 (ae v80 (ae v79 (ae v78 (ae v77 (ae v76 (ae v75 (ae v74 (ae v73 (ae v72 (ae v71 (ae v70 (ae v69 (ae e68 (ae e67 (ae e66 (ae e65 (ae e64 (ae v63 (ae v62 (ae v61 (ae e60 (ae e59 (ae e58 (ae e57 (ae e56 (ae e55 (ae v54 (ae v53 (ae v52 (ae e51 (ae e50 (ae e49 (ae e48 (ae e47 (ae v46 (ae v45 (ae v44 (ae e43 (ae e42 (ae e41 (ae e40 (ae e39 (ae v38 (ae v37 (ae e36 (ae e35 (ae e34 (ae e33 (ae e32 a0)))))))))))))))))))))))))))))))))))))))))))))))))))))))))))))))))))))))))))))))))) ?_;dsimp only [cg];clear e32 e33 e34 e35 e36 e39 e40 e41 e42 e43 e47 e48 e49 e50 e51 e55 e56 e57 e58 e59 e60 e64 e65 e66 e67 e68 e82 e83 e84 e85 e94 e95 e103 e104 e105 e106 e110 e111 e112 hJ;refine aH rfl rfl ?_;refine aE (lu [1, 2, 1, 1, 2, 1] A112 6 c112 _ f112 (mC rfl) Ty) ak.out rfl Ty ?_;rintro e_ w113 ⟨A113, c113, rfl, h2⟩;refine ⟨_, rfl, ?_⟩;replace hh := hh.ext h2.below;refine aH rfl rfl ?_
 refine bz hh (j4 A111 6 c111 ([1, 2, 1, 1, 2, 1].map er) A113 c113 _ (f111.ext h2.below) (h2.aC (i := 0) rfl) Ty) rfl ?_;intro w114 hh;refine fu ?_;exact vi
theorem jO (a : NR) (w : World) :
  Calls Tryz.prog 43 #[.agg #[.bool a.neg, .string a.bo, .int .i64 a.e]] w fun r w' => r = .returned (.bool (uO a)) ∧ Below w.heap.size w w' := by
 have hh := Hp.start w;by_cases h1 : (8 : Int) < a.bo.size
 ·refine Dn ?_;refine sr ?_;refine cx hh [_,_,_] ?_;intro b1 w1 hh;refine aB (aa (sr (bD (bD ?_))));refine bB hh 0 ?_;refine bG bg.out rfl Ty ?_;refine bM (mB ?_);refine gS (gS (gS ?_));refine fu ?_;refine mB ?_;refine gS (gS (gS ?_));refine fu ?_;refine aB (aa (av ?_));refine cX ?_;refine ⟨?_, hh.below⟩;unfold uO;rw [decide_eq_true (.inl h1)]
 ·by_cases h2 : a.e < -60
  ·refine Dn ?_;refine sr ?_;refine cx hh [_,_,_] ?_;intro b1 w1 hh;refine aB (aa (sr (bD (bD ?_))));refine bB hh 0 ?_;refine bG bg.out rfl Ty ?_;refine bM (mB (gT (bD (gT ?_))));refine bB hh 0 ?_;refine gT ?_;refine bf ?_;refine dK ?_;refine mB ?_;refine gS (gS (gS ?_));refine fu ?_;refine aB (aa (av ?_));refine cX ?_;refine ⟨?_, hh.below⟩;unfold uO;rw [decide_eq_true (.inr (.inl h2))]
  ·by_cases h3 : 60 < a.e
   ·refine Dn ?_;refine sr ?_;refine cx hh [_,_,_] ?_;intro b1 w1 hh;refine aB (aa (sr (bD (bD ?_))));refine bB hh 0 ?_;refine bG bg.out rfl Ty ?_;refine bM (mB (gT (bD (gT ?_))));refine bB hh 0 ?_;refine gT ?_;refine bf ?_;refine dK ?_;refine mB (gT (bD (gT ?_)));refine bB hh 0 ?_;refine gT ?_;refine bM ?_;refine dK ?_;refine aB (aa (av ?_));refine cX ?_;refine ⟨?_, hh.below⟩;unfold uO;rw [decide_eq_true (.inr (.inr h3))]
   ·refine Dn ?_;refine sr ?_;refine cx hh [_,_,_] ?_;intro b1 w1 hh;refine aB (aa (sr (bD (bD ?_))));refine bB hh 0 ?_;refine bG bg.out rfl Ty ?_;refine bM (mB (gT (bD (gT ?_))));refine bB hh 0 ?_;refine gT ?_;refine bf ?_;refine dK ?_;refine mB (gT (bD (gT ?_)));refine bB hh 0 ?_;refine gT ?_;refine bM ?_;refine dK ?_;refine aB (aa (av ?_));refine cX ?_;refine ⟨?_, hh.below⟩;unfold uO;rw [decide_eq_false Tx]
theorem yM (A : Option Addr) (n c : Nat) (ds : List Int) (w : World) (hS : Sl w A n 1 (bF ds)) :
  Calls Tryz.prog 28 #[.slice A n c] w fun r w' => ∃ b : Bool, r = .returned (.bool b) ∧ (b = false → n ≤ 20 ∧ (tW ds ≤ 4096 → tW ds ≤ 200 ∧ ∀ d ∈ ds, ¬ (6 < d ∧ d < 128))) ∧ Below w.heap.size w w' := by
 have hh := Hp.start w;have hln : ds.length = n := by have := hS.1; simpa [bF] using this
 by_cases h1 : 20 < n
 ·refine aj (N := 32) (l := [.slice A n c]) Tryz.func28 rfl rfl (by simp) ?_;refine s7 ?_;refine bM (aa (cT (sr (aB (aa (av (aG ?_)))))));exact zi
 ·have hc := fun w1 hb => nM A n c ds w1 (hS.ext hb) Tx;generalize tW ds = q at *;by_cases h4 : 4096 < q
  ·refine aj (N := 32) (l := [.slice A n c]) Tryz.func28 rfl rfl (by simp) ?_;refine s7 ?_;refine bM (aa (cF (ar (ai (sr (mL ?_))))));refine bz hh (hc _ hh.below) rfl ?_;intro w9 hh;refine aI (aa (ah (sr (mI ?_))));refine bM (aa (cT (sr (aB (aa (av (aG ?_)))))));refine cX ?_;exact ⟨_, rfl, fun _ => ⟨Tx, fun h => absurd h Tx⟩, hh.below⟩
  ·refine aj (N := 32) (l := [.slice A n c]) Tryz.func28 rfl rfl (by simp) ?_;refine s7 ?_;refine bM (aa (cF (ar (ai (sr (mL ?_))))));refine bz hh (hc _ hh.below) rfl ?_;intro w9 hh;refine aI (aa (ah (sr (mI ?_))));refine bM (aa (cF (ar (ai (ah (sr (aI (aa (aq ?_)))))))));refine aP [2, 4, 12, 13, 14, 15, 16, 17, 18, 19, 20, 21, 22, 23, 24, 25, 26, 27, 28, 29] 4
    (fun v w' => ∃ i : Nat, i ≤ n ∧ v = .int .i64 i ∧ (∀ d ∈ ds.take i, ¬ (6 < d ∧ d < 128)) ∧ Hp w [] w')
    (fun v _ => n - (intOf v).toNat) ?_ ?_
   ·exact ⟨0, Nat.zero_le _, rfl, fun d hd => (nomatch hd), hh⟩
   ·clear hh;rintro ρ2 v w2 ⟨j, hj, rfl, hall, hh⟩;by_cases hlt : j < n
    ·obtain ⟨d, hd⟩ := ao (l := ds) (k := j) Tx;have hgd := cj hd;obtain ⟨a1, rfl, hr⟩ := hS.at_ Tx;by_cases h6 : 6 < d
     ·by_cases h128 : d < 128
      ·refine ah (sr (mI (mL (aJ ?_))));refine mD ?_;refine kg ?_;refine gu ?_;refine bM (mB (gT (mL (gT (mI (gT ?_))))));refine kg ?_;refine gT ?_;refine gu ?_;refine gT ?_;refine bf ?_;refine fu ?_;exact D9
      ·refine ah (sr (mI (mL (aJ ?_))));refine mD ?_;refine kg ?_;refine gu ?_;refine bM (mB (gT (mL (gT (mI (gT ?_))))));refine kg ?_;refine gT ?_;refine gu ?_;refine gT ?_;refine bf ?_;refine fu ?_;exact N5
     ·refine ah (sr (mI (mL (aJ ?_))));refine mD ?_;refine kg ?_;refine gu ?_;refine bM (mB ?_);refine gS (gS (gS (gS (gS ?_))));refine dK ?_;exact N5
    ·rw [List.take_of_length_le Tx] at hall;by_cases h3 : 200 < q
     ·refine ah (sr (mI (mL (aJ ?_))));refine bf (aa (cF (aZ (aD (aD (bq (ai (sr (mI ?_)))))))));refine bM (aB (aa (av ?_)));exact zi
     ·refine ah (sr (mI (mL (aJ ?_))));refine bf (aa (cF (aZ (aD (aD (bq (ai (sr (mI ?_)))))))));refine bM (aB (aa (av ?_)));refine cX ?_;exact ⟨_, rfl, fun _ => ⟨Tx, fun _ => ⟨Tx, hall⟩⟩, hh.below⟩
theorem pw (v : Int) (A : Option Addr) (n c : Nat) (ts : List TR) (w : World) (hp : Sl w A n 4 (az TR.cells ts)) :
  Calls Tryz.prog 26 #[.agg #[.int .i64 v, .slice A n c]] w fun r w' => ∃ b : Bool, r = .returned (.bool b) ∧ (b = false → n ≤ 8 ∧ iO 124 ts ∧ ∀ t ∈ ts, t.m.size ≤ 20 ∧ ∀ c ∈ t.m.data.toList, c.toNat ≤ 4) ∧ Below w.heap.size w w' := by
 have hh := Hp.start w;have hln : ts.length = n := hp.bk TR.len Ty;by_cases h1 : 8 < n
 ·refine aj (N := 45) (l := [.agg #[.int .i64 v, .slice A n c]]) Tryz.func26 rfl rfl (by simp) ?_;refine sr ?_;refine cx hh [_,_] ?_;intro b1 w1 hh;refine aB (aa (ah (sr (bD ?_))));refine bB hh 0 ?_;refine aJ ?_;refine bM (aa (cT (sr (aB (aa (av (aG ?_)))))));exact zi
 ·refine aj (N := 45) (l := [.agg #[.int .i64 v, .slice A n c]]) Tryz.func26 rfl rfl (by simp) ?_;refine sr ?_;refine cx hh [_,_] ?_;intro b1 w1 hh;refine aB (aa (ah (sr (bD ?_))));refine bB hh 0 ?_;refine aJ ?_;refine bM (aa (cF (ar (ai (ah (sr (aI (aa (aq ?_)))))))));refine aP [2, 3, 4, 5, 10, 11, 12, 13, 14, 15, 16, 17, 18, 19, 20, 21, 22, 23, 24, 25, 26, 27, 28, 29, 30, 31, 32, 33, 34, 35, 36, 37, 38, 39, 40, 41, 42, 43, 44] 3
   (fun x w' => ∃ i : Nat, i ≤ n ∧ x = .int .i64 i ∧ iO 124 (ts.take i) ∧ (∀ t ∈ ts.take i, t.m.size ≤ 20 ∧ ∀ c ∈ t.m.data.toList, c.toNat ≤ 4) ∧ Hp w [.blk b1 24 [.int .i64 v, .slice A n c] (0, 0)] w')
   (fun v _ => n - (intOf v).toNat) ?_ ?_
  ·exact ⟨0, Nat.zero_le _, rfl, fun t ht => (nomatch ht), fun t ht => (nomatch ht), hh⟩
  ·clear hh;rintro ρ' x_ w' ⟨i, hi, rfl, hall, hsz, hh⟩;by_cases hlt : i < n
   ·obtain ⟨x, hx⟩ := ao (l := ts) (k := i) Tx;obtain ⟨ad, rfl, hr⟩ := hp.at_ Tx;have hfa := fun w1 => jO x.c w1;have hbm := dA x.m;refine ah (sr (mI (bD ?_)));refine bB hh 0 ?_;refine aJ ?_;refine bf (aa (cT (ar (ai (ah (aq (sr (bD ?_))))))));refine bB hh 0 ?_;refine mI ?_;refine cn ?_;refine oT ?_;refine It ?_;refine aS (aa (ah (sr (bD ?_))));refine bB hh 0 ?_;refine mI ?_;refine cn ?_;refine oT ?_;refine ct (vs := [_, _, _]) aN.out rfl (((hr.ext hh.below).recAt TR.len hx).drop 1) rfl Ty ?_;refine bz hh (hfa _) rfl ?_;intro w29 hh
    cases hf : uO x.c with
    | true =>
     refine mB ?_;refine gS (gS (gS ?_));refine fu ?_;exact NY
    | false =>
     by_cases h5 : 20 < x.m.size
     ·refine mB (gT (mS (gT ?_)));refine bG bg.out rfl Ty ?_;refine gT ?_;refine bM ?_;refine dK ?_;exact NY
     ·refine mB (gT (mS (gT ?_)));refine bG bg.out rfl Ty ?_;refine gT ?_;refine bM ?_;refine dK ?_;refine aa (cF (ar (ai (sr (aI (aa (aq ?_)))))));refine aP [2, 5, 35, 36, 37, 38, 39, 40, 41, 42, 43, 44] 5
       (fun y w' => ∃ q : Nat, q ≤ x.m.size ∧ y = .int .i64 q ∧ (∀ c ∈ x.m.data.toList.take q, c.toNat ≤ 4) ∧ Hp w [.blk b1 24 [.int .i64 v, .slice (some ad) n c] (0, 0)] w')
       (fun v _ => x.m.size - (intOf v).toNat) ?_ ?_
      ·exact Hj
      ·clear hh;rintro ρ' y_ w' ⟨q, hq, rfl, hex, hh⟩;by_cases hlq : q < x.m.size
       ·obtain ⟨e, he⟩ := ao (l := x.m.data.toList) (k := q) Tx;have he8 : e.toNat < 256 := e.toNat_lt;by_cases h6 : 4 < e.toNat
        ·refine ah (sr (mI (mS ?_)));refine bG bg.out rfl Ty ?_;refine bf (aa (cT (ar (ai (ah (aq (sr (mS (mI ?_)))))))));refine jG ?_;refine bM (aa (cT (sr (aB (aa (av (bY (aG (aG (bY (bY (aG (aG (bY (aG ?_)))))))))))))));exact zi
        ·refine ah (sr (mI (mS ?_)));refine bG bg.out rfl Ty ?_;refine bf (aa (cT (ar (ai (ah (aq (sr (mS (mI ?_)))))))));refine jG ?_;refine bM (aa (cF (ar (bA (ai (al (mI ?_)))))));refine bh (aI (aA (ai ?_)));refine ⟨⟨q + 1, Tx, rfl, fun t ht => ?_, hh⟩, by show x.m.size - (q + 1) < x.m.size - q; omega, ?_⟩
         ·rw [ay he] at ht
          rcases List.mem_append.1 ht with ht | ht
          ·exact hex t ht
          ·rw [List.mem_singleton.1 ht]; omega
         ·exact dL
       ·rw [List.take_of_length_le Tx] at hex;refine ah (sr (mI (mS ?_)));refine bG bg.out rfl Ty ?_;refine bf (aa (cF (aZ (aD (aD (bq (bA (ai (al (mI ?_))))))))));refine bh (aI (aA (ai ?_)));refine ⟨⟨i + 1, Tx, rfl, fun t ht => ?_, fun t ht => ?_, hh⟩, by show n - (i + 1) < n - i; omega, ?_⟩
        ·exact Qy
        ·rw [ay hx] at ht
         rcases List.mem_append.1 ht with ht | ht
         ·exact hsz t ht
         ·rw [List.mem_singleton.1 ht]; exact ⟨Tx, hex⟩
        ·exact dL
   ·rw [List.take_of_length_le Tx] at hall hsz;refine ah (sr (mI (bD ?_)));refine bB hh 0 ?_;refine aJ ?_;refine zt ?_;refine cX ?_;exact ⟨_, rfl, fun _ => ⟨Tx, hall, hsz⟩, hh.below⟩
theorem zd (A : Option Addr) (n c : Nat) (xs : List NR) (B : Option Addr) (m d : Nat) (b : List SR) (w : World) (hS : Sl w A n 3 (az NR.cells xs)) (hB : Sl w B m 6 (az SR.cells b)) :
  Calls Tryz.prog 27 #[.slice A n c, .slice B m d] w fun r w' => ∃ v : Bool, r = .returned (.bool v) ∧ (v = false → n ≤ 200 ∧ m ≤ 20 ∧ (∀ x ∈ xs, x.ok ∧ Sz 124 x.d) ∧ ∀ s ∈ b, s.fin 124) ∧ Below w.heap.size w w' := by
 have hh := Hp.start w;have hln : xs.length = n := hS.bk NR.len Ty;have hlb : b.length = m := hB.bk SR.len Ty;by_cases h1 : 200 < n
 ·refine HA ?_;refine s7 ?_;refine bM (mB ?_);refine gS (gS (gS ?_));refine fu ?_;refine aa (cT (sr (aB (aa (av (aG ?_))))));exact zi
 ·by_cases h2 : 20 < m
  ·refine HA ?_;refine s7 ?_;refine vN ?_;refine bM ?_;refine dK ?_;refine aa (cT (sr (aB (aa (av (aG ?_))))));exact zi
  ·refine HA ?_;refine s7 ?_;refine vN ?_;refine bM ?_;refine dK ?_;refine aa (cF (ar (ai (ah (sr (aI (aa (aq ?_))))))));refine aP [4, 5, 15, 16, 17, 18, 19, 20, 21, 22, 23, 24, 25] 5
    (fun x w' => ∃ i : Nat, i ≤ n ∧ x = .int .i64 i ∧ (∀ x ∈ xs.take i, x.ok ∧ Sz 124 x.d) ∧ Hp w [] w')
    (fun v _ => n - (intOf v).toNat) ?_ ?_
   ·exact Hj
   ·clear hh;rintro ρ' x_ w' ⟨i, hi, rfl, hall, hh⟩;by_cases hlt : i < n
    ·obtain ⟨x, hx⟩ := ao (l := xs) (k := i) Tx;obtain ⟨ad, rfl, hr⟩ := hS.at_ Tx;have hfa := fun w1 => jO x w1;refine ah (sr (mI (mL (aJ ?_))));refine mD ?_;refine cn ?_;refine ct (vs := [_, _, _]) aN.out rfl ((hr.ext hh.below).recAt NR.len hx) rfl Ty ?_;refine bz hh (hfa _) rfl ?_;intro w25 hh
     cases hf : uO x with
     | true =>
      exact D9
     | false =>
      refine oS ?_;refine bh (aI (aA (ai ?_)));refine ⟨⟨i + 1, Tx, rfl, fun t ht => ?_, hh⟩, by show n - (i + 1) < n - i; omega, ?_⟩
      ·exact Qy
      ·exact dL
    ·rw [List.take_of_length_le Tx] at hall;refine ah (sr (mI (mL (aJ ?_))));refine bf (aa (cF (aZ (aD (aD (bq (ai (ah (sr (aI (aa (aq ?_))))))))))));refine aP [4, 6, 26, 27, 28, 29, 30, 31, 32, 33, 34, 35, 36, 37, 38, 39, 40, 41, 42, 43, 44, 45] 6
      (fun x w' => ∃ i : Nat, i ≤ m ∧ x = .int .i64 i ∧ (∀ s ∈ b.take i, s.fin 124) ∧ Hp w [] w')
      (fun v _ => m - (intOf v).toNat) ?_ ?_
     ·exact Hj
     ·clear hh;rintro ρ' x_ w' ⟨j, hj, rfl, hbx, hh⟩;by_cases hlt2 : j < m
      ·obtain ⟨s, hs⟩ := ao (l := b) (k := j) Tx;obtain ⟨ad, rfl, hr⟩ := hB.at_ Tx;have hf1 := fun w1 => jO s.lo w1;have hf2 := fun w1 => jO s.hi w1;refine ah (sr (mI (mL (aJ ?_))));refine mD ?_;refine kg ?_;refine oT ?_;refine ct (vs := [_, _, _]) aN.out rfl (((((hr.ext hh.below).recAt SR.len hs).drop 0).take 3)) rfl Ty ?_
       cases hg1 : uO s.lo with
       | true =>
        rw [hg1] at hf1;refine bz hh (hf1 _) rfl ?_;intro w37 hh;refine mB ?_;refine gS (gS (gS (gS ?_)));refine iJ ?_;refine iJ ?_;refine fu ?_;exact D9
       | false =>
        rw [hg1] at hf1;refine bz hh (hf1 _) rfl ?_;intro w37 hh;refine mB (gT (mL (gT (mI (gT ?_)))));refine kg ?_;refine gT ?_;refine oT ?_;refine aH rfl rfl ?_;refine ct (vs := [_, _, _]) aN.out rfl (((((hr.ext hh.below).recAt SR.len hs).drop 3).take 3)) rfl Ty ?_
        cases hg2 : uO s.hi with
        | true =>
         rw [hg2] at hf2;refine aH rfl rfl ?_;refine bz hh (hf2 _) rfl ?_;intro w44 hh;refine dK ?_;exact D9
        | false =>
         rw [hg2] at hf2;refine aH rfl rfl ?_;refine bz hh (hf2 _) rfl ?_;intro w44 hh;refine dK ?_;refine oS ?_;refine bh (aI (aA (ai ?_)));refine ⟨⟨j + 1, Tx, rfl, fun t ht => ?_, hh⟩, by show m - (j + 1) < m - j; omega, ?_⟩
         ·rw [ay hs] at ht
          rcases List.mem_append.1 ht with ht | ht
          ·exact hbx t ht
          ·rw [List.mem_singleton.1 ht];obtain ⟨a1, a2⟩ := KO hg1;obtain ⟨a3, a4⟩ := KO hg2;exact ⟨⟨a1, a2⟩, ⟨a3, a4⟩⟩
         ·exact dL
      ·rw [List.take_of_length_le Tx] at hbx;refine ah (sr (mI (mL (aJ ?_))));refine zt ?_;refine cX ?_;exact ⟨_, rfl, fun _ => ⟨Tx, Tx, hall, hbx⟩, hh.below⟩
theorem tF : ∀ (N : Nat) (l : List Nat), l.Nodup → (∀ x ∈ l, x < N) → l.length ≤ N
 | 0, l, _, h => by
  cases l with
  | nil => exact Nat.le_refl _
  | cons x l => exact absurd (h x List.mem_cons_self) Tx
 | N + 1, l, hd, h => by
  by_cases hm : N ∈ l
  ·have h1 := tF N (l.erase N) (hd.erase N) fun x hx => by
    have := (hd.mem_erase_iff).1 hx;have := h x this.2;omega
   rw [List.length_erase_of_mem hm] at h1;omega
  ·have := tF N l hd fun x hx => by
    have := h x hx;have : x ≠ N := fun e => hm (e ▸ hx);omega
   omega
theorem LC {l : List TR} {ds : List Nat} (hr : r9 l) (h : ∀ t ∈ l, lZ ds (cQ t.m)) : l.length ≤ au ds := by
 have h1 := tF (au ds) (l.map fun t => ik ds (cQ t.m)) (by
  unfold List.Nodup;rw [List.pairwise_map];refine List.Pairwise.imp_of_mem (fun {a b} ha hb hl e => ?_) hr;have e2 : cQ a.m = cQ b.m := by rw [← iw (h a ha), e, iw (h b hb)]
  rw [Bh e2, gQ] at hl
  cases hl) (fun x hx => by
  obtain ⟨t, ht, rfl⟩ := List.mem_map.1 hx;exact m9 (h t ht))
 rwa [List.length_map] at h1
theorem O6 {v : Nat} {l : List TR} {B : Nat → Nat} (hs : ∀ t ∈ l, t.m.size = v) (h : l0 B l) : ∀ t ∈ l, lZ ((List.range v).map B) (cQ t.m) := fun t ht => by
 rw [jK];refine ⟨by rw [mq, hs t ht, List.length_map, List.length_range], fun i d r hd hr => ?_⟩;have hi := (List.getElem?_eq_some_iff.1 hd).1;rw [List.length_map, List.length_range] at hi;rw [List.getElem?_map, List.getElem?_range hi] at hd;have := h t ht i;rw [yE, hr] at this;rw [← Option.some.inj hd];exact this
theorem AD {v : Nat} {ts : List TR} {B : Nat → Nat} (h : fH (v : Int) ts = 0) (hb : l0 B ts) : ts.length ≤ au ((List.range v).map B) := by
 obtain ⟨_, _, h3, h4⟩ := cu h;refine LC h4.rj (O6 (fun t ht => ?_) hb);have := h3 t ht;unfold eH at this;rw [Bool.and_eq_true, decide_eq_true_eq] at this;omega
theorem Cv {d a : Nat} (t : Dyadic) (h : a ≤ d) : sm (List.range (d + 1)) (fun r => eb d 1 1 a r * kA d r t) = t ^ a := by
 have e0 : (fun r => eb d 1 1 a r * kA d r t) = fun k => if k < a then 0 else (fun j => nD (bin (d - a) j) * kA d (j + a) t) (k - a) := funext fun k => by
  unfold eb;by_cases hk : k < a
  ·rw [if_pos hk, if_pos hk, Dyadic.zero_mul]
  ·rw [if_neg hk, if_neg hk, iT, iT];show nD (bin (d - a) (k - a)) * 1 * 1 * kA d k t = nD (bin (d - a) (k - a)) * kA d (k - a + a) t;rw [Nat.sub_add_cancel Tx];grind
 have hb := Ic (d - a) t (1 - t);rw [show t + (1 - t) = 1 by grind, iT] at hb;rw [e0, NH d a h fun j => nD (bin (d - a) j) * kA d (j + a) t];have e1 : ∀ j, j ∈ List.range (d - a + 1) → nD (bin (d - a) j) * kA d (j + a) t = t ^ a * (nD (bin (d - a) j) * t ^ j * (1 - t) ^ (d - a - j)) := fun j hj => by
  have := List.mem_range.1 hj;unfold kA;rw [show d - (j + a) = d - a - j by omega, qP];grind
 rw [bE e1, gD, hb];grind
theorem Kb : ∀ (ds s : List Nat) (ts : List Dyadic), lZ ds s → ts.length = ds.length → sm (List.range (au ds)) (fun p => wK 0 ds s (cI ds p) * tR ds (cI ds p) ts) = il s ts
 | [], [], [], _, _ => by show (1 : Dyadic) * 1 + 0 = 1; grind
 | [], _ :: _, _, h, _ => by cases h
 | _ :: _, [], _, h, _ => by cases h
 | [], [], _ :: _, _, h => by cases h
 | _ :: _, _ :: _, [], _, h => by cases h
 | d :: ds, a :: s, t :: ts, h1, h2 => by
  have ih := Kb ds s ts h1.2 (by simpa using h2);rw [sl, il, ← ih, ← Cv t h1.1, ← gD];refine bE fun q _ => ?_;rw [← kz];refine bE fun r hr => ?_;have hr2 := List.mem_range.1 hr;rw [cI, Nat.add_mul_mod_self_left, Nat.mod_eq_of_lt hr2, Nat.add_mul_div_left _ _ Tx, Nat.div_eq_of_lt hr2, Nat.zero_add, tR];show eb d 1 1 a r * wK 0 ds s (cI ds q) * _ = _;grind
theorem wL : ∀ (s : List Nat) (ts : List Dyadic) (a : Nat) (t : Dyadic), s.length = ts.length → il (s ++ [a]) (ts ++ [t]) = il s ts * t ^ a
 | [], [], a, t, _ => by show t ^ a * 1 = 1 * t ^ a; grind
 | [], _ :: _, _, _, h => by cases h
 | _ :: _, [], _, _, h => by cases h
 | b :: s, u :: ts, a, t, h => by
  show u ^ b * il (s ++ [a]) (ts ++ [t]) = u ^ b * il s ts * t ^ a;rw [wL s ts a t (by simpa using h)];grind
theorem BI : ∀ (s : List Nat) (ts : List Dyadic), s.length = ts.length → il s.reverse ts.reverse = il s ts
 | [], [], _ => rfl
 | [], _ :: _, h => by cases h
 | _ :: _, [], h => by cases h
 | b :: s, u :: ts, h => by
  rw [List.reverse_cons, List.reverse_cons, wL _ _ _ _ (by simpa using h), BI s ts (by simpa using h), il];grind
theorem P0 {ns : List Nat} {S : List TR} {ts : List Dyadic} (hS : ∀ t ∈ S, lZ ns.reverse (cQ t.m).reverse) (ht : ts.length = ns.length) : fI ns.reverse (pR ns S) ts = lY ts.reverse S := by
 unfold fI;have e1 : sm (List.range (au ns.reverse)) (fun p => ((pR ns S)[p]?).getD 0 * tR ns.reverse (cI ns.reverse p) ts) = sm (List.range (au ns.reverse)) fun p => sm S fun t => t.c.d * (wK 0 ns.reverse (cQ t.m).reverse (cI ns.reverse p) * tR ns.reverse (cI ns.reverse p) ts) := bE fun p hp => by
  unfold pR;rw [List.getElem?_map, List.getElem?_range (List.mem_range.1 hp)];show wS _ S * _ = _;rw [Er, ← kz];exact bE fun t _ => by grind
 rw [e1, sw];unfold lY;rw [Er];refine bE fun t h => ?_;rw [gD, Kb _ _ _ (hS t h) (by rw [List.length_reverse]; exact ht)];have hl := x6 (hS t h);rw [List.length_reverse, List.length_reverse] at hl;have := BI (cQ t.m).reverse ts (by rw [List.length_reverse, hl, ht]);rw [List.reverse_reverse] at this;rw [this]
theorem L0 (f : ByteArray → Dyadic) (c : Dyadic) (l : List TR) : wS f (l.map (qQ c)) = wS f l * c := by
 induction l with
 | nil => exact (Dyadic.zero_mul _).symm
 | cons t l ih =>
  rw [List.map_cons, wS, wS, ih];show (nR (t.c.d * c)).d * f t.m + _ = _;rw [cf];grind
theorem y4 : ∀ (v i : Nat) (xs : List Dyadic), xs.length = v → i < v → il (((List.replicate v 0).set i 1)) xs = (xs[i]?).getD 0
 | 0, _, _, _, h => absurd h (Nat.not_lt_zero _)
 | v + 1, i, [], h, _ => by cases h
 | v + 1, 0, x :: xs, h, _ => by
  show x ^ 1 * il (List.replicate v 0) xs = x;rw [k9];grind
 | v + 1, i + 1, x :: xs, h, hi => by
  show x ^ 0 * il ((List.replicate v 0).set i 1) xs = (xs[i]?).getD 0;rw [y4 v i xs (by simpa using h) Tx, Dyadic.pow_zero];grind
theorem Kc (v i : Nat) : cQ (kE v i) = (List.replicate v 0).set i 1 := by
 unfold cQ kE;show ((((List.replicate (v : Int).toNat (0 : UInt8)).set i 1).toArray).toList).map UInt8.toNat = _;rw [List.toList_toArray, List.map_set, List.map_replicate]
 rfl
theorem wM (v : Nat) : cQ (cR v) = List.replicate v 0 := by
 unfold cQ cR;show (((List.replicate (v : Int).toNat (0 : UInt8)).toArray).toList).map UInt8.toNat = _;rw [List.toList_toArray, List.map_replicate]
 rfl
theorem Jk {v i : Nat} {s : SR} {xs : List Dyadic} (hx : xs.length = v) (hi : i < v) : lY xs (gP v i s) = s.L + (s.H - s.L) * (xs[i]?).getD 0 := by
 unfold gP kX ub mF;rw [fM, oC, fM, fM];have e1 : lY xs [⟨cR v, nR s.L⟩] = s.L := by
  show (nR s.L).d * il (cQ (cR v)) xs + 0 = _;rw [cf, wM, k9];grind
 have e2 : lY xs ((aF [⟨kE v i, nR ((1 : Int) : Dyadic)⟩]).map (qQ (s.H - s.L))) = (xs[i]?).getD 0 * (s.H - s.L) := by
  unfold lY;rw [L0, qC];show ((nR ((1 : Int) : Dyadic)).d * il (cQ (kE v i)) xs + 0) * _ = _;rw [cf, Kc, y4 v i xs hx hi, show (((1 : Int) : Dyadic)) = 1 from rfl];grind
 rw [e1, e2];grind
def Km (b : List SR) (xs : List Dyadic) : List Dyadic := b.mapIdx fun i s => s.L + (s.H - s.L) * (xs[i]?).getD 0
theorem GW {b : List SR} {xs : List Dyadic} (hx : xs.length = b.length) : (br b).map (fun g => lY xs g.ts) = Km b xs := by
 refine List.ext_getElem? fun i => ?_;unfold Km;rw [List.getElem?_map, List.getElem?_mapIdx]
 cases hs : b[i]? with
 | none =>
  rw [List.getElem?_eq_none (by rw [jQ]; exact List.getElem?_eq_none_iff.1 hs)]
  rfl
 | some s =>
  rw [ig hs];show some (lY xs (gP b.length i s)) = some _;rw [Jk hx (List.getElem?_eq_some_iff.1 hs).1]
theorem KF {p : PX} {b : List SR} {xs : List Dyadic} (h0 : (da p (br b)).1 = 0) (hx : xs.length = b.length) : lY xs (da p (br b)).2 = lY (Km b xs) p.ts := by
 rw [O1 h0, GW hx]
theorem Du : ∀ (ds : List Nat), (∀ d ∈ ds, d ≤ 5) → 2 ^ ds.sum ≤ au ds * au ds
 | [], _ => Nat.le_refl _
 | d :: ds, h => by
  have h1 := Du ds fun x hx => h x (List.mem_cons_of_mem _ hx);have h2 := h d List.mem_cons_self;have h3 : 2 ^ d ≤ (d + 1) * (d + 1) := by
   match d, h2 with
   | 0, _ => decide
   | 1, _ => decide
   | 2, _ => decide
   | 3, _ => decide
   | 4, _ => decide
   | 5, _ => decide
  rw [List.sum_cons, Nat.pow_add, au];have := Nat.mul_le_mul h3 h1
  calc 2 ^ d * 2 ^ ds.sum ≤ (d + 1) * (d + 1) * (au ds * au ds) := this
   _ = (d + 1) * au ds * ((d + 1) * au ds) := by rw [Nat.mul_mul_mul_comm]
theorem O8 {ds : List Nat} {s C : Nat} (h : ∀ d ∈ ds, d ≤ 5) (hc : au ds ≤ C) (hs : C * C < 2 ^ (s + 1)) : ds.sum ≤ s := by
 have h1 := Du ds h;have h2 := Nat.mul_le_mul hc hc;have h3 : 2 ^ ds.sum < 2 ^ (s + 1) := Tx;have := (Nat.pow_lt_pow_iff_right (by decide : 1 < 2)).1 h3;omega
theorem wy (c k : Nat) : ∀ ds : List Nat, eZ c ds k = k + ds.sum * c + ds.length * 8192
 | [] => by rw [qe]; simp
 | d :: ds => by
  rw [oB, wy c k ds, List.sum_cons, List.length_cons, Nat.add_mul, Nat.succ_mul];omega
theorem QM {ns : List Nat} {S : List TR} {k : Nat} (hS : ∀ t ∈ S, lZ ns.reverse (cQ t.m).reverse) (hk : iO k S) (hd : ∀ d ∈ ns, d ≤ 127) : ∀ x ∈ pR ns S, Sz (k + S.length + 520 * ns.length) x := by
 rw [← AF hS];exact Cq (ND hk) (fun d h => hd d (List.mem_reverse.1 h)) ns.length
theorem GS {v : Int} {a b : TR} (ha : eH v a = true) (hb : eH v b = true) (h : ∀ i, fw i a + fw i b ≤ 127) : mm a.m b.m = 0 := by
 unfold eH at ha hb;rw [Bool.and_eq_true, decide_eq_true_eq] at ha hb;have hl : b.m.data.toList.length = a.m.data.toList.length := by rw [← dA, ← dA]; omega
 unfold mm;rw [ER ha.1 hb.1 hl];rw [List.all_eq_true];intro z hz;obtain ⟨i, hi⟩ := List.mem_iff_getElem?.1 hz;rw [List.getElem?_zipWith] at hi
 cases hx : (ints a.m.data.toList)[i]? with
 | none => rw [hx] at hi; cases hi
 | some x =>
  cases hy : (ints b.m.data.toList)[i]? with
  | none => rw [hx, hy] at hi; cases hi
  | some y =>
   rw [hx, hy] at hi;have e : x + y = z := Option.some.inj hi;unfold ints at hx hy;rw [List.getElem?_map] at hx hy;obtain ⟨c, hc, rfl⟩ := Option.map_eq_some_iff.1 hx;obtain ⟨d, hd, rfl⟩ := Option.map_eq_some_iff.1 hy;have := h i;rw [mQ hc, mQ hd] at this;unfold cw;rw [← e, Bool.and_eq_true, decide_eq_true_eq, decide_eq_true_eq];omega
theorem wT {v : Nat} {q p : List TR} {sub : List TR → Int × List TR} {j d N T : Nat} {E : Nat → Nat} (hv : v ≤ 12) (hq : fH v q = 0) (hqT : q.length ≤ T) (hqB : l0 (fun x => if x = j then 1 else 0) q) (hD : ∀ t ∈ p, fw j t ≤ d) (hE : E j = 0) (hd : d ≤ 127) (hE2 : ∀ x, E x ≤ 127)
  (hs : ∀ n, (sub (bI p j n)).1 = 0 ∧ fH v (sub (bI p j n)).2 = 0 ∧ l0 E (sub (bI p j n)).2) (hN : au ((List.range v).map fun x => if x = j then d else E x) ≤ N) (hNT : N * T + N ≤ 4096) :
  ∀ i, i ≤ 128 → (bZ q sub p j i).1 = 0 ∧ fH v (bZ q sub p j i).2 = 0
 | 0, _ => ⟨rfl, (ky.nil (k := 0) (fD hv)).e⟩
 | i + 1, hi => by
  obtain ⟨h1, h2⟩ := wT hv hq hqT hqB hD hE hd hE2 hs hN hNT i Tx;have hb := tg hqB hD hE (fun n _ => (hs n).2.2) i Tx h1;have hl : (bZ q sub p j i).2.length ≤ N := Nat.le_trans (AD h2 (hb.mono fun x => by
   by_cases hx : x = j
   ·rw [if_pos hx, if_pos hx]; omega
   ·rw [if_neg hx, if_neg hx]; exact Nat.le_refl _)) hN
  have hls : ∀ n, (sub (bI p j n)).2.length ≤ N := fun n => Nat.le_trans (AD (hs n).2.1 ((hs n).2.2.mono fun x => by
   by_cases hx : x = j
   ·rw [if_pos hx, hx, hE]; exact Nat.zero_le _
   ·rw [if_neg hx]; exact Nat.le_refl _)) hN
  obtain ⟨f1, f2, f3, f4⟩ := cu h2;obtain ⟨q1, q2, q3, q4⟩ := cu hq;have hpl : (cC (bZ q sub p j i).2 q).length ≤ N * T := by rw [lf]; exact Nat.mul_le_mul hl hqT
  have hpe : ∀ e ∈ ri (bZ q sub p j i).2 q, e = 0 := fun e he => by
   by_cases hlow : i + d ≤ 127
   ·rw [jR hD i hlow] at he
    cases he
   ·obtain ⟨x, hx, he⟩ := List.mem_flatMap.1 he;obtain ⟨y, hy, rfl⟩ := List.mem_map.1 he;refine GS (f3 x hx) (q3 y hy) fun r => ?_;have a1 := hb x hx r;have a2 := hqB y hy r;have a3 := hE2 r;by_cases hr : r = j
    ·simp only [if_pos hr] at a1 a2; omega
    ·simp only [if_neg hr] at a1 a2; omega
  have htm : fy (bZ q sub p j i).2 q = 0 := by
   rw [At (by rw [← lf]; omega) hpe, gU Tx]
  obtain ⟨s1, s2, s3⟩ := hs (127 - i);have hgl := bQ (cC (bZ q sub p j i).2 q);have hg : gR (aF (cC (bZ q sub p j i).2 q) ++ (sub (bI p j (127 - i))).2) = 0 := gU (by rw [List.length_append]; have := hls (127 - i); omega);rw [lM];unfold iG;rw [if_neg (fun c => c h1)];by_cases c1 : (bZ q sub p j i).2.length = 0 ∧ (bI p j (127 - i)).length = 0
  ·rw [if_pos c1]; exact ⟨h1, h2⟩
  ·rw [if_neg c1, if_neg (fun c => c htm), if_neg (fun c => c s1), if_neg (fun c => c hg)];refine ⟨rfl, eP (fD hv) (DM hg) fun t ht => (List.mem_append.1 ht).elim (tN (vI f3 hpe) t) ((cu s2).2.2.1 t)⟩
theorem IA {f g : Nat → Nat} (l : List Nat) (h : ∀ x, f x ≤ g x) : au (l.map f) ≤ au (l.map g) := by
 induction l with
 | nil => exact Nat.le_refl _
 | cons x l ih => exact Nat.mul_le_mul (Nat.succ_le_succ (h x)) ih
theorem zm {v N T : Nat} (hv : v ≤ 12) (D : Nat → Nat) (hD7 : ∀ x, D x ≤ 127) (hN : au ((List.range v).map D) ≤ N) (hNT : N * T + N ≤ 4096) : ∀ (qs : List (List TR)) (j : Nat) (p : List TR), (∀ (i : Nat) (q : List TR), qs[i]? = some q → fH v q = 0 ∧ q.length ≤ T ∧ l0 (fun x => if x = j + i then 1 else 0) q) → (∀ t ∈ p, ∀ i, i < qs.length → fw (j + i) t ≤ D (j + i)) →
  (fP v qs j p).1 = 0 ∧ fH v (fP v qs j p).2 = 0
 | [], j, p, _, _ => ⟨rfl, eP (fD hv) (Nat.le_trans (bQ _) (by show 1 ≤ 4096; decide)) fun t ht => by
   rw [List.mem_singleton.1 ht];unfold eH;rw [Bool.and_eq_true, decide_eq_true_eq];exact ⟨m0 v, jH Tx⟩⟩
 | q :: qs, j, p, hq, hp => by
  obtain ⟨q1, q2, q3⟩ := hq 0 q rfl;rw [Nat.add_zero] at q3;have hpw : ∀ n, ∀ t ∈ bI p j n, ∀ i, i < qs.length → fw (j + 1 + i) t ≤ D (j + 1 + i) := fun n t ht i hi => by
   have := hp t (jJ t ht) (i + 1) (by rw [List.length_cons]; omega);rwa [show j + 1 + i = j + (i + 1) by omega]
  have hqs : ∀ (i : Nat) (r : List TR), qs[i]? = some r → fH v r = 0 ∧ r.length ≤ T ∧ l0 (fun x => if x = j + 1 + i then 1 else 0) r := fun i r hr => by
   have := hq (i + 1) r (by simpa using hr);rwa [show j + 1 + i = j + (i + 1) by omega]
  have hs : ∀ n, (fP v qs (j + 1) (bI p j n)).1 = 0 ∧ fH v (fP v qs (j + 1) (bI p j n)).2 = 0 ∧ l0 (fun x => if j + 1 ≤ x ∧ x < j + 1 + qs.length then D x else 0) (fP v qs (j + 1) (bI p j n)).2 := fun n => by
   obtain ⟨a1, a2⟩ := zm hv D hD7 hN hNT qs (j + 1) (bI p j n) hqs (hpw n);exact ⟨a1, a2, Ev qs (j + 1) (bI p j n) D (fun i r hr => (hqs i r hr).2.2) (hpw n) a1⟩
  rw [wU];exact wT (d := D j) (E := fun x => if j + 1 ≤ x ∧ x < j + 1 + qs.length then D x else 0) hv q1 q2 q3 (fun t ht => hp t ht 0 (by rw [List.length_cons]; omega)) (by rw [if_neg Tx]) (hD7 j) (fun x => by
   split
   ·exact hD7 x
   ·exact Nat.zero_le _) hs (Nat.le_trans (IA _ fun x => by
   by_cases hx : x = j
   ·rw [if_pos hx, hx]; exact Nat.le_refl _
   ·rw [if_neg hx];split
    ·exact Nat.le_refl _
    ·exact Nat.zero_le _) hN) hNT 128 (Nat.le_refl _)
theorem F2 {p : PX} {ls : List PX} {ds : List Nat} {v N T : Nat} (hv : v ≤ 12) (h0 : p.e = 0) (hpv : p.v = (ls.length : Int)) (hn : 0 < ls.length) (hl : ds.length = v) (hlv : ls.length = v) (hls : ∀ (i : Nat) (g : PX), ls[i]? = some g → g.v = (v : Int) ∧ fH v g.ts = 0 ∧ g.ts.length ≤ T ∧ l0 (fun x => if x = i then 1 else 0) g.ts)
  (hd : ∀ (i d : Nat), ds[i]? = some d → d ≤ 127 ∧ ∀ t ∈ p.ts, fw i t ≤ d) (hN : au ds ≤ N) (hNT : N * T + N ≤ 4096) : (da p ls).1 = 0 ∧ fH v (da p ls).2 = 0 := by
 have hne : ls ≠ [] := fun e => by rw [e] at hn; exact absurd hn Ty
 have hmem : ∀ g ∈ ls, g.v = (v : Int) ∧ fH v g.ts = 0 := fun g hg => by
  obtain ⟨i, hi⟩ := List.mem_iff_getElem?.1 hg;exact ⟨(hls i g hi).1, (hls i g hi).2.1⟩
 have hlk : eS ls = 0 := Gf (v := v) hne (fun g hg => by unfold PX.e; rw [(hmem g hg).1]; exact (hmem g hg).2) fun g hg => (hmem g hg).1;have hhv : eC ls = v := by
  obtain ⟨g, hg⟩ := ao (l := ls) (k := 0) hn;rw [kI hg];exact (hls 0 g hg).1
 unfold da;rw [if_neg (fun c => c h0), if_neg Tx, if_neg (fun c => c.2 hlk), hhv];have hDD : ∀ i, ds.getD i 0 ≤ 127 := fun i => by
  rw [List.getD_eq_getElem?_getD]
  cases h : ds[i]? with
  | none => exact Nat.zero_le _
  | some d => exact (hd i d h).1
 have hDm : (List.range v).map (fun i => ds.getD i 0) = ds := by
  refine List.ext_getElem? fun i => ?_;rw [List.getElem?_map];by_cases hi : i < v
  ·obtain ⟨d, hdd⟩ := ao (l := ds) (k := i) Tx;rw [List.getElem?_range hi, hdd];show some (ds.getD i 0) = some d;rw [List.getD_eq_getElem?_getD, hdd]
   rfl
  ·rw [List.getElem?_eq_none (by rw [List.length_range]; omega), List.getElem?_eq_none Tx]
   rfl
 refine zm hv (fun i => ds.getD i 0) hDD (by rw [hDm]; exact hN) hNT (ls.map PX.ts) 0 p.ts (fun i q hq => ?_) fun t ht i hi => ?_
 ·rw [List.getElem?_map] at hq;obtain ⟨g, hg, rfl⟩ := Option.map_eq_some_iff.1 hq;rw [Nat.zero_add];exact (hls i g hg).2
 ·rw [List.length_map] at hi;rw [Nat.zero_add];obtain ⟨d, hdd⟩ := ao (l := ds) (k := i) Tx;rw [List.getD_eq_getElem?_getD, hdd];exact (hd i d hdd).2 t ht
theorem HQ {p : PX} {b : List SR} {ns : List Nat} {k N : Nat} (h : rR p b ns) (hb : ∀ z ∈ b, z.fin k) (hk : k ≤ 1000) (hN : au (gJ p.v p.ts) ≤ N) (hNT : N * 2 + N ≤ 4096) : (da p (br b)).1 = 0 := by
 have hl := h.nZ;have hpos := h.pos;have hln := jQ b;obtain ⟨_, o2, o3⟩ := lU h.e;have hol := h.lI;refine (F2 (v := b.length) (ds := gJ p.v p.ts) (T := 2) hl h.e (by rw [hln]; exact h.v) Tx hol hln (fun i g hg => ?_) (fun i d hd => ⟨(o3 i d hd).1, (o3 i d hd).2.1⟩) hN hNT).1;obtain ⟨z, hz⟩ := ao (l := b) (k := i) (by have := (List.getElem?_eq_some_iff.1 hg).1; rwa [hln] at this);rw [ig hz] at hg;obtain ⟨a1, a2⟩ := mW (v := b.length) (i := i) hl (hb z (List.mem_of_getElem? hz)) Tx;have hx := vj b.length i z;rw [← Option.some.inj hg];exact ⟨rfl, a1.e, a2, hx⟩
theorem val_one (ds : List Nat) (ts : List Dyadic) (h : ts.length = ds.length) : fI ds.reverse ((yo ds).map nD) ts = 1 := by
 rw [← Ee ds.reverse ts (by rw [List.length_reverse, h])];unfold fI;refine bE fun p hp => ?_;have hp := List.mem_range.1 hp;congr 1;unfold yo;rw [List.getElem?_map, List.getElem?_map, List.getElem?_range hp]
 rfl
theorem val_add {ds : List Nat} {a b ts : List Dyadic} (h : a.length = b.length) : fI ds (x7 a b) ts = fI ds a ts + fI ds b ts := by
 unfold fI;rw [← sX];refine bE fun p _ => ?_;by_cases hp : p < a.length
 ·obtain ⟨x, hx⟩ := ao hp;obtain ⟨y, hy⟩ := ao (l := b) (k := p) Tx;rw [E3 hx hy, hx, hy];show (x + y) * _ = x * _ + y * _;grind
 ·rw [List.getElem?_eq_none (by rw [AH h]; omega), List.getElem?_eq_none Tx, List.getElem?_eq_none Tx];show (0 : Dyadic) * _ = 0 * _ + 0 * _;grind
theorem Ft {p : PX} {b : List SR} {ds : List Int} (h : jt p b ds = 0) : ma p b (oE p ds) = 0 ∧ (da p (br b)).1 = 0 := by
 unfold jt at h;by_cases h0 : ma p b (oE p ds) ≠ 0
 ·rw [if_pos h0] at h; exact absurd h h0
 ·rw [if_neg h0] at h; exact ⟨Classical.not_not.1 h0, h⟩
theorem oM (ns : List Nat) : (bH ns).map Int.toNat = ns := vM ns
theorem Bs {t : TR} {B : Nat} (h : ∀ c ∈ t.m.data.toList, c.toNat ≤ B) (i : Nat) : l6 t.m i ≤ B := by
 unfold l6
 cases he : t.m.data.toList[i]? with
 | none => exact Int.natCast_nonneg B
 | some e => have := h e (List.mem_of_getElem? he); show ((e.toNat : Nat) : Int) ≤ B; omega
theorem Pe {v : Int} {ts : List TR} {B : Nat} (h : fH v ts = 0) (hb : ∀ t ∈ ts, ∀ c ∈ t.m.data.toList, c.toNat ≤ B) : ∀ d ∈ gJ v ts, d ≤ B := fun d hd => by
 obtain ⟨i, hi⟩ := List.mem_iff_getElem?.1 hd;have h1 := ((lU h).2.2 i d hi).2.2;have h2 := (DG (l := ts) (i := i) (B := (B : Int)) (Int.natCast_nonneg B) fun t ht => Bs (hb t ht) i).2;omega
structure Tj (p : PX) (b : List SR) (C s : Nat) : Prop where
 n : p.ts.length ≤ 8
 ok : iO 124 p.ts
 sz : ∀ t ∈ p.ts, t.m.size ≤ 20
 ex : ∀ t ∈ p.ts, ∀ c ∈ t.m.data.toList, c.toNat ≤ 4
 box : ∀ z ∈ b, z.fin 124
 Sk : p.e = 0 → au (gJ p.v p.ts) ≤ C
 Oz : C * C < 2 ^ (s + 1)
def SL (a : NR) : Bool := decide ((8 : Int) < a.bo.size ∨ a.e < -60 ∨ 60 < a.e)
structure Tq (ts : List TR) : Prop where
 n : ts.length ≤ 10
 ok : iO 124 ts
 sz : ∀ t ∈ ts, t.m.size ≤ 20
 ex : ∀ t ∈ ts, ∀ c ∈ t.m.data.toList, c.toNat ≤ 6
structure mv (v : Int) (k n D : Nat) (ts : List TR) : Prop where
 e : fH v ts = 0
 ok : iO k ts
 sz : ∀ t ∈ ts, t.m.size ≤ 100000
 len : ts.length ≤ n
 ex : ∀ t ∈ ts, ∀ c ∈ t.m.data.toList, c.toNat ≤ D
theorem DY {D : Nat} {l : List TR} (h : ∀ t ∈ l, ∀ c ∈ t.m.data.toList, c.toNat ≤ D) : ∀ t ∈ aF l, ∀ c ∈ t.m.data.toList, c.toNat ≤ D := fun t ht => by
 obtain ⟨s, hs, e⟩ := fQ t ht;rw [← e];exact h s hs
theorem G2 {v : Int} {k n m D : Nat} {p q : List TR} (hp : mv v k n D p) (hq : mv v k m D q) (hk : k ≤ 50000) (hn : n + m ≤ 1000) : mv v (k + (n + m)) (n + m) D (aF (p ++ q)) := by
 obtain ⟨f1, f2, f3, f4⟩ := cu hp.e;obtain ⟨g1, g2, g3, g4⟩ := cu hq.e;have hl : (p ++ q).length ≤ n + m := by rw [List.length_append]; exact Nat.add_le_add hp.len hq.len
 have hm : ∀ {P : TR → Prop}, (∀ t ∈ p, P t) → (∀ t ∈ q, P t) → ∀ t ∈ p ++ q, P t := fun h1 h2 t ht => (List.mem_append.1 ht).elim (h1 t) (h2 t);have hg := bQ (p ++ q);exact ⟨eP f1 Tx (hm f3 g3), lE (hm hp.ok hq.ok) Tx Tx, lX (hm hp.sz hq.sz), Tx, DY (hm hp.ex hq.ex)⟩
theorem mv.kO {g : PX} {v : Int} {k n D : Nat} {w : World} (h : mv v k n D g.ts) (ha : g.at_ w) (hc : g.n ≤ g.c) (hn : n ≤ 1000) : g.kO k := ⟨by have := ha.ln; have := h.len; omega, hc, h.ok, h.sz⟩
theorem vV {p q : PX} {v : Int} {k j n m D F : Nat} (pv : p.v = v) (qv : q.v = v) (hp : mv v k n D p.ts) (hq : mv v j m F q.ts) (hn : n + m ≤ 1000) : yA [p, q] = 0 ∧ eC [p, q] = v ∧ rJ [p, q] = p.ts ++ q.ts := by
 have hl : eS [p, q] = 0 := mj (by unfold PX.e; rw [pv]; exact hp.e) (by unfold PX.e; rw [qv]; exact hq.e) (qv.trans pv.symm);have h1 := hp.len;have h2 := hq.len;refine ⟨?_, pv, BG p q⟩;unfold yA;rw [if_pos hl, BG];exact gU (by rw [List.length_append]; omega)
theorem qN {v : Int} {ts : List TR} {ns : List Nat} (h : fH v ts = 0) (hl : (gJ v ts).length = ns.length) (hx : ∀ (i d : Nat), ns[i]? = some d → ∀ t ∈ ts, fw i t ≤ d) : ∀ (i x y : Nat), (gJ v ts)[i]? = some x → ns[i]? = some y → x ≤ y := fun i x y h1 h2 => by
 have h3 := ((lU h).2.2 i x h1).2.2;have h4 := (DG (l := ts) (i := i) (B := (y : Int)) (Int.natCast_nonneg y) fun t ht => by rw [← yV]; have := hx i y h2 t ht; omega).2;omega
theorem O7 {s : PX} {b : List SR} {ns : List Nat} (he : s.e = 0) (hbx : lS b = 0) (hv : s.v = b.length) (hnl : ns.length = b.length) (hlow : ∀ d ∈ ns, d ≤ 127) (hm : au ns ≤ 4096) (hx : ∀ (i d : Nat), ns[i]? = some d → ∀ t ∈ s.ts, fw i t ≤ d) : ma s b (bH ns) = 0 := by
 obtain ⟨o1, o2, o3⟩ := lU he;have h8 := j2 ns 1 (Nat.le_refl _) Ty hlow;rw [Nat.one_mul, if_pos hm] at h8;replace h8 : ij 1 (bH ns) = ((au ns : Nat) : Int) := h8;have hp := cL ns;have hsh : uk (vf s.v s.ts) (bH ns) = false := by
  unfold uk;rw [List.any_eq_false];intro q hq;obtain ⟨i, hi⟩ := List.mem_iff_getElem?.1 hq;obtain ⟨h1, h2⟩ := List.getElem?_zip_eq_some.1 hi;rw [o1] at h1;unfold bH at h1 h2;rw [List.getElem?_map] at h1 h2;obtain ⟨x, hx1, e1⟩ := Option.map_eq_some_iff.1 h1;obtain ⟨y, hy1, e2⟩ := Option.map_eq_some_iff.1 h2;have h3 := qN he Tx hx i x y hx1 hy1;have h4 := hlow y (List.mem_of_getElem? hy1);rw [decide_eq_true_eq, ← e1, ← e2];omega
 unfold ma;rw [if_neg (fun c => c he), if_neg (fun c => c hbx), if_neg (by rw [iC]; omega), hsh, if_neg Ty, h8, if_neg Tx]
theorem J6 {s : PX} {b : List SR} {ns : List Nat} {k : Nat} (he : s.e = 0) (hbx : lS b = 0) (hpos : 0 < b.length) (hv : s.v = b.length) (hnl : ns.length = b.length) (hlow : ∀ d ∈ ns, d ≤ 127) (hm : au ns ≤ 1000) (hx : ∀ (i d : Nat), ns[i]? = some d → ∀ t ∈ s.ts, fw i t ≤ d) (hb : ∀ z ∈ b, z.fin k) (hk : k ≤ 1000) :
  jt s b (bH ns) = 0 ∧ rR s b ns ∧ (da s (br b)).1 = 0 := by
 have h1 := O7 he hbx hv hnl hlow Tx hx;have hF := (yw h1).2;rw [oM] at hF;have h2 := HQ (N := 1000) hF hb hk (Nat.le_trans (qx (by rw [hF.lI, hnl]) (qN he (by rw [hF.lI, hnl]) hx)) hm) Ty;have hD : oE s (bH ns) = bH ns := if_neg (by rw [iC]; omega);refine ⟨?_, hF, h2⟩;unfold jt;rw [hD, if_neg (fun c => c h1), h2]
theorem la {v : Int} {ts : List TR} {k : Nat} (h : fH v ts = 0) (hex : ∀ t ∈ ts, ∀ c ∈ t.m.data.toList, c.toNat ≤ 4) (hc : au (gJ v ts) ≤ 100) (hk : k ≤ 1000) : eZ (k + k + 16394) (gJ v ts) (k + 1) ≤ 440000 := by
 have h1 : (gJ v ts).sum ≤ 13 := O8 (fun d hd => by have := Pe h hex d hd; omega) hc Ty;have h2 := (lU h).2.1;have h3 := (iD.1 (cu h).1).2;rw [wy];have h4 : (gJ v ts).sum * (k + k + 16394) ≤ 13 * (1000 + 1000 + 16394) := Nat.mul_le_mul h1 Tx;have h5 : (gJ v ts).length * 8192 ≤ 12 * 8192 := Nat.mul_le_mul_right _ Tx;omega
theorem PH {p : PX} {b : List SR} {ns : List Nat} {ts : List Dyadic} (hF : rR p b ns) (h0 : (da p (br b)).1 = 0) (h3 : ∀ t ∈ (da p (br b)).2, lZ ns.reverse (cQ t.m).reverse) (ht : ts.length = ns.length) : fI ns.reverse (pR ns (da p (br b)).2) ts = lY (Km b ts.reverse) p.ts := by
 rw [P0 h3 ht, KF h0 (by rw [List.length_reverse, ht, hF.nl])]
theorem J1 {ns : List Nat} {b : List SR} {X Y Z : List Dyadic} {p q s : List TR} (hX : X.length = au ns) (hY : Y.length = au ns) (hZ : Z.length = au ns) (vX : ∀ ts : List Dyadic, ts.length = ns.length → fI ns.reverse X ts = lY (Km b ts.reverse) p) (vY : ∀ ts : List Dyadic, ts.length = ns.length → fI ns.reverse Y ts = lY (Km b ts.reverse) q) (vZ : ∀ ts : List Dyadic, ts.length = ns.length → fI ns.reverse Z ts = lY (Km b ts.reverse) s) (hs : s = aF (p ++ q)) : Z = x7 X Y := by
 refine val_inj (ds := ns.reverse) (by rw [hZ, cz]) (by rw [AH (hX.trans hY.symm), hX, cz]) fun ts ht => ?_;rw [List.length_reverse] at ht;rw [vZ ts ht, val_add (hX.trans hY.symm), vX ts ht, vY ts ht, hs, fM, oC]
theorem Ir {ds : List Nat} {a ts : List Dyadic} (c : Dyadic) : fI ds (a.map fun x => c * x) ts = c * fI ds a ts := by
 unfold fI;rw [← gD];refine bE fun p _ => ?_;rw [List.getElem?_map]
 cases a[p]? with
 | none => show (0 : Dyadic) * _ = c * (0 * _); grind
 | some x => show (c * x) * _ = c * (x * _); grind
theorem I1 {ns : List Nat} {b : List SR} {Z : List Dyadic} {s : List TR} {c : NR} (hnl : ns.length = b.length) (hZ : Z.length = au ns) (vZ : ∀ ts : List Dyadic, ts.length = ns.length → fI ns.reverse Z ts = lY (Km b ts.reverse) s) (hs : s = aF [⟨cR (b.length : Int), c⟩]) : Z = ((yo ns).map nD).map fun x => c.d * x := by
 refine val_inj (ds := ns.reverse) (by rw [hZ, cz]) (by rw [List.length_map, List.length_map, si, cz]) fun ts ht => ?_;rw [List.length_reverse] at ht;rw [vZ ts ht, Ir, val_one ns ts ht, hs, fM];show c.d * il (cQ (cR (b.length : Int))) (Km b ts.reverse) + 0 = c.d * 1;rw [wM, k9];grind
theorem LP (v : Nat) (c : NR) (hv : v ≤ 12) (hc : c.ok ∧ Sz 124 c.d) : mv v 125 1 0 (aF [⟨cR v, c⟩]) := by
 have hg := bQ [(⟨cR v, c⟩ : TR)];have hm : ∀ {P : TR → Prop}, P ⟨cR v, c⟩ → ∀ t ∈ [(⟨cR v, c⟩ : TR)], P t := fun h t ht => by rw [List.mem_singleton.1 ht]; exact h
 have hz := jH (v := (v : Int)) Tx;have h1 : iO 124 [(⟨cR v, c⟩ : TR)] := hm hc;refine ⟨eP (fD hv) (Nat.le_trans hg (show 1 ≤ 4096 by decide)) (hm ?_), lE h1 (show 124 + 1 ≤ 125 by decide) Ty, lX (hm ?_), hg, DY (hm fun x hx => ?_)⟩
 ·unfold eH;rw [Bool.and_eq_true, decide_eq_true_eq];exact ⟨m0 v, hz⟩
 ·show (cR v).size ≤ 100000;omega
 ·replace hx : x ∈ List.replicate (v : Int).toNat (0 : UInt8) := by
   have e : (cR (v : Int)).data.toList = List.replicate (v : Int).toNat (0 : UInt8) := by unfold cR; rw [List.toList_toArray]
   rwa [e] at hx
  rw [(List.mem_replicate.1 hx).2];exact Nat.le_refl _
structure rS (p : PX) : Prop where
 n : p.ts.length ≤ 8
 ok : iO 124 p.ts
 ex : ∀ t ∈ p.ts, t.m.size ≤ 20 ∧ ∀ c ∈ t.m.data.toList, c.toNat ≤ 4
theorem rS.Ha {p : PX} (h : rS p) (he : p.e = 0) : mv p.v 124 8 4 p.ts := ⟨he, h.ok, fun t ht => Nat.le_trans (h.ex t ht).1 Ty, h.n, fun t ht => (h.ex t ht).2⟩
theorem rS.kO {p : PX} {w : World} (h : rS p) (hp : p.at_ w) (hc : p.n ≤ p.c) : p.kO 124 := ⟨by have := hp.ln; have := h.n; omega, hc, h.ok, fun t ht => Nat.le_trans (h.ex t ht).1 Ty⟩
theorem Ef {ns : List Nat} {C : Nat} (hlow : ∀ d ∈ ns, d ≤ 127) (hC : C ≤ 4096) (hc : tW (bH ns) ≤ C) : au ns ≤ C := by
 unfold tW at hc;rw [if_neg (by rw [CJ hlow]; decide)] at hc;have := z9 ns 1 (Nat.le_refl _) Ty;rw [Nat.one_mul] at this;rw [show xR 1 (bH ns) = xR ((1 : Nat) : Int) (bH ns) from rfl, this] at hc;omega
theorem rR.pV {p : PX} {b : List SR} {ns : List Nat} {C : Nat} (h : rR p b ns) (hc : au ns ≤ C) : au (gJ p.v p.ts) ≤ C :=
 Nat.le_trans (qx (by rw [h.lI, h.nl]) (qN h.e (by rw [h.lI, h.nl]) h.own)) hc
theorem rS.grow {p : PX} {b : List SR} {ds : List Int} (h : rS p) (hc : tW ds ≤ 100) (hf : ma p b ds = 0) : eZ (124 + 124 + 16394) (gJ p.v p.ts) (124 + 1) ≤ 440000 := by
 obtain ⟨h1, hF⟩ := yw hf;rw [h1] at hc;exact la hF.e (fun t ht => (h.ex t ht).2) (hF.pV (Ef hF.low Ty hc)) Ty
structure PC (p : PX) (b : List SR) (ns : List Nat) : Prop where
 vl : ∀ ts : List Dyadic, ts.length = ns.length → fI ns.reverse (pR ns (da p (br b)).2) ts = lY (Km b ts.reverse) p.ts
 sz : ∀ x ∈ pR ns (da p (br b)).2, Sz 460000 x
theorem sB {p : PX} {b : List SR} {ns : List Nat} {k : Nat} (hF : rR p b ns) (h0 : (da p (br b)).1 = 0) (ho : iO k p.ts) (hb : ∀ s ∈ b, s.fin k) (hk : k ≤ 1000) (hgr : eZ (k + k + 16394) (gJ p.v p.ts) (k + 1) ≤ 440000) : PC p b ns := by
 obtain ⟨h1, h2⟩ := vF hF ho hb hk hgr h0;refine ⟨fun ts ht => PH hF h0 h2 ht, fun x hx => (QM h2 h1.ok hF.low x hx).mono ?_⟩;have h3 := (cu h1.e).2.1;have h4 := hF.nl;have h5 := hF.nZ;omega
theorem oZ {p : PX} {b : List SR} {ds : List Int} (h : jt p b ds = 0) (hm : ds.length ≠ 0) : ma p b ds = 0 ∧ ds = bH (ds.map Int.toNat) ∧ rR p b (ds.map Int.toNat) ∧ (da p (br b)).1 = 0 := by
 obtain ⟨h1, h2⟩ := Ft h;rw [show oE p ds = ds from if_neg hm] at h1;obtain ⟨h3, h4⟩ := yw h1;exact ⟨h1, h3, h4, h2⟩
structure Ry (p q s o : PX) (b : List SR) (ns : List Nat) (c : Dyadic) : Prop where
 fit : rR p b ns
 Sk : au ns ≤ 100
 es : jt s b (bH ns) = 0
 eo : jt o b (bH ns) = 0
 gs : mv s.v 140 16 4 s.ts
 go : mv o.v 125 1 0 o.ts
 ws : eZ (140 + 140 + 16394) (gJ s.v s.ts) (140 + 1) ≤ 440000
 wo : eZ (140 + 140 + 16394) (gJ o.v o.ts) (140 + 1) ≤ 440000
 sum : pR ns (da s (br b)).2 = x7 (pR ns (da p (br b)).2) (pR ns (da q (br b)).2)
 SY : pR ns (da o (br b)).2 = ((yo ns).map nD).map fun y => c * y
 zp : ∀ x ∈ pR ns (da p (br b)).2, Sz 460000 x
 zq : ∀ x ∈ pR ns (da q (br b)).2, Sz 460000 x
theorem Mh {p q s o : PX} {b : List SR} {ns : List Nat} {x : NR} (hE : jt p b (bH ns) = 0) (hF : jt q b (bH ns) = 0) (hm : ns.length ≠ 0) (hc : au ns ≤ 100) (f8p : rS p) (f8q : rS q) (hb : ∀ z ∈ b, z.fin 124) (hx : x.ok ∧ Sz 124 x.d)
  (os : eK 0 (eC [p, q]) (aF (rJ [p, q])) s) (oo : eK 0 p.v (aF [⟨cR p.v, x⟩]) o) : Ry p q s o b ns x.d := by
 obtain ⟨_, _, fp, zp⟩ := oZ hE (by rw [iC]; exact hm);obtain ⟨_, _, fq, zq⟩ := oZ hF (by rw [iC]; exact hm);rw [oM] at fp fq;have gp := f8p.Ha fp.e;have gq := f8q.Ha fq.e;have hv : q.v = p.v := by rw [fp.v, fq.v]
 rw [hv] at gq;obtain ⟨_, hhv, hfl⟩ := vV (p := p) (q := q) rfl hv gp gq Ty;have sv : s.v = b.length := by rw [os.v0, hhv, fp.v]
 have st : s.ts = aF (p.ts ++ q.ts) := by rw [os.t0, hfl]
 have ov : o.v = b.length := by rw [oo.v0, fp.v]
 have ot : o.ts = aF [⟨cR (b.length : Int), x⟩] := by rw [oo.t0, fp.v]
 have gs := G2 gp gq Ty Ty;have go := LP b.length x fp.nZ hx;rw [← st] at gs;rw [← ot] at go;have hb2 : ∀ z ∈ b, z.fin 140 := fun z hz => ⟨⟨(hb z hz).1.ok, (hb z hz).1.sz.mono Ty⟩, ⟨(hb z hz).2.ok, (hb z hz).2.sz.mono Ty⟩⟩;have hxs : ∀ (i d : Nat), ns[i]? = some d → ∀ t ∈ s.ts, fw i t ≤ d := fun i d hd t ht => by
  rw [st] at ht;obtain ⟨u, hu, e⟩ := fQ t ht;rw [← N3 e];exact (List.mem_append.1 hu).elim (fp.own i d hd u) (fq.own i d hd u)
 have hxo : ∀ (i d : Nat), ns[i]? = some d → ∀ t ∈ o.ts, fw i t ≤ d := fun i d _ t ht => by
  have h1 := go.ex t ht;unfold fw
  cases he : t.m.data.toList[i]? with
  | none => exact Nat.zero_le _
  | some c => have := h1 c (List.mem_of_getElem? he); show c.toNat ≤ d; omega
 have se : s.e = 0 := by unfold PX.e; rw [sv, ← fp.v]; exact gs.e
 have oe : o.e = 0 := by unfold PX.e; rw [ov]; exact go.e
 obtain ⟨b1, b2, b3⟩ := J6 se fp.box fp.pos sv fp.nl fp.low Tx hxs hb2 Ty;obtain ⟨c1, c2, c3⟩ := J6 oe fp.box fp.pos ov fp.nl fp.low Tx hxo hb2 Ty;rw [show p.v = s.v from fp.v.trans sv.symm] at gs;rw [← ov] at go;have ws := la (k := 140) gs.e gs.ex (b2.pV hc) Ty;have wo := la (k := 140) go.e (fun t ht c hc => Nat.le_trans (go.ex t ht c hc) Ty) (c2.pV hc) Ty;have vp := sB fp zp gp.ok hb Ty (la fp.e gp.ex (fp.pV hc) Ty);have vq := sB fq zq gq.ok hb Ty (la fq.e gq.ex (fq.pV hc) Ty);have vs := sB b2 b3 gs.ok hb2 Ty ws;have vo := sB c2 c3 (go.ok.mono (show 125 ≤ 140 by decide)) hb2 Ty wo;exact ⟨fp, hc, b1, c1, gs, go, ws, wo, J1 (ju _ _) (ju _ _) (ju _ _) vp.vl vq.vl vs.vl st, I1 fp.nl (ju _ _) vo.vl ot, vp.sz, vq.sz⟩
theorem Kh {p q s o : PX} {b : List SR} {ds : List Int} {x : NR} (hE : jt p b ds = 0) (hF : jt q b ds = 0) (hm : ds.length ≠ 0) (hc : tW ds ≤ 100) (f8p : rS p) (f8q : rS q) (hb : ∀ z ∈ b, z.fin 124) (hx : x.ok ∧ Sz 124 x.d)
  (os : eK 0 (eC [p, q]) (aF (rJ [p, q])) s) (oo : eK 0 p.v (aF [⟨cR p.v, x⟩]) o) : Ry p q s o b (ds.map Int.toNat) x.d ∧ ds = bH (ds.map Int.toNat) := by
 obtain ⟨_, h1, hF1, _⟩ := oZ hE hm;generalize ds.map Int.toNat = ns at *;subst h1;rw [iC] at hm;exact ⟨Mh hE hF hm (Ef hF1.low Ty hc) f8p f8q hb hx os oo, rfl⟩
theorem MH {P : PX → Prop} {p q : PX} (h1 : P p) (h2 : P q) : ∀ g ∈ [p, q], P g := fun g hg => by
 rcases List.mem_cons.1 hg with rfl | hg
 ·exact h1
 ·rw [List.mem_singleton.1 hg]; exact h2
theorem oQ {l : List Dyadic} {i : Nat} {x : Dyadic} (h : l[i]? = some x) : (l.map nR)[i]? = some (nR x) := by rw [List.getElem?_map, h]; rfl
set_option maxRecDepth 10000 in
theorem tf (p q : PX) (L : Option Addr) (n c : Nat) (b : List SR) (M : Option Addr) (m mc : Nat) (ds : List Int) (x : NR) (w : World) (hT : ee w) (hp : p.at_ w) (hpc : p.n ≤ p.c) (hq : q.at_ w) (hqc : q.n ≤ q.c) (hB : Sl w L n 6 (az SR.cells b)) (hD : Sl w M m 1 (bF ds)) (hmc : m ≤ mc) :
  Calls Tryz.prog 7 #[.agg #[.int .i64 p.v, .slice p.A p.n p.c], .agg #[.int .i64 q.v, .slice q.A q.n q.c], .slice L n c, .slice M m mc, .agg #[.bool x.neg, .string x.bo, .int .i64 x.e]] w fun r w' => r = .returned (.bool true) ∧ Below w.heap.size w w' := by
 have hh := Hp.start w;have hdl : ds.length = m := by have := hD.1; rw [bU] at this; omega
 have hpl := hp.ln;have hql := hq.ln;refine aj (N := 195) (l := [.agg #[.int .i64 p.v, .slice p.A p.n p.c], .agg #[.int .i64 q.v, .slice q.A q.n q.c], .slice L n c, .slice M m mc, .agg #[.bool x.neg, .string x.bo, .int .i64 x.e]]) Tryz.func7 rfl rfl (by simp) ?_;refine sr ?_;refine cx hh [_,_] ?_;intro b5 w5 hh;refine cx hh [_,_] ?_;intro b6 w6 hh;refine cx hh [_,_,_] ?_;intro b9 w9 hh;refine aB (aa (ah (sr ?_)));refine cD hh 2 [_,_] ?_;refine aE (pw p.v p.A p.n p.c p.ts _ (hp.ext hh.below)) ak.out rfl Ty ?_;rintro e_ w26 ⟨b1, rfl, hb1, hb_⟩;refine ⟨_, rfl, ?_⟩;replace hh := hh.ext hb_
 cases b1 with
 | true =>
  refine mB ?_;refine gS ?_;refine iJ ?_;refine fu ?_;exact N0
 | false =>
  obtain ⟨p1, p2, p3⟩ := hb1 rfl;clear hb1;refine mB (gT ?_);refine cD hh 1 [_,_] ?_;refine aH rfl rfl ?_;refine aE (pw q.v q.A q.n q.c q.ts _ (hq.ext hh.below)) ak.out rfl Ty ?_;rintro e_ w29 ⟨b1, rfl, hb1, hb_⟩;refine ⟨_, rfl, ?_⟩;replace hh := hh.ext hb_
  cases b1 with
  | true =>
   refine dK ?_;exact N0
  | false =>
   obtain ⟨q1, q2, q3⟩ := hb1 rfl;clear hb1;refine dK ?_;refine mB (gT (mL ?_));refine aH rfl rfl ?_;refine aE (zd none 0 0 [] L n c b _ (Sl.nil _ _ _) (hB.ext hh.below)) ak.out rfl Ty ?_;rintro e_ w33 ⟨b1, rfl, hb1, hb_⟩;refine ⟨_, rfl, ?_⟩;replace hh := hh.ext hb_
   cases b1 with
   | true =>
    refine dK ?_;exact MR
   | false =>
    obtain ⟨_, So, _, hb⟩ := hb1 rfl;clear hb1;refine dK ?_;refine mB (gT (mL ?_));refine aH rfl rfl ?_;refine aE (yM M m mc ds _ (hD.ext hh.below)) ak.out rfl Ty ?_;rintro e_ w37 ⟨b1, rfl, hb1, hb_⟩;refine ⟨_, rfl, ?_⟩;replace hh := hh.ext hb_
    cases b1 with
    | true =>
     refine dK ?_;exact Nt
    | false =>
     obtain ⟨m20, _⟩ := hb1 rfl;clear hb1;have hfa := fun w1 => jO x w1;have hfx := KO (a := x);generalize uO x = v at *;refine dK ?_;refine mB (gT ?_);refine cD hh 0 [_,_,_] ?_;refine aH rfl rfl ?_;refine bz hh (hfa _) rfl ?_;intro w41 hh
     cases v with
     | true =>
      refine dK ?_;refine mB ?_;refine gS (gS (gS ?_));refine fu ?_;exact Sg
     | false =>
      have hx := hfx rfl;clear hfx hfa;by_cases hm0 : m = 0
      ·subst hm0;refine dK ?_;refine mB (gT (mL (gT (aJ (gT ?_)))));refine cW ?_;refine dK ?_;exact Sg
      ·have hct := fun w1 hd => nM M m mc ds w1 hd Tx;by_cases h100 : 100 < tW ds
       ·generalize tW ds = C at *;refine dK ?_;refine mB (gT (mL (gT (aJ (gT ?_)))));refine cW ?_;refine dK ?_;refine mB (gT (mL ?_));refine aH rfl rfl ?_;refine bz hh (hct _ (hD.ext hh.below)) rfl ?_;intro w50 hh;refine gT ?_;refine bM ?_;refine dK ?_;refine aa (cT (sr ?_));refine bz hh (jw _ (hT.hp hh)) rfl ?_;intro w53 hh;exact RC
       ·have hm1 : ds.length ≠ 0 := Tx;have f8p : rS p := ⟨Tx, p2, p3⟩;have f8q : rS q := ⟨Tx, q2, q3⟩;have lp := f8p.kO hp hpc;have lq := f8q.kO hq hqc;have hdd : ∀ g : PX, oE g ds = ds := fun g => if_neg hm1;have hof1 := fun w1 hT1 hb1 => kY p L n c b M m mc ds 124 w1 hT1 (hp.ext hb1) lp (hB.ext hb1) hb Tx (hD.ext hb1) Tx hmc Ty (by rw [hdd]; exact f8p.grow Tx);have hof2 := fun w1 hT1 hb1 => kY q L n c b M m mc ds 124 w1 hT1 (hq.ext hb1) lq (hB.ext hb1) hb Tx (hD.ext hb1) Tx hmc Ty (by rw [hdd]; exact f8q.grow Tx);have hb2 : ∀ z ∈ b, z.fin 140 := fun z hz => ⟨⟨(hb z hz).1.ok, (hb z hz).1.sz.mono Ty⟩, ⟨(hb z hz).2.ok, (hb z hz).2.sz.mono Ty⟩⟩;have hA1 := fun A w1 hT1 hS1 h1 h2 => lH A 2 2 [p, q] 124 w1 hT1 hS1 Ty (MH h1 h2) (MH lp lq) Ty;have hoN : ∀ g : PX, KA g ds = ds.map Int.toNat := fun g => by unfold KA; rw [hdd]
        rw [hoN] at hof1 hof2;have hal := fun (s o : PX) (h3 : jt p b ds = 0) (h4 : jt q b ds = 0) os oo => Kh (s := s) (o := o) h3 h4 hm1 Tx f8p f8q hb hx os oo;generalize hE2 : jt p b ds = E at *;refine dK ?_;refine mB (gT (mL (gT (aJ (gT ?_)))));refine cW ?_;refine dK ?_;refine mB (gT (mL ?_));refine aH rfl rfl ?_;refine bz hh (hct _ (hD.ext hh.below)) rfl ?_;intro w50 hh;refine gT ?_;refine bM ?_;refine dK ?_;refine qZ ?_;refine cD hh 2 [_,_] (mL (mL ?_));refine aE (hof1 _ (hT.hp hh) hh.below) ak.out rfl Ty ?_;rintro e_ w58 ⟨f0, o1, rfl, h4⟩;refine ⟨_, rfl, ?_⟩;replace hh := hh.join h4;clear h4;simp only [List.cons_append, List.nil_append] at hh;replace hh := show Hp w (.row f0.B f0.m f0.b 65 3 (az NR.cells f0.cs) :: .row f0.A f0.n f0.a 3 1 (bF f0.ds) :: _) _ from hh;refine mT ?_;refine dq ?_;refine dq ?_;refine bR hh ?_;intro b11 w11 hh;refine bW hh 0 [_,_] ?_;intro ws hh;replace hh : Hp _ (.blk _ _ [_, _] _ :: _) _ := hh;refine aI (aa (sr ?_));refine cD hh 4 [_,_] (mL (mL ?_));generalize hF2 : jt q b ds = F at *;refine aE (hof2 _ (hT.hp hh) hh.below) ak.out rfl Ty ?_;rintro e_ w65 ⟨g0, o2, rfl, h4⟩;refine ⟨_, rfl, ?_⟩;replace hh := hh.join h4;clear h4
        simp only [List.cons_append, List.nil_append] at hh;replace hh := show Hp w (.row g0.B g0.m g0.b 65 3 (az NR.cells g0.cs) :: .row g0.A g0.n g0.a 3 1 (bF g0.ds) :: _) _ from hh;refine mT ?_;refine dq ?_;refine dq ?_;refine bR hh ?_;intro b13 w13 hh;refine bW hh 0 [_,_] ?_;intro ws hh;replace hh : Hp _ (.blk _ _ [_, _] _ :: _) _ := hh;refine aI (aa (sr ?_));refine cD hh 8 [_,_] ?_;refine cD hh 7 [_,_] ?_;refine AV ?_;intro b71 w71 hh;refine aE (hA1 _ _ (hT.hp hh) (hh.aC (i := 0) rfl) (hp.ext hh.below) (hq.ext hh.below)) ak.out rfl Ty ?_;rintro e_ w72 ⟨s, os, rfl, h4⟩;refine ⟨_, rfl, ?_⟩;have hsc : s.n ≤ s.c := h4.eO (i := 0) rfl;replace hh := hh.join h4;clear h4;simp only [List.cons_append, List.nil_append] at hh;replace hh := show Hp w (.row s.A s.n s.c 96 4 (az TR.cells s.ts) :: _) _ from hh;replace hh := hh.sub (List.Sublist.cons_cons _ (List.Sublist.cons _ (List.Sublist.cons_cons _ (List.Sublist.cons_cons _ (List.Sublist.cons_cons _ (List.Sublist.cons_cons _ (List.Sublist.cons_cons _ (List.Sublist.cons_cons _ (List.Sublist.cons_cons _ (List.Sublist.cons_cons _ (List.Sublist.cons_cons _ List.Sublist.slnil)))))))))));refine mT ?_;refine dq ?_;refine dq ?_;refine bR hh ?_
        intro b15 w15 hh;refine bW hh 0 [_,_] ?_;intro ws hh;replace hh : Hp _ (.blk _ _ [_, _] _ :: _) _ := hh;refine aI (aa ?_);by_cases hE : E = 0
        ·by_cases hF : F = 0
         ·have hG : yA [p, q] = 0 := by
           obtain ⟨_, _, fp, _⟩ := oZ (hE2.trans hE) hm1;obtain ⟨_, _, fq, _⟩ := oZ (hF2.trans hF) hm1;exact (vV rfl (by rw [fp.v, fq.v]) (f8p.Ha fp.e) (by rw [fp.v.trans fq.v.symm]; exact f8q.Ha fq.e) Ty).1
          rw [hG] at os ⊢;obtain ⟨S1, hds⟩ := hal s ⟨p.v, none, 0, 0, aF [⟨cR p.v, x⟩]⟩ hE hF os ⟨(if_pos rfl).symm, (if_pos rfl).symm⟩;have hal2 := fun o oo => (hal s o hE hF os oo).1;clear hal hA1 hof1 hof2;subst hE;subst hF;have ls : s.kO 140 := S1.gs.kO (hh.aC (i := 1) rfl) hsc Ty;have hof3 := fun w1 hT1 ha hb1 => kY s L n c b M m mc ds 140 w1 hT1 ha ls (hB.ext hb1) hb2 Tx (hD.ext hb1) Tx hmc Ty (by rw [hdd]; exact fun _ => S1.ws);have hes : jt s b ds = 0 := by rw [hds]; exact S1.es
          rw [hes, hoN] at hof3;have hcv : uZ p.v = 0 := by
           unfold uZ;rw [(cu S1.fit.e).1]
           rfl
          have hco := fun w1 hT1 => iu p.v x 124 w1 hT1 hx Ty;rw [hcv] at hco;have hns := oM (ds.map Int.toNat);have hwt := fun w1 hT1 hd => mR M m mc (ds.map Int.toNat) w1 hT1 hd (by have := S1.fit.nZ; have := S1.fit.nl; omega) S1.fit.low (by have := S1.Sk; omega);rw [← hds] at hwt;have hcnt := S1.Sk;refine ah (sr (mI ?_));refine cK (mB (gT (mI (gT ?_))));refine cK ?_;refine dK ?_;refine mB (gT (mI (gT ?_)));refine cK ?_;refine dK ?_;refine qZ ?_;refine cD hh 0 [_,_] (mL (mL ?_));refine aE (hof3 _ (hT.hp hh) (hh.aC (i := 1) rfl) hh.below) ak.out rfl Ty ?_;rintro e_ w90 ⟨r0, o3, rfl, h4⟩;refine ⟨_, rfl, ?_⟩;replace hh := hh.join h4;clear h4;simp only [List.cons_append, List.nil_append] at hh;replace hh := show Hp w (.row r0.B r0.m r0.b 65 3 (az NR.cells r0.cs) :: .row r0.A r0.n r0.a 3 1 (bF r0.ds) :: _) _ from hh;replace hh := hh.sub (List.Sublist.cons_cons _ (List.Sublist.cons _ (List.Sublist.cons _ (List.Sublist.cons _ (List.Sublist.cons_cons _ (List.Sublist.cons_cons _ (List.Sublist.cons _ (List.Sublist.cons_cons _ (List.Sublist.cons_cons _ (List.Sublist.cons _ (List.Sublist.cons_cons _ (List.Sublist.cons_cons _ (List.Sublist.cons_cons _ List.Sublist.slnil)))))))))))))
          refine mT ?_;refine dq ?_;refine dq ?_;refine bR hh ?_;intro b17 w17 hh;refine bW hh 0 [_,_] ?_;intro ws hh;replace hh : Hp _ (.blk _ _ [_, _] _ :: _) _ := hh;refine aI (aa (sr (bD ?_)));refine bB hh 8 ?_;refine cD hh 6 [_,_,_] ?_;refine aE (hco _ (hT.hp hh)) ak.out rfl Ty ?_;rintro e_ w97 ⟨o, oo, rfl, h4⟩;refine ⟨_, rfl, ?_⟩;have hoc : o.n ≤ o.c := h4.eO (i := 0) rfl;replace hh := hh.join h4;clear h4;simp only [List.cons_append, List.nil_append] at hh;replace hh := show Hp w (.row o.A o.n o.c 96 4 (az TR.cells o.ts) :: _) _ from hh;have S2 := hal2 o oo;have lo : o.kO 140 := by
           have h5 := S2.go.kO (hh.aC (i := 0) rfl) hoc Ty;exact ⟨h5.n, h5.cap, h5.ok.mono Ty, h5.sz⟩
          have hof4 := fun w1 hT1 ha hb1 => kY o L n c b M m mc ds 140 w1 hT1 ha lo (hB.ext hb1) hb2 Tx (hD.ext hb1) Tx hmc Ty (by rw [hdd]; exact fun _ => S2.wo);have heo : jt o b ds = 0 := by rw [hds]; exact S2.eo
          rw [heo, hoN] at hof4;refine mT ?_;refine dq ?_;refine dq ?_;refine bR hh ?_;intro b19 w19 hh;refine bW hh 0 [_,_] ?_;intro ws hh;replace hh : Hp _ (.blk _ _ [_, _] _ :: _) _ := hh;refine aI (aa (sr ?_));refine cD hh 0 [_,_] (mL (mL ?_));refine aE (hof4 _ (hT.hp hh) (hh.aC (i := 1) rfl) hh.below) ak.out rfl Ty ?_;rintro e_ w104 ⟨k0, o4, rfl, h4⟩;refine ⟨_, rfl, ?_⟩;replace hh := hh.join h4;clear h4;simp only [List.cons_append, List.nil_append] at hh;replace hh := show Hp w (.row k0.B k0.m k0.b 65 3 (az NR.cells k0.cs) :: .row k0.A k0.n k0.a 3 1 (bF k0.ds) :: _) _ from hh;replace hh := hh.sub (List.Sublist.cons_cons _ (List.Sublist.cons _ (List.Sublist.cons _ (List.Sublist.cons _ (List.Sublist.cons_cons _ (List.Sublist.cons_cons _ (List.Sublist.cons_cons _ (List.Sublist.cons_cons _ (List.Sublist.cons_cons _ (List.Sublist.cons_cons _ (List.Sublist.cons_cons _ (List.Sublist.cons_cons _ (List.Sublist.cons_cons _ List.Sublist.slnil)))))))))))));refine mT ?_;refine dq ?_;refine dq ?_;refine bR hh ?_;intro b21 w21 hh;refine bW hh 0 [_,_] ?_;intro ws hh;replace hh : Hp _ (.blk _ _ [_, _] _ :: _) _ := hh;refine aI (aa (sr (mL ?_)))
          refine aE (hwt _ (hT.hp hh) (hD.ext hh.below)) ak.out rfl Ty ?_;rintro e_ w108 ⟨A108, c108, rfl, hown_, hb_⟩;refine ⟨_, rfl, ?_⟩;replace hh := hh.aV (x := .row _ _ _ _ _ _) hb_ hown_;have c1 : f0.cs = (pR (ds.map Int.toNat) (da p (br b)).2).map nR := o1.cs;have c2 : g0.cs = (pR (ds.map Int.toNat) (da q (br b)).2).map nR := o2.cs;have c3 : r0.cs = (pR (ds.map Int.toNat) (da s (br b)).2).map nR := o3.cs;have c4 : k0.cs = (pR (ds.map Int.toNat) (da o (br b)).2).map nR := o4.cs;rw [c1, c2, c3, c4] at hh;have hsum := S2.sum;have hcon := S2.SY;have zp := S2.zp;have zq := S2.zq;have n1 := ju (ds.map Int.toNat) (da p (br b)).2;have n2 := ju (ds.map Int.toNat) (da q (br b)).2;have n3 := ju (ds.map Int.toNat) (da s (br b)).2;have n4 := ju (ds.map Int.toNat) (da o (br b)).2;have hlow := S1.fit.low;have h12 : (ds.map Int.toNat).length ≤ 12 := by have := S1.fit.nZ; have := S1.fit.nl; omega
          clear S1 S2 hal2 o1 o2 o3 o4 hes heo hcv hco hof3 hof4 hwt hE2 hF2 hG c1 c2 c3 c4 os oo;generalize pR (ds.map Int.toNat) (da p (br b)).2 = X at *;generalize pR (ds.map Int.toNat) (da q (br b)).2 = Y at *;generalize pR (ds.map Int.toNat) (da s (br b)).2 = Z at *;generalize pR (ds.map Int.toNat) (da o (br b)).2 = W_ at *;clear hns hoN hds;generalize ds.map Int.toNat = ns at *;have l1 := (hh.aC (i := 8) rfl).bk NR.len Ty;have l2 := (hh.aC (i := 6) rfl).bk NR.len Ty;have l3 := (hh.aC (i := 4) rfl).bk NR.len Ty;have l4 := (hh.aC (i := 2) rfl).bk NR.len Ty;rw [List.length_map] at l1 l2 l3 l4;rw [n1] at l1;rw [n2] at l2;rw [n3] at l3;rw [n4] at l4;generalize f0.B = fB at *;generalize f0.m = fm at *;generalize f0.b = fb at *;generalize g0.B = gB at *;generalize g0.m = gm at *;generalize g0.b = gb at *;generalize r0.B = rB at *;generalize r0.m = rm at *;generalize r0.b = rb at *;generalize k0.B = kB at *;generalize k0.m = km at *;generalize k0.b = kb at *;subst l1;subst l2;subst l3;subst l4;have hN := cL ns
          replace hh := hh.sub (List.Sublist.cons_cons _ (List.Sublist.cons_cons _ (List.Sublist.cons_cons _ (List.Sublist.cons_cons _ (List.Sublist.cons_cons _ (List.Sublist.cons_cons _ (List.Sublist.cons_cons _ (List.Sublist.cons_cons _ (List.Sublist.cons_cons _ (List.Sublist.cons_cons _ (List.Sublist.cons _ (List.Sublist.cons _ List.Sublist.slnil))))))))))));refine aL (aa (ah (sr (mI ?_))));refine cK (mB (gT (mI (gT ?_))));refine cK ?_;refine dK ?_;refine mB (gT (mI (gT ?_)));refine cK ?_;refine dK ?_;refine mB (gT (bD (gT ?_)));refine bB hh 7 ?_;refine gT (aJ (gT (bD (gT ?_))));refine bB hh 5 ?_;refine gT (aJ (gT ?_));refine cK ?_;refine dK ?_;refine mB (gT (bD (gT ?_)));refine bB hh 3 ?_;refine gT (aJ (gT (bD (gT ?_))));refine bB hh 7 ?_;refine gT (aJ (gT ?_));refine cK ?_;refine dK ?_;refine mB (gT (bD (gT ?_)));refine bB hh 1 ?_;refine gT (aJ (gT (bD (gT ?_))));refine bB hh 7 ?_;refine gT (aJ (gT ?_));refine cK ?_;refine dK ?_;refine mB (gT (mL (gT (aJ (gT (bD (gT ?_)))))));refine bB hh 7 ?_;refine gT (aJ (gT ?_));refine cK ?_;refine dK ?_;refine aa (cF (ar (ai (ah (sr (aI (aa (aq ?_))))))))
          refine aP [10, 24, 154, 155, 156, 157, 158, 159, 160, 161, 162, 163, 164, 165, 166, 167, 168, 169, 170, 171, 172, 173, 174, 175, 176, 177, 178, 179, 180, 181, 182, 183, 184, 185, 186, 187, 188, 189, 190, 191, 192, 193] 24
           (fun v w' => ∃ i : Nat, i ≤ au ns ∧ v = .int .i64 i ∧ Hp w [.row A108 (au ns) c108 65 3 (az NR.cells (E6 ns)), .blk b21 39 [.slice k0.A k0.n k0.a, .slice kB (au ns) kb] (0, 0), .row kB (au ns) kb 65 3 (az NR.cells (W_.map nR)), .blk b17 39 [.slice r0.A r0.n r0.a, .slice rB (au ns) rb] (0, 0), .row rB (au ns) rb 65 3 (az NR.cells (Z.map nR)), .blk b13 39 [.slice g0.A g0.n g0.a, .slice gB (au ns) gb] (0, 0), .row gB (au ns) gb 65 3 (az NR.cells (Y.map nR)), .blk b11 39 [.slice f0.A f0.n f0.a, .slice fB (au ns) fb] (0, 0), .row fB (au ns) fb 65 3 (az NR.cells (X.map nR)), .blk b9 65 [.bool x.neg, .string x.bo, .int .i64 x.e] (0, 0)] w')
           (fun v _ => au ns - (intOf v).toNat) ?_ ?_
          ·exact ⟨0, Nat.zero_le _, rfl, hh⟩
          ·clear hh;rintro ρ' v_ w' ⟨i, hi, rfl, hh⟩;by_cases hlt : i < au ns
           ·obtain ⟨xv, hx1⟩ := ao (l := X) (k := i) Tx;obtain ⟨yv, hy1⟩ := ao (l := Y) (k := i) Tx;obtain ⟨wv, hw1⟩ := ao (l := yo ns) (k := i) (by rw [si]; omega);have hz1 : Z[i]? = some (xv + yv) := by rw [hsum]; exact E3 hx1 hy1
            have hv1 : W_[i]? = some (x.d * nD wv) := by rw [hcon, List.getElem?_map, List.getElem?_map, hw1]; rfl
            have hu1 : (E6 ns)[i]? = some (nR (nD wv)) := by unfold E6; rw [List.getElem?_map, hw1]; rfl
            have zx := zp xv (List.mem_of_getElem? hx1);have zy := zq yv (List.mem_of_getElem? hy1);have zw := MN (List.mem_of_getElem? hw1) Tx hlow;have hm2 := fun A cc w1 hT1 hS1 => ew A 2 cc [x, nR (nD wv)] w1 hT1 hS1 (by simpa using ⟨hx.1, zw.ok Tx⟩) 1600 (by simpa [cf] using ⟨hx.2.mono Tx, zw⟩) Tx Tx;rw [show ic ([x, nR (nD wv)].map NR.d) = x.d * nD wv by simp only [List.map_cons, List.map_nil, cf]; show 1 * x.d * _ = _; rw [Dyadic.one_mul]] at hm2;have hs2 := fun A cc w1 hT1 hS1 => gL A 2 cc [nR xv, nR yv] w1 hT1 hS1 (by simpa using ⟨zx.ok Tx, zy.ok Tx⟩) 460000 (by simpa [cf] using ⟨zx, zy⟩) Tx;rw [show md ([nR xv, nR yv].map NR.d) = xv + yv by simp only [List.map_cons, List.map_nil, cf, jU]] at hs2;generalize x.d * nD wv = u at *;generalize xv + yv = v at *;generalize E6 ns = T at *;clear hsum hcon hw1;obtain ⟨a1, rfl⟩ := hh.cd (i := 0) rfl Tx;obtain ⟨a2, rfl⟩ := hh.cd (i := 2) rfl Tx;obtain ⟨a3, rfl⟩ := hh.cd (i := 4) rfl Tx;obtain ⟨a4, rfl⟩ := hh.cd (i := 6) rfl Tx;obtain ⟨a5, rfl⟩ := hh.cd (i := 8) rfl Tx;refine ah (sr (mI (bD ?_)));refine bB hh 7 ?_;refine aJ ?_;refine uW ?_
            refine aY 31 [[(17, none)], [(161, some 0)], [(24, none)], [(162, some 1), (163, some 2)], [(164, some 3)], [(11, none)], [(166, some 5)], [(24, none)], [(167, some 6), (168, some 7)], [(169, some 8)], [(13, none)], [(171, some 10)], [(24, none)], [(172, some 11), (173, some 12)], [(174, some 13)], [(170, some 9), (175, some 14)], [(176, some 15)], [(165, some 4), (177, some 16)], [(178, some 17)], [(21, none), (179, some 18)], [(180, some 19), (179, some 18)], [(24, none), (179, some 18)], [(181, some 20), (182, some 21), (179, some 18)], [(183, some 22), (179, some 18)], [(9, none), (179, some 18)], [(23, none), (179, some 18)], [(24, none), (179, some 18)], [(186, some 25), (187, some 26), (179, some 18)], [(188, some 27), (179, some 18)], [(185, some 24), (189, some 28), (179, some 18)], [(190, some 29), (179, some 18)]] [(30, 191), (29, 190), (28, 189), (27, 188), (26, 187), (25, 186), (24, 185), (23, 184), (22, 183), (21, 182), (20, 181), (19, 180), (18, 179), (17, 178), (16, 177), (15, 176), (14, 175), (13, 174), (12, 173), (11, 172), (10, 171), (9, 170), (8, 169), (7, 168), (6, 167), (5, 166), (4, 165), (3, 164), (2, 163), (1, 162), (0, 161)] hh mixed Tz ?_
            refine dV ?_;refine fJ 3 ?_;refine dE ?_;refine BQ (i) ?_;refine pE [_,_,_] (fun _ hj => hj.hp.eU (f := NR.cells) (x := nR v) (l := Z.map nR) (i := 4) rfl NR.len Ty (oQ hz1)) ?_;refine dV ?_;refine fJ 7 ?_;refine dE ?_;refine BQ (i) ?_;refine pE [_,_,_] (fun _ hj => hj.hp.eU (f := NR.cells) (x := nR xv) (l := X.map nR) (i := 8) rfl NR.len Ty (oQ hx1)) ?_;refine dV ?_;refine fJ 5 ?_;refine dE ?_;refine BQ (i) ?_;refine pE [_,_,_] (fun _ hj => hj.hp.eU (f := NR.cells) (x := nR yv) (l := Y.map nR) (i := 6) rfl NR.len Ty (oQ hy1)) ?_;refine sC [_,_,_,_,_,_] ?_;refine aR (i := 16) (Is (.agg #[.bool (nR v).neg, .string (nR v).bo, .int .i64 (nR v).e])) Is.ext ?_ ?_
            ·intro ρ1 w1 hj hR;obtain ⟨A176, c176, h176, s176⟩ := hR.1;exact a8 rfl (aM ak.out (aw h176 aX)) (hs2 A176 c176 _ (hT.hp hj.hp) s176) (fun _ _ hq => ⟨_, hq.1, hq.2, rfl⟩)
            refine bp (i := 17) (fun ρ1 w1 hj hR => xq (show ρ1 165 = Value.agg (List.toArray _) from hR.1) (show ρ1 177 = Value.agg (List.toArray _) from hR.2.1) (by first | assumption | rfl)) ?_;refine nJ ?_;refine dG (dV ?_);refine dG (fJ 1 ?_);refine dG (dE ?_);refine dG (BQ (i) ?_);refine dG (pE [_,_,_] (fun _ hj => hj.hp.eU (f := NR.cells) (x := nR u) (l := W_.map nR) (i := 2) rfl NR.len Ty (oQ hv1)) ?_);refine dG (fT 9 [_,_,_] ?_);refine dG (gk ?_);refine dG (dE ?_);refine dG (BQ (i) ?_);refine dG (pE [_,_,_] (fun _ hj => hj.hp.eU (f := NR.cells) (x := nR (nD wv)) (l := T) (i := 0) rfl NR.len Ty hu1) ?_);refine aW (i := 29) (cs := [_, _, _, _, _, _]) rfl (fun ρ1 w1 hj hR => (show ρ1 179 = Value.bool _ from hR.2.2.1)) bg.out aN.out (fun ρ1 w1 hj hR => (aK (show ρ1 185 = Value.agg (List.toArray _) from hR.1) (aK (show ρ1 189 = Value.agg (List.toArray _) from hR.2.1) bP))) rfl rfl Ty Ty rfl ?_;refine aR (i := 30) (Is (.agg #[.bool (nR u).neg, .string (nR u).bo, .int .i64 (nR u).e])) Is.ext ?_ ?_
            ·intro ρ1 w1 hj hR;obtain ⟨A190, c190, h190, s190⟩ := hR.1;refine a7 rfl ((show ρ1 179 = Value.bool _ from hR.2.1)) ?_;exact a8 rfl (aM ak.out (aw h190 aX)) (hm2 A190 c190 _ (hT.hp hj.hp) s190) (fun _ _ hq => ⟨_, hq.1, hq.2, rfl⟩)
            refine aT ?_;intro f W hJ hV;have hb_17 := hJ.bl;obtain ⟨v191, v190, v189, v188, v187, v186, v185, v184, v183, v182, v181, v180, v179, v178, v177, v176, v175, v174, v173, v172, v171, v170, v169, v168, v167, v166, v165, v164, v163, v162, v161, _⟩ := hV;obtain ⟨A176, c176, e176, f176⟩ : Rows _ _ _ (f 15) W := v176;obtain ⟨A190, c190, e190, f190⟩ : Rows _ _ _ (f 29) W := v190;replace hh := hJ.hp;refine a6 (bm (ae v191 (ae e190 (ae v189 (ae v188 (ae v187 (ae v186 (ae v185 (ae v184 (ae v183 (ae v182 (ae v181 (ae v180 (ae v179 (ae v178 (ae v177 (ae e176 (ae v175 (ae v174 (ae v173 (ae v172 (ae v171 (ae v170 (ae v169 (ae v168 (ae v167 (ae v166 (ae v165 (ae v164 (ae v163 (ae v162 (ae v161 a0)))))))))))))))))))))))))))))))) ?_;dsimp only [cg];clear e176 e190 hJ;refine gT ?_
            (first | refine xL rfl rfl (by first | assumption | rfl) Ty ?_ | refine EH rfl rfl (by assumption) Ty ?_)
            refine dK ?_;refine oS ?_;refine bh (aI (aA (ai ?_)));refine ⟨⟨i + 1, Tx, rfl, hh⟩, by show au ns - (i + 1) < au ns - i; omega, ?_⟩;exact dL
           ·refine ah (sr (mI (bD ?_)));refine bB hh 7 ?_;refine aJ ?_;refine bf (aa (cF (aZ (aD (aD (bq (ai (sr ?_))))))));refine bz hh (jw _ (hT.hp hh)) rfl ?_;intro w194 hh;exact vi
         ·refine ah (sr (mI ?_));refine cK (mB (gT (mI (gT ?_))));refine cK ?_;refine dK ?_;exact Nc
        ·refine ah (sr (mI ?_));refine cK (mB ?_);refine gS (gS ?_);refine fu ?_;exact Nc
end Go.Proofs.YteeckcbbnegmcaaGreatDoor
namespace Go.Proofs.YteeckcbbnegmcaaGreatDoor.bernSums
open Go.ChangeShapes Go.WideShapes Go.ChangeAt Go.RowKit Go.ChangeMaps
theorem own : ownKnob Tryz.prog.godebug = none := by kernel_rfl
set_option maxRecDepth 100000 in
theorem lifted (os : Os) (started : os.Started) (H : Type) (enc : TypeId × Value → H) :
  ReturnsInHanded {} Tryz.checked os 7 .any (fun w args => (Rows.bernSumsSpec.pre enc Tryz.prog Tryz.f7 Rows.bernSumsRow.domain false w args ∧ laidMetH Tryz.prog Rows.bernSumsRow.laid w) ∧ sizedMet enc Tryz.prog Tryz.f7 (OpenSpec.ofChange Rows.bernSumsSpec) false w args)
   (Rows.bernSumsSpec.post enc Tryz.prog Tryz.f7 false true false false) := by
 refine returnsInHanded_of_change_and (C := Tryz.checked) (X := fun w _ => laidMetH Tryz.prog Rows.bernSumsRow.laid w) (fun _ _ _ hh h => h.of_heap hh) own started Tz Tryz.func7
  (ChangeSpec.witness_shaped (enc := enc) (C := Tryz.checked) (os := os) (X := fun w _ => laidMetH Tryz.prog Rows.bernSumsRow.laid w) false (World.laidAll Tryz.prog os Rows.bernSumsRow.laid) #[.agg #[.int .i64 0, .slice none 0 0], .agg #[.int .i64 0, .slice none 0 0], .slice none 0 0, .slice none 0 0, .agg #[.bool false, .string ⟨#[]⟩, .int .i64 0]] 8 (World.laidAll_os _ _ _)
   (World.shaped_of_ZipB Tz Tz) Tz Tz Tz
   (by rw [MakeChecks.laidMetH_plain _ _ _ Tz]; exact laidMet_laidAll _ Tz Tz)) ?_
 intro W base args ds gs before hval0 hW hc _ hL _;have hval : ∀ (j : Nat) t v, Tryz.f7.params[j]? = some t → args[j]? = some v → Value.okWide Tryz.prog W .any base t v := hval0;have hW' := hW;obtain ⟨p, q, hA0, hV, rfl, hfz, hnd⟩ := hW;have hA : DataW.TrodAll enc Tryz.prog W 0 (fun _ => true) true Tryz.f7.params.toList args.toList ds p := hA0;rw [Tryz.params7] at hA hval;obtain ⟨v0, vs0, d0, ds0, p0, q0, hargs, rfl, rfl, h0, r0⟩ := trodAll_cons hA;obtain ⟨v1, vs1, d1, ds1, p1, q1, rfl, rfl, rfl, h1, r1⟩ := trodAll_cons r0;obtain ⟨v2, vs2, d2, ds2, p2, q2, rfl, rfl, rfl, h2, r2⟩ := trodAll_cons r1;obtain ⟨v3, vs3, d3, ds3, p3, q3, rfl, rfl, rfl, h3, r3⟩ := trodAll_cons r2;obtain ⟨v4, vs4, d4, ds4, p4, q4, rfl, rfl, rfl, h4, r4⟩ := trodAll_cons r3;obtain ⟨rfl, rfl, rfl⟩ := trodAll_nil r4;obtain rfl : args = #[v0, v1, v2, v3, v4] := by cases args; simp_all
 obtain ⟨rfl, rfl⟩ := trodVars_none hV;obtain ⟨f0, rfl, hS0, hR0⟩ := vO (hval 0 24 v0 rfl rfl) h0;obtain ⟨f1, rfl, hS1, hR1⟩ := vO (hval 1 24 v1 rfl rfl) h1;obtain ⟨A2, n2, c2, l2, rfl, hS2, _⟩ := JF (hval 2 34 v2 rfl rfl) h2;obtain ⟨A3, n3, c3, l3, rfl, hS3, hR3⟩ := CR (hval 3 35 v3 rfl rfl) h3;obtain ⟨x4, rfl, _, _⟩ := Js (hval 4 65 v4 rfl rfl) h4;refine (tf f0 f1 A2 n2 c2 l2 A3 n3 c3 l3 x4 W (AE hL) hS0 hR0 hS1 hR1 hS2 hS3 hR3).mono fun e W' ⟨he, hb⟩ => ?_;subst he;exact ⟨_, rfl, HS hW' rfl Tz (by rw [Tryz.params7]; exact of_decide_eq_true Tz) Tz Tryz.underlying4 rfl rfl rfl hb⟩
set_option maxHeartbeats 8000000 in
theorem row_holds : Rows.BernSumsSaid :=
 OpenClaim.holds_of_wide 7 Tryz.f7 rfl rfl rfl rfl rfl rfl rfl ⟨rfl, rfl, rfl, rfl, rfl⟩ rfl rfl rfl rfl rfl (by as_aux_lemma => kernel_rfl) Tryz.func7 (by rw [joinedFacts]; simp only [Bool.and_eq_true]; and_intros <;> as_aux_lemma => kernel_rfl)
  (of_decide_eq_true (by as_aux_lemma => kernel_rfl)) (by unfold Func.isWrapper; first | (rw [if_pos (by decide +kernel)]; kernel_rfl) | (rw [if_neg (by decide +kernel)]; exact ⟨rfl, rfl⟩))
  (fun os started H enc _ => lifted os started H enc)
set_option maxHeartbeats 8000000 in
theorem holds : Rows.BernSumsCardSaid :=
 Claim7.holds_tied_plain_at .later [] [.data, .data, .pinned] true (true, "2e00f90462f683c83fa0963bfbbf790e29f51abb4608f860dd030f3668376368") false row_holds (fun _ h => by cases h) (by as_aux_lemma => kernel_rfl) (fun _ h => by cases h) bernSums_row_tie rfl ⟨rfl, rfl⟩ (by as_aux_lemma => kernel_rfl) rfl
  (fun f fn hf hfn => by
   obtain rfl : f = 7 := Option.some.inj ((show Tryz.prog.funcNamed "ogee/ogeelaw12.BernSums" = some 7 by as_aux_lemma => kernel_rfl).symm.trans hf) |>.symm;obtain rfl : fn = Tryz.f7 := (Option.some.inj (Tryz.func7.symm.trans hfn)).symm;exact ⟨by as_aux_lemma => kernel_rfl, fun j t ht => by
    rw [Tryz.params7] at ht;have hm : t ∈ [24, 24, 34, 35, 65] := by simpa using Array.mem_of_getElem? ht
    have hall : ([24, 24, 34, 35, 65].all fun u => !Tryz.prog.wantsStandIn u) = true := by as_aux_lemma => kernel_rfl
    exact (show Tryz.prog.wantsStandIn t = false by simpa using List.all_eq_true.1 hall t hm)⟩)
  (by as_aux_lemma => kernel_rfl)
#print axioms holds
end Go.Proofs.YteeckcbbnegmcaaGreatDoor.bernSums
