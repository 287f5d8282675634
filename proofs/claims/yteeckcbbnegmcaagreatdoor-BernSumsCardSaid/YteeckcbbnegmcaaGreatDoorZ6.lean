/- Lemmas for bernSums, part 6. -/
import Derived.RangeFuncFrom
import Derived.RangeFuncCalls
import Derived.RangeFuncLeaves
import Derived.Shelf.Abstract
import Derived.Test.YteeckcbbnegmcaaGreatDoorZ5
namespace Go.Proofs.YteeckcbbnegmcaaGreatDoor
open Go.RowKit
def da (p : PX) (ls : List PX) : Int × List TR :=
 if p.e ≠ 0 then (p.e, []) else if (ls.length : Int) ≠ p.v then (1, []) else if ls.length ≠ 0 ∧ eS ls ≠ 0 then (eS ls, []) else fP (eC ls) (ls.map PX.ts) 0 p.ts
theorem BN (f : PX) (p : Addr) (x : Int) (w : World) (hp : w.cell? p = some (.int .i64 x)) :
  Calls Tryz.prog 155 #[.agg #[.int .i64 f.v, .slice f.A f.n f.c], .pointer (some p)] w fun r w' => r = .returned (.bool (decide (f.v ≠ x))) ∧ Below w.heap.size w w' := by
 have hh := Hp.start w;by_cases hg : f.v = x
 ·refine aj (N := 8) (l := [.agg #[.int .i64 f.v, .slice f.A f.n f.c], .pointer (some p)]) Tryz.func155 rfl rfl (by simp) ?_;refine sr ?_;refine cx hh [_,_] ?_;intro b2 w2 hh;refine aB (aa (sr (bD ?_)));refine bB hh 0 ?_;refine bT aN.out rfl ((hh.below.cell (lh hp)).trans hp) Ty ?_;exact Mx
 ·refine aj (N := 8) (l := [.agg #[.int .i64 f.v, .slice f.A f.n f.c], .pointer (some p)]) Tryz.func155 rfl rfl (by simp) ?_;refine sr ?_;refine cx hh [_,_] ?_;intro b2 w2 hh;refine aB (aa (sr (bD ?_)));refine bB hh 0 ?_;refine bT aN.out rfl ((hh.below.cell (lh hp)).trans hp) Ty ?_;exact NM
structure RY (p : PX) (ls : List PX) (k K T c0 : Nat) (ds : List Nat) : Prop where
 len : ds.length = ls.length
 RU : ∀ (i d : Nat), ds[i]? = some d → d ≤ 127 ∧ ∀ t ∈ p.ts, fw i t ≤ d
 grow : eZ c0 ds (k + 1) ≤ 440000
 step : K + 4096 * T + 8192 ≤ c0
 top : c0 ≤ 440000
 kO : ∀ g ∈ ls, g.kO K
 Oz : ∀ g ∈ ls, g.ts.length ≤ T
theorem Av {v : Int} {ts : List TR} (h : fH v ts = 0) : Fp v 0 ts := by
 obtain ⟨_, _, h3, h4⟩ := cu h;exact ⟨h4.rj, h3, fun a _ b _ => by rw [List.take_zero, List.take_zero]⟩
theorem pJ (p : PX) (lA : Option Addr) (lc : Nat) (ls : List PX) (k K T c0 : Nat) (ds : List Nat) (w : World) (hT : ee w) (hp : p.at_ w) (lp : p.kO k) (hL : Sl w lA ls.length 2 (az PX.cells ls)) (hat : ∀ g ∈ ls, g.at_ w) (hlc : ls.length ≤ lc) (hf : RY p ls k K T c0 ds) :
  Calls Tryz.prog 69 #[.agg #[.int .i64 p.v, .slice p.A p.n p.c], .slice lA ls.length lc] w fun r w' => ∃ g : PX, eK (da p ls).1 (eC ls) (da p ls).2 g ∧ r = .returned (.tuple #[.agg #[.int .i64 g.v, .slice g.A g.n g.c], .int .i64 (da p ls).1]) ∧ Hp w [g.row] w' := by
 have hh := Hp.start w;have hck := fun w1 hT1 hb => nj p k w1 hT1 (hp.ext hb) lp;unfold da;by_cases h0 : p.e ≠ 0
 ·rw [if_pos h0];generalize p.e = e at *;refine aj (N := 54) (l := [.agg #[.int .i64 p.v, .slice p.A p.n p.c], .slice lA ls.length lc]) Tryz.func69 rfl rfl (by simp) ?_;refine sr ?_;refine cx hh [_,_] ?_;intro b2 w2 hh;refine bR hh ?_;intro b4 w4 hh;refine aI (aa (ah (sr ?_)));refine cD hh 1 [_,_] ?_;refine fG ?_;intro w12 hh;exact KD
 ·rw [if_neg h0];have hpe : p.e = 0 := Tx;rw [hpe] at hck;by_cases h1 : (ls.length : Int) ≠ p.v
  ·rw [if_pos h1];refine aj (N := 54) (l := [.agg #[.int .i64 p.v, .slice p.A p.n p.c], .slice lA ls.length lc]) Tryz.func69 rfl rfl (by simp) ?_;refine sr ?_;refine cx hh [_,_] ?_;intro b2 w2 hh;refine bR hh ?_;intro b4 w4 hh;refine aI (aa (ah (sr ?_)));refine cD hh 1 [_,_] ?_;refine fG ?_;intro w12 hh;refine aI (aa (sr (mI ?_)));refine rq ?_;refine bB hh 1 ?_;refine cK (aa (cT (sr ?_)));exact L5
  ·rw [if_neg h1];obtain ⟨hfw, h4, hmy, hca⟩ := cu hpe;replace hfw := iD.1 hfw;have hl12 : ls.length ≤ 12 := Tx;have hpl := hp.ln;have hsr := Av hpe;have hput := fun (v : Int) (hv : ja v = true) (hz : ∀ g ∈ ls, fH v g.ts = 0) (hvv : ∀ g ∈ ls, g.v = v) w1 hT1 hb => CH lA lc K T c0 v ls hv hlc hl12 (fun g hg => ⟨⟨hz g hg, (hf.kO g hg).ok, (hf.kO g hg).sz⟩, hvv g hg, hf.kO g hg, hf.Oz g hg⟩) hf.step hf.top ls 0 p.ts p.A p.n p.c ds k w1 rfl (Nat.zero_le _) hT1 (hL.ext hb) (fun g hg => (hat g hg).ext hb) (hp.ext hb) lp.cap (by rw [show ((ls.length : Nat) : Int) = p.v by omega]; exact hsr) lp.ok Tx hf.len (fun i d h => by rw [Nat.zero_add]; exact hf.RU i d h) hf.grow;by_cases hn : ls = []
   ·subst hn;rw [if_neg (fun h => h.1 rfl)];have hpu := hput 0 rfl (fun g hg => by cases hg) (fun g hg => by cases hg);refine aj (N := 54) (l := [.agg #[.int .i64 p.v, .slice p.A p.n p.c], .slice lA 0 lc]) Tryz.func69 rfl rfl (by simp) ?_;refine sr ?_;refine cx hh [_,_] ?_;intro b2 w2 hh;refine bR hh ?_;intro b4 w4 hh;refine aI (aa (ah (sr ?_)));refine cD hh 1 [_,_] ?_;refine fG ?_;intro w12 hh;refine aI (aa (sr (mI ?_)));refine rq ?_;refine bB hh 1 ?_;refine wY ?_;refine bR hh ?_;intro b7 w7 hh;refine bW hh 0 [_] ?_;intro ws hh;replace hh : Hp _ (.blk _ _ [_] _ :: _) _ := hh;refine aa (ah (sr (mL (aJ ?_))));refine bM (aa (cF (ar (ai (sr (bD ?_))))));refine bB hh 2 ?_;refine mL ?_;refine bB hh 0 ?_;replace hh := show Hp w (.blk b7 3 [.int .i64 0] (0, 0) :: _) _ from hh;exact M9
   ·have hlp0 : 0 < ls.length := List.length_pos_iff.2 hn;obtain ⟨lad, rfl, hlr⟩ := hL.at_ hlp0;refine aj (N := 54) (l := [.agg #[.int .i64 p.v, .slice p.A p.n p.c], .slice (some lad) ls.length lc]) Tryz.func69 rfl rfl (by simp) ?_;refine sr ?_;refine cx hh [_,_] ?_;intro b2 w2 hh;refine bR hh ?_;intro b4 w4 hh;refine aI (aa (ah (sr ?_)));refine cD hh 1 [_,_] ?_;refine fG ?_;intro w12 hh;refine aI (aa (sr (mI ?_)));refine rq ?_;refine bB hh 1 ?_;refine wY ?_;refine bR hh ?_;intro b7 w7 hh;refine bW hh 0 [_] ?_;intro ws hh;replace hh : Hp _ (.blk _ _ [_] _ :: _) _ := hh;refine aa (ah (sr (mL (aJ ?_))));refine bM (aa (cT (ah (sr (mL (aJ (mI (aa (aq ?_)))))))));replace hh := show Hp w (.blk b7 3 [.int .i64 0] (0, 0) :: _) _ from hh;refine aP [5, 9, 10, 28, 29, 30, 31, 32, 33, 34, 35, 36, 37, 38] 28
     (fun v w' => ∃ i : Nat, i ≤ ls.length ∧ v = .int .i64 i ∧ (ls.take i).any (fun g => decide (g.e ≠ 0)) = false ∧ Hp w [.blk b7 3 [.int .i64 0] (0, 0), .blk b4 24 [.int .i64 0, .slice none 0 0] (0, 0), .blk b2 24 [.int .i64 p.v, .slice p.A p.n p.c] (0, 0)] w')
     (fun v _ => ls.length - (intOf v).toNat) ?_ ?_
    ·exact ⟨0, Nat.zero_le _, rfl, rfl, hh⟩
    ·clear hh;rintro ρ' v w' ⟨i, hi, rfl, hall, hh⟩;by_cases hlt : i < ls.length
     ·obtain ⟨g, hx⟩ := ao (l := ls) (k := i) hlt;have hmem := List.mem_of_getElem? hx;have hc := fun w1 hT1 hb => nj g K w1 hT1 ((hat g hmem).ext hb) (hf.kO g hmem);by_cases he : g.e = 0
      ·refine sr ?_;refine dH ?_;refine cn ?_;refine ct (vs := [_, _]) aN.out rfl ((hlr.ext hh.below).recAt PX.len hx) rfl Ty ?_;refine bR hh ?_;intro b9 w9 hh;refine bW hh 0 [_,_] ?_;intro ws hh;replace hh : Hp _ (.blk _ _ [_, _] _ :: _) _ := hh;refine aa (sr ?_);refine cD hh 0 [_,_] ?_;refine bz hh (hc _ (hT.hp hh) hh.below) rfl ?_;intro w33 hh;refine aI (aa (sr (mI ?_)));refine cK (aa (cF (ar (bA (ai (al ?_))))));refine bh (mI (aA (ai ?_)));replace hh := hh.sub (List.Sublist.cons _ (List.Sublist.cons_cons _ (List.Sublist.cons_cons _ (List.Sublist.cons_cons _ List.Sublist.slnil))));refine ⟨⟨i + 1, Tx, rfl, by rw [ay hx, List.any_append, hall, List.any_cons, List.any_nil, decide_eq_false Tx]; rfl, hh⟩, by show ls.length - (i + 1) < ls.length - i; omega, ?_⟩;exact dL
      ·have hlk : eS ls = g.e := by unfold eS; rw [wk hall hx (decide_eq_true he)]
       rw [if_pos ⟨Tx, by rw [hlk]; exact he⟩, hlk];refine sr ?_;refine dH ?_;refine cn ?_;refine ct (vs := [_, _]) aN.out rfl ((hlr.ext hh.below).recAt PX.len hx) rfl Ty ?_;refine bR hh ?_;intro b9 w9 hh;refine bW hh 0 [_,_] ?_;intro ws hh;replace hh : Hp _ (.blk _ _ [_, _] _ :: _) _ := hh;refine aa (sr ?_);refine cD hh 0 [_,_] ?_;refine bz hh (hc _ (hT.hp hh) hh.below) rfl ?_;intro w33 hh;refine aI (aa (sr (mI ?_)));refine cK (aa (cT (sr ?_)));refine gj [_,_] (mI ?_);refine bW hh 2 [_,_] ?_;intro ws hh;replace hh : Hp _ (_ :: _ :: .blk _ _ [_, _] _ :: _) _ := hh;refine aI (aa (av (bY (aG (aG (bY (aG (aG ?_))))))));refine rp ?_;exact Ol
     ·rw [List.take_of_length_le Tx] at hall;have hlk : eS ls = if ls.length = 0 ∨ u2 ls = true then 1 else 0 := by unfold eS; rw [iP hall]
      obtain ⟨g0, h00⟩ := ao (l := ls) (k := 0) hlp0;have hhv : eC ls = g0.v := by
       cases ls with
       | nil => cases hlp0
       | cons x l => cases h00; rfl
      have hall0 : ∀ g ∈ ls, g.e = 0 := fun g hg => by
       have := List.any_eq_false.1 hall g hg;simpa using this
      refine sr ?_;refine nH ?_;refine Fl ?_;refine oT ?_;refine bT aN.out rfl (((hlr.ext hh.below).recAt PX.len h00).cell (i := 0) rfl) Ty ?_;refine bW hh 0 [_] ?_;intro ws hh;replace hh : Hp _ (.blk _ _ [_] _ :: _) _ := hh;refine aa (sr (mL ?_));refine vk ?_;replace hh := show Hp w (.blk b7 3 [.int .i64 g0.v] (0, 0) :: _) _ from hh;rw [← hhv] at hh;have hcell : World.cell? _ ⟨b7, 0, none⟩ = some (.int .i64 (eC ls)) := hh.dX (i := 0) rfl rfl;have hoa := fun w1 hb => ug (some lad) ls.length lc ls 155 [.pointer (some ⟨b7, 0, none⟩)] (fun g => decide (g.v ≠ eC ls)) w1 (hL.ext (hh.below.trans (hb.mono hh.below.size))) Tx (fun z w2 hz hb2 => BN z ⟨b7, 0, none⟩ (eC ls) w2 (cE hb2 (cE hb hcell)))
      cases hod : u2 ls with
      | true =>
       have hod2 : ls.any (fun g => decide (g.v ≠ eC ls)) = true := hod;rw [hod2] at hoa;have hl1 : eS ls = 1 := by rw [hlk, if_pos (.inr hod)]
       rw [if_pos ⟨Tx, by rw [hl1]; decide⟩, hl1];refine bz hh (hoa _ (Below.refl _ _)) rfl ?_;intro w45 hh;refine aa (cT (sr ?_));refine gj [_,_] ?_;refine bW hh 1 [_,_] ?_;intro ws hh;replace hh : Hp _ (_ :: .blk _ _ [_, _] _ :: _) _ := hh;refine aI (aa (av (aG ?_)));refine Dx ?_;exact ⟨PX.nil, eK.err Ty, rfl, (hh.sub (List.nil_sublist _)).Cs⟩
      | false =>
       have hod2 : ls.any (fun g => decide (g.v ≠ eC ls)) = false := hod;rw [hod2] at hoa;have hl0 : eS ls = 0 := by
        rw [hlk, if_neg (fun h => h.elim (fun h => by omega) fun h => by rw [hod] at h; cases h)]
       rw [if_neg (fun h => h.2 hl0)];have hvv := (yI hl0).2.2;have hg0 := hall0 g0 (List.mem_of_getElem? h00);unfold PX.e at hg0;have hpu := hput (eC ls) (by rw [hhv]; exact (cu hg0).1) (fun g hg => by rw [← hvv g hg]; exact hall0 g hg) hvv;refine bz hh (hoa _ (Below.refl _ _)) rfl ?_;intro w45 hh;refine vx ?_;refine bB hh 2 ?_;refine mL ?_;refine bB hh 0 ?_;exact M9
theorem Ej {o p : PX} {os ls : List PX} (hv : o.v = p.v) (ht : o.ts = p.ts) (h : os.map PX.norm = ls.map PX.norm) : da o os = da p ls ∧ eC os = eC ls := by
 have h1 : eS os = eS ls := by rw [← vJ, h, vJ]
 have h2 : eC os = eC ls := by rw [← uh, h, uh]
 have h3 : os.length = ls.length := by have := congrArg List.length h; rwa [List.length_map, List.length_map] at this
 have h4 : os.map PX.ts = ls.map PX.ts := by
  have := congrArg (List.map PX.ts) h;rw [List.map_map, List.map_map] at this;exact this
 refine ⟨?_, h2⟩;unfold da PX.e;rw [hv, ht, h1, h2, h3, h4]
theorem jP {v : Int} {k n : Nat} {l : List TR} (hv : ja v = true) (hm : ∀ t ∈ l, eH v t = true) (ho : iO k l) (hz : ∀ t ∈ l, t.m.size ≤ 100000) (hl : l.length ≤ n) (hn : n ≤ 4096) (hk : k + n ≤ 3999990) : ky v (k + n) (aF l) :=
 ⟨eP hv (Nat.le_trans (bQ _) Tx) hm, lE ho Tx Tx, lX hz⟩
def mF (v i : Nat) : List TR := aF [⟨kE v i, nR ((1 : Int) : Dyadic)⟩]
def kX (v : Nat) (x : Dyadic) : List TR := aF [⟨cR v, nR x⟩]
def ub (v i : Nat) (x : Dyadic) : List TR := aF ((mF v i).map (qQ x))
def gP (v i : Nat) (s : SR) : List TR := aF (kX v s.L ++ ub v i (s.H - s.L))
def br (b : List SR) : List PX := b.mapIdx fun i s => ⟨b.length, none, 0, 0, gP b.length i s⟩
theorem fD {v : Nat} (h : v ≤ 12) : ja (v : Int) = true := iD.2 ⟨Tx, Tx⟩
theorem rZ {v i : Nat} (h : v ≤ 12) : ky (v : Int) 3 (mF v i) := by
 have hs : ((kE v i).size : Int) = v := p7 Tx;refine jP (k := 2) (n := 1) (fD h) (fun t ht => ?_) (fun t ht => ?_) (fun t ht => ?_) (Nat.le_refl _) Ty Ty
 ·rw [List.mem_singleton.1 ht];unfold eH;rw [Bool.and_eq_true, decide_eq_true_eq];exact ⟨y3 v i, hs⟩
 ·rw [List.mem_singleton.1 ht];exact ⟨Sz.one.ok Ty, by show Sz 2 (nR _).d; rw [cf]; exact Sz.one.mono Ty⟩
 ·rw [List.mem_singleton.1 ht];show (kE v i).size ≤ 100000;omega
theorem sk {v k : Nat} {x : Dyadic} (h : v ≤ 12) (hx : Sz k x) (hk : k ≤ 900000) : ky (v : Int) (k + 1) (kX v x) := vn (fD h) (by show Sz k (nR x).d; rw [cf]; exact hx) hk
theorem E1 {v i k : Nat} {x : Dyadic} (h : v ≤ 12) (hx : Sz k x) (hk : k ≤ 400000) : ky (v : Int) (k + k + 4) (ub v i x) := by
 have hv := rZ (i := i) h;have hl : ((mF v i).map (qQ x)).length ≤ 1 := by rw [List.length_map]; exact bQ _
 refine (jP (k := 3 + k) (n := 1) (fD h) (fun t ht => ?_) (D6 hv.ok hx Tx) (fun t ht => ?_) hl Ty Tx).mono (by
  by_cases h0 : k = 0
  ·omega
  ·omega)
 ·obtain ⟨s, hs, rfl⟩ := List.mem_map.1 ht;exact (cu hv.e).2.2.1 s hs
 ·obtain ⟨s, hs, rfl⟩ := List.mem_map.1 ht;exact hv.sz s hs
theorem mW {v i k : Nat} {s : SR} (h : v ≤ 12) (hs : s.fin k) (hk : k ≤ 100000) : ky (v : Int) (k + k + 10) (gP v i s) ∧ (gP v i s).length ≤ 2 := by
 have h1 := sk h (SR.Ko hs) Tx;have h2 := E1 (i := i) h ((SR.P1 hs).sub (SR.Ko hs)) Tx;have hl : (kX v s.L ++ ub v i (s.H - s.L)).length ≤ 2 := by
  rw [List.length_append];have a1 : (kX v s.L).length ≤ 1 := bQ _;have a2 : (ub v i (s.H - s.L)).length ≤ 1 := Nat.le_trans (bQ _) (by rw [List.length_map]; exact bQ _);omega
 have hm : ∀ {P : TR → Prop}, (∀ t ∈ kX v s.L, P t) → (∀ t ∈ ub v i (s.H - s.L), P t) → ∀ t ∈ kX v s.L ++ ub v i (s.H - s.L), P t := fun a b t ht => (List.mem_append.1 ht).elim (a t) (b t);refine ⟨(jP (k := k + 1 + (k + 1) + 4) (n := 2) (fD h) (hm (cu h1.e).2.2.1 (cu h2.e).2.2.1) (hm (h1.ok.mono Tx) h2.ok) (hm h1.sz h2.sz) hl Ty Tx).mono Tx, Nat.le_trans (bQ _) hl⟩
theorem ig {b : List SR} {i : Nat} {s : SR} (h : b[i]? = some s) : (br b)[i]? = some ⟨b.length, none, 0, 0, gP b.length i s⟩ := by
 unfold br;rw [List.getElem?_mapIdx, h]
 rfl
theorem jQ (b : List SR) : (br b).length = b.length := by unfold br; rw [List.length_mapIdx]
theorem Ce {b : List SR} {g : PX} (h : g ∈ br b) : ∃ i s, b[i]? = some s ∧ g = ⟨b.length, none, 0, 0, gP b.length i s⟩ := by
 obtain ⟨i, hi⟩ := List.mem_iff_getElem?.1 h;obtain ⟨s, hs⟩ := ao (l := b) (k := i) (by have := (List.getElem?_eq_some_iff.1 hi).1; rwa [jQ] at this);rw [ig hs] at hi;exact ⟨i, s, hs, (Option.some.inj hi).symm⟩
theorem Od {n i : Nat} (h : n ≤ 12) (hi : i < n) : uw n i = 0 := if_neg (by rw [fD h]; rintro (a | a | a) <;> first | cases a | omega)
theorem MO {n : Nat} (h : n ≤ 12) : uZ n = 0 := if_neg (by rw [fD h]; decide)
theorem xO (p : PX) (L : Option Addr) (n c : Nat) (b : List SR) (k : Nat) (ds : List Nat) (w : World) (hT : ee w) (hp : p.at_ w) (lp : p.kO k) (hB : Sl w L n 6 (az SR.cells b)) (hb : ∀ s ∈ b, s.fin k) (hv : p.v = n) (hn0 : 0 < n) (hn : n ≤ 12) (hk : k ≤ 1000)
  (hds : ds.length = n) (hex : ∀ (i d : Nat), ds[i]? = some d → d ≤ 127 ∧ ∀ t ∈ p.ts, fw i t ≤ d) (hgr : eZ (k + k + 16394) ds (k + 1) ≤ 440000) :
  Calls Tryz.prog 88 #[.agg #[.int .i64 p.v, .slice p.A p.n p.c], .slice L n c] w fun r w' => ∃ g : PX, eK (da p (br b)).1 n (da p (br b)).2 g ∧ r = .returned (.tuple #[.agg #[.int .i64 g.v, .slice g.A g.n g.c], .int .i64 (da p (br b)).1]) ∧ Hp w [g.row] w' := by
 have hh := Hp.start w;have hbl : b.length = n := hB.bk SR.len Ty;have hok : ∀ s ∈ b, s.ok := fun s hs => ⟨(hb s hs).1.ok, (hb s hs).2.ok⟩;have hfo := fun w1 hT1 hb1 => qY L n c b w1 hT1 (hB.ext hb1) hok Tx;have hhv : eC (br b) = n := by
  obtain ⟨s, hs⟩ := ao (l := b) (k := 0) Tx;rw [kI (ig hs), hbl]
 refine aj (N := 67) (l := [.agg #[.int .i64 p.v, .slice p.A p.n p.c], .slice L n c]) Tryz.func88 rfl rfl (by simp) ?_;refine sr ?_;refine cx hh [_,_] ?_;intro b2 w2 hh;refine bR hh ?_;intro b4 w4 hh;refine aI (aa (sr (aL (aa (ah (sr (mL ?_)))))));refine aE (hfo _ (hT.hp hh) hh.below) ak.out rfl Ty ?_;rintro e_ w18 ⟨A18, c18, rfl, hown_, hb_⟩;refine ⟨_, rfl, ?_⟩;replace hh := hh.aV (x := .row _ _ _ _ _ _) hb_ hown_;refine aJ (mI (aa (aq ?_)));replace hh := hh.db 24 2;refine bJ [6, 7, 8, 9, 10, 11, 12, 13, 14, 15, 16, 20, 21, 22, 23, 24, 25, 26, 27, 28, 29, 30, 31, 32, 33, 34, 35, 36, 37, 38, 39, 40, 41, 42, 43, 44, 45, 46, 47, 48, 49, 50, 51, 52, 53, 54, 55, 56, 57, 58, 59, 60, 61] 6 20
  (fun a v w' => ∃ (i c3 : Nat) (A : Option Addr) (os : List PX) (R : List HE), i ≤ n ∧ v = .int .i64 i ∧ a = .slice A i c3 ∧ os.length = i ∧ AN ((br b).map fun g => ⟨g.v, none, g.ts.length, 0, g.ts⟩) os R ∧ Hp w (.row A i c3 24 2 (az PX.cells os) :: .row A18 n c18 81 6 (az SR.cells (b.map SR.f)) :: .blk b4 24 [.int .i64 0, .slice none 0 0] (0, 0) :: .blk b2 24 [.int .i64 p.v, .slice p.A p.n p.c] (0, 0) :: R) w')
  (fun _ v _ => n - (intOf v).toNat) ?_ ?_
 ·exact QO
 ·clear hh;rintro ρ' a_ v w' ⟨i, c3, A, os, R, hi, rfl, rfl, hol, hcp, hh⟩;by_cases hlt : i < n
  ·obtain ⟨s, hs⟩ := ao (l := b) (k := i) Tx;have hsf := hb s (List.mem_of_getElem? hs);have hsn : (b.map SR.f)[i]? = some s.f := by rw [List.getElem?_map, hs]; rfl
   have zL := SR.Ko hsf;have zH := SR.P1 hsf;have zW := zH.sub zL;obtain ⟨po, pl⟩ := mW (v := n) (i := i) hn hsf Tx;have vo := rZ (i := i) hn;have fo := E1 (i := i) hn zW Tx;have co := sk hn zL Tx;have hva := fun w1 hT1 => uE (n : Int) (i : Int) w1 hT1;rw [Od hn hlt] at hva;have hsu := fun w1 hT1 => lG (nR s.H) (nR s.L) w1 hT1 (zH.ok Tx) (zL.ok Tx) k (by rw [cf]; exact zH) (by rw [cf]; exact zL) Tx;rw [cf, cf] at hsu;have hcn := fun w1 hT1 => iu (n : Int) (nR s.L) k w1 hT1 ⟨zL.ok Tx, by rw [cf]; exact zL⟩ Tx;rw [MO hn] at hcn;rw [Int.toNat_natCast] at hva;have hV : aF [⟨kE n i, nR ((1 : Int) : Dyadic)⟩] = mF n i := rfl;have hC : aF [⟨cR n, nR s.L⟩] = kX n s.L := rfl;have hF : aF ((mF n i).map (qQ (s.H - s.L))) = ub n i (s.H - s.L) := rfl;have hP : aF (kX n s.L ++ ub n i (s.H - s.L)) = gP n i s := rfl;have tl1 : (mF n i).length ≤ 1 := bQ _;have ul1 : (kX n s.L).length ≤ 1 := bQ _;have fl1 : (ub n i (s.H - s.L)).length ≤ 1 := Nat.le_trans (bQ _) (by rw [List.length_map]; exact bQ _);have hps := ig hs;rw [hbl] at hps;rw [hV] at hva;rw [hC] at hcn;clear hV hC;generalize mF n i = VL at *;generalize kX n s.L = CL at *;generalize ub n i (s.H - s.L) = FL at *;generalize gP n i s = PL at *
   obtain ⟨gf, rfl⟩ := hh.cd (i := 1) rfl Tx;refine sr ?_;refine dZ ?_;refine gh ?_;refine ct (vs := [_, _, _, _, _, _]) aN.out rfl (hh.eU (f := SR.cells) (x := s.f) (l := b.map SR.f) (i := 1) rfl SR.len Ty hsn) rfl Ty ?_;refine bR hh ?_;intro b8 w8 hh;refine aI ?_;refine bW hh 0 [_,_,_,_,_,_] ?_;intro ws hh;replace hh : Hp _ (.blk _ _ [_, _, _, _, _, _] _ :: _) _ := hh;refine aa (sr (mL (aJ (mI ?_))));replace hh := show Hp w (.blk b8 81 [.bool (nR s.L).neg, .string (nR s.L).bo, .int .i64 (nR s.L).e, .bool (nR s.H).neg, .string (nR s.H).bo, .int .i64 (nR s.H).e] (0, 0) :: _) _ from hh;refine aE (hva _ (hT.hp hh)) ak.out rfl Ty ?_;rintro e_ w29 ⟨t, ot, rfl, h4⟩;refine ⟨_, rfl, ?_⟩;have htc : t.n ≤ t.c := h4.eO (i := 0) rfl;replace hh := hh.join h4;clear h4;simp only [List.cons_append, List.nil_append] at hh;obtain ⟨tv, tA, tn, tc, tt⟩ := t;replace hh := show Hp w (.row tA tn tc 96 4 (az TR.cells tt) :: _) _ from hh;have et : VL = tt := ot.t0.symm;have ev_ : tv = (n : Int) := ot.v0;subst et ev_;have tln : VL.length = tn := (hh.aC (i := 0) rfl).bk TR.len Ty
   have hsc := fun w1 hT1 ha => xI ⟨n, tA, tn, tc, VL⟩ (nR (s.H - s.L)) (k + 3) w1 hT1 ha ⟨by show tn ≤ 1000000; omega, htc, vo.ok.mono Tx, vo.sz⟩ ⟨zW.ok Tx, by rw [cf]; exact zW.mono Tx⟩ Tx;have hse : I6 ⟨n, tA, tn, tc, VL⟩ (s.H - s.L) = 0 := by
    unfold I6 PX.e;rw [vo.e, if_pos rfl];exact gU (by rw [List.length_map]; show VL.length ≤ 4096; omega)
   rw [cf, hse] at hsc;dsimp only at hsc;rw [hF] at hsc;refine mT ?_;refine dq ?_;refine dq ?_;refine bR hh ?_;intro b9 w9 hh;refine bW hh 0 [_,_] ?_;intro ws hh;replace hh : Hp _ (.blk _ _ [_, _] _ :: _) _ := hh;refine aI (aa (ah ?_));refine ef [10] [9] [0, 0, 2, 0, 8, 30, 63, 127, 255, 255, 0, 1535, 4095] 11 [[(9, none)], [(8, none)], [(34, some 1)], [(8, none)], [(36, some 3)], [(35, some 2), (37, some 4)], [(33, some 0), (38, some 5)], [(39, some 6)], [(32, some 7)], [(32, some 7)], []] [(10, 11), (9, 41), (8, 40), (7, 32), (6, 39), (5, 38), (4, 37), (3, 36), (2, 35), (1, 34), (0, 33)] hh mixed Tz (qm rfl aN.out e8) rfl (by repeat (first | exact cB | refine bO ?_ | refine cA ?_)) ?_;refine fT 0 [_,_] ?_;refine dV ?_;refine fT 2 [_,_,_] ?_;refine dV ?_;refine fT 2 [_,_,_] ?_;refine dC (fun _ hj => hsu _ (hT.hp hj.hp)) ?_;refine aR (i := 6) (jY hh.sz 0 n FL) (jY.ext) ?_ ?_
   ·intro ρ1 w1 hj hR;exact a8 rfl (aM ak.out (aw (show ρ1 33 = Value.agg (List.toArray _) from hR.1) (aw (show ρ1 38 = Value.agg (List.toArray _) from hR.2.1) aX))) (hsc w1 (hT.hp hj.hp) (hj.hp.aC (i := 1) rfl)) (fun _ _ ⟨g, og, hq, h3⟩ => ⟨_, hq, h3.below, g, w1, rfl, og, hj.bl.size, h3⟩)
   refine aR (i := 7) (jY hh.sz 0 n FL) (jY.ext) ?_ ?_
   ·exact Pr
   refine aR (i := 8) (jW hh.sz 0 n FL) (jW.ext) ?_ ?_
   ·exact OD
   refine aR (i := 9) (Is (.int .i64 0)) (Is.ext) ?_ ?_
   ·exact OO
   refine aR (i := 10) (dr _ 24 _) dr.ext (fun ρ1 w1 hj hR => jV aN.out hj.bl (fun v w2 h hb => ⟨hb, h⟩)) ?_;refine aT ?_;intro f W hJ hV _;have hb_6 := hJ.bl;obtain ⟨v11, v41, v40, v32, v39, v38, v37, v36, v35, v34, v33, _⟩ := hV;obtain ⟨g39, u39, e39, -⟩ := v39;obtain ⟨g32, u32, e32, -⟩ := v32;obtain ⟨g40, u40, e40, o40, q40, h40⟩ := v40;obtain ⟨b11, e11, hl11, hc11⟩ : dr _ _ _ (f 10) W := v11;replace hh := hJ.qd hh hl11 hc11 q40 h40 (PX.ne h40 hc11 Ty);refine a6 (bm (ae e11 (ae v41 (ae e40 (ae e32 (ae e39 (ae v38 (ae v37 (ae v36 (ae v35 (ae v34 (ae v33 a0)))))))))))) ?_;dsimp only [cg];clear e39 e32 e40 e11 hJ;simp only [List.cons_append, List.nil_append] at hh;obtain ⟨fv, fA, fn, fc, ft⟩ := g40;replace hh := show Hp w (_ :: .row fA fn fc 96 4 (az TR.cells ft) :: _) W from hh;have et : FL = ft := o40.t0.symm;have ev_ : fv = (n : Int) := o40.v0;subst et ev_;have fln : FL.length = fn := (hh.aC (i := 1) rfl).bk TR.len Ty;have fcc : fn ≤ fc := hh.eO (i := 1) rfl;refine bW hh 0 [_,_] ?_;intro ws hh;replace hh : Hp _ (.blk _ _ [_, _] _ :: _) _ := hh;refine aI (aa (sr (mL (aJ (bD ?_)))));refine cD hh 4 [_,_,_] ?_;refine aE (hcn _ (hT.hp hh)) ak.out rfl Ty ?_
   rintro e_ w47 ⟨u, ou, rfl, h4⟩;refine ⟨_, rfl, ?_⟩;have huc : u.n ≤ u.c := h4.eO (i := 0) rfl;replace hh := hh.join h4;clear h4;simp only [List.cons_append, List.nil_append] at hh;obtain ⟨uv, uA, un, uc, ut⟩ := u;replace hh := show Hp w (.row uA un uc 96 4 (az TR.cells ut) :: _) _ from hh;have et : CL = ut := ou.t0.symm;have ev_ : uv = (n : Int) := ou.v0;subst et ev_;have uln : CL.length = un := (hh.aC (i := 0) rfl).bk TR.len Ty;refine mT ?_;refine dq ?_;refine dq ?_;refine bR hh ?_;intro b13 w13 hh;refine bW hh 0 [_,_] ?_;intro ws hh;replace hh : Hp _ (.blk _ _ [_, _] _ :: _) _ := hh;refine aI (aa (sr ?_));refine cD hh 0 [_,_] ?_;refine cD hh 2 [_,_] ?_;refine AV ?_;intro b53 w53 hh;have hlp : eS [⟨n, uA, un, uc, CL⟩, ⟨n, fA, fn, fc, FL⟩] = 0 := mj co.e fo.e rfl;have had := fun A3 w1 hT1 hS1 s1 s2 => lH A3 2 2 [⟨n, uA, un, uc, CL⟩, ⟨n, fA, fn, fc, FL⟩] (k + k + 10) w1 hT1 hS1 Ty (fun g hg => by
    rcases List.mem_cons.1 hg with rfl | hg
    ·exact s1
    ·rw [List.mem_singleton.1 hg]; exact s2) (fun g hg => by
    rcases List.mem_cons.1 hg with rfl | hg
    ·exact ⟨by show un ≤ 1000000; omega, huc, co.ok.mono Tx, co.sz⟩
    ·rw [List.mem_singleton.1 hg]; exact ⟨by show fn ≤ 1000000; omega, fcc, fo.ok.mono Tx, fo.sz⟩) Tx
   unfold yA at had;rw [if_pos hlp, BG] at had;dsimp only at had;rw [hP] at had;rw [gU (l := CL ++ FL) (by rw [List.length_append]; omega)] at had;refine aE (had _ _ (hT.hp hh) (hh.aC (i := 0) rfl) (hh.aC (i := 2) rfl) (hh.aC (i := 4) rfl)) ak.out rfl Ty ?_;rintro e_ w54 ⟨z, oz, rfl, h4⟩;refine ⟨_, rfl, ?_⟩;have hzc : z.n ≤ z.c := h4.eO (i := 0) rfl;replace hh := hh.join h4;clear h4;simp only [List.cons_append, List.nil_append] at hh;replace hh := show Hp w (.row z.A z.n z.c 96 4 (az TR.cells z.ts) :: _) _ from hh;have zln : z.ts.length = z.n := (hh.aC (i := 0) rfl).bk TR.len Ty;refine mT ?_;refine dq ?_;refine dq ?_;refine bR hh ?_;intro b15 w15 hh;refine bW hh 0 [_,_] ?_;intro ws hh;replace hh : Hp _ (.blk _ _ [_, _] _ :: _) _ := hh;refine aI (aa (al (mL ?_)));refine cD hh 0 [_,_] ?_;refine cP hh (cs := [_, _]) bg.out aN.out (aK (gO rfl) bP) rfl rfl Ty Ty Ty rfl Ty ?_;intro b59 w59 hh;refine cJ hh (i := 11) rfl rfl rfl (hh.aC (i := 0) rfl) bg.out aN.out rfl Ty (by first | rfl | exact dN _ | exact dm _ | exact bX _ | exact cq NR.one _) Tx Tx Ty ?_;intro A60 c60 w60 hh;simp only [List.set_cons_zero, List.set_cons_succ] at hh;replace hh := hh.sub (List.sublist_cons_self _ _)
   refine k8 ?_;refine bh (mI (aA (ai ?_)));replace hh := hh.sub (List.Sublist.cons _ (List.Sublist.cons_cons _ (List.Sublist.cons _ (List.Sublist.cons _ (List.Sublist.cons _ (List.Sublist.cons _ (List.Sublist.cons _ (List.Sublist.cons _ (List.Sublist.cons _ (List.Sublist.cons _ (List.Sublist.cons_cons _ (List.Sublist.cons_cons _ (List.Sublist.cons_cons _ (List.Sublist.cons_cons _ (List.Sublist.refl _)))))))))))))));replace hh := hh.perm (List.perm_middle (l₁ := [_, _, _, _]));simp only [List.cons_append, List.nil_append] at hh;replace hh := hh.perm (List.perm_middle (l₁ := [_, _, _, _]));simp only [List.cons_append, List.nil_append] at hh;replace hh := hh.perm (List.perm_middle (l₁ := [_, _, _, _]));simp only [List.cons_append, List.nil_append] at hh;replace hh := hh.perm (List.perm_middle (l₁ := [_, _, _, _]));simp only [List.cons_append, List.nil_append] at hh;have hcp2 := hcp.add (g := ⟨n, none, PL.length, 0, PL⟩) (o := z) (by rw [hol, List.getElem?_map, hps]; rfl) ⟨oz.v0, oz.t0, by rw [← zln, oz.t0]⟩ hzc;refine ⟨⟨i + 1, c60, A60, os ++ [z], z.row :: R, Tx, rfl, rfl, by rw [List.length_append, hol]; rfl, hcp2, by rw [bV, jI]; exact hh⟩, by show n - (i + 1) < n - i; omega, ?_⟩
   exact dL
  ·obtain rfl : i = n := Tx;have hol2 : os.length = ((br b).map fun g => (⟨g.v, none, g.ts.length, 0, g.ts⟩ : PX)).length := by rw [List.length_map, jQ]; omega
   have hkey := hcp.key hol2;rw [List.map_map] at hkey;replace hkey : os.map PX.norm = (br b).map PX.norm := hkey;obtain ⟨ks, kh⟩ := Ej (o := p) (p := p) rfl rfl hkey;have hall : ∀ o ∈ os, o.kO (k + k + 10) ∧ o.ts.length ≤ 2 := fun o ho => by
    obtain ⟨j, hj⟩ := List.mem_iff_getElem?.1 ho;have hjn : j < os.length := (List.getElem?_eq_some_iff.1 hj).1;obtain ⟨s, hs⟩ := ao (l := b) (k := j) Tx;obtain ⟨e1, e2, e3⟩ := hcp.eq j ⟨b.length, none, (gP b.length j s).length, 0, gP b.length j s⟩ o (by rw [List.getElem?_map, ig hs]; rfl) hj;obtain ⟨po, pl⟩ := mW (v := b.length) (i := j) Tx (hb s (List.mem_of_getElem? hs)) Tx;replace e2 : o.ts = gP b.length j s := e2;replace e3 : o.n = (gP b.length j s).length := e3;exact Q4
   have hfit : RY p os k (k + k + 10) 2 (k + k + 16394) ds := ⟨Tx, hex, hgr, Tx, Tx, fun g hg => (hall g hg).1, fun g hg => (hall g hg).2⟩;have hsu := fun w1 hT1 ha hs hm hc => pJ p A c3 os k (k + k + 10) 2 (k + k + 16394) ds w1 hT1 ha lp hs hm hc hfit;rw [ks, kh, hhv, hol] at hsu;generalize (da p (br b)).1 = E at *;generalize (da p (br b)).2 = S at *;refine sr ?_;refine mu ?_;refine cD hh 3 [_,_] (mL ?_);refine aE (hsu _ (hT.hp hh) (hp.ext hh.below) (hh.aC (i := 0) rfl) (fun z hz => D2 hh (List.mem_cons_of_mem _ (List.mem_cons_of_mem _ (List.mem_cons_of_mem _ (List.mem_cons_of_mem _ (hcp.my z hz).1))))) (hh.eO (i := 0) rfl)) ak.out rfl Ty ?_;rintro e_ w64 ⟨g, og, rfl, h4⟩;refine ⟨_, rfl, ?_⟩;replace hh := hh.join h4;clear h4;simp only [List.cons_append, List.nil_append] at hh;refine dq ?_;refine dq ?_;refine bW hh 3 [_,_] ?_;intro ws hh;replace hh : Hp _ (_ :: _ :: _ :: .blk _ _ [_, _] _ :: _) _ := hh;refine aI (aa (av ?_));refine Jf ?_;exact Dq
def dM (i : Nat) (f : ByteArray → Dyadic) (m : ByteArray) : Dyadic :=
 match m.data.toList[i]? with | some e => ((e.toNat : Int) : Dyadic) * f (str (m.data.toList.set i (e - 1))) | none => 0
theorem NV {f g : ByteArray → Dyadic} {l : List TR} (h : ∀ t ∈ l, f t.m = g t.m) : wS f l = wS g l := by
 induction l with
 | nil => rfl
 | cons t l ih => rw [wS, wS, h t List.mem_cons_self, ih fun s hs => h s (List.mem_cons_of_mem _ hs)]
theorem ER {a b : List UInt8} (ha : eE a = true) (hb : eE b = true) (hl : b.length = a.length) (h : (List.zipWith (· + ·) (ints a) (ints b)).all cw = true) : mulL a b = ((List.zipWith (· + ·) (ints a) (ints b)).map xM, 0) := by
 unfold mulL;rw [Lk ha hb hl];show (HW _, Kx _) = _;rw [(pz h).1, (pz h).2]
theorem JO {a b : List UInt8} (h : (mulL a b).2 = 0) : (List.zipWith (· + ·) (ints a) (ints b)).all cw = true := by
 obtain ⟨_, _, _, h4, h5⟩ := m6 h;rw [← h5];exact Ld h4
theorem Mw {a b : ByteArray} {i : Nat} {x y : UInt8} (h : mm a b = 0) (hx : a.data.toList[i]? = some x) (hy : b.data.toList[i]? = some y) : (mulM a b).data.toList[i]? = some (xM ((x.toNat : Int) + y.toNat)) ∧ (xM ((x.toNat : Int) + y.toNat)).toNat = x.toNat + y.toNat := by
 obtain ⟨h1, h2, h3, _, _⟩ := m6 h;have hall := JO h;have hiy : (ints b.data.toList)[i]? = some (y.toNat : Int) := by unfold ints; rw [List.getElem?_map, hy]; rfl
 have hix : (ints a.data.toList)[i]? = some (x.toNat : Int) := by unfold ints; rw [List.getElem?_map, hx]; rfl
 have hzz := IK (f := fun (x y : Int) => x + y) hix hiy;have hxy : cw ((x.toNat : Int) + y.toNat) = true := List.all_eq_true.1 hall _ (List.mem_of_getElem? hzz);have e1 := rW hxy;injection e1 with _ e1
 refine ⟨?_, Tx⟩;unfold mulM;rw [dt, ER h1 h2 h3 hall, List.getElem?_map, hzz]
 rfl
def l0 (B : Nat → Nat) (l : List TR) : Prop := ∀ t ∈ l, ∀ i, fw i t ≤ B i
theorem l0.mono {B C : Nat → Nat} {l : List TR} (h : l0 B l) (hb : ∀ i, B i ≤ C i) : l0 C l := fun t ht i => Nat.le_trans (h t ht i) (hb i)
theorem N3 {s t : TR} (h : s.m = t.m) (i : Nat) : fw i s = fw i t := by unfold fw; rw [h]
theorem l0.aF {B : Nat → Nat} {l : List TR} (h : l0 B l) : l0 B (aF l) := fun t ht i => by
 obtain ⟨s, hs, e⟩ := fQ t ht;rw [← N3 e i];exact h s hs i
theorem l0.append {B : Nat → Nat} {l k : List TR} (h : l0 B l) (h2 : l0 B k) : l0 B (l ++ k) := fun t ht => (List.mem_append.1 ht).elim (h t) (h2 t)
theorem l0.prod {B C : Nat → Nat} {p q : List TR} (hp : l0 B p) (hq : l0 C q) (h : ∀ e ∈ ri p q, e = 0) : l0 (fun i => B i + C i) (cC p q) := fun t ht i => by
 obtain ⟨x, hx, ht⟩ := List.mem_flatMap.1 ht;obtain ⟨y, hy, rfl⟩ := List.mem_map.1 ht;have hz : mm x.m y.m = 0 := h _ (List.mem_flatMap.2 ⟨x, hx, List.mem_map.2 ⟨y, hy, rfl⟩⟩)
 cases ha : x.m.data.toList[i]? with
 | none =>
  have hl := Cg hz;have hx0 := List.getElem?_eq_none_iff.1 ha;have e : (qL x y).m.data.toList[i]? = none := by
   show (str _).data.toList[i]? = none;rw [dt];exact List.getElem?_eq_none (by rw [hl]; exact hx0)
  unfold fw;rw [e];exact Nat.zero_le _
 | some a =>
  obtain ⟨_, _, h3, _, _⟩ := m6 hz;have hlt := (List.getElem?_eq_some_iff.1 ha).1;obtain ⟨b, hb⟩ := ao (l := y.m.data.toList) (k := i) Tx;obtain ⟨e1, e2⟩ := Mw hz ha hb;rw [mQ (t := qL x y) e1, e2];have h1 := hp x hx i;have h2 := hq y hy i;rw [mQ ha] at h1;rw [mQ hb] at h2;show a.toNat + b.toNat ≤ B i + C i;omega
theorem tg {q p : List TR} {sub : List TR → Int × List TR} {j D : Nat} {E : Nat → Nat} (hq : l0 (fun x => if x = j then 1 else 0) q) (hD : ∀ t ∈ p, fw j t ≤ D) (hE : E j = 0) (hs : ∀ n, (sub (bI p j n)).1 = 0 → l0 E (sub (bI p j n)).2) :
  ∀ i, i ≤ 128 → (bZ q sub p j i).1 = 0 → l0 (fun x => if x = j then i + D - 128 else E x) (bZ q sub p j i).2
 | 0, _, _ => fun t ht => (nomatch ht)
 | i + 1, hi, h0 => by
  have h1 : (bZ q sub p j i).1 = 0 := by
   refine Classical.byContradiction fun c => ?_;rw [m7 c (Nat.le_succ i)] at h0;exact c h0
  have ih := tg hq hD hE hs i Tx h1;have hsb : ∀ n, (sub (bI p j n)).1 = 0 → l0 (fun x => if x = j then i + 1 + D - 128 else E x) (sub (bI p j n)).2 := fun n hn => (hs n hn).mono fun x => by
   by_cases hx : x = j
   ·rw [if_pos hx, hx, hE]; exact Nat.zero_le _
   ·rw [if_neg hx]; exact Nat.le_refl _
  have hpr : fy (bZ q sub p j i).2 q = 0 → l0 (fun x => if x = j then i + 1 + D - 128 else E x) (aF (cC (bZ q sub p j i).2 q)) := fun ht => by
   by_cases hlow : i + D ≤ 127
   ·rw [jR hD i hlow];exact fun t ht => (nomatch ht)
   ·refine ((ih.prod hq (nA ht).2.1).mono fun x => ?_).aF;by_cases hx : x = j
    ·rw [if_pos hx, if_pos hx, if_pos hx]; omega
    ·rw [if_neg hx, if_neg hx, if_neg hx]; omega
  rw [lM] at h0 ⊢;unfold iG at h0 ⊢;rw [if_neg (fun h => h h1)] at h0 ⊢;by_cases c1 : (bZ q sub p j i).2.length = 0 ∧ (bI p j (127 - i)).length = 0
  ·rw [if_pos c1, List.length_eq_zero_iff.1 c1.1];exact fun t ht => (nomatch ht)
  ·rw [if_neg c1] at h0 ⊢;by_cases c2 : fy (bZ q sub p j i).2 q ≠ 0
   ·rw [if_pos c2] at h0; exact absurd h0 c2
   ·rw [if_neg c2] at h0 ⊢;by_cases c3 : (sub (bI p j (127 - i))).1 ≠ 0
    ·rw [if_pos c3] at h0; exact absurd h0 c3
    ·rw [if_neg c3] at h0 ⊢;by_cases c4 : gR (aF (cC (bZ q sub p j i).2 q) ++ (sub (bI p j (127 - i))).2) ≠ 0
     ·rw [if_pos c4] at h0; exact absurd h0 c4
     ·rw [if_neg c4];exact ((hpr Tx).append (hsb _ Tx)).aF
theorem AU (v : Int) (c : NR) : l0 (fun _ => 0) [⟨cR v, c⟩] := fun t ht i => by
 rw [List.mem_singleton.1 ht]
 cases he : (⟨cR v, c⟩ : TR).m.data.toList[i]? with
 | none => unfold fw; rw [he]; exact Nat.le_refl _
 | some e =>
  rw [mQ he];have hm := List.mem_of_getElem? he;replace hm : e ∈ (List.replicate v.toNat (0 : UInt8)) := by simpa [cR] using hm
  rw [(List.mem_replicate.1 hm).2];exact Nat.le_refl _
theorem Ev {v : Int} : ∀ (qs : List (List TR)) (j : Nat) (p : List TR) (D : Nat → Nat), (∀ (i : Nat) (q : List TR), qs[i]? = some q → l0 (fun x => if x = j + i then 1 else 0) q) → (∀ t ∈ p, ∀ i, i < qs.length → fw (j + i) t ≤ D (j + i)) → (fP v qs j p).1 = 0 → l0 (fun x => if j ≤ x ∧ x < j + qs.length then D x else 0) (fP v qs j p).2 := by
 intro qs
 induction qs with
 | nil =>
  intro j p D _ _ _;exact (AU v _).aF.mono fun x => Nat.zero_le _
 | cons q qs ih =>
  intro j p D hq hp h0;have hsub : ∀ n, (fP v qs (j + 1) (bI p j n)).1 = 0 → l0 (fun x => if j + 1 ≤ x ∧ x < j + 1 + qs.length then D x else 0) (fP v qs (j + 1) (bI p j n)).2 := fun n hn => by
   refine ih (j + 1) (bI p j n) D (fun i r hr => ?_) (fun t ht i hi => ?_) hn
   ·have := hq (i + 1) r (by simpa using hr);rwa [show j + 1 + i = j + (i + 1) by omega]
   ·have := hp t (jJ t ht) (i + 1) (by rw [List.length_cons]; omega);rwa [show j + 1 + i = j + (i + 1) by omega]
  have hq0 : l0 (fun x => if x = j then 1 else 0) q := hq 0 q rfl;have hD : ∀ t ∈ p, fw j t ≤ D j := fun t ht => hp t ht 0 (by rw [List.length_cons]; omega);generalize hgen : fP v qs (j + 1) = sub at hsub;have e : ∀ m, m = 128 → (bZ q sub p j m).1 = 0 → l0 (fun x => if j ≤ x ∧ x < j + (q :: qs).length then D x else 0) (bZ q sub p j m).2 := fun m hm h => by
   refine (tg hq0 hD (E := fun x => if j + 1 ≤ x ∧ x < j + 1 + qs.length then D x else 0) (by rw [if_neg Tx]) hsub m Tx h).mono fun x => ?_;rw [List.length_cons];by_cases hx : x = j
   ·rw [if_pos hx, if_pos Tx, hx]; omega
   ·rw [if_neg hx];by_cases h2 : j + 1 ≤ x ∧ x < j + 1 + qs.length
    ·rw [if_pos h2, if_pos Tx]; exact Nat.le_refl _
    ·rw [if_neg h2]; exact Nat.zero_le _
  have e2 : fP v (q :: qs) j p = bZ q sub p j 128 := by rw [← hgen]; rfl
  rw [e2] at h0 ⊢;exact e 128 rfl h0
theorem QS {l : List TR} {i : Nat} {t : TR} (h : t ∈ l) : l6 t.m i ≤ AO l i := by
 induction l using jl with
 | h0 => cases h
 | hs l x ih =>
  rw [tT]
  rcases List.mem_append.1 h with h | h
  ·have := ih h; omega
  ·rw [List.mem_singleton.1 h]; omega
theorem DG {l : List TR} {i : Nat} {B : Int} (hB : 0 ≤ B) (h : ∀ t ∈ l, l6 t.m i ≤ B) : 0 ≤ AO l i ∧ AO l i ≤ B := by
 induction l using jl with
 | h0 => exact ⟨Int.le_refl _, hB⟩
 | hs l x ih =>
  rw [tT];have h1 := ih fun t ht => h t (List.mem_append_left _ ht);have h2 := h x (List.mem_append_right _ List.mem_cons_self);omega
theorem yV (t : TR) (i : Nat) : (fw i t : Int) = l6 t.m i := by
 unfold fw l6
 cases t.m.data.toList[i]? <;> rfl
def gJ (v : Int) (ts : List TR) : List Nat := (vf v ts).map Int.toNat
theorem lU {v : Int} {ts : List TR} (h : fH v ts = 0) : vf v ts = bH (gJ v ts) ∧ (gJ v ts).length = v.toNat ∧ ∀ (i d : Nat), (gJ v ts)[i]? = some d → d ≤ 127 ∧ (∀ t ∈ ts, fw i t ≤ d) ∧ ((d : Int) = AO ts i) := by
 obtain ⟨_, _, hm, _⟩ := cu h;have hd : vf v ts = me v.toNat ts := if_pos h;have hb : ∀ t ∈ ts, ∀ i, l6 t.m i ≤ 127 := fun t ht i => by
  have h1 := hm t ht;unfold eH at h1;rw [Bool.and_eq_true] at h1;unfold l6
  cases he : t.m.data.toList[i]? with
  | none => decide
  | some e => have := sa h1.1 he; show ((e.toNat : Nat) : Int) ≤ 127; omega
 refine ⟨?_, by unfold gJ; rw [List.length_map, hd, eX], fun i d hi => ?_⟩
 ·unfold gJ bH;rw [List.map_map];refine (List.map_id' _).symm.trans (List.map_congr_left fun x hx => ?_);rw [hd] at hx;obtain ⟨i, _, rfl⟩ := List.mem_map.1 hx;have := (DG (B := 127) Ty fun t ht => hb t ht i).1;show AO ts i = ((AO ts i).toNat : Int);omega
 ·unfold gJ at hi;rw [hd, List.getElem?_map] at hi;have hlt : i < v.toNat := by
   refine Classical.byContradiction fun hc => ?_;rw [List.getElem?_eq_none (by rw [eX]; omega)] at hi
   cases hi
  rw [r8 ts hlt] at hi;have h1 := DG (l := ts) (i := i) (B := 127) Ty fun t ht => hb t ht i;have h2 : (AO ts i).toNat = d := Option.some.inj hi;refine ⟨Tx, fun t ht => ?_, Tx⟩;have h3 := QS (i := i) ht;have h4 := yV t i;omega
def eb (d : Nat) (a b : Dyadic) (i k : Nat) : Dyadic := if k < i then 0 else nD (bin (d - i) (k - i)) * a ^ i * b ^ (k - i)
def jo (xs : List Dyadic) (i : Nat) : Dyadic := (xs[i]?).getD 0
def kf (d : Nat) (M : Nat → Nat → Dyadic) (xs : List Dyadic) : List Dyadic := (List.range (d + 1)).map fun k => sm (List.range (d + 1)) fun i => jo xs i * M i k
def iE (d : Nat) (a b : Dyadic) (xs : List Dyadic) (i j : Nat) : List Dyadic := (List.range (d + 1)).map fun k => sm (List.range i) (fun m => jo xs m * eb d a b m k) + if i ≤ k ∧ k < i + j then jo xs i * eb d a b i k else 0
theorem jN (d : Nat) (a b : Dyadic) (xs : List Dyadic) (i j : Nat) : (iE d a b xs i j).length = d + 1 := by simp [iE]
theorem tE (d : Nat) (a b : Dyadic) (xs : List Dyadic) : iE d a b xs 0 0 = List.replicate (d + 1) 0 := by
 unfold iE;refine List.eq_replicate_iff.2 ⟨by simp, fun x hx => ?_⟩;obtain ⟨k, _, rfl⟩ := List.mem_map.1 hx;rw [if_neg Tx, Dyadic.add_zero]
 rfl
theorem xw {d i j k : Nat} {a b : Dyadic} {xs : List Dyadic} (h : k ≤ d) : (iE d a b xs i j)[k]? = some (sm (List.range i) (fun m => jo xs m * eb d a b m k) + if i ≤ k ∧ k < i + j then jo xs i * eb d a b i k else 0) := by
 unfold iE;exact H7
theorem Au {d i j : Nat} {a b : Dyadic} {xs : List Dyadic} {o : Dyadic} (h : i + j ≤ d) (ho : (iE d a b xs i j)[i + j]? = some o) : (iE d a b xs i j).set (i + j) (o + jo xs i * eb d a b i (i + j)) = iE d a b xs i (j + 1) := by
 rw [xw h, if_neg Tx, Dyadic.add_zero] at ho;have ho := Option.some.inj ho;subst ho;refine List.ext_getElem? fun k => ?_;rw [List.getElem?_set, jN];by_cases hk : k ≤ d
 ·rw [xw hk, xw hk];by_cases e : i + j = k
  ·subst e;rw [if_pos rfl, if_pos Tx, if_pos Tx]
  ·rw [if_neg e];by_cases h2 : i ≤ k ∧ k < i + j
   ·rw [if_pos h2, if_pos Tx]
   ·rw [if_neg h2, if_neg Tx]
 ·rw [if_neg Tx, List.getElem?_eq_none (by rw [jN]; omega), List.getElem?_eq_none (by rw [jN]; omega)]
theorem Gs {d i : Nat} {a b : Dyadic} {xs : List Dyadic} (h : i ≤ d) : iE d a b xs i (d - i + 1) = iE d a b xs (i + 1) 0 := by
 unfold iE;refine List.map_congr_left fun k hk => ?_;have hk := List.mem_range.1 hk;rw [if_neg (show ¬ (i + 1 ≤ k ∧ k < i + 1 + 0) by omega), Dyadic.add_zero, List.range_succ, jx];by_cases h2 : i ≤ k
 ·rw [if_pos Tx]
 ·rw [if_neg Tx];unfold eb;rw [if_pos (show k < i by omega), Dyadic.mul_zero]
theorem wV (d : Nat) (a b : Dyadic) (xs : List Dyadic) : iE d a b xs (d + 1) 0 = kf d (eb d a b) xs := by
 unfold iE kf;refine List.map_congr_left fun k _ => ?_;rw [if_neg Tx, Dyadic.add_zero]
theorem Sz.AL {q : Nat} {a : Dyadic} (h : Sz q a) {i d : Nat} (hi : i ≤ d) : Sz (1 + q * d) (a ^ i) := (Sz.pow h i).mono (by have := Nat.mul_le_mul_left q hi; omega)
theorem xn {d i k q : Nat} {a b : Dyadic} (ha : Sz q a) (hb : Sz q b) (hd : d ≤ 127) (hk : k ≤ d) : Sz (130 + 2 * (q * d)) (eb d a b i k) := by
 unfold eb;split
 ·exact Sz.zero _
 ·refine (((qz (d - i) (k - i) Tx).mul (ha.AL (show i ≤ d by omega))).mul (hb.AL (show k - i ≤ d by omega))).mono Tx
theorem xX {xs : List Dyadic} {k : Nat} (h : ∀ x ∈ xs, Sz k x) (i : Nat) : Sz k (jo xs i) := by
 unfold jo
 cases hx : xs[i]? with
 | none => exact Sz.zero _
 | some x => exact h x (List.mem_of_getElem? hx)
theorem E9 {d i j q K : Nat} {a b : Dyadic} {xs : List Dyadic} (hx : ∀ x ∈ xs, Sz K x) (ha : Sz q a) (hb : Sz q b) (hd : d ≤ 127) (hi : i ≤ d + 1) : ∀ x ∈ iE d a b xs i j, Sz (K + 130 + 2 * (q * d) + 130) x := fun x hx2 => by
 obtain ⟨k, hk, rfl⟩ := List.mem_map.1 hx2;have hk := List.mem_range.1 hk;have h1 : ∀ m, Sz (K + (130 + 2 * (q * d))) (jo xs m * eb d a b m k) := fun m => (xX hx m).mul (xn ha hb hd Tx);have h2 := BJ (l := List.range i) (f := fun m => jo xs m * eb d a b m k) (k := K + (130 + 2 * (q * d))) fun m _ => h1 m;rw [List.length_range] at h2;refine (h2.add (y := if i ≤ k ∧ k < i + j then jo xs i * eb d a b i k else 0) ?_).mono Tx;split
 ·exact (h1 i).mono Tx
 ·exact Sz.zero _
section
variable (A : List Nat) (d : Nat) (φ : List Dyadic → List Dyadic)
def Tb (X : List Dyadic) (q f i : Nat) : List Dyadic := (List.range X.length).map fun p =>
 if p / au A / (d + 1) = q ∧ (p % au A < f ∨ p % au A = f ∧ p / au A % (d + 1) < i) then jo (φ (eW A d X (p % au A) q)) (p / au A % (d + 1)) else jo X p
def SP (X : List Dyadic) (q : Nat) : List Dyadic := Tb A d φ X q (au A) 0
end
section
variable {A : List Nat} {d : Nat} {φ : List Dyadic → List Dyadic} {X : List Dyadic}
theorem rY {f k q : Nat} (hf : f < au A) (hk : k ≤ d) : de A d f k q % au A = f ∧ de A d f k q / au A % (d + 1) = k ∧ de A d f k q / au A / (d + 1) = q := by
 unfold de;have hA := cL A;rw [Nat.add_mul_mod_self_left, Nat.mod_eq_of_lt hf, Nat.add_mul_div_left _ _ hA, Nat.div_eq_of_lt hf, Nat.zero_add, Nat.add_mul_mod_self_left, Nat.mod_eq_of_lt Tx, Nat.add_mul_div_left _ _ Tx, Nat.div_eq_of_lt Tx, Nat.zero_add];exact ⟨rfl, rfl, rfl⟩
theorem yd (p : Nat) : de A d (p % au A) (p / au A % (d + 1)) (p / au A / (d + 1)) = p := by
 unfold de;rw [Nat.mod_add_div, Nat.mod_add_div]
theorem Ag {l : List Dyadic} {k : Nat} (h : k < l.length) : l[k]? = some (jo l k) := by
 unfold jo;rw [List.getElem?_eq_getElem h]
 rfl
def Tw (A : List Nat) (d : Nat) (B : List Nat) (M : Nat → Nat → Dyadic) (xs : List Dyadic) (j : Nat) : List Dyadic := (List.range xs.length).map fun p => if p / au A / (d + 1) < j then jo (gM (A ++ d :: B) A.length M xs) p else jo xs p
end
section
variable (A : List Nat) (d L : Nat) (φ : List Dyadic → List Dyadic)
def kx (p : Nat) : Nat := de A d (p % au A) 0 (p / au A / (d + 1))
def jf (X : List Dyadic) (F i : Nat) : List Dyadic := (List.range X.length).map fun p =>
 if p / au A % (d + 1) < L ∧ (kx A d p < F ∨ kx A d p = F ∧ p / au A % (d + 1) < i) then jo (φ (eW A d X (p % au A) (p / au A / (d + 1)))) (p / au A % (d + 1)) else jo X p
end
section
variable {A : List Nat} {d L : Nat} {φ : List Dyadic → List Dyadic} {X : List Dyadic}
theorem gy (F i : Nat) : (jf A d L φ X F i).length = X.length := by simp [jf]
theorem mX {F i p : Nat} (h : p < X.length) : (jf A d L φ X F i)[p]? = some (if p / au A % (d + 1) < L ∧ (kx A d p < F ∨ kx A d p = F ∧ p / au A % (d + 1) < i) then jo (φ (eW A d X (p % au A) (p / au A / (d + 1)))) (p / au A % (d + 1)) else jo X p) := by
 unfold jf;rw [List.getElem?_map, List.getElem?_range h]
 rfl
theorem Ae {F i G j : Nat} (h : ∀ p, p < X.length → p / au A % (d + 1) < L → ((kx A d p < F ∨ kx A d p = F ∧ p / au A % (d + 1) < i) ↔ (kx A d p < G ∨ kx A d p = G ∧ p / au A % (d + 1) < j))) : jf A d L φ X F i = jf A d L φ X G j := by
 refine List.ext_getElem? fun p => ?_;by_cases hp : p < X.length
 ·rw [mX hp, mX hp];congr 1;by_cases hL : p / au A % (d + 1) < L
  ·by_cases h1 : kx A d p < F ∨ kx A d p = F ∧ p / au A % (d + 1) < i
   ·rw [if_pos ⟨hL, h1⟩, if_pos ⟨hL, (h p hp hL).1 h1⟩]
   ·rw [if_neg (fun h => h1 h.2), if_neg (fun h2 => h1 ((h p hp hL).2 h2.2))]
  ·rw [if_neg (fun h => hL h.1), if_neg (fun h => hL h.1)]
 ·rw [List.getElem?_eq_none (by rw [gy]; omega), List.getElem?_eq_none (by rw [gy]; omega)]
theorem FQ : jf A d L φ X 0 0 = X := by
 refine List.ext_getElem? fun p => ?_;by_cases h : p < X.length
 ·rw [mX h, if_neg Tx, Ag h]
 ·rw [List.getElem?_eq_none (by rw [gy]; omega), List.getElem?_eq_none Tx]
theorem C8 {f q : Nat} (hf : f < au A) : de A d f 0 q % au A = f ∧ de A d f 0 q / au A % (d + 1) = 0 ∧ de A d f 0 q / au A / (d + 1) = q := rY hf (Nat.zero_le _)
theorem FI {f k q : Nat} (hf : f < au A) (hk : k ≤ d) : kx A d (de A d f k q) = de A d f 0 q := by
 obtain ⟨h1, _, h3⟩ := rY (q := q) hf hk;unfold kx;rw [h1, h3]
theorem GF {F : Nat} (h : F / au A % (d + 1) ≠ 0) : jf A d L φ X F 0 = jf A d L φ X (F + 1) 0 := Ae fun p _ _ => by
 have hne : kx A d p ≠ F := fun e => by
  have := (C8 (d := d) (q := p / au A / (d + 1)) (Nat.mod_lt p (cL A))).2.1;unfold kx at e;rw [e] at this;exact h this
 omega
theorem GQ {F i : Nat} (h : L ≤ i) : jf A d L φ X F i = jf A d L φ X (F + 1) 0 := Ae fun p _ hL => by omega
theorem JN {f q i : Nat} (hf : f < au A) (hiL : i < L) (hi : i ≤ d) : (jf A d L φ X (de A d f 0 q) i).set (de A d f i q) (jo (φ (eW A d X f q)) i) = jf A d L φ X (de A d f 0 q) (i + 1) := by
 obtain ⟨h1, h2, h3⟩ := rY (q := q) hf hi;refine List.ext_getElem? fun p => ?_;rw [List.getElem?_set, gy];by_cases hp : p < X.length
 ·rw [mX hp, mX hp];by_cases e : de A d f i q = p
  ·subst e;rw [if_pos rfl, if_pos hp, h1, h2, h3, FI hf hi, if_pos ⟨hiL, .inr ⟨rfl, Nat.lt_succ_self i⟩⟩]
  ·rw [if_neg e];have hne : ¬ (kx A d p = de A d f 0 q ∧ p / au A % (d + 1) = i) := fun ⟨a, b⟩ => by
    have e1 := C8 (d := d) (q := p / au A / (d + 1)) (Nat.mod_lt p (cL A));have e2 := C8 (d := d) (q := q) hf;unfold kx at a;rw [a] at e1;have := yd (A := A) (d := d) p;rw [b, ← e1.1, ← e1.2.2, e2.1, e2.2.2] at this;exact e this
   congr 1;by_cases hL : p / au A % (d + 1) < L ∧ (kx A d p < de A d f 0 q ∨ kx A d p = de A d f 0 q ∧ p / au A % (d + 1) < i)
   ·rw [if_pos hL, if_pos ⟨hL.1, Tx⟩]
   ·rw [if_neg hL, if_neg (fun h => hL ⟨h.1, Tx⟩)]
 ·rw [List.getElem?_eq_none (by rw [gy]; omega)];by_cases e : de A d f i q = p
  ·rw [if_pos e, e, if_neg hp, List.getElem?_eq_none (by rw [gy]; omega)]
  ·rw [if_neg e, List.getElem?_eq_none (by rw [gy]; omega)]
theorem Ga {B : List Nat} {p : Nat} (hX : X.length = au (A ++ d :: B)) (hp : p < X.length) : (jf A d L φ X X.length 0)[p]? = some (if p / au A % (d + 1) < L then jo (φ (eW A d X (p % au A) (p / au A / (d + 1)))) (p / au A % (d + 1)) else jo X p) := by
 rw [mX hp];have hlt : kx A d p < X.length := by
  have h1 := yd (A := A) (d := d) p;have h2 : kx A d p ≤ p := by
   conv => rhs; rw [← h1]
   unfold kx de;have := Nat.mul_le_mul_left (au A) (show 0 + (d + 1) * (p / au A / (d + 1)) ≤ p / au A % (d + 1) + (d + 1) * (p / au A / (d + 1)) by omega);omega
  omega
 congr 1;by_cases h : p / au A % (d + 1) < L
 ·rw [if_pos ⟨h, .inl hlt⟩, if_pos h]
 ·rw [if_neg (fun h2 => h h2.1), if_neg h]
theorem Hf {B : List Nat} {M : Nat → Nat → Dyadic} (hX : X.length = au (A ++ d :: B)) : jf A d (d + 1) (kf d M) X X.length 0 = gM (A ++ d :: B) A.length M X := by
 refine List.ext_getElem? fun p => ?_;by_cases hp : p < X.length
 ·obtain ⟨f, k, q, hf, hk, hq, rfl⟩ := B4 (A := A) (d := d) (B := B) (by rw [← hX]; exact hp);obtain ⟨h1, h2, h3⟩ := rY (q := q) hf hk;rw [Ga hX hp, h1, h2, h3, if_pos Tx];have e1 : (kf d M (eW A d X f q))[k]? = some (sm (List.range (d + 1)) fun i => jo (eW A d X f q) i * M i k) := by
   unfold kf;exact H7
  rw [Hg M X hf hk hq];congr 1;show ((kf d M (eW A d X f q))[k]?).getD 0 = _;rw [e1];refine bE fun i hi => ?_;have hi := List.mem_range.1 hi;show ((eW A d X f q)[i]?).getD 0 * _ = _;unfold eW;rw [List.getElem?_map, List.getElem?_range hi]
  rfl
 ·rw [List.getElem?_eq_none (by rw [gy]; omega), List.getElem?_eq_none (by rw [n8, ← hX]; omega)]
end
theorem ni (N : Nat) : fk N [.bool false, .string (ByteArray.mk #[]), .int .i64 0] = az NR.cells ((List.replicate N (0 : Dyadic)).map nR) := by
 rw [J9, tu]
theorem Sz.bo {k : Nat} {x : Dyadic} (h : Sz k x) : (nR x).bo.size ≤ k + 1 := by have := h.nr.1; omega
structure Nr (q : Nat) (s : NR) (x : Dyadic) : Prop where
 ok : s.ok
 bo : s.bo.size ≤ 2001
 d : s.d = x
 sz : Sz q x
theorem Nr.of {q : Nat} {x : Dyadic} (h : Sz q x) (hq : q ≤ 2000) : Nr q (nR x) x := ⟨h.ok Tx, by have := h.bo; omega, cf x, h⟩
def S9 (l : List Dyadic) (i : Nat) : List Dyadic := (List.range l.length).map fun k => if k < i ∨ l.length ≤ k + i then jo l (l.length - 1 - k) else jo l k
def mb : List Dyadic → Dyadic → Dyadic
 | [], _ => 0
 | c :: cs, t => c + t * mb cs t
theorem rD {a b : Dyadic} (h : a * b = 0) (ha : a ≠ 0) : b = 0 := by
 refine Classical.byContradiction fun hb => ?_;have key : ∀ x y : Dyadic, 0 < x → y ≠ 0 → x * y ≠ 0 := fun x y hx hy => by
  by_cases h0 : 0 < y
  ·have := Lean.Grind.OrderedRing.mul_pos hx h0;grind
  ·have hy0 : 0 < -y := by grind
   have := Lean.Grind.OrderedRing.mul_pos hx hy0;grind
 by_cases h0 : 0 < a
 ·exact key a b h0 hb h
 ·exact key (-a) b (by grind) hb (by grind)
theorem Qh (l : List Dyadic) : ∃ a : Dyadic, ∀ b ∈ l, b < a := by
 induction l with
 | nil => exact ⟨0, fun b hb => nomatch hb⟩
 | cons x l ih =>
  obtain ⟨a, ha⟩ := ih;by_cases h : a ≤ x
  ·refine ⟨x + 1, fun b hb => ?_⟩
   rcases List.mem_cons.1 hb with rfl | hb
   ·grind
   ·have := ha b hb; grind
  ·refine ⟨a, fun b hb => ?_⟩
   rcases List.mem_cons.1 hb with rfl | hb
   ·grind
   ·exact ha b hb
theorem D8 (a : Dyadic) : ∀ cs : List Dyadic, ∃ g : List Dyadic, g.length ≤ cs.length - 1 ∧ (∀ t, mb cs t = mb cs a + (t - a) * mb g t) ∧ ((∀ x ∈ g, x = 0) → mb cs a = 0 → ∀ x ∈ cs, x = 0)
 | [] => ⟨[], Nat.le_refl _, fun t => by simp only [mb]; grind, fun _ _ x hx => nomatch hx⟩
 | [c] => ⟨[], Nat.le_refl _, fun t => by simp only [mb]; grind, fun _ h x hx => by
   rw [List.mem_singleton.1 hx];simp only [mb] at h;grind⟩
 | c :: d :: cs => by
  obtain ⟨g, h1, h2, h3⟩ := D8 a (d :: cs);refine ⟨mb (d :: cs) a :: g, ?_, fun t => ?_, fun hg h0 x hx => ?_⟩
  ·simp only [List.length_cons] at h1 ⊢; omega
  ·show c + t * mb (d :: cs) t = (c + a * mb (d :: cs) a) + (t - a) * (mb (d :: cs) a + t * mb g t);rw [h2 t];generalize mb (d :: cs) a = A;generalize mb g t = B;grind
  ·have e1 : mb (d :: cs) a = 0 := hg _ List.mem_cons_self;have e2 := h3 (fun y hy => hg y (List.mem_cons_of_mem _ hy)) e1
   rcases List.mem_cons.1 hx with rfl | hx
   ·rw [mb, e1] at h0; grind
   ·exact e2 x hx
theorem Bp : ∀ (n : Nat) (cs bad : List Dyadic), cs.length ≤ n → (∀ t, t ∉ bad → mb cs t = 0) → ∀ x ∈ cs, x = 0
 | 0, cs, _, hn, _ => fun x hx => by
  rw [List.length_eq_zero_iff.1 (Nat.le_zero.1 hn)] at hx
  cases hx
 | n + 1, cs, bad, hn, h => by
  obtain ⟨a, ha⟩ := Qh bad;have hab : a ∉ bad := fun hb => by have := ha a hb; grind
  obtain ⟨g, h1, h2, h3⟩ := D8 a cs;have ha0 := h a hab;refine h3 (Bp n g (a :: bad) Tx fun t ht => ?_) ha0;rw [List.mem_cons, not_or] at ht;have e1 := h2 t;rw [h t ht.2, ha0] at e1;refine rD (a := t - a) (by grind) (fun e => ht.1 (by grind))
theorem wJ (f : Nat → Dyadic) (t : Dyadic) : ∀ (n s : Nat), t ^ s * mb ((List.range' s n).map f) t = sm (List.range' s n) fun r => f r * t ^ r
 | 0, s => by rw [List.range'_zero]; exact Dyadic.mul_zero _
 | n + 1, s => by
  rw [List.range'_succ, List.map_cons, mb, sm, ← wJ f t n (s + 1), Dyadic.pow_succ];grind
theorem xm {n : Nat} {f : Nat → Dyadic} (h : ∀ t, sm (List.range n) (fun r => f r * t ^ r) = 0) : ∀ r, r < n → f r = 0 := fun r hr => by
 refine Bp n ((List.range n).map f) [] (by simp) (fun t _ => ?_) (f r) (List.mem_map.2 ⟨r, List.mem_range.2 hr, rfl⟩);have e1 := wJ f t n 0;rw [← List.range_eq_range', h t] at e1;refine rD e1 ?_;rw [Dyadic.pow_zero];decide
def il : List Nat → List Dyadic → Dyadic
 | a :: s, x :: xs => x ^ a * il s xs
 | _, _ => 1
theorem Gz (x y : Dyadic) (n : Nat) : (x * y) ^ n = x ^ n * y ^ n := by
 induction n with
 | zero => grind
 | succ n ih => grind
theorem iT (n : Nat) : (1 : Dyadic) ^ n = 1 := by
 induction n with
 | zero => grind
 | succ n ih => grind
theorem Ik {d : Nat} {f : Nat → Dyadic} (h : ∀ t, sm (List.range (d + 1)) (fun r => f r * kA d r t) = 0) : ∀ r, r ≤ d → f r = 0 := by
 have hp : ∀ (m : Nat) (t : Dyadic), (1 - t) ^ m = sm (List.range (m + 1)) fun k => nD (bin m k) * ((-1 : Dyadic) ^ k) * t ^ k := fun m t => by
  have e1 := Ic m (-t) 1;rw [show -t + 1 = 1 - t by grind] at e1;rw [← e1];refine bE fun k _ => ?_;rw [iT, show (-t) ^ k = (-1 : Dyadic) ^ k * t ^ k by rw [← Gz]; congr 1; grind];grind
 let M : Nat → Nat → Dyadic := fun r k => if k < r then 0 else nD (bin (d - r) (k - r)) * (-1 : Dyadic) ^ (k - r)
 have hb : ∀ r, r ≤ d → ∀ t, kA d r t = sm (List.range (d + 1)) fun k => M r k * t ^ k := fun r hr t => by
  have e0 : (fun k => M r k * t ^ k) = fun k => if k < r then 0 else (fun j => nD (bin (d - r) j) * (-1 : Dyadic) ^ j * t ^ (j + r)) (k - r) := funext fun k => by
   show (if k < r then 0 else nD (bin (d - r) (k - r)) * (-1 : Dyadic) ^ (k - r)) * t ^ k = _;by_cases hk : k < r
   ·rw [if_pos hk, if_pos hk, Dyadic.zero_mul]
   ·rw [if_neg hk, if_neg hk];show _ = nD (bin (d - r) (k - r)) * (-1 : Dyadic) ^ (k - r) * t ^ (k - r + r);rw [Nat.sub_add_cancel Tx]
  rw [e0, NH d r hr fun j => nD (bin (d - r) j) * (-1 : Dyadic) ^ j * t ^ (j + r)];show t ^ r * (1 - t) ^ (d - r) = _;rw [hp, ← gD];refine bE fun k _ => ?_;rw [qP];grind
 have hk : ∀ k, k < d + 1 → sm (List.range (d + 1)) (fun r => f r * M r k) = 0 := xm fun t => by
  rw [show (sm (List.range (d + 1)) fun r => sm (List.range (d + 1)) (fun r_1 => f r_1 * M r_1 r) * t ^ r) = sm (List.range (d + 1)) fun k => sm (List.range (d + 1)) fun r => f r * M r k * t ^ k from bE fun k _ => (kz _ _ _).symm, sw];refine Eq.trans (bE fun r hr => ?_) (h t);rw [hb r (by have := List.mem_range.1 hr; omega) t, ← gD];exact bE fun k _ => by grind
 intro r hr
 induction r using Nat.strongRecOn with
 | _ r ih =>
  have e1 := hk r Tx;have e2 : sm (List.range (d + 1)) (fun q => f q * M q r) = sm (List.range (d + 1)) fun q => if q = r then f r else 0 := bE fun q hq => by
   by_cases h1 : q < r
   ·rw [ih q h1 Tx, if_neg Tx, Dyadic.zero_mul]
   ·by_cases h2 : q = r
    ·subst h2;rw [if_pos rfl];show f q * (if q < q then 0 else nD (bin (d - q) (q - q)) * (-1 : Dyadic) ^ (q - q)) = f q;rw [if_neg (Nat.lt_irrefl _), Nat.sub_self, mU, Dyadic.pow_zero, tB];grind
    ·rw [if_neg h2];show f q * (if r < q then 0 else _) = 0;rw [if_pos Tx, Dyadic.mul_zero]
  rw [e2, px, if_pos Tx] at e1;exact e1
theorem val_zero : ∀ (ds : List Nat) (xs : List Dyadic), (∀ ts : List Dyadic, ts.length = ds.length → fI ds xs ts = 0) → ∀ p, p < au ds → (xs[p]?).getD 0 = 0
 | [], xs, h, p, hp => by
  have e1 := h [] rfl;obtain rfl : p = 0 := by simpa [au] using hp
  have e2 : fI [] xs [] = (xs[0]?).getD 0 * 1 + 0 := rfl;rw [e2] at e1;grind
 | d :: ds, xs, h, p, hp => by
  have hr : p % (d + 1) < d + 1 := Nat.mod_lt _ Tx;have hq : p / (d + 1) < au ds := by rw [Nat.div_lt_iff_lt_mul Tx, Nat.mul_comm]; exact hp
  have hsl : ∀ r, r ≤ d → ∀ q, q < au ds → (xs[r + (d + 1) * q]?).getD 0 = 0 := fun r hr q hq => by
   have ih := val_zero ds ((List.range (au ds)).map fun q => (xs[r + (d + 1) * q]?).getD 0) (fun ts hts => ?_) q hq
   ·rw [List.getElem?_map, List.getElem?_range hq] at ih;exact ih
   ·refine Ik (d := d) (f := fun r => fI ds ((List.range (au ds)).map fun q => (xs[r + (d + 1) * q]?).getD 0) ts) (fun t => ?_) r hr;have e1 := h (t :: ts) (by simpa using hts);unfold fI at e1;rw [sl, sw] at e1;refine Eq.trans (bE fun r hr => ?_) e1;unfold fI;rw [← kz];refine bE fun q hq => ?_;have hr2 := List.mem_range.1 hr;rw [List.getElem?_map, List.getElem?_range (List.mem_range.1 hq)];show (xs[r + (d + 1) * q]?).getD 0 * tR ds (cI ds q) ts * kA d r t = _;exact QZ
  have := hsl (p % (d + 1)) Tx (p / (d + 1)) hq;rwa [Nat.mod_add_div] at this
theorem val_inj {ds : List Nat} {xs ys : List Dyadic} (hx : xs.length = au ds) (hy : ys.length = au ds) (h : ∀ ts : List Dyadic, ts.length = ds.length → fI ds xs ts = fI ds ys ts) : xs = ys := by
 refine List.ext_getElem? fun p => ?_;by_cases hp : p < au ds
 ·have e1 := val_zero ds ((List.range (au ds)).map fun p => (xs[p]?).getD 0 - (ys[p]?).getD 0) (fun ts hts => ?_) p hp
  ·rw [List.getElem?_map, List.getElem?_range hp] at e1;replace e1 : (xs[p]?).getD 0 - (ys[p]?).getD 0 = 0 := e1;obtain ⟨x, h1⟩ : ∃ x, xs[p]? = some x := ⟨_, List.getElem?_eq_getElem Tx⟩;obtain ⟨y, h2⟩ : ∃ y, ys[p]? = some y := ⟨_, List.getElem?_eq_getElem Tx⟩;rw [h1, h2] at e1 ⊢;have e2 : x - y = 0 := e1;congr 1;grind
  ·have e1 := h ts hts;have e2 : fI ds ((List.range (au ds)).map fun p => (xs[p]?).getD 0 - (ys[p]?).getD 0) ts = fI ds xs ts + (-1) * fI ds ys ts := by
    unfold fI;rw [← gD, ← sX];refine bE fun q hq => ?_;rw [List.getElem?_map, List.getElem?_range (List.mem_range.1 hq)];show ((xs[q]?).getD 0 - (ys[q]?).getD 0) * _ = _;grind
   rw [e2, e1];grind
 ·rw [List.getElem?_eq_none Tx, List.getElem?_eq_none Tx]
def cQ (m : ByteArray) : List Nat := m.data.toList.map UInt8.toNat
theorem mq (m : ByteArray) : (cQ m).length = m.size := by rw [dA]; exact List.length_map _
theorem Bh {a b : ByteArray} (h : cQ a = cQ b) : a = b := tX (List.map_inj_right (fun _ _ => UInt8.toNat_inj.1) |>.1 h)
theorem lg (m : ByteArray) : ints m.data.toList = bH (cQ m) := by unfold ints bH cQ; rw [List.map_map]; rfl
theorem HG {a b : List Nat} (h : bH a = bH b) : a = b := (List.map_inj_right fun (x y : Nat) (e : (x : Int) = y) => Int.ofNat.inj e).1 h
def lY (xs : List Dyadic) (l : List TR) : Dyadic := wS (fun m => il (cQ m) xs) l
theorem Er (f : ByteArray → Dyadic) (l : List TR) : wS f l = sm l fun t => t.c.d * f t.m := by
 induction l with
 | nil => rfl
 | cons t l ih => rw [wS, sm, ih]
theorem fM (xs : List Dyadic) (l : List TR) : lY xs (aF l) = lY xs l := qC _ _
theorem oC (xs : List Dyadic) (l k : List TR) : lY xs (l ++ k) = lY xs l + lY xs k := na _ _ _
theorem Af : ∀ (a b : List Nat) (xs : List Dyadic), a.length = b.length → il (List.zipWith (· + ·) a b) xs = il a xs * il b xs
 | [], [], xs, _ => by show (1 : Dyadic) = 1 * 1; grind
 | [], _ :: _, _, h => by cases h
 | _ :: _, [], _, h => by cases h
 | x :: a, y :: b, [], _ => by show (1 : Dyadic) = 1 * 1; grind
 | x :: a, y :: b, t :: xs, h => by
  rw [List.zipWith_cons_cons, il, il, il, Af a b xs (by simpa using h), qP];grind
theorem k9 : ∀ (n : Nat) (xs : List Dyadic), il (List.replicate n 0) xs = 1
 | 0, xs => by cases xs <;> rfl
 | n + 1, [] => rfl
 | n + 1, x :: xs => by
  rw [List.replicate_succ, il, k9 n xs, Dyadic.pow_zero];grind
theorem H3 {a b : ByteArray} (h : mm a b = 0) : cQ (mulM a b) = List.zipWith (· + ·) (cQ a) (cQ b) ∧ (cQ a).length = (cQ b).length := by
 obtain ⟨_, _, h3, _, h5⟩ := m6 h;refine ⟨HG ?_, by unfold cQ; rw [List.length_map, List.length_map, h3]⟩;rw [← lg, mulM, dt, h5, lg, lg];unfold bH;rw [List.zipWith_map, List.map_zipWith];exact congrArg (fun f => List.zipWith f (cQ a) (cQ b)) (funext fun x => funext fun y => (Int.natCast_add x y).symm)
theorem HH {xs : List Dyadic} {p q : List TR} (h : ∀ e ∈ ri p q, e = 0) : lY xs (cC p q) = lY xs p * lY xs q := by
 have hm : ∀ a ∈ p, ∀ b ∈ q, mm a.m b.m = 0 := fun a ha b hb => h _ (List.mem_flatMap.2 ⟨a, ha, List.mem_map.2 ⟨b, hb, rfl⟩⟩);unfold lY;rw [zN, Dyadic.mul_comm, ← Iv];refine NV fun a ha => ?_;rw [Dyadic.mul_comm, ← Iv];refine NV fun b hb => ?_;obtain ⟨e1, e2⟩ := H3 (hm a ha b hb);rw [e1, Af _ _ _ e2]
theorem yE (j : Nat) (t : TR) : fw j t = ((cQ t.m)[j]?).getD 0 := by
 unfold fw cQ;rw [List.getElem?_map]
 cases t.m.data.toList[j]? <;> rfl
theorem JK {p : List TR} {j n : Nat} (g : TR → Dyadic) (Q : Dyadic) : sm p (fun t => if n ≤ fw j t then g t * Q ^ (fw j t - n) else 0) = sm p (fun t => if n + 1 ≤ fw j t then g t * Q ^ (fw j t - (n + 1)) else 0) * Q + sm (bI p j n) g := by
 have e1 : sm (bI p j n) g = sm p fun t => if fw j t = n then g t else 0 := by
  unfold bI;rw [← FE p (fun t => decide (fw j t = n)) (fun t => if fw j t = n then g t else 0) (fun t _ h => if_neg (by simpa using h))];exact bE fun t ht => (if_pos (by simpa using (List.mem_filter.1 ht).2)).symm
 rw [e1, ← kz, ← sX];refine bE fun t _ => ?_;by_cases h1 : fw j t = n
 ·rw [if_pos Tx, if_neg Tx, if_pos h1, h1, Nat.sub_self, Dyadic.pow_zero];grind
 ·rw [if_neg h1];by_cases h2 : n + 1 ≤ fw j t
  ·rw [if_pos Tx, if_pos h2, show fw j t - n = (fw j t - (n + 1)) + 1 by omega, Dyadic.pow_succ];grind
  ·rw [if_neg Tx, if_neg h2];grind
theorem ED {xs : List Dyadic} {q p : List TR} {sub : List TR → Int × List TR} {j : Nat} (g : TR → Dyadic) (hp : ∀ t ∈ p, fw j t ≤ 127) (hs : ∀ n, (sub (bI p j n)).1 = 0 → lY xs (sub (bI p j n)).2 = sm (bI p j n) g) :
  ∀ i, i ≤ 128 → (bZ q sub p j i).1 = 0 → lY xs (bZ q sub p j i).2 = sm p fun t => if 128 - i ≤ fw j t then g t * lY xs q ^ (fw j t - (128 - i)) else 0
 | 0, _, _ => (sf fun t ht => if_neg (by have := hp t ht; omega)).symm
 | i + 1, hi, h0 => by
  have h1 : (bZ q sub p j i).1 = 0 := by
   refine Classical.byContradiction fun c => ?_;rw [m7 c (Nat.le_succ i)] at h0;exact c h0
  have ih := ED g hp hs i Tx h1;have e1 := JK (p := p) (j := j) (n := 127 - i) g (lY xs q);rw [show 128 - (i + 1) = 127 - i by omega, e1, show 127 - i + 1 = 128 - i by omega, ← ih];rw [lM] at h0 ⊢;unfold iG at h0 ⊢;rw [if_neg (fun h => h h1)] at h0 ⊢;by_cases c1 : (bZ q sub p j i).2.length = 0 ∧ (bI p j (127 - i)).length = 0
  ·rw [if_pos c1, List.length_eq_zero_iff.1 c1.1, List.length_eq_zero_iff.1 c1.2];show (0 : Dyadic) = 0 * _ + 0;grind
  ·rw [if_neg c1] at h0 ⊢;by_cases c2 : fy (bZ q sub p j i).2 q ≠ 0
   ·rw [if_pos c2] at h0; exact absurd h0 c2
   ·rw [if_neg c2] at h0 ⊢;by_cases c3 : (sub (bI p j (127 - i))).1 ≠ 0
    ·rw [if_pos c3] at h0; exact absurd h0 c3
    ·rw [if_neg c3] at h0 ⊢;by_cases c4 : gR (aF (cC (bZ q sub p j i).2 q) ++ (sub (bI p j (127 - i))).2) ≠ 0
     ·rw [if_pos c4] at h0; exact absurd h0 c4
     ·rw [if_neg c4];show lY xs (aF _) = _;rw [fM, oC, fM, HH (nA Tx).2.1, hs _ Tx]
theorem Md {p : List TR} (h : r9 p) (he : ∀ a ∈ p, ∀ b ∈ p, a.m = b.m) : p.length ≤ 1 := by
 match p, h, he with
 | [], _, _ => exact Nat.zero_le _
 | [_], _, _ => exact Nat.le_refl _
 | a :: b :: p, h, he =>
  have h1 := (List.pairwise_cons.1 h).1 b List.mem_cons_self;rw [he a List.mem_cons_self b (List.mem_cons_of_mem _ List.mem_cons_self), gQ] at h1
  cases h1
theorem Fp.one {v : Int} {j : Nat} {p : List TR} (h : Fp v j p) (hj : v ≤ j) : p.length ≤ 1 := Md h.rj fun a ha b hb => tX (by
 have e := h.pre a ha b hb;have l1 := h.size a ha;have l2 := h.size b hb;rwa [List.take_of_length_le Tx, List.take_of_length_le Tx] at e)
theorem wU (v : Int) (q : List TR) (qs : List (List TR)) (j : Nat) (p : List TR) : fP v (q :: qs) j p = bZ q (fP v qs (j + 1)) p j 128 := rfl
theorem Oi {v w : Int} {xs : List Dyadic} (qs : List (List TR)) : ∀ (j : Nat) (p : List TR), Fp w j p → w = ((j + qs.length : Nat) : Int) → (fP v qs j p).1 = 0 → lY xs (fP v qs j p).2 = sm p fun t => t.c.d * il ((cQ t.m).drop j) (qs.map (lY xs)) := by
 induction qs with
 | nil =>
  intro j p hs hw _;have h1 := hs.one (by rw [hw]; exact Int.le_refl _);show lY xs (aF _) = _;rw [fM];have hz : cQ (cR v) = List.replicate v.toNat 0 := by unfold cQ cR; simp
  match p, h1 with
  | [], _ =>
   show (nR 0).d * _ + 0 = 0;rw [cf];grind
  | [t], _ =>
   show t.c.d * il (cQ (cR v)) xs + 0 = t.c.d * il _ [] + 0;rw [hz, k9]
   cases (cQ t.m).drop j <;> rfl
 | cons q qs ih =>
  intro j p hs hw h0;have hj : (j : Int) < w := by rw [hw, List.length_cons]; omega
  have hx : ∀ t ∈ p, fw j t ≤ 127 := fun t ht => by
   obtain ⟨e, _, h2, h3⟩ := hs.get hj ht;omega
  rw [wU] at h0 ⊢;have hsub := fun n hn => ih (j + 1) (bI p j n) (hs.with hj) (by rw [hw, List.length_cons]; omega) hn;generalize fP v qs (j + 1) = sub at hsub h0 ⊢;have h1 := fun i hi hz => ED (xs := xs) (q := q) (sub := sub) (p := p) (j := j) (fun t => t.c.d * il ((cQ t.m).drop (j + 1)) (qs.map (lY xs))) hx hsub i hi hz;obtain ⟨m, hm⟩ : ∃ m, m = 128 := ⟨_, rfl⟩;rw [← hm] at h0 ⊢;rw [h1 m Tx h0];refine bE fun t ht => ?_;rw [if_pos Tx, show fw j t - (128 - m) = fw j t by omega];obtain ⟨e, h2, h3, _⟩ := hs.get hj ht;have hd : (cQ t.m).drop j = fw j t :: (cQ t.m).drop (j + 1) := by
   refine gH ?_;rw [h3];unfold cQ;rw [List.getElem?_map, h2]
   rfl
  rw [hd, List.map_cons, il];grind
theorem O1 {xs : List Dyadic} {p : PX} {ls : List PX} (h : (da p ls).1 = 0) : lY xs (da p ls).2 = lY (ls.map fun g => lY xs g.ts) p.ts := by
 unfold da at h ⊢;by_cases h1 : p.e ≠ 0
 ·rw [if_pos h1] at h; exact absurd h h1
 ·rw [if_neg h1] at h ⊢;by_cases h2 : (ls.length : Int) ≠ p.v
  ·rw [if_pos h2] at h; exact absurd h Ty
  ·rw [if_neg h2] at h ⊢;by_cases h3 : ls.length ≠ 0 ∧ eS ls ≠ 0
   ·rw [if_pos h3] at h; exact absurd h h3.2
   ·rw [if_neg h3] at h ⊢;rw [Oi (w := p.v) (ls.map PX.ts) 0 p.ts (Av (by unfold PX.e at h1; omega)) (by rw [List.length_map, Nat.zero_add]; omega) h, List.map_map];unfold lY;rw [Er]
    rfl
def wK : Nat → List Nat → List Nat → List Nat → Dyadic
 | m + 1, _ :: ds, a :: s, r :: rs => (if a = r then 1 else 0) * wK m ds s rs
 | 0, d :: ds, a :: s, r :: rs => eb d 1 1 a r * wK 0 ds s rs
 | _, _, _, _ => 1
theorem ET : ∀ (j : Nat) (ds s rs : List Nat), j < ds.length → lZ ds s → lZ ds rs → sm (List.range (ds.getD j 0 + 1)) (fun i => wK (j + 1) ds s (rs.set j i) * eb (ds.getD j 0) 1 1 i (rs.getD j 0)) = wK j ds s rs
 | _, [], _, _, h, _, _ => by cases h
 | _, _ :: _, [], _, _, h, _ => by cases h
 | _, _ :: _, _ :: _, [], _, _, h => by cases h
 | 0, d :: ds, a :: s, r :: rs, _, h1, _ => by
  show sm (List.range (d + 1)) (fun i => (if a = i then 1 else 0) * wK 0 ds s rs * eb d 1 1 i r) = eb d 1 1 a r * wK 0 ds s rs;have e : sm (List.range (d + 1)) (fun i => (if a = i then 1 else 0) * wK 0 ds s rs * eb d 1 1 i r) = sm (List.range (d + 1)) fun i => if i = a then eb d 1 1 a r * wK 0 ds s rs else 0 := bE fun i _ => by
   by_cases h : a = i
   ·rw [if_pos h, if_pos h.symm, h]; grind
   ·rw [if_neg h, if_neg (fun e => h e.symm)]; grind
  rw [e, px, if_pos (by have := h1.1; omega)]
 | j + 1, d :: ds, a :: s, r :: rs, hj, h1, h2 => by
  show sm (List.range (ds.getD j 0 + 1)) (fun i => (if a = r then 1 else 0) * wK (j + 1) ds s (rs.set j i) * eb (ds.getD j 0) 1 1 i (rs.getD j 0)) = (if a = r then 1 else 0) * wK j ds s rs;rw [← ET j ds s rs (by simpa using hj) h1.2 h2.2, ← gD];exact bE fun i _ => by grind
theorem I4 : ∀ (ds s rs : List Nat), lZ ds s → lZ ds rs → wK ds.length ds s rs = if s = rs then 1 else 0
 | [], [], [], _, _ => by rw [if_pos rfl]; rfl
 | [], _ :: _, _, h, _ => by cases h
 | [], [], _ :: _, _, h => by cases h
 | _ :: _, [], _, h, _ => by cases h
 | _ :: _, _ :: _, [], _, h => by cases h
 | d :: ds, a :: s, r :: rs, h1, h2 => by
  show (if a = r then 1 else 0) * wK ds.length ds s rs = _;rw [I4 ds s rs h1.2 h2.2];by_cases e1 : a = r
  ·by_cases e2 : s = rs
   ·rw [if_pos e1, if_pos e2, if_pos (by rw [e1, e2])]; grind
   ·rw [if_pos e1, if_neg e2, if_neg fun e => e2 (List.cons.inj e).2]; grind
  ·rw [if_neg e1, if_neg fun e => e1 (List.cons.inj e).1]; grind
abbrev QL := List (List Nat × Dyadic)
def X0 (ds : List Nat) (L : QL) : List Dyadic := nE (au ds) (L.map fun q => (ik ds q.1, q.2))
def pQ (ds : List Nat) (L : QL) : Nat → List Dyadic
 | 0 => X0 ds L
 | k + 1 => gM ds (ds.length - 1 - k) (eb (ds.getD (ds.length - 1 - k) 0) 1 1) (pQ ds L k)
theorem qM (ds : List Nat) (L : QL) (k : Nat) : pQ ds L (k + 1) = gM ds (ds.length - 1 - k) (eb (ds.getD (ds.length - 1 - k) 0) 1 1) (pQ ds L k) := rfl
theorem Az (ds : List Nat) (L : QL) (k : Nat) : (pQ ds L k).length = au ds := by
 cases k with
 | zero => exact k6 _ _
 | succ k => rw [qM, n8]
theorem Jp {ds : List Nat} {L : QL} (hL : ∀ q ∈ L, lZ ds q.1) : ∀ k, k ≤ ds.length → ∀ row, lZ ds row → co ds (pQ ds L k) row = sm L fun q => q.2 * wK (ds.length - k) ds q.1 row
 | 0, _, row, hr => by
  have hp := m9 hr;rw [Fe hr];show ((X0 ds L)[ik ds row]?).getD 0 = _;unfold X0;rw [nh _ hp, Option.getD_some, sY];refine bE fun q hq => ?_;rw [Nat.sub_zero, I4 ds q.1 row (hL q hq) hr];by_cases h : q.1 = row
  ·rw [if_pos h, if_pos (by rw [h])]; grind
  ·rw [if_neg h, if_neg fun e => h (by rw [← iw (hL q hq), ← iw hr]; exact congrArg (cI ds) e)]; grind
 | k + 1, hk, row, hr => by
  obtain ⟨j, hj⟩ : ∃ j, j = ds.length - 1 - k := ⟨_, rfl⟩;rw [qM, ← hj, FA _ _ _ hr, show ds.length - (k + 1) = j by omega];have e1 : ∀ i, i < ds.getD j 0 + 1 → co ds (pQ ds L k) (row.set j i) = sm L fun q => q.2 * wK (j + 1) ds q.1 (row.set j i) := fun i hi => by
   rw [Jp hL k Tx (row.set j i) (Ew hr Tx), show ds.length - k = j + 1 by omega]
  rw [bE fun i hi => show co ds (pQ ds L k) (row.set j i) * eb (ds.getD j 0) 1 1 i (row.getD j 0) = sm L fun q => q.2 * (wK (j + 1) ds q.1 (row.set j i) * eb (ds.getD j 0) 1 1 i (row.getD j 0)) by
   rw [e1 i (List.mem_range.1 hi), ← kz];exact bE fun q _ => by grind, sw]
  refine bE fun q hq => ?_;rw [← ET j ds q.1 row Tx (hL q hq) hr, ← gD]
def pR (ns : List Nat) (l : List TR) : List Dyadic := (List.range (au ns.reverse)).map fun p => wS (fun m => wK 0 ns.reverse (cQ m).reverse (cI ns.reverse p)) l
theorem ju (ns : List Nat) (l : List TR) : (pR ns l).length = au ns := by unfold pR; rw [List.length_map, List.length_range, cz]
def rO (l : List TR) : QL := l.map fun t => ((cQ t.m).reverse, t.c.d)
theorem AF {ns : List Nat} {l : List TR} (hl : ∀ t ∈ l, lZ ns.reverse (cQ t.m).reverse) : pQ ns.reverse (rO l) ns.length = pR ns l := by
 have hL : ∀ q ∈ rO l, lZ ns.reverse q.1 := fun q hq => by
  obtain ⟨t, ht, rfl⟩ := List.mem_map.1 hq;exact hl t ht
 refine PU (ds := ns.reverse) (Az _ _ _) (by rw [ju, cz]) fun row hr => ?_;have hp := m9 hr;rw [Jp hL ns.length (by rw [List.length_reverse]; exact Nat.le_refl _) row hr, Fe hr, show ns.reverse.length - ns.length = 0 by rw [List.length_reverse, Nat.sub_self]];unfold pR rO;rw [List.getElem?_map, List.getElem?_range hp, sY];show _ = wS _ l;rw [Er, iw hr]
theorem uq : ∀ {ds rs : List Nat} (a : Nat), lZ ds rs → rs.getD a 0 ≤ ds.getD a 0
 | [], [], _, _ => by simp
 | [], _ :: _, _, h => by cases h
 | _ :: _, [], _, h => by cases h
 | _ :: _, _ :: _, 0, h => h.1
 | _ :: ds, _ :: rs, a + 1, h => uq (ds := ds) (rs := rs) a h.2
theorem Fs {ds : List Nat} {a k d : Nat} {X : List Dyadic} (hx : ∀ x ∈ X, Sz k x) (hd : ds.getD a 0 = d) (hd7 : d ≤ 127) : ∀ x ∈ gM ds a (eb d 1 1) X, Sz (k + 520) x := fun x h => by
 obtain ⟨p, _, rfl⟩ := List.mem_map.1 h;have hr : (cI ds p).getD a 0 ≤ d := by rw [← hd]; exact uq a (nk ds p)
 have h2 := BJ (l := List.range (ds.getD a 0 + 1)) (f := fun i => co ds X ((cI ds p).set a i) * eb d 1 1 i ((cI ds p).getD a 0)) (k := k + (130 + 2 * (1 * d))) fun i _ => by
  refine Sz.mul ?_ (xn Sz.one Sz.one hd7 hr);exact RA
 rw [List.length_range, hd] at h2;rw [hd];exact h2.mono Tx
theorem zD {ds : List Nat} {B : Nat} (h : ∀ d ∈ ds, d ≤ B) (a : Nat) : ds.getD a 0 ≤ B := by
 rw [List.getD_eq_getElem?_getD]
 cases ha : ds[a]? with
 | none => exact Nat.zero_le _
 | some d => exact h d (List.mem_of_getElem? ha)
theorem Cq {ds : List Nat} {L : QL} {k : Nat} (h : ∀ x ∈ X0 ds L, Sz k x) (hd : ∀ d ∈ ds, d ≤ 127) : ∀ i, ∀ x ∈ pQ ds L i, Sz (k + 520 * i) x
 | 0 => h
 | i + 1 => fun x hx => (Fs (Cq h hd i) rfl (zD hd _) x hx).mono Tx
theorem ND {ds : List Nat} {l : List TR} {k : Nat} (h : iO k l) : ∀ x ∈ X0 ds (rO l), Sz (k + l.length) x := fun x hx => by
 have := Lt (N := au ds) (L := (rO l).map fun (q : List Nat × Dyadic) => (ik ds q.1, q.2)) (k := k) (fun a ha => by
  obtain ⟨q, hq, rfl⟩ := List.mem_map.1 ha;obtain ⟨t, ht, rfl⟩ := List.mem_map.1 hq;exact (h t ht).2) x hx
 unfold rO at this;rwa [List.length_map, List.length_map] at this
def Sf (p : Int × Int) : Bool := decide (p.2 < p.1 ∨ 127 < p.2)
def SV (ds es : List Int) : Int := if es.length ≠ ds.length then 1 else if (ds.zip es).any Sf = true then 1 else if 4096 < au (es.map Int.toNat) then 3 else 0
def PZ (a b : List Nat) : List Nat := List.zipWith (· - ·) a b
def Ot (ns ts : List Nat) (xs : List Dyadic) : List Dyadic := Qw ns (PZ ts ns) xs ((yo (PZ ts ns)).map nD)
theorem qx : ∀ {a b : List Nat}, a.length = b.length → (∀ (i x y : Nat), a[i]? = some x → b[i]? = some y → x ≤ y) → au a ≤ au b
 | [], [], _, _ => Nat.le_refl _
 | [], _ :: _, h, _ => by simp at h
 | _ :: _, [], h, _ => by simp at h
 | x :: a, y :: b, h, h2 => by
  have h0 := h2 0 x y rfl rfl;rw [au, au];exact Nat.mul_le_mul Tx (qx (by simpa using h) fun i p q hp hq => h2 (i + 1) p q hp hq)
def Ts (es ds : List Int) : List Int := List.zipWith (· - ·) es ds
theorem vM (ts : List Nat) : (bH ts).map Int.toNat = ts := by
 unfold bH;rw [List.map_map];exact List.map_id' ts
def SS (e : Int) : Ending := .returned (.tuple #[.agg #[.slice none 0 0, .slice none 0 0], .int .i64 e])
def FX.xG (f : FX) : HE := .row f.B f.m f.b 65 3 (az NR.cells f.cs)
def FX.vc (f : FX) : HE := .row f.A f.n f.a 3 1 (bF f.ds)
def Qp : List FX → List HE
 | [] => []
 | f :: fs => f.xG :: f.vc :: Qp fs
def QG (a b : List Nat) : List Nat := List.zipWith max a b
def maxD (fs : List FX) : List Nat := fs.foldl (fun a f => QG a (f.ds.map Int.toNat)) ((fs.map fun f => f.ds.map Int.toNat).headD [])
def RJ (fs : List FX) : Int := if Ff fs ≠ 0 then Ff fs else if 4096 < au (maxD fs) then 3 else 0
def FX.ns (f : FX) : List Nat := f.ds.map Int.toNat
theorem FX.fv {f : FX} (h : f.e = 0) : f.ds = bH f.ns ∧ f.cs = (f.cs.map NR.d).map nR ∧ f.ns.length ≤ 12 ∧ (∀ d ∈ f.ns, d ≤ 127) ∧ f.cs.length = au f.ns ∧ au f.ns ≤ 4096 := by
 obtain ⟨ns, xs, hv, hxs⟩ := Rk h;obtain ⟨h1, h2, h3, h4, h5, h6⟩ := hv;have e : f.ns = ns := by unfold FX.ns; rw [h1]; exact vM ns
 subst hxs;rw [e];exact ⟨h1, h2, h3, h4, by simpa using h5, h6⟩
structure Tv (D : List Nat) (ys : List Dyadic) (g : FX) : Prop where
 ds : g.ds = bH D
 cs : g.cs = ys.map nR
 n : g.n = D.length
 m : g.m = au D
def Tr (D : List Nat) (f : FX) : List Dyadic := Ot f.ns D (f.cs.map NR.d)
def Ti (a b : List Nat) (j : Nat) : List Nat := (QG a b).take j ++ a.drop j
def x7 (a b : List Dyadic) : List Dyadic := List.zipWith (· + ·) a b
def SU : List (List Dyadic) → List Dyadic
 | [] => []
 | x :: l => l.foldl x7 x
theorem AH {a b : List Dyadic} (h : a.length = b.length) : (x7 a b).length = a.length := by simp [x7, h]
theorem E3 {a b : List Dyadic} {i : Nat} {x y : Dyadic} (h1 : a[i]? = some x) (h2 : b[i]? = some y) : (x7 a b)[i]? = some (x + y) := by
 unfold x7;rw [List.getElem?_zipWith, h1, h2]
def Tf (a b : List Dyadic) (j : Nat) : List Dyadic := (x7 a b).take j ++ a.drop j
def Sr (f g : FX) : Int := if Ff [f, g] ≠ 0 then Ff [f, g] else if RL (OP f.ns g.ns) = true then 3 else 0
def SZ (a b : List Nat) (j : Nat) : List Nat := (OP a b).take j ++ a.drop j
theorem AP {w0 : World} {H : List HE} {L D : Option Addr} {n c c' : Nat} {ls ds : List Int} (w : World) (hh : Hp w0 (.row L n c 3 1 (bF ls) :: H) w) (hD : Sl w0 D n 1 (bF ds)) (hn : n ≤ 100000)
  (hl : ls.all cw = true) (hd : ds.all cw = true) (hll : ls.length = n) :
  Calls Tryz.prog 186 #[.slice L n c, .slice D n c'] w fun e w' =>
   match qa ds ls with
   | some l' => e = .returned (.bool true) ∧ Hp w0 (.row L n c 3 1 (bF l') :: H) w'
   | none => e = .returned (.bool false) ∧ Hp w0 (.row L n c 3 1 (bF (fO n)) :: H) w' := by
 have hdl : ds.length = n := by have := hD.1; rw [bU] at this; omega
 refine aj (N := 31) (l := [.slice L n c, .slice D n c']) Tryz.func186 rfl rfl (by simp) ?_;refine s7 ?_;refine dT (aI (aa (aq ?_)));refine aP [4, 5, 9, 10, 11, 12, 13, 14, 15, 16, 17, 18, 19, 20, 21, 22, 23, 24, 25, 26, 27, 28, 29, 30] 5
  (fun i w' => ∃ (k : Nat) (z : Int), k ≤ n ∧ i = .int .i64 z ∧ z = (k : Int) - 1 ∧ qa (ds.drop k) (ls.drop k) = none ∧ Hp w0 (.row L n c 3 1 (bF (nB ls k n)) :: H) w')
  (fun i _ => (intOf i + 1).toNat) ?_ ?_
 ·exact ⟨n, _, Nat.le_refl _, rfl, rfl, by rw [List.drop_of_length_le Tx]; rfl, by rw [Ho hll]; exact hh⟩
 ·clear hh;rintro ρ' i w' ⟨k, z, hk, rfl, hz, hnx, hh⟩
  cases k with
  | zero =>
   refine ah (sr (mI ?_));refine dR (aa (cF (aZ (aD (aD (bq (ai (sr (aB (aa (av ?_)))))))))));refine cX ?_;rw [List.drop_zero, List.drop_zero] at hnx;rw [hnx];exact ⟨rfl, by simpa [nB] using hh⟩
  | succ k =>
   obtain rfl : z = (k : Int) := Tx;obtain ⟨x, hx⟩ := ao (l := ls) (k := k) Tx;obtain ⟨d, hdk⟩ := ao (l := ds) (k := k) Tx;have bx := A5 hl hx;have bd := A5 hd hdk;have hx2 := cj (Oy (n := n) hx);have hol := Ky hll hk;have hol2 := bU (nB ls (k + 1) n);obtain ⟨g, rfl⟩ := hh.cd (i := 0) rfl Tx;have hD' := hD.ext hh.below;obtain ⟨ad, rfl, hr⟩ := hD'.at_ Tx;by_cases hlt : x < d
   ·refine ah (sr (mI ?_));refine dR (aa (cT (ar (ai (ah (aq (ah (ah ?_))))))));refine MF ?_;refine gk ?_;refine dE ?_;refine N2 ?_;refine MZ ?_;refine gk ?_;refine dE ?_;refine MW ?_;refine rX (fun _ hj => fe (hr.ext hj.bl) (cj hdk) rfl) ?_;refine aT ?_;intro f W hJ hV;have hb_4 := hJ.bl;obtain ⟨v20, v19, v18, v17, v16, v15, v14, v13, _⟩ := hV;replace hh := hJ.hp;refine N4 ?_;dsimp only [cg];clear hJ;refine bf (aa (cT (sr (mL (mI ?_)))));refine tM ?_;refine jm ?_;refine bh ?_;refine tM ?_;refine bL hh (i := 0) (vs := [_]) rfl rfl (cH rfl) rfl aN.out rfl Tx rfl ?_;intro ws hh;simp only [List.set_cons_zero] at hh;refine aa (sr (aB (aa (av (aG (bY (aG (aG (bY (aG ?_))))))))));refine cX ?_;rw [Nat.mul_one, EC _ hll Tx] at hh;rw [JW hdl hll hdk hx hnx hlt];exact ⟨rfl, hh⟩
   ·refine ah (sr (mI ?_));refine dR (aa (cT (ar (ai (ah (aq (ah (ah ?_))))))));refine MF ?_;refine gk ?_;refine dE ?_;refine N2 ?_;refine MZ ?_;refine gk ?_;refine dE ?_;refine MW ?_;refine rX (fun _ hj => fe (hr.ext hj.bl) (cj hdk) rfl) ?_;refine aT ?_;intro f W hJ hV;have hb_4 := hJ.bl;obtain ⟨v20, v19, v18, v17, v16, v15, v14, v13, _⟩ := hV;replace hh := hJ.hp;refine N4 ?_;dsimp only [cg];clear hJ;refine bf (aa (cF (ar (ai (al (mL (mI ?_)))))));refine tM ?_;refine bL hh (i := 0) (vs := [_]) rfl rfl (cH rfl) rfl aN.out rfl Tx rfl ?_;intro ws hh;simp only [List.set_cons_zero] at hh;refine aA (bA (ai (al (mI ?_))));refine dT (aI (aA (ai ?_)));rw [Nat.mul_one, EC _ hll Tx, G6 Tx] at hh;refine ⟨⟨k, _, Tx, rfl, rfl, IF hdk hx hnx hlt, hh⟩, by show ((k : Int) - 1 + 1).toNat < ((k : Int) + 1).toNat; omega, ?_⟩;exact dL
theorem Jo (n : Nat) : fk n [Value.int .i64 0] = bF (fO n) := by rw [um]; simp [bF, fO]
theorem GG (l : List ByteArray) (x : ByteArray) : lj l ++ [.string x] = lj (l ++ [x]) := by simp [lj]
theorem GL (D : Option Addr) (n c : Nat) (ds : List Int) (w : World) (hD : Sl w D n 1 (bF ds)) (hn : n ≤ 100000) :
  Calls Tryz.prog 119 #[.slice D n c] w fun e w' => ∃ A c, e = .returned (.slice A (yy ds).length c) ∧ w'.ownsRow w.heap.size 9 1 (.slice A (yy ds).length c) (yy ds).length (lj (yy ds)) ∧ Below w.heap.size w w' := by
 have hdl : ds.length = n := by have := hD.1; rw [bU] at this; omega
 have hh := Hp.start w;refine aj (N := 52) (l := [.slice D n c]) Tryz.func119 rfl rfl (by simp) ?_;refine sr (aL (aa (sr (aI (aa (ah (sr (mL (aJ (mI (aa (aq ?_))))))))))));refine bJ [2, 3, 5, 13, 14, 15, 16, 17, 18, 19, 20, 21, 22, 23, 24, 25, 26, 27, 28, 29, 30, 31, 32, 33, 34] 3 13
  (fun p i w' => ∃ (k : Nat), k ≤ n ∧ i = .int .i64 k ∧ p = .int .i64 (eG (ds.take k)).length ∧ (eG (ds.take k)).length ≤ 65536 ∧ yj 1 ds = yj (eG (ds.take k)).length (ds.drop k) ∧ w = w')
  (fun _ i _ => n - (intOf i).toNat) ?_ ?_
 ·exact ⟨0, Nat.zero_le _, rfl, rfl, by simp [eG], rfl, rfl⟩
 ·rintro ρ' p i w' ⟨k, hk, rfl, rfl, hsz, hok, rfl⟩;by_cases hlt : k < n
  ·obtain ⟨d, hdk⟩ := ao (l := ds) (k := k) Tx;obtain ⟨ad, rfl, hr⟩ := hD.at_ Tx;have hpos := Ai (ds.take k);by_cases hb1 : 0 ≤ d ∧ d ≤ 127
   ·have hm1 : (0 : Int) ≤ (eG (ds.take k)).length * (d + 1) := Int.mul_nonneg Tx Tx;have hm2 : ((eG (ds.take k)).length : Int) * (d + 1) ≤ 65536 * 128 := Int.mul_le_mul Tx Tx Tx Tx;by_cases hb2 : ((eG (ds.take k)).length : Int) * (d + 1) ≤ 65536
    ·have hstep := IE hdk hok ⟨hb1, hb2⟩;rw [← kW hdk hb1.1] at hstep;have hl2 := kW hdk hb1.1;refine sr ?_;refine dH ?_;refine uR ?_;refine bT aN.out rfl (fe hr (cj hdk) rfl) Ty ?_;refine aI (aa (ah (sr (mI ?_))));refine bf (mB (gT (mI (gT ?_))));refine bM ?_;refine dK ?_;refine mB (gT (mI (gT (mI (gT ?_)))));refine bh (gT ?_);refine mulC (gT ?_);refine bM ?_;refine dK ?_;refine aa (cF (ar (ai (al (mI (mI ?_))))));refine bh ?_;refine mulC (aI (aA (bA (ai (al ?_)))));refine bh (mI (aA (ai ?_)));refine ⟨⟨k + 1, Tx, rfl, by rw [hl2]; rfl, Tx, hstep, rfl⟩, by show n - (k + 1) < n - k; omega, ?_⟩;exact dL
    ·have hf := zA hdk hok fun h => hb2 h.2;refine sr ?_;refine dH ?_;refine uR ?_;refine bT aN.out rfl (fe hr (cj hdk) rfl) Ty ?_;refine aI (aa (ah (sr (mI ?_))));refine bf (mB (gT (mI (gT ?_))));refine bM ?_;refine dK ?_;refine mB (gT (mI (gT (mI (gT ?_)))));refine bh (gT ?_);refine mulC (gT ?_);refine bM ?_;refine dK ?_;exact Pn
   ·have hf := zA hdk hok fun h => hb1 h.1;refine sr ?_;refine dH ?_;refine uR ?_;refine bT aN.out rfl (fe hr (cj hdk) rfl) Ty ?_;by_cases h0 : d < 0
    ·refine aI (aa (ah (sr (mI ?_))));refine bf (mB ?_);refine gS (gS ?_);refine fu ?_;refine mB ?_;refine gS (gS (gS (gS (gS ?_))));refine fu ?_;exact Pn
    ·refine aI (aa (ah (sr (mI ?_))));refine bf (mB (gT (mI (gT ?_))));refine bM ?_;refine dK ?_;refine mB ?_;refine gS (gS (gS (gS (gS ?_))));refine fu ?_;exact Pn
  ·obtain rfl : n = k := Tx;rw [List.take_of_length_le Tx] at hsz;rw [List.drop_of_length_le Tx] at hok;have hok : yj 1 ds = true := hok;have hbd := Hi ds 1 hok;have hen := y8 ds fun d hd => (hbd d hd).1;have hall := rg ds hbd;have hdok : ds.all cw = true := by
    rw [List.all_eq_true]; intro d hd; have := hbd d hd; simp [cw, this]
   have hAl : yy ds = (eG ds).map fX := by simp only [yy, hok, if_true]
   refine sr ?_;refine bf (aa (ah (cF (aZ (aD (aD (bq (ai (sr (mL (aJ ?_)))))))))));refine fU hh rfl rfl rfl rfl bg.out aN.out rfl Tx Tx Ty ?_;intro b37 w37 hh;refine aL (aa (sr (aL (aa (ah (sr (aB (aa (aq ?_)))))))));rw [Jo] at hh;rw [hdl] at hen;refine bJ [7, 8, 9, 10, 38, 39, 40, 41, 42, 43, 44, 45, 46, 47, 48, 49, 50] 7 8
    (fun v b w' => ∃ (done rest : List (List Int)) (a : List Int) (A : Option Addr) (c' : Nat), v = .slice A done.length c' ∧ Hp w [.row (some ⟨b37, 0, none⟩) n n 3 1 (bF a), .row A done.length c' 9 1 (lj (done.map fX))] w' ∧ eG ds = done ++ rest ∧ ((b = .bool true ∧ nF (qa ds) a rest) ∨ (b = .bool false ∧ rest = [])))
    (fun v _ _ => 65537 - lenOf v) ?_ ?_
   ·exact ⟨[], _, _, none, 0, rfl, (hh.db _ _).swap, rfl, .inl ⟨rfl, hen⟩⟩
   ·clear hh;rintro ρ' v b w' ⟨done, rest, a, A, c', rfl, hh, hap, hc⟩
    rcases hc with ⟨rfl, hE⟩ | ⟨rfl, rfl⟩
    ·have hlen : (eG ds).length = done.length + rest.length := by rw [hap, List.length_append]
     have hre : rest = a :: rest.tail := by
      rcases vu hE with ⟨h, _⟩ | ⟨c, L, h, _⟩ <;> simp [h]
     have hrl : rest.length = rest.tail.length + 1 := by rw [hre]; simp
     have ha : a ∈ eG ds := by rw [hap, hre]; simp
     have hao := hall a ha;have hal := ll ds a ha;obtain ⟨eo1, eo2⟩ := pz hao;have e1 : lj (done.map fX) ++ [.string (str (HW a))] = lj ((done ++ [a]).map fX) := by rw [GG, eo1, List.map_append]; rfl
     refine ah (sr (mB (aa (cT (ar (ai (ah (aq (sr (mL ?_))))))))));refine bz hh (AX _ _ _ _ _ (hh.aC (i := 0) rfl) Tx) rfl ?_;intro w44 hh;refine mT ?_;refine dq ?_;refine dq ?_;refine aS (aI (aa (al (mL (mS ?_)))));refine cP hh (cs := [_]) bg.out aN.out (aK (C3 rfl) bP) rfl rfl Ty Ty Ty rfl Ty ?_;intro b49 w49 hh;refine cJ hh (i := 2) rfl rfl rfl (hh.aC (i := 0) rfl) bg.out aN.out rfl Ty rfl Tx Tx Ty ?_;intro A50 c50 w50 hh;simp only [List.set_cons_zero, List.set_cons_succ] at hh;replace hh := hh.sub (List.sublist_cons_self _ _);refine aL (aA (bA (ai (al (mL (mL ?_))))));rw [e1] at hh;have hcc := AP (D := D) (c' := c) (ds := ds) _ hh hD Tx hao hdok Tx
     rcases vu hE with ⟨h1, h2⟩ | ⟨c2, L, h1, h2, h3⟩
     ·rw [h2] at hcc;refine aE (hcc) ak.out rfl Ty ?_;rintro e_ w_ ⟨rfl, hh⟩;refine ⟨_, rfl, ?_⟩;refine aB (aA (ai ?_));refine ⟨⟨done ++ [a], [], _, A50, c50, by rw [List.length_append]; rfl, by rw [List.length_append]; exact hh, by rw [hap, h1]; simp, .inr ⟨rfl, rfl⟩⟩, by show 65537 - (done.length + 1) < 65537 - done.length; omega, ?_⟩;exact dL
     ·rw [h2] at hcc;refine aE (hcc) ak.out rfl Ty ?_;rintro e_ w_ ⟨rfl, hh⟩;refine ⟨_, rfl, ?_⟩;refine aB (aA (ai ?_));refine ⟨⟨done ++ [a], L, c2, A50, c50, by rw [List.length_append]; rfl, by rw [List.length_append]; exact hh, by rw [hap, h1]; simp, .inl ⟨rfl, h3⟩⟩, by show 65537 - (done.length + 1) < 65537 - done.length; omega, ?_⟩;exact dL
    ·refine ah (sr (mB (aa (cF (aZ (aD (aD (bq (ai (sr (mL (aL (aa (av ?_))))))))))))));refine cX ?_;have h1 := hh.at_ (i := 1) rfl;have hdn : eG ds = done := by rw [hap]; simp
     rw [hAl, hdn, List.length_map];exact ⟨A, c', rfl, h1, hh.below⟩
theorem nM (A : Option Addr) (n c : Nat) (ds : List Int) (w : World) (hS : Sl w A n 1 (bF ds)) (hn : n ≤ 1000000) :
  Calls Tryz.prog 44 #[.slice A n c] w fun r w' => r = .returned (.int .i64 (tW ds)) ∧ Below w.heap.size w w' := by
 have hh := Hp.start w;have hln : ds.length = n := by have := hS.1; simpa [bF] using this
 unfold tW;refine aj (N := 39) (l := [.slice A n c]) Tryz.func44 rfl rfl (by simp) ?_;refine sr (aI (aa (sr (aI (aa (ah (sr (aI (aa (aq ?_))))))))));refine aP [2, 4, 6, 7, 8, 9, 10, 11, 12, 13, 14, 15, 16, 17, 18, 19, 20, 21, 22, 23] 4
  (fun v w' => ∃ i : Nat, i ≤ n ∧ v = .int .i64 i ∧ (ds.take i).any (fun d => !cw d) = false ∧ Hp w [] w')
  (fun v _ => n - (intOf v).toNat) ?_ ?_
 ·exact ⟨0, Nat.zero_le _, rfl, rfl, hh⟩
 ·clear hh;rintro ρ' v w' ⟨i, hi, rfl, hall, hh⟩;by_cases hlt : i < n
  ·obtain ⟨d, hd⟩ := ao (l := ds) (k := i) Tx;have hgi := cj hd;obtain ⟨ad, rfl, hr⟩ := hS.at_ Tx;have hbad : (!cw d) = true → ds.any (fun d => !cw d) = true := fun h => List.any_eq_true.2 ⟨d, List.mem_of_getElem? hd, h⟩;by_cases h1 : d < 0
   ·refine ah (sr (mI (mL (aJ ?_))));refine mD ?_;refine cn ?_;refine gu ?_;refine bf (mB ?_);refine gS (gS (gS (gS (gS ?_))));refine fu ?_;exact Q8
   ·by_cases h2 : 127 < d
    ·refine ah (sr (mI (mL (aJ ?_))));refine mD ?_;refine cn ?_;refine gu ?_;refine bf (mB (gT (mL (gT (mI (gT ?_))))));refine cn ?_;refine gT ?_;refine gu ?_;refine gT ?_;refine bM ?_;refine dK ?_;exact Q8
    ·refine ah (sr (mI (mL (aJ ?_))));refine mD ?_;refine cn ?_;refine gu ?_;refine bf (mB (gT (mL (gT (mI (gT ?_))))));refine cn ?_;refine gT ?_;refine gu ?_;refine gT ?_;refine bM ?_;refine dK ?_;refine oS ?_;refine bh (aI (aA (ai ?_)));refine ⟨⟨i + 1, Tx, rfl, ?_, hh⟩, by show n - (i + 1) < n - i; omega, ?_⟩
     ·rw [ay hd, List.any_append, hall, List.any_cons, List.any_nil, cw, decide_eq_true Tx, decide_eq_true Tx]; rfl
     ·exact dL
  ·rw [List.take_of_length_le Tx] at hall;rw [hall, if_neg Ty];obtain ⟨ns, hns, hlow⟩ := vQ hall;have hds : ∀ (j : Nat) (d : Int), ds[j]? = some d → 0 ≤ d ∧ d ≤ 127 := fun j d hd => by
    have := List.any_eq_false.1 hall d (List.mem_of_getElem? hd);simp [cw] at this;omega
   refine ah (sr (mI (mL (aJ ?_))));refine bf (aa (cF (aZ (aD (aD (bq (ai (ah (sr (aI (aa (aq ?_))))))))))));refine bJ [3, 5, 24, 25, 26, 27, 28, 29, 30, 31, 32, 33, 34, 35, 36, 37] 3 5
    (fun v3 v w' => ∃ (i : Nat) (q : Int), i ≤ n ∧ v = .int .i64 i ∧ v3 = .int .i64 q ∧ 0 ≤ q ∧ q ≤ 4097 ∧ xR 1 ds = xR q (ds.drop i) ∧ Hp w [] w')
    (fun _ v _ => n - (intOf v).toNat) ?_ ?_
   ·exact ⟨0, 1, Nat.zero_le _, rfl, rfl, Tx, Tx, rfl, hh⟩
   ·clear hh;rintro ρ2 v3 v w2 ⟨j, q, hj, rfl, rfl, hq1, hq2, hc, hh⟩;by_cases hjn : j < n
    ·obtain ⟨d, hd⟩ := ao (l := ds) (k := j) Tx;have hgi := cj hd;have hdb := hds j d hd;obtain ⟨ad, rfl, hr⟩ := hS.at_ Tx;rw [gH hd, xR] at hc;have hm1 : 0 * 0 ≤ q * (d + 1) := Int.mul_le_mul hq1 Tx Ty Tx;have hm2 : q * (d + 1) ≤ 4097 * 128 := Int.mul_le_mul hq2 Tx Tx Ty;refine ah (sr (mI (mL (aJ ?_))));refine bf (aa (cT (ar (ai (ah (aq (al (mI (mL (mI ?_))))))))));refine kg ?_;refine gu ?_;refine bh ?_;refine mulC ?_;refine xc rfl rfl Ty ?_;refine aI (aA (bA (ai (al (mI ?_)))));refine bh (aI (aA (ai ?_)));refine ⟨⟨j + 1, _, Tx, rfl, rfl, by split <;> omega, by split <;> omega, by rw [hc, show min (q * (d + 1)) 4097 = if 4097 < q * (d + 1) then 4097 else q * (d + 1) by split <;> omega], hh⟩, by show n - (j + 1) < n - j; omega, ?_⟩;exact dL
    ·rw [List.drop_of_length_le Tx] at hc;refine ah (sr (mI (mL (aJ ?_))));refine bf (aa (cF (aZ (aD (aD (bq (ai (sr (mI (aI (aa (av ?_))))))))))));refine cX ?_;exact ⟨by rw [hc]; rfl, hh.below⟩
def Tm (n : Nat) (k : Int) : Dyadic := if k < 0 ∨ (n : Int) < k then 0 else nD (bin n k.toNat)
theorem Fi : ∀ (ns : List Nat) (n : Nat), (∀ d ∈ ns, d ≤ 127) → n * au ns ≤ 65536 → 1 ≤ n → yj n (bH ns) = true
 | [], _, _, _, _ => rfl
 | d :: ns, n, h, hc, h1 => by
  have hd := h d List.mem_cons_self;have e1 : (n : Int) * ((d : Int) + 1) = ((n * (d + 1) : Nat) : Int) := by rw [Int.natCast_mul, Int.natCast_add]; rfl
  rw [au, ← Nat.mul_assoc] at hc;have h2 : n * (d + 1) * 1 ≤ n * (d + 1) * au ns := Nat.mul_le_mul_left _ (cL ns);have ih := Fi ns (n * (d + 1)) (fun x hx => h x (List.mem_cons_of_mem _ hx)) hc (Nat.mul_pos h1 Tx);show (decide (0 ≤ (d : Int)) && (decide ((d : Int) ≤ 127) && (decide ((n : Int) * ((d : Int) + 1) ≤ 65536) && yj ((n : Int) * ((d : Int) + 1)) (bH ns)))) = true;rw [e1, ih, decide_eq_true Tx, decide_eq_true Tx, decide_eq_true Tx]
  rfl
def q9 (ns : List Nat) : List ByteArray := (eG (bH ns)).map fX
theorem Gv (ns : List Nat) : (q9 ns).length = au ns := by unfold q9; rw [List.length_map, Jy, cz]
theorem I7 {ns : List Nat} {p : Nat} (h : p < au ns) : (q9 ns)[p]? = some (fX (bH (cI ns.reverse p).reverse)) := by
 unfold q9;rw [List.getElem?_map, Ln (by rw [cz]; exact h)]
 rfl
theorem RE {l : List Nat} {i r : Nat} (h : l[i]? = some r) (hr : r ≤ 255) : ∃ c : UInt8, (fX (bH l)).data.toList[i]? = some c ∧ c.toNat = r := by
 refine ⟨xM (r : Int), ?_, ?_⟩
 ·unfold fX;rw [dt, List.getElem?_map, iX h]
  rfl
 ·show (UInt8.ofNat ((r : Int)).toNat).toNat = r;rw [Int.toNat_natCast, UInt8.toNat_ofNat'];omega
theorem j4 (L : Option Addr) (n c : Nat) (b : List NR) (M : Option Addr) (c2 : Nat) (w : World) (hS : Sl w L n 3 (az NR.cells b)) (hS2 : Sl w M n 3 (az NR.cells b)) (hn : n ≤ 1000000) :
  Calls Tryz.prog 56 #[.slice L n c, .slice M n c2] w fun r w' => r = .returned (.bool true) ∧ Below w.heap.size w w' := by
 have hh := Hp.start w;have hln := hS.bk NR.len Ty;refine aj (N := 26) (l := [.slice L n c, .slice M n c2]) Tryz.func56 rfl rfl (by simp) ?_;refine Bb ?_;refine HY ?_;refine aP [4, 5, 11, 12, 13, 14, 15, 16, 17, 18, 19, 20, 21, 22, 23, 24, 25] 5
  (fun v w' => ∃ i : Nat, i ≤ n ∧ v = .int .i64 i ∧ Hp w [] w')
  (fun v _ => n - (intOf v).toNat) ?_ ?_
 ·exact ⟨0, Nat.zero_le _, rfl, hh⟩
 ·clear hh;rintro ρ' v w' ⟨i, hi, rfl, hh⟩;by_cases hlt : i < n
  ·obtain ⟨s, hs⟩ := ao (l := b) (k := i) Tx;obtain ⟨ad, rfl, hr⟩ := hS.at_ Tx;obtain ⟨ad2, rfl, hr2⟩ := hS2.at_ Tx;refine ah (sr (mI (mL (aJ ?_))));refine uW ?_;refine Ar ?_;refine gk ?_;refine dE ?_;refine nT (i) ?_;refine pE [_,_,_] (fun _ hj => (hr.ext hj.hp.below).recAt NR.len hs) ?_;refine gk ?_;refine dE ?_;refine nT (i) ?_;refine pE [_,_,_] (fun _ hj => (hr2.ext hj.hp.below).recAt NR.len hs) ?_;refine aT ?_;intro f W hJ hV;have hb_6 := hJ.bl;obtain ⟨v24, v23, v22, v21, v20, v19, v18, v17, _⟩ := hV;replace hh := hJ.hp;refine yR ?_;dsimp only [cg];clear hJ;refine xL rfl rfl (by first | assumption | rfl) Ty ?_;refine oS ?_;refine bh (aI (aA (ai ?_)));exact HK
  ·refine ah (sr (mI (mL (aJ ?_))));refine zt ?_;refine cX ?_;exact ⟨rfl, hh.below⟩
theorem xf (A B : Option Addr) (n c m c2 : Nat) (A' B' : Option Addr) (c' c2' : Nat) (ds : List Int) (cs : List NR) (w : World) (hS : Sl w A n 1 (bF ds)) (hS2 : Sl w B m 3 (az NR.cells cs)) (hS3 : Sl w A' n 1 (bF ds)) (hS4 : Sl w B' m 3 (az NR.cells cs)) (hn : n ≤ 100000) (hm : m ≤ 1000000) :
  Calls Tryz.prog 23 #[.agg #[.slice A n c, .slice B m c2], .agg #[.slice A' n c', .slice B' m c2']] w fun r w' => r = .returned (.bool true) ∧ Below w.heap.size w w' := by
 have hh := Hp.start w;have hnum := fun w1 h1 h2 => u5 A A' n n c c' ds ds w1 h1 h2 hn hn;simp only [decide_true] at hnum;refine aj (N := 17) (l := [.agg #[.slice A n c, .slice B m c2], .agg #[.slice A' n c', .slice B' m c2']]) Tryz.func23 rfl rfl (by simp) ?_;refine sr ?_;refine cx hh [_,_] ?_;intro b2 w2 hh;refine cx hh [_,_] ?_;intro b3 w3 hh;refine aB (aa (sr (bD ?_)));refine bB hh 1 ?_;refine bD ?_;refine bB hh 0 ?_;refine bz hh (hnum _ (hS.ext hh.below) (hS3.ext hh.below)) rfl ?_;intro w9 hh;refine mB (gT (bD (gT ?_)));refine bB hh 1 ?_;refine gT (bD (gT ?_));refine bB hh 0 ?_;refine aH rfl rfl ?_;refine bz hh (j4 B m c2 cs B' c2' _ (hS2.ext hh.below) (hS4.ext hh.below) hm) rfl ?_;intro w15 hh;refine fu ?_;exact vi
def S3 (ds es : List Nat) (xs ys : List Dyadic) (i m : Nat) : List (Nat × Dyadic) := (List.range m).map fun k => (ik (CW ds es) (CW (cI ds i) (cI es k)), (xs[i]?).getD 0 * (ys[k]?).getD 0)
def To (ds es : List Nat) (xs ys : List Dyadic) (i : Nat) : List (Nat × Dyadic) := (List.range i).flatMap fun i => S3 ds es xs ys i (au es)
def bS (rs : List Nat) : List UInt8 := (bH rs).map xM
def Ku (ns : List Nat) (a : Nat) : List Nat := ns.set a (ns.getD a 0 + 1)
def Tu (ns : List Nat) (a : Nat) (xs : List Dyadic) : List Dyadic :=
 (List.range (au (Ku ns a))).map fun p => co ns.reverse xs (cI (Ku ns a).reverse p) + if 0 < (cI (Ku ns a).reverse p).getD (ns.length - 1 - a) 0 then co ns.reverse xs (Sh (cI (Ku ns a).reverse p) (ns.length - 1 - a)) else 0
theorem jK : ∀ (ds rs : List Nat), lZ ds rs ↔ rs.length = ds.length ∧ ∀ (i d r : Nat), ds[i]? = some d → rs[i]? = some r → r ≤ d
 | [], [] => by simp [lZ]
 | [], _ :: _ => by simp [lZ]
 | _ :: _, [] => by simp [lZ]
 | d :: ds, r :: rs => by
  rw [lZ, jK ds rs];constructor
  ·rintro ⟨h1, h2, h3⟩;refine ⟨by rw [List.length_cons, List.length_cons, h2], fun i e s he hs => ?_⟩
   cases i with
   | zero => cases he; cases hs; exact h1
   | succ i => exact h3 i e s he hs
  ·rintro ⟨h1, h2⟩;exact ⟨h2 0 d r rfl rfl, by simpa using h1, fun i e s he hs => h2 (i + 1) e s he hs⟩
def S5 (ns : List Nat) (xs : List Dyadic) (cs : List Nat) (zs : List Dyadic) : Prop := zs.length = au cs ∧ cs.length = ns.length ∧ (∀ (i n c : Nat), ns[i]? = some n → cs[i]? = some c → n ≤ c) ∧ ∀ row : List Nat, row.length = ns.length → co cs.reverse zs row = Su (PZ cs ns).reverse (co ns.reverse xs) row
structure rR (p : PX) (b : List SR) (ns : List Nat) : Prop where
 e : p.e = 0
 box : lS b = 0
 pos : 0 < b.length
 nZ : b.length ≤ 12
 v : p.v = b.length
 nl : ns.length = b.length
 low : ∀ d ∈ ns, d ≤ 127
 most : au ns ≤ 4096
 own : ∀ (i d : Nat), ns[i]? = some d → ∀ t ∈ p.ts, fw i t ≤ d
theorem yw {p : PX} {b : List SR} {D : List Int} (h : ma p b D = 0) : D = bH (D.map Int.toNat) ∧ rR p b (D.map Int.toNat) := by
 unfold ma at h;by_cases h0 : p.e ≠ 0
 ·rw [if_pos h0] at h; exact absurd h h0
 ·rw [if_neg h0] at h;by_cases h1 : lS b ≠ 0
  ·rw [if_pos h1] at h; exact absurd h h1
  ·rw [if_neg h1] at h;by_cases h2 : (b.length : Int) ≠ p.v ∨ (D.length : Int) ≠ p.v
   ·rw [if_pos h2] at h; exact absurd h Ty
   ·rw [if_neg h2] at h;by_cases h3 : uk (vf p.v p.ts) D = true
    ·rw [if_pos h3] at h; exact absurd h Ty
    ·rw [if_neg h3] at h;by_cases h4 : ij 1 D = 0
     ·rw [if_pos h4] at h; exact absurd h Ty
     ·have hpe : p.e = 0 := Classical.not_not.1 h0;obtain ⟨f1, _, _, _⟩ := cu hpe;have f2 := iD.1 f1;obtain ⟨o1, o2, o3⟩ := lU hpe;have hbv : (b.length : Int) = p.v := Classical.not_not.1 fun c => h2 (.inl c);have hdv : (D.length : Int) = p.v := Classical.not_not.1 fun c => h2 (.inr c);have hD : ∀ (i : Nat) (y : Int), D[i]? = some y → ∃ d : Nat, (gJ p.v p.ts)[i]? = some d ∧ (d : Int) ≤ y ∧ y ≤ 127 := fun i y hy => by
       have hi := (List.getElem?_eq_some_iff.1 hy).1;obtain ⟨d, hd⟩ := ao (l := gJ p.v p.ts) (k := i) Tx;have hg : (vf p.v p.ts)[i]? = some (d : Int) := by rw [o1]; exact iX hd
       have := List.any_eq_false.1 ((Bool.not_eq_true _).mp h3) _ (List.mem_of_getElem? (DK hg hy));rw [decide_eq_true_eq] at this;exact ⟨d, hd, by show (d : Int) ≤ y; omega, by show y ≤ 127; omega⟩
      have hnat : D = bH (D.map Int.toNat) := by
       unfold bH;rw [List.map_map];refine (List.map_id' _).symm.trans (List.map_congr_left fun y hy => ?_);obtain ⟨i, hi⟩ := List.mem_iff_getElem?.1 hy;obtain ⟨d, _, h5, _⟩ := hD i y hi;show y = ((y.toNat : Nat) : Int);omega
      have hlow : ∀ d ∈ D.map Int.toNat, d ≤ 127 := fun d hd => by
       obtain ⟨y, hy, rfl⟩ := List.mem_map.1 hd;obtain ⟨i, hi⟩ := List.mem_iff_getElem?.1 hy;obtain ⟨_, _, _, h6⟩ := hD i y hi;omega
      refine ⟨hnat, hpe, Classical.not_not.1 h1, ?_, Tx, hbv.symm, by rw [List.length_map]; omega, hlow, ?_, fun i d hd t ht => ?_⟩
      ·rcases Nat.eq_zero_or_pos b.length with c | c
       ·have h9 := Classical.not_not.1 h1;unfold lS at h9;rw [List.length_eq_zero_iff.1 c] at h9;exact absurd h9 Ty
       ·exact c
      ·have h8 := j2 (D.map Int.toNat) 1 (Nat.le_refl _) Ty hlow;rw [← hnat, Nat.one_mul] at h8;rw [show ij 1 D = ij ((1 : Nat) : Int) D from rfl, h8] at h4;exact Classical.not_not.1 fun c => h4 (if_neg c)
      ·rw [List.getElem?_map] at hd;obtain ⟨y, hy, hyd⟩ := Option.map_eq_some_iff.1 hd;obtain ⟨d2, h7, h8, h9⟩ := hD i y hy;have := (o3 i d2 h7).2.1 t ht;omega
theorem rR.lI {p : PX} {b : List SR} {ns : List Nat} (h : rR p b ns) : (gJ p.v p.ts).length = b.length := by
 rw [(lU h.e).2.1, h.v];exact Int.toNat_natCast _
theorem L6 (v i : Nat) (c : NR) : l0 (fun x => if x = i then 1 else 0) [⟨kE v i, c⟩] := fun t ht j => by
 rw [List.mem_singleton.1 ht]
 cases he : (⟨kE v i, c⟩ : TR).m.data.toList[j]? with
 | none => unfold fw; rw [he]; exact Nat.zero_le _
 | some e =>
  rw [mQ he];show e.toNat ≤ if j = i then 1 else 0
  have e1 : ((List.replicate v (0 : UInt8)).set i 1)[j]? = some e := by simpa [kE] using he
  rw [List.getElem?_set] at e1;by_cases hj : i = j
  ·rw [if_pos hj] at e1;rw [if_pos hj.symm];split at e1
   ·rw [← Option.some.inj e1]; decide
   ·cases e1
  ·rw [if_neg hj] at e1;rw [(List.mem_replicate.1 (List.mem_of_getElem? e1)).2];exact Nat.zero_le _
theorem vj (v i : Nat) (s : SR) : l0 (fun x => if x = i then 1 else 0) (gP v i s) := by
 refine l0.aF (l0.append ((AU v _).aF.mono fun x => Nat.zero_le _) (l0.aF fun t ht j => ?_));obtain ⟨z, hz, rfl⟩ := List.mem_map.1 ht;rw [show fw j (qQ (s.H - s.L) z) = fw j z from rfl];exact (L6 v i _).aF z hz j
theorem vF {p : PX} {b : List SR} {ns : List Nat} {k : Nat} (h : rR p b ns) (ho : iO k p.ts) (hb : ∀ s ∈ b, s.fin k) (hk : k ≤ 1000) (hgr : eZ (k + k + 16394) (gJ p.v p.ts) (k + 1) ≤ 440000) (h0 : (da p (br b)).1 = 0) :
  ky b.length 440000 (da p (br b)).2 ∧ ∀ t ∈ (da p (br b)).2, lZ ns.reverse (cQ t.m).reverse := by
 have hl := h.nZ;have hpos := h.pos;have hln := jQ b;obtain ⟨_, o2, o3⟩ := lU h.e;have hol := h.lI;have hhv : eC (br b) = b.length := by
  obtain ⟨s, hs⟩ := ao (l := b) (k := 0) Tx;rw [kI (ig hs)]
 unfold da at h0 ⊢;rw [if_neg (fun c => c h.e), if_neg (by rw [hln, h.v]; exact fun c => c rfl)] at h0 ⊢;by_cases hlk : (br b).length ≠ 0 ∧ eS (br b) ≠ 0
 ·rw [if_pos hlk] at h0; exact absurd h0 hlk.2
 ·rw [if_neg hlk, hhv] at h0 ⊢;have hq : ∀ q ∈ (br b).map PX.ts, ky b.length (k + k + 10) q ∧ q.length ≤ 2 := fun q hq => by
   obtain ⟨g, hg, rfl⟩ := List.mem_map.1 hq;obtain ⟨i, s, hs, rfl⟩ := Ce hg;exact mW hl (hb s (List.mem_of_getElem? hs)) Tx
  have h1 := DE (fD hl) (show k + k + 10 + 4096 * 2 + 8192 ≤ k + k + 16394 by omega) ((br b).map PX.ts) 0 p.ts (gJ p.v p.ts) k hq ho (by rw [List.length_map, hln, hol]) (fun i d hd => ⟨(o3 i d hd).1, fun t ht => by rw [Nat.zero_add]; exact (o3 i d hd).2.1 t ht⟩) Tx h0;refine ⟨h1.mono hgr, ?_⟩;have h2 := Ev ((br b).map PX.ts) 0 p.ts (fun i => (ns[i]?).getD 0) (fun i q hi => ?_) (fun t ht i hi => ?_) h0
  ·intro t ht;have hm := (cu h1.e).2.2.1 t ht;unfold eH at hm;rw [Bool.and_eq_true, decide_eq_true_eq] at hm;have hsz : (cQ t.m).length = b.length := by rw [mq]; omega
   rw [jK];refine ⟨by rw [List.length_reverse, List.length_reverse, hsz, h.nl], fun i d r hd hr => ?_⟩;have hi := (List.getElem?_eq_some_iff.1 hd).1;rw [List.length_reverse] at hi;rw [List.getElem?_reverse hi] at hd;rw [List.getElem?_reverse (by rw [hsz, ← h.nl]; exact hi), hsz, ← h.nl] at hr;have h3 := h2 t ht (ns.length - 1 - i);dsimp only at h3;rw [List.length_map, hln, if_pos ⟨Nat.zero_le _, by have := h.nl; omega⟩, hd, yE, hr] at h3;exact h3
  ·rw [List.getElem?_map] at hi;obtain ⟨g, hg, rfl⟩ := Option.map_eq_some_iff.1 hi;obtain ⟨s, hs⟩ := ao (l := b) (k := i) (by have := (List.getElem?_eq_some_iff.1 hg).1; rwa [hln] at this);rw [ig hs] at hg;rw [← Option.some.inj hg, Nat.zero_add];exact vj _ i s
  ·rw [List.length_map, hln] at hi;rw [Nat.zero_add];obtain ⟨d, hd⟩ := ao (l := ns) (k := i) (by rw [h.nl]; exact hi);rw [hd];exact h.own i d hd t ht
theorem yn (L : Option Addr) (n c d : Nat) (xs : List Dyadic) (k : Nat) (w : World) (hT : ee w) (hS : Sl w L n 3 (az NR.cells (xs.map nR))) (hn : n = d + 1) (hd : d ≤ 127) (hx : ∀ x ∈ xs, Sz k x) (hk : k ≤ 500000) :
  Calls Tryz.prog 94 #[.slice L n c] w fun r w' => ∃ A c', r = .returned (.slice A n c') ∧ Hp w [.row A n c' 65 3 (az NR.cells ((kf d (eb d 1 1) xs).map nR))] w' := by
 have hh := Hp.start w;have hln : xs.length = n := by have := hS.bk NR.len Ty; simpa using this
 have ha : Sz 1 1 := Sz.one;obtain ⟨ad, rfl, hr⟩ := hS.at_ Tx;refine aj (N := 52) (l := [.slice (some ad) n c]) Tryz.func94 rfl rfl (by simp) ?_;refine sr (aL (aa (sr (mL (aJ ?_)))));refine dT (aI (aa (sr (mI ?_))));refine bh ?_;refine Iu ?_;intro b14 w14 hh;refine rz ?_;rw [ni, hn, ← tE d 1 1 xs, ← hn] at hh;refine aP [5, 6, 7, 8, 17, 18, 19, 20, 21, 22, 23, 24, 25, 26, 27, 28, 29, 30, 31, 32, 33, 34, 35, 36, 37, 38, 39, 40, 41, 42, 43, 44, 45, 46, 47, 48, 49, 50] 17
  (fun v w' => ∃ i : Nat, i ≤ n ∧ v = .int .i64 i ∧ Hp w [.row (some ⟨b14, 0, none⟩) n n 65 3 (az NR.cells ((iE d 1 1 xs i 0).map nR))] w')
  (fun v _ => n - (intOf v).toNat) ?_ ?_
 ·exact ⟨0, Nat.zero_le _, rfl, hh⟩
 ·clear hh;rintro ρ' v w' ⟨i, hi, rfl, hh⟩;by_cases hlt : i < n
  ·obtain ⟨x, hxi⟩ := ao (l := xs) (k := i) Tx;have hxn : (xs.map nR)[i]? = some (nR x) := by rw [List.getElem?_map, hxi]; rfl
   have hat : jo xs i = x := by unfold jo; rw [hxi]; rfl
   have zx := hx x (List.mem_of_getElem? hxi);have hch := fun w1 hT1 => kv (d - i) w1 hT1 Tx;refine sr ?_;refine dZ ?_;refine cn ?_;refine JQ ?_;refine bR hh ?_;intro b6 w6 hh;refine aI ?_;refine bW hh 0 [_,_,_] ?_;intro ws hh;replace hh : Hp _ (.blk _ _ [_, _, _] _ :: _) _ := hh;refine aa (sr (mI (mI ?_)));refine dT ?_;have e24 : (n : Int) - 1 - (i : Int) = ((d - i : Nat) : Int) := Tx;rw [← e24] at hch;refine aE (hch _ (hT.hp hh)) ak.out rfl Ty ?_;rintro e_ w25 ⟨A25, c25, rfl, hown_, hb_⟩;refine ⟨_, rfl, ?_⟩;replace hh := hh.aV (x := .row _ _ _ _ _ _) hb_ hown_;refine aJ (mI (aa (aq ?_)));replace hh := hh.sub (List.Sublist.cons_cons _ (List.Sublist.cons_cons _ (List.Sublist.cons_cons _ List.Sublist.slnil)));refine aP [7, 8, 27, 28, 29, 30, 31, 32, 33, 34, 35, 36, 37, 38, 39, 40, 41, 42, 43, 44, 45, 46, 47, 48, 49] 27
    (fun v w' => ∃ j : Nat, j ≤ d - i + 1 ∧ v = .int .i64 j ∧ Hp w [.row A25 (d - i + 1) c25 65 3 (az NR.cells (kJ (d - i))), .blk b6 65 [.bool (nR x).neg, .string (nR x).bo, .int .i64 (nR x).e] (0, 0), .row (some ⟨b14, 0, none⟩) n n 65 3 (az NR.cells ((iE d 1 1 xs i j).map nR))] w')
    (fun v _ => d - i + 1 - (intOf v).toNat) ?_ ?_
   ·exact ⟨0, Nat.zero_le _, rfl, hh⟩
   ·clear hh;rintro ρ2 v w2 ⟨j, hj, rfl, hh⟩;by_cases hjn : j < d - i + 1
    ·have hbn : (kJ (d - i))[j]? = some (nR (nD (bin (d - i) j))) := j6 Tx;have zb := qz (d - i) j Tx;obtain ⟨o, ho⟩ := ao (l := iE d 1 1 xs i j) (k := i + j) (by rw [jN]; omega);have hon : ((iE d 1 1 xs i j).map nR)[i + j]? = some (nR o) := by rw [List.getElem?_map, ho]; rfl
     have zo := E9 (j := j) hx ha ha hd (show i ≤ d + 1 by omega) o (List.mem_of_getElem? ho);have zy := zx.mul zb;have hm2 := fun A cc w1 hT1 hS1 => ew A 2 cc [nR x, nR (nD (bin (d - i) j))] w1 hT1 hS1 (by simpa using ⟨zx.ok Tx, zb.ok Tx⟩) 600000 (by simpa [cf] using ⟨zx.mono Tx, zb.mono Tx⟩) Tx Tx;rw [show ic ([nR x, nR (nD (bin (d - i) j))].map NR.d) = x * nD (bin (d - i) j) by simp only [List.map_cons, List.map_nil, cf]; show 1 * x * _ = _; rw [Dyadic.one_mul]] at hm2;have hset := Au (show i + j ≤ d by omega) ho;have hval : jo xs i * eb d 1 1 i (i + j) = x * nD (bin (d - i) j) := by
      unfold eb;rw [hat, if_neg Tx, show i + j - i = j by omega, iT, iT];generalize nD (bin (d - i) j) = u;grind
     rw [hval] at hset;generalize x * nD (bin (d - i) j) = y at *;have hsum := fun A cc w1 hT1 hS1 => gL A 2 cc [nR o, nR y] w1 hT1 hS1 (by simpa using ⟨zo.ok Tx, zy.ok Tx⟩) 2000000 (by simpa [cf] using ⟨zo.mono Tx, zy.mono Tx⟩) Tx;rw [show md ([nR o, nR y].map NR.d) = o + y by simp only [List.map_cons, List.map_nil, cf, jU]] at hsum;have hll : ((iE d 1 1 xs i j).map nR).length = n := by rw [List.length_map, jN]; omega
     generalize iE d 1 1 xs i j = S at *;have hrl := eF NR.len (S.map nR);obtain ⟨gw, rfl⟩ := hh.cd (i := 0) rfl Tx;refine sr ?_;refine dZ ?_;refine rn ?_;refine MM ?_;refine bR hh ?_;intro b8 w8 hh;refine aI ?_;refine bW hh 0 [_,_,_] ?_;intro ws hh;replace hh : Hp _ (.blk _ _ [_, _, _] _ :: _) _ := hh;refine aa ?_;refine aY 16 [[(4, none)], [(5, none)], [(7, none)], [(33, some 1), (34, some 2)], [(4, none)], [(5, none)], [(7, none)], [(37, some 5), (38, some 6)], [(36, some 4), (39, some 7)], [(40, some 8)], [(6, none)], [(8, none)], [(42, some 10), (43, some 11)], [(44, some 12)], [(41, some 9), (45, some 13)], [(46, some 14)]] [(15, 47), (14, 46), (13, 45), (12, 44), (11, 43), (10, 42), (9, 41), (8, 40), (7, 39), (6, 38), (5, 37), (4, 36), (3, 35), (2, 34), (1, 33), (0, 32)] hh mixed Tz ?_;refine gk ?_;refine dE ?_;refine dE ?_;refine rP ?_;refine gk ?_;refine dE ?_;refine dE ?_;refine rP ?_;refine BQ ((i + j)) ?_;refine pE [_,_,_] (fun _ hj => hj.hp.eU (f := NR.cells) (x := nR o) (l := S.map nR) (i := 3) rfl NR.len Ty hon) ?_;refine fT 2 [_,_,_] ?_;refine fT 0 [_,_,_] ?_;refine sC [_,_,_,_,_,_] ?_
     refine aR (i := 13) (Is (.agg #[.bool (nR y).neg, .string (nR y).bo, .int .i64 (nR y).e])) Is.ext ?_ ?_
     ·intro ρ1 w1 hj hR;obtain ⟨A44, c44, h44, s44⟩ := hR.1;exact a8 rfl (aM ak.out (aw h44 aX)) (hm2 A44 c44 _ (hT.hp hj.hp) s44) (fun _ _ hq => ⟨_, hq.1, hq.2, rfl⟩)
     refine sC [_,_,_,_,_,_] ?_;refine aR (i := 15) (Is (.agg #[.bool (nR (o + y)).neg, .string (nR (o + y)).bo, .int .i64 (nR (o + y)).e])) Is.ext ?_ ?_
     ·intro ρ1 w1 hj hR;obtain ⟨A46, c46, h46, s46⟩ := hR.1;exact a8 rfl (aM ak.out (aw h46 aX)) (hsum A46 c46 _ (hT.hp hj.hp) s46) (fun _ _ hq => ⟨_, hq.1, hq.2, rfl⟩)
     refine aT ?_;intro f W hJ hV;have hb_9 := hJ.bl;obtain ⟨v47, v46, v45, v44, v43, v42, v41, v40, v39, v38, v37, v36, v35, v34, v33, v32, _⟩ := hV;obtain ⟨A44, c44, e44, f44⟩ : Rows _ _ _ (f 12) W := v44;obtain ⟨A46, c46, e46, f46⟩ : Rows _ _ _ (f 14) W := v46;replace hh := hJ.hp;refine a6 (bm (ae v47 (ae e46 (ae v45 (ae e44 (ae v43 (ae v42 (ae v41 (ae v40 (ae v39 (ae v38 (ae v37 (ae v36 (ae v35 (ae v34 (ae v33 (ae v32 a0))))))))))))))))) ?_;dsimp only [cg];clear e44 e46 hJ;exact Ni
    ·exact Nd
  ·obtain rfl : i = n := Tx;rw [show iE d 1 1 xs i 0 = kf d (eb d 1 1) xs by rw [hn, wV]] at hh;exact PS
def SF (w : World) (b i : Nat) : Int := match w.cell? ⟨b, 0, none⟩ with
 | some (.slice (some a) _ _) => match w.cell? (a.add (i * 1)) with
  | some (.int _ z) => z
  | _ => 0
 | _ => 0
structure RS (ns ts : List Nat) (xs : List Dyadic) (k n : Nat) (F FC : Option Addr) (c1 c2 i T : Nat) (cur : List Nat) (zs : List Dyadic) (A B : Option Addr) (ca cb : Nat) (R : List HE) (w : World) : Prop where
 Tc : S5 ns xs cur zs
 le : ∀ (j c t : Nat), cur[j]? = some c → ts[j]? = some t → c ≤ t
 eq : ∀ (j c t : Nat), j < i → cur[j]? = some c → ts[j]? = some t → c = t
 sz : ∀ x ∈ zs, Sz (k + T) x
 src : (A = F ∧ ca = c1 ∧ B = FC ∧ cb = c2 ∧ cur = ns ∧ zs = xs) ∨ R = [.row B (au cur) cb 65 3 (az NR.cells (zs.map nR)), .row A n ca 3 1 (bF (bH cur))]
 rd : ∀ (H : List HE) (w' : World), Hp w (H ++ R) w' → Sl w' A n 1 (bF (bH cur)) ∧ Sl w' B (au cur) 3 (az NR.cells (zs.map nR))
theorem FX.at_.ln {g : FX} {w : World} (h : g.at_ w) : g.ds.length = g.n ∧ g.cs.length = g.m := ⟨by have := h.dg.1; rw [bU] at this; omega, h.nm.bk NR.len Ty⟩
def Kept (fs : List FX) (R : List HE) (g : FX) : Prop := g ∈ fs ∨ (g.xG ∈ R ∧ g.vc ∈ R)
def QW (E : Int) (D : List Nat) : List Int := if E = 0 then bH D else []
def Ra (E : Int) (ys : List Dyadic) : List NR := if E = 0 then ys.map nR else []
structure Out (E : Int) (D : List Nat) (ys : List Dyadic) (g : FX) : Prop where
 ds : g.ds = QW E D
 cs : g.cs = Ra E ys
 n : g.n ≤ 100000
 m : g.m ≤ 1000000
def FX.nil : FX := ⟨none, 0, 0, none, 0, 0, [], []⟩
theorem Hp.Qz {w0 w : World} {H : List HE} (h : Hp w0 H w) : Hp w0 (FX.nil.xG :: FX.nil.vc :: H) w := (h.db 3 1).db 65 3
theorem Out.err {E : Int} {D : List Nat} {ys : List Dyadic} (h : E ≠ 0) : Out E D ys FX.nil := ⟨by unfold QW; rw [if_neg h]; rfl, by unfold Ra; rw [if_neg h]; rfl, Nat.zero_le _, Nat.zero_le _⟩
theorem zl (g h : FX) (w : World) (hg : g.at_ w) (hh : h.at_ w) (e : g.ds = h.ds ∧ g.cs = h.cs) (hn : g.n ≤ 100000) (hm : g.m ≤ 1000000) :
  Calls Tryz.prog 23 #[.agg #[.slice g.A g.n g.a, .slice g.B g.m g.b], .agg #[.slice h.A h.n h.a, .slice h.B h.m h.b]] w fun r w' => r = .returned (.bool true) ∧ Below w.heap.size w w' := by
 have l1 := hg.ln;have l2 := hh.ln;obtain ⟨hg1, hg2⟩ := hg;obtain ⟨hh1, hh2⟩ := hh;have e1 : h.n = g.n := by rw [← l1.1, ← l2.1, e.1]
 have e2 : h.m = g.m := by rw [← l1.2, ← l2.2, e.2]
 rw [← e.1, e1] at hh1;rw [← e.2, e2] at hh2;rw [e1, e2];exact xf g.A g.B g.n g.a g.m g.b h.A h.B h.a h.b g.ds g.cs w hg1 hg2 hh1 hh2 hn hm
def Sb (f : FX) (es : List Int) : Int := if f.e ≠ 0 then f.e else SV f.ds es
def FX.key (f : FX) : List Int × List NR × Nat := (f.ds, f.cs, f.n)
abbrev oG (D : Nat) : Deferred := { target := .collected D, args := #[] }
abbrev oN (M : List Nat) : List HE := M.map fun D => .ob D (.deferred (some []))
theorem G0 {N : Nat} {D : List Deferred} {a b : Act} {ρ : Rf} (h : eh N D a ρ) (k : eh N D b ρ) : a = b := by
 obtain ⟨t, d⟩ := a;obtain ⟨t', d'⟩ := b;obtain ⟨h1, h2, h3⟩ := h;obtain ⟨k1, k2, k3⟩ := k;obtain rfl : d = d' := h1.trans k1.symm;congr 1;refine Array.ext (h2.trans k2.symm) fun i hi hi' => ?_;have e1 := h3 i;have e2 := k3 i;rw [Array.getD_eq_getD_getElem?, Array.getElem?_eq_getElem hi] at e1;rw [Array.getD_eq_getD_getElem?, Array.getElem?_eq_getElem hi'] at e2;exact e1.trans e2.symm
abbrev Kd := Exit → List Nat → Rf → World → Prop
structure WD (P : Program) (N : Nat) (c : Code) (Q : Kd) (ρ : Rf) (w : World) : Prop where
 out : ∀ (M : List Nat) a, eh N (M.map oG) a ρ → ∀ n, c.wpIn Fence.wide n P (fun e a' w' => ∃ M' ρ', eh N ((M' ++ M).map oG) a' ρ' ∧ Q e M' ρ' w') a w
def xx (next : List Nat → Rf → World → Prop) (Q : Kd) : Kd
 | .normal, M, ρ, w => next M ρ w
 | e, M, ρ, w => Q e M ρ w
def uF (M : List Nat) (Q : Kd) : Kd := fun e M2 ρ w => Q e (M2 ++ M) ρ w
def IB (id : Nat) (Q : Kd) : Kd
 | .exit id', M, ρ, w => if id' = id then Q .normal M ρ w else Q (.exit id') M ρ w
 | e, M, ρ, w => Q e M ρ w
def Kj (Q : Kd) : Kq := fun e ρ w => Q e [] ρ w
section
variable {P : Program} {N : Nat} {Q : Kd} {ρ : Rf} {w : World}
theorem DR {c : Code} (h : ∀ D, WC ⟨none, D, true⟩ P N c (Kj Q) ρ w) : WD P N c Q ρ w :=
 ⟨fun M a hf n => wpIn_mono ((h (M.map oG)).jy a hf n) fun e a' w' ⟨ρ', hf', hq⟩ => ⟨[], ρ', hf', hq⟩⟩
theorem ye {x y : Code} (h : WD P N x (xx (fun M ρ w => WD P N y (uF M Q) ρ w) Q) ρ w) : WD P N (.seq x y) Q ρ w :=
 ⟨fun M a hf n => wpIn_seq (wpIn_mono (h.out M a hf n) fun e a' w' ⟨M', ρ', hf', hq⟩ => by
  cases e with
  | normal =>
   refine wpIn_mono ((hq : WD P N y (uF M' Q) ρ' w').out (M' ++ M) a' hf' n) fun e a2 w2 ⟨M2, ρ2, hf2, hq2⟩ => ?_;exact ⟨M2 ++ M', ρ2, by rw [List.append_assoc]; exact hf2, hq2⟩
  | _ => exact ⟨M', ρ', hf', hq⟩)⟩
theorem jq {x y : Code} (h : ∀ D, WC ⟨none, D, true⟩ P N x (cv (fun ρ w => WD P N y Q ρ w) (Kj Q)) ρ w) : WD P N (.seq x y) Q ρ w :=
 ye (DR fun D => (h D).mono fun e ρ w hq => by
  cases e with
  | normal =>
   show WD P N y (uF [] Q) ρ w;have e0 : uF [] Q = Q := by funext e M ρ w; unfold uF; rw [List.append_nil]
   rw [e0];exact hq
  | _ => exact hq)
theorem uS {id : Nat} {c : Code} (h : WD P N c (IB id Q) ρ w) : WD P N (.block id c) Q ρ w :=
 ⟨fun M a hf n => wpIn_block (wpIn_mono (h.out M a hf n) fun e a' w' ⟨M', ρ', hf', hq⟩ => by
  cases e with
  | exit id' =>
   by_cases hid : id' = id
   ·simp only [IB, hid, if_true] at hq;simp only [Exit.inBlock, hid, if_true];exact ⟨M', ρ', hf', hq⟩
   ·simp only [IB, hid, if_false] at hq;simp only [Exit.inBlock, hid, if_false];exact ⟨M', ρ', hf', hq⟩
  | _ => exact ⟨M', ρ', hf', hq⟩)⟩
theorem LZ {c : Code} (I : List Nat → Rf → World → Prop) (μ : Rf → World → Nat) (h0 : I [] ρ w)
  (round : ∀ M ρ w, I M ρ w → WD P N c (fun e M2 ρ' w' => xx (fun M2 ρ' w' => I M2 ρ' w' ∧ μ ρ' w' < μ ρ w) Q e (M2 ++ M) ρ' w') ρ w) : WD P N (.loop c) Q ρ w := by
 refine ⟨fun M0 a hf n => ?_⟩;refine wpIn_loop (fun a w => ∃ M ρ, eh N ((M ++ M0).map oG) a ρ ∧ I M ρ w) (fun a w => μ (fun i => a.tmps.getD i undef) w) ⟨[], ρ, hf, h0⟩ ?_;rintro a w ⟨M, ρ, hf, hi⟩;refine wpIn_mono ((round M ρ w hi).out (M ++ M0) a hf n) ?_;rintro e a' w' ⟨M', ρ', hf', hq⟩;rw [← List.append_assoc] at hf';have e1 : (fun i => a.tmps.getD i undef) = ρ := funext hf.at_;have e2 : (fun i => a'.tmps.getD i undef) = ρ' := funext hf'.at_
 cases e with
 | normal => exact ⟨⟨_, ρ', hf', hq.1⟩, by rw [e1, e2]; exact hq.2⟩
 | _ => exact ⟨_, ρ', hf', hq⟩
def MG {α : Type} (Kp : World → World → Prop) (I : List α → World → Prop) (pre : List α) (x : α) (W : World) : Kq
 | .normal, _, W' => KeepsOthers W W' ∧ Kp W W' ∧ I (pre ++ [x]) W'
 | _, _, _ => False
def pX : Kq := fun _ _ _ => False
theorem vT {ps : Tmp} {v : Value} {a : Array Value} : ((#[ps] : Array Tmp).zip #[v]).foldl (fun t (p, v) => t.setIfInBounds p v) a = a.setIfInBounds ps v := by simp
theorem H6 {α : Type} {g : Operand} {p : Tmp} {assign body : Code} {gf : Nat} {lb : Array Value} (hp : p < N) (hg : ev ρ g = .func (.func gf) #[] lb) (eg : ∀ args w, (callFunc gf args).run P w = .ok (.enter gf args) w)
  {enc : α → Value} {Kp : World → World → Prop} {S : List α → Prop} {Nn : Nat} (hseq : ∀ n, SeqStopsK Fence.wide n P gf lb (fun x => #[enc x]) Kp S (fun _ => True) Nn w)
  (hKt : ∀ {A B C : World}, Kp A B → Kp B C → Kp A C) (hKb : ∀ (W : World) (l : Nat) (o o' : Obj), w.heap.size ≤ l → W.heap[l]? = some o → o.isCells = false → o.isWalk = false → Kp W (W.putObj l o'))
  (I : List α → World → Prop) (hI : OwnFrom w.heap.size I) (h0 : I [] w) (ρ1 : α → Rf) (hρ : ∀ x i, N ≤ i → ρ1 x i = ρ i)
  (hassign : ∀ l x W, WC ⟨some l, [], true⟩ P N assign (cv (fun ρ' W' => ρ' = ρ1 x ∧ W' = W) pX) (cG ρ p (enc x)) W)
  (hbody : ∀ l pre x W, I pre W → pre.length < Nn → WC ⟨some l, [], true⟩ P N body (MG Kp I pre x W) (ρ1 x) W)
  (hdone : ∀ (D : Nat) (xs : List α) (W : World), w.heap.size ≤ D → S xs → I xs W → W.heap[D]? = some (.deferred (some [])) → Q .normal [D] ρ W) : WD P N (.rangeFunc g #[p] assign body) Q ρ w := by
 refine ⟨fun M a hf n => ?_⟩;have hfit : ∀ x, eh N [] { tmps := Array.ofFn fun i : Fin N => ρ1 x i, defers := [] } (ρ1 x) := fun x => by
  refine ⟨rfl, by simp, fun i => ?_⟩;rw [Array.getD_eq_getD_getElem?];by_cases hi : i < N
  ·rw [Array.getElem?_eq_getElem (by simpa using hi)];simp
  ·rw [Array.getElem?_eq_none (by simp; omega), hρ x i Tx, ← hf.at_ i, Array.getD_eq_getD_getElem?, Array.getElem?_eq_none (by rw [hf.sz]; omega)]
 have main : (Code.rangeFunc g #[p] assign body).wpIn Fence.wide (n + 1) P (fun e a' w' => ∃ M' ρ', eh N ((M' ++ M).map oG) a' ρ' ∧ Q e M' ρ' w') a w := by
  refine wpIn_rangeFunc_ownF (F := Fence.wide) (n := n + 1) rfl Tx (gf := gf) (lb := lb) (by rw [hf.eval]; exact hg) trivial eg (hseq _) hKt hKb (Below.refl _ _) (fun _ => rfl) I (fun _ _ _ => False) hI
   (fun _ _ _ _ _ hs _ _ => hs) h0 (fun x => { tmps := Array.ofFn fun i : Fin N => ρ1 x i, defers := [] }) (fun l x W K hK => ?_) (fun l pre x W hi hl => ?_) (fun D xs W hD hS hi hW => ?_) (fun _ _ _ _ _ _ h _ => h.elim)
  ·refine wpIn_mono ((hassign l x W).jy _ ⟨rfl, ?_, fun i => ?_⟩ _) fun e a' w' ⟨ρ', hf', hq⟩ => ?_
   ·rw [vT];simp [hf.sz]
   ·rw [vT, ← (hf.put hp (enc x)).at_ i]
    rfl
   ·cases e with
    | normal =>
     obtain ⟨rfl, rfl⟩ := hq;rw [G0 hf' (hfit x)];exact hK
    | _ => exact hq.elim
  ·refine wpIn_mono ((hbody l pre x W hi hl).jy _ (hfit x) _) fun e a' w' ⟨ρ', hf', hq⟩ => ?_
   cases e with
   | normal => exact hq
   | _ => exact hq.elim
  ·exact ⟨[D], ρ, ⟨by rw [hf.nd]; rfl, hf.sz, hf.at_⟩, hdone D xs W hD hS hi hW⟩
 intro b k cs hro hb _;exact main b k cs hro hb (room_wide _)
end
def Qu (P : Program) (fn : Func) (R : Ending → World → Prop) : Kd := fun e M ρ w =>
 (e = .normal ∨ e = .ret) ∧ ∀ tmps : Array Value, (∀ i, tmps.getD i undef = ρ i) → ∀ n, LeavesInM Fence.wide n P fn tmps R (M.map oG) .returning w
theorem FK {P : Program} {f : FuncId} {fn : Func} {c : Code} {N : Nat} {l : List Value} {w : World} {R : Ending → World → Prop}
  (hf : P.funcs[f]? = some fn) (hb : fn.body = some c) (hn : fn.ntmps = N) (ha : l.length ≤ N)
  (h : WD P N c (Qu P fn R) (D0 l) w) : Calls P f l.toArray w R := by
 refine (callsIn_wide (n := 0)).1 (callsIn_of_wp_marks hf hb trivial ?_ rfl);refine wpIn_mono (h.out [] _ ⟨rfl, by simp [hn]; omega, fun i => ?_⟩ 0) ?_
 ·exact PD
 ·rintro e a w' ⟨M, ρ', hf', he, hl⟩;rw [List.append_nil] at hf'
  rcases he with rfl | rfl
  ·show LeavesInM _ _ _ _ a.tmps _ a.defers _ _;rw [hf'.nd];exact hl _ hf'.at_ 0
  ·show LeavesInM _ _ _ _ a.tmps _ a.defers _ _;rw [hf'.nd];exact hl _ hf'.at_ 0
theorem CD {P : Program} {f : FuncId} {fn : Func} {c : Code} {N : Nat} {l : List Value} {w : World} {R : Ending → World → Prop}
  (hf : P.funcs[f]? = some fn) (hb : fn.body = some c) (hn : fn.ntmps = N) (ha : l.length ≤ N)
  (h : WC ⟨none, [], true⟩ P N c (mi P fn R) (D0 l) w) : Calls P f l.toArray w R := by
 refine (callsIn_wide (n := 0)).1 (callsIn_of_wp hf hb trivial ?_ rfl);refine wpIn_mono (h.jy _ ⟨rfl, by simp [hn]; omega, fun i => ?_⟩ 0) ?_
 ·exact PD
 ·rintro e a w' ⟨ρ', hf', he, v, hr, hR⟩
  rcases he with rfl | rfl
  ·exact ⟨hf'.nd, v, hr _ hf'.at_, hR⟩
  ·exact ⟨hf'.nd, v, hr _ hf'.at_, hR⟩
def HE.P3 : HE → Bool
 | .ob _ _ => false
 | _ => true
theorem sZ {base : Nat} {w : World} {x : HE} {b : Nat} (h : x.holds base w) (hc : x.P3 = true) (hid : x.id = some b) : ∃ o, w.heap[b]? = some o ∧ o.isCells = true := by
 cases x with
 | blk b' t cs fz =>
  obtain rfl : b' = b := Option.some.inj hid;exact ⟨_, h.2.1, rfl⟩
 | row A n c t sz xs =>
  rcases h.2 with ⟨h1, _⟩ | ⟨g, cap, cur, h1, _, h3, _⟩
  ·injection h1 with e1
   subst e1
   cases hid
  ·injection h1 with e1
   subst e1;obtain rfl : g = b := Option.some.inj hid;exact ⟨_, h3, rfl⟩
 | ob _ _ => cases hc
theorem Hp.PR {w0 w w' : World} {H : List HE} (h : Hp w0 H w) (hc : ∀ x ∈ H, x.P3 = true) {row : Option Nat} (hg : w.grownBy w' row) (hr : ∀ r, row = some r → w0.heap.size ≤ r ∧ ∃ o : Obj, w.heap[r]? = some o ∧ o.isCells = false) : Hp w0 H w' := by
 refine ⟨⟨hg.os.trans h.below.os, hg.tape.trans h.below.tape, hg.output.trans h.below.output, Nat.le_trans h.size hg.size, fun k hk => ?_⟩, fun x hx => ?_, h.nd⟩
 ·refine (hg.block k (Nat.lt_of_lt_of_le hk h.size) fun e => ?_).trans (h.below.block k hk);have := (hr k e.symm).1;omega
 ·refine oF (h.own x hx) fun b hid => hg.block b (dJ (h.own x hx) hid).2 fun e => ?_;obtain ⟨o, h1, h2⟩ := sZ (h.own x hx) (hc x hx) hid;obtain ⟨_, o', h3, h4⟩ := hr b e.symm;rw [h1] at h3
  cases h3
  rw [h2] at h4
  cases h4
def Mc (base : Nat) (ids : List Nat) (w : World) (k : Nat) : Option HE := if base ≤ k ∧ ids.contains k = false then (w.heap[k]?).map fun o => .ob k o else none
def Ca (base : Nat) (ids : List Nat) (w : World) : List HE := (List.range w.heap.size).filterMap (Mc base ids w)
theorem sG {base : Nat} {ids : List Nat} {w : World} {k : Nat} {x : HE} (h : Mc base ids w k = some x) : ∃ o, x = .ob k o ∧ base ≤ k ∧ k ∉ ids ∧ w.heap[k]? = some o := by
 unfold Mc at h;split at h
 ·rename_i h1;obtain ⟨o, h2, h3⟩ := Option.map_eq_some_iff.1 h;exact ⟨o, h3.symm, h1.1, by simpa using h1.2, h2⟩
 ·cases h
theorem Hp.KY {w0 w : World} {H : List HE} (h : Hp w0 H w) : Hp w0 (H ++ Ca w0.heap.size (H.filterMap HE.id) w) w := by
 refine ⟨h.below, fun x hx => ?_, ?_⟩
 ·rcases List.mem_append.1 hx with hx | hx
  ·exact h.own x hx
  ·obtain ⟨k, _, hk⟩ := List.mem_filterMap.1 hx;obtain ⟨o, rfl, h1, _, h3⟩ := sG hk;exact ⟨h1, h3⟩
 ·rw [List.filterMap_append];refine List.nodup_append.2 ⟨h.nd, ?_, fun a ha b hb e => ?_⟩
  ·unfold Ca;rw [List.filterMap_filterMap];refine List.Pairwise.filterMap _ (fun a a' hne b hb b' hb' e => ?_) List.nodup_range;obtain ⟨x, hx, hx2⟩ := Option.bind_eq_some_iff.1 hb;obtain ⟨y, hy, hy2⟩ := Option.bind_eq_some_iff.1 hb';obtain ⟨o, rfl, _⟩ := sG hx;obtain ⟨o', rfl, _⟩ := sG hy;obtain rfl : a = b := Option.some.inj hx2;obtain rfl : a' = b' := Option.some.inj hy2;exact hne e
  ·obtain ⟨x, hx, hx2⟩ := List.mem_filterMap.1 hb;obtain ⟨k, _, hk⟩ := List.mem_filterMap.1 hx;obtain ⟨o, rfl, _, h2, _⟩ := sG hk;obtain rfl : k = b := Option.some.inj hx2;exact h2 (e ▸ ha)
theorem pG {P : Program} {fn : Func} {tmps : Array Value} {R : Ending → World → Prop} {n : Nat} {w0 : World} {H : List HE} : ∀ (M : List Nat) (w : World), Hp w0 (oN M ++ H) w → (∀ w2, Hp w0 H w2 → ∃ v, (results fn tmps).run P w2 = .ok v w2 ∧ R (.returned v) w2) →
  LeavesInM Fence.wide n P fn tmps R (M.map oG) .returning w
 | [], w, hh, h => h w hh
 | D :: M, w, hh, h => by
  have hD : w.heap[D]? = some (.deferred (some [])) := (hh.own _ List.mem_cons_self).2;refine ⟨by simp, .inl ⟨D, w.putObj D (.deferred none), rfl, run_takeDeferred hD, pG M _ ?_ h⟩⟩;have hb := (hh.own _ List.mem_cons_self).1;have h2 := hh.KZ (i := 0) (x := .ob D (.deferred (some []))) (y := .ob D (.deferred none)) (w' := w.putObj D (.deferred none)) rfl (fun b e => .inl e) ?_ (fun b hlt hne => World.putObj_heap_other (fun e => hne (by rw [e]; rfl))) ⟨hb, ?_⟩
  ·exact h2.sub (List.sublist_cons_self _ _)
  ·have hg := grownBy_putObj' w D (.deferred none);refine ⟨hg.os.trans hh.below.os, hg.tape.trans hh.below.tape, hg.output.trans hh.below.output, Nat.le_trans hh.size hg.size, fun k hk => (hg.block k (Nat.lt_of_lt_of_le hk hh.size) fun e => ?_).trans (hh.below.block k hk)⟩
   cases e
   omega
  ·exact World.putObj_heap_same (Array.getElem?_eq_some_iff.1 hD).1
theorem qk {P : Program} {fn : Func} {R : Ending → World → Prop} {ρ : Rf} {w w0 : World} {e : Exit} {M : List Nat} {H : List HE} {rs : List ResultVar} {vs : List Value} (hh : Hp w0 (oN M ++ H) w) (he : e = .normal ∨ e = .ret) (hr : fn.results = rs.toArray)
  (h : ∀ w2, Hp w0 H w2 → gK P ρ w2 rs vs ∧ R (.returned (wG vs)) w2) : Qu P fn R e M ρ w := by
 refine ⟨he, fun tmps ht n => pG M w hh fun w2 hh2 => ?_⟩;obtain ⟨h1, h2⟩ := h w2 hh2;obtain ⟨_, v, h3, h4⟩ := j3 (e := e) he hr h1 h2;exact ⟨v, h3 tmps ht, h4⟩
theorem Li {P : Program} {w : World} {ρ : Rf} {d : Option Nat} {ty : TypeId} {pos : String} {af : Array Edge} {g : Option (Nat × Bool)} {x : Operand} {args : Array Operand} {ts : Array TypeId} {vs : List Value} {l : Nat} {fn : FuncId} {tmps : Array Value} {assign body : Code}
  (hx : ev ρ x = .func (.yield l) #[] #[]) (ha : wN ρ args.toList = vs) (hy : (Instr.yield l vs.toArray).run P w = .ok (.round l fn tmps assign body) w) : (execOp (ev ρ) ⟨d, .call ⟨.value x, args, ts⟩, ty, pos, af, g⟩).run P w = .ok (.round l fn tmps assign body) w := by
 have h2 : args.map (ev ρ) = vs.toArray := mZ args ha;simp [execOp, resolve, Deferred.ofValue, hx, h2, invoke, callFunc, program, Sem.run, hy]
theorem Jm {P : Program} {N : Nat} {ops : Array Oper} {Q : Kq} {ρ : Rf} {w : World} {rest : List Oper} {d : Nat} {ty : TypeId} {pos : String} {af : Array Edge} {x : Operand} {args : Array Operand} {ts : Array TypeId} {vs : List Value} {l m : Nat} {R : Ending → World → Prop}
  (hx : ev ρ x = .func (.yield l) #[] #[]) (ha : wN ρ args.toList = vs) (hy : YieldAt Fence.wide m P l vs.toArray w R) (hN : d < N) (kk : ∀ e w', R e w' → ∃ v, e = .returned v ∧ WL ⟨none, [], true⟩ P N ops Q rest (cG ρ d v) w') :
  WL ⟨none, [], true⟩ P N ops Q (⟨some d, .call ⟨.value x, args, ts⟩, ty, pos, af, none⟩ :: rest) ρ w := by
 obtain ⟨fn, tmps, as_, bd, h1, h2⟩ := hy;refine ⟨fun h => (by cases h), fun a hf n => wpListIn_plain rfl fun K hK => ⟨fun _ _ => trivial, ?_⟩⟩;rw [hf.eval, k7 _ (Li hx ha h1) (fun _ h => by cases h)];refine ⟨fun h => (by cases h), ?_⟩;refine ⟨trivial, fun c cs _ => ?_⟩;obtain ⟨e, w', hR, hs⟩ := h2.2 c cs (room_wide _);refine ⟨e, w', ?_, hs⟩;obtain ⟨v, rfl, hk⟩ := kk e w' hR;exact hK _ _ (hk.jy _ (hf.put hN v) n)
theorem Oh {P : Program} {ρ : Rf} {w : World} {d : Option Nat} {ty : TypeId} {pos : String} {af : Array Edge} {g : Option (Nat × Bool)} {t e : TypeId} {x lo hi mx : Operand} {ad : Addr} {n c l h q sz : Nat} {k1 k2 k3 : IntKind} {m1 m2 m3 : Int}
  (ht : P.underlying t = some (.slice e)) (hsz : (P.info? e).map (·.size) = some sz) (hx : ev ρ x = .slice (some ad) n c) (hlo : ev ρ lo = .int k1 m1) (hhi : ev ρ hi = .int k2 m2) (hmx : ev ρ mx = .int k3 m3) (e1 : m1 = (l : Int)) (e2 : m2 = (h : Int)) (e3 : m3 = (q : Int))
  (h1 : l ≤ h) (h2 : h ≤ q) (h3 : q ≤ c) (h4 : l < q) : (execOp (ev ρ) ⟨d, .slice t x (some lo) (some hi) (some mx), ty, pos, af, g⟩).run P w = .ok (.value (.slice (some (ad.add (l * sz))) (h - l) (q - l))) w := by
 obtain ⟨i, hi1, hi2⟩ := Option.map_eq_some_iff.1 hsz;subst e1 e2 e3 hi2;have a1 : (l : Int) ≤ h := Tx;have a2 : (h : Int) ≤ q := Tx;have a3 : (q : Int) ≤ c := Tx;have a4 : ¬ q = l := Tx;have a5 : ¬ q - l = 0 := Tx;simp [execOp, hx, Instr.sliceAt, Instr.slice, run_underlying ht, Instr.sliceBounds, Instr.sliceBound, asIntOf, hlo, hhi, hmx, h1, h2, h3, a4, a5, sizeOf, typeInfo, hi1]
theorem yU (A : Option Addr) (n c K : Nat) (w : World) (hK : 1 ≤ K) :
  Calls Tryz.prog 126 #[.slice A n c, .int .i64 K] w fun r w' => ∃ b2 b3, r = .returned (.func (.func 192) #[] #[.pointer (some ⟨b2, 0, none⟩), .pointer (some ⟨b3, 0, none⟩)]) ∧ Hp w [.blk b3 3 [.int .i64 K] (0, 0), .blk b2 37 [.slice A n c] (0, 0)] w' := by
 have hh := Hp.start w;refine aj (N := 9) (l := [.slice A n c, .int .i64 K]) Tryz.func126 rfl rfl (by simp) ?_;refine sr ?_;refine cx hh [_] ?_;intro b2 w2 hh;refine cx hh [_] ?_;intro b3 w3 hh;refine j1 (by first | exact sj rfl | exact su rfl) Ty ?_;refine aa (ah (sr ?_));refine bB hh 0 ?_;refine bf (aa (cF (ar (ai (sr ?_)))));exact Rp
def zR (b2 b3 : Nat) (W W' : World) : Prop := W'.cell? ⟨b2, 0, none⟩ = W.cell? ⟨b2, 0, none⟩ ∧ W'.cell? ⟨b3, 0, none⟩ = W.cell? ⟨b3, 0, none⟩
theorem ur {W W' : World} (h : Below W.heap.size W W') : W.grownBy W' none := ⟨h.os, h.tape, h.output, h.size, fun k hk _ => h.block k hk⟩
theorem Ms {b2 b3 : Nat} {A B C : World} (h : zR b2 b3 A B) (k : zR b2 b3 B C) : zR b2 b3 A C := ⟨k.1.trans h.1, k.2.trans h.2⟩
theorem Mj {b2 b3 : Nat} {w : World} (h2 : b2 < w.heap.size) (h3 : b3 < w.heap.size) (W : World) (l : Nat) (o o' : Obj) (hl : w.heap.size ≤ l) : zR b2 b3 W (W.putObj l o') :=
 ⟨World.cell?_of_block (World.putObj_heap_other (fun e => by simp at e; omega)), World.cell?_of_block (World.putObj_heap_other (fun e => by simp at e; omega))⟩
theorem Gp (b2 b3 : Nat) (ad : Addr) (n c K m : Nat) (w : World) (h2 : w.cell? ⟨b2, 0, none⟩ = some (.slice (some ad) n c)) (h3 : w.cell? ⟨b3, 0, none⟩ = some (.int .i64 K)) (hn : n = m * K) (hK : 0 < K) (hc : n ≤ c) (hb : n ≤ 1000000) (hKb : K ≤ 1000000) :
  ∀ N1, SeqStopsK Fence.wide N1 Tryz.prog 192 #[.pointer (some ⟨b2, 0, none⟩), .pointer (some ⟨b3, 0, none⟩)] (fun j : Fin m => #[.slice (some (ad.add (j.val * K * 3))) K K]) (zR b2 b3) (fun xs => xs = List.finRange m) (fun _ => True) m w := by
 intro N1 l J Jx W hW hAb hAbx hY h0;refine callsIn_wide.2 ?_;show Calls _ _ #[.func (.yield l) #[] #[], .pointer (some ⟨b2, 0, none⟩), .pointer (some ⟨b3, 0, none⟩)] W _;have hAbd : ∀ xs W1 W2, J xs W1 → Below W1.heap.size W1 W2 → J xs W2 := fun xs W1 W2 h hb => hAb xs W1 W2 none h (ur hb) (fun r e => nomatch e);have c2 := cE hW h2;have c3 := cE hW h3;refine CD (N := 31) (l := [.func (.yield l) #[] #[], .pointer (some ⟨b2, 0, none⟩), .pointer (some ⟨b3, 0, none⟩)]) Tryz.func192 rfl rfl (by simp) ?_;refine sr (aI (aa (aq ?_)));refine aP [4, 5, 6, 7, 8, 9, 10, 11, 12, 13, 14, 15, 16, 17, 18, 19, 20, 21, 22, 23, 24, 25, 26, 27, 28, 29, 30] 4
  (fun v w' => ∃ j : Nat, j ≤ m ∧ v = .int .i64 ((j * K : Nat) : Int) ∧ J ((List.finRange m).take j) w' ∧ w'.cell? ⟨b2, 0, none⟩ = some (.slice (some ad) n c) ∧ w'.cell? ⟨b3, 0, none⟩ = some (.int .i64 K))
  (fun v _ => n + 1 - (intOf v).toNat) ?_ ?_
 ·exact ⟨0, Nat.zero_le _, by rw [Nat.zero_mul]; rfl, h0, c2, c3⟩
 ·clear c2 c3 h0;rintro ρ' v w' ⟨j, hj, rfl, hJj, c2, c3⟩;have hh := Hp.start w';by_cases hlt : j < m
  ·have h5 : (j + 1) * K ≤ m * K := Nat.mul_le_mul_right _ hlt;have h6 : (j + 1) * K = j * K + K := Nat.succ_mul j K;refine ah (sr (mI ?_));refine bT aN.out rfl (c2) Ty ?_;refine aJ ?_;refine uW ?_;refine PI ?_;refine aY 5 [[(2, none)], [(1, none)], [(4, none)], [(14, some 1), (15, some 2)], [(16, some 3)]] [(4, 17), (3, 16), (2, 15), (1, 14), (0, 13)] hh mixed Tz ?_;refine rX (fun _ hj => cE hj.bl c3) ?_;refine rX (fun _ hj => cE hj.bl c2) ?_;refine dE ?_;refine bp (i := 3) (fun ρ1 w1 hj hR => jh (l := (j * K)) bg.out aN.size (show ρ1 14 = Value.slice _ _ _ from hR.1) (show ρ1 15 = Value.int _ _ from hR.2.1) Tx Tx Tx) ?_;refine CP ?_;refine aT ?_;intro f W hJ hV;have hb_3 := hJ.bl;obtain ⟨v17, v16, v15, v14, v13, _⟩ := hV;replace hh := hJ.hp;refine a6 (bm (ae v17 (ae v16 (ae v15 (ae v14 (ae v13 a0)))))) ?_;dsimp only [cg];clear hJ;have hmin : (if ((n - j * K : Nat) : Int) < (K : Int) then ((n - j * K : Nat) : Int) else (K : Int)) = (K : Int) := if_neg Tx;refine xc rfl rfl Ty ?_;rw [hmin];have c2' := cE hh.below c2;have c3' := cE hh.below c3;have hJ2 := hAbd _ _ _ hJj hh.below
   have hfr : (List.finRange m)[j]? = some ⟨j, hlt⟩ := by rw [List.getElem?_eq_getElem (by rw [List.length_finRange]; exact hlt), List.getElem_finRange]; rfl
   have hy := hY ((List.finRange m).take j) ⟨j, hlt⟩ _ hJ2 (by rw [List.length_take, List.length_finRange]; omega);refine aI (aa (sr ?_));refine iI ?_;refine bT aN.out rfl (c2') Ty ?_;refine mI (mI (mI ?_));refine bh (mI (mI ?_));refine bh ?_;refine aQ rfl rfl Ty (Oh bg.out aN.size (DD rfl) rfl rfl rfl (l := j * K) (h := j * K + K) (q := j * K + K) rfl Tx Tx Tx Tx Tx Tx) ?_;have e28 : j * K + K - j * K = K := Tx;rw [e28];refine Jm rfl (aw (DD rfl) aX) hy Ty ?_;rintro e_ w29 (⟨rfl, hJ3, hk⟩ | ⟨rfl, hJx⟩)
   ·refine ⟨_, rfl, ?_⟩;have c2'' := hk.1.trans c2';have c3'' := hk.2.trans c3';refine gC ?_;refine oS ?_;refine bT aN.out rfl (c3'') Ty ?_;refine bh (aI (aA (ai ?_)));refine ⟨⟨j + 1, hlt, ?_, by rw [ay hfr]; exact hJ3, c2'', c3''⟩, ?_, ?_⟩
    ·show Value.int _ (((j * K : Nat) : Int) + (K : Int)) = _;rw [h6]
     rfl
    ·show n + 1 - (((j * K : Nat) : Int) + (K : Int)).toNat < n + 1 - ((j * K : Nat) : Int).toNat;omega
    ·exact dL
   ·refine ⟨_, rfl, ?_⟩;refine gC ?_;refine aa (cT (av (bY (aG (aG (bY ?_))))));refine PF (by first | exact .inr rfl | exact .inl rfl) rfl ?_;exact ⟨⟨_, rfl⟩, .inr ⟨_, trivial, hJx⟩⟩
  ·obtain rfl : j = m := Tx;refine ah (sr (mI ?_));refine bT aN.out rfl (c2) Ty ?_;refine aJ ?_;refine bf (aa (cF (aZ (aD (aD (bq ?_))))));refine PF (by first | exact .inr rfl | exact .inl rfl) rfl ?_;rw [List.take_of_length_le (by rw [List.length_finRange]; omega)] at hJj;exact ⟨⟨_, rfl⟩, .inl ⟨_, rfl, hJj⟩⟩
def Sy (base : Nat) (E : Int) (D : List Nat) (ys : List Dyadic) : VP := fun v W => ∃ (g : FX) (w1 : World), v = .agg #[.slice g.A g.n g.a, .slice g.B g.m g.b] ∧ Out E D ys g ∧ base ≤ w1.heap.size ∧ Hp w1 [g.xG, g.vc] W
def Th (base : Nat) (E : Int) (D : List Nat) (ys : List Dyadic) : VP := fun v W => ∃ (g : FX) (w1 : World), v = .tuple #[.agg #[.slice g.A g.n g.a, .slice g.B g.m g.b], .int .i64 E] ∧ Out E D ys g ∧ base ≤ w1.heap.size ∧ Hp w1 [g.xG, g.vc] W
instance : aN Tryz.prog 122 1 false 8 [.nilFunc] := {}
theorem FD {m : Nat} {bs : List (Fin m)} {q : Fin m} (h : bs ++ [q] = (List.finRange m).take (bs ++ [q]).length) (hb : bs.length < m) : bs = (List.finRange m).take bs.length ∧ q.val = bs.length := by
 have hl : (bs ++ [q]).length = bs.length + 1 := by simp
 rw [hl] at h;have h1 := congrArg (List.take bs.length) h;rw [List.take_left' rfl, List.take_take, Nat.min_eq_left Tx] at h1;have h2 : (bs ++ [q])[bs.length]? = ((List.finRange m).take (bs.length + 1))[bs.length]? := by rw [← h]
 rw [List.getElem?_append_right (Nat.le_refl _), Nat.sub_self, List.getElem?_take, if_pos Tx, show (List.finRange m)[bs.length]? = some ⟨bs.length, hb⟩ by rw [List.getElem?_eq_getElem (by rw [List.length_finRange]; exact hb), List.getElem_finRange]; rfl] at h2;exact ⟨h1, congrArg Fin.val (Option.some.inj h2)⟩
theorem GH {P : Program} {N : Nat} {Q : Kd} {ρ : Rf} {w : World} {α : Type} {g : Operand} {p : Tmp} {assign body : Code} {gf : Nat} {lb : Array Value} (q : Nat) (hq : q < N) (hp : p < N) (hg : ev ρ g = .func (.func gf) #[] lb) (eg : ∀ args w, (callFunc gf args).run P w = .ok (.enter gf args) w)
  {enc : α → Value} {Kp : World → World → Prop} {S : List α → Prop} {Nn : Nat} (hseq : ∀ n, SeqStopsK Fence.wide n P gf lb (fun x => #[enc x]) Kp S (fun _ => True) Nn w)
  (hKt : ∀ {A B C : World}, Kp A B → Kp B C → Kp A C) (hKb : ∀ (W : World) (l : Nat) (o o' : Obj), w.heap.size ≤ l → W.heap[l]? = some o → o.isCells = false → o.isWalk = false → Kp W (W.putObj l o'))
  (I : List α → World → Prop) (hI : OwnFrom w.heap.size I) (h0 : I [] w)
  (hassign : ∀ l x W, WC ⟨some l, [], true⟩ P N assign (cv (fun ρ' W' => ρ' = cG (cG ρ p (enc x)) q (enc x) ∧ W' = W) pX) (cG ρ p (enc x)) W)
  (hbody : ∀ l pre x W, I pre W → pre.length < Nn → WC ⟨some l, [], true⟩ P N body (MG Kp I pre x W) (cG (cG ρ p (enc x)) q (enc x)) W)
  (hdone : ∀ (D : Nat) (xs : List α) (W : World), w.heap.size ≤ D → S xs → I xs W → W.heap[D]? = some (.deferred (some [])) → Q .normal [D] ρ W) : WD P N (.rangeFunc g #[p] assign body) Q ρ w :=
 H6 hp hg eg hseq hKt hKb I hI h0 (fun x => cG (cG ρ p (enc x)) q (enc x)) (fun x i hi => by rw [bj _ (fun h => absurd hq (by rw [← h]; exact Nat.not_lt.2 hi)), bj _ (fun h => absurd hp (by rw [← h]; exact Nat.not_lt.2 hi))]) hassign hbody hdone
def SD (n m : Nat) (ds : List Int) (cs : List NR) : VP := fun v W => ∃ A a B b, v = .agg #[.slice A n a, .slice B m b] ∧ n ≤ a ∧ Sl W A n 1 (bF ds) ∧ Sl W B m 3 (az NR.cells cs)
theorem JJ.Ma {w0 w W : World} {H : List HE} {t1 t2 : TypeId} {xs1 xs2 : List Value} {n1 c1 s1 n2 c2 s2 : Nat} {A1 A2 : Option Addr} (hJ : JJ w0 H w W) (hs : Hp w0 H w)
  (o1 : W.ownsRow w.heap.size t1 s1 (.slice A1 n1 c1) n1 xs1) (o2 : W.ownsRow w.heap.size t2 s2 (.slice A2 n2 c2) n2 xs2) (h12 : t1 ≠ t2) : Hp w0 (.row A1 n1 c1 t1 s1 xs1 :: .row A2 n2 c2 t2 s2 xs2 :: H) W := by
 have hL : Hp w [.row A1 n1 c1 t1 s1 xs1, .row A2 n2 c2 t2 s2 xs2] W := by
  refine ⟨hJ.bl, fun x hx => ?_, ?_⟩
  ·rcases List.mem_cons.1 hx with rfl | hx
   ·exact o1
   ·obtain rfl := List.mem_singleton.1 hx;exact o2
  ·rw [List.filterMap_cons];split
   ·exact MB
   ·rename_i b1 hb1;refine List.nodup_cons.2 ⟨fun hm => ?_, ?_⟩
    ·obtain ⟨y, hy, hyb⟩ := List.mem_filterMap.1 hm;obtain rfl := List.mem_singleton.1 hy;exact Ml o1 o2 h12 b1 hb1 hyb
    ·exact MB
 exact hs.join hL
instance : aN Tryz.prog 122 1 false 8 [.nilFunc] := {}
def Se (up : Bool) (s : Dyadic) (ns : List Nat) (a : Nat) (xs : List Dyadic) : List Dyadic := gM ns.reverse (ns.length - 1 - a) (if up then R9 (ns.getD a 0) s else R4 (ns.getD a 0) s) xs
def mM (fx : FX) (ax : Int) : Int := if fx.e ≠ 0 then fx.e else if ax < 0 ∨ (fx.n : Int) ≤ ax then 1 else 0
def Ta (e : Int) : Ending := .returned (.tuple #[.agg #[.slice none 0 0, .slice none 0 0], .agg #[.slice none 0 0, .slice none 0 0], .int .i64 e])
def R6 (n : Nat) (h : Int) : Bool := decide (h < 0 ∨ (n : Int) ≤ h.tdiv 2)
def P8 (ns : List Nat) (xs : List Dyadic) (h : Int) : List Dyadic := Se (decide (h % 2 = 1)) (pU (-1)) ns (h / 2).toNat xs
def SJ (ns : List Nat) (xs : List Dyadic) (hs : List Int) : List Dyadic := hs.foldl (P8 ns) xs
def Ss (fx : FX) (hs : List Int) : Int := if fx.e ≠ 0 then fx.e else if hs.any (R6 fx.n) = true then 1 else 0
section
variable {P : Program} {N : Nat} {ops : Array Oper} {Q : Kq} {ρ : Rf} {w : World} {rest : List Oper} {d ty : Nat} {pos : String} {af : Array Edge}
theorem Sd (a : Int) : IntKind.i64.wrap (BitVec.ofInt IntKind.i64.bits a &&& BitVec.ofInt IntKind.i64.bits 1).toNat = a % 2 := by
 have h1 : (BitVec.ofInt IntKind.i64.bits a &&& BitVec.ofInt IntKind.i64.bits 1).toNat = (a % 2).toNat := by
  show (BitVec.ofInt 64 a &&& BitVec.ofInt 64 1).toNat = _;rw [BitVec.toNat_and, show (BitVec.ofInt 64 1).toNat = 2 ^ 1 - 1 by decide, Nat.and_two_pow_sub_one_eq_mod, BitVec.toNat_ofInt];omega
 rw [h1, jM Tx Tx];omega
theorem He {t u : Nat} {x y : Operand} {a : Int} (hx : ev ρ x = .int .i64 a) (hy : ev ρ y = .int .i64 1) (hN : d < N) (kk : WL .plain P N ops Q rest (cG ρ d (.int .i64 (a % 2))) w) : WL .plain P N ops Q (⟨some d, .binOp .and t x y u, ty, pos, af, none⟩ :: rest) ρ w :=
 aQ rfl rfl hN (by rw [N9 hx hy, Sd]) kk
end
def SQ (R : List HE) (g : FX) : Prop := R = [g.xG, g.vc] ∨ g.m = 0 ∧ R = [g.vc]
theorem FU {fx : FX} {ax : Int} (h : mM fx ax = 0) : fx.e = 0 ∧ 0 ≤ ax ∧ ax < fx.n := by
 unfold mM at h;split at h
 ·rename_i h1; exact absurd h h1
 ·rename_i h1;split at h
  ·cases h
  ·omega
theorem Ct (fx : FX) (ax : Int) (k : Nat) (w : World) (hT : ee w) (hf : fx.at_ w) (hl : fx.kO k) :
  Calls Tryz.prog 144 #[.agg #[.slice fx.A fx.n fx.a, .slice fx.B fx.m fx.b], .int .i64 ax] w fun r w' => r = .returned (.int .i64 (mM fx ax)) ∧ Below w.heap.size w w' := by
 have hh := Hp.start w;have hck := fun w1 hT1 hb => xA fx k w1 hT1 (hf.ext hb) hl;by_cases h0 : fx.e = 0
 ·by_cases h1 : ax < 0
  ·rw [show mM fx ax = 1 by unfold mM; rw [if_neg Tx, if_pos (.inl h1)]];refine EI ?_;refine sr ?_;refine cx hh [_,_] ?_;intro b2 w2 hh;refine aI (aa (ah (sr ?_)));refine cD hh 0 [_,_] ?_;refine fG ?_;intro w7 hh;refine aI (aa (sr (mI ?_)));refine cK (aa (cF (ar (ai (ah (sr (mI ?_)))))));refine bf (mB ?_);refine gS (gS (gS (gS (gS ?_))));refine fu ?_;exact Jr
  ·by_cases h2 : (fx.n : Int) ≤ ax
   ·rw [show mM fx ax = 1 by unfold mM; rw [if_neg Tx, if_pos (.inr h2)]];refine EI ?_;refine sr ?_;refine cx hh [_,_] ?_;intro b2 w2 hh;refine aI (aa (ah (sr ?_)));refine cD hh 0 [_,_] ?_;refine fG ?_;intro w7 hh;refine aI (aa (sr (mI ?_)));refine cK (aa (cF (ar (ai (ah (sr (mI ?_)))))));refine bf (mB (gT (mI (gT (bD (gT ?_))))));refine bB hh 0 ?_;refine gT (aJ (gT ?_));refine dR ?_;refine dK ?_;exact Jr
   ·rw [show mM fx ax = 0 by unfold mM; rw [if_neg Tx, if_neg Tx]];refine EI ?_;refine sr ?_;refine cx hh [_,_] ?_;intro b2 w2 hh;refine aI (aa (ah (sr ?_)));refine cD hh 0 [_,_] ?_;refine fG ?_;intro w7 hh;refine aI (aa (sr (mI ?_)));refine cK (aa (cF (ar (ai (ah (sr (mI ?_)))))));refine bf (mB (gT (mI (gT (bD (gT ?_))))));refine bB hh 0 ?_;refine gT (aJ (gT ?_));refine dR ?_;refine dK ?_;refine Ex ?_;refine cX ?_;exact ⟨rfl, hh.below⟩
 ·rw [show mM fx ax = fx.e by unfold mM; rw [if_pos h0]];refine EI ?_;refine sr ?_;refine cx hh [_,_] ?_;intro b2 w2 hh;refine aI (aa (ah (sr ?_)));refine cD hh 0 [_,_] ?_;refine fG ?_;intro w7 hh;exact OL
theorem lW (A : Option Addr) (n c a d : Nat) (ns : List Nat) (w : World) (hS : Sl w A n 1 (bF (bH ns))) (hcap : n ≤ c) (hn : n ≤ 1000) (hd : ns[a]? = some d) (hlow : ∀ x ∈ ns, x ≤ 127) (hmax : au ns ≤ 4096) :
  Calls Tryz.prog 92 #[.slice A n c, .int .i64 a] w fun r w' => r = .returned (.agg #[.int .i64 ((d : Int) + 1), .int .i64 (au (ns.drop (a + 1)) : Nat)]) ∧ Below w.heap.size w w' := by
 have hh := Hp.start w;have hln : ns.length = n := by have := hS.1; simpa [bF, bH] using this
 have ha := (List.getElem?_eq_some_iff.1 hd).1;have hd127 := hlow d (List.mem_of_getElem? hd);have hgd := cj (iX hd);have hbk := hS.back (l := a + 1) (c := c) Tx hcap;have hds : (bF (bH ns)).drop ((a + 1) * 1) = bF (bH (ns.drop (a + 1))) := by
  rw [Nat.mul_one];unfold bF bH;rw [← List.map_drop, ← List.map_drop]
 rw [hds] at hbk;have hcd : ij 1 (bH (ns.drop (a + 1))) = (au (ns.drop (a + 1)) : Nat) := by
  have h1 := j2 (ns.drop (a + 1)) 1 Ty Ty (fun x hx => hlow x (List.mem_of_mem_drop hx));have h2 : au (ns.drop (a + 1)) ≤ au ns := by
   have h3 : au ns = au (ns.take (a + 1)) * au (ns.drop (a + 1)) := by rw [← dQ, List.take_append_drop]
   rw [h3];exact Nat.le_mul_of_pos_left _ (cL _)
  rw [Nat.one_mul, if_pos Tx] at h1;exact h1
 have hcnt := fun w1 hS1 => ej (if c = a + 1 then A else A.map (·.add ((a + 1) * 1))) (n - (a + 1)) (c - (a + 1)) (bH (ns.drop (a + 1))) w1 hS1 Tx;rw [hcd] at hcnt;obtain ⟨ad, rfl, srd⟩ := hS.at_ Tx;refine aj (N := 16) (l := [.slice (some ad) n c, .int .i64 a]) Tryz.func92 rfl rfl (by simp) ?_;refine sr ?_;refine bR hh ?_;intro b4 w4 hh;refine aa (ah ?_);refine aY 10 [[(0, none)], [(1, none)], [(5, some 0), (6, some 1)], [(7, some 2)], [(8, some 3)], [(0, none)], [(1, none)], [(11, some 6)], [(10, some 5), (12, some 7)], [(13, some 8)]] [(9, 14), (8, 13), (7, 12), (6, 11), (5, 10), (4, 9), (3, 8), (2, 7), (1, 6), (0, 5)] hh mixed Tz ?_;refine gk ?_;refine dE ?_;refine nT (a) ?_;refine rX (fun _ hj => (srd.ext hj.hp.below).xo hgd) ?_;refine rP ?_;refine gk ?_;refine dE ?_;refine rP ?_;refine bp (i := 8) (fun ρ1 w1 hj hR => jh (l := (a + 1)) bg.out aN.size (show ρ1 10 = Value.slice _ _ _ from hR.1) (show ρ1 12 = Value.int _ _ from hR.2.1) Tx Tx Tx) ?_;refine dC (fun _ hj => hcnt _ (hbk.ext hj.hp.below)) ?_;refine aT ?_;intro f W hJ hV;have hb_1 := hJ.bl;obtain ⟨v14, v13, v12, v11, v10, v9, v8, v7, v6, v5, _⟩ := hV;replace hh := hJ.hp;refine Nl ?_;dsimp only [cg];clear hJ
 refine gj [_,_] ?_;exact Ob
theorem Gb (A : List Nat) (d f i q : Nat) : de A d f i q = de A d f 0 q + i * au A := by
 unfold de;rw [Nat.mul_add, Nat.mul_add, Nat.mul_zero, Nat.mul_comm i];omega
theorem mN (g : FuncId) [ak Tryz.prog g] (A B : List Nat) (d L : Nat) (φ : List Dyadic → List Dyadic) (C : Option Addr) (n c k : Nat) (X : List Dyadic) (w : World) (hT : ee w) (hS : Sl w C n 3 (az NR.cells (X.map nR))) (hn : n = au (A ++ d :: B)) (hmax : n ≤ 4096) (hL : L ≤ d + 1) (hd : d ≤ 127) (hx : ∀ x ∈ X, Sz k x)
  (hg : ∀ (Y : List Dyadic) (D : Option Addr) (dc : Nat) (w1 : World), ee w1 → (∀ y ∈ Y, Sz k y) → Sl w1 D (d + 1) 3 (az NR.cells (Y.map nR)) → Calls Tryz.prog g #[.slice D (d + 1) dc] w1 fun r w' => ∃ E ec, r = .returned (.slice E L ec) ∧ Hp w1 [.row E L ec 65 3 (az NR.cells ((φ Y).map nR))] w')
  (hφ : ∀ Y : List Dyadic, Y.length = d + 1 → (φ Y).length = L) :
  Calls Tryz.prog 93 #[.agg #[.int .i64 ((d : Int) + 1), .int .i64 (au A : Nat)], .slice C n c, .func (.func g) #[] #[]] w fun r w' => ∃ E ec, r = .returned (.slice E n ec) ∧ Hp w [.row E n ec 65 3 (az NR.cells ((jf A d L φ X n 0).map nR))] w' := by
 have hh := Hp.start w;have hXl : X.length = n := by have := hS.bk NR.len Ty; simpa using this
 have hap := cL A;have hap2 : au A ≤ n := by
  rw [hn, dQ];exact Nat.le_mul_of_pos_right _ (cL _)
 have hcl := fun w1 hb => yL C n c (X.map nR) w1 (hS.ext hb) Tx;refine aj (N := 67) (l := [.agg #[.int .i64 ((d : Int) + 1), .int .i64 (au A : Nat)], .slice C n c, .func (.func g) #[] #[]]) Tryz.func93 rfl rfl (by simp) ?_;refine sr ?_;refine cx hh [_,_] ?_;intro b3 w3 hh;refine aL (aa (sr (mL ?_)));refine aE (hcl _ hh.below) ak.out rfl Ty ?_;rintro e_ w14 ⟨A14, c14, rfl, hown_, hb_⟩;refine ⟨_, rfl, ?_⟩;replace hh := hh.aV (x := .row _ _ _ _ _ _) hb_ hown_;rw [show X.map nR = (jf A d L φ X 0 0).map nR by rw [FQ]] at hh;clear hcl;refine rz ?_;refine aP [8, 9, 10, 11, 12, 17, 18, 19, 20, 21, 22, 23, 24, 25, 26, 27, 28, 29, 30, 31, 32, 33, 34, 35, 36, 37, 38, 39, 40, 41, 42, 43, 44, 45, 46, 47, 48, 49, 50, 51, 52, 53, 54, 55, 56, 57, 58, 59, 60, 61, 62, 63, 64, 65] 17
  (fun v w' => ∃ F : Nat, F ≤ n ∧ v = .int .i64 F ∧ Hp w [.row A14 n c14 65 3 (az NR.cells ((jf A d L φ X F 0).map nR)), .blk b3 119 [.int .i64 ((d : Int) + 1), .int .i64 (au A : Nat)] (0, 0)] w')
  (fun v _ => n - (intOf v).toNat) ?_ ?_
 ·exact ⟨0, Nat.zero_le _, rfl, hh⟩
 ·clear hh;rintro ρ' v w' ⟨F, hF, rfl, hh⟩;by_cases hlt : F < n
  ·have hcast : ((F : Int) / ((au A : Nat) : Int)) % ((d : Int) + 1) = ((F / au A % (d + 1) : Nat) : Int) := by norm_cast
   have hq0 : (0 : Int) ≤ (F : Int) / ((au A : Nat) : Int) := Int.ediv_nonneg Tx Tx;by_cases h0 : F / au A % (d + 1) = 0
   ·obtain ⟨u0, hfF⟩ : ∃ u0, u0 = F % au A := ⟨_, rfl⟩;obtain ⟨q, hqF⟩ : ∃ q, q = F / au A / (d + 1) := ⟨_, rfl⟩;have hf : u0 < au A := by rw [hfF]; exact Nat.mod_lt _ hap
    have hFe : F = de A d u0 0 q := by rw [hfF, hqF, ← h0, yd]
    have hq : q < au B := by
     rw [hqF, Nat.div_div_eq_div_mul, Nat.div_lt_iff_lt_mul (Nat.mul_pos hap Tx)];rw [hn, dQ, au] at hlt
     calc F < au A * ((d + 1) * au B) := hlt
      _ = au B * (au A * (d + 1)) := by rw [← Nat.mul_assoc, Nat.mul_comm]
    have hpl : ∀ i, i ≤ d → de A d u0 i q < n := fun i hi => by rw [hn]; exact uo hf hi hq
    have hpi : ∀ i, de A d u0 i q = F + i * au A := fun i => by rw [hFe]; exact Gb A d u0 i q
    have hxl : (eW A d X u0 q).length = d + 1 := by simp [eW]
    have hxz : ∀ y ∈ eW A d X u0 q, Sz k y := fun y hy => by
     obtain ⟨i, hi, rfl⟩ := List.mem_map.1 hy;exact xX hx _
    obtain ⟨ad, hCA, hr⟩ := hS.at_ Tx;rw [hCA] at *;refine sr ?_;refine bf (aa (ah (cT (ar (ai (ah (aq (sr (mI (aI (aa (ah (ah ?_)))))))))))));refine NX ?_;refine dE ?_;refine dV ?_;refine fJ 1 ?_;refine Mz ?_;refine dV ?_;refine fJ 1 ?_;refine aT ?_;intro f W hJ hV;have hb_5 := hJ.bl;obtain ⟨v25, v24, v23, v22, v21, v20, _⟩ := hV;replace hh := hJ.hp;refine a6 (bm (ae v25 (ae v24 (ae v23 (ae v22 (ae v21 (ae v20 a0))))))) ?_;dsimp only [cg];clear hJ;refine rv ?_;refine cK (aa (cF (ar (ai (sr (aL (aa (ah (sr (bD ?_))))))))));refine bB hh 1 ?_;refine mI (aa (aq ?_));replace hh := hh.db 65 3;refine bJ [9, 10, 30, 31, 32, 33, 34, 35, 36, 37, 38, 39, 40, 41, 42, 43, 44, 45] 9 30
     (fun a v w' => ∃ (i : Nat) (A' : Option Addr) (c' : Nat), i ≤ d + 1 ∧ v = .int .i64 i ∧ a = .slice A' i c' ∧ Hp w [.row A' i c' 65 3 (az NR.cells (((eW A d X u0 q).take i).map nR)), .row A14 n c14 65 3 (az NR.cells ((jf A d L φ X F 0).map nR)), .blk b3 119 [.int .i64 ((d : Int) + 1), .int .i64 (au A : Nat)] (0, 0)] w')
     (fun _ v _ => d + 1 - (intOf v).toNat) ?_ ?_
    ·exact ⟨0, none, 0, Nat.zero_le _, rfl, rfl, hh⟩
    ·clear hh;rintro ρ2 a_ v w2 ⟨i, A', c', hi, rfl, rfl, hh⟩;by_cases hil : i < d + 1
     ·obtain ⟨y, hy⟩ := ao (l := eW A d X u0 q) (k := i) Tx;have hyx : (X.map nR)[de A d u0 i q]? = some (nR y) := by
       have h1 := hpl i Tx;unfold eW at hy;rw [List.getElem?_map, List.getElem?_range hil] at hy;have h2 : (X[de A d u0 i q]?).getD 0 = y := Option.some.inj hy;rw [List.getElem?_map, Ag (show de A d u0 i q < X.length by omega)];show some (nR (jo X _)) = _;unfold jo;rw [h2]
      have hpn := hpl i Tx;have hpq := hpi i;obtain ⟨m, hm⟩ : ∃ m, m = i * au A := ⟨_, rfl⟩;have hmi : (i : Int) * ((au A : Nat) : Int) = (m : Int) := by rw [hm]; exact (Int.natCast_mul _ _).symm
      rw [← hm] at hpq;refine sr ?_;refine bf (aa (ah (cT (ar (ai (ah (aq (sr (mI (aI (aa (al (mL (mL (mI (mI (bD ?_)))))))))))))))));refine bB hh 2 ?_;refine mulC ?_;refine bh ?_;refine cZ (k := (de A d u0 i q)) bg.out aN.size rfl rfl Tx Tx Ty ?_;refine ct (vs := [_, _, _]) aN.out rfl ((hr.ext hh.below).recAt NR.len hyx) rfl Ty ?_;refine rF ?_;intro b43 w43 hh;refine o7 ?_;intro A44 c44 w44 hh;simp only [List.set_cons_zero, List.set_cons_succ] at hh;replace hh := hh.sub (List.sublist_cons_self _ _);refine k8 ?_;refine bh (mI (aA (ai ?_)));have e1 : az NR.cells (((eW A d X u0 q).take i).map nR) ++ [.bool (nR y).neg, .string (nR y).bo, .int .i64 (nR y).e] = az NR.cells (((eW A d X u0 q).take (i + 1)).map nR) := by rw [ay hy, List.map_append, bV, List.map_cons, List.map_nil, jI]; rfl
      rw [e1] at hh;refine ⟨⟨i + 1, A44, c44, Tx, rfl, rfl, hh⟩, by show d + 1 - (i + 1) < d + 1 - i; omega, ?_⟩;exact dL
     ·obtain rfl : i = d + 1 := Tx;rw [List.take_of_length_le Tx] at hh;refine sr ?_;refine mu ?_;refine iI ?_;refine mL ?_;refine fY (hg (eW A d X u0 q) A' c' _ (hT.hp hh) hxz (hh.aC (i := 0) rfl)) ak.out rfl rfl Ty ?_;rintro e_ w48 ⟨E, ec, rfl, h4⟩;refine ⟨_, rfl, ?_⟩;replace hh := hh.join h4;clear h4;simp only [List.cons_append, List.nil_append] at hh;replace hh := hh.sub (List.Sublist.cons_cons _ (List.Sublist.cons _ (List.Sublist.cons_cons _ (List.Sublist.cons_cons _ List.Sublist.slnil))));have hφl := hφ (eW A d X u0 q) hxl;refine aJ (mI (aa (aq ?_)));refine aP [11, 12, 50, 51, 52, 53, 54, 55, 56, 57, 58, 59, 60, 61, 62, 63, 64] 50
       (fun v w' => ∃ j : Nat, j ≤ L ∧ v = .int .i64 j ∧ Hp w [.row E L ec 65 3 (az NR.cells ((φ (eW A d X u0 q)).map nR)), .row A14 n c14 65 3 (az NR.cells ((jf A d L φ X F j).map nR)), .blk b3 119 [.int .i64 ((d : Int) + 1), .int .i64 (au A : Nat)] (0, 0)] w')
       (fun v _ => L - (intOf v).toNat) ?_ ?_
      ·exact ⟨0, Nat.zero_le _, rfl, hh⟩
      ·clear hh;rintro ρ3 v w3 ⟨j, hj, rfl, hh⟩;by_cases hjl : j < L
       ·obtain ⟨y, hy⟩ := ao (l := φ (eW A d X u0 q)) (k := j) Tx;have hyn : ((φ (eW A d X u0 q)).map nR)[j]? = some (nR y) := by rw [List.getElem?_map, hy]; rfl
        have hpn := hpl j Tx;have hpq := hpi j;have hset := JN (φ := φ) (X := X) (q := q) hf hjl (show j ≤ d by omega);rw [← hFe, show jo (φ (eW A d X u0 q)) j = y by unfold jo; rw [hy]; rfl] at hset;obtain ⟨m, hm⟩ : ∃ m, m = j * au A := ⟨_, rfl⟩;have hmi : (j : Int) * ((au A : Nat) : Int) = (m : Int) := by rw [hm]; exact (Int.natCast_mul _ _).symm
        rw [← hm] at hpq;have hll : ((jf A d L φ X F j).map nR).length = n := by rw [List.length_map, gy]; exact hXl
        generalize jf A d L φ X F j = S at *;generalize de A d u0 j q = P at *;have hrl := eF NR.len (S.map nR);obtain ⟨gr, rfl⟩ := hh.cd (i := 0) rfl Tx;obtain ⟨go, rfl⟩ := hh.cd (i := 1) rfl Tx;refine sr ?_;refine dZ ?_;refine rn ?_;refine ct (vs := [_, _, _]) aN.out rfl (hh.eU (f := NR.cells) (x := nR y) (l := (φ (eW A d X u0 q)).map nR) (i := 0) rfl NR.len Ty hyn) rfl Ty ?_;refine bR hh ?_;intro b12 w12 hh;refine aI ?_;refine bW hh 0 [_,_,_] ?_;intro ws hh;replace hh : Hp _ (.blk _ _ [_, _, _] _ :: _) _ := hh;refine aa (al (mL (mI (mI (bD ?_)))));refine bB hh 3 ?_;refine mulC ?_;refine bh ?_;refine cD hh 0 [_,_,_] ?_;refine cS (k := P) bg.out aN.size rfl rfl Tx Tx Ty ?_;refine bL hh (i := 2) (vs := [_, _, _]) rfl rfl (gO rfl) rfl aN.out rfl Tx rfl ?_;intro ws hh;simp only [List.set_cons_zero, List.set_cons_succ] at hh;rw [show cm (az NR.cells (S.map nR)) (P * 3) [.bool (nR y).neg, .string (nR y).bo, .int .i64 (nR y).e] = az NR.cells ((S.map nR).set P (nR y)) from jg NR.len Tx, ← List.map_set, hset] at hh;refine fL ?_;refine bh (mI (aA (ai ?_)))
        replace hh := hh.sub (List.Sublist.cons _ (List.Sublist.cons_cons _ (List.Sublist.cons_cons _ (List.Sublist.cons_cons _ List.Sublist.slnil))));refine ⟨⟨j + 1, Tx, rfl, hh⟩, by show L - (j + 1) < L - j; omega, ?_⟩;exact dL
       ·rw [GQ (show L ≤ j by omega)] at hh;refine sr ?_;refine zY ?_;refine bh (mI (aA (ai ?_)));replace hh := hh.sub (List.Sublist.cons _ (List.Sublist.cons_cons _ (List.Sublist.cons_cons _ List.Sublist.slnil)));refine ⟨⟨F + 1, Tx, rfl, hh⟩, by show n - (F + 1) < n - F; omega, ?_⟩;exact dL
   ·rw [GF h0] at hh;refine sr ?_;refine bf (aa (ah (cT (ar (ai (ah (aq (sr (mI (aI (aa (ah (ah ?_)))))))))))));refine NX ?_;refine dE ?_;refine dV ?_;refine fJ 1 ?_;refine Mz ?_;refine dV ?_;refine fJ 1 ?_;refine aT ?_;intro f W hJ hV;have hb_5 := hJ.bl;obtain ⟨v25, v24, v23, v22, v21, v20, _⟩ := hV;replace hh := hJ.hp;refine a6 (bm (ae v25 (ae v24 (ae v23 (ae v22 (ae v21 (ae v20 a0))))))) ?_;dsimp only [cg];clear hJ;refine rv ?_;refine cK (aa (cT (aZ (aD (bq (ai (al ?_)))))));refine bh (mI (aA (ai ?_)));refine ⟨⟨F + 1, Tx, rfl, hh⟩, by show n - (F + 1) < n - F; omega, ?_⟩;exact dL
  ·obtain rfl : F = n := Tx;exact Qo
def oE (p : PX) (ds : List Int) : List Int := if ds.length = 0 then vf p.v p.ts else ds
def KA (p : PX) (ds : List Int) : List Nat := (oE p ds).map Int.toNat
def jt (p : PX) (b : List SR) (ds : List Int) : Int := if ma p b (oE p ds) ≠ 0 then ma p b (oE p ds) else (da p (br b)).1
theorem Lm {ns : List Nat} {i d : Nat} (h : ns[i]? = some d) : ns.reverse = (ns.drop (i + 1)).reverse ++ d :: (ns.take i).reverse := by
 exact Qs
theorem PT (ds : List Nat) : X0 ds (rO []) = List.replicate (au ds) 0 := tu _
theorem LO {ds : List Nat} {l : List TR} {i : Nat} {t : TR} (hl : ∀ t ∈ l, lZ ds (cQ t.m).reverse) (hr : r9 l) (ht : l[i]? = some t) : (X0 ds (rO (l.take i))).set (ik ds (cQ t.m).reverse) t.c.d = X0 ds (rO (l.take (i + 1))) := by
 have hok := hl t (List.mem_of_getElem? ht);have hp := m9 hok;have h0 : (X0 ds (rO (l.take i)))[ik ds (cQ t.m).reverse]? = some 0 := by
  unfold X0;rw [nh _ hp];congr 1;unfold rO;rw [List.map_map, sY];refine sf fun s hs => if_neg fun e => ?_;replace e : ik ds (cQ s.m).reverse = ik ds (cQ t.m).reverse := e;have e2 : (cQ s.m).reverse = (cQ t.m).reverse := by rw [← iw (hl s (List.mem_of_mem_take hs)), e, iw hok]
  have e3 : s.m = t.m := Bh (List.reverse_inj.1 e2);obtain ⟨j, hj⟩ := List.mem_iff_getElem?.1 hs;have hji : j < i := by have := (List.getElem?_eq_some_iff.1 hj).1; rw [List.length_take] at this; omega
  rw [List.getElem?_take_of_lt hji] at hj;have h1 := (List.getElem?_eq_some_iff.1 hj);have h2 := (List.getElem?_eq_some_iff.1 ht);have h3 := List.pairwise_iff_getElem.1 hr j i h1.1 h2.1 hji;rw [h1.2, h2.2, e3, gQ] at h3
  cases h3
 have h1 := GD (v := t.c.d) (show (nE (au ds) ((rO (l.take i)).map fun (q : List Nat × Dyadic) => (ik ds q.1, q.2)))[ik ds (cQ t.m).reverse]? = some 0 from h0);rw [Dyadic.zero_add] at h1;show (nE (au ds) ((rO (l.take i)).map fun (q : List Nat × Dyadic) => (ik ds q.1, q.2))).set _ _ = _;rw [h1, ay ht];unfold X0 rO;rw [List.map_append, List.map_append]
 rfl
set_option maxRecDepth 10000 in
theorem kY (p : PX) (L : Option Addr) (n c : Nat) (b : List SR) (M : Option Addr) (m mc : Nat) (ds : List Int) (k : Nat) (w : World) (hT : ee w) (hp : p.at_ w) (lp : p.kO k) (hB : Sl w L n 6 (az SR.cells b)) (hb : ∀ s ∈ b, s.fin k) (hn : n ≤ 1000000) (hD : Sl w M m 1 (bF ds)) (hm : m ≤ 1000000) (hmc : m ≤ mc) (hk : k ≤ 1000)
  (hgr : ma p b (oE p ds) = 0 → eZ (k + k + 16394) (gJ p.v p.ts) (k + 1) ≤ 440000) :
  Calls Tryz.prog 20 #[.agg #[.int .i64 p.v, .slice p.A p.n p.c], .slice L n c, .slice M m mc] w fun r w' => ∃ g : FX, Out (jt p b ds) (KA p ds) (pR (KA p ds) (da p (br b)).2) g ∧ r = .returned (.tuple #[.agg #[.slice g.A g.n g.a, .slice g.B g.m g.b], .int .i64 (jt p b ds)]) ∧ Hp w [g.xG, g.vc] w' := by
 have hh := Hp.start w;have hbl : b.length = n := hB.bk SR.len Ty;have hdl : ds.length = m := by have := hD.1; rw [bU] at this; omega
 have hok : ∀ s ∈ b, s.ok := fun s hs => ⟨(hb s hs).1.ok, (hb s hs).2.ok⟩;have hDd : oE p ds = if m = 0 then vf p.v p.ts else ds := by unfold oE; rw [hdl]
 have hoN : KA p ds = (oE p ds).map Int.toNat := rfl;have hoE : jt p b ds = if ma p b (oE p ds) ≠ 0 then ma p b (oE p ds) else (da p (br b)).1 := rfl
 rw [hoN, hoE];clear hoN hoE;generalize oE p ds = D at *;refine aj (N := 94) (l := [.agg #[.int .i64 p.v, .slice p.A p.n p.c], .slice L n c, .slice M m mc]) Tryz.func20 rfl rfl (by simp) ?_;refine sr ?_;refine cx hh [_,_] ?_;intro b3 w3 hh;refine bR hh ?_;intro b6 w6 hh;refine aI (aa ?_);refine Gt [2, 18, 19, 20, 21, 22] 2
  (fun v w' => ∃ (M2 : Option Addr) (m2 mc2 : Nat) (R : List HE), v = .slice M2 m2 mc2 ∧ m2 ≤ mc2 ∧ m2 ≤ 1000000 ∧ D.length = m2 ∧ (∀ (H : List HE) (w1 : World), Hp w (H ++ R) w1 → Sl w1 M2 m2 1 (bF D)) ∧ Hp w (.blk b6 39 [.slice none 0 0, .slice none 0 0] (0, 0) :: .blk b3 24 [.int .i64 p.v, .slice p.A p.n p.c] (0, 0) :: R) w') ?_ ?_
 ·by_cases hm0 : m = 0
  ·subst hm0;rw [if_pos rfl] at hDd;have hdg := fun w1 hT1 hb => rI p k w1 hT1 (hp.ext hb) lp;rw [← hDd] at hdg;have hl4 : D.length ≤ 1000000 := by
    rw [hDd];unfold vf;split
    ·rename_i hpe;have := iD.1 (cu hpe).1;rw [eX];omega
    ·exact Nat.zero_le _
   refine sr (mL (aJ ?_));refine cW (aa (cT (al ?_)));refine cD hh 1 [_,_] ?_;refine aE (hdg _ (hT.hp hh) hh.below) ak.out rfl Ty ?_;rintro e_ w22 ⟨G, gc, rfl, h4⟩;refine ⟨_, rfl, ?_⟩;have hgc : D.length ≤ gc := h4.eO (i := 0) rfl;replace hh := hh.join h4;clear h4;simp only [List.cons_append, List.nil_append] at hh;refine aL (aa ?_);replace hh := hh.perm (List.perm_middle (l₁ := [_, _]));simp only [List.cons_append, List.nil_append] at hh;replace hh := hh.perm (List.perm_middle (l₁ := [_, _]));simp only [List.cons_append, List.nil_append] at hh;refine ⟨⟨G, D.length, gc, _, rfl, hgc, hl4, rfl, fun H w1 h1 => lB (h1.own (.row G D.length gc 3 1 (bF D)) (List.mem_append_right _ List.mem_cons_self)), hh⟩, ?_⟩;exact K7
  ·rw [if_neg hm0] at hDd;refine sr (mL (aJ ?_));refine cW (aa (cF (ar (ai ?_))));refine ⟨⟨M, m, mc, [], rfl, hmc, hm, by rw [hDd]; exact hdl, fun H w1 h1 => by rw [hDd]; exact hD.ext h1.below, hh⟩, ?_⟩;exact K7
 ·skip;clear hh hDd hdl hD hm hmc;rintro ρ' v w' ⟨M2, m2, mc2, R, rfl, hmc2, hm2, hDl, hrd, hh⟩;have hfi := fun w1 hT1 hb1 hd => uf p L n c b M2 m2 mc2 D k w1 hT1 (hp.ext hb1) lp (hB.ext hb1) hok hn hd hm2;by_cases hE : ma p b D ≠ 0
  ·rw [if_pos hE];generalize ma p b D = E at *;refine ah (sr ?_);refine cD hh 1 [_,_] (mL (mL ?_));refine bz hh (hfi _ (hT.hp hh) hh.below (hrd [_, _] _ hh)) rfl ?_;intro w26 hh;exact RD
  ·rw [if_neg hE];have hE0 : ma p b D = 0 := Tx;obtain ⟨hnat, hF⟩ := yw hE0;rw [hE0] at hfi;have hpe := hF.e;have hn0 := hF.pos;have hn12 := hF.nZ;have hnl := hF.nl;have hlow := hF.low;have hmost := hF.most;have hgr2 := hgr hE0;obtain ⟨_, o2, o3⟩ := lU hpe;have hwi := fun w1 hT1 hb1 => xO p L n c b k (gJ p.v p.ts) w1 hT1 (hp.ext hb1) lp (hB.ext hb1) hb (by rw [hF.v, hbl]) Tx Tx hk (by rw [hF.lI]; exact hbl) (fun i d hd => ⟨(o3 i d hd).1, (o3 i d hd).2.1⟩) hgr2;have hsp := vF hF lp.ok hb hk hgr2;clear hgr hgr2 o2 o3 hfi;have hfi := fun w1 hT1 hb1 hd => uf p L n c b M2 m2 mc2 D k w1 hT1 (hp.ext hb1) lp (hB.ext hb1) hok hn hd hm2;rw [hE0] at hfi;clear hE hE0;have hcnt : ij 1 D = ((au (D.map Int.toNat) : Nat) : Int) := by
    have h8 := j2 (D.map Int.toNat) 1 (Nat.le_refl _) Ty hlow;rw [← hnat, Nat.one_mul, if_pos hmost] at h8;exact h8
   have hco := fun w1 hd => ej M2 m2 mc2 D w1 hd hm2;rw [hcnt] at hco;have hcl := fun w1 hd => lk M2 m2 mc2 D w1 hd hm2;have hm2n : m2 = n := by rw [← hDl, ← hbl, ← hnl, List.length_map]
   generalize hns : D.map Int.toNat = ns at *;generalize (da p (br b)).1 = E at *;generalize (da p (br b)).2 = S at *;have hN0 := cL ns;refine ah (sr ?_);refine cD hh 1 [_,_] (mL (mL ?_));refine bz hh (hfi _ (hT.hp hh) hh.below (hrd [_, _] _ hh)) rfl ?_;intro w26 hh;refine aI (aa (sr (mI ?_)));refine wY ?_;refine cD hh 1 [_,_] (mL ?_);refine aE (hwi _ (hT.hp hh) hh.below) ak.out rfl Ty ?_;rintro e_ w34 ⟨q, oq, rfl, h4⟩;refine ⟨_, rfl, ?_⟩;replace hh := hh.join h4;clear h4;simp only [List.cons_append, List.nil_append] at hh;replace hh := show Hp w (.row q.A q.n q.c 96 4 (az TR.cells q.ts) :: _) _ from hh;by_cases hE2 : E ≠ 0
   ·refine mT ?_;refine dq ?_;refine dq ?_;refine bR hh ?_;intro b9 w9 hh;refine bW hh 0 [_,_] ?_;intro ws hh;replace hh : Hp _ (.blk _ _ [_, _] _ :: _) _ := hh;refine aI (aa (ah (sr (mI ?_))));refine cK (aa (cT (sr ?_)));refine gj [_,_] (mI ?_);refine bW hh 2 [_,_] ?_;intro ws hh;replace hh : Hp _ (_ :: _ :: .blk _ _ [_, _] _ :: _) _ := hh;refine aI (aa (av (aG ?_)));refine rp ?_;exact ⟨FX.nil, Out.err hE2, rfl, (hh.sub (List.nil_sublist _)).Qz⟩
   ·have hE0 : E = 0 := Tx;subst hE0;obtain ⟨hso, hsr⟩ := hsp rfl;have et : q.ts = S := oq.t0;rw [et] at hh;clear oq et;generalize q.v = qv at *;generalize q.A = qA at *;generalize q.n = qn at *;generalize q.c = qc at *;have hSl : S.length = qn := (hh.aC (i := 0) rfl).bk TR.len Ty;have hSn := hso.len;obtain ⟨_, _, hSm, hSc⟩ := cu hso.e;refine mT ?_;refine dq ?_;refine dq ?_;refine bR hh ?_;intro b9 w9 hh;refine bW hh 0 [_,_] ?_;intro ws hh;replace hh : Hp _ (.blk _ _ [_, _] _ :: _) _ := hh;refine aI (aa (ah (sr (mI ?_))));refine cK (aa (cF (ar (ai (sr (mL ?_))))));refine aE (hcl _ (hrd [_, _, _, _] _ hh)) ak.out rfl Ty ?_;rintro e_ w42 ⟨A42, c42, rfl, hown_, hb_⟩;refine ⟨_, rfl, ?_⟩;replace hh := hh.aV (x := .row _ _ _ _ _ _) hb_ hown_;refine mL ?_;refine bz hh (hco _ (hrd [_, _, _, _, _] _ hh)) rfl ?_;intro w44 hh;refine fU (n := (au ns)) hh rfl rfl Tx Tx bg.out aN.out rfl Tx Tx Ty ?_;intro b45 w45 hh;refine gj [_,_] ?_;refine bR hh ?_;intro b11 w11 hh;refine bW hh 0 [_,_] ?_;intro ws hh;replace hh : Hp _ (.blk _ _ [_, _] _ :: _) _ := hh;refine aa (ah (sr (bD ?_)));refine bB hh 3 ?_;refine aJ (mI (aa (aq ?_)));rw [ni, ← cz ns, ← PT ns.reverse, cz] at hh
    refine aP [13, 14, 15, 16, 50, 51, 52, 53, 54, 55, 56, 57, 58, 59, 60, 61, 62, 63, 64, 65, 66, 67, 68, 69, 70, 71, 72, 73, 74, 75, 76, 77, 78, 79] 50
     (fun v w' => ∃ i : Nat, i ≤ qn ∧ v = .int .i64 i ∧ Hp w (.blk b11 39 [.slice A42 m2 c42, .slice (some ⟨b45, 0, none⟩) (au ns) (au ns)] (0, 0) :: .row (some ⟨b45, 0, none⟩) (au ns) (au ns) 65 3 (az NR.cells ((X0 ns.reverse (rO (S.take i))).map nR)) :: .row A42 m2 c42 3 1 (bF D) :: .blk b9 24 [.int .i64 qv, .slice qA qn qc] (0, 0) :: .row qA qn qc 96 4 (az TR.cells S) :: .blk b6 39 [.slice none 0 0, .slice none 0 0] (0, 0) :: .blk b3 24 [.int .i64 p.v, .slice p.A p.n p.c] (0, 0) :: R) w')
     (fun v _ => qn - (intOf v).toNat) ?_ ?_
    ·exact ⟨0, Nat.zero_le _, rfl, hh⟩
    ·clear hh;rintro ρ2 v w2 ⟨i, hi, rfl, hh⟩;by_cases hlt : i < qn
     ·obtain ⟨x, hx⟩ := ao (l := S) (k := i) Tx;have hxm := List.mem_of_getElem? hx;have hxo := hsr x hxm;have hx2 := hSm x hxm;unfold eH at hx2;rw [Bool.and_eq_true, decide_eq_true_eq] at hx2;have hxs : x.m.size = n := Tx;have hxz := hso.sz x hxm;have hxc : x.c = nR x.c.d := hSc.nf x hxm;have hex : iq x.m.data.toList = bH (cQ x.m) := by rw [jC hx2.1, lg]
      have hesl : (cQ x.m).length = n := by rw [mq]; exact hxs
      have hel : (iq x.m.data.toList).length = n := by rw [hex, iC]; exact hesl
      have hset := LO hsr hSc.rj hx;have hX0l : ((X0 ns.reverse (rO (S.take i))).map nR).length = au ns := by rw [List.length_map]; unfold X0; rw [k6, cz]
      have hcell : az TR.cells S = az TR.cells S := rfl;have hokat : ∀ (j d r : Nat), ns[j]? = some d → (cQ x.m)[j]? = some r → r ≤ d := fun j d r hd hr => by
       have hj := (List.getElem?_eq_some_iff.1 hd).1;refine ((jK _ _).1 hxo).2 (n - 1 - j) d r ?_ ?_
       ·rw [List.getElem?_reverse Tx, show ns.length - 1 - (n - 1 - j) = j by omega]; exact hd
       ·rw [List.getElem?_reverse Tx, show (cQ x.m).length - 1 - (n - 1 - j) = j by omega]; exact hr
      obtain ⟨gq, rfl⟩ := hh.cd (i := 4) rfl Tx;refine sr ?_;refine dH ?_;refine gh ?_;refine ct (vs := [_, _, _, _]) aN.out rfl (hh.eU (f := TR.cells) (x := x) (l := S) (i := 4) rfl TR.len Ty hx) rfl Ty ?_;refine bR hh ?_;intro b13 w13 hh;refine bW hh 0 [_,_,_,_] ?_;intro ws hh;replace hh : Hp _ (.blk _ _ [_, _, _, _] _ :: _) _ := hh;refine aa (sr (aI (aa (ah (sr (bD ?_))))));refine bB hh 0 ?_;refine aE (gW x.m _ hxz) ak.out rfl Ty ?_;rintro e_ w56 ⟨A56, c56, rfl, hown_, hb_⟩;refine ⟨_, rfl, ?_⟩;replace hh := hh.aV (x := .row _ _ _ _ _ _) hb_ hown_;rw [hel, hex] at hh;rw [hel];refine aJ (mI (aa (aq ?_)));refine bJ [14, 15, 16, 58, 59, 60, 61, 62, 63, 64, 65, 66, 67, 68, 69, 70, 71, 72] 14 58
       (fun a v w' => ∃ (j z : Nat), j ≤ n ∧ v = .int .i64 j ∧ a = .int .i64 z ∧ z = ik (ns.take j).reverse ((cQ x.m).take j).reverse ∧ z < au (ns.take j) ∧ Hp w (.row A56 n c56 3 1 (bF (bH (cQ x.m))) :: .blk b13 96 [.string x.m, .bool x.c.neg, .string x.c.bo, .int .i64 x.c.e] (0, 0) :: .blk b11 39 [.slice A42 m2 c42, .slice (some ⟨b45, 0, none⟩) (au ns) (au ns)] (0, 0) :: .row (some ⟨b45, 0, none⟩) (au ns) (au ns) 65 3 (az NR.cells ((X0 ns.reverse (rO (S.take i))).map nR)) :: .row A42 m2 c42 3 1 (bF D) :: .blk b9 24 [.int .i64 qv, .slice (some ⟨gq, 0, none⟩) qn qc] (0, 0) :: .row (some ⟨gq, 0, none⟩) qn qc 96 4 (az TR.cells S) :: .blk b6 39 [.slice none 0 0, .slice none 0 0] (0, 0) :: .blk b3 24 [.int .i64 p.v, .slice p.A p.n p.c] (0, 0) :: R) w')
       (fun _ v _ => n - (intOf v).toNat) ?_ ?_
      ·exact ⟨0, 0, Nat.zero_le _, rfl, rfl, rfl, Nat.one_pos, hh⟩
      ·clear hh;rintro ρ3 a_ v w3 ⟨j, z, hj, rfl, rfl, hz, hz2, hh⟩;by_cases hjn : j < n
       ·obtain ⟨d, hd⟩ := ao (l := ns) (k := j) Tx;obtain ⟨r, hr⟩ := ao (l := cQ x.m) (k := j) Tx;have hrd2 := hokat j d r hd hr;have hd7 := hlow d (List.mem_of_getElem? hd);have hgD : (bF D)[j]? = some (.int .i64 (d : Int)) := by rw [hnat]; exact cj (iX hd)
        have hgE := cj (iX hr);have hst := IV hd hr;have hcs := Jv hd;rw [cz, cz] at hcs;rw [← hz] at hst;have hct := jn ns (j + 1);have hnew : r + (d + 1) * z < (d + 1) * au (ns.take j) := by
         have : (d + 1) * (z + 1) ≤ (d + 1) * au (ns.take j) := Nat.mul_le_mul_left _ hz2;rw [Nat.mul_succ] at this;omega
        have hpr : (z : Int) * ((d : Int) + 1) = (((d + 1) * z : Nat) : Int) := by rw [Nat.mul_comm, Int.natCast_mul, Int.natCast_add]; rfl
        have hDs := hrd [_, _, _, _, _, _, _, _, _] _ hh;obtain ⟨ad, hMe, hsr2⟩ := hDs.at_ Tx;have mb : Value.slice M2 m2 mc2 = .slice (some ad) m2 mc2 := by rw [hMe]
        have hel2 : (bF (bH (cQ x.m))).length = n := by rw [bU, iC]; exact hesl
        obtain ⟨gx, rfl⟩ := hh.cd (i := 0) rfl Tx;refine sr ?_;refine dZ ?_;refine rn ?_;refine jm ?_;refine aI (aI (aa (al (mI (mL (mI ?_))))));refine cZ (k := j) bg.out aN.size mb rfl Tx Tx Ty ?_;refine bT aN.out rfl (hsr2.xo hgD) Ty ?_;refine bh ?_;refine mulC (mI ?_);refine bh (aI (aA (bA (ai (al ?_)))));refine bh (mI (aA (ai ?_)));rw [hpr];refine ⟨⟨j + 1, r + (d + 1) * z, Tx, rfl, ?_, hst.symm, Tx, hh⟩, by show n - (j + 1) < n - j; omega, ?_⟩
        ·show Value.int IntKind.i64 ((((d + 1) * z : Nat) : Int) + (r : Int)) = _;rw [show (((d + 1) * z : Nat) : Int) + (r : Int) = ((r + (d + 1) * z : Nat) : Int) by omega]
        ·exact dL
       ·obtain rfl : j = n := Tx;rw [List.take_of_length_le Tx, List.take_of_length_le Tx] at hz;rw [List.take_of_length_le Tx] at hz2;rw [← hz] at hset;generalize X0 ns.reverse (rO (S.take i)) = X at *;have hrl := eF NR.len (X.map nR);refine sr ?_;refine bf (aa (ah (cF (aZ (aD (aD (bq (ai (al (bD ?_))))))))));refine bB hh 2 ?_;refine mI (bD ?_);refine cD hh 1 [_,_,_] ?_;refine cS (k := z) bg.out aN.size rfl rfl Tx Tx Ty ?_;refine bL hh (i := 3) (vs := [_, _, _]) rfl rfl (gO rfl) rfl aN.out rfl Tx rfl ?_;intro ws hh;simp only [List.set_cons_zero, List.set_cons_succ] at hh;rw [hxc, show cm (az NR.cells (X.map nR)) (z * 3) [.bool (nR x.c.d).neg, .string (nR x.c.d).bo, .int .i64 (nR x.c.d).e] = az NR.cells ((X.map nR).set z (nR x.c.d)) from jg NR.len Tx, ← List.map_set, hset] at hh;refine fL ?_;refine bh (mI (aA (ai ?_)));replace hh := hh.sub (List.Sublist.cons _ (List.Sublist.cons _ (List.Sublist.cons_cons _ (List.Sublist.cons_cons _ (List.Sublist.cons_cons _ (List.Sublist.cons_cons _ (List.Sublist.cons_cons _ (List.Sublist.cons_cons _ (List.Sublist.cons_cons _ (List.Sublist.refl _))))))))));refine ⟨⟨i + 1, Tx, rfl, hh⟩, by show qn - (i + 1) < qn - i; omega, ?_⟩;exact dL
     ·obtain rfl : i = qn := Tx;rw [List.take_of_length_le Tx, show X0 ns.reverse (rO S) = pQ ns.reverse (rO S) 0 from rfl] at hh;have hoff := AF hsr;have hXz := Cq (ND (ds := ns.reverse) hso.ok) (fun d hd => hlow d (List.mem_reverse.1 hd));have hnr : ns.reverse.length = n := by rw [List.length_reverse]; omega
      refine sr ?_;refine bf (aa (ah (cF (aZ (aD (aD (bq (ai (ah (sr (mL (aJ (mI (aa (aq ?_)))))))))))))));replace hh := hh.sub (List.Sublist.cons_cons _ (List.Sublist.cons_cons _ (List.Sublist.cons_cons _ (List.Sublist.cons _ (List.Sublist.cons _ (List.Sublist.cons_cons _ (List.Sublist.cons_cons _ (List.Sublist.refl _))))))));refine aP [17, 82, 83, 84, 85, 86, 87, 88, 89, 90, 91, 92] 82
       (fun v w' => ∃ (j : Nat) (A : Option Addr) (ac : Nat), j ≤ n ∧ v = .int .i64 j ∧ Hp w (.blk b11 39 [.slice A42 m2 c42, .slice A (au ns) ac] (0, 0) :: .row A (au ns) ac 65 3 (az NR.cells ((pQ ns.reverse (rO S) j).map nR)) :: .row A42 m2 c42 3 1 (bF D) :: .blk b6 39 [.slice none 0 0, .slice none 0 0] (0, 0) :: .blk b3 24 [.int .i64 p.v, .slice p.A p.n p.c] (0, 0) :: R) w')
       (fun v _ => n - (intOf v).toNat) ?_ ?_
      ·exact ⟨0, _, _, Nat.zero_le _, rfl, hh⟩
      ·clear hh;rintro ρ4 v w4 ⟨j, A, ac, hj, rfl, hh⟩;by_cases hjn : j < n
       ·obtain ⟨d, hd⟩ := ao (l := ns) (k := j) Tx;have hd7 := hlow d (List.mem_of_getElem? hd);have hrm := Lm hd;have hol : (pQ ns.reverse (rO S) j).length = au ns := by rw [Az, cz]
        have hof := fun w1 hs => lW M2 m2 mc2 j d ns w1 (by rw [← hnat]; exact hs) hmc2 Tx hd hlow hmost;have hcn : au ns = au ((ns.drop (j + 1)).reverse ++ d :: (ns.take j).reverse) := by rw [← hrm, cz]
        have hli := fun w1 hT1 hS1 => mN 94 (ns.drop (j + 1)).reverse (ns.take j).reverse d (d + 1) (kf d (eb d 1 1)) A (au ns) ac (440000 + S.length + 520 * j) (pQ ns.reverse (rO S) j) w1 hT1 hS1 hcn hmost (Nat.le_refl _) hd7 (hXz j) (fun Y E ec w2 hT2 hy hs => yn E (d + 1) ec d Y _ w2 hT2 hs rfl hd7 hy Tx) (fun Y _ => by simp [kf]);have hM := Hf (M := eb d 1 1) (A := (ns.drop (j + 1)).reverse) (B := (ns.take j).reverse) (X := pQ ns.reverse (rO S) j) (hol.trans hcn);have hsu := qM ns.reverse (rO S) j;have hgd : ns.reverse.getD (ns.reverse.length - 1 - j) 0 = d := by
         rw [List.getD_eq_getElem?_getD, List.getElem?_reverse Tx, show ns.length - 1 - (ns.reverse.length - 1 - j) = j by omega, hd]
         rfl
        rw [hgd, show ns.reverse.length - 1 - j = (ns.drop (j + 1)).reverse.length by rw [List.length_reverse, List.length_reverse, List.length_drop]; omega] at hsu;rw [hol, ← hrm, ← hsu] at hM;rw [hM, cz] at hli;clear hM hsu hgd hcn;refine sr ?_;refine bf (aa (ah (cT (ar (ai (ah (aq (sr (mI (aI (aa ?_)))))))))));refine aY 5 [[(2, none)], [(17, none)], [(85, some 0), (86, some 1)], [(11, none)], [(88, some 3)]] [(4, 89), (3, 88), (2, 87), (1, 86), (0, 85)] hh mixed Tz ?_;refine gk ?_;refine dE ?_;refine dC (fun _ hj => hof _ (hrd [_, _, _, _, _] _ hj.hp)) ?_;refine dV ?_;refine fJ 0 ?_;refine aT ?_;intro f W hJ hV;have hb_24 := hJ.bl;obtain ⟨v89, v88, v87, v86, v85, _⟩ := hV;replace hh := hJ.hp;refine a6 (bm (ae v89 (ae v88 (ae v87 (ae v86 (ae v85 a0)))))) ?_;dsimp only [cg];clear hJ;refine aE (hli _ (hT.hp hh) (hh.aC (i := 1) rfl)) ak.out rfl Ty ?_;rintro e_ w90 ⟨E, ec, rfl, h4⟩;refine ⟨_, rfl, ?_⟩;replace hh := hh.join h4;clear h4;simp only [List.cons_append, List.nil_append] at hh;refine bD ?_;refine bW hh 1 [_] ?_;intro ws hh;replace hh : Hp _ (_ :: .blk _ _ [_, _] _ :: _) _ := hh;refine fL ?_;refine bh (mI (aA (ai ?_)))
        replace hh := hh.sub (List.Sublist.cons_cons _ (List.Sublist.cons_cons _ (List.Sublist.cons _ (List.Sublist.cons_cons _ (List.Sublist.cons_cons _ (List.Sublist.cons_cons _ (List.Sublist.refl _)))))));replace hh := hh.perm (List.perm_middle (l₁ := [_]));simp only [List.cons_append, List.nil_append] at hh;refine ⟨⟨j + 1, E, ec, Tx, rfl, hh⟩, by show n - (j + 1) < n - j; omega, ?_⟩;exact dL
       ·obtain rfl : j = n := Tx;rw [hnl, hbl] at hoff;rw [hoff] at hh;refine sr ?_;refine mu ?_;refine cD hh 0 [_,_] ?_;refine bW hh 3 [_,_] ?_;intro ws hh;replace hh : Hp _ (_ :: _ :: _ :: .blk _ _ [_, _] _ :: _) _ := hh;refine aI (aa (av ?_));refine Jf ?_;exact ⟨⟨A42, m2, c42, A, au ns, ac, D, (pR ns S).map nR⟩, ⟨hnat, rfl, by show m2 ≤ 100000; omega, by show au ns ≤ 1000000; omega⟩, rfl, hh.sub (.cons _ (.cons_cons _ (.cons_cons _ (List.nil_sublist _))))⟩
def uO (a : NR) : Bool := decide ((8 : Int) < a.bo.size ∨ a.e < -60 ∨ 60 < a.e)
theorem KO {a : NR} (h : uO a = false) : a.ok ∧ Sz 124 a.d := by
 have h' := of_decide_eq_false h;have h1 : (a.bo.size : Int) ≤ 8 := Tx;have h2 : -60 ≤ a.e := Tx;have h3 : a.e ≤ 60 := Tx;exact ⟨⟨Tx, Tx, Tx⟩, Sz.raw (m := 64) (E := 60) Tx h2 h3⟩
def FX.small (f : FX) : Prop := f.kO 124 ∧ f.m ≤ 60 ∧ f.n ≤ 20
abbrev Tn (l : List Int) (A : Option Addr) (a : Nat) (B : Option Addr) (b : Nat) : FX := ⟨A, 1, a, B, l.length, b, [(l.length : Int) - 1], l.map fun z : Int => nR (z : Dyadic)⟩
def wQ (ds : List Int) (cs : List NR) : VP := fun v W => ∃ g : FX, v = .agg #[.slice g.A g.n g.a, .slice g.B g.m g.b] ∧ g.ds = ds ∧ g.cs = cs ∧ g.at_ W
theorem wQ.ext {ds : List Int} {cs : List NR} (v : Value) (w w' : World) (h : wQ ds cs v w) (hb : Below w.heap.size w w') : wQ ds cs v w' := let ⟨g, h1, h2, h3, h4⟩ := h; ⟨g, h1, h2, h3, h4.ext hb⟩
section
variable {P : Program} {ρ : Rf} {w : World}
theorem OU {ops : Array Oper} {d : Option Nat} {ty : TypeId} {pos : String} {af : Array Edge} {t e : TypeId} {len sz by' base : Nat} {ag : Bool} {parts : Array (Nat × Operand)} {ps : List (Nat × Value)} {zc cs : List Value} (ht : P.underlying t = some (.slice e)) (hte : dn P e = some (sz, ag, by', zc))
  (hp : wI ρ parts.toList = ps) (hzl : zc.length = sz) (hf : ke (fun i => some (i * sz, sz)) (fk len zc) ps = some cs) (h0 : ¬ len * sz = 0) (hsl : len * sz ≤ 16777216) (hl : cs.length = len * sz) (hn : len ≤ 1000000) (hbs : base ≤ w.heap.size) {K : Value → World → Prop}
  (hk : ∀ v w2, ve base e len sz cs v w2 → Below w.heap.size w w2 → K v w2) : OG P ops ⟨d, .buildSlice t len parts, ty, pos, af, none⟩ ρ w K := by
 obtain ⟨z, hz, hzc⟩ := dx (w := w) hte;have hbl : Below w.heap.size w (w.alloc (.cells cs.toArray e)) := (Below.refl _ _).alloc (Nat.le_refl _) _;refine fC rfl (w' := w.alloc (.cells cs.toArray e)) (v := .slice (some ⟨w.heap.size, 0, none⟩) len len) ?_ (hk _ _ ⟨_, _, rfl, hl, .inr ⟨w.heap.size, len, cs.toArray, rfl, hbs, heap_alloc_new w _, Nat.le_refl _, by unfold maxLen; omega, by simpa using hl, by rw [← hl]; simp⟩⟩ hbl);exact Ov
end
def er (z : Int) : NR := nR (z : Dyadic)
def jX (l : List Int) : List SR := l.map fun z => ⟨nR 0, er z⟩
theorem oU {z : Int} (h : z.natAbs < 256) : (er z).ok ∧ Sz 24 (er z).d := by
 have z1 : Sz 24 ((z : Int) : Dyadic) := KV (m := z) (e := 0) h Ty Ty;exact ⟨z1.ok Ty, by unfold er; rw [cf]; exact z1⟩
theorem lu (l : List Int) (A : Option Addr) (n c : Nat) (w : World) (hS : Sl w A n 1 (bF l)) (hl : ∀ z ∈ l, z.natAbs < 256) (hn : n ≤ 1000) :
  Calls Tryz.prog 104 #[.slice A n c] w fun r w' => ∃ B c', r = .returned (.slice B n c') ∧ Hp w [.row B n c' 65 3 (az NR.cells (l.map er))] w' := by
 have hh := Hp.start w;have hln : l.length = n := by have := hS.1; rw [bU] at this; omega
 refine aj (N := 20) (l := [.slice A n c]) Tryz.func104 rfl rfl (by simp) ?_;refine sr (aL (aa (sr (aL (aa (ah (sr (aI (aa (aq ?_))))))))));replace hh := hh.db 65 3;refine bJ [3, 4, 5, 6, 7, 8, 9, 10, 11, 12, 13, 14, 15, 16, 17, 18] 3 4
  (fun a v w' => ∃ (i c1 : Nat) (B : Option Addr), i ≤ n ∧ v = .int .i64 i ∧ a = .slice B i c1 ∧ Hp w [.row B i c1 65 3 (az NR.cells ((l.take i).map er))] w')
  (fun _ v _ => n - (intOf v).toNat) ?_ ?_
 ·exact ⟨0, 0, none, Nat.zero_le _, rfl, rfl, hh⟩
 ·clear hh;rintro ρ' a_ v w' ⟨i, c1, B, hi, rfl, rfl, hh⟩;by_cases hlt : i < n
  ·obtain ⟨z, hz⟩ := ao (l := l) (k := i) Tx;have hgz := cj hz;have hzb := hl z (List.mem_of_getElem? hz);obtain ⟨ad, rfl, hr⟩ := hS.at_ Tx;refine ah (sr (mI (mL (aJ ?_))));refine H9 ?_;refine cn ?_;refine bT aN.out rfl ((hr.ext hh.below).xo hgz) Ty ?_;refine bz hh (k5 z _ Tx Tx) rfl ?_;intro w16 hh;refine rF ?_;intro b17 w17 hh;refine o7 ?_;intro A18 c18 w18 hh;simp only [List.set_cons_zero, List.set_cons_succ] at hh;replace hh := hh.sub (List.sublist_cons_self _ _);refine wR ?_;refine bh (aI (aA (ai ?_)));refine ⟨⟨i + 1, c18, A18, Tx, rfl, rfl, ?_⟩, by show n - (i + 1) < n - i; omega, ?_⟩
   ·rw [ay hz, List.map_append, bV];exact hh
   ·exact dL
  ·exact QR
theorem B8 (l : List Int) (A : Option Addr) (n c : Nat) (w : World) (hS : Sl w A n 1 (bF l)) (hl : ∀ z ∈ l, z.natAbs < 256) (hn : n ≤ 1000) :
  Calls Tryz.prog 105 #[.slice A n c] w fun r w' => ∃ B c', r = .returned (.slice B n c') ∧ Hp w [.row B n c' 81 6 (az SR.cells (jX l))] w' := by
 have hh := Hp.start w;have hln : l.length = n := by have := hS.1; rw [bU] at this; omega
 refine aj (N := 21) (l := [.slice A n c]) Tryz.func105 rfl rfl (by simp) ?_;refine sr (aL (aa (sr (aL (aa (ah (sr (aI (aa (aq ?_))))))))));replace hh := hh.db 81 6;refine bJ [3, 4, 5, 6, 7, 8, 9, 10, 11, 12, 13, 14, 15, 16, 17, 18, 19] 3 4
  (fun a v w' => ∃ (i c1 : Nat) (B : Option Addr), i ≤ n ∧ v = .int .i64 i ∧ a = .slice B i c1 ∧ Hp w [.row B i c1 81 6 (az SR.cells (jX (l.take i)))] w')
  (fun _ v _ => n - (intOf v).toNat) ?_ ?_
 ·exact ⟨0, 0, none, Nat.zero_le _, rfl, rfl, hh⟩
 ·clear hh;rintro ρ' a_ v w' ⟨i, c1, B, hi, rfl, rfl, hh⟩;by_cases hlt : i < n
  ·obtain ⟨z, hz⟩ := ao (l := l) (k := i) Tx;have hgz := cj hz;have hzb := hl z (List.mem_of_getElem? hz);obtain ⟨ad, rfl, hr⟩ := hS.at_ Tx;have e1 : az SR.cells (jX (l.take (i + 1))) = az SR.cells (jX (l.take i)) ++ [.bool false, .string (ByteArray.mk #[]), .int .i64 0, .bool (nR (z : Dyadic)).neg, .string (nR (z : Dyadic)).bo, .int .i64 (nR (z : Dyadic)).e] := by
    unfold jX;rw [ay hz, List.map_append, bV, List.map_cons, List.map_nil, jI, lF]
    rfl
   refine ah (sr (mI (mL (aJ ?_))));refine H9 ?_;refine cn ?_;refine bT aN.out rfl ((hr.ext hh.below).xo hgz) Ty ?_;refine bz hh (k5 z _ Tx Tx) rfl ?_;intro w16 hh;refine gj [_,_,_,_,_,_] ?_;refine MI ?_;intro b18 w18 hh;refine o7 ?_;intro A19 c19 w19 hh;simp only [List.set_cons_zero, List.set_cons_succ] at hh;replace hh := hh.sub (List.sublist_cons_self _ _);refine wR ?_;refine bh (aI (aA (ai ?_)));refine ⟨⟨i + 1, c19, A19, Tx, rfl, rfl, ?_⟩, by show n - (i + 1) < n - i; omega, ?_⟩
   ·rw [e1];exact hh
   ·exact dL
  ·exact QR
theorem xV (z : Int) (es : List UInt8) (A : Option Addr) (n c : Nat) (w : World) (hS : Sl w A n 1 (nC es)) (hz : z.natAbs < 256) (hn : es.length = n) (hn2 : n ≤ 1000) :
  Calls Tryz.prog 107 #[.int .i64 z, .slice A n c] w fun r w' => ∃ B c', r = .returned (.agg #[.int .i64 n, .slice B 1 c']) ∧ Hp w [.row B 1 c' 96 4 (az TR.cells [⟨str es, er z⟩])] w' := by
 have hh := Hp.start w;refine aj (N := 14) (l := [.int .i64 z, .slice A n c]) Tryz.func107 rfl rfl (by simp) ?_;refine sr ?_;refine bR hh ?_;intro b4 w4 hh;refine aa (ah ?_);refine aY 8 [[(1, none)], [(5, some 0)], [(1, none)], [(7, some 2)], [(0, none)], [(9, some 4)], [(8, some 3), (10, some 5)], [(11, some 6)]] [(7, 12), (6, 11), (5, 10), (4, 9), (3, 8), (2, 7), (1, 6), (0, 5)] hh mixed Tz ?_;refine gk ?_;refine CP ?_;refine gk ?_;refine aR (i := 3) (Is (.string ⟨(es).toArray⟩)) Is.ext ?_ ?_
 ·intro ρ1 w1 hj hR;exact fC rfl (kq (l := es) bg.out bg.out bg.out (show ρ1 7 = Value.slice _ _ _ from hR.1) (hS.ext hj.hp.below)) ⟨Below.refl _ _, rfl⟩
 refine dE ?_;refine dC (fun _ hj => k5 z _ Tx Tx) ?_;refine dB [_,_,_,_] ?_;refine aR (i := 7) (ve hh.sz 96 1 4 (az TR.cells [⟨str es, er z⟩])) (ve.ext) ?_ ?_
 ·intro ρ1 w1 hj hR;exact OU (sz := 4) bg.out aN.out (show wI ρ1 [(0, .tmp 11)] = [(0, .agg #[.string (str es), .bool (er z).neg, .string (er z).bo, .int .i64 (er z).e])] from aK (show ρ1 11 = _ from hR.1) bP) rfl rfl Ty Ty rfl Ty hj.bl.size fun v w2 h hb => ⟨hb, h⟩
 refine aT ?_;intro f W hJ hV;have hb_1 := hJ.bl;obtain ⟨v12, v11, v10, v9, v8, v7, v6, v5, _⟩ := hV;obtain ⟨A12, c12, e12, o12⟩ : ve _ _ _ _ _ (f 7) W := v12;replace hh := JJ.Hy hh hJ.hp o12;clear o12;refine a6 (bm (ae e12 (ae v11 (ae v10 (ae v9 (ae v8 (ae v7 (ae v6 (ae v5 a0))))))))) ?_;dsimp only [cg];clear e12 hJ;refine gj [_,_] ?_;refine bW hh 1 [_,_] ?_;intro ws hh;replace hh : Hp _ (_ :: .blk _ _ [_, _] _ :: _) _ := hh;refine aa (av ?_);refine AZ ?_;exact ⟨A12, c12, rfl, hh.sub (List.Sublist.cons_cons _ (List.nil_sublist _))⟩
theorem GN (p : PX) (L : Option Addr) (n c : Nat) (b : List SR) (M : Option Addr) (m mc : Nat) (ds : List Int) (A : Option Addr) (k ac : Nat) (l : List Int) (w : World) (hT : ee w) (hp : p.at_ w) (lp : p.kO 124) (hB : Sl w L n 6 (az SR.cells b)) (hb : ∀ s ∈ b, s.fin 124) (hn : n ≤ 1000) (hD : Sl w M m 1 (bF ds)) (hm : m ≤ 1000) (hmc : m ≤ mc)
  (hgr : eZ (124 + 124 + 16394) (gJ p.v p.ts) (124 + 1) ≤ 440000) (hS : Sl w A k 1 (bF l)) (hl : ∀ z ∈ l, z.natAbs < 256) (hk : k ≤ 1000) (hE : jt p b ds = 0) (hX : pR (KA p ds) (da p (br b)).2 = l.map fun z : Int => (z : Dyadic)) :
  Calls Tryz.prog 106 #[.agg #[.int .i64 p.v, .slice p.A p.n p.c], .slice L n c, .slice M m mc, .slice A k ac] w fun r w' => r = .returned (.bool true) ∧ Below w.heap.size w w' := by
 have hh := Hp.start w;have hof := fun w1 hT1 hb1 => kY p L n c b M m mc ds 124 w1 hT1 (hp.ext hb1) lp (hB.ext hb1) hb Tx (hD.ext hb1) Tx hmc Ty (fun _ => hgr);rw [hE, hX] at hof;have hro := fun w1 hb1 => lu l A k ac w1 (hS.ext hb1) hl hk;have hll : l.length = k := by have := hS.1; rw [bU] at this; omega
 refine aj (N := 27) (l := [.agg #[.int .i64 p.v, .slice p.A p.n p.c], .slice L n c, .slice M m mc, .slice A k ac]) Tryz.func106 rfl rfl (by simp) ?_;refine sr ?_;refine cx hh [_,_] ?_;intro b4 w4 hh;refine aB (aa (sr ?_));refine cD hh 0 [_,_] (mL (mL ?_));refine aE (hof _ (hT.hp hh) hh.below) ak.out rfl Ty ?_;rintro e_ w15 ⟨g, og, rfl, h4⟩;refine ⟨_, rfl, ?_⟩;replace hh := hh.join h4;clear h4;simp only [List.cons_append, List.nil_append] at hh;have hcs : g.cs = l.map er := by
  rw [og.cs];show (l.map fun z : Int => (z : Dyadic)).map nR = _;rw [List.map_map]
  rfl
 replace hh := show Hp w (.row g.B g.m g.b 65 3 (az NR.cells g.cs) :: .row g.A g.n g.a 3 1 (bF g.ds) :: _) _ from hh;rw [hcs] at hh;have hgm : g.m = k := by have := (hh.aC (i := 0) rfl).bk NR.len Ty; rw [List.length_map] at this; omega
 refine mT ?_;refine dq ?_;refine dq ?_;refine bR hh ?_;intro b9 w9 hh;refine bW hh 0 [_,_] ?_;intro ws hh;replace hh : Hp _ (.blk _ _ [_, _] _ :: _) _ := hh;refine aI (aa (ah ?_));refine aY 7 [[(10, none)], [(18, some 0)], [(19, some 1)], [(9, none), (20, some 2)], [(21, some 3), (20, some 2)], [(3, none), (20, some 2)], [(23, some 5), (20, some 2)]] [(6, 24), (5, 23), (4, 22), (3, 21), (2, 20), (1, 19), (0, 18)] hh mixed Tz ?_;refine dE ?_;refine yi ?_;refine nJ ?_;refine dG (dV ?_);refine dG (fJ 0 ?_);refine dG (gk ?_);refine aR (i := 6) (Rows k 3 (az NR.cells (l.map er))) (Rows.ext) ?_ ?_
 ·intro ρ1 w1 hj hR;exact a7 rfl (show ρ1 20 = Value.bool _ from hR.2.1) (a8 rfl (aM ak.out (aw (show ρ1 23 = Value.slice _ _ _ from hR.1) aX)) (hro w1 hj.hp.below) (fun _ _ ⟨B, c', hq, h3⟩ => ⟨_, hq, h3.below, B, c', rfl, h3.aC (i := 0) rfl⟩))
 refine aT ?_;intro f W hJ hV;have hb_2 := hJ.bl;obtain ⟨v24, v23, v22, v21, v20, v19, v18, _⟩ := hV;obtain ⟨A24, c24, e24, f24⟩ : Rows _ _ _ (f 6) W := v24;replace hh := hJ.hp;refine a6 (bm (ae e24 (ae v23 (ae v22 (ae v21 (ae v20 (ae v19 (ae v18 a0)))))))) ?_;dsimp only [cg];clear e24 hJ;have hsg := hh.aC (i := 1) rfl;rw [hgm];rw [hgm] at hsg;refine aH rfl rfl ?_;refine bz hh (j4 g.B k g.b (l.map er) A24 c24 _ hsg f24 Tx) rfl ?_;intro w25 hh;refine fu ?_;exact vi
theorem wD (j : Nat) : j % 2 = 0 ∧ (-1 : Dyadic) ^ j = 1 ∨ j % 2 = 1 ∧ (-1 : Dyadic) ^ j = -1 := by
 induction j with
 | zero => exact .inl ⟨rfl, by grind⟩
 | succ n ih =>
  rcases ih with ⟨h, e⟩ | ⟨h, e⟩
  ·exact .inr ⟨Tx, by grind⟩
  ·exact .inl ⟨Tx, by grind⟩
theorem BF {ns : List Nat} {i d : Nat} (h : ns[i]? = some d) : ns.reverse = (ns.drop (i + 1)).reverse ++ d :: (ns.take i).reverse := by
 exact Qs
theorem tI (L : Option Addr) (n c d : Nat) (xs : List Dyadic) (k : Nat) (w : World) (hT : ee w) (hS : Sl w L n 3 (az NR.cells (xs.map nR))) (hn : n = d + 1) (hd : d ≤ 127) (hx : ∀ x ∈ xs, Sz k x) (hk : k ≤ 500000) :
  Calls Tryz.prog 116 #[.slice L n c] w fun r w' => ∃ A c', r = .returned (.slice A n c') ∧ Hp w [.row A n c' 65 3 (az NR.cells ((kf d (eb d 1 (-1)) xs).map nR))] w' := by
 have hh := Hp.start w;have hln : xs.length = n := by have := hS.bk NR.len Ty; simpa using this
 have ha : Sz 1 1 := Sz.one;obtain ⟨ad, rfl, hr⟩ := hS.at_ Tx;refine aj (N := 57) (l := [.slice (some ad) n c]) Tryz.func116 rfl rfl (by simp) ?_;refine sr (aL (aa (sr (mL (aJ ?_)))));refine dT (aI (aa (sr (mI ?_))));refine bh ?_;refine Iu ?_;intro b14 w14 hh;refine rz ?_;rw [ni, hn, ← tE d 1 (-1) xs, ← hn] at hh;refine aP [5, 6, 7, 8, 17, 18, 19, 20, 21, 22, 23, 24, 25, 26, 27, 28, 29, 30, 31, 32, 33, 34, 35, 36, 37, 38, 39, 40, 41, 42, 43, 44, 45, 46, 47, 48, 49, 50, 51, 52, 53, 54, 55] 17
  (fun v w' => ∃ i : Nat, i ≤ n ∧ v = .int .i64 i ∧ Hp w [.row (some ⟨b14, 0, none⟩) n n 65 3 (az NR.cells ((iE d 1 (-1) xs i 0).map nR))] w')
  (fun v _ => n - (intOf v).toNat) ?_ ?_
 ·exact ⟨0, Nat.zero_le _, rfl, hh⟩
 ·clear hh;rintro ρ' v w' ⟨i, hi, rfl, hh⟩;by_cases hlt : i < n
  ·obtain ⟨x, hxi⟩ := ao (l := xs) (k := i) Tx;have hxn : (xs.map nR)[i]? = some (nR x) := by rw [List.getElem?_map, hxi]; rfl
   have hat : jo xs i = x := by unfold jo; rw [hxi]; rfl
   have zx := hx x (List.mem_of_getElem? hxi);have hch := fun w1 hT1 => kv (d - i) w1 hT1 Tx;refine sr ?_;refine dZ ?_;refine cn ?_;refine JQ ?_;refine bR hh ?_;intro b6 w6 hh;refine aI ?_;refine bW hh 0 [_,_,_] ?_;intro ws hh;replace hh : Hp _ (.blk _ _ [_, _, _] _ :: _) _ := hh;refine aa (sr (mI (mI ?_)));refine dT ?_;have e24 : (n : Int) - 1 - (i : Int) = ((d - i : Nat) : Int) := Tx;rw [← e24] at hch;refine aE (hch _ (hT.hp hh)) ak.out rfl Ty ?_;rintro e_ w25 ⟨A25, c25, rfl, hown_, hb_⟩;refine ⟨_, rfl, ?_⟩;replace hh := hh.aV (x := .row _ _ _ _ _ _) hb_ hown_;refine aJ (mI (aa (aq ?_)));replace hh := hh.sub (List.Sublist.cons_cons _ (List.Sublist.cons_cons _ (List.Sublist.cons_cons _ List.Sublist.slnil)));refine aP [7, 8, 27, 28, 29, 30, 31, 32, 33, 34, 35, 36, 37, 38, 39, 40, 41, 42, 43, 44, 45, 46, 47, 48, 49, 50, 51, 52, 53, 54] 27
    (fun v w' => ∃ j : Nat, j ≤ d - i + 1 ∧ v = .int .i64 j ∧ Hp w [.row A25 (d - i + 1) c25 65 3 (az NR.cells (kJ (d - i))), .blk b6 65 [.bool (nR x).neg, .string (nR x).bo, .int .i64 (nR x).e] (0, 0), .row (some ⟨b14, 0, none⟩) n n 65 3 (az NR.cells ((iE d 1 (-1) xs i j).map nR))] w')
    (fun v _ => d - i + 1 - (intOf v).toNat) ?_ ?_
   ·exact ⟨0, Nat.zero_le _, rfl, hh⟩
   ·clear hh;rintro ρ2 v w2 ⟨j, hj, rfl, hh⟩;by_cases hjn : j < d - i + 1
    ·have hbn : (kJ (d - i))[j]? = some (nR (nD (bin (d - i) j))) := j6 Tx;have zb := qz (d - i) j Tx;obtain ⟨o, ho⟩ := ao (l := iE d 1 (-1) xs i j) (k := i + j) (by rw [jN]; omega);have hon : ((iE d 1 (-1) xs i j).map nR)[i + j]? = some (nR o) := by rw [List.getElem?_map, ho]; rfl
     have zo := E9 (j := j) hx ha (show Sz 1 (-1 : Dyadic) from Sz.one.neg) hd (show i ≤ d + 1 by omega) o (List.mem_of_getElem? ho);have zy := zx.mul zb;have hset := Au (a := 1) (b := -1) (xs := xs) (show i + j ≤ d by omega) ho;have hval : jo xs i * eb d 1 (-1) i (i + j) = x * (nD (bin (d - i) j) * (-1 : Dyadic) ^ j) := by
      unfold eb;rw [hat, if_neg Tx, show i + j - i = j by omega, iT];generalize nD (bin (d - i) j) = u;generalize (-1 : Dyadic) ^ j = e;grind
     rw [hval] at hset;have zu : Sz (130 + 1) (nD (bin (d - i) j) * (-1 : Dyadic) ^ j) := by
      rcases wD j with e | e
      ·rw [e.2, Dyadic.mul_one]; exact zb.mono Tx
      ·rw [e.2, show nD (bin (d - i) j) * (-1 : Dyadic) = - nD (bin (d - i) j) by grind]; exact zb.neg.mono Tx
     have zbo : (nR (nD (bin (d - i) j))).ok := zb.ok Tx;have hng := fun w1 hT1 => nY (nR (nD (bin (d - i) j))) w1 hT1 (by have := zbo.1; omega) (by have := zbo.2.1; omega) (by have := zbo.2.2; omega);rw [cf] at hng;have hsg := wD j;have hll : ((iE d 1 (-1) xs i j).map nR).length = n := by rw [List.length_map, jN]; omega
     generalize iE d 1 (-1) xs i j = S at *;obtain ⟨gw, rfl⟩ := hh.cd (i := 0) rfl Tx;refine sr ?_;refine dZ ?_;refine rn ?_;refine MM ?_
     rcases hsg with ⟨h2, he⟩ | ⟨h2, he⟩
     ·refine bR hh ?_;intro b8 w8 hh;refine aI ?_;refine bW hh 0 [_,_,_] ?_;intro ws hh;replace hh : Hp _ (.blk _ _ [_, _, _] _ :: _) _ := hh;refine aa (ah (sr (mI ?_)));refine He rfl rfl Ty ?_;refine cW (aa (cF (ar (ai ?_))));rw [he, Dyadic.mul_one] at hset zu;generalize nD (bin (d - i) j) = u at *;exact Nv
     ·refine bR hh ?_;intro b8 w8 hh;refine aI ?_;refine bW hh 0 [_,_,_] ?_;intro ws hh;replace hh : Hp _ (.blk _ _ [_, _, _] _ :: _) _ := hh;refine aa (ah (sr (mI ?_)));refine He rfl rfl Ty ?_;refine cW (aa (cT (al ?_)));refine cD hh 0 [_,_,_] ?_;refine bz hh (hng _ (hT.hp hh)) rfl ?_;intro w36 hh;rw [he, show nD (bin (d - i) j) * (-1 : Dyadic) = - nD (bin (d - i) j) by grind] at hset zu;refine bW hh 0 [_,_,_] ?_;intro ws hh;replace hh : Hp _ (.blk _ _ [_, _, _] _ :: _) _ := hh;refine aa ?_;generalize - nD (bin (d - i) j) = u at *;exact Nv
    ·exact Nd
  ·obtain rfl : i = n := Tx;rw [show iE d 1 (-1) xs i 0 = kf d (eb d 1 (-1)) xs by rw [hn, wV]] at hh;exact PS
theorem SH (z : Int) (h : z.natAbs < 256) : Sz 24 (z : Dyadic) := KV (e := 0) h Ty Ty
def KL (d : Nat) (xs : List Dyadic) (i : Nat) : Dyadic := jo xs (i + 1) * (((i : Int) + 1 : Int) : Dyadic) - jo xs i * (((d : Int) - (i : Int) : Int) : Dyadic)
def qf (d : Nat) (xs : List Dyadic) : List Dyadic := (List.range d).map (KL d xs)
theorem Bv (d : Nat) (xs : List Dyadic) : (qf d xs).length = d := by simp [qf]
theorem Mt {d i : Nat} {xs : List Dyadic} (h : i < d) : (qf d xs)[i]? = some (KL d xs i) := by
 unfold qf;rw [List.getElem?_map, List.getElem?_range h]
 rfl
theorem yW (L : Option Addr) (n c d : Nat) (xs : List Dyadic) (k : Nat) (w : World) (hT : ee w) (hS : Sl w L n 3 (az NR.cells (xs.map nR))) (hn : n = d + 1) (hd : d ≤ 127) (hx : ∀ x ∈ xs, Sz k x) (hk : k ≤ 500000) :
  Calls Tryz.prog 145 #[.slice L n c] w fun r w' => ∃ A c', r = .returned (.slice A d c') ∧ Hp w [.row A d c' 65 3 (az NR.cells ((qf d xs).map nR))] w' := by
 have hh := Hp.start w;have hln : xs.length = n := by have := hS.bk NR.len Ty; simpa using this
 obtain ⟨ad, rfl, hr⟩ := hS.at_ Tx;have hsl := Bv d xs;refine aj (N := 41) (l := [.slice (some ad) n c]) Tryz.func145 rfl rfl (by simp) ?_;refine sr (aL (aa (sr (mL (aJ ?_)))));refine dT (aI (aa (sr (aL (aa (ah (sr (mI (mI (aa (aq ?_)))))))))));replace hh := hh.db 65 3;refine bJ [4, 5, 6, 11, 12, 13, 14, 15, 16, 17, 18, 19, 20, 21, 22, 23, 24, 25, 26, 27, 28, 29, 30, 31, 32, 33, 34, 35, 36, 37, 38, 39] 4 11
  (fun a v w' => ∃ (i : Nat) (A : Option Addr) (ac : Nat), i ≤ d ∧ v = .int .i64 i ∧ a = .slice A i ac ∧ Hp w [.row A i ac 65 3 (az NR.cells (((qf d xs).take i).map nR))] w')
  (fun _ v _ => d - (intOf v).toNat) ?_ ?_
 ·exact ⟨0, none, 0, Nat.zero_le _, rfl, rfl, hh⟩
 ·clear hh;rintro ρ' a_ v w' ⟨i, A, ac, hi, rfl, rfl, hh⟩;by_cases hlt : i < d
  ·obtain ⟨x, hxi⟩ := ao (l := xs) (k := i) Tx;obtain ⟨y, hyi⟩ := ao (l := xs) (k := i + 1) Tx;have hxn : (xs.map nR)[i]? = some (nR x) := by rw [List.getElem?_map, hxi]; rfl
   have hyn : (xs.map nR)[i + 1]? = some (nR y) := by rw [List.getElem?_map, hyi]; rfl
   have zx := hx x (List.mem_of_getElem? hxi);have zy := hx y (List.mem_of_getElem? hyi);have z1 := SH ((i : Int) + 1) Tx;have z2 := SH ((d : Int) - (i : Int)) Tx;have hv : KL d xs i = y * (((i : Int) + 1 : Int) : Dyadic) - x * (((d : Int) - (i : Int) : Int) : Dyadic) := by
    unfold KL jo;rw [hxi, hyi]
    rfl
   have hat := Mt (xs := xs) hlt;rw [hv] at hat;have hof1 := fun w1 hT1 => kS ((i : Int) + 1) w1 hT1 Tx Tx;have hof2 := fun w1 hT1 => kS ((d : Int) - (i : Int)) w1 hT1 Tx Tx;generalize (((i : Int) + 1 : Int) : Dyadic) = e1 at *;generalize (((d : Int) - (i : Int) : Int) : Dyadic) = e2 at *;rw [show (d : Int) - (i : Int) = (n : Int) - 1 - (i : Int) by omega] at hof2;have zp := zy.mul z1;have zq := zx.mul z2;have hm1 := fun A cc w1 hT1 hS1 => ew A 2 cc [nR y, nR e1] w1 hT1 hS1 (by simpa using ⟨zy.ok Tx, z1.ok Tx⟩) 600000 (by simpa [cf] using ⟨zy.mono Tx, z1.mono Tx⟩) Tx Tx;rw [show ic ([nR y, nR e1].map NR.d) = y * e1 by simp only [List.map_cons, List.map_nil, cf]; show 1 * y * _ = _; rw [Dyadic.one_mul]] at hm1;have hm2 := fun A cc w1 hT1 hS1 => ew A 2 cc [nR x, nR e2] w1 hT1 hS1 (by simpa using ⟨zx.ok Tx, z2.ok Tx⟩) 600000 (by simpa [cf] using ⟨zx.mono Tx, z2.mono Tx⟩) Tx Tx;rw [show ic ([nR x, nR e2].map NR.d) = x * e2 by simp only [List.map_cons, List.map_nil, cf]; show 1 * x * _ = _; rw [Dyadic.one_mul]] at hm2;generalize y * e1 = p at *;generalize x * e2 = q at *
   have hsb := fun w1 hT1 => lG (nR p) (nR q) w1 hT1 (zp.ok Tx) (zq.ok Tx) (k + 24) (by rw [cf]; exact zp) (by rw [cf]; exact zq) Tx;rw [cf, cf] at hsb;refine sr ?_;refine bf (aa (ah (cT (ar (ai (ah (aq (sr (mI (aI (aa (ah ?_))))))))))));refine aY 11 [[(0, none)], [(5, none)], [(15, some 1)], [(14, some 0), (16, some 2)], [(17, some 3)], [(5, none)], [(19, some 5)], [(20, some 6)], [(18, some 4), (21, some 7)], [(22, some 8)], []] [(10, 6), (9, 23), (8, 22), (7, 21), (6, 20), (5, 19), (4, 18), (3, 17), (2, 16), (1, 15), (0, 14)] hh mixed Tz ?_;refine gk ?_;refine dE ?_;refine rP ?_;refine bp (i := 3) (fun ρ1 w1 hj hR => dy bg.out aN.size (show ρ1 14 = Value.slice _ _ _ from hR.1) (show ρ1 16 = Value.int _ _ from hR.2.1) Tx Tx) ?_;refine pE [_,_,_] (fun _ hj => (hr.ext hj.hp.below).recAt NR.len hyn) ?_;refine dE ?_;refine rP ?_;refine dC (fun _ hj => hof1 _ (hT.hp hj.hp)) ?_;refine sC [_,_,_,_,_,_] ?_;refine aR (i := 9) (Is (.agg #[.bool (nR p).neg, .string (nR p).bo, .int .i64 (nR p).e])) Is.ext ?_ ?_
   ·intro ρ1 w1 hj hR;obtain ⟨A22, c22, h22, s22⟩ := hR.1;exact a8 rfl (aM ak.out (aw h22 aX)) (hm1 A22 c22 _ (hT.hp hj.hp) s22) (fun _ _ hq => ⟨_, hq.1, hq.2, rfl⟩)
   refine aR (i := 10) (dr _ 65 _) dr.ext (fun ρ1 w1 hj hR => jV aN.out hj.bl (fun v w2 h hb => ⟨hb, h⟩)) ?_;refine aT ?_;intro f W hJ hV;have hb_6 := hJ.bl;obtain ⟨v6, v23, v22, v21, v20, v19, v18, v17, v16, v15, v14, _⟩ := hV;obtain ⟨A22, c22, e22, f22⟩ : Rows _ _ _ (f 8) W := v22;obtain ⟨b6, e6, hl6, hc6⟩ : dr _ _ _ (f 10) W := v6;replace hh := hJ.newVar hh hl6 hc6;refine a6 (bm (ae e6 (ae v23 (ae e22 (ae v21 (ae v20 (ae v19 (ae v18 (ae v17 (ae v16 (ae v15 (ae v14 a0)))))))))))) ?_;dsimp only [cg];clear e22 e6 hJ;refine bW hh 0 [_,_,_] ?_;intro ws hh;replace hh : Hp _ (.blk _ _ [_, _, _] _ :: _) _ := hh;refine aa ?_;refine aY 14 [[(4, none)], [(6, none)], [(0, none)], [(5, none)], [(26, some 2), (27, some 3)], [(28, some 4)], [(3, none)], [(5, none)], [(30, some 6), (31, some 7)], [(32, some 8)], [(29, some 5), (33, some 9)], [(34, some 10)], [(25, some 1), (35, some 11)], [(36, some 12)]] [(13, 37), (12, 36), (11, 35), (10, 34), (9, 33), (8, 32), (7, 31), (6, 30), (5, 29), (4, 28), (3, 27), (2, 26), (1, 25), (0, 24)] hh mixed Tz ?_;refine gk ?_;refine fT 0 [_,_,_] ?_;refine gk ?_;refine dE ?_
   refine bp (i := 4) (fun ρ1 w1 hj hR => dy bg.out aN.size (show ρ1 26 = Value.slice _ _ _ from hR.1) (show ρ1 27 = Value.int _ _ from hR.2.1) Tx Tx) ?_;refine pE [_,_,_] (fun _ hj => (hr.ext hj.hp.below).recAt NR.len hxn) ?_;refine dE ?_;refine dE ?_;refine uX ?_;refine dC (fun _ hj => hof2 _ (hT.hp hj.hp)) ?_;refine sC [_,_,_,_,_,_] ?_;refine aR (i := 11) (Is (.agg #[.bool (nR q).neg, .string (nR q).bo, .int .i64 (nR q).e])) Is.ext ?_ ?_
   ·intro ρ1 w1 hj hR;obtain ⟨A34, c34, h34, s34⟩ := hR.1;exact a8 rfl (aM ak.out (aw h34 aX)) (hm2 A34 c34 _ (hT.hp hj.hp) s34) (fun _ _ hq => ⟨_, hq.1, hq.2, rfl⟩)
   refine dC (fun _ hj => hsb _ (hT.hp hj.hp)) ?_;refine sC [_,_,_] ?_;refine aT ?_;intro f W hJ hV;have hb_7 := hJ.bl;obtain ⟨v37, v36, v35, v34, v33, v32, v31, v30, v29, v28, v27, v26, v25, v24, _⟩ := hV;obtain ⟨A34, c34, e34, f34⟩ : Rows _ _ _ (f 10) W := v34;obtain ⟨A37, c37, e37, f37⟩ : Rows _ _ _ (f 13) W := v37;replace hh := hJ.hp;refine a6 (bm (ae e37 (ae v36 (ae v35 (ae e34 (ae v33 (ae v32 (ae v31 (ae v30 (ae v29 (ae v28 (ae v27 (ae v26 (ae v25 (ae v24 a0))))))))))))))) ?_;dsimp only [cg];clear e34 e37 hJ;refine cJ hh (i := 1) rfl rfl rfl (f37) bg.out aN.out rfl Ty (by first | rfl | exact dN _ | exact dm _ | exact bX _ | exact cq NR.one _) Tx Tx Ty ?_;intro A38 c38 w38 hh;simp only [List.set_cons_zero, List.set_cons_succ] at hh;refine k8 ?_;refine bh (mI (aA (ai ?_)));have e1 : az NR.cells (((qf d xs).take i).map nR) ++ [.bool (nR (p - q)).neg, .string (nR (p - q)).bo, .int .i64 (nR (p - q)).e] = az NR.cells (((qf d xs).take (i + 1)).map nR) := by rw [ay hat, List.map_append, bV, List.map_cons, List.map_nil, jI]; rfl
   rw [e1] at hh;replace hh := hh.sub (List.Sublist.cons _ (List.Sublist.refl _));refine ⟨⟨i + 1, A38, c38, Tx, rfl, rfl, hh⟩, by show d - (i + 1) < d - i; omega, ?_⟩;exact dL
  ·obtain rfl : i = d := Tx;rw [List.take_of_length_le Tx] at hh;exact PS
end Go.Proofs.YteeckcbbnegmcaaGreatDoor
