/- The row and the card of LiftSame. -/
import Derived.RangeFuncFrom
import Derived.RangeFuncCalls
import Derived.RangeFuncLeaves
import Derived.Shelf.Abstract
import Derived.OrdersIn
import Derived.Test.YtaapkaefelhfcaaGreatDoorCards
import Derived.Test.YtaapkaefelhfcaaGreatDoorTie
import Derived.SevenTiedAt
import Derived.Test.YtaapkaefelhfcaaGreatDoorZ6
/- The walk through calc.put. -/
namespace Go.Proofs.YtaapkaefelhfcaaGreatDoor
open Go.RowKit
theorem JJ.Gh {w0 w W w1 : World} {H L : List HE} (hJ : JJ w0 H w W) (hs : Hp w0 H w) (hb : w.heap.size ≤ w1.heap.size) (hL : Hp w1 L W) : Hp w0 (L ++ H) W :=
 hs.join (⟨hJ.bl, fun x hx => lO (hL.own x hx) hb, hL.nd⟩ : Hp w L W)
def nx (base : Nat) (E v : Int) (ts : List TR) : VP := kH base E v ts
theorem nx.ext {base : Nat} {E v : Int} {ts : List TR} (x : Value) (w w' : World) (h : nx base E v ts x w) (hb : Below w.heap.size w w') : nx base E v ts x w' := kH.ext x w w' h hb
theorem vQ (v : Int) : a6 [⟨fR v, nR 0⟩] = [] := by
 unfold a6 la vl
 rfl
theorem yI (lA : Option Addr) (lc K T c0 : Nat) (v : Int) (ls : List PX) (hv : iB v = true) (hlc : ls.length ≤ lc) (hl12 : ls.length ≤ 12) (hls : ∀ g ∈ ls, jh v K g.ts ∧ g.v = v ∧ g.iu K ∧ g.ts.length ≤ T) (hc0 : K + 4096 * T + 8192 ≤ c0) (hc1 : c0 ≤ 440000) :
  ∀ (qs : List PX) (j : Nat) (p : List TR) (A : Option Addr) (n c : Nat) (ds : List Nat) (k : Nat) (w : World), ls.drop j = qs → j ≤ ls.length → eP w → Sl w lA ls.length 2 (aY PX.cells ls) → (∀ g ∈ ls, g.at_ w) → Sl w A n 4 (aY TR.cells p) → n ≤ c → Eu ls.length j p → jq k p → n ≤ 4096 → ds.length = qs.length → (∀ (i d : Nat), ds[i]? = some d → d ≤ 127 ∧ ∀ t ∈ p, jB (j + i) t ≤ d) → iU c0 ds (k + 1) ≤ 440000 →
  Calls Tryz.prog 99 #[.slice A n c, .int .i64 j, .slice lA ls.length lc, .int .i64 v] w fun r w' => ∃ g : PX, eD (fK v (qs.map PX.ts) j p).1 v (fK v (qs.map PX.ts) j p).2 g ∧ r = .returned (.tuple #[.agg #[.int .i64 g.v, .slice g.A g.n g.c], .int .i64 (fK v (qs.map PX.ts) j p).1]) ∧ Hp w [g.row] w' := by
 intro qs;have hK : K ≤ 440000 := Ky;have hco : xc v = 0 := if_neg (by rw [hv]; decide)
 induction qs with
 | nil =>
  intro j p A n c ds k w hq hj hT hL hat hS hnc hsr hok hn hds hD hB;have hh := Hp.start w;have hln := hS.bM TR.len Kz;obtain rfl : j = ls.length := by
   have := congrArg List.length hq;rw [List.length_drop] at this;simp only [List.length_nil] at this;omega
  obtain rfl : ds = [] := List.length_eq_zero_iff.1 hds;rw [oK] at hB;have hcn := fun c hc w1 hT1 => kI v c k w1 hT1 hc Ky;rw [hco] at hcn
  cases p with
  | nil =>
   obtain rfl : n = 0 := by simpa using hln.symm
   show Calls _ _ _ _ fun r w' => ∃ g : PX, eD 0 v (a6 [⟨fR v, nR 0⟩]) g ∧ r = .returned (.tuple #[.agg #[.int .i64 g.v, .slice g.A g.n g.c], .int .i64 0]) ∧ Hp w [g.row] w';refine al (N := 118) (l := [.slice A 0 c, .int .i64 ls.length, .slice lA ls.length lc, .int .i64 v]) Tryz.func99 rfl rfl (by simp) ?_;refine sr ?_;refine cB hh ?_;intro b8 w8 hh;refine aI (aa (ah (sr (mI (mL (aW ?_))))));refine dh (aa (cT (ah (sr (mL (aW ?_))))));refine dh (aa (cT (sr (mI ?_))));refine e9 [_,_,_] ?_;refine aN (hcn (nR 0) ⟨(Sz.zero k).ok Ky, by rw [dK]; exact Sz.zero k⟩ _ (hT.hp hh)) aw.out rfl Kz ?_;rintro e_ w25 ⟨g, og, rfl, h3⟩;refine ⟨_, rfl, ?_⟩;replace hh := hh.join h3;simp only [List.cons_append, List.nil_append] at hh;refine dI ?_;refine dI ?_;refine bK hh 1 [_,_] ?_;intro ws hh;replace hh : Hp _ (_ :: .blk _ _ [_, _] _ :: _) _ := hh;refine aI (aa (ao (aG (aG ?_))));refine jG (aT rfl (aU (vs := [_, _]) aF.out (hh.aC (i := 1) (n := 2) rfl rfl) rfl) (cw (cM rfl) bq)) ?_;exact ⟨g, og, rfl, hh.sub (List.Sublist.cons_cons _ (List.nil_sublist _))⟩
  | cons t p =>
   have hn1 : p.length + 1 = n := by simpa using hln
   have ht := hok t List.mem_cons_self;obtain ⟨ad, rfl, hr⟩ := hS.at_ Ky;show Calls _ _ _ _ fun r w' => ∃ g : PX, eD 0 v (a6 [⟨fR v, t.c⟩]) g ∧ r = .returned (.tuple #[.agg #[.int .i64 g.v, .slice g.A g.n g.c], .int .i64 0]) ∧ Hp w [g.row] w';refine al (N := 118) (l := [.slice (some ad) n c, .int .i64 ls.length, .slice lA ls.length lc, .int .i64 v]) Tryz.func99 rfl rfl (by simp) ?_;refine sr ?_;refine cB hh ?_;intro b8 w8 hh;refine aI (aa (ah (sr (mI (mL (aW ?_))))));refine dh (aa (cT (ah (sr (mL (aW ?_))))));refine dh (aa (cF (ak (ai (sr (mI (mL ?_)))))));refine aD (k := 0) aQ.out aF.size rfl rfl Ky Ky Kz ?_;refine dR eK.out rfl Kz ?_;refine bJ (vs := [_, _, _]) aF.out rfl (((hr.ext hh.below).recAt TR.len (show (t :: p)[0]? = some t from rfl)).drop 1) rfl Kz ?_;refine aN (hcn t.c ht _ (hT.hp hh)) aw.out rfl Kz ?_;rintro e_ w33 ⟨g, og, rfl, h3⟩;refine ⟨_, rfl, ?_⟩;replace hh := hh.join h3;simp only [List.cons_append, List.nil_append] at hh;refine dI ?_;refine dI ?_;refine bK hh 1 [_,_] ?_;intro ws hh;replace hh : Hp _ (_ :: .blk _ _ [_, _] _ :: _) _ := hh;refine aI (aa (ao (aG ?_)))
   refine jG (aT rfl (aU (vs := [_, _]) aF.out (hh.aC (i := 1) (n := 2) rfl rfl) rfl) (cw (cM rfl) bq)) ?_;exact ⟨g, og, rfl, hh.sub (List.Sublist.cons_cons _ (List.nil_sublist _))⟩
 | cons q qs ih =>
  intro j p A n c ds k w hq hj hT hL hat hS hnc hsr hok hn hds hD hB;have hh := Hp.start w;have hln := hS.bM TR.len Kz
  cases ds with
  | nil => cases hds
  | cons d ds =>
   have hd := hD 0 d rfl;have hjl : j < ls.length := by
    rcases Nat.lt_or_ge j ls.length with h | h
    ·exact h
    ·rw [List.drop_of_length_le h] at hq; cases hq
   have hqj : ls[j]? = some q := by rw [← List.head?_drop, hq]; rfl
   have hqs : ls.drop (j + 1) = qs := by rw [← List.tail_drop, hq]; rfl
   obtain ⟨hqk, hqv, hql, hqT⟩ := hls q (List.mem_of_getElem? hqj);rw [mM] at hB;have hB1 : iU c0 ds (k + 1) ≤ 440000 := Ky;have hmono := hsr.mono Ky;rw [List.map_cons];show Calls _ _ _ _ fun r w' => ∃ g : PX, eD (cj q.ts (fK v (qs.map PX.ts) (j + 1)) p j 128).1 v (cj q.ts (fK v (qs.map PX.ts) (j + 1)) p j 128).2 g ∧ r = .returned (.tuple #[.agg #[.int .i64 g.v, .slice g.A g.n g.c], .int .i64 (cj q.ts (fK v (qs.map PX.ts) (j + 1)) p j 128).1]) ∧ Hp w [g.row] w';have hDs : ∀ n (i e : Nat), ds[i]? = some e → e ≤ 127 ∧ ∀ t ∈ ck p j n, jB (j + 1 + i) t ≤ e := fun n i e he => by
    have h2 := hD (i + 1) e (by simpa using he);refine ⟨h2.1, fun t ht => ?_⟩;have h3 := h2.2 t (il t ht);rwa [show j + 1 + i = j + (i + 1) by omega]
   have hrec : ∀ (m fr en : Nat) (w1 : World), eP w1 → Below w.heap.size w w1 → fr ≤ en → en ≤ n → ck p j m = (p.drop fr).take (en - fr) → Calls Tryz.prog 99 #[.slice (if c = fr then A else A.map (·.add (fr * 4))) (en - fr) (c - fr), .int .i64 ((j : Int) + 1), .slice lA ls.length lc, .int .i64 v] w1 fun r w' => ∃ g : PX, eD (fK v (qs.map PX.ts) (j + 1) (ck p j m)).1 v (fK v (qs.map PX.ts) (j + 1) (ck p j m)).2 g ∧ r = .returned (.tuple #[.agg #[.int .i64 g.v, .slice g.A g.n g.c], .int .i64 (fK v (qs.map PX.ts) (j + 1) (ck p j m)).1]) ∧ Hp w1 [g.row] w' := fun m fr en w1 hT1 hb h1 h2 hw => by
    have hcut := (hS.ext hb).cut h1 h2 hnc;rw [km TR.len, l8 TR.len, ← hw] at hcut;exact ih (j + 1) (ck p j m) _ (en - fr) (c - fr) ds k w1 hqs Ky hT1 (hL.ext hb) (fun g hg => (hat g hg).ext hb) hcut Ky (hsr.with Ky) (fun t ht => hok t (il t ht)) Ky (by simpa using hds) (hDs m) hB1
   have hsub : ∀ m, (fK v (qs.map PX.ts) (j + 1) (ck p j m)).1 = 0 → jh v (iU c0 ds (k + 1)) (fK v (qs.map PX.ts) (j + 1) (ck p j m)).2 := fun m hm => by
    refine Ao hv hc0 (qs.map PX.ts) (j + 1) (ck p j m) ds k (fun r hr => ?_) (fun t ht => hok t (il t ht)) (by rw [List.length_map]; simpa using hds) (hDs m) Ky hm;obtain ⟨g, hg, rfl⟩ := List.mem_map.1 hr;have := hls g (List.mem_of_mem_drop (by rw [hqs]; exact hg));exact ⟨this.1, this.2.2.2⟩
   generalize fK v (qs.map PX.ts) (j + 1) = sub at hrec hsub ⊢;have hlim := qH (sub := sub) (p := p) (j := j) hv hqk hqT hd.2 hd.1 hsub hc0 Ky;have hlim2 : ∀ i, i ≤ 128 → (cj q.ts sub p j i).1 = 0 → jh v 440000 (cj q.ts sub p j i).2 := fun i hi h0 => (hlim i hi h0).mono (by
    have : (i + d - 128) * c0 ≤ d * c0 := Nat.mul_le_mul_right _ Ky;omega)
   have hcn := fun w1 hT1 => kI v (nR 0) 0 w1 hT1 ⟨(Sz.zero 0).ok Kz, by rw [dK]; exact Sz.zero 0⟩ Kz;rw [hco, vQ] at hcn;refine al (N := 118) (l := [.slice A n c, .int .i64 j, .slice lA ls.length lc, .int .i64 v]) Tryz.func99 rfl rfl (by simp) ?_;refine sr ?_;refine cB hh ?_;intro b8 w8 hh;refine aI (aa (ah (sr (mI (mL (aW ?_))))));refine dh (aa (cF (ak (ai (sr (mI ?_))))));refine e9 [_,_,_] ?_;refine aN (hcn _ (hT.hp hh)) aw.out rfl Kz ?_;rintro e_ w39 ⟨g, og, rfl, h3⟩;refine ⟨_, rfl, ?_⟩;replace hh := hh.join h3;simp only [List.cons_append, List.nil_append] at hh;refine mT ?_;refine dI ?_;refine dI ?_;refine cB hh ?_;intro b10 w10 hh;refine bK hh 0 [_,_] ?_;intro ws hh;replace hh : Hp _ (.blk _ _ [_, _] _ :: _) _ := hh;refine aI (aa (sr (mL (aW (aI (aa (ah (sr (aI (aa (aj ?_)))))))))));refine wm [11, 12, 13, 14, 15, 44, 45, 46, 47, 48, 49, 50, 51, 52, 53, 54, 55, 56, 57, 58, 59, 60, 61, 62, 63, 64, 65, 66, 67, 68, 69, 70, 71, 72, 73, 74, 75, 76, 77, 78, 79, 80, 81, 82, 83, 84, 85, 86, 87, 88, 89, 90, 91, 92, 93, 94, 95, 96, 97, 98, 99, 100, 101, 102, 103, 104, 105, 106, 107, 108, 109, 110, 111, 112] 11 12 13
    (fun e en nv w' => ∃ (i en_ : Nat) (e_ ov : Int) (oA : Option Addr) (on oc : Nat) (os : List TR), i ≤ 128 ∧ nv = .int .i64 (127 - (i : Int)) ∧ en = .int .i64 en_ ∧ e = .int .i64 e_ ∧ e_ = (cj q.ts sub p j i).1 ∧ en_ ≤ n ∧ (e_ = 0 → ov = v ∧ os = (cj q.ts sub p j i).2 ∧ (∀ t ∈ p.take en_, jB j t < 128 - i) ∧ (∀ t ∈ p.drop en_, 128 - i ≤ jB j t)) ∧ Hp w [.blk b10 24 [.int .i64 ov, .slice oA on oc] (0, 0), .row oA on oc 55 4 (aY TR.cells os), .blk b8 24 [.int .i64 0, .slice none 0 0] (0, 0)] w')
    (fun _ _ nv _ => (intOf nv + 1).toNat) ?_ ?_
   ·refine ⟨0, n, 0, g.v, g.A, g.n, g.c, g.ts, Nat.zero_le _, rfl, rfl, rfl, rfl, Nat.le_refl _, fun _ => ⟨og.v, og.ts, fun t ht => ?_, fun t ht => ?_⟩, hh⟩
    ·obtain ⟨x, _, hx, h8⟩ := hsr.get Ky (List.mem_of_mem_take ht);rw [hx];exact h8
    ·rw [List.drop_of_length_le Ky] at ht
     cases ht
   ·clear hh og h3;rintro ρ' e_ en_ nv_ w' ⟨i, en, e, ov, oA, on, oc, os, hi, rfl, rfl, rfl, he, hen, hok0, hh⟩;by_cases hcn : i < 128 ∧ e = 0
    ·obtain ⟨hi8, rfl⟩ := hcn;obtain ⟨rfl, rfl, hlo, hhi⟩ := hok0 rfl;clear hok0;obtain ⟨m, hm⟩ : ∃ m, m = 127 - i := ⟨_, rfl⟩;rw [show (127 - (i : Int)) = (m : Int) by omega];refine ah (sr (mI ?_));refine dv (mB (gT (mI (gT ?_))));refine dh ?_;refine e7 ?_;refine aa (cT (ak (ai (ah (aj (sr (mI (aI (aa (ah (aj ?_)))))))))));refine Ee [14, 53, 54, 55, 56, 57, 58, 59, 60, 61, 62, 63, 64, 65, 66, 67, 68, 69] 14
      (fun f w' => ∃ fr : Nat, fr ≤ en ∧ f = .int .i64 fr ∧ ck p j m = (p.drop fr).take (en - fr) ∧ (∀ t ∈ p.take fr, jB j t < m) ∧ Hp w [.blk b10 24 [.int .i64 ov, .slice oA on oc] (0, 0), .row oA on oc 55 4 (aY TR.cells (cj q.ts sub p j i).2), .blk b8 24 [.int .i64 0, .slice none 0 0] (0, 0)] w') ?_ ?_
     ·refine bm [14, 53, 54, 55, 56, 57, 58, 59, 60, 61, 62, 63, 64, 65, 66, 67, 68, 69] 14
       (fun f w' => ∃ fr : Nat, fr ≤ en ∧ f = .int .i64 fr ∧ (∀ t ∈ (p.drop fr).take (en - fr), jB j t = m) ∧ Hp w [.blk b10 24 [.int .i64 ov, .slice oA on oc] (0, 0), .row oA on oc 55 4 (aY TR.cells (cj q.ts sub p j i).2), .blk b8 24 [.int .i64 0, .slice none 0 0] (0, 0)] w')
       (fun f _ => (intOf f).toNat) ?_ ?_
      ·exact ⟨en, Nat.le_refl _, rfl, (fun t ht => by rw [Nat.sub_self] at ht; cases ht), hh⟩
      ·clear hh;rintro ρ' f w' ⟨fr, hfr, rfl, hmid, hh⟩;by_cases h0 : 0 < fr
       ·obtain ⟨fr, rfl⟩ : ∃ g, fr = g + 1 := ⟨fr - 1, Ky⟩;obtain ⟨x, hx⟩ := ay (l := p) (k := fr) Ky;obtain ⟨ad, rfl, hr⟩ := hS.at_ Ky;obtain ⟨e, hex, hxe, h8⟩ := hsr.get Ky (List.mem_of_getElem? hx);by_cases hem : e.toNat = m
        ·refine ah (sr (mI ?_));refine ct (mB (gT (mL (gT (mI (gT ?_))))));refine eO (gT ?_);refine aD (k := fr) aQ.out aF.size rfl rfl Ky Ky Kz ?_;refine gT ?_;refine dR eK.out rfl Kz ?_;refine aV rfl rfl ?_;refine aZ aF.out rfl (((hr.ext hh.below).recAt TR.len hx).cell (i := 0) rfl) Kz ?_;refine gT (mI (gT ?_));refine bY aQ.out rfl rfl Ky (by assumption) Kz ?_;refine gT ?_;refine ek aQ.out aQ.out rfl Ky Ky Kz ?_;refine gT (mI (gT ?_));refine dh ?_;refine e7 ?_;refine aa (cT (ak (ai (aj (aq (mI ?_))))));refine eO (aI (aE (aP (ai ?_))));refine ⟨⟨fr, Ky, by show Value.int .i64 (((fr + 1 : Nat) : Int) - 1) = _; congr 1; omega, fun t ht => ?_, hh⟩, by show (((fr + 1 : Nat) : Int) - 1).toNat < ((fr + 1 : Nat) : Int).toNat; omega, ?_⟩
         ·rw [fN hx, show en - fr = (en - (fr + 1)) + 1 by omega, List.take_succ_cons] at ht
          rcases List.mem_cons.1 ht with rfl | ht
          ·rw [hxe, hem]
          ·exact hmid t ht
         ·exact KB
        ·have hlt : e.toNat < m := by
          have := hlo x (by rw [show en = (fr + 1) + (en - (fr + 1)) by omega, List.take_add]; exact List.mem_append_left _ (by rw [aH hx]; exact List.mem_append_right _ List.mem_cons_self));omega
         have hall := Cn hmono hx (n := m) (by rw [hxe]; exact hlt);refine ah (sr (mI ?_));refine ct (mB (gT (mL (gT (mI (gT ?_))))));refine eO (gT ?_);refine aD (k := fr) aQ.out aF.size rfl rfl Ky Ky Kz ?_;refine gT ?_;refine dR eK.out rfl Kz ?_;refine aV rfl rfl ?_;refine aZ aF.out rfl (((hr.ext hh.below).recAt TR.len hx).cell (i := 0) rfl) Kz ?_;refine gT (mI (gT ?_));refine bY aQ.out rfl rfl Ky (by assumption) Kz ?_;refine gT ?_;refine ek aQ.out aQ.out rfl Ky Ky Kz ?_;refine gT (mI (gT ?_));refine dh ?_;refine e7 ?_;refine aa (cF (aJ (az (az (aX (ai ?_))))));refine ⟨⟨fr + 1, hfr, rfl, vZ hfr hall hmid (fun t ht => by have := hhi t ht; omega), hall, hh⟩, ?_⟩;exact KB
       ·obtain rfl : fr = 0 := Ky;refine ah (sr (mI ?_));refine ct (mB ?_);refine gS (gS (gS (gS (gS ?_))));refine cn Kz rfl rfl Kz ?_;refine gS (gS (gS (gS (gS ?_))));refine eX ?_;refine aa (cF (aJ (az (az (aX (ai ?_))))));refine ⟨⟨0, hfr, rfl, vZ hfr (fun t ht => by cases ht) hmid (fun t ht => by have := hhi t ht; omega), (fun t ht => by cases ht), hh⟩, ?_⟩;exact KB
     ·skip;clear hh;rintro ρ' f w' ⟨fr, hfr, rfl, hwi, hbl, hh⟩;have hnx : cj q.ts sub p j (i + 1) = iy q.ts sub p j m (cj q.ts sub p j i) := by rw [kP, hm]
      have hop := hlim2 i Ky he.symm;unfold iy at hnx;rw [if_neg (by rw [← he]; decide)] at hnx;have hmi : m = 128 - (i + 1) := Ky;have hmi2 : (127 - ((i + 1 : Nat) : Int)) = (m : Int) - 1 := Ky;have hdf : ∀ t ∈ p.drop fr, m ≤ jB j t := fun t ht => by
       rw [Dk hfr] at ht
       rcases List.mem_append.1 ht with ht | ht
       ·rw [← hwi] at ht;have := of_decide_eq_true (List.mem_filter.1 ht).2;omega
       ·have := hhi t ht;omega
      have hst : (cj q.ts sub p j i) = (0, (cj q.ts sub p j i).2) := by rw [he]
      generalize (cj q.ts sub p j i).2 = os at *;have hoc : on ≤ oc := hh.iw (i := 1) rfl;have hon : os.length = on := (hh.aM (i := 1) rfl).bM TR.len Kz;have hwl : (ck p j m).length = en - fr := by rw [hwi, List.length_take, List.length_drop]; omega
      by_cases hsk : os.length = 0 ∧ (ck p j m).length = 0
      ·rw [if_pos hsk] at hnx;obtain ⟨h1, h2⟩ := hsk;obtain rfl : on = 0 := Ky;obtain rfl : fr = en := Ky;refine ah (sr (bP ?_));refine bR hh 0 ?_;refine aW ?_;refine dh (mB (gT (mI (gT (mI (gT ?_))))));refine dh ?_;refine e7 ?_;refine aa (cT (aJ (az (aX (ai (aq (mI ?_)))))));refine eO (aI (aE (ai ?_)));refine ⟨⟨i + 1, fr, 0, ov, oA, 0, oc, os, Ky, by rw [hmi2]; rfl, rfl, rfl, by rw [hnx]; exact he, hen, fun _ => ⟨rfl, by rw [hnx, hst], fun t ht => by rw [← hmi]; exact hbl t ht, fun t ht => by rw [← hmi]; exact hdf t ht⟩, hh⟩, by show ((m : Int) - 1 + 1).toNat < ((m : Int) + 1).toNat; omega, ?_⟩;exact KB
      ·rw [if_neg hsk] at hnx;refine BN [70, 71, 72, 73, 74, 75, 76, 77, 78]
        (fun w' => Hp w [.blk b10 24 [.int .i64 ov, .slice oA on oc] (0, 0), .row oA on oc 55 4 (aY TR.cells os), .blk b8 24 [.int .i64 0, .slice none 0 0] (0, 0)] w') ?_ ?_
       ·by_cases h0 : on = 0
        ·subst h0;have hne : fr ≠ en := fun h => hsk ⟨hon, Ky⟩;refine sr (bP ?_);refine bR hh 0 ?_;refine aW ?_;refine dh (mB (gT (mI (gT (mI (gT ?_))))));refine dh ?_;refine e7 ?_;refine aa (cF (ak (ai ?_)));refine ⟨hh, ?_⟩;exact KC
        ·refine sr (bP ?_);refine bR hh 0 ?_;refine aW ?_;refine dh (mB ?_);refine gS (gS (gS ?_));refine eX ?_;refine aa (cF (ak (ai ?_)));refine ⟨hh, ?_⟩;exact KC
       ·skip;clear hh;rintro ρ' w' hh;obtain ⟨lad, rfl, hlr⟩ := hL.at_ Ky;have hlp : gl [⟨ov, oA, on, oc, os⟩, q] = 0 := qz hop.e (by unfold PX.e; rw [hqv]; exact hqk.e) hqv;have hmu : ∀ (A2 : Option Addr) (w1 : World), eP w1 → Sl w1 A2 2 2 (aY PX.cells [⟨ov, oA, on, oc, os⟩, q]) → Sl w1 oA on 4 (aY TR.cells os) → Below w.heap.size w w1 → Calls Tryz.prog 31 #[.slice A2 2 2] w1 fun r w' => ∃ g : PX, eD (fI os q.ts) ov (a6 (cQ os q.ts)) g ∧ r = .returned (.tuple #[.agg #[.int .i64 g.v, .slice g.A g.n g.c], .int .i64 (fI os q.ts)]) ∧ Hp w1 [g.row] w' := fun A2 w1 hT1 s1 s2 hb => by
         have h1 := xm A2 2 2 [⟨ov, oA, on, oc, os⟩, q] 440000 505536 w1 hT1 s1 Kz Kz (fun g hg => by
          rcases List.mem_cons.1 hg with rfl | hg
          ·exact s2
          ·rw [List.mem_singleton.1 hg]; exact (hat q (List.mem_of_getElem? hqj)).ext hb) (fun g hg => by
          rcases List.mem_cons.1 hg with rfl | hg
          ·exact ⟨by have := hop.len; show on ≤ 1000000; omega, hoc, hop.ok, hop.sz⟩
          ·rw [List.mem_singleton.1 hg]; exact ⟨hql.n, hql.cap, hql.ok.mono hK, hql.sz⟩) Kz Kz
         unfold z8 at h1;rw [if_pos hlp] at h1;exact h1
        refine sr ?_;refine cB hh ?_;intro b15 w15 hh;refine aa (ah (ah ?_));refine gk [] [9] [0, 0, 0, 6, 14, 31, 63, 127, 255, 255, 511, 2047] 10 [[(10, none)], [(2, none)], [(1, none)], [(81, some 1), (82, some 2)], [(83, some 3)], [(80, some 0), (84, some 4)], [(85, some 5)], [(86, some 6)], [(79, some 7)], [(79, some 7)]] [(9, 88), (8, 87), (7, 79), (6, 86), (5, 85), (4, 84), (3, 83), (2, 82), (1, 81), (0, 80)] hh mixed KA ie rfl (by repeat (first | exact cZ | refine cG ?_ | refine cY ?_)) ?_;refine gY 1 [_,_] ?_;refine jt ?_;refine fJ ?_;refine mH (j) ?_;refine x6 [_,_] (fun _ hj => (hlr.ext hj.hp.below).recAt PX.len hqj) ?_;refine cH (i := 5) (ke 2 2 (aY PX.cells [⟨ov, oA, on, oc, os⟩, q])) (ke.ext) ?_ ?_
        ·intro ρ1 w1 hj hR;exact mz (sz := 2) aQ.out aF.out (show xM ρ1 [(0, .tmp 80), (1, .tmp 84)] = [(0, .agg #[.int .i64 ov, .slice oA on oc]), (1, .agg #[.int .i64 q.v, .slice q.A q.n q.c])] from aR (show ρ1 80 = _ from hR.1) (aR (show ρ1 84 = _ from hR.2.1) bI)) rfl rfl Kz Kz rfl fun v w2 h hb => ⟨hb, h⟩
        refine cH (i := 6) (lK hh.sz (fI os q.ts) ov (a6 (cQ os q.ts))) (lK.ext) ?_ ?_
        ·intro ρ1 w1 hj hR;exact let ⟨b, e1, s1⟩ := hR.1; du rfl (bX aw.out (a7 e1 bQ)) (hmu _ w1 (hT.hp hj.hp) s1 (hj.hp.aM (i := 2) rfl) hj.hp.below) (fun _ _ ⟨g, og, hq, h3⟩ => ⟨_, hq, h3.below, g, w1, rfl, og, hj.bl.size, h3⟩)
        refine cH (i := 7) (lK hh.sz (fI os q.ts) ov (a6 (cQ os q.ts))) (lK.ext) ?_ ?_
        ·intro ρ1 w1 hj hR;exact let ⟨g, u, e1, e2⟩ := hR.1; iq rfl (eS e1) ⟨Below.refl _ _, g, u, rfl, e2⟩
        refine cH (i := 8) (nx hh.sz (fI os q.ts) ov (a6 (cQ os q.ts))) (nx.ext) ?_ ?_
        ·intro ρ1 w1 hj hR;exact let ⟨g, u, e1, e2⟩ := hR.1; iq rfl (eL (vs := [_, _]) e1 rfl) ⟨Below.refl _ _, g, u, rfl, e2⟩
        refine cH (i := 9) (Is (.int .i64 (fI os q.ts))) (Is.ext) ?_ ?_
        ·intro ρ1 w1 hj hR;exact let ⟨g, u, e1, e2⟩ := hR.1; iq rfl (eL (vs := [_, _]) e1 rfl) ⟨Below.refl _ _, rfl⟩
        refine bA ?_;intro f W hJ hV _;have hb_15 := hJ.bl;obtain ⟨v88, v87, v79, v86, v85, v84, v83, v82, v81, v80, _⟩ := hV;obtain ⟨g85, e85, o85⟩ : ke 2 2 (aY PX.cells [⟨ov, oA, on, oc, os⟩, q]) (f 5) W := v85;obtain ⟨g86, u86, e86, -⟩ := v86;obtain ⟨g79, u79, e79, -⟩ := v79;obtain ⟨g87, u87, e87, o87, q87, h87⟩ := v87;replace hh := JJ.Gh hJ hh q87 h87;refine bj (bC (ae v88 (ae e87 (ae e79 (ae e86 (ae e85 (ae v84 (ae v83 (ae v82 (ae v81 (ae v80 bh))))))))))) ?_;dsimp only [cP];clear e85 e86 e79 e87 hJ;simp only [List.cons_append, List.nil_append] at hh;obtain ⟨gv, gA, gn, gc, gts⟩ := g87;replace hh := show Hp w (.row gA gn gc 55 4 (aY TR.cells gts) :: _) W from hh;by_cases hte : fI os q.ts = 0
        ·rw [if_neg (by rw [hte]; decide)] at hnx;rw [hte] at o87;obtain rfl : ov = gv := o87.v.symm;obtain rfl : a6 (cQ os q.ts) = gts := o87.ts.symm;have hgc : gn ≤ gc := hh.iw (i := 0) rfl;have hgl : (a6 (cQ os q.ts)).length = gn := (hh.aM (i := 0) rfl).bM TR.len Kz;have hgo := AJ hop hqk hqT hte Ky;refine bK hh 2 [_,_] ?_;intro ws hh;replace hh : Hp _ (_ :: _ :: .blk _ _ [_, _] _ :: _) _ := hh;refine aI (aa (sr (mI ?_)));refine dh (aa (cT (aq (mL (mI (mI ?_))))));dsimp only at hh;refine bp rfl rfl Kz (iI (lo := some (.tmp 93)) (hi := some (.tmp 94)) (l := fr) (h := en) aQ.out aF.size rfl ⟨_, _, rfl, rfl⟩ ⟨_, _, rfl, rfl⟩ hfr Ky) ?_;refine mI ?_;refine bB (mL (mI ?_));refine aN (hrec m fr en _ (hT.hp hh) hh.below hfr hen hwi) aw.out rfl Kz ?_;rintro e_ w100 ⟨g2, og2, rfl, h4⟩;refine ⟨_, rfl, ?_⟩;replace hh := hh.join h4;simp only [List.cons_append, List.nil_append] at hh;have hs2 := hsub m;obtain ⟨hv2, hA2, hn2, hc2, ht2⟩ := g2;replace hh := show Hp w (.row hA2 hn2 hc2 55 4 (aY TR.cells ht2) :: _) _ from hh;by_cases hE2 : (sub (ck p j m)).1 = 0
         ·rw [if_neg (by rw [hE2]; decide)] at hnx;rw [hE2] at og2;obtain rfl : ov = hv2 := og2.v.symm;obtain rfl : (sub (ck p j m)).2 = ht2 := og2.ts.symm;have ho2 := hs2 hE2;have hc2c : hn2 ≤ hc2 := hh.iw (i := 0) rfl;have hl2 : ((sub (ck p j m)).2).length = hn2 := (hh.aM (i := 0) rfl).bM TR.len Kz;generalize (sub (ck p j m)).2 = us at *;refine mT ?_;refine dI ?_;refine dI ?_;refine bK hh 2 [_,_] ?_;intro ws hh;replace hh : Hp _ (_ :: _ :: .blk _ _ [_, _] _ :: _) _ := hh;refine aI (aa (ah (sr (mI ?_))));refine dh (aa (cT (aq ?_)));refine cR hh 3 [_,_] ?_;refine cR hh 2 [_,_] ?_;refine aO hh (cs := [_, _, _, _]) aQ.out aF.out (aR (cJ rfl) (aR (cJ rfl) bI)) rfl rfl Kz Kz Kz rfl Kz ?_;intro b108 w108 hh;dsimp only at hh;have hlp2 : gl [⟨ov, gA, gn, gc, a6 (cQ os q.ts)⟩, ⟨ov, hA2, hn2, hc2, us⟩] = 0 := qz hgo.e ho2.e rfl;have had := rZ (some ⟨b108, 0, none⟩) 2 2 [⟨ov, gA, gn, gc, a6 (cQ os q.ts)⟩, ⟨ov, hA2, hn2, hc2, us⟩] 2000000 _ (hT.hp hh) (hh.aM (i := 0) rfl) Kz (fun g hg => by
           rcases List.mem_cons.1 hg with rfl | hg
           ·exact hh.aM (i := 2) rfl
           ·rw [List.mem_singleton.1 hg]; exact hh.aM (i := 1) rfl) (fun g hg => by
           rcases List.mem_cons.1 hg with rfl | hg
           ·exact ⟨by have := hgo.len; show gn ≤ 1000000; omega, hgc, hgo.ok.mono Ky, hgo.sz⟩
           ·rw [List.mem_singleton.1 hg]; exact ⟨by have := ho2.len; show hn2 ≤ 1000000; omega, hc2c, ho2.ok.mono Ky, ho2.sz⟩) Kz
          unfold Ew at had;rw [if_pos hlp2, GM] at had;dsimp only at had;refine aN (had) aw.out rfl Kz ?_;rintro e_ w109 ⟨g3, og3, rfl, h5⟩;refine ⟨_, rfl, ?_⟩;replace hh := hh.join h5;simp only [List.cons_append, List.nil_append] at hh;obtain ⟨hv3, hA3, hn3, hc3, ht3⟩ := g3;replace hh := show Hp w (.row hA3 hn3 hc3 55 4 (aY TR.cells ht3) :: _) _ from hh;refine mT ?_;refine dI ?_;refine dI ?_;refine bK hh 5 [_,_] ?_;intro ws hh;replace hh : Hp _ (_ :: _ :: _ :: _ :: _ :: .blk _ _ [_, _] _ :: _) _ := hh;refine aI (aa (aq (mI (aI (aE (aP (ai (aq (mI ?_)))))))));refine eO (aI (aE (ai ?_)));replace hh := hh.sub (List.Sublist.cons_cons _ (List.Sublist.cons _ (List.Sublist.cons _ (List.Sublist.cons _ (List.Sublist.cons _ (List.Sublist.cons_cons _ (List.Sublist.cons _ (List.Sublist.cons_cons _ List.Sublist.slnil))))))));replace hh := hh.perm (List.perm_middle (l₁ := [_]));simp only [List.cons_append, List.nil_append] at hh;try dsimp only at hh
          refine ⟨⟨i + 1, fr, gP (a6 (cQ os q.ts) ++ us), hv3, hA3, hn3, hc3, ht3, Ky, by rw [hmi2]; rfl, rfl, rfl, ?_, Ky, fun h => ⟨?_, ?_, fun t ht => by rw [← hmi]; exact hbl t ht, fun t ht => by rw [← hmi]; exact hdf t ht⟩, hh⟩, by show ((m : Int) - 1 + 1).toNat < ((m : Int) + 1).toNat; omega, ?_⟩
          ·rw [hnx];by_cases hg : gP (a6 (cQ os q.ts) ++ us) ≠ 0
           ·rw [if_pos hg]
           ·rw [if_neg hg]; omega
          ·have := og3.v;rw [if_pos h] at this;exact this
          ·rw [hnx, if_neg (by rw [h]; decide)];have := og3.ts;rw [if_pos h] at this;exact this
          ·exact KB
         ·rw [if_pos hE2] at hnx;refine mT ?_;refine dI ?_;refine dI ?_;refine bK hh 2 [_,_] ?_;intro ws hh;replace hh : Hp _ (_ :: _ :: .blk _ _ [_, _] _ :: _) _ := hh;refine aI (aa (ah (sr (mI ?_))));refine dh (aa (cF (ak (ai (aq (mI (aI (aE (aP (ai (aq (mI ?_))))))))))));refine eO (aI (aE (ai ?_)));replace hh := hh.sub (List.Sublist.cons _ (List.Sublist.cons_cons _ (List.Sublist.cons _ (List.Sublist.cons_cons _ (List.Sublist.cons _ (List.Sublist.cons_cons _ List.Sublist.slnil))))));replace hh := hh.perm (List.perm_middle (l₁ := [_]));simp only [List.cons_append, List.nil_append] at hh;refine ⟨⟨i + 1, fr, _, ov, gA, gn, gc, a6 (cQ os q.ts), Ky, by rw [hmi2]; rfl, rfl, rfl, by rw [hnx], Ky, fun h => absurd h hE2, hh⟩, by show ((m : Int) - 1 + 1).toNat < ((m : Int) + 1).toNat; omega, ?_⟩;exact KB
        ·rw [if_pos hte] at hnx;refine bK hh 2 [_,_] ?_;intro ws hh;replace hh : Hp _ (_ :: _ :: .blk _ _ [_, _] _ :: _) _ := hh;refine aI (aa (sr (mI ?_)));refine dh (aa (cF (ak (ai (ah (sr (mI ?_)))))));refine dh (aa (cF (ak (ai (aq (mI (aI (aE (aP (ai (aq (mI ?_))))))))))));refine eO (aI (aE (ai ?_)));replace hh := hh.sub (List.Sublist.cons_cons _ (List.Sublist.cons _ (List.Sublist.cons_cons _ (List.Sublist.cons _ (List.Sublist.cons_cons _ List.Sublist.slnil)))));replace hh := hh.perm (List.perm_middle (l₁ := [_]));simp only [List.cons_append, List.nil_append] at hh;refine ⟨⟨i + 1, fr, fI os q.ts, gv, gA, gn, gc, gts, Ky, by rw [hmi2]; rfl, rfl, rfl, by rw [hnx], Ky, fun h => absurd h hte, hh⟩, by show ((m : Int) - 1 + 1).toNat < ((m : Int) + 1).toNat; omega, ?_⟩;exact KB
    ·have hfin : cj q.ts sub p j 128 = cj q.ts sub p j i := by
      by_cases h8 : i = 128
      ·rw [h8]
      ·exact kD Ky hi
     rw [hfin];by_cases he0 : e = 0
     ·subst he0;obtain ⟨rfl, rfl, -, -⟩ := hok0 rfl;clear hok0 hfin;generalize cj q.ts sub p j i = X at *;obtain rfl : i = 128 := Ky;rw [← he];refine ah (sr (mI ?_));refine dv (mB ?_);refine gS (gS ?_);refine eX ?_;refine aa (cF (aJ (az (az (aX (ai (ah (sr (mI ?_)))))))));refine cL (aa (cF (ak (ai (sr ?_)))));refine cR hh 0 [_,_] ?_;refine bK hh 2 [_,_] ?_;intro ws hh;replace hh : Hp _ (_ :: _ :: .blk _ _ [_, _] _ :: _) _ := hh;refine aI (aa (ao ?_));refine jG (aT rfl (aU (vs := [_, _]) aF.out (hh.aC (i := 2) (n := 2) rfl rfl) rfl) (cw (cM rfl) bq)) ?_;exact ⟨⟨ov, oA, on, oc, _⟩, ⟨rfl, rfl⟩, rfl, hh.sub (.cons _ (List.Sublist.cons_cons _ (List.nil_sublist _)))⟩
     ·rw [← he];clear hok0 hfin;generalize cj q.ts sub p j i = X at *;by_cases h8 : i = 128
      ·subst h8;refine ah (sr (mI ?_));refine dv (mB ?_);refine gS (gS ?_);refine eX ?_;refine aa (cF (aJ (az (az (aX (ai (ah (sr (mI ?_)))))))));refine cL (aa (cT (sr ?_)));refine e9 [_,_] (mI ?_);refine bK hh 2 [_,_] ?_;intro ws hh;replace hh : Hp _ (_ :: _ :: .blk _ _ [_, _] _ :: _) _ := hh;refine aI (aa (ao (aG ?_)));refine jG (aT rfl (aU (vs := [_, _]) aF.out (hh.aC (i := 2) (n := 2) rfl rfl) rfl) (cw (cM rfl) bq)) ?_;exact ⟨PX.nil, eD.err he0, rfl, (hh.sub (List.nil_sublist _)).kj⟩
      ·refine ah (sr (mI ?_));refine dv (mB (gT (mI (gT ?_))));refine dh ?_;refine e7 ?_;refine aa (cF (aJ (az (az (aX (ai (ah (sr (mI ?_)))))))));refine cL (aa (cT (sr ?_)));refine e9 [_,_] (mI ?_);refine bK hh 2 [_,_] ?_;intro ws hh;replace hh : Hp _ (_ :: _ :: .blk _ _ [_, _] _ :: _) _ := hh;refine aI (aa (ao (aG ?_)));refine jG (aT rfl (aU (vs := [_, _]) aF.out (hh.aC (i := 2) (n := 2) rfl rfl) rfl) (cw (cM rfl) bq)) ?_;exact ⟨PX.nil, eD.err he0, rfl, (hh.sub (List.nil_sublist _)).kj⟩
end Go.Proofs.YtaapkaefelhfcaaGreatDoor
/- The walk through calc.Subst. -/
namespace Go.Proofs.YtaapkaefelhfcaaGreatDoor
open Go.RowKit
def gp (p : PX) (ls : List PX) : Int × List TR :=
 if p.e ≠ 0 then (p.e, []) else if (ls.length : Int) ≠ p.v then (1, []) else if ls.length ≠ 0 ∧ gl ls ≠ 0 then (gl ls, []) else fK (fT ls) (ls.map PX.ts) 0 p.ts
theorem ya (f : PX) (p : Addr) (x : Int) (w : World) (hp : w.cell? p = some (.int .i64 x)) :
  Calls Tryz.prog 98 #[.agg #[.int .i64 f.v, .slice f.A f.n f.c], .pointer (some p)] w fun r w' => r = .returned (.bool (decide (f.v ≠ x))) ∧ Below w.heap.size w w' := by
 have hh := Hp.start w;by_cases hg : f.v = x
 ·refine al (N := 8) (l := [.agg #[.int .i64 f.v, .slice f.A f.n f.c], .pointer (some p)]) Tryz.func98 rfl rfl (by simp) ?_;refine sr ?_;refine db hh [_,_] ?_;intro b2 w2 hh;refine aB (aa (sr (bP ?_)));refine bR hh 0 ?_;refine aZ aF.out rfl ((hh.below.cell (kN hp)).trans hp) Kz ?_;refine cL (aB (aa (ao ?_)));refine cq ?_;exact ⟨by rw [decide_eq_false Ky], hh.below⟩
 ·refine al (N := 8) (l := [.agg #[.int .i64 f.v, .slice f.A f.n f.c], .pointer (some p)]) Tryz.func98 rfl rfl (by simp) ?_;refine sr ?_;refine db hh [_,_] ?_;intro b2 w2 hh;refine aB (aa (sr (bP ?_)));refine bR hh 0 ?_;refine aZ aF.out rfl ((hh.below.cell (kN hp)).trans hp) Kz ?_;refine cL (aB (aa (ao ?_)));refine cq ?_;exact ⟨by rw [decide_eq_true hg], hh.below⟩
structure JA (p : PX) (ls : List PX) (k K T c0 : Nat) (ds : List Nat) : Prop where
 len : ds.length = ls.length
 I4 : ∀ (i d : Nat), ds[i]? = some d → d ≤ 127 ∧ ∀ t ∈ p.ts, jB i t ≤ d
 grow : iU c0 ds (k + 1) ≤ 440000
 step : K + 4096 * T + 8192 ≤ c0
 top : c0 ≤ 440000
 iu : ∀ g ∈ ls, g.iu K
 HY : ∀ g ∈ ls, g.ts.length ≤ T
theorem Ea {v : Int} {ts : List TR} (h : jl v ts = 0) : Eu v 0 ts := by
 obtain ⟨_, _, h3, h4⟩ := di h;exact ⟨h4.pS, h3, fun a _ b _ => by rw [List.take_zero, List.take_zero]⟩
theorem uY (p : PX) (lA : Option Addr) (lc : Nat) (ls : List PX) (k K T c0 : Nat) (ds : List Nat) (w : World) (hT : eP w) (hp : p.at_ w) (lp : p.iu k) (hL : Sl w lA ls.length 2 (aY PX.cells ls)) (hat : ∀ g ∈ ls, g.at_ w) (hlc : ls.length ≤ lc) (hf : JA p ls k K T c0 ds) :
  Calls Tryz.prog 28 #[.agg #[.int .i64 p.v, .slice p.A p.n p.c], .slice lA ls.length lc] w fun r w' => ∃ g : PX, eD (gp p ls).1 (fT ls) (gp p ls).2 g ∧ r = .returned (.tuple #[.agg #[.int .i64 g.v, .slice g.A g.n g.c], .int .i64 (gp p ls).1]) ∧ Hp w [g.row] w' := by
 have hh := Hp.start w;have hck := fun w1 hT1 hb => l0 p k w1 hT1 (hp.ext hb) lp;unfold gp;by_cases h0 : p.e ≠ 0
 ·rw [if_pos h0];generalize p.e = e at *;refine al (N := 54) (l := [.agg #[.int .i64 p.v, .slice p.A p.n p.c], .slice lA ls.length lc]) Tryz.func28 rfl rfl (by simp) ?_;refine sr ?_;refine db hh [_,_] ?_;intro b2 w2 hh;refine cB hh ?_;intro b4 w4 hh;refine aI (aa (ah (sr ?_)));refine cR hh 1 [_,_] ?_;refine bE hh (hck _ (hT.hp hh) hh.below) rfl ?_;intro w12 hh;refine aI (aa (sr (mI ?_)));refine cL (aa (cT (sr ?_)));refine e9 [_,_] (mI ?_);refine bK hh 0 [_,_] ?_;intro ws hh;replace hh : Hp _ (.blk _ _ [_, _] _ :: _) _ := hh;refine aI (aa (ao (aG ?_)));refine jG (aT rfl (aU (vs := [_, _]) aF.out (hh.aC (i := 0) (n := 2) rfl rfl) rfl) (cw (cM rfl) bq)) ?_;exact ⟨PX.nil, eD.err h0, rfl, (hh.sub (List.nil_sublist _)).kj⟩
 ·rw [if_neg h0];have hpe : p.e = 0 := Ky;rw [hpe] at hck;by_cases h1 : (ls.length : Int) ≠ p.v
  ·rw [if_pos h1];refine al (N := 54) (l := [.agg #[.int .i64 p.v, .slice p.A p.n p.c], .slice lA ls.length lc]) Tryz.func28 rfl rfl (by simp) ?_;refine sr ?_;refine db hh [_,_] ?_;intro b2 w2 hh;refine cB hh ?_;intro b4 w4 hh;refine aI (aa (ah (sr ?_)));refine cR hh 1 [_,_] ?_;refine bE hh (hck _ (hT.hp hh) hh.below) rfl ?_;intro w12 hh;refine aI (aa (sr (mI ?_)));refine cL (aa (cF (ak (ai (ah (sr (mL (aW (bP ?_)))))))));refine bR hh 1 ?_;refine cL (aa (cT (sr ?_)));refine e9 [_,_] ?_;refine bK hh 0 [_,_] ?_;intro ws hh;replace hh : Hp _ (.blk _ _ [_, _] _ :: _) _ := hh;refine aI (aa (ao (aG ?_)));refine jG (aT rfl (aU (vs := [_, _]) aF.out (hh.aC (i := 0) (n := 2) rfl rfl) rfl) (cw (cM rfl) bq)) ?_;exact ⟨PX.nil, eD.err Kz, rfl, (hh.sub (List.nil_sublist _)).kj⟩
  ·rw [if_neg h1];obtain ⟨hfw, h4, hmy, hca⟩ := di hpe;replace hfw := gI.1 hfw;have hl12 : ls.length ≤ 12 := Ky;have hpl := hp.ln;have hsr := Ea hpe;have hput := fun (v : Int) (hv : iB v = true) (hz : ∀ g ∈ ls, jl v g.ts = 0) (hvv : ∀ g ∈ ls, g.v = v) w1 hT1 hb => yI lA lc K T c0 v ls hv hlc hl12 (fun g hg => ⟨⟨hz g hg, (hf.iu g hg).ok, (hf.iu g hg).sz⟩, hvv g hg, hf.iu g hg, hf.HY g hg⟩) hf.step hf.top ls 0 p.ts p.A p.n p.c ds k w1 rfl (Nat.zero_le _) hT1 (hL.ext hb) (fun g hg => (hat g hg).ext hb) (hp.ext hb) lp.cap (by rw [show ((ls.length : Nat) : Int) = p.v by omega]; exact hsr) lp.ok Ky hf.len (fun i d h => by rw [Nat.zero_add]; exact hf.I4 i d h) hf.grow;by_cases hn : ls = []
   ·subst hn;rw [if_neg (fun h => h.1 rfl)];have hpu := hput 0 rfl (fun g hg => by cases hg) (fun g hg => by cases hg);refine al (N := 54) (l := [.agg #[.int .i64 p.v, .slice p.A p.n p.c], .slice lA 0 lc]) Tryz.func28 rfl rfl (by simp) ?_;refine sr ?_;refine db hh [_,_] ?_;intro b2 w2 hh;refine cB hh ?_;intro b4 w4 hh;refine aI (aa (ah (sr ?_)));refine cR hh 1 [_,_] ?_;refine bE hh (hck _ (hT.hp hh) hh.below) rfl ?_;intro w12 hh;refine aI (aa (sr (mI ?_)));refine cL (aa (cF (ak (ai (ah (sr (mL (aW (bP ?_)))))))));refine bR hh 1 ?_;refine cL (aa (cF (ak (ai (sr ?_)))));refine cB hh ?_;intro b7 w7 hh;refine bK hh 0 [_] ?_;intro ws hh;replace hh : Hp _ (.blk _ _ [_] _ :: _) _ := hh;refine aa (ah (sr (mL (aW ?_))));refine ct (aa (cF (ak (ai (sr (bP ?_))))));refine bR hh 2 ?_;refine mL ?_;refine bR hh 0 ?_;replace hh := show Hp w (.blk b7 3 [.int .i64 0] (0, 0) :: _) _ from hh;refine aN (hpu _ (hT.hp hh) hh.below) aw.out rfl Kz ?_;rintro e_ w51 ⟨g, og, rfl, h3⟩;refine ⟨_, rfl, ?_⟩;replace hh := hh.join h3;simp only [List.cons_append, List.nil_append] at hh;refine dI ?_;refine dI ?_;refine bK hh 2 [_,_] ?_;intro ws hh;replace hh : Hp _ (_ :: _ :: .blk _ _ [_, _] _ :: _) _ := hh
    refine aI (aa (ao ?_));refine jG (aT rfl (aU (vs := [_, _]) aF.out (hh.aC (i := 2) (n := 2) rfl rfl) rfl) (cw (cM rfl) bq)) ?_;exact ⟨g, og, rfl, hh.sub (List.Sublist.cons_cons _ (List.nil_sublist _))⟩
   ·have hlp0 : 0 < ls.length := List.length_pos_iff.2 hn;obtain ⟨lad, rfl, hlr⟩ := hL.at_ hlp0;refine al (N := 54) (l := [.agg #[.int .i64 p.v, .slice p.A p.n p.c], .slice (some lad) ls.length lc]) Tryz.func28 rfl rfl (by simp) ?_;refine sr ?_;refine db hh [_,_] ?_;intro b2 w2 hh;refine cB hh ?_;intro b4 w4 hh;refine aI (aa (ah (sr ?_)));refine cR hh 1 [_,_] ?_;refine bE hh (hck _ (hT.hp hh) hh.below) rfl ?_;intro w12 hh;refine aI (aa (sr (mI ?_)));refine cL (aa (cF (ak (ai (ah (sr (mL (aW (bP ?_)))))))));refine bR hh 1 ?_;refine cL (aa (cF (ak (ai (sr ?_)))));refine cB hh ?_;intro b7 w7 hh;refine bK hh 0 [_] ?_;intro ws hh;replace hh : Hp _ (.blk _ _ [_] _ :: _) _ := hh;refine aa (ah (sr (mL (aW ?_))));refine ct (aa (cT (ah (sr (mL (aW (mI (aa (aj ?_)))))))));replace hh := show Hp w (.blk b7 3 [.int .i64 0] (0, 0) :: _) _ from hh;refine bm [5, 9, 10, 28, 29, 30, 31, 32, 33, 34, 35, 36, 37, 38] 28
     (fun v w' => ∃ i : Nat, i ≤ ls.length ∧ v = .int .i64 i ∧ (ls.take i).any (fun g => decide (g.e ≠ 0)) = false ∧ Hp w [.blk b7 3 [.int .i64 0] (0, 0), .blk b4 24 [.int .i64 0, .slice none 0 0] (0, 0), .blk b2 24 [.int .i64 p.v, .slice p.A p.n p.c] (0, 0)] w')
     (fun v _ => ls.length - (intOf v).toNat) ?_ ?_
    ·exact ⟨0, Nat.zero_le _, rfl, rfl, hh⟩
    ·clear hh;rintro ρ' v w' ⟨i, hi, rfl, hall, hh⟩;by_cases hlt : i < ls.length
     ·obtain ⟨g, hx⟩ := ay (l := ls) (k := i) hlt;have hmem := List.mem_of_getElem? hx;have hc := fun w1 hT1 hb => l0 g K w1 hT1 ((hat g hmem).ext hb) (hf.iu g hmem);by_cases he : g.e = 0
      ·refine sr ?_;refine aK (aa (ah (cT (ak (ai (ah (aj (sr ?_))))))));refine aD (k := i) aQ.out aF.size rfl rfl Ky Ky Kz ?_;refine bJ (vs := [_, _]) aF.out rfl ((hlr.ext hh.below).recAt PX.len hx) rfl Kz ?_;refine cB hh ?_;intro b9 w9 hh;refine bK hh 0 [_,_] ?_;intro ws hh;replace hh : Hp _ (.blk _ _ [_, _] _ :: _) _ := hh;refine aa (sr ?_);refine cR hh 0 [_,_] ?_;refine bE hh (hc _ (hT.hp hh) hh.below) rfl ?_;intro w33 hh;refine aI (aa (sr (mI ?_)));refine cL (aa (cF (ak (aP (ai (aq ?_))))));refine bB (mI (aE (ai ?_)));replace hh := hh.sub (List.Sublist.cons _ (List.Sublist.cons_cons _ (List.Sublist.cons_cons _ (List.Sublist.cons_cons _ List.Sublist.slnil))));refine ⟨⟨i + 1, Ky, rfl, by rw [aH hx, List.any_append, hall, List.any_cons, List.any_nil, decide_eq_false Ky]; rfl, hh⟩, by show ls.length - (i + 1) < ls.length - i; omega, ?_⟩;exact KB
      ·have hlk : gl ls = g.e := by unfold gl; rw [o6 hall hx (decide_eq_true he)]
       rw [if_pos ⟨Ky, by rw [hlk]; exact he⟩, hlk];refine sr ?_;refine aK (aa (ah (cT (ak (ai (ah (aj (sr ?_))))))));refine aD (k := i) aQ.out aF.size rfl rfl Ky Ky Kz ?_;refine bJ (vs := [_, _]) aF.out rfl ((hlr.ext hh.below).recAt PX.len hx) rfl Kz ?_;refine cB hh ?_;intro b9 w9 hh;refine bK hh 0 [_,_] ?_;intro ws hh;replace hh : Hp _ (.blk _ _ [_, _] _ :: _) _ := hh;refine aa (sr ?_);refine cR hh 0 [_,_] ?_;refine bE hh (hc _ (hT.hp hh) hh.below) rfl ?_;intro w33 hh;refine aI (aa (sr (mI ?_)));refine cL (aa (cT (sr ?_)));refine e9 [_,_] (mI ?_);refine bK hh 2 [_,_] ?_;intro ws hh;replace hh : Hp _ (_ :: _ :: .blk _ _ [_, _] _ :: _) _ := hh;refine aI (aa (ao (bD (aG (aG (bD (aG (aG ?_))))))));refine jG (aT rfl (aU (vs := [_, _]) aF.out (hh.aC (i := 2) (n := 2) rfl rfl) rfl) (cw (cM rfl) bq)) ?_;exact ⟨PX.nil, eD.err he, rfl, (hh.sub (List.nil_sublist _)).kj⟩
     ·rw [List.take_of_length_le Ky] at hall;have hlk : gl ls = if ls.length = 0 ∨ uL ls = true then 1 else 0 := by unfold gl; rw [iF hall]
      obtain ⟨g0, h00⟩ := ay (l := ls) (k := 0) hlp0;have hhv : fT ls = g0.v := by
       cases ls with
       | nil => cases hlp0
       | cons x l => cases h00; rfl
      have hall0 : ∀ g ∈ ls, g.e = 0 := fun g hg => by
       have := List.any_eq_false.1 hall g hg;simpa using this
      refine sr ?_;refine aK (aa (ah (cF (aJ (az (az (aX (ai (sr (mL ?_))))))))));refine aD (k := 0) aQ.out aF.size rfl rfl Ky Ky Kz ?_;refine dR eK.out rfl Kz ?_;refine aZ aF.out rfl (((hlr.ext hh.below).recAt PX.len h00).cell (i := 0) rfl) Kz ?_;refine bK hh 0 [_] ?_;intro ws hh;replace hh : Hp _ (.blk _ _ [_] _ :: _) _ := hh;refine aa (sr (mL ?_));refine fW rfl (a7 (lJ rfl) bQ) Kz ?_;replace hh := show Hp w (.blk b7 3 [.int .i64 g0.v] (0, 0) :: _) _ from hh;rw [← hhv] at hh;have hcell : World.cell? _ ⟨b7, 0, none⟩ = some (.int .i64 (fT ls)) := hh.ja (i := 0) rfl rfl;have hoa := fun w1 hb => qT (some lad) ls.length lc ls 98 [.pointer (some ⟨b7, 0, none⟩)] (fun g => decide (g.v ≠ fT ls)) w1 (hL.ext (hh.below.trans (hb.mono hh.below.size))) Ky (fun z w2 hz hb2 => ya z ⟨b7, 0, none⟩ (fT ls) w2 (cO hb2 (cO hb hcell)))
      cases hod : uL ls with
      | true =>
       have hod2 : ls.any (fun g => decide (g.v ≠ fT ls)) = true := hod;rw [hod2] at hoa;have hl1 : gl ls = 1 := by rw [hlk, if_pos (.inr hod)]
       rw [if_pos ⟨Ky, by rw [hl1]; decide⟩, hl1];refine bE hh (hoa _ (Below.refl _ _)) rfl ?_;intro w45 hh;refine aa (cT (sr ?_));refine e9 [_,_] ?_;refine bK hh 1 [_,_] ?_;intro ws hh;replace hh : Hp _ (_ :: .blk _ _ [_, _] _ :: _) _ := hh;refine aI (aa (ao (aG ?_)));refine jG (aT rfl (aU (vs := [_, _]) aF.out (hh.aC (i := 1) (n := 2) rfl rfl) rfl) (cw (cM rfl) bq)) ?_;exact ⟨PX.nil, eD.err Kz, rfl, (hh.sub (List.nil_sublist _)).kj⟩
      | false =>
       have hod2 : ls.any (fun g => decide (g.v ≠ fT ls)) = false := hod;rw [hod2] at hoa;have hl0 : gl ls = 0 := by
        rw [hlk, if_neg (fun h => h.elim (fun h => by omega) fun h => by rw [hod] at h; cases h)]
       rw [if_neg (fun h => h.2 hl0)];have hvv := (uj hl0).2.2;have hg0 := hall0 g0 (List.mem_of_getElem? h00);unfold PX.e at hg0;have hpu := hput (fT ls) (by rw [hhv]; exact (di hg0).1) (fun g hg => by rw [← hvv g hg]; exact hall0 g hg) hvv;refine bE hh (hoa _ (Below.refl _ _)) rfl ?_;intro w45 hh;refine aa (cF (ak (ai (sr (bP ?_)))));refine bR hh 2 ?_;refine mL ?_;refine bR hh 0 ?_;refine aN (hpu _ (hT.hp hh) hh.below) aw.out rfl Kz ?_;rintro e_ w51 ⟨g, og, rfl, h3⟩;refine ⟨_, rfl, ?_⟩;replace hh := hh.join h3;simp only [List.cons_append, List.nil_append] at hh;refine dI ?_;refine dI ?_;refine bK hh 2 [_,_] ?_;intro ws hh;replace hh : Hp _ (_ :: _ :: .blk _ _ [_, _] _ :: _) _ := hh;refine aI (aa (ao ?_));refine jG (aT rfl (aU (vs := [_, _]) aF.out (hh.aC (i := 2) (n := 2) rfl rfl) rfl) (cw (cM rfl) bq)) ?_;exact ⟨g, og, rfl, hh.sub (List.Sublist.cons_cons _ (List.nil_sublist _))⟩
end Go.Proofs.YtaapkaefelhfcaaGreatDoor
/- What is put in hangs on what the polynomials are alone. Plain, no program in sight. -/
namespace Go.Proofs.YtaapkaefelhfcaaGreatDoor
open Go.RowKit
theorem Gc {o p : PX} {os ls : List PX} (hv : o.v = p.v) (ht : o.ts = p.ts) (h : os.map PX.norm = ls.map PX.norm) : gp o os = gp p ls ∧ fT os = fT ls := by
 have h1 : gl os = gl ls := by rw [← tG, h, tG]
 have h2 : fT os = fT ls := by rw [← qD, h, qD]
 have h3 : os.length = ls.length := by have := congrArg List.length h; rwa [List.length_map, List.length_map] at this
 have h4 : os.map PX.ts = ls.map PX.ts := by
  have := congrArg (List.map PX.ts) h;rw [List.map_map, List.map_map] at this;exact this
 refine ⟨?_, h2⟩;unfold gp PX.e;rw [hv, ht, h1, h2, h3, h4]
end Go.Proofs.YtaapkaefelhfcaaGreatDoor
/- The walk through bern.within: a polynomial by how far a point has gone along each axis. -/
namespace Go.Proofs.YtaapkaefelhfcaaGreatDoor
open Go.RowKit
theorem k6 {v : Int} {k n : Nat} {l : List TR} (hv : iB v = true) (hm : ∀ t ∈ l, gH v t = true) (ho : jq k l) (hz : ∀ t ∈ l, t.m.size ≤ 100000) (hl : l.length ≤ n) (hn : n ≤ 4096) (hk : k + n ≤ 3999990) : jh v (k + n) (a6 l) :=
 ⟨gW hv (Nat.le_trans (dD _) Ky) hm, kJ ho Ky Ky, na hz⟩
def zd (v i : Nat) : List TR := a6 [⟨mq v i, nR ((1 : Int) : Dyadic)⟩]
def so (v : Nat) (x : Dyadic) : List TR := a6 [⟨fR v, nR x⟩]
def sx (v i : Nat) (x : Dyadic) : List TR := a6 ((zd v i).map (rY x))
def jj (v i : Nat) (s : SR) : List TR := a6 (so v s.L ++ sx v i (s.H - s.L))
def cC (b : List SR) : List PX := b.mapIdx fun i s => ⟨b.length, none, 0, 0, jj b.length i s⟩
theorem hU {v : Nat} (h : v ≤ 12) : iB (v : Int) = true := gI.2 ⟨Ky, Ky⟩
theorem zO {v i : Nat} (h : v ≤ 12) : jh (v : Int) 3 (zd v i) := by
 have hs : ((mq v i).size : Int) = v := oT Ky;refine k6 (k := 2) (n := 1) (hU h) (fun t ht => ?_) (fun t ht => ?_) (fun t ht => ?_) (Nat.le_refl _) Kz Kz
 ·rw [List.mem_singleton.1 ht];unfold gH;rw [Bool.and_eq_true, decide_eq_true_eq];exact ⟨we v i, hs⟩
 ·rw [List.mem_singleton.1 ht];exact ⟨Sz.one.ok Kz, by show Sz 2 (nR _).d; rw [dK]; exact Sz.one.mono Kz⟩
 ·rw [List.mem_singleton.1 ht];show (mq v i).size ≤ 100000;omega
theorem Ak {v k : Nat} {x : Dyadic} (h : v ≤ 12) (hx : Sz k x) (hk : k ≤ 900000) : jh (v : Int) (k + 1) (so v x) := oH (hU h) (by show Sz k (nR x).d; rw [dK]; exact hx) hk
theorem AX {v i k : Nat} {x : Dyadic} (h : v ≤ 12) (hx : Sz k x) (hk : k ≤ 400000) : jh (v : Int) (k + k + 4) (sx v i x) := by
 have hv := zO (i := i) h;have hl : ((zd v i).map (rY x)).length ≤ 1 := by rw [List.length_map]; exact dD _
 refine (k6 (k := 3 + k) (n := 1) (hU h) (fun t ht => ?_) (zF hv.ok hx Ky) (fun t ht => ?_) hl Kz Ky).mono (by
  by_cases h0 : k = 0
  ·omega
  ·omega)
 ·obtain ⟨s, hs, rfl⟩ := List.mem_map.1 ht;exact (di hv.e).2.2.1 s hs
 ·obtain ⟨s, hs, rfl⟩ := List.mem_map.1 ht;exact hv.sz s hs
theorem mj {v i k : Nat} {s : SR} (h : v ≤ 12) (hs : s.fin k) (hk : k ≤ 100000) : jh (v : Int) (k + k + 10) (jj v i s) ∧ (jj v i s).length ≤ 2 := by
 have h1 := Ak h (SR.IZ hs) Ky;have h2 := AX (i := i) h ((SR.JI hs).sub (SR.IZ hs)) Ky;have hl : (so v s.L ++ sx v i (s.H - s.L)).length ≤ 2 := by
  rw [List.length_append];have a1 : (so v s.L).length ≤ 1 := dD _;have a2 : (sx v i (s.H - s.L)).length ≤ 1 := Nat.le_trans (dD _) (by rw [List.length_map]; exact dD _);omega
 have hm : ∀ {P : TR → Prop}, (∀ t ∈ so v s.L, P t) → (∀ t ∈ sx v i (s.H - s.L), P t) → ∀ t ∈ so v s.L ++ sx v i (s.H - s.L), P t := fun a b t ht => (List.mem_append.1 ht).elim (a t) (b t);refine ⟨(k6 (k := k + 1 + (k + 1) + 4) (n := 2) (hU h) (hm (di h1.e).2.2.1 (di h2.e).2.2.1) (hm (h1.ok.mono Ky) h2.ok) (hm h1.sz h2.sz) hl Kz Ky).mono Ky, Nat.le_trans (dD _) hl⟩
theorem gZ {b : List SR} {i : Nat} {s : SR} (h : b[i]? = some s) : (cC b)[i]? = some ⟨b.length, none, 0, 0, jj b.length i s⟩ := by
 unfold cC;rw [List.getElem?_mapIdx, h]
 rfl
theorem kW (b : List SR) : (cC b).length = b.length := by unfold cC; rw [List.length_mapIdx]
theorem yc {b : List SR} {g : PX} (h : g ∈ cC b) : ∃ i s, b[i]? = some s ∧ g = ⟨b.length, none, 0, 0, jj b.length i s⟩ := by
 obtain ⟨i, hi⟩ := List.mem_iff_getElem?.1 h;obtain ⟨s, hs⟩ := ay (l := b) (k := i) (by have := (List.getElem?_eq_some_iff.1 hi).1; rwa [kW] at this);rw [gZ hs] at hi;exact ⟨i, s, hs, (Option.some.inj hi).symm⟩
theorem Ig {n i : Nat} (h : n ≤ 12) (hi : i < n) : qG n i = 0 := if_neg (by rw [hU h]; rintro (a | a | a) <;> first | cases a | omega)
theorem Ic {n : Nat} (h : n ≤ 12) : xc n = 0 := if_neg (by rw [hU h]; decide)
theorem vd (p : PX) (L : Option Addr) (n c : Nat) (b : List SR) (k : Nat) (ds : List Nat) (w : World) (hT : eP w) (hp : p.at_ w) (lp : p.iu k) (hB : Sl w L n 6 (aY SR.cells b)) (hb : ∀ s ∈ b, s.fin k) (hv : p.v = n) (hn0 : 0 < n) (hn : n ≤ 12) (hk : k ≤ 1000)
  (hds : ds.length = n) (hex : ∀ (i d : Nat), ds[i]? = some d → d ≤ 127 ∧ ∀ t ∈ p.ts, jB i t ≤ d) (hgr : iU (k + k + 16394) ds (k + 1) ≤ 440000) :
  Calls Tryz.prog 115 #[.agg #[.int .i64 p.v, .slice p.A p.n p.c], .slice L n c] w fun r w' => ∃ g : PX, eD (gp p (cC b)).1 n (gp p (cC b)).2 g ∧ r = .returned (.tuple #[.agg #[.int .i64 g.v, .slice g.A g.n g.c], .int .i64 (gp p (cC b)).1]) ∧ Hp w [g.row] w' := by
 have hh := Hp.start w;have hbl : b.length = n := hB.bM SR.len Kz;have hok : ∀ s ∈ b, s.ok := fun s hs => ⟨(hb s hs).1.ok, (hb s hs).2.ok⟩;have hfo := fun w1 hT1 hb1 => vT L n c b w1 hT1 (hB.ext hb1) hok Ky;have hhv : fT (cC b) = n := by
  obtain ⟨s, hs⟩ := ay (l := b) (k := 0) Ky;rw [ll (gZ hs), hbl]
 refine al (N := 67) (l := [.agg #[.int .i64 p.v, .slice p.A p.n p.c], .slice L n c]) Tryz.func115 rfl rfl (by simp) ?_;refine sr ?_;refine db hh [_,_] ?_;intro b2 w2 hh;refine cB hh ?_;intro b4 w4 hh;refine aI (aa (sr (aL (aa (ah (sr (mL ?_)))))));refine aN (hfo _ (hT.hp hh) hh.below) aw.out rfl Kz ?_;rintro e_ w18 ⟨A18, c18, rfl, hown_, hb_⟩;refine ⟨_, rfl, ?_⟩;replace hh := hh.bz (x := .row _ _ _ _ _ _) hb_ hown_;refine aW (mI (aa (aj ?_)));replace hh := hh.ef 24 2;refine cv [6, 7, 8, 9, 10, 11, 12, 13, 14, 15, 16, 20, 21, 22, 23, 24, 25, 26, 27, 28, 29, 30, 31, 32, 33, 34, 35, 36, 37, 38, 39, 40, 41, 42, 43, 44, 45, 46, 47, 48, 49, 50, 51, 52, 53, 54, 55, 56, 57, 58, 59, 60, 61] 6 20
  (fun a v w' => ∃ (i c3 : Nat) (A : Option Addr) (os : List PX) (R : List HE), i ≤ n ∧ v = .int .i64 i ∧ a = .slice A i c3 ∧ os.length = i ∧ CB ((cC b).map fun g => ⟨g.v, none, g.ts.length, 0, g.ts⟩) os R ∧ Hp w (.row A i c3 24 2 (aY PX.cells os) :: .row A18 n c18 57 6 (aY SR.cells (b.map SR.f)) :: .blk b4 24 [.int .i64 0, .slice none 0 0] (0, 0) :: .blk b2 24 [.int .i64 p.v, .slice p.A p.n p.c] (0, 0) :: R) w')
  (fun _ v _ => n - (intOf v).toNat) ?_ ?_
 ·exact ⟨0, 0, none, [], [], Nat.zero_le _, rfl, rfl, rfl, ⟨fun j g o _ h => (nomatch h), fun o h => (nomatch h)⟩, hh⟩
 ·clear hh;rintro ρ' a_ v w' ⟨i, c3, A, os, R, hi, rfl, rfl, hol, hcp, hh⟩;by_cases hlt : i < n
  ·obtain ⟨s, hs⟩ := ay (l := b) (k := i) Ky;have hsf := hb s (List.mem_of_getElem? hs);have hsn : (b.map SR.f)[i]? = some s.f := by rw [List.getElem?_map, hs]; rfl
   have zL := SR.IZ hsf;have zH := SR.JI hsf;have zW := zH.sub zL;obtain ⟨po, pl⟩ := mj (v := n) (i := i) hn hsf Ky;have vo := zO (i := i) hn;have fo := AX (i := i) hn zW Ky;have co := Ak hn zL Ky;have hva := fun w1 hT1 => yu (n : Int) (i : Int) w1 hT1;rw [Ig hn hlt] at hva;have hsu := fun w1 hT1 => ye (nR s.H) (nR s.L) w1 hT1 (zH.ok Ky) (zL.ok Ky) k (by rw [dK]; exact zH) (by rw [dK]; exact zL) Ky;rw [dK, dK] at hsu;have hcn := fun w1 hT1 => kI (n : Int) (nR s.L) k w1 hT1 ⟨zL.ok Ky, by rw [dK]; exact zL⟩ Ky;rw [Ic hn] at hcn;rw [Int.toNat_natCast] at hva;have hV : a6 [⟨mq n i, nR ((1 : Int) : Dyadic)⟩] = zd n i := rfl;have hC : a6 [⟨fR n, nR s.L⟩] = so n s.L := rfl;have hF : a6 ((zd n i).map (rY (s.H - s.L))) = sx n i (s.H - s.L) := rfl;have hP : a6 (so n s.L ++ sx n i (s.H - s.L)) = jj n i s := rfl;have tl1 : (zd n i).length ≤ 1 := dD _;have ul1 : (so n s.L).length ≤ 1 := dD _;have fl1 : (sx n i (s.H - s.L)).length ≤ 1 := Nat.le_trans (dD _) (by rw [List.length_map]; exact dD _);have hps := gZ hs;rw [hbl] at hps;rw [hV] at hva;rw [hC] at hcn;clear hV hC;generalize zd n i = VL at *;generalize so n s.L = CL at *;generalize sx n i (s.H - s.L) = FL at *;generalize jj n i s = PL at *
   obtain ⟨gf, rfl⟩ := hh.dq (i := 1) rfl Ky;refine sr ?_;refine aK (aa (ah (cT (ak (ai (ah (aj (sr (mI ?_)))))))));refine bf (k := i) aQ.out aF.size rfl rfl Ky Ky Kz ?_;refine bJ (vs := [_, _, _, _, _, _]) aF.out rfl (hh.gO (f := SR.cells) (x := s.f) (l := b.map SR.f) (i := 1) rfl SR.len Kz hsn) rfl Kz ?_;refine cB hh ?_;intro b8 w8 hh;refine aI ?_;refine bK hh 0 [_,_,_,_,_,_] ?_;intro ws hh;replace hh : Hp _ (.blk _ _ [_, _, _, _, _, _] _ :: _) _ := hh;refine aa (sr (mL (aW (mI ?_))));replace hh := show Hp w (.blk b8 57 [.bool (nR s.L).neg, .string (nR s.L).cA, .int .i64 (nR s.L).e, .bool (nR s.H).neg, .string (nR s.H).cA, .int .i64 (nR s.H).e] (0, 0) :: _) _ from hh;refine aN (hva _ (hT.hp hh)) aw.out rfl Kz ?_;rintro e_ w29 ⟨t, ot, rfl, h4⟩;refine ⟨_, rfl, ?_⟩;have htc : t.n ≤ t.c := h4.iw (i := 0) rfl;replace hh := hh.join h4;clear h4;simp only [List.cons_append, List.nil_append] at hh;obtain ⟨tv, tA, tn, tc, tt⟩ := t;replace hh := show Hp w (.row tA tn tc 55 4 (aY TR.cells tt) :: _) _ from hh;have et : VL = tt := ot.t0.symm;have ev_ : tv = (n : Int) := ot.v0;subst et ev_;have tln : VL.length = tn := (hh.aM (i := 0) rfl).bM TR.len Kz
   have hsc := fun w1 hT1 ha => uW ⟨n, tA, tn, tc, VL⟩ (nR (s.H - s.L)) (k + 3) w1 hT1 ha ⟨by show tn ≤ 1000000; omega, htc, vo.ok.mono Ky, vo.sz⟩ ⟨zW.ok Ky, by rw [dK]; exact zW.mono Ky⟩ Ky;have hse : DG ⟨n, tA, tn, tc, VL⟩ (s.H - s.L) = 0 := by
    unfold DG PX.e;rw [vo.e, if_pos rfl];exact rI (by rw [List.length_map]; show VL.length ≤ 4096; omega)
   rw [dK, hse] at hsc;dsimp only at hsc;rw [hF] at hsc;refine mT ?_;refine dI ?_;refine dI ?_;refine cB hh ?_;intro b9 w9 hh;refine bK hh 0 [_,_] ?_;intro ws hh;replace hh : Hp _ (.blk _ _ [_, _] _ :: _) _ := hh;refine aI (aa (ah ?_));refine gk [10] [9] [0, 0, 2, 0, 8, 30, 63, 127, 255, 255, 0, 1535, 4095] 11 [[(9, none)], [(8, none)], [(34, some 1)], [(8, none)], [(36, some 3)], [(35, some 2), (37, some 4)], [(33, some 0), (38, some 5)], [(39, some 6)], [(32, some 7)], [(32, some 7)], []] [(10, 11), (9, 41), (8, 40), (7, 32), (6, 39), (5, 38), (4, 37), (3, 36), (2, 35), (1, 34), (0, 33)] hh mixed KA (Cd rfl aF.out ie) rfl (by repeat (first | exact cZ | refine cG ?_ | refine cY ?_)) ?_;refine gY 0 [_,_] ?_;refine eA ?_;refine gY 2 [_,_,_] ?_;refine eA ?_;refine gY 2 [_,_,_] ?_;refine dC (fun _ hj => hsu _ (hT.hp hj.hp)) ?_;refine cH (i := 6) (lK hh.sz 0 n FL) (lK.ext) ?_ ?_
   ·intro ρ1 w1 hj hR;exact du rfl (bX aw.out (a7 (show ρ1 33 = Value.agg (List.toArray _) from hR.1) (a7 (show ρ1 38 = Value.agg (List.toArray _) from hR.2.1) bQ))) (hsc w1 (hT.hp hj.hp) (hj.hp.aM (i := 1) rfl)) (fun _ _ ⟨g, og, hq, h3⟩ => ⟨_, hq, h3.below, g, w1, rfl, og, hj.bl.size, h3⟩)
   refine cH (i := 7) (lK hh.sz 0 n FL) (lK.ext) ?_ ?_
   ·intro ρ1 w1 hj hR;exact let ⟨g, u, e1, e2⟩ := hR.1; iq rfl (eS e1) ⟨Below.refl _ _, g, u, rfl, e2⟩
   refine cH (i := 8) (kH hh.sz 0 n FL) (kH.ext) ?_ ?_
   ·intro ρ1 w1 hj hR;exact let ⟨g, u, e1, e2⟩ := hR.1; iq rfl (eL (vs := [_, _]) e1 rfl) ⟨Below.refl _ _, g, u, rfl, e2⟩
   refine cH (i := 9) (Is (.int .i64 0)) (Is.ext) ?_ ?_
   ·intro ρ1 w1 hj hR;exact let ⟨g, u, e1, e2⟩ := hR.1; iq rfl (eL (vs := [_, _]) e1 rfl) ⟨Below.refl _ _, rfl⟩
   refine cH (i := 10) (eJ _ 24 _) eJ.ext (fun ρ1 w1 hj hR => kA aF.out hj.bl (fun v w2 h hb => ⟨hb, h⟩)) ?_;refine bA ?_;intro f W hJ hV _;have hb_6 := hJ.bl;obtain ⟨v11, v41, v40, v32, v39, v38, v37, v36, v35, v34, v33, _⟩ := hV;obtain ⟨g39, u39, e39, -⟩ := v39;obtain ⟨g32, u32, e32, -⟩ := v32;obtain ⟨g40, u40, e40, o40, q40, h40⟩ := v40;obtain ⟨b11, e11, hl11, hc11⟩ : eJ _ _ _ (f 10) W := v11;replace hh := hJ.tP hh hl11 hc11 q40 h40 (PX.ne h40 hc11 Kz);refine bj (bC (ae e11 (ae v41 (ae e40 (ae e32 (ae e39 (ae v38 (ae v37 (ae v36 (ae v35 (ae v34 (ae v33 bh)))))))))))) ?_;dsimp only [cP];clear e39 e32 e40 e11 hJ;simp only [List.cons_append, List.nil_append] at hh;obtain ⟨fv, fA, fn, fc, ft⟩ := g40;replace hh := show Hp w (_ :: .row fA fn fc 55 4 (aY TR.cells ft) :: _) W from hh;have et : FL = ft := o40.t0.symm;have ev_ : fv = (n : Int) := o40.v0;subst et ev_;have fln : FL.length = fn := (hh.aM (i := 1) rfl).bM TR.len Kz;have fcc : fn ≤ fc := hh.iw (i := 1) rfl;refine bK hh 0 [_,_] ?_;intro ws hh;replace hh : Hp _ (.blk _ _ [_, _] _ :: _) _ := hh;refine aI (aa (sr (mL (aW (bP ?_)))));refine cR hh 4 [_,_,_] ?_;refine aN (hcn _ (hT.hp hh)) aw.out rfl Kz ?_
   rintro e_ w47 ⟨u, ou, rfl, h4⟩;refine ⟨_, rfl, ?_⟩;have huc : u.n ≤ u.c := h4.iw (i := 0) rfl;replace hh := hh.join h4;clear h4;simp only [List.cons_append, List.nil_append] at hh;obtain ⟨uv, uA, un, uc, ut⟩ := u;replace hh := show Hp w (.row uA un uc 55 4 (aY TR.cells ut) :: _) _ from hh;have et : CL = ut := ou.t0.symm;have ev_ : uv = (n : Int) := ou.v0;subst et ev_;have uln : CL.length = un := (hh.aM (i := 0) rfl).bM TR.len Kz;refine mT ?_;refine dI ?_;refine dI ?_;refine cB hh ?_;intro b13 w13 hh;refine bK hh 0 [_,_] ?_;intro ws hh;replace hh : Hp _ (.blk _ _ [_, _] _ :: _) _ := hh;refine aI (aa (sr ?_));refine cR hh 0 [_,_] ?_;refine cR hh 2 [_,_] ?_;refine aO hh (cs := [_, _, _, _]) aQ.out aF.out (aR (cJ rfl) (aR (cJ rfl) bI)) rfl rfl Kz Kz Kz rfl Kz ?_;intro b53 w53 hh;have hlp : gl [⟨n, uA, un, uc, CL⟩, ⟨n, fA, fn, fc, FL⟩] = 0 := qz co.e fo.e rfl;have had := fun A3 w1 hT1 hS1 s1 s2 => rZ A3 2 2 [⟨n, uA, un, uc, CL⟩, ⟨n, fA, fn, fc, FL⟩] (k + k + 10) w1 hT1 hS1 Kz (fun g hg => by
    rcases List.mem_cons.1 hg with rfl | hg
    ·exact s1
    ·rw [List.mem_singleton.1 hg]; exact s2) (fun g hg => by
    rcases List.mem_cons.1 hg with rfl | hg
    ·exact ⟨by show un ≤ 1000000; omega, huc, co.ok.mono Ky, co.sz⟩
    ·rw [List.mem_singleton.1 hg]; exact ⟨by show fn ≤ 1000000; omega, fcc, fo.ok.mono Ky, fo.sz⟩) Ky
   unfold Ew at had;rw [if_pos hlp, GM] at had;dsimp only at had;rw [hP] at had;rw [rI (l := CL ++ FL) (by rw [List.length_append]; omega)] at had;refine aN (had _ _ (hT.hp hh) (hh.aM (i := 0) rfl) (hh.aM (i := 2) rfl) (hh.aM (i := 4) rfl)) aw.out rfl Kz ?_;rintro e_ w54 ⟨z, oz, rfl, h4⟩;refine ⟨_, rfl, ?_⟩;have hzc : z.n ≤ z.c := h4.iw (i := 0) rfl;replace hh := hh.join h4;clear h4;simp only [List.cons_append, List.nil_append] at hh;replace hh := show Hp w (.row z.A z.n z.c 55 4 (aY TR.cells z.ts) :: _) _ from hh;have zln : z.ts.length = z.n := (hh.aM (i := 0) rfl).bM TR.len Kz;refine mT ?_;refine dI ?_;refine dI ?_;refine cB hh ?_;intro b15 w15 hh;refine bK hh 0 [_,_] ?_;intro ws hh;replace hh : Hp _ (.blk _ _ [_, _] _ :: _) _ := hh;refine aI (aa (aq (mL ?_)));refine cR hh 0 [_,_] ?_;refine aO hh (cs := [_, _]) aQ.out aF.out (aR (cJ rfl) bI) rfl rfl Kz Kz Kz rfl Kz ?_;intro b59 w59 hh;refine cz hh (i := 11) rfl rfl rfl (hh.aM (i := 0) rfl) aQ.out aF.out rfl Kz (by first | rfl | exact cD _ | exact cm _ | exact bH _ | exact bO NR.one _) Ky Ky Kz ?_;intro A60 c60 w60 hh;simp only [List.set_cons_zero, List.set_cons_succ] at hh;replace hh := hh.sub (List.sublist_cons_self _ _)
   refine aL (aE (aP (ai (aq ?_))));refine bB (mI (aE (ai ?_)));replace hh := hh.sub (List.Sublist.cons _ (List.Sublist.cons_cons _ (List.Sublist.cons _ (List.Sublist.cons _ (List.Sublist.cons _ (List.Sublist.cons _ (List.Sublist.cons _ (List.Sublist.cons _ (List.Sublist.cons _ (List.Sublist.cons _ (List.Sublist.cons_cons _ (List.Sublist.cons_cons _ (List.Sublist.cons_cons _ (List.Sublist.cons_cons _ (List.Sublist.refl _)))))))))))))));replace hh := hh.perm (List.perm_middle (l₁ := [_, _, _, _]));simp only [List.cons_append, List.nil_append] at hh;replace hh := hh.perm (List.perm_middle (l₁ := [_, _, _, _]));simp only [List.cons_append, List.nil_append] at hh;replace hh := hh.perm (List.perm_middle (l₁ := [_, _, _, _]));simp only [List.cons_append, List.nil_append] at hh;replace hh := hh.perm (List.perm_middle (l₁ := [_, _, _, _]));simp only [List.cons_append, List.nil_append] at hh;have hcp2 := hcp.add (g := ⟨n, none, PL.length, 0, PL⟩) (o := z) (by rw [hol, List.getElem?_map, hps]; rfl) ⟨oz.v0, oz.t0, by rw [← zln, oz.t0]⟩ hzc
   refine ⟨⟨i + 1, c60, A60, os ++ [z], z.row :: R, Ky, rfl, rfl, by rw [List.length_append, hol]; rfl, hcp2, by rw [cK, qK]; exact hh⟩, by show n - (i + 1) < n - i; omega, ?_⟩;exact KB
  ·obtain rfl : i = n := Ky;have hol2 : os.length = ((cC b).map fun g => (⟨g.v, none, g.ts.length, 0, g.ts⟩ : PX)).length := by rw [List.length_map, kW]; omega
   have hkey := hcp.key hol2;rw [List.map_map] at hkey;replace hkey : os.map PX.norm = (cC b).map PX.norm := hkey;obtain ⟨ks, kh⟩ := Gc (o := p) (p := p) rfl rfl hkey;have hall : ∀ o ∈ os, o.iu (k + k + 10) ∧ o.ts.length ≤ 2 := fun o ho => by
    obtain ⟨j, hj⟩ := List.mem_iff_getElem?.1 ho;have hjn : j < os.length := (List.getElem?_eq_some_iff.1 hj).1;obtain ⟨s, hs⟩ := ay (l := b) (k := j) Ky;obtain ⟨e1, e2, e3⟩ := hcp.eq j ⟨b.length, none, (jj b.length j s).length, 0, jj b.length j s⟩ o (by rw [List.getElem?_map, gZ hs]; rfl) hj;obtain ⟨po, pl⟩ := mj (v := b.length) (i := j) Ky (hb s (List.mem_of_getElem? hs)) Ky;replace e2 : o.ts = jj b.length j s := e2;replace e3 : o.n = (jj b.length j s).length := e3;exact ⟨⟨Ky, (hcp.my o ho).2, by rw [e2]; exact po.ok, by rw [e2]; exact po.sz⟩, by rw [e2]; exact pl⟩
   have hfit : JA p os k (k + k + 10) 2 (k + k + 16394) ds := ⟨Ky, hex, hgr, Ky, Ky, fun g hg => (hall g hg).1, fun g hg => (hall g hg).2⟩;have hsu := fun w1 hT1 ha hs hm hc => uY p A c3 os k (k + k + 10) 2 (k + k + 16394) ds w1 hT1 ha lp hs hm hc hfit;rw [ks, kh, hhv, hol] at hsu;generalize (gp p (cC b)).1 = E at *;generalize (gp p (cC b)).2 = S at *;refine sr ?_;refine aK (aa (ah (cF (aJ (az (az (aX (ai (sr ?_)))))))));refine cR hh 3 [_,_] (mL ?_);refine aN (hsu _ (hT.hp hh) (hp.ext hh.below) (hh.aM (i := 0) rfl) (fun z hz => F9 hh (List.mem_cons_of_mem _ (List.mem_cons_of_mem _ (List.mem_cons_of_mem _ (List.mem_cons_of_mem _ (hcp.my z hz).1))))) (hh.iw (i := 0) rfl)) aw.out rfl Kz ?_;rintro e_ w64 ⟨g, og, rfl, h4⟩;refine ⟨_, rfl, ?_⟩;replace hh := hh.join h4;clear h4;simp only [List.cons_append, List.nil_append] at hh;refine dI ?_;refine dI ?_;refine bK hh 3 [_,_] ?_;intro ws hh;replace hh : Hp _ (_ :: _ :: _ :: .blk _ _ [_, _] _ :: _) _ := hh;refine aI (aa (ao ?_));refine jG (aT rfl (aU (vs := [_, _]) aF.out (hh.aC (i := 3) (n := 2) rfl rfl) rfl) (cw (cM rfl) bq)) ?_;exact ⟨g, og, rfl, hh.sub (List.Sublist.cons_cons _ (List.nil_sublist _))⟩
end Go.Proofs.YtaapkaefelhfcaaGreatDoor
/- Slopes of rows of terms: of a sum, of a product, by two variables. Plain, no program in sight. -/
namespace Go.Proofs.YtaapkaefelhfcaaGreatDoor
open Go.RowKit
def dM (i : Nat) (f : ByteArray → Dyadic) (m : ByteArray) : Dyadic :=
 match m.data.toList[i]? with | some e => ((e.toNat : Int) : Dyadic) * f (str (m.data.toList.set i (e - 1))) | none => 0
theorem FA {a b : List UInt8} (ha : e8 a = true) (hb : e8 b = true) (hl : b.length = a.length) (h : (List.zipWith (· + ·) (ints a) (ints b)).all dk = true) : mulL a b = ((List.zipWith (· + ·) (ints a) (ints b)).map xL, 0) := by
 unfold mulL;rw [EO ha hb hl];show (EK _, F0 _) = _;rw [(qq h).1, (qq h).2]
theorem C0 {a b : List UInt8} (h : (mulL a b).2 = 0) : (List.zipWith (· + ·) (ints a) (ints b)).all dk = true := by
 obtain ⟨_, _, _, h4, h5⟩ := nh h;rw [← h5];exact FT h4
theorem EU {a b : ByteArray} {i : Nat} {x y : UInt8} (h : o5 a b = 0) (hx : a.data.toList[i]? = some x) (hy : b.data.toList[i]? = some y) : (mulM a b).data.toList[i]? = some (xL ((x.toNat : Int) + y.toNat)) ∧ (xL ((x.toNat : Int) + y.toNat)).toNat = x.toNat + y.toNat := by
 obtain ⟨h1, h2, h3, _, _⟩ := nh h;have hall := C0 h;have hiy : (ints b.data.toList)[i]? = some (y.toNat : Int) := by unfold ints; rw [List.getElem?_map, hy]; rfl
 have hix : (ints a.data.toList)[i]? = some (x.toNat : Int) := by unfold ints; rw [List.getElem?_map, hx]; rfl
 have hzz := EJ (f := fun (x y : Int) => x + y) hix hiy;have hxy : dk ((x.toNat : Int) + y.toNat) = true := List.all_eq_true.1 hall _ (List.mem_of_getElem? hzz);have e1 := qp hxy;injection e1 with _ e1
 refine ⟨?_, Ky⟩;unfold mulM;rw [fj, FA h1 h2 h3 hall, List.getElem?_map, hzz]
 rfl
end Go.Proofs.YtaapkaefelhfcaaGreatDoor
/- How great the exponents of what was put in are; the degrees of a row of terms. Plain, no program in sight. -/
namespace Go.Proofs.YtaapkaefelhfcaaGreatDoor
open Go.RowKit
def l7 (B : Nat → Nat) (l : List TR) : Prop := ∀ t ∈ l, ∀ i, jB i t ≤ B i
theorem l7.mono {B C : Nat → Nat} {l : List TR} (h : l7 B l) (hb : ∀ i, B i ≤ C i) : l7 C l := fun t ht i => Nat.le_trans (h t ht i) (hb i)
theorem Ie {s t : TR} (h : s.m = t.m) (i : Nat) : jB i s = jB i t := by unfold jB; rw [h]
theorem l7.a6 {B : Nat → Nat} {l : List TR} (h : l7 B l) : l7 B (a6 l) := fun t ht i => by
 obtain ⟨s, hs, e⟩ := jQ t ht;rw [← Ie e i];exact h s hs i
theorem l7.append {B : Nat → Nat} {l k : List TR} (h : l7 B l) (h2 : l7 B k) : l7 B (l ++ k) := fun t ht => (List.mem_append.1 ht).elim (h t) (h2 t)
theorem l7.prod {B C : Nat → Nat} {p q : List TR} (hp : l7 B p) (hq : l7 C q) (h : ∀ e ∈ tf p q, e = 0) : l7 (fun i => B i + C i) (cQ p q) := fun t ht i => by
 obtain ⟨x, hx, ht⟩ := List.mem_flatMap.1 ht;obtain ⟨y, hy, rfl⟩ := List.mem_map.1 ht;have hz : o5 x.m y.m = 0 := h _ (List.mem_flatMap.2 ⟨x, hx, List.mem_map.2 ⟨y, hy, rfl⟩⟩)
 cases ha : x.m.data.toList[i]? with
 | none =>
  have hl := yb hz;have hx0 := List.getElem?_eq_none_iff.1 ha;have e : (rh x y).m.data.toList[i]? = none := by
   show (str _).data.toList[i]? = none;rw [fj];exact List.getElem?_eq_none (by rw [hl]; exact hx0)
  unfold jB;rw [e];exact Nat.zero_le _
 | some a =>
  obtain ⟨_, _, h3, _, _⟩ := nh hz;have hlt := (List.getElem?_eq_some_iff.1 ha).1;obtain ⟨b, hb⟩ := ay (l := y.m.data.toList) (k := i) Ky;obtain ⟨e1, e2⟩ := EU hz ha hb;rw [pd (t := rh x y) e1, e2];have h1 := hp x hx i;have h2 := hq y hy i;rw [pd ha] at h1;rw [pd hb] at h2;show a.toNat + b.toNat ≤ B i + C i;omega
theorem rj {q p : List TR} {sub : List TR → Int × List TR} {j D : Nat} {E : Nat → Nat} (hq : l7 (fun x => if x = j then 1 else 0) q) (hD : ∀ t ∈ p, jB j t ≤ D) (hE : E j = 0) (hs : ∀ n, (sub (ck p j n)).1 = 0 → l7 E (sub (ck p j n)).2) :
  ∀ i, i ≤ 128 → (cj q sub p j i).1 = 0 → l7 (fun x => if x = j then i + D - 128 else E x) (cj q sub p j i).2
 | 0, _, _ => fun t ht => (nomatch ht)
 | i + 1, hi, h0 => by
  have h1 : (cj q sub p j i).1 = 0 := by
   refine Classical.byContradiction fun c => ?_;rw [kD c (Nat.le_succ i)] at h0;exact c h0
  have ih := rj hq hD hE hs i Ky h1;have hsb : ∀ n, (sub (ck p j n)).1 = 0 → l7 (fun x => if x = j then i + 1 + D - 128 else E x) (sub (ck p j n)).2 := fun n hn => (hs n hn).mono fun x => by
   by_cases hx : x = j
   ·rw [if_pos hx, hx, hE]; exact Nat.zero_le _
   ·rw [if_neg hx]; exact Nat.le_refl _
  have hpr : fI (cj q sub p j i).2 q = 0 → l7 (fun x => if x = j then i + 1 + D - 128 else E x) (a6 (cQ (cj q sub p j i).2 q)) := fun ht => by
   by_cases hlow : i + D ≤ 127
   ·rw [iH hD i hlow];exact fun t ht => (nomatch ht)
   ·refine ((ih.prod hq (kG ht).2.1).mono fun x => ?_).a6;by_cases hx : x = j
    ·rw [if_pos hx, if_pos hx, if_pos hx]; omega
    ·rw [if_neg hx, if_neg hx, if_neg hx]; omega
  rw [kP] at h0 ⊢;unfold iy at h0 ⊢;rw [if_neg (fun h => h h1)] at h0 ⊢;by_cases c1 : (cj q sub p j i).2.length = 0 ∧ (ck p j (127 - i)).length = 0
  ·rw [if_pos c1, List.length_eq_zero_iff.1 c1.1];exact fun t ht => (nomatch ht)
  ·rw [if_neg c1] at h0 ⊢;by_cases c2 : fI (cj q sub p j i).2 q ≠ 0
   ·rw [if_pos c2] at h0; exact absurd h0 c2
   ·rw [if_neg c2] at h0 ⊢;by_cases c3 : (sub (ck p j (127 - i))).1 ≠ 0
    ·rw [if_pos c3] at h0; exact absurd h0 c3
    ·rw [if_neg c3] at h0 ⊢;by_cases c4 : gP (a6 (cQ (cj q sub p j i).2 q) ++ (sub (ck p j (127 - i))).2) ≠ 0
     ·rw [if_pos c4] at h0; exact absurd h0 c4
     ·rw [if_neg c4];exact ((hpr Ky).append (hsb _ Ky)).a6
theorem rq (v : Int) (c : NR) : l7 (fun _ => 0) [⟨fR v, c⟩] := fun t ht i => by
 rw [List.mem_singleton.1 ht]
 cases he : (⟨fR v, c⟩ : TR).m.data.toList[i]? with
 | none => unfold jB; rw [he]; exact Nat.le_refl _
 | some e =>
  rw [pd he];have hm := List.mem_of_getElem? he;replace hm : e ∈ (List.replicate v.toNat (0 : UInt8)) := by simpa [fR] using hm
  rw [(List.mem_replicate.1 hm).2];exact Nat.le_refl _
theorem z5 {v : Int} : ∀ (qs : List (List TR)) (j : Nat) (p : List TR) (D : Nat → Nat), (∀ (i : Nat) (q : List TR), qs[i]? = some q → l7 (fun x => if x = j + i then 1 else 0) q) → (∀ t ∈ p, ∀ i, i < qs.length → jB (j + i) t ≤ D (j + i)) → (fK v qs j p).1 = 0 → l7 (fun x => if j ≤ x ∧ x < j + qs.length then D x else 0) (fK v qs j p).2 := by
 intro qs
 induction qs with
 | nil =>
  intro j p D _ _ _;exact (rq v _).a6.mono fun x => Nat.zero_le _
 | cons q qs ih =>
  intro j p D hq hp h0;have hsub : ∀ n, (fK v qs (j + 1) (ck p j n)).1 = 0 → l7 (fun x => if j + 1 ≤ x ∧ x < j + 1 + qs.length then D x else 0) (fK v qs (j + 1) (ck p j n)).2 := fun n hn => by
   refine ih (j + 1) (ck p j n) D (fun i r hr => ?_) (fun t ht i hi => ?_) hn
   ·have := hq (i + 1) r (by simpa using hr);rwa [show j + 1 + i = j + (i + 1) by omega]
   ·have := hp t (il t ht) (i + 1) (by rw [List.length_cons]; omega);rwa [show j + 1 + i = j + (i + 1) by omega]
  have hq0 : l7 (fun x => if x = j then 1 else 0) q := hq 0 q rfl;have hD : ∀ t ∈ p, jB j t ≤ D j := fun t ht => hp t ht 0 (by rw [List.length_cons]; omega);generalize hgen : fK v qs (j + 1) = sub at hsub;have e : ∀ m, m = 128 → (cj q sub p j m).1 = 0 → l7 (fun x => if j ≤ x ∧ x < j + (q :: qs).length then D x else 0) (cj q sub p j m).2 := fun m hm h => by
   refine (rj hq0 hD (E := fun x => if j + 1 ≤ x ∧ x < j + 1 + qs.length then D x else 0) (by rw [if_neg Ky]) hsub m Ky h).mono fun x => ?_;rw [List.length_cons];by_cases hx : x = j
   ·rw [if_pos hx, if_pos Ky, hx]; omega
   ·rw [if_neg hx];by_cases h2 : j + 1 ≤ x ∧ x < j + 1 + qs.length
    ·rw [if_pos h2, if_pos Ky]; exact Nat.le_refl _
    ·rw [if_neg h2]; exact Nat.zero_le _
  have e2 : fK v (q :: qs) j p = cj q sub p j 128 := by rw [← hgen]; rfl
  rw [e2] at h0 ⊢;exact e 128 rfl h0
theorem H6 {l : List TR} {i : Nat} {t : TR} (h : t ∈ l) : lb t.m i ≤ wJ l i := by
 induction l using iT with
 | h0 => cases h
 | hs l x ih =>
  rw [qQ]
  rcases List.mem_append.1 h with h | h
  ·have := ih h; omega
  ·rw [List.mem_singleton.1 h]; omega
theorem Eb {l : List TR} {i : Nat} {B : Int} (hB : 0 ≤ B) (h : ∀ t ∈ l, lb t.m i ≤ B) : 0 ≤ wJ l i ∧ wJ l i ≤ B := by
 induction l using iT with
 | h0 => exact ⟨Int.le_refl _, hB⟩
 | hs l x ih =>
  rw [qQ];have h1 := ih fun t ht => h t (List.mem_append_left _ ht);have h2 := h x (List.mem_append_right _ List.mem_cons_self);omega
theorem Di (t : TR) (i : Nat) : (jB i t : Int) = lb t.m i := by
 unfold jB lb
 cases t.m.data.toList[i]? <;> rfl
def dO (v : Int) (ts : List TR) : List Nat := (oF v ts).map Int.toNat
theorem k7 {v : Int} {ts : List TR} (h : jl v ts = 0) : oF v ts = bu (dO v ts) ∧ (dO v ts).length = v.toNat ∧ ∀ (i d : Nat), (dO v ts)[i]? = some d → d ≤ 127 ∧ (∀ t ∈ ts, jB i t ≤ d) ∧ ((d : Int) = wJ ts i) := by
 obtain ⟨_, _, hm, _⟩ := di h;have hd : oF v ts = lh v.toNat ts := if_pos h;have hb : ∀ t ∈ ts, ∀ i, lb t.m i ≤ 127 := fun t ht i => by
  have h1 := hm t ht;unfold gH at h1;rw [Bool.and_eq_true] at h1;unfold lb
  cases he : t.m.data.toList[i]? with
  | none => decide
  | some e => have := qg h1.1 he; show ((e.toNat : Nat) : Int) ≤ 127; omega
 refine ⟨?_, by unfold dO; rw [List.length_map, hd, e6], fun i d hi => ?_⟩
 ·unfold dO bu;rw [List.map_map];refine (List.map_id' _).symm.trans (List.map_congr_left fun x hx => ?_);rw [hd] at hx;obtain ⟨i, _, rfl⟩ := List.mem_map.1 hx;have := (Eb (B := 127) Kz fun t ht => hb t ht i).1;show wJ ts i = ((wJ ts i).toNat : Int);omega
 ·unfold dO at hi;rw [hd, List.getElem?_map] at hi;have hlt : i < v.toNat := by
   refine Classical.byContradiction fun hc => ?_;rw [List.getElem?_eq_none (by rw [e6]; omega)] at hi
   cases hi
  rw [p5 ts hlt] at hi;have h1 := Eb (l := ts) (i := i) (B := 127) Kz fun t ht => hb t ht i;have h2 : (wJ ts i).toNat = d := Option.some.inj hi;refine ⟨Ky, fun t ht => ?_, Ky⟩;have h3 := H6 (i := i) ht;have h4 := Di t i;omega
end Go.Proofs.YtaapkaefelhfcaaGreatDoor
/- Plain laws: a line of numbers, parted. No program in sight. -/
namespace Go.Proofs.YtaapkaefelhfcaaGreatDoor
def fY (d : Nat) (a b : Dyadic) (i k : Nat) : Dyadic := if k < i then 0 else nD (bin (d - i) (k - i)) * a ^ i * b ^ (k - i)
def ji (xs : List Dyadic) (i : Nat) : Dyadic := (xs[i]?).getD 0
def mC (d : Nat) (M : Nat → Nat → Dyadic) (xs : List Dyadic) : List Dyadic := (List.range (d + 1)).map fun k => sm (List.range (d + 1)) fun i => ji xs i * M i k
def jS (d : Nat) (a b : Dyadic) (xs : List Dyadic) (i j : Nat) : List Dyadic := (List.range (d + 1)).map fun k => sm (List.range i) (fun m => ji xs m * fY d a b m k) + if i ≤ k ∧ k < i + j then ji xs i * fY d a b i k else 0
theorem lF (d : Nat) (a b : Dyadic) (xs : List Dyadic) (i j : Nat) : (jS d a b xs i j).length = d + 1 := by simp [jS]
theorem zr (d : Nat) (a b : Dyadic) (xs : List Dyadic) : jS d a b xs 0 0 = List.replicate (d + 1) 0 := by
 unfold jS;refine List.eq_replicate_iff.2 ⟨by simp, fun x hx => ?_⟩;obtain ⟨k, _, rfl⟩ := List.mem_map.1 hx;rw [if_neg Ky, Dyadic.add_zero]
 rfl
theorem uo {d i j k : Nat} {a b : Dyadic} {xs : List Dyadic} (h : k ≤ d) : (jS d a b xs i j)[k]? = some (sm (List.range i) (fun m => ji xs m * fY d a b m k) + if i ≤ k ∧ k < i + j then ji xs i * fY d a b i k else 0) := by
 unfold jS;rw [List.getElem?_map, List.getElem?_range Ky]
 rfl
theorem DN {d i j : Nat} {a b : Dyadic} {xs : List Dyadic} {o : Dyadic} (h : i + j ≤ d) (ho : (jS d a b xs i j)[i + j]? = some o) : (jS d a b xs i j).set (i + j) (o + ji xs i * fY d a b i (i + j)) = jS d a b xs i (j + 1) := by
 rw [uo h, if_neg Ky, Dyadic.add_zero] at ho;have ho := Option.some.inj ho;subst ho;refine List.ext_getElem? fun k => ?_;rw [List.getElem?_set, lF];by_cases hk : k ≤ d
 ·rw [uo hk, uo hk];by_cases e : i + j = k
  ·subst e;rw [if_pos rfl, if_pos Ky, if_pos Ky]
  ·rw [if_neg e];by_cases h2 : i ≤ k ∧ k < i + j
   ·rw [if_pos h2, if_pos Ky]
   ·rw [if_neg h2, if_neg Ky]
 ·rw [if_neg Ky, List.getElem?_eq_none (by rw [lF]; omega), List.getElem?_eq_none (by rw [lF]; omega)]
theorem BO {d i : Nat} {a b : Dyadic} {xs : List Dyadic} (h : i ≤ d) : jS d a b xs i (d - i + 1) = jS d a b xs (i + 1) 0 := by
 unfold jS;refine List.map_congr_left fun k hk => ?_;have hk := List.mem_range.1 hk;rw [if_neg (show ¬ (i + 1 ≤ k ∧ k < i + 1 + 0) by omega), Dyadic.add_zero, List.range_succ, jZ];by_cases h2 : i ≤ k
 ·rw [if_pos Ky]
 ·rw [if_neg Ky];unfold fY;rw [if_pos (show k < i by omega), Dyadic.mul_zero]
theorem Bo (d : Nat) (a b : Dyadic) (xs : List Dyadic) : jS d a b xs (d + 1) 0 = mC d (fY d a b) xs := by
 unfold jS mC;refine List.map_congr_left fun k _ => ?_;rw [if_neg Ky, Dyadic.add_zero]
theorem Sz.Ih {q : Nat} {a : Dyadic} (h : Sz q a) {i d : Nat} (hi : i ≤ d) : Sz (1 + q * d) (a ^ i) := (Sz.pow h i).mono (by have := Nat.mul_le_mul_left q hi; omega)
theorem AN {d i k q : Nat} {a b : Dyadic} (ha : Sz q a) (hb : Sz q b) (hd : d ≤ 127) (hk : k ≤ d) : Sz (130 + 2 * (q * d)) (fY d a b i k) := by
 unfold fY;split
 ·exact Sz.zero _
 ·refine (((rR (d - i) (k - i) Ky).mul (ha.Ih (show i ≤ d by omega))).mul (hb.Ih (show k - i ≤ d by omega))).mono Ky
theorem Et {xs : List Dyadic} {k : Nat} (h : ∀ x ∈ xs, Sz k x) (i : Nat) : Sz k (ji xs i) := by
 unfold ji
 cases hx : xs[i]? with
 | none => exact Sz.zero _
 | some x => exact h x (List.mem_of_getElem? hx)
theorem FE {d i j q K : Nat} {a b : Dyadic} {xs : List Dyadic} (hx : ∀ x ∈ xs, Sz K x) (ha : Sz q a) (hb : Sz q b) (hd : d ≤ 127) (hi : i ≤ d + 1) : ∀ x ∈ jS d a b xs i j, Sz (K + 130 + 2 * (q * d) + 130) x := fun x hx2 => by
 obtain ⟨k, hk, rfl⟩ := List.mem_map.1 hx2;have hk := List.mem_range.1 hk;have h1 : ∀ m, Sz (K + (130 + 2 * (q * d))) (ji xs m * fY d a b m k) := fun m => (Et hx m).mul (AN ha hb hd Ky);have h2 := C7 (l := List.range i) (f := fun m => ji xs m * fY d a b m k) (k := K + (130 + 2 * (q * d))) fun m _ => h1 m;rw [List.length_range] at h2;refine (h2.add (y := if i ≤ k ∧ k < i + j then ji xs i * fY d a b i k else 0) ?_).mono Ky;split
 ·exact (h1 i).mono Ky
 ·exact Sz.zero _
end Go.Proofs.YtaapkaefelhfcaaGreatDoor
/- Plain laws: the lines of a form along an axis, changed one by one, block by block. No program in sight. -/
namespace Go.Proofs.YtaapkaefelhfcaaGreatDoor
section
variable (A : List Nat) (d : Nat) (φ : List Dyadic → List Dyadic)
def JR (X : List Dyadic) (q f i : Nat) : List Dyadic := (List.range X.length).map fun p =>
 if p / av A / (d + 1) = q ∧ (p % av A < f ∨ p % av A = f ∧ p / av A % (d + 1) < i) then ji (φ (fp A d X (p % av A) q)) (p / av A % (d + 1)) else ji X p
def Ki (X : List Dyadic) (q : Nat) : List Dyadic := JR A d φ X q (av A) 0
end
section
variable {A : List Nat} {d : Nat} {φ : List Dyadic → List Dyadic} {X : List Dyadic}
theorem pZ {f k q : Nat} (hf : f < av A) (hk : k ≤ d) : dy A d f k q % av A = f ∧ dy A d f k q / av A % (d + 1) = k ∧ dy A d f k q / av A / (d + 1) = q := by
 unfold dy;have hA := dw A;rw [Nat.add_mul_mod_self_left, Nat.mod_eq_of_lt hf, Nat.add_mul_div_left _ _ hA, Nat.div_eq_of_lt hf, Nat.zero_add, Nat.add_mul_mod_self_left, Nat.mod_eq_of_lt Ky, Nat.add_mul_div_left _ _ Ky, Nat.div_eq_of_lt Ky, Nat.zero_add];exact ⟨rfl, rfl, rfl⟩
theorem uV (p : Nat) : dy A d (p % av A) (p / av A % (d + 1)) (p / av A / (d + 1)) = p := by
 unfold dy;rw [Nat.mod_add_div, Nat.mod_add_div]
theorem vV {l : List Dyadic} {k : Nat} (h : k < l.length) : l[k]? = some (ji l k) := by
 unfold ji;rw [List.getElem?_eq_getElem h]
 rfl
def Kt (A : List Nat) (d : Nat) (B : List Nat) (M : Nat → Nat → Dyadic) (xs : List Dyadic) (j : Nat) : List Dyadic := (List.range xs.length).map fun p => if p / av A / (d + 1) < j then ji (jk (A ++ d :: B) A.length M xs) p else ji xs p
end
end Go.Proofs.YtaapkaefelhfcaaGreatDoor
/- Plain laws: all lines of a form along an axis, changed one by one in the order of their first places. No program in sight. -/
namespace Go.Proofs.YtaapkaefelhfcaaGreatDoor
section
variable (A : List Nat) (d L : Nat) (φ : List Dyadic → List Dyadic)
def kb (p : Nat) : Nat := dy A d (p % av A) 0 (p / av A / (d + 1))
def jT (X : List Dyadic) (F i : Nat) : List Dyadic := (List.range X.length).map fun p =>
 if p / av A % (d + 1) < L ∧ (kb A d p < F ∨ kb A d p = F ∧ p / av A % (d + 1) < i) then ji (φ (fp A d X (p % av A) (p / av A / (d + 1)))) (p / av A % (d + 1)) else ji X p
end
section
variable {A : List Nat} {d L : Nat} {φ : List Dyadic → List Dyadic} {X : List Dyadic}
theorem hO (F i : Nat) : (jT A d L φ X F i).length = X.length := by simp [jT]
theorem mh {F i p : Nat} (h : p < X.length) : (jT A d L φ X F i)[p]? = some (if p / av A % (d + 1) < L ∧ (kb A d p < F ∨ kb A d p = F ∧ p / av A % (d + 1) < i) then ji (φ (fp A d X (p % av A) (p / av A / (d + 1)))) (p / av A % (d + 1)) else ji X p) := by
 unfold jT;rw [List.getElem?_map, List.getElem?_range h]
 rfl
theorem xx {F i G j : Nat} (h : ∀ p, p < X.length → p / av A % (d + 1) < L → ((kb A d p < F ∨ kb A d p = F ∧ p / av A % (d + 1) < i) ↔ (kb A d p < G ∨ kb A d p = G ∧ p / av A % (d + 1) < j))) : jT A d L φ X F i = jT A d L φ X G j := by
 refine List.ext_getElem? fun p => ?_;by_cases hp : p < X.length
 ·rw [mh hp, mh hp];congr 1;by_cases hL : p / av A % (d + 1) < L
  ·by_cases h1 : kb A d p < F ∨ kb A d p = F ∧ p / av A % (d + 1) < i
   ·rw [if_pos ⟨hL, h1⟩, if_pos ⟨hL, (h p hp hL).1 h1⟩]
   ·rw [if_neg (fun h => h1 h.2), if_neg (fun h2 => h1 ((h p hp hL).2 h2.2))]
  ·rw [if_neg (fun h => hL h.1), if_neg (fun h => hL h.1)]
 ·rw [List.getElem?_eq_none (by rw [hO]; omega), List.getElem?_eq_none (by rw [hO]; omega)]
theorem Cp : jT A d L φ X 0 0 = X := by
 refine List.ext_getElem? fun p => ?_;by_cases h : p < X.length
 ·rw [mh h, if_neg Ky, vV h]
 ·rw [List.getElem?_eq_none (by rw [hO]; omega), List.getElem?_eq_none Ky]
theorem yT {f q : Nat} (hf : f < av A) : dy A d f 0 q % av A = f ∧ dy A d f 0 q / av A % (d + 1) = 0 ∧ dy A d f 0 q / av A / (d + 1) = q := pZ hf (Nat.zero_le _)
theorem Bv {f k q : Nat} (hf : f < av A) (hk : k ≤ d) : kb A d (dy A d f k q) = dy A d f 0 q := by
 obtain ⟨h1, _, h3⟩ := pZ (q := q) hf hk;unfold kb;rw [h1, h3]
theorem Be {F : Nat} (h : F / av A % (d + 1) ≠ 0) : jT A d L φ X F 0 = jT A d L φ X (F + 1) 0 := xx fun p _ _ => by
 have hne : kb A d p ≠ F := fun e => by
  have := (yT (d := d) (q := p / av A / (d + 1)) (Nat.mod_lt p (dw A))).2.1;unfold kb at e;rw [e] at this;exact h this
 omega
theorem Cw {F i : Nat} (h : L ≤ i) : jT A d L φ X F i = jT A d L φ X (F + 1) 0 := xx fun p _ hL => by omega
theorem Er {f q i : Nat} (hf : f < av A) (hiL : i < L) (hi : i ≤ d) : (jT A d L φ X (dy A d f 0 q) i).set (dy A d f i q) (ji (φ (fp A d X f q)) i) = jT A d L φ X (dy A d f 0 q) (i + 1) := by
 obtain ⟨h1, h2, h3⟩ := pZ (q := q) hf hi;refine List.ext_getElem? fun p => ?_;rw [List.getElem?_set, hO];by_cases hp : p < X.length
 ·rw [mh hp, mh hp];by_cases e : dy A d f i q = p
  ·subst e;rw [if_pos rfl, if_pos hp, h1, h2, h3, Bv hf hi, if_pos ⟨hiL, .inr ⟨rfl, Nat.lt_succ_self i⟩⟩]
  ·rw [if_neg e];have hne : ¬ (kb A d p = dy A d f 0 q ∧ p / av A % (d + 1) = i) := fun ⟨a, b⟩ => by
    have e1 := yT (d := d) (q := p / av A / (d + 1)) (Nat.mod_lt p (dw A));have e2 := yT (d := d) (q := q) hf;unfold kb at a;rw [a] at e1;have := uV (A := A) (d := d) p;rw [b, ← e1.1, ← e1.2.2, e2.1, e2.2.2] at this;exact e this
   congr 1;by_cases hL : p / av A % (d + 1) < L ∧ (kb A d p < dy A d f 0 q ∨ kb A d p = dy A d f 0 q ∧ p / av A % (d + 1) < i)
   ·rw [if_pos hL, if_pos ⟨hL.1, Ky⟩]
   ·rw [if_neg hL, if_neg (fun h => hL ⟨h.1, Ky⟩)]
 ·rw [List.getElem?_eq_none (by rw [hO]; omega)];by_cases e : dy A d f i q = p
  ·rw [if_pos e, e, if_neg hp, List.getElem?_eq_none (by rw [hO]; omega)]
  ·rw [if_neg e, List.getElem?_eq_none (by rw [hO]; omega)]
theorem Cg {B : List Nat} {p : Nat} (hX : X.length = av (A ++ d :: B)) (hp : p < X.length) : (jT A d L φ X X.length 0)[p]? = some (if p / av A % (d + 1) < L then ji (φ (fp A d X (p % av A) (p / av A / (d + 1)))) (p / av A % (d + 1)) else ji X p) := by
 rw [mh hp];have hlt : kb A d p < X.length := by
  have h1 := uV (A := A) (d := d) p;have h2 : kb A d p ≤ p := by
   conv => rhs; rw [← h1]
   unfold kb dy;have := Nat.mul_le_mul_left (av A) (show 0 + (d + 1) * (p / av A / (d + 1)) ≤ p / av A % (d + 1) + (d + 1) * (p / av A / (d + 1)) by omega);omega
  omega
 congr 1;by_cases h : p / av A % (d + 1) < L
 ·rw [if_pos ⟨h, .inl hlt⟩, if_pos h]
 ·rw [if_neg (fun h2 => h h2.1), if_neg h]
theorem HN {B : List Nat} {M : Nat → Nat → Dyadic} (hX : X.length = av (A ++ d :: B)) : jT A d (d + 1) (mC d M) X X.length 0 = jk (A ++ d :: B) A.length M X := by
 refine List.ext_getElem? fun p => ?_;by_cases hp : p < X.length
 ·obtain ⟨f, k, q, hf, hk, hq, rfl⟩ := y3 (A := A) (d := d) (B := B) (by rw [← hX]; exact hp);obtain ⟨h1, h2, h3⟩ := pZ (q := q) hf hk;rw [Cg hX hp, h1, h2, h3, if_pos Ky];have e1 : (mC d M (fp A d X f q))[k]? = some (sm (List.range (d + 1)) fun i => ji (fp A d X f q) i * M i k) := by
   unfold mC;rw [List.getElem?_map, List.getElem?_range Ky]
   rfl
  rw [CO M X hf hk hq];congr 1;show ((mC d M (fp A d X f q))[k]?).getD 0 = _;rw [e1];refine bZ fun i hi => ?_;have hi := List.mem_range.1 hi;show ((fp A d X f q)[i]?).getD 0 * _ = _;unfold fp;rw [List.getElem?_map, List.getElem?_range hi]
  rfl
 ·rw [List.getElem?_eq_none (by rw [hO]; omega), List.getElem?_eq_none (by rw [qP, ← hX]; omega)]
end
end Go.Proofs.YtaapkaefelhfcaaGreatDoor
/- The walks through knife.lower, slices.Reverse and knife.upper. -/
namespace Go.Proofs.YtaapkaefelhfcaaGreatDoor
open Go.RowKit
theorem sS (N : Nat) : gh N [.bool false, .string (ByteArray.mk #[]), .int .i64 0] = aY NR.cells ((List.replicate N (0 : Dyadic)).map nR) := by
 rw [wD, rp]
structure Kr (q : Nat) (s : NR) (x : Dyadic) : Prop where
 ok : s.ok
 cA : s.cA.size ≤ 2001
 d : s.d = x
 sz : Sz q x
def JQ (l : List Dyadic) (i : Nat) : List Dyadic := (List.range l.length).map fun k => if k < i ∨ l.length ≤ k + i then ji l (l.length - 1 - k) else ji l k
end Go.Proofs.YtaapkaefelhfcaaGreatDoor
/- Polynomials that are 0 at all places have no numbers; forms too. Plain, no program in sight. -/
namespace Go.Proofs.YtaapkaefelhfcaaGreatDoor
def jv : List Dyadic → Dyadic → Dyadic
 | [], _ => 0
 | c :: cs, t => c + t * jv cs t
theorem pq {a b : Dyadic} (h : a * b = 0) (ha : a ≠ 0) : b = 0 := by
 refine Classical.byContradiction fun hb => ?_;have key : ∀ x y : Dyadic, 0 < x → y ≠ 0 → x * y ≠ 0 := fun x y hx hy => by
  by_cases h0 : 0 < y
  ·have := Lean.Grind.OrderedRing.mul_pos hx h0;grind
  ·have hy0 : 0 < -y := by grind
   have := Lean.Grind.OrderedRing.mul_pos hx hy0;grind
 by_cases h0 : 0 < a
 ·exact key a b h0 hb h
 ·exact key (-a) b (by grind) hb (by grind)
theorem IE (l : List Dyadic) : ∃ a : Dyadic, ∀ b ∈ l, b < a := by
 induction l with
 | nil => exact ⟨0, fun b hb => nomatch hb⟩
 | cons x l ih =>
  obtain ⟨a, ha⟩ := ih;by_cases h : a ≤ x
  ·refine ⟨x + 1, fun b hb => ?_⟩
   rcases List.mem_cons.1 hb with rfl | hb
   ·grind
   ·have := ha b hb; grind
  ·refine ⟨a, fun b hb => ?_⟩
   rcases List.mem_cons.1 hb with rfl | hb
   ·grind
   ·exact ha b hb
theorem zY (a : Dyadic) : ∀ cs : List Dyadic, ∃ g : List Dyadic, g.length ≤ cs.length - 1 ∧ (∀ t, jv cs t = jv cs a + (t - a) * jv g t) ∧ ((∀ x ∈ g, x = 0) → jv cs a = 0 → ∀ x ∈ cs, x = 0)
 | [] => ⟨[], Nat.le_refl _, fun t => by simp only [jv]; grind, fun _ _ x hx => nomatch hx⟩
 | [c] => ⟨[], Nat.le_refl _, fun t => by simp only [jv]; grind, fun _ h x hx => by
   rw [List.mem_singleton.1 hx];simp only [jv] at h;grind⟩
 | c :: d :: cs => by
  obtain ⟨g, h1, h2, h3⟩ := zY a (d :: cs);refine ⟨jv (d :: cs) a :: g, ?_, fun t => ?_, fun hg h0 x hx => ?_⟩
  ·simp only [List.length_cons] at h1 ⊢; omega
  ·show c + t * jv (d :: cs) t = (c + a * jv (d :: cs) a) + (t - a) * (jv (d :: cs) a + t * jv g t);rw [h2 t];generalize jv (d :: cs) a = A;generalize jv g t = B;grind
  ·have e1 : jv (d :: cs) a = 0 := hg _ List.mem_cons_self;have e2 := h3 (fun y hy => hg y (List.mem_cons_of_mem _ hy)) e1
   rcases List.mem_cons.1 hx with rfl | hx
   ·rw [jv, e1] at h0; grind
   ·exact e2 x hx
theorem wq : ∀ (n : Nat) (cs bad : List Dyadic), cs.length ≤ n → (∀ t, t ∉ bad → jv cs t = 0) → ∀ x ∈ cs, x = 0
 | 0, cs, _, hn, _ => fun x hx => by
  rw [List.length_eq_zero_iff.1 (Nat.le_zero.1 hn)] at hx
  cases hx
 | n + 1, cs, bad, hn, h => by
  obtain ⟨a, ha⟩ := IE bad;have hab : a ∉ bad := fun hb => by have := ha a hb; grind
  obtain ⟨g, h1, h2, h3⟩ := zY a cs;have ha0 := h a hab;refine h3 (wq n g (a :: bad) Ky fun t ht => ?_) ha0;rw [List.mem_cons, not_or] at ht;have e1 := h2 t;rw [h t ht.2, ha0] at e1;refine pq (a := t - a) (by grind) (fun e => ht.1 (by grind))
theorem tN (f : Nat → Dyadic) (t : Dyadic) : ∀ (n s : Nat), t ^ s * jv ((List.range' s n).map f) t = sm (List.range' s n) fun r => f r * t ^ r
 | 0, s => by rw [List.range'_zero]; exact Dyadic.mul_zero _
 | n + 1, s => by
  rw [List.range'_succ, List.map_cons, jv, sm, ← tN f t n (s + 1), Dyadic.pow_succ];grind
theorem vt {n : Nat} {f : Nat → Dyadic} (h : ∀ t, sm (List.range n) (fun r => f r * t ^ r) = 0) : ∀ r, r < n → f r = 0 := fun r hr => by
 refine wq n ((List.range n).map f) [] (by simp) (fun t _ => ?_) (f r) (List.mem_map.2 ⟨r, List.mem_range.2 hr, rfl⟩);have e1 := tN f t n 0;rw [← List.range_eq_range', h t] at e1;refine pq e1 ?_;rw [Dyadic.pow_zero];decide
def rX : List Nat → List Dyadic → Dyadic
 | a :: s, x :: xs => x ^ a * rX s xs
 | _, _ => 1
theorem BP (x y : Dyadic) (n : Nat) : (x * y) ^ n = x ^ n * y ^ n := by
 induction n with
 | zero => grind
 | succ n ih => grind
theorem jC (n : Nat) : (1 : Dyadic) ^ n = 1 := by
 induction n with
 | zero => grind
 | succ n ih => grind
theorem Ey {d : Nat} {f : Nat → Dyadic} (h : ∀ t, sm (List.range (d + 1)) (fun r => f r * kL d r t) = 0) : ∀ r, r ≤ d → f r = 0 := by
 have hp : ∀ (m : Nat) (t : Dyadic), (1 - t) ^ m = sm (List.range (m + 1)) fun k => nD (bin m k) * ((-1 : Dyadic) ^ k) * t ^ k := fun m t => by
  have e1 := CR m (-t) 1;rw [show -t + 1 = 1 - t by grind] at e1;rw [← e1];refine bZ fun k _ => ?_;rw [jC, show (-t) ^ k = (-1 : Dyadic) ^ k * t ^ k by rw [← BP]; congr 1; grind];grind
 let M : Nat → Nat → Dyadic := fun r k => if k < r then 0 else nD (bin (d - r) (k - r)) * (-1 : Dyadic) ^ (k - r)
 have hb : ∀ r, r ≤ d → ∀ t, kL d r t = sm (List.range (d + 1)) fun k => M r k * t ^ k := fun r hr t => by
  have e0 : (fun k => M r k * t ^ k) = fun k => if k < r then 0 else (fun j => nD (bin (d - r) j) * (-1 : Dyadic) ^ j * t ^ (j + r)) (k - r) := funext fun k => by
   show (if k < r then 0 else nD (bin (d - r) (k - r)) * (-1 : Dyadic) ^ (k - r)) * t ^ k = _;by_cases hk : k < r
   ·rw [if_pos hk, if_pos hk, Dyadic.zero_mul]
   ·rw [if_neg hk, if_neg hk];show _ = nD (bin (d - r) (k - r)) * (-1 : Dyadic) ^ (k - r) * t ^ (k - r + r);rw [Nat.sub_add_cancel Ky]
  rw [e0, GV d r hr fun j => nD (bin (d - r) j) * (-1 : Dyadic) ^ j * t ^ (j + r)];show t ^ r * (1 - t) ^ (d - r) = _;rw [hp, ← gF];refine bZ fun k _ => ?_;rw [mb];grind
 have hk : ∀ k, k < d + 1 → sm (List.range (d + 1)) (fun r => f r * M r k) = 0 := vt fun t => by
  rw [show (sm (List.range (d + 1)) fun r => sm (List.range (d + 1)) (fun r_1 => f r_1 * M r_1 r) * t ^ r) = sm (List.range (d + 1)) fun k => sm (List.range (d + 1)) fun r => f r * M r k * t ^ k from bZ fun k _ => (kd _ _ _).symm, n9];refine Eq.trans (bZ fun r hr => ?_) (h t);rw [hb r (by have := List.mem_range.1 hr; omega) t, ← gF];exact bZ fun k _ => by grind
 intro r hr
 induction r using Nat.strongRecOn with
 | _ r ih =>
  have e1 := hk r Ky;have e2 : sm (List.range (d + 1)) (fun q => f q * M q r) = sm (List.range (d + 1)) fun q => if q = r then f r else 0 := bZ fun q hq => by
   by_cases h1 : q < r
   ·rw [ih q h1 Ky, if_neg Ky, Dyadic.zero_mul]
   ·by_cases h2 : q = r
    ·subst h2;rw [if_pos rfl];show f q * (if q < q then 0 else nD (bin (d - q) (q - q)) * (-1 : Dyadic) ^ (q - q)) = f q;rw [if_neg (Nat.lt_irrefl _), Nat.sub_self, lX, Dyadic.pow_zero, rE];grind
    ·rw [if_neg h2];show f q * (if r < q then 0 else _) = 0;rw [if_pos Ky, Dyadic.mul_zero]
  rw [e2, kX, if_pos Ky] at e1;exact e1
theorem val_zero : ∀ (ds : List Nat) (xs : List Dyadic), (∀ ts : List Dyadic, ts.length = ds.length → jo ds xs ts = 0) → ∀ p, p < av ds → (xs[p]?).getD 0 = 0
 | [], xs, h, p, hp => by
  have e1 := h [] rfl;obtain rfl : p = 0 := by simpa [av] using hp
  have e2 : jo [] xs [] = (xs[0]?).getD 0 * 1 + 0 := rfl;rw [e2] at e1;grind
 | d :: ds, xs, h, p, hp => by
  have hr : p % (d + 1) < d + 1 := Nat.mod_lt _ Ky;have hq : p / (d + 1) < av ds := by rw [Nat.div_lt_iff_lt_mul Ky, Nat.mul_comm]; exact hp
  have hsl : ∀ r, r ≤ d → ∀ q, q < av ds → (xs[r + (d + 1) * q]?).getD 0 = 0 := fun r hr q hq => by
   have ih := val_zero ds ((List.range (av ds)).map fun q => (xs[r + (d + 1) * q]?).getD 0) (fun ts hts => ?_) q hq
   ·rw [List.getElem?_map, List.getElem?_range hq] at ih;exact ih
   ·refine Ey (d := d) (f := fun r => jo ds ((List.range (av ds)).map fun q => (xs[r + (d + 1) * q]?).getD 0) ts) (fun t => ?_) r hr;have e1 := h (t :: ts) (by simpa using hts);unfold jo at e1;rw [uF, n9] at e1;refine Eq.trans (bZ fun r hr => ?_) e1;unfold jo;rw [← kd];refine bZ fun q hq => ?_;have hr2 := List.mem_range.1 hr;rw [List.getElem?_map, List.getElem?_range (List.mem_range.1 hq)];show (xs[r + (d + 1) * q]?).getD 0 * lf ds (bV ds q) ts * kL d r t = _;rw [bV, Nat.add_mul_mod_self_left, Nat.mod_eq_of_lt hr2, Nat.add_mul_div_left _ _ Ky, Nat.div_eq_of_lt hr2, Nat.zero_add, lf];grind
  have := hsl (p % (d + 1)) Ky (p / (d + 1)) hq;rwa [Nat.mod_add_div] at this
theorem val_inj {ds : List Nat} {xs ys : List Dyadic} (hx : xs.length = av ds) (hy : ys.length = av ds) (h : ∀ ts : List Dyadic, ts.length = ds.length → jo ds xs ts = jo ds ys ts) : xs = ys := by
 refine List.ext_getElem? fun p => ?_;by_cases hp : p < av ds
 ·have e1 := val_zero ds ((List.range (av ds)).map fun p => (xs[p]?).getD 0 - (ys[p]?).getD 0) (fun ts hts => ?_) p hp
  ·rw [List.getElem?_map, List.getElem?_range hp] at e1;replace e1 : (xs[p]?).getD 0 - (ys[p]?).getD 0 = 0 := e1;obtain ⟨x, h1⟩ : ∃ x, xs[p]? = some x := ⟨_, List.getElem?_eq_getElem Ky⟩;obtain ⟨y, h2⟩ : ∃ y, ys[p]? = some y := ⟨_, List.getElem?_eq_getElem Ky⟩;rw [h1, h2] at e1 ⊢;have e2 : x - y = 0 := e1;congr 1;grind
  ·have e1 := h ts hts;have e2 : jo ds ((List.range (av ds)).map fun p => (xs[p]?).getD 0 - (ys[p]?).getD 0) ts = jo ds xs ts + (-1) * jo ds ys ts := by
    unfold jo;rw [← gF, ← xT];refine bZ fun q hq => ?_;rw [List.getElem?_map, List.getElem?_range (List.mem_range.1 hq)];show ((xs[q]?).getD 0 - (ys[q]?).getD 0) * _ = _;grind
   rw [e2, e1];grind
 ·rw [List.getElem?_eq_none Ky, List.getElem?_eq_none Ky]
end Go.Proofs.YtaapkaefelhfcaaGreatDoor
/- Values of rows of terms: of sums, products, of what was put in; rows with the same values are the same. Plain, no program in sight. -/
namespace Go.Proofs.YtaapkaefelhfcaaGreatDoor
open Go.RowKit
def eZ (m : ByteArray) : List Nat := m.data.toList.map UInt8.toNat
theorem q8 (m : ByteArray) : (eZ m).length = m.size := by rw [eF]; exact List.length_map _
theorem wR {a b : ByteArray} (h : eZ a = eZ b) : a = b := uS (List.map_inj_right (fun _ _ => UInt8.toNat_inj.1) |>.1 h)
theorem BE (m : ByteArray) : ints m.data.toList = bu (eZ m) := by unfold ints bu eZ; rw [List.map_map]; rfl
def Jx (xs : List Dyadic) (l : List TR) : Dyadic := wS (fun m => rX (eZ m) xs) l
theorem DM (f : ByteArray → Dyadic) (l : List TR) : wS f l = sm l fun t => t.c.d * f t.m := by
 induction l with
 | nil => rfl
 | cons t l ih => rw [wS, sm, ih]
theorem A5 (j : Nat) (t : TR) : jB j t = ((eZ t.m)[j]?).getD 0 := by
 unfold jB eZ;rw [List.getElem?_map]
 cases t.m.data.toList[j]? <;> rfl
theorem Bn (v : Int) (q : List TR) (qs : List (List TR)) (j : Nat) (p : List TR) : fK v (q :: qs) j p = cj q (fK v qs (j + 1)) p j 128 := rfl
end Go.Proofs.YtaapkaefelhfcaaGreatDoor
/- Plain laws: a polynomial's numbers as a form: laid at their places, and spread along each axis. No program in sight. -/
namespace Go.Proofs.YtaapkaefelhfcaaGreatDoor
open Go.RowKit
def wK : Nat → List Nat → List Nat → List Nat → Dyadic
 | m + 1, _ :: ds, a :: s, r :: rs => (if a = r then 1 else 0) * wK m ds s rs
 | 0, d :: ds, a :: s, r :: rs => fY d 1 1 a r * wK 0 ds s rs
 | _, _, _, _ => 1
theorem z4 : ∀ (j : Nat) (ds s rs : List Nat), j < ds.length → ju ds s → ju ds rs → sm (List.range (ds.getD j 0 + 1)) (fun i => wK (j + 1) ds s (rs.set j i) * fY (ds.getD j 0) 1 1 i (rs.getD j 0)) = wK j ds s rs
 | _, [], _, _, h, _, _ => by cases h
 | _, _ :: _, [], _, _, h, _ => by cases h
 | _, _ :: _, _ :: _, [], _, _, h => by cases h
 | 0, d :: ds, a :: s, r :: rs, _, h1, _ => by
  show sm (List.range (d + 1)) (fun i => (if a = i then 1 else 0) * wK 0 ds s rs * fY d 1 1 i r) = fY d 1 1 a r * wK 0 ds s rs;have e : sm (List.range (d + 1)) (fun i => (if a = i then 1 else 0) * wK 0 ds s rs * fY d 1 1 i r) = sm (List.range (d + 1)) fun i => if i = a then fY d 1 1 a r * wK 0 ds s rs else 0 := bZ fun i _ => by
   by_cases h : a = i
   ·rw [if_pos h, if_pos h.symm, h]; grind
   ·rw [if_neg h, if_neg (fun e => h e.symm)]; grind
  rw [e, kX, if_pos (by have := h1.1; omega)]
 | j + 1, d :: ds, a :: s, r :: rs, hj, h1, h2 => by
  show sm (List.range (ds.getD j 0 + 1)) (fun i => (if a = r then 1 else 0) * wK (j + 1) ds s (rs.set j i) * fY (ds.getD j 0) 1 1 i (rs.getD j 0)) = (if a = r then 1 else 0) * wK j ds s rs;rw [← z4 j ds s rs (by simpa using hj) h1.2 h2.2, ← gF];exact bZ fun i _ => by grind
theorem DE : ∀ (ds s rs : List Nat), ju ds s → ju ds rs → wK ds.length ds s rs = if s = rs then 1 else 0
 | [], [], [], _, _ => by rw [if_pos rfl]; rfl
 | [], _ :: _, _, h, _ => by cases h
 | [], [], _ :: _, _, h => by cases h
 | _ :: _, [], _, h, _ => by cases h
 | _ :: _, _ :: _, [], _, h => by cases h
 | d :: ds, a :: s, r :: rs, h1, h2 => by
  show (if a = r then 1 else 0) * wK ds.length ds s rs = _;rw [DE ds s rs h1.2 h2.2];by_cases e1 : a = r
  ·by_cases e2 : s = rs
   ·rw [if_pos e1, if_pos e2, if_pos (by rw [e1, e2])]; grind
   ·rw [if_pos e1, if_neg e2, if_neg fun e => e2 (List.cons.inj e).2]; grind
  ·rw [if_neg e1, if_neg fun e => e1 (List.cons.inj e).1]; grind
abbrev QL := List (List Nat × Dyadic)
def X0 (ds : List Nat) (L : QL) : List Dyadic := gR (av ds) (L.map fun q => (dA ds q.1, q.2))
def n6 (ds : List Nat) (L : QL) : Nat → List Dyadic
 | 0 => X0 ds L
 | k + 1 => jk ds (ds.length - 1 - k) (fY (ds.getD (ds.length - 1 - k) 0) 1 1) (n6 ds L k)
theorem oU (ds : List Nat) (L : QL) (k : Nat) : n6 ds L (k + 1) = jk ds (ds.length - 1 - k) (fY (ds.getD (ds.length - 1 - k) 0) 1 1) (n6 ds L k) := rfl
theorem wY (ds : List Nat) (L : QL) (k : Nat) : (n6 ds L k).length = av ds := by
 cases k with
 | zero => exact gE _ _
 | succ k => rw [oU, qP]
theorem DS {ds : List Nat} {L : QL} (hL : ∀ q ∈ L, ju ds q.1) : ∀ k, k ≤ ds.length → ∀ row, ju ds row → co ds (n6 ds L k) row = sm L fun q => q.2 * wK (ds.length - k) ds q.1 row
 | 0, _, row, hr => by
  have hp := jx hr;rw [Aa hr];show ((X0 ds L)[dA ds row]?).getD 0 = _;unfold X0;rw [kR _ hp, Option.getD_some, oV];refine bZ fun q hq => ?_;rw [Nat.sub_zero, DE ds q.1 row (hL q hq) hr];by_cases h : q.1 = row
  ·rw [if_pos h, if_pos (by rw [h])]; grind
  ·rw [if_neg h, if_neg fun e => h (by rw [← gK (hL q hq), ← gK hr]; exact congrArg (bV ds) e)]; grind
 | k + 1, hk, row, hr => by
  obtain ⟨j, hj⟩ : ∃ j, j = ds.length - 1 - k := ⟨_, rfl⟩;rw [oU, ← hj, BV _ _ _ hr, show ds.length - (k + 1) = j by omega];have e1 : ∀ i, i < ds.getD j 0 + 1 → co ds (n6 ds L k) (row.set j i) = sm L fun q => q.2 * wK (j + 1) ds q.1 (row.set j i) := fun i hi => by
   rw [DS hL k Ky (row.set j i) (zK hr Ky), show ds.length - k = j + 1 by omega]
  rw [bZ fun i hi => show co ds (n6 ds L k) (row.set j i) * fY (ds.getD j 0) 1 1 i (row.getD j 0) = sm L fun q => q.2 * (wK (j + 1) ds q.1 (row.set j i) * fY (ds.getD j 0) 1 1 i (row.getD j 0)) by
   rw [e1 i (List.mem_range.1 hi), ← kd];exact bZ fun q _ => by grind, n9]
  refine bZ fun q hq => ?_;rw [← z4 j ds q.1 row Ky (hL q hq) hr, ← gF]
def vw (ns : List Nat) (l : List TR) : List Dyadic := (List.range (av ns.reverse)).map fun p => wS (fun m => wK 0 ns.reverse (eZ m).reverse (bV ns.reverse p)) l
theorem p6 (ns : List Nat) (l : List TR) : (vw ns l).length = av ns := by unfold vw; rw [List.length_map, List.length_range, dr]
def pQ (l : List TR) : QL := l.map fun t => ((eZ t.m).reverse, t.c.d)
theorem xA {ns : List Nat} {l : List TR} (hl : ∀ t ∈ l, ju ns.reverse (eZ t.m).reverse) : n6 ns.reverse (pQ l) ns.length = vw ns l := by
 have hL : ∀ q ∈ pQ l, ju ns.reverse q.1 := fun q hq => by
  obtain ⟨t, ht, rfl⟩ := List.mem_map.1 hq;exact hl t ht
 refine Hc (ds := ns.reverse) (wY _ _ _) (by rw [p6, dr]) fun row hr => ?_;have hp := jx hr;rw [DS hL ns.length (by rw [List.length_reverse]; exact Nat.le_refl _) row hr, Aa hr, show ns.reverse.length - ns.length = 0 by rw [List.length_reverse, Nat.sub_self]];unfold vw pQ;rw [List.getElem?_map, List.getElem?_range hp, oV];show _ = wS _ l;rw [DM, gK hr]
theorem xI : ∀ {ds rs : List Nat} (a : Nat), ju ds rs → rs.getD a 0 ≤ ds.getD a 0
 | [], [], _, _ => by simp
 | [], _ :: _, _, h => by cases h
 | _ :: _, [], _, h => by cases h
 | _ :: _, _ :: _, 0, h => h.1
 | _ :: ds, _ :: rs, a + 1, h => xI (ds := ds) (rs := rs) a h.2
theorem Ck {ds : List Nat} {a k d : Nat} {X : List Dyadic} (hx : ∀ x ∈ X, Sz k x) (hd : ds.getD a 0 = d) (hd7 : d ≤ 127) : ∀ x ∈ jk ds a (fY d 1 1) X, Sz (k + 520) x := fun x h => by
 obtain ⟨p, _, rfl⟩ := List.mem_map.1 h;have hr : (bV ds p).getD a 0 ≤ d := by rw [← hd]; exact xI a (gN ds p)
 have h2 := C7 (l := List.range (ds.getD a 0 + 1)) (f := fun i => co ds X ((bV ds p).set a i) * fY d 1 1 i ((bV ds p).getD a 0)) (k := k + (130 + 2 * (1 * d))) fun i _ => by
  refine Sz.mul ?_ (AN Sz.one Sz.one hd7 hr);unfold co;split
  ·cases h : X[dA ds ((bV ds p).set a i)]? with
   | none => exact Sz.zero k
   | some y => exact hx y (List.mem_of_getElem? h)
  ·exact Sz.zero k
 rw [List.length_range, hd] at h2;rw [hd];exact h2.mono Ky
theorem Dm {ds : List Nat} {B : Nat} (h : ∀ d ∈ ds, d ≤ B) (a : Nat) : ds.getD a 0 ≤ B := by
 rw [List.getD_eq_getElem?_getD]
 cases ha : ds[a]? with
 | none => exact Nat.zero_le _
 | some d => exact h d (List.mem_of_getElem? ha)
theorem yg {ds : List Nat} {L : QL} {k : Nat} (h : ∀ x ∈ X0 ds L, Sz k x) (hd : ∀ d ∈ ds, d ≤ 127) : ∀ i, ∀ x ∈ n6 ds L i, Sz (k + 520 * i) x
 | 0 => h
 | i + 1 => fun x hx => (Ck (yg h hd i) rfl (Dm hd _) x hx).mono Ky
theorem GX {ds : List Nat} {l : List TR} {k : Nat} (h : jq k l) : ∀ x ∈ X0 ds (pQ l), Sz (k + l.length) x := fun x hx => by
 have := ug (N := av ds) (L := (pQ l).map fun (q : List Nat × Dyadic) => (dA ds q.1, q.2)) (k := k) (fun a ha => by
  obtain ⟨q, hq, rfl⟩ := List.mem_map.1 ha;obtain ⟨t, ht, rfl⟩ := List.mem_map.1 hq;exact (h t ht).2) x hx
 unfold pQ at this;rwa [List.length_map, List.length_map] at this
end Go.Proofs.YtaapkaefelhfcaaGreatDoor
/- What is known where a polynomial, a box and degrees go together, and of what comes of putting the places in. Plain, no program in sight. -/
namespace Go.Proofs.YtaapkaefelhfcaaGreatDoor
open Go.RowKit
structure xh (p : PX) (b : List SR) (ns : List Nat) : Prop where
 e : p.e = 0
 box : pP b = 0
 pos : 0 < b.length
 oL : b.length ≤ 12
 v : p.v = b.length
 nl : ns.length = b.length
 low : ∀ d ∈ ns, d ≤ 127
 most : av ns ≤ 4096
 own : ∀ (i d : Nat), ns[i]? = some d → ∀ t ∈ p.ts, jB i t ≤ d
theorem u4 {p : PX} {b : List SR} {D : List Int} (h : mV p b D = 0) : D = bu (D.map Int.toNat) ∧ xh p b (D.map Int.toNat) := by
 unfold mV at h;by_cases h0 : p.e ≠ 0
 ·rw [if_pos h0] at h; exact absurd h h0
 ·rw [if_neg h0] at h;by_cases h1 : pP b ≠ 0
  ·rw [if_pos h1] at h; exact absurd h h1
  ·rw [if_neg h1] at h;by_cases h2 : (b.length : Int) ≠ p.v ∨ (D.length : Int) ≠ p.v
   ·rw [if_pos h2] at h; exact absurd h Kz
   ·rw [if_neg h2] at h;by_cases h3 : ue (oF p.v p.ts) D = true
    ·rw [if_pos h3] at h; exact absurd h Kz
    ·rw [if_neg h3] at h;by_cases h4 : gB 1 D = 0
     ·rw [if_pos h4] at h; exact absurd h Kz
     ·have hpe : p.e = 0 := Classical.not_not.1 h0;obtain ⟨f1, _, _, _⟩ := di hpe;have f2 := gI.1 f1;obtain ⟨o1, o2, o3⟩ := k7 hpe;have hbv : (b.length : Int) = p.v := Classical.not_not.1 fun c => h2 (.inl c);have hdv : (D.length : Int) = p.v := Classical.not_not.1 fun c => h2 (.inr c);have hD : ∀ (i : Nat) (y : Int), D[i]? = some y → ∃ d : Nat, (dO p.v p.ts)[i]? = some d ∧ (d : Int) ≤ y ∧ y ≤ 127 := fun i y hy => by
       have hi := (List.getElem?_eq_some_iff.1 hy).1;obtain ⟨d, hd⟩ := ay (l := dO p.v p.ts) (k := i) Ky;have hg : (oF p.v p.ts)[i]? = some (d : Int) := by rw [o1]; exact eu hd
       have := List.any_eq_false.1 ((Bool.not_eq_true _).mp h3) _ (List.mem_of_getElem? (zI hg hy));rw [decide_eq_true_eq] at this;exact ⟨d, hd, by show (d : Int) ≤ y; omega, by show y ≤ 127; omega⟩
      have hnat : D = bu (D.map Int.toNat) := by
       unfold bu;rw [List.map_map];refine (List.map_id' _).symm.trans (List.map_congr_left fun y hy => ?_);obtain ⟨i, hi⟩ := List.mem_iff_getElem?.1 hy;obtain ⟨d, _, h5, _⟩ := hD i y hi;show y = ((y.toNat : Nat) : Int);omega
      have hlow : ∀ d ∈ D.map Int.toNat, d ≤ 127 := fun d hd => by
       obtain ⟨y, hy, rfl⟩ := List.mem_map.1 hd;obtain ⟨i, hi⟩ := List.mem_iff_getElem?.1 hy;obtain ⟨_, _, _, h6⟩ := hD i y hi;omega
      refine ⟨hnat, hpe, Classical.not_not.1 h1, ?_, Ky, hbv.symm, by rw [List.length_map]; omega, hlow, ?_, fun i d hd t ht => ?_⟩
      ·rcases Nat.eq_zero_or_pos b.length with c | c
       ·have h9 := Classical.not_not.1 h1;unfold pP at h9;rw [List.length_eq_zero_iff.1 c] at h9;exact absurd h9 Kz
       ·exact c
      ·have h8 := jg (D.map Int.toNat) 1 (Nat.le_refl _) Kz hlow;rw [← hnat, Nat.one_mul] at h8;rw [show gB 1 D = gB ((1 : Nat) : Int) D from rfl, h8] at h4;exact Classical.not_not.1 fun c => h4 (if_neg c)
      ·rw [List.getElem?_map] at hd;obtain ⟨y, hy, hyd⟩ := Option.map_eq_some_iff.1 hd;obtain ⟨d2, h7, h8, h9⟩ := hD i y hy;have := (o3 i d2 h7).2.1 t ht;omega
theorem xh.ql {p : PX} {b : List SR} {ns : List Nat} (h : xh p b ns) : (dO p.v p.ts).length = b.length := by
 rw [(k7 h.e).2.1, h.v];exact Int.toNat_natCast _
theorem Ft (v i : Nat) (c : NR) : l7 (fun x => if x = i then 1 else 0) [⟨mq v i, c⟩] := fun t ht j => by
 rw [List.mem_singleton.1 ht]
 cases he : (⟨mq v i, c⟩ : TR).m.data.toList[j]? with
 | none => unfold jB; rw [he]; exact Nat.zero_le _
 | some e =>
  rw [pd he];show e.toNat ≤ if j = i then 1 else 0
  have e1 : ((List.replicate v (0 : UInt8)).set i 1)[j]? = some e := by simpa [mq] using he
  rw [List.getElem?_set] at e1;by_cases hj : i = j
  ·rw [if_pos hj] at e1;rw [if_pos hj.symm];split at e1
   ·rw [← Option.some.inj e1]; decide
   ·cases e1
  ·rw [if_neg hj] at e1;rw [(List.mem_replicate.1 (List.mem_of_getElem? e1)).2];exact Nat.zero_le _
theorem tM (v i : Nat) (s : SR) : l7 (fun x => if x = i then 1 else 0) (jj v i s) := by
 refine l7.a6 (l7.append ((rq v _).a6.mono fun x => Nat.zero_le _) (l7.a6 fun t ht j => ?_));obtain ⟨z, hz, rfl⟩ := List.mem_map.1 ht;rw [show jB j (rY (s.H - s.L) z) = jB j z from rfl];exact (Ft v i _).a6 z hz j
theorem tK {p : PX} {b : List SR} {ns : List Nat} {k : Nat} (h : xh p b ns) (ho : jq k p.ts) (hb : ∀ s ∈ b, s.fin k) (hk : k ≤ 1000) (hgr : iU (k + k + 16394) (dO p.v p.ts) (k + 1) ≤ 440000) (h0 : (gp p (cC b)).1 = 0) :
  jh b.length 440000 (gp p (cC b)).2 ∧ ∀ t ∈ (gp p (cC b)).2, ju ns.reverse (eZ t.m).reverse := by
 have hl := h.oL;have hpos := h.pos;have hln := kW b;obtain ⟨_, o2, o3⟩ := k7 h.e;have hol := h.ql;have hhv : fT (cC b) = b.length := by
  obtain ⟨s, hs⟩ := ay (l := b) (k := 0) Ky;rw [ll (gZ hs)]
 unfold gp at h0 ⊢;rw [if_neg (fun c => c h.e), if_neg (by rw [hln, h.v]; exact fun c => c rfl)] at h0 ⊢;by_cases hlk : (cC b).length ≠ 0 ∧ gl (cC b) ≠ 0
 ·rw [if_pos hlk] at h0; exact absurd h0 hlk.2
 ·rw [if_neg hlk, hhv] at h0 ⊢;have hq : ∀ q ∈ (cC b).map PX.ts, jh b.length (k + k + 10) q ∧ q.length ≤ 2 := fun q hq => by
   obtain ⟨g, hg, rfl⟩ := List.mem_map.1 hq;obtain ⟨i, s, hs, rfl⟩ := yc hg;exact mj hl (hb s (List.mem_of_getElem? hs)) Ky
  have h1 := Ao (hU hl) (show k + k + 10 + 4096 * 2 + 8192 ≤ k + k + 16394 by omega) ((cC b).map PX.ts) 0 p.ts (dO p.v p.ts) k hq ho (by rw [List.length_map, hln, hol]) (fun i d hd => ⟨(o3 i d hd).1, fun t ht => by rw [Nat.zero_add]; exact (o3 i d hd).2.1 t ht⟩) Ky h0;refine ⟨h1.mono hgr, ?_⟩;have h2 := z5 ((cC b).map PX.ts) 0 p.ts (fun i => (ns[i]?).getD 0) (fun i q hi => ?_) (fun t ht i hi => ?_) h0
  ·intro t ht;have hm := (di h1.e).2.2.1 t ht;unfold gH at hm;rw [Bool.and_eq_true, decide_eq_true_eq] at hm;have hsz : (eZ t.m).length = b.length := by rw [q8]; omega
   rw [kM];refine ⟨by rw [List.length_reverse, List.length_reverse, hsz, h.nl], fun i d r hd hr => ?_⟩;have hi := (List.getElem?_eq_some_iff.1 hd).1;rw [List.length_reverse] at hi;rw [List.getElem?_reverse hi] at hd;rw [List.getElem?_reverse (by rw [hsz, ← h.nl]; exact hi), hsz, ← h.nl] at hr;have h3 := h2 t ht (ns.length - 1 - i);dsimp only at h3;rw [List.length_map, hln, if_pos ⟨Nat.zero_le _, by have := h.nl; omega⟩, hd, A5, hr] at h3;exact h3
  ·rw [List.getElem?_map] at hi;obtain ⟨g, hg, rfl⟩ := Option.map_eq_some_iff.1 hi;obtain ⟨s, hs⟩ := ay (l := b) (k := i) (by have := (List.getElem?_eq_some_iff.1 hg).1; rwa [hln] at this);rw [gZ hs] at hg;rw [← Option.some.inj hg, Nat.zero_add];exact tM _ i s
  ·rw [List.length_map, hln] at hi;rw [Nat.zero_add];obtain ⟨d, hd⟩ := ay (l := ns) (k := i) (by rw [h.nl]; exact hi);rw [hd];exact h.own i d hd t ht
end Go.Proofs.YtaapkaefelhfcaaGreatDoor
/- How great the numbers are that come of putting places in, by how many terms there are. Plain, no program in sight. -/
namespace Go.Proofs.YtaapkaefelhfcaaGreatDoor
open Go.RowKit
theorem r8 : ∀ (N : Nat) (l : List Nat), l.Nodup → (∀ x ∈ l, x < N) → l.length ≤ N
 | 0, l, _, h => by
  cases l with
  | nil => exact Nat.le_refl _
  | cons x l => exact absurd (h x List.mem_cons_self) Ky
 | N + 1, l, hd, h => by
  by_cases hm : N ∈ l
  ·have h1 := r8 N (l.erase N) (hd.erase N) fun x hx => by
    have := (hd.mem_erase_iff).1 hx;have := h x this.2;omega
   rw [List.length_erase_of_mem hm] at h1;omega
  ·have := r8 N l hd fun x hx => by
    have := h x hx;have : x ≠ N := fun e => hm (e ▸ hx);omega
   omega
theorem FZ {l : List TR} {ds : List Nat} (hr : qY l) (h : ∀ t ∈ l, ju ds (eZ t.m)) : l.length ≤ av ds := by
 have h1 := r8 (av ds) (l.map fun t => dA ds (eZ t.m)) (by
  unfold List.Nodup;rw [List.pairwise_map];refine List.Pairwise.imp_of_mem (fun {a b} ha hb hl e => ?_) hr;have e2 : eZ a.m = eZ b.m := by rw [← gK (h a ha), e, gK (h b hb)]
  rw [wR e2, iA] at hl
  cases hl) (fun x hx => by
  obtain ⟨t, ht, rfl⟩ := List.mem_map.1 hx;exact jx (h t ht))
 rwa [List.length_map] at h1
theorem GY {v : Nat} {l : List TR} {B : Nat → Nat} (hs : ∀ t ∈ l, t.m.size = v) (h : l7 B l) : ∀ t ∈ l, ju ((List.range v).map B) (eZ t.m) := fun t ht => by
 rw [kM];refine ⟨by rw [q8, hs t ht, List.length_map, List.length_range], fun i d r hd hr => ?_⟩;have hi := (List.getElem?_eq_some_iff.1 hd).1;rw [List.length_map, List.length_range] at hi;rw [List.getElem?_map, List.getElem?_range hi] at hd;have := h t ht i;rw [A5, hr] at this;rw [← Option.some.inj hd];exact this
theorem wW {v : Nat} {ts : List TR} {B : Nat → Nat} (h : jl (v : Int) ts = 0) (hb : l7 B ts) : ts.length ≤ av ((List.range v).map B) := by
 obtain ⟨_, _, h3, h4⟩ := di h;refine FZ h4.pS (GY (fun t ht => ?_) hb);have := h3 t ht;unfold gH at this;rw [Bool.and_eq_true, decide_eq_true_eq] at this;omega
theorem tS {v : Int} {q p : List TR} {sub : List TR → Int × List TR} {j D K T B c N : Nat} (hv : iB v = true) (hq : jh v K q) (hT : q.length ≤ T) (hD : ∀ t ∈ p, jB j t ≤ D) (hb : ∀ n, (sub (ck p j n)).1 = 0 → jh v B (sub (ck p j n)).2 ∧ (sub (ck p j n)).2.length ≤ N)
  (hN : ∀ i, i ≤ 128 → (cj q sub p j i).1 = 0 → (cj q sub p j i).2.length ≤ N) (hc : K + N * T + (N * T + N) ≤ c) (hS : B + D * c + N ≤ 500000) (hc2 : c ≤ 100000) (hN4 : N ≤ 4096) :
  ∀ i, i ≤ 128 → (cj q sub p j i).1 = 0 → jh v (B + (i + D - 128) * c + N) (cj q sub p j i).2
 | 0, _, _ => jh.nil hv
 | i + 1, hi, h0 => by
  by_cases h1 : i + 1 + D ≤ 127
  ·rw [iH hD _ h1];exact jh.nil hv
  ·have h2 : (cj q sub p j i).1 = 0 := by
    refine Classical.byContradiction fun c => ?_;rw [kD c (Nat.le_succ i)] at h0;exact c h0
   have hle : (i + 1 + D - 128) * c ≤ D * c := Nat.mul_le_mul_right _ Ky;have ih := tS hv hq hT hD hb hN hc hS hc2 hN4 i Ky h2;have hNi := hN i Ky h2;have hst : i + D ≤ 127 → cj q sub p j i = (0, []) := iH hD i;have hmul : ¬ i + D ≤ 127 → (i + 1 + D - 128) * c = (i + D - 128) * c + c := fun h => by rw [show i + 1 + D - 128 = (i + D - 128) + 1 by omega, Nat.succ_mul]
   have hle0 : (i + D - 128) * c ≤ (i + 1 + D - 128) * c := Nat.mul_le_mul_right _ Ky;rw [kP] at h0 ⊢;unfold iy at h0 ⊢;rw [if_neg (fun h => h h2)] at h0 ⊢;by_cases c1 : (cj q sub p j i).2.length = 0 ∧ (ck p j (127 - i)).length = 0
   ·rw [if_pos c1];exact ih.mono Ky
   ·rw [if_neg c1] at h0 ⊢;by_cases c2 : fI (cj q sub p j i).2 q ≠ 0
    ·rw [if_pos c2] at h0; exact absurd h0 c2
    ·rw [if_neg c2] at h0 ⊢;by_cases c3 : (sub (ck p j (127 - i))).1 ≠ 0
     ·rw [if_pos c3] at h0; exact absurd h0 c3
     ·rw [if_neg c3] at h0 ⊢;by_cases c4 : gP (a6 (cQ (cj q sub p j i).2 q) ++ (sub (ck p j (127 - i))).2) ≠ 0
      ·rw [if_pos c4] at h0; exact absurd h0 c4
      ·rw [if_neg c4];obtain ⟨hs1, hs2⟩ := hb (127 - i) Ky;obtain ⟨f1, f2, f3, f4⟩ := di ih.e;obtain ⟨g1, g2, g3, g4⟩ := di hs1.e;by_cases hlow : i + D ≤ 127
       ·rw [hst hlow];have hl : (a6 (cQ [] q) ++ (sub (ck p j (127 - i))).2).length ≤ N := hs2;refine (k6 (k := B) (n := N) hv (fun t ht => g3 t ht) (fun t ht => hs1.ok t ht) (fun t ht => hs1.sz t ht) hl Ky Ky).mono Ky
       ·have ht := (kG (p := (cj q sub p j i).2) (q := q) Ky);have hpl : (cQ (cj q sub p j i).2 q).length ≤ N * T := by rw [me]; exact Nat.mul_le_mul hNi hT
        have hm := hmul hlow;rw [hm] at hle ⊢;generalize (i + D - 128) * c = y at *;generalize D * c = z at *;have hpo := nB ih.ok hq.ok Ky;have hg1 := kJ (k := B + y + N + K) (j := B + y + N + K + N * T) hpo Ky Ky;have hg2 := dD (cQ (cj q sub p j i).2 q);have hmm : ∀ {P : TR → Prop}, (∀ t ∈ a6 (cQ (cj q sub p j i).2 q), P t) → (∀ t ∈ (sub (ck p j (127 - i))).2, P t) → ∀ t ∈ a6 (cQ (cj q sub p j i).2 q) ++ (sub (ck p j (127 - i))).2, P t := fun a b t ht => (List.mem_append.1 ht).elim (a t) (b t);refine ⟨gW hv (u1 Ky) (hmm (m5 (pe f3 ht.2.1)) g3), kJ (k := B + y + N + K + N * T) (hmm hg1 (hs1.ok.mono Ky)) (by rw [List.length_append]; omega) Ky, na (hmm (wc ih.ok hq.ok hq.sz Ky Ky).2 hs1.sz)⟩
theorem C2 {v K T c N : Nat} (hv : v ≤ 12) (D : Nat → Nat) (hN : av ((List.range v).map D) ≤ N) (hc : K + N * T + (N * T + N) ≤ c) (hc2 : c ≤ 100000) (hN4 : N ≤ 4096) : ∀ (qs : List (List TR)) (j : Nat) (p : List TR) (ds : List Nat) (k : Nat), (∀ (i : Nat) (q : List TR), qs[i]? = some q → jh v K q ∧ q.length ≤ T ∧ l7 (fun x => if x = j + i then 1 else 0) q) → jq k p → ds.length = qs.length → (∀ (i d : Nat), ds[i]? = some d → D (j + i) = d) → (∀ t ∈ p, ∀ i, i < qs.length → jB (j + i) t ≤ D (j + i)) → k + 1 + (ds.sum + ds.length) * c ≤ 400000 →
  (fK v qs j p).1 = 0 → jh v (k + 1 + (ds.sum + ds.length) * c) (fK v qs j p).2 ∧ (fK v qs j p).2.length ≤ N := by
 intro qs
 induction qs with
 | nil =>
  intro j p ds k _ hok hds _ _ hB _;obtain rfl : ds = [] := List.length_eq_zero_iff.1 hds;have h1 : jh v (k + 1) (fK v [] j p).2 := by
   refine oH (hU hv) ?_ Ky
   cases p with
   | nil => show Sz k (nR 0).d; rw [dK]; exact Sz.zero k
   | cons t p => exact (hok t List.mem_cons_self).2
  refine ⟨h1.mono (Nat.le_add_right _ _), Nat.le_trans (wW h1.e (B := fun _ => 0) (rq v _).a6) (Nat.le_trans ?_ hN)⟩;have e : ∀ (f : Nat → Nat) (l : List Nat), av (l.map fun _ => 0) ≤ av (l.map f) := fun f l => by
   induction l with
   | nil => exact Nat.le_refl _
   | cons x l ih => exact Nat.mul_le_mul (Nat.succ_le_succ (Nat.zero_le _)) ih
  exact e D _
 | cons q qs ih =>
  intro j p ds k hq hok hds hdD hp hB h0
  cases ds with
  | nil => cases hds
  | cons d ds =>
   have hdj : D j = d := hdD 0 d rfl;obtain ⟨hq1, hq2, hq3⟩ := hq 0 q rfl;rw [Nat.add_zero] at hq3;rw [List.sum_cons, List.length_cons] at hB ⊢;have hBe : (d + ds.sum + (ds.length + 1)) * c = (ds.sum + ds.length) * c + d * c + c := by rw [show d + ds.sum + (ds.length + 1) = (ds.sum + ds.length) + d + 1 by omega, Nat.add_mul, Nat.add_mul, Nat.one_mul]
   rw [hBe] at hB ⊢;have hNc : N ≤ c := Ky;have hpw : ∀ n, ∀ t ∈ ck p j n, ∀ i, i < qs.length → jB (j + 1 + i) t ≤ D (j + 1 + i) := fun n t ht i hi => by
    have := hp t (il t ht) (i + 1) (by rw [List.length_cons]; omega);rwa [show j + 1 + i = j + (i + 1) by omega]
   have hsub : ∀ n, (fK v qs (j + 1) (ck p j n)).1 = 0 → jh v (k + 1 + (ds.sum + ds.length) * c) (fK v qs (j + 1) (ck p j n)).2 ∧ (fK v qs (j + 1) (ck p j n)).2.length ≤ N := fun n hn => by
    refine ih (j + 1) (ck p j n) ds k (fun i r hr => ?_) (fun t ht => hok t (il t ht)) (by simpa using hds) (fun i e he => ?_) (hpw n) Ky hn
    ·have := hq (i + 1) r (by simpa using hr);rwa [show j + 1 + i = j + (i + 1) by omega]
    ·have := hdD (i + 1) e (by simpa using he);rwa [show j + 1 + i = j + (i + 1) by omega]
   have hsbn : ∀ n, (fK v qs (j + 1) (ck p j n)).1 = 0 → l7 (fun x => if j + 1 ≤ x ∧ x < j + 1 + qs.length then D x else 0) (fK v qs (j + 1) (ck p j n)).2 := fun n hn => z5 qs (j + 1) (ck p j n) D (fun i r hr => by
    have := (hq (i + 1) r (by simpa using hr)).2.2;rwa [show j + 1 + i = j + (i + 1) by omega]) (hpw n) hn
   have hDp : ∀ t ∈ p, jB j t ≤ d := fun t ht => by rw [← hdj]; exact hp t ht 0 (by rw [List.length_cons]; omega)
   rw [Bn] at h0 ⊢;generalize fK v qs (j + 1) = sub at hsub hsbn h0 ⊢;have hlim0 : ∀ i, i ≤ 128 → (cj q sub p j i).1 = 0 → jl (v : Int) (cj q sub p j i).2 = 0 := fun i hi hz => by
    clear h0
    induction i with
    | zero => exact (jh.nil (k := 0) (hU hv)).e
    | succ i ihi =>
     have h2 : (cj q sub p j i).1 = 0 := by
      refine Classical.byContradiction fun c => ?_;rw [kD c (Nat.le_succ i)] at hz;exact c hz
     have e0 := ihi Ky h2;rw [kP] at hz ⊢;unfold iy at hz ⊢;rw [if_neg (fun h => h h2)] at hz ⊢;by_cases c1 : (cj q sub p j i).2.length = 0 ∧ (ck p j (127 - i)).length = 0
     ·rw [if_pos c1]; exact e0
     ·rw [if_neg c1] at hz ⊢;by_cases c2 : fI (cj q sub p j i).2 q ≠ 0
      ·rw [if_pos c2] at hz; exact absurd hz c2
      ·rw [if_neg c2] at hz ⊢;by_cases c3 : (sub (ck p j (127 - i))).1 ≠ 0
       ·rw [if_pos c3] at hz; exact absurd hz c3
       ·rw [if_neg c3] at hz ⊢;by_cases c4 : gP (a6 (cQ (cj q sub p j i).2 q) ++ (sub (ck p j (127 - i))).2) ≠ 0
        ·rw [if_pos c4] at hz; exact absurd hz c4
        ·rw [if_neg c4];refine gW (hU hv) (u1 Ky) fun t ht => (List.mem_append.1 ht).elim (m5 (pe (di e0).2.2.1 (kG Ky).2.1) t) ((di (hsub _ Ky).1.e).2.2.1 t)
   have hbn := rj hq3 hDp (E := fun x => if j + 1 ≤ x ∧ x < j + 1 + qs.length then D x else 0) (by rw [if_neg Ky]) hsbn;have hNN : ∀ i, i ≤ 128 → (cj q sub p j i).1 = 0 → (cj q sub p j i).2.length ≤ N := fun i hi hz => by
    refine Nat.le_trans (wW (hlim0 i hi hz) ((hbn i hi hz).mono (C := D) fun x => ?_)) hN;by_cases hx : x = j
    ·rw [if_pos hx, hx, hdj]; omega
    ·rw [if_neg hx];split
     ·exact Nat.le_refl _
     ·exact Nat.zero_le _
   have e : ∀ m, m = 128 → (cj q sub p j m).1 = 0 → jh v (k + 1 + ((ds.sum + ds.length) * c + d * c + c)) (cj q sub p j m).2 ∧ (cj q sub p j m).2.length ≤ N := fun m hm hz => by
    have h3 := tS (hU hv) hq1 hq2 hDp hsub hNN hc Ky hc2 hN4 m Ky hz;rw [show m + d - 128 = d by omega] at h3;exact ⟨h3.mono Ky, hNN m Ky hz⟩
   exact e 128 rfl h0
end Go.Proofs.YtaapkaefelhfcaaGreatDoor
/- Where the endings of a statement meet, with one slot that it changes. Plain, no program in sight. -/
namespace Go.Proofs.YtaapkaefelhfcaaGreatDoor
open Go.RowKit
section
variable {ro : Mode} {P : Program} {N : Nat} {Q : Kq} {ρ : Rf} {w : World}
theorem B5 {a c : Code} (mods : List Nat) (s0 : Nat) (J : Value → World → Prop) (hc : WC ro P N a (eI (fun ρ2 w2 => J (ρ2 s0) w2 ∧ iz mods ρ2 ρ) Q) ρ w) (hn : ∀ ρ' v0 w', J v0 w' → WC ro P N c Q (de (mask mods ρ' ρ) s0 v0) w') : WC ro P N (.seq a c) Q ρ w :=
 ah (hc.mono fun e ρ2 w2 hq => by
  cases e with
  | normal =>
   have := hn ρ2 (ρ2 s0) w2 hq.1;rwa [iE hq.2, fq] at this
  | _ => exact hq)
end
end Go.Proofs.YtaapkaefelhfcaaGreatDoor
/- The walk through bern.spread. -/
namespace Go.Proofs.YtaapkaefelhfcaaGreatDoor
open Go.RowKit
theorem vu (L : Option Addr) (n c d : Nat) (xs : List Dyadic) (k : Nat) (w : World) (hT : eP w) (hS : Sl w L n 3 (aY NR.cells (xs.map nR))) (hn : n = d + 1) (hd : d ≤ 127) (hx : ∀ x ∈ xs, Sz k x) (hk : k ≤ 500000) :
  Calls Tryz.prog 120 #[.slice L n c] w fun r w' => ∃ A c', r = .returned (.slice A n c') ∧ Hp w [.row A n c' 29 3 (aY NR.cells ((mC d (fY d 1 1) xs).map nR))] w' := by
 have hh := Hp.start w;have hln : xs.length = n := by have := hS.bM NR.len Kz; simpa using this
 have ha : Sz 1 1 := Sz.one;obtain ⟨ad, rfl, hr⟩ := hS.at_ Ky;refine al (N := 52) (l := [.slice (some ad) n c]) Tryz.func120 rfl rfl (by simp) ?_;refine sr (aL (aa (sr (mL (aW ?_)))));refine eO (aI (aa (sr (mI ?_))));refine bB ?_;refine eT (n := n) hh rfl rfl Ky Ky aQ.out aF.out rfl Ky Ky Kz ?_;intro b14 w14 hh;refine aL (aa (ah (sr (mL (aW (mI (aa (aj ?_))))))));rw [sS, hn, ← zr d 1 1 xs, ← hn] at hh;refine bm [5, 6, 7, 8, 17, 18, 19, 20, 21, 22, 23, 24, 25, 26, 27, 28, 29, 30, 31, 32, 33, 34, 35, 36, 37, 38, 39, 40, 41, 42, 43, 44, 45, 46, 47, 48, 49, 50] 17
  (fun v w' => ∃ i : Nat, i ≤ n ∧ v = .int .i64 i ∧ Hp w [.row (some ⟨b14, 0, none⟩) n n 29 3 (aY NR.cells ((jS d 1 1 xs i 0).map nR))] w')
  (fun v _ => n - (intOf v).toNat) ?_ ?_
 ·exact ⟨0, Nat.zero_le _, rfl, hh⟩
 ·clear hh;rintro ρ' v w' ⟨i, hi, rfl, hh⟩;by_cases hlt : i < n
  ·obtain ⟨x, hxi⟩ := ay (l := xs) (k := i) Ky;have hxn : (xs.map nR)[i]? = some (nR x) := by rw [List.getElem?_map, hxi]; rfl
   have hat : ji xs i = x := by unfold ji; rw [hxi]; rfl
   have zx := hx x (List.mem_of_getElem? hxi);have hch := fun w1 hT1 => mw (d - i) w1 hT1 Ky;refine sr ?_;refine aK (aa (ah (cT (ak (ai (ah (aj (sr (mI ?_)))))))));refine aD (k := i) aQ.out aF.size rfl rfl Ky Ky Kz ?_;refine bJ (vs := [_, _, _]) aF.out rfl ((hr.ext hh.below).recAt NR.len hxn) rfl Kz ?_;refine cB hh ?_;intro b6 w6 hh;refine aI ?_;refine bK hh 0 [_,_,_] ?_;intro ws hh;replace hh : Hp _ (.blk _ _ [_, _, _] _ :: _) _ := hh;refine aa (sr (mI (mI ?_)));refine eO ?_;have e24 : (n : Int) - 1 - (i : Int) = ((d - i : Nat) : Int) := Ky;rw [← e24] at hch;refine aN (hch _ (hT.hp hh)) aw.out rfl Kz ?_;rintro e_ w25 ⟨A25, c25, rfl, hown_, hb_⟩;refine ⟨_, rfl, ?_⟩;replace hh := hh.bz (x := .row _ _ _ _ _ _) hb_ hown_;refine aW (mI (aa (aj ?_)));replace hh := hh.sub (List.Sublist.cons_cons _ (List.Sublist.cons_cons _ (List.Sublist.cons_cons _ List.Sublist.slnil)));refine bm [7, 8, 27, 28, 29, 30, 31, 32, 33, 34, 35, 36, 37, 38, 39, 40, 41, 42, 43, 44, 45, 46, 47, 48, 49] 27
    (fun v w' => ∃ j : Nat, j ≤ d - i + 1 ∧ v = .int .i64 j ∧ Hp w [.row A25 (d - i + 1) c25 29 3 (aY NR.cells (lg (d - i))), .blk b6 29 [.bool (nR x).neg, .string (nR x).cA, .int .i64 (nR x).e] (0, 0), .row (some ⟨b14, 0, none⟩) n n 29 3 (aY NR.cells ((jS d 1 1 xs i j).map nR))] w')
    (fun v _ => d - i + 1 - (intOf v).toNat) ?_ ?_
   ·exact ⟨0, Nat.zero_le _, rfl, hh⟩
   ·clear hh;rintro ρ2 v w2 ⟨j, hj, rfl, hh⟩;by_cases hjn : j < d - i + 1
    ·have hbn : (lg (d - i))[j]? = some (nR (nD (bin (d - i) j))) := kU Ky;have zb := rR (d - i) j Ky;obtain ⟨o, ho⟩ := ay (l := jS d 1 1 xs i j) (k := i + j) (by rw [lF]; omega);have hon : ((jS d 1 1 xs i j).map nR)[i + j]? = some (nR o) := by rw [List.getElem?_map, ho]; rfl
     have zo := FE (j := j) hx ha ha hd (show i ≤ d + 1 by omega) o (List.mem_of_getElem? ho);have zy := zx.mul zb;have hm2 := fun A cc w1 hT1 hS1 => jM A 2 cc [nR x, nR (nD (bin (d - i) j))] w1 hT1 hS1 (by simpa using ⟨zx.ok Ky, zb.ok Ky⟩) 600000 (by simpa [dK] using ⟨zx.mono Ky, zb.mono Ky⟩) Ky Ky;rw [show jL ([nR x, nR (nD (bin (d - i) j))].map NR.d) = x * nD (bin (d - i) j) by simp only [List.map_cons, List.map_nil, dK]; show 1 * x * _ = _; rw [Dyadic.one_mul]] at hm2;have hset := DN (show i + j ≤ d by omega) ho;have hval : ji xs i * fY d 1 1 i (i + j) = x * nD (bin (d - i) j) := by
      unfold fY;rw [hat, if_neg Ky, show i + j - i = j by omega, jC, jC];generalize nD (bin (d - i) j) = u;grind
     rw [hval] at hset;generalize x * nD (bin (d - i) j) = y at *;have hsum := fun A cc w1 hT1 hS1 => iK A 2 cc [nR o, nR y] w1 hT1 hS1 (by simpa using ⟨zo.ok Ky, zy.ok Ky⟩) 2000000 (by simpa [dK] using ⟨zo.mono Ky, zy.mono Ky⟩) Ky;rw [show lv ([nR o, nR y].map NR.d) = o + y by simp only [List.map_cons, List.map_nil, dK, kn]] at hsum;have hll : ((jS d 1 1 xs i j).map nR).length = n := by rw [List.length_map, lF]; omega
     generalize jS d 1 1 xs i j = S at *;have hrl := eY NR.len (S.map nR);obtain ⟨gw, rfl⟩ := hh.dq (i := 0) rfl Ky;refine sr ?_;refine aK (aa (ah (cT (ak (ai (ah (aj (sr (mI ?_)))))))));refine bf (k := j) aQ.out aF.size rfl rfl Ky Ky Kz ?_;refine bJ (vs := [_, _, _]) aF.out rfl (hh.gO (f := NR.cells) (x := nR (nD (bin (d - i) j))) (l := lg (d - i)) (i := 0) rfl NR.len Kz hbn) rfl Kz ?_;refine cB hh ?_;intro b8 w8 hh;refine aI ?_;refine bK hh 0 [_,_,_] ?_;intro ws hh;replace hh : Hp _ (.blk _ _ [_, _, _] _ :: _) _ := hh;refine aa ?_;refine a8 16 [[(4, none)], [(5, none)], [(7, none)], [(33, some 1), (34, some 2)], [(4, none)], [(5, none)], [(7, none)], [(37, some 5), (38, some 6)], [(36, some 4), (39, some 7)], [(40, some 8)], [(6, none)], [(8, none)], [(42, some 10), (43, some 11)], [(44, some 12)], [(41, some 9), (45, some 13)], [(46, some 14)]] [(15, 47), (14, 46), (13, 45), (12, 44), (11, 43), (10, 42), (9, 41), (8, 40), (7, 39), (6, 38), (5, 37), (4, 36), (3, 35), (2, 34), (1, 33), (0, 32)] hh mixed KA ?_;refine jt ?_;refine fJ ?_;refine fJ ?_;refine sG ?_;refine jt ?_;refine fJ ?_;refine fJ ?_;refine sG ?_;refine DF ((i + j)) ?_
     refine x6 [_,_,_] (fun _ hj => hj.hp.gO (f := NR.cells) (x := nR o) (l := S.map nR) (i := 3) rfl NR.len Kz hon) ?_;refine gY 2 [_,_,_] ?_;refine gY 0 [_,_,_] ?_;refine xw [_,_,_,_,_,_] ?_;refine cH (i := 13) (Is (.agg #[.bool (nR y).neg, .string (nR y).cA, .int .i64 (nR y).e])) Is.ext ?_ ?_
     ·intro ρ1 w1 hj hR;obtain ⟨A44, c44, h44, s44⟩ := hR.1;exact du rfl (bX aw.out (a7 h44 bQ)) (hm2 A44 c44 _ (hT.hp hj.hp) s44) (fun _ _ hq => ⟨_, hq.1, hq.2, rfl⟩)
     refine xw [_,_,_,_,_,_] ?_;refine cH (i := 15) (Is (.agg #[.bool (nR (o + y)).neg, .string (nR (o + y)).cA, .int .i64 (nR (o + y)).e])) Is.ext ?_ ?_
     ·intro ρ1 w1 hj hR;obtain ⟨A46, c46, h46, s46⟩ := hR.1;exact du rfl (bX aw.out (a7 h46 bQ)) (hsum A46 c46 _ (hT.hp hj.hp) s46) (fun _ _ hq => ⟨_, hq.1, hq.2, rfl⟩)
     refine bA ?_;intro f W hJ hV;have hb_9 := hJ.bl;obtain ⟨v47, v46, v45, v44, v43, v42, v41, v40, v39, v38, v37, v36, v35, v34, v33, v32, _⟩ := hV;obtain ⟨A44, c44, e44, f44⟩ : Rows _ _ _ (f 12) W := v44;obtain ⟨A46, c46, e46, f46⟩ : Rows _ _ _ (f 14) W := v46;replace hh := hJ.hp;refine bj (bC (ae v47 (ae e46 (ae v45 (ae e44 (ae v43 (ae v42 (ae v41 (ae v40 (ae v39 (ae v38 (ae v37 (ae v36 (ae v35 (ae v34 (ae v33 (ae v32 bh))))))))))))))))) ?_;dsimp only [cP];clear e44 e46 hJ;refine bf (k := (i + j)) aQ.out aF.size rfl rfl Ky Ky Kz ?_;refine bs hh (i := 3) (vs := [_, _, _]) rfl rfl (cJ rfl) rfl aF.out rfl Ky rfl ?_;intro ws hh;simp only [List.set_cons_zero, List.set_cons_succ] at hh;rw [show cI (aY NR.cells (S.map nR)) ((i + j) * 3) [.bool (nR (o + y)).neg, .string (nR (o + y)).cA, .int .i64 (nR (o + y)).e] = aY NR.cells ((S.map nR).set (i + j) (nR (o + y))) from fZ NR.len Ky, ← List.map_set, hset] at hh;refine aE (aP (ai (aq ?_)));refine bB (mI (aE (ai ?_)));replace hh := hh.sub (List.Sublist.cons _ (List.Sublist.cons_cons _ (List.Sublist.cons_cons _ (List.Sublist.cons_cons _ List.Sublist.slnil))))
     refine ⟨⟨j + 1, Ky, rfl, hh⟩, by show d - i + 1 - (j + 1) < d - i + 1 - j; omega, ?_⟩;exact KB
    ·obtain rfl : j = d - i + 1 := Ky;rw [BO Ky] at hh;refine sr ?_;refine aK (aa (ah (cF (aJ (az (az (aX (aP (ai (aq ?_))))))))));refine bB (mI (aE (ai ?_)));replace hh := hh.sub (List.Sublist.cons _ (List.Sublist.cons _ (List.Sublist.cons_cons _ List.Sublist.slnil)));refine ⟨⟨i + 1, Ky, rfl, hh⟩, by show n - (i + 1) < n - i; omega, ?_⟩;exact KB
  ·obtain rfl : i = n := Ky;rw [show jS d 1 1 xs i 0 = mC d (fY d 1 1) xs by rw [hn, Bo]] at hh;refine sr ?_;refine aK (aa (ah (cF (aJ (az (az (aX (ai (sr (mL (aL (aa (ao ?_)))))))))))));refine cq ?_;exact ⟨_, _, rfl, hh⟩
end Go.Proofs.YtaapkaefelhfcaaGreatDoor
/- A range over a function, for one loop variable. Plain lemmas, no program in sight. -/
namespace Go.Proofs.YtaapkaefelhfcaaGreatDoor
open Go.RowKit
abbrev xP (D : Nat) : Deferred := { target := .collected D, args := #[] }
abbrev Jr (M : List Nat) : List HE := M.map fun D => .ob D (.deferred (some []))
abbrev Kd := Exit → List Nat → Rf → World → Prop
structure WD (P : Program) (N : Nat) (c : Code) (Q : Kd) (ρ : Rf) (w : World) : Prop where
 out : ∀ (M : List Nat) a, fM N (M.map xP) a ρ → ∀ n, c.wpIn Fence.wide n P (fun e a' w' => ∃ M' ρ', fM N ((M' ++ M).map xP) a' ρ' ∧ Q e M' ρ' w') a w
def J3 (next : List Nat → Rf → World → Prop) (Q : Kd) : Kd
 | .normal, M, ρ, w => next M ρ w
 | e, M, ρ, w => Q e M ρ w
def JF (M : List Nat) (Q : Kd) : Kd := fun e M2 ρ w => Q e (M2 ++ M) ρ w
def Kf (id : Nat) (Q : Kd) : Kd
 | .exit id', M, ρ, w => if id' = id then Q .normal M ρ w else Q (.exit id') M ρ w
 | e, M, ρ, w => Q e M ρ w
def JU (Q : Kd) : Kq := fun e ρ w => Q e [] ρ w
section
variable {P : Program} {N : Nat} {Q : Kd} {ρ : Rf} {w : World}
def Jp {α : Type} (Kp : World → World → Prop) (I : List α → World → Prop) (pre : List α) (x : α) (W : World) : Kq
 | .normal, _, W' => KeepsOthers W W' ∧ Kp W W' ∧ I (pre ++ [x]) W'
 | _, _, _ => False
def Kg : Kq := fun _ _ _ => False
end
def JL (P : Program) (fn : Func) (R : Ending → World → Prop) : Kd := fun e M ρ w =>
 (e = .normal ∨ e = .ret) ∧ ∀ tmps : Array Value, (∀ i, tmps.getD i undef = ρ i) → ∀ n, LeavesInM Fence.wide n P fn tmps R (M.map xP) .returning w
def HE.Kv : HE → Bool
 | .ob _ _ => false
 | _ => true
def I3 (base : Nat) (ids : List Nat) (w : World) (k : Nat) : Option HE := if base ≤ k ∧ ids.contains k = false then (w.heap[k]?).map fun o => .ob k o else none
def JW (base : Nat) (ids : List Nat) (w : World) : List HE := (List.range w.heap.size).filterMap (I3 base ids w)
end Go.Proofs.YtaapkaefelhfcaaGreatDoor
/- slices.Chunk of a slice of numbers, and what it yields. -/
namespace Go.Proofs.YtaapkaefelhfcaaGreatDoor
open Go.RowKit
def Jt (b2 b3 : Nat) (W W' : World) : Prop := W'.cell? ⟨b2, 0, none⟩ = W.cell? ⟨b2, 0, none⟩ ∧ W'.cell? ⟨b3, 0, none⟩ = W.cell? ⟨b3, 0, none⟩
end Go.Proofs.YtaapkaefelhfcaaGreatDoor
/- Forms that a call in a drawn region hands back, with a new variable beside them. -/
namespace Go.Proofs.YtaapkaefelhfcaaGreatDoor
open Go.RowKit
def JD (base : Nat) (E : Int) (D : List Nat) (ys : List Dyadic) : VP := fun v W => ∃ (g : FX) (w1 : World), v = .agg #[.slice g.A g.n g.a, .slice g.B g.m g.b] ∧ Out E D ys g ∧ base ≤ w1.heap.size ∧ Hp w1 [g.jn, g.jc] W
def JO (base : Nat) (E : Int) (D : List Nat) (ys : List Dyadic) : VP := fun v W => ∃ (g : FX) (w1 : World), v = .tuple #[.agg #[.slice g.A g.n g.a, .slice g.B g.m g.b], .int .i64 E] ∧ Out E D ys g ∧ base ≤ w1.heap.size ∧ Hp w1 [g.jn, g.jc] W
end Go.Proofs.YtaapkaefelhfcaaGreatDoor
/- The walk through cast.along: every line of a form along an axis, changed by a function. -/
namespace Go.Proofs.YtaapkaefelhfcaaGreatDoor
open Go.RowKit
instance : aF Tryz.prog 135 1 false 8 [.nilFunc] := {}
end Go.Proofs.YtaapkaefelhfcaaGreatDoor
/- The walk through cast.Cut. -/
namespace Go.Proofs.YtaapkaefelhfcaaGreatDoor
open Go.RowKit
def Jw (n m : Nat) (ds : List Int) (cs : List NR) : VP := fun v W => ∃ A a B b, v = .agg #[.slice A n a, .slice B m b] ∧ n ≤ a ∧ Sl W A n 1 (bG ds) ∧ Sl W B m 3 (aY NR.cells cs)
end Go.Proofs.YtaapkaefelhfcaaGreatDoor
/- The walk through cast.Cut. -/
namespace Go.Proofs.YtaapkaefelhfcaaGreatDoor
open Go.RowKit
instance : aF Tryz.prog 135 1 false 8 [.nilFunc] := {}
def Jc (up : Bool) (s : Dyadic) (ns : List Nat) (a : Nat) (xs : List Dyadic) : List Dyadic := jk ns.reverse (ns.length - 1 - a) (if up then Jd (ns.getD a 0) s else Ji (ns.getD a 0) s) xs
def J1 (fx : FX) (ax : Int) : Int := if fx.e ≠ 0 then fx.e else if ax < 0 ∨ (fx.n : Int) ≤ ax then 1 else 0
def J5 (e : Int) : Ending := .returned (.tuple #[.agg #[.slice none 0 0, .slice none 0 0], .agg #[.slice none 0 0, .slice none 0 0], .int .i64 e])
end Go.Proofs.YtaapkaefelhfcaaGreatDoor
/- The walks through cast.Part's closure. -/
namespace Go.Proofs.YtaapkaefelhfcaaGreatDoor
open Go.RowKit
def I7 (n : Nat) (h : Int) : Bool := decide (h < 0 ∨ (n : Int) ≤ h.tdiv 2)
end Go.Proofs.YtaapkaefelhfcaaGreatDoor
/- The walk through cast.Halve. -/
namespace Go.Proofs.YtaapkaefelhfcaaGreatDoor
open Go.RowKit
end Go.Proofs.YtaapkaefelhfcaaGreatDoor
/- Plain laws: how large the numbers of a changed form are; a form in parts. No program in sight. -/
namespace Go.Proofs.YtaapkaefelhfcaaGreatDoor
def H4 (ns : List Nat) (xs : List Dyadic) (h : Int) : List Dyadic := Jc (decide (h % 2 = 1)) (II (-1)) ns (h / 2).toNat xs
def Jo (ns : List Nat) (xs : List Dyadic) (hs : List Int) : List Dyadic := hs.foldl (H4 ns) xs
end Go.Proofs.YtaapkaefelhfcaaGreatDoor
/- The walk through cast.Part. -/
namespace Go.Proofs.YtaapkaefelhfcaaGreatDoor
open Go.RowKit
def JE (fx : FX) (hs : List Int) : Int := if fx.e ≠ 0 then fx.e else if hs.any (I7 fx.n) = true then 1 else 0
end Go.Proofs.YtaapkaefelhfcaaGreatDoor
/- The last bit of a number. Plain lemma, no program in sight. -/
namespace Go.Proofs.YtaapkaefelhfcaaGreatDoor
open Go.RowKit
section
variable {P : Program} {N : Nat} {ops : Array Oper} {Q : Kq} {ρ : Rf} {w : World} {rest : List Oper} {d ty : Nat} {pos : String} {af : Array Edge}
end
end Go.Proofs.YtaapkaefelhfcaaGreatDoor
/- The walk through cast.Part, the good ending. -/
namespace Go.Proofs.YtaapkaefelhfcaaGreatDoor
open Go.RowKit
end Go.Proofs.YtaapkaefelhfcaaGreatDoor
/- Plain: a form that is told without an error. -/
namespace Go.Proofs.YtaapkaefelhfcaaGreatDoor
open Go.RowKit
end Go.Proofs.YtaapkaefelhfcaaGreatDoor
/- The contracts of package cast once more, each with one ending: forms that one owns, empty where there is an error. -/
namespace Go.Proofs.YtaapkaefelhfcaaGreatDoor
open Go.RowKit
end Go.Proofs.YtaapkaefelhfcaaGreatDoor
/- The walks through slices.Delete (one element), bern.has and bern.of. -/
namespace Go.Proofs.YtaapkaefelhfcaaGreatDoor
open Go.RowKit
theorem uK (A : Option Addr) (n c a d : Nat) (ns : List Nat) (w : World) (hS : Sl w A n 1 (bG (bu ns))) (hcap : n ≤ c) (hn : n ≤ 1000) (hd : ns[a]? = some d) (hlow : ∀ x ∈ ns, x ≤ 127) (hmax : av ns ≤ 4096) :
  Calls Tryz.prog 118 #[.slice A n c, .int .i64 a] w fun r w' => r = .returned (.agg #[.int .i64 ((d : Int) + 1), .int .i64 (av (ns.drop (a + 1)) : Nat)]) ∧ Below w.heap.size w w' := by
 have hh := Hp.start w;have hln : ns.length = n := by have := hS.1; simpa [bG, bu] using this
 have ha := (List.getElem?_eq_some_iff.1 hd).1;have hd127 := hlow d (List.mem_of_getElem? hd);have hgd := cx (eu hd);have hbk := hS.back (l := a + 1) (c := c) Ky hcap;have hds : (bG (bu ns)).drop ((a + 1) * 1) = bG (bu (ns.drop (a + 1))) := by
  rw [Nat.mul_one];unfold bG bu;rw [← List.map_drop, ← List.map_drop]
 rw [hds] at hbk;have hcd : gB 1 (bu (ns.drop (a + 1))) = (av (ns.drop (a + 1)) : Nat) := by
  have h1 := jg (ns.drop (a + 1)) 1 Kz Kz (fun x hx => hlow x (List.mem_of_mem_drop hx));have h2 : av (ns.drop (a + 1)) ≤ av ns := by
   have h3 : av ns = av (ns.take (a + 1)) * av (ns.drop (a + 1)) := by rw [← dT, List.take_append_drop]
   rw [h3];exact Nat.le_mul_of_pos_left _ (dw _)
  rw [Nat.one_mul, if_pos Ky] at h1;exact h1
 have hcnt := fun w1 hS1 => dE (if c = a + 1 then A else A.map (·.add ((a + 1) * 1))) (n - (a + 1)) (c - (a + 1)) (bu (ns.drop (a + 1))) w1 hS1 Ky;rw [hcd] at hcnt;obtain ⟨ad, rfl, srd⟩ := hS.at_ Ky;refine al (N := 16) (l := [.slice (some ad) n c, .int .i64 a]) Tryz.func118 rfl rfl (by simp) ?_;refine sr ?_;refine cB hh ?_;intro b4 w4 hh;refine aa (ah ?_);refine a8 10 [[(0, none)], [(1, none)], [(5, some 0), (6, some 1)], [(7, some 2)], [(8, some 3)], [(0, none)], [(1, none)], [(11, some 6)], [(10, some 5), (12, some 7)], [(13, some 8)]] [(9, 14), (8, 13), (7, 12), (6, 11), (5, 10), (4, 9), (3, 8), (2, 7), (1, 6), (0, 5)] hh mixed KA ?_;refine jt ?_;refine fJ ?_;refine mH (a) ?_;refine nV (fun _ hj => (srd.ext hj.hp.below).fP hgd) ?_;refine sG ?_;refine jt ?_;refine fJ ?_;refine sG ?_;refine bF (i := 8) (fun ρ1 w1 hj hR => iS (l := (a + 1)) aQ.out aF.size (show ρ1 10 = Value.slice _ _ _ from hR.1) (show ρ1 12 = Value.int _ _ from hR.2.1) Ky Ky Ky) ?_;refine dC (fun _ hj => hcnt _ (hbk.ext hj.hp.below)) ?_;refine bA ?_;intro f W hJ hV;have hb_1 := hJ.bl;obtain ⟨v14, v13, v12, v11, v10, v9, v8, v7, v6, v5, _⟩ := hV;replace hh := hJ.hp
 refine bj (bC (ae v14 (ae v13 (ae v12 (ae v11 (ae v10 (ae v9 (ae v8 (ae v7 (ae v6 (ae v5 bh))))))))))) ?_;dsimp only [cP];clear hJ;refine e9 [_,_] ?_;refine bK hh 0 [_,_] ?_;intro ws hh;replace hh : Hp _ (.blk _ _ [_, _] _ :: _) _ := hh;refine aa (ao ?_);refine iZ (aT rfl (aU (vs := [_, _]) aF.out (hh.aC (i := 0) (n := 2) rfl rfl) rfl) bq) ?_;exact ⟨rfl, hh.below⟩
end Go.Proofs.YtaapkaefelhfcaaGreatDoor
/- The walk through bern's lines: something done with each line of numbers along an axis. -/
namespace Go.Proofs.YtaapkaefelhfcaaGreatDoor
open Go.RowKit
theorem B7 (A : List Nat) (d f i q : Nat) : dy A d f i q = dy A d f 0 q + i * av A := by
 unfold dy;rw [Nat.mul_add, Nat.mul_add, Nat.mul_zero, Nat.mul_comm i];omega
theorem xg (g : FuncId) [aw Tryz.prog g] (A B : List Nat) (d L : Nat) (φ : List Dyadic → List Dyadic) (C : Option Addr) (n c k : Nat) (X : List Dyadic) (w : World) (hT : eP w) (hS : Sl w C n 3 (aY NR.cells (X.map nR))) (hn : n = av (A ++ d :: B)) (hmax : n ≤ 4096) (hL : L ≤ d + 1) (hd : d ≤ 127) (hx : ∀ x ∈ X, Sz k x)
  (hg : ∀ (Y : List Dyadic) (D : Option Addr) (dc : Nat) (w1 : World), eP w1 → (∀ y ∈ Y, Sz k y) → Sl w1 D (d + 1) 3 (aY NR.cells (Y.map nR)) → Calls Tryz.prog g #[.slice D (d + 1) dc] w1 fun r w' => ∃ E ec, r = .returned (.slice E L ec) ∧ Hp w1 [.row E L ec 29 3 (aY NR.cells ((φ Y).map nR))] w')
  (hφ : ∀ Y : List Dyadic, Y.length = d + 1 → (φ Y).length = L) :
  Calls Tryz.prog 119 #[.agg #[.int .i64 ((d : Int) + 1), .int .i64 (av A : Nat)], .slice C n c, .func (.func g) #[] #[]] w fun r w' => ∃ E ec, r = .returned (.slice E n ec) ∧ Hp w [.row E n ec 29 3 (aY NR.cells ((jT A d L φ X n 0).map nR))] w' := by
 have hh := Hp.start w;have hXl : X.length = n := by have := hS.bM NR.len Kz; simpa using this
 have hap := dw A;have hap2 : av A ≤ n := by
  rw [hn, dT];exact Nat.le_mul_of_pos_right _ (dw _)
 have hcl := fun w1 hb => uy C n c (X.map nR) w1 (hS.ext hb) Ky;refine al (N := 67) (l := [.agg #[.int .i64 ((d : Int) + 1), .int .i64 (av A : Nat)], .slice C n c, .func (.func g) #[] #[]]) Tryz.func119 rfl rfl (by simp) ?_;refine sr ?_;refine db hh [_,_] ?_;intro b3 w3 hh;refine aL (aa (sr (mL ?_)));refine aN (hcl _ hh.below) aw.out rfl Kz ?_;rintro e_ w14 ⟨A14, c14, rfl, hown_, hb_⟩;refine ⟨_, rfl, ?_⟩;replace hh := hh.bz (x := .row _ _ _ _ _ _) hb_ hown_;rw [show X.map nR = (jT A d L φ X 0 0).map nR by rw [Cp]] at hh;clear hcl;refine aL (aa (ah (sr (mL (aW (mI (aa (aj ?_))))))));refine bm [8, 9, 10, 11, 12, 17, 18, 19, 20, 21, 22, 23, 24, 25, 26, 27, 28, 29, 30, 31, 32, 33, 34, 35, 36, 37, 38, 39, 40, 41, 42, 43, 44, 45, 46, 47, 48, 49, 50, 51, 52, 53, 54, 55, 56, 57, 58, 59, 60, 61, 62, 63, 64, 65] 17
  (fun v w' => ∃ F : Nat, F ≤ n ∧ v = .int .i64 F ∧ Hp w [.row A14 n c14 29 3 (aY NR.cells ((jT A d L φ X F 0).map nR)), .blk b3 132 [.int .i64 ((d : Int) + 1), .int .i64 (av A : Nat)] (0, 0)] w')
  (fun v _ => n - (intOf v).toNat) ?_ ?_
 ·exact ⟨0, Nat.zero_le _, rfl, hh⟩
 ·clear hh;rintro ρ' v w' ⟨F, hF, rfl, hh⟩;by_cases hlt : F < n
  ·have hcast : ((F : Int) / ((av A : Nat) : Int)) % ((d : Int) + 1) = ((F / av A % (d + 1) : Nat) : Int) := by norm_cast
   have hq0 : (0 : Int) ≤ (F : Int) / ((av A : Nat) : Int) := Int.ediv_nonneg Ky Ky;by_cases h0 : F / av A % (d + 1) = 0
   ·obtain ⟨u0, hfF⟩ : ∃ u0, u0 = F % av A := ⟨_, rfl⟩;obtain ⟨q, hqF⟩ : ∃ q, q = F / av A / (d + 1) := ⟨_, rfl⟩;have hf : u0 < av A := by rw [hfF]; exact Nat.mod_lt _ hap
    have hFe : F = dy A d u0 0 q := by rw [hfF, hqF, ← h0, uV]
    have hq : q < av B := by
     rw [hqF, Nat.div_div_eq_div_mul, Nat.div_lt_iff_lt_mul (Nat.mul_pos hap Ky)];rw [hn, dT, av] at hlt
     calc F < av A * ((d + 1) * av B) := hlt
      _ = av B * (av A * (d + 1)) := by rw [← Nat.mul_assoc, Nat.mul_comm]
    have hpl : ∀ i, i ≤ d → dy A d u0 i q < n := fun i hi => by rw [hn]; exact rz hf hi hq
    have hpi : ∀ i, dy A d u0 i q = F + i * av A := fun i => by rw [hFe]; exact B7 A d u0 i q
    have hxl : (fp A d X u0 q).length = d + 1 := by simp [fp]
    have hxz : ∀ y ∈ fp A d X u0 q, Sz k y := fun y hy => by
     obtain ⟨i, hi, rfl⟩ := List.mem_map.1 hy;exact Et hx _
    obtain ⟨ad, hCA, hr⟩ := hS.at_ Ky;rw [hCA] at *;refine sr ?_;refine aK (aa (ah (cT (ak (ai (ah (aj (sr (mI (aI (aa (ah (ah ?_)))))))))))));refine a8 6 [[(8, none)], [(3, none)], [(21, some 1)], [(20, some 0), (22, some 2)], [(3, none)], [(24, some 4)]] [(5, 25), (4, 24), (3, 23), (2, 22), (1, 21), (0, 20)] hh mixed KA ?_;refine fJ ?_;refine eA ?_;refine fQ 1 ?_;refine bF (i := 3) (fun ρ1 w1 hj hR => o4 (show ρ1 20 = Value.int _ _ from hR.1) (show ρ1 22 = Value.int _ _ from hR.2.1) Ky Ky Ky) ?_;refine eA ?_;refine fQ 1 ?_;refine bA ?_;intro f W hJ hV;have hb_5 := hJ.bl;obtain ⟨v25, v24, v23, v22, v21, v20, _⟩ := hV;replace hh := hJ.hp;refine bj (bC (ae v25 (ae v24 (ae v23 (ae v22 (ae v21 (ae v20 bh))))))) ?_;dsimp only [cP];clear hJ;refine kT rfl rfl Ky Ky Kz ?_;refine cL (aa (cF (ak (ai (sr (aL (aa (ah (sr (bP ?_))))))))));refine bR hh 1 ?_;refine mI (aa (aj ?_));replace hh := hh.ef 29 3;refine cv [9, 10, 30, 31, 32, 33, 34, 35, 36, 37, 38, 39, 40, 41, 42, 43, 44, 45] 9 30
     (fun a v w' => ∃ (i : Nat) (A' : Option Addr) (c' : Nat), i ≤ d + 1 ∧ v = .int .i64 i ∧ a = .slice A' i c' ∧ Hp w [.row A' i c' 29 3 (aY NR.cells (((fp A d X u0 q).take i).map nR)), .row A14 n c14 29 3 (aY NR.cells ((jT A d L φ X F 0).map nR)), .blk b3 132 [.int .i64 ((d : Int) + 1), .int .i64 (av A : Nat)] (0, 0)] w')
     (fun _ v _ => d + 1 - (intOf v).toNat) ?_ ?_
    ·exact ⟨0, none, 0, Nat.zero_le _, rfl, rfl, hh⟩
    ·clear hh;rintro ρ2 a_ v w2 ⟨i, A', c', hi, rfl, rfl, hh⟩;by_cases hil : i < d + 1
     ·obtain ⟨y, hy⟩ := ay (l := fp A d X u0 q) (k := i) Ky;have hyx : (X.map nR)[dy A d u0 i q]? = some (nR y) := by
       have h1 := hpl i Ky;unfold fp at hy;rw [List.getElem?_map, List.getElem?_range hil] at hy;have h2 : (X[dy A d u0 i q]?).getD 0 = y := Option.some.inj hy;rw [List.getElem?_map, vV (show dy A d u0 i q < X.length by omega)];show some (nR (ji X _)) = _;unfold ji;rw [h2]
      have hpn := hpl i Ky;have hpq := hpi i;obtain ⟨m, hm⟩ : ∃ m, m = i * av A := ⟨_, rfl⟩;have hmi : (i : Int) * ((av A : Nat) : Int) = (m : Int) := by rw [hm]; exact (Int.natCast_mul _ _).symm
      rw [← hm] at hpq;refine sr ?_;refine aK (aa (ah (cT (ak (ai (ah (aj (sr (mI (aI (aa (aq (mL (mL (mI (mI (bP ?_)))))))))))))))));refine bR hh 2 ?_;refine mulC ?_;refine bB ?_;refine aD (k := (dy A d u0 i q)) aQ.out aF.size rfl rfl Ky Ky Kz ?_;refine bJ (vs := [_, _, _]) aF.out rfl ((hr.ext hh.below).recAt NR.len hyx) rfl Kz ?_;refine aO hh (cs := [_, _, _]) aQ.out aF.out (aR (cJ rfl) bI) rfl rfl Kz Kz Kz rfl Kz ?_;intro b43 w43 hh;refine cz hh (i := 1) rfl rfl rfl (hh.aM (i := 0) rfl) aQ.out aF.out rfl Kz (by first | rfl | exact cD _ | exact cm _ | exact bH _ | exact bO NR.one _) Ky Ky Kz ?_;intro A44 c44 w44 hh;simp only [List.set_cons_zero, List.set_cons_succ] at hh;replace hh := hh.sub (List.sublist_cons_self _ _);refine aL (aE (aP (ai (aq ?_))));refine bB (mI (aE (ai ?_)));have e1 : aY NR.cells (((fp A d X u0 q).take i).map nR) ++ [.bool (nR y).neg, .string (nR y).cA, .int .i64 (nR y).e] = aY NR.cells (((fp A d X u0 q).take (i + 1)).map nR) := by rw [aH hy, List.map_append, cK, List.map_cons, List.map_nil, qK]; rfl
      rw [e1] at hh;refine ⟨⟨i + 1, A44, c44, Ky, rfl, rfl, hh⟩, by show d + 1 - (i + 1) < d + 1 - i; omega, ?_⟩;exact KB
     ·obtain rfl : i = d + 1 := Ky;rw [List.take_of_length_le Ky] at hh;refine sr ?_;refine aK (aa (ah (cF (aJ (az (az (aX (ai (sr ?_)))))))));refine eh (by first | exact eg rfl | exact ev_nilf rfl) Kz ?_;refine mL ?_;refine eb (hg (fp A d X u0 q) A' c' _ (hT.hp hh) hxz (hh.aM (i := 0) rfl)) aw.out rfl rfl Kz ?_;rintro e_ w48 ⟨E, ec, rfl, h4⟩;refine ⟨_, rfl, ?_⟩;replace hh := hh.join h4;clear h4;simp only [List.cons_append, List.nil_append] at hh;replace hh := hh.sub (List.Sublist.cons_cons _ (List.Sublist.cons _ (List.Sublist.cons_cons _ (List.Sublist.cons_cons _ List.Sublist.slnil))));have hφl := hφ (fp A d X u0 q) hxl;refine aW (mI (aa (aj ?_)));refine bm [11, 12, 50, 51, 52, 53, 54, 55, 56, 57, 58, 59, 60, 61, 62, 63, 64] 50
       (fun v w' => ∃ j : Nat, j ≤ L ∧ v = .int .i64 j ∧ Hp w [.row E L ec 29 3 (aY NR.cells ((φ (fp A d X u0 q)).map nR)), .row A14 n c14 29 3 (aY NR.cells ((jT A d L φ X F j).map nR)), .blk b3 132 [.int .i64 ((d : Int) + 1), .int .i64 (av A : Nat)] (0, 0)] w')
       (fun v _ => L - (intOf v).toNat) ?_ ?_
      ·exact ⟨0, Nat.zero_le _, rfl, hh⟩
      ·clear hh;rintro ρ3 v w3 ⟨j, hj, rfl, hh⟩;by_cases hjl : j < L
       ·obtain ⟨y, hy⟩ := ay (l := φ (fp A d X u0 q)) (k := j) Ky;have hyn : ((φ (fp A d X u0 q)).map nR)[j]? = some (nR y) := by rw [List.getElem?_map, hy]; rfl
        have hpn := hpl j Ky;have hpq := hpi j;have hset := Er (φ := φ) (X := X) (q := q) hf hjl (show j ≤ d by omega);rw [← hFe, show ji (φ (fp A d X u0 q)) j = y by unfold ji; rw [hy]; rfl] at hset;obtain ⟨m, hm⟩ : ∃ m, m = j * av A := ⟨_, rfl⟩;have hmi : (j : Int) * ((av A : Nat) : Int) = (m : Int) := by rw [hm]; exact (Int.natCast_mul _ _).symm
        rw [← hm] at hpq;have hll : ((jT A d L φ X F j).map nR).length = n := by rw [List.length_map, hO]; exact hXl
        generalize jT A d L φ X F j = S at *;generalize dy A d u0 j q = P at *;have hrl := eY NR.len (S.map nR);obtain ⟨gr, rfl⟩ := hh.dq (i := 0) rfl Ky;obtain ⟨go, rfl⟩ := hh.dq (i := 1) rfl Ky;refine sr ?_;refine aK (aa (ah (cT (ak (ai (ah (aj (sr (mI ?_)))))))));refine bf (k := j) aQ.out aF.size rfl rfl Ky Ky Kz ?_;refine bJ (vs := [_, _, _]) aF.out rfl (hh.gO (f := NR.cells) (x := nR y) (l := (φ (fp A d X u0 q)).map nR) (i := 0) rfl NR.len Kz hyn) rfl Kz ?_;refine cB hh ?_;intro b12 w12 hh;refine aI ?_;refine bK hh 0 [_,_,_] ?_;intro ws hh;replace hh : Hp _ (.blk _ _ [_, _, _] _ :: _) _ := hh;refine aa (aq (mL (mI (mI (bP ?_)))));refine bR hh 3 ?_;refine mulC ?_;refine bB ?_;refine cR hh 0 [_,_,_] ?_;refine bf (k := P) aQ.out aF.size rfl rfl Ky Ky Kz ?_;refine bs hh (i := 2) (vs := [_, _, _]) rfl rfl (cJ rfl) rfl aF.out rfl Ky rfl ?_;intro ws hh;simp only [List.set_cons_zero, List.set_cons_succ] at hh;rw [show cI (aY NR.cells (S.map nR)) (P * 3) [.bool (nR y).neg, .string (nR y).cA, .int .i64 (nR y).e] = aY NR.cells ((S.map nR).set P (nR y)) from fZ NR.len Ky, ← List.map_set, hset] at hh;refine aE (aP (ai (aq ?_)));refine bB (mI (aE (ai ?_)))
        replace hh := hh.sub (List.Sublist.cons _ (List.Sublist.cons_cons _ (List.Sublist.cons_cons _ (List.Sublist.cons_cons _ List.Sublist.slnil))));refine ⟨⟨j + 1, Ky, rfl, hh⟩, by show L - (j + 1) < L - j; omega, ?_⟩;exact KB
       ·rw [Cw (show L ≤ j by omega)] at hh;refine sr ?_;refine aK (aa (ah (cF (aJ (az (az (aX (aP (ai (aq ?_))))))))));refine bB (mI (aE (ai ?_)));replace hh := hh.sub (List.Sublist.cons _ (List.Sublist.cons_cons _ (List.Sublist.cons_cons _ List.Sublist.slnil)));refine ⟨⟨F + 1, Ky, rfl, hh⟩, by show n - (F + 1) < n - F; omega, ?_⟩;exact KB
   ·rw [Be h0] at hh;refine sr ?_;refine aK (aa (ah (cT (ak (ai (ah (aj (sr (mI (aI (aa (ah (ah ?_)))))))))))));refine a8 6 [[(8, none)], [(3, none)], [(21, some 1)], [(20, some 0), (22, some 2)], [(3, none)], [(24, some 4)]] [(5, 25), (4, 24), (3, 23), (2, 22), (1, 21), (0, 20)] hh mixed KA ?_;refine fJ ?_;refine eA ?_;refine fQ 1 ?_;refine bF (i := 3) (fun ρ1 w1 hj hR => o4 (show ρ1 20 = Value.int _ _ from hR.1) (show ρ1 22 = Value.int _ _ from hR.2.1) Ky Ky Ky) ?_;refine eA ?_;refine fQ 1 ?_;refine bA ?_;intro f W hJ hV;have hb_5 := hJ.bl;obtain ⟨v25, v24, v23, v22, v21, v20, _⟩ := hV;replace hh := hJ.hp;refine bj (bC (ae v25 (ae v24 (ae v23 (ae v22 (ae v21 (ae v20 bh))))))) ?_;dsimp only [cP];clear hJ;refine kT rfl rfl Ky Ky Kz ?_;refine cL (aa (cT (aJ (az (aX (ai (aq ?_)))))));refine bB (mI (aE (ai ?_)));refine ⟨⟨F + 1, Ky, rfl, hh⟩, by show n - (F + 1) < n - F; omega, ?_⟩;exact KB
  ·obtain rfl : F = n := Ky;refine sr ?_;refine aK (aa (ah (cF (aJ (az (az (aX (ai (sr (mL (aL (aa (ao ?_)))))))))))));refine cq ?_;exact ⟨_, _, rfl, hh.sub (List.Sublist.cons_cons _ (List.nil_sublist _))⟩
end Go.Proofs.YtaapkaefelhfcaaGreatDoor
/- The walk through bern.Of. -/
namespace Go.Proofs.YtaapkaefelhfcaaGreatDoor
open Go.RowKit
def mP (p : PX) (ds : List Int) : List Int := if ds.length = 0 then oF p.v p.ts else ds
def Ib (p : PX) (ds : List Int) : List Nat := (mP p ds).map Int.toNat
def mn (p : PX) (b : List SR) (ds : List Int) : Int := if mV p b (mP p ds) ≠ 0 then mV p b (mP p ds) else (gp p (cC b)).1
theorem Gr {ns : List Nat} {i d : Nat} (h : ns[i]? = some d) : ns.reverse = (ns.drop (i + 1)).reverse ++ d :: (ns.take i).reverse := by
 have e : ns = ns.take i ++ d :: ns.drop (i + 1) := by rw [← fN h, List.take_append_drop]
 conv => lhs; rw [e]
 rw [List.reverse_append, List.reverse_cons, List.append_assoc]
 rfl
theorem Ht (ds : List Nat) : X0 ds (pQ []) = List.replicate (av ds) 0 := rp _
theorem FP {ds : List Nat} {l : List TR} {i : Nat} {t : TR} (hl : ∀ t ∈ l, ju ds (eZ t.m).reverse) (hr : qY l) (ht : l[i]? = some t) : (X0 ds (pQ (l.take i))).set (dA ds (eZ t.m).reverse) t.c.d = X0 ds (pQ (l.take (i + 1))) := by
 have hok := hl t (List.mem_of_getElem? ht);have hp := jx hok;have h0 : (X0 ds (pQ (l.take i)))[dA ds (eZ t.m).reverse]? = some 0 := by
  unfold X0;rw [kR _ hp];congr 1;unfold pQ;rw [List.map_map, oV];refine pX fun s hs => if_neg fun e => ?_;replace e : dA ds (eZ s.m).reverse = dA ds (eZ t.m).reverse := e;have e2 : (eZ s.m).reverse = (eZ t.m).reverse := by rw [← gK (hl s (List.mem_of_mem_take hs)), e, gK hok]
  have e3 : s.m = t.m := wR (List.reverse_inj.1 e2);obtain ⟨j, hj⟩ := List.mem_iff_getElem?.1 hs;have hji : j < i := by have := (List.getElem?_eq_some_iff.1 hj).1; rw [List.length_take] at this; omega
  rw [List.getElem?_take_of_lt hji] at hj;have h1 := (List.getElem?_eq_some_iff.1 hj);have h2 := (List.getElem?_eq_some_iff.1 ht);have h3 := List.pairwise_iff_getElem.1 hr j i h1.1 h2.1 hji;rw [h1.2, h2.2, e3, iA] at h3
  cases h3
 have h1 := th (v := t.c.d) (show (gR (av ds) ((pQ (l.take i)).map fun (q : List Nat × Dyadic) => (dA ds q.1, q.2)))[dA ds (eZ t.m).reverse]? = some 0 from h0);rw [Dyadic.zero_add] at h1;show (gR (av ds) ((pQ (l.take i)).map fun (q : List Nat × Dyadic) => (dA ds q.1, q.2))).set _ _ = _;rw [h1, aH ht];unfold X0 pQ;rw [List.map_append, List.map_append]
 rfl
set_option maxRecDepth 10000 in
theorem tD (p : PX) (L : Option Addr) (n c : Nat) (b : List SR) (M : Option Addr) (m mc : Nat) (ds : List Int) (k : Nat) (w : World) (hT : eP w) (hp : p.at_ w) (lp : p.iu k) (hB : Sl w L n 6 (aY SR.cells b)) (hb : ∀ s ∈ b, s.fin k) (hn : n ≤ 1000000) (hD : Sl w M m 1 (bG ds)) (hm : m ≤ 1000000) (hmc : m ≤ mc) (hk : k ≤ 1000)
  (hgr : p.e = 0 → iU (k + k + 16394) (dO p.v p.ts) (k + 1) ≤ 440000) :
  Calls Tryz.prog 37 #[.agg #[.int .i64 p.v, .slice p.A p.n p.c], .slice L n c, .slice M m mc] w fun r w' => ∃ g : FX, Out (mn p b ds) (Ib p ds) (vw (Ib p ds) (gp p (cC b)).2) g ∧ r = .returned (.tuple #[.agg #[.slice g.A g.n g.a, .slice g.B g.m g.b], .int .i64 (mn p b ds)]) ∧ Hp w [g.jn, g.jc] w' := by
 have hh := Hp.start w;have hbl : b.length = n := hB.bM SR.len Kz;have hdl : ds.length = m := by have := hD.1; rw [bT] at this; omega
 have hok : ∀ s ∈ b, s.ok := fun s hs => ⟨(hb s hs).1.ok, (hb s hs).2.ok⟩;have hDd : mP p ds = if m = 0 then oF p.v p.ts else ds := by unfold mP; rw [hdl]
 have hoN : Ib p ds = (mP p ds).map Int.toNat := rfl;have hoE : mn p b ds = if mV p b (mP p ds) ≠ 0 then mV p b (mP p ds) else (gp p (cC b)).1 := rfl
 rw [hoN, hoE];clear hoN hoE;generalize mP p ds = D at *;refine al (N := 94) (l := [.agg #[.int .i64 p.v, .slice p.A p.n p.c], .slice L n c, .slice M m mc]) Tryz.func37 rfl rfl (by simp) ?_;refine sr ?_;refine db hh [_,_] ?_;intro b3 w3 hh;refine cB hh ?_;intro b6 w6 hh;refine aI (aa ?_);refine B5 [2, 18, 19, 20, 21, 22] 2
  (fun v w' => ∃ (M2 : Option Addr) (m2 mc2 : Nat) (R : List HE), v = .slice M2 m2 mc2 ∧ m2 ≤ mc2 ∧ m2 ≤ 1000000 ∧ D.length = m2 ∧ (∀ (H : List HE) (w1 : World), Hp w (H ++ R) w1 → Sl w1 M2 m2 1 (bG D)) ∧ Hp w (.blk b6 61 [.slice none 0 0, .slice none 0 0] (0, 0) :: .blk b3 24 [.int .i64 p.v, .slice p.A p.n p.c] (0, 0) :: R) w') ?_ ?_
 ·by_cases hm0 : m = 0
  ·subst hm0;rw [if_pos rfl] at hDd;have hdg := fun w1 hT1 hb => lj p k w1 hT1 (hp.ext hb) lp;rw [← hDd] at hdg;have hl4 : D.length ≤ 1000000 := by
    rw [hDd];unfold oF;split
    ·rename_i hpe;have := gI.1 (di hpe).1;rw [e6];omega
    ·exact Nat.zero_le _
   refine sr (mL (aW ?_));refine dh (aa (cT (aq ?_)));refine cR hh 1 [_,_] ?_;refine aN (hdg _ (hT.hp hh) hh.below) aw.out rfl Kz ?_;rintro e_ w22 ⟨G, gc, rfl, h4⟩;refine ⟨_, rfl, ?_⟩;have hgc : D.length ≤ gc := h4.iw (i := 0) rfl;replace hh := hh.join h4;clear h4;simp only [List.cons_append, List.nil_append] at hh;refine aL (aa ?_);replace hh := hh.perm (List.perm_middle (l₁ := [_, _]));simp only [List.cons_append, List.nil_append] at hh;replace hh := hh.perm (List.perm_middle (l₁ := [_, _]));simp only [List.cons_append, List.nil_append] at hh;refine ⟨⟨G, D.length, gc, _, rfl, hgc, hl4, rfl, fun H w1 h1 => kZ (h1.own (.row G D.length gc 3 1 (bG D)) (List.mem_append_right _ List.mem_cons_self)), hh⟩, ?_⟩;exact KC
  ·rw [if_neg hm0] at hDd;refine sr (mL (aW ?_));refine dh (aa (cF (ak (ai ?_))));refine ⟨⟨M, m, mc, [], rfl, hmc, hm, by rw [hDd]; exact hdl, fun H w1 h1 => by rw [hDd]; exact hD.ext h1.below, hh⟩, ?_⟩;exact KC
 ·skip;clear hh hDd hdl hD hm hmc;rintro ρ' v w' ⟨M2, m2, mc2, R, rfl, hmc2, hm2, hDl, hrd, hh⟩;have hfi := fun w1 hT1 hb1 hd => re p L n c b M2 m2 mc2 D k w1 hT1 (hp.ext hb1) lp (hB.ext hb1) hok hn hd hm2;by_cases hE : mV p b D ≠ 0
  ·rw [if_pos hE];generalize mV p b D = E at *;refine ah (sr ?_);refine cR hh 1 [_,_] (mL (mL ?_));refine bE hh (hfi _ (hT.hp hh) hh.below (hrd [_, _] _ hh)) rfl ?_;intro w26 hh;refine aI (aa (sr (mI ?_)));refine cL (aa (cT (sr ?_)));refine e9 [_,_] (mI ?_);refine bK hh 0 [_,_] ?_;intro ws hh;replace hh : Hp _ (.blk _ _ [_, _] _ :: _) _ := hh;refine aI (aa (ao (aG ?_)));refine jG (aT rfl (aU (vs := [_, _]) aF.out (hh.aC (i := 0) (n := 2) rfl rfl) rfl) (cw (cM rfl) bq)) ?_;exact ⟨FX.nil, Out.err hE, rfl, (hh.sub (List.nil_sublist _)).Cb⟩
  ·rw [if_neg hE];have hE0 : mV p b D = 0 := Ky;obtain ⟨hnat, hF⟩ := u4 hE0;rw [hE0] at hfi;have hpe := hF.e;have hn0 := hF.pos;have hn12 := hF.oL;have hnl := hF.nl;have hlow := hF.low;have hmost := hF.most;have hgr2 := hgr hpe;obtain ⟨_, o2, o3⟩ := k7 hpe;have hwi := fun w1 hT1 hb1 => vd p L n c b k (dO p.v p.ts) w1 hT1 (hp.ext hb1) lp (hB.ext hb1) hb (by rw [hF.v, hbl]) Ky Ky hk (by rw [hF.ql]; exact hbl) (fun i d hd => ⟨(o3 i d hd).1, (o3 i d hd).2.1⟩) hgr2;have hsp := tK hF lp.ok hb hk hgr2;clear hgr hgr2 o2 o3 hfi;have hfi := fun w1 hT1 hb1 hd => re p L n c b M2 m2 mc2 D k w1 hT1 (hp.ext hb1) lp (hB.ext hb1) hok hn hd hm2;rw [hE0] at hfi;clear hE hE0;have hcnt : gB 1 D = ((av (D.map Int.toNat) : Nat) : Int) := by
    have h8 := jg (D.map Int.toNat) 1 (Nat.le_refl _) Kz hlow;rw [← hnat, Nat.one_mul, if_pos hmost] at h8;exact h8
   have hco := fun w1 hd => dE M2 m2 mc2 D w1 hd hm2;rw [hcnt] at hco;have hcl := fun w1 hd => kO M2 m2 mc2 D w1 hd hm2;have hm2n : m2 = n := by rw [← hDl, ← hbl, ← hnl, List.length_map]
   generalize hns : D.map Int.toNat = ns at *;generalize (gp p (cC b)).1 = E at *;generalize (gp p (cC b)).2 = S at *;have hN0 := dw ns;refine ah (sr ?_);refine cR hh 1 [_,_] (mL (mL ?_));refine bE hh (hfi _ (hT.hp hh) hh.below (hrd [_, _] _ hh)) rfl ?_;intro w26 hh;refine aI (aa (sr (mI ?_)));refine cL (aa (cF (ak (ai (sr ?_)))));refine cR hh 1 [_,_] (mL ?_);refine aN (hwi _ (hT.hp hh) hh.below) aw.out rfl Kz ?_;rintro e_ w34 ⟨q, oq, rfl, h4⟩;refine ⟨_, rfl, ?_⟩;replace hh := hh.join h4;clear h4;simp only [List.cons_append, List.nil_append] at hh;replace hh := show Hp w (.row q.A q.n q.c 55 4 (aY TR.cells q.ts) :: _) _ from hh;by_cases hE2 : E ≠ 0
   ·refine mT ?_;refine dI ?_;refine dI ?_;refine cB hh ?_;intro b9 w9 hh;refine bK hh 0 [_,_] ?_;intro ws hh;replace hh : Hp _ (.blk _ _ [_, _] _ :: _) _ := hh;refine aI (aa (ah (sr (mI ?_))));refine cL (aa (cT (sr ?_)));refine e9 [_,_] (mI ?_);refine bK hh 2 [_,_] ?_;intro ws hh;replace hh : Hp _ (_ :: _ :: .blk _ _ [_, _] _ :: _) _ := hh;refine aI (aa (ao (aG ?_)));refine jG (aT rfl (aU (vs := [_, _]) aF.out (hh.aC (i := 2) (n := 2) rfl rfl) rfl) (cw (cM rfl) bq)) ?_;exact ⟨FX.nil, Out.err hE2, rfl, (hh.sub (List.nil_sublist _)).Cb⟩
   ·have hE0 : E = 0 := Ky;subst hE0;obtain ⟨hso, hsr⟩ := hsp rfl;have et : q.ts = S := oq.t0;rw [et] at hh;clear oq et;generalize q.v = qv at *;generalize q.A = qA at *;generalize q.n = qn at *;generalize q.c = qc at *;have hSl : S.length = qn := (hh.aM (i := 0) rfl).bM TR.len Kz;have hSn := hso.len;obtain ⟨_, _, hSm, hSc⟩ := di hso.e;refine mT ?_;refine dI ?_;refine dI ?_;refine cB hh ?_;intro b9 w9 hh;refine bK hh 0 [_,_] ?_;intro ws hh;replace hh : Hp _ (.blk _ _ [_, _] _ :: _) _ := hh;refine aI (aa (ah (sr (mI ?_))));refine cL (aa (cF (ak (ai (sr (mL ?_))))));refine aN (hcl _ (hrd [_, _, _, _] _ hh)) aw.out rfl Kz ?_;rintro e_ w42 ⟨A42, c42, rfl, hown_, hb_⟩;refine ⟨_, rfl, ?_⟩;replace hh := hh.bz (x := .row _ _ _ _ _ _) hb_ hown_;refine mL ?_;refine bE hh (hco _ (hrd [_, _, _, _, _] _ hh)) rfl ?_;intro w44 hh;refine eT (n := (av ns)) hh rfl rfl Ky Ky aQ.out aF.out rfl Ky Ky Kz ?_;intro b45 w45 hh;refine e9 [_,_] ?_;refine cB hh ?_;intro b11 w11 hh;refine bK hh 0 [_,_] ?_;intro ws hh;replace hh : Hp _ (.blk _ _ [_, _] _ :: _) _ := hh;refine aa (ah (sr (bP ?_)));refine bR hh 3 ?_;refine aW (mI (aa (aj ?_)));rw [sS, ← dr ns, ← Ht ns.reverse, dr] at hh
    refine bm [13, 14, 15, 16, 50, 51, 52, 53, 54, 55, 56, 57, 58, 59, 60, 61, 62, 63, 64, 65, 66, 67, 68, 69, 70, 71, 72, 73, 74, 75, 76, 77, 78, 79] 50
     (fun v w' => ∃ i : Nat, i ≤ qn ∧ v = .int .i64 i ∧ Hp w (.blk b11 61 [.slice A42 m2 c42, .slice (some ⟨b45, 0, none⟩) (av ns) (av ns)] (0, 0) :: .row (some ⟨b45, 0, none⟩) (av ns) (av ns) 29 3 (aY NR.cells ((X0 ns.reverse (pQ (S.take i))).map nR)) :: .row A42 m2 c42 3 1 (bG D) :: .blk b9 24 [.int .i64 qv, .slice qA qn qc] (0, 0) :: .row qA qn qc 55 4 (aY TR.cells S) :: .blk b6 61 [.slice none 0 0, .slice none 0 0] (0, 0) :: .blk b3 24 [.int .i64 p.v, .slice p.A p.n p.c] (0, 0) :: R) w')
     (fun v _ => qn - (intOf v).toNat) ?_ ?_
    ·exact ⟨0, Nat.zero_le _, rfl, hh⟩
    ·clear hh;rintro ρ2 v w2 ⟨i, hi, rfl, hh⟩;by_cases hlt : i < qn
     ·obtain ⟨x, hx⟩ := ay (l := S) (k := i) Ky;have hxm := List.mem_of_getElem? hx;have hxo := hsr x hxm;have hx2 := hSm x hxm;unfold gH at hx2;rw [Bool.and_eq_true, decide_eq_true_eq] at hx2;have hxs : x.m.size = n := Ky;have hxz := hso.sz x hxm;have hxc : x.c = nR x.c.d := hSc.nf x hxm;have hex : jd x.m.data.toList = bu (eZ x.m) := by rw [kv hx2.1, BE]
      have hesl : (eZ x.m).length = n := by rw [q8]; exact hxs
      have hel : (jd x.m.data.toList).length = n := by rw [hex, cU]; exact hesl
      have hset := FP hsr hSc.pS hx;have hX0l : ((X0 ns.reverse (pQ (S.take i))).map nR).length = av ns := by rw [List.length_map]; unfold X0; rw [gE, dr]
      have hcell : aY TR.cells S = aY TR.cells S := rfl;have hokat : ∀ (j d r : Nat), ns[j]? = some d → (eZ x.m)[j]? = some r → r ≤ d := fun j d r hd hr => by
       have hj := (List.getElem?_eq_some_iff.1 hd).1;refine ((kM _ _).1 hxo).2 (n - 1 - j) d r ?_ ?_
       ·rw [List.getElem?_reverse Ky, show ns.length - 1 - (n - 1 - j) = j by omega]; exact hd
       ·rw [List.getElem?_reverse Ky, show (eZ x.m).length - 1 - (n - 1 - j) = j by omega]; exact hr
      obtain ⟨gq, rfl⟩ := hh.dq (i := 4) rfl Ky;refine sr ?_;refine aK (aa (ah (cT (ak (ai (ah (aj (sr ?_))))))));refine bf (k := i) aQ.out aF.size rfl rfl Ky Ky Kz ?_;refine bJ (vs := [_, _, _, _]) aF.out rfl (hh.gO (f := TR.cells) (x := x) (l := S) (i := 4) rfl TR.len Kz hx) rfl Kz ?_;refine cB hh ?_;intro b13 w13 hh;refine bK hh 0 [_,_,_,_] ?_;intro ws hh;replace hh : Hp _ (.blk _ _ [_, _, _, _] _ :: _) _ := hh;refine aa (sr (aI (aa (ah (sr (bP ?_))))));refine bR hh 0 ?_;refine aN (iD x.m _ hxz) aw.out rfl Kz ?_;rintro e_ w56 ⟨A56, c56, rfl, hown_, hb_⟩;refine ⟨_, rfl, ?_⟩;replace hh := hh.bz (x := .row _ _ _ _ _ _) hb_ hown_;rw [hel, hex] at hh;rw [hel];refine aW (mI (aa (aj ?_)));refine cv [14, 15, 16, 58, 59, 60, 61, 62, 63, 64, 65, 66, 67, 68, 69, 70, 71, 72] 14 58
       (fun a v w' => ∃ (j z : Nat), j ≤ n ∧ v = .int .i64 j ∧ a = .int .i64 z ∧ z = dA (ns.take j).reverse ((eZ x.m).take j).reverse ∧ z < av (ns.take j) ∧ Hp w (.row A56 n c56 3 1 (bG (bu (eZ x.m))) :: .blk b13 55 [.string x.m, .bool x.c.neg, .string x.c.cA, .int .i64 x.c.e] (0, 0) :: .blk b11 61 [.slice A42 m2 c42, .slice (some ⟨b45, 0, none⟩) (av ns) (av ns)] (0, 0) :: .row (some ⟨b45, 0, none⟩) (av ns) (av ns) 29 3 (aY NR.cells ((X0 ns.reverse (pQ (S.take i))).map nR)) :: .row A42 m2 c42 3 1 (bG D) :: .blk b9 24 [.int .i64 qv, .slice (some ⟨gq, 0, none⟩) qn qc] (0, 0) :: .row (some ⟨gq, 0, none⟩) qn qc 55 4 (aY TR.cells S) :: .blk b6 61 [.slice none 0 0, .slice none 0 0] (0, 0) :: .blk b3 24 [.int .i64 p.v, .slice p.A p.n p.c] (0, 0) :: R) w')
       (fun _ v _ => n - (intOf v).toNat) ?_ ?_
      ·exact ⟨0, 0, Nat.zero_le _, rfl, rfl, rfl, Nat.one_pos, hh⟩
      ·clear hh;rintro ρ3 a_ v w3 ⟨j, z, hj, rfl, rfl, hz, hz2, hh⟩;by_cases hjn : j < n
       ·obtain ⟨d, hd⟩ := ay (l := ns) (k := j) Ky;obtain ⟨r, hr⟩ := ay (l := eZ x.m) (k := j) Ky;have hrd2 := hokat j d r hd hr;have hd7 := hlow d (List.mem_of_getElem? hd);have hgD : (bG D)[j]? = some (.int .i64 (d : Int)) := by rw [hnat]; exact cx (eu hd)
        have hgE := cx (eu hr);have hst := Dx hd hr;have hcs := CF hd;rw [dr, dr] at hcs;rw [← hz] at hst;have hct := fU ns (j + 1);have hnew : r + (d + 1) * z < (d + 1) * av (ns.take j) := by
         have : (d + 1) * (z + 1) ≤ (d + 1) * av (ns.take j) := Nat.mul_le_mul_left _ hz2;rw [Nat.mul_succ] at this;omega
        have hpr : (z : Int) * ((d : Int) + 1) = (((d + 1) * z : Nat) : Int) := by rw [Nat.mul_comm, Int.natCast_mul, Int.natCast_add]; rfl
        have hDs := hrd [_, _, _, _, _, _, _, _, _] _ hh;obtain ⟨ad, hMe, hsr2⟩ := hDs.at_ Ky;have jv : Value.slice M2 m2 mc2 = .slice (some ad) m2 mc2 := by rw [hMe]
        have hel2 : (bG (bu (eZ x.m))).length = n := by rw [bT, cU]; exact hesl
        obtain ⟨gx, rfl⟩ := hh.dq (i := 0) rfl Ky;refine sr ?_;refine aK (aa (ah (cT (ak (ai (ah (aj (sr (mI ?_)))))))));refine bf (k := j) aQ.out aF.size rfl rfl Ky Ky Kz ?_;refine aZ aF.out rfl (hh.cN (i := 0) rfl (by first | assumption | (simp only [Nat.mul_one]; assumption))) Kz ?_;refine aI (aI (aa (aq (mI (mL (mI ?_))))));refine aD (k := j) aQ.out aF.size jv rfl Ky Ky Kz ?_;refine aZ aF.out rfl (hsr2.fP hgD) Kz ?_;refine bB ?_;refine mulC (mI ?_);refine bB (aI (aE (aP (ai (aq ?_)))));refine bB (mI (aE (ai ?_)));rw [hpr];refine ⟨⟨j + 1, r + (d + 1) * z, Ky, rfl, ?_, hst.symm, Ky, hh⟩, by show n - (j + 1) < n - j; omega, ?_⟩
        ·show Value.int IntKind.i64 ((((d + 1) * z : Nat) : Int) + (r : Int)) = _;rw [show (((d + 1) * z : Nat) : Int) + (r : Int) = ((r + (d + 1) * z : Nat) : Int) by omega]
        ·exact KB
       ·obtain rfl : j = n := Ky;rw [List.take_of_length_le Ky, List.take_of_length_le Ky] at hz;rw [List.take_of_length_le Ky] at hz2;rw [← hz] at hset;generalize X0 ns.reverse (pQ (S.take i)) = X at *;have hrl := eY NR.len (X.map nR);refine sr ?_;refine aK (aa (ah (cF (aJ (az (az (aX (ai (aq (bP ?_))))))))));refine bR hh 2 ?_;refine mI (bP ?_);refine cR hh 1 [_,_,_] ?_;refine bf (k := z) aQ.out aF.size rfl rfl Ky Ky Kz ?_;refine bs hh (i := 3) (vs := [_, _, _]) rfl rfl (cJ rfl) rfl aF.out rfl Ky rfl ?_;intro ws hh;simp only [List.set_cons_zero, List.set_cons_succ] at hh;rw [hxc, show cI (aY NR.cells (X.map nR)) (z * 3) [.bool (nR x.c.d).neg, .string (nR x.c.d).cA, .int .i64 (nR x.c.d).e] = aY NR.cells ((X.map nR).set z (nR x.c.d)) from fZ NR.len Ky, ← List.map_set, hset] at hh;refine aE (aP (ai (aq ?_)));refine bB (mI (aE (ai ?_)));replace hh := hh.sub (List.Sublist.cons _ (List.Sublist.cons _ (List.Sublist.cons_cons _ (List.Sublist.cons_cons _ (List.Sublist.cons_cons _ (List.Sublist.cons_cons _ (List.Sublist.cons_cons _ (List.Sublist.cons_cons _ (List.Sublist.cons_cons _ (List.Sublist.refl _))))))))));refine ⟨⟨i + 1, Ky, rfl, hh⟩, by show qn - (i + 1) < qn - i; omega, ?_⟩
        exact KB
     ·obtain rfl : i = qn := Ky;rw [List.take_of_length_le Ky, show X0 ns.reverse (pQ S) = n6 ns.reverse (pQ S) 0 from rfl] at hh;have hoff := xA hsr;have hXz := yg (GX (ds := ns.reverse) hso.ok) (fun d hd => hlow d (List.mem_reverse.1 hd));have hnr : ns.reverse.length = n := by rw [List.length_reverse]; omega
      refine sr ?_;refine aK (aa (ah (cF (aJ (az (az (aX (ai (ah (sr (mL (aW (mI (aa (aj ?_)))))))))))))));replace hh := hh.sub (List.Sublist.cons_cons _ (List.Sublist.cons_cons _ (List.Sublist.cons_cons _ (List.Sublist.cons _ (List.Sublist.cons _ (List.Sublist.cons_cons _ (List.Sublist.cons_cons _ (List.Sublist.refl _))))))));refine bm [17, 82, 83, 84, 85, 86, 87, 88, 89, 90, 91, 92] 82
       (fun v w' => ∃ (j : Nat) (A : Option Addr) (ac : Nat), j ≤ n ∧ v = .int .i64 j ∧ Hp w (.blk b11 61 [.slice A42 m2 c42, .slice A (av ns) ac] (0, 0) :: .row A (av ns) ac 29 3 (aY NR.cells ((n6 ns.reverse (pQ S) j).map nR)) :: .row A42 m2 c42 3 1 (bG D) :: .blk b6 61 [.slice none 0 0, .slice none 0 0] (0, 0) :: .blk b3 24 [.int .i64 p.v, .slice p.A p.n p.c] (0, 0) :: R) w')
       (fun v _ => n - (intOf v).toNat) ?_ ?_
      ·exact ⟨0, _, _, Nat.zero_le _, rfl, hh⟩
      ·clear hh;rintro ρ4 v w4 ⟨j, A, ac, hj, rfl, hh⟩;by_cases hjn : j < n
       ·obtain ⟨d, hd⟩ := ay (l := ns) (k := j) Ky;have hd7 := hlow d (List.mem_of_getElem? hd);have hrm := Gr hd;have hol : (n6 ns.reverse (pQ S) j).length = av ns := by rw [wY, dr]
        have hof := fun w1 hs => uK M2 m2 mc2 j d ns w1 (by rw [← hnat]; exact hs) hmc2 Ky hd hlow hmost;have hcn : av ns = av ((ns.drop (j + 1)).reverse ++ d :: (ns.take j).reverse) := by rw [← hrm, dr]
        have hli := fun w1 hT1 hS1 => xg 120 (ns.drop (j + 1)).reverse (ns.take j).reverse d (d + 1) (mC d (fY d 1 1)) A (av ns) ac (440000 + S.length + 520 * j) (n6 ns.reverse (pQ S) j) w1 hT1 hS1 hcn hmost (Nat.le_refl _) hd7 (hXz j) (fun Y E ec w2 hT2 hy hs => vu E (d + 1) ec d Y _ w2 hT2 hs rfl hd7 hy Ky) (fun Y _ => by simp [mC]);have hM := HN (M := fY d 1 1) (A := (ns.drop (j + 1)).reverse) (B := (ns.take j).reverse) (X := n6 ns.reverse (pQ S) j) (hol.trans hcn);have hsu := oU ns.reverse (pQ S) j;have hgd : ns.reverse.getD (ns.reverse.length - 1 - j) 0 = d := by
         rw [List.getD_eq_getElem?_getD, List.getElem?_reverse Ky, show ns.length - 1 - (ns.reverse.length - 1 - j) = j by omega, hd]
         rfl
        rw [hgd, show ns.reverse.length - 1 - j = (ns.drop (j + 1)).reverse.length by rw [List.length_reverse, List.length_reverse, List.length_drop]; omega] at hsu;rw [hol, ← hrm, ← hsu] at hM;rw [hM, dr] at hli;clear hM hsu hgd hcn;refine sr ?_;refine aK (aa (ah (cT (ak (ai (ah (aj (sr (mI (aI (aa ?_)))))))))));refine a8 5 [[(2, none)], [(17, none)], [(85, some 0), (86, some 1)], [(11, none)], [(88, some 3)]] [(4, 89), (3, 88), (2, 87), (1, 86), (0, 85)] hh mixed KA ?_;refine jt ?_;refine fJ ?_;refine dC (fun _ hj => hof _ (hrd [_, _, _, _, _] _ hj.hp)) ?_;refine eA ?_;refine fQ 0 ?_;refine bA ?_;intro f W hJ hV;have hb_24 := hJ.bl;obtain ⟨v89, v88, v87, v86, v85, _⟩ := hV;replace hh := hJ.hp;refine bj (bC (ae v89 (ae v88 (ae v87 (ae v86 (ae v85 bh)))))) ?_;dsimp only [cP];clear hJ;refine aN (hli _ (hT.hp hh) (hh.aM (i := 1) rfl)) aw.out rfl Kz ?_;rintro e_ w90 ⟨E, ec, rfl, h4⟩;refine ⟨_, rfl, ?_⟩;replace hh := hh.join h4;clear h4;simp only [List.cons_append, List.nil_append] at hh;refine bP ?_;refine bK hh 1 [_] ?_;intro ws hh;replace hh : Hp _ (_ :: .blk _ _ [_, _] _ :: _) _ := hh;refine aE (aP (ai (aq ?_)));refine bB (mI (aE (ai ?_)))
        replace hh := hh.sub (List.Sublist.cons_cons _ (List.Sublist.cons_cons _ (List.Sublist.cons _ (List.Sublist.cons_cons _ (List.Sublist.cons_cons _ (List.Sublist.cons_cons _ (List.Sublist.refl _)))))));replace hh := hh.perm (List.perm_middle (l₁ := [_]));simp only [List.cons_append, List.nil_append] at hh;refine ⟨⟨j + 1, E, ec, Ky, rfl, hh⟩, by show n - (j + 1) < n - j; omega, ?_⟩;exact KB
       ·obtain rfl : j = n := Ky;rw [hnl, hbl] at hoff;rw [hoff] at hh;refine sr ?_;refine aK (aa (ah (cF (aJ (az (az (aX (ai (sr ?_)))))))));refine cR hh 0 [_,_] ?_;refine bK hh 3 [_,_] ?_;intro ws hh;replace hh : Hp _ (_ :: _ :: _ :: .blk _ _ [_, _] _ :: _) _ := hh;refine aI (aa (ao ?_));refine jG (aT rfl (aU (vs := [_, _]) aF.out (hh.aC (i := 3) (n := 2) rfl rfl) rfl) (cw (cM rfl) bq)) ?_;exact ⟨⟨A42, m2, c42, A, av ns, ac, D, (vw ns S).map nR⟩, ⟨hnat, rfl, by show m2 ≤ 100000; omega, by show av ns ≤ 1000000; omega⟩, rfl, hh.sub (.cons _ (.cons_cons _ (.cons_cons _ (List.nil_sublist _))))⟩
end Go.Proofs.YtaapkaefelhfcaaGreatDoor
/- The values of a polynomial's form; how great its numbers are. Plain, no program in sight. -/
namespace Go.Proofs.YtaapkaefelhfcaaGreatDoor
open Go.RowKit
theorem xS {d a : Nat} (t : Dyadic) (h : a ≤ d) : sm (List.range (d + 1)) (fun r => fY d 1 1 a r * kL d r t) = t ^ a := by
 have e0 : (fun r => fY d 1 1 a r * kL d r t) = fun k => if k < a then 0 else (fun j => nD (bin (d - a) j) * kL d (j + a) t) (k - a) := funext fun k => by
  unfold fY;by_cases hk : k < a
  ·rw [if_pos hk, if_pos hk, Dyadic.zero_mul]
  ·rw [if_neg hk, if_neg hk, jC, jC];show nD (bin (d - a) (k - a)) * 1 * 1 * kL d k t = nD (bin (d - a) (k - a)) * kL d (k - a + a) t;rw [Nat.sub_add_cancel Ky];grind
 have hb := CR (d - a) t (1 - t);rw [show t + (1 - t) = 1 by grind, jC] at hb;rw [e0, GV d a h fun j => nD (bin (d - a) j) * kL d (j + a) t];have e1 : ∀ j, j ∈ List.range (d - a + 1) → nD (bin (d - a) j) * kL d (j + a) t = t ^ a * (nD (bin (d - a) j) * t ^ j * (1 - t) ^ (d - a - j)) := fun j hj => by
  have := List.mem_range.1 hj;unfold kL;rw [show d - (j + a) = d - a - j by omega, mb];grind
 rw [bZ e1, gF, hb];grind
theorem D7 : ∀ (ds s : List Nat) (ts : List Dyadic), ju ds s → ts.length = ds.length → sm (List.range (av ds)) (fun p => wK 0 ds s (bV ds p) * lf ds (bV ds p) ts) = rX s ts
 | [], [], [], _, _ => by show (1 : Dyadic) * 1 + 0 = 1; grind
 | [], _ :: _, _, h, _ => by cases h
 | _ :: _, [], _, h, _ => by cases h
 | [], [], _ :: _, _, h => by cases h
 | _ :: _, _ :: _, [], _, h => by cases h
 | d :: ds, a :: s, t :: ts, h1, h2 => by
  have ih := D7 ds s ts h1.2 (by simpa using h2);rw [uF, rX, ← ih, ← xS t h1.1, ← gF];refine bZ fun q _ => ?_;rw [← kd];refine bZ fun r hr => ?_;have hr2 := List.mem_range.1 hr;rw [bV, Nat.add_mul_mod_self_left, Nat.mod_eq_of_lt hr2, Nat.add_mul_div_left _ _ Ky, Nat.div_eq_of_lt hr2, Nat.zero_add, lf];show fY d 1 1 a r * wK 0 ds s (bV ds q) * _ = _;grind
theorem sZ : ∀ (s : List Nat) (ts : List Dyadic) (a : Nat) (t : Dyadic), s.length = ts.length → rX (s ++ [a]) (ts ++ [t]) = rX s ts * t ^ a
 | [], [], a, t, _ => by show t ^ a * 1 = 1 * t ^ a; grind
 | [], _ :: _, _, _, h => by cases h
 | _ :: _, [], _, _, h => by cases h
 | b :: s, u :: ts, a, t, h => by
  show u ^ b * rX (s ++ [a]) (ts ++ [t]) = u ^ b * rX s ts * t ^ a;rw [sZ s ts a t (by simpa using h)];grind
theorem wV : ∀ (s : List Nat) (ts : List Dyadic), s.length = ts.length → rX s.reverse ts.reverse = rX s ts
 | [], [], _ => rfl
 | [], _ :: _, h => by cases h
 | _ :: _, [], h => by cases h
 | b :: s, u :: ts, h => by
  rw [List.reverse_cons, List.reverse_cons, sZ _ _ _ _ (by simpa using h), wV s ts (by simpa using h), rX];grind
theorem CX {ns : List Nat} {S : List TR} {ts : List Dyadic} (hS : ∀ t ∈ S, ju ns.reverse (eZ t.m).reverse) (ht : ts.length = ns.length) : jo ns.reverse (vw ns S) ts = Jx ts.reverse S := by
 unfold jo;have e1 : sm (List.range (av ns.reverse)) (fun p => ((vw ns S)[p]?).getD 0 * lf ns.reverse (bV ns.reverse p) ts) = sm (List.range (av ns.reverse)) fun p => sm S fun t => t.c.d * (wK 0 ns.reverse (eZ t.m).reverse (bV ns.reverse p) * lf ns.reverse (bV ns.reverse p) ts) := bZ fun p hp => by
  unfold vw;rw [List.getElem?_map, List.getElem?_range (List.mem_range.1 hp)];show wS _ S * _ = _;rw [DM, ← kd];exact bZ fun t _ => by grind
 rw [e1, n9];unfold Jx;rw [DM];refine bZ fun t h => ?_;rw [gF, D7 _ _ _ (hS t h) (by rw [List.length_reverse]; exact ht)];have hl := AZ (hS t h);rw [List.length_reverse, List.length_reverse] at hl;have := wV (eZ t.m).reverse ts (by rw [List.length_reverse, hl, ht]);rw [List.reverse_reverse] at this;rw [this]
def Ks (b : List SR) (xs : List Dyadic) : List Dyadic := b.mapIdx fun i s => s.L + (s.H - s.L) * (xs[i]?).getD 0
theorem BC {p : PX} {b : List SR} {ns : List Nat} {k N s : Nat} (h : xh p b ns) (ho : jq k p.ts) (hb : ∀ z ∈ b, z.fin k) (hk : k ≤ 1000) (hN : av (dO p.v p.ts) ≤ N) (hN2 : N ≤ 1000) (hs : (dO p.v p.ts).sum ≤ s) (hB : k + 1 + (s + 12) * (k + k + 10 + 5 * N) ≤ 400000) (h0 : (gp p (cC b)).1 = 0) :
  jh b.length (k + 1 + (s + 12) * (k + k + 10 + 5 * N)) (gp p (cC b)).2 ∧ (gp p (cC b)).2.length ≤ N := by
 have hl := h.oL;have hpos := h.pos;have hln := kW b;obtain ⟨_, o2, o3⟩ := k7 h.e;have hol := h.ql;have hhv : fT (cC b) = b.length := by
  obtain ⟨z, hz⟩ := ay (l := b) (k := 0) Ky;rw [ll (gZ hz)]
 unfold gp at h0 ⊢;rw [if_neg (fun c => c h.e), if_neg (by rw [hln, h.v]; exact fun c => c rfl)] at h0 ⊢;by_cases hlk : (cC b).length ≠ 0 ∧ gl (cC b) ≠ 0
 ·rw [if_pos hlk] at h0; exact absurd h0 hlk.2
 ·rw [if_neg hlk, hhv] at h0 ⊢;have hD : (List.range b.length).map (fun i => ((dO p.v p.ts)[i]?).getD 0) = dO p.v p.ts := by
   refine List.ext_getElem? fun i => ?_;rw [List.getElem?_map];by_cases hi : i < b.length
   ·obtain ⟨d, hd⟩ := ay (l := dO p.v p.ts) (k := i) Ky;rw [List.getElem?_range hi, hd];show some (((dO p.v p.ts)[i]?).getD 0) = some d;rw [hd]
    rfl
   ·rw [List.getElem?_eq_none (by rw [List.length_range]; omega), List.getElem?_eq_none Ky]
    rfl
  have hsl : ((dO p.v p.ts).sum + (dO p.v p.ts).length) * (k + k + 10 + 5 * N) ≤ (s + 12) * (k + k + 10 + 5 * N) := Nat.mul_le_mul_right _ Ky;have h1 := C2 (K := k + k + 10) (T := 2) (c := k + k + 10 + 5 * N) (N := N) hl (fun i => ((dO p.v p.ts)[i]?).getD 0) (by rw [hD]; exact hN) Ky Ky Ky ((cC b).map PX.ts) 0 p.ts (dO p.v p.ts) k (fun i q hq => ?_) ho (by rw [List.length_map, hln, hol]) (fun i d hd => by rw [Nat.zero_add, hd]; rfl) (fun t ht i hi => ?_) Ky h0
  ·exact ⟨h1.1.mono Ky, h1.2⟩
  ·rw [List.getElem?_map] at hq;obtain ⟨g, hg, rfl⟩ := Option.map_eq_some_iff.1 hq;obtain ⟨z, hz⟩ := ay (l := b) (k := i) (by have := (List.getElem?_eq_some_iff.1 hg).1; rwa [hln] at this);rw [gZ hz] at hg;rw [← Option.some.inj hg, Nat.zero_add];obtain ⟨a1, a2⟩ := mj (v := b.length) (i := i) hl (hb z (List.mem_of_getElem? hz)) Ky;exact ⟨a1, a2, tM _ i z⟩
  ·rw [List.length_map, hln] at hi;rw [Nat.zero_add];obtain ⟨d, hd⟩ := ay (l := dO p.v p.ts) (k := i) Ky;rw [hd];exact (o3 i d hd).2.1 t ht
theorem AR : ∀ (ds : List Nat), (∀ d ∈ ds, d ≤ 5) → 2 ^ ds.sum ≤ av ds * av ds
 | [], _ => Nat.le_refl _
 | d :: ds, h => by
  have h1 := AR ds fun x hx => h x (List.mem_cons_of_mem _ hx);have h2 := h d List.mem_cons_self;have h3 : 2 ^ d ≤ (d + 1) * (d + 1) := by
   match d, h2 with
   | 0, _ => decide
   | 1, _ => decide
   | 2, _ => decide
   | 3, _ => decide
   | 4, _ => decide
   | 5, _ => decide
  rw [List.sum_cons, Nat.pow_add, av];have := Nat.mul_le_mul h3 h1
  calc 2 ^ d * 2 ^ ds.sum ≤ (d + 1) * (d + 1) * (av ds * av ds) := this
   _ = (d + 1) * av ds * ((d + 1) * av ds) := by rw [Nat.mul_mul_mul_comm]
theorem Hv {ds : List Nat} {s C : Nat} (h : ∀ d ∈ ds, d ≤ 5) (hc : av ds ≤ C) (hs : C * C < 2 ^ (s + 1)) : ds.sum ≤ s := by
 have h1 := AR ds h;have h2 := Nat.mul_le_mul hc hc;have h3 : 2 ^ ds.sum < 2 ^ (s + 1) := Ky;have := (Nat.pow_lt_pow_iff_right (by decide : 1 < 2)).1 h3;omega
theorem tE (c k : Nat) : ∀ ds : List Nat, iU c ds k = k + ds.sum * c + ds.length * 8192
 | [] => by rw [oK]; simp
 | d :: ds => by
  rw [mM, tE c k ds, List.sum_cons, List.length_cons, Nat.add_mul, Nat.succ_mul];omega
theorem Iy {ns : List Nat} {S : List TR} {k : Nat} (hS : ∀ t ∈ S, ju ns.reverse (eZ t.m).reverse) (hk : jq k S) (hd : ∀ d ∈ ns, d ≤ 127) : ∀ x ∈ vw ns S, Sz (k + S.length + 520 * ns.length) x := by
 rw [← xA hS];exact yg (GX hk) (fun d h => hd d (List.mem_reverse.1 h)) ns.length
end Go.Proofs.YtaapkaefelhfcaaGreatDoor
/- Ranges over functions inside a loop: the marks that they leave. Plain lemmas, no program in sight. -/
namespace Go.Proofs.YtaapkaefelhfcaaGreatDoor
open Go.RowKit
section
variable {P : Program} {N : Nat} {Q : Kd} {ρ : Rf} {w : World}
end
structure Marks (w0 : World) (M : List Nat) (w : World) : Prop where
 at_ : ∀ D ∈ M, w0.heap.size ≤ D ∧ w.heap[D]? = some (.deferred (some []))
 nd : M.Nodup
end Go.Proofs.YtaapkaefelhfcaaGreatDoor
/- The walks through bern.folded and the function that it hands back. -/
namespace Go.Proofs.YtaapkaefelhfcaaGreatDoor
open Go.RowKit
def Kc (d : Nat) (t : Dyadic) (xs : List Dyadic) (i : Nat) : Dyadic := sm (List.range i) fun r => ji xs r * kL d r t
end Go.Proofs.YtaapkaefelhfcaaGreatDoor
/- Plain laws: a form's value, folded line by line; a part of a slice. No program in sight. -/
namespace Go.Proofs.YtaapkaefelhfcaaGreatDoor
open Go.RowKit
def IY (K q : Nat) (X : List Dyadic) : List Dyadic := (X.drop (q * K)).take K
def JX (fx : FX) (m : Nat) : Int := if fx.e ≠ 0 then fx.e else if m ≠ fx.n then 1 else 0
def Ku (fx : FX) (tn : List NR) : Dyadic := if JX fx tn.length = 0 then jo fx.ns.reverse (fx.cs.map NR.d) (tn.map NR.d).reverse else 0
end Go.Proofs.YtaapkaefelhfcaaGreatDoor
/- A region whose order is left open, order by order, in a round of a range over a function: one operation that may float along a chain. Plain lemmas, no program in sight. -/
namespace Go.Proofs.YtaapkaefelhfcaaGreatDoor
open Go.RowKit
section
variable {P : Program} {N : Nat} {Q : Kq} {ρ : Rf} {w : World} {ro : Option Nat} {D : List Deferred}
structure WR (ro : Option Nat) (D : List Deferred) (P : Program) (N : Nat) (ops : Array Oper) (Q : Kq) (fuel : Nat) (L : Array Bool) (ρ : Rf) (w : World) : Prop where
 out : ∀ a, fM N D a ρ → ∀ n, wpAnyIn (FW ro) n P .any ops (fC N D Q) fuel L a w
end
end Go.Proofs.YtaapkaefelhfcaaGreatDoor
/- The walk through bern.Eval. -/
namespace Go.Proofs.YtaapkaefelhfcaaGreatDoor
open Go.RowKit
instance : aF Tryz.prog 161 1 false 8 [.nilFunc] := {}
end Go.Proofs.YtaapkaefelhfcaaGreatDoor
/- Plain laws: the values of forms that are raised, added, multiplied. No program in sight. -/
namespace Go.Proofs.YtaapkaefelhfcaaGreatDoor
theorem Ct {ns ms : List Nat} (xs ys ts : List Dyadic) (h : ns.length = ms.length) : jo (da ns ms).reverse (lr ns ms xs ys) ts = jo ns.reverse xs ts * jo ms.reverse ys ts := by
 have := EI (ds := ns.reverse) (es := ms.reverse) (xs := xs) (ys := ys) (ts := ts) (by rw [List.length_reverse, List.length_reverse, h]);rw [nZ h, dr] at this;rw [← this];unfold lr sk wy;rw [dr ms]
theorem val_one (ds : List Nat) (ts : List Dyadic) (h : ts.length = ds.length) : jo ds.reverse ((sJ ds).map nD) ts = 1 := by
 rw [← AF ds.reverse ts (by rw [List.length_reverse, h])];unfold jo;refine bZ fun p hp => ?_;have hp := List.mem_range.1 hp;congr 1;unfold sJ;rw [List.getElem?_map, List.getElem?_map, List.getElem?_range hp]
 rfl
theorem BU {ns D : List Nat} {xs ts : List Dyadic} (hl : ns.length = D.length) (h : ∀ (i n t : Nat), ns[i]? = some n → D[i]? = some t → n ≤ t) (ht : ts.length = D.length) : jo D.reverse (k5 ns D xs) ts = jo ns.reverse xs ts := by
 have hs : (gy D ns).length = D.length := r9 hl.symm;have := Ct (ns := ns) (ms := gy D ns) xs ((sJ (gy D ns)).map nD) ts (by rw [hs, hl]);rw [oB hl h, val_one _ _ (by rw [hs, ht])] at this;unfold k5;rw [this];grind
end Go.Proofs.YtaapkaefelhfcaaGreatDoor
/- A polynomial's form, raised, is its form with those degrees: plain, no program in sight. -/
namespace Go.Proofs.YtaapkaefelhfcaaGreatDoor
open Go.RowKit
theorem pf {p : PX} {b : List SR} {ds : List Int} (h : mn p b ds = 0) : mV p b (mP p ds) = 0 ∧ (gp p (cC b)).1 = 0 := by
 unfold mn at h;by_cases h0 : mV p b (mP p ds) ≠ 0
 ·rw [if_pos h0] at h; exact absurd h h0
 ·rw [if_neg h0] at h; exact ⟨Classical.not_not.1 h0, h⟩
theorem mY (ns : List Nat) : (bu ns).map Int.toNat = ns := iC ns
theorem Out.fe {D : List Nat} {ys : List Dyadic} {g : FX} (o : Out 0 D ys g) (h12 : D.length ≤ 12) (hlow : ∀ d ∈ D, d ≤ 127) (hy : ys.length = av D) (hm : av D ≤ 4096) : g.e = 0 ∧ g.ds = bu D ∧ g.cs = ys.map nR := by
 have e1 : g.ds = bu D := o.ds;have e2 : g.cs = ys.map nR := o.cs;refine ⟨?_, e1, e2⟩;unfold FX.e;rw [e1, e2];exact (FV.mk rfl rfl h12 hlow hy hm : FV (bu D) (ys.map nR) D ys).ok
theorem Ch (a b : List Int) : ue a b = (a.zip b).any lN := rfl
theorem Co {p : PX} {b : List SR} {ds : List Int} (hds : ds.length ≠ 0) (h : mn p b [] = 0) : mn p b ds = p7 (bu (dO p.v p.ts)) ds := by
 obtain ⟨h1, h2⟩ := pf h;have td : mP p [] = oF p.v p.ts := rfl;rw [td] at h1;obtain ⟨_, hF⟩ := u4 h1;obtain ⟨o1, _, _⟩ := k7 hF.e;have hol := hF.ql;unfold mn;rw [show mP p ds = ds from if_neg hds];have hfe : mV p b ds = p7 (bu (dO p.v p.ts)) ds := by
  unfold mV p7;rw [if_neg (fun c => c hF.e), if_neg (fun c => c hF.box)];by_cases hl : ds.length ≠ (bu (dO p.v p.ts)).length
  ·rw [if_pos hl, if_pos (.inr (by rw [hF.v]; rw [cU] at hl; omega))]
  ·have hl2 : ds.length = (bu (dO p.v p.ts)).length := Classical.not_not.1 hl;have hl3 := hl2;rw [cU] at hl3;rw [if_neg hl, if_neg (fun c => c.elim (fun c => c hF.v.symm) (fun c => c (by rw [hF.v]; omega))), o1, Ch];by_cases hb : ((bu (dO p.v p.ts)).zip ds).any lN = true
   ·rw [if_pos hb, if_pos hb]
   ·rw [if_neg hb, if_neg hb];obtain ⟨ts, rfl, _, _, h7⟩ := u9 hl2 ((Bool.not_eq_true _).mp hb);have h8 := jg ts 1 (Nat.le_refl _) Kz h7;rw [Nat.one_mul] at h8;rw [show gB 1 (bu ts) = gB ((1 : Nat) : Int) (bu ts) from rfl, h8, mY];by_cases hc : 4096 < av ts
    ·rw [if_neg (show ¬ av ts ≤ 4096 by omega), if_pos rfl, if_pos hc]
    ·have := dw ts;rw [if_pos (show av ts ≤ 4096 by omega), if_neg (show ¬ ((av ts : Nat) : Int) = 0 by omega), if_neg hc]
 rw [hfe, h2];by_cases hz : p7 (bu (dO p.v p.ts)) ds ≠ 0
 ·rw [if_pos hz]
 ·rw [if_neg hz]; exact (Classical.not_not.1 hz).symm
theorem yW {ns D : List Nat} {S : List TR} (hl : ns.length = D.length) (h : ∀ (i n t : Nat), ns[i]? = some n → D[i]? = some t → n ≤ t) (h1 : ∀ t ∈ S, ju ns.reverse (eZ t.m).reverse) (h2 : ∀ t ∈ S, ju D.reverse (eZ t.m).reverse) (hr : (k5 ns D (vw ns S)).length = av D) : k5 ns D (vw ns S) = vw D S := by
 refine val_inj (ds := D.reverse) (by rw [hr, dr]) (by rw [p6, dr]) fun ts ht => ?_;rw [List.length_reverse] at ht;rw [BU hl h ht, CX h1 Ky, CX h2 ht]
theorem zg {ns D : List Nat} (hl : ns.length = D.length) (h : ∀ (i n t : Nat), ns[i]? = some n → D[i]? = some t → n ≤ t) (xs : List Dyadic) : (k5 ns D xs).length = av D := by
 unfold k5 lr;rw [gE, oB hl h]
end Go.Proofs.YtaapkaefelhfcaaGreatDoor
/- The walk through the law LiftSame. -/
namespace Go.Proofs.YtaapkaefelhfcaaGreatDoor
open Go.RowKit
theorem wC {t : TR} {B : Nat} (h : ∀ c ∈ t.m.data.toList, c.toNat ≤ B) (i : Nat) : lb t.m i ≤ B := by
 unfold lb
 cases he : t.m.data.toList[i]? with
 | none => exact Int.natCast_nonneg B
 | some e => have := h e (List.mem_of_getElem? he); show ((e.toNat : Nat) : Int) ≤ B; omega
theorem Hd {v : Int} {ts : List TR} {B : Nat} (h : jl v ts = 0) (hb : ∀ t ∈ ts, ∀ c ∈ t.m.data.toList, c.toNat ≤ B) : ∀ d ∈ dO v ts, d ≤ B := fun d hd => by
 obtain ⟨i, hi⟩ := List.mem_iff_getElem?.1 hd;have h1 := ((k7 h).2.2 i d hi).2.2;have h2 := (Eb (l := ts) (i := i) (B := (B : Int)) (Int.natCast_nonneg B) fun t ht => wC (hb t ht) i).2;omega
theorem DP {v : Int} {ts : List TR} {C : Nat} (h : jl v ts = 0) (hC : C ≤ 4096) (hc : x7 (oF v ts) ≤ C) : av (dO v ts) ≤ C := by
 obtain ⟨o1, _, o3⟩ := k7 h;have hlow : ∀ d ∈ dO v ts, d ≤ 127 := fun d hd => by
  obtain ⟨i, hi⟩ := List.mem_iff_getElem?.1 hd;exact (o3 i d hi).1
 rw [o1] at hc;unfold x7 at hc;rw [if_neg (by rw [qM hlow]; decide)] at hc;have := vY (dO v ts) 1 (Nat.le_refl _) Kz;rw [Nat.one_mul] at this;rw [show ux 1 (bu (dO v ts)) = ux ((1 : Nat) : Int) (bu (dO v ts)) from rfl, this] at hc;omega
structure HU (p : PX) (b : List SR) (C s : Nat) : Prop where
 n : p.ts.length ≤ 8
 ok : jq 124 p.ts
 sz : ∀ t ∈ p.ts, t.m.size ≤ 20
 ex : ∀ t ∈ p.ts, ∀ c ∈ t.m.data.toList, c.toNat ≤ 4
 box : ∀ z ∈ b, z.fin 124
 I8 : p.e = 0 → av (dO p.v p.ts) ≤ C
 HY : C * C < 2 ^ (s + 1)
theorem HU.sum {p : PX} {b : List SR} {C s : Nat} (h : HU p b C s) (he : p.e = 0) : (dO p.v p.ts).sum ≤ s := Hv (fun d hd => by have := Hd he h.ex d hd; omega) (h.I8 he) h.HY
theorem HU.grow {p : PX} {b : List SR} {C s : Nat} (h : HU p b C s) (hs : s ≤ 14) (he : p.e = 0) : iU (124 + 124 + 16394) (dO p.v p.ts) (124 + 1) ≤ 440000 := by
 have h1 := h.sum he;have h2 := (k7 he).2.1;have h3 := (gI.1 (di he).1).2;rw [tE];have h4 : (dO p.v p.ts).sum * (124 + 124 + 16394) ≤ 14 * (124 + 124 + 16394) := Nat.mul_le_mul_right _ Ky;have h5 : (dO p.v p.ts).length * 8192 ≤ 12 * 8192 := Nat.mul_le_mul_right _ Ky;omega
theorem HU.small {p : PX} {b : List SR} {C s : Nat} {ns : List Nat} (h : HU p b C s) (hs : s ≤ 14) (hC : C ≤ 200) (hF : xh p b ns) (h0 : (gp p (cC b)).1 = 0) : (jq 40000 (gp p (cC b)).2 ∧ ∀ t ∈ (gp p (cC b)).2, ju ns.reverse (eZ t.m).reverse) ∧ ∀ x ∈ vw ns (gp p (cC b)).2, Sz 47000 x := by
 obtain ⟨h1, h2⟩ := BC hF h.ok h.box Kz (Nat.le_trans (h.I8 hF.e) hC) Kz (Nat.le_trans (h.sum hF.e) hs) Kz h0;have h3 := (tK hF h.ok h.box Kz (h.grow hs hF.e) h0).2;have h4 := h1.ok.mono (show 124 + 1 + (14 + 12) * (124 + 124 + 10 + 5 * 200) ≤ 40000 by decide);refine ⟨⟨h4, h3⟩, fun x hx => (Iy h3 h4 hF.low x hx).mono ?_⟩;have h5 := hF.nl;have h6 := hF.oL;omega
set_option maxRecDepth 10000 in
theorem qX (p : PX) (L : Option Addr) (n c : Nat) (b : List SR) (M : Option Addr) (m mc : Nat) (ds : List Int) (w : World) (hT : eP w) (hp : p.at_ w) (hpc : p.n ≤ p.c) (hB : Sl w L n 6 (aY SR.cells b)) (hD : Sl w M m 1 (bG ds)) (hmc : m ≤ mc) :
  Calls Tryz.prog 6 #[.agg #[.int .i64 p.v, .slice p.A p.n p.c], .slice L n c, .slice M m mc] w fun r w' => r = .returned (.bool true) ∧ Below w.heap.size w w' := by
 have hh := Hp.start w;have hbl : b.length = n := hB.bM SR.len Kz;have hdl : ds.length = m := by have := hD.1; rw [bT] at this; omega
 have hpl := hp.ln;have haw := fun w1 hT1 => uM w1 hT1;by_cases h1 : 8 < p.n
 ·refine al (N := 132) (l := [.agg #[.int .i64 p.v, .slice p.A p.n p.c], .slice L n c, .slice M m mc]) Tryz.func6 rfl rfl (by simp) ?_;refine sr ?_;refine db hh [_,_] ?_;intro b3 w3 hh;refine aB (aa (ah (sr (bP ?_))));refine bR hh 0 ?_;refine aW ?_;refine ct (mB ?_);refine gS (gS (gS ?_));refine e7 ?_;refine mB ?_;refine gS ?_;refine cn Kz rfl rfl Kz ?_;refine e7 ?_;refine mB ?_;refine gS (gS (gS ?_));refine e7 ?_;refine aa (cT (sr ?_));refine bE hh (haw _ (hT.hp hh)) rfl ?_;intro w35 hh;refine aB (aa (ao (aG ?_)));refine cq ?_;exact ⟨rfl, hh.below⟩
 ·by_cases h2 : 20 < n
  ·refine al (N := 132) (l := [.agg #[.int .i64 p.v, .slice p.A p.n p.c], .slice L n c, .slice M m mc]) Tryz.func6 rfl rfl (by simp) ?_;refine sr ?_;refine db hh [_,_] ?_;intro b3 w3 hh;refine aB (aa (ah (sr (bP ?_))));refine bR hh 0 ?_;refine aW ?_;refine ct (mB (gT (mL (gT (aW (gT ?_))))));refine ct ?_;refine eX ?_;refine mB ?_;refine gS ?_;refine cn Kz rfl rfl Kz ?_;refine e7 ?_;refine mB ?_;refine gS (gS (gS ?_));refine e7 ?_;refine aa (cT (sr ?_));refine bE hh (haw _ (hT.hp hh)) rfl ?_;intro w35 hh;refine aB (aa (ao (aG ?_)));refine cq ?_;exact ⟨rfl, hh.below⟩
  ·refine al (N := 132) (l := [.agg #[.int .i64 p.v, .slice p.A p.n p.c], .slice L n c, .slice M m mc]) Tryz.func6 rfl rfl (by simp) ?_;refine sr ?_;refine db hh [_,_] ?_;intro b3 w3 hh;refine aB (aa (ah (sr (bP ?_))));refine bR hh 0 ?_;refine aW ?_;refine ct (mB (gT (mL (gT (aW (gT ?_))))));refine ct ?_;refine eX ?_;refine mB (gT (mL ?_));refine aV rfl rfl ?_;refine aN (tZ M m mc ds _ (hD.ext hh.below)) aw.out rfl Kz ?_;rintro e_ w28 ⟨p1, rfl, hq, hb_⟩;refine ⟨_, rfl, ?_⟩;replace hh := hh.ext hb_
   cases p1 with
   | true =>
    refine eX ?_;refine mB ?_;refine gS (gS (gS ?_));refine e7 ?_;refine aa (cT (sr ?_));refine bE hh (haw _ (hT.hp hh)) rfl ?_;intro w35 hh;refine aB (aa (ao (aG ?_)));refine cq ?_;exact ⟨rfl, hh.below⟩
   | false =>
    have hq := hq rfl;by_cases h3 : m = 0
    ·subst h3;refine eX ?_;refine mB (gT (mL (gT (aW (gT ?_)))));refine dh ?_;refine eX ?_;refine aa (cT (sr ?_));refine bE hh (haw _ (hT.hp hh)) rfl ?_;intro w35 hh;refine aB (aa (ao (aG ?_)));refine cq ?_;exact ⟨rfl, hh.below⟩
    ·obtain ⟨pv, pA, pn, pc, ts⟩ := p;replace hp : Sl w pA pn 4 (aY TR.cells ts) := hp;replace hpl : ts.length = pn := hpl;replace hpc : pn ≤ pc := hpc;replace h1 : ¬ 8 < pn := h1;replace hh := show Hp w [.blk b3 24 [.int .i64 pv, .slice pA pn pc] (0, 0)] _ from hh;refine eX ?_;refine mB (gT (mL (gT (aW (gT ?_)))));refine dh ?_;refine eX ?_;refine aa (cF (ak (ai (ah (sr (aI (aa (aj ?_))))))));refine bm [6, 7, 8, 9, 36, 37, 38, 39, 40, 41, 42, 43, 44, 45, 46, 47, 48, 49, 50, 51, 52, 53, 54, 55, 56, 57, 58, 59, 60, 61, 62, 63, 64, 65, 66, 67, 68, 69, 70, 71, 72] 7
      (fun x w' => ∃ i : Nat, i ≤ pn ∧ x = .int .i64 i ∧ jq 124 (ts.take i) ∧ (∀ t ∈ ts.take i, t.m.size ≤ 20 ∧ ∀ c ∈ t.m.data.toList, c.toNat ≤ 4) ∧ Hp w [.blk b3 24 [.int .i64 pv, .slice pA pn pc] (0, 0)] w')
      (fun v _ => pn - (intOf v).toNat) ?_ ?_
     ·exact ⟨0, Nat.zero_le _, rfl, fun t ht => (nomatch ht), fun t ht => (nomatch ht), hh⟩
     ·clear hh;rintro ρ' x_ w' ⟨i, hi, rfl, hall, hsz, hh⟩;by_cases hlt : i < pn
      ·obtain ⟨x, hx⟩ := ay (l := ts) (k := i) Ky;obtain ⟨ad, rfl, hr⟩ := hp.at_ Ky;have hfa := fun w1 => m6 x.c w1;have hbm := eF x.m;refine ah (sr (mI (bP ?_)));refine bR hh 0 ?_;refine aW ?_;refine aK (aa (cT (ak (ai (ah (aj (sr (bP ?_))))))));refine bR hh 0 ?_;refine mI ?_;refine aD (k := i) aQ.out aF.size rfl rfl Ky Ky Kz ?_;refine dR eK.out rfl Kz ?_;refine aZ aF.out rfl (((hr.ext hh.below).recAt TR.len hx).cell (i := 0) rfl) Kz ?_;refine aS (aa (ah (sr (bP ?_))));refine bR hh 0 ?_;refine mI ?_;refine aD (k := i) aQ.out aF.size rfl rfl Ky Ky Kz ?_;refine dR eK.out rfl Kz ?_;refine bJ (vs := [_, _, _]) aF.out rfl (((hr.ext hh.below).recAt TR.len hx).drop 1) rfl Kz ?_;refine bE hh (hfa _) rfl ?_;intro w55 hh
       cases hf : ud x.c with
       | true =>
        refine mB ?_;refine gS (gS (gS ?_));refine e7 ?_;refine aa (cT (sr ?_));refine bE hh (haw _ (hT.hp hh)) rfl ?_;intro w61 hh;refine aB (aa (ao (aG (bD (aG (aG (bD (aG ?_))))))));refine cq ?_;exact ⟨rfl, hh.below⟩
       | false =>
        by_cases h5 : 20 < x.m.size
        ·refine mB (gT (mS (gT ?_)));refine bW aQ.out rfl Kz ?_;refine gT ?_;refine ct ?_;refine eX ?_;refine aa (cT (sr ?_));refine bE hh (haw _ (hT.hp hh)) rfl ?_;intro w61 hh;refine aB (aa (ao (aG (bD (aG (aG (bD (aG ?_))))))));refine cq ?_;exact ⟨rfl, hh.below⟩
        ·refine mB (gT (mS (gT ?_)));refine bW aQ.out rfl Kz ?_;refine gT ?_;refine ct ?_;refine eX ?_;refine aa (cF (ak (ai (sr (aI (aa (aj ?_)))))));refine bm [6, 9, 62, 63, 64, 65, 66, 67, 68, 69, 70, 71, 72] 9
          (fun y w' => ∃ q : Nat, q ≤ x.m.size ∧ y = .int .i64 q ∧ (∀ c ∈ x.m.data.toList.take q, c.toNat ≤ 4) ∧ Hp w [.blk b3 24 [.int .i64 pv, .slice (some ad) pn pc] (0, 0)] w')
          (fun v _ => x.m.size - (intOf v).toNat) ?_ ?_
         ·exact ⟨0, Nat.zero_le _, rfl, fun t ht => (nomatch ht), hh⟩
         ·clear hh;rintro ρ' y_ w' ⟨q, hq, rfl, hex, hh⟩;by_cases hlq : q < x.m.size
          ·obtain ⟨e, he⟩ := ay (l := x.m.data.toList) (k := q) Ky;have he8 : e.toNat < 256 := e.toNat_lt;by_cases h6 : 4 < e.toNat
           ·refine ah (sr (mI (mS ?_)));refine bW aQ.out rfl Kz ?_;refine aK (aa (cT (ak (ai (ah (aj (sr (mS (mI ?_)))))))));refine bY aQ.out rfl rfl Ky (by assumption) Kz ?_;refine ct (aa (cT (sr ?_)));refine bE hh (haw _ (hT.hp hh)) rfl ?_;intro w72 hh;refine aB (aa (ao (bD (aG (aG (bD (bD (aG (aG (bD (aG ?_)))))))))));refine cq ?_;exact ⟨rfl, hh.below⟩
           ·refine ah (sr (mI (mS ?_)));refine bW aQ.out rfl Kz ?_;refine aK (aa (cT (ak (ai (ah (aj (sr (mS (mI ?_)))))))));refine bY aQ.out rfl rfl Ky (by assumption) Kz ?_;refine ct (aa (cF (ak (aP (ai (aq (mI ?_)))))));refine bB (aI (aE (ai ?_)));refine ⟨⟨q + 1, Ky, rfl, fun t ht => ?_, hh⟩, by show x.m.size - (q + 1) < x.m.size - q; omega, ?_⟩
            ·rw [aH he] at ht
             rcases List.mem_append.1 ht with ht | ht
             ·exact hex t ht
             ·rw [List.mem_singleton.1 ht]; omega
            ·exact KB
          ·rw [List.take_of_length_le Ky] at hex;refine ah (sr (mI (mS ?_)));refine bW aQ.out rfl Kz ?_;refine aK (aa (cF (aJ (az (az (aX (aP (ai (aq (mI ?_))))))))));refine bB (aI (aE (ai ?_)));refine ⟨⟨i + 1, Ky, rfl, fun t ht => ?_, fun t ht => ?_, hh⟩, by show pn - (i + 1) < pn - i; omega, ?_⟩
           ·rw [aH hx] at ht
            rcases List.mem_append.1 ht with ht | ht
            ·exact hall t ht
            ·rw [List.mem_singleton.1 ht]; exact Hy hf
           ·rw [aH hx] at ht
            rcases List.mem_append.1 ht with ht | ht
            ·exact hsz t ht
            ·rw [List.mem_singleton.1 ht]; exact ⟨Ky, hex⟩
           ·exact KB
      ·rw [List.take_of_length_le Ky] at hall hsz;refine ah (sr (mI (bP ?_)));refine bR hh 0 ?_;refine aW ?_;refine aK (aa (cF (aJ (az (az (aX (ai (ah (sr (aI (aa (aj ?_))))))))))));refine bm [6, 10, 73, 74, 75, 76, 77, 78, 79, 80, 81, 82, 83, 84, 85, 86, 87, 88, 89, 90, 91, 92, 93] 10
        (fun x w' => ∃ i : Nat, i ≤ n ∧ x = .int .i64 i ∧ (∀ z ∈ b.take i, z.fin 124) ∧ Hp w [.blk b3 24 [.int .i64 pv, .slice pA pn pc] (0, 0)] w')
        (fun v _ => n - (intOf v).toNat) ?_ ?_
       ·exact ⟨0, Nat.zero_le _, rfl, fun t ht => (nomatch ht), hh⟩
       ·clear hh;rintro ρ' x_ w' ⟨j, hj, rfl, hbx, hh⟩;by_cases hlt2 : j < n
        ·obtain ⟨s, hs⟩ := ay (l := b) (k := j) Ky;obtain ⟨ad, rfl, hr⟩ := hB.at_ Ky;have hf1 := fun w1 => m6 s.lo w1;have hf2 := fun w1 => m6 s.hi w1;refine ah (sr (mI (mL (aW ?_))));refine aK (aa (cT (ak (ai (ah (aj (sr (mL (mI ?_)))))))));refine aD (k := j) aQ.out aF.size rfl rfl Ky Ky Kz ?_;refine dR eK.out rfl Kz ?_;refine bJ (vs := [_, _, _]) aF.out rfl (((((hr.ext hh.below).recAt SR.len hs).drop 0).take 3)) rfl Kz ?_
         cases hg1 : ud s.lo with
         | true =>
          rw [hg1] at hf1;refine bE hh (hf1 _) rfl ?_;intro w84 hh;refine mB ?_;refine gS (gS (gS (gS ?_)));refine cn Kz rfl rfl Kz ?_;refine cn Kz rfl rfl Kz ?_;refine e7 ?_;refine aa (cT (sr ?_));refine bE hh (haw _ (hT.hp hh)) rfl ?_;intro w93 hh;refine aB (aa (ao (bD (aG (aG (bD (aG ?_)))))));refine cq ?_;exact ⟨rfl, hh.below⟩
         | false =>
          rw [hg1] at hf1;refine bE hh (hf1 _) rfl ?_;intro w84 hh;refine mB (gT (mL (gT (mI (gT ?_)))));refine aD (k := j) aQ.out aF.size rfl rfl Ky Ky Kz ?_;refine gT ?_;refine dR eK.out rfl Kz ?_;refine aV rfl rfl ?_;refine bJ (vs := [_, _, _]) aF.out rfl (((((hr.ext hh.below).recAt SR.len hs).drop 3).take 3)) rfl Kz ?_
          cases hg2 : ud s.hi with
          | true =>
           rw [hg2] at hf2;refine aV rfl rfl ?_;refine bE hh (hf2 _) rfl ?_;intro w91 hh;refine eX ?_;refine aa (cT (sr ?_));refine bE hh (haw _ (hT.hp hh)) rfl ?_;intro w93 hh;refine aB (aa (ao (bD (aG (aG (bD (aG ?_)))))));refine cq ?_;exact ⟨rfl, hh.below⟩
          | false =>
           rw [hg2] at hf2;refine aV rfl rfl ?_;refine bE hh (hf2 _) rfl ?_;intro w91 hh;refine eX ?_;refine aa (cF (ak (aP (ai (aq (mI ?_))))));refine bB (aI (aE (ai ?_)));refine ⟨⟨j + 1, Ky, rfl, fun t ht => ?_, hh⟩, by show n - (j + 1) < n - j; omega, ?_⟩
           ·rw [aH hs] at ht
            rcases List.mem_append.1 ht with ht | ht
            ·exact hbx t ht
            ·rw [List.mem_singleton.1 ht];obtain ⟨a1, a2⟩ := Hy hg1;obtain ⟨a3, a4⟩ := Hy hg2;exact ⟨⟨a1, a2⟩, ⟨a3, a4⟩⟩
           ·exact KB
        ·rw [List.take_of_length_le Ky] at hbx;have hlm : PX.iu ⟨pv, pA, pn, pc, ts⟩ 124 := ⟨by show pn ≤ 1000000; omega, hpc, hall, fun t ht => Nat.le_trans (hsz t ht).1 Kz⟩;have hdg := fun w1 hT1 hb => lj ⟨pv, pA, pn, pc, ts⟩ 124 w1 hT1 (PX.at_.ext (g := ⟨pv, pA, pn, pc, ts⟩) hp hb) hlm;refine ah (sr (mI (mL (aW ?_))));refine aK (aa (cF (aJ (az (az (aX (ai (ah (sr ?_)))))))));refine cR hh 0 [_,_] ?_;refine aN (hdg _ (hT.hp hh) hh.below) aw.out rfl Kz ?_;rintro e_ w95 ⟨G, gc, rfl, h4⟩;refine ⟨_, rfl, ?_⟩;replace hh := hh.join h4;clear h4;simp only [List.cons_append, List.nil_append] at hh;have hgl : (oF pv ts).length ≤ 1000000 := by
          unfold oF;split
          ·rename_i hpe;have := gI.1 (di hpe).1;rw [e6];omega
          ·exact Nat.zero_le _
         have hct := fun w1 hd => mK G (oF pv ts).length gc (oF pv ts) w1 hd hgl;by_cases h60 : 60 < x7 (oF pv ts)
         ·refine bE hh (hct _ (hh.aM (i := 0) rfl)) rfl ?_;intro w96 hh;refine ct (aa (cT (sr ?_)));refine bE hh (haw _ (hT.hp hh)) rfl ?_;intro w98 hh;refine aB (aa (ao (aG ?_)));refine cq ?_;exact ⟨rfl, hh.below⟩
         ·have hsm : HU ⟨pv, pA, pn, pc, ts⟩ b 60 11 := ⟨by show ts.length ≤ 8; omega, hall, fun t ht => (hsz t ht).1, fun t ht => (hsz t ht).2, hbx, fun he => DP he Kz (show x7 (oF pv ts) ≤ ((60 : Nat) : Int) by omega), Kz⟩;have hof1 := fun w1 hT1 hb => tD ⟨pv, pA, pn, pc, ts⟩ L n c b none 0 0 [] 124 w1 hT1 (PX.at_.ext (g := ⟨pv, pA, pn, pc, ts⟩) hp hb) hlm (hB.ext hb) hbx Ky (Sl.nil _ _ _) Kz (Nat.le_refl _) Kz (hsm.grow Kz);have hof2 := fun w1 hT1 hb => tD ⟨pv, pA, pn, pc, ts⟩ L n c b M m mc ds 124 w1 hT1 (PX.at_.ext (g := ⟨pv, pA, pn, pc, ts⟩) hp hb) hlm (hB.ext hb) hbx Ky (hD.ext hb) Ky hmc Kz (hsm.grow Kz);have hN2 : Ib ⟨pv, pA, pn, pc, ts⟩ ds = ds.map Int.toNat := by unfold Ib mP; rw [if_neg Ky]
          rw [hN2] at hof2;have hEF : mn ⟨pv, pA, pn, pc, ts⟩ b [] = 0 → mn ⟨pv, pA, pn, pc, ts⟩ b ds = p7 (bu (dO pv ts)) ds := Co Ky;have hE0 : mn ⟨pv, pA, pn, pc, ts⟩ b [] = 0 → xh ⟨pv, pA, pn, pc, ts⟩ b (dO pv ts) ∧ (gp ⟨pv, pA, pn, pc, ts⟩ (cC b)).1 = 0 := fun h => by
           obtain ⟨a1, a2⟩ := pf h;exact ⟨(u4 a1).2, a2⟩
          have hF0 : mn ⟨pv, pA, pn, pc, ts⟩ b ds = 0 → xh ⟨pv, pA, pn, pc, ts⟩ b (ds.map Int.toNat) := fun h => by
           have := (u4 (pf h).1).2;rwa [show mP ⟨pv, pA, pn, pc, ts⟩ ds = ds from if_neg Ky] at this
          have hsl := fun ns hF h0 => hsm.small (ns := ns) Kz Kz hF h0;replace hof1 : ∀ w1, eP w1 → Below w.heap.size w w1 → Calls Tryz.prog 37 #[.agg #[.int .i64 pv, .slice pA pn pc], .slice L n c, .slice none 0 0] w1 fun r w' => ∃ g : FX, Out (mn ⟨pv, pA, pn, pc, ts⟩ b []) (dO pv ts) (vw (dO pv ts) (gp ⟨pv, pA, pn, pc, ts⟩ (cC b)).2) g ∧ r = .returned (.tuple #[.agg #[.slice g.A g.n g.a, .slice g.B g.m g.b], .int .i64 (mn ⟨pv, pA, pn, pc, ts⟩ b [])]) ∧ Hp w1 [g.jn, g.jc] w' := hof1;generalize mn ⟨pv, pA, pn, pc, ts⟩ b [] = E at *;generalize mn ⟨pv, pA, pn, pc, ts⟩ b ds = F at *;generalize (gp ⟨pv, pA, pn, pc, ts⟩ (cC b)).1 = Z at *;generalize (gp ⟨pv, pA, pn, pc, ts⟩ (cC b)).2 = S at *;refine bE hh (hct _ (hh.aM (i := 0) rfl)) rfl ?_;intro w96 hh;replace hh := hh.sub (List.Sublist.cons _ (List.Sublist.cons_cons _ List.Sublist.slnil));refine ct (aa (cF (ak (ai (sr ?_)))));refine cR hh 0 [_,_] (mL ?_);refine aN (hof1 _ (hT.hp hh) hh.below) aw.out rfl Kz ?_;rintro e_ w102 ⟨f0, o1, rfl, h4⟩;refine ⟨_, rfl, ?_⟩;replace hh := hh.join h4;clear h4;simp only [List.cons_append, List.nil_append] at hh
          replace hh := show Hp w (.row f0.B f0.m f0.b 29 3 (aY NR.cells f0.cs) :: .row f0.A f0.n f0.a 3 1 (bG f0.ds) :: _) _ from hh;refine mT ?_;refine dI ?_;refine dI ?_;refine cB hh ?_;intro b11 w11 hh;refine bK hh 0 [_,_] ?_;intro ws hh;replace hh : Hp _ (.blk _ _ [_, _] _ :: _) _ := hh;refine aI (aa (sr ?_));refine cR hh 3 [_,_] (mL (mL ?_));refine aN (hof2 _ (hT.hp hh) hh.below) aw.out rfl Kz ?_;rintro e_ w109 ⟨g0, o2, rfl, h4⟩;refine ⟨_, rfl, ?_⟩;replace hh := hh.join h4;clear h4;simp only [List.cons_append, List.nil_append] at hh;replace hh := show Hp w (.row g0.B g0.m g0.b 29 3 (aY NR.cells g0.cs) :: .row g0.A g0.n g0.a 3 1 (bG g0.ds) :: _) _ from hh;refine mT ?_;refine dI ?_;refine dI ?_;refine cB hh ?_;intro b13 w13 hh;refine bK hh 0 [_,_] ?_;intro ws hh;replace hh : Hp _ (.blk _ _ [_, _] _ :: _) _ := hh;refine aI (aa ?_);by_cases hE : E = 0
          ·subst hE;obtain ⟨hF1, hZ⟩ := hE0 rfl;have hF := hEF rfl;obtain ⟨⟨s1, s2⟩, s3⟩ := hsl _ hF1 hZ;have ho1 := o1.fe (by rw [hF1.nl]; exact hF1.oL) hF1.low (p6 _ _) hF1.most;obtain ⟨e1, e2, e3⟩ := ho1;have c60 := hsm.I8 hF1.e;replace c60 : av (dO pv ts) ≤ 60 := c60;have hnm : f0.m = av (dO pv ts) := by
            have := (hh.aM (i := 4) rfl).bM NR.len Kz;rw [e3, List.length_map, p6] at this;exact this.symm
           have hfl : f0.iu 47000 := ⟨by
             have h8 := (hh.aM (i := 5) rfl).1;rw [bT, e2, cU, hF1.nl] at h8;have := hF1.oL;omega, Ky, fun z hz => by
             rw [e3] at hz;obtain ⟨y, hy, rfl⟩ := List.mem_map.1 hz;rw [dK];exact ⟨(s3 y hy).ok Kz, s3 y hy⟩⟩
           have hra := fun w1 hT1 hf hE1 => si f0 M m mc ds 47000 w1 hT1 hf hfl Ky hE1 Ky Kz;have hre : mN f0 ds = F := by unfold mN; rw [if_neg (fun c => c e1), e2]; exact hF.symm
           rw [hre] at hra;refine ah (sr (mI ?_));refine cL (aa (cF (ak (ai (sr ?_)))));refine cR hh 3 [_,_] (mL ?_);refine aN (hra _ (hT.hp hh) ⟨hh.aM (i := 5) rfl, hh.aM (i := 4) rfl⟩ (hD.ext hh.below)) aw.out rfl Kz ?_;rintro e_ w118 ⟨r0, o3, rfl, h4⟩;refine ⟨_, rfl, ?_⟩;replace hh := hh.join h4;clear h4;simp only [List.cons_append, List.nil_append] at hh;replace hh := show Hp w (.row r0.B r0.m r0.b 29 3 (aY NR.cells r0.cs) :: .row r0.A r0.n r0.a 3 1 (bG r0.ds) :: _) _ from hh;have hsame : g0.ds = r0.ds ∧ g0.cs = r0.cs := by
            by_cases hF0' : F = 0
            ·have hF2 := hF0 hF0';have s4 := (hsl _ hF2 hZ).1.2;have hlen : (dO pv ts).length = (ds.map Int.toNat).length := by rw [hF1.nl, hF2.nl]
             have hle : ∀ (i n t : Nat), (dO pv ts)[i]? = some n → (ds.map Int.toNat)[i]? = some t → n ≤ t := by
              have hz : p7 (bu (dO pv ts)) ds = 0 := by rw [← hF]; exact hF0'
              unfold p7 at hz;by_cases hl : ds.length ≠ (bu (dO pv ts)).length
              ·rw [if_pos hl] at hz; exact absurd hz Kz
              ·rw [if_neg hl] at hz;by_cases hb2 : ((bu (dO pv ts)).zip ds).any lN = true
               ·rw [if_pos hb2] at hz; exact absurd hz Kz
               ·obtain ⟨qs, h7, _, h8, _⟩ := u9 (Classical.not_not.1 hl) ((Bool.not_eq_true _).mp hb2);rw [h7, mY];exact h8
             have hup : kE (ds.map Int.toNat) f0 = vw (ds.map Int.toNat) S := by
              unfold kE;rw [show f0.ns = dO pv ts by unfold FX.ns; rw [e2, mY], e3, List.map_map, show (vw (dO pv ts) S).map (NR.d ∘ nR) = vw (dO pv ts) S by
               refine (List.map_congr_left fun x _ => ?_).trans (List.map_id' _);exact dK x]
              exact yW hlen hle s2 s4 (zg hlen hle _)
             rw [hup] at o3;exact o2.same o3
            ·exact ⟨by rw [o2.ds, o3.ds], by rw [o2.cs, o3.cs]; unfold F4; rw [if_neg hF0', if_neg hF0']⟩
           have gn := o2.n;have gm := o2.m;clear o1 o2 o3 hsl hof1 hof2 hE0 hF0 hEF hra;refine mT ?_;refine dI ?_;refine dI ?_;refine cB hh ?_;intro b15 w15 hh;refine bK hh 0 [_,_] ?_;intro ws hh;replace hh : Hp _ (.blk _ _ [_, _] _ :: _) _ := hh;refine aI (aa (sr (mI (mI ?_))));refine dh (mB (gT ?_));refine cR hh 3 [_,_] (gT ?_);refine cR hh 0 [_,_] ?_;refine aV rfl rfl ?_;refine bE hh (pj g0 r0 _ ⟨hh.aM (i := 5) rfl, hh.aM (i := 4) rfl⟩ ⟨hh.aM (i := 2) rfl, hh.aM (i := 1) rfl⟩ hsame gn gm) rfl ?_;intro w127 hh;refine e7 ?_;refine mB ?_;refine aV rfl rfl ?_;refine bE hh (haw _ (hT.hp hh)) rfl ?_;intro w130 hh;refine e7 ?_;refine aB (aa (ao ?_));refine cq ?_;exact ⟨rfl, hh.below⟩
          ·refine ah (sr (mI ?_));refine cL (aa (cT (sr ?_)));refine bE hh (haw _ (hT.hp hh)) rfl ?_;intro w114 hh;refine aB (aa (ao (aG ?_)));refine cq ?_;exact ⟨rfl, hh.below⟩
end Go.Proofs.YtaapkaefelhfcaaGreatDoor
/- The row and the card of LiftSame. -/
namespace Go.Proofs.YtaapkaefelhfcaaGreatDoor.liftSame
open Go.ChangeShapes Go.WideShapes Go.ChangeAt Go.RowKit Go.ChangeMaps
theorem own : ownKnob Tryz.prog.godebug = none := by kernel_rfl
set_option maxRecDepth 100000 in
theorem lifted (os : Os) (started : os.Started) (H : Type) (enc : TypeId × Value → H) :
  ReturnsInHanded {} Tryz.checked os 6 .any (fun w args => (Rows.liftSameSpec.pre enc Tryz.prog Tryz.f6 Rows.liftSameRow.domain false w args ∧ laidMetH Tryz.prog Rows.liftSameRow.laid w) ∧ sizedMet enc Tryz.prog Tryz.f6 (OpenSpec.ofChange Rows.liftSameSpec) false w args)
   (Rows.liftSameSpec.post enc Tryz.prog Tryz.f6 false true false false) := by
 refine returnsInHanded_of_change_and (C := Tryz.checked) (X := fun w _ => laidMetH Tryz.prog Rows.liftSameRow.laid w) (fun _ _ _ hh h => h.of_heap hh) own started KA Tryz.func6
  (ChangeSpec.witness_shaped (enc := enc) (C := Tryz.checked) (os := os) (X := fun w _ => laidMetH Tryz.prog Rows.liftSameRow.laid w) false (World.laidAll Tryz.prog os Rows.liftSameRow.laid) #[.agg #[.int .i64 0, .slice none 0 0], .slice none 0 0, .slice none 0 0] 8 (World.laidAll_os _ _ _)
   (World.shaped_of_ZipB KA KA) KA KA KA
   (by rw [MakeChecks.laidMetH_plain _ _ _ KA]; exact laidMet_laidAll _ KA KA)) ?_
 intro W base args ds gs before hval0 hW hc _ hL _;have hval : ∀ (j : Nat) t v, Tryz.f6.params[j]? = some t → args[j]? = some v → Value.okWide Tryz.prog W .any base t v := hval0;have hW' := hW;obtain ⟨p, q, hA0, hV, rfl, hfz, hnd⟩ := hW;have hA : DataW.TrodAll enc Tryz.prog W 0 (fun _ => true) true Tryz.f6.params.toList args.toList ds p := hA0;rw [Tryz.params6] at hA hval;obtain ⟨v0, vs0, d0, ds0, p0, q0, hargs, rfl, rfl, h0, r0⟩ := trodAll_cons hA;obtain ⟨v1, vs1, d1, ds1, p1, q1, rfl, rfl, rfl, h1, r1⟩ := trodAll_cons r0;obtain ⟨v2, vs2, d2, ds2, p2, q2, rfl, rfl, rfl, h2, r2⟩ := trodAll_cons r1;obtain ⟨rfl, rfl, rfl⟩ := trodAll_nil r2;obtain rfl : args = #[v0, v1, v2] := by cases args; simp_all
 obtain ⟨rfl, rfl⟩ := trodVars_none hV;obtain ⟨f0, rfl, hS0, hR0⟩ := Ce (hval 0 24 v0 rfl rfl) h0;obtain ⟨A1, n1, c1, l1, rfl, hS1, _⟩ := D4 (hval 1 51 v1 rfl rfl) h1;obtain ⟨A2, n2, c2, l2, rfl, hS2, hR2⟩ := yF (hval 2 52 v2 rfl rfl) h2;refine (qX f0 A1 n1 c1 l1 A2 n2 c2 l2 W (xr hL) hS0 hR0 hS1 hS2 hR2).mono fun e W' ⟨he, hb⟩ => ?_;subst he;exact ⟨_, rfl, Dr hW' rfl KA (by rw [Tryz.params6]; exact of_decide_eq_true KA) KA Tryz.underlying4 rfl rfl rfl hb⟩
set_option maxHeartbeats 8000000 in
theorem row_holds : Rows.LiftSameSaid :=
 OpenClaim.holds_of_wide 6 Tryz.f6 rfl rfl rfl rfl rfl rfl rfl ⟨rfl, rfl, rfl, rfl, rfl⟩ rfl rfl rfl rfl rfl (by as_aux_lemma => kernel_rfl) Tryz.func6 (by rw [joinedFacts]; simp only [Bool.and_eq_true]; and_intros <;> as_aux_lemma => kernel_rfl)
  (of_decide_eq_true (by as_aux_lemma => kernel_rfl)) (by unfold Func.isWrapper; first | (rw [if_pos (by decide +kernel)]; kernel_rfl) | (rw [if_neg (by decide +kernel)]; exact ⟨rfl, rfl⟩))
  (fun os started H enc _ => lifted os started H enc)
set_option maxHeartbeats 8000000 in
theorem holds : Rows.LiftSameCardSaid :=
 Claim7.holds_tied_plain_at .later [] [.data, .data, .pinned] true (true, "2e058731d083964e00da79f56b5eaec75083ca1c857dbc4a5b6262d178933a13") false row_holds (fun _ h => by cases h) (by as_aux_lemma => kernel_rfl) (fun _ h => by cases h) liftSame_row_tie rfl ⟨rfl, rfl⟩ (by as_aux_lemma => kernel_rfl) rfl
  (fun f fn hf hfn => by
   obtain rfl : f = 6 := Option.some.inj ((show Tryz.prog.funcNamed "ogee/ogeelaw14.LiftSame" = some 6 by as_aux_lemma => kernel_rfl).symm.trans hf) |>.symm;obtain rfl : fn = Tryz.f6 := (Option.some.inj (Tryz.func6.symm.trans hfn)).symm;exact ⟨by as_aux_lemma => kernel_rfl, fun j t ht => by
    rw [Tryz.params6] at ht;have hm : t ∈ [24, 51, 52] := by simpa using Array.mem_of_getElem? ht
    have hall : ([24, 51, 52].all fun u => !Tryz.prog.wantsStandIn u) = true := by as_aux_lemma => kernel_rfl
    exact (show Tryz.prog.wantsStandIn t = false by simpa using List.all_eq_true.1 hall t hm)⟩)
  (by as_aux_lemma => kernel_rfl)
#print axioms holds
end Go.Proofs.YtaapkaefelhfcaaGreatDoor.liftSame
