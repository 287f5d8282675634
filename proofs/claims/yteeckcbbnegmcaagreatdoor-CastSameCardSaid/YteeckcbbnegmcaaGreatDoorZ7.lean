/- The row and the card of CastSame. -/
import Derived.OrdersIn
import Derived.Test.YteeckcbbnegmcaaGreatDoorCards
import Derived.Test.YteeckcbbnegmcaaGreatDoorTie
import Derived.SevenTiedAt
import Derived.Test.YteeckcbbnegmcaaGreatDoorZ6
namespace Go.Proofs.YteeckcbbnegmcaaGreatDoor
open Go.RowKit
section
variable {P : Program} {N : Nat} {Q : Kd} {ρ : Rf} {w : World}
end
structure Marks (w0 : World) (M : List Nat) (w : World) : Prop where
 at_ : ∀ D ∈ M, w0.heap.size ≤ D ∧ w.heap[D]? = some (.deferred (some []))
 nd : M.Nodup
def RK (d : Nat) (t : Dyadic) (xs : List Dyadic) (i : Nat) : Dyadic := sm (List.range i) fun r => dV xs r * fS d r t
def Qm (K q : Nat) (X : List Dyadic) : List Dyadic := (X.drop (q * K)).take K
def RJ (fx : FX) (m : Nat) : Int := if fx.e ≠ 0 then fx.e else if m ≠ fx.n then 1 else 0
def Sc (fx : FX) (tn : List NR) : Dyadic := if RJ fx tn.length = 0 then jm fx.ns.reverse (fx.cs.map NR.d) (tn.map NR.d).reverse else 0
section
variable {P : Program} {N : Nat} {Q : Kq} {ρ : Rf} {w : World} {ro : Option Nat} {D : List Deferred}
structure WR (ro : Option Nat) (D : List Deferred) (P : Program) (N : Nat) (ops : Array Oper) (Q : Kq) (fuel : Nat) (L : Array Bool) (ρ : Rf) (w : World) : Prop where
 out : ∀ a, eG N D a ρ → ∀ n, wpAnyIn (FW ro) n P .any ops (fp N D Q) fuel L a w
end
instance : aP Tryz.prog 148 1 false 8 [.nilFunc] := {}
variable {b : List SR} {ys : List Dyadic}
theorem Ej {p : PX} {ds : List Int} (h : pe p b ds = 0) : m7 p b (o9 p ds) = 0 ∧ (df p (bj b)).1 = 0 := by
 unfold pe at h;by_cases h0 : m7 p b (o9 p ds) ≠ 0
 ·rw [Sj h0] at h; exact absurd h h0
 ·rw [Si h0] at h; exact ⟨Uy.1 h0, h⟩
theorem nI (ns : List Nat) : (bL ns).map Int.toNat = ns := uT ns
theorem Out.fe {D : List Nat} {g : FX} (o : Out 0 D ys g) (h12 : D.length ≤ 12) (hlow : ∀ d ∈ D, d ≤ 127) (hy : ys.length = ar D) (hm : ar D ≤ 4096) : g.e = 0 ∧ g.ds = bL D ∧ g.cs = ys.map nR := by
 have e1 : g.ds = bL D := o.ds;have e2 : g.cs = ys.map nR := o.cs;refine ⟨?_, e1, e2⟩;unfold FX.e;rw [e1, e2];exact (FV.mk rfl rfl h12 hlow hy hm : FV (bL D) (ys.map nR) D ys).ok
def RT (a : NR) : Bool := decide ((8 : Int) < a.bf.size ∨ a.e < -60 ∨ 60 < a.e)
structure Sb (ts : List TR) : Prop where
 n : ts.length ≤ 10
 ok : iA 124 ts
 sz : ∀ t ∈ ts, t.m.size ≤ 20
 ex : ∀ t ∈ ts, ∀ c ∈ t.m.data.toList, c.toNat ≤ 6
structure C8 (v : Int) (k n D : Nat) (ts : List TR) : Prop where
 e : fh v ts = 0
 ok : iA k ts
 sz : ∀ t ∈ ts, t.m.size ≤ 100000
 len : ts.length ≤ n
 ex : ∀ t ∈ ts, ∀ c ∈ t.m.data.toList, c.toNat ≤ D
variable {C k : Nat} {ts : List TR} {w : World}
theorem qh {v : Int} {ns : List Nat} (h : fh v ts = 0) (hl : (cZ v ts).length = ns.length) (hx : ∀ (i d : Nat), ns[i]? = some d → ∀ t ∈ ts, fD i t ≤ d) : ∀ (i x y : Nat), (cZ v ts)[i]? = some x → ns[i]? = some y → x ≤ y := fun i x y h1 h2 => by
 have h3 := ((jl h).2.2 i x h1).2.2;have h4 := (B8 (l := ts) (i := i) (B := (y : Int)) (Int.natCast_nonneg y) fun t ht => by rw [← yj]; have := hx i y h2 t ht; omega).2;omega
theorem Na {s : PX} {ns : List Nat} (he : s.e = 0) (hbx : kM b = 0) (hv : s.v = b.length) (hnl : ns.length = b.length) (hlow : ∀ d ∈ ns, d ≤ 127) (hm : ar ns ≤ 4096) (hx : ∀ (i d : Nat), ns[i]? = some d → ∀ t ∈ s.ts, fD i t ≤ d) : m7 s b (bL ns) = 0 := by
 obtain ⟨o1, o2, o3⟩ := jl he;have h8 := iY ns 1 (So _) Se hlow;rw [T6, Sj hm] at h8;replace h8 : gi 1 (bL ns) = ((ar ns : Nat) : Int) := h8;have hp := dm ns;have hsh : tm (qi s.v s.ts) (bL ns) = false := by
  unfold tm;rw [TA];intro q hq;obtain ⟨i, hi⟩ := TV.1 hq;obtain ⟨h1, h2⟩ := List.getElem?_zip_eq_some.1 hi;rw [o1] at h1;unfold bL at h1 h2;rw [St] at h1 h2;obtain ⟨x, hx1, e1⟩ := TH.1 h1;obtain ⟨y, hy1, e2⟩ := TH.1 h2;have h3 := qh he Sd hx i x y hx1 hy1;have h4 := hlow y (Sp hy1);rw [SJ, ← e1, ← e2];omega
 unfold m7;rw [Si (fun c => c he), Si (fun c => c hbx), Si (by rw [ig]; omega), hsh, Si Se, h8, Si Sd]
theorem Mw {s : PX} {ns : List Nat} (he : s.e = 0) (hbx : kM b = 0) (hpos : 0 < b.length) (hv : s.v = b.length) (hnl : ns.length = b.length) (hlow : ∀ d ∈ ns, d ≤ 127) (hm : ar ns ≤ 1000) (hx : ∀ (i d : Nat), ns[i]? = some d → ∀ t ∈ s.ts, fD i t ≤ d) (hb : ∀ z ∈ b, z.fin k) (hk : k ≤ 1000) :
  pe s b (bL ns) = 0 ∧ m8 s b ns ∧ (df s (bj b)).1 = 0 := by
 have h1 := Na he hbx hv hnl hlow Sd hx;have hF := (wD h1).2;rw [nI] at hF;have h2 := GO (N := 1000) hF hb hk (SK (qf (by rw [hF.j4, hnl]) (qh he (by rw [hF.j4, hnl]) hx)) hm) Se;have hD : o9 s (bL ns) = bL ns := Si (by rw [ig]; omega);refine ⟨?_, hF, h2⟩;unfold pe;rw [hD, Si (fun c => c h1), h2]
theorem xo {s : PX} {ns : List Nat} (h : ns.length ≠ 0) : NX s (bL ns) = ns := by
 unfold NX o9;rw [Si (by rw [ig]; exact h), nI]
theorem uW {v : Int} (h : fh v ts = 0) (hex : ∀ t ∈ ts, ∀ c ∈ t.m.data.toList, c.toNat ≤ 4) (hc : ar (cZ v ts) ≤ 100) (hk : k ≤ 1000) : fU (k + k + 16394) (cZ v ts) (k + 1) ≤ 440000 := by
 have h1 : (cZ v ts).sum ≤ 13 := FK (fun d hd => by have := AL h hex d hd; omega) hc Se;have h2 := (jl h).2.1;have h3 := (gu.1 (cm h).1).2;rw [pT];have h4 : (cZ v ts).sum * (k + k + 16394) ≤ 13 * (1000 + 1000 + 16394) := Tw h1 Sd;have h5 : (cZ v ts).length * 8192 ≤ 12 * 8192 := S9 _ Sd;omega
theorem MG {p : PX} {ns : List Nat} {ts : List Dyadic} (hF : m8 p b ns) (h0 : (df p (bj b)).1 = 0) (h3 : ∀ t ∈ (df p (bj b)).2, lN ns.reverse (cP t.m).reverse) (ht : ts.length = ns.length) : jm ns.reverse (rh ns (df p (bj b)).2) ts = mb (IL b ts.reverse) p.ts := by
 rw [L5 h3 ht, I4 h0 (by rw [SZ, ht, hF.nl])]
structure Ei (p : PX) : Prop where
 n : p.ts.length ≤ 8
 ok : iA 124 p.ts
 ex : ∀ t ∈ p.ts, t.m.size ≤ 20 ∧ ∀ c ∈ t.m.data.toList, c.toNat ≤ 4
theorem Ei.OX {p : PX} (h : Ei p) (he : p.e = 0) : C8 p.v 124 8 4 p.ts := ⟨he, h.ok, fun t ht => SK (h.ex t ht).1 Se, h.n, fun t ht => (h.ex t ht).2⟩
theorem Ei.kq {p : PX} (h : Ei p) (hp : p.at_ w) (hc : p.n ≤ p.c) : p.kq 124 := ⟨by have := hp.ln; have := h.n; omega, hc, h.ok, fun t ht => SK (h.ex t ht).1 Se⟩
theorem m8.J8 {p : PX} {ns : List Nat} (h : m8 p b ns) (hc : ar ns ≤ C) : ar (cZ p.v p.ts) ≤ C :=
 SK (qf (by rw [h.j4, h.nl]) (qh h.e (by rw [h.j4, h.nl]) h.own)) hc
structure FN (p : PX) (b : List SR) (ns : List Nat) : Prop where
 vl : ∀ ts : List Dyadic, ts.length = ns.length → jm ns.reverse (rh ns (df p (bj b)).2) ts = mb (IL b ts.reverse) p.ts
 sz : ∀ x ∈ rh ns (df p (bj b)).2, Sz 460000 x
theorem Dk {p : PX} {ns : List Nat} (hF : m8 p b ns) (h0 : (df p (bj b)).1 = 0) (ho : iA k p.ts) (hb : ∀ s ∈ b, s.fin k) (hk : k ≤ 1000) (hgr : fU (k + k + 16394) (cZ p.v p.ts) (k + 1) ≤ 440000) : FN p b ns := by
 obtain ⟨h1, h2⟩ := pV hF ho hb hk hgr h0;refine ⟨fun ts ht => MG hF h0 h2 ht, fun x hx => (Lu h2 h1.ok hF.low x hx).mono ?_⟩;have h3 := (cm h1.e).2.1;have h4 := hF.nl;have h5 := hF.l5;omega
structure Rk (p q s o : PX) (b : List SR) (ns : List Nat) (c : Dyadic) : Prop where
 fit : m8 p b ns
 P4 : ar ns ≤ 100
 es : pe s b (bL ns) = 0
 eo : pe o b (bL ns) = 0
 gs : C8 s.v 140 16 4 s.ts
 go : C8 o.v 125 1 0 o.ts
 ws : fU (140 + 140 + 16394) (cZ s.v s.ts) (140 + 1) ≤ 440000
 wo : fU (140 + 140 + 16394) (cZ o.v o.ts) (140 + 1) ≤ 440000
 sum : rh ns (df s (bj b)).2 = L7 (rh ns (df p (bj b)).2) (rh ns (df q (bj b)).2)
 R8 : rh ns (df o (bj b)).2 = ((z6 ns).map nD).map fun y => c * y
 zp : ∀ x ∈ rh ns (df p (bj b)).2, Sz 460000 x
 zq : ∀ x ∈ rh ns (df q (bj b)).2, Sz 460000 x
theorem wA (p : PX) (L : Option Addr) (n c : Nat) (b : List SR) (w : World) (hT : dD w) (hp : p.at_ w) (hpc : p.n ≤ p.c) (hB : Sl w L n 6 (aw SR.cells b)) :
  Calls Tryz.prog 18 #[.agg #[.int .i64 p.v, .slice p.A p.n p.c], .slice L n c] w fun r w' => ∃ v : Bool, r = .returned (.bool v) ∧ (v = true → n ≤ 20 ∧ KI p b 100 13) ∧ Below w.heap.size w w' := by
 have hh := Hp.start w;have hpl := hp.ln;have hbl : b.length = n := hB.bz SR.len Se;obtain ⟨pv, pA, pn, pc, ts⟩ := p;replace hp : Sl w pA pn 4 (aw TR.cells ts) := hp;replace hpl : ts.length = pn := hpl;replace hpc : pn ≤ pc := hpc;by_cases h1 : 8 < pn
 ·refine HZ ?_;refine sr ?_;refine cq hh [_,_] ?_;intro b2 w2 hh;refine aB (aa (ah (sr (bF ?_))));refine bE hh 0 ?_;refine aK ?_;refine cg (mB ?_);refine gS (gS (gS ?_));refine fV ?_;refine aa (cT (sr (aB (aa (au (aG ?_))))));exact Ea
 ·by_cases h2 : 20 < n
  ·refine HZ ?_;refine sr ?_;refine cq hh [_,_] ?_;intro b2 w2 hh;refine aB (aa (ah (sr (bF ?_))));refine bE hh 0 ?_;refine aK ?_;refine uB ?_;refine cg ?_;refine fa ?_;refine aa (cT (sr (aB (aa (au (aG ?_))))));exact Ea
  ·refine HZ ?_;refine sr ?_;refine cq hh [_,_] ?_;intro b2 w2 hh;refine aB (aa (ah (sr (bF ?_))));refine bE hh 0 ?_;refine aK ?_;refine uB ?_;refine cg ?_;refine fa ?_;refine aa (cF (aq (ai (ah (sr (aI (aa (ao ?_))))))));refine aN [4, 5, 6, 7, 18, 19, 20, 21, 22, 23, 24, 25, 26, 27, 28, 29, 30, 31, 32, 33, 34, 35, 36, 37, 38, 39, 40, 41, 42, 43, 44, 45, 46, 47, 48, 49, 50, 51, 52] 5
    (fun x w' => ∃ i : Nat, i ≤ pn ∧ x = .int .i64 i ∧ iA 124 (ts.take i) ∧ (∀ t ∈ ts.take i, t.m.size ≤ 20 ∧ ∀ c ∈ t.m.data.toList, c.toNat ≤ 4) ∧ Hp w [.blk b2 24 [.int .i64 pv, .slice pA pn pc] (0, 0)] w')
    (fun v _ => pn - (intOf v).toNat) ?_ ?_
   ·exact ⟨0, Sn _, rfl, fun t ht => (nomatch ht), fun t ht => (nomatch ht), hh⟩
   ·clear hh;rintro ρ' x_ w' ⟨i, hi, rfl, hall, hsz, hh⟩;by_cases hlt : i < pn
    ·obtain ⟨x, hx⟩ := av (l := ts) (k := i) Sd;obtain ⟨ad, rfl, hr⟩ := hp.at_ Sd;have hfa := fun w1 => nU x.c w1;have hbm := dE x.m;refine ah (sr (mI (bF ?_)));refine bE hh 0 ?_;refine aK ?_;refine a6 (aa (cT (aq (ai (ah (ao (sr (bF ?_))))))));refine bE hh 0 ?_;refine mI ?_;refine bX ?_;refine nq ?_;refine Hn ?_;refine aS (aa (ah (sr (bF ?_))));refine bE hh 0 ?_;refine mI ?_;refine bX ?_;refine nq ?_;refine ct (vs := [_, _, _]) aP.out rfl (((hr.ext hh.below).recAt TR.len hx).drop 1) rfl Se ?_;refine br hh (hfa _) rfl ?_;intro w37 hh
     cases hf : xm x.c with
     | true =>
      refine mB ?_;refine gS (gS (gS ?_));refine fV ?_;exact KR
     | false =>
      by_cases h5 : 20 < x.m.size
      ·refine mB (gT (mS (gT ?_)));refine bD bq.out rfl Se ?_;refine gT ?_;refine cg ?_;refine fa ?_;exact KR
      ·refine mB (gT (mS (gT ?_)));refine bD bq.out rfl Se ?_;refine gT ?_;refine cg ?_;refine fa ?_;refine aa (cF (aq (ai (sr (aI (aa (ao ?_)))))));refine aN [4, 7, 43, 44, 45, 46, 47, 48, 49, 50, 51, 52] 7
        (fun y w' => ∃ q : Nat, q ≤ x.m.size ∧ y = .int .i64 q ∧ (∀ c ∈ x.m.data.toList.take q, c.toNat ≤ 4) ∧ Hp w [.blk b2 24 [.int .i64 pv, .slice (some ad) pn pc] (0, 0)] w')
        (fun v _ => x.m.size - (intOf v).toNat) ?_ ?_
       ·exact ⟨0, Sn _, rfl, fun t ht => (nomatch ht), hh⟩
       ·clear hh;rintro ρ' y_ w' ⟨q, hq, rfl, hex, hh⟩;by_cases hlq : q < x.m.size
        ·obtain ⟨e, he⟩ := av (l := x.m.data.toList) (k := q) Sd;have he8 : e.toNat < 256 := e.toNat_lt;by_cases h6 : 4 < e.toNat
         ·refine ah (sr (mI (mS ?_)));refine bD bq.out rfl Se ?_;refine a6 (aa (cT (aq (ai (ah (ao (sr (mS (mI ?_)))))))));refine jN ?_;refine cg (aa (cT (sr (aB (aa (au (bQ (aG (aG (bQ (bQ (aG (aG (bQ (aG ?_)))))))))))))));exact Ea
         ·refine ah (sr (mI (mS ?_)));refine bD bq.out rfl Se ?_;refine a6 (aa (cT (aq (ai (ah (ao (sr (mS (mI ?_)))))))));refine jN ?_;refine cg (aa (cF (aq (bg (ai (al (mI ?_)))))));refine a9 (aI (az (ai ?_)));refine ⟨⟨q + 1, Sd, rfl, fun t ht => ?_, hh⟩, by show x.m.size - (q + 1) < x.m.size - q; omega, ?_⟩
          ·rw [ay he] at ht
           rcases S2.1 ht with ht | ht
           ·exact hex t ht
           ·rw [SN.1 ht]; omega
          ·exact eB
        ·rw [Su Sd] at hex;refine ah (sr (mI (mS ?_)));refine bD bq.out rfl Se ?_;refine a6 (aa (cF (aV (aE (aE (bo (bg (ai (al (mI ?_))))))))));refine a9 (aI (az (ai ?_)));refine ⟨⟨i + 1, Sd, rfl, fun t ht => ?_, fun t ht => ?_, hh⟩, by show pn - (i + 1) < pn - i; omega, ?_⟩
         ·rw [ay hx] at ht
          rcases S2.1 ht with ht | ht
          ·exact hall t ht
          ·rw [SN.1 ht]; exact MS hf
         ·rw [ay hx] at ht
          rcases S2.1 ht with ht | ht
          ·exact hsz t ht
          ·rw [SN.1 ht]; exact ⟨Sd, hex⟩
         ·exact eB
    ·rw [Su Sd] at hall hsz;refine ah (sr (mI (bF ?_)));refine bE hh 0 ?_;refine aK ?_;refine a6 (aa (cF (aV (aE (aE (bo (ai (ah (sr (aI (aa (ao ?_))))))))))));refine aN [4, 8, 53, 54, 55, 56, 57, 58, 59, 60, 61, 62, 63, 64, 65, 66, 67, 68, 69, 70, 71, 72] 8
      (fun x w' => ∃ i : Nat, i ≤ n ∧ x = .int .i64 i ∧ (∀ z ∈ b.take i, z.fin 124) ∧ Hp w [.blk b2 24 [.int .i64 pv, .slice pA pn pc] (0, 0)] w')
      (fun v _ => n - (intOf v).toNat) ?_ ?_
     ·exact ⟨0, Sn _, rfl, fun t ht => (nomatch ht), hh⟩
     ·clear hh;rintro ρ' x_ w' ⟨j, hj, rfl, hbx, hh⟩;by_cases hlt2 : j < n
      ·obtain ⟨s, hs⟩ := av (l := b) (k := j) Sd;obtain ⟨ad, rfl, hr⟩ := hB.at_ Sd;have hf1 := fun w1 => nU s.lo w1;have hf2 := fun w1 => nU s.hi w1;refine ah (sr (mI (mL (aK ?_))));refine tH ?_;refine oL ?_;refine nq ?_;refine ct (vs := [_, _, _]) aP.out rfl (((((hr.ext hh.below).recAt SR.len hs).drop 0).take 3)) rfl Se ?_
       cases hg1 : xm s.lo with
       | true =>
        rw [hg1] at hf1;refine br hh (hf1 _) rfl ?_;intro w64 hh;refine mB ?_;refine gS (gS (gS (gS ?_)));refine kP ?_;refine kP ?_;refine fV ?_;exact Lr
       | false =>
        rw [hg1] at hf1;refine br hh (hf1 _) rfl ?_;intro w64 hh;refine mB (gT (mL (gT (mI (gT ?_)))));refine oL ?_;refine gT ?_;refine nq ?_;refine aH rfl rfl ?_;refine ct (vs := [_, _, _]) aP.out rfl (((((hr.ext hh.below).recAt SR.len hs).drop 3).take 3)) rfl Se ?_
        cases hg2 : xm s.hi with
        | true =>
         rw [hg2] at hf2;refine aH rfl rfl ?_;refine br hh (hf2 _) rfl ?_;intro w71 hh;refine fa ?_;exact Lr
        | false =>
         rw [hg2] at hf2;refine aH rfl rfl ?_;refine br hh (hf2 _) rfl ?_;intro w71 hh;refine fa ?_;refine zO ?_;refine a9 (aI (az (ai ?_)));refine ⟨⟨j + 1, Sd, rfl, fun t ht => ?_, hh⟩, by show n - (j + 1) < n - j; omega, ?_⟩
         ·rw [ay hs] at ht
          rcases S2.1 ht with ht | ht
          ·exact hbx t ht
          ·rw [SN.1 ht];obtain ⟨a1, a2⟩ := MS hg1;obtain ⟨a3, a4⟩ := MS hg2;exact ⟨⟨a1, a2⟩, ⟨a3, a4⟩⟩
         ·exact eB
      ·rw [Su Sd] at hbx;have f8p : Ei ⟨pv, pA, pn, pc, ts⟩ := ⟨by show ts.length ≤ 8; omega, hall, hsz⟩;have lp := f8p.kq (w := w) hp hpc;have hdg := fun w1 hT1 hb => mi ⟨pv, pA, pn, pc, ts⟩ 124 w1 hT1 (PX.at_.ext (g := ⟨pv, pA, pn, pc, ts⟩) hp hb) lp;have hgl : (qi pv ts).length ≤ 1000000 := by
        exact OV
       refine ah (sr (mI (mL (aK ?_))));refine a6 (aa (cF (aV (aE (aE (bo (ai (sr ?_))))))));refine cu hh 0 [_,_] ?_;refine aC (hdg _ (hT.hp hh) hh.below) ak.out rfl Se ?_;rintro e_ w74 ⟨G, gc, rfl, h4⟩;refine ⟨_, rfl, ?_⟩;replace hh := hh.join h4;clear h4;simp only [Sv, Ss] at hh;refine br hh (tW G (qi pv ts).length gc (qi pv ts) _ (hh.aD (i := 0) rfl) hgl) rfl ?_;intro w75 hh;by_cases h100 : El (qi pv ts) ≤ 100
       ·refine MM (aB (aa (au ?_)));refine da ?_;exact ⟨_, rfl, fun _ => ⟨Sd, f8p.n, f8p.ok, fun t ht => (f8p.ex t ht).1, fun t ht => (f8p.ex t ht).2, hbx, fun he => Hv he Se h100, Se⟩, hh.below⟩
       ·generalize El (qi pv ts) = C at *;refine MM (aB (aa (au ?_)));exact Ea
def Q7 (ds : List Nat) (X : List Dyadic) : Nat → List Dyadic
 | 0 => X
 | k + 1 => dw ds (ds.length - 1 - k) (ej (ds.getD (ds.length - 1 - k) 0) 1 (-1)) (Q7 ds X k)
def Oe (b : List SR) (i : Nat) : Dyadic := match b[i]? with | some s => s.H - s.L | none => 0
def wP (b : List SR) (ns es : List Nat) : Nat → Dyadic
 | 0 => 1
 | i + 1 => wP b ns es i * Oe b i ^ (ns.getD i 0 - es.getD i 0)
def Ph (ns : List Nat) (p : Nat) : List Nat := (cV ns.reverse p).reverse
def Qb (b : List SR) (ns : List Nat) (C : List Dyadic) (p : Nat) : TR := ⟨fX (bL (Ph ns p)), nR (dV C p * wP b ns (Ph ns p) b.length)⟩
def Qk (b : List SR) (ns : List Nat) (C : List Dyadic) : List TR := (List.range (ar ns)).map (Qb b ns C)
def Ot (v i : Nat) (s : SR) : List TR := aF (wE v i ++ q6 v (-s.L))
def PS (b : List SR) : List PX := b.mapIdx fun i s => ⟨b.length, none, 0, 0, Ot b.length i s⟩
def QF (b : List SR) (ns : List Nat) (C : List Dyadic) : PX := ⟨(ns.length : Int), none, 0, 0, aF (Qk b ns C)⟩
def Qd (fx : FX) : List Dyadic := Q7 fx.ns.reverse (fx.cs.map NR.d) fx.ns.length
def PA (fx : FX) (b : List SR) : Int × List TR := df (QF b fx.ns (Qd fx)) (PS b)
def Qe (fx : FX) (b : List SR) : Int := if fx.e ≠ 0 then fx.e else if kM b ≠ 0 then kM b else if b.length ≠ fx.n then 1 else (PA fx b).1
def Rj (n k kb : Nat) (ns : List Nat) : Nat := k + 520 * n + (1 + n + (kb + 1) * ns.sum)
def Mq (f : Dyadic → Dyadic) : Prop := ∃ l : List Dyadic, ∀ t, f t = nX l t
def N7 : List Dyadic → List Dyadic → List Dyadic
 | [], b => b
 | x :: a, [] => x :: a
 | x :: a, y :: b => (x + y) :: N7 a b
def Qh : List Dyadic → List Dyadic → List Dyadic
 | [], _ => []
 | x :: a, b => N7 (b.map fun y => x * y) (0 :: Qh a b)
def D1 (F : Dyadic → Dyadic) (a b : Dyadic) : Prop := ∃ R, Mq R ∧ ∀ h, F h = a + h * b + h * h * R h
def PD (A B : List Nat) (d t : Nat) : List Nat := (List.range (ar B)).flatMap fun q => (List.range (ar A)).map fun f => bO A d f t q
def Q4 (A B : List Nat) (d t : Nat) (xs : List Dyadic) : List Dyadic := (PD A B d t).map fun p => (xs[p]?).getD 0
def RN (A : List Nat) (d : Nat) (B : List Nat) (X : List Dyadic) (ta tb : List Dyadic) (r : Nat) : Dyadic := sR (A ++ B) fun row => co (A ++ d :: B) X (row.take A.length ++ r :: row.drop A.length) * lu (A ++ B) row (ta ++ tb)
def Pa : List Nat → List Nat → List Nat
 | [], _ => []
 | _ :: _, [] => []
 | d :: ds, k :: ks => d * k :: Pa ds ks
def Qn (d : Nat) (xs : List Dyadic) (i : Nat) : Dyadic := dV xs (i + 1) * (((i : Int) + 1 : Int) : Dyadic) - dV xs i * (((d : Int) - (i : Int) : Int) : Dyadic)
def PQ (d : Nat) (xs : List Dyadic) : List Dyadic := (List.range d).map (Qn d xs)
abbrev RE := q8
section
variable {P : Program} {ρ : Rf} {w : World}
end
def Ov (q : Nat → Bool) (xs : List Dyadic) (i : Nat) : List Dyadic := ((List.range i).filter q).map fun p => (xs[p]?).getD 0
def Pg (ap d : Nat) (p : Nat) : Bool := decide (p / ap % (d + 1) < d)
def Rw (ns : List Nat) (a : Nat) : List Nat := ns.set a (ns.getD a 0 - 1)
def Rl (ns : List Nat) (a : Nat) (xs : List Dyadic) : List Dyadic := if ns.getD a 0 = 0 then List.replicate xs.length 0 else Ov (Pg (ar (ns.drop (a + 1))) (ns.getD a 0)) (jx (ns.drop (a + 1)).reverse (ns.getD a 0) (ns.getD a 0) (PQ (ns.getD a 0)) xs xs.length 0) xs.length
def RH (A : List Nat) (e : Nat) (X : List Dyadic) : List Dyadic := Ov (Pg (ar A) (e + 1)) (jx A (e + 1) (e + 1) (PQ (e + 1)) X X.length 0) X.length
def Q9 : List (Nat → Dyadic) → List Nat → Dyadic
 | f :: fs, r :: rs => f r * Q9 fs rs
 | _, _ => 1
def vG (ds : List Nat) (X : List Dyadic) (fs : List (Nat → Dyadic)) : Dyadic := sR ds fun row => co ds X row * Q9 fs row
def Ps (ds : List Nat) (ts : List Dyadic) : List (Nat → Dyadic) := List.zipWith (fun d t r => fS d r t) ds ts
def RL (ts : List Dyadic) : List (Nat → Dyadic) := ts.map fun t r => t ^ r
def Rm (ds : List Nat) (ts : List Dyadic) (k : Nat) : List (Nat → Dyadic) := (Ps ds ts).take (ds.length - k) ++ (RL ts).drop (ds.length - k)
def wT (b : List SR) (ns : List Nat) : Nat → Dyadic
 | 0 => 1
 | i + 1 => wT b ns i * Oe b i ^ (ns.getD i 0)
theorem L8 {s : SR} (h : kM b = 0) (hs : s ∈ b) : s.lo.d < s.hi.d := by
 unfold kM at h;by_cases h1 : b.any (fun s => !decide (s.lo.d < s.hi.d)) = true
 ·rw [Sj h1] at h; omega
 ·rw [Bool.not_eq_true, TA] at h1;have := h1 s hs;simpa using this
theorem KI.P8 {p : PX} {s : Nat} (h : KI p b C s) : Ei p := ⟨h.n, h.ok, fun t ht => ⟨h.sz t ht, h.ex t ht⟩⟩
structure Rb (p : PX) (b : List SR) (fx : FX) (ns : List Nat) : Prop where
 e : Qe fx b = 0
 q : (PA fx b).2 = aF (p.ts.map (nx (wT b ns b.length)))
 s : E4 p (wT b ns b.length) = 0
 n : (aF (p.ts.map (nx (wT b ns b.length)))).length ≤ 8
def QI (base : Nat) (E : Int) (D : List Nat) (ys : List Dyadic) : VP := fun v W => ∃ g : FX, v = .agg #[.slice g.A g.n g.a, .slice g.B g.m g.b] ∧ Out E D ys g ∧ ∃ w2 : World, base ≤ w2.heap.size ∧ Hp w2 [g.jv, g.jn] W
def QM (base : Nat) (E : Int) (D : List Nat) (ys zs : List Dyadic) : VP := fun v W => ∃ g h : FX, v = .tuple #[.agg #[.slice g.A g.n g.a, .slice g.B g.m g.b], .agg #[.slice h.A h.n h.a, .slice h.B h.m h.b], .int .i64 E] ∧ Out E D ys g ∧ Out E D zs h ∧ ∃ w2 : World, base ≤ w2.heap.size ∧ Hp w2 [h.jv, h.jn, g.jn, g.jv] W
def RD (ap d t : Nat) (xs : List Dyadic) (i : Nat) : List Dyadic := ((List.range i).filter fun p => decide (p / ap % (d + 1) = t)).map fun p => (xs[p]?).getD 0
def Rz (a : NR) : Bool := decide ((8 : Int) < a.bf.size ∨ a.e < -60 ∨ 60 < a.e)
def FX.small (f : FX) : Prop := f.kq 124 ∧ f.m ≤ 60 ∧ f.n ≤ 20
abbrev R7 (l : List Int) (A : Option Addr) (a : Nat) (B : Option Addr) (b : Nat) : FX := ⟨A, 1, a, B, l.length, b, [(l.length : Int) - 1], l.map fun z : Int => nR (z : Dyadic)⟩
def Rc (ds : List Int) (cs : List NR) : VP := fun v W => ∃ g : FX, v = .agg #[.slice g.A g.n g.a, .slice g.B g.m g.b] ∧ g.ds = ds ∧ g.cs = cs ∧ g.at_ W
variable {α : Type}
theorem xh (l : List α) {a : Nat} (h : a < l.length) (x : α) : (l.set a x).reverse = l.reverse.set (l.length - 1 - a) x := by
 refine S0 fun i => ?_;by_cases hi : i < l.length
 ·rw [TI (by rw [TL]; exact hi), Tz, Tz, TL, SZ, TI hi];by_cases e : a = l.length - 1 - i
  ·rw [Sj e, Sj Sd, Sj Sd, Sj Sd]
  ·rw [Si e, Si Sd]
 ·rw [Sw (by simp; omega), Sw (by simp; omega)]
theorem EW {ns : List Nat} {a : Nat} (ha : a < ns.length) (s t : Dyadic) (xs ts : List Dyadic) (hl : ts.length = ns.length) :
  jm ns.reverse (iZ false s ns a xs) (ts.set a t).reverse = jm ns.reverse xs (ts.set a (s * t)).reverse ∧
  jm ns.reverse (iZ true s ns a xs) (ts.set a t).reverse = jm ns.reverse xs (ts.set a (s + (1 - s) * t)).reverse := by
 have hg : ns.reverse.getD (ns.length - 1 - a) 0 = ns.getD a 0 := by
  rw [TC, TC, TI Sd];congr 2;omega
 rw [xh _ Sd, xh _ Sd, xh _ Sd, hl];unfold iZ;simp only [Vd, if_false, if_true];have la : ns.length - 1 - a < ns.reverse.length := by rw [SZ]; omega
 have ll : ts.reverse.length = ns.reverse.length := by rw [SZ, SZ, hl]
 exact ⟨vy la ll fun i hi => by rw [hg] at hi ⊢; exact Ju s t hi, vy la ll fun i hi => by rw [hg] at hi ⊢; exact Jt s t hi⟩
def Rs (b : List SR) : Dyadic := iX (b.map SR.wid)
def Q6 (b : List SR) (v : Int) : Prop := (b = [] ∧ v = -1) ∨ ∃ (m : Nat) (s : SR), b[m]? = some s ∧ v = m ∧ (∀ (j : Nat) (t : SR), b[j]? = some t → ¬ s.wid < t.wid) ∧ ∀ (j : Nat) (t : SR), j < m → b[j]? = some t → t.wid < s.wid
def SR.half (s : SR) (m : NR) (u : Bool) : SR := if u then ⟨m, s.hi⟩ else ⟨s.lo, m⟩
theorem qE (s : SR) (m : NR) (u : Bool) (w : World) :
  Calls Tryz.prog 99 #[.agg #[.bool s.lo.neg, .string s.lo.bf, .int .i64 s.lo.e, .bool s.hi.neg, .string s.hi.bf, .int .i64 s.hi.e, .bool m.neg, .string m.bf, .int .i64 m.e], .bool u] w fun r w' => r = .returned (.agg (s.half m u).cells.toArray) ∧ Below w.heap.size w w' := by
 have hh := Hp.start w
 cases u with
 | true =>
  refine aj (N := 18) (l := [.agg #[.bool s.lo.neg, .string s.lo.bf, .int .i64 s.lo.e, .bool s.hi.neg, .string s.hi.bf, .int .i64 s.hi.e, .bool m.neg, .string m.bf, .int .i64 m.e], .bool true]) Tryz.func99 rfl rfl (by simp) ?_;refine sr ?_;refine cq hh [_,_,_,_,_,_,_,_,_] ?_;intro b2 w2 hh;refine bJ hh ?_;intro b4 w4 hh;refine aa (ah (sr (mB (aa (cT (sr (bF ?_)))))));refine cu hh 1 [_,_,_] (bF (bF ?_));refine cu hh 1 [_,_,_] ?_;refine gg [_,_,_,_,_,_] ?_;refine bK hh 0 [_,_,_,_,_,_] ?_;intro ws hh;replace hh : Hp _ (.blk _ _ [_, _, _, _, _, _] _ :: _) _ := hh;refine aa (au (aG ?_));exact LY
 | false =>
  refine aj (N := 18) (l := [.agg #[.bool s.lo.neg, .string s.lo.bf, .int .i64 s.lo.e, .bool s.hi.neg, .string s.hi.bf, .int .i64 s.hi.e, .bool m.neg, .string m.bf, .int .i64 m.e], .bool false]) Tryz.func99 rfl rfl (by simp) ?_;refine sr ?_;refine cq hh [_,_,_,_,_,_,_,_,_] ?_;intro b2 w2 hh;refine bJ hh ?_;intro b4 w4 hh;refine aa (ah (sr (mB (aa (cF (aq (ai (sr (bF (bF ?_))))))))));refine cu hh 1 [_,_,_] (bF ?_);refine cu hh 1 [_,_,_] ?_;refine gg [_,_,_,_,_,_] ?_;exact Nj
theorem qR (L : Option Addr) (n c a : Nat) (b : List SR) (s : SR) (w : World) (hS : Sl w L n 6 (aw SR.cells b)) (hn : n ≤ 1000000) (ha : a < n) :
  Calls Tryz.prog 98 #[.slice L n c, .int .i64 a, .agg s.cells.toArray] w fun r w' => ∃ A c', r = .returned (.slice A n c') ∧ w'.ownsRow w.heap.size 81 6 (.slice A n c') n (aw SR.cells (b.set a s)) ∧ Below w.heap.size w w' := by
 have hh := Hp.start w;have hln := hS.bz SR.len Se;have hrl := dZ SR.len b;refine aj (N := 19) (l := [.slice L n c, .int .i64 a, .agg s.cells.toArray]) Tryz.func98 rfl rfl (by simp) ?_;refine sr ?_;refine cq hh [_,_,_,_,_,_] ?_;intro b5 w5 hh;refine aL (aa (sr (mL (aK ?_))));refine Dz ?_;intro b10 w10 hh;refine aL (aa (sr (mL (mL ?_))));refine C7 hh (i := 0) (o := 0) rfl rfl rfl (hS.ext hh.below) bq.out aP.out (by rw [iW, Nat.min_self]; show 0 + n * 6 ≤ n * 6; omega) (cw SR.one _) Se ?_;intro w13 hh;skip;have e1 : ∀ xs : List Value, xs.length = n * 6 → bM xs 0 ((aw SR.cells b).take (min n n * 6)) = aw SR.cells b := fun xs hx => by
  rw [Nat.min_self, Su Sd, bM, UF, Ss, Uf Sd, S3]
 rw [Sy, e1 _ (by rw [iW]; rfl)] at hh;refine aa (sr (mL (mI ?_)));refine cu hh 1 [_,_,_,_,_,_] ?_;refine cG (k := a) bq.out aP.size rfl rfl Sd Sd Se ?_;refine bY hh (i := 0) (vs := [_, _, _, _, _, _]) rfl rfl (iq rfl) rfl aP.out rfl Sd rfl ?_;intro ws hh;simp only [Sy] at hh;rw [show bM (aw SR.cells b) (a * 6) [.bool s.lo.neg, .string s.lo.bf, .int .i64 s.lo.e, .bool s.hi.neg, .string s.hi.bf, .int .i64 s.hi.e] = aw SR.cells (b.set a s) from dO SR.len Sd] at hh;refine aa (sr (mL (aL (aa (au ?_)))));exact MQ
def QU (k : Int) (i : Nat) : Bool := decide (0 < k) && (decide (i < 62) && decide (k.fdiv (2 ^ i) % 2 = 1))
theorem rU (L : Option Addr) (n c : Nat) (a : Int) (w : World) (ha : a < 0 ∨ (n : Int) ≤ a) :
  Calls Tryz.prog 22 #[.slice L n c, .int .i64 a] w fun r w' => r = .returned (.tuple #[.slice none 0 0, .slice none 0 0, .int .i64 1]) ∧ Below w.heap.size w w' := by
 have hh := Hp.start w;by_cases h0 : a < 0
 ·refine Hj ?_;refine sr (aL (aL (aI (aa (ah (sr (mI ?_)))))));refine a6 (mB ?_);refine gS (gS (gS (gS ?_)));refine fV ?_;exact Oa
 ·refine Hj ?_;refine sr (aL (aL (aI (aa (ah (sr (mI ?_)))))));refine a6 (mB (gT (mI (gT (mL (gT (aK (gT ?_))))))));refine ee ?_;refine fa ?_;exact Oa
theorem oI (L : Option Addr) (n c : Nat) (b : List SR) (a : Nat) (s : SR) (k : Nat) (w : World) (hT : dD w) (hS : Sl w L n 6 (aw SR.cells b)) (hb : ∀ s ∈ b, s.fin k) (hn : n ≤ 1000000) (hk : k ≤ 3000000) (hs : b[a]? = some s) :
  Calls Tryz.prog 22 #[.slice L n c, .int .i64 a] w fun r w' => ∃ A c1 B c2, r = .returned (.tuple #[.slice A n c1, .slice B n c2, .int .i64 0]) ∧ Hp w [.row B n c2 81 6 (aw SR.cells ((b.map SR.f).set a (s.f.half (nR s.f.lP) true))), .row A n c1 81 6 (aw SR.cells ((b.map SR.f).set a (s.f.half (nR s.f.lP) false)))] w' := by
 have hh := Hp.start w;have hln := hS.bz SR.len Se;have han : a < n := by have := (SC.1 hs).1; omega
 have hfs : (b.map SR.f)[a]? = some s.f := by rw [St, hs]; rfl
 have hmd := fun w1 hT1 => yY s.f k w1 hT1 (SR.ym (hb s (Sp hs)) hk) hk;refine Hj ?_;refine sr (aL (aL (aI (aa (ah (sr (mI ?_)))))));refine a6 (mB (gT (mI (gT (mL (gT (aK (gT ?_))))))));refine ee ?_;refine fa ?_;refine aa (cF (aq (ai (sr (mL ?_)))));refine aC (mr L n c b _ (hT.hp hh) (hS.ext hh.below) (fun s h => ⟨(hb s h).1.ok, (hb s h).2.ok⟩) hn) ak.out rfl Se ?_;rintro e_ w17 ⟨A17, c17, rfl, hown_, hb_⟩;refine ⟨_, rfl, ?_⟩;replace hh := hh.aO (x := .row _ _ _ _ _ _) hb_ hown_;obtain ⟨g17, rfl⟩ := hh.cD (i := 0) rfl Sd;refine aL (aa (ah ?_));refine aU 11 [[(0, none)], [(1, none)], [(18, some 0), (19, some 1)], [(20, some 2)], [(0, none)], [(1, none)], [(22, some 4), (23, some 5)], [(24, some 6)], [(25, some 7)], [(21, some 3), (26, some 8)], []] [(10, 7), (9, 27), (8, 26), (7, 25), (6, 24), (5, 23), (4, 22), (3, 21), (2, 20), (1, 19), (0, 18)] hh mixed Sf ?_;refine iw ?_;refine eH ?_;refine Df (a) ?_;refine xx [_,_,_,_,_,_] (fun _ hj => hj.hp.eL (f := SR.cells) (x := s.f) (l := b.map SR.f) (i := 0) rfl SR.len Se hfs) ?_;refine iw ?_;refine eH ?_;refine Df (a) ?_
 refine xx [_,_,_,_,_,_] (fun _ hj => hj.hp.eL (f := SR.cells) (x := s.f) (l := b.map SR.f) (i := 0) rfl SR.len Se hfs) ?_;refine dC (fun _ hj => hmd _ (hT.hp hj.hp)) ?_;refine dB [_,_,_,_,_,_,_,_,_] ?_;refine a8 (i := 10) (di _ 126 _) di.ext (fun ρ1 w1 hj hR => jU aP.out hj.bl (fun v w2 h hb => ⟨hb, h⟩)) ?_;refine aR ?_;intro f W hJ hV;have hb_4 := hJ.bl;obtain ⟨v7, v27, v26, v25, v24, v23, v22, v21, v20, v19, v18, _⟩ := hV;obtain ⟨b7, e7, hl7, hc7⟩ : di _ _ _ (f 10) W := v7;replace hh := hJ.newVar hh hl7 hc7;refine aX (bp (ae e7 (ae v27 (ae v26 (ae v25 (ae v24 (ae v23 (ae v22 (ae v21 (ae v20 (ae v19 (ae v18 aW)))))))))))) ?_;dsimp only [ck];clear e7 hJ;refine bK hh 0 [_,_,_,_,_,_,_,_,_] ?_;intro ws hh;replace hh : Hp _ (.blk _ _ [_, _, _, _, _, _, _, _, _] _ :: _) _ := hh;refine aa (ah ?_);refine aU 9 [[(0, none)], [(1, none)], [(7, none)], [(30, some 2)], [(28, some 0), (29, some 1), (31, some 3)], [(0, none)], [(1, none)], [(7, none)], [(35, some 7)]] [(8, 36), (7, 35), (6, 34), (5, 33), (4, 32), (3, 31), (2, 30), (1, 29), (0, 28)] hh mixed Sf ?_;refine iw ?_;refine eH ?_;refine eX 0 [_,_,_,_,_,_,_,_,_] ?_;refine dC (fun _ hj => qE s.f (nR s.f.lP) false _) ?_
 refine a8 (i := 4) (we ws.heap.size 81 n 6 (aw SR.cells ((b.map SR.f).set a (s.f.half (nR s.f.lP) false)))) (we.ext) ?_ ?_
 ·intro ρ1 w1 hj hR;exact bA rfl (aZ ak.out (aA hR.1 (aA hR.2.1 (aA hR.2.2.1 a7)))) (qR (some ⟨g17, 0, none⟩) n c17 a (b.map SR.f) _ w1 (hj.hp.aD (i := 1) rfl) hn han) (fun _ _ ⟨A, c, hq, ho, hb⟩ => ⟨_, hq, hb, A, c, rfl, eY ho hj.bl.size⟩)
 refine iw ?_;refine eH ?_;refine eX 0 [_,_,_,_,_,_,_,_,_] ?_;refine dC (fun _ hj => qE s.f (nR s.f.lP) true _) ?_;refine aR ?_;intro f W hJ hV;have hb_5 := hJ.bl;obtain ⟨v36, v35, v34, v33, v32, v31, v30, v29, v28, _⟩ := hV;obtain ⟨A32, c32, e32, o32⟩ : we _ _ _ _ _ (f 4) W := v32;replace hh := JJ.Ig hh hJ.hp o32;clear o32;refine aX (bp (ae v36 (ae v35 (ae v34 (ae v33 (ae e32 (ae v31 (ae v30 (ae v29 (ae v28 aW)))))))))) ?_;dsimp only [ck];clear e32 hJ;refine aC (qR (some ⟨g17, 0, none⟩) n c17 a (b.map SR.f) _ _ (hh.aD (i := 2) rfl) hn han) ak.out rfl Se ?_;rintro e_ w37 ⟨A37, c37, rfl, hown_, hb_⟩;refine ⟨_, rfl, ?_⟩;replace hh := hh.aO (x := .row _ _ _ _ _ _) hb_ hown_;refine aL (aL (aI (aa (au ?_))));replace hh := hh.sub (Sk _ (Sk _ (Sm _ (Sm _ SD))));refine Qu ?_;exact ⟨_, _, _, _, rfl, hh⟩
variable {h : Int}
def gJ (b : List SR) (h : Int) : Option (List SR) :=
 if h.fdiv 2 < 0 then none else (b[(h.fdiv 2).toNat]?).map fun s => (b.map SR.f).set (h.fdiv 2).toNat (s.f.half (nR s.f.lP) (decide (h % 2 = 1)))
def lS (b : List SR) (hs : List Int) : Option (List SR) := hs.foldl (fun o h => o.bind (gJ · h)) (some b)
theorem ld (b : List SR) (hs : List Int) (h : Int) : lS b (hs ++ [h]) = (lS b hs).bind (gJ · h) := by
 unfold lS;rw [UI]
 rfl
theorem td (hs : List Int) : hs.foldl (fun (o : Option (List SR)) h => o.bind (gJ · h)) none = none := by
 induction hs with
 | nil => rfl
 | cons _ r ih => exact ih
theorem BB {hs : List Int} (i : Nat) (h : lS b (hs.take i) = none) : lS b hs = none := by
 have : hs = hs.take i ++ hs.drop i := (To i hs).symm;rw [this];unfold lS at *;rw [UI, h, td]
theorem Sz.lP {x y : Dyadic} (hx : Sz k x) (hy : Sz k y) : Sz (k + 2) ((x + y) * cf (-1)) :=
 ((hx.add hy).mul (show Sz 1 (cf (-1)) from ⟨1, by decide +kernel, Se⟩)).mono Sd
theorem rQ.up {l : Nat} {a : NR} (h : rQ k a) (hl : k ≤ l) : rQ l a := ⟨h.ok, h.sz.mono hl⟩
theorem nO {b' : List SR} (hb : ∀ s ∈ b, s.fin k) (hk : k + 2 ≤ 3000000) (e : gJ b h = some b') : (∀ s ∈ b', s.fin (k + 2)) ∧ b'.length = b.length := by
 unfold gJ at e;split at e
 ·cases e
 ·rcases hs : b[(h.fdiv 2).toNat]? with _ | s
  ·rw [hs] at e; cases e
  ·rw [hs] at e
   cases e
   refine ⟨fun t ht => ?_, by rw [TL, Sx]⟩;have hf := SR.ym (hb s (Sp hs)) Sd
   rcases VE ht with ht | rfl
   ·obtain ⟨u, hu, rfl⟩ := SB.1 ht;have := SR.ym (hb u hu) Sd;exact ⟨this.1.up Sd, this.2.up Sd⟩
   ·have hm : rQ (k + 2) (nR s.f.lP) := rQ.of (Sz.lP hf.1.sz hf.2.sz) hk;unfold SR.half;split
    ·exact ⟨hm, hf.2.up Sd⟩
    ·exact ⟨hf.1.up Sd, hm⟩
theorem zr (L : Option Addr) (n c : Nat) (b : List SR) (M : Option Addr) (m c2 : Nat) (hs : List Int) (k : Nat) (w : World) (hT : dD w) (hS : Sl w L n 6 (aw SR.cells b)) (hb : ∀ s ∈ b, s.fin k) (hS2 : Sl w M m 1 (bm hs)) (hn : n ≤ 1000000) (hk : k + 2 * m ≤ 3000000) (hml : hs.length = m) :
  Calls Tryz.prog 25 #[.slice L n c, .slice M m c2] w fun r w' => (match lS (b.map SR.f) hs with | none => r = .returned (.tuple #[.slice none 0 0, .int .i64 1]) | some b' => ∃ A c', r = .returned (.tuple #[.slice A n c', .int .i64 0]) ∧ w'.ownsRow w.heap.size 81 6 (.slice A n c') n (aw SR.cells b')) ∧ Below w.heap.size w w' := by
 have hh := Hp.start w;refine aj (N := 39) (l := [.slice L n c, .slice M m c2]) Tryz.func25 rfl rfl (by simp) ?_;refine sr (aL (aI (aa (sr (mL ?_)))));refine aC (mr L n c b _ (hT.hp hh) (hS.ext hh.below) (fun s h => ⟨(hb s h).1.ok, (hb s h).2.ok⟩) hn) ak.out rfl Se ?_;rintro e_ w12 ⟨A12, c12, rfl, hown_, hb_⟩;refine ⟨_, rfl, ?_⟩;replace hh := hh.aO (x := .row _ _ _ _ _ _) hb_ hown_;refine pj ?_;refine bP [0, 4, 5, 7, 8, 9, 10, 15, 16, 17, 18, 19, 20, 21, 22, 23, 24, 25, 26, 27, 28, 29, 30, 31, 32, 33, 34, 35, 36, 37] 0 15
  (fun v0 v w' => ∃ (i c0 : Nat) (A : Option Addr) (b' : List SR), i ≤ m ∧ v = .int .i64 i ∧ v0 = .slice A n c0 ∧ lS (b.map SR.f) (hs.take i) = some b' ∧ (∀ s ∈ b', s.fin (k + 2 * i)) ∧ Hp w [.row A n c0 81 6 (aw SR.cells b')] w')
  (fun _ v _ => m - (intOf v).toNat) ?_ ?_
 ·refine ⟨0, _, _, b.map SR.f, Sn _, rfl, rfl, rfl, fun s hs' => ?_, hh⟩;obtain ⟨u, hu, rfl⟩ := SB.1 hs';exact SR.ym (hb u hu) Sd
 ·clear hh;rintro ρ' v0 v w' ⟨i, c0, A, b', hi, rfl, rfl, hp, hfn, hh⟩;have hf := hh.aD (i := 0) rfl;have hlb := hf.bz SR.len Se;by_cases hlt : i < m
  ·obtain ⟨h, hh1⟩ := av (l := hs) (k := i) Sd;have hgi : (bm hs)[i]? = some (.int .i64 h) := by simp [bm, hh1]
   have hps := ld b hs h;obtain ⟨ad, rfl, hr⟩ := hS2.at_ Sd
   rcases hv : gJ b' h with _ | b2
   ·refine sr ?_;refine dq ?_;refine bX ?_;refine nh ?_;refine aI (aa (sr (mL (mI ?_))));refine HM rfl rfl Sd Se ?_;rw [show min (1 : Int).toNat IntKind.i64.bits = 1 from rfl, show (2 : Int) ^ 1 = 2 from rfl];have hbad : h.fdiv 2 < 0 ∨ (n : Int) ≤ h.fdiv 2 := by
     unfold gJ at hv;split at hv
     ·exact .inl (by assumption)
     ·rw [Option.map_eq_none_iff, Vz] at hv;omega
    refine br hh (rU _ n _ _ _ hbad) rfl ?_;intro w23 hh;refine mT ?_;refine cE ?_;refine cE ?_;refine cE ?_;refine aL (aL (aI (aa (ao (sr (mI ?_))))));refine cX (aB (aa (cT (sr (mI (aL (aI (aa (au (bQ (bQ (aG (aG (bQ (aG ?_)))))))))))))));refine Fx ?_;have : lS (b.map SR.f) hs = none := BB (i + 1) (by rw [ay hh1, ld, hp]; exact hv);rw [this];exact ⟨rfl, hh.below⟩
   ·have hfin := nO hfn Sd hv;have hv2 := hv;unfold gJ at hv2;split at hv2
    ·cases hv2
    rename_i hpos
    rcases hsa : b'[(h.fdiv 2).toNat]? with _ | s
    ·rw [hsa] at hv2; cases hv2
    rw [hsa] at hv2
    cases hv2
    have hcall := fun w1 hT1 hS1 => oI A n c0 b' (h.fdiv 2).toNat s (k + 2 * i) w1 hT1 hS1 hfn hn Sd hsa;rw [Int.toNat_of_nonneg Sd] at hcall;by_cases g : h % 2 = 1
    ·refine sr ?_;refine dq ?_;refine bX ?_;refine nh ?_;refine aI (aa (sr (mL (mI ?_))));refine HM rfl rfl Sd Se ?_;rw [show min (1 : Int).toNat IntKind.i64.bits = 1 from rfl, show (2 : Int) ^ 1 = 2 from rfl];refine aC (hcall _ (hT.hp hh) hf) ak.out rfl Se ?_;rintro e_ w_ ⟨A1, c1, A2, c2', rfl, h2⟩;refine ⟨_, rfl, ?_⟩;replace hh := hh.join h2;refine mT ?_;refine cE ?_;refine cE ?_;refine cE ?_;refine aL (aL (aI (aa (ao (sr (mI ?_))))));refine cX (aB (aa (cF (sr (mI ?_)))));refine xj rfl rfl Se ?_;refine cH (aB (aa (cT (al (mL (aL (az (bg (bg (ai (al ?_)))))))))));refine a9 (mI (az (ai ?_)));replace hh := hh.sub (Sk _ (Sm _ (Sm _ SD)));refine ⟨⟨i + 1, _, _, _, Sd, rfl, rfl, by rw [ay hh1, ld, hp]; exact hv, fun s hs => by have := hfin.1 s hs; rwa [show k + 2 * i + 2 = k + 2 * (i + 1) by omega] at this, ?_⟩, by show m - (i + 1) < m - i; omega, ?_⟩
     ·rw [SF g]; exact hh
     ·exact eB
    ·refine sr ?_;refine dq ?_;refine bX ?_;refine nh ?_;refine aI (aa (sr (mL (mI ?_))));refine HM rfl rfl Sd Se ?_;rw [show min (1 : Int).toNat IntKind.i64.bits = 1 from rfl, show (2 : Int) ^ 1 = 2 from rfl];refine aC (hcall _ (hT.hp hh) hf) ak.out rfl Se ?_;rintro e_ w_ ⟨A1, c1, A2, c2', rfl, h2⟩;refine ⟨_, rfl, ?_⟩;replace hh := hh.join h2;refine mT ?_;refine cE ?_;refine cE ?_;refine cE ?_;refine aL (aL (aI (aa (ao (sr (mI ?_))))));refine cX (aB (aa (cF (sr (mI ?_)))));refine xj rfl rfl Se ?_;refine cH (aB (aa (cF (al (mL (aL (az (bg (bg (ai (al ?_)))))))))));refine a9 (mI (az (ai ?_)));replace hh := hh.sub (Sm _ (Sk _ (Sm _ SD)));refine ⟨⟨i + 1, _, _, _, Sd, rfl, rfl, by rw [ay hh1, ld, hp]; exact hv, fun s hs => by have := hfin.1 s hs; rwa [show k + 2 * i + 2 = k + 2 * (i + 1) by omega] at this, ?_⟩, by show m - (i + 1) < m - i; omega, ?_⟩
     ·rw [SQ g]; exact hh
     ·exact eB
  ·obtain rfl : i = m := Sd;rw [Su Sd] at hp;refine sr ?_;refine a6 (aa (ah (cF (aV (aE (aE (bo (ai (sr (mL (aL (aI (aa (au ?_))))))))))))));refine Fx ?_;rw [hp];exact ⟨⟨_, _, rfl, hh.at_ (i := 0) rfl⟩, hh.below⟩
def SR.at_ (s : SR) (x : Dyadic) : Dyadic := s.lo.d + x * s.wid
def Ql (t : List NR) (i : Nat) (s : SR) : NR := match t[i]? with | none => s.lo | some x => nR (s.at_ x.d)
section
variable {N : Nat} {ops : Array Oper} {Q : Kq} {ρ : Rf} {w : World} {rest : List Oper} {d : Option Nat} {ty u : TypeId} {pos : String} {af : Array Edge} {x y : Operand} {s : SR}
end
def sp (p : Int × Int) : SR := ⟨nR (D p.1 0), nR (D p.2 0)⟩
def PI (p : Int × Int) : List Value := [.int .i64 p.1, .int .i64 p.2]
def Mp (a : NR) : Bool := decide ((30 : Int) < a.bf.size ∨ a.e < -200 ∨ 200 < a.e)
def Qc (s : SR) : Bool := Mp s.lo || Mp s.hi
def QZ (b : List SR) (p : List NR) : Bool := (decide (8 < b.length) || decide (8 < p.length)) || (b.any Qc || p.any Mp)
def R6 : List SR := [sp (0, 4), sp (0, 2)]
theorem SR.le (s : SR) : ¬ s.H < s.L := Hh _ _
theorem SR.QX (s : SR) : s.f.L = s.L := by
 have h := s.le;show HO (nR s.L).d (nR s.H).d = s.L;rw [cn, cn, HO, Si h]
theorem SR.QR (s : SR) : s.f.H = s.H := by
 have h := s.le;show Hk (nR s.L).d (nR s.H).d = s.H;rw [cn, cn, Hk];split
 ·rfl
 ·rename_i g;grind
def QW (b : List SR) (a : Nat) (s : SR) (u : Bool) : List SR := (b.map SR.f).set a (s.f.half (nR s.f.lP) u)
variable {l : List TR}
theorem Mt {s : SR} (h : s.lo.d < s.hi.d) : s.L = s.lo.d ∧ s.H = s.hi.d := by
 have h2 : ¬ s.hi.d < s.lo.d := by grind
 unfold SR.L SR.H HO Hk;rw [Si h2, Sj h];exact ⟨rfl, rfl⟩
theorem sD : cf (-1) + cf (-1) = 1 := by decide +kernel
structure IJ (l : List TR) (ns : List Nat) (b : List SR) (X : List Dyadic) : Prop where
 len : X.length = ar ns
 bl : b.length = ns.length
 up : ∀ s ∈ b, s.lo.d < s.hi.d
 vl : ∀ ts : List Dyadic, ts.length = ns.length → jm ns.reverse X ts = mb (IL b ts.reverse) l
def nc (b : List SR) (a : Nat) (s : SR) (u : Bool) : List SR := (b.map SR.f).set a (s.f.half (nR s.f.lP) u)
theorem oU {s : SR} (h : s.lo.d < s.hi.d) : ∃ m, (nR s.f.lP).d = m ∧ m + m = s.L + s.H ∧ s.f.lo.d = s.L ∧ s.f.hi.d = s.H ∧ s.L < m ∧ m < s.H := by
 obtain ⟨c1, c2⟩ := Mt h;have e1 : s.f.lo.d = s.L := cn _;have e2 : s.f.hi.d = s.H := cn _;refine ⟨s.f.lP, cn _, ?_, e1, e2, ?_⟩
 ·unfold SR.lP;rw [e1, e2];have := sD;grind
 ·have e3 : s.f.lP + s.f.lP = s.L + s.H := by
   unfold SR.lP;rw [e1, e2];have := sD;grind
  rw [← c1, ← c2] at h;constructor <;> grind
theorem JO {a : Nat} {s : SR} {u : Bool} (hb : ∀ s ∈ b, s.lo.d < s.hi.d) (hs : b[a]? = some s) : ∀ z ∈ nc b a s u, z.lo.d < z.hi.d := fun z hz => by
 have hsm := Sp hs;obtain ⟨m, e0, e1, e2, e3, e4, e5⟩ := oU (hb s hsm)
 rcases VE hz with h | rfl
 ·obtain ⟨y, hy, rfl⟩ := SB.1 h;obtain ⟨m2, f0, f1, f2, f3, f4, f5⟩ := oU (hb y hy);rw [f2, f3];grind
 ·cases u with
  | false => show s.f.lo.d < (nR s.f.lP).d; rw [e0, e2]; exact e4
  | true => show (nR s.f.lP).d < s.f.hi.d; rw [e0, e3]; exact e5
theorem J9 {a : Nat} {s : SR} {u : Bool} {us : List Dyadic} {t : Dyadic} (hb : ∀ s ∈ b, s.lo.d < s.hi.d) (hs : b[a]? = some s) (hu : us[a]? = some t) : IL (nc b a s u) us = IL b (us.set a (if u then cf (-1) + (1 - cf (-1)) * t else cf (-1) * t)) := by
 have hsm := Sp hs;have ha := (SC.1 hs).1;have hau := (SC.1 hu).1;obtain ⟨m, e0, e1, e2, e3, e4, e5⟩ := oU (hb s hsm);refine S0 fun i => ?_;unfold IL nc;rw [UW, UW, Tz, Tz];by_cases hi : a = i
 ·subst hi;rw [Sj rfl, Sj rfl, Sj (by rw [Sx]; exact ha), Sj hau, hs, hu];show some _ = some _;congr 1;have h2 := sD
  cases u with
  | false =>
   have hup : (s.f.half (nR s.f.lP) false).lo.d < (s.f.half (nR s.f.lP) false).hi.d := by show s.f.lo.d < (nR s.f.lP).d; rw [e0, e2]; exact e4
   obtain ⟨k1, k2⟩ := Mt hup;show (s.f.half (nR s.f.lP) false).L + ((s.f.half (nR s.f.lP) false).H - (s.f.half (nR s.f.lP) false).L) * t = s.L + (s.H - s.L) * (cf (-1) * t);rw [k1, k2];show s.f.lo.d + ((nR s.f.lP).d - s.f.lo.d) * t = s.L + (s.H - s.L) * (cf (-1) * t);rw [e0, e2];have : m - s.L = (s.H - s.L) * cf (-1) := by grind
   rw [this];grind
  | true =>
   have hup : (s.f.half (nR s.f.lP) true).lo.d < (s.f.half (nR s.f.lP) true).hi.d := by show (nR s.f.lP).d < s.f.hi.d; rw [e0, e3]; exact e5
   obtain ⟨k1, k2⟩ := Mt hup;show (s.f.half (nR s.f.lP) true).L + ((s.f.half (nR s.f.lP) true).H - (s.f.half (nR s.f.lP) true).L) * t = s.L + (s.H - s.L) * (cf (-1) + (1 - cf (-1)) * t);rw [k1, k2];show (nR s.f.lP).d + (s.f.hi.d - (nR s.f.lP).d) * t = s.L + (s.H - s.L) * (cf (-1) + (1 - cf (-1)) * t);rw [e0, e3];have g1 : m = s.L + (s.H - s.L) * cf (-1) := by grind
   have g2 : s.H - m = (s.H - s.L) * (1 - cf (-1)) := by grind
   rw [g2]
   conv => lhs; rw [g1]
   grind
 ·rw [Si hi, Si hi, St]
  cases hy : b[i]? with
  | none => rfl
  | some y =>
   show some (y.f.L + (y.f.H - y.f.L) * _) = some (y.L + (y.H - y.L) * _);rw [SR.QX, SR.QR]
theorem IJ.half {ns : List Nat} {X : List Dyadic} {a : Nat} {s : SR} (h : IJ l ns b X) (hs : b[a]? = some s) (u : Bool) : IJ l ns (nc b a s u) (iZ u (cf (-1)) ns a X) := by
 have hbl := h.bl;have ha := (SC.1 hs).1;refine ⟨r8 _ _ _ _ _, by unfold nc; rw [TL, Sx]; exact hbl, JO h.up hs, fun ts ht => ?_⟩;obtain ⟨t, hu⟩ := av (l := ts.reverse) (k := a) (by rw [SZ]; omega);have hse : ts = (ts.reverse.set a t).reverse := by
  have : ts.reverse.set a t = ts.reverse := by
   refine S0 fun i => ?_;rw [Tz];by_cases hi : a = i
   ·subst hi;rw [Sj rfl, Sj (by rw [SZ]; omega), hu]
   ·rw [Si hi]
  rw [this, U0]
 obtain ⟨v1, v2⟩ := EW (ns := ns) (a := a) Sd (cf (-1)) t X ts.reverse (by rw [SZ]; exact ht);rw [J9 h.up hs hu]
 cases u with
 | false =>
  conv => lhs; rw [hse]
  rw [v1, h.vl _ (by simp; omega), U0]
  rfl
 | true =>
  conv => lhs; rw [hse]
  rw [v2, h.vl _ (by simp; omega), U0]
  rfl
theorem yo (hb : ko b.length h = false) : ∃ s, b[(h / 2).toNat]? = some s ∧ gJ b h = some (nc b (h / 2).toNat s (decide (h % 2 = 1))) := by
 unfold ko at hb;have h1 := of_decide_eq_false hb;have h0 : 0 ≤ h := Sd;have e1 : h.fdiv 2 = h / 2 := Int.fdiv_eq_ediv_of_nonneg _ Se;have e2 : h.tdiv 2 = h / 2 := Vb h0;rw [e2] at h1;obtain ⟨s, hs⟩ := av (l := b) (k := (h / 2).toNat) Sd;refine ⟨s, hs, ?_⟩;unfold gJ;rw [e1, Si Sd, hs]
 rfl
theorem rM {a : Nat} {s : SR} {u : Bool} (hb : ∀ z ∈ b, z.fin k) (hk : k + 2 ≤ 3000000) (hs : b[a]? = some s) : ∀ z ∈ nc b a s u, z.fin (k + 2) := by
 have ha := (SC.1 hs).1;have h1 : gJ b (2 * (a : Int) + if u then 1 else 0) = some (nc b a s u) := by
  obtain ⟨s2, h2, h3⟩ := yo (b := b) (h := 2 * (a : Int) + if u then 1 else 0) (by
   unfold ko;refine SQ ?_;rw [Vb (by split <;> omega)];split <;> omega)
  have e1 : ((2 * (a : Int) + if u then 1 else 0) / 2).toNat = a := by split <;> omega
  have e2 : decide ((2 * (a : Int) + if u then 1 else 0) % 2 = 1) = u := by
   cases u with
   | true => exact SF (by show (2 * (a : Int) + 1) % 2 = 1; omega)
   | false => exact SQ (by show ¬ (2 * (a : Int) + 0) % 2 = 1; omega)
  rw [e1] at h2;rw [hs] at h2;rw [h3, e1, e2, Tc h2]
 exact (nO hb hk h1).1
theorem Ee (hb : ko b.length h = true) : gJ b h = none := by
 unfold ko at hb;have h1 := Ug hb;have e1 : h.fdiv 2 = h / 2 := Int.fdiv_eq_ediv_of_nonneg _ Se;unfold gJ;rw [e1];by_cases h0 : h < 0
 ·rw [Sj Sd]
 ·have e2 : h.tdiv 2 = h / 2 := Vb Sd;rw [e2] at h1;rw [Si Sd, Sw Sd]
  rfl
theorem DS {l : List TR} {ns : List Nat} : ∀ (hs : List Int) (b : List SR) (X : List Dyadic) (k : Nat), IJ l ns b X → (∀ z ∈ b, z.fin k) → k + 2 * hs.length ≤ 1000 →
  (hs.any (ko ns.length) = false → ∃ b', lS b hs = some b' ∧ IJ l ns b' (kK ns X hs) ∧ ∀ z ∈ b', z.fin (k + 2 * hs.length)) ∧ (hs.any (ko ns.length) = true → lS b hs = none)
 | [], b, X, k, ho, hb, _ => ⟨fun _ => ⟨b, rfl, ho, hb⟩, fun h => (by cases h)⟩
 | h :: hs, b, X, k, ho, hb, hk => by
  rw [SG] at hk;have hps : lS b (h :: hs) = hs.foldl (fun o h => o.bind (gJ · h)) (gJ b h) := rfl;rw [UQ, ← ho.bl]
  cases hbad : ko b.length h with
  | true =>
   rw [Bool.true_or];exact ⟨fun h => (by cases h), fun _ => by rw [hps, Ee hbad, td]⟩
  | false =>
   obtain ⟨s, hs1, hs2⟩ := yo hbad;have ho2 := ho.half hs1 (decide (h % 2 = 1));obtain ⟨hf, _⟩ := nO (k := k) hb Sd hs2;obtain ⟨i1, i2⟩ := DS hs _ _ (k + 2) ho2 hf Sd;rw [Tf, ho.bl, hps, hs2];refine ⟨fun he => ?_, i2⟩;obtain ⟨b', p1, p2, p3⟩ := i1 he;exact ⟨b', p1, p2, fun z hz => by have := p3 z hz; rwa [show k + 2 * (h :: hs).length = k + 2 + 2 * hs.length by rw [SG]; omega]⟩
theorem Nk (h0 : b.length ≠ 0) (h : ∀ s ∈ b, s.lo.d < s.hi.d) : kM b = 0 := by
 unfold kM;rw [Si, Si h0];rw [Bool.not_eq_true, TA];intro s hs;have := h s hs;simpa using this
structure L0 (p : PX) (b : List SR) (ns : List Nat) (X : List Dyadic) : Prop where
 e : pe p b (bL ns) = 0
 x : rh ns (df p (bj b)).2 = X
theorem uJ {p : PX} {c : List SR} {ns : List Nat} {X : List Dyadic} (hF : m8 p b ns) (gp : C8 p.v 124 8 4 p.ts) (hc : ar ns ≤ 100) (ho : IJ p.ts ns c X) (hb : ∀ z ∈ c, z.fin 140) : L0 p c ns X := by
 have hnl := hF.nl;have hbl := ho.bl;have hcb : c.length = b.length := Sd;have hpos := hF.pos;obtain ⟨b1, b2, b3⟩ := Mw (k := 140) hF.e (Nk Sd ho.up) Sd (by rw [hcb]; exact hF.v) Sd hF.low Sd hF.own hb Se;have vp := Dk b2 b3 (gp.ok.mono (show 124 ≤ 140 by decide)) hb Se (uW (k := 140) hF.e gp.ex (hF.J8 hc) Se);refine ⟨b1, val_inj (ds := ns.reverse) (by rw [o5, dn]) (by rw [ho.len, dn]) fun ts ht => ?_⟩;rw [SZ] at ht;rw [vp.vl ts ht, ho.vl ts ht]
theorem OU {p : PX} {ns : List Nat} (hF : m8 p b ns) (h : FN p b ns) : IJ p.ts ns b (rh ns (df p (bj b)).2) := ⟨o5 _ _, hF.nl.symm, fun s hs => L8 hF.box hs, h.vl⟩
theorem Qv {ns : List Nat} {X : List Dyadic} (h : IJ l ns b X) : IJ l ns (b.map SR.f) X := by
 have hbl := h.bl;refine ⟨h.len, by rw [Sx]; exact hbl, fun z hz => ?_, fun ts ht => ?_⟩
 ·obtain ⟨y, hy, rfl⟩ := SB.1 hz;obtain ⟨m2, f0, f1, f2, f3, f4, f5⟩ := oU (h.up y hy);rw [f2, f3];grind
 ·rw [h.vl ts ht];congr 1;unfold IL;refine S0 fun i => ?_;rw [UW, UW, St]
  cases hy : b[i]? with
  | none => rfl
  | some y =>
   show some (y.L + (y.H - y.L) * _) = some (y.f.L + (y.f.H - y.f.L) * _);rw [SR.QX, SR.QR]
theorem wm (L : Option Addr) (n c : Nat) (b : List SR) (ax : Int) (G : Int) (w : World) (hT : dD w) (hS : Sl w L n 6 (aw SR.cells b)) (hbl : b.length = n) (hb : ∀ s ∈ b, s.fin 124) (hn : n ≤ 20) (hG : G = if ax < 0 ∨ (n : Int) ≤ ax then 1 else 0) :
  Calls Tryz.prog 22 #[.slice L n c, .int .i64 ax] w fun r w' => ∃ (A : Option Addr) (m1 c1 : Nat) (B : Option Addr) (m2 c2 : Nat) (R : List HE), r = .returned (.tuple #[.slice A m1 c1, .slice B m2 c2, .int .i64 G]) ∧ (G = 0 → ∃ (a : Nat) (s : SR), ax = a ∧ b[a]? = some s ∧ m1 = n ∧ m2 = n ∧ R = [.row B n c2 81 6 (aw SR.cells (nc b a s true)), .row A n c1 81 6 (aw SR.cells (nc b a s false))]) ∧ Hp w R w' := by
 by_cases hbad : ax < 0 ∨ (n : Int) ≤ ax
 ·rw [Sj hbad] at hG;subst hG;exact (rU L n c ax w hbad).mono fun r w' ⟨hr, hb⟩ => ⟨none, 0, 0, none, 0, 0, [], hr, fun h => absurd h Se, (Hp.start w).ext hb⟩
 ·rw [Si hbad] at hG;subst hG;obtain ⟨a, rfl⟩ : ∃ a : Nat, ax = a := ⟨ax.toNat, Sd⟩;obtain ⟨s, hs⟩ := av (l := b) (k := a) Sd;exact (oI L n c b a s 124 w hT hS hb Sd Se hs).mono fun r w' ⟨A, c1, B, c2, hr, hh⟩ => ⟨A, n, c1, B, n, c2, _, hr, fun _ => ⟨a, s, rfl, hs, rfl, rfl, rfl⟩, hh⟩
set_option maxRecDepth 10000 in
theorem sW (p : PX) (L : Option Addr) (n c : Nat) (b : List SR) (ax : Int) (M : Option Addr) (m mc : Nat) (hs : List Int) (w : World) (hT : dD w) (hp : p.at_ w) (hpc : p.n ≤ p.c) (hB : Sl w L n 6 (aw SR.cells b)) (hM : Sl w M m 1 (bm hs)) (hz : ∀ h ∈ hs, -9223372036854775808 ≤ h ∧ h ≤ 9223372036854775807) :
  Calls Tryz.prog 4 #[.agg #[.int .i64 p.v, .slice p.A p.n p.c], .slice L n c, .int .i64 ax, .slice M m mc] w fun r w' => r = .returned (.bool true) ∧ Below w.heap.size w w' := by
 have hh := Hp.start w;have hpl := hp.ln;have hbl : b.length = n := hB.bz SR.len Se;have hml : hs.length = m := by have := hM.1; simpa [bm] using this
 refine aj (N := 141) (l := [.agg #[.int .i64 p.v, .slice p.A p.n p.c], .slice L n c, .int .i64 ax, .slice M m mc]) Tryz.func4 rfl rfl (by simp) ?_;refine sr ?_;refine cq hh [_,_] ?_;intro b4 w4 hh;refine aB (aa (ah (sr ?_)));refine cu hh 0 [_,_] (mL ?_);refine aC (wA p L n c b _ (hT.hp hh) (hp.ext hh.below) hpc (hB.ext hh.below)) ak.out rfl Se ?_;rintro e_ w29 ⟨v, rfl, hv, hb_⟩;refine ⟨_, rfl, ?_⟩;replace hh := hh.ext hb_
 cases v with
 | false =>
  refine fF ?_;refine mB ?_;refine gS (gS (gS ?_));refine fV ?_;exact Lo
 | true =>
  obtain ⟨Mv, hsm⟩ := hv rfl;clear hv;by_cases h6 : 6 < m
  ·refine fF ?_;refine mB (gT (mL (gT (aK (gT ?_)))));refine cg ?_;refine fa ?_;exact Lo
  ·have f8p := hsm.P8;have lp := f8p.kq hp hpc;have hof := fun w1 hT1 hb1 => uH p L n c b none 0 0 [] 124 w1 hT1 (hp.ext hb1) lp (hB.ext hb1) hsm.box Sd (Sl.nil _ _ _) Se (So _) Se (fun h => hsm.grow Se (wD h).2.e);have hE0 : pe p b [] = 0 → m8 p b (cZ p.v p.ts) ∧ (df p (bj b)).1 = 0 := fun h => by
    obtain ⟨a1, a2⟩ := Ej h;exact ⟨(wD a1).2, a2⟩
   replace hof : ∀ w1, dD w1 → Below w.heap.size w w1 → Calls Tryz.prog 20 #[.agg #[.int .i64 p.v, .slice p.A p.n p.c], .slice L n c, .slice none 0 0] w1 fun r w' => ∃ g : FX, Out (pe p b []) (cZ p.v p.ts) (rh (cZ p.v p.ts) (df p (bj b)).2) g ∧ r = .returned (.tuple #[.agg #[.slice g.A g.n g.a, .slice g.B g.m g.b], .int .i64 (pe p b [])]) ∧ Hp w1 [g.jv, g.jn] w' := hof;generalize pe p b [] = E at *;refine fF ?_;refine mB (gT (mL (gT (aK (gT ?_)))));refine cg ?_;refine fa ?_;refine qX ?_;refine cu hh 0 [_,_] (mL ?_);refine aC (hof _ (hT.hp hh) hh.below) ak.out rfl Se ?_;rintro e_ w40 ⟨f0, o1, rfl, h4⟩;refine ⟨_, rfl, ?_⟩;have hfa : f0.n ≤ f0.a := h4.fH (i := 1) rfl;replace hh := hh.join h4;clear h4;simp only [Sv, Ss] at hh;replace hh := show Hp w (.row f0.B f0.m f0.b 65 3 (aw NR.cells f0.cs) :: .row f0.A f0.n f0.a 3 1 (bm f0.ds) :: _) _ from hh;by_cases hE : E = 0
   ·subst hE;obtain ⟨hF, hZ⟩ := hE0 rfl;clear hE0 hof;obtain ⟨e1, e2, e3⟩ := o1.fe (by rw [hF.nl]; exact hF.l5) hF.low (o5 _ _) hF.most;obtain ⟨⟨s1, s2⟩, s3⟩ := hsm.small Se Se hF hZ;have hns : f0.ns = cZ p.v p.ts := by unfold FX.ns; rw [e2, nI]
    have hfn : f0.n = n := by
     have h8 := (hh.aD (i := 1) rfl).1;rw [cL, e2, ig, hF.nl] at h8;omega
    have hcnt := hsm.P4 hF.e;have hfm : f0.m ≤ 100 := by
     have h8 := (hh.aD (i := 0) rfl).bz NR.len Se;rw [e3, Sx, o5] at h8;omega
    have n12 := hF.l5;have hlf : f0.kq 47000 := ⟨Sd, Sd, fun z hz => by
     rw [e3] at hz;obtain ⟨y, hy, rfl⟩ := SB.1 hz;rw [cn];exact ⟨(s3 y hy).ok Se, s3 y hy⟩⟩
    have hX : f0.cs.map NR.d = rh (cZ p.v p.ts) (df p (bj b)).2 := by
     rw [e3, Ty];refine (Um fun x _ => ?_).trans (UY _);exact cn x
    have gp := f8p.OX hF.e;have hfo := Dk hF hZ gp.ok hsm.box Se (hsm.grow Se hF.e);have hon := OU hF hfo;have hd4 : ∀ d ∈ cZ p.v p.ts, d ≤ 4 := fun d hd => AL hF.e hsm.ex d hd;have h140 : ∀ k, k ≤ 140 → ∀ c : List SR, (∀ z ∈ c, z.fin k) → ∀ z ∈ c, z.fin 140 := fun k hk c hc z hz => ⟨(hc z hz).1.up hk, (hc z hz).2.up hk⟩;have hha := fun w1 hT1 hf => xG f0 ax 47000 2 w1 hT1 hf hlf hfa iT.1 iT.2 Se (fun _ d hd => by
     rw [hns] at hd;have h1 := hd4 d hd;have h2 : f0.m * (260 + 2 * (2 * d)) ≤ 100 * (260 + 2 * (2 * 4)) := Tw hfm Sd;omega)
    have hG : fZ f0 ax = if ax < 0 ∨ (n : Int) ≤ ax then 1 else 0 := by
     unfold fZ;rw [Si (fun c => c e1), hfn]
    rw [hns, hX] at hha;have hbh := fun w1 hT1 hS1 => wm L n c b ax (fZ f0 ax) w1 hT1 hS1 hbl hsm.box Mv hG;have hpa := fun w1 hT1 hf hS1 => DQ f0 M m mc hs 47000 2 4 w1 hT1 hf hlf hfa hS1 Sd hz iT.1 iT.2 Se (fun _ d hd => by rw [hns] at hd; exact hd4 d hd) Se (by
     have h2 : f0.m * (260 + 2 * (2 * 4)) ≤ 100 * (260 + 2 * (2 * 4)) := S9 _ hfm;have h3 : m * (260 + 2 * (2 * 4)) ≤ 6 * (260 + 2 * (2 * 4)) := S9 _ Sd;omega)
    have hPE : ir f0 hs = if hs.any (ko f0.n) = true then 1 else 0 := by
     unfold ir;rw [Si (fun c => c e1)]
    rw [hns, hX] at hpa;have hbp := fun w1 hT1 hS1 hS2 => zr L n c b M m mc hs 124 w1 hT1 hS1 hsm.box hS2 Sd Sd hml;obtain ⟨po1, po2⟩ := DS hs (b.map SR.f) _ 124 (Qv hon) (fun z hz => by
     obtain ⟨y, hy, rfl⟩ := SB.1 hz;exact SR.ym (hsm.box y hy) Se) Sd
    have hhalf := fun (a : Nat) (s : SR) (u : Bool) (hs1 : b[a]? = some s) => uJ hF gp hcnt (hon.half hs1 u) (h140 126 Se _ (rM hsm.box Se hs1));have hpart := fun (b' : List SR) (Y : List Dyadic) (ho : IJ p.ts (cZ p.v p.ts) b' Y) (hb : ∀ z ∈ b', z.fin 140) => uJ (c := b') hF gp hcnt ho hb;have hn0 : (cZ p.v p.ts).length ≠ 0 := by rw [hF.nl]; have := hF.pos; omega
    have hgr : fU (140 + 140 + 16394) (cZ p.v p.ts) (140 + 1) ≤ 440000 := uW hF.e gp.ex hcnt Se;have lp2 : p.kq 140 := ⟨lp.n, lp.cap, lp.ok.mono Se, lp.sz⟩;have hof2 := fun (A : Option Addr) (c1 : Nat) (b' : List SR) (Y : List Dyadic) (hP : L0 p b' (cZ p.v p.ts) Y) (hb' : ∀ z ∈ b', z.fin 140) w1 hT1 hb1 hS1 hd => uH p A n c1 b' f0.A f0.n f0.a (bL (cZ p.v p.ts)) 140 w1 hT1 (hp.ext hb1) lp2 hS1 hb' Sd hd Sd hfa Se (fun _ => hgr);rw [e2] at hh;generalize hGG : fZ f0 ax = G at *;generalize hPP : ir f0 hs = P_ at *;refine mT ?_;refine cE ?_;refine cE ?_;refine bJ hh ?_;intro b9 w9 hh;refine bK hh 0 [_,_] ?_;intro ws hh;replace hh : Hp _ (.blk _ _ [_, _] _ :: _) _ := hh;refine aI (aa (ah (sr (mI ?_))));refine vq ?_;refine cu hh 0 [_,_] (mI ?_);refine aC (hha _ (hT.hp hh) ⟨by rw [e2]; exact hh.aD (i := 2) rfl, hh.aD (i := 1) rfl⟩) ak.out rfl Se ?_;rintro e_ w49 ⟨g, h, og, oh, rfl, h4⟩;refine ⟨_, rfl, ?_⟩;replace hh := hh.join h4;clear h4;simp only [Sv, Ss] at hh;replace hh := show Hp w (.row h.B h.m h.b 65 3 (aw NR.cells h.cs) :: .row h.A h.n h.a 3 1 (bm h.ds) :: .row g.A g.n g.a 3 1 (bm g.ds) :: .row g.B g.m g.b 65 3 (aw NR.cells g.cs) :: _) _ from hh
    refine mT ?_;refine cE ?_;refine cE ?_;refine cE ?_;refine bJ hh ?_;intro b11 w11 hh;refine bJ hh ?_;intro b12 w12 hh;refine bK hh 1 [_,_] ?_;intro ws hh;replace hh : Hp _ (_ :: .blk _ _ [_, _] _ :: _) _ := hh;refine bK hh 0 [_,_] ?_;intro ws hh;replace hh : Hp _ (.blk _ _ [_, _] _ :: _) _ := hh;refine aI (aa (sr (mL (mI ?_))));refine aC (hbh _ (hT.hp hh) (hB.ext hh.below)) ak.out rfl Se ?_;rintro e_ w56 ⟨A1, m1, c1, A2, m2, c2, R, rfl, hR, h4⟩;refine ⟨_, rfl, ?_⟩;replace hh := (hh.join h4).perm List.perm_append_comm;clear h4;simp only [Sv, Ss] at hh;refine mT ?_;refine cE ?_;refine cE ?_;refine cE ?_;refine aL (aL (aI (aa (ah (sr (mI (mI ?_)))))));refine cX (aa (cF (aq (ai ?_))));refine uQ [8, 17, 18, 19, 20, 63, 64, 65, 66, 67, 68, 69, 70, 71, 72, 73, 74, 75, 76, 77, 78, 79, 80, 81, 82, 83, 84, 85, 86, 87, 88, 89, 90, 91, 92, 93, 94, 95, 96, 97, 98]
     (fun w' => Hp w [.blk b9 39 [.slice f0.A f0.n f0.a, .slice f0.B f0.m f0.b] (0, 0), .row f0.B f0.m f0.b 65 3 (aw NR.cells f0.cs), .row f0.A f0.n f0.a 3 1 (bm (bL (cZ p.v p.ts))), .blk b4 24 [.int .i64 p.v, .slice p.A p.n p.c] (0, 0)] w') ?_ ?_
    ·by_cases hG0 : G = 0
     ·obtain ⟨a, s, hax, hs1, hm1, hm2, hRR⟩ := hR hG0;subst hG0;obtain rfl : n = m1 := hm1.symm;obtain rfl : n = m2 := hm2.symm;subst hRR;subst hax;have P1 := hhalf a s false hs1;have P2 := hhalf a s true hs1;have hl1 := hof2 A1 c1 _ _ P1 (h140 126 Se _ (rM hsm.box Se hs1));have hl2 := hof2 A2 c2 _ _ P2 (h140 126 Se _ (rM hsm.box Se hs1));rw [P1.e, xo hn0, P1.x] at hl1;rw [P2.e, xo hn0, P2.x] at hl2;rw [T7] at og oh;refine sr (mI ?_);refine cH (aa (cT (sr ?_)));refine cu hh 9 [_,_] (mL (bF ?_));refine bE hh 6 ?_;refine aC (hl1 _ (hT.hp hh) hh.below (hh.aD (i := 11) rfl) (hh.aD (i := 8) rfl)) ak.out rfl Se ?_;rintro e_ w70 ⟨u, ou, rfl, h4⟩;refine ⟨_, rfl, ?_⟩;replace hh := hh.join h4;clear h4;simp only [Sv, Ss] at hh;replace hh := show Hp w (.row u.B u.m u.b 65 3 (aw NR.cells u.cs) :: .row u.A u.n u.a 3 1 (bm u.ds) :: _) _ from hh;refine mT ?_;refine cE ?_;refine cE ?_;refine bJ hh ?_;intro b17 w17 hh;refine bK hh 0 [_,_] ?_;intro ws hh;replace hh : Hp _ (.blk _ _ [_, _] _ :: _) _ := hh;refine aI (aa (sr ?_));refine cu hh 12 [_,_] (mL (bF ?_));refine bE hh 9 ?_
      refine aC (hl2 _ (hT.hp hh) hh.below (hh.aD (i := 13) rfl) (hh.aD (i := 11) rfl)) ak.out rfl Se ?_;rintro e_ w78 ⟨v, ov, rfl, h4⟩;refine ⟨_, rfl, ?_⟩;replace hh := hh.join h4;clear h4;simp only [Sv, Ss] at hh;replace hh := show Hp w (.row v.B v.m v.b 65 3 (aw NR.cells v.cs) :: .row v.A v.n v.a 3 1 (bm v.ds) :: _) _ from hh;refine mT ?_;refine cE ?_;refine cE ?_;refine bJ hh ?_;intro b19 w19 hh;refine bK hh 0 [_,_] ?_;intro ws hh;replace hh : Hp _ (.blk _ _ [_, _] _ :: _) _ := hh;refine aI (aa (sr (mI ?_)));refine cX (mB (gT (mI (gT ?_))));refine cX ?_;refine fa ?_;refine mB (gT ?_);refine cu hh 7 [_,_] (gT ?_);refine cu hh 3 [_,_] ?_;refine aH rfl rfl ?_;refine br hh (dT g u _ ⟨hh.aD (i := 10) rfl, hh.aD (i := 11) rfl⟩ ⟨hh.aD (i := 5) rfl, hh.aD (i := 4) rfl⟩ ⟨by rw [og.ds, ou.ds], by rw [og.cs, ou.cs]⟩ og.n og.m) rfl ?_;intro w90 hh;refine gT ?_;refine fF ?_;refine fa ?_;refine mB (gT ?_);refine cu hh 6 [_,_] (gT ?_);refine cu hh 0 [_,_] ?_;refine aH rfl rfl ?_;refine br hh (dT h v _ ⟨hh.aD (i := 9) rfl, hh.aD (i := 8) rfl⟩ ⟨hh.aD (i := 2) rfl, hh.aD (i := 1) rfl⟩ ⟨by rw [oh.ds, ov.ds], by rw [oh.cs, ov.cs]⟩ oh.n oh.m) rfl ?_;intro w96 hh
      refine gT ?_;refine fF ?_;refine fa ?_;refine aa (cF (aq (ai ?_)));replace hh := hh.sub (Sm _ (Sm _ (Sm _ (Sm _ (Sm _ (Sm _ (Sm _ (Sm _ (Sm _ (Sm _ (Sm _ (Sm _ (Sk _ (Sk _ (Sk _ (Sk _ (Sm _ (Sm _ SD))))))))))))))))));refine ⟨hh, ?_⟩;exact E6
     ·refine sr (mI ?_);refine cH (aa (cF (aq (ai ?_))));replace hh := hh.sub (.cons _ (.cons _ (.cons _ (.cons _ (.cons _ (.cons _ (.cons_cons _ (.cons_cons _ (.cons_cons _ (.cons_cons _ (TN _)))))))))));refine ⟨hh, ?_⟩;exact E6
    ·skip;clear hh hR og oh hha hbh hhalf;rintro ρ' w' hh;refine sr ?_;refine cu hh 0 [_,_] (mL ?_);refine aC (hpa _ (hT.hp hh) ⟨by rw [e2]; exact hh.aD (i := 2) rfl, hh.aD (i := 1) rfl⟩ (hM.ext hh.below)) ak.out rfl Se ?_;rintro e_ w102 ⟨q, oq, rfl, h4⟩;refine ⟨_, rfl, ?_⟩;replace hh := hh.join h4;clear h4;simp only [Sv, Ss] at hh;replace hh := show Hp w (.row q.B q.m q.b 65 3 (aw NR.cells q.cs) :: .row q.A q.n q.a 3 1 (bm q.ds) :: _) _ from hh;refine mT ?_;refine cE ?_;refine cE ?_;refine bJ hh ?_;intro b21 w21 hh;refine bK hh 0 [_,_] ?_;intro ws hh;replace hh : Hp _ (.blk _ _ [_, _] _ :: _) _ := hh;refine aI (aa (sr (mL (mL ?_))));rw [hfn] at hPE;rw [hF.nl, hbl] at po1 po2
     cases hany : hs.any (ko n) with
     | true =>
      rw [hany, Sj rfl] at hPE;subst hPE;have hb1 := fun w1 hT1 hS1 hS2 => (hbp w1 hT1 hS1 hS2).mono fun r w' h => (show r = .returned (.tuple #[.slice none 0 0, .int .i64 1]) ∧ Below w1.heap.size w1 w' from by rw [po2 hany] at h; exact h);refine br hh (hb1 _ (hT.hp hh) (hB.ext hh.below) (hM.ext hh.below)) rfl ?_;intro w108 hh;refine mT ?_;refine cE ?_;refine cE ?_;refine aL (aI (aa (ah (sr (mI ?_)))));refine cX (mB ?_);refine gS (gS ?_);refine fV ?_;refine aa (cT (sr (mI (mI ?_))));refine cH (mB ?_);refine aH rfl rfl ?_;refine br hh (jy _ (hT.hp hh)) rfl ?_;intro w121 hh;refine fV ?_;exact MB
     | false =>
      rw [hany, Si Se] at hPE;subst hPE;obtain ⟨b', p1, ob, fb⟩ := po1 hany;have fb2 := h140 (124 + 2 * hs.length) Sd _ fb;have PP := hpart b' _ ob fb2;have hbl2 : b'.length = n := by rw [ob.bl, hF.nl, hbl]
      have hb1 := fun w1 hT1 hS1 hS2 => (hbp w1 hT1 hS1 hS2).mono fun r w' h => (show (∃ A c', r = .returned (.tuple #[.slice A n c', .int .i64 0]) ∧ w'.ownsRow w1.heap.size 81 6 (.slice A n c') n (aw SR.cells b')) ∧ Below w1.heap.size w1 w' from by rw [p1] at h; exact h);refine aC (hb1 _ (hT.hp hh) (hB.ext hh.below) (hM.ext hh.below)) ak.out rfl Se ?_;rintro e_ w108 ⟨⟨A3, c3, rfl, hown_⟩, hb_⟩;refine ⟨_, rfl, ?_⟩;replace hh := hh.aO (x := .row _ _ _ _ _ _) hb_ hown_;have hl3 := hof2 A3 c3 _ _ PP fb2;rw [PP.e, xo hn0, PP.x] at hl3;refine mT ?_;refine cE ?_;refine cE ?_;refine aL (aI (aa (ah (sr (mI ?_)))));refine cX (mB (gT (mI (gT ?_))));refine cX ?_;refine fa ?_;refine qX ?_;refine cu hh 7 [_,_] (mL (bF ?_));refine bE hh 4 ?_;refine aC (hl3 _ (hT.hp hh) hh.below (hh.aD (i := 0) rfl) (hh.aD (i := 6) rfl)) ak.out rfl Se ?_;rintro e_ w128 ⟨u, ou, rfl, h4⟩;refine ⟨_, rfl, ?_⟩;replace hh := hh.join h4;clear h4;simp only [Sv, Ss] at hh;replace hh := show Hp w (.row u.B u.m u.b 65 3 (aw NR.cells u.cs) :: .row u.A u.n u.a 3 1 (bm u.ds) :: _) _ from hh;refine mT ?_;refine cE ?_;refine cE ?_;refine bJ hh ?_;intro b25 w25 hh;refine bK hh 0 [_,_] ?_;intro ws hh
      replace hh : Hp _ (.blk _ _ [_, _] _ :: _) _ := hh;refine aI (aa (sr (mI ?_)));refine cH (mB (gT ?_));refine cu hh 4 [_,_] (gT ?_);refine cu hh 0 [_,_] ?_;refine aH rfl rfl ?_;refine br hh (dT q u _ ⟨hh.aD (i := 6) rfl, hh.aD (i := 5) rfl⟩ ⟨hh.aD (i := 2) rfl, hh.aD (i := 1) rfl⟩ ⟨by rw [oq.ds, ou.ds], by rw [oq.cs, ou.cs]⟩ oq.n oq.m) rfl ?_;intro w136 hh;refine fV ?_;refine mB ?_;refine aH rfl rfl ?_;refine br hh (jy _ (hT.hp hh)) rfl ?_;intro w139 hh;refine fV ?_;exact vV
   ·refine mT ?_;refine cE ?_;refine cE ?_;refine bJ hh ?_;intro b9 w9 hh;refine bK hh 0 [_,_] ?_;intro ws hh;replace hh : Hp _ (.blk _ _ [_, _] _ :: _) _ := hh;refine aI (aa (ah (sr (mI ?_))));refine cX (aa (cT (sr ?_)));refine br hh (jy _ (hT.hp hh)) rfl ?_;intro w45 hh;exact MB
end Go.Proofs.YteeckcbbnegmcaaGreatDoor
namespace Go.Proofs.YteeckcbbnegmcaaGreatDoor.castSame
open Go.ChangeShapes Go.WideShapes Go.ChangeAt Go.RowKit Go.ChangeMaps
theorem own : ownKnob Tryz.prog.godebug = none := by kernel_rfl
set_option maxRecDepth 100000 in
theorem lifted (os : Os) (started : os.Started) (H : Type) (enc : TypeId × Value → H) :
  ReturnsInHanded {} Tryz.checked os 4 .any (fun w args => (Rows.castSameSpec.pre enc Tryz.prog Tryz.f4 Rows.castSameRow.domain false w args ∧ laidMetH Tryz.prog Rows.castSameRow.laid w) ∧ sizedMet enc Tryz.prog Tryz.f4 (OpenSpec.ofChange Rows.castSameSpec) false w args)
   (Rows.castSameSpec.post enc Tryz.prog Tryz.f4 false true false false) := by
 refine returnsInHanded_of_change_and (C := Tryz.checked) (X := fun w _ => laidMetH Tryz.prog Rows.castSameRow.laid w) (fun _ _ _ hh h => h.of_heap hh) own started Sf Tryz.func4
  (ChangeSpec.witness_shaped (enc := enc) (C := Tryz.checked) (os := os) (X := fun w _ => laidMetH Tryz.prog Rows.castSameRow.laid w) false (World.laidAll Tryz.prog os Rows.castSameRow.laid) #[.agg #[.int .i64 0, .slice none 0 0], .slice none 0 0, .int .i64 0, .slice none 0 0] 8 (World.laidAll_os _ _ _)
   (World.shaped_of_ZipB Sf Sf) Sf Sf Sf
   (by rw [MakeChecks.laidMetH_plain _ _ _ Sf]; exact laidMet_laidAll _ Sf Sf)) ?_
 intro W base args ds gs before hval0 hW hc _ hL _;have hval : ∀ (j : Nat) t v, Tryz.f4.params[j]? = some t → args[j]? = some v → Value.okWide Tryz.prog W .any base t v := hval0;have hW' := hW;obtain ⟨p, q, hA0, hV, rfl, hfz, hnd⟩ := hW;have hA : DataW.TrodAll enc Tryz.prog W 0 (fun _ => true) true Tryz.f4.params.toList args.toList ds p := hA0;rw [Tryz.params4] at hA hval;obtain ⟨v0, vs0, d0, ds0, p0, q0, hargs, rfl, rfl, h0, r0⟩ := trodAll_cons hA;obtain ⟨v1, vs1, d1, ds1, p1, q1, rfl, rfl, rfl, h1, r1⟩ := trodAll_cons r0;obtain ⟨v2, vs2, d2, ds2, p2, q2, rfl, rfl, rfl, h2, r2⟩ := trodAll_cons r1;obtain ⟨v3, vs3, d3, ds3, p3, q3, rfl, rfl, rfl, h3, r3⟩ := trodAll_cons r2;obtain ⟨rfl, rfl, rfl⟩ := trodAll_nil r3;obtain rfl : args = #[v0, v1, v2, v3] := by cases args; simp_all
 obtain ⟨rfl, rfl⟩ := trodVars_none hV;obtain ⟨f0, rfl, hS0, hR0⟩ := EM (hval 0 24 v0 rfl rfl) h0;obtain ⟨A1, n1, c1, l1, rfl, hS1, _⟩ := H5 (hval 1 34 v1 rfl rfl) h1;obtain ⟨x2, rfl, rfl, rfl, b2⟩ := open_int Tryz.underlying3 (hval 2 3 v2 rfl rfl) h2;obtain ⟨A3, n3, c3, l3, rfl, hS3, hI3⟩ := EX (hval 3 35 v3 rfl rfl) h3;refine (sW f0 A1 n1 c1 l1 x2 A3 n3 c3 l3 W (zA hL) hS0 hR0 hS1 hS3 hI3).mono fun e W' ⟨he, hb⟩ => ?_;subst he;exact ⟨_, rfl, FB hW' rfl Sf (by rw [Tryz.params4]; exact Ug Sf) Sf Tryz.underlying4 rfl rfl rfl hb⟩
set_option maxHeartbeats 8000000 in
theorem row_holds : Rows.CastSameSaid :=
 OpenClaim.holds_of_wide 4 Tryz.f4 rfl rfl rfl rfl rfl rfl rfl ⟨rfl, rfl, rfl, rfl, rfl⟩ rfl rfl rfl rfl rfl (by as_aux_lemma => kernel_rfl) Tryz.func4 (by rw [joinedFacts]; simp only [SE]; and_intros <;> as_aux_lemma => kernel_rfl)
  (Ug (by as_aux_lemma => kernel_rfl)) (by unfold Func.isWrapper; first | (rw [Sj (by decide +kernel)]; kernel_rfl) | (rw [Si (by decide +kernel)]; exact ⟨rfl, rfl⟩))
  (fun os started H enc _ => lifted os started H enc)
set_option maxHeartbeats 8000000 in
theorem holds : Rows.CastSameCardSaid :=
 Claim7.holds_tied_plain_at .later [] [.data, .data, .pinned] true (true, "2e00f90462f683c83fa0963bfbbf790e29f51abb4608f860dd030f3668376368") false row_holds (fun _ h => by cases h) (by as_aux_lemma => kernel_rfl) (fun _ h => by cases h) castSame_row_tie rfl ⟨rfl, rfl⟩ (by as_aux_lemma => kernel_rfl) rfl
  (fun f fn hf hfn => by
   obtain rfl : f = 4 := Tc ((show Tryz.prog.funcNamed "ogee/ogeelaw13.CastSame" = some 4 by as_aux_lemma => kernel_rfl).symm.trans hf) |>.symm;obtain rfl : fn = Tryz.f4 := (Tc (Tryz.func4.symm.trans hfn)).symm;exact ⟨by as_aux_lemma => kernel_rfl, fun j t ht => by
    rw [Tryz.params4] at ht;have hm : t ∈ [24, 34, 3, 35] := by simpa using Array.mem_of_getElem? ht
    have hall : ([24, 34, 3, 35].all fun u => !Tryz.prog.wantsStandIn u) = true := by as_aux_lemma => kernel_rfl
    exact (show Tryz.prog.wantsStandIn t = false by simpa using SU.1 hall t hm)⟩)
  (by as_aux_lemma => kernel_rfl)
#print axioms holds
end Go.Proofs.YteeckcbbnegmcaaGreatDoor.castSame
