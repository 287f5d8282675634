/- Lemmas for bernOf, part 7. -/
import Derived.RangeFuncFrom
import Derived.RangeFuncCalls
import Derived.RangeFuncLeaves
import Derived.Shelf.Abstract
import Derived.Test.YteeckcbbnegmcaaGreatDoorZ6
namespace Go.Proofs.YteeckcbbnegmcaaGreatDoor
variable {ts:List TR}
open Go.RowKit
def ez (p:PX) (ls:List PX):Int×List TR:=
 if p.e≠0 then (p.e,[]) else if (ls.length:Int)≠p.v then (1,[]) else if ls.length≠0∧ff ls≠0 then (ff ls,[]) else fL (fu ls) (ls.map PX.ts) 0 p.ts
theorem CK (f:PX) (p:Addr) (x:Int) (w:World) (hp:w.cell? p=some (.int .i64 x)):
  Calls Tryz.prog 155 #[.agg #[.int .i64 f.v,.slice f.A f.n f.c],.pointer (some p)] w fun r w'=>r=.returned (.bool (decide (f.v≠x)))∧Below w.heap.size w w':=by
 have hh:=Hp.start w;by_cases hg:f.v=x
 ·refine aj (N:=8) (l:=[.agg #[.int .i64 f.v,.slice f.A f.n f.c],.pointer (some p)]) Tryz.func155 rfl rfl (by simp) ?_;refine sr ?_;refine cf hh [_,_] ?_;intro b2 w2 hh;refine aB (aa (sr (bE ?_)));refine bB hh 0 ?_;refine bX aO.out rfl ((hh.below.cell (mq hp)).trans hp) VY ?_;exact Ow
 ·refine aj (N:=8) (l:=[.agg #[.int .i64 f.v,.slice f.A f.n f.c],.pointer (some p)]) Tryz.func155 rfl rfl (by simp) ?_;refine sr ?_;refine cf hh [_,_] ?_;intro b2 w2 hh;refine aB (aa (sr (bE ?_)));refine bB hh 0 ?_;refine bX aO.out rfl ((hh.below.cell (mq hp)).trans hp) VY ?_;exact PM
structure Tt (p:PX) (ls:List PX) (k K T c0:Nat) (ds:List Nat):Prop where
 len:ds.length=ls.length
 Sv:∀(i d:Nat),ds[i]?=some d→d≤127∧∀t∈p.ts,j1 i t≤d
 grow:eT c0 ds (k+1)≤440000
 step:K+4096*T+8192≤c0
 top:c0≤440000
 jX:∀g∈ls,g.jX K
 P1:∀g∈ls,g.ts.length≤T
theorem AR {v:Int} (h:gF v ts=0):H4 v 0 ts:=by
 obtain ⟨_,_,h3,h4⟩:=cK h;exact ⟨h4.sO,h3,fun a _ b _=>by rw [XV,XV]⟩
theorem qM (p:PX) (lA:Option Addr) (lc:Nat) (ls:List PX) (k K T c0:Nat) (ds:List Nat) (w:World) (hT:eK w) (hp:p.at_ w) (lp:p.jX k) (hL:Sl w lA ls.length 2 (az PX.cells ls)) (hat:∀g∈ls,g.at_ w) (hlc:ls.length≤lc) (hf:Tt p ls k K T c0 ds):
  Calls Tryz.prog 69 #[.agg #[.int .i64 p.v,.slice p.A p.n p.c],.slice lA ls.length lc] w fun r w'=>∃g:PX,dN (ez p ls).1 (fu ls) (ez p ls).2 g∧r=.returned (.tuple #[.agg #[.int .i64 g.v,.slice g.A g.n g.c],.int .i64 (ez p ls).1])∧Hp w [g.row] w':=by
 have hh:=Hp.start w;have hck:=fun w1 hT1 hb=>n9 p k w1 hT1 (hp.ext hb) lp;unfold ez;by_cases h0:p.e≠0
 ·rw [V2 h0];generalize p.e=e at*;refine aj (N:=54) (l:=[.agg #[.int .i64 p.v,.slice p.A p.n p.c],.slice lA ls.length lc]) Tryz.func69 rfl rfl (by simp) ?_;refine sr ?_;refine cf hh [_,_] ?_;intro b2 w2 hh;refine bQ hh ?_;intro b4 w4 hh;refine aI (aa (ah (sr ?_)));refine cn hh 1 [_,_] ?_;refine gi ?_;intro w12 hh;exact R3
 ·rw [V3 h0];have hpe:p.e=0:=VX;rw [hpe] at hck;by_cases h1:(ls.length:Int)≠p.v
  ·rw [V2 h1];refine aj (N:=54) (l:=[.agg #[.int .i64 p.v,.slice p.A p.n p.c],.slice lA ls.length lc]) Tryz.func69 rfl rfl (by simp) ?_;refine sr ?_;refine cf hh [_,_] ?_;intro b2 w2 hh;refine bQ hh ?_;intro b4 w4 hh;refine aI (aa (ah (sr ?_)));refine cn hh 1 [_,_] ?_;refine gi ?_;intro w12 hh;exact NV
  ·rw [V3 h1];obtain ⟨hfw,h4,hmy,hca⟩:=cK hpe;replace hfw:=dx.1 hfw;have hl12:ls.length≤12:=VX;have hpl:=hp.ln;have hsr:=AR hpe;have hput:=fun (v:Int) (hv:gU v=true) (hz:∀g∈ls,gF v g.ts=0) (hvv:∀g∈ls,g.v=v) w1 hT1 hb=>Cx lA lc K T c0 v ls hv hlc hl12 (fun g hg=>⟨⟨hz g hg,(hf.jX g hg).ok,(hf.jX g hg).sz⟩,hvv g hg,hf.jX g hg,hf.P1 g hg⟩) hf.step hf.top ls 0 p.ts p.A p.n p.c ds k w1 rfl (V5 _) hT1 (hL.ext hb) (fun g hg=>(hat g hg).ext hb) (hp.ext hb) lp.cap (by rw [show ((ls.length:Nat):Int)=p.v by omega];exact hsr) lp.ok VX hf.len (fun i d h=>by rw [Wr];exact hf.Sv i d h) hf.grow;by_cases hn:ls=[]
   ·subst hn;rw [V3 (fun h=>h.1 rfl)];have hpu:=hput 0 rfl (fun g hg=>by cases hg) (fun g hg=>by cases hg);refine aj (N:=54) (l:=[.agg #[.int .i64 p.v,.slice p.A p.n p.c],.slice lA 0 lc]) Tryz.func69 rfl rfl (by simp) ?_;refine sr ?_;refine cf hh [_,_] ?_;intro b2 w2 hh;refine bQ hh ?_;intro b4 w4 hh;refine aI (aa (ah (sr ?_)));refine cn hh 1 [_,_] ?_;refine gi ?_;intro w12 hh;refine aI (aa (sr (mI ?_)));refine k6 ?_;refine bB hh 1 ?_;refine rQ ?_;refine bQ hh ?_;intro b7 w7 hh;refine bR hh 0 [_] ?_;intro ws hh;replace hh:Hp _ (.blk _ _ [_] _::_) _:=hh;refine aa (ah (sr (mL (aF ?_))));refine bM (aa (cF (ao (ai (sr (bE ?_))))));refine bB hh 2 ?_;refine mL ?_;refine bB hh 0 ?_;replace hh:=show Hp w (.blk b7 3 [.int .i64 0] (0,0)::_) _ from hh;exact PV
   ·have hlp0:0<ls.length:=Za.2 hn;obtain ⟨lad,rfl,hlr⟩:=hL.at_ hlp0;refine aj (N:=54) (l:=[.agg #[.int .i64 p.v,.slice p.A p.n p.c],.slice (some lad) ls.length lc]) Tryz.func69 rfl rfl (by simp) ?_;refine sr ?_;refine cf hh [_,_] ?_;intro b2 w2 hh;refine bQ hh ?_;intro b4 w4 hh;refine aI (aa (ah (sr ?_)));refine cn hh 1 [_,_] ?_;refine gi ?_;intro w12 hh;refine aI (aa (sr (mI ?_)));refine k6 ?_;refine bB hh 1 ?_;refine rQ ?_;refine bQ hh ?_;intro b7 w7 hh;refine bR hh 0 [_] ?_;intro ws hh;replace hh:Hp _ (.blk _ _ [_] _::_) _:=hh;refine aa (ah (sr (mL (aF ?_))));refine bM (aa (cT (ah (sr (mL (aF (mI (aa (aq ?_)))))))));replace hh:=show Hp w (.blk b7 3 [.int .i64 0] (0,0)::_) _ from hh;refine aM [5,9,10,28,29,30,31,32,33,34,35,36,37,38] 28
     (fun v w'=>∃i:Nat,i≤ls.length∧v=.int .i64 i∧(ls.take i).any (fun g=>decide (g.e≠0))=false∧Hp w [.blk b7 3 [.int .i64 0] (0,0),.blk b4 24 [.int .i64 0,.slice none 0 0] (0,0),.blk b2 24 [.int .i64 p.v,.slice p.A p.n p.c] (0,0)] w')
     (fun v _=>ls.length-(intOf v).toNat) ?_ ?_
    ·exact ⟨0,V5 _,rfl,rfl,hh⟩
    ·clear hh;rintro ρ' v w' ⟨i,hi,rfl,hall,hh⟩;by_cases hlt:i<ls.length
     ·obtain ⟨g,hx⟩:=ak (l:=ls) (k:=i) hlt;have hmem:=V7 hx;have hc:=fun w1 hT1 hb=>n9 g K w1 hT1 ((hat g hmem).ext hb) (hf.jX g hmem);by_cases he:g.e=0
      ·refine sr ?_;refine dZ ?_;refine bY ?_;refine cA (vs:=[_,_]) aO.out rfl ((hlr.ext hh.below).recAt PX.len hx) rfl VY ?_;refine bQ hh ?_;intro b9 w9 hh;refine bR hh 0 [_,_] ?_;intro ws hh;replace hh:Hp _ (.blk _ _ [_,_] _::_) _:=hh;refine aa (sr ?_);refine cn hh 0 [_,_] ?_;refine br hh (hc _ (hT.hp hh) hh.below) rfl ?_;intro w33 hh;refine aI (aa (sr (mI ?_)));refine cJ (aa (cF (ao (bF (ai (al ?_))))));refine a9 (mI (aA (ai ?_)));replace hh:=hh.sub (V6 _ (V4 _ (V4 _ (V4 _ Wq))));refine ⟨⟨i+1,VX,rfl,by rw [aw hx,Ym,hall,Yw,Yy,Wu VX];rfl,hh⟩,by show ls.length-(i+1)<ls.length-i;omega, ?_⟩;exact dy
      ·have hlk:ff ls=g.e:=by unfold ff;rw [xa hall hx (Wm he)]
       rw [V2 ⟨VX,by rw [hlk];exact he⟩,hlk];refine sr ?_;refine dZ ?_;refine bY ?_;refine cA (vs:=[_,_]) aO.out rfl ((hlr.ext hh.below).recAt PX.len hx) rfl VY ?_;refine bQ hh ?_;intro b9 w9 hh;refine bR hh 0 [_,_] ?_;intro ws hh;replace hh:Hp _ (.blk _ _ [_,_] _::_) _:=hh;refine aa (sr ?_);refine cn hh 0 [_,_] ?_;refine br hh (hc _ (hT.hp hh) hh.below) rfl ?_;intro w33 hh;refine aI (aa (sr (mI ?_)));refine cJ (aa (cT (sr ?_)));refine eV [_,_] (mI ?_);refine bR hh 2 [_,_] ?_;intro ws hh;replace hh:Hp _ (_::_::.blk _ _ [_,_] _::_) _:=hh;refine aI (aa (au (bI (aE (aE (bI (aE (aE ?_))))))));refine mE ?_;exact MY
     ·rw [Wa VX] at hall;have hlk:ff ls=if ls.length=0∨ub ls=true then 1 else 0:=by unfold ff;rw [ju hall]
      obtain ⟨g0,h00⟩:=ak (l:=ls) (k:=0) hlp0;have hhv:fu ls=g0.v:=by
       cases ls with
       |nil=>cases hlp0
       |cons x l=>cases h00;rfl
      have hall0:∀g∈ls,g.e=0:=fun g hg=>by
       have:=XD.1 hall g hg;simpa using this
      refine sr ?_;refine oP ?_;refine Cj ?_;refine jY ?_;refine bX aO.out rfl (((hlr.ext hh.below).recAt PX.len h00).cell (i:=0) rfl) VY ?_;refine bR hh 0 [_] ?_;intro ws hh;replace hh:Hp _ (.blk _ _ [_] _::_) _:=hh;refine aa (sr (mL ?_));refine wW ?_;replace hh:=show Hp w (.blk b7 3 [.int .i64 g0.v] (0,0)::_) _ from hh;rw [←hhv] at hh;have hcell:World.cell? _ ⟨b7,0,none⟩=some (.int .i64 (fu ls)):=hh.eC (i:=0) rfl rfl;have hoa:=fun w1 hb=>ui (some lad) ls.length lc ls 155 [.pointer (some ⟨b7,0,none⟩)] (fun g=>decide (g.v≠fu ls)) w1 (hL.ext (hh.below.trans (hb.mono hh.below.size))) VX (fun z w2 hz hb2=>CK z ⟨b7,0,none⟩ (fu ls) w2 (cx hb2 (cx hb hcell)))
      cases hod:ub ls with
      |true=>
       have hod2:ls.any (fun g=>decide (g.v≠fu ls))=true:=hod;rw [hod2] at hoa;have hl1:ff ls=1:=by rw [hlk,V2 (.inr hod)]
       rw [V2 ⟨VX,by rw [hl1];decide⟩,hl1];refine br hh (hoa _ (Below.refl _ _)) rfl ?_;intro w45 hh;refine aa (cT (sr ?_));refine eV [_,_] ?_;refine bR hh 1 [_,_] ?_;intro ws hh;replace hh:Hp _ (_::.blk _ _ [_,_] _::_) _:=hh;refine aI (aa (au (aE ?_)));refine tU ?_;exact KP
      |false=>
       have hod2:ls.any (fun g=>decide (g.v≠fu ls))=false:=hod;rw [hod2] at hoa;have hl0:ff ls=0:=by
        rw [hlk,V3 (fun h=>h.elim (fun h=>by omega) fun h=>by rw [hod] at h;cases h)]
       rw [V3 (fun h=>h.2 hl0)];have hvv:=(qd hl0).2.2;have hg0:=hall0 g0 (V7 h00);unfold PX.e at hg0;have hpu:=hput (fu ls) (by rw [hhv];exact (cK hg0).1) (fun g hg=>by rw [←hvv g hg];exact hall0 g hg) hvv;refine br hh (hoa _ (Below.refl _ _)) rfl ?_;intro w45 hh;refine tV ?_;refine bB hh 2 ?_;refine mL ?_;refine bB hh 0 ?_;exact PV
theorem s9 {o p:PX}{os ls:List PX} (hv:o.v=p.v) (ht:o.ts=p.ts) (h:os.map PX.norm=ls.map PX.norm):ez o os=ez p ls∧fu os=fu ls:=by
 have h1:ff os=ff ls:=by rw [←vZ,h,vZ]
 have h2:fu os=fu ls:=by rw [←vn,h,vn]
 have h3:os.length=ls.length:=by have:=W8 List.length h;rwa [Wh,Wh] at this
 have h4:os.map PX.ts=ls.map PX.ts:=by
  have:=W8 (List.map PX.ts) h;rw [W5,W5] at this;exact this
 refine ⟨?_,h2⟩;unfold ez PX.e;rw [hv,ht,h1,h2,h3,h4]
variable {k n:Nat}{l:List TR}
theorem kx {v:Int} (hv:gU v=true) (hm:∀t∈l,gg v t=true) (ho:jc k l) (hz:∀t∈l,t.m.size≤100000) (hl:l.length≤n) (hn:n≤4096) (hk:k+n≤3999990):kI v (k+n) (aH l):=
 ⟨kX hv (Wz (cq _) VX) hm,tX ho VX VX,tx hz⟩
def lK (v i:Nat):List TR:=aH [⟨lg v i,nR ((1:Int):Dyadic)⟩]
def j4 (v:Nat) (x:Dyadic):List TR:=aH [⟨dX v,nR x⟩]
def qu (v i:Nat) (x:Dyadic):List TR:=aH ((lK v i).map (oC x))
def gW (v i:Nat) (s:SR):List TR:=aH (j4 v s.L++qu v i (s.H-s.L))
def bT (b:List SR):List PX:=b.mapIdx fun i s=>⟨b.length,none,0,0,gW b.length i s⟩
theorem jC {v:Nat} (h:v≤12):gU (v:Int)=true:=dx.2 ⟨VX,VX⟩
theorem qO {v i:Nat} (h:v≤12):kI (v:Int) 3 (lK v i):=by
 have hs:((lg v i).size:Int)=v:=rg VX;refine kx (k:=2) (n:=1) (jC h) (fun t ht=> ?_) (fun t ht=> ?_) (fun t ht=> ?_) (V8 _) VY VY
 ·rw [Wj.1 ht];unfold gg;rw [Wl,Wt];exact ⟨Aw v i,hs⟩
 ·rw [Wj.1 ht];exact ⟨Sz.one.ok VY,by show Sz 2 (nR _).d;rw [cm];exact Sz.one.mono VY⟩
 ·rw [Wj.1 ht];show (lg v i).size≤100000;omega
theorem pK {v:Nat}{x:Dyadic} (h:v≤12) (hx:Sz k x) (hk:k≤900000):kI (v:Int) (k+1) (j4 v x):=xh (jC h) (by show Sz k (nR x).d;rw [cm];exact hx) hk
theorem zf {v i:Nat}{x:Dyadic} (h:v≤12) (hx:Sz k x) (hk:k≤400000):kI (v:Int) (k+k+4) (qu v i x):=by
 have hv:=qO (i:=i) h;have hl:((lK v i).map (oC x)).length≤1:=by rw [Wh];exact cq _
 refine (kx (k:=3+k) (n:=1) (jC h) (fun t ht=> ?_) (zr hv.ok hx VX) (fun t ht=> ?_) hl VY VX).mono (by
  by_cases h0:k=0
  ·omega
  ·omega)
 ·obtain ⟨s,hs,rfl⟩:=Wn.1 ht;exact (cK hv.e).2.2.1 s hs
 ·obtain ⟨s,hs,rfl⟩:=Wn.1 ht;exact hv.sz s hs
theorem lQ {v i:Nat}{s:SR} (h:v≤12) (hs:s.fin k) (hk:k≤100000):kI (v:Int) (k+k+10) (gW v i s)∧(gW v i s).length≤2:=by
 have h1:=pK h (SR.L7 hs) VX;have h2:=zf (i:=i) h ((SR.R8 hs).sub (SR.L7 hs)) VX;have hl:(j4 v s.L++qu v i (s.H-s.L)).length≤2:=by
  rw [Wc];have a1:(j4 v s.L).length≤1:=cq _;have a2:(qu v i (s.H-s.L)).length≤1:=Wz (cq _) (by rw [Wh];exact cq _);omega
 have hm:∀{P:TR→Prop},(∀t∈j4 v s.L,P t)→(∀t∈qu v i (s.H-s.L),P t)→∀t∈j4 v s.L++qu v i (s.H-s.L),P t:=fun a b t ht=>(WI.1 ht).elim (a t) (b t);refine ⟨(kx (k:=k+1+(k+1)+4) (n:=2) (jC h) (hm (cK h1.e).2.2.1 (cK h2.e).2.2.1) (hm (h1.ok.mono VX) h2.ok) (hm h1.sz h2.sz) hl VY VX).mono VX,Wz (cq _) hl⟩
theorem gN {b:List SR}{i:Nat}{s:SR} (h:b[i]?=some s):(bT b)[i]?=some ⟨b.length,none,0,0,gW b.length i s⟩:=by
 unfold bT;rw [List.getElem?_mapIdx,h]
 rfl
theorem mw (b:List SR):(bT b).length=b.length:=by unfold bT;rw [List.length_mapIdx]
theorem D8 {b:List SR}{g:PX} (h:g∈bT b):∃i s,b[i]?=some s∧g=⟨b.length,none,0,0,gW b.length i s⟩:=by
 obtain ⟨i,hi⟩:=Xr.1 h;obtain ⟨s,hs⟩:=ak (l:=b) (k:=i) (by have:=(Wi.1 hi).1;rwa [mw] at this);rw [gN hs] at hi;exact ⟨i,s,hs,(WZ hi).symm⟩
theorem JA {i:Nat} (h:n≤12) (hi:i<n):kp n i=0:=V3 (by rw [jC h];rintro (a|a|a)<;>first|cases a|omega)
theorem Iu (h:n≤12):pI n=0:=V3 (by rw [jC h];decide)
theorem yY (p:PX) (L:Option Addr) (n c:Nat) (b:List SR) (k:Nat) (ds:List Nat) (w:World) (hT:eK w) (hp:p.at_ w) (lp:p.jX k) (hB:Sl w L n 6 (az SR.cells b)) (hb:∀s∈b,s.fin k) (hv:p.v=n) (hn0:0<n) (hn:n≤12) (hk:k≤1000)
  (hds:ds.length=n) (hex:∀(i d:Nat),ds[i]?=some d→d≤127∧∀t∈p.ts,j1 i t≤d) (hgr:eT (k+k+16394) ds (k+1)≤440000):
  Calls Tryz.prog 88 #[.agg #[.int .i64 p.v,.slice p.A p.n p.c],.slice L n c] w fun r w'=>∃g:PX,dN (ez p (bT b)).1 n (ez p (bT b)).2 g∧r=.returned (.tuple #[.agg #[.int .i64 g.v,.slice g.A g.n g.c],.int .i64 (ez p (bT b)).1])∧Hp w [g.row] w':=by
 have hh:=Hp.start w;have hbl:b.length=n:=hB.bg SR.len VY;have hok:∀s∈b,s.ok:=fun s hs=>⟨(hb s hs).1.ok,(hb s hs).2.ok⟩;have hfo:=fun w1 hT1 hb1=>r6 L n c b w1 hT1 (hB.ext hb1) hok VX;have hhv:fu (bT b)=n:=by
  obtain ⟨s,hs⟩:=ak (l:=b) (k:=0) VX;rw [jP (gN hs),hbl]
 refine aj (N:=67) (l:=[.agg #[.int .i64 p.v,.slice p.A p.n p.c],.slice L n c]) Tryz.func88 rfl rfl (by simp) ?_;refine sr ?_;refine cf hh [_,_] ?_;intro b2 w2 hh;refine bQ hh ?_;intro b4 w4 hh;refine aI (aa (sr (aL (aa (ah (sr (mL ?_)))))));refine aG (hfo _ (hT.hp hh) hh.below) ar.out rfl VY ?_;rintro e_ w18 ⟨A18,c18,rfl,hown_,hb_⟩;refine ⟨_,rfl, ?_⟩;replace hh:=hh.aY (x:=.row _ _ _ _ _ _) hb_ hown_;refine aF (mI (aa (aq ?_)));replace hh:=hh.ck 24 2;refine bp [6,7,8,9,10,11,12,13,14,15,16,20,21,22,23,24,25,26,27,28,29,30,31,32,33,34,35,36,37,38,39,40,41,42,43,44,45,46,47,48,49,50,51,52,53,54,55,56,57,58,59,60,61] 6 20
  (fun a v w'=>∃(i c3:Nat) (A:Option Addr) (os:List PX) (R:List HE),i≤n∧v=.int .i64 i∧a=.slice A i c3∧os.length=i∧rG ((bT b).map fun g=>⟨g.v,none,g.ts.length,0,g.ts⟩) os R∧Hp w (.row A i c3 24 2 (az PX.cells os)::.row A18 n c18 81 6 (az SR.cells (b.map SR.f))::.blk b4 24 [.int .i64 0,.slice none 0 0] (0,0)::.blk b2 24 [.int .i64 p.v,.slice p.A p.n p.c] (0,0)::R) w')
  (fun _ v _=>n-(intOf v).toNat) ?_ ?_
 ·exact Rt
 ·clear hh;rintro ρ' a_ v w' ⟨i,c3,A,os,R,hi,rfl,rfl,hol,hcp,hh⟩;by_cases hlt:i<n
  ·obtain ⟨s,hs⟩:=ak (l:=b) (k:=i) VX;have hsf:=hb s (V7 hs);have hsn:(b.map SR.f)[i]?=some s.f:=by rw [Wf,hs];rfl
   have zL:=SR.L7 hsf;have zH:=SR.R8 hsf;have zW:=zH.sub zL;obtain ⟨po,pl⟩:=lQ (v:=n) (i:=i) hn hsf VX;have vo:=qO (i:=i) hn;have fo:=zf (i:=i) hn zW VX;have co:=pK hn zL VX;have hva:=fun w1 hT1=>tY (n:Int) (i:Int) w1 hT1;rw [JA hn hlt] at hva;have hsu:=fun w1 hT1=>mj (nR s.H) (nR s.L) w1 hT1 (zH.ok VX) (zL.ok VX) k (by rw [cm];exact zH) (by rw [cm];exact zL) VX;rw [cm,cm] at hsu;have hcn:=fun w1 hT1=>j9 (n:Int) (nR s.L) k w1 hT1 ⟨zL.ok VX,by rw [cm];exact zL⟩ VX;rw [Iu hn] at hcn;rw [Xs] at hva;have hV:aH [⟨lg n i,nR ((1:Int):Dyadic)⟩]=lK n i:=rfl;have hC:aH [⟨dX n,nR s.L⟩]=j4 n s.L:=rfl;have hF:aH ((lK n i).map (oC (s.H-s.L)))=qu n i (s.H-s.L):=rfl;have hP:aH (j4 n s.L++qu n i (s.H-s.L))=gW n i s:=rfl;have tl1:(lK n i).length≤1:=cq _;have ul1:(j4 n s.L).length≤1:=cq _;have fl1:(qu n i (s.H-s.L)).length≤1:=Wz (cq _) (by rw [Wh];exact cq _);have hps:=gN hs;rw [hbl] at hps;rw [hV] at hva;rw [hC] at hcn;clear hV hC;generalize lK n i=VL at*;generalize j4 n s.L=CL at*;generalize qu n i (s.H-s.L)=FL at*;generalize gW n i s=PL at*
   obtain ⟨gf,rfl⟩:=hh.cu (i:=1) rfl VX;refine sr ?_;refine eH ?_;refine gh ?_;refine cA (vs:=[_,_,_,_,_,_]) aO.out rfl (hh.fY (f:=SR.cells) (x:=s.f) (l:=b.map SR.f) (i:=1) rfl SR.len VY hsn) rfl VY ?_;refine bQ hh ?_;intro b8 w8 hh;refine aI ?_;refine bR hh 0 [_,_,_,_,_,_] ?_;intro ws hh;replace hh:Hp _ (.blk _ _ [_,_,_,_,_,_] _::_) _:=hh;refine aa (sr (mL (aF (mI ?_))));replace hh:=show Hp w (.blk b8 81 [.bool (nR s.L).neg,.string (nR s.L).bf,.int .i64 (nR s.L).e,.bool (nR s.H).neg,.string (nR s.H).bf,.int .i64 (nR s.H).e] (0,0)::_) _ from hh;refine aG (hva _ (hT.hp hh)) ar.out rfl VY ?_;rintro e_ w29 ⟨t,ot,rfl,h4⟩;refine ⟨_,rfl, ?_⟩;have htc:t.n≤t.c:=h4.dR (i:=0) rfl;replace hh:=hh.join h4;clear h4;simp only [Wb,V9] at hh;obtain ⟨tv,tA,tn,tc,tt⟩:=t;replace hh:=show Hp w (.row tA tn tc 96 4 (az TR.cells tt)::_) _ from hh;have et:VL=tt:=ot.t0.symm;have ev_:tv=(n:Int):=ot.v0;subst et ev_;have tln:VL.length=tn:=(hh.aC (i:=0) rfl).bg TR.len VY
   have hsc:=fun w1 hT1 ha=>y5 ⟨n,tA,tn,tc,VL⟩ (nR (s.H-s.L)) (k+3) w1 hT1 ha ⟨by show tn≤1000000;omega,htc,vo.ok.mono VX,vo.sz⟩ ⟨zW.ok VX,by rw [cm];exact zW.mono VX⟩ VX;have hse:vS ⟨n,tA,tn,tc,VL⟩ (s.H-s.L)=0:=by
    exact P8
   rw [cm,hse] at hsc;dsimp only at hsc;rw [hF] at hsc;refine mT ?_;refine du ?_;refine du ?_;refine bQ hh ?_;intro b9 w9 hh;refine bR hh 0 [_,_] ?_;intro ws hh;replace hh:Hp _ (.blk _ _ [_,_] _::_) _:=hh;refine aI (aa (ah ?_));refine cH [10] [9] [0,0,2,0,8,30,63,127,255,255,0,1535,4095] 11 [[(9,none)],[(8,none)],[(34,some 1)],[(8,none)],[(36,some 3)],[(35,some 2),(37,some 4)],[(33,some 0),(38,some 5)],[(39,some 6)],[(32,some 7)],[(32,some 7)],[]] [(10,11),(9,41),(8,40),(7,32),(6,39),(5,38),(4,37),(3,36),(2,35),(1,34),(0,33)] hh mixed VZ (kn rfl aO.out da) rfl (by repeat (first|exact cj|refine bP ?_|refine cg ?_)) ?_;refine ee 0 [_,_] ?_;refine cP ?_;refine ee 2 [_,_,_] ?_;refine cP ?_;refine ee 2 [_,_,_] ?_;refine dC (fun _ hj=>hsu _ (hT.hp hj.hp)) ?_;refine aN (i:=6) (eR hh.sz 0 n FL) (eR.ext) ?_ ?_
   ·intro ρ1 w1 hj hR;exact bh rfl (aP ar.out (av (show ρ1 33=Value.agg (List.toArray _) from hR.1) (av (show ρ1 38=Value.agg (List.toArray _) from hR.2.1) a6))) (hsc w1 (hT.hp hj.hp) (hj.hp.aC (i:=1) rfl)) (fun _ _ ⟨g,og,hq,h3⟩=>⟨_,hq,h3.below,g,w1,rfl,og,hj.bl.size,h3⟩)
   refine aN (i:=7) (eR hh.sz 0 n FL) (eR.ext) ?_ ?_
   ·exact HZ
   refine aN (i:=8) (gu hh.sz 0 n FL) (gu.ext) ?_ ?_
   ·exact Du
   refine aN (i:=9) (Is (.int .i64 0)) (Is.ext) ?_ ?_
   ·exact CD
   refine aN (i:=10) (cO _ 24 _) cO.ext (fun ρ1 w1 hj hR=>g8 aO.out hj.bl (fun v w2 h hb=>⟨hb,h⟩)) ?_;refine aJ ?_;intro f W hJ hV _;have hb_6:=hJ.bl;obtain ⟨v11,v41,v40,v32,v39,v38,v37,v36,v35,v34,v33,_⟩:=hV;obtain ⟨g39,u39,e39, -⟩:=v39;obtain ⟨g32,u32,e32, -⟩:=v32;obtain ⟨g40,u40,e40,o40,q40,h40⟩:=v40;obtain ⟨b11,e11,hl11,hc11⟩:cO _ _ _ (f 10) W:=v11;replace hh:=hJ.ka hh hl11 hc11 q40 h40 (PX.ne h40 hc11 VY);refine aR (a8 (ae e11 (ae v41 (ae e40 (ae e32 (ae e39 (ae v38 (ae v37 (ae v36 (ae v35 (ae v34 (ae v33 aQ)))))))))))) ?_;dsimp only [bH];clear e39 e32 e40 e11 hJ;simp only [Wb,V9] at hh;obtain ⟨fv,fA,fn,fc,ft⟩:=g40;replace hh:=show Hp w (_::.row fA fn fc 96 4 (az TR.cells ft)::_) W from hh;have et:FL=ft:=o40.t0.symm;have ev_:fv=(n:Int):=o40.v0;subst et ev_;have fln:FL.length=fn:=(hh.aC (i:=1) rfl).bg TR.len VY;have fcc:fn≤fc:=hh.dR (i:=1) rfl;refine bR hh 0 [_,_] ?_;intro ws hh;replace hh:Hp _ (.blk _ _ [_,_] _::_) _:=hh;refine aI (aa (sr (mL (aF (bE ?_)))));refine cn hh 4 [_,_,_] ?_;refine aG (hcn _ (hT.hp hh)) ar.out rfl VY ?_
   rintro e_ w47 ⟨u,ou,rfl,h4⟩;refine ⟨_,rfl, ?_⟩;have huc:u.n≤u.c:=h4.dR (i:=0) rfl;replace hh:=hh.join h4;clear h4;simp only [Wb,V9] at hh;obtain ⟨uv,uA,un,uc,ut⟩:=u;replace hh:=show Hp w (.row uA un uc 96 4 (az TR.cells ut)::_) _ from hh;have et:CL=ut:=ou.t0.symm;have ev_:uv=(n:Int):=ou.v0;subst et ev_;have uln:CL.length=un:=(hh.aC (i:=0) rfl).bg TR.len VY;refine mT ?_;refine du ?_;refine du ?_;refine bQ hh ?_;intro b13 w13 hh;refine bR hh 0 [_,_] ?_;intro ws hh;replace hh:Hp _ (.blk _ _ [_,_] _::_) _:=hh;refine aI (aa (sr ?_));refine cn hh 0 [_,_] ?_;refine cn hh 2 [_,_] ?_;refine xr ?_;intro b53 w53 hh;have hlp:ff [⟨n,uA,un,uc,CL⟩,⟨n,fA,fn,fc,FL⟩]=0:=lP co.e fo.e rfl;have had:=fun A3 w1 hT1 hS1 s1 s2=>pg A3 2 2 [⟨n,uA,un,uc,CL⟩,⟨n,fA,fn,fc,FL⟩] (k+k+10) w1 hT1 hS1 VY (fun g hg=>by
    rcases Wk.1 hg with rfl|hg
    ·exact s1
    ·rw [Wj.1 hg];exact s2) (fun g hg=>by
    rcases Wk.1 hg with rfl|hg
    ·exact ⟨by show un≤1000000;omega,huc,co.ok.mono VX,co.sz⟩
    ·rw [Wj.1 hg];exact ⟨by show fn≤1000000;omega,fcc,fo.ok.mono VX,fo.sz⟩) VX
   unfold uU at had;rw [V2 hlp,Ap] at had;dsimp only at had;rw [hP] at had;rw [ku (l:=CL++FL) (by rw [Wc];omega)] at had;refine aG (had _ _ (hT.hp hh) (hh.aC (i:=0) rfl) (hh.aC (i:=2) rfl) (hh.aC (i:=4) rfl)) ar.out rfl VY ?_;rintro e_ w54 ⟨z,oz,rfl,h4⟩;refine ⟨_,rfl, ?_⟩;have hzc:z.n≤z.c:=h4.dR (i:=0) rfl;replace hh:=hh.join h4;clear h4;simp only [Wb,V9] at hh;replace hh:=show Hp w (.row z.A z.n z.c 96 4 (az TR.cells z.ts)::_) _ from hh;have zln:z.ts.length=z.n:=(hh.aC (i:=0) rfl).bg TR.len VY;refine mT ?_;refine du ?_;refine du ?_;refine bQ hh ?_;intro b15 w15 hh;refine bR hh 0 [_,_] ?_;intro ws hh;replace hh:Hp _ (.blk _ _ [_,_] _::_) _:=hh;refine aI (aa (al (mL ?_)));refine cn hh 0 [_,_] ?_;refine IW ?_;intro b59 w59 hh;refine bK hh (i:=11) rfl rfl rfl (hh.aC (i:=0) rfl) bj.out aO.out rfl VY (by first|rfl|exact cQ _|exact cD _|exact a7 _|exact bu NR.one _) VX VX VY ?_;intro A60 c60 w60 hh;simp only [Wd,WH] at hh;replace hh:=hh.sub (WE _ _);refine lR ?_;refine a9 (mI (aA (ai ?_)))
   replace hh:=hh.sub (V6 _ (V4 _ (V6 _ (V6 _ (V6 _ (V6 _ (V6 _ (V6 _ (V6 _ (V6 _ (V4 _ (V4 _ (V4 _ (V4 _ (Xh _)))))))))))))));replace hh:=hh.perm (WO (l₁:=[_,_,_,_]));simp only [Wb,V9] at hh;replace hh:=hh.perm (WO (l₁:=[_,_,_,_]));simp only [Wb,V9] at hh;replace hh:=hh.perm (WO (l₁:=[_,_,_,_]));simp only [Wb,V9] at hh;replace hh:=hh.perm (WO (l₁:=[_,_,_,_]));simp only [Wb,V9] at hh;have hcp2:=hcp.add (g:=⟨n,none,PL.length,0,PL⟩) (o:=z) (by rw [hol,Wf,hps];rfl) ⟨oz.v0,oz.t0,by rw [←zln,oz.t0]⟩ hzc;refine ⟨⟨i+1,c60,A60,os++[z],z.row::R,VX,rfl,rfl,by rw [Wc,hol];rfl,hcp2,by rw [bG,fR];exact hh⟩,by show n-(i+1)<n-i;omega, ?_⟩;exact dy
  ·obtain rfl:i=n:=VX;have hol2:os.length=((bT b).map fun g=>(⟨g.v,none,g.ts.length,0,g.ts⟩:PX)).length:=by rw [Wh,mw];omega
   have hkey:=hcp.key hol2;rw [W5] at hkey;replace hkey:os.map PX.norm=(bT b).map PX.norm:=hkey;obtain ⟨ks,kh⟩:=s9 (o:=p) (p:=p) rfl rfl hkey;have hall:∀o∈os,o.jX (k+k+10)∧o.ts.length≤2:=fun o ho=>by
    obtain ⟨j,hj⟩:=Xr.1 ho;have hjn:j<os.length:=(Wi.1 hj).1;obtain ⟨s,hs⟩:=ak (l:=b) (k:=j) VX;obtain ⟨e1,e2,e3⟩:=hcp.eq j ⟨b.length,none,(gW b.length j s).length,0,gW b.length j s⟩ o (by rw [Wf,gN hs];rfl) hj;obtain ⟨po,pl⟩:=lQ (v:=b.length) (i:=j) VX (hb s (V7 hs)) VX;replace e2:o.ts=gW b.length j s:=e2;replace e3:o.n=(gW b.length j s).length:=e3;exact Pw
   have hfit:Tt p os k (k+k+10) 2 (k+k+16394) ds:=⟨VX,hex,hgr,VX,VX,fun g hg=>(hall g hg).1,fun g hg=>(hall g hg).2⟩;have hsu:=fun w1 hT1 ha hs hm hc=>qM p A c3 os k (k+k+10) 2 (k+k+16394) ds w1 hT1 ha lp hs hm hc hfit;rw [ks,kh,hhv,hol] at hsu;generalize (ez p (bT b)).1=E at*;generalize (ez p (bT b)).2=S at*;refine sr ?_;refine mY ?_;refine cn hh 3 [_,_] (mL ?_);refine aG (hsu _ (hT.hp hh) (hp.ext hh.below) (hh.aC (i:=0) rfl) (fun z hz=>yn hh (Wg _ (Wg _ (Wg _ (Wg _ (hcp.my z hz).1))))) (hh.dR (i:=0) rfl)) ar.out rfl VY ?_;rintro e_ w64 ⟨g,og,rfl,h4⟩;refine ⟨_,rfl, ?_⟩;replace hh:=hh.join h4;clear h4;simp only [Wb,V9] at hh;refine du ?_;refine du ?_;refine bR hh 3 [_,_] ?_;intro ws hh;replace hh:Hp _ (_::_::_::.blk _ _ [_,_] _::_) _:=hh;refine aI (aa (au ?_));refine KC ?_;exact Qy
def dM (i:Nat) (f:ByteArray→Dyadic) (m:ByteArray):Dyadic:=
 match m.data.toList[i]? with|some e=>((e.toNat:Int):Dyadic)*f (str (m.data.toList.set i (e-1)))|none=>0
theorem Nf {a b:List UInt8} (ha:ef a=true) (hb:ef b=true) (hl:b.length=a.length) (h:(List.zipWith (· + ·) (ints a) (ints b)).all cE=true):mulL a b=((List.zipWith (· + ·) (ints a) (ints b)).map pw,0):=by
 unfold mulL;rw [L6 ha hb hl];show (H8 _,LC _)=_;rw [(nF h).1,(nF h).2]
theorem Jv {a b:List UInt8} (h:(mulL a b).2=0):(List.zipWith (· + ·) (ints a) (ints b)).all cE=true:=by
 obtain ⟨_,_,_,h4,h5⟩:=qR h;rw [←h5];exact Nh h4
theorem Nl {a b:ByteArray}{i:Nat}{x y:UInt8} (h:lf a b=0) (hx:a.data.toList[i]?=some x) (hy:b.data.toList[i]?=some y):(mulM a b).data.toList[i]?=some (pw ((x.toNat:Int)+y.toNat))∧(pw ((x.toNat:Int)+y.toNat)).toNat=x.toNat+y.toNat:=by
 obtain ⟨h1,h2,h3,_,_⟩:=qR h;have hall:=Jv h;have hiy:(ints b.data.toList)[i]?=some (y.toNat:Int):=by unfold ints;rw [Wf,hy];rfl
 have hix:(ints a.data.toList)[i]?=some (x.toNat:Int):=by unfold ints;rw [Wf,hx];rfl
 have hzz:=C9 (f:=fun (x y:Int)=>x+y) hix hiy;have hxy:cE ((x.toNat:Int)+y.toNat)=true:=Ww.1 hall _ (V7 hzz);have e1:=n8 hxy;injection e1 with _ e1
 refine ⟨?_,VX⟩;unfold mulM;rw [dT,Nf h1 h2 h3 hall,Wf,hzz]
 rfl
variable {p:List TR}
def pJ (B:Nat→Nat) (l:List TR):Prop:=∀t∈l,∀i,j1 i t≤B i
theorem pJ.mono {B C:Nat→Nat} (h:pJ B l) (hb:∀i,B i≤C i):pJ C l:=fun t ht i=>Wz (h t ht i) (hb i)
theorem Tz {s t:TR} (h:s.m=t.m) (i:Nat):j1 i s=j1 i t:=by unfold j1;rw [h]
theorem pJ.aH {B:Nat→Nat}{l:List TR} (h:pJ B l):pJ B (aH l):=fun t ht i=>by
 obtain ⟨s,hs,e⟩:=jn t ht;rw [←Tz e i];exact h s hs i
theorem pJ.append {B:Nat→Nat}{k:List TR} (h:pJ B l) (h2:pJ B k):pJ B (l++k):=fun t ht=>(WI.1 ht).elim (h t) (h2 t)
theorem pJ.prod {B C:Nat→Nat}{q:List TR} (hp:pJ B p) (hq:pJ C q) (h:∀e∈xy p q,e=0):pJ (fun i=>B i+C i) (cv p q):=fun t ht i=>by
 obtain ⟨x,hx,ht⟩:=X7.1 ht;obtain ⟨y,hy,rfl⟩:=Wn.1 ht;have hz:lf x.m y.m=0:=h _ (X7.2 ⟨x,hx,Wn.2 ⟨y,hy,rfl⟩⟩)
 cases ha:x.m.data.toList[i]? with
 |none=>
  have hl:=Ct hz;have hx0:=List.getElem?_eq_none_iff.1 ha;have e:(oV x y).m.data.toList[i]?=none:=by
   show (str _).data.toList[i]?=none;rw [dT];exact WK (by rw [hl];exact hx0)
  unfold j1;rw [e];exact V5 _
 |some a=>
  obtain ⟨_,_,h3,_,_⟩:=qR hz;have hlt:=(Wi.1 ha).1;obtain ⟨b,hb⟩:=ak (l:=y.m.data.toList) (k:=i) VX;obtain ⟨e1,e2⟩:=Nl hz ha hb;rw [q8 (t:=oV x y) e1,e2];have h1:=hp x hx i;have h2:=hq y hy i;rw [q8 ha] at h1;rw [q8 hb] at h2;show a.toNat+b.toNat≤B i+C i;omega
theorem z5 {q p:List TR}{sub:List TR→Int×List TR}{j D:Nat}{E:Nat→Nat} (hq:pJ (fun x=>if x=j then 1 else 0) q) (hD:∀t∈p,j1 j t≤D) (hE:E j=0) (hs:∀n,(sub (bL p j n)).1=0→pJ E (sub (bL p j n)).2):
  ∀i,i≤128→(cG q sub p j i).1=0→pJ (fun x=>if x=j then i+D-128 else E x) (cG q sub p j i).2
 |0,_,_=>fun t ht=>(nomatch ht)
 |i+1,hi,h0=>by
  have h1:(cG q sub p j i).1=0:=by
   refine Yq fun c=> ?_;rw [kj c (Nat.le_succ i)] at h0;exact c h0
  have ih:=z5 hq hD hE hs i VX h1;have hsb:∀n,(sub (bL p j n)).1=0→pJ (fun x=>if x=j then i+1+D-128 else E x) (sub (bL p j n)).2:=fun n hn=>(hs n hn).mono fun x=>by
   by_cases hx:x=j
   ·rw [V2 hx,hx,hE];exact V5 _
   ·rw [V3 hx];exact V8 _
  have hpr:eE (cG q sub p j i).2 q=0→pJ (fun x=>if x=j then i+1+D-128 else E x) (aH (cv (cG q sub p j i).2 q)):=fun ht=>by
   by_cases hlow:i+D≤127
   ·rw [l8 hD i hlow];exact fun t ht=>(nomatch ht)
   ·refine ((ih.prod hq (qm ht).2.1).mono fun x=> ?_).aH;by_cases hx:x=j
    ·rw [V2 hx,V2 hx,V2 hx];omega
    ·rw [V3 hx,V3 hx,V3 hx];omega
  rw [o7] at h0 ⊢;unfold g6 at h0 ⊢;rw [V3 (fun h=>h h1)] at h0 ⊢;by_cases c1:(cG q sub p j i).2.length=0∧(bL p j (127-i)).length=0
  ·rw [V2 c1,Ze.1 c1.1];exact fun t ht=>(nomatch ht)
  ·rw [V3 c1] at h0 ⊢;by_cases c2:eE (cG q sub p j i).2 q≠0
   ·rw [V2 c2] at h0;exact absurd h0 c2
   ·rw [V3 c2] at h0 ⊢;by_cases c3:(sub (bL p j (127-i))).1≠0
    ·rw [V2 c3] at h0;exact absurd h0 c3
    ·rw [V3 c3] at h0 ⊢;by_cases c4:fW (aH (cv (cG q sub p j i).2 q)++(sub (bL p j (127-i))).2)≠0
     ·rw [V2 c4] at h0;exact absurd h0 c4
     ·rw [V3 c4];exact ((hpr VX).append (hsb _ VX)).aH
theorem Ah (v:Int) (c:NR):pJ (fun _=>0) [⟨dX v,c⟩]:=fun t ht i=>by
 rw [Wj.1 ht]
 cases he:(⟨dX v,c⟩:TR).m.data.toList[i]? with
 |none=>unfold j1;rw [he];exact V8 _
 |some e=>
  rw [q8 he];have hm:=V7 he;replace hm:e∈(List.replicate v.toNat (0:UInt8)):=by simpa [dX] using hm
  rw [(List.mem_replicate.1 hm).2];exact V8 _
theorem MC {v:Int}:∀(qs:List (List TR)) (j:Nat) (p:List TR) (D:Nat→Nat),(∀(i:Nat) (q:List TR),qs[i]?=some q→pJ (fun x=>if x=j+i then 1 else 0) q)→(∀t∈p,∀i,i<qs.length→j1 (j+i) t≤D (j+i))→(fL v qs j p).1=0→pJ (fun x=>if j≤x∧x<j+qs.length then D x else 0) (fL v qs j p).2:=by
 intro qs
 induction qs with
 |nil=>
  intro j p D _ _ _;exact (Ah v _).aH.mono fun x=>V5 _
 |cons q qs ih=>
  intro j p D hq hp h0;have hsub:∀n,(fL v qs (j+1) (bL p j n)).1=0→pJ (fun x=>if j+1≤x∧x<j+1+qs.length then D x else 0) (fL v qs (j+1) (bL p j n)).2:=fun n hn=>by
   refine ih (j+1) (bL p j n) D (fun i r hr=> ?_) (fun t ht i hi=> ?_) hn
   ·have:=hq (i+1) r (by simpa using hr);rwa [show j+1+i=j+(i+1) by omega]
   ·have:=hp t (kC t ht) (i+1) (by rw [Wx];omega);rwa [show j+1+i=j+(i+1) by omega]
  have hq0:pJ (fun x=>if x=j then 1 else 0) q:=hq 0 q rfl;have hD:∀t∈p,j1 j t≤D j:=fun t ht=>hp t ht 0 (by rw [Wx];omega);generalize hgen:fL v qs (j+1)=sub at hsub;have e:∀m,m=128→(cG q sub p j m).1=0→pJ (fun x=>if j≤x∧x<j+(q::qs).length then D x else 0) (cG q sub p j m).2:=fun m hm h=>by
   refine (z5 hq0 hD (E:=fun x=>if j+1≤x∧x<j+1+qs.length then D x else 0) (by rw [V3 VX]) hsub m VX h).mono fun x=> ?_;rw [Wx];by_cases hx:x=j
   ·rw [V2 hx,V2 VX,hx];omega
   ·rw [V3 hx];by_cases h2:j+1≤x∧x<j+1+qs.length
    ·rw [V2 h2,V2 VX];exact V8 _
    ·rw [V3 h2];exact V5 _
  have e2:fL v (q::qs) j p=cG q sub p j 128:=by rw [←hgen];rfl
  rw [e2] at h0 ⊢;exact e 128 rfl h0
theorem SH {i:Nat}{t:TR} (h:t∈l):mG t.m i≤rP l i:=by
 induction l using jS with
 |h0=>cases h
 |hs l x ih=>
  rw [qp]
  rcases WI.1 h with h|h
  ·have:=ih h;omega
  ·rw [Wj.1 h];omega
theorem Gz {i:Nat}{B:Int} (hB:0≤B) (h:∀t∈l,mG t.m i≤B):0≤rP l i∧rP l i≤B:=by
 induction l using jS with
 |h0=>exact ⟨Int.le_refl _,hB⟩
 |hs l x ih=>
  rw [qp];have h1:=ih fun t ht=>h t (XX _ ht);have h2:=h x (XA _ We);omega
theorem z3 (t:TR) (i:Nat):(j1 i t:Int)=mG t.m i:=by
 unfold j1 mG
 cases t.m.data.toList[i]?<;>rfl
def gL (v:Int) (ts:List TR):List Nat:=(jy v ts).map Int.toNat
theorem lk {v:Int} (h:gF v ts=0):jy v ts=bU (gL v ts)∧(gL v ts).length=v.toNat∧∀(i d:Nat),(gL v ts)[i]?=some d→d≤127∧(∀t∈ts,j1 i t≤d)∧((d:Int)=rP ts i):=by
 obtain ⟨_,_,hm,_⟩:=cK h;have hd:jy v ts=jo v.toNat ts:=V2 h;have hb:∀t∈ts,∀i,mG t.m i≤127:=fun t ht i=>by
  have h1:=hm t ht;unfold gg at h1;rw [Wl] at h1;unfold mG
  cases he:t.m.data.toList[i]? with
  |none=>decide
  |some e=>have:=oa h1.1 he;show ((e.toNat:Nat):Int)≤127;omega
 refine ⟨?_,by unfold gL;rw [Wh,hd,eQ],fun i d hi=> ?_⟩
 ·unfold gL bU;rw [W5];refine (Y1 _).symm.trans (XZ fun x hx=> ?_);rw [hd] at hx;obtain ⟨i,_,rfl⟩:=Wn.1 hx;have:=(Gz (B:=127) VY fun t ht=>hb t ht i).1;show rP ts i=((rP ts i).toNat:Int);omega
 ·unfold gL at hi;rw [hd,Wf] at hi;have hlt:i<v.toNat:=by
   refine Yq fun hc=> ?_;rw [WK (by rw [eQ];omega)] at hi
   cases hi
  rw [sW ts hlt] at hi;have h1:=Gz (l:=ts) (i:=i) (B:=127) VY fun t ht=>hb t ht i;have h2:(rP ts i).toNat=d:=WZ hi;refine ⟨VX,fun t ht=> ?_,VX⟩;have h3:=SH (i:=i) ht;have h4:=z3 t i;omega
variable {j q:Nat}
def eX (d:Nat) (a b:Dyadic) (i k:Nat):Dyadic:=if k<i then 0 else nD (bin (d-i) (k-i))*a^i*b^(k-i)
def jT (xs:List Dyadic) (i:Nat):Dyadic:=(xs[i]?).getD 0
def kR (d:Nat) (M:Nat→Nat→Dyadic) (xs:List Dyadic):List Dyadic:=(List.range (d+1)).map fun k=>sm (List.range (d+1)) fun i=>jT xs i*M i k
def iS (d:Nat) (a b:Dyadic) (xs:List Dyadic) (i j:Nat):List Dyadic:=(List.range (d+1)).map fun k=>sm (List.range i) (fun m=>jT xs m*eX d a b m k)+if i≤k∧k<i+j then jT xs i*eX d a b i k else 0
theorem kt (d:Nat) (a b:Dyadic) (xs:List Dyadic) (i j:Nat):(iS d a b xs i j).length=d+1:=by simp [iS]
theorem tj (d:Nat) (a b:Dyadic) (xs:List Dyadic):iS d a b xs 0 0=List.replicate (d+1) 0:=by
 unfold iS;refine List.eq_replicate_iff.2 ⟨by simp,fun x hx=> ?_⟩;obtain ⟨k,_,rfl⟩:=Wn.1 hx;rw [V3 VX,X8]
 rfl
theorem yM {d i:Nat}{a b:Dyadic}{xs:List Dyadic} (h:k≤d):(iS d a b xs i j)[k]?=some (sm (List.range i) (fun m=>jT xs m*eX d a b m k)+if i≤k∧k<i+j then jT xs i*eX d a b i k else 0):=by
 unfold iS;exact Jw
theorem Bm {d i:Nat}{a b:Dyadic}{xs:List Dyadic}{o:Dyadic} (h:i+j≤d) (ho:(iS d a b xs i j)[i+j]?=some o):(iS d a b xs i j).set (i+j) (o+jT xs i*eX d a b i (i+j))=iS d a b xs i (j+1):=by
 rw [yM h,V3 VX,X8] at ho;have ho:=WZ ho;subst ho;refine XN fun k=> ?_;rw [Yf,kt];by_cases hk:k≤d
 ·rw [yM hk,yM hk];by_cases e:i+j=k
  ·subst e;rw [V2 rfl,V2 VX,V2 VX]
  ·rw [V3 e];by_cases h2:i≤k∧k<i+j
   ·rw [V2 h2,V2 VX]
   ·rw [V3 h2,V3 VX]
 ·rw [V3 VX,WK (by rw [kt];omega),WK (by rw [kt];omega)]
theorem Hz {d i:Nat}{a b:Dyadic}{xs:List Dyadic} (h:i≤d):iS d a b xs i (d-i+1)=iS d a b xs (i+1) 0:=by
 unfold iS;refine XZ fun k hk=> ?_;have hk:=Xx.1 hk;rw [V3 (show ¬(i+1≤k∧k<i+1+0) by omega),X8,YZ,od];by_cases h2:i≤k
 ·rw [V2 VX]
 ·rw [V3 VX];unfold eX;rw [V2 (show k<i by omega),Dyadic.mul_zero]
theorem wH (d:Nat) (a b:Dyadic) (xs:List Dyadic):iS d a b xs (d+1) 0=kR d (eX d a b) xs:=by
 unfold iS kR;refine XZ fun k _=> ?_;rw [V3 VX,X8]
theorem Sz.AQ {a:Dyadic} (h:Sz q a) {i d:Nat} (hi:i≤d):Sz (1+q*d) (a^i):=(Sz.pow h i).mono (by have:=WS q hi;omega)
theorem yZ {d i:Nat}{a b:Dyadic} (ha:Sz q a) (hb:Sz q b) (hd:d≤127) (hk:k≤d):Sz (130+2*(q*d)) (eX d a b i k):=by
 unfold eX;split
 ·exact Sz.zero _
 ·refine (((rv (d-i) (k-i) VX).mul (ha.AQ (show i≤d by omega))).mul (hb.AQ (show k-i≤d by omega))).mono VX
theorem yu {xs:List Dyadic} (h:∀x∈xs,Sz k x) (i:Nat):Sz k (jT xs i):=by
 unfold jT
 cases hx:xs[i]? with
 |none=>exact Sz.zero _
 |some x=>exact h x (V7 hx)
theorem Ex {d i K:Nat}{a b:Dyadic}{xs:List Dyadic} (hx:∀x∈xs,Sz K x) (ha:Sz q a) (hb:Sz q b) (hd:d≤127) (hi:i≤d+1):∀x∈iS d a b xs i j,Sz (K+130+2*(q*d)+130) x:=fun x hx2=>by
 obtain ⟨k,hk,rfl⟩:=Wn.1 hx2;have hk:=Xx.1 hk;have h1:∀m,Sz (K+(130+2*(q*d))) (jT xs m*eX d a b m k):=fun m=>(yu hx m).mul (yZ ha hb hd VX);have h2:=Ch (l:=List.range i) (f:=fun m=>jT xs m*eX d a b m k) (k:=K+(130+2*(q*d))) fun m _=>h1 m;rw [YH] at h2;refine (h2.add (y:=if i≤k∧k<i+j then jT xs i*eX d a b i k else 0) ?_).mono VX;split
 ·exact (h1 i).mono VX
 ·exact Sz.zero _
section
variable (A:List Nat) (d:Nat) (φ:List Dyadic→List Dyadic)
def Ve (X:List Dyadic) (q f i:Nat):List Dyadic:=(List.range X.length).map fun p=>
 if p/ay A/(d+1)=q∧(p % ay A<f∨p % ay A=f∧p/ay A % (d+1)<i) then jT (φ (fQ A d X (p % ay A) q)) (p/ay A % (d+1)) else jT X p
def Vu (X:List Dyadic) (q:Nat):List Dyadic:=Ve A d φ X q (ay A) 0
end
section
variable {A:List Nat}{d:Nat}{φ:List Dyadic→List Dyadic}{X:List Dyadic}
theorem sX {f:Nat} (hf:f<ay A) (hk:k≤d):dt A d f k q % ay A=f∧dt A d f k q/ay A % (d+1)=k∧dt A d f k q/ay A/(d+1)=q:=by
 unfold dt;have hA:=cU A;rw [Yh,WU hf,XC _ _ hA,Xg hf,Wr,Yh,WU VX,XC _ _ VX,Xg VX,Wr];exact ⟨rfl,rfl,rfl⟩
theorem yg (p:Nat):dt A d (p % ay A) (p/ay A % (d+1)) (p/ay A/(d+1))=p:=by
 unfold dt;rw [YJ,YJ]
theorem Cr {l:List Dyadic} (h:k<l.length):l[k]?=some (jT l k):=by
 unfold jT;rw [Xp h]
 rfl
def VU (A:List Nat) (d:Nat) (B:List Nat) (M:Nat→Nat→Dyadic) (xs:List Dyadic) (j:Nat):List Dyadic:=(List.range xs.length).map fun p=>if p/ay A/(d+1)<j then jT (iu (A++d::B) A.length M xs) p else jT xs p
end
variable {F:Nat}
section
variable (A:List Nat) (d L:Nat) (φ:List Dyadic→List Dyadic)
def ll (p:Nat):Nat:=dt A d (p % ay A) 0 (p/ay A/(d+1))
def jq (X:List Dyadic) (F i:Nat):List Dyadic:=(List.range X.length).map fun p=>
 if p/ay A % (d+1)<L∧(ll A d p<F∨ll A d p=F∧p/ay A % (d+1)<i) then jT (φ (fQ A d X (p % ay A) (p/ay A/(d+1)))) (p/ay A % (d+1)) else jT X p
end
section
variable {A:List Nat}{d L:Nat}{φ:List Dyadic→List Dyadic}{X:List Dyadic}
theorem g9 (F i:Nat):(jq A d L φ X F i).length=X.length:=by simp [jq]
theorem nZ {i p:Nat} (h:p<X.length):(jq A d L φ X F i)[p]?=some (if p/ay A % (d+1)<L∧(ll A d p<F∨ll A d p=F∧p/ay A % (d+1)<i) then jT (φ (fQ A d X (p % ay A) (p/ay A/(d+1)))) (p/ay A % (d+1)) else jT X p):=by
 unfold jq;rw [Wf,Xc h]
 rfl
theorem BX {i G:Nat} (h:∀p,p<X.length→p/ay A % (d+1)<L→((ll A d p<F∨ll A d p=F∧p/ay A % (d+1)<i)↔(ll A d p<G∨ll A d p=G∧p/ay A % (d+1)<j))):jq A d L φ X F i=jq A d L φ X G j:=by
 refine XN fun p=> ?_;by_cases hp:p<X.length
 ·rw [nZ hp,nZ hp];congr 1;by_cases hL:p/ay A % (d+1)<L
  ·by_cases h1:ll A d p<F∨ll A d p=F∧p/ay A % (d+1)<i
   ·rw [V2 ⟨hL,h1⟩,V2 ⟨hL,(h p hp hL).1 h1⟩]
   ·rw [V3 (fun h=>h1 h.2),V3 (fun h2=>h1 ((h p hp hL).2 h2.2))]
  ·rw [V3 (fun h=>hL h.1),V3 (fun h=>hL h.1)]
 ·rw [WK (by rw [g9];omega),WK (by rw [g9];omega)]
theorem Hb:jq A d L φ X 0 0=X:=by
 refine XN fun p=> ?_;by_cases h:p<X.length
 ·rw [nZ h,V3 VX,Cr h]
 ·rw [WK (by rw [g9];omega),WK VX]
theorem Ec {f:Nat} (hf:f<ay A):dt A d f 0 q % ay A=f∧dt A d f 0 q/ay A % (d+1)=0∧dt A d f 0 q/ay A/(d+1)=q:=sX hf (V5 _)
theorem Hi {f:Nat} (hf:f<ay A) (hk:k≤d):ll A d (dt A d f k q)=dt A d f 0 q:=by
 obtain ⟨h1,_,h3⟩:=sX (q:=q) hf hk;unfold ll;rw [h1,h3]
theorem HF (h:F/ay A % (d+1)≠0):jq A d L φ X F 0=jq A d L φ X (F+1) 0:=BX fun p _ _=>by
 have hne:ll A d p≠F:=fun e=>by
  have:=(Ec (d:=d) (q:=p/ay A/(d+1)) (Wy p (cU A))).2.1;unfold ll at e;rw [e] at this;exact h this
 omega
theorem GK {i:Nat} (h:L≤i):jq A d L φ X F i=jq A d L φ X (F+1) 0:=BX fun p _ hL=>by omega
theorem KE {f i:Nat} (hf:f<ay A) (hiL:i<L) (hi:i≤d):(jq A d L φ X (dt A d f 0 q) i).set (dt A d f i q) (jT (φ (fQ A d X f q)) i)=jq A d L φ X (dt A d f 0 q) (i+1):=by
 obtain ⟨h1,h2,h3⟩:=sX (q:=q) hf hi;refine XN fun p=> ?_;rw [Yf,g9];by_cases hp:p<X.length
 ·rw [nZ hp,nZ hp];by_cases e:dt A d f i q=p
  ·subst e;rw [V2 rfl,V2 hp,h1,h2,h3,Hi hf hi,V2 ⟨hiL,.inr ⟨rfl,Nat.lt_succ_self i⟩⟩]
  ·rw [V3 e];have hne:¬(ll A d p=dt A d f 0 q∧p/ay A % (d+1)=i):=fun ⟨a,b⟩=>by
    have e1:=Ec (d:=d) (q:=p/ay A/(d+1)) (Wy p (cU A));have e2:=Ec (d:=d) (q:=q) hf;unfold ll at a;rw [a] at e1;have:=yg (A:=A) (d:=d) p;rw [b,←e1.1,←e1.2.2,e2.1,e2.2.2] at this;exact e this
   congr 1;by_cases hL:p/ay A % (d+1)<L∧(ll A d p<dt A d f 0 q∨ll A d p=dt A d f 0 q∧p/ay A % (d+1)<i)
   ·rw [V2 hL,V2 ⟨hL.1,VX⟩]
   ·rw [V3 hL,V3 (fun h=>hL ⟨h.1,VX⟩)]
 ·rw [WK (by rw [g9];omega)];by_cases e:dt A d f i q=p
  ·rw [V2 e,e,V3 hp,WK (by rw [g9];omega)]
  ·rw [V3 e,WK (by rw [g9];omega)]
theorem Hl {B:List Nat}{p:Nat} (hX:X.length=ay (A++d::B)) (hp:p<X.length):(jq A d L φ X X.length 0)[p]?=some (if p/ay A % (d+1)<L then jT (φ (fQ A d X (p % ay A) (p/ay A/(d+1)))) (p/ay A % (d+1)) else jT X p):=by
 rw [nZ hp];have hlt:ll A d p<X.length:=by
  have h1:=yg (A:=A) (d:=d) p;have h2:ll A d p≤p:=by
   conv=>rhs;rw [←h1]
   unfold ll dt;have:=WS (ay A) (show 0+(d+1)*(p/ay A/(d+1))≤p/ay A % (d+1)+(d+1)*(p/ay A/(d+1)) by omega);omega
  omega
 congr 1;by_cases h:p/ay A % (d+1)<L
 ·rw [V2 ⟨h,.inl hlt⟩,V2 h]
 ·rw [V3 (fun h2=>h h2.1),V3 h]
theorem KJ {B:List Nat}{M:Nat→Nat→Dyadic} (hX:X.length=ay (A++d::B)):jq A d (d+1) (kR d M) X X.length 0=iu (A++d::B) A.length M X:=by
 refine XN fun p=> ?_;by_cases hp:p<X.length
 ·obtain ⟨f,k,q,hf,hk,hq,rfl⟩:=DR (A:=A) (d:=d) (B:=B) (by rw [←hX];exact hp);obtain ⟨h1,h2,h3⟩:=sX (q:=q) hf hk;rw [Hl hX hp,h1,h2,h3,V2 VX];have e1:(kR d M (fQ A d X f q))[k]?=some (sm (List.range (d+1)) fun i=>jT (fQ A d X f q) i*M i k):=by
   unfold kR;exact Jw
  rw [KL M X hf hk hq];congr 1;show ((kR d M (fQ A d X f q))[k]?).getD 0=_;rw [e1];refine fN fun i hi=> ?_;have hi:=Xx.1 hi;show ((fQ A d X f q)[i]?).getD 0*_=_;unfold fQ;rw [Wf,Xc hi]
  rfl
 ·rw [WK (by rw [g9];omega),WK (by rw [pC,←hX];omega)]
end
theorem nO (N:Nat):fa N [.bool false,.string (ByteArray.mk #[]),.int .i64 0]=az NR.cells ((List.replicate N (0:Dyadic)).map nR):=by
 rw [Kn,tZ]
theorem Sz.bf {x:Dyadic} (h:Sz k x):(nR x).bf.size≤k+1:=by have:=h.nr.1;omega
structure PB (q:Nat) (s:NR) (x:Dyadic):Prop where
 ok:s.ok
 bf:s.bf.size≤2001
 d:s.d=x
 sz:Sz q x
theorem PB.of {x:Dyadic} (h:Sz q x) (hq:q≤2000):PB q (nR x) x:=⟨h.ok VX,by have:=h.bf;omega,cm x,h⟩
def Vr (l:List Dyadic) (i:Nat):List Dyadic:=(List.range l.length).map fun k=>if k<i∨l.length≤k+i then jT l (l.length-1-k) else jT l k
def tQ:List Dyadic→Dyadic→Dyadic
 |[],_=>0
 |c::cs,t=>c+t*tQ cs t
def S0:List Nat→List Dyadic→Dyadic
 |a::s,x::xs=>x^a*S0 s xs
 |_,_=>1
theorem lz (n:Nat):(1:Dyadic)^n=1:=by
 induction n with
 |zero=>grind
 |succ n ih=>grind
def dz (m:ByteArray):List Nat:=m.data.toList.map UInt8.toNat
theorem lM (m:ByteArray):(dz m).length=m.size:=by rw [dD];exact Wh _
theorem Lm {a b:ByteArray} (h:dz a=dz b):a=b:=u3 (List.map_inj_right (fun _ _=>YP.1)|>.1 h)
theorem xT (m:ByteArray):ints m.data.toList=bU (dz m):=by unfold ints bU dz;rw [W5];rfl
def Vf (xs:List Dyadic) (l:List TR):Dyadic:=wS (fun m=>S0 (dz m) xs) l
theorem Sf (f:ByteArray→Dyadic) (l:List TR):wS f l=sm l fun t=>t.c.d*f t.m:=by
 induction l with
 |nil=>rfl
 |cons t l ih=>rw [wS,sm,ih]
theorem ET (j:Nat) (t:TR):j1 j t=((dz t.m)[j]?).getD 0:=by
 unfold j1 dz;rw [Wf]
 cases t.m.data.toList[j]?<;>rfl
variable {ds:List Nat}
def wK:Nat→List Nat→List Nat→List Nat→Dyadic
 |m+1,_::ds,a::s,r::rs=>(if a=r then 1 else 0)*wK m ds s rs
 |0,d::ds,a::s,r::rs=>eX d 1 1 a r*wK 0 ds s rs
 |_,_,_,_=>1
theorem Gr:∀(j:Nat) (ds s rs:List Nat),j<ds.length→nU ds s→nU ds rs→sm (List.range (ds.getD j 0+1)) (fun i=>wK (j+1) ds s (rs.set j i)*eX (ds.getD j 0) 1 1 i (rs.getD j 0))=wK j ds s rs
 |_,[],_,_,h,_,_=>by cases h
 |_,_::_,[],_,_,h,_=>by cases h
 |_,_::_,_::_,[],_,_,h=>by cases h
 |0,d::ds,a::s,r::rs,_,h1,_=>by
  show sm (List.range (d+1)) (fun i=>(if a=i then 1 else 0)*wK 0 ds s rs*eX d 1 1 i r)=eX d 1 1 a r*wK 0 ds s rs;have e:sm (List.range (d+1)) (fun i=>(if a=i then 1 else 0)*wK 0 ds s rs*eX d 1 1 i r)=sm (List.range (d+1)) fun i=>if i=a then eX d 1 1 a r*wK 0 ds s rs else 0:=fN fun i _=>by
   by_cases h:a=i
   ·rw [V2 h,V2 h.symm,h];grind
   ·rw [V3 h,V3 (fun e=>h e.symm)];grind
  rw [e,yL,V2 (by have:=h1.1;omega)]
 |j+1,d::ds,a::s,r::rs,hj,h1,h2=>by
  show sm (List.range (ds.getD j 0+1)) (fun i=>(if a=r then 1 else 0)*wK (j+1) ds s (rs.set j i)*eX (ds.getD j 0) 1 1 i (rs.getD j 0))=(if a=r then 1 else 0)*wK j ds s rs;rw [←Gr j ds s rs (by simpa using hj) h1.2 h2.2,←BE];exact fN fun i _=>by grind
theorem JZ:∀(ds s rs:List Nat),nU ds s→nU ds rs→wK ds.length ds s rs=if s=rs then 1 else 0
 |[],[],[],_,_=>by rw [V2 rfl];rfl
 |[],_::_,_,h,_=>by cases h
 |[],[],_::_,_,h=>by cases h
 |_::_,[],_,h,_=>by cases h
 |_::_,_::_,[],_,h=>by cases h
 |d::ds,a::s,r::rs,h1,h2=>by
  show (if a=r then 1 else 0)*wK ds.length ds s rs=_;rw [JZ ds s rs h1.2 h2.2];by_cases e1:a=r
  ·by_cases e2:s=rs
   ·rw [V2 e1,V2 e2,V2 (by rw [e1,e2])];grind
   ·rw [V2 e1,V3 e2,V3 fun e=>e2 (List.cons.inj e).2];grind
  ·rw [V3 e1,V3 fun e=>e1 (List.cons.inj e).1];grind
abbrev QL:=List (List Nat×Dyadic)
def X0 (ds:List Nat) (L:QL):List Dyadic:=oE (ay ds) (L.map fun q=>(jf ds q.1,q.2))
def qF (ds:List Nat) (L:QL):Nat→List Dyadic
 |0=>X0 ds L
 |k+1=>iu ds (ds.length-1-k) (eX (ds.getD (ds.length-1-k) 0) 1 1) (qF ds L k)
theorem qX (ds:List Nat) (L:QL) (k:Nat):qF ds L (k+1)=iu ds (ds.length-1-k) (eX (ds.getD (ds.length-1-k) 0) 1 1) (qF ds L k):=rfl
theorem BG (ds:List Nat) (L:QL) (k:Nat):(qF ds L k).length=ay ds:=by
 cases k with
 |zero=>exact lG _ _
 |succ k=>rw [qX,pC]
theorem Kj {ds:List Nat}{L:QL} (hL:∀q∈L,nU ds q.1):∀k,k≤ds.length→∀row,nU ds row→co ds (qF ds L k) row=sm L fun q=>q.2*wK (ds.length-k) ds q.1 row
 |0,_,row,hr=>by
  have hp:=qD hr;rw [E6 hr];show ((X0 ds L)[jf ds row]?).getD 0=_;unfold X0;rw [nC _ hp,Xq,xX];refine fN fun q hq=> ?_;rw [Nat.sub_zero,JZ ds q.1 row (hL q hq) hr];by_cases h:q.1=row
  ·rw [V2 h,V2 (by rw [h])];grind
  ·rw [V3 h,V3 fun e=>h (by rw [←kq (hL q hq),←kq hr];exact W8 (dq ds) e)];grind
 |k+1,hk,row,hr=>by
  obtain ⟨j,hj⟩:∃j,j=ds.length-1-k:=⟨_,rfl⟩;rw [qX,←hj,HR _ _ _ hr,show ds.length-(k+1)=j by omega];have e1:∀i,i<ds.getD j 0+1→co ds (qF ds L k) (row.set j i)=sm L fun q=>q.2*wK (j+1) ds q.1 (row.set j i):=fun i hi=>by
   rw [Kj hL k VX (row.set j i) (E0 hr VX),show ds.length-k=j+1 by omega]
  rw [fN fun i hi=>show co ds (qF ds L k) (row.set j i)*eX (ds.getD j 0) 1 1 i (row.getD j 0)=sm L fun q=>q.2*(wK (j+1) ds q.1 (row.set j i)*eX (ds.getD j 0) 1 1 i (row.getD j 0)) by
   rw [e1 i (Xx.1 hi),←Ku];exact fN fun q _=>by grind,Mb]
  refine fN fun q hq=> ?_;rw [←Gr j ds q.1 row VX (hL q hq) hr,←BE]
def sV (ns:List Nat) (l:List TR):List Dyadic:=(List.range (ay ns.reverse)).map fun p=>wS (fun m=>wK 0 ns.reverse (dz m).reverse (dq ns.reverse p)) l
theorem FQ (ns:List Nat) (l:List TR):(sV ns l).length=ay ns:=by unfold sV;rw [Wh,YH,db]
def sB (l:List TR):QL:=l.map fun t=>((dz t.m).reverse,t.c.d)
theorem IJ {ns:List Nat} (hl:∀t∈l,nU ns.reverse (dz t.m).reverse):qF ns.reverse (sB l) ns.length=sV ns l:=by
 have hL:∀q∈sB l,nU ns.reverse q.1:=fun q hq=>by
  obtain ⟨t,ht,rfl⟩:=Wn.1 hq;exact hl t ht
 refine QP (ds:=ns.reverse) (BG _ _ _) (by rw [FQ,db]) fun row hr=> ?_;have hp:=qD hr;rw [Kj hL ns.length (by rw [W3];exact V8 _) row hr,E6 hr,show ns.reverse.length-ns.length=0 by rw [W3,W9]];unfold sV sB;rw [Wf,Xc hp,xX];show _=wS _ l;rw [Sf,kq hr]
theorem uT:∀{ds rs:List Nat} (a:Nat),nU ds rs→rs.getD a 0≤ds.getD a 0
 |[],[],_,_=>by simp
 |[],_::_,_,h=>by cases h
 |_::_,[],_,h=>by cases h
 |_::_,_::_,0,h=>h.1
 |_::ds,_::rs,a+1,h=>uT (ds:=ds) (rs:=rs) a h.2
theorem HB {a d:Nat}{X:List Dyadic} (hx:∀x∈X,Sz k x) (hd:ds.getD a 0=d) (hd7:d≤127):∀x∈iu ds a (eX d 1 1) X,Sz (k+520) x:=fun x h=>by
 obtain ⟨p,_,rfl⟩:=Wn.1 h;have hr:(dq ds p).getD a 0≤d:=by rw [←hd];exact uT a (l3 ds p)
 have h2:=Ch (l:=List.range (ds.getD a 0+1)) (f:=fun i=>co ds X ((dq ds p).set a i)*eX d 1 1 i ((dq ds p).getD a 0)) (k:=k+(130+2*(1*d))) fun i _=>by
  refine Sz.mul ?_ (yZ Sz.one Sz.one hd7 hr);exact Po
 rw [YH,hd] at h2;rw [hd];exact h2.mono VX
theorem Bl {B:Nat} (h:∀d∈ds,d≤B) (a:Nat):ds.getD a 0≤B:=by
 rw [Xw]
 cases ha:ds[a]? with
 |none=>exact V5 _
 |some d=>exact h d (V7 ha)
theorem KF {ds:List Nat}{L:QL}{k:Nat} (h:∀x∈X0 ds L,Sz k x) (hd:∀d∈ds,d≤127):∀i,∀x∈qF ds L i,Sz (k+520*i) x
 |0=>h
 |i+1=>fun x hx=>(HB (KF h hd i) rfl (Bl hd _) x hx).mono VX
theorem TM (h:jc k l):∀x∈X0 ds (sB l),Sz (k+l.length) x:=fun x hx=>by
 have:=LN (N:=ay ds) (L:=(sB l).map fun (q:List Nat×Dyadic)=>(jf ds q.1,q.2)) (k:=k) (fun a ha=>by
  obtain ⟨q,hq,rfl⟩:=Wn.1 ha;obtain ⟨t,ht,rfl⟩:=Wn.1 hq;exact (h t ht).2) x hx
 unfold sB at this;rwa [Wh,Wh] at this
def Uw (p:Int×Int):Bool:=decide (p.2<p.1∨127<p.2)
def U8 (ds es:List Int):Int:=if es.length≠ds.length then 1 else if (ds.zip es).any Uw=true then 1 else if 4096<ay (es.map Int.toNat) then 3 else 0
def QU (a b:List Nat):List Nat:=List.zipWith (· - ·) a b
def RL (ns ts:List Nat) (xs:List Dyadic):List Dyadic:=Tn ns (QU ts ns) xs ((C6 (QU ts ns)).map nD)
theorem xc:∀{a b:List Nat},a.length=b.length→(∀(i x y:Nat),a[i]?=some x→b[i]?=some y→x≤y)→ay a≤ay b
 |[],[],_,_=>V8 _
 |[],_::_,h,_=>by simp at h
 |_::_,[],h,_=>by simp at h
 |x::a,y::b,h,h2=>by
  have h0:=h2 0 x y rfl rfl;rw [ay,ay];exact XM VX (xc (by simpa using h) fun i p q hp hq=>h2 (i+1) p q hp hq)
def VR (es ds:List Int):List Int:=List.zipWith (· - ·) es ds
theorem GV (ts:List Nat):(bU ts).map Int.toNat=ts:=by
 unfold bU;rw [W5];exact Y1 ts
def VC (e:Int):Ending:=.returned (.tuple #[.agg #[.slice none 0 0,.slice none 0 0],.int .i64 e])
def FX.vD (f:FX):HE:=.row f.B f.m f.b 65 3 (az NR.cells f.cs)
def FX.uC (f:FX):HE:=.row f.A f.n f.a 3 1 (bC f.ds)
def TQ:List FX→List HE
 |[]=>[]
 |f::fs=>f.vD::f.uC::TQ fs
def SD (a b:List Nat):List Nat:=List.zipWith max a b
def maxD (fs:List FX):List Nat:=fs.foldl (fun a f=>SD a (f.ds.map Int.toNat)) ((fs.map fun f=>f.ds.map Int.toNat).headD [])
def T3 (fs:List FX):Int:=if Fh fs≠0 then Fh fs else if 4096<ay (maxD fs) then 3 else 0
def FX.ns (f:FX):List Nat:=f.ds.map Int.toNat
theorem FX.fv {f:FX} (h:f.e=0):f.ds=bU f.ns∧f.cs=(f.cs.map NR.d).map nR∧f.ns.length≤12∧(∀d∈f.ns,d≤127)∧f.cs.length=ay f.ns∧ay f.ns≤4096:=by
 obtain ⟨ns,xs,hv,hxs⟩:=TW h;obtain ⟨h1,h2,h3,h4,h5,h6⟩:=hv;have e:f.ns=ns:=by unfold FX.ns;rw [h1];exact GV ns
 subst hxs;rw [e];exact ⟨h1,h2,h3,h4,by simpa using h5,h6⟩
structure VN (D:List Nat) (ys:List Dyadic) (g:FX):Prop where
 ds:g.ds=bU D
 cs:g.cs=ys.map nR
 n:g.n=D.length
 m:g.m=ay D
def VQ (D:List Nat) (f:FX):List Dyadic:=RL f.ns D (f.cs.map NR.d)
def Vq (a b:List Nat) (j:Nat):List Nat:=(SD a b).take j++a.drop j
def QO (a b:List Dyadic):List Dyadic:=List.zipWith (· + ·) a b
def Vd:List (List Dyadic)→List Dyadic
 |[]=>[]
 |x::l=>l.foldl QO x
def U7 (a b:List Dyadic) (j:Nat):List Dyadic:=(QO a b).take j++a.drop j
def UX (f g:FX):Int:=if Fh [f,g]≠0 then Fh [f,g] else if Ue (RH f.ns g.ns)=true then 3 else 0
def Vv (a b:List Nat) (j:Nat):List Nat:=(RH a b).take j++a.drop j
variable {c c':Nat}{ls:List Int}{w0:World}
theorem zR {H:List HE}{L D:Option Addr}{ds:List Int} (w:World) (hh:Hp w0 (.row L n c 3 1 (bC ls)::H) w) (hD:Sl w0 D n 1 (bC ds)) (hn:n≤100000)
  (hl:ls.all cE=true) (hd:ds.all cE=true) (hll:ls.length=n):
  Calls Tryz.prog 186 #[.slice L n c,.slice D n c'] w fun e w'=>
   match rj ds ls with
   |some l'=>e=.returned (.bool true)∧Hp w0 (.row L n c 3 1 (bC l')::H) w'
   |none=>e=.returned (.bool false)∧Hp w0 (.row L n c 3 1 (bC (gC n))::H) w':=by
 have hdl:ds.length=n:=by have:=hD.1;rw [bV] at this;omega
 refine aj (N:=31) (l:=[.slice L n c,.slice D n c']) Tryz.func186 rfl rfl (by simp) ?_;refine tL ?_;refine dQ (aI (aa (aq ?_)));refine aM [4,5,9,10,11,12,13,14,15,16,17,18,19,20,21,22,23,24,25,26,27,28,29,30] 5
  (fun i w'=>∃(k:Nat) (z:Int),k≤n∧i=.int .i64 z∧z=(k:Int)-1∧rj (ds.drop k) (ls.drop k)=none∧Hp w0 (.row L n c 3 1 (bC (oD ls k n))::H) w')
  (fun i _=>(intOf i+1).toNat) ?_ ?_
 ·exact ⟨n,_,V8 _,rfl,rfl,by rw [XB VX];rfl,by rw [Km hll];exact hh⟩
 ·clear hh;rintro ρ' i w' ⟨k,z,hk,rfl,hz,hnx,hh⟩
  cases k with
  |zero=>
   refine ah (sr (mI ?_));refine dJ (aa (cF (aU (aD (aD (bk (ai (sr (aB (aa (au ?_)))))))))));refine cS ?_;rw [List.drop_zero,List.drop_zero] at hnx;rw [hnx];exact ⟨rfl,by simpa [oD] using hh⟩
  |succ k=>
   obtain rfl:z=(k:Int):=VX;obtain ⟨x,hx⟩:=ak (l:=ls) (k:=k) VX;obtain ⟨d,hdk⟩:=ak (l:=ds) (k:=k) VX;have bx:=Bo hl hx;have bd:=Bo hd hdk;have hx2:=cw (RK (n:=n) hx);have hol:=NQ hll hk;have hol2:=bV (oD ls (k+1) n);obtain ⟨g,rfl⟩:=hh.cu (i:=0) rfl VX;have hD':=hD.ext hh.below;obtain ⟨ad,rfl,hr⟩:=hD'.at_ VX;by_cases hlt:x<d
   ·refine ah (sr (mI ?_));refine dJ (aa (cT (ao (ai (ah (aq (ah (ah ?_))))))));refine P5 ?_;refine dI ?_;refine cM ?_;refine PY ?_;refine O2 ?_;refine dI ?_;refine cM ?_;refine OZ ?_;refine mO (fun _ hj=>gm (hr.ext hj.bl) (cw hdk) rfl) ?_;refine aJ ?_;intro f W hJ hV;have hb_4:=hJ.bl;obtain ⟨v20,v19,v18,v17,v16,v15,v14,v13,_⟩:=hV;replace hh:=hJ.hp;refine Pu ?_;dsimp only [bH];clear hJ;refine aW (aa (cT (sr (mL (mI ?_)))));refine tm ?_;refine jO ?_;refine a9 ?_;refine tm ?_;refine cd hh (i:=0) (vs:=[_]) rfl rfl (cR rfl) rfl aO.out rfl VX rfl ?_;intro ws hh;simp only [Wd] at hh;refine aa (sr (aB (aa (au (aE (bI (aE (aE (bI (aE ?_))))))))));refine cS ?_;rw [Wo,Ey _ hll VX] at hh;rw [Lg hdl hll hdk hx hnx hlt];exact ⟨rfl,hh⟩
   ·refine ah (sr (mI ?_));refine dJ (aa (cT (ao (ai (ah (aq (ah (ah ?_))))))));refine P5 ?_;refine dI ?_;refine cM ?_;refine PY ?_;refine O2 ?_;refine dI ?_;refine cM ?_;refine OZ ?_;refine mO (fun _ hj=>gm (hr.ext hj.bl) (cw hdk) rfl) ?_;refine aJ ?_;intro f W hJ hV;have hb_4:=hJ.bl;obtain ⟨v20,v19,v18,v17,v16,v15,v14,v13,_⟩:=hV;replace hh:=hJ.hp;refine Pu ?_;dsimp only [bH];clear hJ;refine aW (aa (cF (ao (ai (al (mL (mI ?_)))))));refine tm ?_;refine cd hh (i:=0) (vs:=[_]) rfl rfl (cR rfl) rfl aO.out rfl VX rfl ?_;intro ws hh;simp only [Wd] at hh;refine xM ?_;refine dQ (aI (aA (ai ?_)));rw [Wo,Ey _ hll VX,I7 VX] at hh;refine ⟨⟨k,_,VX,rfl,rfl,KX hdk hx hnx hlt,hh⟩,by show ((k:Int)-1+1).toNat<((k:Int)+1).toNat;omega, ?_⟩;exact dy
theorem KT (n:Nat):fa n [Value.int .i64 0]=bC (gC n):=by rw [uR];simp [bC,gC]
theorem wO (l:List ByteArray) (x:ByteArray):iq l++[.string x]=iq (l++[x]):=by simp [iq]
theorem Hs (D:Option Addr) (n c:Nat) (ds:List Int) (w:World) (hD:Sl w D n 1 (bC ds)) (hn:n≤100000):
  Calls Tryz.prog 119 #[.slice D n c] w fun e w'=>∃A c,e=.returned (.slice A (mN ds).length c)∧w'.ownsRow w.heap.size 9 1 (.slice A (mN ds).length c) (mN ds).length (iq (mN ds))∧Below w.heap.size w w':=by
 have hdl:ds.length=n:=by have:=hD.1;rw [bV] at this;omega
 have hh:=Hp.start w;refine aj (N:=52) (l:=[.slice D n c]) Tryz.func119 rfl rfl (by simp) ?_;refine sr (aL (aa (sr (aI (aa (ah (sr (mL (aF (mI (aa (aq ?_))))))))))));refine bp [2,3,5,13,14,15,16,17,18,19,20,21,22,23,24,25,26,27,28,29,30,31,32,33,34] 3 13
  (fun p i w'=>∃(k:Nat),k≤n∧i=.int .i64 k∧p=.int .i64 (dr (ds.take k)).length∧(dr (ds.take k)).length≤65536∧sj 1 ds=sj (dr (ds.take k)).length (ds.drop k)∧w=w')
  (fun _ i _=>n-(intOf i).toNat) ?_ ?_
 ·exact ⟨0,V5 _,rfl,rfl,by simp [dr],rfl,rfl⟩
 ·rintro ρ' p i w' ⟨k,hk,rfl,rfl,hsz,hok,rfl⟩;by_cases hlt:k<n
  ·obtain ⟨d,hdk⟩:=ak (l:=ds) (k:=k) VX;obtain ⟨ad,rfl,hr⟩:=hD.at_ VX;have hpos:=vx (ds.take k);by_cases hb1:0≤d∧d≤127
   ·have hm1:(0:Int)≤(dr (ds.take k)).length*(d+1):=Int.mul_nonneg VX VX;have hm2:((dr (ds.take k)).length:Int)*(d+1)≤65536*128:=YL VX VX VX VX;by_cases hb2:((dr (ds.take k)).length:Int)*(d+1)≤65536
    ·have hstep:=vw hdk hok ⟨hb1,hb2⟩;rw [←fy hdk hb1.1] at hstep;have hl2:=fy hdk hb1.1;refine sr ?_;refine dZ ?_;refine fp ?_;refine oS ?_;refine aI (aa (ah (sr (mI ?_))));refine aW (mB (gT (mI (gT ?_))));refine bM ?_;refine dE ?_;refine mB (gT (mI (gT (mI (gT ?_)))));refine a9 (gT ?_);refine mulC (gT ?_);refine bM ?_;refine dE ?_;refine aa (cF (ao (ai (al (mI (mI ?_))))));refine a9 ?_;refine mulC (aI (aA (bF (ai (al ?_)))));refine a9 (mI (aA (ai ?_)));exact Oi
    ·have hf:=mZ hdk hok fun h=>hb2 h.2;refine sr ?_;refine dZ ?_;refine fp ?_;refine oS ?_;refine aI (aa (ah (sr (mI ?_))));refine aW (mB (gT (mI (gT ?_))));refine bM ?_;refine dE ?_;refine mB (gT (mI (gT (mI (gT ?_)))));refine a9 (gT ?_);refine mulC (gT ?_);refine bM ?_;refine dE ?_;exact Lp
   ·have hf:=mZ hdk hok fun h=>hb1 h.1;refine sr ?_;refine dZ ?_;refine fp ?_;refine oS ?_;by_cases h0:d<0
    ·refine aI (aa (ah (sr (mI ?_))));refine aW (mB ?_);refine gS (gS ?_);refine eM ?_;refine mB ?_;refine gS (gS (gS (gS (gS ?_))));refine eM ?_;exact Lp
    ·refine aI (aa (ah (sr (mI ?_))));refine aW (mB (gT (mI (gT ?_))));refine bM ?_;refine dE ?_;refine mB ?_;refine gS (gS (gS (gS (gS ?_))));refine eM ?_;exact Lp
  ·obtain rfl:n=k:=VX;rw [Wa VX] at hsz;rw [XB VX] at hok;have hok:sj 1 ds=true:=hok;have hbd:=y9 ds 1 hok;have hen:=AE ds fun d hd=>(hbd d hd).1;have hall:=si ds hbd;have hdok:ds.all cE=true:=by
    rw [Ww];intro d hd;have:=hbd d hd;simp [cE,this]
   have hAl:mN ds=(dr ds).map fX:=by simp only [mN,hok,if_true]
   refine sr ?_;refine aW (aa (ah (cF (aU (aD (aD (bk (ai (sr (mL (aF ?_)))))))))));refine gj hh rfl rfl rfl rfl bj.out aO.out rfl VX VX VY ?_;intro b37 w37 hh;refine aL (aa (sr (aL (aa (ah (sr (aB (aa (aq ?_)))))))));rw [KT] at hh;rw [hdl] at hen;refine bp [7,8,9,10,38,39,40,41,42,43,44,45,46,47,48,49,50] 7 8
    (fun v b w'=>∃(done rest:List (List Int)) (a:List Int) (A:Option Addr) (c':Nat),v=.slice A done.length c'∧Hp w [.row (some ⟨b37,0,none⟩) n n 3 1 (bC a),.row A done.length c' 9 1 (iq (done.map fX))] w'∧dr ds=done++rest∧((b=.bool true∧oF (rj ds) a rest)∨(b=.bool false∧rest=[])))
    (fun v _ _=>65537-lenOf v) ?_ ?_
   ·exact ⟨[],_,_,none,0,rfl,(hh.ck _ _).swap,rfl,.inl ⟨rfl,hen⟩⟩
   ·clear hh;rintro ρ' v b w' ⟨done,rest,a,A,c',rfl,hh,hap,hc⟩
    rcases hc with ⟨rfl,hE⟩|⟨rfl,rfl⟩
    ·have hlen:(dr ds).length=done.length+rest.length:=by rw [hap,Wc]
     have hre:rest=a::rest.tail:=by
      rcases we hE with ⟨h,_⟩|⟨c,L,h,_⟩<;>simp [h]
     have hrl:rest.length=rest.tail.length+1:=by rw [hre];simp
     have ha:a∈dr ds:=by rw [hap,hre];simp
     have hao:=hall a ha;have hal:=j2 ds a ha;obtain ⟨eo1,eo2⟩:=nF hao;have e1:iq (done.map fX)++[.string (str (H8 a))]=iq ((done++[a]).map fX):=by rw [wO,eo1,WT];rfl
     refine ah (sr (mB (aa (cT (ao (ai (ah (aq (sr (mL ?_))))))))));refine br hh (B0 _ _ _ _ _ (hh.aC (i:=0) rfl) VX) rfl ?_;intro w44 hh;refine mT ?_;refine du ?_;refine du ?_;refine aS (aI (aa (al (mL (mS ?_)))));refine cZ hh (cs:=[_]) bj.out aO.out (aX (Dx rfl) ct) rfl rfl VY VY VY rfl VY ?_;intro b49 w49 hh;refine bK hh (i:=2) rfl rfl rfl (hh.aC (i:=0) rfl) bj.out aO.out rfl VY rfl VX VX VY ?_;intro A50 c50 w50 hh;simp only [Wd,WH] at hh;replace hh:=hh.sub (WE _ _);refine aL (aA (bF (ai (al (mL (mL ?_))))));rw [e1] at hh;have hcc:=zR (D:=D) (c':=c) (ds:=ds) _ hh hD VX hao hdok VX
     rcases we hE with ⟨h1,h2⟩|⟨c2,L,h1,h2,h3⟩
     ·rw [h2] at hcc;refine aG (hcc) ar.out rfl VY ?_;rintro e_ w_ ⟨rfl,hh⟩;refine ⟨_,rfl, ?_⟩;refine aB (aA (ai ?_));refine ⟨⟨done++[a],[],_,A50,c50,by rw [Wc];rfl,by rw [Wc];exact hh,by rw [hap,h1];simp,.inr ⟨rfl,rfl⟩⟩,by show 65537-(done.length+1)<65537-done.length;omega, ?_⟩;exact dy
     ·rw [h2] at hcc;refine aG (hcc) ar.out rfl VY ?_;rintro e_ w_ ⟨rfl,hh⟩;refine ⟨_,rfl, ?_⟩;refine aB (aA (ai ?_));refine ⟨⟨done++[a],L,c2,A50,c50,by rw [Wc];rfl,by rw [Wc];exact hh,by rw [hap,h1];simp,.inl ⟨rfl,h3⟩⟩,by show 65537-(done.length+1)<65537-done.length;omega, ?_⟩;exact dy
    ·refine ah (sr (mB (aa (cF (aU (aD (aD (bk (ai (sr (mL (aL (aa (au ?_))))))))))))));refine cS ?_;have h1:=hh.at_ (i:=1) rfl;have hdn:dr ds=done:=by rw [hap];simp
     rw [hAl,hdn,Wh];exact ⟨A,c',rfl,h1,hh.below⟩
theorem Db (D:Option Addr) (n c:Nat) (ds:List Int) (w:World) (hD:Sl w D n 1 (bC ds)) (hn:n≤100000):
  Calls Tryz.prog 180 #[.slice D n c] w fun e w'=>∃A c,e=.returned (.slice A (mN ds).length c)∧w'.ownsRow w.heap.size 9 1 (.slice A (mN ds).length c) (mN ds).length (iq (mN ds))∧Below w.heap.size w w':=by
 have hdl:ds.length=n:=by have:=hD.1;rw [bV] at this;omega
 have hh:=Hp.start w;refine aj (N:=72) (l:=[.slice D n c]) Tryz.func180 rfl rfl (by simp) ?_;refine sr (aL (aa (sr (aI (aa (ah (sr (aI (aa (aq ?_))))))))));refine bp [2,3,4,10,11,12,13,14,15,16,17,18,19,20,21,22,23,24,25,26,27,28,29,30,31,32,33,34,35,36] 3 4
  (fun p i w'=>∃(k:Nat),k≤n∧i=.int .i64 k∧p=.int .i64 (dr (ds.take k)).length∧(dr (ds.take k)).length≤65536∧sj 1 ds=sj (dr (ds.take k)).length (ds.drop k)∧w=w')
  (fun _ i _=>n-(intOf i).toNat) ?_ ?_
 ·exact ⟨0,V5 _,rfl,rfl,by simp [dr],rfl,rfl⟩
 ·rintro ρ' p i w' ⟨k,hk,rfl,rfl,hsz,hok,rfl⟩;by_cases hlt:k<n
  ·obtain ⟨d,hdk⟩:=ak (l:=ds) (k:=k) VX;obtain ⟨ad,rfl,hr⟩:=hD.at_ VX;have hpos:=vx (ds.take k);by_cases hb1:0≤d∧d≤127
   ·have hm1:(0:Int)≤(dr (ds.take k)).length*(d+1):=Int.mul_nonneg VX VX;have hm2:((dr (ds.take k)).length:Int)*(d+1)≤65536*128:=YL VX VX VX VX;by_cases hb2:((dr (ds.take k)).length:Int)*(d+1)≤65536
    ·have hstep:=vw hdk hok ⟨hb1,hb2⟩;rw [←fy hdk hb1.1] at hstep;have hl2:=fy hdk hb1.1;refine ah (sr (mI (mL (aF ?_))));refine xg ?_;refine fp ?_;refine oS ?_;refine aW (mB (gT (mL (gT (mI (gT ?_))))));refine fp ?_;refine JV ?_;refine gT ?_;refine bM ?_;refine dE ?_;refine aa (cF (ao (ai (sr (mI (mL (mI ?_)))))));refine fp ?_;refine oS ?_;refine a9 ?_;refine mulC (aI (aa (sr (mI ?_))));refine bM (aa (cF (ao (bF (ai (al (mI ?_)))))));refine a9 (aI (aA (ai ?_)));exact Oi
    ·have hf:=mZ hdk hok fun h=>hb2 h.2;refine ah (sr (mI (mL (aF ?_))));refine xg ?_;refine fp ?_;refine oS ?_;refine aW (mB (gT (mL (gT (mI (gT ?_))))));refine fp ?_;refine JV ?_;refine gT ?_;refine bM ?_;refine dE ?_;refine aa (cF (ao (ai (sr (mI (mL (mI ?_)))))));refine fp ?_;refine oS ?_;refine a9 ?_;refine mulC (aI (aa (sr (mI ?_))));refine bM (aa (cT (sr (aL (aa (au (bI (aE (aE (bI (aE ?_)))))))))));refine cS ?_;simp only [mN,hf];exact QH
   ·have hf:=mZ hdk hok fun h=>hb1 h.1;refine ah (sr (mI (mL (aF ?_))));refine xg ?_;refine fp ?_;refine oS ?_;by_cases h0:d<0
    ·refine aW (mB ?_);refine gS (gS (gS ?_));refine ic ?_;refine gS ?_;refine eM ?_;exact Lp
    ·refine aW (mB (gT (mL (gT (mI (gT ?_))))));refine fp ?_;refine JV ?_;refine gT ?_;refine bM ?_;refine dE ?_;exact Lp
  ·obtain rfl:n=k:=VX;rw [XB VX] at hok;have hok:sj 1 ds=true:=hok;have hbd:=y9 ds 1 hok;have hAl:mN ds=(dr ds).map fX:=by simp only [mN,hok,if_true]
   refine ah (sr (mI (mL (aF ?_))));refine aW (aa (cF (aU (aD (aD (bk (ai (sr ?_))))))));refine cZ hh (cs:=[_]) bj.out aO.out (aX rfl ct) rfl rfl VY VY VY rfl VY ?_;intro b37 w37 hh;refine EK ?_;refine bp [5,6,7,8,9,38,39,40,41,42,43,44,45,46,47,48,49,50,51,52,53,54,55,56,57,58,59,60,61,62,63,64,65,66,67,68,69,70] 5 6
    (fun v i w'=>∃(k:Nat) (A:Option Addr) (c':Nat),k≤n∧i=.int .i64 k∧v=.slice A ((dr (ds.take k)).map fX).length c'∧Hp w [.row A ((dr (ds.take k)).map fX).length c' 9 1 (iq ((dr (ds.take k)).map fX))] w')
    (fun _ i _=>n-(intOf i).toNat) ?_ ?_
   ·exact ⟨0,_,_,V5 _,rfl,rfl,hh⟩
   ·clear hh hsz hk;rintro ρ2 v i w' ⟨k,A,c',hk,rfl,rfl,hh⟩;by_cases hlt:k<n
    ·obtain ⟨d,hdk⟩:=ak (l:=ds) (k:=k) VX;have bd:=hbd d (V7 hdk);have hst:=NB hdk;have hbig:=(u6 hok (k+1) VX).2;have hbig2:(((dr (ds.take k)).map fX).flatMap (gX d)).length≤65536:=by rw [←hst,Wh];exact hbig
     have hsm:∀(j:Nat) (s:ByteArray),((dr (ds.take k)).map fX)[j]?=some s→s.size≤k:=fun j s h=>M1 h;have hS:=(u6 hok k VX).2;rw [←Wh (f:=fX)] at hS;generalize (dr (ds.take k)).map fX=S at*;refine ah (sr (mI (mL (aF ?_))));refine aW (aa (cT (ao (ai (ah (aq (sr (aL (aa (ah (ah (al (aI (aa (aq ?_)))))))))))))));replace hh:=hh.ck 9 1;refine bp [7,8,9,44,45,46,47,48,49,50,51,52,53,54,55,56,57,58,59,60,61,62,63,64,65,66,67,68,69] 7 8
      (fun v j w'=>∃(j':Nat) (B:Option Addr) (c2:Nat),j'≤S.length∧j=.int .i64 j'∧v=.slice B ((S.take j').flatMap (gX d)).length c2∧Hp w [.row B ((S.take j').flatMap (gX d)).length c2 9 1 (iq ((S.take j').flatMap (gX d))),.row A S.length c' 9 1 (iq S)] w')
      (fun _ j _=>S.length-(intOf j).toNat) ?_ ?_
     ·exact ⟨0,none,0,V5 _,rfl,rfl,hh⟩
     ·clear hh;rintro ρ3 v j w' ⟨j,B,c2,hj,rfl,rfl,hh⟩;by_cases hlj:j<S.length
      ·obtain ⟨s,hs⟩:=ak hlj;have hss:=hsm j s hs;have hs2:=s7 hs;have hlS:=na S;refine ah (sr (mI (mL (aF ?_))));refine aW (aa (cT (ao (ai (ah (aq (sr (aI (aa (aq ?_))))))))));refine bp [7,9,50,51,52,53,54,55,56,57,58,59,60,61,62,63,64,65,66,67,68,69] 7 9
        (fun v q w'=>∃(q':Nat) (B:Option Addr) (c2:Nat),q'≤d.toNat+1∧q=.int .i64 q'∧v=.slice B ((S.take j).flatMap (gX d)++(gX d s).take q').length c2∧Hp w [.row B ((S.take j).flatMap (gX d)++(gX d s).take q').length c2 9 1 (iq ((S.take j).flatMap (gX d)++(gX d s).take q')),.row A S.length c' 9 1 (iq S)] w')
        (fun _ q _=>d.toNat+1-(intOf q).toNat) ?_ ?_
       ·exact ⟨0,B,c2,V5 _,rfl,by rw [XV,WG];rfl,by rw [XV,WG];exact hh⟩
       ·clear hh;rintro ρ4 v q w' ⟨q,B,c2,hq,rfl,rfl,hh⟩;obtain ⟨ad,rfl,hr⟩:=(hD.ext hh.below).at_ VX;by_cases hlq:q<d.toNat+1
        ·have hq2:(q:Int)≤d:=VX;have hqo:cE (q:Int)=true:=by simp [cE];omega
         have hgb:=S8 (d:=d) hs q;have hcat:s.size+(ByteArray.mk [pw (q:Int)].toArray).size≤9223372036854775807:=by show s.size+1≤_;omega
         obtain ⟨go,rfl⟩:=hh.cu (i:=1) rfl VX;refine ah (sr (mI (mL (mI ?_))));refine fp ?_;refine oS ?_;refine RP (aa (cT (ao (ai (ah (aq ?_))))));refine aT 11 [[(7,none)],[(5,none)],[(8,none)],[(59,some 1),(60,some 2)],[(61,some 3)],[(9,none)],[(63,some 5)],[(64,some 6)],[(65,some 7)],[(62,some 4),(66,some 8)],[(67,some 9)]] [(10,68),(9,67),(8,66),(7,65),(6,64),(5,63),(4,62),(3,61),(2,60),(1,59),(0,58)] hh mixed VZ ?_;refine dI ?_;refine dI ?_;refine cM ?_;refine bm (i:=3) (fun ρ1 w1 hj hR=>mA bj.out aO.size (show ρ1 59=Value.slice _ _ _ from hR.1) (show ρ1 60=Value.int _ _ from hR.2.1) rfl VX) ?_;refine bm (i:=4) (fun ρ1 w1 hj hR=>ij aO.out (show ρ1 61=Value.pointer _ from hR.1) (hj.hp.fM (i:=1) rfl (by rw [Wo];exact hs2))) ?_;refine cM ?_;refine bm (i:=6) (fun ρ1 w1 hj hR=>kA bj.out bj.out (show ρ1 63=Value.int _ _ from hR.1)) ?_;refine oB [_] ?_;refine aN (i:=8) (Is (.string ⟨([pw (q:Int)]).toArray⟩)) Is.ext ?_ ?_
         ·intro ρ1 w1 hj hR;obtain ⟨A65,c65,h65,s65⟩:=hR.1;exact eI rfl (iJ (l:=[pw (q:Int)]) bj.out bj.out bj.out h65 (by rw [x8 VX VX,n8 hqo] at s65;exact s65)) ⟨Below.refl _ _,rfl⟩
         refine bm (i:=9) (fun ρ1 w1 hj hR=>PD (show ρ1 62=Value.string _ from hR.1) (show ρ1 66=Value.string _ from hR.2.1) (by first|omega|assumption|(simp only [jb,dD];omega))) ?_;refine oB [_] ?_;refine aJ ?_;intro f W hJ hV;have hb_21:=hJ.bl;obtain ⟨v68,v67,v66,v65,v64,v63,v62,v61,v60,v59,v58,_⟩:=hV;obtain ⟨A65,c65,e65,f65⟩:Rows _ _ _ (f 7) W:=v65;obtain ⟨A68,c68,e68,f68⟩:Rows _ _ _ (f 10) W:=v68;replace hh:=hJ.hp;refine aR (a8 (ae e68 (ae v67 (ae v66 (ae e65 (ae v64 (ae v63 (ae v62 (ae v61 (ae v60 (ae v59 (ae v58 aQ)))))))))))) ?_;dsimp only [bH];clear e65 e68 hJ;refine bK hh (i:=0) rfl rfl rfl (f68) bj.out aO.out rfl VY rfl VX VX VY ?_;intro A69 c69 w69 hh;simp only [Wd] at hh;refine jK ?_;refine a9 (aI (aA (ai ?_)));have e1:iq ((S.take j).flatMap (gX d)++(gX d s).take q)++[.string (s++ByteArray.mk [pw (q:Int)].toArray)]=iq ((S.take j).flatMap (gX d)++(gX d s).take (q+1)):=by
          rw [wO,aw (O4 hq2),WQ];rfl
         have e2:((S.take j).flatMap (gX d)++(gX d s).take q).length+1=((S.take j).flatMap (gX d)++(gX d s).take (q+1)).length:=by
          rw [aw (O4 (s:=s) hq2)];simp;omega
         rw [e1,e2] at hh;refine ⟨⟨q+1,A69,c69,VX,rfl,by rw [←e2];rfl,hh⟩,by show d.toNat+1-(q+1)<d.toNat+1-q;omega, ?_⟩;exact dy
        ·refine ah (sr (mI (mL (mI ?_))));refine fp ?_;refine oS ?_;refine RP (aa (cF (aU (aD (aD (bk (bF (ai (al (mI ?_))))))))));refine a9 (aI (aA (ai ?_)));obtain rfl:q=d.toNat+1:=VX;have e3:(S.take j).flatMap (gX d)++(gX d s).take (d.toNat+1)=(S.take (j+1)).flatMap (gX d):=by
          rw [Wa (l:=gX d s) (by rw [GU];omega),aw hs,YM];simp
         rw [e3] at hh ⊢;refine ⟨⟨j+1,B,c2,VX,rfl,rfl,hh⟩,by show S.length-(j+1)<S.length-j;omega, ?_⟩;exact dy
      ·refine ah (sr (mI (mL (aF ?_))));refine aW (aa (cF (aU (aD (aD (bk (ai (al (mL (aL (aA (bF (ai (al (mI ?_)))))))))))))));refine a9 (aI (aA (ai ?_)));rw [Wa (l:=S) VX,←hst] at hh ⊢;refine ⟨⟨k+1,B,c2,VX,rfl,rfl,hh.sub (.cons_cons _ (WN _))⟩,by show n-(k+1)<n-k;omega, ?_⟩;exact dy
    ·refine ah (sr (mI (mL (aF ?_))));refine Ce ?_;refine cS ?_;have hds:dr (ds.take k)=dr ds:=by rw [Wa (l:=ds) VX]
     have h1:=hh.at_ (i:=0) rfl;rw [hAl,←hds];exact ⟨A,c',rfl,h1,hh.below⟩
theorem lu (A:Option Addr) (n c:Nat) (ds:List Int) (w:World) (hS:Sl w A n 1 (bC ds)) (hn:n≤1000000):
  Calls Tryz.prog 44 #[.slice A n c] w fun r w'=>r=.returned (.int .i64 (sE ds))∧Below w.heap.size w w':=by
 have hh:=Hp.start w;have hln:ds.length=n:=by have:=hS.1;simpa [bC] using this
 unfold sE;refine aj (N:=39) (l:=[.slice A n c]) Tryz.func44 rfl rfl (by simp) ?_;refine sr (aI (aa (sr (aI (aa (ah (sr (aI (aa (aq ?_))))))))));refine aM [2,4,6,7,8,9,10,11,12,13,14,15,16,17,18,19,20,21,22,23] 4
  (fun v w'=>∃i:Nat,i≤n∧v=.int .i64 i∧(ds.take i).any (fun d=> !cE d)=false∧Hp w [] w')
  (fun v _=>n-(intOf v).toNat) ?_ ?_
 ·exact ⟨0,V5 _,rfl,rfl,hh⟩
 ·clear hh;rintro ρ' v w' ⟨i,hi,rfl,hall,hh⟩;by_cases hlt:i<n
  ·obtain ⟨d,hd⟩:=ak (l:=ds) (k:=i) VX;have hgi:=cw hd;obtain ⟨ad,rfl,hr⟩:=hS.at_ VX;have hbad:(!cE d)=true→ds.any (fun d=> !cE d)=true:=fun h=>XR.2 ⟨d,V7 hd,h⟩;by_cases h1:d<0
   ·refine ah (sr (mI (mL (aF ?_))));refine je ?_;refine bY ?_;refine gZ ?_;refine aW (mB ?_);refine gS (gS (gS (gS (gS ?_))));refine eM ?_;exact Sa
   ·by_cases h2:127<d
    ·refine ah (sr (mI (mL (aF ?_))));refine je ?_;refine bY ?_;refine gZ ?_;refine aW (mB (gT (mL (gT (mI (gT ?_))))));refine bY ?_;refine gT ?_;refine gZ ?_;refine gT ?_;refine bM ?_;refine dE ?_;exact Sa
    ·refine ah (sr (mI (mL (aF ?_))));refine je ?_;refine bY ?_;refine gZ ?_;refine aW (mB (gT (mL (gT (mI (gT ?_))))));refine bY ?_;refine gT ?_;refine gZ ?_;refine gT ?_;refine bM ?_;refine dE ?_;refine oN ?_;refine a9 (aI (aA (ai ?_)));refine ⟨⟨i+1,VX,rfl, ?_,hh⟩,by show n-(i+1)<n-i;omega, ?_⟩
     ·rw [aw hd,Ym,hall,Yw,Yy,cE,Wm VX,Wm VX];rfl
     ·exact dy
  ·rw [Wa VX] at hall;rw [hall,V3 VY];obtain ⟨ns,hns,hlow⟩:=xl hall;have hds:∀(j:Nat) (d:Int),ds[j]?=some d→0≤d∧d≤127:=fun j d hd=>by
    have:=XD.1 hall d (V7 hd);simp [cE] at this;omega
   refine ah (sr (mI (mL (aF ?_))));refine K4 ?_;refine bp [3,5,24,25,26,27,28,29,30,31,32,33,34,35,36,37] 3 5
    (fun v3 v w'=>∃(i:Nat) (q:Int),i≤n∧v=.int .i64 i∧v3=.int .i64 q∧0≤q∧q≤4097∧Bs 1 ds=Bs q (ds.drop i)∧Hp w [] w')
    (fun _ v _=>n-(intOf v).toNat) ?_ ?_
   ·exact ⟨0,1,V5 _,rfl,rfl,VX,VX,rfl,hh⟩
   ·clear hh;rintro ρ2 v3 v w2 ⟨j,q,hj,rfl,rfl,hq1,hq2,hc,hh⟩;by_cases hjn:j<n
    ·obtain ⟨d,hd⟩:=ak (l:=ds) (k:=j) VX;have hgi:=cw hd;have hdb:=hds j d hd;obtain ⟨ad,rfl,hr⟩:=hS.at_ VX;rw [gK hd,Bs] at hc;have hm1:0*0≤q*(d+1):=YL hq1 VX VY VX;have hm2:q*(d+1)≤4097*128:=YL hq2 VX VX VY;refine ah (sr (mI (mL (aF ?_))));refine aW (aa (cT (ao (ai (ah (aq (al (mI (mL (mI ?_))))))))));refine k8 ?_;refine gZ ?_;refine a9 ?_;refine mulC ?_;refine xo rfl rfl VY ?_;refine aI (aA (bF (ai (al (mI ?_)))));refine a9 (aI (aA (ai ?_)));refine ⟨⟨j+1,_,VX,rfl,rfl,by split<;>omega,by split<;>omega,by rw [hc,show min (q*(d+1)) 4097=if 4097<q*(d+1) then 4097 else q*(d+1) by split<;>omega],hh⟩,by show n-(j+1)<n-j;omega, ?_⟩;exact dy
    ·rw [XB VX] at hc;refine ah (sr (mI (mL (aF ?_))));refine aW (aa (cF (aU (aD (aD (bk (ai (sr (mI (aI (aa (au ?_))))))))))));refine cS ?_;exact ⟨by rw [hc];rfl,hh.below⟩
def vy (n:Nat) (k:Int):Dyadic:=if k<0∨(n:Int)<k then 0 else nD (bin n k.toNat)
theorem Dr (k:Int) (h:n≤127):Sz 128 (vy n k):=by
 unfold vy;split
 ·exact Sz.zero _
 ·exact KG (Xb (vu n _) (Nat.pow_lt_pow_right VY VX))
set_option maxRecDepth 10000 in
theorem tN:∀(n:Nat) (N k:Int) (w:World),n≤127→N=n→ -1000≤k→k≤1000→
  Calls Tryz.prog 113 #[.int .i64 N,.int .i64 k] w fun r w'=>r=.returned (.agg #[.bool (nR (vy n k)).neg,.string (nR (vy n k)).bf,.int .i64 (nR (vy n k)).e])∧Below w.heap.size w w':=by
 intro n
 induction n with
 |zero=>
  intro N k w hn hN h1 h2;have hh:=Hp.start w;by_cases hz:k<0∨N<k
  ·have e:vy 0 k=0:=by unfold vy;rw [V2 VX]
   exact Ov
  ·obtain rfl:k=0:=VX;have e:vy 0 0=((1:Int):Dyadic):=rfl;rw [e];refine aj (N:=31) (l:=[.int .i64 N,.int .i64 0]) Tryz.func113 rfl rfl (by simp) ?_;exact Pz
 |succ n ih=>
  intro N k w hn hN h1 h2;have hh:=Hp.start w;by_cases hz:k<0∨N<k
  ·have e:vy (n+1) k=0:=by unfold vy;rw [V2 VX]
   exact Ov
  ·by_cases hs:k=0∨k=N
   ·have e:vy (n+1) k=((1:Int):Dyadic):=by
     unfold vy;rw [V3 VX]
     rcases hs with rfl|h
     ·rw [show Int.toNat 0=0 from rfl,uO];rfl
     ·rw [show k.toNat=n+1 by omega,uG];rfl
    rw [e];by_cases hs1:k=0
    ·refine EI ?_;exact Pz
    ·refine EI ?_;refine sr ?_;refine bQ hh ?_;intro b4 w4 hh;refine aa (ah (sr (mI ?_)));refine aW (mB (gT (mI (gT (mI (gT ?_))))));refine bM ?_;refine dE ?_;refine aa (cF (ao (ai (ah (sr (mI ?_))))));refine cB (mB (gT (mI (gT (mI (gT ?_))))));refine cB ?_;refine dE ?_;exact Pg
   ·obtain ⟨j,rfl⟩:∃j:Nat,k=((j+1:Nat):Int):=⟨(k-1).toNat,VX⟩;have z1:=Dr (n:=n) (((j+1:Nat):Int)-1) VX;have z2:=Dr (n:=n) ((j+1:Nat):Int) VX;have e:vy n (((j+1:Nat):Int)-1)+vy n ((j+1:Nat):Int)=vy (n+1) ((j+1:Nat):Int):=by
     unfold vy;rw [V3 VX,V3 VX,V3 VX,←yh,show (((j+1:Nat):Int)-1).toNat=j by omega,Xs]
     rfl
    have hpl:=fun w1=>kL (nR (vy n (((j+1:Nat):Int)-1))) (nR (vy n ((j+1:Nat):Int))) w1 (z1.ok VX) (z2.ok VX);rw [cm,cm,e] at hpl;refine aj (N:=31) (l:=[.int .i64 N,.int .i64 ((j+1:Nat):Int)]) Tryz.func113 rfl rfl (by simp) ?_;refine sr ?_;refine bQ hh ?_;intro b4 w4 hh;refine aa (ah (sr (mI ?_)));refine aW (mB (gT (mI (gT (mI (gT ?_))))));refine bM ?_;refine dE ?_;refine aa (cF (ao (ai (ah (sr (mI ?_))))));refine cB (mB (gT (mI (gT (mI (gT ?_))))));refine cB ?_;refine dE ?_;refine aa (cF (ao (ai (sr (mI ?_)))));refine dQ (mI ?_);refine dQ ?_;refine br hh (ih (N-1) (((j+1:Nat):Int)-1) _ VX VX VX VX) rfl ?_;intro w25 hh;refine mI ?_;refine dQ (mI ?_);refine br hh (ih (N-1) ((j+1:Nat):Int) _ VX VX VX VX) rfl ?_;intro w29 hh;refine br hh (hpl _) rfl ?_;intro w30 hh;exact Df
theorem x9:∀(ns:List Nat) (n:Nat),(∀d∈ns,d≤127)→n*ay ns≤65536→1≤n→sj n (bU ns)=true
 |[],_,_,_,_=>rfl
 |d::ns,n,h,hc,h1=>by
  have hd:=h d We;have e1:(n:Int)*((d:Int)+1)=((n*(d+1):Nat):Int):=by rw [Xn,X6];rfl
  rw [ay,←W6] at hc;have h2:n*(d+1)*1≤n*(d+1)*ay ns:=WS _ (cU ns);have ih:=x9 ns (n*(d+1)) (fun x hx=>h x (Wg _ hx)) hc (Nat.mul_pos h1 VX);show (decide (0≤(d:Int)) && (decide ((d:Int)≤127) && (decide ((n:Int)*((d:Int)+1)≤65536) && sj ((n:Int)*((d:Int)+1)) (bU ns))))=true;rw [e1,ih,Wm VX,Wm VX,Wm VX]
  rfl
def lI (ns:List Nat):List ByteArray:=(dr (bU ns)).map fX
theorem xG (ns:List Nat):(lI ns).length=ay ns:=by unfold lI;rw [Wh,Kh,db]
theorem Bh {ns:List Nat}{p:Nat} (h:p<ay ns):(lI ns)[p]?=some (fX (bU (dq ns.reverse p).reverse)):=by
 unfold lI;rw [Wf,MR (by rw [db];exact h)]
 rfl
theorem yt (A:Option Addr) (n c:Nat) (ns:List Nat) (w:World) (hS:Sl w A n 1 (bC (bU ns))) (h12:ns.length≤12) (hlow:∀d∈ns,d≤127) (hmax:ay ns≤65536):
  Calls Tryz.prog 111 #[.slice A n c] w fun r w'=>∃B c',r=.returned (.slice B (ay ns) c')∧w'.ownsRow w.heap.size 9 1 (.slice B (ay ns) c') (ay ns) (iq (lI ns))∧Below w.heap.size w w':=by
 have hh:=Hp.start w;have hln:ns.length=n:=by have:=hS.1;simpa [bC,bU] using this
 have ha:mN (bU ns)=lI ns:=by
  have h1:sj 1 (bU ns)=true:=x9 ns 1 hlow (by rw [X5];exact hmax) (V8 _);unfold mN;rw [V2 h1]
  rfl
 have hc:=fun w1 hS1=>Db A n c (bU ns) w1 hS1 VX;rw [ha,xG] at hc;refine aj (N:=5) (l:=[.slice A n c]) Tryz.func111 rfl rfl (by simp) ?_;refine sr (aL (aa (sr (mL ?_))));refine aG (hc _ (hS.ext hh.below)) ar.out rfl VY ?_;rintro e_ w4 ⟨A4,c4,rfl,hown_,hb_⟩;refine ⟨_,rfl, ?_⟩;replace hh:=hh.aY (x:=.row _ _ _ _ _ _) hb_ hown_;refine aL (aa (au ?_));exact J1
theorem OL {l:List Nat}{i r:Nat} (h:l[i]?=some r) (hr:r≤255):∃c:UInt8,(fX (bU l)).data.toList[i]?=some c∧c.toNat=r:=by
 refine ⟨pw (r:Int), ?_, ?_⟩
 ·unfold fX;rw [dT,Wf,ig h]
  rfl
 ·show (UInt8.ofNat ((r:Int)).toNat).toNat=r;rw [Xs,Y9];omega
theorem kT (L:Option Addr) (n c:Nat) (b:List NR) (M:Option Addr) (c2:Nat) (w:World) (hS:Sl w L n 3 (az NR.cells b)) (hS2:Sl w M n 3 (az NR.cells b)) (hn:n≤1000000):
  Calls Tryz.prog 56 #[.slice L n c,.slice M n c2] w fun r w'=>r=.returned (.bool true)∧Below w.heap.size w w':=by
 have hh:=Hp.start w;have hln:=hS.bg NR.len VY;refine aj (N:=26) (l:=[.slice L n c,.slice M n c2]) Tryz.func56 rfl rfl (by simp) ?_;refine xu ?_;refine Fm ?_;refine aM [4,5,11,12,13,14,15,16,17,18,19,20,21,22,23,24,25] 5
  (fun v w'=>∃i:Nat,i≤n∧v=.int .i64 i∧Hp w [] w')
  (fun v _=>n-(intOf v).toNat) ?_ ?_
 ·exact ⟨0,V5 _,rfl,hh⟩
 ·clear hh;rintro ρ' v w' ⟨i,hi,rfl,hh⟩;by_cases hlt:i<n
  ·obtain ⟨s,hs⟩:=ak (l:=b) (k:=i) VX;obtain ⟨ad,rfl,hr⟩:=hS.at_ VX;obtain ⟨ad2,rfl,hr2⟩:=hS2.at_ VX;refine ah (sr (mI (mL (aF ?_))));refine jW ?_;refine xQ ?_;refine dI ?_;refine cM ?_;refine iL (i) ?_;refine mJ [_,_,_] (fun _ hj=>(hr.ext hj.hp.below).recAt NR.len hs) ?_;refine dI ?_;refine cM ?_;refine iL (i) ?_;refine mJ [_,_,_] (fun _ hj=>(hr2.ext hj.hp.below).recAt NR.len hs) ?_;refine aJ ?_;intro f W hJ hV;have hb_6:=hJ.bl;obtain ⟨v24,v23,v22,v21,v20,v19,v18,v17,_⟩:=hV;replace hh:=hJ.hp;refine xx ?_;dsimp only [bH];clear hJ;refine sY rfl rfl (by first|assumption|rfl) VY ?_;exact Pa
  ·exact So
theorem yz (A B:Option Addr) (n c m c2:Nat) (A' B':Option Addr) (c' c2':Nat) (ds:List Int) (cs:List NR) (w:World) (hS:Sl w A n 1 (bC ds)) (hS2:Sl w B m 3 (az NR.cells cs)) (hS3:Sl w A' n 1 (bC ds)) (hS4:Sl w B' m 3 (az NR.cells cs)) (hn:n≤100000) (hm:m≤1000000):
  Calls Tryz.prog 23 #[.agg #[.slice A n c,.slice B m c2],.agg #[.slice A' n c',.slice B' m c2']] w fun r w'=>r=.returned (.bool true)∧Below w.heap.size w w':=by
 have hh:=Hp.start w;have hnum:=fun w1 h1 h2=>oM A A' n n c c' ds ds w1 h1 h2 hn hn;simp only [decide_true] at hnum;refine aj (N:=17) (l:=[.agg #[.slice A n c,.slice B m c2],.agg #[.slice A' n c',.slice B' m c2']]) Tryz.func23 rfl rfl (by simp) ?_;refine sr ?_;refine cf hh [_,_] ?_;intro b2 w2 hh;refine cf hh [_,_] ?_;intro b3 w3 hh;refine aB (aa (sr (bE ?_)));refine bB hh 1 ?_;refine bE ?_;refine bB hh 0 ?_;refine br hh (hnum _ (hS.ext hh.below) (hS3.ext hh.below)) rfl ?_;intro w9 hh;refine mB (gT (bE (gT ?_)));refine bB hh 1 ?_;refine gT (bE (gT ?_));refine bB hh 0 ?_;refine aK rfl rfl ?_;refine br hh (kT B m c2 cs B' c2' _ (hS2.ext hh.below) (hS4.ext hh.below) hm) rfl ?_;intro w15 hh;refine eM ?_;exact vH
variable {rs:List Nat}
def Vh (ds es:List Nat) (xs ys:List Dyadic) (i m:Nat):List (Nat×Dyadic):=(List.range m).map fun k=>(jf (Dp ds es) (Dp (dq ds i) (dq es k)),(xs[i]?).getD 0*(ys[k]?).getD 0)
def VH (ds es:List Nat) (xs ys:List Dyadic) (i:Nat):List (Nat×Dyadic):=(List.range i).flatMap fun i=>Vh ds es xs ys i (ay es)
def bS (rs:List Nat):List UInt8:=(bU rs).map pw
theorem Le {ns:List Nat} (h:nU ns.reverse rs) (j d r:Nat) (h1:ns[j]?=some d) (h2:rs.reverse[j]?=some r):r≤d:=by
 have hl:=zd h;rw [W3] at hl;have hj:=(Wi.1 h1).1;rw [XE VX] at h2;refine J3 h ?_ h2;rw [XE VX,show ns.length-1-(rs.length-1-j)=j by omega];exact h1
theorem wG {ns:List Nat} (h:∀d∈ns,d≤127) (hc:ay ns≤4096):sE (bU ns)=ay ns:=by
 exact S6
def MJ (ns:List Nat) (a:Nat):List Nat:=ns.set a (ns.getD a 0+1)
def VW (ns:List Nat) (a:Nat) (xs:List Dyadic):List Dyadic:=
 (List.range (ay (MJ ns a))).map fun p=>co ns.reverse xs (dq (MJ ns a).reverse p)+if 0<(dq (MJ ns a).reverse p).getD (ns.length-1-a) 0 then co ns.reverse xs (Us (dq (MJ ns a).reverse p) (ns.length-1-a)) else 0
theorem mu:∀(ds rs:List Nat),nU ds rs↔rs.length=ds.length∧∀(i d r:Nat),ds[i]?=some d→rs[i]?=some r→r≤d
 |[],[]=>by simp [nU]
 |[],_::_=>by simp [nU]
 |_::_,[]=>by simp [nU]
 |d::ds,r::rs=>by
  rw [nU,mu ds rs];constructor
  ·rintro ⟨h1,h2,h3⟩;refine ⟨by rw [Wx,Wx,h2],fun i e s he hs=> ?_⟩
   cases i with
   |zero=>cases he;cases hs;exact h1
   |succ i=>exact h3 i e s he hs
  ·rintro ⟨h1,h2⟩;exact ⟨h2 0 d r rfl rfl,by simpa using h1,fun i e s he hs=>h2 (i+1) e s he hs⟩
def UR (ns:List Nat) (xs:List Dyadic) (cs:List Nat) (zs:List Dyadic):Prop:=zs.length=ay cs∧cs.length=ns.length∧(∀(i n c:Nat),ns[i]?=some n→cs[i]?=some c→n≤c)∧∀row:List Nat,row.length=ns.length→co cs.reverse zs row=UF (QU cs ns).reverse (co ns.reverse xs) row
structure CW (p:PX) (b:List SR) (ns:List Nat):Prop where
 e:p.e=0
 box:jk b=0
 pos:0<b.length
 Dl:b.length≤12
 v:p.v=b.length
 nl:ns.length=b.length
 low:∀d∈ns,d≤127
 most:ay ns≤4096
 own:∀(i d:Nat),ns[i]?=some d→∀t∈p.ts,j1 i t≤d
theorem C8 {p:PX}{b:List SR}{D:List Int} (h:gI p b D=0):D=bU (D.map Int.toNat)∧CW p b (D.map Int.toNat):=by
 unfold gI at h;by_cases h0:p.e≠0
 ·rw [V2 h0] at h;exact absurd h h0
 ·rw [V3 h0] at h;by_cases h1:jk b≠0
  ·rw [V2 h1] at h;exact absurd h h1
  ·rw [V3 h1] at h;by_cases h2:(b.length:Int)≠p.v∨(D.length:Int)≠p.v
   ·rw [V2 h2] at h;exact absurd h VY
   ·rw [V3 h2] at h;by_cases h3:m0 (jy p.v p.ts) D=true
    ·rw [V2 h3] at h;exact absurd h VY
    ·rw [V3 h3] at h;by_cases h4:gJ 1 D=0
     ·rw [V2 h4] at h;exact absurd h VY
     ·have hpe:p.e=0:=Yx.1 h0;obtain ⟨f1,_,_,_⟩:=cK hpe;have f2:=dx.1 f1;obtain ⟨o1,o2,o3⟩:=lk hpe;have hbv:(b.length:Int)=p.v:=Yx.1 fun c=>h2 (.inl c);have hdv:(D.length:Int)=p.v:=Yx.1 fun c=>h2 (.inr c);have hD:∀(i:Nat) (y:Int),D[i]?=some y→∃d:Nat,(gL p.v p.ts)[i]?=some d∧(d:Int)≤y∧y≤127:=fun i y hy=>by
       have hi:=(Wi.1 hy).1;obtain ⟨d,hd⟩:=ak (l:=gL p.v p.ts) (k:=i) VX;have hg:(jy p.v p.ts)[i]?=some (d:Int):=by rw [o1];exact ig hd
       have:=XD.1 ((Bool.not_eq_true _).mp h3) _ (V7 (sU hg hy));rw [Wt] at this;exact ⟨d,hd,by show (d:Int)≤y;omega,by show y≤127;omega⟩
      have hnat:D=bU (D.map Int.toNat):=by
       unfold bU;rw [W5];refine (Y1 _).symm.trans (XZ fun y hy=> ?_);obtain ⟨i,hi⟩:=Xr.1 hy;obtain ⟨d,_,h5,_⟩:=hD i y hi;show y=((y.toNat:Nat):Int);omega
      have hlow:∀d∈D.map Int.toNat,d≤127:=fun d hd=>by
       obtain ⟨y,hy,rfl⟩:=Wn.1 hd;obtain ⟨i,hi⟩:=Xr.1 hy;obtain ⟨_,_,_,h6⟩:=hD i y hi;omega
      refine ⟨hnat,hpe,Yx.1 h1, ?_,VX,hbv.symm,by rw [Wh];omega,hlow, ?_,fun i d hd t ht=> ?_⟩
      ·rcases XP b.length with c|c
       ·have h9:=Yx.1 h1;unfold jk at h9;rw [Ze.1 c] at h9;exact absurd h9 VY
       ·exact c
      ·have h8:=kE (D.map Int.toNat) 1 (V8 _) VY hlow;rw [←hnat,X5] at h8;rw [show gJ 1 D=gJ ((1:Nat):Int) D from rfl,h8] at h4;exact Yx.1 fun c=>h4 (V3 c)
      ·rw [Wf] at hd;obtain ⟨y,hy,hyd⟩:=Yk.1 hd;obtain ⟨d2,h7,h8,h9⟩:=hD i y hy;have:=(o3 i d2 h7).2.1 t ht;omega
theorem CW.qg {p:PX}{b:List SR}{ns:List Nat} (h:CW p b ns):(gL p.v p.ts).length=b.length:=by
 rw [(lk h.e).2.1,h.v];exact Xs _
theorem LR (v i:Nat) (c:NR):pJ (fun x=>if x=i then 1 else 0) [⟨lg v i,c⟩]:=fun t ht j=>by
 rw [Wj.1 ht]
 cases he:(⟨lg v i,c⟩:TR).m.data.toList[j]? with
 |none=>unfold j1;rw [he];exact V5 _
 |some e=>
  rw [q8 he];show e.toNat≤if j=i then 1 else 0
  have e1:((List.replicate v (0:UInt8)).set i 1)[j]?=some e:=by simpa [lg] using he
  rw [Yf] at e1;by_cases hj:i=j
  ·rw [V2 hj] at e1;rw [V2 hj.symm];split at e1
   ·rw [←WZ e1];decide
   ·cases e1
  ·rw [V3 hj] at e1;rw [(List.mem_replicate.1 (V7 e1)).2];exact V5 _
theorem HD (v i:Nat) (s:SR):pJ (fun x=>if x=i then 1 else 0) (gW v i s):=by
 refine pJ.aH (pJ.append ((Ah v _).aH.mono fun x=>V5 _) (pJ.aH fun t ht j=> ?_));obtain ⟨z,hz,rfl⟩:=Wn.1 ht;rw [show j1 j (oC (s.H-s.L) z)=j1 j z from rfl];exact (LR v i _).aH z hz j
theorem xD {p:PX}{b:List SR}{ns:List Nat} (h:CW p b ns) (ho:jc k p.ts) (hb:∀s∈b,s.fin k) (hk:k≤1000) (hgr:eT (k+k+16394) (gL p.v p.ts) (k+1)≤440000) (h0:(ez p (bT b)).1=0):
  kI b.length 440000 (ez p (bT b)).2∧∀t∈(ez p (bT b)).2,nU ns.reverse (dz t.m).reverse:=by
 have hl:=h.Dl;have hpos:=h.pos;have hln:=mw b;obtain ⟨_,o2,o3⟩:=lk h.e;have hol:=h.qg;have hhv:fu (bT b)=b.length:=by
  obtain ⟨s,hs⟩:=ak (l:=b) (k:=0) VX;rw [jP (gN hs)]
 unfold ez at h0 ⊢;rw [V3 (fun c=>c h.e),V3 (by rw [hln,h.v];exact fun c=>c rfl)] at h0 ⊢;by_cases hlk:(bT b).length≠0∧ff (bT b)≠0
 ·rw [V2 hlk] at h0;exact absurd h0 hlk.2
 ·rw [V3 hlk,hhv] at h0 ⊢;have hq:∀q∈(bT b).map PX.ts,kI b.length (k+k+10) q∧q.length≤2:=fun q hq=>by
   obtain ⟨g,hg,rfl⟩:=Wn.1 hq;obtain ⟨i,s,hs,rfl⟩:=D8 hg;exact lQ hl (hb s (V7 hs)) VX
  have h1:=Fa (jC hl) (show k+k+10+4096*2+8192≤k+k+16394 by omega) ((bT b).map PX.ts) 0 p.ts (gL p.v p.ts) k hq ho (by rw [Wh,hln,hol]) (fun i d hd=>⟨(o3 i d hd).1,fun t ht=>by rw [Wr];exact (o3 i d hd).2.1 t ht⟩) VX h0;refine ⟨h1.mono hgr, ?_⟩;have h2:=MC ((bT b).map PX.ts) 0 p.ts (fun i=>(ns[i]?).getD 0) (fun i q hi=> ?_) (fun t ht i hi=> ?_) h0
  ·intro t ht;have hm:=(cK h1.e).2.2.1 t ht;unfold gg at hm;rw [Wl,Wt] at hm;have hsz:(dz t.m).length=b.length:=by rw [lM];omega
   rw [mu];refine ⟨by rw [W3,W3,hsz,h.nl],fun i d r hd hr=> ?_⟩;have hi:=(Wi.1 hd).1;rw [W3] at hi;rw [XE hi] at hd;rw [XE (by rw [hsz,←h.nl];exact hi),hsz,←h.nl] at hr;have h3:=h2 t ht (ns.length-1-i);dsimp only at h3;rw [Wh,hln,V2 ⟨V5 _,by have:=h.nl;omega⟩,hd,ET,hr] at h3;exact h3
  ·rw [Wf] at hi;obtain ⟨g,hg,rfl⟩:=Yk.1 hi;obtain ⟨s,hs⟩:=ak (l:=b) (k:=i) (by have:=(Wi.1 hg).1;rwa [hln] at this);rw [gN hs] at hg;rw [←WZ hg,Wr];exact HD _ i s
  ·rw [Wh,hln] at hi;rw [Wr];obtain ⟨d,hd⟩:=ak (l:=ns) (k:=i) (by rw [h.nl];exact hi);rw [hd];exact h.own i d hd t ht
theorem ze (L:Option Addr) (n c d:Nat) (xs:List Dyadic) (k:Nat) (w:World) (hT:eK w) (hS:Sl w L n 3 (az NR.cells (xs.map nR))) (hn:n=d+1) (hd:d≤127) (hx:∀x∈xs,Sz k x) (hk:k≤500000):
  Calls Tryz.prog 94 #[.slice L n c] w fun r w'=>∃A c',r=.returned (.slice A n c')∧Hp w [.row A n c' 65 3 (az NR.cells ((kR d (eX d 1 1) xs).map nR))] w':=by
 have hh:=Hp.start w;have hln:xs.length=n:=by have:=hS.bg NR.len VY;simpa using this
 have ha:Sz 1 1:=Sz.one;obtain ⟨ad,rfl,hr⟩:=hS.at_ VX;refine aj (N:=52) (l:=[.slice (some ad) n c]) Tryz.func94 rfl rfl (by simp) ?_;refine sr (aL (aa (sr (mL (aF ?_)))));refine dQ (aI (aa (sr (mI ?_))));refine a9 ?_;refine JT ?_;intro b14 w14 hh;refine rZ ?_;rw [nO,hn,←tj d 1 1 xs,←hn] at hh;refine aM [5,6,7,8,17,18,19,20,21,22,23,24,25,26,27,28,29,30,31,32,33,34,35,36,37,38,39,40,41,42,43,44,45,46,47,48,49,50] 17
  (fun v w'=>∃i:Nat,i≤n∧v=.int .i64 i∧Hp w [.row (some ⟨b14,0,none⟩) n n 65 3 (az NR.cells ((iS d 1 1 xs i 0).map nR))] w')
  (fun v _=>n-(intOf v).toNat) ?_ ?_
 ·exact ⟨0,V5 _,rfl,hh⟩
 ·clear hh;rintro ρ' v w' ⟨i,hi,rfl,hh⟩;by_cases hlt:i<n
  ·obtain ⟨x,hxi⟩:=ak (l:=xs) (k:=i) VX;have hxn:(xs.map nR)[i]?=some (nR x):=by rw [Wf,hxi];rfl
   have hat:jT xs i=x:=by unfold jT;rw [hxi];rfl
   have zx:=hx x (V7 hxi);have hch:=fun w1 hT1=>lr (d-i) w1 hT1 VX;refine sr ?_;refine eH ?_;refine bY ?_;refine IM ?_;refine bQ hh ?_;intro b6 w6 hh;refine aI ?_;refine bR hh 0 [_,_,_] ?_;intro ws hh;replace hh:Hp _ (.blk _ _ [_,_,_] _::_) _:=hh;refine aa (sr (mI (mI ?_)));refine dQ ?_;have e24:(n:Int)-1-(i:Int)=((d-i:Nat):Int):=VX;rw [←e24] at hch;refine aG (hch _ (hT.hp hh)) ar.out rfl VY ?_;rintro e_ w25 ⟨A25,c25,rfl,hown_,hb_⟩;refine ⟨_,rfl, ?_⟩;replace hh:=hh.aY (x:=.row _ _ _ _ _ _) hb_ hown_;refine aF (mI (aa (aq ?_)));replace hh:=hh.sub (V4 _ (V4 _ (V4 _ Wq)));refine aM [7,8,27,28,29,30,31,32,33,34,35,36,37,38,39,40,41,42,43,44,45,46,47,48,49] 27
    (fun v w'=>∃j:Nat,j≤d-i+1∧v=.int .i64 j∧Hp w [.row A25 (d-i+1) c25 65 3 (az NR.cells (lT (d-i))),.blk b6 65 [.bool (nR x).neg,.string (nR x).bf,.int .i64 (nR x).e] (0,0),.row (some ⟨b14,0,none⟩) n n 65 3 (az NR.cells ((iS d 1 1 xs i j).map nR))] w')
    (fun v _=>d-i+1-(intOf v).toNat) ?_ ?_
   ·exact ⟨0,V5 _,rfl,hh⟩
   ·clear hh;rintro ρ2 v w2 ⟨j,hj,rfl,hh⟩;by_cases hjn:j<d-i+1
    ·have hbn:(lT (d-i))[j]?=some (nR (nD (bin (d-i) j))):=kM VX;have zb:=rv (d-i) j VX;obtain ⟨o,ho⟩:=ak (l:=iS d 1 1 xs i j) (k:=i+j) (by rw [kt];omega);have hon:((iS d 1 1 xs i j).map nR)[i+j]?=some (nR o):=by rw [Wf,ho];rfl
     have zo:=Ex (j:=j) hx ha ha hd (show i≤d+1 by omega) o (V7 ho);have zy:=zx.mul zb;have hm2:=fun A cc w1 hT1 hS1=>fH A 2 cc [nR x,nR (nD (bin (d-i) j))] w1 hT1 hS1 (by simpa using ⟨zx.ok VX,zb.ok VX⟩) 600000 (by simpa [cm] using ⟨zx.mono VX,zb.mono VX⟩) VX VX;rw [show iD ([nR x,nR (nD (bin (d-i) j))].map NR.d)=x*nD (bin (d-i) j) by simp only [Wv,WV,cm];show 1*x*_=_;rw [Ye]] at hm2;have hset:=Bm (show i+j≤d by omega) ho;have hval:jT xs i*eX d 1 1 i (i+j)=x*nD (bin (d-i) j):=by
      unfold eX;rw [hat,V3 VX,show i+j-i=j by omega,lz,lz];generalize nD (bin (d-i) j)=u;grind
     rw [hval] at hset;generalize x*nD (bin (d-i) j)=y at*;have hsum:=fun A cc w1 hT1 hS1=>jl A 2 cc [nR o,nR y] w1 hT1 hS1 (by simpa using ⟨zo.ok VX,zy.ok VX⟩) 2000000 (by simpa [cm] using ⟨zo.mono VX,zy.mono VX⟩) VX;rw [show m6 ([nR o,nR y].map NR.d)=o+y by simp only [Wv,WV,cm,lL]] at hsum;have hll:((iS d 1 1 xs i j).map nR).length=n:=by rw [Wh,kt];omega
     generalize iS d 1 1 xs i j=S at*;have hrl:=fw NR.len (S.map nR);obtain ⟨gw,rfl⟩:=hh.cu (i:=0) rfl VX;refine sr ?_;refine eH ?_;refine lW ?_;refine P7 ?_;refine bQ hh ?_;intro b8 w8 hh;refine aI ?_;refine bR hh 0 [_,_,_] ?_;intro ws hh;replace hh:Hp _ (.blk _ _ [_,_,_] _::_) _:=hh;refine aa ?_;refine aT 16 [[(4,none)],[(5,none)],[(7,none)],[(33,some 1),(34,some 2)],[(4,none)],[(5,none)],[(7,none)],[(37,some 5),(38,some 6)],[(36,some 4),(39,some 7)],[(40,some 8)],[(6,none)],[(8,none)],[(42,some 10),(43,some 11)],[(44,some 12)],[(41,some 9),(45,some 13)],[(46,some 14)]] [(15,47),(14,46),(13,45),(12,44),(11,43),(10,42),(9,41),(8,40),(7,39),(6,38),(5,37),(4,36),(3,35),(2,34),(1,33),(0,32)] hh mixed VZ ?_;refine dI ?_;refine cM ?_;refine cM ?_;refine qG ?_;refine dI ?_;refine cM ?_;refine cM ?_;refine qG ?_;refine FG ((i+j)) ?_;refine mJ [_,_,_] (fun _ hj=>hj.hp.fY (f:=NR.cells) (x:=nR o) (l:=S.map nR) (i:=3) rfl NR.len VY hon) ?_;refine ee 2 [_,_,_] ?_;refine ee 0 [_,_,_] ?_;refine oB [_,_,_,_,_,_] ?_
     refine aN (i:=13) (Is (.agg #[.bool (nR y).neg,.string (nR y).bf,.int .i64 (nR y).e])) Is.ext ?_ ?_
     ·intro ρ1 w1 hj hR;obtain ⟨A44,c44,h44,s44⟩:=hR.1;exact bh rfl (aP ar.out (av h44 a6)) (hm2 A44 c44 _ (hT.hp hj.hp) s44) (fun _ _ hq=>⟨_,hq.1,hq.2,rfl⟩)
     refine oB [_,_,_,_,_,_] ?_;refine aN (i:=15) (Is (.agg #[.bool (nR (o+y)).neg,.string (nR (o+y)).bf,.int .i64 (nR (o+y)).e])) Is.ext ?_ ?_
     ·intro ρ1 w1 hj hR;obtain ⟨A46,c46,h46,s46⟩:=hR.1;exact bh rfl (aP ar.out (av h46 a6)) (hsum A46 c46 _ (hT.hp hj.hp) s46) (fun _ _ hq=>⟨_,hq.1,hq.2,rfl⟩)
     refine aJ ?_;intro f W hJ hV;have hb_9:=hJ.bl;obtain ⟨v47,v46,v45,v44,v43,v42,v41,v40,v39,v38,v37,v36,v35,v34,v33,v32,_⟩:=hV;obtain ⟨A44,c44,e44,f44⟩:Rows _ _ _ (f 12) W:=v44;obtain ⟨A46,c46,e46,f46⟩:Rows _ _ _ (f 14) W:=v46;replace hh:=hJ.hp;refine aR (a8 (ae v47 (ae e46 (ae v45 (ae e44 (ae v43 (ae v42 (ae v41 (ae v40 (ae v39 (ae v38 (ae v37 (ae v36 (ae v35 (ae v34 (ae v33 (ae v32 aQ))))))))))))))))) ?_;dsimp only [bH];clear e44 e46 hJ;exact Py
    ·exact P6
  ·obtain rfl:i=n:=VX;rw [show iS d 1 1 xs i 0=kR d (eX d 1 1) xs by rw [hn,wH]] at hh;exact RY
def UP (w:World) (b i:Nat):Int:=match w.cell? ⟨b,0,none⟩ with
 |some (.slice (some a) _ _)=>match w.cell? (a.add (i*1)) with
  |some (.int _ z)=>z
  |_=>0
 |_=>0
structure RS (ns ts:List Nat) (xs:List Dyadic) (k n:Nat) (F FC:Option Addr) (c1 c2 i T:Nat) (cur:List Nat) (zs:List Dyadic) (A B:Option Addr) (ca cb:Nat) (R:List HE) (w:World):Prop where
 UY:UR ns xs cur zs
 le:∀(j c t:Nat),cur[j]?=some c→ts[j]?=some t→c≤t
 eq:∀(j c t:Nat),j<i→cur[j]?=some c→ts[j]?=some t→c=t
 sz:∀x∈zs,Sz (k+T) x
 src:(A=F∧ca=c1∧B=FC∧cb=c2∧cur=ns∧zs=xs)∨R=[.row B (ay cur) cb 65 3 (az NR.cells (zs.map nR)),.row A n ca 3 1 (bC (bU cur))]
 rd:∀(H:List HE) (w':World),Hp w (H++R) w'→Sl w' A n 1 (bC (bU cur))∧Sl w' B (ay cur) 3 (az NR.cells (zs.map nR))
variable {w:World}
theorem FX.at_.ln {g:FX} (h:g.at_ w):g.ds.length=g.n∧g.cs.length=g.m:=⟨by have:=h.dg.1;rw [bV] at this;omega,h.nm.bg NR.len VY⟩
def Kept (fs:List FX) (R:List HE) (g:FX):Prop:=g∈fs∨(g.vD∈R∧g.uC∈R)
variable {E:Int}
def Sx (E:Int) (D:List Nat):List Int:=if E=0 then bU D else []
def Tx (E:Int) (ys:List Dyadic):List NR:=if E=0 then ys.map nR else []
structure Out (E:Int) (D:List Nat) (ys:List Dyadic) (g:FX):Prop where
 ds:g.ds=Sx E D
 cs:g.cs=Tx E ys
 n:g.n≤100000
 m:g.m≤1000000
def FX.nil:FX:=⟨none,0,0,none,0,0,[],[]⟩
theorem Hp.K9 {H:List HE} (h:Hp w0 H w):Hp w0 (FX.nil.vD::FX.nil.uC::H) w:=(h.ck 3 1).ck 65 3
theorem Out.err {D:List Nat}{ys:List Dyadic} (h:E≠0):Out E D ys FX.nil:=⟨by unfold Sx;rw [V3 h];rfl,by unfold Tx;rw [V3 h];rfl,V5 _,V5 _⟩
theorem Out.same {D:List Nat}{ys:List Dyadic}{g h:FX} (h1:Out E D ys g) (h2:Out E D ys h):g.ds=h.ds∧g.cs=h.cs:=⟨h1.ds.trans h2.ds.symm,h1.cs.trans h2.cs.symm⟩
theorem rO (g h:FX) (w:World) (hg:g.at_ w) (hh:h.at_ w) (e:g.ds=h.ds∧g.cs=h.cs) (hn:g.n≤100000) (hm:g.m≤1000000):
  Calls Tryz.prog 23 #[.agg #[.slice g.A g.n g.a,.slice g.B g.m g.b],.agg #[.slice h.A h.n h.a,.slice h.B h.m h.b]] w fun r w'=>r=.returned (.bool true)∧Below w.heap.size w w':=by
 have l1:=hg.ln;have l2:=hh.ln;obtain ⟨hg1,hg2⟩:=hg;obtain ⟨hh1,hh2⟩:=hh;have e1:h.n=g.n:=by rw [←l1.1,←l2.1,e.1]
 have e2:h.m=g.m:=by rw [←l1.2,←l2.2,e.2]
 rw [←e.1,e1] at hh1;rw [←e.2,e2] at hh2;rw [e1,e2];exact yz g.A g.B g.n g.a g.m g.b h.A h.B h.a h.b g.ds g.cs w hg1 hg2 hh1 hh2 hn hm
def Um (f:FX) (es:List Int):Int:=if f.e≠0 then f.e else U8 f.ds es
def FX.key (f:FX):List Int×List NR×Nat:=(f.ds,f.cs,f.n)
variable {M:List Nat}{N b base m:Nat}{P:Program}{R:Ending→World→Prop}{args:Array Operand}{assign body:Code}{ops:Array Oper}{pos:String}{vs:List Value}{w':World}{α:Type}{ρ:Rf}
abbrev pe (D:Nat):Deferred:={ target:=.collected D,args:= #[] }
abbrev p9 (M:List Nat):List HE:=M.map fun D=>.ob D (.deferred (some []))
theorem J4 {D:List Deferred}{a b:Act} (h:eW N D a ρ) (k:eW N D b ρ):a=b:=by
 obtain ⟨t,d⟩:=a;obtain ⟨t',d'⟩:=b;obtain ⟨h1,h2,h3⟩:=h;obtain ⟨k1,k2,k3⟩:=k;obtain rfl:d=d':=h1.trans k1.symm;congr 1;refine Array.ext (h2.trans k2.symm) fun i hi hi'=> ?_;have e1:=h3 i;have e2:=k3 i;rw [Xf,Yg hi] at e1;rw [Xf,Yg hi'] at e2;exact e1.trans e2.symm
abbrev Kd:=Exit→List Nat→Rf→World→Prop
structure WD (P:Program) (N:Nat) (c:Code) (Q:Kd) (ρ:Rf) (w:World):Prop where
 out:∀(M:List Nat) a,eW N (M.map pe) a ρ→∀n,c.wpIn Fence.wide n P (fun e a' w'=>∃M' ρ',eW N ((M'++M).map pe) a' ρ'∧Q e M' ρ' w') a w
def xY (next:List Nat→Rf→World→Prop) (Q:Kd):Kd
 |.normal,M,ρ,w=>next M ρ w
 |e,M,ρ,w=>Q e M ρ w
def tS (M:List Nat) (Q:Kd):Kd:=fun e M2 ρ w=>Q e (M2++M) ρ w
def Ix (id:Nat) (Q:Kd):Kd
 |.exit id',M,ρ,w=>if id'=id then Q .normal M ρ w else Q (.exit id') M ρ w
 |e,M,ρ,w=>Q e M ρ w
def Ko (Q:Kd):Kq:=fun e ρ w=>Q e [] ρ w
section
variable {P:Program}{N:Nat}{Q:Kd}{ρ:Rf}{w:World}
theorem Fp {c:Code} (h:∀D,WC ⟨none,D,true⟩ P N c (Ko Q) ρ w):WD P N c Q ρ w:=
 ⟨fun M a hf n=>wpIn_mono ((h (M.map pe)).j8 a hf n) fun e a' w' ⟨ρ',hf',hq⟩=>⟨[],ρ',hf',hq⟩⟩
theorem ye {x y:Code} (h:WD P N x (xY (fun M ρ w=>WD P N y (tS M Q) ρ w) Q) ρ w):WD P N (.seq x y) Q ρ w:=
 ⟨fun M a hf n=>wpIn_seq (wpIn_mono (h.out M a hf n) fun e a' w' ⟨M',ρ',hf',hq⟩=>by
  cases e with
  |normal=>
   refine wpIn_mono ((hq:WD P N y (tS M' Q) ρ' w').out (M'++M) a' hf' n) fun e a2 w2 ⟨M2,ρ2,hf2,hq2⟩=> ?_;exact ⟨M2++M',ρ2,by rw [WQ];exact hf2,hq2⟩
  |_=>exact ⟨M',ρ',hf',hq⟩)⟩
theorem j0 {x y:Code} (h:∀D,WC ⟨none,D,true⟩ P N x (cI (fun ρ w=>WD P N y Q ρ w) (Ko Q)) ρ w):WD P N (.seq x y) Q ρ w:=
 ye (Fp fun D=>(h D).mono fun e ρ w hq=>by
  cases e with
  |normal=>
   show WD P N y (tS [] Q) ρ w;have e0:tS [] Q=Q:=by funext e M ρ w;unfold tS;rw [WG]
   rw [e0];exact hq
  |_=>exact hq)
theorem tJ {id:Nat}{c:Code} (h:WD P N c (Ix id Q) ρ w):WD P N (.block id c) Q ρ w:=
 ⟨fun M a hf n=>wpIn_block (wpIn_mono (h.out M a hf n) fun e a' w' ⟨M',ρ',hf',hq⟩=>by
  cases e with
  |exit id'=>
   by_cases hid:id'=id
   ·simp only [Ix,hid,if_true] at hq;simp only [Exit.inBlock,hid,if_true];exact ⟨M',ρ',hf',hq⟩
   ·simp only [Ix,hid,if_false] at hq;simp only [Exit.inBlock,hid,if_false];exact ⟨M',ρ',hf',hq⟩
  |_=>exact ⟨M',ρ',hf',hq⟩)⟩
theorem MS {c:Code} (I:List Nat→Rf→World→Prop) (μ:Rf→World→Nat) (h0:I [] ρ w)
  (round:∀M ρ w,I M ρ w→WD P N c (fun e M2 ρ' w'=>xY (fun M2 ρ' w'=>I M2 ρ' w'∧μ ρ' w'<μ ρ w) Q e (M2++M) ρ' w') ρ w):WD P N (.loop c) Q ρ w:=by
 refine ⟨fun M0 a hf n=> ?_⟩;refine wpIn_loop (fun a w=>∃M ρ,eW N ((M++M0).map pe) a ρ∧I M ρ w) (fun a w=>μ (fun i=>a.tmps.getD i undef) w) ⟨[],ρ,hf,h0⟩ ?_;rintro a w ⟨M,ρ,hf,hi⟩;refine wpIn_mono ((round M ρ w hi).out (M++M0) a hf n) ?_;rintro e a' w' ⟨M',ρ',hf',hq⟩;rw [←WQ] at hf';have e1:(fun i=>a.tmps.getD i undef)=ρ:=funext hf.at_;have e2:(fun i=>a'.tmps.getD i undef)=ρ':=funext hf'.at_
 cases e with
 |normal=>exact ⟨⟨_,ρ',hf',hq.1⟩,by rw [e1,e2];exact hq.2⟩
 |_=>exact ⟨_,ρ',hf',hq⟩
def N0 {α:Type} (Kp:World→World→Prop) (I:List α→World→Prop) (pre:List α) (x:α) (W:World):Kq
 |.normal,_,W'=>KeepsOthers W W'∧Kp W W'∧I (pre++[x]) W'
 |_,_,_=>False
def qw:Kq:=fun _ _ _=>False
theorem vV {ps:Tmp}{v:Value}{a:Array Value}:((#[ps]:Array Tmp).zip #[v]).foldl (fun t (p,v)=>t.setIfInBounds p v) a=a.setIfInBounds ps v:=by simp
theorem Kt {g:Operand}{p:Tmp}{gf:Nat}{lb:Array Value} (hp:p<N) (hg:ev ρ g=.func (.func gf) #[] lb) (eg:∀args w,(callFunc gf args).run P w=.ok (.enter gf args) w)
  {enc:α→Value}{Kp:World→World→Prop}{S:List α→Prop}{Nn:Nat} (hseq:∀n,SeqStopsK Fence.wide n P gf lb (fun x=> #[enc x]) Kp S (fun _=>True) Nn w)
  (hKt:∀{A B C:World},Kp A B→Kp B C→Kp A C) (hKb:∀(W:World) (l:Nat) (o o':Obj),w.heap.size≤l→W.heap[l]?=some o→o.isCells=false→o.isWalk=false→Kp W (W.putObj l o'))
  (I:List α→World→Prop) (hI:OwnFrom w.heap.size I) (h0:I [] w) (ρ1:α→Rf) (hρ:∀x i,N≤i→ρ1 x i=ρ i)
  (hassign:∀l x W,WC ⟨some l,[],true⟩ P N assign (cI (fun ρ' W'=>ρ'=ρ1 x∧W'=W) qw) (cL ρ p (enc x)) W)
  (hbody:∀l pre x W,I pre W→pre.length<Nn→WC ⟨some l,[],true⟩ P N body (N0 Kp I pre x W) (ρ1 x) W)
  (hdone:∀(D:Nat) (xs:List α) (W:World),w.heap.size≤D→S xs→I xs W→W.heap[D]?=some (.deferred (some []))→Q .normal [D] ρ W):WD P N (.rangeFunc g #[p] assign body) Q ρ w:=by
 refine ⟨fun M a hf n=> ?_⟩;have hfit:∀x,eW N [] { tmps:=Array.ofFn fun i:Fin N=>ρ1 x i,defers:=[] } (ρ1 x):=fun x=>by
  refine ⟨rfl,by simp,fun i=> ?_⟩;rw [Xf];by_cases hi:i<N
  ·rw [Yg (by simpa using hi)];simp
  ·rw [YQ (by simp;omega),hρ x i VX,←hf.at_ i,Xf,YQ (by rw [hf.sz];omega)]
 have main:(Code.rangeFunc g #[p] assign body).wpIn Fence.wide (n+1) P (fun e a' w'=>∃M' ρ',eW N ((M'++M).map pe) a' ρ'∧Q e M' ρ' w') a w:=by
  refine wpIn_rangeFunc_ownF (F:=Fence.wide) (n:=n+1) rfl VX (gf:=gf) (lb:=lb) (by rw [hf.eval];exact hg) trivial eg (hseq _) hKt hKb (Below.refl _ _) (fun _=>rfl) I (fun _ _ _=>False) hI
   (fun _ _ _ _ _ hs _ _=>hs) h0 (fun x=>{ tmps:=Array.ofFn fun i:Fin N=>ρ1 x i,defers:=[] }) (fun l x W K hK=> ?_) (fun l pre x W hi hl=> ?_) (fun D xs W hD hS hi hW=> ?_) (fun _ _ _ _ _ _ h _=>h.elim)
  ·refine wpIn_mono ((hassign l x W).j8 _ ⟨rfl, ?_,fun i=> ?_⟩ _) fun e a' w' ⟨ρ',hf',hq⟩=> ?_
   ·rw [vV];simp [hf.sz]
   ·rw [vV,←(hf.put hp (enc x)).at_ i]
    rfl
   ·cases e with
    |normal=>
     obtain ⟨rfl,rfl⟩:=hq;rw [J4 hf' (hfit x)];exact hK
    |_=>exact hq.elim
  ·refine wpIn_mono ((hbody l pre x W hi hl).j8 _ (hfit x) _) fun e a' w' ⟨ρ',hf',hq⟩=> ?_
   cases e with
   |normal=>exact hq
   |_=>exact hq.elim
  ·exact ⟨[D],ρ,⟨by rw [hf.nd];rfl,hf.sz,hf.at_⟩,hdone D xs W hD hS hi hW⟩
 intro b k cs hro hb _;exact main b k cs hro hb (room_wide _)
end
def Ti (P:Program) (fn:Func) (R:Ending→World→Prop):Kd:=fun e M ρ w=>
 (e=.normal∨e=.ret)∧∀tmps:Array Value,(∀i,tmps.getD i undef=ρ i)→∀n,LeavesInM Fence.wide n P fn tmps R (M.map pe) .returning w
theorem GL {f:FuncId}{fn:Func}{c:Code}{l:List Value}
  (hf:P.funcs[f]?=some fn) (hb:fn.body=some c) (hn:fn.ntmps=N) (ha:l.length≤N)
  (h:WD P N c (Ti P fn R) (EM l) w):Calls P f l.toArray w R:=by
 refine (callsIn_wide (n:=0)).1 (callsIn_of_wp_marks hf hb trivial ?_ rfl);refine wpIn_mono (h.out [] _ ⟨rfl,by simp [hn];omega,fun i=> ?_⟩ 0) ?_
 ·exact RM
 ·rintro e a w' ⟨M,ρ',hf',he,hl⟩;rw [WG] at hf'
  rcases he with rfl|rfl
  ·show LeavesInM _ _ _ _ a.tmps _ a.defers _ _;rw [hf'.nd];exact hl _ hf'.at_ 0
  ·show LeavesInM _ _ _ _ a.tmps _ a.defers _ _;rw [hf'.nd];exact hl _ hf'.at_ 0
theorem Ep {f:FuncId}{fn:Func}{c:Code}{l:List Value}
  (hf:P.funcs[f]?=some fn) (hb:fn.body=some c) (hn:fn.ntmps=N) (ha:l.length≤N)
  (h:WC ⟨none,[],true⟩ P N c (nt P fn R) (EM l) w):Calls P f l.toArray w R:=by
 refine (callsIn_wide (n:=0)).1 (callsIn_of_wp hf hb trivial ?_ rfl);refine wpIn_mono (h.j8 _ ⟨rfl,by simp [hn];omega,fun i=> ?_⟩ 0) ?_
 ·exact RM
 ·rintro e a w' ⟨ρ',hf',he,v,hr,hR⟩
  rcases he with rfl|rfl
  ·exact ⟨hf'.nd,v,hr _ hf'.at_,hR⟩
  ·exact ⟨hf'.nd,v,hr _ hf'.at_,hR⟩
def HE.R9:HE→Bool
 |.ob _ _=>false
 |_=>true
theorem uK {x:HE} (h:x.holds base w) (hc:x.R9=true) (hid:x.id=some b):∃o,w.heap[b]?=some o∧o.isCells=true:=by
 cases x with
 |blk b' t cs fz=>
  obtain rfl:b'=b:=WZ hid;exact ⟨_,h.2.1,rfl⟩
 |row A n c t sz xs=>
  rcases h.2 with ⟨h1,_⟩|⟨g,cap,cur,h1,_,h3,_⟩
  ·injection h1 with e1
   subst e1
   cases hid
  ·injection h1 with e1
   subst e1;obtain rfl:g=b:=WZ hid;exact ⟨_,h3,rfl⟩
 |ob _ _=>cases hc
theorem Hp.Rk {H:List HE} (h:Hp w0 H w) (hc:∀x∈H,x.R9=true) {row:Option Nat} (hg:w.grownBy w' row) (hr:∀r,row=some r→w0.heap.size≤r∧∃o:Obj,w.heap[r]?=some o∧o.isCells=false):Hp w0 H w':=by
 refine ⟨⟨hg.os.trans h.below.os,hg.tape.trans h.below.tape,hg.output.trans h.below.output,Wz h.size hg.size,fun k hk=> ?_⟩,fun x hx=> ?_,h.nd⟩
 ·refine (hg.block k (Xa hk h.size) fun e=> ?_).trans (h.below.block k hk);have:=(hr k e.symm).1;omega
 ·refine pB (h.own x hx) fun b hid=>hg.block b (dY (h.own x hx) hid).2 fun e=> ?_;obtain ⟨o,h1,h2⟩:=uK (h.own x hx) (hc x hx) hid;obtain ⟨_,o',h3,h4⟩:=hr b e.symm;rw [h1] at h3
  cases h3
  rw [h2] at h4
  cases h4
def NO (base:Nat) (ids:List Nat) (w:World) (k:Nat):Option HE:=if base≤k∧ids.contains k=false then (w.heap[k]?).map fun o=>.ob k o else none
def Ei (base:Nat) (ids:List Nat) (w:World):List HE:=(List.range w.heap.size).filterMap (NO base ids w)
theorem s8 {ids:List Nat}{x:HE} (h:NO base ids w k=some x):∃o,x=.ob k o∧base≤k∧k∉ids∧w.heap[k]?=some o:=by
 unfold NO at h;split at h
 ·rename_i h1;obtain ⟨o,h2,h3⟩:=Yk.1 h;exact ⟨o,h3.symm,h1.1,by simpa using h1.2,h2⟩
 ·cases h
theorem Hp.MN {H:List HE} (h:Hp w0 H w):Hp w0 (H++Ei w0.heap.size (H.filterMap HE.id) w) w:=by
 refine ⟨h.below,fun x hx=> ?_, ?_⟩
 ·rcases WI.1 hx with hx|hx
  ·exact h.own x hx
  ·obtain ⟨k,_,hk⟩:=Xe.1 hx;obtain ⟨o,rfl,h1,_,h3⟩:=s8 hk;exact ⟨h1,h3⟩
 ·rw [Yu];refine Y0.2 ⟨h.nd, ?_,fun a ha b hb e=> ?_⟩
  ·unfold Ei;rw [List.filterMap_filterMap];refine List.Pairwise.filterMap _ (fun a a' hne b hb b' hb' e=> ?_) List.nodup_range;obtain ⟨x,hx,hx2⟩:=Option.bind_eq_some_iff.1 hb;obtain ⟨y,hy,hy2⟩:=Option.bind_eq_some_iff.1 hb';obtain ⟨o,rfl,_⟩:=s8 hx;obtain ⟨o',rfl,_⟩:=s8 hy;obtain rfl:a=b:=WZ hx2;obtain rfl:a'=b':=WZ hy2;exact hne e
  ·obtain ⟨x,hx,hx2⟩:=Xe.1 hb;obtain ⟨k,_,hk⟩:=Xe.1 hx;obtain ⟨o,rfl,_,h2,_⟩:=s8 hk;obtain rfl:k=b:=WZ hx2;exact h2 (e ▸ ha)
theorem pR {P:Program}{fn:Func}{tmps:Array Value}{R:Ending→World→Prop}{n:Nat}{w0:World}{H:List HE}:∀(M:List Nat) (w:World),Hp w0 (p9 M++H) w→(∀w2,Hp w0 H w2→∃v,(results fn tmps).run P w2=.ok v w2∧R (.returned v) w2)→
  LeavesInM Fence.wide n P fn tmps R (M.map pe) .returning w
 |[],w,hh,h=>h w hh
 |D::M,w,hh,h=>by
  have hD:w.heap[D]?=some (.deferred (some [])):=(hh.own _ We).2;refine ⟨by simp,.inl ⟨D,w.putObj D (.deferred none),rfl,run_takeDeferred hD,pR M _ ?_ h⟩⟩;have hb:=(hh.own _ We).1;have h2:=hh.MO (i:=0) (x:=.ob D (.deferred (some []))) (y:=.ob D (.deferred none)) (w':=w.putObj D (.deferred none)) rfl (fun b e=>.inl e) ?_ (fun b hlt hne=>World.putObj_heap_other (fun e=>hne (by rw [e];rfl))) ⟨hb, ?_⟩
  ·exact h2.sub (WE _ _)
  ·have hg:=grownBy_putObj' w D (.deferred none);refine ⟨hg.os.trans hh.below.os,hg.tape.trans hh.below.tape,hg.output.trans hh.below.output,Wz hh.size hg.size,fun k hk=>(hg.block k (Xa hk hh.size) fun e=> ?_).trans (hh.below.block k hk)⟩
   cases e
   omega
  ·exact World.putObj_heap_same (YT.1 hD).1
theorem rJ {fn:Func}{e:Exit}{H:List HE}{rs:List ResultVar} (hh:Hp w0 (p9 M++H) w) (he:e=.normal∨e=.ret) (hr:fn.results=rs.toArray)
  (h:∀w2,Hp w0 H w2→il P ρ w2 rs vs∧R (.returned (wN vs)) w2):Ti P fn R e M ρ w:=by
 refine ⟨he,fun tmps ht n=>pR M w hh fun w2 hh2=> ?_⟩;obtain ⟨h1,h2⟩:=h w2 hh2;obtain ⟨_,v,h3,h4⟩:=kW (e:=e) he hr h1 h2;exact ⟨v,h3 tmps ht,h4⟩
theorem LW {d:Option Nat}{ty:TypeId}{af:Array Edge}{g:Option (Nat×Bool)}{x:Operand}{ts:Array TypeId}{l:Nat}{fn:FuncId}{tmps:Array Value}
  (hx:ev ρ x=.func (.yield l) #[] #[]) (ha:xq ρ args.toList=vs) (hy:(Instr.yield l vs.toArray).run P w=.ok (.round l fn tmps assign body) w):(execOp (ev ρ) ⟨d,.call ⟨.value x,args,ts⟩,ty,pos,af,g⟩).run P w=.ok (.round l fn tmps assign body) w:=by
 have h2:args.map (ev ρ)=vs.toArray:=oe args ha;simp [execOp,resolve,Deferred.ofValue,hx,h2,invoke,callFunc,program,Sem.run,hy]
theorem K7 {Q:Kq}{rest:List Oper}{d:Nat}{ty:TypeId}{af:Array Edge}{x:Operand}{ts:Array TypeId}{l:Nat}
  (hx:ev ρ x=.func (.yield l) #[] #[]) (ha:xq ρ args.toList=vs) (hy:YieldAt Fence.wide m P l vs.toArray w R) (hN:d<N) (kk:∀e w',R e w'→∃v,e=.returned v∧WL ⟨none,[],true⟩ P N ops Q rest (cL ρ d v) w'):
  WL ⟨none,[],true⟩ P N ops Q (⟨some d,.call ⟨.value x,args,ts⟩,ty,pos,af,none⟩::rest) ρ w:=by
 obtain ⟨fn,tmps,as_,bd,h1,h2⟩:=hy;refine ⟨fun h=>(by cases h),fun a hf n=>wpListIn_plain rfl fun K hK=>⟨fun _ _=>trivial, ?_⟩⟩;rw [hf.eval,lC _ (LW hx ha h1) (fun _ h=>by cases h)];refine ⟨fun h=>(by cases h), ?_⟩;refine ⟨trivial,fun c cs _=> ?_⟩;obtain ⟨e,w',hR,hs⟩:=h2.2 c cs (room_wide _);refine ⟨e,w', ?_,hs⟩;obtain ⟨v,rfl,hk⟩:=kk e w' hR;exact hK _ _ (hk.j8 _ (hf.put hN v) n)
variable {W:World}{ad:Addr}
theorem RT {d:Option Nat}{ty:TypeId}{af:Array Edge}{g:Option (Nat×Bool)}{t e:TypeId}{x lo hi mx:Operand}{l h sz:Nat}{k1 k2 k3:IntKind}{m1 m2 m3:Int}
  (ht:P.underlying t=some (.slice e)) (hsz:(P.info? e).map (·.size)=some sz) (hx:ev ρ x=.slice (some ad) n c) (hlo:ev ρ lo=.int k1 m1) (hhi:ev ρ hi=.int k2 m2) (hmx:ev ρ mx=.int k3 m3) (e1:m1=(l:Int)) (e2:m2=(h:Int)) (e3:m3=(q:Int))
  (h1:l≤h) (h2:h≤q) (h3:q≤c) (h4:l<q):(execOp (ev ρ) ⟨d,.slice t x (some lo) (some hi) (some mx),ty,pos,af,g⟩).run P w=.ok (.value (.slice (some (ad.add (l*sz))) (h-l) (q-l))) w:=by
 obtain ⟨i,hi1,hi2⟩:=Yk.1 hsz;subst e1 e2 e3 hi2;have a1:(l:Int)≤h:=VX;have a2:(h:Int)≤q:=VX;have a3:(q:Int)≤c:=VX;have a4:¬q=l:=VX;have a5:¬q-l=0:=VX;simp [execOp,hx,Instr.sliceAt,Instr.slice,run_underlying ht,Instr.sliceBounds,Instr.sliceBound,asIntOf,hlo,hhi,hmx,h1,h2,h3,a4,a5,sizeOf,typeInfo,hi1]
theorem Ck (A:Option Addr) (n c K:Nat) (w:World) (hK:1≤K):
  Calls Tryz.prog 126 #[.slice A n c,.int .i64 K] w fun r w'=>∃b2 b3,r=.returned (.func (.func 192) #[] #[.pointer (some ⟨b2,0,none⟩),.pointer (some ⟨b3,0,none⟩)])∧Hp w [.blk b3 3 [.int .i64 K] (0,0),.blk b2 37 [.slice A n c] (0,0)] w':=by
 have hh:=Hp.start w;refine aj (N:=9) (l:=[.slice A n c,.int .i64 K]) Tryz.func126 rfl rfl (by simp) ?_;refine sr ?_;refine cf hh [_] ?_;intro b2 w2 hh;refine cf hh [_] ?_;intro b3 w3 hh;refine kB (by first|exact te rfl|exact sP rfl) VY ?_;refine aa (ah (sr ?_));refine bB hh 0 ?_;refine aW (aa (cF (ao (ai (sr ?_)))));exact TC
def zJ (b2 b3:Nat) (W W':World):Prop:=W'.cell? ⟨b2,0,none⟩=W.cell? ⟨b2,0,none⟩∧W'.cell? ⟨b3,0,none⟩=W.cell? ⟨b3,0,none⟩
theorem tu {W':World} (h:Below W.heap.size W W'):W.grownBy W' none:=⟨h.os,h.tape,h.output,h.size,fun k hk _=>h.block k hk⟩
theorem Nr {b2 b3:Nat}{A B C:World} (h:zJ b2 b3 A B) (k:zJ b2 b3 B C):zJ b2 b3 A C:=⟨k.1.trans h.1,k.2.trans h.2⟩
theorem Mn {b2 b3:Nat} (h2:b2<w.heap.size) (h3:b3<w.heap.size) (W:World) (l:Nat) (o o':Obj) (hl:w.heap.size≤l):zJ b2 b3 W (W.putObj l o'):=
 ⟨World.cell?_of_block (World.putObj_heap_other (fun e=>by simp at e;omega)),World.cell?_of_block (World.putObj_heap_other (fun e=>by simp at e;omega))⟩
theorem Hd (b2 b3:Nat) (ad:Addr) (n c K m:Nat) (w:World) (h2:w.cell? ⟨b2,0,none⟩=some (.slice (some ad) n c)) (h3:w.cell? ⟨b3,0,none⟩=some (.int .i64 K)) (hn:n=m*K) (hK:0<K) (hc:n≤c) (hb:n≤1000000) (hKb:K≤1000000):
  ∀N1,SeqStopsK Fence.wide N1 Tryz.prog 192 #[.pointer (some ⟨b2,0,none⟩),.pointer (some ⟨b3,0,none⟩)] (fun j:Fin m=> #[.slice (some (ad.add (j.val*K*3))) K K]) (zJ b2 b3) (fun xs=>xs=List.finRange m) (fun _=>True) m w:=by
 intro N1 l J Jx W hW hAb hAbx hY h0;refine callsIn_wide.2 ?_;show Calls _ _ #[.func (.yield l) #[] #[],.pointer (some ⟨b2,0,none⟩),.pointer (some ⟨b3,0,none⟩)] W _;have hAbd:∀xs W1 W2,J xs W1→Below W1.heap.size W1 W2→J xs W2:=fun xs W1 W2 h hb=>hAb xs W1 W2 none h (tu hb) (fun r e=>nomatch e);have c2:=cx hW h2;have c3:=cx hW h3;refine Ep (N:=31) (l:=[.func (.yield l) #[] #[],.pointer (some ⟨b2,0,none⟩),.pointer (some ⟨b3,0,none⟩)]) Tryz.func192 rfl rfl (by simp) ?_;refine sr (aI (aa (aq ?_)));refine aM [4,5,6,7,8,9,10,11,12,13,14,15,16,17,18,19,20,21,22,23,24,25,26,27,28,29,30] 4
  (fun v w'=>∃j:Nat,j≤m∧v=.int .i64 ((j*K:Nat):Int)∧J ((List.finRange m).take j) w'∧w'.cell? ⟨b2,0,none⟩=some (.slice (some ad) n c)∧w'.cell? ⟨b3,0,none⟩=some (.int .i64 K))
  (fun v _=>n+1-(intOf v).toNat) ?_ ?_
 ·exact ⟨0,V5 _,by rw [YA];rfl,h0,c2,c3⟩
 ·clear c2 c3 h0;rintro ρ' v w' ⟨j,hj,rfl,hJj,c2,c3⟩;have hh:=Hp.start w';by_cases hlt:j<m
  ·have h5:(j+1)*K≤m*K:=Xi _ hlt;have h6:(j+1)*K=j*K+K:=Xj j K;refine ah (sr (mI ?_));refine bX aO.out rfl (c2) VY ?_;refine aF ?_;refine jW ?_;refine QQ ?_;refine aT 5 [[(2,none)],[(1,none)],[(4,none)],[(14,some 1),(15,some 2)],[(16,some 3)]] [(4,17),(3,16),(2,15),(1,14),(0,13)] hh mixed VZ ?_;refine mO (fun _ hj=>cx hj.bl c3) ?_;refine mO (fun _ hj=>cx hj.bl c2) ?_;refine cM ?_;refine bm (i:=3) (fun ρ1 w1 hj hR=>gl (l:=(j*K)) bj.out aO.size (show ρ1 14=Value.slice _ _ _ from hR.1) (show ρ1 15=Value.int _ _ from hR.2.1) VX VX VX) ?_;refine rE ?_;refine aJ ?_;intro f W hJ hV;have hb_3:=hJ.bl;obtain ⟨v17,v16,v15,v14,v13,_⟩:=hV;replace hh:=hJ.hp;refine aR (a8 (ae v17 (ae v16 (ae v15 (ae v14 (ae v13 aQ)))))) ?_;dsimp only [bH];clear hJ;have hmin:(if ((n-j*K:Nat):Int)<(K:Int) then ((n-j*K:Nat):Int) else (K:Int))=(K:Int):=V3 VX;refine xo rfl rfl VY ?_;rw [hmin];have c2':=cx hh.below c2;have c3':=cx hh.below c3;have hJ2:=hAbd _ _ _ hJj hh.below
   have hfr:(List.finRange m)[j]?=some ⟨j,hlt⟩:=by rw [Xp (by rw [YO];exact hlt),List.getElem_finRange];rfl
   have hy:=hY ((List.finRange m).take j) ⟨j,hlt⟩ _ hJ2 (by rw [Wp,YO];omega);refine aI (aa (sr ?_));refine jh ?_;refine bX aO.out rfl (c2') VY ?_;refine mI (mI (mI ?_));refine a9 (mI (mI ?_));refine a9 ?_;refine aV rfl rfl VY (RT bj.out aO.size (Fc rfl) rfl rfl rfl (l:=j*K) (h:=j*K+K) (q:=j*K+K) rfl VX VX VX VX VX VX) ?_;have e28:j*K+K-j*K=K:=VX;rw [e28];refine K7 rfl (av (Fc rfl) a6) hy VY ?_;rintro e_ w29 (⟨rfl,hJ3,hk⟩|⟨rfl,hJx⟩)
   ·refine ⟨_,rfl, ?_⟩;have c2'':=hk.1.trans c2';have c3'':=hk.2.trans c3';refine fI ?_;refine oN ?_;refine bX aO.out rfl (c3'') VY ?_;refine a9 (aI (aA (ai ?_)));refine ⟨⟨j+1,hlt, ?_,by rw [aw hfr];exact hJ3,c2'',c3''⟩, ?_, ?_⟩
    ·show Value.int _ (((j*K:Nat):Int)+(K:Int))=_;rw [h6]
     rfl
    ·show n+1-(((j*K:Nat):Int)+(K:Int)).toNat<n+1-((j*K:Nat):Int).toNat;omega
    ·exact dy
   ·refine ⟨_,rfl, ?_⟩;refine fI ?_;refine aa (cT (au (bI (aE (aE (bI ?_))))));refine Qu (by first|exact .inr rfl|exact .inl rfl) rfl ?_;exact ⟨⟨_,rfl⟩,.inr ⟨_,trivial,hJx⟩⟩
  ·obtain rfl:j=m:=VX;refine ah (sr (mI ?_));refine bX aO.out rfl (c2) VY ?_;refine aF ?_;refine aW (aa (cF (aU (aD (aD (bk ?_))))));refine Qu (by first|exact .inr rfl|exact .inl rfl) rfl ?_;rw [Wa (by rw [YO];omega)] at hJj;exact ⟨⟨_,rfl⟩,.inl ⟨_,rfl,hJj⟩⟩
def U2 (base:Nat) (E:Int) (D:List Nat) (ys:List Dyadic):VP:=fun v W=>∃(g:FX) (w1:World),v=.agg #[.slice g.A g.n g.a,.slice g.B g.m g.b]∧Out E D ys g∧base≤w1.heap.size∧Hp w1 [g.vD,g.uC] W
def Vz (base:Nat) (E:Int) (D:List Nat) (ys:List Dyadic):VP:=fun v W=>∃(g:FX) (w1:World),v=.tuple #[.agg #[.slice g.A g.n g.a,.slice g.B g.m g.b],.int .i64 E]∧Out E D ys g∧base≤w1.heap.size∧Hp w1 [g.vD,g.uC] W
instance:aO Tryz.prog 122 1 false 8 [.nilFunc]:={}
theorem GG {bs:List (Fin m)}{q:Fin m} (h:bs++[q]=(List.finRange m).take (bs++[q]).length) (hb:bs.length<m):bs=(List.finRange m).take bs.length∧q.val=bs.length:=by
 have hl:(bs++[q]).length=bs.length+1:=by simp
 rw [hl] at h;have h1:=W8 (List.take bs.length) h;rw [List.take_left' rfl,List.take_take,Xd VX] at h1;have h2:(bs++[q])[bs.length]?=((List.finRange m).take (bs.length+1))[bs.length]?:=by rw [←h]
 rw [Xm (V8 _),W9,XL,V2 VX,show (List.finRange m)[bs.length]?=some ⟨bs.length,hb⟩ by rw [Xp (by rw [YO];exact hb),List.getElem_finRange];rfl] at h2;exact ⟨h1,W8 Fin.val (WZ h2)⟩
theorem HC {Q:Kd}{g:Operand}{p:Tmp}{gf:Nat}{lb:Array Value} (q:Nat) (hq:q<N) (hp:p<N) (hg:ev ρ g=.func (.func gf) #[] lb) (eg:∀args w,(callFunc gf args).run P w=.ok (.enter gf args) w)
  {enc:α→Value}{Kp:World→World→Prop}{S:List α→Prop}{Nn:Nat} (hseq:∀n,SeqStopsK Fence.wide n P gf lb (fun x=> #[enc x]) Kp S (fun _=>True) Nn w)
  (hKt:∀{A B C:World},Kp A B→Kp B C→Kp A C) (hKb:∀(W:World) (l:Nat) (o o':Obj),w.heap.size≤l→W.heap[l]?=some o→o.isCells=false→o.isWalk=false→Kp W (W.putObj l o'))
  (I:List α→World→Prop) (hI:OwnFrom w.heap.size I) (h0:I [] w)
  (hassign:∀l x W,WC ⟨some l,[],true⟩ P N assign (cI (fun ρ' W'=>ρ'=cL (cL ρ p (enc x)) q (enc x)∧W'=W) qw) (cL ρ p (enc x)) W)
  (hbody:∀l pre x W,I pre W→pre.length<Nn→WC ⟨some l,[],true⟩ P N body (N0 Kp I pre x W) (cL (cL ρ p (enc x)) q (enc x)) W)
  (hdone:∀(D:Nat) (xs:List α) (W:World),w.heap.size≤D→S xs→I xs W→W.heap[D]?=some (.deferred (some []))→Q .normal [D] ρ W):WD P N (.rangeFunc g #[p] assign body) Q ρ w:=
 Kt hp hg eg hseq hKt hKb I hI h0 (fun x=>cL (cL ρ p (enc x)) q (enc x)) (fun x i hi=>by rw [bD _ (fun h=>absurd hq (by rw [←h];exact Nat.not_lt.2 hi)),bD _ (fun h=>absurd hp (by rw [←h];exact Nat.not_lt.2 hi))]) hassign hbody hdone
def UO (n m:Nat) (ds:List Int) (cs:List NR):VP:=fun v W=>∃A a B b,v=.agg #[.slice A n a,.slice B m b]∧n≤a∧Sl W A n 1 (bC ds)∧Sl W B m 3 (az NR.cells cs)
theorem JJ.MH {H:List HE}{t1 t2:TypeId}{xs1 xs2:List Value}{n1 c1 s1 n2 c2 s2:Nat}{A1 A2:Option Addr} (hJ:JJ w0 H w W) (hs:Hp w0 H w)
  (o1:W.ownsRow w.heap.size t1 s1 (.slice A1 n1 c1) n1 xs1) (o2:W.ownsRow w.heap.size t2 s2 (.slice A2 n2 c2) n2 xs2) (h12:t1≠t2):Hp w0 (.row A1 n1 c1 t1 s1 xs1::.row A2 n2 c2 t2 s2 xs2::H) W:=by
 have hL:Hp w [.row A1 n1 c1 t1 s1 xs1,.row A2 n2 c2 t2 s2 xs2] W:=by
  refine ⟨hJ.bl,fun x hx=> ?_, ?_⟩
  ·rcases Wk.1 hx with rfl|hx
   ·exact o1
   ·obtain rfl:=Wj.1 hx;exact o2
  ·rw [XS];split
   ·exact N7
   ·rename_i b1 hb1;refine X2.2 ⟨fun hm=> ?_, ?_⟩
    ·obtain ⟨y,hy,hyb⟩:=Xe.1 hm;obtain rfl:=Wj.1 hy;exact Md o1 o2 h12 b1 hb1 hyb
    ·exact N7
 exact hs.join hL
instance:aO Tryz.prog 122 1 false 8 [.nilFunc]:={}
def Up (up:Bool) (s:Dyadic) (ns:List Nat) (a:Nat) (xs:List Dyadic):List Dyadic:=iu ns.reverse (ns.length-1-a) (if up then Ub (ns.getD a 0) s else Un (ns.getD a 0) s) xs
def nk (fx:FX) (ax:Int):Int:=if fx.e≠0 then fx.e else if ax<0∨(fx.n:Int)≤ax then 1 else 0
def Vp (e:Int):Ending:=.returned (.tuple #[.agg #[.slice none 0 0,.slice none 0 0],.agg #[.slice none 0 0,.slice none 0 0],.int .i64 e])
def Ud (n:Nat) (h:Int):Bool:=decide (h<0∨(n:Int)≤h.tdiv 2)
def Tq (ns:List Nat) (xs:List Dyadic) (h:Int):List Dyadic:=Up (decide (h % 2=1)) (qV (-1)) ns (h/2).toNat xs
def UT (ns:List Nat) (xs:List Dyadic) (hs:List Int):List Dyadic:=hs.foldl (Tq ns) xs
def U3 (fx:FX) (hs:List Int):Int:=if fx.e≠0 then fx.e else if hs.any (Ud fx.n)=true then 1 else 0
section
variable {P:Program}{N:Nat}{ops:Array Oper}{Q:Kq}{ρ:Rf}{w:World}{rest:List Oper}{d ty:Nat}{pos:String}{af:Array Edge}
theorem Ua (a:Int):IntKind.i64.wrap (BitVec.ofInt IntKind.i64.bits a &&& BitVec.ofInt IntKind.i64.bits 1).toNat=a % 2:=by
 have h1:(BitVec.ofInt IntKind.i64.bits a &&& BitVec.ofInt IntKind.i64.bits 1).toNat=(a % 2).toNat:=by
  show (BitVec.ofInt 64 a &&& BitVec.ofInt 64 1).toNat=_;rw [BitVec.toNat_and,show (BitVec.ofInt 64 1).toNat=2^1-1 by decide,Nat.and_two_pow_sub_one_eq_mod,BitVec.toNat_ofInt];omega
 rw [h1,kr VX VX];omega
theorem J7 {t u:Nat}{x y:Operand}{a:Int} (hx:ev ρ x=.int .i64 a) (hy:ev ρ y=.int .i64 1) (hN:d<N) (kk:WL .plain P N ops Q rest (cL ρ d (.int .i64 (a % 2))) w):WL .plain P N ops Q (⟨some d,.binOp .and t x y u,ty,pos,af,none⟩::rest) ρ w:=
 aV rfl rfl hN (by rw [PR hx hy,Ua]) kk
end
def Vl (R:List HE) (g:FX):Prop:=R=[g.vD,g.uC]∨g.m=0∧R=[g.uC]
theorem Hh {fx:FX}{ax:Int} (h:nk fx ax=0):fx.e=0∧0≤ax∧ax<fx.n:=by
 unfold nk at h;split at h
 ·rename_i h1;exact absurd h h1
 ·rename_i h1;split at h
  ·cases h
  ·omega
theorem Ea (fx:FX) (ax:Int) (k:Nat) (w:World) (hT:eK w) (hf:fx.at_ w) (hl:fx.jX k):
  Calls Tryz.prog 144 #[.agg #[.slice fx.A fx.n fx.a,.slice fx.B fx.m fx.b],.int .i64 ax] w fun r w'=>r=.returned (.int .i64 (nk fx ax))∧Below w.heap.size w w':=by
 have hh:=Hp.start w;have hck:=fun w1 hT1 hb=>yI fx k w1 hT1 (hf.ext hb) hl;by_cases h0:fx.e=0
 ·by_cases h1:ax<0
  ·rw [show nk fx ax=1 by unfold nk;rw [V3 VX,V2 (.inl h1)]];refine Fl ?_;refine sr ?_;refine cf hh [_,_] ?_;intro b2 w2 hh;refine aI (aa (ah (sr ?_)));refine cn hh 0 [_,_] ?_;refine gi ?_;intro w7 hh;refine aI (aa (sr (mI ?_)));refine cJ (aa (cF (ao (ai (ah (sr (mI ?_)))))));refine aW (mB ?_);refine gS (gS (gS (gS (gS ?_))));refine eM ?_;exact Cu
  ·by_cases h2:(fx.n:Int)≤ax
   ·rw [show nk fx ax=1 by unfold nk;rw [V3 VX,V2 (.inr h2)]];refine Fl ?_;refine sr ?_;refine cf hh [_,_] ?_;intro b2 w2 hh;refine aI (aa (ah (sr ?_)));refine cn hh 0 [_,_] ?_;refine gi ?_;intro w7 hh;refine aI (aa (sr (mI ?_)));refine cJ (aa (cF (ao (ai (ah (sr (mI ?_)))))));refine aW (mB (gT (mI (gT (bE (gT ?_))))));refine bB hh 0 ?_;refine gT (aF (gT ?_));refine dJ ?_;refine dE ?_;exact Cu
   ·rw [show nk fx ax=0 by unfold nk;rw [V3 VX,V3 VX]];refine Fl ?_;refine sr ?_;refine cf hh [_,_] ?_;intro b2 w2 hh;refine aI (aa (ah (sr ?_)));refine cn hh 0 [_,_] ?_;refine gi ?_;intro w7 hh;refine aI (aa (sr (mI ?_)));refine cJ (aa (cF (ao (ai (ah (sr (mI ?_)))))));refine aW (mB (gT (mI (gT (bE (gT ?_))))));refine bB hh 0 ?_;refine gT (aF (gT ?_));refine dJ ?_;refine dE ?_;refine Gu ?_;refine cS ?_;exact ⟨rfl,hh.below⟩
 ·rw [show nk fx ax=fx.e by unfold nk;rw [V2 h0]];refine Fl ?_;refine sr ?_;refine cf hh [_,_] ?_;intro b2 w2 hh;refine aI (aa (ah (sr ?_)));refine cn hh 0 [_,_] ?_;refine gi ?_;intro w7 hh;exact Re
theorem mr (A:Option Addr) (n c a d:Nat) (ns:List Nat) (w:World) (hS:Sl w A n 1 (bC (bU ns))) (hcap:n≤c) (hn:n≤1000) (hd:ns[a]?=some d) (hlow:∀x∈ns,x≤127) (hmax:ay ns≤4096):
  Calls Tryz.prog 92 #[.slice A n c,.int .i64 a] w fun r w'=>r=.returned (.agg #[.int .i64 ((d:Int)+1),.int .i64 (ay (ns.drop (a+1)):Nat)])∧Below w.heap.size w w':=by
 have hh:=Hp.start w;have hln:ns.length=n:=by have:=hS.1;simpa [bC,bU] using this
 have ha:=(Wi.1 hd).1;have hd127:=hlow d (V7 hd);have hgd:=cw (ig hd);have hbk:=hS.back (l:=a+1) (c:=c) VX hcap;have hds:(bC (bU ns)).drop ((a+1)*1)=bC (bU (ns.drop (a+1))):=by
  rw [Wo];unfold bC bU;rw [←YG,←YG]
 rw [hds] at hbk;have hcd:gJ 1 (bU (ns.drop (a+1)))=(ay (ns.drop (a+1)):Nat):=by
  have h1:=kE (ns.drop (a+1)) 1 VY VY (fun x hx=>hlow x (Zb hx));have h2:ay (ns.drop (a+1))≤ay ns:=by
   have h3:ay ns=ay (ns.take (a+1))*ay (ns.drop (a+1)):=by rw [←ep,W4]
   rw [h3];exact Nat.le_mul_of_pos_left _ (cU _)
  rw [X5,V2 VX] at h1;exact h1
 have hcnt:=fun w1 hS1=>eU (if c=a+1 then A else A.map (·.add ((a+1)*1))) (n-(a+1)) (c-(a+1)) (bU (ns.drop (a+1))) w1 hS1 VX;rw [hcd] at hcnt;obtain ⟨ad,rfl,srd⟩:=hS.at_ VX;refine aj (N:=16) (l:=[.slice (some ad) n c,.int .i64 a]) Tryz.func92 rfl rfl (by simp) ?_;refine sr ?_;refine bQ hh ?_;intro b4 w4 hh;refine aa (ah ?_);refine aT 10 [[(0,none)],[(1,none)],[(5,some 0),(6,some 1)],[(7,some 2)],[(8,some 3)],[(0,none)],[(1,none)],[(11,some 6)],[(10,some 5),(12,some 7)],[(13,some 8)]] [(9,14),(8,13),(7,12),(6,11),(5,10),(4,9),(3,8),(2,7),(1,6),(0,5)] hh mixed VZ ?_;refine dI ?_;refine cM ?_;refine iL (a) ?_;refine mO (fun _ hj=>(srd.ext hj.hp.below).su hgd) ?_;refine qG ?_;refine dI ?_;refine cM ?_;refine qG ?_;refine bm (i:=8) (fun ρ1 w1 hj hR=>gl (l:=(a+1)) bj.out aO.size (show ρ1 10=Value.slice _ _ _ from hR.1) (show ρ1 12=Value.int _ _ from hR.2.1) VX VX VX) ?_;refine dC (fun _ hj=>hcnt _ (hbk.ext hj.hp.below)) ?_;refine aJ ?_;intro f W hJ hV;have hb_1:=hJ.bl;obtain ⟨v14,v13,v12,v11,v10,v9,v8,v7,v6,v5,_⟩:=hV;replace hh:=hJ.hp;refine Et ?_;dsimp only [bH];clear hJ
 refine eV [_,_] ?_;exact LA
theorem Hf (A:List Nat) (d f i q:Nat):dt A d f i q=dt A d f 0 q+i*ay A:=by
 unfold dt;rw [W0,W0,Nat.mul_zero,WB i];omega
theorem m7 (g:FuncId) [ar Tryz.prog g] (A B:List Nat) (d L:Nat) (φ:List Dyadic→List Dyadic) (C:Option Addr) (n c k:Nat) (X:List Dyadic) (w:World) (hT:eK w) (hS:Sl w C n 3 (az NR.cells (X.map nR))) (hn:n=ay (A++d::B)) (hmax:n≤4096) (hL:L≤d+1) (hd:d≤127) (hx:∀x∈X,Sz k x)
  (hg:∀(Y:List Dyadic) (D:Option Addr) (dc:Nat) (w1:World),eK w1→(∀y∈Y,Sz k y)→Sl w1 D (d+1) 3 (az NR.cells (Y.map nR))→Calls Tryz.prog g #[.slice D (d+1) dc] w1 fun r w'=>∃E ec,r=.returned (.slice E L ec)∧Hp w1 [.row E L ec 65 3 (az NR.cells ((φ Y).map nR))] w')
  (hφ:∀Y:List Dyadic,Y.length=d+1→(φ Y).length=L):
  Calls Tryz.prog 93 #[.agg #[.int .i64 ((d:Int)+1),.int .i64 (ay A:Nat)],.slice C n c,.func (.func g) #[] #[]] w fun r w'=>∃E ec,r=.returned (.slice E n ec)∧Hp w [.row E n ec 65 3 (az NR.cells ((jq A d L φ X n 0).map nR))] w':=by
 have hh:=Hp.start w;have hXl:X.length=n:=by have:=hS.bg NR.len VY;simpa using this
 have hap:=cU A;have hap2:ay A≤n:=by
  rw [hn,ep];exact Zn _ (cU _)
 have hcl:=fun w1 hb=>za C n c (X.map nR) w1 (hS.ext hb) VX;refine aj (N:=67) (l:=[.agg #[.int .i64 ((d:Int)+1),.int .i64 (ay A:Nat)],.slice C n c,.func (.func g) #[] #[]]) Tryz.func93 rfl rfl (by simp) ?_;refine sr ?_;refine cf hh [_,_] ?_;intro b3 w3 hh;refine aL (aa (sr (mL ?_)));refine aG (hcl _ hh.below) ar.out rfl VY ?_;rintro e_ w14 ⟨A14,c14,rfl,hown_,hb_⟩;refine ⟨_,rfl, ?_⟩;replace hh:=hh.aY (x:=.row _ _ _ _ _ _) hb_ hown_;rw [show X.map nR=(jq A d L φ X 0 0).map nR by rw [Hb]] at hh;clear hcl;refine rZ ?_;refine aM [8,9,10,11,12,17,18,19,20,21,22,23,24,25,26,27,28,29,30,31,32,33,34,35,36,37,38,39,40,41,42,43,44,45,46,47,48,49,50,51,52,53,54,55,56,57,58,59,60,61,62,63,64,65] 17
  (fun v w'=>∃F:Nat,F≤n∧v=.int .i64 F∧Hp w [.row A14 n c14 65 3 (az NR.cells ((jq A d L φ X F 0).map nR)),.blk b3 119 [.int .i64 ((d:Int)+1),.int .i64 (ay A:Nat)] (0,0)] w')
  (fun v _=>n-(intOf v).toNat) ?_ ?_
 ·exact ⟨0,V5 _,rfl,hh⟩
 ·clear hh;rintro ρ' v w' ⟨F,hF,rfl,hh⟩;by_cases hlt:F<n
  ·have hcast:((F:Int)/((ay A:Nat):Int)) % ((d:Int)+1)=((F/ay A % (d+1):Nat):Int):=by norm_cast
   have hq0:(0:Int)≤(F:Int)/((ay A:Nat):Int):=Int.ediv_nonneg VX VX;by_cases h0:F/ay A % (d+1)=0
   ·obtain ⟨u0,hfF⟩:∃u0,u0=F % ay A:=⟨_,rfl⟩;obtain ⟨q,hqF⟩:∃q,q=F/ay A/(d+1):=⟨_,rfl⟩;have hf:u0<ay A:=by rw [hfF];exact Wy _ hap
    have hFe:F=dt A d u0 0 q:=by rw [hfF,hqF,←h0,yg]
    have hq:q<ay B:=by
     rw [hqF,XQ,Xv (Nat.mul_pos hap VX)];rw [hn,ep,ay] at hlt
     calc F<ay A*((d+1)*ay B):=hlt
      _=ay B*(ay A*(d+1)):=by rw [←W6,WB]
    have hpl:∀i,i≤d→dt A d u0 i q<n:=fun i hi=>by rw [hn];exact tB hf hi hq
    have hpi:∀i,dt A d u0 i q=F+i*ay A:=fun i=>by rw [hFe];exact Hf A d u0 i q
    have hxl:(fQ A d X u0 q).length=d+1:=by simp [fQ]
    have hxz:∀y∈fQ A d X u0 q,Sz k y:=fun y hy=>by
     obtain ⟨i,hi,rfl⟩:=Wn.1 hy;exact yu hx _
    obtain ⟨ad,hCA,hr⟩:=hS.at_ VX;rw [hCA] at*;refine sr ?_;refine aW (aa (ah (cT (ao (ai (ah (aq (sr (mI (aI (aa (ah (ah ?_)))))))))))));refine Og ?_;refine cM ?_;refine cP ?_;refine dL 1 ?_;refine Qa ?_;refine cP ?_;refine dL 1 ?_;refine aJ ?_;intro f W hJ hV;have hb_5:=hJ.bl;obtain ⟨v25,v24,v23,v22,v21,v20,_⟩:=hV;replace hh:=hJ.hp;refine aR (a8 (ae v25 (ae v24 (ae v23 (ae v22 (ae v21 (ae v20 aQ))))))) ?_;dsimp only [bH];clear hJ;refine rY ?_;refine cJ (aa (cF (ao (ai (sr (aL (aa (ah (sr (bE ?_))))))))));refine bB hh 1 ?_;refine mI (aa (aq ?_));replace hh:=hh.ck 65 3;refine bp [9,10,30,31,32,33,34,35,36,37,38,39,40,41,42,43,44,45] 9 30
     (fun a v w'=>∃(i:Nat) (A':Option Addr) (c':Nat),i≤d+1∧v=.int .i64 i∧a=.slice A' i c'∧Hp w [.row A' i c' 65 3 (az NR.cells (((fQ A d X u0 q).take i).map nR)),.row A14 n c14 65 3 (az NR.cells ((jq A d L φ X F 0).map nR)),.blk b3 119 [.int .i64 ((d:Int)+1),.int .i64 (ay A:Nat)] (0,0)] w')
     (fun _ v _=>d+1-(intOf v).toNat) ?_ ?_
    ·exact ⟨0,none,0,V5 _,rfl,rfl,hh⟩
    ·clear hh;rintro ρ2 a_ v w2 ⟨i,A',c',hi,rfl,rfl,hh⟩;by_cases hil:i<d+1
     ·obtain ⟨y,hy⟩:=ak (l:=fQ A d X u0 q) (k:=i) VX;have hyx:(X.map nR)[dt A d u0 i q]?=some (nR y):=by
       have h1:=hpl i VX;unfold fQ at hy;rw [Wf,Xc hil] at hy;have h2:(X[dt A d u0 i q]?).getD 0=y:=WZ hy;rw [Wf,Cr (show dt A d u0 i q<X.length by omega)];show some (nR (jT X _))=_;unfold jT;rw [h2]
      have hpn:=hpl i VX;have hpq:=hpi i;obtain ⟨m,hm⟩:∃m,m=i*ay A:=⟨_,rfl⟩;have hmi:(i:Int)*((ay A:Nat):Int)=(m:Int):=by rw [hm];exact (Xn _ _).symm
      rw [←hm] at hpq;refine sr ?_;refine aW (aa (ah (cT (ao (ai (ah (aq (sr (mI (aI (aa (al (mL (mL (mI (mI (bE ?_)))))))))))))))));refine bB hh 2 ?_;refine mulC ?_;refine a9 ?_;refine dp (k:=(dt A d u0 i q)) bj.out aO.size rfl rfl VX VX VY ?_;refine cA (vs:=[_,_,_]) aO.out rfl ((hr.ext hh.below).recAt NR.len hyx) rfl VY ?_;refine qK ?_;intro b43 w43 hh;refine mF ?_;intro A44 c44 w44 hh;simp only [Wd,WH] at hh;replace hh:=hh.sub (WE _ _);refine lR ?_;refine a9 (mI (aA (ai ?_)));have e1:az NR.cells (((fQ A d X u0 q).take i).map nR)++[.bool (nR y).neg,.string (nR y).bf,.int .i64 (nR y).e]=az NR.cells (((fQ A d X u0 q).take (i+1)).map nR):=by rw [aw hy,WT,bG,Wv,WV,fR];rfl
      rw [e1] at hh;refine ⟨⟨i+1,A44,c44,VX,rfl,rfl,hh⟩,by show d+1-(i+1)<d+1-i;omega, ?_⟩;exact dy
     ·obtain rfl:i=d+1:=VX;rw [Wa VX] at hh;refine sr ?_;refine mY ?_;refine jh ?_;refine mL ?_;refine gM (hg (fQ A d X u0 q) A' c' _ (hT.hp hh) hxz (hh.aC (i:=0) rfl)) ar.out rfl rfl VY ?_;rintro e_ w48 ⟨E,ec,rfl,h4⟩;refine ⟨_,rfl, ?_⟩;replace hh:=hh.join h4;clear h4;simp only [Wb,V9] at hh;replace hh:=hh.sub (V4 _ (V6 _ (V4 _ (V4 _ Wq))));have hφl:=hφ (fQ A d X u0 q) hxl;refine aF (mI (aa (aq ?_)));refine aM [11,12,50,51,52,53,54,55,56,57,58,59,60,61,62,63,64] 50
       (fun v w'=>∃j:Nat,j≤L∧v=.int .i64 j∧Hp w [.row E L ec 65 3 (az NR.cells ((φ (fQ A d X u0 q)).map nR)),.row A14 n c14 65 3 (az NR.cells ((jq A d L φ X F j).map nR)),.blk b3 119 [.int .i64 ((d:Int)+1),.int .i64 (ay A:Nat)] (0,0)] w')
       (fun v _=>L-(intOf v).toNat) ?_ ?_
      ·exact ⟨0,V5 _,rfl,hh⟩
      ·clear hh;rintro ρ3 v w3 ⟨j,hj,rfl,hh⟩;by_cases hjl:j<L
       ·obtain ⟨y,hy⟩:=ak (l:=φ (fQ A d X u0 q)) (k:=j) VX;have hyn:((φ (fQ A d X u0 q)).map nR)[j]?=some (nR y):=by rw [Wf,hy];rfl
        have hpn:=hpl j VX;have hpq:=hpi j;have hset:=KE (φ:=φ) (X:=X) (q:=q) hf hjl (show j≤d by omega);rw [←hFe,show jT (φ (fQ A d X u0 q)) j=y by unfold jT;rw [hy];rfl] at hset;obtain ⟨m,hm⟩:∃m,m=j*ay A:=⟨_,rfl⟩;have hmi:(j:Int)*((ay A:Nat):Int)=(m:Int):=by rw [hm];exact (Xn _ _).symm
        rw [←hm] at hpq;have hll:((jq A d L φ X F j).map nR).length=n:=by rw [Wh,g9];exact hXl
        generalize jq A d L φ X F j=S at*;generalize dt A d u0 j q=P at*;have hrl:=fw NR.len (S.map nR);obtain ⟨gr,rfl⟩:=hh.cu (i:=0) rfl VX;obtain ⟨go,rfl⟩:=hh.cu (i:=1) rfl VX;refine sr ?_;refine eH ?_;refine lW ?_;refine cA (vs:=[_,_,_]) aO.out rfl (hh.fY (f:=NR.cells) (x:=nR y) (l:=(φ (fQ A d X u0 q)).map nR) (i:=0) rfl NR.len VY hyn) rfl VY ?_;refine bQ hh ?_;intro b12 w12 hh;refine aI ?_;refine bR hh 0 [_,_,_] ?_;intro ws hh;replace hh:Hp _ (.blk _ _ [_,_,_] _::_) _:=hh;refine aa (al (mL (mI (mI (bE ?_)))));refine bB hh 3 ?_;refine mulC ?_;refine a9 ?_;refine cn hh 0 [_,_,_] ?_;refine cX (k:=P) bj.out aO.size rfl rfl VX VX VY ?_;refine cd hh (i:=2) (vs:=[_,_,_]) rfl rfl (iV rfl) rfl aO.out rfl VX rfl ?_;intro ws hh;simp only [Wd,WH] at hh;rw [show cz (az NR.cells (S.map nR)) (P*3) [.bool (nR y).neg,.string (nR y).bf,.int .i64 (nR y).e]=az NR.cells ((S.map nR).set P (nR y)) from jE NR.len VX,←YI,hset] at hh;refine gy ?_;refine a9 (mI (aA (ai ?_)))
        replace hh:=hh.sub (V6 _ (V4 _ (V4 _ (V4 _ Wq))));refine ⟨⟨j+1,VX,rfl,hh⟩,by show L-(j+1)<L-j;omega, ?_⟩;exact dy
       ·rw [GK (show L≤j by omega)] at hh;refine sr ?_;refine Bf ?_;refine a9 (mI (aA (ai ?_)));replace hh:=hh.sub (V6 _ (V4 _ (V4 _ Wq)));refine ⟨⟨F+1,VX,rfl,hh⟩,by show n-(F+1)<n-F;omega, ?_⟩;exact dy
   ·rw [HF h0] at hh;refine sr ?_;refine aW (aa (ah (cT (ao (ai (ah (aq (sr (mI (aI (aa (ah (ah ?_)))))))))))));refine Og ?_;refine cM ?_;refine cP ?_;refine dL 1 ?_;refine Qa ?_;refine cP ?_;refine dL 1 ?_;refine aJ ?_;intro f W hJ hV;have hb_5:=hJ.bl;obtain ⟨v25,v24,v23,v22,v21,v20,_⟩:=hV;replace hh:=hJ.hp;refine aR (a8 (ae v25 (ae v24 (ae v23 (ae v22 (ae v21 (ae v20 aQ))))))) ?_;dsimp only [bH];clear hJ;refine rY ?_;refine cJ (aa (cT (aU (aD (bk (ai (al ?_)))))));refine a9 (mI (aA (ai ?_)));refine ⟨⟨F+1,VX,rfl,hh⟩,by show n-(F+1)<n-F;omega, ?_⟩;exact dy
  ·obtain rfl:F=n:=VX;exact Tb
def lS (p:PX) (ds:List Int):List Int:=if ds.length=0 then jy p.v p.ts else ds
def CG (p:PX) (ds:List Int):List Nat:=(lS p ds).map Int.toNat
def oG (p:PX) (b:List SR) (ds:List Int):Int:=if gI p b (lS p ds)≠0 then gI p b (lS p ds) else (ez p (bT b)).1
theorem ND {ns:List Nat}{i d:Nat} (h:ns[i]?=some d):ns.reverse=(ns.drop (i+1)).reverse++d::(ns.take i).reverse:=by
 exact SQ
theorem Rc (ds:List Nat):X0 ds (sB [])=List.replicate (ay ds) 0:=tZ _
theorem Mc {i:Nat}{t:TR} (hl:∀t∈l,nU ds (dz t.m).reverse) (hr:vz l) (ht:l[i]?=some t):(X0 ds (sB (l.take i))).set (jf ds (dz t.m).reverse) t.c.d=X0 ds (sB (l.take (i+1))):=by
 have hok:=hl t (V7 ht);have hp:=qD hok;have h0:(X0 ds (sB (l.take i)))[jf ds (dz t.m).reverse]?=some 0:=by
  unfold X0;rw [nC _ hp];congr 1;unfold sB;rw [W5,xX];refine F8 fun s hs=>V3 fun e=> ?_;replace e:jf ds (dz s.m).reverse=jf ds (dz t.m).reverse:=e;have e2:(dz s.m).reverse=(dz t.m).reverse:=by rw [←kq (hl s (X1 hs)),e,kq hok]
  have e3:s.m=t.m:=Lm (List.reverse_inj.1 e2);obtain ⟨j,hj⟩:=Xr.1 hs;have hji:j<i:=by have:=(Wi.1 hj).1;rw [Wp] at this;omega
  rw [List.getElem?_take_of_lt hji] at hj;have h1:=(Wi.1 hj);have h2:=(Wi.1 ht);have h3:=List.pairwise_iff_getElem.1 hr j i h1.1 h2.1 hji;rw [h1.2,h2.2,e3,jt] at h3
  cases h3
 have h1:=Ha (v:=t.c.d) (show (oE (ay ds) ((sB (l.take i)).map fun (q:List Nat×Dyadic)=>(jf ds q.1,q.2)))[jf ds (dz t.m).reverse]?=some 0 from h0);rw [X9] at h1;show (oE (ay ds) ((sB (l.take i)).map fun (q:List Nat×Dyadic)=>(jf ds q.1,q.2))).set _ _=_;rw [h1,aw ht];unfold X0 sB;rw [WT,WT]
 rfl
set_option maxRecDepth 10000 in
theorem xe (p:PX) (L:Option Addr) (n c:Nat) (b:List SR) (M:Option Addr) (m mc:Nat) (ds:List Int) (k:Nat) (w:World) (hT:eK w) (hp:p.at_ w) (lp:p.jX k) (hB:Sl w L n 6 (az SR.cells b)) (hb:∀s∈b,s.fin k) (hn:n≤1000000) (hD:Sl w M m 1 (bC ds)) (hm:m≤1000000) (hmc:m≤mc) (hk:k≤1000)
  (hgr:gI p b (lS p ds)=0→eT (k+k+16394) (gL p.v p.ts) (k+1)≤440000):
  Calls Tryz.prog 20 #[.agg #[.int .i64 p.v,.slice p.A p.n p.c],.slice L n c,.slice M m mc] w fun r w'=>∃g:FX,Out (oG p b ds) (CG p ds) (sV (CG p ds) (ez p (bT b)).2) g∧r=.returned (.tuple #[.agg #[.slice g.A g.n g.a,.slice g.B g.m g.b],.int .i64 (oG p b ds)])∧Hp w [g.vD,g.uC] w':=by
 have hh:=Hp.start w;have hbl:b.length=n:=hB.bg SR.len VY;have hdl:ds.length=m:=by have:=hD.1;rw [bV] at this;omega
 have hok:∀s∈b,s.ok:=fun s hs=>⟨(hb s hs).1.ok,(hb s hs).2.ok⟩;have hDd:lS p ds=if m=0 then jy p.v p.ts else ds:=by unfold lS;rw [hdl]
 have hoN:CG p ds=(lS p ds).map Int.toNat:=rfl;have hoE:oG p b ds=if gI p b (lS p ds)≠0 then gI p b (lS p ds) else (ez p (bT b)).1:=rfl
 rw [hoN,hoE];clear hoN hoE;generalize lS p ds=D at*;refine aj (N:=94) (l:=[.agg #[.int .i64 p.v,.slice p.A p.n p.c],.slice L n c,.slice M m mc]) Tryz.func20 rfl rfl (by simp) ?_;refine sr ?_;refine cf hh [_,_] ?_;intro b3 w3 hh;refine bQ hh ?_;intro b6 w6 hh;refine aI (aa ?_);refine xt [2,18,19,20,21,22] 2
  (fun v w'=>∃(M2:Option Addr) (m2 mc2:Nat) (R:List HE),v=.slice M2 m2 mc2∧m2≤mc2∧m2≤1000000∧D.length=m2∧(∀(H:List HE) (w1:World),Hp w (H++R) w1→Sl w1 M2 m2 1 (bC D))∧Hp w (.blk b6 39 [.slice none 0 0,.slice none 0 0] (0,0)::.blk b3 24 [.int .i64 p.v,.slice p.A p.n p.c] (0,0)::R) w') ?_ ?_
 ·by_cases hm0:m=0
  ·subst hm0;rw [V2 rfl] at hDd;have hdg:=fun w1 hT1 hb=>sw p k w1 hT1 (hp.ext hb) lp;rw [←hDd] at hdg;have hl4:D.length≤1000000:=by
    rw [hDd];exact OJ
   refine sr (mL (aF ?_));refine cB (aa (cT (al ?_)));refine cn hh 1 [_,_] ?_;refine aG (hdg _ (hT.hp hh) hh.below) ar.out rfl VY ?_;rintro e_ w22 ⟨G,gc,rfl,h4⟩;refine ⟨_,rfl, ?_⟩;have hgc:D.length≤gc:=h4.dR (i:=0) rfl;replace hh:=hh.join h4;clear h4;simp only [Wb,V9] at hh;refine aL (aa ?_);replace hh:=hh.perm (WO (l₁:=[_,_]));simp only [Wb,V9] at hh;replace hh:=hh.perm (WO (l₁:=[_,_]));simp only [Wb,V9] at hh;refine ⟨⟨G,D.length,gc,_,rfl,hgc,hl4,rfl,fun H w1 h1=>kO (h1.own (.row G D.length gc 3 1 (bC D)) (XA _ We)),hh⟩, ?_⟩;exact JN
  ·rw [V3 hm0] at hDd;refine sr (mL (aF ?_));refine cB (aa (cF (ao (ai ?_))));refine ⟨⟨M,m,mc,[],rfl,hmc,hm,by rw [hDd];exact hdl,fun H w1 h1=>by rw [hDd];exact hD.ext h1.below,hh⟩, ?_⟩;exact JN
 ·skip;clear hh hDd hdl hD hm hmc;rintro ρ' v w' ⟨M2,m2,mc2,R,rfl,hmc2,hm2,hDl,hrd,hh⟩;have hfi:=fun w1 hT1 hb1 hd=>tr p L n c b M2 m2 mc2 D k w1 hT1 (hp.ext hb1) lp (hB.ext hb1) hok hn hd hm2;by_cases hE:gI p b D≠0
  ·rw [V2 hE];generalize gI p b D=E at*;refine ah (sr ?_);refine cn hh 1 [_,_] (mL (mL ?_));refine br hh (hfi _ (hT.hp hh) hh.below (hrd [_,_] _ hh)) rfl ?_;intro w26 hh;exact Sp
  ·rw [V3 hE];have hE0:gI p b D=0:=VX;obtain ⟨hnat,hF⟩:=C8 hE0;rw [hE0] at hfi;have hpe:=hF.e;have hn0:=hF.pos;have hn12:=hF.Dl;have hnl:=hF.nl;have hlow:=hF.low;have hmost:=hF.most;have hgr2:=hgr hE0;obtain ⟨_,o2,o3⟩:=lk hpe;have hwi:=fun w1 hT1 hb1=>yY p L n c b k (gL p.v p.ts) w1 hT1 (hp.ext hb1) lp (hB.ext hb1) hb (by rw [hF.v,hbl]) VX VX hk (by rw [hF.qg];exact hbl) (fun i d hd=>⟨(o3 i d hd).1,(o3 i d hd).2.1⟩) hgr2;have hsp:=xD hF lp.ok hb hk hgr2;clear hgr hgr2 o2 o3 hfi;have hfi:=fun w1 hT1 hb1 hd=>tr p L n c b M2 m2 mc2 D k w1 hT1 (hp.ext hb1) lp (hB.ext hb1) hok hn hd hm2;rw [hE0] at hfi;clear hE hE0;have hcnt:gJ 1 D=((ay (D.map Int.toNat):Nat):Int):=by
    have h8:=kE (D.map Int.toNat) 1 (V8 _) VY hlow;rw [←hnat,X5,V2 hmost] at h8;exact h8
   have hco:=fun w1 hd=>eU M2 m2 mc2 D w1 hd hm2;rw [hcnt] at hco;have hcl:=fun w1 hd=>l5 M2 m2 mc2 D w1 hd hm2;have hm2n:m2=n:=by rw [←hDl,←hbl,←hnl,Wh]
   generalize hns:D.map Int.toNat=ns at*;generalize (ez p (bT b)).1=E at*;generalize (ez p (bT b)).2=S at*;have hN0:=cU ns;refine ah (sr ?_);refine cn hh 1 [_,_] (mL (mL ?_));refine br hh (hfi _ (hT.hp hh) hh.below (hrd [_,_] _ hh)) rfl ?_;intro w26 hh;refine aI (aa (sr (mI ?_)));refine rQ ?_;refine cn hh 1 [_,_] (mL ?_);refine aG (hwi _ (hT.hp hh) hh.below) ar.out rfl VY ?_;rintro e_ w34 ⟨q,oq,rfl,h4⟩;refine ⟨_,rfl, ?_⟩;replace hh:=hh.join h4;clear h4;simp only [Wb,V9] at hh;replace hh:=show Hp w (.row q.A q.n q.c 96 4 (az TR.cells q.ts)::_) _ from hh;by_cases hE2:E≠0
   ·refine mT ?_;refine du ?_;refine du ?_;refine bQ hh ?_;intro b9 w9 hh;exact SA
   ·have hE0:E=0:=VX;subst hE0;obtain ⟨hso,hsr⟩:=hsp rfl;have et:q.ts=S:=oq.t0;rw [et] at hh;clear oq et;generalize q.v=qv at*;generalize q.A=qA at*;generalize q.n=qn at*;generalize q.c=qc at*;have hSl:S.length=qn:=(hh.aC (i:=0) rfl).bg TR.len VY;have hSn:=hso.len;obtain ⟨_,_,hSm,hSc⟩:=cK hso.e;refine mT ?_;refine du ?_;refine du ?_;refine bQ hh ?_;intro b9 w9 hh;refine bR hh 0 [_,_] ?_;intro ws hh;replace hh:Hp _ (.blk _ _ [_,_] _::_) _:=hh;refine aI (aa (ah (sr (mI ?_))));refine cJ (aa (cF (ao (ai (sr (mL ?_))))));refine aG (hcl _ (hrd [_,_,_,_] _ hh)) ar.out rfl VY ?_;rintro e_ w42 ⟨A42,c42,rfl,hown_,hb_⟩;refine ⟨_,rfl, ?_⟩;replace hh:=hh.aY (x:=.row _ _ _ _ _ _) hb_ hown_;refine mL ?_;refine br hh (hco _ (hrd [_,_,_,_,_] _ hh)) rfl ?_;intro w44 hh;refine gj (n:=(ay ns)) hh rfl rfl VX VX bj.out aO.out rfl VX VX VY ?_;intro b45 w45 hh;refine eV [_,_] ?_;refine bQ hh ?_;intro b11 w11 hh;refine bR hh 0 [_,_] ?_;intro ws hh;replace hh:Hp _ (.blk _ _ [_,_] _::_) _:=hh;refine aa (ah (sr (bE ?_)));refine bB hh 3 ?_;refine aF (mI (aa (aq ?_)));rw [nO,←db ns,←Rc ns.reverse,db] at hh
    refine aM [13,14,15,16,50,51,52,53,54,55,56,57,58,59,60,61,62,63,64,65,66,67,68,69,70,71,72,73,74,75,76,77,78,79] 50
     (fun v w'=>∃i:Nat,i≤qn∧v=.int .i64 i∧Hp w (.blk b11 39 [.slice A42 m2 c42,.slice (some ⟨b45,0,none⟩) (ay ns) (ay ns)] (0,0)::.row (some ⟨b45,0,none⟩) (ay ns) (ay ns) 65 3 (az NR.cells ((X0 ns.reverse (sB (S.take i))).map nR))::.row A42 m2 c42 3 1 (bC D)::.blk b9 24 [.int .i64 qv,.slice qA qn qc] (0,0)::.row qA qn qc 96 4 (az TR.cells S)::.blk b6 39 [.slice none 0 0,.slice none 0 0] (0,0)::.blk b3 24 [.int .i64 p.v,.slice p.A p.n p.c] (0,0)::R) w')
     (fun v _=>qn-(intOf v).toNat) ?_ ?_
    ·exact ⟨0,V5 _,rfl,hh⟩
    ·clear hh;rintro ρ2 v w2 ⟨i,hi,rfl,hh⟩;by_cases hlt:i<qn
     ·obtain ⟨x,hx⟩:=ak (l:=S) (k:=i) VX;have hxm:=V7 hx;have hxo:=hsr x hxm;have hx2:=hSm x hxm;unfold gg at hx2;rw [Wl,Wt] at hx2;have hxs:x.m.size=n:=VX;have hxz:=hso.sz x hxm;have hxc:x.c=nR x.c.d:=hSc.nf x hxm;have hex:iT x.m.data.toList=bU (dz x.m):=by rw [ko hx2.1,xT]
      have hesl:(dz x.m).length=n:=by rw [lM];exact hxs
      have hel:(iT x.m.data.toList).length=n:=by rw [hex,qI];exact hesl
      have hset:=Mc hsr hSc.sO hx;have hX0l:((X0 ns.reverse (sB (S.take i))).map nR).length=ay ns:=by rw [Wh];unfold X0;rw [lG,db]
      have hcell:az TR.cells S=az TR.cells S:=rfl;have hokat:∀(j d r:Nat),ns[j]?=some d→(dz x.m)[j]?=some r→r≤d:=fun j d r hd hr=>by
       have hj:=(Wi.1 hd).1;refine ((mu _ _).1 hxo).2 (n-1-j) d r ?_ ?_
       ·rw [XE VX,show ns.length-1-(n-1-j)=j by omega];exact hd
       ·rw [XE VX,show (dz x.m).length-1-(n-1-j)=j by omega];exact hr
      obtain ⟨gq,rfl⟩:=hh.cu (i:=4) rfl VX;refine sr ?_;refine dZ ?_;refine gh ?_;refine cA (vs:=[_,_,_,_]) aO.out rfl (hh.fY (f:=TR.cells) (x:=x) (l:=S) (i:=4) rfl TR.len VY hx) rfl VY ?_;refine bQ hh ?_;intro b13 w13 hh;refine bR hh 0 [_,_,_,_] ?_;intro ws hh;replace hh:Hp _ (.blk _ _ [_,_,_,_] _::_) _:=hh;refine aa (sr (aI (aa (ah (sr (bE ?_))))));refine bB hh 0 ?_;refine aG (ik x.m _ hxz) ar.out rfl VY ?_;rintro e_ w56 ⟨A56,c56,rfl,hown_,hb_⟩;refine ⟨_,rfl, ?_⟩;replace hh:=hh.aY (x:=.row _ _ _ _ _ _) hb_ hown_;rw [hel,hex] at hh;rw [hel];refine aF (mI (aa (aq ?_)));refine bp [14,15,16,58,59,60,61,62,63,64,65,66,67,68,69,70,71,72] 14 58
       (fun a v w'=>∃(j z:Nat),j≤n∧v=.int .i64 j∧a=.int .i64 z∧z=jf (ns.take j).reverse ((dz x.m).take j).reverse∧z<ay (ns.take j)∧Hp w (.row A56 n c56 3 1 (bC (bU (dz x.m)))::.blk b13 96 [.string x.m,.bool x.c.neg,.string x.c.bf,.int .i64 x.c.e] (0,0)::.blk b11 39 [.slice A42 m2 c42,.slice (some ⟨b45,0,none⟩) (ay ns) (ay ns)] (0,0)::.row (some ⟨b45,0,none⟩) (ay ns) (ay ns) 65 3 (az NR.cells ((X0 ns.reverse (sB (S.take i))).map nR))::.row A42 m2 c42 3 1 (bC D)::.blk b9 24 [.int .i64 qv,.slice (some ⟨gq,0,none⟩) qn qc] (0,0)::.row (some ⟨gq,0,none⟩) qn qc 96 4 (az TR.cells S)::.blk b6 39 [.slice none 0 0,.slice none 0 0] (0,0)::.blk b3 24 [.int .i64 p.v,.slice p.A p.n p.c] (0,0)::R) w')
       (fun _ v _=>n-(intOf v).toNat) ?_ ?_
      ·exact ⟨0,0,V5 _,rfl,rfl,rfl,Nat.one_pos,hh⟩
      ·clear hh;rintro ρ3 a_ v w3 ⟨j,z,hj,rfl,rfl,hz,hz2,hh⟩;by_cases hjn:j<n
       ·obtain ⟨d,hd⟩:=ak (l:=ns) (k:=j) VX;obtain ⟨r,hr⟩:=ak (l:=dz x.m) (k:=j) VX;have hrd2:=hokat j d r hd hr;have hd7:=hlow d (V7 hd);have hgD:(bC D)[j]?=some (.int .i64 (d:Int)):=by rw [hnat];exact cw (ig hd)
        have hgE:=cw (ig hr);have hst:=K0 hd hr;have hcs:=I0 hd;rw [db,db] at hcs;rw [←hz] at hst;have hct:=jH ns (j+1);have hnew:r+(d+1)*z<(d+1)*ay (ns.take j):=by
         have:(d+1)*(z+1)≤(d+1)*ay (ns.take j):=WS _ hz2;rw [XI] at this;omega
        have hpr:(z:Int)*((d:Int)+1)=(((d+1)*z:Nat):Int):=by rw [WB,Xn,X6];rfl
        have hDs:=hrd [_,_,_,_,_,_,_,_,_] _ hh;obtain ⟨ad,hMe,hsr2⟩:=hDs.at_ VX;have tQ:Value.slice M2 m2 mc2=.slice (some ad) m2 mc2:=by rw [hMe]
        have hel2:(bC (bU (dz x.m))).length=n:=by rw [bV,qI];exact hesl
        obtain ⟨gx,rfl⟩:=hh.cu (i:=0) rfl VX;refine sr ?_;refine eH ?_;refine lW ?_;refine jO ?_;refine aI (aI (aa (al (mI (mL (mI ?_))))));refine dp (k:=j) bj.out aO.size tQ rfl VX VX VY ?_;refine bX aO.out rfl (hsr2.su hgD) VY ?_;refine a9 ?_;refine mulC (mI ?_);refine a9 (aI (aA (bF (ai (al ?_)))));refine a9 (mI (aA (ai ?_)));rw [hpr];refine ⟨⟨j+1,r+(d+1)*z,VX,rfl, ?_,hst.symm,VX,hh⟩,by show n-(j+1)<n-j;omega, ?_⟩
        ·show Value.int IntKind.i64 ((((d+1)*z:Nat):Int)+(r:Int))=_;rw [show (((d+1)*z:Nat):Int)+(r:Int)=((r+(d+1)*z:Nat):Int) by omega]
        ·exact dy
       ·obtain rfl:j=n:=VX;rw [Wa VX,Wa VX] at hz;rw [Wa VX] at hz2;rw [←hz] at hset;generalize X0 ns.reverse (sB (S.take i))=X at*;have hrl:=fw NR.len (X.map nR);refine sr ?_;refine aW (aa (ah (cF (aU (aD (aD (bk (ai (al (bE ?_))))))))));refine bB hh 2 ?_;refine mI (bE ?_);refine cn hh 1 [_,_,_] ?_;refine cX (k:=z) bj.out aO.size rfl rfl VX VX VY ?_;refine cd hh (i:=3) (vs:=[_,_,_]) rfl rfl (iV rfl) rfl aO.out rfl VX rfl ?_;intro ws hh;simp only [Wd,WH] at hh;rw [hxc,show cz (az NR.cells (X.map nR)) (z*3) [.bool (nR x.c.d).neg,.string (nR x.c.d).bf,.int .i64 (nR x.c.d).e]=az NR.cells ((X.map nR).set z (nR x.c.d)) from jE NR.len VX,←YI,hset] at hh;refine gy ?_;refine a9 (mI (aA (ai ?_)));replace hh:=hh.sub (V6 _ (V6 _ (V4 _ (V4 _ (V4 _ (V4 _ (V4 _ (V4 _ (V4 _ (Xh _))))))))));refine ⟨⟨i+1,VX,rfl,hh⟩,by show qn-(i+1)<qn-i;omega, ?_⟩;exact dy
     ·obtain rfl:i=qn:=VX;rw [Wa VX,show X0 ns.reverse (sB S)=qF ns.reverse (sB S) 0 from rfl] at hh;have hoff:=IJ hsr;have hXz:=KF (TM (ds:=ns.reverse) hso.ok) (fun d hd=>hlow d (YE.1 hd));have hnr:ns.reverse.length=n:=by rw [W3];omega
      refine sr ?_;refine aW (aa (ah (cF (aU (aD (aD (bk (ai (ah (sr (mL (aF (mI (aa (aq ?_)))))))))))))));replace hh:=hh.sub (V4 _ (V4 _ (V4 _ (V6 _ (V6 _ (V4 _ (V4 _ (Xh _))))))));refine aM [17,82,83,84,85,86,87,88,89,90,91,92] 82
       (fun v w'=>∃(j:Nat) (A:Option Addr) (ac:Nat),j≤n∧v=.int .i64 j∧Hp w (.blk b11 39 [.slice A42 m2 c42,.slice A (ay ns) ac] (0,0)::.row A (ay ns) ac 65 3 (az NR.cells ((qF ns.reverse (sB S) j).map nR))::.row A42 m2 c42 3 1 (bC D)::.blk b6 39 [.slice none 0 0,.slice none 0 0] (0,0)::.blk b3 24 [.int .i64 p.v,.slice p.A p.n p.c] (0,0)::R) w')
       (fun v _=>n-(intOf v).toNat) ?_ ?_
      ·exact ⟨0,_,_,V5 _,rfl,hh⟩
      ·clear hh;rintro ρ4 v w4 ⟨j,A,ac,hj,rfl,hh⟩;by_cases hjn:j<n
       ·obtain ⟨d,hd⟩:=ak (l:=ns) (k:=j) VX;have hd7:=hlow d (V7 hd);have hrm:=ND hd;have hol:(qF ns.reverse (sB S) j).length=ay ns:=by rw [BG,db]
        have hof:=fun w1 hs=>mr M2 m2 mc2 j d ns w1 (by rw [←hnat];exact hs) hmc2 VX hd hlow hmost;have hcn:ay ns=ay ((ns.drop (j+1)).reverse++d::(ns.take j).reverse):=by rw [←hrm,db]
        have hli:=fun w1 hT1 hS1=>m7 94 (ns.drop (j+1)).reverse (ns.take j).reverse d (d+1) (kR d (eX d 1 1)) A (ay ns) ac (440000+S.length+520*j) (qF ns.reverse (sB S) j) w1 hT1 hS1 hcn hmost (V8 _) hd7 (hXz j) (fun Y E ec w2 hT2 hy hs=>ze E (d+1) ec d Y _ w2 hT2 hs rfl hd7 hy VX) (fun Y _=>by simp [kR]);have hM:=KJ (M:=eX d 1 1) (A:=(ns.drop (j+1)).reverse) (B:=(ns.take j).reverse) (X:=qF ns.reverse (sB S) j) (hol.trans hcn);have hsu:=qX ns.reverse (sB S) j;have hgd:ns.reverse.getD (ns.reverse.length-1-j) 0=d:=by
         rw [Xw,XE VX,show ns.length-1-(ns.reverse.length-1-j)=j by omega,hd]
         rfl
        rw [hgd,show ns.reverse.length-1-j=(ns.drop (j+1)).reverse.length by rw [W3,W3,Xk];omega] at hsu;rw [hol,←hrm,←hsu] at hM;rw [hM,db] at hli;clear hM hsu hgd hcn;refine sr ?_;refine aW (aa (ah (cT (ao (ai (ah (aq (sr (mI (aI (aa ?_)))))))))));refine aT 5 [[(2,none)],[(17,none)],[(85,some 0),(86,some 1)],[(11,none)],[(88,some 3)]] [(4,89),(3,88),(2,87),(1,86),(0,85)] hh mixed VZ ?_;refine dI ?_;refine cM ?_;refine dC (fun _ hj=>hof _ (hrd [_,_,_,_,_] _ hj.hp)) ?_;refine cP ?_;refine dL 0 ?_;refine aJ ?_;intro f W hJ hV;have hb_24:=hJ.bl;obtain ⟨v89,v88,v87,v86,v85,_⟩:=hV;replace hh:=hJ.hp;refine aR (a8 (ae v89 (ae v88 (ae v87 (ae v86 (ae v85 aQ)))))) ?_;dsimp only [bH];clear hJ;refine aG (hli _ (hT.hp hh) (hh.aC (i:=1) rfl)) ar.out rfl VY ?_;rintro e_ w90 ⟨E,ec,rfl,h4⟩;refine ⟨_,rfl, ?_⟩;replace hh:=hh.join h4;clear h4;simp only [Wb,V9] at hh;refine bE ?_;refine bR hh 1 [_] ?_;intro ws hh;replace hh:Hp _ (_::.blk _ _ [_,_] _::_) _:=hh;refine gy ?_;refine a9 (mI (aA (ai ?_)))
        replace hh:=hh.sub (V4 _ (V4 _ (V6 _ (V4 _ (V4 _ (V4 _ (Xh _)))))));replace hh:=hh.perm (WO (l₁:=[_]));simp only [Wb,V9] at hh;refine ⟨⟨j+1,E,ec,VX,rfl,hh⟩,by show n-(j+1)<n-j;omega, ?_⟩;exact dy
       ·obtain rfl:j=n:=VX;rw [hnl,hbl] at hoff;rw [hoff] at hh;refine sr ?_;refine mY ?_;refine cn hh 0 [_,_] ?_;refine bR hh 3 [_,_] ?_;intro ws hh;replace hh:Hp _ (_::_::_::.blk _ _ [_,_] _::_) _:=hh;refine aI (aa (au ?_));refine KC ?_;exact ⟨⟨A42,m2,c42,A,ay ns,ac,D,(sV ns S).map nR⟩,⟨hnat,rfl,by show m2≤100000;omega,by show ay ns≤1000000;omega⟩,rfl,hh.sub (.cons _ (.cons_cons _ (.cons_cons _ (WN _))))⟩
def sx (a:NR):Bool:=decide ((8:Int)<a.bf.size∨a.e< -60∨60<a.e)
theorem Qp {a:NR} (h:sx a=false):a.ok∧Sz 124 a.d:=by
 have h':=of_decide_eq_false h;have h1:(a.bf.size:Int)≤8:=VX;have h2: -60≤a.e:=VX;have h3:a.e≤60:=VX;exact ⟨⟨VX,VX,VX⟩,Sz.raw (m:=64) (E:=60) VX h2 h3⟩
def FX.small (f:FX):Prop:=f.jX 124∧f.m≤60∧f.n≤20
abbrev VS (l:List Int) (A:Option Addr) (a:Nat) (B:Option Addr) (b:Nat):FX:=⟨A,1,a,B,l.length,b,[(l.length:Int)-1],l.map fun z:Int=>nR (z:Dyadic)⟩
def xp (ds:List Int) (cs:List NR):VP:=fun v W=>∃g:FX,v=.agg #[.slice g.A g.n g.a,.slice g.B g.m g.b]∧g.ds=ds∧g.cs=cs∧g.at_ W
theorem xp.ext {ds:List Int}{cs:List NR} (v:Value) (w w':World) (h:xp ds cs v w) (hb:Below w.heap.size w w'):xp ds cs v w':=let ⟨g,h1,h2,h3,h4⟩:=h;⟨g,h1,h2,h3,h4.ext hb⟩
variable {K:Value→World→Prop}{ag:Bool}{by':Nat}{cs zc:List Value}{parts:Array (Nat×Operand)}{ps:List (Nat×Value)}{z:Int}
section
variable {P:Program}{ρ:Rf}{w:World}
theorem RA {d:Option Nat}{ty:TypeId}{af:Array Edge}{t e:TypeId}{len sz:Nat} (ht:P.underlying t=some (.slice e)) (hte:di P e=some (sz,ag,by',zc))
  (hp:wq ρ parts.toList=ps) (hzl:zc.length=sz) (hf:k7 (fun i=>some (i*sz,sz)) (fa len zc) ps=some cs) (h0:¬len*sz=0) (hsl:len*sz≤16777216) (hl:cs.length=len*sz) (hn:len≤1000000) (hbs:base≤w.heap.size)
  (hk:∀v w2,pV base e len sz cs v w2→Below w.heap.size w w2→K v w2):OG P ops ⟨d,.buildSlice t len parts,ty,pos,af,none⟩ ρ w K:=by
 obtain ⟨z,hz,hzc⟩:=dA (w:=w) hte;have hbl:Below w.heap.size w (w.alloc (.cells cs.toArray e)):=(Below.refl _ _).alloc (V8 _) _;refine eI rfl (w':=w.alloc (.cells cs.toArray e)) (v:=.slice (some ⟨w.heap.size,0,none⟩) len len) ?_ (hk _ _ ⟨_,_,rfl,hl,.inr ⟨w.heap.size,len,cs.toArray,rfl,hbs,heap_alloc_new w _,V8 _,by unfold maxLen;omega,by simpa using hl,by rw [←hl];simp⟩⟩ hbl);exact QC
end
def eP (z:Int):NR:=nR (z:Dyadic)
def kv (l:List Int):List SR:=l.map fun z=>⟨nR 0,eP z⟩
theorem qT (h:z.natAbs<256):(eP z).ok∧Sz 24 (eP z).d:=by
 have z1:Sz 24 ((z:Int):Dyadic):=JS (m:=z) (e:=0) h VY VY;exact ⟨z1.ok VY,by unfold eP;rw [cm];exact z1⟩
theorem l6 (l:List Int) (A:Option Addr) (n c:Nat) (w:World) (hS:Sl w A n 1 (bC l)) (hl:∀z∈l,z.natAbs<256) (hn:n≤1000):
  Calls Tryz.prog 104 #[.slice A n c] w fun r w'=>∃B c',r=.returned (.slice B n c')∧Hp w [.row B n c' 65 3 (az NR.cells (l.map eP))] w':=by
 have hh:=Hp.start w;have hln:l.length=n:=by have:=hS.1;rw [bV] at this;omega
 refine aj (N:=20) (l:=[.slice A n c]) Tryz.func104 rfl rfl (by simp) ?_;refine Fi ?_;replace hh:=hh.ck 65 3;refine bp [3,4,5,6,7,8,9,10,11,12,13,14,15,16,17,18] 3 4
  (fun a v w'=>∃(i c1:Nat) (B:Option Addr),i≤n∧v=.int .i64 i∧a=.slice B i c1∧Hp w [.row B i c1 65 3 (az NR.cells ((l.take i).map eP))] w')
  (fun _ v _=>n-(intOf v).toNat) ?_ ?_
 ·exact ⟨0,0,none,V5 _,rfl,rfl,hh⟩
 ·clear hh;rintro ρ' a_ v w' ⟨i,c1,B,hi,rfl,rfl,hh⟩;by_cases hlt:i<n
  ·obtain ⟨z,hz⟩:=ak (l:=l) (k:=i) VX;have hgz:=cw hz;have hzb:=hl z (V7 hz);obtain ⟨ad,rfl,hr⟩:=hS.at_ VX;refine ah (sr (mI (mL (aF ?_))));refine B5 ?_;refine bY ?_;refine bX aO.out rfl ((hr.ext hh.below).su hgz) VY ?_;refine br hh (jv z _ VX VX) rfl ?_;intro w16 hh;refine qK ?_;intro b17 w17 hh;refine mF ?_;intro A18 c18 w18 hh;simp only [Wd,WH] at hh;replace hh:=hh.sub (WE _ _);refine jK ?_;refine a9 (aI (aA (ai ?_)));refine ⟨⟨i+1,c18,A18,VX,rfl,rfl, ?_⟩,by show n-(i+1)<n-i;omega, ?_⟩
   ·rw [aw hz,WT,bG];exact hh
   ·exact dy
  ·obtain rfl:i=n:=VX;rw [Wa VX] at hh;exact QD
theorem Dv (l:List Int) (A:Option Addr) (n c:Nat) (w:World) (hS:Sl w A n 1 (bC l)) (hl:∀z∈l,z.natAbs<256) (hn:n≤1000):
  Calls Tryz.prog 105 #[.slice A n c] w fun r w'=>∃B c',r=.returned (.slice B n c')∧Hp w [.row B n c' 81 6 (az SR.cells (kv l))] w':=by
 have hh:=Hp.start w;have hln:l.length=n:=by have:=hS.1;rw [bV] at this;omega
 refine aj (N:=21) (l:=[.slice A n c]) Tryz.func105 rfl rfl (by simp) ?_;refine Fi ?_;replace hh:=hh.ck 81 6;refine bp [3,4,5,6,7,8,9,10,11,12,13,14,15,16,17,18,19] 3 4
  (fun a v w'=>∃(i c1:Nat) (B:Option Addr),i≤n∧v=.int .i64 i∧a=.slice B i c1∧Hp w [.row B i c1 81 6 (az SR.cells (kv (l.take i)))] w')
  (fun _ v _=>n-(intOf v).toNat) ?_ ?_
 ·exact ⟨0,0,none,V5 _,rfl,rfl,hh⟩
 ·clear hh;rintro ρ' a_ v w' ⟨i,c1,B,hi,rfl,rfl,hh⟩;by_cases hlt:i<n
  ·obtain ⟨z,hz⟩:=ak (l:=l) (k:=i) VX;have hgz:=cw hz;have hzb:=hl z (V7 hz);obtain ⟨ad,rfl,hr⟩:=hS.at_ VX;have e1:az SR.cells (kv (l.take (i+1)))=az SR.cells (kv (l.take i))++[.bool false,.string (ByteArray.mk #[]),.int .i64 0,.bool (nR (z:Dyadic)).neg,.string (nR (z:Dyadic)).bf,.int .i64 (nR (z:Dyadic)).e]:=by
    unfold kv;rw [aw hz,WT,bG,Wv,WV,fR,mb]
    rfl
   refine ah (sr (mI (mL (aF ?_))));refine B5 ?_;refine bY ?_;refine bX aO.out rfl ((hr.ext hh.below).su hgz) VY ?_;refine br hh (jv z _ VX VX) rfl ?_;intro w16 hh;refine eV [_,_,_,_,_,_] ?_;refine Qd ?_;intro b18 w18 hh;refine mF ?_;intro A19 c19 w19 hh;simp only [Wd,WH] at hh;replace hh:=hh.sub (WE _ _);refine jK ?_;refine a9 (aI (aA (ai ?_)));refine ⟨⟨i+1,c19,A19,VX,rfl,rfl, ?_⟩,by show n-(i+1)<n-i;omega, ?_⟩
   ·rw [e1];exact hh
   ·exact dy
  ·obtain rfl:i=n:=VX;rw [Wa VX] at hh;exact QD
theorem yy (z:Int) (es:List UInt8) (A:Option Addr) (n c:Nat) (w:World) (hS:Sl w A n 1 (lX es)) (hz:z.natAbs<256) (hn:es.length=n) (hn2:n≤1000):
  Calls Tryz.prog 107 #[.int .i64 z,.slice A n c] w fun r w'=>∃B c',r=.returned (.agg #[.int .i64 n,.slice B 1 c'])∧Hp w [.row B 1 c' 96 4 (az TR.cells [⟨str es,eP z⟩])] w':=by
 have hh:=Hp.start w;refine aj (N:=14) (l:=[.int .i64 z,.slice A n c]) Tryz.func107 rfl rfl (by simp) ?_;refine sr ?_;refine bQ hh ?_;intro b4 w4 hh;refine aa (ah ?_);refine aT 8 [[(1,none)],[(5,some 0)],[(1,none)],[(7,some 2)],[(0,none)],[(9,some 4)],[(8,some 3),(10,some 5)],[(11,some 6)]] [(7,12),(6,11),(5,10),(4,9),(3,8),(2,7),(1,6),(0,5)] hh mixed VZ ?_;refine dI ?_;refine rE ?_;refine dI ?_;refine aN (i:=3) (Is (.string ⟨(es).toArray⟩)) Is.ext ?_ ?_
 ·intro ρ1 w1 hj hR;exact eI rfl (iJ (l:=es) bj.out bj.out bj.out (show ρ1 7=Value.slice _ _ _ from hR.1) (hS.ext hj.hp.below)) ⟨Below.refl _ _,rfl⟩
 refine cM ?_;refine dC (fun _ hj=>jv z _ VX VX) ?_;refine dB [_,_,_,_] ?_;refine aN (i:=7) (pV hh.sz 96 1 4 (az TR.cells [⟨str es,eP z⟩])) (pV.ext) ?_ ?_
 ·intro ρ1 w1 hj hR;exact RA (sz:=4) bj.out aO.out (show wq ρ1 [(0,.tmp 11)]=[(0,.agg #[.string (str es),.bool (eP z).neg,.string (eP z).bf,.int .i64 (eP z).e])] from aX (show ρ1 11=_ from hR.1) ct) rfl rfl VY VY rfl VY hj.bl.size fun v w2 h hb=>⟨hb,h⟩
 refine aJ ?_;intro f W hJ hV;have hb_1:=hJ.bl;obtain ⟨v12,v11,v10,v9,v8,v7,v6,v5,_⟩:=hV;obtain ⟨A12,c12,e12,o12⟩:pV _ _ _ _ _ (f 7) W:=v12;replace hh:=JJ.Dc hh hJ.hp o12;clear o12;refine aR (a8 (ae e12 (ae v11 (ae v10 (ae v9 (ae v8 (ae v7 (ae v6 (ae v5 aQ))))))))) ?_;dsimp only [bH];clear e12 hJ;refine eV [_,_] ?_;refine bR hh 1 [_,_] ?_;intro ws hh;replace hh:Hp _ (_::.blk _ _ [_,_] _::_) _:=hh;refine aa (au ?_);refine wE ?_;exact ⟨A12,c12,rfl,hh.sub (V4 _ (WN _))⟩
theorem HH (p:PX) (L:Option Addr) (n c:Nat) (b:List SR) (M:Option Addr) (m mc:Nat) (ds:List Int) (A:Option Addr) (k ac:Nat) (l:List Int) (w:World) (hT:eK w) (hp:p.at_ w) (lp:p.jX 124) (hB:Sl w L n 6 (az SR.cells b)) (hb:∀s∈b,s.fin 124) (hn:n≤1000) (hD:Sl w M m 1 (bC ds)) (hm:m≤1000) (hmc:m≤mc)
  (hgr:eT (124+124+16394) (gL p.v p.ts) (124+1)≤440000) (hS:Sl w A k 1 (bC l)) (hl:∀z∈l,z.natAbs<256) (hk:k≤1000) (hE:oG p b ds=0) (hX:sV (CG p ds) (ez p (bT b)).2=l.map fun z:Int=>(z:Dyadic)):
  Calls Tryz.prog 106 #[.agg #[.int .i64 p.v,.slice p.A p.n p.c],.slice L n c,.slice M m mc,.slice A k ac] w fun r w'=>r=.returned (.bool true)∧Below w.heap.size w w':=by
 have hh:=Hp.start w;have hof:=fun w1 hT1 hb1=>xe p L n c b M m mc ds 124 w1 hT1 (hp.ext hb1) lp (hB.ext hb1) hb VX (hD.ext hb1) VX hmc VY (fun _=>hgr);rw [hE,hX] at hof;have hro:=fun w1 hb1=>l6 l A k ac w1 (hS.ext hb1) hl hk;have hll:l.length=k:=by have:=hS.1;rw [bV] at this;omega
 refine aj (N:=27) (l:=[.agg #[.int .i64 p.v,.slice p.A p.n p.c],.slice L n c,.slice M m mc,.slice A k ac]) Tryz.func106 rfl rfl (by simp) ?_;refine sr ?_;refine cf hh [_,_] ?_;intro b4 w4 hh;refine aB (aa (sr ?_));refine cn hh 0 [_,_] (mL (mL ?_));refine aG (hof _ (hT.hp hh) hh.below) ar.out rfl VY ?_;rintro e_ w15 ⟨g,og,rfl,h4⟩;refine ⟨_,rfl, ?_⟩;replace hh:=hh.join h4;clear h4;simp only [Wb,V9] at hh;have hcs:g.cs=l.map eP:=by
  rw [og.cs];show (l.map fun z:Int=>(z:Dyadic)).map nR=_;rw [W5]
  rfl
 replace hh:=show Hp w (.row g.B g.m g.b 65 3 (az NR.cells g.cs)::.row g.A g.n g.a 3 1 (bC g.ds)::_) _ from hh;rw [hcs] at hh;have hgm:g.m=k:=by have:=(hh.aC (i:=0) rfl).bg NR.len VY;rw [Wh] at this;omega
 refine mT ?_;refine du ?_;refine du ?_;refine bQ hh ?_;intro b9 w9 hh;refine bR hh 0 [_,_] ?_;intro ws hh;replace hh:Hp _ (.blk _ _ [_,_] _::_) _:=hh;refine aI (aa (ah ?_));refine aT 7 [[(10,none)],[(18,some 0)],[(19,some 1)],[(9,none),(20,some 2)],[(21,some 3),(20,some 2)],[(3,none),(20,some 2)],[(23,some 5),(20,some 2)]] [(6,24),(5,23),(4,22),(3,21),(2,20),(1,19),(0,18)] hh mixed VZ ?_;refine cM ?_;refine sy ?_;refine jV ?_;refine dG (cP ?_);refine dG (dL 0 ?_);refine dG (dI ?_);refine aN (i:=6) (Rows k 3 (az NR.cells (l.map eP))) (Rows.ext) ?_ ?_
 ·intro ρ1 w1 hj hR;exact bz rfl (show ρ1 20=Value.bool _ from hR.2.1) (bh rfl (aP ar.out (av (show ρ1 23=Value.slice _ _ _ from hR.1) a6)) (hro w1 hj.hp.below) (fun _ _ ⟨B,c',hq,h3⟩=>⟨_,hq,h3.below,B,c',rfl,h3.aC (i:=0) rfl⟩))
 refine aJ ?_;intro f W hJ hV;have hb_2:=hJ.bl;obtain ⟨v24,v23,v22,v21,v20,v19,v18,_⟩:=hV;obtain ⟨A24,c24,e24,f24⟩:Rows _ _ _ (f 6) W:=v24;replace hh:=hJ.hp;refine aR (a8 (ae e24 (ae v23 (ae v22 (ae v21 (ae v20 (ae v19 (ae v18 aQ)))))))) ?_;dsimp only [bH];clear e24 hJ;have hsg:=hh.aC (i:=1) rfl;rw [hgm];rw [hgm] at hsg;refine aK rfl rfl ?_;refine br hh (kT g.B k g.b (l.map eP) A24 c24 _ hsg f24 VX) rfl ?_;intro w25 hh;refine eM ?_;exact vH
theorem wg (j:Nat):j % 2=0∧(-1:Dyadic)^j=1∨j % 2=1∧(-1:Dyadic)^j= -1:=by
 induction j with
 |zero=>exact .inl ⟨rfl,by grind⟩
 |succ n ih=>
  rcases ih with ⟨h,e⟩|⟨h,e⟩
  ·exact .inr ⟨VX,by grind⟩
  ·exact .inl ⟨VX,by grind⟩
theorem z9 {ns:List Nat}{i d:Nat} (h:ns[i]?=some d):ns.reverse=(ns.drop (i+1)).reverse++d::(ns.take i).reverse:=by
 exact SQ
theorem u9 (L:Option Addr) (n c d:Nat) (xs:List Dyadic) (k:Nat) (w:World) (hT:eK w) (hS:Sl w L n 3 (az NR.cells (xs.map nR))) (hn:n=d+1) (hd:d≤127) (hx:∀x∈xs,Sz k x) (hk:k≤500000):
  Calls Tryz.prog 116 #[.slice L n c] w fun r w'=>∃A c',r=.returned (.slice A n c')∧Hp w [.row A n c' 65 3 (az NR.cells ((kR d (eX d 1 (-1)) xs).map nR))] w':=by
 have hh:=Hp.start w;have hln:xs.length=n:=by have:=hS.bg NR.len VY;simpa using this
 have ha:Sz 1 1:=Sz.one;obtain ⟨ad,rfl,hr⟩:=hS.at_ VX;refine aj (N:=57) (l:=[.slice (some ad) n c]) Tryz.func116 rfl rfl (by simp) ?_;refine sr (aL (aa (sr (mL (aF ?_)))));refine dQ (aI (aa (sr (mI ?_))));refine a9 ?_;refine JT ?_;intro b14 w14 hh;refine rZ ?_;rw [nO,hn,←tj d 1 (-1) xs,←hn] at hh;refine aM [5,6,7,8,17,18,19,20,21,22,23,24,25,26,27,28,29,30,31,32,33,34,35,36,37,38,39,40,41,42,43,44,45,46,47,48,49,50,51,52,53,54,55] 17
  (fun v w'=>∃i:Nat,i≤n∧v=.int .i64 i∧Hp w [.row (some ⟨b14,0,none⟩) n n 65 3 (az NR.cells ((iS d 1 (-1) xs i 0).map nR))] w')
  (fun v _=>n-(intOf v).toNat) ?_ ?_
 ·exact ⟨0,V5 _,rfl,hh⟩
 ·clear hh;rintro ρ' v w' ⟨i,hi,rfl,hh⟩;by_cases hlt:i<n
  ·obtain ⟨x,hxi⟩:=ak (l:=xs) (k:=i) VX;have hxn:(xs.map nR)[i]?=some (nR x):=by rw [Wf,hxi];rfl
   have hat:jT xs i=x:=by unfold jT;rw [hxi];rfl
   have zx:=hx x (V7 hxi);have hch:=fun w1 hT1=>lr (d-i) w1 hT1 VX;refine sr ?_;refine eH ?_;refine bY ?_;refine IM ?_;refine bQ hh ?_;intro b6 w6 hh;refine aI ?_;refine bR hh 0 [_,_,_] ?_;intro ws hh;replace hh:Hp _ (.blk _ _ [_,_,_] _::_) _:=hh;refine aa (sr (mI (mI ?_)));refine dQ ?_;have e24:(n:Int)-1-(i:Int)=((d-i:Nat):Int):=VX;rw [←e24] at hch;refine aG (hch _ (hT.hp hh)) ar.out rfl VY ?_;rintro e_ w25 ⟨A25,c25,rfl,hown_,hb_⟩;refine ⟨_,rfl, ?_⟩;replace hh:=hh.aY (x:=.row _ _ _ _ _ _) hb_ hown_;refine aF (mI (aa (aq ?_)));replace hh:=hh.sub (V4 _ (V4 _ (V4 _ Wq)));refine aM [7,8,27,28,29,30,31,32,33,34,35,36,37,38,39,40,41,42,43,44,45,46,47,48,49,50,51,52,53,54] 27
    (fun v w'=>∃j:Nat,j≤d-i+1∧v=.int .i64 j∧Hp w [.row A25 (d-i+1) c25 65 3 (az NR.cells (lT (d-i))),.blk b6 65 [.bool (nR x).neg,.string (nR x).bf,.int .i64 (nR x).e] (0,0),.row (some ⟨b14,0,none⟩) n n 65 3 (az NR.cells ((iS d 1 (-1) xs i j).map nR))] w')
    (fun v _=>d-i+1-(intOf v).toNat) ?_ ?_
   ·exact ⟨0,V5 _,rfl,hh⟩
   ·clear hh;rintro ρ2 v w2 ⟨j,hj,rfl,hh⟩;by_cases hjn:j<d-i+1
    ·have hbn:(lT (d-i))[j]?=some (nR (nD (bin (d-i) j))):=kM VX;have zb:=rv (d-i) j VX;obtain ⟨o,ho⟩:=ak (l:=iS d 1 (-1) xs i j) (k:=i+j) (by rw [kt];omega);have hon:((iS d 1 (-1) xs i j).map nR)[i+j]?=some (nR o):=by rw [Wf,ho];rfl
     have zo:=Ex (j:=j) hx ha (show Sz 1 (-1:Dyadic) from Sz.one.neg) hd (show i≤d+1 by omega) o (V7 ho);have zy:=zx.mul zb;have hset:=Bm (a:=1) (b:= -1) (xs:=xs) (show i+j≤d by omega) ho;have hval:jT xs i*eX d 1 (-1) i (i+j)=x*(nD (bin (d-i) j)*(-1:Dyadic)^j):=by
      unfold eX;rw [hat,V3 VX,show i+j-i=j by omega,lz];generalize nD (bin (d-i) j)=u;generalize (-1:Dyadic)^j=e;grind
     rw [hval] at hset;have zu:Sz (130+1) (nD (bin (d-i) j)*(-1:Dyadic)^j):=by
      rcases wg j with e|e
      ·rw [e.2,Dyadic.mul_one];exact zb.mono VX
      ·rw [e.2,show nD (bin (d-i) j)*(-1:Dyadic)= - nD (bin (d-i) j) by grind];exact zb.neg.mono VX
     have zbo:(nR (nD (bin (d-i) j))).ok:=zb.ok VX;have hng:=fun w1 hT1=>pd (nR (nD (bin (d-i) j))) w1 hT1 (by have:=zbo.1;omega) (by have:=zbo.2.1;omega) (by have:=zbo.2.2;omega);rw [cm] at hng;have hsg:=wg j;have hll:((iS d 1 (-1) xs i j).map nR).length=n:=by rw [Wh,kt];omega
     generalize iS d 1 (-1) xs i j=S at*;obtain ⟨gw,rfl⟩:=hh.cu (i:=0) rfl VX;refine sr ?_;refine eH ?_;refine lW ?_;refine P7 ?_
     rcases hsg with ⟨h2,he⟩|⟨h2,he⟩
     ·refine bQ hh ?_;intro b8 w8 hh;refine aI ?_;refine bR hh 0 [_,_,_] ?_;intro ws hh;replace hh:Hp _ (.blk _ _ [_,_,_] _::_) _:=hh;refine aa (ah (sr (mI ?_)));refine J7 rfl rfl VY ?_;refine cB (aa (cF (ao (ai ?_))));rw [he,Dyadic.mul_one] at hset zu;generalize nD (bin (d-i) j)=u at*;exact Ol
     ·refine bQ hh ?_;intro b8 w8 hh;refine aI ?_;refine bR hh 0 [_,_,_] ?_;intro ws hh;replace hh:Hp _ (.blk _ _ [_,_,_] _::_) _:=hh;refine aa (ah (sr (mI ?_)));refine J7 rfl rfl VY ?_;refine cB (aa (cT (al ?_)));refine cn hh 0 [_,_,_] ?_;refine br hh (hng _ (hT.hp hh)) rfl ?_;intro w36 hh;rw [he,show nD (bin (d-i) j)*(-1:Dyadic)= - nD (bin (d-i) j) by grind] at hset zu;refine bR hh 0 [_,_,_] ?_;intro ws hh;replace hh:Hp _ (.blk _ _ [_,_,_] _::_) _:=hh;refine aa ?_;generalize-nD (bin (d-i) j)=u at*;exact Ol
    ·exact P6
  ·obtain rfl:i=n:=VX;rw [show iS d 1 (-1) xs i 0=kR d (eX d 1 (-1)) xs by rw [hn,wH]] at hh;exact RY
theorem UD (z:Int) (h:z.natAbs<256):Sz 24 (z:Dyadic):=JS (e:=0) h VY VY
def M6 (d:Nat) (xs:List Dyadic) (i:Nat):Dyadic:=jT xs (i+1)*(((i:Int)+1:Int):Dyadic)-jT xs i*(((d:Int)-(i:Int):Int):Dyadic)
def pW (d:Nat) (xs:List Dyadic):List Dyadic:=(List.range d).map (M6 d xs)
theorem z4 (d:Nat) (xs:List Dyadic):(pW d xs).length=d:=by simp [pW]
theorem LO {d i:Nat}{xs:List Dyadic} (h:i<d):(pW d xs)[i]?=some (M6 d xs i):=by
 unfold pW;rw [Wf,Xc h]
 rfl
theorem AO (L:Option Addr) (n c d:Nat) (xs:List Dyadic) (k:Nat) (w:World) (hT:eK w) (hS:Sl w L n 3 (az NR.cells (xs.map nR))) (hn:n=d+1) (hd:d≤127) (hx:∀x∈xs,Sz k x) (hk:k≤500000):
  Calls Tryz.prog 145 #[.slice L n c] w fun r w'=>∃A c',r=.returned (.slice A d c')∧Hp w [.row A d c' 65 3 (az NR.cells ((pW d xs).map nR))] w':=by
 have hh:=Hp.start w;have hln:xs.length=n:=by have:=hS.bg NR.len VY;simpa using this
 obtain ⟨ad,rfl,hr⟩:=hS.at_ VX;have hsl:=z4 d xs;refine aj (N:=41) (l:=[.slice (some ad) n c]) Tryz.func145 rfl rfl (by simp) ?_;refine sr (aL (aa (sr (mL (aF ?_)))));refine dQ (aI (aa (sr (aL (aa (ah (sr (mI (mI (aa (aq ?_)))))))))));replace hh:=hh.ck 65 3;refine bp [4,5,6,11,12,13,14,15,16,17,18,19,20,21,22,23,24,25,26,27,28,29,30,31,32,33,34,35,36,37,38,39] 4 11
  (fun a v w'=>∃(i:Nat) (A:Option Addr) (ac:Nat),i≤d∧v=.int .i64 i∧a=.slice A i ac∧Hp w [.row A i ac 65 3 (az NR.cells (((pW d xs).take i).map nR))] w')
  (fun _ v _=>d-(intOf v).toNat) ?_ ?_
 ·exact ⟨0,none,0,V5 _,rfl,rfl,hh⟩
 ·clear hh;rintro ρ' a_ v w' ⟨i,A,ac,hi,rfl,rfl,hh⟩;by_cases hlt:i<d
  ·obtain ⟨x,hxi⟩:=ak (l:=xs) (k:=i) VX;obtain ⟨y,hyi⟩:=ak (l:=xs) (k:=i+1) VX;have hxn:(xs.map nR)[i]?=some (nR x):=by rw [Wf,hxi];rfl
   have hyn:(xs.map nR)[i+1]?=some (nR y):=by rw [Wf,hyi];rfl
   have zx:=hx x (V7 hxi);have zy:=hx y (V7 hyi);have z1:=UD ((i:Int)+1) VX;have z2:=UD ((d:Int)-(i:Int)) VX;have hv:M6 d xs i=y*(((i:Int)+1:Int):Dyadic)-x*(((d:Int)-(i:Int):Int):Dyadic):=by
    unfold M6 jT;rw [hxi,hyi]
    rfl
   have hat:=LO (xs:=xs) hlt;rw [hv] at hat;have hof1:=fun w1 hT1=>lN ((i:Int)+1) w1 hT1 VX VX;have hof2:=fun w1 hT1=>lN ((d:Int)-(i:Int)) w1 hT1 VX VX;generalize (((i:Int)+1:Int):Dyadic)=e1 at*;generalize (((d:Int)-(i:Int):Int):Dyadic)=e2 at*;rw [show (d:Int)-(i:Int)=(n:Int)-1-(i:Int) by omega] at hof2;have zp:=zy.mul z1;have zq:=zx.mul z2;have hm1:=fun A cc w1 hT1 hS1=>fH A 2 cc [nR y,nR e1] w1 hT1 hS1 (by simpa using ⟨zy.ok VX,z1.ok VX⟩) 600000 (by simpa [cm] using ⟨zy.mono VX,z1.mono VX⟩) VX VX;rw [show iD ([nR y,nR e1].map NR.d)=y*e1 by simp only [Wv,WV,cm];show 1*y*_=_;rw [Ye]] at hm1;have hm2:=fun A cc w1 hT1 hS1=>fH A 2 cc [nR x,nR e2] w1 hT1 hS1 (by simpa using ⟨zx.ok VX,z2.ok VX⟩) 600000 (by simpa [cm] using ⟨zx.mono VX,z2.mono VX⟩) VX VX;rw [show iD ([nR x,nR e2].map NR.d)=x*e2 by simp only [Wv,WV,cm];show 1*x*_=_;rw [Ye]] at hm2;generalize y*e1=p at*;generalize x*e2=q at*
   have hsb:=fun w1 hT1=>mj (nR p) (nR q) w1 hT1 (zp.ok VX) (zq.ok VX) (k+24) (by rw [cm];exact zp) (by rw [cm];exact zq) VX;rw [cm,cm] at hsb;refine sr ?_;refine aW (aa (ah (cT (ao (ai (ah (aq (sr (mI (aI (aa (ah ?_))))))))))));refine aT 11 [[(0,none)],[(5,none)],[(15,some 1)],[(14,some 0),(16,some 2)],[(17,some 3)],[(5,none)],[(19,some 5)],[(20,some 6)],[(18,some 4),(21,some 7)],[(22,some 8)],[]] [(10,6),(9,23),(8,22),(7,21),(6,20),(5,19),(4,18),(3,17),(2,16),(1,15),(0,14)] hh mixed VZ ?_;refine dI ?_;refine cM ?_;refine qG ?_;refine bm (i:=3) (fun ρ1 w1 hj hR=>dv bj.out aO.size (show ρ1 14=Value.slice _ _ _ from hR.1) (show ρ1 16=Value.int _ _ from hR.2.1) VX VX) ?_;refine mJ [_,_,_] (fun _ hj=>(hr.ext hj.hp.below).recAt NR.len hyn) ?_;refine cM ?_;refine qG ?_;refine dC (fun _ hj=>hof1 _ (hT.hp hj.hp)) ?_;refine oB [_,_,_,_,_,_] ?_;refine aN (i:=9) (Is (.agg #[.bool (nR p).neg,.string (nR p).bf,.int .i64 (nR p).e])) Is.ext ?_ ?_
   ·intro ρ1 w1 hj hR;obtain ⟨A22,c22,h22,s22⟩:=hR.1;exact bh rfl (aP ar.out (av h22 a6)) (hm1 A22 c22 _ (hT.hp hj.hp) s22) (fun _ _ hq=>⟨_,hq.1,hq.2,rfl⟩)
   refine aN (i:=10) (cO _ 65 _) cO.ext (fun ρ1 w1 hj hR=>g8 aO.out hj.bl (fun v w2 h hb=>⟨hb,h⟩)) ?_;refine aJ ?_;intro f W hJ hV;have hb_6:=hJ.bl;obtain ⟨v6,v23,v22,v21,v20,v19,v18,v17,v16,v15,v14,_⟩:=hV;obtain ⟨A22,c22,e22,f22⟩:Rows _ _ _ (f 8) W:=v22;obtain ⟨b6,e6,hl6,hc6⟩:cO _ _ _ (f 10) W:=v6;replace hh:=hJ.newVar hh hl6 hc6;refine aR (a8 (ae e6 (ae v23 (ae e22 (ae v21 (ae v20 (ae v19 (ae v18 (ae v17 (ae v16 (ae v15 (ae v14 aQ)))))))))))) ?_;dsimp only [bH];clear e22 e6 hJ;refine bR hh 0 [_,_,_] ?_;intro ws hh;replace hh:Hp _ (.blk _ _ [_,_,_] _::_) _:=hh;refine aa ?_;refine aT 14 [[(4,none)],[(6,none)],[(0,none)],[(5,none)],[(26,some 2),(27,some 3)],[(28,some 4)],[(3,none)],[(5,none)],[(30,some 6),(31,some 7)],[(32,some 8)],[(29,some 5),(33,some 9)],[(34,some 10)],[(25,some 1),(35,some 11)],[(36,some 12)]] [(13,37),(12,36),(11,35),(10,34),(9,33),(8,32),(7,31),(6,30),(5,29),(4,28),(3,27),(2,26),(1,25),(0,24)] hh mixed VZ ?_;refine dI ?_;refine ee 0 [_,_,_] ?_;refine dI ?_;refine cM ?_
   refine bm (i:=4) (fun ρ1 w1 hj hR=>dv bj.out aO.size (show ρ1 26=Value.slice _ _ _ from hR.1) (show ρ1 27=Value.int _ _ from hR.2.1) VX VX) ?_;refine mJ [_,_,_] (fun _ hj=>(hr.ext hj.hp.below).recAt NR.len hxn) ?_;refine cM ?_;refine cM ?_;refine pE ?_;refine dC (fun _ hj=>hof2 _ (hT.hp hj.hp)) ?_;refine oB [_,_,_,_,_,_] ?_;refine aN (i:=11) (Is (.agg #[.bool (nR q).neg,.string (nR q).bf,.int .i64 (nR q).e])) Is.ext ?_ ?_
   ·intro ρ1 w1 hj hR;obtain ⟨A34,c34,h34,s34⟩:=hR.1;exact bh rfl (aP ar.out (av h34 a6)) (hm2 A34 c34 _ (hT.hp hj.hp) s34) (fun _ _ hq=>⟨_,hq.1,hq.2,rfl⟩)
   refine dC (fun _ hj=>hsb _ (hT.hp hj.hp)) ?_;refine oB [_,_,_] ?_;refine aJ ?_;intro f W hJ hV;have hb_7:=hJ.bl;obtain ⟨v37,v36,v35,v34,v33,v32,v31,v30,v29,v28,v27,v26,v25,v24,_⟩:=hV;obtain ⟨A34,c34,e34,f34⟩:Rows _ _ _ (f 10) W:=v34;obtain ⟨A37,c37,e37,f37⟩:Rows _ _ _ (f 13) W:=v37;replace hh:=hJ.hp;refine aR (a8 (ae e37 (ae v36 (ae v35 (ae e34 (ae v33 (ae v32 (ae v31 (ae v30 (ae v29 (ae v28 (ae v27 (ae v26 (ae v25 (ae v24 aQ))))))))))))))) ?_;dsimp only [bH];clear e34 e37 hJ;refine bK hh (i:=1) rfl rfl rfl (f37) bj.out aO.out rfl VY (by first|rfl|exact cQ _|exact cD _|exact a7 _|exact bu NR.one _) VX VX VY ?_;intro A38 c38 w38 hh;simp only [Wd,WH] at hh;refine lR ?_;refine a9 (mI (aA (ai ?_)));have e1:az NR.cells (((pW d xs).take i).map nR)++[.bool (nR (p-q)).neg,.string (nR (p-q)).bf,.int .i64 (nR (p-q)).e]=az NR.cells (((pW d xs).take (i+1)).map nR):=by rw [aw hat,WT,bG,Wv,WV,fR];rfl
   rw [e1] at hh;replace hh:=hh.sub (V6 _ (Xh _));refine ⟨⟨i+1,A38,c38,VX,rfl,rfl,hh⟩,by show d-(i+1)<d-i;omega, ?_⟩;exact dy
  ·obtain rfl:i=d:=VX;rw [Wa VX] at hh;exact RY
variable {cp:Operand}{kc kl:IntKind}
abbrev DQ:=HP
theorem DQ.ext {t:TypeId}{sz:Nat} (v:Value) (w w':World) (h:DQ base t n sz cs v w) (hb:Below w.heap.size w w'):DQ base t n sz cs v w':=HP.ext v w w' h hb
section
variable {P:Program}{ρ:Rf}{w:World}
theorem IG {d:Option Nat}{ty:TypeId}{af:Array Edge}{t e:TypeId}{l:Operand}{L C:Int}{sz:Nat} (hl:ev ρ l=.int kl L) (hc:ev ρ cp=.int kc C) (hL:L=(n:Int)) (hC:C=(n:Int))
  (ht:P.underlying t=some (.slice e)) (hte:di P e=some (sz,ag,by',zc)) (hzl:zc.length=sz) (hb:by'*n≤281474976710656) (h63:n≤9223372036854775807) (hbs:base≤w.heap.size)
  (hk:∀v w2,HP base e n sz (fa n zc) v w2→Below w.heap.size w w2→K v w2):OG P ops ⟨d,.makeSlice t l cp,ty,pos,af,none⟩ ρ w K:=by
 obtain ⟨i,z,dd,hi,hd,hz,hs,hby,hzc,_⟩:=dV hte;subst hL;subst hC;obtain ⟨w',hr,hown,hg⟩:=run_make_full (P:=P) w base t e i z sz ht hi hz hs kl kc n (by rw [hby];exact hb) (by unfold maxLen;omega) hbs;have hzz:(madeCells z.cells (n*sz)).toList=fa n zc:=by
  exact QI
 rw [hzz] at hown;exact eI rfl (w':=w') (v:=.slice (some ⟨w.heap.size,0,none⟩) n n) (by simp [execOp,hl,hc,hr]) (hk _ _ ⟨_,_,rfl,hown⟩ ⟨hg.os,hg.tape,hg.output,hg.size,fun j hj=>hg.block j hj (by simp)⟩)
end
def px (q:Nat→Bool) (xs:List Dyadic) (i:Nat):List Dyadic:=((List.range i).filter q).map fun p=>(xs[p]?).getD 0
theorem Hj (q:Nat→Bool) (xs:List Dyadic) (i:Nat):px q xs (i+1)=px q xs i++if q i=true then [(xs[i]?).getD 0] else []:=by
 unfold px;rw [YZ,Yc,WT];congr 1;by_cases h:q i=true
 ·rw [V2 h,List.filter_cons_of_pos h];rfl
 ·rw [V3 h,Zk h];rfl
theorem Bv (q:Nat→Bool) (xs:List Dyadic) (i:Nat):(px q xs i).length≤i:=by
 unfold px;rw [Wh];exact Wz (Zj _ _) (by rw [YH];exact V8 _)
def qe (ap d:Nat) (p:Nat):Bool:=decide (p/ap % (d+1)<d)
def DE (ns:List Nat) (a:Nat):List Nat:=ns.set a (ns.getD a 0-1)
def CV (ns:List Nat) (a:Nat) (xs:List Dyadic):List Dyadic:=if ns.getD a 0=0 then List.replicate xs.length 0 else px (qe (ay (ns.drop (a+1))) (ns.getD a 0)) (jq (ns.drop (a+1)).reverse (ns.getD a 0) (ns.getD a 0) (pW (ns.getD a 0)) xs xs.length 0) xs.length
set_option maxRecDepth 10000 in
theorem yE (fx:FX) (ax:Int) (k:Nat) (w:World) (hT:eK w) (hf:fx.at_ w) (hl:fx.jX k) (hcap:fx.n≤fx.a) (hk:k≤500000):
  Calls Tryz.prog 55 #[.agg #[.slice fx.A fx.n fx.a,.slice fx.B fx.m fx.b],.int .i64 ax] w fun r w'=>∃g:FX,Out (nk fx ax) (DE fx.ns ax.toNat) (CV fx.ns ax.toNat (fx.cs.map NR.d)) g∧r=.returned (.tuple #[.agg #[.slice g.A g.n g.a,.slice g.B g.m g.b],.int .i64 (nk fx ax)])∧Hp w [g.vD,g.uC] w':=by
 have hh:=Hp.start w;have hhas:=fun w1 hT1 hb=>Ea fx ax k w1 hT1 (hf.ext hb) hl;by_cases hE:nk fx ax≠0
 ·refine aj (N:=78) (l:=[.agg #[.slice fx.A fx.n fx.a,.slice fx.B fx.m fx.b],.int .i64 ax]) Tryz.func55 rfl rfl (by simp) ?_;refine sr ?_;refine cf hh [_,_] ?_;intro b2 w2 hh;refine bQ hh ?_;intro b4 w4 hh;refine aI (aa (ah (sr ?_)));refine cn hh 1 [_,_] (mI ?_);refine br hh (hhas _ (hT.hp hh) hh.below) rfl ?_;intro w13 hh;exact Sp
 ·have hE:nk fx ax=0:=VX;obtain ⟨h0,hx0,hx1⟩:=Hh hE;obtain ⟨a,rfl⟩:∃a:Nat,ax=a:=⟨ax.toNat,VX⟩;rw [hE] at hhas ⊢;rw [Xs];obtain ⟨hdeg,hnum,h12,hlow,hcnt,hmax⟩:=FX.fv h0;have hln:=hf.ln.1;have hlm:=hf.ln.2;have hnl:fx.ns.length=fx.n:=by unfold FX.ns;rw [Wh];exact hln
  obtain ⟨d,hd⟩:=ak (l:=fx.ns) (k:=a) VX;have hd127:=hlow d (V7 hd);have hgd0:fx.ns.getD a 0=d:=by rw [Xw,hd];rfl
  have hgd:(bC fx.ds)[a]?=some (.int .i64 (d:Int)):=by rw [hdeg];exact cw (ig hd)
  obtain ⟨ad0,hAD,sD⟩:=hf.dg.at_ VX;have tQ:Value.slice fx.A fx.n fx.a=.slice (some ad0) fx.n fx.a:=by rw [hAD]
  by_cases zG:d=0
  ·subst zG;have hcl:=fun w1 hb=>l5 fx.A fx.n fx.a fx.ds w1 (hf.dg.ext hb) VX;have hDN:bU (DE fx.ns a)=fx.ds:=by
    unfold DE;rw [hgd0,uD hd,hdeg]
   have hDX:CV fx.ns a (fx.cs.map NR.d)=List.replicate fx.m 0:=by
    unfold CV;rw [V2 hgd0,Wh,hlm]
   refine aj (N:=78) (l:=[.agg #[.slice fx.A fx.n fx.a,.slice fx.B fx.m fx.b],.int .i64 a]) Tryz.func55 rfl rfl (by simp) ?_;refine sr ?_;refine cf hh [_,_] ?_;intro b2 w2 hh;refine bQ hh ?_;intro b4 w4 hh;refine aI (aa (ah (sr ?_)));refine cn hh 1 [_,_] (mI ?_);refine br hh (hhas _ (hT.hp hh) hh.below) rfl ?_;intro w13 hh;refine aI (aa (sr (mI ?_)));refine cJ (aa (cF (ao (ai (ah (sr (bE ?_)))))));refine bB hh 1 ?_;refine mI ?_;refine dp (k:=a) bj.out aO.size tQ rfl VX VX VY ?_;refine bX aO.out rfl ((sD.ext hh.below).su hgd) VY ?_;refine cB (aa (cT (ah ?_)));refine aT 7 [[(2,none)],[(24,some 0)],[(25,some 1)],[(2,none)],[(27,some 3)],[(28,some 4)],[(29,some 5)]] [(6,30),(5,29),(4,28),(3,27),(2,26),(1,25),(0,24)] hh mixed VZ ?_;refine cP ?_;refine dL 1 ?_;refine aN (i:=2) (DQ hh.sz 3 fx.n 1 (bC fx.ds)) (DQ.ext) ?_ ?_
   ·intro ρ1 w1 hj hR;exact bh rfl (aP ar.out (av (show ρ1 25=Value.slice _ _ _ from hR.1) a6)) (hcl w1 hj.hp.below) (fun _ _ ⟨A,c,hq,ho,hb⟩=>⟨_,hq,hb,A,c,rfl,pq ho hj.bl.size⟩)
   refine cP ?_;refine dL 1 ?_;refine rE ?_;refine aN (i:=6) (DQ hh.sz 65 fx.m 3 (az NR.cells ((List.replicate fx.m (0:Dyadic)).map nR))) (DQ.ext) ?_ ?_
   ·intro ρ1 w1 hj hR;exact nO fx.m ▸ IG (n:=fx.m) (show ρ1 29=Value.int _ _ from hR.1) (show ρ1 29=Value.int _ _ from hR.1) rfl rfl bj.out aO.out rfl VX VX hj.bl.size (fun _ _ h1 h2=>⟨h2,h1⟩)
   refine aJ ?_;intro f W hJ hV;have hb_5:=hJ.bl;obtain ⟨v30,v29,v28,v27,v26,v25,v24,_⟩:=hV;obtain ⟨A26,c26,e26,o26⟩:=v26;obtain ⟨A30,c30,e30,o30⟩:=v30;replace hh:=JJ.MH hJ hh o26 o30 VY;clear o26 o30;refine aR (a8 (ae e30 (ae v29 (ae v28 (ae v27 (ae e26 (ae v25 (ae v24 aQ)))))))) ?_;dsimp only [bH];clear e26 e30 hJ;refine eV [_,_] ?_;refine bR hh 2 [_,_] ?_;intro ws hh;replace hh:Hp _ (_::_::.blk _ _ [_,_] _::_) _:=hh;refine aI (aa (au (aE ?_)));replace hh:=hh.sub (V4 _ (V4 _ (V4 _ (V6 _ Wq))));replace hh:=hh.perm (WO (l₁:=[_]));simp only [Wb,V9] at hh;refine mE ?_;exact ⟨⟨A26,fx.n,c26,A30,fx.m,c30,fx.ds,(List.replicate fx.m (0:Dyadic)).map nR⟩,⟨hDN.symm,by rw [hDX];rfl,by show fx.n≤100000;omega,by show fx.m≤1000000;omega⟩,rfl,hh.sub (V4 _ (V4 _ (WN _)))⟩
  ·have hdg:Sl w fx.A fx.n 1 (bC (bU fx.ns)):=by rw [←hdeg];exact hf.dg
   have hof:=fun w1 hb=>mr fx.A fx.n fx.a a d fx.ns w1 (hdg.ext hb) hcap VX hd hlow hmax;have hcl:=fun w1 hb=>l5 fx.A fx.n fx.a fx.ds w1 (hf.dg.ext hb) VX;have hDN:bU (DE fx.ns a)=fx.ds.set a ((d:Int)-1):=by
    unfold DE;rw [hgd0]
    conv=>rhs;rw [hdeg]
    unfold bU;rw [YI,show ((d-1:Nat):Int)=(d:Int)-1 by omega]
   obtain ⟨X,hX⟩:∃X,X=fx.cs.map NR.d:=⟨_,rfl⟩;rw [←hX] at hnum ⊢;have hXl:X.length=fx.m:=by rw [hX,Wh];exact hlm
   have hXz:∀x∈X,Sz k x:=fun x h=>by
    rw [hX] at h;obtain ⟨z,hz,rfl⟩:=Wn.1 h;exact (hl.num z hz).2
   have hDX:CV fx.ns a X=px (qe (ay (fx.ns.drop (a+1))) d) (jq (fx.ns.drop (a+1)).reverse d d (pW d) X fx.m 0) fx.m:=by
    unfold CV;rw [hgd0,V3 zG,hXl]
   have hsp:fx.m=ay ((fx.ns.drop (a+1)).reverse++d::(fx.ns.take a).reverse):=by
    rw [←z9 hd,db];exact hlm.symm.trans hcnt
   have hSX:Sl w fx.B fx.m 3 (az NR.cells (X.map nR)):=by rw [←hnum];exact hf.nm
   have hli:=fun w1 hT1 hb=>m7 145 (fx.ns.drop (a+1)).reverse (fx.ns.take a).reverse d d (pW d) fx.B fx.m fx.b k X w1 hT1 (hSX.ext hb) hsp VX VX hd127 hXz (fun Y E ec w2 hT2 hy hs=>AO E (d+1) ec d Y k w2 hT2 hs rfl hd127 hy hk) (fun Y _=>z4 d Y);rw [db] at hli;have hap:=cU (fx.ns.drop (a+1));have hap2:ay (fx.ns.drop (a+1))≤4096:=by
    have h3:ay fx.ns=ay (fx.ns.take (a+1))*ay (fx.ns.drop (a+1)):=by rw [←ep,W4]
    have:=Nat.le_mul_of_pos_left (ay (fx.ns.drop (a+1))) (cU (fx.ns.take (a+1)));omega
   rw [hDX];have hYl:(jq (fx.ns.drop (a+1)).reverse d d (pW d) X fx.m 0).length=fx.m:=by rw [g9,hXl]
   generalize jq (fx.ns.drop (a+1)).reverse d d (pW d) X fx.m 0=Y at*;generalize ay (fx.ns.drop (a+1))=ap at*;refine aj (N:=78) (l:=[.agg #[.slice fx.A fx.n fx.a,.slice fx.B fx.m fx.b],.int .i64 a]) Tryz.func55 rfl rfl (by simp) ?_;refine sr ?_;refine cf hh [_,_] ?_;intro b2 w2 hh;refine bQ hh ?_;intro b4 w4 hh;refine aI (aa (ah (sr ?_)));refine cn hh 1 [_,_] (mI ?_);refine br hh (hhas _ (hT.hp hh) hh.below) rfl ?_;intro w13 hh;refine aI (aa (sr (mI ?_)));refine cJ (aa (cF (ao (ai (ah (sr (bE ?_)))))));refine bB hh 1 ?_;refine mI ?_;refine dp (k:=a) bj.out aO.size tQ rfl VX VX VY ?_;refine bX aO.out rfl ((sD.ext hh.below).su hgd) VY ?_;refine cB (aa (cF (ao (ai (sr (bE ?_))))));refine bB hh 1 ?_;refine mI ?_;refine br hh (hof _ hh.below) rfl ?_;intro w35 hh;refine bQ hh ?_;intro b7 w7 hh;refine bR hh 0 [_,_] ?_;intro ws hh;replace hh:Hp _ (.blk _ _ [_,_] _::_) _:=hh;refine aa (sr (bE ?_));refine bB hh 2 ?_;refine aG (hcl _ hh.below) ar.out rfl VY ?_;rintro e_ w38 ⟨A38,c38,rfl,hown_,hb_⟩;refine ⟨_,rfl, ?_⟩;replace hh:=hh.aY (x:=.row _ _ _ _ _ _) hb_ hown_;obtain ⟨gd,rfl⟩:=hh.cu (i:=0) rfl VX;have hil:=bV fx.ds
   have hm0:0<fx.m:=by have:=cU fx.ns;omega
   refine eV [_,_] ?_;refine bQ hh ?_;intro b8 w8 hh;refine bR hh 0 [_,_] ?_;intro ws hh;replace hh:Hp _ (.blk _ _ [_,_] _::_) _:=hh;refine aa (sr (bE ?_));refine bB hh 0 ?_;refine mI ?_;refine cX (k:=a) bj.out aO.size rfl rfl VX VX VY ?_;refine Jo ?_;refine dQ ?_;refine cX (k:=a) bj.out aO.size rfl rfl VX VX VY ?_;refine cd hh (i:=1) (vs:=[_]) rfl rfl (cR rfl) rfl aO.out rfl VX rfl ?_;intro ws hh;simp only [Wd,WH] at hh;rw [rT _ VX] at hh;refine aa (ah (sr ?_));refine cn hh 2 [_,_] (bE ?_);refine bB hh 4 ?_;refine aG (hli _ (hT.hp hh) hh.below) ar.out rfl VY ?_;rintro e_ w50 ⟨E,ec,rfl,h4⟩;refine ⟨_,rfl, ?_⟩;replace hh:=hh.join h4;clear h4;simp only [Wb,V9] at hh;obtain ⟨gn,rfl⟩:=hh.cu (i:=0) rfl VX;refine aF (mI (aa (aq ?_)));replace hh:=hh.ck 65 3;refine aM [9,10,52,53,54,55,56,57,58,59,60,61,62,63,64,65,66,67,68,69,70,71,72,73,74,75,76] 52
    (fun v w'=>∃(i c1:Nat) (B:Option Addr),i≤fx.m∧v=.int .i64 i∧Hp w [.row B (px (qe ap d) Y i).length c1 65 3 (az NR.cells ((px (qe ap d) Y i).map nR)),.row (some ⟨gn,0,none⟩) fx.m ec 65 3 (az NR.cells (Y.map nR)),.blk b8 39 [.slice (some ⟨gd,0,none⟩) fx.n c38,.slice B (px (qe ap d) Y i).length c1] (0,0),.row (some ⟨gd,0,none⟩) fx.n c38 3 1 (bC (fx.ds.set a ((d:Int)-1))),.blk b7 119 [.int .i64 ((d:Int)+1),.int .i64 (ap:Int)] (0,0),.blk b4 39 [.slice none 0 0,.slice none 0 0] (0,0),.blk b2 39 [.slice fx.A fx.n fx.a,.slice fx.B fx.m fx.b] (0,0)] w')
    (fun v _=>fx.m-(intOf v).toNat) ?_ ?_
   ·exact ⟨0,0,none,V5 _,rfl,hh⟩
   ·clear hh;rintro ρ' v w' ⟨i,c1,B,hi,rfl,hh⟩;by_cases hlt:i<fx.m
    ·obtain ⟨x,hx⟩:=ak (l:=Y) (k:=i) VX;have hxn:(Y.map nR)[i]?=some (nR x):=by rw [Wf,hx];rfl
     have hxd:(Y[i]?).getD 0=x:=by rw [hx];rfl
     have hcast:((i:Int)/(ap:Int)) % ((d:Int)+1)=((i/ap % (d+1):Nat):Int):=by norm_cast
     have hq0:(0:Int)≤(i:Int)/(ap:Int):=Int.ediv_nonneg VX VX;have hst:=Hj (qe ap d) Y i;rw [hxd] at hst;have hfl:=Bv (qe ap d) Y i;have hrl:=fw NR.len (Y.map nR);have hYl2:(Y.map nR).length=fx.m:=by rw [Wh];exact hYl
     have hQ:qe ap d i=decide (i/ap % (d+1)<d):=rfl;generalize hF:px (qe ap d) Y i=F at*;by_cases hdg2:i/ap % (d+1)<d
     ·rw [hQ,Wm hdg2,V2 rfl] at hst;refine sr ?_;refine eH ?_;refine gh ?_;refine PG ?_;refine bQ hh ?_;intro b10 w10 hh;refine aI ?_;refine bR hh 0 [_,_,_] ?_;intro ws hh;replace hh:Hp _ (.blk _ _ [_,_,_] _::_) _:=hh;refine aa (ah ?_);refine OI ?_;refine cM ?_;refine cP ?_;refine dL 5 ?_;refine P2 ?_;refine cP ?_;refine dL 5 ?_;refine OM ?_;refine cP ?_;refine dL 7 ?_;refine cM ?_;refine aN (i:=10) (Is (.pointer (some (ad0.add (a*1))))) (Is.ext) ?_ ?_
      ·exact SY
      refine mO (fun _ hj=>(sD.ext hj.hp.below).su hgd) ?_;refine aJ ?_;intro f W hJ hV;have hb_12:=hJ.bl;obtain ⟨v68,v67,v66,v65,v64,v63,v62,v61,v60,v59,v58,v57,_⟩:=hV;replace hh:=hJ.hp;refine OW ?_;dsimp only [bH];clear hJ;refine aW (aa (cT (al (bE ?_))));refine bB hh 3 ?_;refine cn hh 0 [_,_,_] ?_;refine qK ?_;intro b73 w73 hh;refine OT ?_;intro A74 c74 w74 hh;simp only [Wd,WH] at hh;replace hh:=hh.sub (WE _ _);refine bE ?_;refine bR hh 3 [_] ?_;intro ws hh;replace hh:Hp _ (_::_::_::.blk _ _ [_,_] _::_) _:=hh;refine gy ?_;refine a9 (mI (aA (ai ?_)));replace hh:=hh.sub (V6 _ (V4 _ (V4 _ (V4 _ (V4 _ (V4 _ (V4 _ (V4 _ Wq))))))));refine ⟨⟨i+1,c74,A74,VX,rfl, ?_⟩,by show fx.m-(i+1)<fx.m-i;omega, ?_⟩
      ·rw [hst,Wc,WT,bG];exact hh
      ·exact dy
     ·rw [hQ,Wu hdg2,V3 VY,WG] at hst;refine sr ?_;refine eH ?_;refine gh ?_;refine PG ?_;refine bQ hh ?_;intro b10 w10 hh;refine aI ?_;refine bR hh 0 [_,_,_] ?_;intro ws hh;replace hh:Hp _ (.blk _ _ [_,_,_] _::_) _:=hh;refine aa (ah ?_);refine OI ?_;refine cM ?_;refine cP ?_;refine dL 5 ?_;refine P2 ?_;refine cP ?_;refine dL 5 ?_;refine OM ?_;refine cP ?_;refine dL 7 ?_;refine cM ?_;refine aN (i:=10) (Is (.pointer (some (ad0.add (a*1))))) (Is.ext) ?_ ?_
      ·exact SY
      refine mO (fun _ hj=>(sD.ext hj.hp.below).su hgd) ?_;refine aJ ?_;intro f W hJ hV;have hb_12:=hJ.bl;obtain ⟨v68,v67,v66,v65,v64,v63,v62,v61,v60,v59,v58,v57,_⟩:=hV;replace hh:=hJ.hp;refine OW ?_;dsimp only [bH];clear hJ;refine aW (aa (cF (ao (bF (ai (al ?_))))));refine a9 (mI (aA (ai ?_)));replace hh:=hh.sub (V6 _ (V4 _ (V4 _ (V4 _ (V4 _ (V4 _ (V4 _ (V4 _ Wq))))))));refine ⟨⟨i+1,c1,B,VX,rfl,by rw [hst];exact hh⟩,by show fx.m-(i+1)<fx.m-i;omega, ?_⟩;exact dy
    ·obtain rfl:i=fx.m:=VX;refine sr ?_;refine mY ?_;refine cn hh 2 [_,_] ?_;refine bR hh 5 [_,_] ?_;intro ws hh;replace hh:Hp _ (_::_::_::_::_::.blk _ _ [_,_] _::_) _:=hh;refine aI (aa (au ?_));replace hh:=hh.sub (V4 _ (V6 _ (V6 _ (V4 _ (V6 _ (V4 _ (V6 _ Wq)))))));refine mE ?_;refine ⟨⟨some ⟨gd,0,none⟩,fx.n,c38,B,(px (qe ap d) Y fx.m).length,c1,fx.ds.set a ((d:Int)-1),(px (qe ap d) Y fx.m).map nR⟩,⟨hDN.symm,rfl,by show fx.n≤100000;omega, ?_⟩,rfl,hh.sub (Yo [_,_] _)⟩;have:=Bv (qe ap d) Y fx.m;show (px (qe ap d) Y fx.m).length≤1000000;omega
def G8 (ds:List Nat) (X:List Dyadic):Nat→List Dyadic
 |0=>X
 |k+1=>iu ds (ds.length-1-k) (eX (ds.getD (ds.length-1-k) 0) 1 (-1)) (G8 ds X k)
theorem Bz (ds:List Nat) (X:List Dyadic) (k:Nat):G8 ds X (k+1)=iu ds (ds.length-1-k) (eX (ds.getD (ds.length-1-k) 0) 1 (-1)) (G8 ds X k):=rfl
theorem Mr {X:List Dyadic} (h:X.length=ay ds) (k:Nat):(G8 ds X k).length=ay ds:=by
 cases k with
 |zero=>exact h
 |succ k=>rw [Bz,pC]
theorem Hw {a d:Nat}{X:List Dyadic} (hx:∀x∈X,Sz k x) (hd:ds.getD a 0=d) (hd7:d≤127):∀x∈iu ds a (eX d 1 (-1)) X,Sz (k+520) x:=fun x h=>by
 obtain ⟨p,_,rfl⟩:=Wn.1 h;have hr:(dq ds p).getD a 0≤d:=by rw [←hd];exact uT a (l3 ds p)
 have h2:=Ch (l:=List.range (ds.getD a 0+1)) (f:=fun i=>co ds X ((dq ds p).set a i)*eX d 1 (-1) i ((dq ds p).getD a 0)) (k:=k+(130+2*(1*d))) fun i _=>by
  refine Sz.mul ?_ (yZ Sz.one (show Sz 1 (-1:Dyadic) from Sz.one.neg) hd7 hr);exact Po
 rw [YH,hd] at h2;rw [hd];exact h2.mono VX
theorem K8 {ds:List Nat}{X:List Dyadic}{k:Nat} (h:∀x∈X,Sz k x) (hd:∀d∈ds,d≤127):∀i,∀x∈G8 ds X i,Sz (k+520*i) x
 |0=>h
 |i+1=>fun x hx=>(Hw (K8 h hd i) rfl (Bl hd _) x hx).mono VX
def Cw (b:List SR) (i:Nat):Dyadic:=match b[i]? with|some s=>s.H-s.L|none=>0
def wP (b:List SR) (ns es:List Nat):Nat→Dyadic
 |0=>1
 |i+1=>wP b ns es i*Cw b i^(ns.getD i 0-es.getD i 0)
def j5 (ns:List Nat) (p:Nat):List Nat:=(dq ns.reverse p).reverse
def QV (b:List SR) (ns:List Nat) (C:List Dyadic) (p:Nat):TR:=⟨fX (bU (j5 ns p)),nR (jT C p*wP b ns (j5 ns p) b.length)⟩
def mK (b:List SR) (ns:List Nat) (C:List Dyadic):List TR:=(List.range (ay ns)).map (QV b ns C)
def uw (v i:Nat) (s:SR):List TR:=aH (lK v i++j4 v (-s.L))
def mD (b:List SR):List PX:=b.mapIdx fun i s=>⟨b.length,none,0,0,uw b.length i s⟩
theorem tR {b:List SR}{i:Nat}{s:SR} (h:b[i]?=some s):(mD b)[i]?=some ⟨b.length,none,0,0,uw b.length i s⟩:=by
 unfold mD;rw [List.getElem?_mapIdx,h]
 rfl
theorem HV (b:List SR):(mD b).length=b.length:=by unfold mD;rw [List.length_mapIdx]
theorem Aa {v i:Nat}{s:SR} (h:v≤12) (hs:s.fin k) (hk:k≤100000):kI (v:Int) (k+10) (uw v i s)∧(uw v i s).length≤2:=by
 have h1:=qO (i:=i) h;have h2:=pK h (SR.L7 hs).neg VX;have hl:(lK v i++j4 v (-s.L)).length≤2:=by
  rw [Wc];have a1:(lK v i).length≤1:=cq _;have a2:(j4 v (-s.L)).length≤1:=cq _;omega
 have hm:∀{P:TR→Prop},(∀t∈lK v i,P t)→(∀t∈j4 v (-s.L),P t)→∀t∈lK v i++j4 v (-s.L),P t:=fun a b t ht=>(WI.1 ht).elim (a t) (b t);refine ⟨(kx (k:=k+4) (n:=2) (jC h) (hm (cK h1.e).2.2.1 (cK h2.e).2.2.1) (hm (h1.ok.mono VX) (h2.ok.mono VX)) (hm h1.sz h2.sz) hl VY VX).mono VX,Wz (cq _) hl⟩
theorem Nc {r:List Nat} (h:∀d∈r,d≤255):dz (fX (bU r))=r:=by
 unfold dz fX bU;rw [dT,W5,W5];refine (XZ fun d hd=> ?_).trans (List.map_id r);have:=h d hd;show (pw (d:Int)).toNat=d;obtain ⟨c,hc,e⟩:=OL (l:=[d]) (i:=0) rfl this;unfold fX bU at hc;rw [dT] at hc;rw [show pw (d:Int)=c from WZ hc];exact e
theorem EC {ns:List Nat} (p:Nat):nU ns.reverse (j5 ns p).reverse:=by unfold j5;rw [YD];exact l3 _ _
theorem mU (ns:List Nat) (p:Nat):(j5 ns p).length=ns.length:=by
 have:=zd (EC (ns:=ns) p);rwa [W3,W3] at this
theorem yD {ns:List Nat}{p i d r:Nat} (hd:ns[i]?=some d) (hr:(j5 ns p)[i]?=some r):r≤d:=by
 have h1:=(Wi.1 hd).1;have h2:=mU ns p;refine ((mu _ _).1 (EC (ns:=ns) p)).2 (ns.length-1-i) d r ?_ ?_
 ·rw [XE VX,show ns.length-1-(ns.length-1-i)=i by omega];exact hd
 ·rw [XE VX,show (j5 ns p).length-1-(ns.length-1-i)=i by omega];exact hr
theorem B6 {ns:List Nat}{B p:Nat} (h:∀d∈ns,d≤B):∀r∈j5 ns p,r≤B:=fun r hr=>by
 obtain ⟨i,hi⟩:=Xr.1 hr;have h1:=(Wi.1 hi).1;rw [mU] at h1;obtain ⟨d,hd⟩:=ak (l:=ns) (k:=i) h1;exact Wz (yD hd hi) (h d (V7 hd))
theorem yj {ns:List Nat}{p:Nat} (h:∀d∈ns,d≤127):dz (fX (bU (j5 ns p)))=j5 ns p:=Nc fun r hr=>Wz (B6 h r hr) VY
theorem BN (b:List SR) (ns:List Nat) (C:List Dyadic):(mK b ns C).length=ay ns:=by simp [mK]
theorem Mw {b:List SR}{ns:List Nat}{C:List Dyadic}{p:Nat} (h:p<ay ns):(mK b ns C)[p]?=some (QV b ns C p):=by
 unfold mK;rw [Wf,Xc h]
 rfl
theorem Iw {b:List SR}{ns es:List Nat}{k:Nat} (hb:∀s∈b,s.fin k):∀i,i≤ns.length→Sz (1+i+(k+1)*(ns.take i).sum) (wP b ns es i)
 |0,_=>Sz.one.mono VX
 |i+1,hi=>by
  have h1:=Iw (es:=es) (ns:=ns) hb i VX;obtain ⟨d,hd⟩:=ak (l:=ns) (k:=i) hi;have hg:ns.getD i 0=d:=by rw [Xw,hd];rfl
  have hw:Sz (k+1) (Cw b i):=by
   unfold Cw
   cases h:b[i]? with
   |none=>exact Sz.zero _
   |some s=>exact ((SR.R8 (hb s (V7 h))).sub (SR.L7 (hb s (V7 h)))).mono VX
  have h2:=hw.AQ (show ns.getD i 0-es.getD i 0≤d by omega);have h3:=h1.mul h2;rw [aw hd,List.sum_append,List.sum_singleton,W0];exact h3.mono VX
theorem QM {b:List SR}{ns:List Nat}{C:List Dyadic}{K:Nat} (hb:∀s∈b,s.fin k) (hbl:b.length=ns.length) (hC:∀x∈C,Sz K x) (hlow:∀d∈ns,d≤127) (hN:ns.length≤100000) (hK:K+(1+ns.length+(k+1)*ns.sum)≤2999000):jc (K+(1+ns.length+(k+1)*ns.sum)) (mK b ns C)∧(∀t∈mK b ns C,gg (ns.length:Int) t=true)∧(∀t∈mK b ns C,t.m.size≤100000∧∃p,dz t.m=j5 ns p):=by
 refine ⟨fun t ht=> ?_,fun t ht=> ?_,fun t ht=> ?_⟩
 ·obtain ⟨p,hp,rfl⟩:=Wn.1 ht;have h1:=Iw (ns:=ns) (es:=j5 ns p) hb ns.length (V8 _);rw [YV] at h1;have h2:=(yu hC p).mul h1;show (nR (jT C p*wP b ns (j5 ns p) b.length)).ok∧Sz _ (nR (jT C p*wP b ns (j5 ns p) b.length)).d;rw [hbl,cm];exact ⟨h2.ok VX,h2⟩
 ·obtain ⟨p,hp,rfl⟩:=Wn.1 ht;have h1:=yj (p:=p) hlow;have h2:(fX (bU (j5 ns p))).size=ns.length:=by rw [←lM,h1,mU]
  unfold gg;rw [Wl,Wt];refine ⟨?_,by show ((fX (bU (j5 ns p))).size:Int)=_;rw [h2]⟩;unfold ef;rw [Ww];intro c hc;have:c.toNat∈dz (fX (bU (j5 ns p))):=Wn.2 ⟨c,hc,rfl⟩;rw [h1] at this;exact Wm (by have:=B6 hlow c.toNat this;omega)
 ·obtain ⟨p,hp,rfl⟩:=Wn.1 ht;have h1:=yj (p:=p) hlow;have h2:(fX (bU (j5 ns p))).size=ns.length:=by rw [←lM,h1,mU]
  exact ⟨by show (fX (bU (j5 ns p))).size≤100000;omega,p,h1⟩
theorem Jl {b:List SR}{ns:List Nat}{C:List Dyadic} (h12:ns.length≤12) (hm:∀t∈mK b ns C,gg (ns.length:Int) t=true) (hc:ay ns≤4096):qB (ns.length:Int) (mK b ns C)=0:=by
 have hl:=BN b ns C;unfold qB;rw [V3,V3 VX,ku VX];rintro (h|h)
 ·rw [jC h12] at h;cases h
 ·obtain ⟨t,ht,h2⟩:=XR.1 h;rw [hm t ht] at h2
  cases h2
theorem G5 {b:List SR}{os:List PX}{R:List HE}{kb:Nat} (hcp:rG ((mD b).map fun g=>⟨g.v,none,g.ts.length,0,g.ts⟩) os R) (hol:os.length=b.length) (h12:b.length≤12) (hb:∀s∈b,s.fin kb) (hkb:kb≤1000):∀o∈os,o.jX (kb+10)∧o.ts.length≤2:=fun o ho=>by
 obtain ⟨j,hj⟩:=Xr.1 ho;have hjn:j<os.length:=(Wi.1 hj).1;obtain ⟨s,hs⟩:=ak (l:=b) (k:=j) VX;obtain ⟨po,pl⟩:=Aa (v:=b.length) (i:=j) h12 (hb s (V7 hs)) VX;have hx:=tR hs;generalize uw b.length j s=Q at hx po pl;exact Sk
end Go.Proofs.YteeckcbbnegmcaaGreatDoor
