/- Lemmas for ratioTrue, part 7. -/
import Derived.OrdersIn
import Derived.Test.YtmchncaiffbpaaaGreatDoorZ6
set_option maxHeartbeats 0
namespace Go.Proofs.YtmchncaiffbpaaaGreatDoor
variable {E:Int}{W w w0 w1:World}{base:Nat}{ts:List TR}
open Go.RowKit
theorem JJ.Qx {H L:List HE} (hJ:JJ w0 H w W) (hs:Hp w0 H w) (hb:w.heap.size≤w1.heap.size) (hL:Hp w1 L W):Hp w0 (L++H) W:=
 hs.join (⟨hJ.bl,fun x hx=>oa (hL.own x hx) hb,hL.nd⟩:Hp w L W)
def si (base:Nat) (E v:Int) (ts:List TR):VP:=nL base E v ts
theorem si.ext {v:Int} (x:Value) (w w':World) (h:si base E v ts x w) (hb:Below w.heap.size w w'):si base E v ts x w':=nL.ext x w w' h hb
theorem Ea (v:Int):aA [⟨eZ v,nR 0⟩]=[]:=by
 unfold aA jy qZ
 rfl
theorem Hs (lA:Option Addr) (lc K T c0:Nat) (v:Int) (ls:List PX) (hv:jG v=true) (hlc:ls.length≤lc) (hl12:ls.length≤12) (hls:∀g∈ls,kv v K g.ts∧g.v=v∧g.jz K∧g.ts.length≤T) (hc0:K+4096*T+8192≤c0) (hc1:c0≤440000):
  ∀(qs:List PX) (j:Nat) (p:List TR) (A:Option Addr) (n c:Nat) (ds:List Nat) (k:Nat) (w:World),ls.drop j=qs→j≤ls.length→dq w→Sl w lA ls.length 2 (ar PX.cells ls)→(∀g∈ls,g.at_ w)→Sl w A n 4 (ar TR.cells p)→n≤c→I5 ls.length j p→iO k p→n≤4096→ds.length=qs.length→(∀(i d:Nat),ds[i]?=some d→d≤127∧∀t∈p,iJ (j+i) t≤d)→fH c0 ds (k+1)≤440000→
  Calls Tryz.prog 227 #[.slice A n c,.int .i64 j,.slice lA ls.length lc,.int .i64 v] w fun r w'=>∃g:PX,iy (fP v (qs.map PX.ts) j p).1 v (fP v (qs.map PX.ts) j p).2 g∧r=.returned (.tuple #[.agg #[.int .i64 g.v,.slice g.A g.n g.c],.int .i64 (fP v (qs.map PX.ts) j p).1])∧Hp w [g.row] w':=by
 intro qs;have hK:K≤440000:=abq;have hco:Dj v=0:=abw (by rw [hv];decide)
 induction qs with
 |nil=>
  intro j p A n c ds k w hq hj hT hL hat hS hnc hsr hok hn hds hD hB;have hh:=Hp.start w;have hln:=hS.aX TR.len abr;obtain rfl:j=ls.length:=by
   have:=acm List.length hq;rw [acJ] at this;simp only [aer] at this;omega
  obtain rfl:ds=[]:=aeu.1 hds;rw [tF] at hB;have hcn:=fun c hc w1 hT1=>nS v c k w1 hT1 hc abq;rw [hco] at hcn
  cases p with
  |nil=>
   obtain rfl:n=0:=by simpa using hln.symm
   show Calls _ _ _ _ fun r w'=>∃g:PX,iy 0 v (aA [⟨eZ v,nR 0⟩]) g∧r=.returned (.tuple #[.agg #[.int .i64 g.v,.slice g.A g.n g.c],.int .i64 0])∧Hp w [g.row] w';refine ae (N:=118) (l:=[.slice A 0 c,.int .i64 ls.length,.slice lA ls.length lc,.int .i64 v]) Tryz.func227 rfl rfl (by simp) ?_;refine bT ?_;intro b8 w8 hh;refine au (hcn (nR 0) ⟨(Sz.zero k).ok abq,by rw [a6];exact Sz.zero k⟩ _ (hT.hp hh)) ak.out rfl abr ?_;rintro e_ w25 ⟨g,og,rfl,h3⟩;exact NS
  |cons t p=>
   have hn1:p.length+1=n:=by simpa using hln
   have ht:=hok t abF;obtain ⟨ad,rfl,hr⟩:=hS.at_ abq;show Calls _ _ _ _ fun r w'=>∃g:PX,iy 0 v (aA [⟨eZ v,t.c⟩]) g∧r=.returned (.tuple #[.agg #[.int .i64 g.v,.slice g.A g.n g.c],.int .i64 0])∧Hp w [g.row] w';refine ae (N:=118) (l:=[.slice (some ad) n c,.int .i64 ls.length,.slice lA ls.length lc,.int .i64 v]) Tryz.func227 rfl rfl (by simp) ?_;refine bT ?_;intro b8 w8 hh;refine bF (vs:=[_,_,_]) az.out rfl (((hr.ext hh.below).recAt TR.len (show (t::p)[0]?=some t from rfl)).drop 1) rfl abr ?_;refine au (hcn t.c ht _ (hT.hp hh)) ak.out rfl abr ?_;rintro e_ w33 ⟨g,og,rfl,h3⟩;exact NS
 |cons q qs ih=>
  intro j p A n c ds k w hq hj hT hL hat hS hnc hsr hok hn hds hD hB;have hh:=Hp.start w;have hln:=hS.aX TR.len abr
  cases ds with
  |nil=>cases hds
  |cons d ds=>
   have hd:=hD 0 d rfl;have hjl:j<ls.length:=by
    rcases acj j ls.length with h|h
    ·exact h
    ·rw [adH h] at hq;cases hq
   have hqj:ls[j]?=some q:=by rw [←List.head?_drop,hq];rfl
   have hqs:ls.drop (j+1)=qs:=by rw [←List.tail_drop,hq];rfl
   obtain ⟨hqk,hqv,hql,hqT⟩:=hls q (abz hqj);rw [qD] at hB;have hB1:fH c0 ds (k+1)≤440000:=abq;have hmono:=hsr.mono abq;rw [ab8];show Calls _ _ _ _ fun r w'=>∃g:PX,iy (bE q.ts (fP v (qs.map PX.ts) (j+1)) p j 128).1 v (bE q.ts (fP v (qs.map PX.ts) (j+1)) p j 128).2 g∧r=.returned (.tuple #[.agg #[.int .i64 g.v,.slice g.A g.n g.c],.int .i64 (bE q.ts (fP v (qs.map PX.ts) (j+1)) p j 128).1])∧Hp w [g.row] w';have hDs:∀n (i e:Nat),ds[i]?=some e→e≤127∧∀t∈bz p j n,iJ (j+1+i) t≤e:=fun n i e he=>by
    exact Xt
   have hrec:∀(m fr en:Nat) (w1:World),dq w1→Below w.heap.size w w1→fr≤en→en≤n→bz p j m=(p.drop fr).take (en-fr)→Calls Tryz.prog 227 #[.slice (if c=fr then A else A.map (·.add (fr*4))) (en-fr) (c-fr),.int .i64 ((j:Int)+1),.slice lA ls.length lc,.int .i64 v] w1 fun r w'=>∃g:PX,iy (fP v (qs.map PX.ts) (j+1) (bz p j m)).1 v (fP v (qs.map PX.ts) (j+1) (bz p j m)).2 g∧r=.returned (.tuple #[.agg #[.int .i64 g.v,.slice g.A g.n g.c],.int .i64 (fP v (qs.map PX.ts) (j+1) (bz p j m)).1])∧Hp w1 [g.row] w':=fun m fr en w1 hT1 hb h1 h2 hw=>by
    have hcut:=(hS.ext hb).cut h1 h2 hnc;rw [jj TR.len,j6 TR.len,←hw] at hcut;exact ih (j+1) (bz p j m) _ (en-fr) (c-fr) ds k w1 hqs abq hT1 (hL.ext hb) (fun g hg=>(hat g hg).ext hb) hcut abq (hsr.with abq) (fun t ht=>hok t (lE t ht)) abq (by simpa using hds) (hDs m) hB1
   have hsub:∀m,(fP v (qs.map PX.ts) (j+1) (bz p j m)).1=0→kv v (fH c0 ds (k+1)) (fP v (qs.map PX.ts) (j+1) (bz p j m)).2:=fun m hm=>by
    refine I6 hv hc0 (qs.map PX.ts) (j+1) (bz p j m) ds k (fun r hr=> ?_) (fun t ht=>hok t (lE t ht)) (by rw [abH];simpa using hds) (hDs m) abq hm;obtain ⟨g,hg,rfl⟩:=abL.1 hr;have:=hls g (afb (by rw [hqs];exact hg));exact ⟨this.1,this.2.2.2⟩
   generalize fP v (qs.map PX.ts) (j+1)=sub at hrec hsub ⊢;have hlim:=wY (sub:=sub) (p:=p) (j:=j) hv hqk hqT hd.2 hd.1 hsub hc0 abq;have hlim2:∀i,i≤128→(bE q.ts sub p j i).1=0→kv v 440000 (bE q.ts sub p j i).2:=fun i hi h0=>(hlim i hi h0).mono (by
    have:(i+d-128)*c0≤d*c0:=acx _ abq;omega)
   have hcn:=fun w1 hT1=>nS v (nR 0) 0 w1 hT1 ⟨(Sz.zero 0).ok abr,by rw [a6];exact Sz.zero 0⟩ abr;rw [hco,Ea] at hcn;refine ae (N:=118) (l:=[.slice A n c,.int .i64 j,.slice lA ls.length lc,.int .i64 v]) Tryz.func227 rfl rfl (by simp) ?_;refine bT ?_;intro b8 w8 hh;refine au (hcn _ (hT.hp hh)) ak.out rfl abr ?_;rintro e_ w39 ⟨g,og,rfl,h3⟩;refine ⟨_,rfl, ?_⟩;replace hh:=hh.join h3;simp only [abE,abC] at hh;refine bX ?_;intro b10 w10 hh ws hh;refine yf [11,12,13,14,15,44,45,46,47,48,49,50,51,52,53,54,55,56,57,58,59,60,61,62,63,64,65,66,67,68,69,70,71,72,73,74,75,76,77,78,79,80,81,82,83,84,85,86,87,88,89,90,91,92,93,94,95,96,97,98,99,100,101,102,103,104,105,106,107,108,109,110,111,112] 11 12 13
    (fun e en nv w'=>∃(i en_:Nat) (e_ ov:Int) (oA:Option Addr) (on oc:Nat) (os:List TR),i≤128∧nv=.int .i64 (127-(i:Int))∧en=.int .i64 en_∧e=.int .i64 e_∧e_=(bE q.ts sub p j i).1∧en_≤n∧(e_=0→ov=v∧os=(bE q.ts sub p j i).2∧(∀t∈p.take en_,iJ j t<128-i)∧(∀t∈p.drop en_,128-i≤iJ j t))∧Hp w [.blk b10 52 [.int .i64 ov,.slice oA on oc] (0,0),.row oA on oc 95 4 (ar TR.cells os),.blk b8 52 [.int .i64 0,.slice none 0 0] (0,0)] w')
    (fun _ _ nv _=>(intOf nv+1).toNat) ?_ ?_
   ·refine ⟨0,n,0,g.v,g.A,g.n,g.c,g.ts,abB _,rfl,rfl,rfl,rfl,abD _,fun _=>⟨og.v,og.ts,fun t ht=> ?_,fun t ht=> ?_⟩,hh⟩
    ·obtain ⟨x,_,hx,h8⟩:=hsr.get abq (adx ht);rw [hx];exact h8
    ·rw [adH abq] at ht
     cases ht
   ·clear hh og h3;rintro ρ' e_ en_ nv_ w' ⟨i,en,e,ov,oA,on,oc,os,hi,rfl,rfl,rfl,he,hen,hok0,hh⟩;by_cases hcn:i<128∧e=0
    ·obtain ⟨hi8,rfl⟩:=hcn;obtain ⟨rfl,rfl,hlo,hhi⟩:=hok0 rfl;clear hok0;obtain ⟨m,hm⟩:∃m,m=127-i:=⟨_,rfl⟩;rw [show (127-(i:Int))=(m:Int) by omega];refine aj ?_;refine xm zL4 14
      (fun f w'=>∃fr:Nat,fr≤en∧f=.int .i64 fr∧bz p j m=(p.drop fr).take (en-fr)∧(∀t∈p.take fr,iJ j t<m)∧Hp w [.blk b10 52 [.int .i64 ov,.slice oA on oc] (0,0),.row oA on oc 95 4 (ar TR.cells (bE q.ts sub p j i).2),.blk b8 52 [.int .i64 0,.slice none 0 0] (0,0)] w') ?_ ?_
     ·refine aH zL4 14
       (fun f w'=>∃fr:Nat,fr≤en∧f=.int .i64 fr∧(∀t∈(p.drop fr).take (en-fr),iJ j t=m)∧Hp w [.blk b10 52 [.int .i64 ov,.slice oA on oc] (0,0),.row oA on oc 95 4 (ar TR.cells (bE q.ts sub p j i).2),.blk b8 52 [.int .i64 0,.slice none 0 0] (0,0)] w')
       (fun f _=>(intOf f).toNat) ?_ ?_
      ·exact ⟨en,abD _,rfl,(fun t ht=>by rw [acs] at ht;cases ht),hh⟩
      ·clear hh;rintro ρ' f w' ⟨fr,hfr,rfl,hmid,hh⟩;by_cases h0:0<fr
       ·obtain ⟨fr,rfl⟩:∃g,fr=g+1:=⟨fr-1,abq⟩;obtain ⟨x,hx⟩:=ai (l:=p) (k:=fr) abq;obtain ⟨ad,rfl,hr⟩:=hS.at_ abq;obtain ⟨e,hex,hxe,h8⟩:=hsr.get abq (abz hx);by_cases hem:e.toNat=m
        ·refine bO (sr (mI ?_));refine B8 (mB (gT (mL (gT (mI (gT ?_))))));refine qy (gT ?_);refine du (k:=fr) bq.out az.size rfl rfl abq abq abr ?_;refine gT ?_;refine nt eG.out rfl abr ?_;refine mg rfl rfl ?_;refine EV ?_;refine aj ?_;refine ⟨⟨fr,abq,by show Value.int .i64 (((fr+1:Nat):Int)-1)=_;congr 1;omega,fun t ht=> ?_,hh⟩,by show (((fr+1:Nat):Int)-1).toNat<((fr+1:Nat):Int).toNat;omega, ?_⟩
         ·rw [gk hx,show en-fr=(en-(fr+1))+1 by omega,aee] at ht
          rcases abO.1 ht with rfl|ht
          ·rw [hxe,hem]
          ·exact hmid t ht
         ·exact dI
        ·have hlt:e.toNat<m:=by
          have:=hlo x (by rw [show en=(fr+1)+(en-(fr+1)) by omega,List.take_add];exact adf _ (by rw [al hx];exact acI _ abF));omega
         have hall:=Le hmono hx (n:=m) (by rw [hxe];exact hlt);refine bO (sr (mI ?_));refine B8 (mB (gT (mL (gT (mI (gT ?_))))));refine qy (gT ?_);refine du (k:=fr) bq.out az.size rfl rfl abq abq abr ?_;refine gT ?_;refine nt eG.out rfl abr ?_;refine mg rfl rfl ?_;refine EV ?_;refine aj ?_;refine ⟨⟨fr+1,hfr,rfl,EN hfr hall hmid (fun t ht=>by have:=hhi t ht;omega),hall,hh⟩, ?_⟩;exact dI
       ·obtain rfl:fr=0:=abq;refine aj ?_;refine ⟨⟨0,hfr,rfl,EN hfr (fun t ht=>by cases ht) hmid (fun t ht=>by have:=hhi t ht;omega),(fun t ht=>by cases ht),hh⟩, ?_⟩;exact dI
     ·skip;clear hh;rintro ρ' f w' ⟨fr,hfr,rfl,hwi,hbl,hh⟩;have hnx:bE q.ts sub p j (i+1)=jB q.ts sub p j m (bE q.ts sub p j i):=by rw [lv,hm]
      have hop:=hlim2 i abq he.symm;unfold jB at hnx;rw [abw (by rw [←he];decide)] at hnx;have hmi:m=128-(i+1):=abq;have hmi2:(127-((i+1:Nat):Int))=(m:Int)-1:=abq;have hdf:∀t∈p.drop fr,m≤iJ j t:=fun t ht=>by
       rw [NU hfr] at ht
       rcases acq.1 ht with ht|ht
       ·rw [←hwi] at ht;have:=ads (acX.1 ht).2;omega
       ·have:=hhi t ht;omega
      have hst:(bE q.ts sub p j i)=(0,(bE q.ts sub p j i).2):=by rw [he]
      generalize (bE q.ts sub p j i).2=os at*;have hoc:on≤oc:=hh.gN (i:=1) rfl;have hon:os.length=on:=(hh.ao (i:=1) rfl).aX TR.len abr;have hwl:(bz p j m).length=en-fr:=by rw [hwi,abP,acJ];omega
      by_cases hsk:os.length=0∧(bz p j m).length=0
      ·rw [abx hsk] at hnx;obtain ⟨h1,h2⟩:=hsk;obtain rfl:on=0:=abq;obtain rfl:fr=en:=abq;refine aj ?_;refine ⟨⟨i+1,fr,0,ov,oA,0,oc,os,abq,by rw [hmi2];rfl,rfl,rfl,by rw [hnx];exact he,hen,fun _=>⟨rfl,by rw [hnx,hst],fun t ht=>by rw [←hmi];exact hbl t ht,fun t ht=>by rw [←hmi];exact hdf t ht⟩,hh⟩,by show ((m:Int)-1+1).toNat<((m:Int)+1).toNat;omega, ?_⟩;exact dI
      ·rw [abw hsk] at hnx;refine pI [70,71,72,73,74,75,76,77,78]
        (fun w'=>Hp w [.blk b10 52 [.int .i64 ov,.slice oA on oc] (0,0),.row oA on oc 95 4 (ar TR.cells os),.blk b8 52 [.int .i64 0,.slice none 0 0] (0,0)] w') ?_ ?_
       ·by_cases h0:on=0
        ·subst h0;have hne:fr≠en:=fun h=>hsk ⟨hon,abq⟩;refine aj ?_;refine ⟨hh, ?_⟩;exact Rs
        ·refine aj ?_;refine ⟨hh, ?_⟩;exact Rs
       ·skip;clear hh;rintro ρ' w' hh;obtain ⟨lad,rfl,hlr⟩:=hL.at_ abq;have hlp:ic [⟨ov,oA,on,oc,os⟩,q]=0:=xK hop.e (by unfold PX.e;rw [hqv];exact hqk.e) hqv;have hmu:∀(A2:Option Addr) (w1:World),dq w1→Sl w1 A2 2 2 (ar PX.cells [⟨ov,oA,on,oc,os⟩,q])→Sl w1 oA on 4 (ar TR.cells os)→Below w.heap.size w w1→Calls Tryz.prog 248 #[.slice A2 2 2] w1 fun r w'=>∃g:PX,iy (gH os q.ts) ov (aA (cj os q.ts)) g∧r=.returned (.tuple #[.agg #[.int .i64 g.v,.slice g.A g.n g.c],.int .i64 (gH os q.ts)])∧Hp w1 [g.row] w':=fun A2 w1 hT1 s1 s2 hb=>by
         have h1:=Cv A2 2 2 [⟨ov,oA,on,oc,os⟩,q] 440000 505536 w1 hT1 s1 abr abr (fun g hg=>by
          rcases abO.1 hg with rfl|hg
          ·exact s2
          ·rw [abX.1 hg];exact (hat q (abz hqj)).ext hb) (fun g hg=>by
          rcases abO.1 hg with rfl|hg
          ·exact ⟨by have:=hop.len;show on≤1000000;omega,hoc,hop.ok,hop.sz⟩
          ·rw [abX.1 hg];exact ⟨hql.n,hql.cap,hql.ok.mono hK,hql.sz⟩) abr abr
         unfold Iu at h1;rw [abx hlp] at h1;exact h1
        refine bT ?_;intro b15 w15 hh;refine db [] [9] [0,0,0,6,14,31,63,127,255,255,511,2047] 10 [[(10,none)],[(2,none)],[(1,none)],[(81,some 1),(82,some 2)],[(83,some 3)],[(80,some 0),(84,some 4)],[(85,some 5)],[(86,some 6)],[(79,some 7)],[(79,some 7)]] [(9,88),(8,87),(7,79),(6,86),(5,85),(4,84),(3,83),(2,82),(1,81),(0,80)] hh mixed abt dx rfl (by repeat (first|exact bV|refine bD ?_|refine bU ?_)) ?_;refine da 1 [_,_] ?_;refine fO ?_;refine dp ?_;refine mU (j) ?_;refine p9 [_,_] (fun _ hj=>(hlr.ext hj.hp.below).recAt PX.len hqj) ?_;refine aW (i:=5) (ma 2 2 (ar PX.cells [⟨ov,oA,on,oc,os⟩,q])) (ma.ext) ?_ ?_
        ·intro ρ1 w1 hj hR;exact mj (sz:=2) bq.out az.out (show Cm ρ1 [(0,.tmp 80),(1,.tmp 84)]=[(0,.agg #[.int .i64 ov,.slice oA on oc]),(1,.agg #[.int .i64 q.v,.slice q.A q.n q.c])] from bC (show ρ1 80=_ from hR.1) (bC (show ρ1 84=_ from hR.2.1) dk)) rfl rfl abr abr rfl fun v w2 h hb=>⟨hb,h⟩
        refine aW (i:=6) (oH hh.sz (gH os q.ts) ov (aA (cj os q.ts))) (oH.ext) ?_ ?_
        ·intro ρ1 w1 hj hR;obtain ⟨g85,e85,o85⟩:=hR.1;exact let ⟨b,e1,s1⟩:=hR.1;bp rfl (aR ak.out (aq e1 aY)) (hmu _ w1 (hT.hp hj.hp) s1 (hj.hp.ao (i:=2) rfl) hj.hp.below) (fun _ _ ⟨g,og,hq,h3⟩=>⟨_,hq,h3.below,g,w1,rfl,og,hj.bl.size,h3⟩)
        refine aW (i:=7) (oH hh.sz (gH os q.ts) ov (aA (cj os q.ts))) (oH.ext) ?_ ?_
        ·exact O7
        refine aW (i:=8) (si hh.sz (gH os q.ts) ov (aA (cj os q.ts))) (si.ext) ?_ ?_
        ·exact XC
        refine aW (i:=9) (Is (.int .i64 (gH os q.ts))) (Is.ext) ?_ ?_
        ·exact Uw
        refine av ?_;intro f W hJ hV _;have hb_15:=hJ.bl;obtain ⟨v88,v87,v79,v86,v85,v84,v83,v82,v81,v80,_⟩:=hV;obtain ⟨g85,e85,o85⟩:ma 2 2 (ar PX.cells [⟨ov,oA,on,oc,os⟩,q]) (f 5) W:=v85;obtain ⟨g86,u86,e86, -⟩:=v86;obtain ⟨g79,u79,e79, -⟩:=v79;obtain ⟨g87,u87,e87,o87,q87,h87⟩:=v87;replace hh:=JJ.Qx hJ hh q87 h87;refine ay (aQ (aa v88 (aa e87 (aa e79 (aa e86 (aa e85 (aa v84 (aa v83 (aa v82 (aa v81 (aa v80 aw))))))))))) ?_;dsimp only [bA];clear e85 e86 e79 e87 hJ;simp only [abE,abC] at hh;obtain ⟨gv,gA,gn,gc,gts⟩:=g87;replace hh:=show Hp w (.row gA gn gc 95 4 (ar TR.cells gts)::_) W from hh;by_cases hte:gH os q.ts=0
        ·rw [abw (by rw [hte];decide)] at hnx;rw [hte] at o87;obtain rfl:ov=gv:=o87.v.symm;obtain rfl:aA (cj os q.ts)=gts:=o87.ts.symm;have hgc:gn≤gc:=hh.gN (i:=0) rfl;have hgl:(aA (cj os q.ts)).length=gn:=(hh.ao (i:=0) rfl).aX TR.len abr;have hgo:=IX hop hqk hqT hte abq;refine gE hh 2 [_,_] ?_;intro ws hh;replace hh:Hp _ (_::_::.blk _ _ [_,_] _::_) _:=hh;refine aI (aJ (sr (mI ?_)));refine SJ (aJ (cT (bR (mL (mI (mI ?_))))));dsimp only at hh;refine aM rfl rfl abr (jf (lo:=some (.tmp 93)) (hi:=some (.tmp 94)) (l:=fr) (h:=en) bq.out az.size rfl ⟨_,_,rfl,rfl⟩ ⟨_,_,rfl,rfl⟩ hfr abq) ?_;refine aj ?_;refine au (hrec m fr en _ (hT.hp hh) hh.below hfr hen hwi) ak.out rfl abr ?_;rintro e_ w100 ⟨g2,og2,rfl,h4⟩;refine ⟨_,rfl, ?_⟩;replace hh:=hh.join h4;simp only [abE,abC] at hh;have hs2:=hsub m;obtain ⟨hv2,hA2,hn2,hc2,ht2⟩:=g2;replace hh:=show Hp w (.row hA2 hn2 hc2 95 4 (ar TR.cells ht2)::_) _ from hh;by_cases hE2:(sub (bz p j m)).1=0
         ·rw [abw (by rw [hE2];decide)] at hnx;rw [hE2] at og2;obtain rfl:ov=hv2:=og2.v.symm;obtain rfl:(sub (bz p j m)).2=ht2:=og2.ts.symm;have ho2:=hs2 hE2;have hc2c:hn2≤hc2:=hh.gN (i:=0) rfl;have hl2:((sub (bz p j m)).2).length=hn2:=(hh.ao (i:=0) rfl).aX TR.len abr;generalize (sub (bz p j m)).2=us at*;refine mT ?_;refine vk ?_;refine vk ?_;refine gE hh 2 [_,_] ?_;intro ws hh;replace hh:Hp _ (_::_::.blk _ _ [_,_] _::_) _:=hh;refine aI (aJ (bO (sr (mI ?_))));refine SJ (aJ (cT (bR ?_)));refine m9 hh 3 [_,_] ?_;refine m9 hh 2 [_,_] ?_;refine zO ?_;intro b108 w108 hh;dsimp only at hh;have hlp2:ic [⟨ov,gA,gn,gc,aA (cj os q.ts)⟩,⟨ov,hA2,hn2,hc2,us⟩]=0:=xK hgo.e ho2.e rfl;have had:=xa (some ⟨b108,0,none⟩) 2 2 [⟨ov,gA,gn,gc,aA (cj os q.ts)⟩,⟨ov,hA2,hn2,hc2,us⟩] 2000000 _ (hT.hp hh) (hh.ao (i:=0) rfl) abr (fun g hg=>by
           rcases abO.1 hg with rfl|hg
           ·exact hh.ao (i:=2) rfl
           ·rw [abX.1 hg];exact hh.ao (i:=1) rfl) (fun g hg=>by
           rcases abO.1 hg with rfl|hg
           ·exact ⟨by have:=hgo.len;show gn≤1000000;omega,hgc,hgo.ok.mono abq,hgo.sz⟩
           ·rw [abX.1 hg];exact ⟨by have:=ho2.len;show hn2≤1000000;omega,hc2c,ho2.ok.mono abq,ho2.sz⟩) abr
          unfold Om at had;rw [abx hlp2,Tk] at had;dsimp only at had;refine au (had) ak.out rfl abr ?_;rintro e_ w109 ⟨g3,og3,rfl,h5⟩;refine ⟨_,rfl, ?_⟩;replace hh:=hh.join h5;simp only [abE,abC] at hh;obtain ⟨hv3,hA3,hn3,hc3,ht3⟩:=g3;replace hh:=show Hp w (.row hA3 hn3 hc3 95 4 (ar TR.cells ht3)::_) _ from hh;refine bT ?_;intro ws hh;replace hh:=hh.sub (aby _ (abA _ (abA _ (abA _ (abA _ (aby _ (abA _ (aby _ abV))))))));replace hh:=hh.perm (acf (l₁:=[_]));simp only [abE,abC] at hh;try dsimp only at hh
          refine ⟨⟨i+1,fr,gZ (aA (cj os q.ts)++us),hv3,hA3,hn3,hc3,ht3,abq,by rw [hmi2];rfl,rfl,rfl, ?_,abq,fun h=>⟨?_, ?_,fun t ht=>by rw [←hmi];exact hbl t ht,fun t ht=>by rw [←hmi];exact hdf t ht⟩,hh⟩,by show ((m:Int)-1+1).toNat<((m:Int)+1).toNat;omega, ?_⟩
          ·rw [hnx];by_cases hg:gZ (aA (cj os q.ts)++us)≠0
           ·rw [abx hg]
           ·rw [abw hg];omega
          ·have:=og3.v;rw [abx h] at this;exact this
          ·rw [hnx,abw (by rw [h];decide)];have:=og3.ts;rw [abx h] at this;exact this
          ·exact dI
         ·rw [abx hE2] at hnx;refine bT ?_;intro ws hh;replace hh:=hh.sub (abA _ (aby _ (abA _ (aby _ (abA _ (aby _ abV))))));replace hh:=hh.perm (acf (l₁:=[_]));simp only [abE,abC] at hh;refine ⟨⟨i+1,fr,_,ov,gA,gn,gc,aA (cj os q.ts),abq,by rw [hmi2];rfl,rfl,rfl,by rw [hnx],abq,fun h=>absurd h hE2,hh⟩,by show ((m:Int)-1+1).toNat<((m:Int)+1).toNat;omega, ?_⟩;exact dI
        ·rw [abx hte] at hnx;refine bT ?_;intro ws hh;replace hh:=hh.sub (aby _ (abA _ (aby _ (abA _ (aby _ abV)))));replace hh:=hh.perm (acf (l₁:=[_]));simp only [abE,abC] at hh;refine ⟨⟨i+1,fr,gH os q.ts,gv,gA,gn,gc,gts,abq,by rw [hmi2];rfl,rfl,rfl,by rw [hnx],abq,fun h=>absurd h hte,hh⟩,by show ((m:Int)-1+1).toNat<((m:Int)+1).toNat;omega, ?_⟩;exact dI
    ·have hfin:bE q.ts sub p j 128=bE q.ts sub p j i:=by
      by_cases h8:i=128
      ·rw [h8]
      ·exact kX abq hi
     rw [hfin];by_cases he0:e=0
     ·subst he0;obtain ⟨rfl,rfl, -, -⟩:=hok0 rfl;clear hok0 hfin;generalize bE q.ts sub p j i=X at*;obtain rfl:i=128:=abq;rw [←he];refine bT ?_;intro ws hh;refine qg ?_;exact ⟨⟨ov,oA,on,oc,_⟩,⟨rfl,rfl⟩,rfl,hh.sub (.cons _ (aby _ (acA _)))⟩
     ·rw [←he];clear hok0 hfin;generalize bE q.ts sub p j i=X at*;by_cases h8:i=128
      ·subst h8;exact Wz
      ·exact Wz
def cU (p:PX) (ls:List PX):Int×List TR:=
 if p.e≠0 then (p.e,[]) else if (ls.length:Int)≠p.v then (1,[]) else if ls.length≠0∧ic ls≠0 then (ic ls,[]) else fP (ir ls) (ls.map PX.ts) 0 p.ts
theorem Gr (f:PX) (p:Addr) (x:Int) (w:World) (hp:w.cell? p=some (.int .i64 x)):
  Calls Tryz.prog 226 #[.agg #[.int .i64 f.v,.slice f.A f.n f.c],.pointer (some p)] w fun r w'=>r=.returned (.bool (decide (f.v≠x)))∧Below w.heap.size w w':=by
 have hh:=Hp.start w;by_cases hg:f.v=x
 ·refine ae (N:=8) (l:=[.agg #[.int .i64 f.v,.slice f.A f.n f.c],.pointer (some p)]) Tryz.func226 rfl rfl (by simp) ?_;refine bT ?_;intro b2 w2 hh;refine zR ?_;exact Ny
 ·refine ae (N:=8) (l:=[.agg #[.int .i64 f.v,.slice f.A f.n f.c],.pointer (some p)]) Tryz.func226 rfl rfl (by simp) ?_;refine bT ?_;intro b2 w2 hh;refine zR ?_;exact OK
structure ZV (p:PX) (ls:List PX) (k K T c0:Nat) (ds:List Nat):Prop where
 len:ds.length=ls.length
 ZA:∀(i d:Nat),ds[i]?=some d→d≤127∧∀t∈p.ts,iJ i t≤d
 grow:fH c0 ds (k+1)≤440000
 step:K+4096*T+8192≤c0
 top:c0≤440000
 jz:∀g∈ls,g.jz K
 RZ:∀g∈ls,g.ts.length≤T
theorem Dr {v:Int} (h:jR v ts=0):I5 v 0 ts:=by
 obtain ⟨_,_,h3,h4⟩:=cv h;exact ⟨h4.ua,h3,fun a _ b _=>by rw [adh,adh]⟩
theorem B9 (p:PX) (lA:Option Addr) (lc:Nat) (ls:List PX) (k K T c0:Nat) (ds:List Nat) (w:World) (hT:dq w) (hp:p.at_ w) (lp:p.jz k) (hL:Sl w lA ls.length 2 (ar PX.cells ls)) (hat:∀g∈ls,g.at_ w) (hlc:ls.length≤lc) (hf:ZV p ls k K T c0 ds):
  Calls Tryz.prog 193 #[.agg #[.int .i64 p.v,.slice p.A p.n p.c],.slice lA ls.length lc] w fun r w'=>∃g:PX,iy (cU p ls).1 (ir ls) (cU p ls).2 g∧r=.returned (.tuple #[.agg #[.int .i64 g.v,.slice g.A g.n g.c],.int .i64 (cU p ls).1])∧Hp w [g.row] w':=by
 have hh:=Hp.start w;have hck:=fun w1 hT1 hb=>nJ p k w1 hT1 (hp.ext hb) lp;unfold cU;by_cases h0:p.e≠0
 ·rw [abx h0];generalize p.e=e at*;refine ae (N:=54) (l:=[.agg #[.int .i64 p.v,.slice p.A p.n p.c],.slice lA ls.length lc]) Tryz.func193 rfl rfl (by simp) ?_;refine bX ?_;intro b2 w2 hh b4 w4 hh;refine hU ?_;intro w12 hh;exact Rt
 ·rw [abw h0];have hpe:p.e=0:=abq;rw [hpe] at hck;by_cases h1:(ls.length:Int)≠p.v
  ·rw [abx h1];refine ae (N:=54) (l:=[.agg #[.int .i64 p.v,.slice p.A p.n p.c],.slice lA ls.length lc]) Tryz.func193 rfl rfl (by simp) ?_;refine bX ?_;intro b2 w2 hh b4 w4 hh;refine hU ?_;intro w12 hh;refine bT ?_;intro ws hh;exact Qp
  ·rw [abw h1];obtain ⟨hfw,h4,hmy,hca⟩:=cv hpe;replace hfw:=fN.1 hfw;have hl12:ls.length≤12:=abq;have hpl:=hp.ln;have hsr:=Dr hpe;have hput:=fun (v:Int) (hv:jG v=true) (hz:∀g∈ls,jR v g.ts=0) (hvv:∀g∈ls,g.v=v) w1 hT1 hb=>Hs lA lc K T c0 v ls hv hlc hl12 (fun g hg=>⟨⟨hz g hg,(hf.jz g hg).ok,(hf.jz g hg).sz⟩,hvv g hg,hf.jz g hg,hf.RZ g hg⟩) hf.step hf.top ls 0 p.ts p.A p.n p.c ds k w1 rfl (abB _) hT1 (hL.ext hb) (fun g hg=>(hat g hg).ext hb) (hp.ext hb) lp.cap (by rw [show ((ls.length:Nat):Int)=p.v by omega];exact hsr) lp.ok abq hf.len (fun i d h=>by rw [ab2];exact hf.ZA i d h) hf.grow;by_cases hn:ls=[]
   ·subst hn;rw [abw (fun h=>h.1 rfl)];have hpu:=hput 0 rfl (fun g hg=>by cases hg) (fun g hg=>by cases hg);refine ae (N:=54) (l:=[.agg #[.int .i64 p.v,.slice p.A p.n p.c],.slice lA 0 lc]) Tryz.func193 rfl rfl (by simp) ?_;refine bX ?_;intro b2 w2 hh b4 w4 hh;refine hU ?_;intro w12 hh;refine bX ?_;intro b7 w7 hh ws hh;replace hh:=show Hp w (.blk b7 3 [.int .i64 0] (0,0)::_) _ from hh;exact S8
   ·have hlp0:0<ls.length:=List.length_pos_iff.2 hn;obtain ⟨lad,rfl,hlr⟩:=hL.at_ hlp0;refine ae (N:=54) (l:=[.agg #[.int .i64 p.v,.slice p.A p.n p.c],.slice (some lad) ls.length lc]) Tryz.func193 rfl rfl (by simp) ?_;refine bX ?_;intro b2 w2 hh b4 w4 hh;refine hU ?_;intro w12 hh;refine bX ?_;intro b7 w7 hh ws hh;replace hh:=show Hp w (.blk b7 3 [.int .i64 0] (0,0)::_) _ from hh;refine aH [5,9,10,28,29,30,31,32,33,34,35,36,37,38] 28
     (fun v w'=>∃i:Nat,i≤ls.length∧v=.int .i64 i∧(ls.take i).any (fun g=>decide (g.e≠0))=false∧Hp w [.blk b7 3 [.int .i64 0] (0,0),.blk b4 52 [.int .i64 0,.slice none 0 0] (0,0),.blk b2 52 [.int .i64 p.v,.slice p.A p.n p.c] (0,0)] w')
     (fun v _=>ls.length-(intOf v).toNat) ?_ ?_
    ·exact ⟨0,abB _,rfl,rfl,hh⟩
    ·clear hh;rintro ρ' v w' ⟨i,hi,rfl,hall,hh⟩;by_cases hlt:i<ls.length
     ·obtain ⟨g,hx⟩:=ai (l:=ls) (k:=i) hlt;have hmem:=abz hx;have hc:=fun w1 hT1 hb=>nJ g K w1 hT1 ((hat g hmem).ext hb) (hf.jz g hmem);by_cases he:g.e=0
      ·refine aj ?_;refine bF (vs:=[_,_]) az.out rfl ((hlr.ext hh.below).recAt PX.len hx) rfl abr ?_;refine bX ?_;intro b9 w9 hh ws hh;refine Aq ?_;intro w33 hh;refine aj ?_;replace hh:=hh.sub (abA _ (aby _ (aby _ (aby _ abV))));refine ⟨⟨i+1,abq,rfl,by rw [al hx,aeg,hall,aef,aex,abR abq];rfl,hh⟩,by show ls.length-(i+1)<ls.length-i;omega, ?_⟩;exact dI
      ·have hlk:ic ls=g.e:=by unfold ic;rw [sX hall hx (abQ he)]
       rw [abx ⟨abq,by rw [hlk];exact he⟩,hlk];refine aj ?_;refine bF (vs:=[_,_]) az.out rfl ((hlr.ext hh.below).recAt PX.len hx) rfl abr ?_;refine bX ?_;intro b9 w9 hh ws hh;refine Aq ?_;intro w33 hh;refine bT ?_;intro ws hh;refine qg ?_;exact VD
     ·rw [abG abq] at hall;have hlk:ic ls=if ls.length=0∨AR ls=true then 1 else 0:=by unfold ic;rw [j8 hall]
      obtain ⟨g0,h00⟩:=ai (l:=ls) (k:=0) hlp0;have hhv:ir ls=g0.v:=by
       cases ls with
       |nil=>cases hlp0
       |cons x l=>cases h00;rfl
      have hall0:∀g∈ls,g.e=0:=fun g hg=>by
       have:=ac9.1 hall g hg;simpa using this
      refine aj ?_;refine bG az.out rfl (((hlr.ext hh.below).recAt PX.len h00).cell (i:=0) rfl) abr ?_;refine bT ?_;intro ws hh;refine vZ ?_;replace hh:=show Hp w (.blk b7 3 [.int .i64 g0.v] (0,0)::_) _ from hh;rw [←hhv] at hh;have hcell:World.cell? _ ⟨b7,0,none⟩=some (.int .i64 (ir ls)):=hh.ej (i:=0) rfl rfl;have hoa:=fun w1 hb=>wb (some lad) ls.length lc ls 226 [.pointer (some ⟨b7,0,none⟩)] (fun g=>decide (g.v≠ir ls)) w1 (hL.ext (hh.below.trans (hb.mono hh.below.size))) abq (fun z w2 hz hb2=>Gr z ⟨b7,0,none⟩ (ir ls) w2 (bL hb2 (bL hb hcell)))
      cases hod:AR ls with
      |true=>
       have hod2:ls.any (fun g=>decide (g.v≠ir ls))=true:=hod;rw [hod2] at hoa;have hl1:ic ls=1:=by rw [hlk,abx (.inr hod)]
       rw [abx ⟨abq,by rw [hl1];decide⟩,hl1];refine aZ hh (hoa _ (Below.refl _ _)) rfl ?_;intro w45 hh;refine bT ?_;intro ws hh;refine Jw ?_;exact N0
      |false=>
       have hod2:ls.any (fun g=>decide (g.v≠ir ls))=false:=hod;rw [hod2] at hoa;have hl0:ic ls=0:=by
        rw [hlk,abw (fun h=>h.elim (fun h=>by omega) fun h=>by rw [hod] at h;cases h)]
       rw [abw (fun h=>h.2 hl0)];have hvv:=(BM hl0).2.2;have hg0:=hall0 g0 (abz h00);unfold PX.e at hg0;have hpu:=hput (ir ls) (by rw [hhv];exact (cv hg0).1) (fun g hg=>by rw [←hvv g hg];exact hall0 g hg) hvv;refine aZ hh (hoa _ (Below.refl _ _)) rfl ?_;intro w45 hh;refine aj ?_;exact S8
theorem Ro {o p:PX}{os ls:List PX} (hv:o.v=p.v) (ht:o.ts=p.ts) (h:os.map PX.norm=ls.map PX.norm):cU o os=cU p ls∧ir os=ir ls:=by
 have h1:ic os=ic ls:=by rw [←zD,h,zD]
 have h2:ir os=ir ls:=by rw [←xC,h,xC]
 have h3:os.length=ls.length:=by have:=acm List.length h;rwa [abH,abH] at this
 have h4:os.map PX.ts=ls.map PX.ts:=by
  have:=acm (List.map PX.ts) h;rw [ack,ack] at this;exact this
 refine ⟨?_,h2⟩;unfold cU PX.e;rw [hv,ht,h1,h2,h3,h4]
variable {k n:Nat}
theorem nO {v:Int}{l:List TR} (hv:jG v=true) (hm:∀t∈l,fY v t=true) (ho:iO k l) (hz:∀t∈l,t.m.size≤100000) (hl:l.length≤n) (hn:n≤4096) (hk:k+n≤3999990):kv v (k+n) (aA l):=
 ⟨jx hv (abW (dr _) abq) hm,nK ho abq abq,qO hz⟩
def Cd (v i:Nat):List TR:=aA [⟨mN v i,nR ((1:Int):Dyadic)⟩]
def uP (v:Nat) (x:Dyadic):List TR:=aA [⟨eZ v,nR x⟩]
def wm (v i:Nat) (x:Dyadic):List TR:=aA ((Cd v i).map (qI x))
def iX (v i:Nat) (s:SR):List TR:=aA (uP v s.L++wm v i (s.H-s.L))
def a7 (b:List SR):List PX:=b.mapIdx fun i s=>⟨b.length,none,0,0,iX b.length i s⟩
theorem jM {v:Nat} (h:v≤12):jG (v:Int)=true:=fN.2 ⟨abq,abq⟩
theorem HD {v i:Nat} (h:v≤12):kv (v:Int) 3 (Cd v i):=by
 have hs:((mN v i).size:Int)=v:=tx abq;refine nO (k:=2) (n:=1) (jM h) (fun t ht=> ?_) (fun t ht=> ?_) (fun t ht=> ?_) (abD _) abr abr
 ·rw [abX.1 ht];unfold fY;rw [abS,ab1];exact ⟨D3 v i,hs⟩
 ·rw [abX.1 ht];exact ⟨Sz.one.ok abr,by show Sz 2 (nR _).d;rw [a6];exact Sz.one.mono abr⟩
 ·rw [abX.1 ht];show (mN v i).size≤100000;omega
theorem JP {v:Nat}{x:Dyadic} (h:v≤12) (hx:Sz k x) (hk:k≤900000):kv (v:Int) (k+1) (uP v x):=tK (jM h) (by show Sz k (nR x).d;rw [a6];exact hx) hk
theorem I7 {v i:Nat}{x:Dyadic} (h:v≤12) (hx:Sz k x) (hk:k≤400000):kv (v:Int) (k+k+4) (wm v i x):=by
 have hv:=HD (i:=i) h;have hl:((Cd v i).map (qI x)).length≤1:=by rw [abH];exact dr _
 refine (nO (k:=3+k) (n:=1) (jM h) (fun t ht=> ?_) (Ik hv.ok hx abq) (fun t ht=> ?_) hl abr abq).mono (by
  by_cases h0:k=0
  ·omega
  ·omega)
 ·obtain ⟨s,hs,rfl⟩:=abL.1 ht;exact (cv hv.e).2.2.1 s hs
 ·obtain ⟨s,hs,rfl⟩:=abL.1 ht;exact hv.sz s hs
theorem pG {v i:Nat}{s:SR} (h:v≤12) (hs:s.fin k) (hk:k≤100000):kv (v:Int) (k+k+10) (iX v i s)∧(iX v i s).length≤2:=by
 have h1:=JP h (SR.U3 hs) abq;have h2:=I7 (i:=i) h ((SR.Xf hs).sub (SR.U3 hs)) abq;have hl:(uP v s.L++wm v i (s.H-s.L)).length≤2:=by
  rw [abJ];have a1:(uP v s.L).length≤1:=dr _;have a2:(wm v i (s.H-s.L)).length≤1:=abW (dr _) (by rw [abH];exact dr _);omega
 have hm:∀{P:TR→Prop},(∀t∈uP v s.L,P t)→(∀t∈wm v i (s.H-s.L),P t)→∀t∈uP v s.L++wm v i (s.H-s.L),P t:=fun a b t ht=>(acq.1 ht).elim (a t) (b t);refine ⟨(nO (k:=k+1+(k+1)+4) (n:=2) (jM h) (hm (cv h1.e).2.2.1 (cv h2.e).2.2.1) (hm (h1.ok.mono abq) h2.ok) (hm h1.sz h2.sz) hl abr abq).mono abq,abW (dr _) hl⟩
theorem iE {b:List SR}{i:Nat}{s:SR} (h:b[i]?=some s):(a7 b)[i]?=some ⟨b.length,none,0,0,iX b.length i s⟩:=by
 unfold a7;rw [adj,h]
 rfl
theorem k9 (b:List SR):(a7 b).length=b.length:=by unfold a7;rw [List.length_mapIdx]
theorem GV {b:List SR}{g:PX} (h:g∈a7 b):∃i s,b[i]?=some s∧g=⟨b.length,none,0,0,iX b.length i s⟩:=by
 obtain ⟨i,hi⟩:=acG.1 h;obtain ⟨s,hs⟩:=ai (l:=b) (k:=i) (by have:=(abM.1 hi).1;rwa [k9] at this);rw [iE hs] at hi;exact ⟨i,s,hs,(aca hi).symm⟩
theorem Yc {i:Nat} (h:n≤12) (hi:i<n):xD n i=0:=abw (by rw [jM h];rintro (a|a|a)<;>first|cases a|omega)
theorem W8 (h:n≤12):Dj n=0:=abw (by rw [jM h];decide)
theorem Bi (p:PX) (L:Option Addr) (n c:Nat) (b:List SR) (k:Nat) (ds:List Nat) (w:World) (hT:dq w) (hp:p.at_ w) (lp:p.jz k) (hB:Sl w L n 6 (ar SR.cells b)) (hb:∀s∈b,s.fin k) (hv:p.v=n) (hn0:0<n) (hn:n≤12) (hk:k≤1000)
  (hds:ds.length=n) (hex:∀(i d:Nat),ds[i]?=some d→d≤127∧∀t∈p.ts,iJ i t≤d) (hgr:fH (k+k+16394) ds (k+1)≤440000):
  Calls Tryz.prog 152 #[.agg #[.int .i64 p.v,.slice p.A p.n p.c],.slice L n c] w fun r w'=>∃g:PX,iy (cU p (a7 b)).1 n (cU p (a7 b)).2 g∧r=.returned (.tuple #[.agg #[.int .i64 g.v,.slice g.A g.n g.c],.int .i64 (cU p (a7 b)).1])∧Hp w [g.row] w':=by
 have hh:=Hp.start w;have hbl:b.length=n:=hB.aX SR.len abr;have hok:∀s∈b,s.ok:=fun s hs=>⟨(hb s hs).1.ok,(hb s hs).2.ok⟩;have hfo:=fun w1 hT1 hb1=>lP L n c b w1 hT1 (hB.ext hb1) hok abq;have hhv:ir (a7 b)=n:=by
  obtain ⟨s,hs⟩:=ai (l:=b) (k:=0) abq;rw [oe (iE hs),hbl]
 refine ae (N:=67) (l:=[.agg #[.int .i64 p.v,.slice p.A p.n p.c],.slice L n c]) Tryz.func152 rfl rfl (by simp) ?_;refine bX ?_;intro b2 w2 hh b4 w4 hh;refine au (hfo _ (hT.hp hh) hh.below) ak.out rfl abr ?_;rintro e_ w18 ⟨A18,c18,rfl,hown_,hb_⟩;refine ⟨_,rfl, ?_⟩;replace hh:=hh.aD (x:=.row _ _ _ _ _ _) hb_ hown_;refine aj ?_;replace hh:=hh.cJ 52 2;refine bk [6,7,8,9,10,11,12,13,14,15,16,20,21,22,23,24,25,26,27,28,29,30,31,32,33,34,35,36,37,38,39,40,41,42,43,44,45,46,47,48,49,50,51,52,53,54,55,56,57,58,59,60,61] 6 20
  (fun a v w'=>∃(i c3:Nat) (A:Option Addr) (os:List PX) (R:List HE),i≤n∧v=.int .i64 i∧a=.slice A i c3∧os.length=i∧KJ ((a7 b).map fun g=>⟨g.v,none,g.ts.length,0,g.ts⟩) os R∧Hp w (.row A i c3 52 2 (ar PX.cells os)::.row A18 n c18 35 6 (ar SR.cells (b.map SR.f))::.blk b4 52 [.int .i64 0,.slice none 0 0] (0,0)::.blk b2 52 [.int .i64 p.v,.slice p.A p.n p.c] (0,0)::R) w')
  (fun _ v _=>n-(intOf v).toNat) ?_ ?_
 ·exact ⟨0,0,none,[],[],abB _,rfl,rfl,rfl,⟨fun j g o _ h=>(nomatch h),fun o h=>(nomatch h)⟩,hh⟩
 ·clear hh;rintro ρ' a_ v w' ⟨i,c3,A,os,R,hi,rfl,rfl,hol,hcp,hh⟩;by_cases hlt:i<n
  ·obtain ⟨s,hs⟩:=ai (l:=b) (k:=i) abq;have hsf:=hb s (abz hs);have hsn:(b.map SR.f)[i]?=some s.f:=by rw [abI,hs];rfl
   have zL:=SR.U3 hsf;have zH:=SR.Xf hsf;have zW:=zH.sub zL;obtain ⟨po,pl⟩:=pG (v:=n) (i:=i) hn hsf abq;have vo:=HD (i:=i) hn;have fo:=I7 (i:=i) hn zW abq;have co:=JP hn zL abq;have hva:=fun w1 hT1=>Hb (n:Int) (i:Int) w1 hT1;rw [Yc hn hlt] at hva;have hsu:=fun w1 hT1=>qF (nR s.H) (nR s.L) w1 hT1 (zH.ok abq) (zL.ok abq) k (by rw [a6];exact zH) (by rw [a6];exact zL) abq;rw [a6,a6] at hsu;have hcn:=fun w1 hT1=>nS (n:Int) (nR s.L) k w1 hT1 ⟨zL.ok abq,by rw [a6];exact zL⟩ abq;rw [W8 hn] at hcn;rw [ada] at hva;have hV:aA [⟨mN n i,nR ((1:Int):Dyadic)⟩]=Cd n i:=rfl;have hC:aA [⟨eZ n,nR s.L⟩]=uP n s.L:=rfl;have hF:aA ((Cd n i).map (qI (s.H-s.L)))=wm n i (s.H-s.L):=rfl;have hP:aA (uP n s.L++wm n i (s.H-s.L))=iX n i s:=rfl;have tl1:(Cd n i).length≤1:=dr _;have ul1:(uP n s.L).length≤1:=dr _;have fl1:(wm n i (s.H-s.L)).length≤1:=abW (dr _) (by rw [abH];exact dr _);have hps:=iE hs;rw [hbl] at hps;rw [hV] at hva;rw [hC] at hcn;clear hV hC;generalize Cd n i=VL at*;generalize uP n s.L=CL at*;generalize wm n i (s.H-s.L)=FL at*
   generalize iX n i s=PL at*;obtain ⟨gf,rfl⟩:=hh.bP (i:=1) rfl abq;refine aj ?_;refine bF (vs:=[_,_,_,_,_,_]) az.out rfl (hh.df (f:=SR.cells) (x:=s.f) (l:=b.map SR.f) (i:=1) rfl SR.len abr hsn) rfl abr ?_;refine bX ?_;intro b8 w8 hh ws hh;replace hh:=show Hp w (.blk b8 35 [.bool (nR s.L).neg,.string (nR s.L).aO,.int .i64 (nR s.L).e,.bool (nR s.H).neg,.string (nR s.H).aO,.int .i64 (nR s.H).e] (0,0)::_) _ from hh;refine au (hva _ (hT.hp hh)) ak.out rfl abr ?_;rintro e_ w29 ⟨t,ot,rfl,h4⟩;refine ⟨_,rfl, ?_⟩;have htc:t.n≤t.c:=h4.gN (i:=0) rfl;replace hh:=hh.join h4;clear h4;simp only [abE,abC] at hh;obtain ⟨tv,tA,tn,tc,tt⟩:=t;replace hh:=show Hp w (.row tA tn tc 95 4 (ar TR.cells tt)::_) _ from hh;have et:VL=tt:=ot.t0.symm;have ev_:tv=(n:Int):=ot.v0;subst et ev_;have tln:VL.length=tn:=(hh.ao (i:=0) rfl).aX TR.len abr;have hsc:=fun w1 hT1 ha=>B0 ⟨n,tA,tn,tc,VL⟩ (nR (s.H-s.L)) (k+3) w1 hT1 ha ⟨by show tn≤1000000;omega,htc,vo.ok.mono abq,vo.sz⟩ ⟨zW.ok abq,by rw [a6];exact zW.mono abq⟩ abq;have hse:Lm ⟨n,tA,tn,tc,VL⟩ (s.H-s.L)=0:=by
    unfold Lm PX.e;rw [vo.e,abx rfl];exact wO (by rw [abH];show VL.length≤4096;omega)
   rw [a6,hse] at hsc;dsimp only at hsc;rw [hF] at hsc;refine bX ?_;intro b9 w9 hh ws hh;refine db [10] [9] [0,0,2,0,8,30,63,127,255,255,0,1535,4095] 11 [[(9,none)],[(8,none)],[(34,some 1)],[(8,none)],[(36,some 3)],[(35,some 2),(37,some 4)],[(33,some 0),(38,some 5)],[(39,some 6)],[(32,some 7)],[(32,some 7)],[]] [(10,11),(9,41),(8,40),(7,32),(6,39),(5,38),(4,37),(3,36),(2,35),(1,34),(0,33)] hh mixed abt (jQ rfl az.out dx) rfl (by repeat (first|exact bV|refine bD ?_|refine bU ?_)) ?_;refine da 0 [_,_] ?_;refine dw ?_;refine da 2 [_,_,_] ?_;refine dw ?_;refine da 2 [_,_,_] ?_;refine dC (fun _ hj=>hsu _ (hT.hp hj.hp)) ?_;refine aW (i:=6) (oH hh.sz 0 n FL) (oH.ext) ?_ ?_
   ·intro ρ1 w1 hj hR;exact bp rfl (aR ak.out (aq (show ρ1 33=Value.agg (List.toArray _) from hR.1) (aq (show ρ1 38=Value.agg (List.toArray _) from hR.2.1) aY))) (hsc w1 (hT.hp hj.hp) (hj.hp.ao (i:=1) rfl)) (fun _ _ ⟨g,og,hq,h3⟩=>⟨_,hq,h3.below,g,w1,rfl,og,hj.bl.size,h3⟩)
   refine aW (i:=7) (oH hh.sz 0 n FL) (oH.ext) ?_ ?_
   ·exact O7
   refine aW (i:=8) (nL hh.sz 0 n FL) (nL.ext) ?_ ?_
   ·exact XC
   refine aW (i:=9) (Is (.int .i64 0)) (Is.ext) ?_ ?_
   ·exact Uw
   refine aW (i:=10) (cd _ 52 _) cd.ext (fun ρ1 w1 hj hR=>iP az.out hj.bl (fun v w2 h hb=>⟨hb,h⟩)) ?_;refine av ?_;intro f W hJ hV _;have hb_6:=hJ.bl;obtain ⟨v11,v41,v40,v32,v39,v38,v37,v36,v35,v34,v33,_⟩:=hV;obtain ⟨g39,u39,e39, -⟩:=v39;obtain ⟨g32,u32,e32, -⟩:=v32;obtain ⟨g40,u40,e40,o40,q40,h40⟩:=v40;obtain ⟨b11,e11,hl11,hc11⟩:cd _ _ _ (f 10) W:=v11;replace hh:=hJ.k4 hh hl11 hc11 q40 h40 (PX.ne h40 hc11 abr);refine ay (aQ (aa e11 (aa v41 (aa e40 (aa e32 (aa e39 (aa v38 (aa v37 (aa v36 (aa v35 (aa v34 (aa v33 aw)))))))))))) ?_;dsimp only [bA];clear e39 e32 e40 e11 hJ;simp only [abE,abC] at hh;obtain ⟨fv,fA,fn,fc,ft⟩:=g40;replace hh:=show Hp w (_::.row fA fn fc 95 4 (ar TR.cells ft)::_) W from hh;have et:FL=ft:=o40.t0.symm;have ev_:fv=(n:Int):=o40.v0;subst et ev_;have fln:FL.length=fn:=(hh.ao (i:=1) rfl).aX TR.len abr;have fcc:fn≤fc:=hh.gN (i:=1) rfl;refine bT ?_;intro ws hh;refine au (hcn _ (hT.hp hh)) ak.out rfl abr ?_;rintro e_ w47 ⟨u,ou,rfl,h4⟩;refine ⟨_,rfl, ?_⟩;have huc:u.n≤u.c:=h4.gN (i:=0) rfl;replace hh:=hh.join h4;clear h4
   simp only [abE,abC] at hh;obtain ⟨uv,uA,un,uc,ut⟩:=u;replace hh:=show Hp w (.row uA un uc 95 4 (ar TR.cells ut)::_) _ from hh;have et:CL=ut:=ou.t0.symm;have ev_:uv=(n:Int):=ou.v0;subst et ev_;have uln:CL.length=un:=(hh.ao (i:=0) rfl).aX TR.len abr;refine bX ?_;intro b13 w13 hh ws hh;refine zO ?_;intro b53 w53 hh;have hlp:ic [⟨n,uA,un,uc,CL⟩,⟨n,fA,fn,fc,FL⟩]=0:=xK co.e fo.e rfl;have had:=fun A3 w1 hT1 hS1 s1 s2=>xa A3 2 2 [⟨n,uA,un,uc,CL⟩,⟨n,fA,fn,fc,FL⟩] (k+k+10) w1 hT1 hS1 abr (fun g hg=>by
    rcases abO.1 hg with rfl|hg
    ·exact s1
    ·rw [abX.1 hg];exact s2) (fun g hg=>by
    rcases abO.1 hg with rfl|hg
    ·exact ⟨by show un≤1000000;omega,huc,co.ok.mono abq,co.sz⟩
    ·rw [abX.1 hg];exact ⟨by show fn≤1000000;omega,fcc,fo.ok.mono abq,fo.sz⟩) abq
   unfold Om at had;rw [abx hlp,Tk] at had;dsimp only at had;rw [hP] at had;rw [wO (l:=CL++FL) (by rw [abJ];omega)] at had;refine au (had _ _ (hT.hp hh) (hh.ao (i:=0) rfl) (hh.ao (i:=2) rfl) (hh.ao (i:=4) rfl)) ak.out rfl abr ?_;rintro e_ w54 ⟨z,oz,rfl,h4⟩;refine ⟨_,rfl, ?_⟩;have hzc:z.n≤z.c:=h4.gN (i:=0) rfl;replace hh:=hh.join h4;clear h4;simp only [abE,abC] at hh;replace hh:=show Hp w (.row z.A z.n z.c 95 4 (ar TR.cells z.ts)::_) _ from hh;have zln:z.ts.length=z.n:=(hh.ao (i:=0) rfl).aX TR.len abr;refine bX ?_;intro b15 w15 hh ws hh;refine cQ hh (cs:=[_,_]) bq.out az.out (bC (eR rfl) dk) rfl rfl abr abr abr rfl abr ?_;intro b59 w59 hh;refine bQ hh (i:=11) rfl rfl rfl (hh.ao (i:=0) rfl) bq.out az.out rfl abr (by first|rfl|exact cS _|exact cn _|exact bg _|exact bj NR.one _) abq abq abr ?_;intro A60 c60 w60 hh;simp only [abK,ab9] at hh;replace hh:=hh.sub (acn _ _);refine aj ?_
   replace hh:=hh.sub (abA _ (aby _ (abA _ (abA _ (abA _ (abA _ (abA _ (abA _ (abA _ (abA _ (aby _ (aby _ (aby _ (aby _ (aco _)))))))))))))));replace hh:=hh.perm (acf (l₁:=[_,_,_,_]));simp only [abE,abC] at hh;replace hh:=hh.perm (acf (l₁:=[_,_,_,_]));simp only [abE,abC] at hh;replace hh:=hh.perm (acf (l₁:=[_,_,_,_]));simp only [abE,abC] at hh;replace hh:=hh.perm (acf (l₁:=[_,_,_,_]));simp only [abE,abC] at hh;have hcp2:=hcp.add (g:=⟨n,none,PL.length,0,PL⟩) (o:=z) (by rw [hol,abI,hps];rfl) ⟨oz.v0,oz.t0,by rw [←zln,oz.t0]⟩ hzc;refine ⟨⟨i+1,c60,A60,os++[z],z.row::R,abq,rfl,rfl,by rw [abJ,hol];rfl,hcp2,by rw [bo,mD];exact hh⟩,by show n-(i+1)<n-i;omega, ?_⟩;exact dI
  ·obtain rfl:i=n:=abq;have hol2:os.length=((a7 b).map fun g=>(⟨g.v,none,g.ts.length,0,g.ts⟩:PX)).length:=by rw [abH,k9];omega
   have hkey:=hcp.key hol2;rw [ack] at hkey;replace hkey:os.map PX.norm=(a7 b).map PX.norm:=hkey;obtain ⟨ks,kh⟩:=Ro (o:=p) (p:=p) rfl rfl hkey;have hall:∀o∈os,o.jz (k+k+10)∧o.ts.length≤2:=fun o ho=>by
    obtain ⟨j,hj⟩:=acG.1 ho;have hjn:j<os.length:=(abM.1 hj).1;obtain ⟨s,hs⟩:=ai (l:=b) (k:=j) abq;obtain ⟨e1,e2,e3⟩:=hcp.eq j ⟨b.length,none,(iX b.length j s).length,0,iX b.length j s⟩ o (by rw [abI,iE hs];rfl) hj;obtain ⟨po,pl⟩:=pG (v:=b.length) (i:=j) abq (hb s (abz hs)) abq;replace e2:o.ts=iX b.length j s:=e2;replace e3:o.n=(iX b.length j s).length:=e3;exact ⟨⟨abq,(hcp.my o ho).2,by rw [e2];exact po.ok,by rw [e2];exact po.sz⟩,by rw [e2];exact pl⟩
   have hfit:ZV p os k (k+k+10) 2 (k+k+16394) ds:=⟨abq,hex,hgr,abq,abq,fun g hg=>(hall g hg).1,fun g hg=>(hall g hg).2⟩;have hsu:=fun w1 hT1 ha hs hm hc=>B9 p A c3 os k (k+k+10) 2 (k+k+16394) ds w1 hT1 ha lp hs hm hc hfit;rw [ks,kh,hhv,hol] at hsu;generalize (cU p (a7 b)).1=E at*;generalize (cU p (a7 b)).2=S at*;refine aj ?_;refine au (hsu _ (hT.hp hh) (hp.ext hh.below) (hh.ao (i:=0) rfl) (fun z hz=>Rh hh (abN _ (abN _ (abN _ (abN _ (hcp.my z hz).1))))) (hh.gN (i:=0) rfl)) ak.out rfl abr ?_;rintro e_ w64 ⟨g,og,rfl,h4⟩;refine ⟨_,rfl, ?_⟩;replace hh:=hh.join h4;clear h4;simp only [abE,abC] at hh;refine bT ?_;intro ws hh;refine Pb ?_;exact U8
def dM (i:Nat) (f:ByteArray→Dyadic) (m:ByteArray):Dyadic:=
 match m.data.toList[i]? with|some e=>((e.toNat:Int):Dyadic)*f (str (m.data.toList.set i (e-1)))|none=>0
theorem Un {f g:ByteArray→Dyadic}{l:List TR} (h:∀t∈l,f t.m=g t.m):wS f l=wS g l:=by
 induction l with
 |nil=>rfl
 |cons t l ih=>rw [wS,wS,h t abF,ih fun s hs=>h s (abN _ hs)]
theorem Rk {a b:List UInt8} (ha:eX a=true) (hb:eX b=true) (hl:b.length=a.length) (h:(List.zipWith (· + ·) (ints a) (ints b)).all dN=true):mulL a b=((List.zipWith (· + ·) (ints a) (ints b)).map BG,0):=by
 unfold mulL;rw [Sa ha hb hl];show (Qf _,RF _)=_;rw [(u4 h).1,(u4 h).2]
theorem Nj {a b:List UInt8} (h:(mulL a b).2=0):(List.zipWith (· + ·) (ints a) (ints b)).all dN=true:=by
 obtain ⟨_,_,_,h4,h5⟩:=pJ h;rw [←h5];exact Sg h4
theorem Ri {a b:ByteArray}{i:Nat}{x y:UInt8} (h:qB a b=0) (hx:a.data.toList[i]?=some x) (hy:b.data.toList[i]?=some y):(mulM a b).data.toList[i]?=some (BG ((x.toNat:Int)+y.toNat))∧(BG ((x.toNat:Int)+y.toNat)).toNat=x.toNat+y.toNat:=by
 obtain ⟨h1,h2,h3,_,_⟩:=pJ h;have hall:=Nj h;have hiy:(ints b.data.toList)[i]?=some (y.toNat:Int):=by unfold ints;rw [abI,hy];rfl
 have hix:(ints a.data.toList)[i]?=some (x.toNat:Int):=by unfold ints;rw [abI,hx];rfl
 have hzz:=Pa (f:=fun (x y:Int)=>x+y) hix hiy;have hxy:dN ((x.toNat:Int)+y.toNat)=true:=ab6.1 hall _ (abz hzz);have e1:=vg hxy;injection e1 with _ e1
 refine ⟨?_,abq⟩;unfold mulM;rw [dH,Rk h1 h2 h3 hall,abI,hzz]
 rfl
variable {p:List TR}
def pe (B:Nat→Nat) (l:List TR):Prop:=∀t∈l,∀i,iJ i t≤B i
theorem pe.mono {B C:Nat→Nat}{l:List TR} (h:pe B l) (hb:∀i,B i≤C i):pe C l:=fun t ht i=>abW (h t ht i) (hb i)
theorem Xo {s t:TR} (h:s.m=t.m) (i:Nat):iJ i s=iJ i t:=by unfold iJ;rw [h]
theorem pe.aA {B:Nat→Nat}{l:List TR} (h:pe B l):pe B (aA l):=fun t ht i=>by
 obtain ⟨s,hs,e⟩:=lu t ht;rw [←Xo e i];exact h s hs i
theorem pe.append {B:Nat→Nat}{l k:List TR} (h:pe B l) (h2:pe B k):pe B (l++k):=fun t ht=>(acq.1 ht).elim (h t) (h2 t)
theorem pe.prod {B C:Nat→Nat}{q:List TR} (hp:pe B p) (hq:pe C q) (h:∀e∈xo p q,e=0):pe (fun i=>B i+C i) (cj p q):=fun t ht i=>by
 obtain ⟨x,hx,ht⟩:=ade.1 ht;obtain ⟨y,hy,rfl⟩:=abL.1 ht;have hz:qB x.m y.m=0:=h _ (ade.2 ⟨x,hx,abL.2 ⟨y,hy,rfl⟩⟩)
 cases ha:x.m.data.toList[i]? with
 |none=>
  have hl:=GW hz;have hx0:=afe.1 ha;have e:(sS x y).m.data.toList[i]?=none:=by
   show (str _).data.toList[i]?=none;rw [dH];exact abT (by rw [hl];exact hx0)
  unfold iJ;rw [e];exact abB _
 |some a=>
  obtain ⟨_,_,h3,_,_⟩:=pJ hz;have hlt:=(abM.1 ha).1;obtain ⟨b,hb⟩:=ai (l:=y.m.data.toList) (k:=i) abq;obtain ⟨e1,e2⟩:=Ri hz ha hb;rw [tP (t:=sS x y) e1,e2];have h1:=hp x hx i;have h2:=hq y hy i;rw [tP ha] at h1;rw [tP hb] at h2;show a.toNat+b.toNat≤B i+C i;omega
theorem xy {q p:List TR}{sub:List TR→Int×List TR}{j D:Nat}{E:Nat→Nat} (hq:pe (fun x=>if x=j then 1 else 0) q) (hD:∀t∈p,iJ j t≤D) (hE:E j=0) (hs:∀n,(sub (bz p j n)).1=0→pe E (sub (bz p j n)).2):
  ∀i,i≤128→(bE q sub p j i).1=0→pe (fun x=>if x=j then i+D-128 else E x) (bE q sub p j i).2
 |0,_,_=>fun t ht=>(nomatch ht)
 |i+1,hi,h0=>by
  have h1:(bE q sub p j i).1=0:=by
   refine adN fun c=> ?_;rw [kX c (Nat.le_succ i)] at h0;exact c h0
  have ih:=xy hq hD hE hs i abq h1;have hsb:∀n,(sub (bz p j n)).1=0→pe (fun x=>if x=j then i+1+D-128 else E x) (sub (bz p j n)).2:=fun n hn=>(hs n hn).mono fun x=>by
   by_cases hx:x=j
   ·rw [abx hx,hx,hE];exact abB _
   ·rw [abw hx];exact abD _
  have hpr:gH (bE q sub p j i).2 q=0→pe (fun x=>if x=j then i+1+D-128 else E x) (aA (cj (bE q sub p j i).2 q)):=fun ht=>by
   by_cases hlow:i+D≤127
   ·rw [jS hD i hlow];exact fun t ht=>(nomatch ht)
   ·refine ((ih.prod hq (l9 ht).2.1).mono fun x=> ?_).aA;by_cases hx:x=j
    ·rw [abx hx,abx hx,abx hx];omega
    ·rw [abw hx,abw hx,abw hx];omega
  rw [lv] at h0 ⊢;unfold jB at h0 ⊢;rw [abw (fun h=>h h1)] at h0 ⊢;by_cases c1:(bE q sub p j i).2.length=0∧(bz p j (127-i)).length=0
  ·rw [abx c1,aeu.1 c1.1];exact fun t ht=>(nomatch ht)
  ·rw [abw c1] at h0 ⊢;by_cases c2:gH (bE q sub p j i).2 q≠0
   ·rw [abx c2] at h0;exact absurd h0 c2
   ·rw [abw c2] at h0 ⊢;by_cases c3:(sub (bz p j (127-i))).1≠0
    ·rw [abx c3] at h0;exact absurd h0 c3
    ·rw [abw c3] at h0 ⊢;by_cases c4:gZ (aA (cj (bE q sub p j i).2 q)++(sub (bz p j (127-i))).2)≠0
     ·rw [abx c4] at h0;exact absurd h0 c4
     ·rw [abw c4];exact ((hpr abq).append (hsb _ abq)).aA
theorem xP (v:Int) (c:NR):pe (fun _=>0) [⟨eZ v,c⟩]:=fun t ht i=>by
 rw [abX.1 ht]
 cases he:(⟨eZ v,c⟩:TR).m.data.toList[i]? with
 |none=>unfold iJ;rw [he];exact abD _
 |some e=>
  rw [tP he];have hm:=abz he;replace hm:e∈(List.replicate v.toNat (0:UInt8)):=by simpa [eZ] using hm
  rw [(List.mem_replicate.1 hm).2];exact abD _
theorem JT {v:Int}:∀(qs:List (List TR)) (j:Nat) (p:List TR) (D:Nat→Nat),(∀(i:Nat) (q:List TR),qs[i]?=some q→pe (fun x=>if x=j+i then 1 else 0) q)→(∀t∈p,∀i,i<qs.length→iJ (j+i) t≤D (j+i))→(fP v qs j p).1=0→pe (fun x=>if j≤x∧x<j+qs.length then D x else 0) (fP v qs j p).2:=by
 intro qs
 induction qs with
 |nil=>
  intro j p D _ _ _;exact (xP v _).aA.mono fun x=>abB _
 |cons q qs ih=>
  intro j p D hq hp h0;have hsub:∀n,(fP v qs (j+1) (bz p j n)).1=0→pe (fun x=>if j+1≤x∧x<j+1+qs.length then D x else 0) (fP v qs (j+1) (bz p j n)).2:=fun n hn=>by
   refine ih (j+1) (bz p j n) D (fun i r hr=> ?_) (fun t ht i hi=> ?_) hn
   ·have:=hq (i+1) r (by simpa using hr);rwa [show j+1+i=j+(i+1) by omega]
   ·exact Ud
  have hq0:pe (fun x=>if x=j then 1 else 0) q:=hq 0 q rfl;have hD:∀t∈p,iJ j t≤D j:=fun t ht=>hp t ht 0 (by rw [ab0];omega);generalize hgen:fP v qs (j+1)=sub at hsub;have e:∀m,m=128→(bE q sub p j m).1=0→pe (fun x=>if j≤x∧x<j+(q::qs).length then D x else 0) (bE q sub p j m).2:=fun m hm h=>by
   refine (xy hq0 hD (E:=fun x=>if j+1≤x∧x<j+1+qs.length then D x else 0) (by rw [abw abq]) hsub m abq h).mono fun x=> ?_;rw [ab0];by_cases hx:x=j
   ·rw [abx hx,abx abq,hx];omega
   ·rw [abw hx];by_cases h2:j+1≤x∧x<j+1+qs.length
    ·rw [abx h2,abx abq];exact abD _
    ·rw [abw h2];exact abB _
  have e2:fP v (q::qs) j p=bE q sub p j 128:=by rw [←hgen];rfl
  rw [e2] at h0 ⊢;exact e 128 rfl h0
theorem WT {l:List TR}{i:Nat}{t:TR} (h:t∈l):nW t.m i≤Fh l i:=by
 induction l using kr with
 |h0=>cases h
 |hs l x ih=>
  rw [xG]
  rcases acq.1 h with h|h
  ·have:=ih h;omega
  ·rw [abX.1 h];omega
theorem PB {l:List TR}{i:Nat}{B:Int} (hB:0≤B) (h:∀t∈l,nW t.m i≤B):0≤Fh l i∧Fh l i≤B:=by
 induction l using kr with
 |h0=>exact ⟨ael _,hB⟩
 |hs l x ih=>
  rw [xG];have h1:=ih fun t ht=>h t (adf _ ht);have h2:=h x (acI _ abF);omega
theorem LN (t:TR) (i:Nat):(iJ i t:Int)=nW t.m i:=by
 unfold iJ nW
 cases t.m.data.toList[i]?<;>rfl
def bY (v:Int) (ts:List TR):List Nat:=(y7 v ts).map Int.toNat
theorem oO {v:Int} (h:jR v ts=0):y7 v ts=a0 (bY v ts)∧(bY v ts).length=v.toNat∧∀(i d:Nat),(bY v ts)[i]?=some d→d≤127∧(∀t∈ts,iJ i t≤d)∧((d:Int)=Fh ts i):=by
 obtain ⟨_,_,hm,_⟩:=cv h;have hd:y7 v ts=n4 v.toNat ts:=abx h;have hb:∀t∈ts,∀i,nW t.m i≤127:=fun t ht i=>by
  have h1:=hm t ht;unfold fY at h1;rw [abS] at h1;unfold nW
  cases he:t.m.data.toList[i]? with
  |none=>decide
  |some e=>have:=pH h1.1 he;show ((e.toNat:Nat):Int)≤127;omega
 refine ⟨?_,by unfold bY;rw [abH,hd,gL],fun i d hi=> ?_⟩
 ·unfold bY a0;rw [ack];refine (aeH _).symm.trans (acT fun x hx=> ?_);rw [hd] at hx;obtain ⟨i,_,rfl⟩:=abL.1 hx;have:=(PB (B:=127) abr fun t ht=>hb t ht i).1;show Fh ts i=((Fh ts i).toNat:Int);omega
 ·unfold bY at hi;rw [hd,abI] at hi;have hlt:i<v.toNat:=by
   refine adN fun hc=> ?_;rw [abT (by rw [gL];omega)] at hi
   cases hi
  rw [vf ts hlt] at hi;have h1:=PB (l:=ts) (i:=i) (B:=127) abr fun t ht=>hb t ht i;have h2:(Fh ts i).toNat=d:=aca hi;refine ⟨abq,fun t ht=> ?_,abq⟩;have h3:=WT (i:=i) ht;have h4:=LN t i;omega
variable {j:Nat}{xs:List Dyadic}
def cX (m:ByteArray):List Nat:=m.data.toList.map UInt8.toNat
theorem n7 (m:ByteArray):(cX m).length=m.size:=by rw [dY];exact abH _
theorem EK {a b:ByteArray} (h:cX a=cX b):a=b:=wj (List.map_inj_right (fun _ _=>aeE.1)|>.1 h)
theorem pj (m:ByteArray):ints m.data.toList=a0 (cX m):=by unfold ints a0 cX;rw [ack];rfl
theorem NT {a b:List Nat} (h:a0 a=a0 b):a=b:=(List.map_inj_right fun (x y:Nat) (e:(x:Int)=y)=>Int.ofNat.inj e).1 h
def iG (xs:List Dyadic) (l:List TR):Dyadic:=wS (fun m=>je (cX m) xs) l
theorem Ir (f:ByteArray→Dyadic) (l:List TR):wS f l=sm l fun t=>t.c.d*f t.m:=by
 induction l with
 |nil=>rfl
 |cons t l ih=>rw [wS,sm,ih]
theorem jV (xs:List Dyadic) (l:List TR):iG xs (aA l)=iG xs l:=tT _ _
theorem qx (xs:List Dyadic) (l k:List TR):iG xs (l++k)=iG xs l+iG xs k:=pU _ _ _
theorem E6:∀(a b:List Nat) (xs:List Dyadic),a.length=b.length→je (List.zipWith (· + ·) a b) xs=je a xs*je b xs
 |[],[],xs,_=>by show (1:Dyadic)=1*1;grind
 |[],_::_,_,h=>by cases h
 |_::_,[],_,h=>by cases h
 |x::a,y::b,[],_=>by show (1:Dyadic)=1*1;grind
 |x::a,y::b,t::xs,h=>by
  rw [List.zipWith_cons_cons,je,je,je,E6 a b xs (by simpa using h),kR];grind
theorem pD:∀(n:Nat) (xs:List Dyadic),je (List.replicate n 0) xs=1
 |0,xs=>by cases xs<;>rfl
 |n+1,[]=>rfl
 |n+1,x::xs=>by
  rw [ad5,je,pD n xs,adK];grind
theorem Po {a b:ByteArray} (h:qB a b=0):cX (mulM a b)=List.zipWith (· + ·) (cX a) (cX b)∧(cX a).length=(cX b).length:=by
 obtain ⟨_,_,h3,_,h5⟩:=pJ h;refine ⟨NT ?_,by unfold cX;rw [abH,abH,h3]⟩;rw [←pj,mulM,dH,h5,pj,pj];unfold a0;rw [List.zipWith_map,List.map_zipWith];exact acm (fun f=>List.zipWith f (cX a) (cX b)) (funext fun x=>funext fun y=>(acZ x y).symm)
theorem L0 {q:List TR} (h:∀e∈xo p q,e=0):iG xs (cj p q)=iG xs p*iG xs q:=by
 have hm:∀a∈p,∀b∈q,qB a.m b.m=0:=fun a ha b hb=>h _ (ade.2 ⟨a,ha,abL.2 ⟨b,hb,rfl⟩⟩);unfold iG;rw [E5,Dyadic.mul_comm,←P3];refine Un fun a ha=> ?_;rw [Dyadic.mul_comm,←P3];refine Un fun b hb=> ?_;obtain ⟨e1,e2⟩:=Po (hm a ha b hb);rw [e1,E6 _ _ _ e2]
theorem H9 (j:Nat) (t:TR):iJ j t=((cX t.m)[j]?).getD 0:=by
 unfold iJ cX;rw [abI]
 cases t.m.data.toList[j]?<;>rfl
theorem OR (g:TR→Dyadic) (Q:Dyadic):sm p (fun t=>if n≤iJ j t then g t*Q^(iJ j t-n) else 0)=sm p (fun t=>if n+1≤iJ j t then g t*Q^(iJ j t-(n+1)) else 0)*Q+sm (bz p j n) g:=by
 have e1:sm (bz p j n) g=sm p fun t=>if iJ j t=n then g t else 0:=by
  unfold bz;rw [←KA p (fun t=>decide (iJ j t=n)) (fun t=>if iJ j t=n then g t else 0) (fun t _ h=>abw (by simpa using h))];exact a9 fun t ht=>(abx (by simpa using (acX.1 ht).2)).symm
 rw [e1,←ky,←Gt];refine a9 fun t _=> ?_;by_cases h1:iJ j t=n
 ·rw [abx abq,abw abq,abx h1,h1,acs,adK];grind
 ·rw [abw h1];by_cases h2:n+1≤iJ j t
  ·rw [abx abq,abx h2,show iJ j t-n=(iJ j t-(n+1))+1 by omega,aeh];grind
  ·rw [abw abq,abw h2];grind
theorem I0 {xs:List Dyadic}{q p:List TR}{sub:List TR→Int×List TR}{j:Nat} (g:TR→Dyadic) (hp:∀t∈p,iJ j t≤127) (hs:∀n,(sub (bz p j n)).1=0→iG xs (sub (bz p j n)).2=sm (bz p j n) g):
  ∀i,i≤128→(bE q sub p j i).1=0→iG xs (bE q sub p j i).2=sm p fun t=>if 128-i≤iJ j t then g t*iG xs q^(iJ j t-(128-i)) else 0
 |0,_,_=>(nN fun t ht=>abw (by have:=hp t ht;omega)).symm
 |i+1,hi,h0=>by
  have h1:(bE q sub p j i).1=0:=by
   refine adN fun c=> ?_;rw [kX c (Nat.le_succ i)] at h0;exact c h0
  have ih:=I0 g hp hs i abq h1;have e1:=OR (p:=p) (j:=j) (n:=127-i) g (iG xs q);rw [show 128-(i+1)=127-i by omega,e1,show 127-i+1=128-i by omega,←ih];rw [lv] at h0 ⊢;unfold jB at h0 ⊢;rw [abw (fun h=>h h1)] at h0 ⊢;by_cases c1:(bE q sub p j i).2.length=0∧(bz p j (127-i)).length=0
  ·rw [abx c1,aeu.1 c1.1,aeu.1 c1.2];show (0:Dyadic)=0*_+0;grind
  ·rw [abw c1] at h0 ⊢;by_cases c2:gH (bE q sub p j i).2 q≠0
   ·rw [abx c2] at h0;exact absurd h0 c2
   ·rw [abw c2] at h0 ⊢;by_cases c3:(sub (bz p j (127-i))).1≠0
    ·rw [abx c3] at h0;exact absurd h0 c3
    ·rw [abw c3] at h0 ⊢;by_cases c4:gZ (aA (cj (bE q sub p j i).2 q)++(sub (bz p j (127-i))).2)≠0
     ·rw [abx c4] at h0;exact absurd h0 c4
     ·rw [abw c4];show iG xs (aA _)=_;rw [jV,qx,jV,L0 (l9 abq).2.1,hs _ abq]
theorem Sp (h:u1 p) (he:∀a∈p,∀b∈p,a.m=b.m):p.length≤1:=by
 match p,h,he with
 |[],_,_=>exact abB _
 |[_],_,_=>exact abD _
 |a::b::p,h,he=>
  have h1:=(ac8.1 h).1 b abF;rw [he a abF b (abN _ abF),iu] at h1
  cases h1
theorem I5.one {v:Int} (h:I5 v j p) (hj:v≤j):p.length≤1:=Sp h.ua fun a ha b hb=>wj (by
 have e:=h.pre a ha b hb;have l1:=h.size a ha;have l2:=h.size b hb;rwa [abG abq,abG abq] at e)
theorem Ai (v:Int) (q:List TR) (qs:List (List TR)) (j:Nat) (p:List TR):fP v (q::qs) j p=bE q (fP v qs (j+1)) p j 128:=rfl
theorem VF {v w:Int} (qs:List (List TR)):∀(j:Nat) (p:List TR),I5 w j p→w=((j+qs.length:Nat):Int)→(fP v qs j p).1=0→iG xs (fP v qs j p).2=sm p fun t=>t.c.d*je ((cX t.m).drop j) (qs.map (iG xs)):=by
 induction qs with
 |nil=>
  intro j p hs hw _;have h1:=hs.one (by rw [hw];exact ael _);show iG xs (aA _)=_;rw [jV];have hz:cX (eZ v)=List.replicate v.toNat 0:=by unfold cX eZ;simp
  match p,h1 with
  |[],_=>
   show (nR 0).d*_+0=0;rw [a6];grind
  |[t],_=>
   show t.c.d*je (cX (eZ v)) xs+0=t.c.d*je _ []+0;rw [hz,pD]
   cases (cX t.m).drop j<;>rfl
 |cons q qs ih=>
  intro j p hs hw h0;have hj:(j:Int)<w:=by rw [hw,ab0];omega
  have hx:∀t∈p,iJ j t≤127:=fun t ht=>by
   obtain ⟨e,_,h2,h3⟩:=hs.get hj ht;omega
  rw [Ai] at h0 ⊢;have hsub:=fun n hn=>ih (j+1) (bz p j n) (hs.with hj) (by rw [hw,ab0];omega) hn;generalize fP v qs (j+1)=sub at hsub h0 ⊢;have h1:=fun i hi hz=>I0 (xs:=xs) (q:=q) (sub:=sub) (p:=p) (j:=j) (fun t=>t.c.d*je ((cX t.m).drop (j+1)) (qs.map (iG xs))) hx hsub i hi hz;obtain ⟨m,hm⟩:∃m,m=128:=⟨_,rfl⟩;rw [←hm] at h0 ⊢;rw [h1 m abq h0];refine a9 fun t ht=> ?_;rw [abx abq,show iJ j t-(128-m)=iJ j t by omega];obtain ⟨e,h2,h3,_⟩:=hs.get hj ht;have hd:(cX t.m).drop j=iJ j t::(cX t.m).drop (j+1):=by
   refine gk ?_;rw [h3];unfold cX;rw [abI,h2]
   rfl
  rw [hd,ab8,je];grind
theorem Wo {p:PX}{ls:List PX} (h:(cU p ls).1=0):iG xs (cU p ls).2=iG (ls.map fun g=>iG xs g.ts) p.ts:=by
 unfold cU at h ⊢;by_cases h1:p.e≠0
 ·rw [abx h1] at h;exact absurd h h1
 ·rw [abw h1] at h ⊢;by_cases h2:(ls.length:Int)≠p.v
  ·rw [abx h2] at h;exact absurd h abr
  ·rw [abw h2] at h ⊢;by_cases h3:ls.length≠0∧ic ls≠0
   ·rw [abx h3] at h;exact absurd h h3.2
   ·rw [abw h3] at h ⊢;rw [VF (w:=p.v) (ls.map PX.ts) 0 p.ts (Dr (by unfold PX.e at h1;omega)) (by rw [abH,ab2];omega) h,ack];unfold iG;rw [Ir]
    rfl
variable {X:List Dyadic}{ds:List Nat}
def wK:Nat→List Nat→List Nat→List Nat→Dyadic
 |m+1,_::ds,a::s,r::rs=>(if a=r then 1 else 0)*wK m ds s rs
 |0,d::ds,a::s,r::rs=>fa d 1 1 a r*wK 0 ds s rs
 |_,_,_,_=>1
theorem Ia:∀(j:Nat) (ds s rs:List Nat),j<ds.length→ku ds s→ku ds rs→sm (List.range (ds.getD j 0+1)) (fun i=>wK (j+1) ds s (rs.set j i)*fa (ds.getD j 0) 1 1 i (rs.getD j 0))=wK j ds s rs
 |_,[],_,_,h,_,_=>by cases h
 |_,_::_,[],_,_,h,_=>by cases h
 |_,_::_,_::_,[],_,_,h=>by cases h
 |0,d::ds,a::s,r::rs,_,h1,_=>by
  show sm (List.range (d+1)) (fun i=>(if a=i then 1 else 0)*wK 0 ds s rs*fa d 1 1 i r)=fa d 1 1 a r*wK 0 ds s rs;have e:sm (List.range (d+1)) (fun i=>(if a=i then 1 else 0)*wK 0 ds s rs*fa d 1 1 i r)=sm (List.range (d+1)) fun i=>if i=a then fa d 1 1 a r*wK 0 ds s rs else 0:=a9 fun i _=>by
   by_cases h:a=i
   ·rw [abx h,abx h.symm,h];grind
   ·rw [abw h,abw (fun e=>h e.symm)];grind
  rw [e,nh,abx (by have:=h1.1;omega)]
 |j+1,d::ds,a::s,r::rs,hj,h1,h2=>by
  show sm (List.range (ds.getD j 0+1)) (fun i=>(if a=r then 1 else 0)*wK (j+1) ds s (rs.set j i)*fa (ds.getD j 0) 1 1 i (rs.getD j 0))=(if a=r then 1 else 0)*wK j ds s rs;rw [←Ia j ds s rs (by simpa using hj) h1.2 h2.2,←gI];exact a9 fun i _=>by grind
theorem Mf:∀(ds s rs:List Nat),ku ds s→ku ds rs→wK ds.length ds s rs=if s=rs then 1 else 0
 |[],[],[],_,_=>by rw [abx rfl];rfl
 |[],_::_,_,h,_=>by cases h
 |[],[],_::_,_,h=>by cases h
 |_::_,[],_,h,_=>by cases h
 |_::_,_::_,[],_,h=>by cases h
 |d::ds,a::s,r::rs,h1,h2=>by
  show (if a=r then 1 else 0)*wK ds.length ds s rs=_;rw [Mf ds s rs h1.2 h2.2];by_cases e1:a=r
  ·by_cases e2:s=rs
   ·rw [abx e1,abx e2,abx (by rw [e1,e2])];grind
   ·rw [abx e1,abw e2,abw fun e=>e2 (List.cons.inj e).2];grind
  ·rw [abw e1,abw fun e=>e1 (List.cons.inj e).1];grind
abbrev QL:=List (List Nat×Dyadic)
def X0 (ds:List Nat) (L:QL):List Dyadic:=iV (ah ds) (L.map fun q=>(dh ds q.1,q.2))
def rB (ds:List Nat) (L:QL):Nat→List Dyadic
 |0=>X0 ds L
 |k+1=>eu ds (ds.length-1-k) (fa (ds.getD (ds.length-1-k) 0) 1 1) (rB ds L k)
theorem sV (ds:List Nat) (L:QL) (k:Nat):rB ds L (k+1)=eu ds (ds.length-1-k) (fa (ds.getD (ds.length-1-k) 0) 1 1) (rB ds L k):=rfl
theorem E7 (ds:List Nat) (L:QL) (k:Nat):(rB ds L k).length=ah ds:=by
 cases k with
 |zero=>exact jE _ _
 |succ k=>rw [sV,j7]
theorem Mj {ds:List Nat}{L:QL} (hL:∀q∈L,ku ds q.1):∀k,k≤ds.length→∀row,ku ds row→co ds (rB ds L k) row=sm L fun q=>q.2*wK (ds.length-k) ds q.1 row
 |0,_,row,hr=>by
  have hp:=ke hr;rw [JI hr];show ((X0 ds L)[dh ds row]?).getD 0=_;unfold X0;rw [nx _ hp,acW,re];refine a9 fun q hq=> ?_;rw [Nat.sub_zero,Mf ds q.1 row (hL q hq) hr];by_cases h:q.1=row
  ·rw [abx h,abx (by rw [h])];grind
  ·rw [abw h,abw fun e=>h (by rw [←iw (hL q hq),←iw hr];exact acm (bB ds) e)];grind
 |k+1,hk,row,hr=>by
  obtain ⟨j,hj⟩:∃j,j=ds.length-1-k:=⟨_,rfl⟩;rw [sV,←hj,Ab _ _ _ hr,show ds.length-(k+1)=j by omega];have e1:∀i,i<ds.getD j 0+1→co ds (rB ds L k) (row.set j i)=sm L fun q=>q.2*wK (j+1) ds q.1 (row.set j i):=fun i hi=>by
   rw [Mj hL k abq (row.set j i) (Jk hr abq),show ds.length-k=j+1 by omega]
  rw [a9 fun i hi=>show co ds (rB ds L k) (row.set j i)*fa (ds.getD j 0) 1 1 i (row.getD j 0)=sm L fun q=>q.2*(wK (j+1) ds q.1 (row.set j i)*fa (ds.getD j 0) 1 1 i (row.getD j 0)) by
   rw [e1 i (ab3.1 hi),←ky];exact a9 fun q _=>by grind,px]
  refine a9 fun q hq=> ?_;rw [←Ia j ds q.1 row abq (hL q hq) hr,←gI]
def mR (ns:List Nat) (l:List TR):List Dyadic:=(List.range (ah ns.reverse)).map fun p=>wS (fun m=>wK 0 ns.reverse (cX m).reverse (bB ns.reverse p)) l
theorem Bo (ns:List Nat) (l:List TR):(mR ns l).length=ah ns:=by unfold mR;rw [abH,adn,cf]
def uU (l:List TR):QL:=l.map fun t=>((cX t.m).reverse,t.c.d)
theorem Fc {ns:List Nat}{l:List TR} (hl:∀t∈l,ku ns.reverse (cX t.m).reverse):rB ns.reverse (uU l) ns.length=mR ns l:=by
 have hL:∀q∈uU l,ku ns.reverse q.1:=fun q hq=>by
  obtain ⟨t,ht,rfl⟩:=abL.1 hq;exact hl t ht
 refine Vo (ds:=ns.reverse) (E7 _ _ _) (by rw [Bo,cf]) fun row hr=> ?_;have hp:=ke hr;rw [Mj hL ns.length (by rw [abY];exact abD _) row hr,JI hr,show ns.reverse.length-ns.length=0 by rw [abY,acs]];unfold mR uU;rw [abI,acy hp,re];show _=wS _ l;rw [Ir,iw hr]
theorem DN:∀{ds rs:List Nat} (a:Nat),ku ds rs→rs.getD a 0≤ds.getD a 0
 |[],[],_,_=>by simp
 |[],_::_,_,h=>by cases h
 |_::_,[],_,h=>by cases h
 |_::_,_::_,0,h=>h.1
 |_::ds,_::rs,a+1,h=>DN (ds:=ds) (rs:=rs) a h.2
theorem J0 {a d:Nat} (hx:∀x∈X,Sz k x) (hd:ds.getD a 0=d) (hd7:d≤127):∀x∈eu ds a (fa d 1 1) X,Sz (k+520) x:=fun x h=>by
 obtain ⟨p,_,rfl⟩:=abL.1 h;have hr:(bB ds p).getD a 0≤d:=by rw [←hd];exact DN a (iA ds p)
 have h2:=Pr (l:=List.range (ds.getD a 0+1)) (f:=fun i=>co ds X ((bB ds p).set a i)*fa d 1 1 i ((bB ds p).getD a 0)) (k:=k+(130+2*(1*d))) fun i _=>by
  refine Sz.mul ?_ (Jd Sz.one Sz.one hd7 hr);unfold co;split
  ·cases h:X[dh ds ((bB ds p).set a i)]? with
   |none=>exact Sz.zero k
   |some y=>exact hx y (abz h)
  ·exact Sz.zero k
 rw [adn,hd] at h2;rw [hd];exact h2.mono abq
theorem Nz {B:Nat} (h:∀d∈ds,d≤B) (a:Nat):ds.getD a 0≤B:=by
 rw [adm]
 cases ha:ds[a]? with
 |none=>exact abB _
 |some d=>exact h d (abz ha)
theorem Gx {ds:List Nat}{L:QL}{k:Nat} (h:∀x∈X0 ds L,Sz k x) (hd:∀d∈ds,d≤127):∀i,∀x∈rB ds L i,Sz (k+520*i) x
 |0=>h
 |i+1=>fun x hx=>(J0 (Gx h hd i) rfl (Nz hd _) x hx).mono abq
theorem SY {l:List TR} (h:iO k l):∀x∈X0 ds (uU l),Sz (k+l.length) x:=fun x hx=>by
 have:=A0 (N:=ah ds) (L:=(uU l).map fun (q:List Nat×Dyadic)=>(dh ds q.1,q.2)) (k:=k) (fun a ha=>by
  obtain ⟨q,hq,rfl⟩:=abL.1 ha;obtain ⟨t,ht,rfl⟩:=abL.1 hq;exact (h t ht).2) x hx
 unfold uU at this;rwa [abH,abH] at this
structure n0 (p:PX) (b:List SR) (ns:List Nat):Prop where
 e:p.e=0
 box:p7 b=0
 pos:0<b.length
 sY:b.length≤12
 v:p.v=b.length
 nl:ns.length=b.length
 low:∀d∈ns,d≤127
 most:ah ns≤4096
 own:∀(i d:Nat),ns[i]?=some d→∀t∈p.ts,iJ i t≤d
theorem wU {p:PX}{b:List SR}{D:List Int} (h:nH p b D=0):D=a0 (D.map Int.toNat)∧n0 p b (D.map Int.toNat):=by
 unfold nH at h;by_cases h0:p.e≠0
 ·rw [abx h0] at h;exact absurd h h0
 ·rw [abw h0] at h;by_cases h1:p7 b≠0
  ·rw [abx h1] at h;exact absurd h h1
  ·rw [abw h1] at h;by_cases h2:(b.length:Int)≠p.v∨(D.length:Int)≠p.v
   ·rw [abx h2] at h;exact absurd h abr
   ·rw [abw h2] at h;by_cases h3:FA (y7 p.v p.ts) D=true
    ·rw [abx h3] at h;exact absurd h abr
    ·rw [abw h3] at h;by_cases h4:iZ 1 D=0
     ·rw [abx h4] at h;exact absurd h abr
     ·have hpe:p.e=0:=ac7.1 h0;obtain ⟨f1,_,_,_⟩:=cv hpe;have f2:=fN.1 f1;obtain ⟨o1,o2,o3⟩:=oO hpe;have hbv:(b.length:Int)=p.v:=ac7.1 fun c=>h2 (.inl c);have hdv:(D.length:Int)=p.v:=ac7.1 fun c=>h2 (.inr c);have hD:∀(i:Nat) (y:Int),D[i]?=some y→∃d:Nat,(bY p.v p.ts)[i]?=some d∧(d:Int)≤y∧y≤127:=fun i y hy=>by
       have hi:=(abM.1 hy).1;obtain ⟨d,hd⟩:=ai (l:=bY p.v p.ts) (k:=i) abq;have hg:(y7 p.v p.ts)[i]?=some (d:Int):=by rw [o1];exact eA hd
       have:=ac9.1 ((Bool.not_eq_true _).mp h3) _ (abz (Js hg hy));rw [ab1] at this;exact ⟨d,hd,by show (d:Int)≤y;omega,by show y≤127;omega⟩
      have hnat:D=a0 (D.map Int.toNat):=by
       unfold a0;rw [ack];refine (aeH _).symm.trans (acT fun y hy=> ?_);obtain ⟨i,hi⟩:=acG.1 hy;obtain ⟨d,_,h5,_⟩:=hD i y hi;show y=((y.toNat:Nat):Int);omega
      have hlow:∀d∈D.map Int.toNat,d≤127:=fun d hd=>by
       obtain ⟨y,hy,rfl⟩:=abL.1 hd;obtain ⟨i,hi⟩:=acG.1 hy;obtain ⟨_,_,_,h6⟩:=hD i y hi;omega
      refine ⟨hnat,hpe,ac7.1 h1, ?_,abq,hbv.symm,by rw [abH];omega,hlow, ?_,fun i d hd t ht=> ?_⟩
      ·rcases adw b.length with c|c
       ·have h9:=ac7.1 h1;unfold p7 at h9;rw [aeu.1 c] at h9;exact absurd h9 abr
       ·exact c
      ·have h8:=lG (D.map Int.toNat) 1 (abD _) abr hlow;rw [←hnat,adZ] at h8;rw [show iZ 1 D=iZ ((1:Nat):Int) D from rfl,h8] at h4;exact ac7.1 fun c=>h4 (abw c)
      ·rw [abI] at hd;obtain ⟨y,hy,hyd⟩:=adA.1 hd;obtain ⟨d2,h7,h8,h9⟩:=hD i y hy;have:=(o3 i d2 h7).2.1 t ht;omega
theorem n0.BX {p:PX}{b:List SR}{ns:List Nat} (h:n0 p b ns):(bY p.v p.ts).length=b.length:=by
 rw [(oO h.e).2.1,h.v];exact ada _
theorem QZ (v i:Nat) (c:NR):pe (fun x=>if x=i then 1 else 0) [⟨mN v i,c⟩]:=fun t ht j=>by
 rw [abX.1 ht]
 cases he:(⟨mN v i,c⟩:TR).m.data.toList[j]? with
 |none=>unfold iJ;rw [he];exact abB _
 |some e=>
  rw [tP he];show e.toNat≤if j=i then 1 else 0
  have e1:((List.replicate v (0:UInt8)).set i 1)[j]?=some e:=by simpa [mN] using he
  rw [acV] at e1;by_cases hj:i=j
  ·rw [abx hj] at e1;rw [abx hj.symm];split at e1
   ·rw [←aca e1];decide
   ·cases e1
  ·rw [abw hj] at e1;rw [(List.mem_replicate.1 (abz e1)).2];exact abB _
theorem zX (v i:Nat) (s:SR):pe (fun x=>if x=i then 1 else 0) (iX v i s):=by
 refine pe.aA (pe.append ((xP v _).aA.mono fun x=>abB _) (pe.aA fun t ht j=> ?_));obtain ⟨z,hz,rfl⟩:=abL.1 ht;rw [show iJ j (qI (s.H-s.L) z)=iJ j z from rfl];exact (QZ v i _).aA z hz j
theorem ti {p:PX}{b:List SR}{ns:List Nat} (h:n0 p b ns) (ho:iO k p.ts) (hb:∀s∈b,s.fin k) (hk:k≤1000) (hgr:fH (k+k+16394) (bY p.v p.ts) (k+1)≤440000) (h0:(cU p (a7 b)).1=0):
  kv b.length 440000 (cU p (a7 b)).2∧∀t∈(cU p (a7 b)).2,ku ns.reverse (cX t.m).reverse:=by
 have hl:=h.sY;have hpos:=h.pos;have hln:=k9 b;obtain ⟨_,o2,o3⟩:=oO h.e;have hol:=h.BX;have hhv:ir (a7 b)=b.length:=by
  obtain ⟨s,hs⟩:=ai (l:=b) (k:=0) abq;rw [oe (iE hs)]
 unfold cU at h0 ⊢;rw [abw (fun c=>c h.e),abw (by rw [hln,h.v];exact fun c=>c rfl)] at h0 ⊢;by_cases hlk:(a7 b).length≠0∧ic (a7 b)≠0
 ·rw [abx hlk] at h0;exact absurd h0 hlk.2
 ·rw [abw hlk,hhv] at h0 ⊢;have hq:∀q∈(a7 b).map PX.ts,kv b.length (k+k+10) q∧q.length≤2:=fun q hq=>by
   obtain ⟨g,hg,rfl⟩:=abL.1 hq;obtain ⟨i,s,hs,rfl⟩:=GV hg;exact pG hl (hb s (abz hs)) abq
  have h1:=I6 (jM hl) (show k+k+10+4096*2+8192≤k+k+16394 by omega) ((a7 b).map PX.ts) 0 p.ts (bY p.v p.ts) k hq ho (by rw [abH,hln,hol]) (fun i d hd=>⟨(o3 i d hd).1,fun t ht=>by rw [ab2];exact (o3 i d hd).2.1 t ht⟩) abq h0;refine ⟨h1.mono hgr, ?_⟩;have h2:=JT ((a7 b).map PX.ts) 0 p.ts (fun i=>(ns[i]?).getD 0) (fun i q hi=> ?_) (fun t ht i hi=> ?_) h0
  ·intro t ht;have hm:=(cv h1.e).2.2.1 t ht;unfold fY at hm;rw [abS,ab1] at hm;have hsz:(cX t.m).length=b.length:=by rw [n7];omega
   rw [nc];refine ⟨by rw [abY,abY,hsz,h.nl],fun i d r hd hr=> ?_⟩;have hi:=(abM.1 hd).1;rw [abY] at hi;rw [ac6 hi] at hd;rw [ac6 (by rw [hsz,←h.nl];exact hi),hsz,←h.nl] at hr;have h3:=h2 t ht (ns.length-1-i);dsimp only at h3;rw [abH,hln,abx ⟨abB _,by have:=h.nl;omega⟩,hd,H9,hr] at h3;exact h3
  ·rw [abI] at hi;obtain ⟨g,hg,rfl⟩:=adA.1 hi;obtain ⟨s,hs⟩:=ai (l:=b) (k:=i) (by have:=(abM.1 hg).1;rwa [hln] at this);rw [iE hs] at hg;rw [←aca hg,ab2];exact zX _ i s
  ·rw [abH,hln] at hi;rw [ab2];obtain ⟨d,hd⟩:=ai (l:=ns) (k:=i) (by rw [h.nl];exact hi);rw [hd];exact h.own i d hd t ht
theorem AN (L:Option Addr) (n c d:Nat) (xs:List Dyadic) (k:Nat) (w:World) (hT:dq w) (hS:Sl w L n 3 (ar NR.cells (xs.map nR))) (hn:n=d+1) (hd:d≤127) (hx:∀x∈xs,Sz k x) (hk:k≤500000):
  Calls Tryz.prog 156 #[.slice L n c] w fun r w'=>∃A c',r=.returned (.slice A n c')∧Hp w [.row A n c' 33 3 (ar NR.cells ((dz d (fa d 1 1) xs).map nR))] w':=by
 have hh:=Hp.start w;have hln:xs.length=n:=by have:=hS.aX NR.len abr;simpa using this
 have ha:Sz 1 1:=Sz.one;obtain ⟨ad,rfl,hr⟩:=hS.at_ abq;refine ae (N:=52) (l:=[.slice (some ad) n c]) Tryz.func156 rfl rfl (by simp) ?_;refine aj ?_;refine zk ?_;intro b14 w14 hh;refine aj ?_;rw [sK,hn,←wc d 1 1 xs,←hn] at hh;refine aH [5,6,7,8,17,18,19,20,21,22,23,24,25,26,27,28,29,30,31,32,33,34,35,36,37,38,39,40,41,42,43,44,45,46,47,48,49,50] 17
  (fun v w'=>∃i:Nat,i≤n∧v=.int .i64 i∧Hp w [.row (some ⟨b14,0,none⟩) n n 33 3 (ar NR.cells ((jD d 1 1 xs i 0).map nR))] w')
  (fun v _=>n-(intOf v).toNat) ?_ ?_
 ·exact ⟨0,abB _,rfl,hh⟩
 ·clear hh;rintro ρ' v w' ⟨i,hi,rfl,hh⟩;by_cases hlt:i<n
  ·obtain ⟨x,hxi⟩:=ai (l:=xs) (k:=i) abq;have hxn:(xs.map nR)[i]?=some (nR x):=by rw [abI,hxi];rfl
   have hat:gY xs i=x:=by unfold gY;rw [hxi];rfl
   have zx:=hx x (abz hxi);have hch:=fun w1 hT1=>qa (d-i) w1 hT1 abq;refine aj ?_;refine bF (vs:=[_,_,_]) az.out rfl ((hr.ext hh.below).recAt NR.len hxn) rfl abr ?_;refine bX ?_;intro b6 w6 hh ws hh;have e24:(n:Int)-1-(i:Int)=((d-i:Nat):Int):=abq;rw [←e24] at hch;refine au (hch _ (hT.hp hh)) ak.out rfl abr ?_;rintro e_ w25 ⟨A25,c25,rfl,hown_,hb_⟩;refine ⟨_,rfl, ?_⟩;replace hh:=hh.aD (x:=.row _ _ _ _ _ _) hb_ hown_;refine aj ?_;replace hh:=hh.sub (aby _ (aby _ (aby _ abV)));refine aH [7,8,27,28,29,30,31,32,33,34,35,36,37,38,39,40,41,42,43,44,45,46,47,48,49] 27
    (fun v w'=>∃j:Nat,j≤d-i+1∧v=.int .i64 j∧Hp w [.row A25 (d-i+1) c25 33 3 (ar NR.cells (nY (d-i))),.blk b6 33 [.bool (nR x).neg,.string (nR x).aO,.int .i64 (nR x).e] (0,0),.row (some ⟨b14,0,none⟩) n n 33 3 (ar NR.cells ((jD d 1 1 xs i j).map nR))] w')
    (fun v _=>d-i+1-(intOf v).toNat) ?_ ?_
   ·exact ⟨0,abB _,rfl,hh⟩
   ·clear hh;rintro ρ2 v w2 ⟨j,hj,rfl,hh⟩;by_cases hjn:j<d-i+1
    ·have hbn:(nY (d-i))[j]?=some (nR (nD (bin (d-i) j))):=na abq;have zb:=sW (d-i) j abq;obtain ⟨o,ho⟩:=ai (l:=jD d 1 1 xs i j) (k:=i+j) (by rw [lJ];omega);have hon:((jD d 1 1 xs i j).map nR)[i+j]?=some (nR o):=by rw [abI,ho];rfl
     have zo:=vq (j:=j) hx ha ha hd (show i≤d+1 by omega) o (abz ho);have zy:=zx.mul zb;have hm2:=fun A cc w1 hT1 hS1=>eC A 2 cc [nR x,nR (nD (bin (d-i) j))] w1 hT1 hS1 (by simpa using ⟨zx.ok abq,zb.ok abq⟩) 600000 (by simpa [a6] using ⟨zx.mono abq,zb.mono abq⟩) abq abq;rw [show gO ([nR x,nR (nD (bin (d-i) j))].map NR.d)=x*nD (bin (d-i) j) by simp only [ab8,acF,a6];show 1*x*_=_;rw [adq]] at hm2;have hset:=C8 (show i+j≤d by omega) ho;have hval:gY xs i*fa d 1 1 i (i+j)=x*nD (bin (d-i) j):=by
      unfold fa;rw [hat,abw abq,show i+j-i=j by omega,j5,j5];generalize nD (bin (d-i) j)=u;grind
     rw [hval] at hset;generalize x*nD (bin (d-i) j)=y at*;have hsum:=fun A cc w1 hT1 hS1=>gl A 2 cc [nR o,nR y] w1 hT1 hS1 (by simpa using ⟨zo.ok abq,zy.ok abq⟩) 2000000 (by simpa [a6] using ⟨zo.mono abq,zy.mono abq⟩) abq;rw [show nM ([nR o,nR y].map NR.d)=o+y by simp only [ab8,acF,a6,jH]] at hsum;have hll:((jD d 1 1 xs i j).map nR).length=n:=by rw [abH,lJ];omega
     generalize jD d 1 1 xs i j=S at*;have hrl:=eH NR.len (S.map nR);obtain ⟨gw,rfl⟩:=hh.bP (i:=0) rfl abq;refine aj ?_;refine bF (vs:=[_,_,_]) az.out rfl (hh.df (f:=NR.cells) (x:=nR (nD (bin (d-i) j))) (l:=nY (d-i)) (i:=0) rfl NR.len abr hbn) rfl abr ?_;refine bX ?_;intro b8 w8 hh ws hh;refine aC 16 [[(4,none)],[(5,none)],[(7,none)],[(33,some 1),(34,some 2)],[(4,none)],[(5,none)],[(7,none)],[(37,some 5),(38,some 6)],[(36,some 4),(39,some 7)],[(40,some 8)],[(6,none)],[(8,none)],[(42,some 10),(43,some 11)],[(44,some 12)],[(41,some 9),(45,some 13)],[(46,some 14)]] [(15,47),(14,46),(13,45),(12,44),(11,43),(10,42),(9,41),(8,40),(7,39),(6,38),(5,37),(4,36),(3,35),(2,34),(1,33),(0,32)] hh mixed abt ?_;refine fO ?_;refine dp ?_;refine dp ?_;refine tk ?_;refine fO ?_;refine dp ?_;refine dp ?_;refine tk ?_;refine CN ((i+j)) ?_;refine p9 [_,_,_] (fun _ hj=>hj.hp.df (f:=NR.cells) (x:=nR o) (l:=S.map nR) (i:=3) rfl NR.len abr hon) ?_;refine da 2 [_,_,_] ?_;refine da 0 [_,_,_] ?_;refine uW [_,_,_,_,_,_] ?_
     refine aW (i:=13) (Is (.agg #[.bool (nR y).neg,.string (nR y).aO,.int .i64 (nR y).e])) Is.ext ?_ ?_
     ·intro ρ1 w1 hj hR;obtain ⟨A44,c44,h44,s44⟩:=hR.1;exact bp rfl (aR ak.out (aq h44 aY)) (hm2 A44 c44 _ (hT.hp hj.hp) s44) (fun _ _ hq=>⟨_,hq.1,hq.2,rfl⟩)
     refine uW [_,_,_,_,_,_] ?_;refine aW (i:=15) (Is (.agg #[.bool (nR (o+y)).neg,.string (nR (o+y)).aO,.int .i64 (nR (o+y)).e])) Is.ext ?_ ?_
     ·intro ρ1 w1 hj hR;obtain ⟨A46,c46,h46,s46⟩:=hR.1;exact bp rfl (aR ak.out (aq h46 aY)) (hsum A46 c46 _ (hT.hp hj.hp) s46) (fun _ _ hq=>⟨_,hq.1,hq.2,rfl⟩)
     refine av ?_;intro f W hJ hV;have hb_9:=hJ.bl;obtain ⟨v47,v46,v45,v44,v43,v42,v41,v40,v39,v38,v37,v36,v35,v34,v33,v32,_⟩:=hV;obtain ⟨A44,c44,e44,f44⟩:Rows _ _ _ (f 12) W:=v44;obtain ⟨A46,c46,e46,f46⟩:Rows _ _ _ (f 14) W:=v46;replace hh:=hJ.hp;refine ay (aQ (aa v47 (aa e46 (aa v45 (aa e44 (aa v43 (aa v42 (aa v41 (aa v40 (aa v39 (aa v38 (aa v37 (aa v36 (aa v35 (aa v34 (aa v33 (aa v32 aw))))))))))))))))) ?_;dsimp only [bA];clear e44 e46 hJ;refine dF (k:=(i+j)) bq.out az.size rfl rfl abq abq abr ?_;refine JS ?_;intro ws hh;simp only [abK,ab9] at hh;rw [show bK (ar NR.cells (S.map nR)) ((i+j)*3) [.bool (nR (o+y)).neg,.string (nR (o+y)).aO,.int .i64 (nR (o+y)).e]=ar NR.cells ((S.map nR).set (i+j) (nR (o+y))) from ew NR.len abq,←adz,hset] at hh;refine aj ?_;replace hh:=hh.sub (abA _ (aby _ (aby _ (aby _ abV))));exact TP
    ·obtain rfl:j=d-i+1:=abq;rw [zI abq] at hh;refine aj ?_;replace hh:=hh.sub (abA _ (abA _ (aby _ abV)));exact vH
  ·obtain rfl:i=n:=abq;rw [show jD d 1 1 xs i 0=dz d (fa d 1 1) xs by rw [hn,pr]] at hh;refine aj ?_;exact ⟨_,_,rfl,hh⟩
def ZR (fx:FX) (hs:List Int):Int:=if fx.e≠0 then fx.e else if hs.any (R4 fx.n)=true then 1 else 0
def aan (R:List HE) (g:FX):Prop:=R=[g.jW,g.jY]∨g.m=0∧R=[g.jY]
theorem BZ (A:Option Addr) (n c a d:Nat) (ns:List Nat) (w:World) (hS:Sl w A n 1 (bh (a0 ns))) (hcap:n≤c) (hn:n≤1000) (hd:ns[a]?=some d) (hlow:∀x∈ns,x≤127) (hmax:ah ns≤4096):
  Calls Tryz.prog 154 #[.slice A n c,.int .i64 a] w fun r w'=>r=.returned (.agg #[.int .i64 ((d:Int)+1),.int .i64 (ah (ns.drop (a+1)):Nat)])∧Below w.heap.size w w':=by
 have hh:=Hp.start w;have hln:ns.length=n:=by have:=hS.1;simpa [bh,a0] using this
 have ha:=(abM.1 hd).1;have hd127:=hlow d (abz hd);have hgd:=cM (eA hd);have hbk:=hS.back (l:=a+1) (c:=c) abq hcap;have hds:(bh (a0 ns)).drop ((a+1)*1)=bh (a0 (ns.drop (a+1))):=by
  rw [abZ];unfold bh a0;rw [←aeq,←aeq]
 rw [hds] at hbk;have hcd:iZ 1 (a0 (ns.drop (a+1)))=(ah (ns.drop (a+1)):Nat):=by
  have h1:=lG (ns.drop (a+1)) 1 abr abr (fun x hx=>hlow x (afb hx));have h2:ah (ns.drop (a+1))≤ah ns:=by
   have h3:ah ns=ah (ns.take (a+1))*ah (ns.drop (a+1)):=by rw [←dt,acH]
   rw [h3];exact aeC _ (de _)
  rw [adZ,abx abq] at h1;exact h1
 have hcnt:=fun w1 hS1=>fk (if c=a+1 then A else A.map (·.add ((a+1)*1))) (n-(a+1)) (c-(a+1)) (a0 (ns.drop (a+1))) w1 hS1 abq;rw [hcd] at hcnt;obtain ⟨ad,rfl,srd⟩:=hS.at_ abq;refine ae (N:=16) (l:=[.slice (some ad) n c,.int .i64 a]) Tryz.func154 rfl rfl (by simp) ?_;refine bT ?_;intro b4 w4 hh;refine aC 10 [[(0,none)],[(1,none)],[(5,some 0),(6,some 1)],[(7,some 2)],[(8,some 3)],[(0,none)],[(1,none)],[(11,some 6)],[(10,some 5),(12,some 7)],[(13,some 8)]] [(9,14),(8,13),(7,12),(6,11),(5,10),(4,9),(3,8),(2,7),(1,6),(0,5)] hh mixed abt ?_;refine fO ?_;refine dp ?_;refine mU (a) ?_;refine yY (fun _ hj=>(srd.ext hj.hp.below).vc hgd) ?_;refine tk ?_;refine fO ?_;refine dp ?_;refine tk ?_;refine a8 (i:=8) (fun ρ1 w1 hj hR=>gJ (l:=(a+1)) bq.out az.size (show ρ1 10=Value.slice _ _ _ from hR.1) (show ρ1 12=Value.int _ _ from hR.2.1) abq abq abq) ?_;refine dC (fun _ hj=>hcnt _ (hbk.ext hj.hp.below)) ?_;refine av ?_;intro f W hJ hV;have hb_1:=hJ.bl;obtain ⟨v14,v13,v12,v11,v10,v9,v8,v7,v6,v5,_⟩:=hV;replace hh:=hJ.hp;refine S2 ?_;dsimp only [bA];clear hJ;exact uR
theorem KF (A:List Nat) (d f i q:Nat):bW A d f i q=bW A d f 0 q+i*ah A:=by
 unfold bW;rw [acw,acw,adT,abU i];omega
theorem CG (g:FuncId) [ak Tryz.prog g] (A B:List Nat) (d L:Nat) (φ:List Dyadic→List Dyadic) (C:Option Addr) (n c k:Nat) (X:List Dyadic) (w:World) (hT:dq w) (hS:Sl w C n 3 (ar NR.cells (X.map nR))) (hn:n=ah (A++d::B)) (hmax:n≤4096) (hL:L≤d+1) (hd:d≤127) (hx:∀x∈X,Sz k x)
  (hg:∀(Y:List Dyadic) (D:Option Addr) (dc:Nat) (w1:World),dq w1→(∀y∈Y,Sz k y)→Sl w1 D (d+1) 3 (ar NR.cells (Y.map nR))→Calls Tryz.prog g #[.slice D (d+1) dc] w1 fun r w'=>∃E ec,r=.returned (.slice E L ec)∧Hp w1 [.row E L ec 33 3 (ar NR.cells ((φ Y).map nR))] w')
  (hφ:∀Y:List Dyadic,Y.length=d+1→(φ Y).length=L):
  Calls Tryz.prog 155 #[.agg #[.int .i64 ((d:Int)+1),.int .i64 (ah A:Nat)],.slice C n c,.func (.func g) #[] #[]] w fun r w'=>∃E ec,r=.returned (.slice E n ec)∧Hp w [.row E n ec 33 3 (ar NR.cells ((kJ A d L φ X n 0).map nR))] w':=by
 have hh:=Hp.start w;have hXl:X.length=n:=by have:=hS.aX NR.len abr;simpa using this
 have hap:=de A;have hap2:ah A≤n:=by
  rw [hn,dt];exact aff _ (de _)
 have hcl:=fun w1 hb=>m7 C n c (X.map nR) w1 (hS.ext hb) abq;refine ae (N:=67) (l:=[.agg #[.int .i64 ((d:Int)+1),.int .i64 (ah A:Nat)],.slice C n c,.func (.func g) #[] #[]]) Tryz.func155 rfl rfl (by simp) ?_;refine bT ?_;intro b3 w3 hh;refine au (hcl _ hh.below) ak.out rfl abr ?_;rintro e_ w14 ⟨A14,c14,rfl,hown_,hb_⟩;refine ⟨_,rfl, ?_⟩;replace hh:=hh.aD (x:=.row _ _ _ _ _ _) hb_ hown_;rw [show X.map nR=(kJ A d L φ X 0 0).map nR by rw [Ku]] at hh;clear hcl;refine aj ?_;refine aH [8,9,10,11,12,17,18,19,20,21,22,23,24,25,26,27,28,29,30,31,32,33,34,35,36,37,38,39,40,41,42,43,44,45,46,47,48,49,50,51,52,53,54,55,56,57,58,59,60,61,62,63,64,65] 17
  (fun v w'=>∃F:Nat,F≤n∧v=.int .i64 F∧Hp w [.row A14 n c14 33 3 (ar NR.cells ((kJ A d L φ X F 0).map nR)),.blk b3 184 [.int .i64 ((d:Int)+1),.int .i64 (ah A:Nat)] (0,0)] w')
  (fun v _=>n-(intOf v).toNat) ?_ ?_
 ·exact ⟨0,abB _,rfl,hh⟩
 ·clear hh;rintro ρ' v w' ⟨F,hF,rfl,hh⟩;by_cases hlt:F<n
  ·have hcast:((F:Int)/((ah A:Nat):Int)) % ((d:Int)+1)=((F/ah A % (d+1):Nat):Int):=by norm_cast
   have hq0:(0:Int)≤(F:Int)/((ah A:Nat):Int):=Int.ediv_nonneg abq abq;by_cases h0:F/ah A % (d+1)=0
   ·obtain ⟨u0,hfF⟩:∃u0,u0=F % ah A:=⟨_,rfl⟩;obtain ⟨q,hqF⟩:∃q,q=F/ah A/(d+1):=⟨_,rfl⟩;have hf:u0<ah A:=by rw [hfF];exact ab4 _ hap
    have hFe:F=bW A d u0 0 q:=by rw [hfF,hqF,←h0,vu]
    have hq:q<ah B:=by
     rw [hqF,ac4,acN (Nat.mul_pos hap abq)];rw [hn,dt,ah] at hlt
     calc F<ah A*((d+1)*ah B):=hlt
      _=ah B*(ah A*(d+1)):=by rw [←acE,abU]
    have hpl:∀i,i≤d→bW A d u0 i q<n:=fun i hi=>by rw [hn];exact oD hf hi hq
    have hpi:∀i,bW A d u0 i q=F+i*ah A:=fun i=>by rw [hFe];exact KF A d u0 i q
    have hxl:(ck A d X u0 q).length=d+1:=by simp [ck]
    have hxz:∀y∈ck A d X u0 q,Sz k y:=fun y hy=>by
     obtain ⟨i,hi,rfl⟩:=abL.1 hy;exact qN hx _
    obtain ⟨ad,hCA,hr⟩:=hS.at_ abq;rw [hCA] at*;refine aj ?_;refine SU ?_;refine dp ?_;refine dw ?_;refine fF 1 ?_;refine Tp ?_;refine dw ?_;refine fF 1 ?_;refine av ?_;intro f W hJ hV;have hb_5:=hJ.bl;obtain ⟨v25,v24,v23,v22,v21,v20,_⟩:=hV;replace hh:=hJ.hp;refine ay (aQ (aa v25 (aa v24 (aa v23 (aa v22 (aa v21 (aa v20 aw))))))) ?_;dsimp only [bA];clear hJ;refine aj ?_;replace hh:=hh.cJ 33 3;refine bk [9,10,30,31,32,33,34,35,36,37,38,39,40,41,42,43,44,45] 9 30
     (fun a v w'=>∃(i:Nat) (A':Option Addr) (c':Nat),i≤d+1∧v=.int .i64 i∧a=.slice A' i c'∧Hp w [.row A' i c' 33 3 (ar NR.cells (((ck A d X u0 q).take i).map nR)),.row A14 n c14 33 3 (ar NR.cells ((kJ A d L φ X F 0).map nR)),.blk b3 184 [.int .i64 ((d:Int)+1),.int .i64 (ah A:Nat)] (0,0)] w')
     (fun _ v _=>d+1-(intOf v).toNat) ?_ ?_
    ·exact ⟨0,none,0,abB _,rfl,rfl,hh⟩
    ·clear hh;rintro ρ2 a_ v w2 ⟨i,A',c',hi,rfl,rfl,hh⟩;by_cases hil:i<d+1
     ·obtain ⟨y,hy⟩:=ai (l:=ck A d X u0 q) (k:=i) abq;have hyx:(X.map nR)[bW A d u0 i q]?=some (nR y):=by
       have h1:=hpl i abq;unfold ck at hy;rw [abI,acy hil] at hy;have h2:(X[bW A d u0 i q]?).getD 0=y:=aca hy;rw [abI,mQ (show bW A d u0 i q<X.length by omega)];show some (nR (gY X _))=_;unfold gY;rw [h2]
      have hpn:=hpl i abq;have hpq:=hpi i;obtain ⟨m,hm⟩:∃m,m=i*ah A:=⟨_,rfl⟩;have hmi:(i:Int)*((ah A:Nat):Int)=(m:Int):=by rw [hm];exact (acK _ _).symm
      rw [←hm] at hpq;refine sr ?_;refine nP (aJ (bO (cT (dA (eF (bO (lk (sr (mI (aI (aJ (bR (mL (mL (mI (mI (tq ?_)))))))))))))))));refine p8 hh 2 ?_;refine mulC ?_;refine nC ?_;refine du (k:=(bW A d u0 i q)) bq.out az.size rfl rfl abq abq abr ?_;refine bF (vs:=[_,_,_]) az.out rfl ((hr.ext hh.below).recAt NR.len hyx) rfl abr ?_;refine rR ?_;intro b43 w43 hh;refine qm ?_;intro A44 c44 w44 hh;simp only [abK,ab9] at hh;replace hh:=hh.sub (acn _ _);refine aj ?_;have e1:ar NR.cells (((ck A d X u0 q).take i).map nR)++[.bool (nR y).neg,.string (nR y).aO,.int .i64 (nR y).e]=ar NR.cells (((ck A d X u0 q).take (i+1)).map nR):=by rw [al hy,acM,bo,ab8,acF,mD];rfl
      rw [e1] at hh;refine ⟨⟨i+1,A44,c44,abq,rfl,rfl,hh⟩,by show d+1-(i+1)<d+1-i;omega, ?_⟩;exact dI
     ·obtain rfl:i=d+1:=abq;rw [abG abq] at hh;refine aj ?_;refine g7 (hg (ck A d X u0 q) A' c' _ (hT.hp hh) hxz (hh.ao (i:=0) rfl)) ak.out rfl rfl abr ?_;rintro e_ w48 ⟨E,ec,rfl,h4⟩;refine ⟨_,rfl, ?_⟩;replace hh:=hh.join h4;clear h4;simp only [abE,abC] at hh;replace hh:=hh.sub (aby _ (abA _ (aby _ (aby _ abV))));have hφl:=hφ (ck A d X u0 q) hxl;refine aj ?_;refine aH [11,12,50,51,52,53,54,55,56,57,58,59,60,61,62,63,64] 50
       (fun v w'=>∃j:Nat,j≤L∧v=.int .i64 j∧Hp w [.row E L ec 33 3 (ar NR.cells ((φ (ck A d X u0 q)).map nR)),.row A14 n c14 33 3 (ar NR.cells ((kJ A d L φ X F j).map nR)),.blk b3 184 [.int .i64 ((d:Int)+1),.int .i64 (ah A:Nat)] (0,0)] w')
       (fun v _=>L-(intOf v).toNat) ?_ ?_
      ·exact ⟨0,abB _,rfl,hh⟩
      ·clear hh;rintro ρ3 v w3 ⟨j,hj,rfl,hh⟩;by_cases hjl:j<L
       ·obtain ⟨y,hy⟩:=ai (l:=φ (ck A d X u0 q)) (k:=j) abq;have hyn:((φ (ck A d X u0 q)).map nR)[j]?=some (nR y):=by rw [abI,hy];rfl
        have hpn:=hpl j abq;have hpq:=hpi j;have hset:=PN (φ:=φ) (X:=X) (q:=q) hf hjl (show j≤d by omega);rw [←hFe,show gY (φ (ck A d X u0 q)) j=y by unfold gY;rw [hy];rfl] at hset;obtain ⟨m,hm⟩:∃m,m=j*ah A:=⟨_,rfl⟩;have hmi:(j:Int)*((ah A:Nat):Int)=(m:Int):=by rw [hm];exact (acK _ _).symm
        rw [←hm] at hpq;have hll:((kJ A d L φ X F j).map nR).length=n:=by rw [abH,jL];exact hXl
        generalize kJ A d L φ X F j=S at*;generalize bW A d u0 j q=P at*;have hrl:=eH NR.len (S.map nR);obtain ⟨gr,rfl⟩:=hh.bP (i:=0) rfl abq;obtain ⟨go,rfl⟩:=hh.bP (i:=1) rfl abq;refine aj ?_;refine bF (vs:=[_,_,_]) az.out rfl (hh.df (f:=NR.cells) (x:=nR y) (l:=(φ (ck A d X u0 q)).map nR) (i:=0) rfl NR.len abr hyn) rfl abr ?_;refine yU hh ?_;intro b12 w12 hh;refine aI ?_;refine gE hh 0 [_,_,_] ?_;intro ws hh;replace hh:Hp _ (.blk _ _ [_,_,_] _::_) _:=hh;refine aJ (bR (mL (mI (mI (tq ?_)))));refine p8 hh 3 ?_;refine mulC ?_;refine nC ?_;refine m9 hh 0 [_,_,_] ?_;refine dF (k:=P) bq.out az.size rfl rfl abq abq abr ?_;refine bM hh (i:=2) (vs:=[_,_,_]) rfl rfl (eR rfl) rfl az.out rfl abq rfl ?_;intro ws hh;simp only [abK,ab9] at hh;rw [show bK (ar NR.cells (S.map nR)) (P*3) [.bool (nR y).neg,.string (nR y).aO,.int .i64 (nR y).e]=ar NR.cells ((S.map nR).set P (nR y)) from ew NR.len abq,←adz,hset] at hh;refine aj ?_;replace hh:=hh.sub (abA _ (aby _ (aby _ (aby _ abV))))
        refine ⟨⟨j+1,abq,rfl,hh⟩,by show L-(j+1)<L-j;omega, ?_⟩;exact dI
       ·rw [J7 (show L≤j by omega)] at hh;refine aj ?_;replace hh:=hh.sub (abA _ (aby _ (aby _ abV)));refine ⟨⟨F+1,abq,rfl,hh⟩,by show n-(F+1)<n-F;omega, ?_⟩;exact dI
   ·rw [Lw h0] at hh;refine aj ?_;refine SU ?_;refine dp ?_;refine dw ?_;refine fF 1 ?_;refine Tp ?_;refine dw ?_;refine fF 1 ?_;refine av ?_;intro f W hJ hV;have hb_5:=hJ.bl;obtain ⟨v25,v24,v23,v22,v21,v20,_⟩:=hV;replace hh:=hJ.hp;refine ay (aQ (aa v25 (aa v24 (aa v23 (aa v22 (aa v21 (aa v20 aw))))))) ?_;dsimp only [bA];clear hJ;refine aj ?_;refine ⟨⟨F+1,abq,rfl,hh⟩,by show n-(F+1)<n-F;omega, ?_⟩;exact dI
  ·obtain rfl:F=n:=abq;refine aj ?_;exact ⟨_,_,rfl,hh.sub (aby _ (acA _))⟩
def o8 (p:PX) (ds:List Int):List Int:=if ds.length=0 then y7 p.v p.ts else ds
def YE (p:PX) (ds:List Int):List Nat:=(o8 p ds).map Int.toNat
def jF (p:PX) (b:List SR) (ds:List Int):Int:=if nH p b (o8 p ds)≠0 then nH p b (o8 p ds) else (cU p (a7 b)).1
theorem QJ {ns:List Nat}{i d:Nat} (h:ns[i]?=some d):ns.reverse=(ns.drop (i+1)).reverse++d::(ns.take i).reverse:=by
 have e:ns=ns.take i++d::ns.drop (i+1):=by rw [←gk h,acH]
 conv=>lhs;rw [e]
 rw [aeF,adQ,acb]
 rfl
theorem Vd (ds:List Nat):X0 ds (uU [])=List.replicate (ah ds) 0:=vN _
theorem R1 {l:List TR}{i:Nat}{t:TR} (hl:∀t∈l,ku ds (cX t.m).reverse) (hr:u1 l) (ht:l[i]?=some t):(X0 ds (uU (l.take i))).set (dh ds (cX t.m).reverse) t.c.d=X0 ds (uU (l.take (i+1))):=by
 have hok:=hl t (abz ht);have hp:=ke hok;have h0:(X0 ds (uU (l.take i)))[dh ds (cX t.m).reverse]?=some 0:=by
  unfold X0;rw [nx _ hp];congr 1;unfold uU;rw [ack,re];refine nN fun s hs=>abw fun e=> ?_;replace e:dh ds (cX s.m).reverse=dh ds (cX t.m).reverse:=e;have e2:(cX s.m).reverse=(cX t.m).reverse:=by rw [←iw (hl s (adx hs)),e,iw hok]
  have e3:s.m=t.m:=EK (List.reverse_inj.1 e2);obtain ⟨j,hj⟩:=acG.1 hs;have hji:j<i:=by have:=(abM.1 hj).1;rw [abP] at this;omega
  rw [List.getElem?_take_of_lt hji] at hj;have h1:=(abM.1 hj);have h2:=(abM.1 ht);have h3:=List.pairwise_iff_getElem.1 hr j i h1.1 h2.1 hji;rw [h1.2,h2.2,e3,iu] at h3
  cases h3
 have h1:=Ax (v:=t.c.d) (show (iV (ah ds) ((uU (l.take i)).map fun (q:List Nat×Dyadic)=>(dh ds q.1,q.2)))[dh ds (cX t.m).reverse]?=some 0 from h0);rw [adX] at h1;show (iV (ah ds) ((uU (l.take i)).map fun (q:List Nat×Dyadic)=>(dh ds q.1,q.2))).set _ _=_;rw [h1,al ht];unfold X0 uU;rw [acM,acM]
 rfl
set_option maxRecDepth 10000 in
theorem yW (p:PX) (L:Option Addr) (n c:Nat) (b:List SR) (M:Option Addr) (m mc:Nat) (ds:List Int) (k:Nat) (w:World) (hT:dq w) (hp:p.at_ w) (lp:p.jz k) (hB:Sl w L n 6 (ar SR.cells b)) (hb:∀s∈b,s.fin k) (hn:n≤1000000) (hD:Sl w M m 1 (bh ds)) (hm:m≤1000000) (hmc:m≤mc) (hk:k≤1000)
  (hgr:nH p b (o8 p ds)=0→fH (k+k+16394) (bY p.v p.ts) (k+1)≤440000):
  Calls Tryz.prog 106 #[.agg #[.int .i64 p.v,.slice p.A p.n p.c],.slice L n c,.slice M m mc] w fun r w'=>∃g:FX,Out (jF p b ds) (YE p ds) (mR (YE p ds) (cU p (a7 b)).2) g∧r=.returned (.tuple #[.agg #[.slice g.A g.n g.a,.slice g.B g.m g.b],.int .i64 (jF p b ds)])∧Hp w [g.jW,g.jY] w':=by
 have hh:=Hp.start w;have hbl:b.length=n:=hB.aX SR.len abr;have hdl:ds.length=m:=by have:=hD.1;rw [cq] at this;omega
 have hok:∀s∈b,s.ok:=fun s hs=>⟨(hb s hs).1.ok,(hb s hs).2.ok⟩;have hDd:o8 p ds=if m=0 then y7 p.v p.ts else ds:=by unfold o8;rw [hdl]
 have hoN:YE p ds=(o8 p ds).map Int.toNat:=rfl;have hoE:jF p b ds=if nH p b (o8 p ds)≠0 then nH p b (o8 p ds) else (cU p (a7 b)).1:=rfl
 rw [hoN,hoE];clear hoN hoE;generalize o8 p ds=D at*;refine ae (N:=94) (l:=[.agg #[.int .i64 p.v,.slice p.A p.n p.c],.slice L n c,.slice M m mc]) Tryz.func106 rfl rfl (by simp) ?_;refine sr ?_;refine yD hh [_,_] ?_;intro b3 w3 hh;refine yU hh ?_;intro b6 w6 hh;refine aI (aJ ?_);refine Ao [2,18,19,20,21,22] 2
  (fun v w'=>∃(M2:Option Addr) (m2 mc2:Nat) (R:List HE),v=.slice M2 m2 mc2∧m2≤mc2∧m2≤1000000∧D.length=m2∧(∀(H:List HE) (w1:World),Hp w (H++R) w1→Sl w1 M2 m2 1 (bh D))∧Hp w (.blk b6 25 [.slice none 0 0,.slice none 0 0] (0,0)::.blk b3 52 [.int .i64 p.v,.slice p.A p.n p.c] (0,0)::R) w') ?_ ?_
 ·by_cases hm0:m=0
  ·subst hm0;rw [abx rfl] at hDd;have hdg:=fun w1 hT1 hb=>ur p k w1 hT1 (hp.ext hb) lp;rw [←hDd] at hdg;have hl4:D.length≤1000000:=by
    rw [hDd];unfold y7;split
    ·rename_i hpe;have:=fN.1 (cv hpe).1;rw [gL];omega
    ·exact abB _
   refine aj ?_;refine au (hdg _ (hT.hp hh) hh.below) ak.out rfl abr ?_;rintro e_ w22 ⟨G,gc,rfl,h4⟩;refine ⟨_,rfl, ?_⟩;have hgc:D.length≤gc:=h4.gN (i:=0) rfl;replace hh:=hh.join h4;clear h4;simp only [abE,abC] at hh;refine aj ?_;replace hh:=hh.perm (acf (l₁:=[_,_]));simp only [abE,abC] at hh;replace hh:=hh.perm (acf (l₁:=[_,_]));simp only [abE,abC] at hh;refine ⟨⟨G,D.length,gc,_,rfl,hgc,hl4,rfl,fun H w1 h1=>nV (h1.own (.row G D.length gc 3 1 (bh D)) (acI _ abF)),hh⟩, ?_⟩;exact Rs
  ·rw [abw hm0] at hDd;refine aj ?_;refine ⟨⟨M,m,mc,[],rfl,hmc,hm,by rw [hDd];exact hdl,fun H w1 h1=>by rw [hDd];exact hD.ext h1.below,hh⟩, ?_⟩;exact Rs
 ·skip;clear hh hDd hdl hD hm hmc;rintro ρ' v w' ⟨M2,m2,mc2,R,rfl,hmc2,hm2,hDl,hrd,hh⟩;have hfi:=fun w1 hT1 hb1 hd=>wJ p L n c b M2 m2 mc2 D k w1 hT1 (hp.ext hb1) lp (hB.ext hb1) hok hn hd hm2;by_cases hE:nH p b D≠0
  ·rw [abx hE];generalize nH p b D=E at*;refine aj ?_;refine aZ hh (hfi _ (hT.hp hh) hh.below (hrd [_,_] _ hh)) rfl ?_;intro w26 hh;refine bT ?_;intro ws hh;refine zv ?_;exact ⟨FX.nil,Out.err hE,rfl,(hh.sub (acA _)).Q9⟩
  ·rw [abw hE];have hE0:nH p b D=0:=abq;obtain ⟨hnat,hF⟩:=wU hE0;rw [hE0] at hfi;have hpe:=hF.e;have hn0:=hF.pos;have hn12:=hF.sY;have hnl:=hF.nl;have hlow:=hF.low;have hmost:=hF.most;have hgr2:=hgr hE0;obtain ⟨_,o2,o3⟩:=oO hpe;have hwi:=fun w1 hT1 hb1=>Bi p L n c b k (bY p.v p.ts) w1 hT1 (hp.ext hb1) lp (hB.ext hb1) hb (by rw [hF.v,hbl]) abq abq hk (by rw [hF.BX];exact hbl) (fun i d hd=>⟨(o3 i d hd).1,(o3 i d hd).2.1⟩) hgr2;have hsp:=ti hF lp.ok hb hk hgr2;clear hgr hgr2 o2 o3 hfi;have hfi:=fun w1 hT1 hb1 hd=>wJ p L n c b M2 m2 mc2 D k w1 hT1 (hp.ext hb1) lp (hB.ext hb1) hok hn hd hm2;rw [hE0] at hfi;clear hE hE0;have hcnt:iZ 1 D=((ah (D.map Int.toNat):Nat):Int):=by
    have h8:=lG (D.map Int.toNat) 1 (abD _) abr hlow;rw [←hnat,adZ,abx hmost] at h8;exact h8
   have hco:=fun w1 hd=>fk M2 m2 mc2 D w1 hd hm2;rw [hcnt] at hco;have hcl:=fun w1 hd=>nI M2 m2 mc2 D w1 hd hm2;have hm2n:m2=n:=by rw [←hDl,←hbl,←hnl,abH]
   generalize hns:D.map Int.toNat=ns at*;generalize (cU p (a7 b)).1=E at*;generalize (cU p (a7 b)).2=S at*;have hN0:=de ns;refine aj ?_;refine aZ hh (hfi _ (hT.hp hh) hh.below (hrd [_,_] _ hh)) rfl ?_;intro w26 hh;refine aj ?_;refine au (hwi _ (hT.hp hh) hh.below) ak.out rfl abr ?_;rintro e_ w34 ⟨q,oq,rfl,h4⟩;refine ⟨_,rfl, ?_⟩;replace hh:=hh.join h4;clear h4;simp only [abE,abC] at hh;replace hh:=show Hp w (.row q.A q.n q.c 95 4 (ar TR.cells q.ts)::_) _ from hh;by_cases hE2:E≠0
   ·refine lK ?_;intro b9 w9 hh ws hh ws hh;refine qg ?_;exact ⟨FX.nil,Out.err hE2,rfl,(hh.sub (acA _)).Q9⟩
   ·have hE0:E=0:=abq;subst hE0;obtain ⟨hso,hsr⟩:=hsp rfl;have et:q.ts=S:=oq.t0;rw [et] at hh;clear oq et;generalize q.v=qv at*;generalize q.A=qA at*;generalize q.n=qn at*;generalize q.c=qc at*;have hSl:S.length=qn:=(hh.ao (i:=0) rfl).aX TR.len abr;have hSn:=hso.len;obtain ⟨_,_,hSm,hSc⟩:=cv hso.e;refine bX ?_;intro b9 w9 hh ws hh;refine au (hcl _ (hrd [_,_,_,_] _ hh)) ak.out rfl abr ?_;rintro e_ w42 ⟨A42,c42,rfl,hown_,hb_⟩;refine ⟨_,rfl, ?_⟩;replace hh:=hh.aD (x:=.row _ _ _ _ _ _) hb_ hown_;refine mL ?_;refine aZ hh (hco _ (hrd [_,_,_,_,_] _ hh)) rfl ?_;intro w44 hh;refine fy (n:=(ah ns)) hh rfl rfl abq abq bq.out az.out rfl abq abq abr ?_;intro b45 w45 hh;refine bX ?_;intro b11 w11 hh ws hh;rw [sK,←cf ns,←Vd ns.reverse,cf] at hh;refine aH [13,14,15,16,50,51,52,53,54,55,56,57,58,59,60,61,62,63,64,65,66,67,68,69,70,71,72,73,74,75,76,77,78,79] 50
     (fun v w'=>∃i:Nat,i≤qn∧v=.int .i64 i∧Hp w (.blk b11 25 [.slice A42 m2 c42,.slice (some ⟨b45,0,none⟩) (ah ns) (ah ns)] (0,0)::.row (some ⟨b45,0,none⟩) (ah ns) (ah ns) 33 3 (ar NR.cells ((X0 ns.reverse (uU (S.take i))).map nR))::.row A42 m2 c42 3 1 (bh D)::.blk b9 52 [.int .i64 qv,.slice qA qn qc] (0,0)::.row qA qn qc 95 4 (ar TR.cells S)::.blk b6 25 [.slice none 0 0,.slice none 0 0] (0,0)::.blk b3 52 [.int .i64 p.v,.slice p.A p.n p.c] (0,0)::R) w')
     (fun v _=>qn-(intOf v).toNat) ?_ ?_
    ·exact ⟨0,abB _,rfl,hh⟩
    ·clear hh;rintro ρ2 v w2 ⟨i,hi,rfl,hh⟩;by_cases hlt:i<qn
     ·obtain ⟨x,hx⟩:=ai (l:=S) (k:=i) abq;have hxm:=abz hx;have hxo:=hsr x hxm;have hx2:=hSm x hxm;unfold fY at hx2;rw [abS,ab1] at hx2;have hxs:x.m.size=n:=abq;have hxz:=hso.sz x hxm;have hxc:x.c=nR x.c.d:=hSc.nf x hxm;have hex:kj x.m.data.toList=a0 (cX x.m):=by rw [mn hx2.1,pj]
      have hesl:(cX x.m).length=n:=by rw [n7];exact hxs
      have hel:(kj x.m.data.toList).length=n:=by rw [hex,bZ];exact hesl
      have hset:=R1 hsr hSc.ua hx;have hX0l:((X0 ns.reverse (uU (S.take i))).map nR).length=ah ns:=by rw [abH];unfold X0;rw [jE,cf]
      have hcell:ar TR.cells S=ar TR.cells S:=rfl;have hokat:∀(j d r:Nat),ns[j]?=some d→(cX x.m)[j]?=some r→r≤d:=fun j d r hd hr=>by
       have hj:=(abM.1 hd).1;refine ((nc _ _).1 hxo).2 (n-1-j) d r ?_ ?_
       ·rw [ac6 abq,show ns.length-1-(n-1-j)=j by omega];exact hd
       ·rw [ac6 abq,show (cX x.m).length-1-(n-1-j)=j by omega];exact hr
      obtain ⟨gq,rfl⟩:=hh.bP (i:=4) rfl abq;refine aj ?_;refine bF (vs:=[_,_,_,_]) az.out rfl (hh.df (f:=TR.cells) (x:=x) (l:=S) (i:=4) rfl TR.len abr hx) rfl abr ?_;refine bX ?_;intro b13 w13 hh ws hh;refine au (j4 x.m _ hxz) ak.out rfl abr ?_;rintro e_ w56 ⟨A56,c56,rfl,hown_,hb_⟩;refine ⟨_,rfl, ?_⟩;replace hh:=hh.aD (x:=.row _ _ _ _ _ _) hb_ hown_;rw [hel,hex] at hh;rw [hel];refine aj ?_;refine bk [14,15,16,58,59,60,61,62,63,64,65,66,67,68,69,70,71,72] 14 58
       (fun a v w'=>∃(j z:Nat),j≤n∧v=.int .i64 j∧a=.int .i64 z∧z=dh (ns.take j).reverse ((cX x.m).take j).reverse∧z<ah (ns.take j)∧Hp w (.row A56 n c56 3 1 (bh (a0 (cX x.m)))::.blk b13 95 [.string x.m,.bool x.c.neg,.string x.c.aO,.int .i64 x.c.e] (0,0)::.blk b11 25 [.slice A42 m2 c42,.slice (some ⟨b45,0,none⟩) (ah ns) (ah ns)] (0,0)::.row (some ⟨b45,0,none⟩) (ah ns) (ah ns) 33 3 (ar NR.cells ((X0 ns.reverse (uU (S.take i))).map nR))::.row A42 m2 c42 3 1 (bh D)::.blk b9 52 [.int .i64 qv,.slice (some ⟨gq,0,none⟩) qn qc] (0,0)::.row (some ⟨gq,0,none⟩) qn qc 95 4 (ar TR.cells S)::.blk b6 25 [.slice none 0 0,.slice none 0 0] (0,0)::.blk b3 52 [.int .i64 p.v,.slice p.A p.n p.c] (0,0)::R) w')
       (fun _ v _=>n-(intOf v).toNat) ?_ ?_
      ·exact ⟨0,0,abB _,rfl,rfl,rfl,Nat.one_pos,hh⟩
      ·clear hh;rintro ρ3 a_ v w3 ⟨j,z,hj,rfl,rfl,hz,hz2,hh⟩;by_cases hjn:j<n
       ·obtain ⟨d,hd⟩:=ai (l:=ns) (k:=j) abq;obtain ⟨r,hr⟩:=ai (l:=cX x.m) (k:=j) abq;have hrd2:=hokat j d r hd hr;have hd7:=hlow d (abz hd);have hgD:(bh D)[j]?=some (.int .i64 (d:Int)):=by rw [hnat];exact cM (eA hd)
        have hgE:=cM (eA hr);have hst:=Dh hd hr;have hcs:=Dm hd;rw [cf,cf] at hcs;rw [←hz] at hst;have hct:=eT ns (j+1);have hnew:r+(d+1)*z<(d+1)*ah (ns.take j):=by
         have:(d+1)*(z+1)≤(d+1)*ah (ns.take j):=acd _ hz2;rw [ac5] at this;omega
        have hpr:(z:Int)*((d:Int)+1)=(((d+1)*z:Nat):Int):=by rw [abU,acK,acZ];rfl
        have hDs:=hrd [_,_,_,_,_,_,_,_,_] _ hh;obtain ⟨ad,hMe,hsr2⟩:=hDs.at_ abq;have uQ:Value.slice M2 m2 mc2=.slice (some ad) m2 mc2:=by rw [hMe]
        have hel2:(bh (a0 (cX x.m))).length=n:=by rw [cq,bZ];exact hesl
        obtain ⟨gx,rfl⟩:=hh.bP (i:=0) rfl abq;refine aj ?_;refine lF ?_;refine aj ?_;refine M9 ?_;refine bG az.out rfl (hsr2.vc hgD) abr ?_;refine aj ?_;rw [hpr];refine ⟨⟨j+1,r+(d+1)*z,abq,rfl, ?_,hst.symm,abq,hh⟩,by show n-(j+1)<n-j;omega, ?_⟩
        ·show Value.int IntKind.i64 ((((d+1)*z:Nat):Int)+(r:Int))=_;rw [show (((d+1)*z:Nat):Int)+(r:Int)=((r+(d+1)*z:Nat):Int) by omega]
        ·exact dI
       ·obtain rfl:j=n:=abq;rw [abG abq,abG abq] at hz;rw [abG abq] at hz2;rw [←hz] at hset;generalize X0 ns.reverse (uU (S.take i))=X at*;have hrl:=eH NR.len (X.map nR);refine aj ?_;refine JS ?_;intro ws hh;simp only [abK,ab9] at hh;rw [hxc,show bK (ar NR.cells (X.map nR)) (z*3) [.bool (nR x.c.d).neg,.string (nR x.c.d).aO,.int .i64 (nR x.c.d).e]=ar NR.cells ((X.map nR).set z (nR x.c.d)) from ew NR.len abq,←adz,hset] at hh;refine aj ?_;replace hh:=hh.sub (abA _ (abA _ (aby _ (aby _ (aby _ (aby _ (aby _ (aby _ (aby _ (aco _))))))))));refine ⟨⟨i+1,abq,rfl,hh⟩,by show qn-(i+1)<qn-i;omega, ?_⟩;exact dI
     ·obtain rfl:i=qn:=abq;rw [abG abq,show X0 ns.reverse (uU S)=rB ns.reverse (uU S) 0 from rfl] at hh;have hoff:=Fc hsr;have hXz:=Gx (SY (ds:=ns.reverse) hso.ok) (fun d hd=>hlow d (adp.1 hd));have hnr:ns.reverse.length=n:=by rw [abY];omega
      refine aj ?_;replace hh:=hh.sub (aby _ (aby _ (aby _ (abA _ (abA _ (aby _ (aby _ (aco _))))))));refine aH [17,82,83,84,85,86,87,88,89,90,91,92] 82
       (fun v w'=>∃(j:Nat) (A:Option Addr) (ac:Nat),j≤n∧v=.int .i64 j∧Hp w (.blk b11 25 [.slice A42 m2 c42,.slice A (ah ns) ac] (0,0)::.row A (ah ns) ac 33 3 (ar NR.cells ((rB ns.reverse (uU S) j).map nR))::.row A42 m2 c42 3 1 (bh D)::.blk b6 25 [.slice none 0 0,.slice none 0 0] (0,0)::.blk b3 52 [.int .i64 p.v,.slice p.A p.n p.c] (0,0)::R) w')
       (fun v _=>n-(intOf v).toNat) ?_ ?_
      ·exact ⟨0,_,_,abB _,rfl,hh⟩
      ·clear hh;rintro ρ4 v w4 ⟨j,A,ac,hj,rfl,hh⟩;by_cases hjn:j<n
       ·obtain ⟨d,hd⟩:=ai (l:=ns) (k:=j) abq;have hd7:=hlow d (abz hd);have hrm:=QJ hd;have hol:(rB ns.reverse (uU S) j).length=ah ns:=by rw [E7,cf]
        have hof:=fun w1 hs=>BZ M2 m2 mc2 j d ns w1 (by rw [←hnat];exact hs) hmc2 abq hd hlow hmost;have hcn:ah ns=ah ((ns.drop (j+1)).reverse++d::(ns.take j).reverse):=by rw [←hrm,cf]
        have hli:=fun w1 hT1 hS1=>CG 156 (ns.drop (j+1)).reverse (ns.take j).reverse d (d+1) (dz d (fa d 1 1)) A (ah ns) ac (440000+S.length+520*j) (rB ns.reverse (uU S) j) w1 hT1 hS1 hcn hmost (abD _) hd7 (hXz j) (fun Y E ec w2 hT2 hy hs=>AN E (d+1) ec d Y _ w2 hT2 hs rfl hd7 hy abq) (fun Y _=>by simp [dz]);have hM:=Wc (M:=fa d 1 1) (A:=(ns.drop (j+1)).reverse) (B:=(ns.take j).reverse) (X:=rB ns.reverse (uU S) j) (hol.trans hcn);have hsu:=sV ns.reverse (uU S) j;have hgd:ns.reverse.getD (ns.reverse.length-1-j) 0=d:=by
         rw [adm,ac6 abq,show ns.length-1-(ns.reverse.length-1-j)=j by omega,hd]
         rfl
        rw [hgd,show ns.reverse.length-1-j=(ns.drop (j+1)).reverse.length by rw [abY,abY,acJ];omega] at hsu;rw [hol,←hrm,←hsu] at hM;rw [hM,cf] at hli;clear hM hsu hgd hcn;refine aj ?_;refine aC 5 [[(2,none)],[(17,none)],[(85,some 0),(86,some 1)],[(11,none)],[(88,some 3)]] [(4,89),(3,88),(2,87),(1,86),(0,85)] hh mixed abt ?_;refine fO ?_;refine dp ?_;refine dC (fun _ hj=>hof _ (hrd [_,_,_,_,_] _ hj.hp)) ?_;refine dw ?_;refine fF 0 ?_;refine av ?_;intro f W hJ hV;have hb_24:=hJ.bl;obtain ⟨v89,v88,v87,v86,v85,_⟩:=hV;replace hh:=hJ.hp;refine ay (aQ (aa v89 (aa v88 (aa v87 (aa v86 (aa v85 aw)))))) ?_;dsimp only [bA];clear hJ;refine au (hli _ (hT.hp hh) (hh.ao (i:=1) rfl)) ak.out rfl abr ?_;rintro e_ w90 ⟨E,ec,rfl,h4⟩;refine ⟨_,rfl, ?_⟩;replace hh:=hh.join h4;clear h4;simp only [abE,abC] at hh;refine bT ?_;intro ws hh;replace hh:=hh.sub (aby _ (aby _ (abA _ (aby _ (aby _ (aby _ (aco _)))))))
        replace hh:=hh.perm (acf (l₁:=[_]));simp only [abE,abC] at hh;refine ⟨⟨j+1,E,ec,abq,rfl,hh⟩,by show n-(j+1)<n-j;omega, ?_⟩;exact dI
       ·obtain rfl:j=n:=abq;rw [hnl,hbl] at hoff;rw [hoff] at hh;refine bT ?_;intro ws hh;refine Pb ?_;exact ⟨⟨A42,m2,c42,A,ah ns,ac,D,(mR ns S).map nR⟩,⟨hnat,rfl,by show m2≤100000;omega,by show ah ns≤1000000;omega⟩,rfl,hh.sub (.cons _ (.cons_cons _ (.cons_cons _ (acA _))))⟩
variable {cs:List Value}{g':FX}
def Ki (rest:List Value) (base:Nat) (t:TypeId) (n sz:Nat) (cs:List Value):VP:=fun v W=>∃A c,v=.agg (.slice A n c::rest).toArray∧W.ownsRow base t sz (.slice A n c) n cs
theorem Ki.ext {rest:List Value}{t:TypeId}{sz:Nat} (v:Value) (w w':World) (h:Ki rest base t n sz cs v w) (hb:Below w.heap.size w w'):Ki rest base t n sz cs v w':=let ⟨A,c,h1,h2⟩:=h;⟨A,c,h1,lI h2 hb⟩
def eW (p:PX) (b:List SR):FX:=oW (bY p.v p.ts) (mR (bY p.v p.ts) (cU p (a7 b)).2)
structure DG (D:List Nat) (X:List Dyadic):Prop where
 d12:D.length≤12
 d127:∀d∈D,d≤127
 Fs:ah D≤200
 lx:X.length=ah D
 zx:∀x∈X,Sz 90000 x
def k7 (p q:PX) (b:List SR):CV:=⟨b.map SR.f,maxD [eW p b,eW q b],kz (maxD [eW p b,eW q b]) (eW p b),kz (maxD [eW p b,eW q b]) (eW q b)⟩
def lj (p q:PX) (b:List SR):Int:=if jF p b []≠0 then jF p b [] else if jF q b []≠0 then jF q b [] else cL [eW p b,eW q b]
theorem FX.is.LZ {f:FX}{D:List Nat} (h:f.is D X) (ha:f.at_ w):f.key=(oW D X).key:=by
 unfold FX.key oW;rw [h.ds,h.cs,(h.key ha).1]
theorem xi {f g f':FX} (h1:f.key=f'.key) (h2:g.key=g'.key):cL [f,g]=cL [f',g']∧maxD [f,g]=maxD [f',g']∧∀D,kz D f=kz D f'∧kz D g=kz D g':=by
 obtain ⟨_,a2,a3,a4⟩:=Mv (fs:=[f,g]) (gs:=[f',g']) (by simp [h1,h2]);refine ⟨a2,a3,fun D=> ?_⟩;have:=a4 D;simp only [ab8,acF,aeM,and_true] at this;exact this
theorem CT (p q:PX) (L:Option Addr) (n c:Nat) (b:List SR) (k:Nat) (w:World) (hT:dq w) (hp:p.at_ w) (lp:p.jz k) (hq:q.at_ w) (lq:q.jz k) (hB:Sl w L n 6 (ar SR.cells b)) (hb:∀s∈b,s.fin k) (hn:n≤1000000) (hk:k≤1000)
  (hgp:nH p b (o8 p [])=0→fH (k+k+16394) (bY p.v p.ts) (k+1)≤440000) (hgq:nH q b (o8 q [])=0→fH (k+k+16394) (bY q.v q.ts) (k+1)≤440000)
  (fp:jF p b []=0→DG (eW p b).ns ((eW p b).cs.map NR.d)) (fq:jF q b []=0→DG (eW q b).ns ((eW q b).cs.map NR.d)):
  Calls Tryz.prog 57 #[.agg #[.int .i64 p.v,.slice p.A p.n p.c],.agg #[.int .i64 q.v,.slice q.A q.n q.c],.slice L n c] w fun r w'=>∃(x:CX) (R:List HE),r=.returned (.tuple #[.agg x.cells.toArray,.int .i64 (lj p q b)])∧(lj p q b=0→x.v=k7 p q b∧x.fit∧∀y∈x.rows,y∈R)∧Hp w R w':=by
 have hh:=Hp.start w;have hof1:=fun w1 hT1 hb1=>yW p L n c b none 0 0 [] k w1 hT1 (hp.ext hb1) lp (hB.ext hb1) hb hn (Sl.nil _ _ _) abr (abD _) hk hgp;replace hof1:∀w1,dq w1→Below w.heap.size w w1→Calls Tryz.prog 106 #[.agg #[.int .i64 p.v,.slice p.A p.n p.c],.slice L n c,.slice none 0 0] w1 fun r w'=>∃g:FX,Out (jF p b []) (bY p.v p.ts) (mR (bY p.v p.ts) (cU p (a7 b)).2) g∧r=.returned (.tuple #[.agg #[.slice g.A g.n g.a,.slice g.B g.m g.b],.int .i64 (jF p b [])])∧Hp w1 [g.jW,g.jY] w':=hof1;have hof2:=fun w1 hT1 hb1=>yW q L n c b none 0 0 [] k w1 hT1 (hq.ext hb1) lq (hB.ext hb1) hb hn (Sl.nil _ _ _) abr (abD _) hk hgq;replace hof2:∀w1,dq w1→Below w.heap.size w w1→Calls Tryz.prog 106 #[.agg #[.int .i64 q.v,.slice q.A q.n q.c],.slice L n c,.slice none 0 0] w1 fun r w'=>∃g:FX,Out (jF q b []) (bY q.v q.ts) (mR (bY q.v q.ts) (cU q (a7 b)).2) g∧r=.returned (.tuple #[.agg #[.slice g.A g.n g.a,.slice g.B g.m g.b],.int .i64 (jF q b [])])∧Hp w1 [g.jW,g.jY] w':=hof2;have hok:∀s∈b,s.ok:=fun s hs=>⟨(hb s hs).1.ok,(hb s hs).2.ok⟩;have hfo:=fun w1 hT1 hb1=>lP L n c b w1 hT1 (hB.ext hb1) hok hn
 have nsp:(eW p b).ns=bY p.v p.ts:=iS _;have nsq:(eW q b).ns=bY q.v q.ts:=iS _;have csp:(eW p b).cs.map NR.d=mR (bY p.v p.ts) (cU p (a7 b)).2:=by unfold eW oW;rw [ack];exact (acT fun y _=>a6 y).trans (adR _)
 have csq:(eW q b).cs.map NR.d=mR (bY q.v q.ts) (cU q (a7 b)).2:=by unfold eW oW;rw [ack];exact (acT fun y _=>a6 y).trans (adR _)
 rw [nsp,csp] at fp;rw [nsq,csq] at fq;clear nsp nsq csp csq;have eP:eW p b=oW (bY p.v p.ts) (mR (bY p.v p.ts) (cU p (a7 b)).2):=rfl;have eQ:eW q b=oW (bY q.v q.ts) (mR (bY q.v q.ts) (cU q (a7 b)).2):=rfl;unfold k7 lj;rw [eP,eQ];clear eP eQ;generalize mR (bY p.v p.ts) (cU p (a7 b)).2=X at*;generalize mR (bY q.v q.ts) (cU q (a7 b)).2=Y at*;generalize bY p.v p.ts=DP at*;generalize bY q.v q.ts=DQ at*;generalize jF p b []=E1 at*;generalize jF q b []=E2 at*;by_cases hE1:E1≠0
 ·rw [abx hE1];refine Qb ?_;refine lK ?_;intro b3 w3 hh b4 w4 hh b6 w6 hh;refine au (hof1 _ (hT.hp hh) hh.below) ak.out rfl abr ?_;rintro e_ w16 ⟨f,o1,rfl,h3⟩;refine ⟨_,rfl, ?_⟩;replace hh:=hh.join h3;simp only [abE,abC] at hh;clear h3;refine lK ?_;intro b8 w8 hh ws hh ws hh;refine GD (bI rfl (bJ (vs:=[_,_,_,_,_]) az.out (hh.aE (i:=3) (n:=5) rfl rfl) rfl) (dQ (eL rfl) cR)) ?_;exact ⟨⟨none,0,0,FX.nil,FX.nil,⟨[],[],[],[]⟩⟩,_,rfl,fun h=>absurd h hE1,hh⟩
 ·rw [abw hE1];obtain rfl:E1=0:=ac7.1 hE1;by_cases hE2:E2≠0
  ·rw [abx hE2];refine Qb ?_;refine lK ?_;intro b3 w3 hh b4 w4 hh b6 w6 hh;refine au (hof1 _ (hT.hp hh) hh.below) ak.out rfl abr ?_;rintro e_ w16 ⟨f,o1,rfl,h3⟩;refine ⟨_,rfl, ?_⟩;replace hh:=hh.join h3;simp only [abE,abC] at hh;clear h3;refine bX ?_;intro b8 w8 hh ws hh;refine au (hof2 _ (hT.hp hh) hh.below) ak.out rfl abr ?_;rintro e_ w26 ⟨g,o2,rfl,h3⟩;refine ⟨_,rfl, ?_⟩;replace hh:=hh.join h3;simp only [abE,abC] at hh;clear h3;refine lK ?_;intro b10 w10 hh ws hh ws hh;refine GD (bI rfl (bJ (vs:=[_,_,_,_,_]) az.out (hh.aE (i:=6) (n:=5) rfl rfl) rfl) (dQ (eL rfl) cR)) ?_;exact ⟨⟨none,0,0,FX.nil,FX.nil,⟨[],[],[],[]⟩⟩,_,rfl,fun h=>absurd h hE2,hh⟩
  ·rw [abw hE2];obtain rfl:E2=0:=ac7.1 hE2;replace fp:=fp rfl;replace fq:=fq rfl;refine Qb ?_;refine lK ?_;intro b3 w3 hh b4 w4 hh b6 w6 hh;refine au (hof1 _ (hT.hp hh) hh.below) ak.out rfl abr ?_;rintro e_ w16 ⟨f,o1,rfl,h3⟩;refine ⟨_,rfl, ?_⟩;replace hh:=hh.join h3;simp only [abE,abC] at hh;clear h3;refine bX ?_;intro b8 w8 hh ws hh;refine au (hof2 _ (hT.hp hh) hh.below) ak.out rfl abr ?_;rintro e_ w26 ⟨g,o2,rfl,h3⟩;refine ⟨_,rfl, ?_⟩;replace hh:=hh.join h3;simp only [abE,abC] at hh;clear h3;have fat:=(FX.at_.mk (hh.ao (i:=4) rfl) (hh.ao (i:=3) rfl):f.at_ _);have gat:=(FX.at_.mk (hh.ao (i:=1) rfl) (hh.ao (i:=0) rfl):g.at_ _);have fis:f.is DP X:=⟨o1.ds,o1.cs⟩;have gis:g.is DQ Y:=⟨o2.ds,o2.cs⟩;have hp1:=fp.Fs;have hq1:=fq.Fs;have hp2:=fp.lx;have hq2:=fq.lx;have flim:=fis.jz fat fp.d12 fp.lx abq fp.zx abr;have glim:=gis.jz gat fq.d12 fq.lx abq fq.zx abr;have fm:=(fis.key fat).2;have gm:=(gis.key gat).2;have hboth:=fun w1 hT1 (h1:f.at_ w1) (h2:g.at_ w1)=>Jn f g 90000 w1 hT1 h1 h2 flim glim abq abq abr
   obtain ⟨k1,k2,k3⟩:=xi (fis.LZ fat) (gis.LZ gat);rw [k1,k2,(k3 _).1,(k3 _).2] at hboth;generalize cL [oW DP X,oW DQ Y]=E at*;generalize maxD [oW DP X,oW DQ Y]=D at*;generalize kz D (oW DP X)=X2 at*;generalize kz D (oW DQ Y)=Y2 at*;refine bX ?_;intro b10 w10 hh ws hh;refine au (hboth _ (hT.hp hh) ⟨hh.ao (i:=5) rfl,hh.ao (i:=4) rfl⟩ ⟨hh.ao (i:=2) rfl,hh.ao (i:=1) rfl⟩) ak.out rfl abr ?_;rintro e_ w36 ⟨x,y,ox,oy,rfl,h3⟩;refine ⟨_,rfl, ?_⟩;replace hh:=hh.join h3;simp only [abE,abC] at hh;clear h3;refine xQ ?_;intro b11 w11 hh b12 w12 hh ws hh ws hh;refine db [] [5] [0,1,0,0,15,0,31,127] 6 [[(2,none)],[(40,some 0)],[(11,none)],[(12,none)],[(41,some 1),(42,some 2),(43,some 3)],[(9,none)]] [(5,45),(4,44),(3,43),(2,42),(1,41),(0,40)] hh mixed abt dx rfl (by repeat (first|exact bV|refine bD ?_|refine bU ?_)) ?_;refine fO ?_;refine aW (i:=1) (wg ws.heap.size 35 n 6 (ar SR.cells (b.map SR.f))) (wg.ext) ?_ ?_
   ·intro ρ1 w1 hj hR;exact bp rfl (aR ak.out (aq hR.1 aY)) (hfo w1 (hT.hp hj.hp) hj.hp.below) (fun _ _ ⟨A,c,hq,ho,hb⟩=>⟨_,hq,hb,A,c,rfl,iq ho hj.bl.size⟩)
   refine da 1 [_,_] ?_;refine da 0 [_,_] ?_;refine aW (i:=4) (Ki [.slice x.A x.n x.a,.slice x.B x.m x.b,.slice y.A y.n y.a,.slice y.B y.m y.b] ws.heap.size 35 n 6 (ar SR.cells (b.map SR.f))) (Ki.ext) ?_ ?_
   ·intro ρ1 w1 hj hR;exact let ⟨A,c,e1,o1⟩:=hR.1;cY rfl (ng (cs:=[_,_,_,_,_]) az.out kg.out (bC e1 (bC hR.2.1 (bC hR.2.2.1 dk))) rfl) ⟨Below.refl _ _,A,c,rfl,o1⟩
   refine dp ?_;refine av ?_;intro f W hJ hV _;have hb_8:=hJ.bl;obtain ⟨v45,v44,v43,v42,v41,v40,_⟩:=hV;obtain ⟨A44,c44,e44,o44⟩:Ki _ _ _ _ _ _ (f 4) W:=v44;replace hh:=JJ.FB hh hJ.hp o44;clear o44;refine ay (aQ (aa v45 (aa e44 (aa v43 (aa v42 (aa rfl (aa v40 aw))))))) ?_;dsimp only [bA];clear e44 hJ;refine bT ?_;intro ws hh;refine GD (bI rfl (bJ (vs:=[_,_,_,_,_]) az.out (hh.aE (i:=13) (n:=5) rfl rfl) rfl) (dQ (eL rfl) cR)) ?_;refine ⟨⟨A44,n,c44,x,y,⟨b.map SR.f,D,X2,Y2⟩⟩,_,rfl,fun h=> ?_,hh⟩;subst h;refine ⟨rfl,⟨⟨ox.ds,ox.cs⟩,oy.ds,oy.cs⟩,fun z hz=> ?_⟩;simp only [CX.rows,abO,acS,or_false] at hz ⊢
   rcases hz with rfl|rfl|rfl|rfl|rfl<;>simp
theorem J1 {f g f':FX} (h1:f.key=f'.key) (h2:g.key=g'.key) (p:Int):gB f g=gB f' g'∧eD f g p=eD f' g' p:=by
 obtain ⟨a1,a2,a3⟩:=xi h1 h2;unfold eD gB;rw [a1,a2,(a3 _).1,(a3 _).2];exact ⟨rfl,rfl⟩
theorem O0 {g:FX} (h:g.key=g'.key) (eps:Dyadic):mq g eps=mq g' eps∧nX g eps=nX g' eps:=by
 obtain ⟨A,n,a,B,m,b,ds,cs⟩:=g;obtain ⟨A',n',a',B',m',b',ds',cs'⟩:=g';unfold FX.key at h;simp only [Prod.mk.injEq] at h;obtain ⟨rfl,rfl,rfl⟩:=h;exact ⟨rfl,rfl⟩
theorem sF (x:CX) (p:Int) (w:World) (hT:dq w) (hx:x.at_ w) (hf:x.fit) (ho:x.v.ok) (hp1: -1000≤p) (hp2:p≤1000):
  Calls Tryz.prog 9 #[.agg #[.slice x.f.A x.f.n x.f.a,.slice x.f.B x.f.m x.f.b],.agg #[.slice x.g.A x.g.n x.g.a,.slice x.g.B x.g.m x.g.b],.int .i64 p] w fun r w'=>r=.returned (.tuple #[.agg (SR.cells (eD x.v.f x.v.g p)).toArray,.int .i64 (gB x.v.f x.v.g)])∧Below w.heap.size w w':=by
 have lx:=ho.lx;have ly:=ho.ly;have hc:=ho.Fs;have k1:=hf.f.LZ hx.f.at_;have k2:=hf.g.LZ hx.g.at_;obtain ⟨b1,b2⟩:=J1 k1 k2 p;obtain ⟨a1,a2,a3⟩:=xi k1 k2;have h:=E8 x.f x.g 90000 p w hT hx.f.at_ hx.g.at_ (hf.f.jz hx.f.at_ ho.d12 ho.lx abq ho.zx abr) (hf.g.jz hx.g.at_ ho.d12 ho.ly abq ho.zy abr) (by rw [(hf.f.key hx.f.at_).2];omega) (by rw [(hf.g.key hx.g.at_).2];omega) abr (by rw [a1,a2,(a3 _).1,(a3 _).2];exact ho.up) hp1 hp2;rw [b1,b2] at h;exact h
theorem Dd (x:CX) (eps:NR) (w:World) (hT:dq w) (hx:x.at_ w) (hf:x.fit) (ho:x.v.ok) (he:eps.ok):
  Calls Tryz.prog 16 #[.agg #[.slice x.g.A x.g.n x.g.a,.slice x.g.B x.g.m x.g.b],.agg #[.bool eps.neg,.string eps.aO,.int .i64 eps.e]] w fun r w'=>r=.returned (.tuple #[.int .i64 (nX x.v.g eps.d:Nat),.int .i64 (mq x.v.g eps.d)])∧Below w.heap.size w w':=by
 have hc:=ho.Fs;obtain ⟨b1,b2⟩:=O0 (hf.g.LZ hx.g.at_) eps.d;have h:=F2 x.g eps 90000 w hT hx.g.at_ (hf.g.jz hx.g.at_ ho.d12 ho.ly abq ho.zy abr) he abr;rw [b1,b2] at h;exact h
structure RV where
 k:Int
 s:SR
 at_:List NR
def LK:RV:=⟨0,II,[]⟩
def RV.cells (R:RV) (A:Option Addr) (m c:Nat):List Value:=.int .i64 R.k::(SR.cells R.s++[.slice A m c])
def JQ (b:List SR) (k:Int):List NR:=b.mapIdx fun i s=>cond (jq k i) s.f.hi s.f.lo
def yw (eps:Dyadic) (p bu:Int):Nat→Nat→List CV→List SR→RV→Int→Int→Prop
 |_,_,[],_,R,k,e=>R=LK∧k=0∧e=3
 |0,_,_::_,_,_,_,_=>False
 |f+1,n,c::st,l,R,k,e=>if bu<n then R=LK∧k=0∧e=3 else c.ok∧
   if gB c.f c.g=0 then (eD c.f c.g p).ok∧
    if st=[] then R=⟨1,kA (l++[eD c.f c.g p]),[]⟩∧k=n∧e=0 else yw eps p bu f (n+1) st (l++[eD c.f c.g p]) R k e
   else if mq c.g eps=0 then R=⟨2,II,JQ c.b (nX c.g eps)⟩∧k=n∧e=0
   else ∃(a:Nat) (s:SR),(∀v,pb c.b v→v=(a:Int))∧c.b[a]?=some s∧a<c.D.length∧yw eps p bu f (n+1) (c.half a s false::c.half a s true::st) l R k e
def lM (p q:PX) (b:List SR) (eps:NR) (grid bu:Int) (f:Nat) (R:RV) (k e:Int):Prop:=
 if lj p q b≠0 then R=LK∧k=0∧e=lj p q b else if eps.i.sign≤0 then R=LK∧k=0∧e=1 else yw eps.d grid bu f 1 [k7 p q b] [] R k e
theorem ql (p q:PX) (L:Option Addr) (n c:Nat) (b:List SR) (eps:NR) (grid bu:Int) (f:Nat) (R:RV) (k e:Int) (k0:Nat) (w:World) (hT:dq w) (hp:p.at_ w) (lp:p.jz k0) (hq:q.at_ w) (lq:q.jz k0) (hB:Sl w L n 6 (ar SR.cells b)) (hb:∀s∈b,s.fin k0) (hn:n≤1000000) (hk0:k0≤1000)
  (hgp:nH p b (o8 p [])=0→fH (k0+k0+16394) (bY p.v p.ts) (k0+1)≤440000) (hgq:nH q b (o8 q [])=0→fH (k0+k0+16394) (bY q.v q.ts) (k0+1)≤440000)
  (fp:jF p b []=0→DG (eW p b).ns ((eW p b).cs.map NR.d)) (fq:jF q b []=0→DG (eW q b).ns ((eW q b).cs.map NR.d)) (he:eps.ok) (hg1: -1000≤grid) (hg2:grid≤1000) (hb1: -9223372036854775808≤bu) (hb2:bu≤10000) (hR:lM p q b eps grid bu f R k e):
  Calls Tryz.prog 21 #[.agg #[.int .i64 p.v,.slice p.A p.n p.c],.agg #[.int .i64 q.v,.slice q.A q.n q.c],.slice L n c,.agg #[.bool eps.neg,.string eps.aO,.int .i64 eps.e],.int .i64 grid,.int .i64 bu] w fun r w'=>∃A m c',r=.returned (.tuple #[.agg (R.cells A m c').toArray,.int .i64 k,.int .i64 e])∧Hp w [.row A m c' 33 3 (ar NR.cells R.at_)] w':=by
 have hh:=Hp.start w;have hbg:=fun w1 hT1 hb1=>CT p q L n c b k0 w1 hT1 (hp.ext hb1) lp (hq.ext hb1) lq (hB.ext hb1) hb hn hk0 hgp hgq fp fq;unfold lM at hR;generalize lj p q b=E at*;by_cases hE:E≠0
 ·rw [abx hE] at hR;obtain ⟨rfl,rfl,rfl⟩:=hR;refine Ms ?_;refine xQ ?_;intro b6 w6 hh b7 w7 hh b9 w9 hh b12 w12 hh;refine au (hbg _ (hT.hp hh) hh.below) ak.out rfl abr ?_;rintro e_ w31 ⟨x0,R0,rfl,hx0,h3⟩;refine ⟨_,rfl, ?_⟩;replace hh:=hh.join h3;clear h3;replace hh:=hh.perm aeI;simp only [abE,abC] at hh;refine lK ?_;intro b15 w15 hh ws hh ws hh;exact Yo
 ·rw [abw hE] at hR;obtain rfl:E=0:=ac7.1 hE;by_cases hs:eps.i.sign≤0
  ·rw [abx hs] at hR;obtain ⟨rfl,rfl,rfl⟩:=hR;refine Ms ?_;refine xQ ?_;intro b6 w6 hh b7 w7 hh b9 w9 hh b12 w12 hh;refine au (hbg _ (hT.hp hh) hh.below) ak.out rfl abr ?_;rintro e_ w31 ⟨x0,R0,rfl,hx0,h3⟩;refine ⟨_,rfl, ?_⟩;replace hh:=hh.join h3;clear h3;replace hh:=hh.perm aeI;simp only [abE,abC] at hh;refine bX ?_;intro b15 w15 hh ws hh;refine au (ct eps _) ak.out rfl abr ?_;rintro e_ w39 ⟨rfl,hb_⟩;refine ⟨_,rfl, ?_⟩;replace hh:=hh.ext hb_;generalize eps.i.sign=g at*;refine bT ?_;intro ws hh;exact Yo
  ·rw [abw hs] at hR;have hsb:=rj eps.i;refine Ms ?_;refine xQ ?_;intro b6 w6 hh b7 w7 hh b9 w9 hh b12 w12 hh;refine au (hbg _ (hT.hp hh) hh.below) ak.out rfl abr ?_;rintro e_ w31 ⟨x0,R0,rfl,hx0,h3⟩;refine ⟨_,rfl, ?_⟩;replace hh:=hh.join h3;clear h3;replace hh:=hh.perm aeI;simp only [abE,abC] at hh;refine bX ?_;intro b15 w15 hh ws hh;obtain ⟨hv0,hf0,hm0⟩:=hx0 rfl;refine au (ct eps _) ak.out rfl abr ?_;rintro e_ w39 ⟨rfl,hb_⟩;refine ⟨_,rfl, ?_⟩;replace hh:=hh.ext hb_;generalize eps.i.sign=g at*;refine aj ?_;refine cQ hh (cs:=[_,_,_,_,_]) bq.out az.out (bC (eR rfl) dk) rfl rfl abr abr abr rfl abr ?_;intro b43 w43 hh;refine aj ?_;replace hh:=hh.cJ 35 6;rw [←hv0] at hR;replace hh:=hh.sub (aby _ (aby _ (abA _ (aby _ (aby _ (abA _ (abA _ (aco _))))))))
   refine yf [13,14,17,18,19,20,21,22,23,24,25,26,44,45,46,47,48,49,50,51,52,53,54,55,56,57,58,59,60,61,62,63,64,65,66,67,68,69,70,71,72,73,74,75,76,77,78,79,80,81,82,83,84,85,86,87,88,89,90,91,92,93,94,95,96,97,98,99,100,101,102,103,104,105,106,107,108,109,110] 17 18 19
    (fun v17 v18 v w'=>∃(i fu:Nat) (xs:List CX) (l:List SR) (A1:Option Addr) (q1 c1:Nat) (T:Option Addr) (m c2:Nat) (Rw:List HE),v=.int .i64 i∧v17=.slice A1 q1 c1∧l.length=q1∧v18=.slice T m c2∧xs.length=m∧yw eps.d grid bu fu i (xs.map CX.v) l R k e∧(∀x∈xs,x.fit∧∀y∈x.rows,y∈Rw)∧(∀s∈l,s.ok)∧q1<i∧(i:Int)≤max bu 0+1∧m≤2*i∧Hp w (.row A1 q1 c1 35 6 (ar SR.cells l)::.row T m c2 97 5 (ar CX.cells xs.reverse)::.blk b12 58 [.int .i64 0,.bool false,.string (ByteArray.mk #[]),.int .i64 0,.bool false,.string (ByteArray.mk #[]),.int .i64 0,.slice none 0 0] (0,0)::.blk b9 33 [.bool eps.neg,.string eps.aO,.int .i64 eps.e] (0,0)::Rw) w')
    (fun _ _ v _=>(max bu 0+2).toNat-(intOf v).toNat) ?_ ?_
   ·exact ⟨1,f,[x0],[],none,0,0,_,1,_,R0,rfl,rfl,rfl,rfl,rfl,hR,fun x hx=>by obtain rfl:=abX.1 hx;exact ⟨hf0,hm0⟩,fun s hs=>absurd hs acS,abr,abq,abr,hh⟩
   ·clear hh;rintro ρ' v17 v18 v w' ⟨i,fu,xs,l,A1,q1,c1,T,m,c2,Rw,rfl,rfl,hq1,rfl,hm,hE2,hxs,hl,hli,hib,hxl,hh⟩
    cases xs with
    |nil=>
     obtain rfl:m=0:=hm.symm;obtain ⟨rfl,rfl,rfl⟩:R=LK∧k=0∧e=3:=by cases fu<;>exact hE2
     exact XU
    |cons x r=>
     obtain rfl:m=r.length+1:=hm.symm
     cases fu with
     |zero=>exact absurd hE2 id
     |succ fu=>
      rw [ab8,yw] at hE2;by_cases hbu:bu<i
      ·rw [abx hbu] at hE2;obtain ⟨rfl,rfl,rfl⟩:=hE2;exact XU
      ·rw [abw hbu] at hE2;obtain ⟨hok,hE2⟩:=hE2;obtain ⟨hfx,hmx⟩:=hxs x abF;have hget:(x::r).reverse[r.length]?=some x:=by rw [adQ,acP (by simp),abY,acs];rfl
       obtain ⟨gT,rfl⟩:=hh.bP (i:=1) rfl abq;refine bO (sr (mL (te ?_)));refine B8 (aJ (cT (dA (eF (bO (lk (bO (sr (mI (mI ?_))))))))));refine B8 (aJ (cF (dA (eF (sr (mL (mL (te ?_))))))));refine qy ?_;refine dF (k:=r.length) bq.out az.size rfl rfl abq abq abr ?_;refine bF (vs:=[_,_,_,_,_]) az.out rfl (hh.df (f:=CX.cells) (x:=x) (l:=(x::r).reverse) (i:=1) rfl CX.len abr hget) rfl abr ?_;have hcap:=hh.gN (i:=1) rfl;refine bX ?_;intro Ww w20 hh ws hh;refine oG (h:=r.length) bq.out az.size rfl rfl abq abq abr ?_;refine aj ?_;replace hh:=hh.perm (acf (l₁:=[_,_]));simp only [abE,abC] at hh;replace hh:=hh.BL (k:=r.length) abq;rw [j6 CX.len,show (x::r).reverse.take r.length=r.reverse by simp] at hh;have hbd:=fun w1 hT1 hx1=>sF x grid w1 hT1 hx1 hfx hok hg1 hg2;generalize eD x.v.f x.v.g grid=V at*;generalize gB x.v.f x.v.g=BE at*;refine au (hbd _ (hT.hp hh) (.of hh fun y hy=>acI [_,_,_,_,_] (hmx y hy))) ak.out rfl abr ?_;rintro e_ w70 ⟨rfl,hb_⟩;refine ⟨_,rfl, ?_⟩;replace hh:=hh.ext hb_;by_cases hB0:BE=0
       ·subst hB0;rw [abx rfl] at hE2;obtain ⟨hVo,hE2⟩:=hE2;have hlo:∀s∈l++[V],s.ok:=List.forall_mem_append.2 ⟨hl,fun s hs=>by obtain rfl:=abX.1 hs;exact hVo⟩;have hhull:=fun A c w1 hT1 hS1=>yu A (q1+1) c (l++[V]) w1 hT1 hS1 hlo abq
        cases r with
        |nil=>
         rw [acF,abx rfl] at hE2;obtain ⟨rfl,rfl,rfl⟩:=hE2;refine bX ?_;intro b21 w21 hh ws hh;refine Fl ?_;intro b77 w77 hh;refine NY ?_;intro A78 c78 w78 hh;simp only [abK,ab9] at hh;replace hh:=hh.sub (acn _ _);refine aj ?_;refine au (hhull _ _ _ (hT.hp hh) (show Sl _ _ _ _ (ar SR.cells (l++[V])) from by rw [bo];exact hh.ao (i:=3) rfl)) ak.out rfl abr ?_;rintro e_ w83 ⟨rfl,hb_⟩;refine ⟨_,rfl, ?_⟩;replace hh:=hh.ext hb_;refine bT ?_;intro ws hh;refine JV (bI rfl (bJ (vs:=[_,_,_,_,_,_,_,_]) az.out (hh.aE (i:=4) (n:=8) rfl rfl) rfl) (dQ (eL rfl) (dQ (eL rfl) cR))) ?_;exact MO
        |cons y r=>
         rw [ab8,abw (by simp)] at hE2;refine bX ?_;intro b21 w21 hh ws hh;refine Fl ?_;intro b77 w77 hh;refine NY ?_;intro A78 c78 w78 hh;simp only [abK,ab9] at hh;replace hh:=hh.sub (acn _ _);refine aj ?_;replace hh:=hh.perm (acf (l₁:=[_]));simp only [abE,abC] at hh;replace hh:=hh.perm (acf (l₁:=[_,_,_]));simp only [abE,abC] at hh;replace hh:=hh.sub (aby _ (aby _ (abA _ (abA _ (aby _ (aby _ (aco _)))))));refine ⟨⟨i+1,fu,y::r,l++[V],A78,q1+1,c78,_,_,c2,Rw,rfl,rfl,by rw [abJ,hq1];rfl,rfl,rfl,hE2,fun z hz=>hxs z (abN _ hz),hlo,abq,abq, ?_, ?_⟩, ?_, ?_⟩
         ·omega
         ·rw [bo];exact hh
         ·show (max bu 0+2).toNat-(i+1)<(max bu 0+2).toNat-i;omega
         ·exact dI
       ·rw [abw hB0] at hE2;have hnr:=fun w1 hT1 hx1=>Dd x eps w1 hT1 hx1 hfx hok he;have hn20:∀w1,x.at_ w1→x.n≤20:=fun w1 h1=>by
         have:=h1.b.aX SR.len abr;have:=hok.Ww;omega
        generalize mq x.v.g eps.d=NE at*;generalize nX x.v.g eps.d=NK at*;refine bX ?_;intro b21 w21 hh ws hh;have xat:=CX.at_.of (x:=x) hh fun y hy=>acI [_,_,_,_,_,_] (hmx y hy);replace hn20:=hn20 _ xat;refine au (hnr _ (hT.hp hh) xat) ak.out rfl abr ?_;rintro e_ w90 ⟨rfl,hb_⟩;refine ⟨_,rfl, ?_⟩;replace hh:=hh.ext hb_;replace xat:=xat.ext hb_;by_cases hN0:NE=0
        ·subst hN0;rw [abx rfl] at hE2;obtain ⟨rfl,rfl,rfl⟩:=hE2;refine aj ?_;refine au (yR x.L x.n x.c x.v.b (NK:Int) _ (hT.hp hh) xat.b (fun s hs=>⟨(hok.bx s hs).1.ok,(hok.bx s hs).2.ok⟩) abq) ak.out rfl abr ?_;rintro e_ w98 ⟨A98,c98,rfl,hown_,hb_⟩;refine ⟨_,rfl, ?_⟩;replace hh:=hh.aD (x:=.row _ _ _ _ _ _) hb_ hown_;refine bT ?_;intro ws hh;refine JV (bI rfl (bJ (vs:=[_,_,_,_,_,_,_,_]) az.out (hh.aE (i:=5) (n:=8) rfl rfl) rfl) (dQ (eL rfl) (dQ (eL rfl) cR))) ?_;exact ⟨A98,x.n,c98,rfl,hh.sub (.cons_cons _ (acA _))⟩
        ·rw [abw hN0] at hE2;obtain ⟨a,s,hW,hs,had,hE2⟩:=hE2;refine aj ?_;have xat:=CX.at_.of (x:=x) hh fun y hy=>acI [_,_,_,_,_,_] (hmx y hy);refine au (Bj x a s _ (hT.hp hh) xat hfx hok hW hs had) ak.out rfl abr ?_;rintro e_ w103 ⟨lo,up,R2,rfl,e1,e2,hfl,hfu,hm2,h3⟩;refine ⟨_,rfl, ?_⟩;replace hh:=hh.join h3;clear h3;replace hh:=hh.perm aeI;simp only [abE,abC] at hh;rw [←e1,←e2] at hE2;refine xQ ?_;intro b25 w25 hh b26 w26 hh ws hh ws hh;refine cQ hh (cs:=[_,_,_,_,_,_,_,_,_,_]) bq.out az.out (bC (eR rfl) (bC (eR rfl) dk)) rfl rfl abr abr abr rfl abr ?_;intro b109 w109 hh;refine NY ?_;intro A110 c110 w110 hh;simp only [abK,ab9] at hh;replace hh:=hh.sub (acn _ _);refine aj ?_;replace hh:=hh.perm (acf (l₁:=[_,_,_]));simp only [abE,abC] at hh;replace hh:=hh.perm (acf (l₁:=[_,_,_,_,_]));simp only [abE,abC] at hh
         replace hh:=hh.sub (aby _ (aby _ (abA _ (abA _ (abA _ (abA _ (aby _ (aby _ (aco _)))))))));refine ⟨⟨i+1,fu,lo::up::r,l,A1,q1,c1,A110,_,c110,Rw++R2,rfl,rfl,hq1,rfl,rfl,hE2,fun z hz=> ?_,hl,abq,abq, ?_, ?_⟩, ?_, ?_⟩
         ·rcases abO.1 hz with rfl|hz
          ·exact ⟨hfl,fun y hy=>acI _ (hm2 y (adf _ hy))⟩
          ·rcases abO.1 hz with rfl|hz
           ·exact ⟨hfu,fun y hy=>acI _ (hm2 y (acI _ hy))⟩
           ·exact ⟨(hxs z (abN _ hz)).1,fun y hy=>adf _ ((hxs z (abN _ hz)).2 y hy)⟩
         ·show r.length+2≤_;omega
         ·rw [show (lo::up::r).reverse=r.reverse++[up,lo] by simp,bo];exact hh
         ·show (max bu 0+2).toNat-(i+1)<(max bu 0+2).toNat-i;omega
         ·exact dI
def tD (b:List SR) (h:Int):Option (List SR):=
 if h.fdiv 2<0 then none else (b[(h.fdiv 2).toNat]?).map fun s=>(b.map SR.f).set (h.fdiv 2).toNat (s.f.half (nR s.f.kB) (decide (h % 2=1)))
def ZS (b:List SR) (hs:List Int):Option (List SR):=hs.foldl (fun o h=>o.bind (tD · h)) (some b)
theorem Sz.kB {x y:Dyadic} (hx:Sz k x) (hy:Sz k y):Sz (k+2) ((x+y)*dm (-1)):=
 ((hx.add hy).mul (show Sz 1 (dm (-1)) from ⟨1,by decide+kernel,abr⟩)).mono abq
theorem qP.up {l:Nat}{a:NR} (h:qP k a) (hl:k≤l):qP l a:=⟨h.ok,h.sz.mono hl⟩
theorem G5 {b b':List SR}{h:Int} (hb:∀s∈b,s.fin k) (hk:k+2≤3000000) (e:tD b h=some b'):(∀s∈b',s.fin (k+2))∧b'.length=b.length:=by
 unfold tD at e;split at e
 ·cases e
 ·rcases hs:b[(h.fdiv 2).toNat]? with _|s
  ·rw [hs] at e;cases e
  ·rw [hs] at e
   cases e
   refine ⟨fun t ht=> ?_,by rw [acU,abH]⟩;have hf:=SR.qb (hb s (abz hs)) abq
   rcases aeN ht with ht|rfl
   ·obtain ⟨u,hu,rfl⟩:=abL.1 ht;have:=SR.qb (hb u hu) abq;exact ⟨this.1.up abq,this.2.up abq⟩
   ·have hm:qP (k+2) (nR s.f.kB):=qP.of (Sz.kB hf.1.sz hf.2.sz) hk;unfold SR.half;split
    ·exact ⟨hm,hf.2.up abq⟩
    ·exact ⟨hf.1.up abq,hm⟩
def SR.at_ (s:SR) (x:Dyadic):Dyadic:=s.lo.d+x*s.wid
theorem CF (i:Nat) (s:SR) (p:Addr) (M:Option Addr) (m c:Nat) (w:World) (him:m≤i) (hp:w.cell? p=some (.slice M m c)):
  Calls Tryz.prog 62 #[.int .i64 i,.agg s.cells.toArray,.pointer (some p)] w fun r w'=>r=.returned (.agg #[.bool s.lo.neg,.string s.lo.aO,.int .i64 s.lo.e])∧Below w.heap.size w w':=by
 have hh:=Hp.start w;refine ae (N:=24) (l:=[.int .i64 i,.agg s.cells.toArray,.pointer (some p)]) Tryz.func62 rfl rfl (by simp) ?_;exact Tn
theorem yH (i:Nat) (s:SR) (p:Addr) (M:Option Addr) (m c k:Nat) (t:List NR) (x:NR) (w:World) (hT:dq w) (hs:s.fin k) (hx:x.ok∧Sz k x.d) (hk:k≤1000000) (hm:m≤1000000) (hS:Sl w M m 3 (ar NR.cells t)) (hti:t[i]?=some x) (hp:w.cell? p=some (.slice M m c)):
  Calls Tryz.prog 62 #[.int .i64 i,.agg s.cells.toArray,.pointer (some p)] w fun r w'=>r=.returned (.agg #[.bool (nR (s.at_ x.d)).neg,.string (nR (s.at_ x.d)).aO,.int .i64 (nR (s.at_ x.d)).e])∧Below w.heap.size w w':=by
 have hh:=Hp.start w;have hlm:=hS.aX NR.len abr;have him:i<m:=by have:=(abM.1 hti).1;omega
 obtain ⟨ad,rfl,hr⟩:=hS.at_ abq;have hw:=fun w1 hT1=>me s k w1 hT1 hs abq;have hmul:=fun A cc w1 hT1 hS1=>eC A 2 cc [x,nR s.wid] w1 hT1 hS1 (by simpa using ⟨hx.1,(SR.Xy hs).ok abq⟩) (k+1) (by simpa [a6] using ⟨hx.2.mono abq,SR.Xy hs⟩) abq abq;have hpr:gO ([x,nR s.wid].map NR.d)=x.d*s.wid:=by
  show 1*x.d*(nR s.wid).d=_;rw [a6,adq]
 rw [hpr] at hmul;have hpz:Sz (2*k+1) (x.d*s.wid):=(hx.2.mul (SR.Xy hs)).mono abq;have hadd:=fun A cc w1 hT1 hS1=>gl A 2 cc [s.lo,nR (x.d*s.wid)] w1 hT1 hS1 (by simpa using ⟨hs.1.ok,hpz.ok abq⟩) (2*k+1) (by simpa [a6] using ⟨hs.1.sz.mono abq,hpz⟩) abq;have hsm:nM ([s.lo,nR (x.d*s.wid)].map NR.d)=s.at_ x.d:=by
  simp only [ab8,acF,a6,jH];rfl
 rw [hsm] at hadd;refine ae (N:=24) (l:=[.int .i64 i,.agg s.cells.toArray,.pointer (some p)]) Tryz.func62 rfl rfl (by simp) ?_;refine bX ?_;intro b4 w4 hh b5 w5 hh;refine zR ?_;refine aj ?_;refine aC 10 [[(4,none)],[(12,some 0)],[(2,none)],[(0,none)],[(14,some 2),(15,some 3)],[(16,some 4)],[(4,none)],[(18,some 6)],[(17,some 5),(19,some 7)],[(20,some 8)]] [(9,21),(8,20),(7,19),(6,18),(5,17),(4,16),(3,15),(2,14),(1,13),(0,12)] hh mixed abt ?_;refine dw ?_;refine da 1 [_,_,_] ?_;refine De ?_;refine dp ?_;refine a8 (i:=4) (fun ρ1 w1 hj hR=>ep bq.out az.size (show ρ1 14=Value.slice _ _ _ from hR.1) (show ρ1 15=Value.int _ _ from hR.2.1) abq abq) ?_;refine p9 [_,_,_] (fun _ hj=>(hr.ext hj.hp.below).recAt NR.len hti) ?_;refine da 1 [_,_,_,_,_,_] ?_;refine dC (fun _ hj=>hw _ (hT.hp hj.hp)) ?_;refine uW [_,_,_,_,_,_] ?_;refine aW (i:=9) (Is (.agg #[.bool (nR (x.d*s.wid)).neg,.string (nR (x.d*s.wid)).aO,.int .i64 (nR (x.d*s.wid)).e])) Is.ext ?_ ?_
 ·intro ρ1 w1 hj hR;obtain ⟨A20,c20,h20,s20⟩:=hR.1;exact bp rfl (aR ak.out (aq h20 aY)) (hmul A20 c20 _ (hT.hp hj.hp) s20) (fun _ _ hq=>⟨_,hq.1,hq.2,rfl⟩)
 refine av ?_;intro f W hJ hV;have hb_3:=hJ.bl;obtain ⟨v21,v20,v19,v18,v17,v16,v15,v14,v13,v12,_⟩:=hV;obtain ⟨A20,c20,e20,f20⟩:Rows _ _ _ (f 8) W:=v20;replace hh:=hJ.hp;refine ay (aQ (aa v21 (aa e20 (aa v19 (aa v18 (aa v17 (aa v16 (aa v15 (aa v14 (aa v13 (aa v12 aw))))))))))) ?_;dsimp only [bA];clear e20 hJ;refine qd ?_;intro b22 w22 hh;refine aZ hh (hadd _ _ _ (hT.hp hh) (hh.ao (i:=0) rfl)) rfl ?_;intro w23 hh;exact Ow
def ig (t:List NR) (i:Nat) (s:SR):NR:=match t[i]? with|none=>s.lo|some x=>nR (s.at_ x.d)
theorem Ba (L:Option Addr) (n c:Nat) (b:List SR) (M:Option Addr) (m c2:Nat) (t:List NR) (k:Nat) (w:World) (hT:dq w) (hS:Sl w L n 6 (ar SR.cells b)) (hb:∀s∈b,s.fin k) (hS2:Sl w M m 3 (ar NR.cells t)) (ht:∀x∈t,x.ok∧Sz k x.d) (hn:n≤1000000) (hm:m≤1000000) (hk:k≤1000000):
  Calls Tryz.prog 23 #[.slice L n c,.slice M m c2] w fun r w'=>∃A c',r=.returned (.slice A n c')∧w'.ownsRow w.heap.size 33 3 (.slice A n c') n (ar NR.cells (b.mapIdx fun i s=>ig t i s.f))∧Below w.heap.size w w':=by
 have hh:=Hp.start w;have hlm:=hS2.aX NR.len abr;refine ae (N:=8) (l:=[.slice L n c,.slice M m c2]) Tryz.func23 rfl rfl (by simp) ?_;refine bT ?_;intro b3 w3 hh;refine vZ ?_;have hp0:w3.cell? ⟨b3,0,none⟩=some (.slice M m c2):=hh.ej (i:=0) rfl rfl;have hcl:∀(i:Nat) (s:SR) (w1:World),i<n→b[i]?=some s→Below w3.heap.size w3 w1→dq w1→Calls Tryz.prog 62 #[.int .i64 i,.agg s.f.cells.toArray,.pointer (some ⟨b3,0,none⟩)] w1 fun r w'=>r=.returned (.agg #[.bool (ig t i s.f).neg,.string (ig t i s.f).aO,.int .i64 (ig t i s.f).e])∧Below w1.heap.size w1 w':=fun i s w1 hi hs hw1 hT1=>by
  have hp:=(hw1.cell (ni hp0)).trans hp0;unfold ig
  rcases hx:t[i]? with _|x
  ·rw [afe] at hx;exact CF i s.f ⟨b3,0,none⟩ M m c2 w1 abq hp
  ·exact yH i s.f ⟨b3,0,none⟩ M m c2 k t x w1 hT1 (SR.qb (hb s (abz hs)) abq) (ht x (abz hx)) hk hm ((hS2.ext hh.below).ext hw1) hx hp
 refine au (tY L n c b 62 [.pointer (some ⟨b3,0,none⟩)] (fun i s=>ig t i s.f) _ (hT.hp hh) (hS.ext hh.below) (fun s h=>⟨(hb s h).1.ok,(hb s h).2.ok⟩) hn hcl) ak.out rfl abr ?_;exact Uk
theorem SI (n:Nat) (s1 s1' s2 s2':Bool) (a1 a1' a2 a2':ByteArray) (e1 e1' e2 e2':Int) (w:World):(Op.equalIn (n+4) 35 (.agg #[.bool s1,.string a1,.int .i64 e1,.bool s2,.string a2,.int .i64 e2]) (.agg #[.bool s1',.string a1',.int .i64 e1',.bool s2',.string a2',.int .i64 e2'])).run Tryz.prog w=.ok (((s1==s1' && a1==a1') && e1==e1') && ((s2==s2' && a2==a2') && e2==e2')) w:=by
 have h1:=fun (x x':Bool) (y y':ByteArray) (z z':Int)=>Og (P:=Tryz.prog) (cs:= #[.bool x,.string y,.int .i64 z,.bool x',.string y',.int .i64 z']) (vs:= #[.bool x,.string y,.int .i64 z]) (off:=0) (az.out (P:=Tryz.prog) (t:=33)) rfl;have h2:=fun (x x':Bool) (y y':ByteArray) (z z':Int)=>Og (P:=Tryz.prog) (cs:= #[.bool x,.string y,.int .i64 z,.bool x',.string y',.int .i64 z']) (vs:= #[.bool x',.string y',.int .i64 z']) (off:=3) (az.out (P:=Tryz.prog) (t:=33)) rfl;rw [Op.equalIn];simp [run_underlying Tryz.underlying35,h1,h2,NO]
 cases h:((s1==s1' && a1==a1') && e1==e1')<;>cases h':((s2==s2' && a2==a2') && e2==e2')<;>simp_all
section
variable {N:Nat}{ops:Array Oper}{Q:Kq}{ρ:Rf}{w:World}{rest:List Oper}{d:Option Nat}{ty u:TypeId}{pos:String}{af:Array Edge}{x y:Operand}{s:SR}
end
theorem rU (L:Option Addr) (n c:Nat) (b:List NR) (M:Option Addr) (c2:Nat) (w:World) (hS:Sl w L n 3 (ar NR.cells b)) (hS2:Sl w M n 3 (ar NR.cells b)) (hn:n≤1000000):
  Calls Tryz.prog 60 #[.slice L n c,.slice M n c2] w fun r w'=>r=.returned (.bool true)∧Below w.heap.size w w':=by
 have hh:=Hp.start w;have hln:=hS.aX NR.len abr;refine ae (N:=26) (l:=[.slice L n c,.slice M n c2]) Tryz.func60 rfl rfl (by simp) ?_;refine aj ?_;refine aH [4,5,11,12,13,14,15,16,17,18,19,20,21,22,23,24,25] 5
  (fun v w'=>∃i:Nat,i≤n∧v=.int .i64 i∧Hp w [] w')
  (fun v _=>n-(intOf v).toNat) ?_ ?_
 ·exact ⟨0,abB _,rfl,hh⟩
 ·clear hh;rintro ρ' v w' ⟨i,hi,rfl,hh⟩;by_cases hlt:i<n
  ·obtain ⟨s,hs⟩:=ai (l:=b) (k:=i) abq;obtain ⟨ad,rfl,hr⟩:=hS.at_ abq;obtain ⟨ad2,rfl,hr2⟩:=hS2.at_ abq;refine aj ?_;refine aC 8 [[(0,none)],[(5,none)],[(17,some 0),(18,some 1)],[(19,some 2)],[(1,none)],[(5,none)],[(21,some 4),(22,some 5)],[(23,some 6)]] [(7,24),(6,23),(5,22),(4,21),(3,20),(2,19),(1,18),(0,17)] hh mixed abt ?_;refine fO ?_;refine dp ?_;refine mU (i) ?_;refine p9 [_,_,_] (fun _ hj=>(hr.ext hj.hp.below).recAt NR.len hs) ?_;refine fO ?_;refine dp ?_;refine mU (i) ?_;refine p9 [_,_,_] (fun _ hj=>(hr2.ext hj.hp.below).recAt NR.len hs) ?_;refine av ?_;intro f W hJ hV;have hb_6:=hJ.bl;obtain ⟨v24,v23,v22,v21,v20,v19,v18,v17,_⟩:=hV;replace hh:=hJ.hp;refine ay (aQ (aa v24 (aa v23 (aa v22 (aa v21 (aa v20 (aa v19 (aa v18 (aa v17 aw))))))))) ?_;dsimp only [bA];clear hJ;refine IK rfl rfl (by first|assumption|rfl) abr ?_;refine aj ?_;exact vH
  ·refine aj ?_;exact ⟨rfl,hh.below⟩
variable {pos:String}{ρ:Rf}
theorem RY {d:Option Nat}{ty u:TypeId}{af:Array Edge}{x y:Operand}{s:SR}{g:Option (Nat×Bool)} (hx:ev ρ x=.agg s.cells.toArray) (hy:ev ρ y=.agg s.cells.toArray):
  (execOp (ev ρ) ⟨d,.binOp .eql 35 x y u,ty,pos,af,g⟩).run Tryz.prog w=.ok (.value (.bool true)) w:=by
 have h0:=SI 9996 s.lo.neg s.lo.neg s.hi.neg s.hi.neg s.lo.aO s.lo.aO s.hi.aO s.hi.aO s.lo.e s.lo.e s.hi.e s.hi.e w;rw [nu.2 rfl,nu.2 rfl] at h0;have h1:(Op.equal 35 (.agg s.cells.toArray) (.agg s.cells.toArray)).run Tryz.prog w=.ok true w:=h0;simp only [execOp,hx,hy];simp [eqGuard,binOp,h1]
theorem lY (R:RV) (A B:Option Addr) (m ca cb:Nat) (w:World) (hA:Sl w A m 3 (ar NR.cells R.at_)) (hB:Sl w B m 3 (ar NR.cells R.at_)) (hm:m≤1000):
  Calls Tryz.prog 22 #[.agg (R.cells A m ca).toArray,.agg (R.cells B m cb).toArray] w fun r w'=>r=.returned (.bool true)∧Below w.heap.size w w':=by
 have hh:=Hp.start w;have hs:=fun w1 hb1=>rU A m ca R.at_ B cb w1 (hA.ext hb1) (hB.ext hb1) abq;refine ae (N:=24) (l:=[.agg (R.cells A m ca).toArray,.agg (R.cells B m cb).toArray]) Tryz.func22 rfl rfl (by simp) ?_;refine bX ?_;intro b2 w2 hh b3 w3 hh;refine aM rfl rfl abr (RY (s:=R.s) rfl rfl) ?_;skip;refine aj ?_;refine aZ hh (hs _ hh.below) rfl ?_;intro w22 hh;refine aj ?_;exact ⟨rfl,hh.below⟩
theorem dE (n:Int) (w:World) (h1: -9223372036854775808≤n) (h2:n≤9223372036854775807):
  Calls Tryz.prog 29 #[.int .i64 n] w fun r w'=>r=.returned (.agg (NR.cells (nR (n:Dyadic))).toArray)∧Below w.heap.size w w':=by
 have hh:=Hp.start w;refine ae (N:=5) (l:=[.int .i64 n]) Tryz.func29 rfl rfl (by simp) ?_;refine bT ?_;intro b2 w2 hh;refine aZ hh (LF n _ h1 h2) rfl ?_;intro w4 hh;exact AO
theorem lW (a b:Int) (w:World) (h1: -1000≤a∧a≤1000) (h2: -1000≤b∧b≤1000):
  Calls Tryz.prog 28 #[.int .i64 a,.int .i64 b] w fun r w'=>∃A c B c',r=.returned (.agg #[.slice A 1 c,.slice B 2 c'])∧Hp w [.row B 2 c' 33 3 (ar NR.cells [nR (a:Dyadic),nR (b:Dyadic)]),.row A 1 c 3 1 (bh [1])] w':=by
 have hh:=Hp.start w;refine ae (N:=12) (l:=[.int .i64 a,.int .i64 b]) Tryz.func28 rfl rfl (by simp) ?_;refine bT ?_;intro b4 w4 hh;refine cQ hh (cs:=[_]) bq.out az.out (bC rfl dk) rfl rfl abr abr abr rfl abr ?_;intro b5 w5 hh;refine mI ?_;refine aZ hh (dE a _ abq abq) rfl ?_;intro w7 hh;refine mI ?_;refine aZ hh (dE b _ abq abq) rfl ?_;intro w9 hh;refine qd ?_;intro b10 w10 hh;refine bT ?_;intro ws hh;replace hh:=show Hp w (.row (some ⟨b10,0,none⟩) 2 2 33 3 (ar NR.cells [nR (a:Dyadic),nR (b:Dyadic)])::.row (some ⟨b5,0,none⟩) 1 1 3 1 (bh [1])::.blk b4 25 [.slice (some ⟨b5,0,none⟩) 1 1,.slice (some ⟨b10,0,none⟩) 2 2] (0,0)::_) _ from hh;refine Kt (bI rfl (bJ (vs:=[_,_]) az.out (hh.aE (i:=2) (n:=2) rfl rfl) rfl) cR) ?_;exact ⟨_,_,_,_,rfl,hh.sub (.cons_cons _ (.cons_cons _ (acA _)))⟩
theorem yS (a b:Int) (K:ZT) (w:World) (h1: -200≤a∧a≤200) (h2: -200≤b∧b≤200) (hK:(zC K && zE K [([0],a),([1],b)])=true):
  Calls Tryz.prog 31 #[.int .i64 a,.int .i64 b] w fun r w'=>∃p:PX,p.v=1∧p.ts=zT K∧r=.returned (.agg #[.int .i64 p.v,.slice p.A p.n p.c])∧Hp w [p.row] w':=by
 have hh:=Hp.start w;refine ae (N:=19) (l:=[.int .i64 a,.int .i64 b]) Tryz.func31 rfl rfl (by simp) ?_;refine bT ?_;intro b4 w4 hh;refine aZ hh (dE a _ abq abq) rfl ?_;intro w9 hh;refine aj ?_;refine aZ hh (dE b _ abq abq) rfl ?_;intro w12 hh;refine aj ?_;refine cQ hh (cs:=[_,_,_,_,_,_,_,_]) bq.out az.out (bC (eR rfl) (bC (eR rfl) dk)) rfl rfl abr abr abr rfl abr ?_;intro b14 w14 hh;have hz:=IZ (L:=[([0],a),([1],b)]) (by unfold zB;simp;omega);have hmk:=fun w1 hS1=>AQ 1 (some ⟨b14,0,none⟩) 2 2 (zT [([0],a),([1],b)]) 24 w1 hS1 abr hz.1 abr (fun t ht=>abW (hz.2 t ht) abr);rw [KV hK,SE abr (by rfl) (by simp)] at hmk;replace hh:=show Hp w (.row (some ⟨b14,0,none⟩) 2 2 95 4 (ar TR.cells (zT [([0],a),([1],b)]))::.blk b4 52 [.int .i64 0,.slice none 0 0] (0,0)::_) _ from hh;refine au (hmk _ (hh.ao (i:=0) rfl)) ak.out rfl abr ?_;rintro e_ w15 ⟨p,hp,rfl,h3⟩;refine ⟨_,rfl, ?_⟩;replace hh:=hh.join h3;simp only [abE,abC] at hh;clear h3;refine lK ?_;intro b5 w5 hh ws hh ws hh;refine Kt (bI rfl (bJ (vs:=[_,_]) az.out (hh.aE (i:=3) (n:=2) rfl rfl) rfl) cR) ?_
 exact ⟨p,hp.v,hp.ts,rfl,hh.sub (.cons _ (.cons_cons _ (acA _)))⟩
variable {Y:List Dyadic}{bu:Int}{eps:NR}
def pZ (K:ZT):PX:=⟨1,none,0,0,zT K⟩
def jk:List SR:=[⟨⟨false,ByteArray.mk #[],0⟩,nR ((1:Int):Dyadic)⟩]
abbrev P1:ZT:=[([0],1)]
abbrev Q1:ZT:=[([0],1),([1],1)]
abbrev Q2:ZT:=[([1],1)]
abbrev Q3:ZT:=[([0], -1),([1],2)]
def qi:Dyadic:=((1:Int):Dyadic)*dm (-1)
def sJ:NR:=nR (((1:Int):Dyadic)*dm (-2))
def fJ (l:List Int):List Dyadic:=l.map fun z:Int=>(z:Dyadic)
def cA:CV:=⟨jk.map SR.f,[1],fJ [1,1],fJ [1,2]⟩
def cB:CV:=⟨jk.map SR.f,[1],fJ [1,1],fJ [0,1]⟩
def cC:CV:=⟨jk.map SR.f,[1],fJ [1,1],fJ [-1,1]⟩
def fR:SR:=⟨nR 0,nR ((1:Int):Dyadic)⟩
def cD:CV:=⟨[fR.f.half (nR fR.f.kB) false],[1],fJ [1,1],fJ [-1,0]⟩
theorem AK {l:List SR}{x y:Dyadic} (h:fW (fun x y=>decide (x<y)) ((qp l).map NR.d)=x∧fW (fun x y=>decide (y<x)) ((qp l).map NR.d)=y):kA l=⟨nR x,nR y⟩:=by unfold kA;rw [h.1,h.2]
theorem Vl (z:Int) (h:z.natAbs<256):Sz 90000 (z:Dyadic):=(show Sz 24 (z:Dyadic) from a6 (z:Dyadic) ▸ ((IZ (L:=[([],z)]) (by unfold zB;simpa using h)).1 ⟨str [],nR (z:Dyadic)⟩ abF).2).mono abr
theorem qT {l:List Dyadic}{L:List Int} (h:l=L.map fun z:Int=>(z:Dyadic)) (hs:L.all (fun z=>decide (z.natAbs<256))=true):∀x∈l,Sz 90000 x:=fun x hx=>by
 rw [h] at hx;obtain ⟨z,hz,rfl⟩:=abL.1 hx;exact Vl z (ads (ab6.1 hs z hz))
theorem pF {b:List SR}{X Y:List Int} (hb:∀s∈b,s.fin 1000) (hb1:b.length≤20) (hX:X.length=2) (hY:Y.length=2) (hs:(X++Y).all (fun z=>decide (z.natAbs<256))=true)
  (hu:kz (maxD [oW [1] (X.map fun z:Int=>(z:Dyadic)),oW [1] (Y.map fun z:Int=>(z:Dyadic))]) (oW [1] (X.map fun z:Int=>(z:Dyadic)))=(X.map fun z:Int=>(z:Dyadic))∧kz (maxD [oW [1] (X.map fun z:Int=>(z:Dyadic)),oW [1] (Y.map fun z:Int=>(z:Dyadic))]) (oW [1] (Y.map fun z:Int=>(z:Dyadic)))=(Y.map fun z:Int=>(z:Dyadic))):
  CV.ok ⟨b,[1],X.map fun z:Int=>(z:Dyadic),Y.map fun z:Int=>(z:Dyadic)⟩:=by
 rw [aeZ,abS] at hs;have h1:=qT (l:=X.map fun z:Int=>(z:Dyadic)) rfl hs.1;have h2:=qT (l:=Y.map fun z:Int=>(z:Dyadic)) rfl hs.2;refine ⟨hb,hb1,(by decide:([1]:List Nat).length≤12),(by decide:∀d∈([1]:List Nat),d≤127),(by decide:ah [1]≤200),by rw [abH,hX];rfl,by rw [abH,hY];rfl,h1,h2,fun _=> ?_⟩;unfold CV.f CV.g;dsimp only;rw [hu.1,hu.2];exact ⟨fun x hx=>(h1 x hx).mono abr,fun x hx=>(h2 x hx).mono abr⟩
theorem Fi:∀s∈jk,s.fin 24:=fun s hs=>by
 obtain rfl:=abX.1 hs;exact ⟨⟨⟨abr,abr,abr⟩,by show Sz 24 (NR.d ⟨false,ByteArray.mk #[],0⟩);rw [show NR.d ⟨false,ByteArray.mk #[],0⟩=0 by decide+kernel];exact Sz.zero _⟩,qP.of ((show Sz 1 ((1:Int):Dyadic) from ⟨2,by decide+kernel,abr⟩).mono abr) abr⟩
theorem pE:∀s∈jk.map SR.f,s.fin 1000:=fun s hs=>by
 obtain ⟨z,hz,rfl⟩:=abL.1 hs;have h:=SR.qb (Fi z hz) abr;exact ⟨⟨h.1.ok,h.1.sz.mono abr⟩,⟨h.2.ok,h.2.sz.mono abr⟩⟩
theorem Zx:cA.ok:=pF (X:=[1,1]) (Y:=[1,2]) pE abr rfl rfl rfl (by decide+kernel)
theorem YJ:cB.ok:=pF (X:=[1,1]) (Y:=[0,1]) pE abr rfl rfl rfl (by decide+kernel)
theorem Zh:cC.ok:=pF (X:=[1,1]) (Y:=[-1,1]) pE abr rfl rfl rfl (by decide+kernel)
def RA:RV:=⟨1,⟨nR qi,nR ((1:Int):Dyadic)⟩,[]⟩
def RB:RV:=⟨2,II,[nR ((0:Int):Dyadic)]⟩
def RC:RV:=⟨2,II,[nR qi]⟩
theorem wv {p q:PX}{b:List SR}{D:List Nat} (h:maxD [eW p b,eW q b]=D∧kz D (eW p b)=X∧kz D (eW q b)=Y):k7 p q b=⟨b.map SR.f,D,X,Y⟩:=by unfold k7;rw [h.1,h.2.1,h.2.2]
theorem VU:k7 (pZ P1) (pZ Q1) jk=cA:=wv (by decide+kernel)
theorem UM:k7 (pZ P1) (pZ Q2) jk=cB:=wv (by decide+kernel)
theorem Wq:k7 (pZ P1) (pZ Q3) jk=cC:=wv (by decide+kernel)
theorem YY:lM (pZ P1) (pZ Q1) jk sJ 2 9 1 RA 1 0:=by
 unfold lM;rw [abw (by decide+kernel),abw (by decide+kernel),VU,yw,abw abr];refine ⟨Zx, ?_⟩;rw [abx (by decide+kernel)];have hv:eD cA.f cA.g 2=⟨nR qi,nR ((1:Int):Dyadic)⟩:=by
  unfold eD;rw [abx (by decide+kernel)];exact AK (by decide+kernel)
 rw [hv];refine ⟨⟨by unfold NR.ok;decide+kernel,by unfold NR.ok;decide+kernel⟩, ?_⟩;rw [abx rfl];exact ⟨by rw [abC,AK (x:=qi) (y:=((1:Int):Dyadic)) (by decide+kernel)];rfl,rfl,rfl⟩
theorem Ih {x y:Dyadic} (h:x=y):nR x=nR y:=by rw [h]
theorem unit_eq:jk.map SR.f=[fR]:=by
 show [SR.f _]=_;unfold SR.f fR;rw [show SR.L ⟨⟨false,ByteArray.mk #[],0⟩,nR ((1:Int):Dyadic)⟩=0 by decide+kernel,show SR.H ⟨⟨false,ByteArray.mk #[],0⟩,nR ((1:Int):Dyadic)⟩=((1:Int):Dyadic) by decide+kernel]
theorem Zg:lM (pZ P1) (pZ Q2) jk sJ 2 9 1 RB 1 0:=by
 unfold lM;rw [abw (by decide+kernel),abw (by decide+kernel),UM,yw,abw abr];refine ⟨YJ, ?_⟩;rw [abw (by decide+kernel),abx (by decide+kernel)];refine ⟨?_,rfl,rfl⟩;have hk:nX cB.g sJ.d=0:=by decide+kernel
 rw [hk,show cB.b=[fR] from unit_eq];show _=RV.mk 2 II [cond (jq 0 0) fR.f.hi fR.f.lo];rw [show jq 0 0=false by decide];show RV.mk 2 II [nR ((0:Int):Dyadic)]=RV.mk 2 II [nR fR.L];rw [Ih (show fR.L=((0:Int):Dyadic) by decide+kernel)]
theorem ND {s:SR}{v:Int} (h:pb [s] v):v=((0:Nat):Int):=by
 rcases h with ⟨h,_⟩|⟨m,t,h,hv,_⟩
 ·cases h
 ·match m,h with
  |0,_=>exact hv
theorem Lz:fR.fin 1000:=pE fR (by rw [unit_eq];exact abX.2 rfl)
theorem YR:cD.ok:=pF (X:=[1,1]) (Y:=[-1,0]) (fun s hs=>by
 obtain rfl:=abX.1 hs;exact ⟨(SR.qb Lz abr).1,qP.of ((show Sz 1 fR.f.kB from ⟨1,by decide+kernel,abr⟩).mono abr) abr⟩) abr rfl rfl rfl (by decide+kernel)
theorem YO:lM (pZ P1) (pZ Q3) jk sJ 2 9 2 RC 2 0:=by
 unfold lM;rw [abw (by decide+kernel),abw (by decide+kernel),Wq,yw,abw abr];refine ⟨Zh, ?_⟩;rw [abw (by decide+kernel),abw (by decide+kernel)];refine ⟨0,fR,fun v hv=>ND (by rw [←unit_eq];exact hv),by show (jk.map SR.f)[0]?=_;rw [unit_eq];rfl,abr, ?_⟩;have hc:cC.half 0 fR false=cD:=by
  show CV.mk (((jk.map SR.f).map SR.f).set 0 (fR.f.half (nR fR.f.kB) false)) [1] (kC false (dm (-1)) [1] 0 (fJ [1,1])) (kC false (dm (-1)) [1] 0 (fJ [-1,1]))=CV.mk [fR.f.half (nR fR.f.kB) false] [1] (fJ [1,1]) (fJ [-1,0]);rw [unit_eq,show kC false (dm (-1)) [1] 0 (fJ [1,1])=fJ [1,1] by decide+kernel,show kC false (dm (-1)) [1] 0 (fJ [-1,1])=fJ [-1,0] by decide+kernel]
  rfl
 rw [hc,yw,abw abr];refine ⟨YR, ?_⟩;rw [abw (by decide+kernel),abx (by decide+kernel)];refine ⟨?_,rfl,rfl⟩;have hk:nX cD.g sJ.d=1:=by decide+kernel
 rw [hk];show _=RV.mk 2 II [cond (jq 1 0) (fR.f.half (nR fR.f.kB) false).f.hi (fR.f.half (nR fR.f.kB) false).f.lo];rw [show jq 1 0=true by decide];show RV.mk 2 II [nR qi]=RV.mk 2 II [nR (fR.f.half (nR fR.f.kB) false).H];rw [Ih (show (fR.f.half (nR fR.f.kB) false).H=qi by decide+kernel)]
theorem Nl {p q p' q':PX} (h1:p.v=p'.v) (h2:p.ts=p'.ts) (h3:q.v=q'.v) (h4:q.ts=q'.ts) {b:List SR}{g:Int}{f:Nat}{R:RV}{k e:Int} (h:lM p' q' b eps g bu f R k e):lM p q b eps g bu f R k e:=by
 obtain ⟨pv,pA,pn,pc,pt⟩:=p;obtain ⟨qv,qA,qn,qc,qt⟩:=q;obtain ⟨pv',pA',pn',pc',pt'⟩:=p';obtain ⟨qv',qA',qn',qc',qt'⟩:=q';replace h1:pv=pv':=h1;replace h2:pt=pt':=h2;replace h3:qv=qv':=h3;replace h4:qt=qt':=h4;subst h1 h2 h3 h4;exact h
theorem BV {D:List Nat}{L:List Int} (hD:D.length≤12∧(∀d∈D,d≤127)∧ah D≤200) (hX:X=fJ L) (hl:L.length=ah D) (hs:L.all (fun z=>decide (z.natAbs<256))=true):DG D X:=
 ⟨hD.1,hD.2.1,hD.2.2,by rw [hX,fJ,abH];exact hl,qT hX hs⟩
structure Eg (P:ZT):Prop where
 b:zB P=true
 g:fH (24+24+16394) (bY 1 (zT P)) (24+1)≤440000
 f:DG (eW (pZ P) jk).ns ((eW (pZ P) jk).cs.map NR.d)
theorem Vq:Eg P1:=⟨abr,by decide+kernel,BV (L:=[1]) (by decide+kernel) (by decide+kernel) (by decide+kernel) rfl⟩
theorem ZH:Eg Q1:=⟨abr,by decide+kernel,BV (L:=[1,2]) (by decide+kernel) (by decide+kernel) (by decide+kernel) rfl⟩
theorem Y6:Eg Q2:=⟨abr,by decide+kernel,BV (L:=[0,1]) (by decide+kernel) (by decide+kernel) (by decide+kernel) rfl⟩
theorem YN:Eg Q3:=⟨abr,by decide+kernel,BV (L:=[-1,1]) (by decide+kernel) (by decide+kernel) (by decide+kernel) rfl⟩
theorem V8 (P Q:ZT) (p q:PX) (L:Option Addr) (c f:Nat) (R:RV) (k:Int) (w:World) (hT:dq w) (hp:p.v=1∧p.ts=zT P∧p.at_ w∧p.n≤p.c∧p.n≤1000) (hq:q.v=1∧q.ts=zT Q∧q.at_ w∧q.n≤q.c∧q.n≤1000) (eP:Eg P) (eQ:Eg Q) (hB:Sl w L 1 6 (ar SR.cells jk)) (h:lM (pZ P) (pZ Q) jk sJ 2 9 f R k 0):
  Calls Tryz.prog 21 #[.agg #[.int .i64 p.v,.slice p.A p.n p.c],.agg #[.int .i64 q.v,.slice q.A q.n q.c],.slice L 1 c,.agg #[.bool sJ.neg,.string sJ.aO,.int .i64 sJ.e],.int .i64 2,.int .i64 9] w fun r w'=>∃A m c',r=.returned (.tuple #[.agg (R.cells A m c').toArray,.int .i64 k,.int .i64 0])∧Hp w [.row A m c' 33 3 (ar NR.cells R.at_)] w':=by
 obtain ⟨pv,pA,pn,pc,pt⟩:=p;obtain ⟨qv,qA,qn,qc,qt⟩:=q;obtain ⟨rfl,rfl,p3,p4,p5⟩:=(hp:pv=1∧pt=zT P∧_);obtain ⟨rfl,rfl,q3,q4,q5⟩:=(hq:qv=1∧qt=zT Q∧_);exact ql ⟨1,pA,pn,pc,zT P⟩ ⟨1,qA,qn,qc,zT Q⟩ L 1 c jk sJ 2 9 f R k 0 24 w hT p3 (Pq eP.b (by have:pn≤1000:=p5;omega) p4) q3 (Pq eQ.b (by have:qn≤1000:=q5;omega) q4) hB Fi abr abr (fun _=>eP.g) (fun _=>eQ.g) (fun _=>eP.f) (fun _=>eQ.f) (by unfold NR.ok;decide+kernel) abr abr abr abr (Nl rfl rfl rfl rfl h)
variable {b m:Nat}{fz:Nat×Nat}
def fe (K:ZT):VP:=fun v W=>∃p:PX,v=.agg #[.int .i64 p.v,.slice p.A p.n p.c]∧p.v=1∧p.ts=zT K∧p.at_ W∧p.n≤p.c∧p.n≤1000
theorem fe.ext {K:ZT} (v:Value) (w w':World) (h:fe K v w) (hb:Below w.heap.size w w'):fe K v w':=let ⟨p,h1,h2,h3,h4,h5⟩:=h;⟨p,h1,h2,h3,h4.ext hb,h5⟩
theorem u7 (a b:Int) (K:ZT) (w:World) (h:(decide (-200≤a∧a≤200∧ -200≤b∧b≤200∧K.length≤1000) && (zC K && zE K [([0],a),([1],b)]))=true):
  Calls Tryz.prog 31 #[.int .i64 a,.int .i64 b] w fun r w'=>∃v,r=.returned v∧fe K v w'∧Below w.heap.size w w':=by
 rw [abS,ab1] at h;obtain ⟨⟨h1,h2,h3,h4,h5⟩,hK⟩:=h;refine (yS a b K w ⟨h1,h2⟩ ⟨h3,h4⟩ hK).mono fun r w' ⟨p,e1,e2,hr,hh⟩=>⟨_,hr,⟨p,rfl,e1,e2,hh.ao (i:=0) rfl,hh.gN (i:=0) rfl, ?_⟩,hh.below⟩;have:=(show p.at_ w' from hh.ao (i:=0) rfl).ln;rw [e2,zT,abH] at this;omega
def kF (R:RV):VP:=fun v W=>∃g:Option Addr×Nat,v=.agg (R.cells g.1 1 g.2).toArray∧Sl W g.1 1 3 (ar NR.cells R.at_)
theorem kF.ext {R:RV} (v:Value) (w w':World) (h:kF R v w) (hb:Below w.heap.size w w'):kF R v w':=let ⟨g,h1,h2⟩:=h;⟨g,h1,h2.ext hb⟩
def jg (base:Nat) (R:RV) (k:Int):VP:=fun x W=>∃(g:Option Addr×Nat×Nat) (w1:World),x=.tuple #[.agg (R.cells g.1 g.2.1 g.2.2).toArray,.int .i64 k,.int .i64 0]∧True∧base≤w1.heap.size∧Hp w1 [.row g.1 g.2.1 g.2.2 33 3 (ar NR.cells R.at_)] W
theorem jg.ext {R:RV}{k:Int} (x:Value) (w w':World) (h:jg base R k x w) (hb:Below w.heap.size w w'):jg base R k x w':=let ⟨g,w1,h1,h2,h3,h4⟩:=h;⟨g,w1,h1,h2,h3,h4.ext hb⟩
def kL (base:Nat) (R:RV):VP:=fun x W=>∃(g:Option Addr×Nat×Nat) (w1:World),x=.agg (R.cells g.1 g.2.1 g.2.2).toArray∧True∧base≤w1.heap.size∧Hp w1 [.row g.1 g.2.1 g.2.2 33 3 (ar NR.cells R.at_)] W
theorem kL.ext {R:RV} (x:Value) (w w':World) (h:kL base R x w) (hb:Below w.heap.size w w'):kL base R x w':=let ⟨g,w1,h1,h2,h3,h4⟩:=h;⟨g,w1,h1,h2,h3,h4.ext hb⟩
theorem RV.ne {A:Option Addr}{c:Nat}{xs:List Value}{t:TypeId}{cs:Array Value} (h:Hp w1 [.row A m c 33 3 xs] W) (h3:W.heap[b]?=some (.cells cs t fz)) (h1:33≠t):∀x∈[HE.row A m c 33 3 xs],x.id≠some b:=fun x hx=>by
 have hx2:=h.own x hx;obtain rfl:=abX.1 hx;exact x7 hx2 h3 h1
def Yw (A:Option Addr) (c:Nat) (B:Option Addr) (d:Nat) (a b:Int):FX:=⟨A,1,c,B,2,d,[1],[nR (a:Dyadic),nR (b:Dyadic)]⟩
theorem Oi (x0 x1 y0 y1 E:Int) (V:SR) (A:Option Addr) (c:Nat) (B:Option Addr) (d:Nat) (A2:Option Addr) (c2:Nat) (B2:Option Addr) (d2:Nat) (w:World) (hT:dq w) (h1:(Yw A c B d x0 x1).at_ w∧1≤c) (h2:(Yw A2 c2 B2 d2 y0 y1).at_ w∧1≤c2) (ho:CV.ok ⟨[],[1],fJ [x0,x1],fJ [y0,y1]⟩)
  (hE:gB (oW [1] (fJ [x0,x1])) (oW [1] (fJ [y0,y1]))=E) (hV:eD (oW [1] (fJ [x0,x1])) (oW [1] (fJ [y0,y1])) 0=V):
  Calls Tryz.prog 9 #[.agg #[.slice A 1 c,.slice B 2 d],.agg #[.slice A2 1 c2,.slice B2 2 d2],.int .i64 0] w fun r w'=>r=.returned (.tuple #[.agg (SR.cells V).toArray,.int .i64 E])∧Below w.heap.size w w':=by
 have h:=sF ⟨none,0,0,Yw A c B d x0 x1,Yw A2 c2 B2 d2 y0 y1,⟨[],[1],fJ [x0,x1],fJ [y0,y1]⟩⟩ 0 w hT ⟨Sl.nil _ _ _,⟨h1.1,h1.2⟩,⟨h2.1,h2.2⟩⟩ ⟨⟨rfl,rfl⟩,rfl,rfl⟩ ho abr abr;rw [show eD (CV.f ⟨[],[1],fJ [x0,x1],fJ [y0,y1]⟩) (CV.g ⟨[],[1],fJ [x0,x1],fJ [y0,y1]⟩) 0=V from hV,show gB (CV.f ⟨[],[1],fJ [x0,x1],fJ [y0,y1]⟩) (CV.g ⟨[],[1],fJ [x0,x1],fJ [y0,y1]⟩)=E from hE] at h;exact h
theorem Zt:CV.ok ⟨[],[1],fJ [1,2],fJ [1,1]⟩:=pF (X:=[1,2]) (Y:=[1,1]) (fun _ h=>absurd h acS) abr rfl rfl rfl (by decide+kernel)
theorem Zp:CV.ok ⟨[],[1],fJ [1,2],fJ [1, -1]⟩:=pF (X:=[1,2]) (Y:=[1, -1]) (fun _ h=>absurd h acS) abr rfl rfl rfl (by decide+kernel)
theorem Ze:eD (oW [1] (fJ [1,2])) (oW [1] (fJ [1,1])) 0=⟨nR ((1:Int):Dyadic),nR ((2:Int):Dyadic)⟩:=by
 unfold eD;rw [abx (by decide+kernel)];exact AK (by decide+kernel)
theorem Zz:eD (oW [1] (fJ [1,2])) (oW [1] (fJ [1, -1])) 0=II:=by
 unfold eD;rw [abw (by decide+kernel)]
theorem ui (w:World):Calls Tryz.prog 32 #[.int .i64 1] w fun r w'=>r=.returned (.agg #[.bool (nR qi).neg,.string (nR qi).aO,.int .i64 (nR qi).e])∧Below w.heap.size w w':=by
 have hh:=Hp.start w;have hsh:=fun w1=>rQ (nR ((1:Int):Dyadic)) (-1) w1 (by decide+kernel) (by decide+kernel) (by decide+kernel) abr abr;rw [a6,←qi] at hsh;refine ae (N:=6) (l:=[.int .i64 1]) Tryz.func32 rfl rfl (by simp) ?_;refine bT ?_;intro b2 w2 hh;refine aZ hh (dE 1 _ abr abr) rfl ?_;intro w4 hh;refine aZ hh (hsh _) rfl ?_;intro w5 hh;exact AO
set_option maxRecDepth 100000 in
theorem kK (w:World) (hT:dq w):Calls Tryz.prog 8 #[] w fun r w'=>r=.returned (.bool true)∧Below w.heap.size w w':=by
 have hh:=Hp.start w;refine ae (N:=124) (l:=[]) Tryz.func8 rfl rfl (by simp) ?_;refine aj ?_;refine au (lW 1 2 _ abr abr) ak.out rfl abr ?_;rintro e_ w17 ⟨A1,c1,B1,d1,rfl,h3⟩;refine ⟨_,rfl, ?_⟩;replace hh:=hh.join h3;simp only [abE,abC] at hh;clear h3;refine au (lW 1 1 _ abr abr) ak.out rfl abr ?_;rintro e_ w18 ⟨A2,c2,B2,d2,rfl,h3⟩;refine ⟨_,rfl, ?_⟩;replace hh:=hh.join h3;simp only [abE,abC] at hh;clear h3;refine aZ hh (Oi 1 2 1 1 0 ⟨nR ((1:Int):Dyadic),nR ((2:Int):Dyadic)⟩ A1 c1 B1 d1 A2 c2 B2 d2 _ (hT.hp hh) ⟨⟨hh.ao (i:=3) rfl,hh.ao (i:=2) rfl⟩,hh.gN (i:=3) rfl⟩ ⟨⟨hh.ao (i:=1) rfl,hh.ao (i:=0) rfl⟩,hh.gN (i:=1) rfl⟩ Zt (by decide+kernel) Ze) rfl ?_;intro w19 hh;refine bX ?_;intro b1 w1 hh ws hh;refine au (lW 1 2 _ abr abr) ak.out rfl abr ?_;rintro e_ w23 ⟨A3,c3,B3,d3,rfl,h3⟩;refine ⟨_,rfl, ?_⟩;replace hh:=hh.join h3;simp only [abE,abC] at hh;clear h3;refine au (lW 1 (-1) _ abr abr) ak.out rfl abr ?_;rintro e_ w24 ⟨A4,c4,B4,d4,rfl,h3⟩;refine ⟨_,rfl, ?_⟩;replace hh:=hh.join h3;simp only [abE,abC] at hh;clear h3
 refine aZ hh (Oi 1 2 1 (-1) 4 II A3 c3 B3 d3 A4 c4 B4 d4 _ (hT.hp hh) ⟨⟨hh.ao (i:=3) rfl,hh.ao (i:=2) rfl⟩,hh.gN (i:=3) rfl⟩ ⟨⟨hh.ao (i:=1) rfl,hh.ao (i:=0) rfl⟩,hh.gN (i:=1) rfl⟩ Zp (by decide+kernel) Zz) rfl ?_;intro w25 hh;refine bX ?_;intro b3 w3 hh ws hh;refine aZ hh (dE 1 _ abr abr) rfl ?_;intro w28 hh;refine aj ?_;refine Fl ?_;intro b30 w30 hh;refine aj ?_;refine aZ hh (dE 1 _ abr abr) rfl ?_;intro w31 hh;have hsh:=fun w1=>rQ (nR ((1:Int):Dyadic)) (-2) w1 (by decide+kernel) (by decide+kernel) (by decide+kernel) abr abr;rw [a6,←sJ] at hsh;refine aZ hh (hsh _) rfl ?_;intro w32 hh;refine bX ?_;intro b6 w6 hh ws hh;replace hh:=hh.sub (aby _ (aby _ (aby _ (abA _ (abA _ (abA _ (abA _ (aby _ (abA _ (abA _ (abA _ (abA _ abV))))))))))));replace hh:=show Hp w (.blk b6 33 [.bool sJ.neg,.string sJ.aO,.int .i64 sJ.e] (0,0)::.row (some ⟨b30,0,none⟩) 1 1 35 6 (ar SR.cells jk)::_) _ from hh
 refine db [9] [7,8] [0,1,0,0,15,31,63,63,63,0,639,1791,4095] 10 [[],[],[(5,none)],[(6,none)],[(34,some 0),(35,some 1),(36,some 2),(37,some 3)],[(38,some 4)],[(33,some 5)],[(33,some 5)],[(33,some 5)],[]] [(9,7),(8,41),(7,40),(6,39),(5,33),(4,38),(3,37),(2,36),(1,35),(0,34)] hh mixed abt (jQ rfl az.out dx) rfl (by repeat (first|exact bV|refine bD ?_|refine bU ?_)) ?_;refine aW (i:=0) (fe P1) fe.ext ?_ ?_
 ·exact VR
 refine aW (i:=1) (fe Q1) fe.ext ?_ ?_
 ·intro ρ1 w1 hj hR;exact bp rfl (aR ak.out (aq rfl (aq rfl aY))) (u7 1 1 Q1 _ rfl) (fun _ _ ⟨v,hq,hp,hb⟩=>⟨v,hq,hb,hp⟩)
 refine fO ?_;refine da 0 [_,_,_] ?_;refine aW (i:=4) (jg hh.sz RA 1) (jg.ext) ?_ ?_
 ·intro ρ1 w1 hj hR;obtain ⟨g34,e34,o34⟩:=hR.1;obtain ⟨g35,e35,o35⟩:=hR.2.1;exact bp rfl (aR ak.out (aq e34 (aq e35 (aq (show ρ1 36=Value.slice _ _ _ from hR.2.2.1) (aq (show ρ1 37=Value.agg (List.toArray _) from hR.2.2.2.1) (aq rfl (aq rfl aY))))))) (V8 P1 Q1 g34 g35 (some ⟨b30,0,none⟩) 1 1 RA 1 w1 (hT.hp hj.hp) o34 o35 Vq ZH (hj.hp.ao (i:=1) rfl) YY) (fun _ _ ⟨A,m,c',hq,h3⟩=>⟨_,hq,h3.below,(A,m,c'),w1,rfl,trivial,hj.bl.size,h3⟩)
 refine aW (i:=5) (jg hh.sz RA 1) (jg.ext) ?_ ?_
 ·exact O7
 refine aW (i:=6) (kL hh.sz RA) (kL.ext) ?_ ?_
 ·exact VX
 refine aW (i:=7) (Is (.int .i64 1)) (Is.ext) ?_ ?_
 ·exact K0
 refine aW (i:=8) (Is (.int .i64 0)) (Is.ext) ?_ ?_
 ·exact K0
 refine N7 ?_;refine av ?_;intro f W hJ hV _;have hb_5:=hJ.bl;obtain ⟨v7,v41,v40,v39,v33,v38,v37,v36,v35,v34,_⟩:=hV;obtain ⟨g34,e34,o34⟩:fe P1 (f 0) W:=v34;obtain ⟨g35,e35,o35⟩:fe Q1 (f 1) W:=v35;obtain ⟨g38,u38,e38, -⟩:=v38;obtain ⟨g33,u33,e33, -⟩:=v33;obtain ⟨g39,u39,e39,o39,q39,h39⟩:=v39;obtain ⟨b7,e7,hl7,hc7⟩:cd _ _ _ (f 9) W:=v7;replace hh:=hJ.k4 hh hl7 hc7 q39 h39 (RV.ne h39 hc7 abr);refine ay (aQ (aa e7 (aa v41 (aa v40 (aa e39 (aa e33 (aa e38 (aa v37 (aa v36 (aa e35 (aa e34 aw))))))))))) ?_;dsimp only [bA];clear e34 e35 e38 e33 e39 e7 hJ;simp only [abE,abC] at hh;obtain ⟨A39,m39,c39⟩:=g39;obtain rfl:m39=0:=((hh.ao (i:=1) rfl).aX NR.len abr).symm;refine bT ?_;intro ws hh;replace hh:=show Hp w (.blk b7 58 (RA.cells A39 0 c39) (0,0)::_) _ from hh
 refine db [9] [7,8] [0,1,0,0,15,31,63,63,63,0,639,1791,4095] 10 [[],[],[(5,none)],[(6,none)],[(43,some 0),(44,some 1),(45,some 2),(46,some 3)],[(47,some 4)],[(42,some 5)],[(42,some 5)],[(42,some 5)],[]] [(9,10),(8,50),(7,49),(6,48),(5,42),(4,47),(3,46),(2,45),(1,44),(0,43)] hh mixed abt (jQ rfl az.out dx) rfl (by repeat (first|exact bV|refine bD ?_|refine bU ?_)) ?_;refine aW (i:=0) (fe P1) fe.ext ?_ ?_
 ·exact VR
 refine aW (i:=1) (fe Q2) fe.ext ?_ ?_
 ·intro ρ1 w1 hj hR;exact bp rfl (aR ak.out (aq rfl (aq rfl aY))) (u7 0 1 Q2 _ rfl) (fun _ _ ⟨v,hq,hp,hb⟩=>⟨v,hq,hb,hp⟩)
 refine fO ?_;refine da 2 [_,_,_] ?_;refine aW (i:=4) (jg hh.sz RB 1) (jg.ext) ?_ ?_
 ·intro ρ1 w1 hj hR;obtain ⟨g43,e43,o43⟩:=hR.1;obtain ⟨g44,e44,o44⟩:=hR.2.1;exact bp rfl (aR ak.out (aq e43 (aq e44 (aq (show ρ1 45=Value.slice _ _ _ from hR.2.2.1) (aq (show ρ1 46=Value.agg (List.toArray _) from hR.2.2.2.1) (aq rfl (aq rfl aY))))))) (V8 P1 Q2 g43 g44 (some ⟨b30,0,none⟩) 1 1 RB 1 w1 (hT.hp hj.hp) o43 o44 Vq Y6 (hj.hp.ao (i:=3) rfl) Zg) (fun _ _ ⟨A,m,c',hq,h3⟩=>⟨_,hq,h3.below,(A,m,c'),w1,rfl,trivial,hj.bl.size,h3⟩)
 refine aW (i:=5) (jg hh.sz RB 1) (jg.ext) ?_ ?_
 ·exact O7
 refine aW (i:=6) (kL hh.sz RB) (kL.ext) ?_ ?_
 ·exact VX
 refine aW (i:=7) (Is (.int .i64 1)) (Is.ext) ?_ ?_
 ·exact K0
 refine aW (i:=8) (Is (.int .i64 0)) (Is.ext) ?_ ?_
 ·exact K0
 refine N7 ?_;refine av ?_;intro f W hJ hV _;have hb_6:=hJ.bl;obtain ⟨v10,v50,v49,v48,v42,v47,v46,v45,v44,v43,_⟩:=hV;obtain ⟨g43,e43,o43⟩:fe P1 (f 0) W:=v43;obtain ⟨g44,e44,o44⟩:fe Q2 (f 1) W:=v44;obtain ⟨g47,u47,e47, -⟩:=v47;obtain ⟨g42,u42,e42, -⟩:=v42;obtain ⟨g48,u48,e48,o48,q48,h48⟩:=v48;obtain ⟨b10,e10,hl10,hc10⟩:cd _ _ _ (f 9) W:=v10;replace hh:=hJ.k4 hh hl10 hc10 q48 h48 (RV.ne h48 hc10 abr);refine ay (aQ (aa e10 (aa v50 (aa v49 (aa e48 (aa e42 (aa e47 (aa v46 (aa v45 (aa e44 (aa e43 aw))))))))))) ?_;dsimp only [bA];clear e43 e44 e47 e42 e48 e10 hJ;simp only [abE,abC] at hh;obtain ⟨A48,m48,c48⟩:=g48;obtain rfl:m48=1:=((hh.ao (i:=1) rfl).aX NR.len abr).symm;refine bT ?_;intro ws hh;replace hh:=show Hp w (.blk b10 58 (RB.cells A48 1 c48) (0,0)::_) _ from hh
 refine db [9] [7,8] [0,1,0,0,15,31,63,63,63,0,639,1791,4095] 10 [[],[],[(5,none)],[(6,none)],[(52,some 0),(53,some 1),(54,some 2),(55,some 3)],[(56,some 4)],[(51,some 5)],[(51,some 5)],[(51,some 5)],[]] [(9,13),(8,59),(7,58),(6,57),(5,51),(4,56),(3,55),(2,54),(1,53),(0,52)] hh mixed abt (jQ rfl az.out dx) rfl (by repeat (first|exact bV|refine bD ?_|refine bU ?_)) ?_;refine aW (i:=0) (fe P1) fe.ext ?_ ?_
 ·exact VR
 refine aW (i:=1) (fe Q3) fe.ext ?_ ?_
 ·intro ρ1 w1 hj hR;exact bp rfl (aR ak.out (aq rfl (aq rfl aY))) (u7 (-1) 2 Q3 _ rfl) (fun _ _ ⟨v,hq,hp,hb⟩=>⟨v,hq,hb,hp⟩)
 refine fO ?_;refine da 4 [_,_,_] ?_;refine aW (i:=4) (jg hh.sz RC 2) (jg.ext) ?_ ?_
 ·intro ρ1 w1 hj hR;obtain ⟨g52,e52,o52⟩:=hR.1;obtain ⟨g53,e53,o53⟩:=hR.2.1;exact bp rfl (aR ak.out (aq e52 (aq e53 (aq (show ρ1 54=Value.slice _ _ _ from hR.2.2.1) (aq (show ρ1 55=Value.agg (List.toArray _) from hR.2.2.2.1) (aq rfl (aq rfl aY))))))) (V8 P1 Q3 g52 g53 (some ⟨b30,0,none⟩) 1 2 RC 2 w1 (hT.hp hj.hp) o52 o53 Vq YN (hj.hp.ao (i:=5) rfl) YO) (fun _ _ ⟨A,m,c',hq,h3⟩=>⟨_,hq,h3.below,(A,m,c'),w1,rfl,trivial,hj.bl.size,h3⟩)
 refine aW (i:=5) (jg hh.sz RC 2) (jg.ext) ?_ ?_
 ·exact O7
 refine aW (i:=6) (kL hh.sz RC) (kL.ext) ?_ ?_
 ·exact VX
 refine aW (i:=7) (Is (.int .i64 2)) (Is.ext) ?_ ?_
 ·exact K0
 refine aW (i:=8) (Is (.int .i64 0)) (Is.ext) ?_ ?_
 ·exact K0
 refine N7 ?_;refine av ?_;intro f W hJ hV _;have hb_7:=hJ.bl;obtain ⟨v13,v59,v58,v57,v51,v56,v55,v54,v53,v52,_⟩:=hV;obtain ⟨g52,e52,o52⟩:fe P1 (f 0) W:=v52;obtain ⟨g53,e53,o53⟩:fe Q3 (f 1) W:=v53;obtain ⟨g56,u56,e56, -⟩:=v56;obtain ⟨g51,u51,e51, -⟩:=v51;obtain ⟨g57,u57,e57,o57,q57,h57⟩:=v57;obtain ⟨b13,e13,hl13,hc13⟩:cd _ _ _ (f 9) W:=v13;replace hh:=hJ.k4 hh hl13 hc13 q57 h57 (RV.ne h57 hc13 abr);refine ay (aQ (aa e13 (aa v59 (aa v58 (aa e57 (aa e51 (aa e56 (aa v55 (aa v54 (aa e53 (aa e52 aw))))))))))) ?_;dsimp only [bA];clear e52 e53 e56 e51 e57 e13 hJ;simp only [abE,abC] at hh;obtain ⟨A57,m57,c57⟩:=g57;obtain rfl:m57=1:=((hh.ao (i:=1) rfl).aX NR.len abr).symm;refine bT ?_;intro ws hh;replace hh:=show Hp w (.blk b13 58 (RC.cells A57 1 c57) (0,0)::_) _ from hh;replace hh:=show Hp w (_::.row A57 1 c57 33 3 (ar NR.cells RC.at_)::_) _ from hh
 refine db [] [] [0,1,0,7,15,31,63,31,255,511,1023,2047,4095,8191,16383,32767,65535,131071,262143,524287,524287,1572863,3670015,7864319,16777215,33554431,67108863,134217727,268435455,536870911,1073741823,2147483647,4294967295,8589934591,17179869183,34359738367,34359738367,103079215103,240518168575,549755813887,1099511627775,2199023255551,4398046511103,8796093022207,17592186044415,35184372088831,70368744177663,140737488355327,281474976710655,562949953421311,1125899906842623,1125899906842623,3377699720527871,7881299347898367,18014398509481983,36028797018963967,72057594037927935,144115188075855871,288230376151711743,576460752303423487,1152921504606846975,2305843009213693951,4611686018427387903,9223372036854775807,18446744073709551615] 54 [[(1,none)],[(60,some 0)],[],[(61,some 1),(62,some 2)],[(63,some 3)],[(1,none),(64,some 4)],[(65,some 5),(64,some 4)],[(64,some 4)],[(66,some 6),(67,some 7),(64,some 4)],[(64,some 4),(68,some 8)],[(69,some 9)],[(2,none),(70,some 10)],[(71,some 11),(70,some 10)],[(70,some 10),(72,some 12)],[(73,some 13)],[(4,none),(74,some 14)],[(75,some 15),(74,some 14)],[(74,some 14),(76,some 16)],[(77,some 17)],[(7,none),(78,some 18)],[(78,some 18)],[(78,some 18)],[(80,some 20),(81,some 21),(78,some 18)],[(82,some 22),(78,some 18)],[(79,some 19),(83,some 23),(78,some 18)],[(78,some 18),(84,some 24)],[(85,some 25)],[(8,none),(86,some 26)],[(87,some 27),(86,some 26)],[(86,some 26),(88,some 28)],[(89,some 29)],[(9,none),(90,some 30)],[(91,some 31),(90,some 30)],[(90,some 30),(92,some 32)],[(93,some 33)],[(10,none),(94,some 34)],[(94,some 34)],[(96,some 36),(94,some 34)],[(97,some 37),(94,some 34)],[(95,some 35),(98,some 38),(94,some 34)],[(94,some 34),(99,some 39)],[(100,some 40)],[(11,none),(101,some 41)],[(102,some 42),(101,some 41)],[(101,some 41),(103,some 43)],[(104,some 44)],[(12,none),(105,some 45)],[(106,some 46),(105,some 45)],[(105,some 45),(107,some 47)],[(108,some 48)],[(13,none),(109,some 49)],[(109,some 49)],[(111,some 51),(109,some 49)],[(112,some 52),(109,some 49)]] [(53,113),(52,112),(51,111),(50,110),(49,109),(48,108),(47,107),(46,106),(45,105),(44,104),(43,103),(42,102),(41,101),(40,100),(39,99),(38,98),(37,97),(36,96),(35,95),(34,94),(33,93),(32,92),(31,91),(30,90),(29,89),(28,88),(27,87),(26,86),(25,85),(24,84),(23,83),(22,82),(21,81),(20,80),(19,79),(18,78),(17,77),(16,76),(15,75),(14,74),(13,73),(12,72),(11,71),(10,70),(9,69),(8,68),(7,67),(6,66),(5,65),(4,64),(3,63),(2,62),(1,61),(0,60)] hh mixed abt dx rfl (by repeat (first|exact bV|refine bD ?_|refine bU ?_)) ?_
 refine dw ?_;refine da 9 [_,_,_] ?_;refine dC (fun _ hj=>dE 1 _ abr abr) ?_;refine a8 (i:=3) (fun ρ1 w1 hj hR=>BB (show ρ1 61=Value.agg (List.toArray _) from hR.1) (show ρ1 62=Value.agg (List.toArray _) from hR.2.1) (by first|assumption|rfl)) ?_;refine ml ?_;refine dG (dw ?_);refine dG (da 9 [_,_,_] ?_);refine di (i:=7) rfl (fun ρ1 w1 hj hR=>(show ρ1 64=Value.bool _ from hR.1)) (fun ρ1 w1 hj hR=>aR ak.out (aq rfl aY)) (fun w1 hj=>dE 2 _ abr abr) ?_;refine Bf (i:=8) rfl (fun ρ1 w1 hj hR=>(show ρ1 64=Value.bool _ from hR.2.2.1)) (fun ρ1 w1 hj hR=>BB (show ρ1 66=Value.agg (List.toArray _) from hR.1) (show ρ1 67=Value.agg (List.toArray _) from hR.2.1) (by first|assumption|rfl)) ?_;refine Iz ?_;refine ml ?_;refine dG (dp ?_);refine dG (tm ?_);refine Iz ?_;refine ml ?_;refine dG (dp ?_);refine dG (tm ?_);refine Iz ?_;refine ml ?_;refine dG (da 4 [_,_,_,_,_,_,_,_] ?_);refine di (i:=20) rfl (fun ρ1 w1 hj hR=>(show ρ1 78=Value.bool _ from hR.1)) (fun ρ1 w1 hj hR=>aR ak.out (aq rfl aY)) (fun w1 hj=>ui _) ?_
 refine di (i:=21) rfl (fun ρ1 w1 hj hR=>(show ρ1 78=Value.bool _ from hR.1)) (fun ρ1 w1 hj hR=>aR ak.out (aq rfl aY)) (fun w1 hj=>dE 1 _ abr abr) ?_;refine dG (dB [_,_,_,_,_,_] ?_);refine dG (dB [_,_,_,_,_,_,_,_] ?_);refine di (i:=24) rfl (fun ρ1 w1 hj hR=>(show ρ1 78=Value.bool _ from hR.2.2.1)) (fun ρ1 w1 hj hR=>aR ak.out (aq (show ρ1 79=Value.agg (List.toArray _) from hR.1) (aq (show ρ1 83=Value.agg (List.toArray _) from hR.2.1) aY))) (fun w1 hj=>lY RA A39 none 0 c39 0 _ (hj.hp.ao (i:=5) rfl) (Sl.nil _ _ _) abr) ?_;refine Iz ?_;refine ml ?_;refine dG (dp ?_);refine dG (tm ?_);refine Iz ?_;refine ml ?_;refine dG (dp ?_);refine dG (tm ?_);refine Iz ?_;refine ml ?_;refine dG (da 2 [_,_,_,_,_,_,_,_] ?_);refine di (i:=36) rfl (fun ρ1 w1 hj hR=>(show ρ1 94=Value.bool _ from hR.1)) (fun ρ1 w1 hj hR=>aR ak.out (aq rfl aY)) (fun w1 hj=>dE 0 _ abr abr) ?_;refine gC (i:=37) (cs:=[_,_,_]) rfl (fun ρ1 w1 hj hR=>(show ρ1 94=Value.bool _ from hR.2.1)) bq.out az.out (fun ρ1 w1 hj hR=>(bC (show ρ1 96=Value.agg (List.toArray _) from hR.1) dk)) rfl rfl abr abr rfl ?_;refine aW (i:=38) (kF RB) (kF.ext) ?_ ?_
 ·intro ρ1 w1 hj hR;obtain ⟨A97,c97,h97,s97⟩:=hR.1;exact dW rfl (show ρ1 94=Value.bool _ from hR.2.1) (cY rfl (ng (cs:=[_,_,_,_,_,_,_,_]) az.out kg.out (bC rfl (bC h97 dk)) rfl) ⟨Below.refl _ _,(A97,c97),rfl,s97⟩)
 refine aW (i:=39) (Is (.bool true)) Is.ext ?_ ?_
 ·intro ρ1 w1 hj hR;obtain ⟨g98,e98,o98⟩:=hR.2.1;refine dW rfl ((show ρ1 94=Value.bool _ from hR.2.2.1)) ?_;exact bp rfl (aR ak.out (aq (show ρ1 95=Value.agg (List.toArray _) from hR.1) (aq e98 aY))) (lY RB A48 g98.1 1 c48 g98.2 _ (hj.hp.ao (i:=3) rfl) o98 abr) (fun _ _ hq=>⟨_,hq.1,hq.2,rfl⟩)
 refine Iz ?_;refine ml ?_;refine dG (dp ?_);refine dG (tm ?_);refine Iz ?_;refine ml ?_;refine dG (dp ?_);refine dG (tm ?_);refine Iz ?_;refine ml ?_;refine dG (da 0 [_,_,_,_,_,_,_,_] ?_);refine di (i:=51) rfl (fun ρ1 w1 hj hR=>(show ρ1 109=Value.bool _ from hR.1)) (fun ρ1 w1 hj hR=>aR ak.out (aq rfl aY)) (fun w1 hj=>ui _) ?_;refine gC (i:=52) (cs:=[_,_,_]) rfl (fun ρ1 w1 hj hR=>(show ρ1 109=Value.bool _ from hR.2.1)) bq.out az.out (fun ρ1 w1 hj hR=>(bC (show ρ1 111=Value.agg (List.toArray _) from hR.1) dk)) rfl rfl abr abr rfl ?_;refine aW (i:=53) (kF RC) (kF.ext) ?_ ?_
 ·intro ρ1 w1 hj hR;obtain ⟨A112,c112,h112,s112⟩:=hR.1;exact dW rfl (show ρ1 109=Value.bool _ from hR.2.1) (cY rfl (ng (cs:=[_,_,_,_,_,_,_,_]) az.out kg.out (bC rfl (bC h112 dk)) rfl) ⟨Below.refl _ _,(A112,c112),rfl,s112⟩)
 refine av ?_;intro f W hJ hV _;have hb_8:=hJ.bl;obtain ⟨v113,v112,v111,v110,v109,v108,v107,v106,v105,v104,v103,v102,v101,v100,v99,v98,v97,v96,v95,v94,v93,v92,v91,v90,v89,v88,v87,v86,v85,v84,v83,v82,v81,v80,v79,v78,v77,v76,v75,v74,v73,v72,v71,v70,v69,v68,v67,v66,v65,v64,v63,v62,v61,v60,_⟩:=hV;obtain ⟨A97,c97,e97,f97⟩:Rows _ _ _ (f 37) W:=v97;obtain ⟨g98,e98,o98⟩:kF RB (f 38) W:=v98;obtain ⟨A112,c112,e112,f112⟩:Rows _ _ _ (f 52) W:=v112;obtain ⟨g113,e113,o113⟩:kF RC (f 53) W:=v113;replace hh:=hJ.hp;refine ay (aQ (aa e113 (aa e112 (aa v111 (aa v110 (aa v109 (aa v108 (aa v107 (aa v106 (aa v105 (aa v104 (aa v103 (aa v102 (aa v101 (aa v100 (aa v99 (aa e98 (aa e97 (aa v96 (aa v95 (aa v94 (aa v93 (aa v92 (aa v91 (aa v90 (aa v89 (aa v88 (aa v87 (aa v86 (aa v85 (aa v84 (aa v83 (aa v82 (aa v81 (aa v80 (aa v79 (aa v78 (aa v77 (aa v76 (aa v75 (aa v74 (aa v73 (aa v72 (aa v71 (aa v70 (aa v69 (aa v68 (aa v67 (aa v66 (aa v65 (aa v64 (aa v63 (aa v62 (aa v61 (aa v60 aw))))))))))))))))))))))))))))))))))))))))))))))))))))))) ?_;dsimp only [bA];clear e97 e98 e112 e113 hJ;refine aj ?_
 refine aZ hh (lY RC A57 g113.1 1 c57 g113.2 _ (hh.ao (i:=1) rfl) o113 abr) rfl ?_;intro w114 hh;refine aj ?_;exact ⟨rfl,hh.below⟩
def VT (a:NR):Bool:=decide ((8:Int)<a.aO.size∨a.e< -60∨60<a.e)
theorem Rj {a:NR} (h:VT a=false):a.ok∧Sz 124 a.d:=by
 have h':=of_decide_eq_false h;have h1:(a.aO.size:Int)≤8:=abq;have h2: -60≤a.e:=abq;have h3:a.e≤60:=abq;exact ⟨⟨abq,abq,abq⟩,Sz.raw (m:=64) (E:=60) abq h2 h3⟩
def FX.small (f:FX):Prop:=f.jz 124∧f.m≤60∧f.n≤20
abbrev fxL (l:List Int) (A:Option Addr) (a:Nat) (B:Option Addr) (b:Nat):FX:=⟨A,1,a,B,l.length,b,[(l.length:Int)-1],l.map fun z:Int=>nR (z:Dyadic)⟩
def Z9 (ds:List Int) (cs:List NR):VP:=fun v W=>∃g:FX,v=.agg #[.slice g.A g.n g.a,.slice g.B g.m g.b]∧g.ds=ds∧g.cs=cs∧g.at_ W
section
variable {P:Program}{ρ:Rf}{w:World}
end
def LR (z:Int):NR:=nR (z:Dyadic)
def XH (l:List Int):List SR:=l.map fun z=>⟨nR 0,LR z⟩
def Zr (d:Nat) (xs:List Dyadic) (i:Nat):Dyadic:=gY xs (i+1)*(((i:Int)+1:Int):Dyadic)-gY xs i*(((d:Int)-(i:Int):Int):Dyadic)
def Xs (d:Nat) (xs:List Dyadic):List Dyadic:=(List.range d).map (Zr d xs)
abbrev aaL:=DL
section
variable {P:Program}{ρ:Rf}{w:World}
end
def Xm (q:Nat→Bool) (xs:List Dyadic) (i:Nat):List Dyadic:=((List.range i).filter q).map fun p=>(xs[p]?).getD 0
def X5 (ap d:Nat) (p:Nat):Bool:=decide (p/ap % (d+1)<d)
def XD (ns:List Nat) (a:Nat):List Nat:=ns.set a (ns.getD a 0-1)
def YZ (ns:List Nat) (a:Nat) (xs:List Dyadic):List Dyadic:=if ns.getD a 0=0 then List.replicate xs.length 0 else Xm (X5 (ah (ns.drop (a+1))) (ns.getD a 0)) (kJ (ns.drop (a+1)).reverse (ns.getD a 0) (ns.getD a 0) (Xs (ns.getD a 0)) xs xs.length 0) xs.length
def gaX (ds:List Nat) (X:List Dyadic):Nat→List Dyadic
 |0=>X
 |k+1=>eu ds (ds.length-1-k) (fa (ds.getD (ds.length-1-k) 0) 1 (-1)) (gaX ds X k)
def Xu (b:List SR) (i:Nat):Dyadic:=match b[i]? with|some s=>s.H-s.L|none=>0
def wP (b:List SR) (ns es:List Nat):Nat→Dyadic
 |0=>1
 |i+1=>wP b ns es i*Xu b i^(ns.getD i 0-es.getD i 0)
def W0 (ns:List Nat) (p:Nat):List Nat:=(bB ns.reverse p).reverse
def ZD (b:List SR) (ns:List Nat) (C:List Dyadic) (p:Nat):TR:=⟨fX (a0 (W0 ns p)),nR (gY C p*wP b ns (W0 ns p) b.length)⟩
def YI (b:List SR) (ns:List Nat) (C:List Dyadic):List TR:=(List.range (ah ns)).map (ZD b ns C)
def X8 (v i:Nat) (s:SR):List TR:=aA (Cd v i++uP v (-s.L))
def Yk (b:List SR):List PX:=b.mapIdx fun i s=>⟨b.length,none,0,0,X8 b.length i s⟩
def Y8 (b:List SR) (ns:List Nat) (C:List Dyadic):PX:=⟨(ns.length:Int),none,0,0,aA (YI b ns C)⟩
def ZB (fx:FX):List Dyadic:=gaX fx.ns.reverse (fx.cs.map NR.d) fx.ns.length
def Ym (fx:FX) (b:List SR):Int×List TR:=cU (Y8 b fx.ns (ZB fx)) (Yk b)
def YL (fx:FX) (b:List SR):Int:=if fx.e≠0 then fx.e else if p7 b≠0 then p7 b else if b.length≠fx.n then 1 else (Ym fx b).1
def aaP (n k kb:Nat) (ns:List Nat):Nat:=k+520*n+(1+n+(kb+1)*ns.sum)
section
variable {P:Program}{N:Nat}{Q:Kd}{ρ:Rf}{w:World}
end
structure Marks (w0:World) (M:List Nat) (w:World):Prop where
 at_:∀D∈M,w0.heap.size≤D∧w.heap[D]?=some (.deferred (some []))
 nd:M.Nodup
def aaN (d:Nat) (t:Dyadic) (xs:List Dyadic) (i:Nat):Dyadic:=sm (List.range i) fun r=>gY xs r*gG d r t
def YX (K q:Nat) (X:List Dyadic):List Dyadic:=(X.drop (q*K)).take K
def evE (fx:FX) (m:Nat):Int:=if fx.e≠0 then fx.e else if m≠fx.n then 1 else 0
def evV (fx:FX) (tn:List NR):Dyadic:=if evE fx tn.length=0 then eS fx.ns.reverse (fx.cs.map NR.d) (tn.map NR.d).reverse else 0
section
variable {P:Program}{N:Nat}{Q:Kq}{ρ:Rf}{w:World}{ro:Option Nat}{D:List Deferred}
structure WR (ro:Option Nat) (D:List Deferred) (P:Program) (N:Nat) (ops:Array Oper) (Q:Kq) (fuel:Nat) (L:Array Bool) (ρ:Rf) (w:World):Prop where
 out:∀a,eY N D a ρ→∀n,wpAnyIn (FW ro) n P .any ops (eV N D Q) fuel L a w
end
instance:az Tryz.prog 78 1 false 8 [.nilFunc]:={}
def Y4 (es:List UInt8) (z:Int):VP:=fun v W=>∃g:Option Addr×Nat,v=.agg #[.int .i64 es.length,.slice g.1 1 g.2]∧1≤g.2∧Sl W g.1 1 4 (ar TR.cells [⟨str es,LR z⟩])
def ZK (l:List Int):Bool:=l.all fun z=>decide (z.natAbs<256)
def Vy (es:List UInt8) (z:Int):PX:=⟨es.length,none,0,0,[⟨str es,LR z⟩]⟩
def isB (z:Int) (es:List UInt8) (bl ds l:List Int):Bool:=decide (z.natAbs<256∧es.length≤12∧jF (Vy es z) (XH bl) ds=0∧mR (YE (Vy es z) ds) (cU (Vy es z) (a7 (XH bl))).2=l.map (fun z:Int=>(z:Dyadic))∧fH (124+124+16394) (bY es.length [⟨str es,LR z⟩]) (124+1)≤440000) && ZK bl && ZK l
abbrev fZ (A:Option Addr) (a:Nat) (B:Option Addr) (b:Nat):FX:=⟨A,1,a,B,3,b,[2],[0,0,4].map LR⟩
def Qe (a:NR):Bool:=decide (3<(a.aO.size:Int)∨a.e< -12∨12<a.e)
theorem vr {a:NR} (h:Qe a=false):VT a=false:=by
 have h':=of_decide_eq_false h;unfold VT;exact abR abq
theorem m8 (a:NR) (w:World):
  Calls Tryz.prog 56 #[.agg #[.bool a.neg,.string a.aO,.int .i64 a.e]] w fun r w'=>r=.returned (.bool (Qe a))∧Below w.heap.size w w':=by
 have hh:=Hp.start w;by_cases h1:(3:Int)<a.aO.size
 ·refine IF ?_;refine bT ?_;intro b1 w1 hh;refine ⟨?_,hh.below⟩;unfold Qe;rw [abQ (.inl h1)]
 ·by_cases h2:a.e< -12
  ·refine IF ?_;refine bT ?_;intro b1 w1 hh;refine ⟨?_,hh.below⟩;unfold Qe;rw [abQ (.inr (.inl h2))]
  ·by_cases h3:12<a.e
   ·refine IF ?_;refine bT ?_;intro b1 w1 hh;refine ⟨?_,hh.below⟩;unfold Qe;rw [abQ (.inr (.inr h3))]
   ·refine IF ?_;refine bT ?_;intro b1 w1 hh;refine ⟨?_,hh.below⟩;unfold Qe;rw [abR abq]
theorem rl (v:Int) (A:Option Addr) (n c:Nat) (ts:List TR) (w:World) (hp:Sl w A n 4 (ar TR.cells ts)):
  Calls Tryz.prog 19 #[.agg #[.int .i64 v,.slice A n c]] w fun r w'=>∃b:Bool,r=.returned (.bool b)∧(b=false→n≤5∧iO 124 ts∧∀t∈ts,t.m.size≤3∧∀c∈t.m.data.toList,c.toNat≤2)∧Below w.heap.size w w':=by
 have hh:=Hp.start w;have hln:ts.length=n:=hp.aX TR.len abr;by_cases h1:5<n
 ·refine ae (N:=45) (l:=[.agg #[.int .i64 v,.slice A n c]]) Tryz.func19 rfl rfl (by simp) ?_;refine bT ?_;intro b1 w1 hh;exact ⟨_,rfl,fun h=>(by cases h),hh.below⟩
 ·refine ae (N:=45) (l:=[.agg #[.int .i64 v,.slice A n c]]) Tryz.func19 rfl rfl (by simp) ?_;refine bT ?_;intro b1 w1 hh;refine aH [2,3,4,5,10,11,12,13,14,15,16,17,18,19,20,21,22,23,24,25,26,27,28,29,30,31,32,33,34,35,36,37,38,39,40,41,42,43,44] 3
   (fun x w'=>∃i:Nat,i≤n∧x=.int .i64 i∧iO 124 (ts.take i)∧(∀t∈ts.take i,t.m.size≤3∧∀c∈t.m.data.toList,c.toNat≤2)∧Hp w [.blk b1 52 [.int .i64 v,.slice A n c] (0,0)] w')
   (fun v _=>n-(intOf v).toNat) ?_ ?_
  ·exact ⟨0,abB _,rfl,fun t ht=>(nomatch ht),fun t ht=>(nomatch ht),hh⟩
  ·clear hh;rintro ρ' x_ w' ⟨i,hi,rfl,hall,hsz,hh⟩;by_cases hlt:i<n
   ·obtain ⟨x,hx⟩:=ai (l:=ts) (k:=i) abq;obtain ⟨ad,rfl,hr⟩:=hp.at_ abq;have hfa:=fun w1=>m8 x.c w1;have hbm:=dY x.m;refine aj ?_;refine EV ?_;refine aj ?_;refine bF (vs:=[_,_,_]) az.out rfl (((hr.ext hh.below).recAt TR.len hx).drop 1) rfl abr ?_;refine aZ hh (hfa _) rfl ?_;intro w29 hh
    cases hf:Qe x.c with
    |true=>
     exact Cf
    |false=>
     by_cases h5:3<x.m.size
     ·exact Cf
     ·refine aj ?_;refine aH [2,5,35,36,37,38,39,40,41,42,43,44] 5
       (fun y w'=>∃q:Nat,q≤x.m.size∧y=.int .i64 q∧(∀c∈x.m.data.toList.take q,c.toNat≤2)∧Hp w [.blk b1 52 [.int .i64 v,.slice (some ad) n c] (0,0)] w')
       (fun v _=>x.m.size-(intOf v).toNat) ?_ ?_
      ·exact ⟨0,abB _,rfl,fun t ht=>(nomatch ht),hh⟩
      ·clear hh;rintro ρ' y_ w' ⟨q,hq,rfl,hex,hh⟩;by_cases hlq:q<x.m.size
       ·obtain ⟨e,he⟩:=ai (l:=x.m.data.toList) (k:=q) abq;have he8:e.toNat<256:=e.toNat_lt;by_cases h6:2<e.toNat
        ·exact Cf
        ·refine aj ?_;refine ⟨⟨q+1,abq,rfl,fun t ht=> ?_,hh⟩,by show x.m.size-(q+1)<x.m.size-q;omega, ?_⟩
         ·rw [al he] at ht
          rcases acq.1 ht with ht|ht
          ·exact hex t ht
          ·rw [abX.1 ht];omega
         ·exact dI
       ·rw [abG abq] at hex;refine aj ?_;refine ⟨⟨i+1,abq,rfl,fun t ht=> ?_,fun t ht=> ?_,hh⟩,by show n-(i+1)<n-i;omega, ?_⟩
        ·rw [al hx] at ht
         rcases acq.1 ht with ht|ht
         ·exact hall t ht
         ·rw [abX.1 ht];exact Rj (vr hf)
        ·rw [al hx] at ht
         rcases acq.1 ht with ht|ht
         ·exact hsz t ht
         ·rw [abX.1 ht];exact ⟨abq,hex⟩
        ·exact dI
   ·rw [abG abq] at hall hsz;refine aj ?_;exact ⟨_,rfl,fun _=>⟨abq,hall,hsz⟩,hh.below⟩
theorem Cu (B:Option Addr) (m d:Nat) (b:List SR) (eps:NR) (g bu:Int) (w:World) (hB:Sl w B m 6 (ar SR.cells b)):
  Calls Tryz.prog 20 #[.slice B m d,.agg #[.bool eps.neg,.string eps.aO,.int .i64 eps.e],.int .i64 g,.int .i64 bu] w fun r w'=>∃v:Bool,r=.returned (.bool v)∧(v=false→m≤3∧(∀s∈b,s.fin 124)∧eps.ok∧Sz 124 eps.d∧ -40≤g∧g≤40∧bu≤30)∧Below w.heap.size w w':=by
 have hh:=Hp.start w;have hlb:b.length=m:=hB.aX SR.len abr;by_cases h1:3<m
 ·refine T0 ?_;refine bT ?_;intro b5 w5 hh;exact ⟨_,rfl,fun h=>(by cases h),hh.below⟩
 ·refine T0 ?_;refine bT ?_;intro b5 w5 hh;refine aZ hh (m8 eps _) rfl ?_;intro w15 hh
  cases he:Qe eps with
  |true=>
   exact Cf
  |false=>
   by_cases h2:g< -40
   ·exact Cf
   ·by_cases h3:40<g
    ·exact Cf
    ·by_cases h4:30<bu
     ·exact Cf
     ·refine aj ?_;refine aH [8,9,29,30,31,32,33,34,35,36,37,38,39,40,41,42,43,44,45,46,47,48] 9
       (fun x w'=>∃i:Nat,i≤m∧x=.int .i64 i∧(∀s∈b.take i,s.fin 124)∧Hp w [] w')
       (fun v _=>m-(intOf v).toNat) ?_ ?_
      ·exact ⟨0,abB _,rfl,fun t ht=>(nomatch ht),hh.sub (acA _)⟩
      ·clear hh;rintro ρ' x_ w' ⟨j,hj,rfl,hbx,hh⟩;by_cases hlt2:j<m
       ·obtain ⟨s,hs⟩:=ai (l:=b) (k:=j) abq;obtain ⟨ad,rfl,hr⟩:=hB.at_ abq;have hf1:=fun w1=>m8 s.lo w1;have hf2:=fun w1=>m8 s.hi w1;refine aj ?_;refine bF (vs:=[_,_,_]) az.out rfl (((((hr.ext hh.below).recAt SR.len hs).drop 0).take 3)) rfl abr ?_
        cases hg1:Qe s.lo with
        |true=>
         rw [hg1] at hf1;refine aZ hh (hf1 _) rfl ?_;intro w40 hh;exact Cf
        |false=>
         rw [hg1] at hf1;refine aZ hh (hf1 _) rfl ?_;intro w40 hh;refine aj ?_;refine bF (vs:=[_,_,_]) az.out rfl (((((hr.ext hh.below).recAt SR.len hs).drop 3).take 3)) rfl abr ?_
         cases hg2:Qe s.hi with
         |true=>
          rw [hg2] at hf2;refine aj ?_;refine aZ hh (hf2 _) rfl ?_;intro w47 hh;exact Cf
         |false=>
          rw [hg2] at hf2;refine aj ?_;refine aZ hh (hf2 _) rfl ?_;intro w47 hh;refine aj ?_;refine ⟨⟨j+1,abq,rfl,fun t ht=> ?_,hh⟩,by show m-(j+1)<m-j;omega, ?_⟩
          ·rw [al hs] at ht
           rcases acq.1 ht with ht|ht
           ·exact hbx t ht
           ·rw [abX.1 ht];obtain ⟨a1,a2⟩:=Rj (vr hg1);obtain ⟨a3,a4⟩:=Rj (vr hg2);exact ⟨⟨a1,a2⟩,⟨a3,a4⟩⟩
          ·exact dI
       ·rw [abG abq] at hbx;obtain ⟨a1,a2⟩:=Rj (vr he);refine aj ?_;exact ⟨_,rfl,fun _=>⟨abq,hbx,a1,a2,abq,abq,abq⟩,hh.below⟩
theorem o6 {x y:Dyadic} (hx:0≤x) (hy:0≤y):0≤x*y:=by
 rcases (by grind:x=0∨0<x) with h|h
 ·rw [h,Dyadic.zero_mul];grind
 ·rcases (by grind:y=0∨0<y) with h2|h2
  ·rw [h2,aeW];grind
  ·have:=Lean.Grind.OrderedRing.mul_pos h h2;grind
theorem FK {x:Dyadic} (hx:0≤x):∀n:Nat,0≤x^n
 |0=>by rw [adK];decide+kernel
 |n+1=>by rw [aeh];exact o6 (FK hx n) hx
theorem ML {x:Dyadic} (hx:0<x):∀n:Nat,0<x^n
 |0=>by rw [adK];decide+kernel
 |n+1=>by rw [aeh];exact Lean.Grind.OrderedRing.mul_pos (ML hx n) hx
theorem u5:∀(ds rs:List Nat) (ts:List Dyadic),(∀t∈ts,0≤t∧t<1)→0≤iH ds rs ts
 |[],_,_,_=>by show (0:Dyadic)≤1;decide+kernel
 |_::_,[],_,_=>by show (0:Dyadic)≤1;decide+kernel
 |_::_,_::_,[],_=>by show (0:Dyadic)≤1;decide+kernel
 |d::ds,r::rs,t::ts,h=>by
  obtain ⟨h1,h2⟩:=h t abF;exact o6 (o6 (FK h1 r) (FK (by grind) (d-r))) (u5 ds rs ts fun t ht=>h t (abN _ ht))
theorem Iv:∀(ds:List Nat) (ts:List Dyadic),(∀t∈ts,0≤t∧t<1)→0<iH ds (bB ds 0) ts
 |[],_,_=>by show (0:Dyadic)<1;decide+kernel
 |d::ds,[],_=>by show (0:Dyadic)<1;decide+kernel
 |d::ds,t::ts,h=>by
  obtain ⟨h1,h2⟩:=h t abF;have e:bB (d::ds) 0=0::bB ds 0:=by
   show 0 % (d+1)::bB ds (0/(d+1))=_;rw [Nat.zero_mod,Nat.zero_div]
  rw [e];refine Lean.Grind.OrderedRing.mul_pos ?_ (Iv ds ts fun t ht=>h t (abN _ ht));unfold gG;rw [adK,adq];exact ML (by grind) _
theorem vh {α:Type}:∀(l:List α) (f g:α→Dyadic),(∀a∈l,f a≤g a)→sm l f≤sm l g
 |[],_,_,_=>by show (0:Dyadic)≤0;grind
 |a::l,f,g,h=>by
  have h1:=h a abF;have h2:=vh l f g fun a ha=>h a (abN _ ha);show f a+sm l f≤g a+sm l g;grind
theorem Df {ts:List Dyadic}{c:Dyadic} (ht:∀t∈ts,0≤t∧t<1) (h:∀p,p<ah ds→c*(Y[p]?).getD 0≤(X[p]?).getD 0):c*eS ds Y ts≤eS ds X ts:=by
 unfold eS;rw [←gI];refine vh _ _ _ fun p hp=> ?_;have h1:=h p (ab3.1 hp);have h2:=u5 ds (bB ds p) ts ht;have h3:=o6 (x:=(X[p]?).getD 0-c*(Y[p]?).getD 0) (by grind) h2;grind
theorem M5 {ts:List Dyadic} (ht:∀t∈ts,0≤t∧t<1) (h:∀p,p<ah ds→0<(Y[p]?).getD 0):0<eS ds Y ts:=by
 have hc:=de ds;obtain ⟨N,hN⟩:∃N,ah ds=N+1:=⟨ah ds-1,abq⟩;have h0:=Lean.Grind.OrderedRing.mul_pos (h 0 hc) (Iv ds ts ht);unfold eS;rw [hN,List.range_succ_eq_map];show 0<_+sm _ _;have h1:sm (List.map Nat.succ (List.range N)) (fun _=>(0:Dyadic))≤sm (List.map Nat.succ (List.range N)) fun p=>(Y[p]?).getD 0*iH ds (bB ds p) ts:=vh _ _ _ fun p hp=>by
  obtain ⟨q,hq,rfl⟩:=abL.1 hp;have h2:=ab3.1 hq;exact o6 (by have:=h (q+1) abq;grind) (u5 _ _ _ ht)
 rw [nN (fun _ _=>rfl)] at h1;grind
variable {k1 k2:Nat}{ms:List Nat}
theorem KX {ns:List Nat} (xs ys ts:List Dyadic) (h:ns.length=ms.length):eS (dX ns ms).reverse (yg ns ms xs ys) ts=eS ns.reverse xs ts*eS ms.reverse ys ts:=by
 have:=Ml (ds:=ns.reverse) (es:=ms.reverse) (xs:=xs) (ys:=ys) (ts:=ts) (by rw [abY,abY,h]);rw [sy h,cf] at this;rw [←this];unfold yg yv Fm;rw [cf ms]
theorem val_one (ds:List Nat) (ts:List Dyadic) (h:ts.length=ds.length):eS ds.reverse ((yx ds).map nD) ts=1:=by
 rw [←It ds.reverse ts (by rw [abY,h])];unfold eS;refine a9 fun p hp=> ?_;have hp:=ab3.1 hp;congr 1;unfold yx;rw [abI,abI,acy hp]
 rfl
theorem tp {ns D:List Nat}{ts:List Dyadic} (hl:ns.length=D.length) (h:∀(i n t:Nat),ns[i]?=some n→D[i]?=some t→n≤t) (ht:ts.length=D.length):eS D.reverse (oT ns D xs) ts=eS ns.reverse xs ts:=by
 have hs:(ix D ns).length=D.length:=oN hl.symm;have:=KX (ns:=ns) (ms:=ix D ns) xs ((yx (ix D ns)).map nD) ts (by rw [hs,hl]);rw [vz hl h,val_one _ _ (by rw [hs,ht])] at this;unfold oT;rw [this];grind
theorem M1 {ns:List Nat}{ys:List Dyadic} (hx:∀x∈xs,Sz k1 x) (hy:∀y∈ys,Sz k2 y):∀x∈yg ns ms xs ys,Sz (k1+k2+ah ms*ah ns) x:=fun x h=>by
 have:=A0 (N:=ah (dX ns ms)) (Hu (ds:=ns.reverse) (es:=ms.reverse) hx hy (ah ms)) x h;rwa [H7,cf] at this
theorem AB {ns D:List Nat} (hx:∀x∈xs,Sz k x) (hl:ns.length=D.length) (h12:D.length≤12) (hD:∀d∈D,d≤127):∀x∈oT ns D xs,Sz (k+1600+ah (ix D ns)*ah ns) x:=fun x h=>by
 have hs:(ix D ns).length=D.length:=oN hl.symm;have hsb:∀d∈ix D ns,d≤127:=fun d hd=>by
  obtain ⟨i,hi⟩:=acG.1 hd;have hi2:=(abM.1 hi).1;obtain ⟨a,ha⟩:=ai (l:=D) (k:=i) abq;obtain ⟨b,hb⟩:=ai (l:=ns) (k:=i) abq;rw [rC ha hb] at hi;have:=hD a (abz ha);have:=aca hi;omega
 exact M1 hx (fun y hy=>by
  obtain ⟨z,hz,rfl⟩:=abL.1 hy;exact MP hz abq hsb) x h
theorem PU {f g:FX}{B:Nat} (hf:∀d∈f.ns,d≤B) (hg:∀d∈g.ns,d≤B):∀d∈maxD [f,g],d≤B:=fun d hd=>by
 have e:maxD [f,g]=iI (iI f.ns f.ns) g.ns:=rfl;rw [e] at hd;unfold iI at hd;obtain ⟨i,hi⟩:=acG.1 hd;rw [adO,adO] at hi
 cases ha:f.ns[i]? with
 |none=>simp [ha] at hi
 |some a=>
  cases hb:g.ns[i]? with
  |none=>simp [ha,hb] at hi
  |some b=>
   simp [ha,hb] at hi;have:=hf a (abz ha);have:=hg b (abz hb);omega
theorem Sz.ofNat (c:Nat) (h:c<256):Sz 8 ((c:Int):Dyadic):=
 ⟨(c:Int)*2^8,jh (c:Int) abr,by rw [adu,Int.natAbs_natCast];exact acu (ad1 h abr) abr⟩
def LI (t:List Nat) (i:Nat):Dyadic:=Dyadic.ofIntWithPrec ((t[i]?).getD 0:Nat) 8
theorem PO (t:List Nat) (h:∀c∈t,c<256) (i:Nat):Sz 8 (LI t i)∧0≤LI t i∧LI t i<1:=by
 unfold LI;have h1:(t[i]?).getD 0<256:=by
  cases hc:t[i]? with
  |none=>decide
  |some c=>exact h c (abz hc)
 generalize (t[i]?).getD 0=c at*;refine ⟨⟨c,rfl,by rw [Int.natAbs_natCast];exact acu h1 abr⟩, ?_, ?_⟩
 ·rw [←ik 8,F6];omega
 ·rw [show (1:Dyadic)=Dyadic.ofIntWithPrec 256 8 by decide+kernel,nT];omega
theorem KO (L:Option Addr) (m c n:Nat) (t:List Nat) (w:World) (hT:dq w) (hS:Sl w L m 1 (ie t)) (ht:∀c∈t,c<256) (hn:n≤1000):
  Calls Tryz.prog 10 #[.slice L m c,.int .i64 n] w fun r w'=>∃A c',r=.returned (.slice A n c')∧Hp w [.row A n c' 33 3 (ar NR.cells ((List.range n).map fun i=>nR (LI t i)))] w':=by
 have hh:=Hp.start w;have hln:t.length=m:=by have:=hS.1;simpa [ie] using this
 refine ae (N:=29) (l:=[.slice L m c,.int .i64 n]) Tryz.func10 rfl rfl (by simp) ?_;refine aj ?_;replace hh:=hh.cJ 33 3;refine bk [5,6,7,8,9,10,11,12,13,14,15,16,17,18,19,20,21,22,23,24,25,26,27] 5 6
  (fun v5 v w'=>∃(i c3:Nat) (A:Option Addr),i≤n∧v=.int .i64 i∧v5=.slice A i c3∧Hp w [.row A i c3 33 3 (ar NR.cells ((List.range i).map fun i=>nR (LI t i)))] w')
  (fun _ v _=>n-(intOf v).toNat) ?_ ?_
 ·exact ⟨0,0,none,abB _,rfl,rfl,hh⟩
 ·clear hh;rintro ρ' v5 v w' ⟨i,c3,A,hi,rfl,rfl,hh⟩;by_cases hlt:i<n
  ·have hz:=PO t ht i;have he:(List.range (i+1)).map (fun i=>nR (LI t i))=(List.range i).map (fun i=>nR (LI t i))++[nR (LI t i)]:=by rw [adk,acM];rfl
   have hc:=fun c w1 hT1=>k5 (c:Nat) w1 hT1;have hs:=fun (c:Nat) (h:c<256) w1 hT1=>mZ (nR ((c:Int):Dyadic)) (-8) w1 hT1 (by have:=(Sz.ofNat c h).nr;omega) (by have:=(Sz.ofNat c h).nr;omega) (by have:=(Sz.ofNat c h).nr;omega) abr abr;simp only [a6] at hs;have hv:∀c:Nat,(t[i]?).getD 0=c→((c:Int):Dyadic)*dm (-8)=LI t i:=fun c h=>by
    unfold LI;rw [h];exact (AZ (c:Int) 0 (-8)).symm
   by_cases him:i<m
   ·obtain ⟨b,hb⟩:=ai (l:=t) (k:=i) abq;have hb2:=qL hb;have hb3:=ht b (abz hb);obtain ⟨ad,rfl,hr⟩:=hS.at_ abq;replace hs:=hs b hb3;have hg:(t[i]?).getD 0=b:=by rw [hb];rfl
    refine aj ?_;refine o9 ?_;refine aj ?_;rw [hv _ hg] at hs;refine aZ hh (hc b _ (hT.hp hh) abq abq) rfl ?_;exact TL
   ·replace hs:=hs 0 abr;have hg:(t[i]?).getD 0=0:=by rw [abT abq];rfl
    refine aj ?_;rw [hv _ hg] at hs;refine aZ hh (hc 0 _ (hT.hp hh) abq abq) rfl ?_;exact TL
  ·obtain rfl:i=n:=abq;refine aj ?_;exact ⟨A,c3,rfl,hh⟩
def Dw (s:SR) (a b:Dyadic):Prop:=(0<b∧s.lo.d*b≤a∧a≤s.hi.d*b)∨(b<0∧a≤s.lo.d*b∧s.hi.d*b≤a)
theorem Jr {x y:Dyadic} (h:x≤y):fB x y≤0:=by
 have h1:=rJ x y;have h2:¬y<x:=by grind
 rw [←h1] at h2;omega
theorem xL (s:SR) (a b:NR) (k:Nat) (w:World) (hT:dq w) (hs:s.fin k) (ha:a.ok) (za:Sz k a.d) (hb:b.ok) (zb:Sz k b.d) (hk:k≤1900000) (h:Dw s a.d b.d):
  Calls Tryz.prog 12 #[.agg s.cells.toArray,.agg #[.bool a.neg,.string a.aO,.int .i64 a.e],.agg #[.bool b.neg,.string b.aO,.int .i64 b.e]] w fun r w'=>r=.returned (.bool true)∧Below w.heap.size w w':=by
 have hh:=Hp.start w;have hsg:=NR.sign b;refine ae (N:=37) (l:=[.agg s.cells.toArray,.agg #[.bool a.neg,.string a.aO,.int .i64 a.e],.agg #[.bool b.neg,.string b.aO,.int .i64 b.e]]) Tryz.func12 rfl rfl (by simp) ?_;refine sr ?_;refine yD hh [_,_,_,_,_,_] ?_;intro b3 w3 hh;refine yD hh [_,_,_] ?_;intro b4 w4 hh;refine yD hh [_,_,_] ?_;intro b5 w5 hh;refine aB (aJ ?_);refine pI [7,8,9,10,11,12,13]
  (fun w'=>∃a2 b2:NR,a2.ok∧Sz k a2.d∧b2.ok∧Sz k b2.d∧0<b2.d∧s.lo.d*b2.d≤a2.d∧a2.d≤s.hi.d*b2.d∧Hp w [.blk b5 33 [.bool b2.neg,.string b2.aO,.int .i64 b2.e] (0,0),.blk b4 33 [.bool a2.neg,.string a2.aO,.int .i64 a2.e] (0,0),.blk b3 35 s.cells (0,0)] w') ?_ ?_
 ·rcases h with ⟨h1,h2,h3⟩|⟨h1,h2,h3⟩
  ·have hsg2:b.i.sign=1:=by rw [hsg,fB,abw (by grind),abx h1]
   refine aj ?_;refine aZ hh (ct b _) rfl ?_;intro w8 hh;rw [hsg2];refine aj ?_;refine ⟨⟨a,b,ha,za,hb,zb,h1,h2,h3,hh⟩, ?_⟩;repeat refine cV rfl ?_
   exact fun _ _=>rfl
  ·have hsg2:b.i.sign= -1:=by rw [hsg,fB,abx h1]
   have hn1:=fun w1 hT1=>j3 a w1 hT1 (by have:=ha.1;omega) (by have:=ha.2.1;omega) (by have:=ha.2.2;omega);have hn2:=fun w1 hT1=>j3 b w1 hT1 (by have:=hb.1;omega) (by have:=hb.2.1;omega) (by have:=hb.2.2;omega);refine aj ?_;refine aZ hh (ct b _) rfl ?_;intro w8 hh;rw [hsg2];refine aj ?_;refine aC 3 [[(4,none)],[(10,some 0)],[(5,none)]] [(2,12),(1,11),(0,10)] hh mixed abt ?_;refine da 1 [_,_,_] ?_;refine dC (fun _ hj=>hn1 _ (hT.hp hj.hp)) ?_;refine da 0 [_,_,_] ?_;refine av ?_;intro f W hJ hV;have hb_2:=hJ.bl;obtain ⟨v12,v11,v10,_⟩:=hV;replace hh:=hJ.hp;refine ay (aQ (aa v12 (aa v11 (aa v10 aw)))) ?_;dsimp only [bA];clear hJ;refine aZ hh (hn2 _ (hT.hp hh)) rfl ?_;intro w13 hh;refine bX ?_;intro ws hh ws hh;refine ⟨⟨nR (-a.d),nR (-b.d),za.neg.ok abq,by rw [a6];exact za.neg,zb.neg.ok abq,by rw [a6];exact zb.neg, ?_, ?_, ?_,hh⟩, ?_⟩
   ·rw [a6];grind
   ·rw [a6,a6];grind
   ·rw [a6,a6];grind
   ·repeat refine cV rfl ?_
    exact fun _ _=>rfl
 ·rintro ρ' w' ⟨a2,b2,ha2,za2,hb2,zb2,h1,h2,h3,hh⟩;have zl:Sz k s.lo.d:=hs.1.sz;have zh:Sz k s.hi.d:=hs.2.sz;have hsn:=fun w1=>ct b2 w1;rw [NR.sign b2,fB,abw (by grind),abx h1] at hsn;have hm1:=fun A cc w1 hT1 hS1=>eC A 2 cc [s.lo,b2] w1 hT1 hS1 (by simpa using ⟨hs.1.ok,hb2⟩) k (by simpa using ⟨zl,zb2⟩) abq abq;have hm2:=fun A cc w1 hT1 hS1=>eC A 2 cc [s.hi,b2] w1 hT1 hS1 (by simpa using ⟨hs.2.ok,hb2⟩) k (by simpa using ⟨zh,zb2⟩) abq abq;rw [show gO ([s.lo,b2].map NR.d)=s.lo.d*b2.d by simp [gO,adq]] at hm1;rw [show gO ([s.hi,b2].map NR.d)=s.hi.d*b2.d by simp [gO,adq]] at hm2;have hc1:=fun w1 hT1=>gh (nR (s.lo.d*b2.d)) a2 w1 hT1 ((zl.mul zb2).ok abq) ha2;have hc2:=fun w1 hT1=>gh a2 (nR (s.hi.d*b2.d)) w1 hT1 ha2 ((zh.mul zb2).ok abq);rw [a6] at hc1 hc2;have g1:=Jr h2;have g2:=Jr h3;have g3:=vp (s.lo.d*b2.d) a2.d;have g4:=vp a2.d (s.hi.d*b2.d);generalize fB (s.lo.d*b2.d) a2.d=C1 at*;generalize fB a2.d (s.hi.d*b2.d)=C2 at*;generalize s.lo.d*b2.d=P1 at*;generalize s.hi.d*b2.d=P2 at*;refine aj ?_
  refine aC 20 [[(5,none)],[(14,some 0)],[(15,some 1)],[(16,some 2)],[(3,none),(17,some 3)],[(18,some 4),(17,some 3)],[(5,none),(17,some 3)],[(19,some 5),(20,some 6),(17,some 3)],[(21,some 7),(17,some 3)],[(4,none),(17,some 3)],[(22,some 8),(23,some 9),(17,some 3)],[(24,some 10),(17,some 3)],[(17,some 3),(25,some 11)],[(26,some 12)],[(4,none),(27,some 13)],[(3,none),(27,some 13)],[(29,some 15),(27,some 13)],[(5,none),(27,some 13)],[(30,some 16),(31,some 17),(27,some 13)],[(32,some 18),(27,some 13)]] [(19,33),(18,32),(17,31),(16,30),(15,29),(14,28),(13,27),(12,26),(11,25),(10,24),(9,23),(8,22),(7,21),(6,20),(5,19),(4,18),(3,17),(2,16),(1,15),(0,14)] hh mixed abt ?_;refine da 0 [_,_,_] ?_;refine dC (fun _ hj=>hsn _) ?_;refine RT ?_;refine ml ?_;refine dG (dw ?_);refine dG (da 2 [_,_,_] ?_);refine dG (da 0 [_,_,_] ?_)
  refine gC (i:=7) (cs:=[_,_,_,_,_,_]) rfl (fun ρ1 w1 hj hR=>(show ρ1 17=Value.bool _ from hR.2.2.1)) bq.out az.out (fun ρ1 w1 hj hR=>(bC (show ρ1 19=Value.agg (List.toArray _) from hR.1) (bC (show ρ1 20=Value.agg (List.toArray _) from hR.2.1) dk))) rfl rfl abr abr rfl ?_;refine aW (i:=8) (Is (.agg #[.bool (nR P1).neg,.string (nR P1).aO,.int .i64 (nR P1).e])) Is.ext ?_ ?_
  ·intro ρ1 w1 hj hR;obtain ⟨A21,c21,h21,s21⟩:=hR.1;refine dW rfl ((show ρ1 17=Value.bool _ from hR.2.1)) ?_;exact bp rfl (aR ak.out (aq h21 aY)) (hm1 A21 c21 _ (hT.hp hj.hp) s21) (fun _ _ hq=>⟨_,hq.1,hq.2,rfl⟩)
  refine dG (da 1 [_,_,_] ?_);refine di (i:=10) rfl (fun ρ1 w1 hj hR=>(show ρ1 17=Value.bool _ from hR.2.2.1)) (fun ρ1 w1 hj hR=>aR ak.out (aq (show ρ1 22=Value.agg (List.toArray _) from hR.1) (aq (show ρ1 23=Value.agg (List.toArray _) from hR.2.1) aY))) (fun w1 hj=>hc1 _ (hT.hp hj.hp)) ?_;refine dG (ZE ?_);refine Iz ?_;refine ml ?_;refine dG (da 1 [_,_,_] ?_);refine dG (dw ?_);refine dG (da 2 [_,_,_] ?_);refine dG (da 0 [_,_,_] ?_);refine gC (i:=18) (cs:=[_,_,_,_,_,_]) rfl (fun ρ1 w1 hj hR=>(show ρ1 27=Value.bool _ from hR.2.2.1)) bq.out az.out (fun ρ1 w1 hj hR=>(bC (show ρ1 30=Value.agg (List.toArray _) from hR.1) (bC (show ρ1 31=Value.agg (List.toArray _) from hR.2.1) dk))) rfl rfl abr abr rfl ?_;refine aW (i:=19) (Is (.agg #[.bool (nR P2).neg,.string (nR P2).aO,.int .i64 (nR P2).e])) Is.ext ?_ ?_
  ·intro ρ1 w1 hj hR;obtain ⟨A32,c32,h32,s32⟩:=hR.1;refine dW rfl ((show ρ1 27=Value.bool _ from hR.2.1)) ?_;exact bp rfl (aR ak.out (aq h32 aY)) (hm2 A32 c32 _ (hT.hp hj.hp) s32) (fun _ _ hq=>⟨_,hq.1,hq.2,rfl⟩)
  refine av ?_;intro f W hJ hV;have hb_3:=hJ.bl;obtain ⟨v33,v32,v31,v30,v29,v28,v27,v26,v25,v24,v23,v22,v21,v20,v19,v18,v17,v16,v15,v14,_⟩:=hV;obtain ⟨A21,c21,e21,f21⟩:Rows _ _ _ (f 7) W:=v21;obtain ⟨A32,c32,e32,f32⟩:Rows _ _ _ (f 18) W:=v32;replace hh:=hJ.hp;refine ay (aQ (aa v33 (aa e32 (aa v31 (aa v30 (aa v29 (aa v28 (aa v27 (aa v26 (aa v25 (aa v24 (aa v23 (aa v22 (aa e21 (aa v20 (aa v19 (aa v18 (aa v17 (aa v16 (aa v15 (aa v14 aw))))))))))))))))))))) ?_;dsimp only [bA];clear e21 e32 hJ;refine aj ?_;refine aZ hh (hc2 _ (hT.hp hh)) rfl ?_;intro w34 hh;refine aj ?_;exact ⟨rfl,hh.below⟩
end Go.Proofs.YtmchncaiffbpaaaGreatDoor
