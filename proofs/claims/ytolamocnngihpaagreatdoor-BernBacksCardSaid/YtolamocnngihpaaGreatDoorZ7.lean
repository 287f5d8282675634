/- Lemmas for bernBacks, part 7. -/
import Derived.RangeFuncFrom
import Derived.RangeFuncCalls
import Derived.RangeFuncLeaves
import Derived.Shelf.Abstract
import Derived.Test.YtolamocnngihpaaGreatDoorZ6
namespace Go.Proofs.YtolamocnngihpaaGreatDoor
variable {E:Int}{W w w0 w1:World}{base:Nat}{ts:List TR}
open Go.RowKit
theorem JJ.Qf {H L:List HE} (hJ:JJ w0 H w W) (hs:Hp w0 H w) (hb:w.heap.size≤w1.heap.size) (hL:Hp w1 L W):Hp w0 (L++H) W:=
 hs.join (⟨hJ.bl,fun x hx=>nY (hL.own x hx) hb,hL.nd⟩:Hp w L W)
def rK (base:Nat) (E v:Int) (ts:List TR):VP:=fR base E v ts
theorem rK.ext {v:Int} (x:Value) (w w':World) (h:rK base E v ts x w) (hb:Below w.heap.size w w'):rK base E v ts x w':=fR.ext x w w' h hb
theorem Cg (v:Int):aF [⟨du v,nR 0⟩]=[]:=by
 unfold aF je oU
 rfl
theorem Fp (lA:Option Addr) (lc K T c0:Nat) (v:Int) (ls:List PX) (hv:iJ v=true) (hlc:ls.length≤lc) (hl12:ls.length≤12) (hls:∀g∈ls,lr v K g.ts∧g.v=v∧g.j8 K∧g.ts.length≤T) (hc0:K+4096*T+8192≤c0) (hc1:c0≤440000):
  ∀(qs:List PX) (j:Nat) (p:List TR) (A:Option Addr) (n c:Nat) (ds:List Nat) (k:Nat) (w:World),ls.drop j=qs→j≤ls.length→e8 w→Sl w lA ls.length 2 (aD PX.cells ls)→(∀g∈ls,g.at_ w)→Sl w A n 4 (aD TR.cells p)→n≤c→Im ls.length j p→ja k p→n≤4096→ds.length=qs.length→(∀(i d:Nat),ds[i]?=some d→d≤127∧∀t∈p,ie (j+i) t≤d)→gQ c0 ds (k+1)≤440000→
  Calls Tryz.prog 141 #[.slice A n c,.int .i64 j,.slice lA ls.length lc,.int .i64 v] w fun r w'=>∃g:PX,dW (gU v (qs.map PX.ts) j p).1 v (gU v (qs.map PX.ts) j p).2 g∧r=.returned (.tuple #[.agg #[.int .i64 g.v,.slice g.A g.n g.c],.int .i64 (gU v (qs.map PX.ts) j p).1])∧Hp w [g.row] w':=by
 intro qs;have hK:K≤440000:=Yv;have hco:pQ v=0:=YB (by rw [hv];decide)
 induction qs with
 |nil=>
  intro j p A n c ds k w hq hj hT hL hat hS hnc hsr hok hn hds hD hB;have hh:=Hp.start w;have hln:=hS.bh TR.len Yw;obtain rfl:j=ls.length:=by
   have:=Zz List.length hq;rw [ZM] at this;simp only [abv] at this;omega
  obtain rfl:ds=[]:=aaA.1 hds;rw [sS] at hB;have hcn:=fun c hc w1 hT1=>ku v c k w1 hT1 hc Yv;rw [hco] at hcn
  cases p with
  |nil=>
   obtain rfl:n=0:=by simpa using hln.symm
   show Calls _ _ _ _ fun r w'=>∃g:PX,dW 0 v (aF [⟨du v,nR 0⟩]) g∧r=.returned (.tuple #[.agg #[.int .i64 g.v,.slice g.A g.n g.c],.int .i64 0])∧Hp w [g.row] w';refine ak (N:=118) (l:=[.slice A 0 c,.int .i64 ls.length,.slice lA ls.length lc,.int .i64 v]) Tryz.func141 rfl rfl (by simp) ?_;refine sr ?_;refine bW hh ?_;intro b8 w8 hh;refine aI (aa (ai (sr (mI (mL (aK ?_))))));refine di (aa (cT (ai (sr (mL (aK ?_))))));refine di (aa (cT (sr (mI ?_))));refine fH [_,_,_] ?_;refine aJ (hcn (nR 0) ⟨(Sz.zero k).ok Yv,by rw [cj];exact Sz.zero k⟩ _ (hT.hp hh)) aw.out rfl Yw ?_;rintro e_ w25 ⟨g,og,rfl,h3⟩;refine ⟨_,rfl, ?_⟩;replace hh:=hh.join h3;simp only [YJ,YH] at hh;refine dx ?_;refine dx ?_;refine bV hh 1 [_,_] ?_;intro ws hh;replace hh:Hp _ (_::.blk _ _ [_,_] _::_) _:=hh;refine aI (aa (ay (aN (aN ?_))));exact Vv
  |cons t p=>
   have hn1:p.length+1=n:=by simpa using hln
   have ht:=hok t YL;obtain ⟨ad,rfl,hr⟩:=hS.at_ Yv;show Calls _ _ _ _ fun r w'=>∃g:PX,dW 0 v (aF [⟨du v,t.c⟩]) g∧r=.returned (.tuple #[.agg #[.int .i64 g.v,.slice g.A g.n g.c],.int .i64 0])∧Hp w [g.row] w';refine ak (N:=118) (l:=[.slice (some ad) n c,.int .i64 ls.length,.slice lA ls.length lc,.int .i64 v]) Tryz.func141 rfl rfl (by simp) ?_;refine sr ?_;refine bW hh ?_;intro b8 w8 hh;refine aI (aa (ai (sr (mI (mL (aK ?_))))));refine di (aa (cT (ai (sr (mL (aK ?_))))));refine di (aa (cF (au (aj (sr (mI (mL ?_)))))));refine D9 ?_;refine oL ?_;refine cG (vs:=[_,_,_]) aU.out rfl (((hr.ext hh.below).recAt TR.len (show (t::p)[0]?=some t from rfl)).drop 1) rfl Yw ?_;refine aJ (hcn t.c ht _ (hT.hp hh)) aw.out rfl Yw ?_;rintro e_ w33 ⟨g,og,rfl,h3⟩;refine ⟨_,rfl, ?_⟩;replace hh:=hh.join h3;simp only [YJ,YH] at hh;refine dx ?_;refine dx ?_;refine bV hh 1 [_,_] ?_;intro ws hh;replace hh:Hp _ (_::.blk _ _ [_,_] _::_) _:=hh;refine aI (aa (ay (aN ?_)));exact Vv
 |cons q qs ih=>
  intro j p A n c ds k w hq hj hT hL hat hS hnc hsr hok hn hds hD hB;have hh:=Hp.start w;have hln:=hS.bh TR.len Yw
  cases ds with
  |nil=>cases hds
  |cons d ds=>
   have hd:=hD 0 d rfl;have hjl:j<ls.length:=by
    rcases Zj j ls.length with h|h
    ·exact h
    ·rw [ZZ h] at hq;cases hq
   have hqj:ls[j]?=some q:=by rw [←List.head?_drop,hq];rfl
   have hqs:ls.drop (j+1)=qs:=by rw [←List.tail_drop,hq];rfl
   obtain ⟨hqk,hqv,hql,hqT⟩:=hls q (YF hqj);rw [qK] at hB;have hB1:gQ c0 ds (k+1)≤440000:=Yv;have hmono:=hsr.mono Yv;rw [Y1];show Calls _ _ _ _ fun r w'=>∃g:PX,dW (cI q.ts (gU v (qs.map PX.ts) (j+1)) p j 128).1 v (cI q.ts (gU v (qs.map PX.ts) (j+1)) p j 128).2 g∧r=.returned (.tuple #[.agg #[.int .i64 g.v,.slice g.A g.n g.c],.int .i64 (cI q.ts (gU v (qs.map PX.ts) (j+1)) p j 128).1])∧Hp w [g.row] w';have hDs:∀n (i e:Nat),ds[i]?=some e→e≤127∧∀t∈ck p j n,ie (j+1+i) t≤e:=fun n i e he=>by
    exact SK
   have hrec:∀(m fr en:Nat) (w1:World),e8 w1→Below w.heap.size w w1→fr≤en→en≤n→ck p j m=(p.drop fr).take (en-fr)→Calls Tryz.prog 141 #[.slice (if c=fr then A else A.map (·.add (fr*4))) (en-fr) (c-fr),.int .i64 ((j:Int)+1),.slice lA ls.length lc,.int .i64 v] w1 fun r w'=>∃g:PX,dW (gU v (qs.map PX.ts) (j+1) (ck p j m)).1 v (gU v (qs.map PX.ts) (j+1) (ck p j m)).2 g∧r=.returned (.tuple #[.agg #[.int .i64 g.v,.slice g.A g.n g.c],.int .i64 (gU v (qs.map PX.ts) (j+1) (ck p j m)).1])∧Hp w1 [g.row] w':=fun m fr en w1 hT1 hb h1 h2 hw=>by
    have hcut:=(hS.ext hb).cut h1 h2 hnc;rw [hZ TR.len,jO TR.len,←hw] at hcut;exact ih (j+1) (ck p j m) _ (en-fr) (c-fr) ds k w1 hqs Yv hT1 (hL.ext hb) (fun g hg=>(hat g hg).ext hb) hcut Yv (hsr.with Yv) (fun t ht=>hok t (kZ t ht)) Yv (by simpa using hds) (hDs m) hB1
   have hsub:∀m,(gU v (qs.map PX.ts) (j+1) (ck p j m)).1=0→lr v (gQ c0 ds (k+1)) (gU v (qs.map PX.ts) (j+1) (ck p j m)).2:=fun m hm=>by
    refine Gy hv hc0 (qs.map PX.ts) (j+1) (ck p j m) ds k (fun r hr=> ?_) (fun t ht=>hok t (kZ t ht)) (by rw [YO];simpa using hds) (hDs m) Yv hm;obtain ⟨g,hg,rfl⟩:=YR.1 hr;have:=hls g (abC (by rw [hqs];exact hg));exact ⟨this.1,this.2.2.2⟩
   generalize gU v (qs.map PX.ts) (j+1)=sub at hrec hsub ⊢;have hlim:=uZ (sub:=sub) (p:=p) (j:=j) hv hqk hqT hd.2 hd.1 hsub hc0 Yv;have hlim2:∀i,i≤128→(cI q.ts sub p j i).1=0→lr v 440000 (cI q.ts sub p j i).2:=fun i hi h0=>(hlim i hi h0).mono (by
    have:(i+d-128)*c0≤d*c0:=ZH _ Yv;omega)
   have hcn:=fun w1 hT1=>ku v (nR 0) 0 w1 hT1 ⟨(Sz.zero 0).ok Yw,by rw [cj];exact Sz.zero 0⟩ Yw;rw [hco,Cg] at hcn;refine ak (N:=118) (l:=[.slice A n c,.int .i64 j,.slice lA ls.length lc,.int .i64 v]) Tryz.func141 rfl rfl (by simp) ?_;refine sr ?_;refine bW hh ?_;intro b8 w8 hh;refine aI (aa (ai (sr (mI (mL (aK ?_))))));refine di (aa (cF (au (aj (sr (mI ?_))))));refine fH [_,_,_] ?_;refine aJ (hcn _ (hT.hp hh)) aw.out rfl Yw ?_;rintro e_ w39 ⟨g,og,rfl,h3⟩;refine ⟨_,rfl, ?_⟩;replace hh:=hh.join h3;simp only [YJ,YH] at hh;refine mT ?_;refine dx ?_;refine dx ?_;refine bW hh ?_;intro b10 w10 hh;refine bV hh 0 [_,_] ?_;intro ws hh;replace hh:Hp _ (.blk _ _ [_,_] _::_) _:=hh;refine aI (aa (sr (mL (aK (aI (aa (ai (sr (aI (aa (av ?_)))))))))));refine Dp [11,12,13,14,15,44,45,46,47,48,49,50,51,52,53,54,55,56,57,58,59,60,61,62,63,64,65,66,67,68,69,70,71,72,73,74,75,76,77,78,79,80,81,82,83,84,85,86,87,88,89,90,91,92,93,94,95,96,97,98,99,100,101,102,103,104,105,106,107,108,109,110,111,112] 11 12 13
    (fun e en nv w'=>∃(i en_:Nat) (e_ ov:Int) (oA:Option Addr) (on oc:Nat) (os:List TR),i≤128∧nv=.int .i64 (127-(i:Int))∧en=.int .i64 en_∧e=.int .i64 e_∧e_=(cI q.ts sub p j i).1∧en_≤n∧(e_=0→ov=v∧os=(cI q.ts sub p j i).2∧(∀t∈p.take en_,ie j t<128-i)∧(∀t∈p.drop en_,128-i≤ie j t))∧Hp w [.blk b10 24 [.int .i64 ov,.slice oA on oc] (0,0),.row oA on oc 80 4 (aD TR.cells os),.blk b8 24 [.int .i64 0,.slice none 0 0] (0,0)] w')
    (fun _ _ nv _=>(intOf nv+1).toNat) ?_ ?_
   ·refine ⟨0,n,0,g.v,g.A,g.n,g.c,g.ts,YD _,rfl,rfl,rfl,rfl,YE _,fun _=>⟨og.v,og.ts,fun t ht=> ?_,fun t ht=> ?_⟩,hh⟩
    ·obtain ⟨x,_,hx,h8⟩:=hsr.get Yv (aau ht);rw [hx];exact h8
    ·rw [ZZ Yv] at ht
     cases ht
   ·clear hh og h3;rintro ρ' e_ en_ nv_ w' ⟨i,en,e,ov,oA,on,oc,os,hi,rfl,rfl,rfl,he,hen,hok0,hh⟩;by_cases hcn:i<128∧e=0
    ·obtain ⟨hi8,rfl⟩:=hcn;obtain ⟨rfl,rfl,hlo,hhi⟩:=hok0 rfl;clear hok0;obtain ⟨m,hm⟩:∃m,m=127-i:=⟨_,rfl⟩;rw [show (127-(i:Int))=(m:Int) by omega];refine ai (sr (mI ?_));refine ej (mB (gT (mI (gT ?_))));refine di ?_;refine fG ?_;refine aa (cT (au (aj (ai (av (sr (mI (aI (aa (ai (av ?_)))))))))));refine Nh zL5 14
      (fun f w'=>∃fr:Nat,fr≤en∧f=.int .i64 fr∧ck p j m=(p.drop fr).take (en-fr)∧(∀t∈p.take fr,ie j t<m)∧Hp w [.blk b10 24 [.int .i64 ov,.slice oA on oc] (0,0),.row oA on oc 80 4 (aD TR.cells (cI q.ts sub p j i).2),.blk b8 24 [.int .i64 0,.slice none 0 0] (0,0)] w') ?_ ?_
     ·refine aT zL5 14
       (fun f w'=>∃fr:Nat,fr≤en∧f=.int .i64 fr∧(∀t∈(p.drop fr).take (en-fr),ie j t=m)∧Hp w [.blk b10 24 [.int .i64 ov,.slice oA on oc] (0,0),.row oA on oc 80 4 (aD TR.cells (cI q.ts sub p j i).2),.blk b8 24 [.int .i64 0,.slice none 0 0] (0,0)] w')
       (fun f _=>(intOf f).toNat) ?_ ?_
      ·exact ⟨en,YE _,rfl,(fun t ht=>by rw [Zu] at ht;cases ht),hh⟩
      ·clear hh;rintro ρ' f w' ⟨fr,hfr,rfl,hmid,hh⟩;by_cases h0:0<fr
       ·obtain ⟨fr,rfl⟩:∃g,fr=g+1:=⟨fr-1,Yv⟩;obtain ⟨x,hx⟩:=ao (l:=p) (k:=fr) Yv;obtain ⟨ad,rfl,hr⟩:=hS.at_ Yv;obtain ⟨e,hex,hxe,h8⟩:=hsr.get Yv (YF hx);by_cases hem:e.toNat=m
        ·refine ai (sr (mI ?_));refine bT (mB (gT (mL (gT (mI (gT ?_))))));refine eP (gT ?_);refine dm (k:=fr) bo.out aU.size rfl rfl Yv Yv Yw ?_;refine gT ?_;refine oL ?_;refine aP rfl rfl ?_;refine cv aU.out rfl (((hr.ext hh.below).recAt TR.len hx).cell (i:=0) rfl) Yw ?_;refine gT (mI (gT ?_));refine j4 ?_;refine gT ?_;refine vP ?_;refine gT (mI (gT ?_));refine di ?_;refine fG ?_;refine aa (cT (au (aj (av (ar (mI ?_))))));refine eP (aI (aE (bM (aj ?_))));refine ⟨⟨fr,Yv,by show Value.int .i64 (((fr+1:Nat):Int)-1)=_;congr 1;omega,fun t ht=> ?_,hh⟩,by show (((fr+1:Nat):Int)-1).toNat<((fr+1:Nat):Int).toNat;omega, ?_⟩
         ·rw [gC hx,show en-fr=(en-(fr+1))+1 by omega,List.take_succ_cons] at ht
          rcases YS.1 ht with rfl|ht
          ·rw [hxe,hem]
          ·exact hmid t ht
         ·exact dO
        ·have hlt:e.toNat<m:=by
          have:=hlo x (by rw [show en=(fr+1)+(en-(fr+1)) by omega,List.take_add];exact aan _ (by rw [aC hx];exact Z5 _ YL));omega
         have hall:=JR hmono hx (n:=m) (by rw [hxe];exact hlt);refine ai (sr (mI ?_));refine bT (mB (gT (mL (gT (mI (gT ?_))))));refine eP (gT ?_);refine dm (k:=fr) bo.out aU.size rfl rfl Yv Yv Yw ?_;refine gT ?_;refine oL ?_;refine aP rfl rfl ?_;refine cv aU.out rfl (((hr.ext hh.below).recAt TR.len hx).cell (i:=0) rfl) Yw ?_;refine gT (mI (gT ?_));refine j4 ?_;refine gT ?_;refine vP ?_;refine gT (mI (gT ?_));refine di ?_;refine fG ?_;refine aa (cF (a6 (aH (aH (bB (aj ?_))))));refine ⟨⟨fr+1,hfr,rfl,BE hfr hall hmid (fun t ht=>by have:=hhi t ht;omega),hall,hh⟩, ?_⟩;exact dO
       ·obtain rfl:fr=0:=Yv;refine ai (sr (mI ?_));refine bT (mB ?_);refine gS (gS (gS (gS (gS ?_))));refine jG ?_;refine gS (gS (gS (gS (gS ?_))));refine dX ?_;refine aa (cF (a6 (aH (aH (bB (aj ?_))))));refine ⟨⟨0,hfr,rfl,BE hfr (fun t ht=>by cases ht) hmid (fun t ht=>by have:=hhi t ht;omega),(fun t ht=>by cases ht),hh⟩, ?_⟩;exact dO
     ·skip;clear hh;rintro ρ' f w' ⟨fr,hfr,rfl,hwi,hbl,hh⟩;have hnx:cI q.ts sub p j (i+1)=jD q.ts sub p j m (cI q.ts sub p j i):=by rw [mV,hm]
      have hop:=hlim2 i Yv he.symm;unfold jD at hnx;rw [YB (by rw [←he];decide)] at hnx;have hmi:m=128-(i+1):=Yv;have hmi2:(127-((i+1:Nat):Int))=(m:Int)-1:=Yv;have hdf:∀t∈p.drop fr,m≤ie j t:=fun t ht=>by
       rw [Lm hfr] at ht
       rcases Zb.1 ht with ht|ht
       ·rw [←hwi] at ht;have:=Z8 (ZP.1 ht).2;omega
       ·have:=hhi t ht;omega
      have hst:(cI q.ts sub p j i)=(0,(cI q.ts sub p j i).2):=by rw [he]
      generalize (cI q.ts sub p j i).2=os at*;have hoc:on≤oc:=hh.dJ (i:=1) rfl;have hon:os.length=on:=(hh.aG (i:=1) rfl).bh TR.len Yw;have hwl:(ck p j m).length=en-fr:=by rw [hwi,YW,ZM];omega
      by_cases hsk:os.length=0∧(ck p j m).length=0
      ·rw [YA hsk] at hnx;obtain ⟨h1,h2⟩:=hsk;obtain rfl:on=0:=Yv;obtain rfl:fr=en:=Yv;refine ai (sr (bJ ?_));refine bG hh 0 ?_;refine aK ?_;refine di (mB (gT (mI (gT (mI (gT ?_))))));refine di ?_;refine fG ?_;refine aa (cT (a6 (aH (bB (aj (ar (mI ?_)))))));refine eP (aI (aE (aj ?_)));refine ⟨⟨i+1,fr,0,ov,oA,0,oc,os,Yv,by rw [hmi2];rfl,rfl,rfl,by rw [hnx];exact he,hen,fun _=>⟨rfl,by rw [hnx,hst],fun t ht=>by rw [←hmi];exact hbl t ht,fun t ht=>by rw [←hmi];exact hdf t ht⟩,hh⟩,by show ((m:Int)-1+1).toNat<((m:Int)+1).toNat;omega, ?_⟩;exact dO
      ·rw [YB hsk] at hnx;refine J7 [70,71,72,73,74,75,76,77,78]
        (fun w'=>Hp w [.blk b10 24 [.int .i64 ov,.slice oA on oc] (0,0),.row oA on oc 80 4 (aD TR.cells os),.blk b8 24 [.int .i64 0,.slice none 0 0] (0,0)] w') ?_ ?_
       ·by_cases h0:on=0
        ·subst h0;have hne:fr≠en:=fun h=>hsk ⟨hon,Yv⟩;refine sr (bJ ?_);refine bG hh 0 ?_;refine aK ?_;refine di (mB (gT (mI (gT (mI (gT ?_))))));refine di ?_;refine fG ?_;refine aa (cF (au (aj ?_)));refine ⟨hh, ?_⟩;exact P5
        ·refine sr (bJ ?_);refine bG hh 0 ?_;refine aK ?_;refine di (mB ?_);refine gS (gS (gS ?_));refine dX ?_;refine aa (cF (au (aj ?_)));refine ⟨hh, ?_⟩;exact P5
       ·skip;clear hh;rintro ρ' w' hh;obtain ⟨lad,rfl,hlr⟩:=hL.at_ Yv;have hlp:eE [⟨ov,oA,on,oc,os⟩,q]=0:=kX hop.e (by unfold PX.e;rw [hqv];exact hqk.e) hqv;have hmu:∀(A2:Option Addr) (w1:World),e8 w1→Sl w1 A2 2 2 (aD PX.cells [⟨ov,oA,on,oc,os⟩,q])→Sl w1 oA on 4 (aD TR.cells os)→Below w.heap.size w w1→Calls Tryz.prog 178 #[.slice A2 2 2] w1 fun r w'=>∃g:PX,dW (ep os q.ts) ov (aF (cg os q.ts)) g∧r=.returned (.tuple #[.agg #[.int .i64 g.v,.slice g.A g.n g.c],.int .i64 (ep os q.ts)])∧Hp w1 [g.row] w':=fun A2 w1 hT1 s1 s2 hb=>by
         have h1:=Da A2 2 2 [⟨ov,oA,on,oc,os⟩,q] 440000 505536 w1 hT1 s1 Yw Yw (fun g hg=>by
          rcases YS.1 hg with rfl|hg
          ·exact s2
          ·rw [YT.1 hg];exact (hat q (YF hqj)).ext hb) (fun g hg=>by
          rcases YS.1 hg with rfl|hg
          ·exact ⟨by have:=hop.len;show on≤1000000;omega,hoc,hop.ok,hop.sz⟩
          ·rw [YT.1 hg];exact ⟨hql.n,hql.cap,hql.ok.mono hK,hql.sz⟩) Yw Yw
         unfold rO at h1;rw [YA hlp] at h1;exact h1
        refine sr ?_;refine bW hh ?_;intro b15 w15 hh;refine aa (ai (ai ?_));refine cP [] [9] [0,0,0,6,14,31,63,127,255,255,511,2047] 10 [[(10,none)],[(2,none)],[(1,none)],[(81,some 1),(82,some 2)],[(83,some 3)],[(80,some 0),(84,some 4)],[(85,some 5)],[(86,some 6)],[(79,some 7)],[(79,some 7)]] [(9,88),(8,87),(7,79),(6,86),(5,85),(4,84),(3,83),(2,82),(1,81),(0,80)] hh mixed Yx dr rfl (by repeat (first|exact cz|refine bU ?_|refine cw ?_)) ?_;refine ef 1 [_,_] ?_;refine eQ ?_;refine cZ ?_;refine jA (j) ?_;refine nF [_,_] (fun _ hj=>(hlr.ext hj.hp.below).recAt PX.len hqj) ?_;refine aO (i:=5) (ir 2 2 (aD PX.cells [⟨ov,oA,on,oc,os⟩,q])) (ir.ext) ?_ ?_
        ·intro ρ1 w1 hj hR;exact jR (sz:=2) bo.out aU.out (show ya ρ1 [(0,.tmp 80),(1,.tmp 84)]=[(0,.agg #[.int .i64 ov,.slice oA on oc]),(1,.agg #[.int .i64 q.v,.slice q.A q.n q.c])] from aX (show ρ1 80=_ from hR.1) (aX (show ρ1 84=_ from hR.2.1) cx)) rfl rfl Yw Yw rfl fun v w2 h hb=>⟨hb,h⟩
        refine aO (i:=6) (eV hh.sz (ep os q.ts) ov (aF (cg os q.ts))) (eV.ext) ?_ ?_
        ·intro ρ1 w1 hj hR;obtain ⟨g85,e85,o85⟩:=hR.1;exact let ⟨b,e1,s1⟩:=hR.1;bk rfl (aV aw.out (az e1 bf)) (hmu _ w1 (hT.hp hj.hp) s1 (hj.hp.aG (i:=2) rfl) hj.hp.below) (fun _ _ ⟨g,og,hq,h3⟩=>⟨_,hq,h3.below,g,w1,rfl,og,hj.bl.size,h3⟩)
        refine aO (i:=7) (eV hh.sz (ep os q.ts) ov (aF (cg os q.ts))) (eV.ext) ?_ ?_
        ·exact F0
        refine aO (i:=8) (rK hh.sz (ep os q.ts) ov (aF (cg os q.ts))) (rK.ext) ?_ ?_
        ·exact EJ
        refine aO (i:=9) (Is (.int .i64 (ep os q.ts))) (Is.ext) ?_ ?_
        ·exact EO
        refine aM ?_;intro f W hJ hV _;have hb_15:=hJ.bl;obtain ⟨v88,v87,v79,v86,v85,v84,v83,v82,v81,v80,_⟩:=hV;obtain ⟨g85,e85,o85⟩:ir 2 2 (aD PX.cells [⟨ov,oA,on,oc,os⟩,q]) (f 5) W:=v85;obtain ⟨g86,u86,e86, -⟩:=v86;obtain ⟨g79,u79,e79, -⟩:=v79;obtain ⟨g87,u87,e87,o87,q87,h87⟩:=v87;replace hh:=JJ.Qf hJ hh q87 h87;refine aQ (bg (ae v88 (ae e87 (ae e79 (ae e86 (ae e85 (ae v84 (ae v83 (ae v82 (ae v81 (ae v80 aR))))))))))) ?_;dsimp only [bO];clear e85 e86 e79 e87 hJ;simp only [YJ,YH] at hh;obtain ⟨gv,gA,gn,gc,gts⟩:=g87;replace hh:=show Hp w (.row gA gn gc 80 4 (aD TR.cells gts)::_) W from hh;by_cases hte:ep os q.ts=0
        ·rw [YB (by rw [hte];decide)] at hnx;rw [hte] at o87;obtain rfl:ov=gv:=o87.v.symm;obtain rfl:aF (cg os q.ts)=gts:=o87.ts.symm;have hgc:gn≤gc:=hh.dJ (i:=0) rfl;have hgl:(aF (cg os q.ts)).length=gn:=(hh.aG (i:=0) rfl).bh TR.len Yw;have hgo:=HA hop hqk hqT hte Yv;refine bV hh 2 [_,_] ?_;intro ws hh;replace hh:Hp _ (_::_::.blk _ _ [_,_] _::_) _:=hh;refine aI (aa (sr (mI ?_)));refine di (aa (cT (ar (mL (mI (mI ?_))))));dsimp only at hh;refine aZ rfl rfl Yw (jQ (lo:=some (.tmp 93)) (hi:=some (.tmp 94)) (l:=fr) (h:=en) bo.out aU.size rfl ⟨_,_,rfl,rfl⟩ ⟨_,_,rfl,rfl⟩ hfr Yv) ?_;refine mI ?_;refine bm (mL (mI ?_));refine aJ (hrec m fr en _ (hT.hp hh) hh.below hfr hen hwi) aw.out rfl Yw ?_;rintro e_ w100 ⟨g2,og2,rfl,h4⟩;refine ⟨_,rfl, ?_⟩;replace hh:=hh.join h4;simp only [YJ,YH] at hh;have hs2:=hsub m;obtain ⟨hv2,hA2,hn2,hc2,ht2⟩:=g2;replace hh:=show Hp w (.row hA2 hn2 hc2 80 4 (aD TR.cells ht2)::_) _ from hh;by_cases hE2:(sub (ck p j m)).1=0
         ·rw [YB (by rw [hE2];decide)] at hnx;rw [hE2] at og2;obtain rfl:ov=hv2:=og2.v.symm;obtain rfl:(sub (ck p j m)).2=ht2:=og2.ts.symm;have ho2:=hs2 hE2;have hc2c:hn2≤hc2:=hh.dJ (i:=0) rfl;have hl2:((sub (ck p j m)).2).length=hn2:=(hh.aG (i:=0) rfl).bh TR.len Yw;generalize (sub (ck p j m)).2=us at*;refine mT ?_;refine dx ?_;refine dx ?_;refine bV hh 2 [_,_] ?_;intro ws hh;replace hh:Hp _ (_::_::.blk _ _ [_,_] _::_) _:=hh;refine aI (aa (ai (sr (mI ?_))));refine di (aa (cT (ar ?_)));refine cC hh 3 [_,_] ?_;refine cC hh 2 [_,_] ?_;refine vg ?_;intro b108 w108 hh;dsimp only at hh;have hlp2:eE [⟨ov,gA,gn,gc,aF (cg os q.ts)⟩,⟨ov,hA2,hn2,hc2,us⟩]=0:=kX hgo.e ho2.e rfl;have had:=qI (some ⟨b108,0,none⟩) 2 2 [⟨ov,gA,gn,gc,aF (cg os q.ts)⟩,⟨ov,hA2,hn2,hc2,us⟩] 2000000 _ (hT.hp hh) (hh.aG (i:=0) rfl) Yw (fun g hg=>by
           rcases YS.1 hg with rfl|hg
           ·exact hh.aG (i:=2) rfl
           ·rw [YT.1 hg];exact hh.aG (i:=1) rfl) (fun g hg=>by
           rcases YS.1 hg with rfl|hg
           ·exact ⟨by have:=hgo.len;show gn≤1000000;omega,hgc,hgo.ok.mono Yv,hgo.sz⟩
           ·rw [YT.1 hg];exact ⟨by have:=ho2.len;show hn2≤1000000;omega,hc2c,ho2.ok.mono Yv,ho2.sz⟩) Yw
          unfold ud at had;rw [YA hlp2,yN] at had;dsimp only at had;refine aJ (had) aw.out rfl Yw ?_;rintro e_ w109 ⟨g3,og3,rfl,h5⟩;refine ⟨_,rfl, ?_⟩;replace hh:=hh.join h5;simp only [YJ,YH] at hh;obtain ⟨hv3,hA3,hn3,hc3,ht3⟩:=g3;replace hh:=show Hp w (.row hA3 hn3 hc3 80 4 (aD TR.cells ht3)::_) _ from hh;refine mT ?_;refine dx ?_;refine dx ?_;refine bV hh 5 [_,_] ?_;intro ws hh;replace hh:Hp _ (_::_::_::_::_::.blk _ _ [_,_] _::_) _:=hh;refine aI (aa (ar (mI (aI (aE (bM (aj (ar (mI ?_)))))))));refine eP (aI (aE (aj ?_)));replace hh:=hh.sub (YC _ (YI _ (YI _ (YI _ (YI _ (YC _ (YI _ (YC _ Y5))))))));replace hh:=hh.perm (Zh (l₁:=[_]));simp only [YJ,YH] at hh;try dsimp only at hh
          refine ⟨⟨i+1,fr,gF (aF (cg os q.ts)++us),hv3,hA3,hn3,hc3,ht3,Yv,by rw [hmi2];rfl,rfl,rfl, ?_,Yv,fun h=>⟨?_, ?_,fun t ht=>by rw [←hmi];exact hbl t ht,fun t ht=>by rw [←hmi];exact hdf t ht⟩,hh⟩,by show ((m:Int)-1+1).toNat<((m:Int)+1).toNat;omega, ?_⟩
          ·rw [hnx];by_cases hg:gF (aF (cg os q.ts)++us)≠0
           ·rw [YA hg]
           ·rw [YB hg];omega
          ·have:=og3.v;rw [YA h] at this;exact this
          ·rw [hnx,YB (by rw [h];decide)];have:=og3.ts;rw [YA h] at this;exact this
          ·exact dO
         ·rw [YA hE2] at hnx;refine mT ?_;refine dx ?_;refine dx ?_;refine bV hh 2 [_,_] ?_;intro ws hh;replace hh:Hp _ (_::_::.blk _ _ [_,_] _::_) _:=hh;refine aI (aa (ai (sr (mI ?_))));refine di (aa (cF (au (aj (ar (mI (aI (aE (bM (aj (ar (mI ?_))))))))))));refine eP (aI (aE (aj ?_)));replace hh:=hh.sub (YI _ (YC _ (YI _ (YC _ (YI _ (YC _ Y5))))));replace hh:=hh.perm (Zh (l₁:=[_]));simp only [YJ,YH] at hh;refine ⟨⟨i+1,fr,_,ov,gA,gn,gc,aF (cg os q.ts),Yv,by rw [hmi2];rfl,rfl,rfl,by rw [hnx],Yv,fun h=>absurd h hE2,hh⟩,by show ((m:Int)-1+1).toNat<((m:Int)+1).toNat;omega, ?_⟩;exact dO
        ·rw [YA hte] at hnx;refine bV hh 2 [_,_] ?_;intro ws hh;replace hh:Hp _ (_::_::.blk _ _ [_,_] _::_) _:=hh;refine aI (aa (sr (mI ?_)));refine di (aa (cF (au (aj (ai (sr (mI ?_)))))));refine di (aa (cF (au (aj (ar (mI (aI (aE (bM (aj (ar (mI ?_))))))))))));refine eP (aI (aE (aj ?_)));replace hh:=hh.sub (YC _ (YI _ (YC _ (YI _ (YC _ Y5)))));replace hh:=hh.perm (Zh (l₁:=[_]));simp only [YJ,YH] at hh;refine ⟨⟨i+1,fr,ep os q.ts,gv,gA,gn,gc,gts,Yv,by rw [hmi2];rfl,rfl,rfl,by rw [hnx],Yv,fun h=>absurd h hte,hh⟩,by show ((m:Int)-1+1).toNat<((m:Int)+1).toNat;omega, ?_⟩;exact dO
    ·have hfin:cI q.ts sub p j 128=cI q.ts sub p j i:=by
      by_cases h8:i=128
      ·rw [h8]
      ·exact pf Yv hi
     rw [hfin];by_cases he0:e=0
     ·subst he0;obtain ⟨rfl,rfl, -, -⟩:=hok0 rfl;clear hok0 hfin;generalize cI q.ts sub p j i=X at*;obtain rfl:i=128:=Yv;rw [←he];refine ai (sr (mI ?_));refine ej (mB ?_);refine gS (gS ?_);refine dX ?_;refine aa (cF (a6 (aH (aH (bB (aj (ai (sr (mI ?_)))))))));refine wZ ?_;refine cC hh 0 [_,_] ?_;refine bV hh 2 [_,_] ?_;intro ws hh;replace hh:Hp _ (_::_::.blk _ _ [_,_] _::_) _:=hh;refine aI (aa (ay ?_));refine oJ ?_;exact ⟨⟨ov,oA,on,oc,_⟩,⟨rfl,rfl⟩,rfl,hh.sub (.cons _ (YC _ (Zr _)))⟩
     ·rw [←he];clear hok0 hfin;generalize cI q.ts sub p j i=X at*;by_cases h8:i=128
      ·subst h8;refine ai (sr (mI ?_));refine ej (mB ?_);refine gS (gS ?_);refine dX ?_;exact U0
      ·refine ai (sr (mI ?_));refine ej (mB (gT (mI (gT ?_))));refine di ?_;refine fG ?_;exact U0
def eH (p:PX) (ls:List PX):Int×List TR:=
 if p.e≠0 then (p.e,[]) else if (ls.length:Int)≠p.v then (1,[]) else if ls.length≠0∧eE ls≠0 then (eE ls,[]) else gU (fI ls) (ls.map PX.ts) 0 p.ts
theorem EN (f:PX) (p:Addr) (x:Int) (w:World) (hp:w.cell? p=some (.int .i64 x)):
  Calls Tryz.prog 140 #[.agg #[.int .i64 f.v,.slice f.A f.n f.c],.pointer (some p)] w fun r w'=>r=.returned (.bool (decide (f.v≠x)))∧Below w.heap.size w w':=by
 have hh:=Hp.start w;by_cases hg:f.v=x
 ·refine ak (N:=8) (l:=[.agg #[.int .i64 f.v,.slice f.A f.n f.c],.pointer (some p)]) Tryz.func140 rfl rfl (by simp) ?_;refine sr ?_;refine cu hh [_,_] ?_;intro b2 w2 hh;refine aB (aa (sr (bJ ?_)));refine bG hh 0 ?_;refine cv aU.out rfl ((hh.below.cell (mW hp)).trans hp) Yw ?_;exact Rm
 ·refine ak (N:=8) (l:=[.agg #[.int .i64 f.v,.slice f.A f.n f.c],.pointer (some p)]) Tryz.func140 rfl rfl (by simp) ?_;refine sr ?_;refine cu hh [_,_] ?_;intro b2 w2 hh;refine aB (aa (sr (bJ ?_)));refine bG hh 0 ?_;refine cv aU.out rfl ((hh.below.cell (mW hp)).trans hp) Yw ?_;exact RM
structure Wq (p:PX) (ls:List PX) (k K T c0:Nat) (ds:List Nat):Prop where
 len:ds.length=ls.length
 Wu:∀(i d:Nat),ds[i]?=some d→d≤127∧∀t∈p.ts,ie i t≤d
 grow:gQ c0 ds (k+1)≤440000
 step:K+4096*T+8192≤c0
 top:c0≤440000
 j8:∀g∈ls,g.j8 K
 Tm:∀g∈ls,g.ts.length≤T
theorem BD {v:Int} (h:fj v ts=0):Im v 0 ts:=by
 obtain ⟨_,_,h3,h4⟩:=cB h;exact ⟨h4.sO,h3,fun a _ b _=>by rw [ZS,ZS]⟩
theorem r9 (p:PX) (lA:Option Addr) (lc:Nat) (ls:List PX) (k K T c0:Nat) (ds:List Nat) (w:World) (hT:e8 w) (hp:p.at_ w) (lp:p.j8 k) (hL:Sl w lA ls.length 2 (aD PX.cells ls)) (hat:∀g∈ls,g.at_ w) (hlc:ls.length≤lc) (hf:Wq p ls k K T c0 ds):
  Calls Tryz.prog 91 #[.agg #[.int .i64 p.v,.slice p.A p.n p.c],.slice lA ls.length lc] w fun r w'=>∃g:PX,dW (eH p ls).1 (fI ls) (eH p ls).2 g∧r=.returned (.tuple #[.agg #[.int .i64 g.v,.slice g.A g.n g.c],.int .i64 (eH p ls).1])∧Hp w [g.row] w':=by
 have hh:=Hp.start w;have hck:=fun w1 hT1 hb=>pB p k w1 hT1 (hp.ext hb) lp;unfold eH;by_cases h0:p.e≠0
 ·rw [YA h0];generalize p.e=e at*;refine ak (N:=54) (l:=[.agg #[.int .i64 p.v,.slice p.A p.n p.c],.slice lA ls.length lc]) Tryz.func91 rfl rfl (by simp) ?_;refine sr ?_;refine cu hh [_,_] ?_;intro b2 w2 hh;refine bW hh ?_;intro b4 w4 hh;refine aI (aa (ai (sr ?_)));refine cC hh 1 [_,_] ?_;refine gB ?_;intro w12 hh;exact SS
 ·rw [YB h0];have hpe:p.e=0:=Yv;rw [hpe] at hck;by_cases h1:(ls.length:Int)≠p.v
  ·rw [YA h1];refine ak (N:=54) (l:=[.agg #[.int .i64 p.v,.slice p.A p.n p.c],.slice lA ls.length lc]) Tryz.func91 rfl rfl (by simp) ?_;refine sr ?_;refine cu hh [_,_] ?_;intro b2 w2 hh;refine bW hh ?_;intro b4 w4 hh;refine aI (aa (ai (sr ?_)));refine cC hh 1 [_,_] ?_;refine gB ?_;intro w12 hh;refine aI (aa (sr (mI ?_)));refine nt ?_;refine bG hh 1 ?_;refine db (aa (cT (sr ?_)));exact Sf
  ·rw [YB h1];obtain ⟨hfw,h4,hmy,hca⟩:=cB hpe;replace hfw:=eF.1 hfw;have hl12:ls.length≤12:=Yv;have hpl:=hp.ln;have hsr:=BD hpe;have hput:=fun (v:Int) (hv:iJ v=true) (hz:∀g∈ls,fj v g.ts=0) (hvv:∀g∈ls,g.v=v) w1 hT1 hb=>Fp lA lc K T c0 v ls hv hlc hl12 (fun g hg=>⟨⟨hz g hg,(hf.j8 g hg).ok,(hf.j8 g hg).sz⟩,hvv g hg,hf.j8 g hg,hf.Tm g hg⟩) hf.step hf.top ls 0 p.ts p.A p.n p.c ds k w1 rfl (YD _) hT1 (hL.ext hb) (fun g hg=>(hat g hg).ext hb) (hp.ext hb) lp.cap (by rw [show ((ls.length:Nat):Int)=p.v by omega];exact hsr) lp.ok Yv hf.len (fun i d h=>by rw [Y0];exact hf.Wu i d h) hf.grow;by_cases hn:ls=[]
   ·subst hn;rw [YB (fun h=>h.1 rfl)];have hpu:=hput 0 rfl (fun g hg=>by cases hg) (fun g hg=>by cases hg);refine ak (N:=54) (l:=[.agg #[.int .i64 p.v,.slice p.A p.n p.c],.slice lA 0 lc]) Tryz.func91 rfl rfl (by simp) ?_;refine sr ?_;refine cu hh [_,_] ?_;intro b2 w2 hh;refine bW hh ?_;intro b4 w4 hh;refine aI (aa (ai (sr ?_)));refine cC hh 1 [_,_] ?_;refine gB ?_;intro w12 hh;refine aI (aa (sr (mI ?_)));refine nt ?_;refine bG hh 1 ?_;refine wZ ?_;refine bW hh ?_;intro b7 w7 hh;refine bV hh 0 [_] ?_;intro ws hh;replace hh:Hp _ (.blk _ _ [_] _::_) _:=hh;refine aa (ai (sr (mL (aK ?_))));refine bT (aa (cF (au (aj (sr (bJ ?_))))));refine bG hh 2 ?_;refine mL ?_;refine bG hh 0 ?_;replace hh:=show Hp w (.blk b7 3 [.int .i64 0] (0,0)::_) _ from hh;exact QU
   ·have hlp0:0<ls.length:=List.length_pos_iff.2 hn;obtain ⟨lad,rfl,hlr⟩:=hL.at_ hlp0;refine ak (N:=54) (l:=[.agg #[.int .i64 p.v,.slice p.A p.n p.c],.slice (some lad) ls.length lc]) Tryz.func91 rfl rfl (by simp) ?_;refine sr ?_;refine cu hh [_,_] ?_;intro b2 w2 hh;refine bW hh ?_;intro b4 w4 hh;refine aI (aa (ai (sr ?_)));refine cC hh 1 [_,_] ?_;refine gB ?_;intro w12 hh;refine aI (aa (sr (mI ?_)));refine nt ?_;refine bG hh 1 ?_;refine wZ ?_;refine bW hh ?_;intro b7 w7 hh;refine bV hh 0 [_] ?_;intro ws hh;replace hh:Hp _ (.blk _ _ [_] _::_) _:=hh;refine aa (ai (sr (mL (aK ?_))));refine bT (aa (cT (ai (sr (mL (aK (mI (aa (av ?_)))))))));replace hh:=show Hp w (.blk b7 3 [.int .i64 0] (0,0)::_) _ from hh;refine aT [5,9,10,28,29,30,31,32,33,34,35,36,37,38] 28
     (fun v w'=>∃i:Nat,i≤ls.length∧v=.int .i64 i∧(ls.take i).any (fun g=>decide (g.e≠0))=false∧Hp w [.blk b7 3 [.int .i64 0] (0,0),.blk b4 24 [.int .i64 0,.slice none 0 0] (0,0),.blk b2 24 [.int .i64 p.v,.slice p.A p.n p.c] (0,0)] w')
     (fun v _=>ls.length-(intOf v).toNat) ?_ ?_
    ·exact ⟨0,YD _,rfl,rfl,hh⟩
    ·clear hh;rintro ρ' v w' ⟨i,hi,rfl,hall,hh⟩;by_cases hlt:i<ls.length
     ·obtain ⟨g,hx⟩:=ao (l:=ls) (k:=i) hlt;have hmem:=YF hx;have hc:=fun w1 hT1 hb=>pB g K w1 hT1 ((hat g hmem).ext hb) (hf.j8 g hmem);by_cases he:g.e=0
      ·refine sr ?_;refine eC ?_;refine cE ?_;refine cG (vs:=[_,_]) aU.out rfl ((hlr.ext hh.below).recAt PX.len hx) rfl Yw ?_;refine bW hh ?_;intro b9 w9 hh;refine bV hh 0 [_,_] ?_;intro ws hh;replace hh:Hp _ (.blk _ _ [_,_] _::_) _:=hh;refine aa (sr ?_);refine cC hh 0 [_,_] ?_;refine bA hh (hc _ (hT.hp hh) hh.below) rfl ?_;intro w33 hh;refine aI (aa (sr (mI ?_)));refine db (aa (cF (au (bM (aj (ar ?_))))));refine bm (mI (aE (aj ?_)));replace hh:=hh.sub (YI _ (YC _ (YC _ (YC _ Y5))));refine ⟨⟨i+1,Yv,rfl,by rw [aC hx,aaW,hall,aa4,aaR,Y3 Yv];rfl,hh⟩,by show ls.length-(i+1)<ls.length-i;omega, ?_⟩;exact dO
      ·have hlk:eE ls=g.e:=by unfold eE;rw [zD hall hx (YV he)]
       rw [YA ⟨Yv,by rw [hlk];exact he⟩,hlk];refine sr ?_;refine eC ?_;refine cE ?_;refine cG (vs:=[_,_]) aU.out rfl ((hlr.ext hh.below).recAt PX.len hx) rfl Yw ?_;refine bW hh ?_;intro b9 w9 hh;refine bV hh 0 [_,_] ?_;intro ws hh;replace hh:Hp _ (.blk _ _ [_,_] _::_) _:=hh;refine aa (sr ?_);refine cC hh 0 [_,_] ?_;refine bA hh (hc _ (hT.hp hh) hh.below) rfl ?_;intro w33 hh;refine aI (aa (sr (mI ?_)));refine db (aa (cT (sr ?_)));refine fH [_,_] (mI ?_);refine bV hh 2 [_,_] ?_;intro ws hh;replace hh:Hp _ (_::_::.blk _ _ [_,_] _::_) _:=hh;refine aI (aa (ay (cm (aN (aN (cm (aN (aN ?_))))))));refine oJ ?_;exact NS
     ·rw [YG Yv] at hall;have hlk:eE ls=if ls.length=0∨ug ls=true then 1 else 0:=by unfold eE;rw [iW hall]
      obtain ⟨g0,h00⟩:=ao (l:=ls) (k:=0) hlp0;have hhv:fI ls=g0.v:=by
       cases ls with
       |nil=>cases hlp0
       |cons x l=>cases h00;rfl
      have hall0:∀g∈ls,g.e=0:=fun g hg=>by
       have:=aaa.1 hall g hg;simpa using this
      refine sr ?_;refine qb ?_;refine D9 ?_;refine oL ?_;refine cv aU.out rfl (((hlr.ext hh.below).recAt PX.len h00).cell (i:=0) rfl) Yw ?_;refine bV hh 0 [_] ?_;intro ws hh;replace hh:Hp _ (.blk _ _ [_] _::_) _:=hh;refine aa (sr (mL ?_));refine yb ?_;replace hh:=show Hp w (.blk b7 3 [.int .i64 g0.v] (0,0)::_) _ from hh;rw [←hhv] at hh;have hcell:World.cell? _ ⟨b7,0,none⟩=some (.int .i64 (fI ls)):=hh.eT (i:=0) rfl rfl;have hoa:=fun w1 hb=>xn (some lad) ls.length lc ls 140 [.pointer (some ⟨b7,0,none⟩)] (fun g=>decide (g.v≠fI ls)) w1 (hL.ext (hh.below.trans (hb.mono hh.below.size))) Yv (fun z w2 hz hb2=>EN z ⟨b7,0,none⟩ (fI ls) w2 (cH hb2 (cH hb hcell)))
      cases hod:ug ls with
      |true=>
       have hod2:ls.any (fun g=>decide (g.v≠fI ls))=true:=hod;rw [hod2] at hoa;have hl1:eE ls=1:=by rw [hlk,YA (.inr hod)]
       rw [YA ⟨Yv,by rw [hl1];decide⟩,hl1];refine bA hh (hoa _ (Below.refl _ _)) rfl ?_;intro w45 hh;refine aa (cT (sr ?_));refine fH [_,_] ?_;refine bV hh 1 [_,_] ?_;intro ws hh;replace hh:Hp _ (_::.blk _ _ [_,_] _::_) _:=hh;refine aI (aa (ay (aN ?_)));refine yw ?_;exact MR
      |false=>
       have hod2:ls.any (fun g=>decide (g.v≠fI ls))=false:=hod;rw [hod2] at hoa;have hl0:eE ls=0:=by
        rw [hlk,YB (fun h=>h.elim (fun h=>by omega) fun h=>by rw [hod] at h;cases h)]
       rw [YB (fun h=>h.2 hl0)];have hvv:=(rn hl0).2.2;have hg0:=hall0 g0 (YF h00);unfold PX.e at hg0;have hpu:=hput (fI ls) (by rw [hhv];exact (cB hg0).1) (fun g hg=>by rw [←hvv g hg];exact hall0 g hg) hvv;refine bA hh (hoa _ (Below.refl _ _)) rfl ?_;intro w45 hh;refine zv ?_;refine bG hh 2 ?_;refine mL ?_;refine bG hh 0 ?_;exact QU
variable {j n:Nat}{l p:List TR}{xs:List Dyadic}
def cV (m:ByteArray):List Nat:=m.data.toList.map UInt8.toNat
theorem k9 (m:ByteArray):(cV m).length=m.size:=by rw [dP];exact YO _
theorem uY {a b:ByteArray} (h:cV a=cV b):a=b:=sW (List.map_inj_right (fun _ _=>abq.1)|>.1 h)
theorem mj (m:ByteArray):ints m.data.toList=cf (cV m):=by unfold ints cf cV;rw [Zy];rfl
theorem Le {a b:List Nat} (h:cf a=cf b):a=b:=(List.map_inj_right fun (x y:Nat) (e:(x:Int)=y)=>Int.ofNat.inj e).1 h
def kA (xs:List Dyadic) (l:List TR):Dyadic:=wS (fun m=>eU (cV m) xs) l
theorem vn (f:ByteArray→Dyadic) (l:List TR):wS f l=sm l fun t=>t.c.d*f t.m:=by
 induction l with
 |nil=>rfl
 |cons t l ih=>rw [wS,sm,ih]
theorem dZ (xs:List Dyadic) (l:List TR):kA xs (aF l)=kA xs l:=yZ _ _
theorem mX (xs:List Dyadic) (l k:List TR):kA xs (l++k)=kA xs l+kA xs k:=px _ _ _
theorem C7:∀(a b:List Nat) (xs:List Dyadic),a.length=b.length→eU (List.zipWith (· + ·) a b) xs=eU a xs*eU b xs
 |[],[],xs,_=>by show (1:Dyadic)=1*1;grind
 |[],_::_,_,h=>by cases h
 |_::_,[],_,h=>by cases h
 |x::a,y::b,[],_=>by show (1:Dyadic)=1*1;grind
 |x::a,y::b,t::xs,h=>by
  rw [List.zipWith_cons_cons,eU,eU,eU,C7 a b xs (by simpa using h),oZ];grind
theorem mG:∀(n:Nat) (xs:List Dyadic),eU (List.replicate n 0) xs=1
 |0,xs=>by cases xs<;>rfl
 |n+1,[]=>rfl
 |n+1,x::xs=>by
  rw [aax,eU,mG n xs,aaO];grind
theorem LS {a b:ByteArray} (h:ki a b=0):cV (mulM a b)=List.zipWith (· + ·) (cV a) (cV b)∧(cV a).length=(cV b).length:=by
 obtain ⟨_,_,h3,_,h5⟩:=oO h;refine ⟨Le ?_,by unfold cV;rw [YO,YO,h3]⟩;rw [←mj,mulM,dY,h5,mj,mj];unfold cf;rw [List.zipWith_map,List.map_zipWith];exact Zz (fun f=>List.zipWith f (cV a) (cV b)) (funext fun x=>funext fun y=>(aaw x y).symm)
theorem Dn {q:List TR} (h:∀e∈rC p q,e=0):kA xs (cg p q)=kA xs p*kA xs q:=by
 have hm:∀a∈p,∀b∈q,ki a.m b.m=0:=fun a ha b hb=>h _ (aai.2 ⟨a,ha,YR.2 ⟨b,hb,rfl⟩⟩);unfold kA;rw [BK,Dyadic.mul_comm,←Mu];refine Re fun a ha=> ?_;rw [Dyadic.mul_comm,←Mu];refine Re fun b hb=> ?_;obtain ⟨e1,e2⟩:=LS (hm a ha b hb);rw [e1,C7 _ _ _ e2]
theorem uw (j:Nat) (t:TR):ie j t=((cV t.m)[j]?).getD 0:=by
 unfold ie cV;rw [YN]
 cases t.m.data.toList[j]?<;>rfl
theorem NC (g:TR→Dyadic) (Q:Dyadic):sm p (fun t=>if n≤ie j t then g t*Q^(ie j t-n) else 0)=sm p (fun t=>if n+1≤ie j t then g t*Q^(ie j t-(n+1)) else 0)*Q+sm (ck p j n) g:=by
 have e1:sm (ck p j n) g=sm p fun t=>if ie j t=n then g t else 0:=by
  unfold ck;rw [←yi p (fun t=>decide (ie j t=n)) (fun t=>if ie j t=n then g t else 0) (fun t _ h=>YB (by simpa using h))];exact bY fun t ht=>(YA (by simpa using (ZP.1 ht).2)).symm
 rw [e1,←oI,←vu];refine bY fun t _=> ?_;by_cases h1:ie j t=n
 ·rw [YA Yv,YB Yv,YA h1,h1,Zu,aaO];grind
 ·rw [YB h1];by_cases h2:n+1≤ie j t
  ·rw [YA Yv,YA h2,show ie j t-n=(ie j t-(n+1))+1 by omega,abh];grind
  ·rw [YB Yv,YB h2];grind
theorem GF {xs:List Dyadic}{q p:List TR}{sub:List TR→Int×List TR}{j:Nat} (g:TR→Dyadic) (hp:∀t∈p,ie j t≤127) (hs:∀n,(sub (ck p j n)).1=0→kA xs (sub (ck p j n)).2=sm (ck p j n) g):
  ∀i,i≤128→(cI q sub p j i).1=0→kA xs (cI q sub p j i).2=sm p fun t=>if 128-i≤ie j t then g t*kA xs q^(ie j t-(128-i)) else 0
 |0,_,_=>(kp fun t ht=>YB (by have:=hp t ht;omega)).symm
 |i+1,hi,h0=>by
  have h1:(cI q sub p j i).1=0:=by
   refine aaF fun c=> ?_;rw [pf c (Nat.le_succ i)] at h0;exact c h0
  have ih:=GF g hp hs i Yv h1;have e1:=NC (p:=p) (j:=j) (n:=127-i) g (kA xs q);rw [show 128-(i+1)=127-i by omega,e1,show 127-i+1=128-i by omega,←ih];rw [mV] at h0 ⊢;unfold jD at h0 ⊢;rw [YB (fun h=>h h1)] at h0 ⊢;by_cases c1:(cI q sub p j i).2.length=0∧(ck p j (127-i)).length=0
  ·rw [YA c1,aaA.1 c1.1,aaA.1 c1.2];show (0:Dyadic)=0*_+0;grind
  ·rw [YB c1] at h0 ⊢;by_cases c2:ep (cI q sub p j i).2 q≠0
   ·rw [YA c2] at h0;exact absurd h0 c2
   ·rw [YB c2] at h0 ⊢;by_cases c3:(sub (ck p j (127-i))).1≠0
    ·rw [YA c3] at h0;exact absurd h0 c3
    ·rw [YB c3] at h0 ⊢;by_cases c4:gF (aF (cg (cI q sub p j i).2 q)++(sub (ck p j (127-i))).2)≠0
     ·rw [YA c4] at h0;exact absurd h0 c4
     ·rw [YB c4];show kA xs (aF _)=_;rw [dZ,mX,dZ,Dn (lM Yv).2.1,hs _ Yv]
theorem Pt (h:ux p) (he:∀a∈p,∀b∈p,a.m=b.m):p.length≤1:=by
 match p,h,he with
 |[],_,_=>exact YD _
 |[_],_,_=>exact YE _
 |a::b::p,h,he=>
  have h1:=(ZW.1 h).1 b YL;rw [he a YL b (YP _ YL),gW] at h1
  cases h1
theorem Im.one {v:Int} (h:Im v j p) (hj:v≤j):p.length≤1:=Pt h.sO fun a ha b hb=>sW (by
 have e:=h.pre a ha b hb;have l1:=h.size a ha;have l2:=h.size b hb;rwa [YG Yv,YG Yv] at e)
theorem yc (v:Int) (q:List TR) (qs:List (List TR)) (j:Nat) (p:List TR):gU v (q::qs) j p=cI q (gU v qs (j+1)) p j 128:=rfl
theorem S9 {v w:Int} (qs:List (List TR)):∀(j:Nat) (p:List TR),Im w j p→w=((j+qs.length:Nat):Int)→(gU v qs j p).1=0→kA xs (gU v qs j p).2=sm p fun t=>t.c.d*eU ((cV t.m).drop j) (qs.map (kA xs)):=by
 induction qs with
 |nil=>
  intro j p hs hw _;have h1:=hs.one (by rw [hw];exact Int.le_refl _);show kA xs (aF _)=_;rw [dZ];have hz:cV (du v)=List.replicate v.toNat 0:=by unfold cV du;simp
  match p,h1 with
  |[],_=>
   show (nR 0).d*_+0=0;rw [cj];grind
  |[t],_=>
   show t.c.d*eU (cV (du v)) xs+0=t.c.d*eU _ []+0;rw [hz,mG]
   cases (cV t.m).drop j<;>rfl
 |cons q qs ih=>
  intro j p hs hw h0;have hj:(j:Int)<w:=by rw [hw,YZ];omega
  have hx:∀t∈p,ie j t≤127:=fun t ht=>by
   obtain ⟨e,_,h2,h3⟩:=hs.get hj ht;omega
  rw [yc] at h0 ⊢;have hsub:=fun n hn=>ih (j+1) (ck p j n) (hs.with hj) (by rw [hw,YZ];omega) hn;generalize gU v qs (j+1)=sub at hsub h0 ⊢;have h1:=fun i hi hz=>GF (xs:=xs) (q:=q) (sub:=sub) (p:=p) (j:=j) (fun t=>t.c.d*eU ((cV t.m).drop (j+1)) (qs.map (kA xs))) hx hsub i hi hz;obtain ⟨m,hm⟩:∃m,m=128:=⟨_,rfl⟩;rw [←hm] at h0 ⊢;rw [h1 m Yv h0];refine bY fun t ht=> ?_;rw [YA Yv,show ie j t-(128-m)=ie j t by omega];obtain ⟨e,h2,h3,_⟩:=hs.get hj ht;have hd:(cV t.m).drop j=ie j t::(cV t.m).drop (j+1):=by
   refine gC ?_;rw [h3];unfold cV;rw [YN,h2]
   rfl
  rw [hd,Y1,eU];grind
theorem Tt {p:PX}{ls:List PX} (h:(eH p ls).1=0):kA xs (eH p ls).2=kA (ls.map fun g=>kA xs g.ts) p.ts:=by
 unfold eH at h ⊢;by_cases h1:p.e≠0
 ·rw [YA h1] at h;exact absurd h h1
 ·rw [YB h1] at h ⊢;by_cases h2:(ls.length:Int)≠p.v
  ·rw [YA h2] at h;exact absurd h Yw
  ·rw [YB h2] at h ⊢;by_cases h3:ls.length≠0∧eE ls≠0
   ·rw [YA h3] at h;exact absurd h h3.2
   ·rw [YB h3] at h ⊢;rw [S9 (w:=p.v) (ls.map PX.ts) 0 p.ts (BD (by unfold PX.e at h1;omega)) (by rw [YO,Y0];omega) h,Zy];unfold kA;rw [vn]
    rfl
theorem Ti {v:Nat}{k:List TR} (hl:Canon l) (hk:Canon k) (sl:∀t∈l,t.m.size=v) (sk:∀t∈k,t.m.size=v) (h:∀xs:List Dyadic,xs.length=v→kA xs l=kA xs k):l=k:=si hl hk fun m=>by
 have e1:=DY v (l.map (fun t=>(cV t.m,t.c.d))++k.map (fun t=>(cV t.m, -1*t.c.d))) (fun q hq=>by
  rcases Zb.1 hq with hq|hq
  ·obtain ⟨t,ht,rfl⟩:=YR.1 hq;rw [k9];exact sl t ht
  ·obtain ⟨t,ht,rfl⟩:=YR.1 hq;rw [k9];exact sk t ht) (fun xs hx=>by
  have e2:=h xs hx;unfold kA at e2;rw [vn,vn] at e2;rw [mb,kg,kg];show sm l (fun t=>t.c.d*eU (cV t.m) xs)+sm k (fun t=> -1*t.c.d*eU (cV t.m) xs)=0;rw [e2,←vu];exact kp fun t _=>by grind) (cV m)
 rw [mb,kg,kg] at e1;have e3:∀l:List TR,ic l m=sm l fun t=>if cV t.m=cV m then t.c.d else 0:=fun l=>by
  unfold ic;rw [vn];refine bY fun t _=> ?_;by_cases hm:t.m=m
  ·rw [YA hm,YA (by rw [hm])];grind
  ·rw [YB hm,YB fun e=>hm (uY e)];grind
 have e4:(sm k fun t=>if cV t.m=cV m then -1*t.c.d else 0)= -1*ic k m:=by
  rw [e3,←ld];refine bY fun t _=> ?_;by_cases hm:cV t.m=cV m
  ·rw [YA hm,YA hm]
  ·rw [YB hm,YB hm];grind
 have e5:ic l m+ -1*ic k m=0:=by
  rw [←e4,e3];exact e1
 grind
variable {X:List Dyadic}{ds:List Nat}{k:Nat}
def wK:Nat→List Nat→List Nat→List Nat→Dyadic
 |m+1,_::ds,a::s,r::rs=>(if a=r then 1 else 0)*wK m ds s rs
 |0,d::ds,a::s,r::rs=>fm d 1 1 a r*wK 0 ds s rs
 |_,_,_,_=>1
theorem GS:∀(j:Nat) (ds s rs:List Nat),j<ds.length→nx ds s→nx ds rs→sm (List.range (ds.getD j 0+1)) (fun i=>wK (j+1) ds s (rs.set j i)*fm (ds.getD j 0) 1 1 i (rs.getD j 0))=wK j ds s rs
 |_,[],_,_,h,_,_=>by cases h
 |_,_::_,[],_,_,h,_=>by cases h
 |_,_::_,_::_,[],_,_,h=>by cases h
 |0,d::ds,a::s,r::rs,_,h1,_=>by
  show sm (List.range (d+1)) (fun i=>(if a=i then 1 else 0)*wK 0 ds s rs*fm d 1 1 i r)=fm d 1 1 a r*wK 0 ds s rs;have e:sm (List.range (d+1)) (fun i=>(if a=i then 1 else 0)*wK 0 ds s rs*fm d 1 1 i r)=sm (List.range (d+1)) fun i=>if i=a then fm d 1 1 a r*wK 0 ds s rs else 0:=bY fun i _=>by
   by_cases h:a=i
   ·rw [YA h,YA h.symm,h];grind
   ·rw [YB h,YB (fun e=>h e.symm)];grind
  rw [e,rI,YA (by have:=h1.1;omega)]
 |j+1,d::ds,a::s,r::rs,hj,h1,h2=>by
  show sm (List.range (ds.getD j 0+1)) (fun i=>(if a=r then 1 else 0)*wK (j+1) ds s (rs.set j i)*fm (ds.getD j 0) 1 1 i (rs.getD j 0))=(if a=r then 1 else 0)*wK j ds s rs;rw [←GS j ds s rs (by simpa using hj) h1.2 h2.2,←ld];exact bY fun i _=>by grind
theorem LA:∀(ds s rs:List Nat),nx ds s→nx ds rs→wK ds.length ds s rs=if s=rs then 1 else 0
 |[],[],[],_,_=>by rw [YA rfl];rfl
 |[],_::_,_,h,_=>by cases h
 |[],[],_::_,_,h=>by cases h
 |_::_,[],_,h,_=>by cases h
 |_::_,_::_,[],_,h=>by cases h
 |d::ds,a::s,r::rs,h1,h2=>by
  show (if a=r then 1 else 0)*wK ds.length ds s rs=_;rw [LA ds s rs h1.2 h2.2];by_cases e1:a=r
  ·by_cases e2:s=rs
   ·rw [YA e1,YA e2,YA (by rw [e1,e2])];grind
   ·rw [YA e1,YB e2,YB fun e=>e2 (List.cons.inj e).2];grind
  ·rw [YB e1,YB fun e=>e1 (List.cons.inj e).1];grind
abbrev QL:=List (List Nat×Dyadic)
def X0 (ds:List Nat) (L:QL):List Dyadic:=pO (aA ds) (L.map fun q=>(iI ds q.1,q.2))
def rp (ds:List Nat) (L:QL):Nat→List Dyadic
 |0=>X0 ds L
 |k+1=>iq ds (ds.length-1-k) (fm (ds.getD (ds.length-1-k) 0) 1 1) (rp ds L k)
theorem td (ds:List Nat) (L:QL) (k:Nat):rp ds L (k+1)=iq ds (ds.length-1-k) (fm (ds.getD (ds.length-1-k) 0) 1 1) (rp ds L k):=rfl
theorem CG (ds:List Nat) (L:QL) (k:Nat):(rp ds L k).length=aA ds:=by
 cases k with
 |zero=>exact mf _ _
 |succ k=>rw [td,qi]
theorem Kk {ds:List Nat}{L:QL} (hL:∀q∈L,nx ds q.1):∀k,k≤ds.length→∀row,nx ds row→co ds (rp ds L k) row=sm L fun q=>q.2*wK (ds.length-k) ds q.1 row
 |0,_,row,hr=>by
  have hp:=oR hr;rw [GA hr];show ((X0 ds L)[iI ds row]?).getD 0=_;unfold X0;rw [pz _ hp,ZY,kg];refine bY fun q hq=> ?_;rw [Nat.sub_zero,LA ds q.1 row (hL q hq) hr];by_cases h:q.1=row
  ·rw [YA h,YA (by rw [h])];grind
  ·rw [YB h,YB fun e=>h (by rw [←jn (hL q hq),←jn hr];exact Zz (dy ds) e)];grind
 |k+1,hk,row,hr=>by
  obtain ⟨j,hj⟩:∃j,j=ds.length-1-k:=⟨_,rfl⟩;rw [td,←hj,y3 _ _ _ hr,show ds.length-(k+1)=j by omega];have e1:∀i,i<ds.getD j 0+1→co ds (rp ds L k) (row.set j i)=sm L fun q=>q.2*wK (j+1) ds q.1 (row.set j i):=fun i hi=>by
   rw [Kk hL k Yv (row.set j i) (Ig hr Yv),show ds.length-k=j+1 by omega]
  rw [bY fun i hi=>show co ds (rp ds L k) (row.set j i)*fm (ds.getD j 0) 1 1 i (row.getD j 0)=sm L fun q=>q.2*(wK (j+1) ds q.1 (row.set j i)*fm (ds.getD j 0) 1 1 i (row.getD j 0)) by
   rw [e1 i (ZA.1 hi),←oI];exact bY fun q _=>by grind,uB]
  refine bY fun q hq=> ?_;rw [←GS j ds q.1 row Yv (hL q hq) hr,←ld]
def Dw (ns:List Nat) (l:List TR):List Dyadic:=(List.range (aA ns.reverse)).map fun p=>wS (fun m=>wK 0 ns.reverse (cV m).reverse (dy ns.reverse p)) l
theorem PU (ns:List Nat) (l:List TR):(Dw ns l).length=aA ns:=by unfold Dw;rw [YO,aav,de]
def uj (l:List TR):QL:=l.map fun t=>((cV t.m).reverse,t.c.d)
theorem ML {ns:List Nat} (hl:∀t∈l,nx ns.reverse (cV t.m).reverse):rp ns.reverse (uj l) ns.length=Dw ns l:=by
 have hL:∀q∈uj l,nx ns.reverse q.1:=fun q hq=>by
  obtain ⟨t,ht,rfl⟩:=YR.1 hq;exact hl t ht
 refine Tv (ds:=ns.reverse) (CG _ _ _) (by rw [PU,de]) fun row hr=> ?_;have hp:=oR hr;rw [Kk hL ns.length (by rw [Zs];exact YE _) row hr,GA hr,show ns.reverse.length-ns.length=0 by rw [Zs,Zu]];unfold Dw uj;rw [YN,Zx hp,kg];show _=wS _ l;rw [vn,jn hr]
theorem uV:∀{ds rs:List Nat} (a:Nat),nx ds rs→rs.getD a 0≤ds.getD a 0
 |[],[],_,_=>by simp
 |[],_::_,_,h=>by cases h
 |_::_,[],_,h=>by cases h
 |_::_,_::_,0,h=>h.1
 |_::ds,_::rs,a+1,h=>uV (ds:=ds) (rs:=rs) a h.2
theorem Ji {a d:Nat} (hx:∀x∈X,Sz k x) (hd:ds.getD a 0=d) (hd7:d≤127):∀x∈iq ds a (fm d 1 1) X,Sz (k+520) x:=fun x h=>by
 obtain ⟨p,_,rfl⟩:=YR.1 h;have hr:(dy ds p).getD a 0≤d:=by rw [←hd];exact uV a (lO ds p)
 have h2:=Cr (l:=List.range (ds.getD a 0+1)) (f:=fun i=>co ds X ((dy ds p).set a i)*fm d 1 1 i ((dy ds p).getD a 0)) (k:=k+(130+2*(1*d))) fun i _=>by
  refine Sz.mul ?_ (Br Sz.one Sz.one hd7 hr);exact Ra
 rw [aav,hd] at h2;rw [hd];exact h2.mono Yv
theorem Dl {B:Nat} (h:∀d∈ds,d≤B) (a:Nat):ds.getD a 0≤B:=by
 rw [Zo]
 cases ha:ds[a]? with
 |none=>exact YD _
 |some d=>exact h d (YF ha)
theorem MT {ds:List Nat}{L:QL}{k:Nat} (h:∀x∈X0 ds L,Sz k x) (hd:∀d∈ds,d≤127):∀i,∀x∈rp ds L i,Sz (k+520*i) x
 |0=>h
 |i+1=>fun x hx=>(Ji (MT h hd i) rfl (Dl hd _) x hx).mono Yv
theorem VX (h:ja k l):∀x∈X0 ds (uj l),Sz (k+l.length) x:=fun x hx=>by
 have:=Oe (N:=aA ds) (L:=(uj l).map fun (q:List Nat×Dyadic)=>(iI ds q.1,q.2)) (k:=k) (fun a ha=>by
  obtain ⟨q,hq,rfl⟩:=YR.1 ha;obtain ⟨t,ht,rfl⟩:=YR.1 hq;exact (h t ht).2) x hx
 unfold uj at this;rwa [YO,YO] at this
def g9 (b:List SR):Int:=if b.any (fun s=> !decide (s.lo.d<s.hi.d)) then 5 else if b.length=0 then 1 else 0
theorem GK (x y:Dyadic):(0≤kf x y)↔¬x<y:=by
 rcases Vu x y with h|h|h
 ·rw [Fu h];exact ⟨fun h2=>by omega,fun h2=>absurd h h2⟩
 ·rw [h,Jd];exact ⟨fun _=>by grind,fun _=>by omega⟩
 ·rw [Gg h];exact ⟨fun _=>by grind,fun _=>by omega⟩
theorem qW (L:Option Addr) (n c:Nat) (b:List SR) (w:World) (hT:e8 w) (hS:Sl w L n 6 (aD SR.cells b)) (hb:∀s∈b,s.ok) (hn:n≤1000000):
  Calls Tryz.prog 80 #[.slice L n c] w fun r w'=>r=.returned (.int .i64 (g9 b))∧Below w.heap.size w w':=by
 have hh:=Hp.start w;have hln:=hS.bh SR.len Yw;refine ak (N:=21) (l:=[.slice L n c]) Tryz.func80 rfl rfl (by simp) ?_;refine CW ?_;refine aT [2,4,7,8,9,10,11,12,13,14,15,16,17] 7
  (fun v w'=>∃i:Nat,i≤n∧v=.int .i64 i∧(b.take i).any (fun s=> !decide (s.lo.d<s.hi.d))=false∧Hp w [] w')
  (fun v _=>n-(intOf v).toNat) ?_ ?_
 ·exact ⟨0,YD _,rfl,rfl,hh⟩
 ·clear hh;rintro ρ' v w' ⟨i,hi,rfl,hall,hh⟩;by_cases hlt:i<n
  ·obtain ⟨s,hs⟩:=ao (l:=b) (k:=i) Yv;have ms:=YF hs;obtain ⟨ad,rfl,hr⟩:=hS.at_ Yv;have hc:=fun w1 hT1=>qo s.lo s.hi w1 hT1 (hb s ms).1 (hb s ms).2;have e:=GK s.lo.d s.hi.d;generalize kf s.lo.d s.hi.d=cc at*;by_cases g:0≤cc
   ·refine sr ?_;refine eC ?_;refine cE ?_;refine Nr ?_;refine bW hh ?_;intro b4 w4 hh;refine bV hh 0 [_,_,_,_,_,_] ?_;intro ws hh;replace hh:Hp _ (.blk _ _ [_,_,_,_,_,_] _::_) _:=hh;refine aa (sr (bJ ?_));refine cC hh 0 [_,_,_] (bJ ?_);refine cC hh 0 [_,_,_] ?_;refine bA hh (hc _ (hT.hp hh)) rfl ?_;intro w15 hh;exact VU
   ·refine sr ?_;refine eC ?_;refine cE ?_;refine Nr ?_;refine bW hh ?_;intro b4 w4 hh;refine bV hh 0 [_,_,_,_,_,_] ?_;intro ws hh;replace hh:Hp _ (.blk _ _ [_,_,_,_,_,_] _::_) _:=hh;refine aa (sr (bJ ?_));refine cC hh 0 [_,_,_] (bJ ?_);refine cC hh 0 [_,_,_] ?_;refine bA hh (hc _ (hT.hp hh)) rfl ?_;intro w15 hh;refine ej (aa (cF (au (bM (aj (ar ?_))))));refine bm (mI (aE (aj ?_)));replace hh:=hh.sub (YI _ Y5);exact RG
  ·rw [YG Yv] at hall;by_cases h0:n=0
   ·refine sr ?_;refine a8 (aa (ai (cF (a6 (aH (aH (bB (aj (ai (sr (mL (aK ?_))))))))))));refine x6 ?_;refine dh ?_;exact ⟨by rw [g9,hall,YB (by simp),YA Yv],hh.below⟩
   ·refine sr ?_;refine a8 (aa (ai (cF (a6 (aH (aH (bB (aj (ai (sr (mL (aK ?_))))))))))));refine di (aa (cF (au (aj (sr (aI (aa (ay ?_))))))));refine dh ?_;exact ⟨by rw [g9,hall,YB (by simp),YB Yv],hh.below⟩
theorem tC (L:Option Addr) (n c:Nat) (b:List SR) (w:World) (hT:e8 w) (hS:Sl w L n 6 (aD SR.cells b)) (hb:∀s∈b,s.ok) (hn:n≤1000000):
  Calls Tryz.prog 82 #[.slice L n c] w fun r w'=>∃A c',r=.returned (.slice A n c')∧w'.ownsRow w.heap.size 70 6 (.slice A n c') n (aD SR.cells (b.map SR.f))∧Below w.heap.size w w':=by
 have hh:=Hp.start w;have hln:=hS.bh SR.len Yw;refine ak (N:=19) (l:=[.slice L n c]) Tryz.func82 rfl rfl (by simp) ?_;refine sr (aL (aa (sr (aL (aa (ai (sr (mL (aK (mI (aa (av ?_))))))))))));replace hh:=hh.cN 70 6;refine bC [3,5,8,9,10,11,12,13,14,15,16,17] 3 8
  (fun v3 v w'=>∃(i c3:Nat) (A:Option Addr),i≤n∧v=.int .i64 i∧v3=.slice A i c3∧Hp w [.row A i c3 70 6 (aD SR.cells ((b.take i).map SR.f))] w')
  (fun _ v _=>n-(intOf v).toNat) ?_ ?_
 ·exact ⟨0,0,none,YD _,rfl,rfl,hh⟩
 ·clear hh;rintro ρ' v3 v w' ⟨i,c3,A,hi,rfl,rfl,hh⟩;by_cases hlt:i<n
  ·obtain ⟨s,hs⟩:=ao (l:=b) (k:=i) Yv;have ms:=YF hs;obtain ⟨ad,rfl,hr⟩:=hS.at_ Yv;refine sr ?_;refine eC ?_;refine cE ?_;refine Nr ?_;refine bW hh ?_;intro b5 w5 hh;refine bV hh 0 [_,_,_,_,_,_] ?_;intro ws hh;replace hh:Hp _ (.blk _ _ [_,_,_,_,_,_] _::_) _:=hh;refine aa (ar (mL ?_));refine cC hh 0 [_,_,_,_,_,_] ?_;refine bA hh (AK s _ (hT.hp hh) (hb s ms)) rfl ?_;intro w14 hh;refine RI ?_;intro b15 w15 hh;refine Q0 ?_;intro A16 c16 w16 hh;simp only [YM,Zg] at hh;replace hh:=hh.sub (Zi _ _);refine mE ?_;refine bm (mI (aE (aj ?_)));replace hh:=hh.sub (YI _ (YC _ Y5));refine ⟨⟨i+1,c16,A16,Yv,rfl,rfl, ?_⟩,by show n-(i+1)<n-i;omega, ?_⟩
   ·rw [aC hs,Zq,bZ];exact hh
   ·exact dO
  ·obtain rfl:i=n:=Yv;rw [YG Yv] at hh;exact T5
def hasB (b:List SR) (p:List NR):Bool:=decide (b.length=p.length) && (b.zip p).all fun x=>x.1.has x.2.d
def Wm (a b:List SR):Bool:=decide (a.length=b.length) && (a.zip b).all fun x=>x.2.has x.1.lo.d && x.2.has x.1.hi.d
theorem G3 {o p:PX}{os ls:List PX} (hv:o.v=p.v) (ht:o.ts=p.ts) (h:os.map PX.norm=ls.map PX.norm):eH o os=eH p ls∧fI os=fI ls:=by
 have h1:eE os=eE ls:=by rw [←yf,h,yf]
 have h2:fI os=fI ls:=by rw [←wI,h,wI]
 have h3:os.length=ls.length:=by have:=Zz List.length h;rwa [YO,YO] at this
 have h4:os.map PX.ts=ls.map PX.ts:=by
  have:=Zz (List.map PX.ts) h;rw [Zy,Zy] at this;exact this
 refine ⟨?_,h2⟩;unfold eH PX.e;rw [hv,ht,h1,h2,h3,h4]
theorem iO {v:Int} (hv:iJ v=true) (hm:∀t∈l,eY v t=true) (ho:ja k l) (hz:∀t∈l,t.m.size≤100000) (hl:l.length≤n) (hn:n≤4096) (hk:k+n≤3999990):lr v (k+n) (aF l):=
 ⟨eO hv (Y2 (bK _) Yv) hm,vj ho Yv Yv,vK hz⟩
def kt (v i:Nat):List TR:=aF [⟨j3 v i,nR ((1:Int):Dyadic)⟩]
def fP (v:Nat) (x:Dyadic):List TR:=aF [⟨du v,nR x⟩]
def me (v i:Nat) (x:Dyadic):List TR:=aF ((kt v i).map (nP x))
def ka (v i:Nat) (s:SR):List TR:=aF (fP v s.L++me v i (s.H-s.L))
def cO (b:List SR):List PX:=b.mapIdx fun i s=>⟨b.length,none,0,0,ka b.length i s⟩
theorem eW {v:Nat} (h:v≤12):iJ (v:Int)=true:=eF.2 ⟨Yv,Yv⟩
theorem rG {v i:Nat} (h:v≤12):lr (v:Int) 3 (kt v i):=by
 have hs:((j3 v i).size:Int)=v:=sV Yv;refine iO (k:=2) (n:=1) (eW h) (fun t ht=> ?_) (fun t ht=> ?_) (fun t ht=> ?_) (YE _) Yw Yw
 ·rw [YT.1 ht];unfold eY;rw [YU,YY];exact ⟨Cd v i,hs⟩
 ·rw [YT.1 ht];exact ⟨Sz.one.ok Yw,by show Sz 2 (nR _).d;rw [cj];exact Sz.one.mono Yw⟩
 ·rw [YT.1 ht];show (j3 v i).size≤100000;omega
theorem lU {v:Nat}{x:Dyadic} (h:v≤12) (hx:Sz k x) (hk:k≤900000):lr (v:Int) (k+1) (fP v x):=ym (eW h) (by show Sz k (nR x).d;rw [cj];exact hx) hk
theorem uE {v i:Nat}{x:Dyadic} (h:v≤12) (hx:Sz k x) (hk:k≤400000):lr (v:Int) (k+k+4) (me v i x):=by
 have hv:=rG (i:=i) h;have hl:((kt v i).map (nP x)).length≤1:=by rw [YO];exact bK _
 refine (iO (k:=3+k) (n:=1) (eW h) (fun t ht=> ?_) (Am hv.ok hx Yv) (fun t ht=> ?_) hl Yw Yv).mono (by
  by_cases h0:k=0
  ·omega
  ·omega)
 ·obtain ⟨s,hs,rfl⟩:=YR.1 ht;exact (cB hv.e).2.2.1 s hs
 ·obtain ⟨s,hs,rfl⟩:=YR.1 ht;exact hv.sz s hs
theorem sE {v i:Nat}{s:SR} (h:v≤12) (hs:s.fin k) (hk:k≤100000):lr (v:Int) (k+k+10) (ka v i s)∧(ka v i s).length≤2:=by
 have h1:=lU h (SR.Oy hs) Yv;have h2:=uE (i:=i) h ((SR.Sx hs).sub (SR.Oy hs)) Yv;have hl:(fP v s.L++me v i (s.H-s.L)).length≤2:=by
  rw [YK];have a1:(fP v s.L).length≤1:=bK _;have a2:(me v i (s.H-s.L)).length≤1:=Y2 (bK _) (by rw [YO];exact bK _);omega
 have hm:∀{P:TR→Prop},(∀t∈fP v s.L,P t)→(∀t∈me v i (s.H-s.L),P t)→∀t∈fP v s.L++me v i (s.H-s.L),P t:=fun a b t ht=>(Zb.1 ht).elim (a t) (b t);refine ⟨(iO (k:=k+1+(k+1)+4) (n:=2) (eW h) (hm (cB h1.e).2.2.1 (cB h2.e).2.2.1) (hm (h1.ok.mono Yv) h2.ok) (hm h1.sz h2.sz) hl Yw Yv).mono Yv,Y2 (bK _) hl⟩
theorem kL {b:List SR}{i:Nat}{s:SR} (h:b[i]?=some s):(cO b)[i]?=some ⟨b.length,none,0,0,ka b.length i s⟩:=by
 unfold cO;rw [abd,h]
 rfl
theorem qz (b:List SR):(cO b).length=b.length:=by unfold cO;rw [List.length_mapIdx]
theorem EY {b:List SR}{g:PX} (h:g∈cO b):∃i s,b[i]?=some s∧g=⟨b.length,none,0,0,ka b.length i s⟩:=by
 obtain ⟨i,hi⟩:=aaj.1 h;obtain ⟨s,hs⟩:=ao (l:=b) (k:=i) (by have:=(YQ.1 hi).1;rwa [qz] at this);rw [kL hs] at hi;exact ⟨i,s,hs,(Zl hi).symm⟩
theorem M8 {i:Nat} (h:n≤12) (hi:i<n):kS n i=0:=YB (by rw [eW h];rintro (a|a|a)<;>first|cases a|omega)
theorem BZ (h:n≤12):pQ n=0:=YB (by rw [eW h];decide)
theorem A0 (p:PX) (L:Option Addr) (n c:Nat) (b:List SR) (k:Nat) (ds:List Nat) (w:World) (hT:e8 w) (hp:p.at_ w) (lp:p.j8 k) (hB:Sl w L n 6 (aD SR.cells b)) (hb:∀s∈b,s.fin k) (hv:p.v=n) (hn0:0<n) (hn:n≤12) (hk:k≤1000)
  (hds:ds.length=n) (hex:∀(i d:Nat),ds[i]?=some d→d≤127∧∀t∈p.ts,ie i t≤d) (hgr:gQ (k+k+16394) ds (k+1)≤440000):
  Calls Tryz.prog 44 #[.agg #[.int .i64 p.v,.slice p.A p.n p.c],.slice L n c] w fun r w'=>∃g:PX,dW (eH p (cO b)).1 n (eH p (cO b)).2 g∧r=.returned (.tuple #[.agg #[.int .i64 g.v,.slice g.A g.n g.c],.int .i64 (eH p (cO b)).1])∧Hp w [g.row] w':=by
 have hh:=Hp.start w;have hbl:b.length=n:=hB.bh SR.len Yw;have hok:∀s∈b,s.ok:=fun s hs=>⟨(hb s hs).1.ok,(hb s hs).2.ok⟩;have hfo:=fun w1 hT1 hb1=>tC L n c b w1 hT1 (hB.ext hb1) hok Yv;have hhv:fI (cO b)=n:=by
  obtain ⟨s,hs⟩:=ao (l:=b) (k:=0) Yv;rw [jV (kL hs),hbl]
 refine ak (N:=67) (l:=[.agg #[.int .i64 p.v,.slice p.A p.n p.c],.slice L n c]) Tryz.func44 rfl rfl (by simp) ?_;refine sr ?_;refine cu hh [_,_] ?_;intro b2 w2 hh;refine bW hh ?_;intro b4 w4 hh;refine aI (aa (sr (aL (aa (ai (sr (mL ?_)))))));refine aJ (hfo _ (hT.hp hh) hh.below) aw.out rfl Yw ?_;rintro e_ w18 ⟨A18,c18,rfl,hown_,hb_⟩;refine ⟨_,rfl, ?_⟩;replace hh:=hh.aY (x:=.row _ _ _ _ _ _) hb_ hown_;refine aK (mI (aa (av ?_)));replace hh:=hh.cN 24 2;refine bC [6,7,8,9,10,11,12,13,14,15,16,20,21,22,23,24,25,26,27,28,29,30,31,32,33,34,35,36,37,38,39,40,41,42,43,44,45,46,47,48,49,50,51,52,53,54,55,56,57,58,59,60,61] 6 20
  (fun a v w'=>∃(i c3:Nat) (A:Option Addr) (os:List PX) (R:List HE),i≤n∧v=.int .i64 i∧a=.slice A i c3∧os.length=i∧BV ((cO b).map fun g=>⟨g.v,none,g.ts.length,0,g.ts⟩) os R∧Hp w (.row A i c3 24 2 (aD PX.cells os)::.row A18 n c18 70 6 (aD SR.cells (b.map SR.f))::.blk b4 24 [.int .i64 0,.slice none 0 0] (0,0)::.blk b2 24 [.int .i64 p.v,.slice p.A p.n p.c] (0,0)::R) w')
  (fun _ v _=>n-(intOf v).toNat) ?_ ?_
 ·exact Rs
 ·clear hh;rintro ρ' a_ v w' ⟨i,c3,A,os,R,hi,rfl,rfl,hol,hcp,hh⟩;by_cases hlt:i<n
  ·obtain ⟨s,hs⟩:=ao (l:=b) (k:=i) Yv;have hsf:=hb s (YF hs);have hsn:(b.map SR.f)[i]?=some s.f:=by rw [YN,hs];rfl
   have zL:=SR.Oy hsf;have zH:=SR.Sx hsf;have zW:=zH.sub zL;obtain ⟨po,pl⟩:=sE (v:=n) (i:=i) hn hsf Yv;have vo:=rG (i:=i) hn;have fo:=uE (i:=i) hn zW Yv;have co:=lU hn zL Yv;have hva:=fun w1 hT1=>uR (n:Int) (i:Int) w1 hT1;rw [M8 hn hlt] at hva;have hsu:=fun w1 hT1=>na (nR s.H) (nR s.L) w1 hT1 (zH.ok Yv) (zL.ok Yv) k (by rw [cj];exact zH) (by rw [cj];exact zL) Yv;rw [cj,cj] at hsu;have hcn:=fun w1 hT1=>ku (n:Int) (nR s.L) k w1 hT1 ⟨zL.ok Yv,by rw [cj];exact zL⟩ Yv;rw [BZ hn] at hcn;rw [ZL] at hva;have hV:aF [⟨j3 n i,nR ((1:Int):Dyadic)⟩]=kt n i:=rfl;have hC:aF [⟨du n,nR s.L⟩]=fP n s.L:=rfl;have hF:aF ((kt n i).map (nP (s.H-s.L)))=me n i (s.H-s.L):=rfl;have hP:aF (fP n s.L++me n i (s.H-s.L))=ka n i s:=rfl;have tl1:(kt n i).length≤1:=bK _;have ul1:(fP n s.L).length≤1:=bK _;have fl1:(me n i (s.H-s.L)).length≤1:=Y2 (bK _) (by rw [YO];exact bK _);have hps:=kL hs;rw [hbl] at hps;rw [hV] at hva;rw [hC] at hcn;clear hV hC;generalize kt n i=VL at*;generalize fP n s.L=CL at*;generalize me n i (s.H-s.L)=FL at*;generalize ka n i s=PL at*
   obtain ⟨gf,rfl⟩:=hh.cK (i:=1) rfl Yv;refine sr ?_;refine e9 ?_;refine gD ?_;refine cG (vs:=[_,_,_,_,_,_]) aU.out rfl (hh.iu (f:=SR.cells) (x:=s.f) (l:=b.map SR.f) (i:=1) rfl SR.len Yw hsn) rfl Yw ?_;refine bW hh ?_;intro b8 w8 hh;refine aI ?_;refine bV hh 0 [_,_,_,_,_,_] ?_;intro ws hh;replace hh:Hp _ (.blk _ _ [_,_,_,_,_,_] _::_) _:=hh;refine aa (sr (mL (aK (mI ?_))));replace hh:=show Hp w (.blk b8 70 [.bool (nR s.L).neg,.string (nR s.L).bj,.int .i64 (nR s.L).e,.bool (nR s.H).neg,.string (nR s.H).bj,.int .i64 (nR s.H).e] (0,0)::_) _ from hh;refine aJ (hva _ (hT.hp hh)) aw.out rfl Yw ?_;rintro e_ w29 ⟨t,ot,rfl,h4⟩;refine ⟨_,rfl, ?_⟩;have htc:t.n≤t.c:=h4.dJ (i:=0) rfl;replace hh:=hh.join h4;clear h4;simp only [YJ,YH] at hh;obtain ⟨tv,tA,tn,tc,tt⟩:=t;replace hh:=show Hp w (.row tA tn tc 80 4 (aD TR.cells tt)::_) _ from hh;have et:VL=tt:=ot.t0.symm;have ev_:tv=(n:Int):=ot.v0;subst et ev_;have tln:VL.length=tn:=(hh.aG (i:=0) rfl).bh TR.len Yw
   have hsc:=fun w1 hT1 ha=>zU ⟨n,tA,tn,tc,VL⟩ (nR (s.H-s.L)) (k+3) w1 hT1 ha ⟨by show tn≤1000000;omega,htc,vo.ok.mono Yv,vo.sz⟩ ⟨zW.ok Yv,by rw [cj];exact zW.mono Yv⟩ Yv;have hse:wz ⟨n,tA,tn,tc,VL⟩ (s.H-s.L)=0:=by
    unfold wz PX.e;rw [vo.e,YA rfl];exact fB (by rw [YO];show VL.length≤4096;omega)
   rw [cj,hse] at hsc;dsimp only at hsc;rw [hF] at hsc;refine mT ?_;refine dx ?_;refine dx ?_;refine bW hh ?_;intro b9 w9 hh;refine bV hh 0 [_,_] ?_;intro ws hh;replace hh:Hp _ (.blk _ _ [_,_] _::_) _:=hh;refine aI (aa (ai ?_));refine cP [10] [9] [0,0,2,0,8,30,63,127,255,255,0,1535,4095] 11 [[(9,none)],[(8,none)],[(34,some 1)],[(8,none)],[(36,some 3)],[(35,some 2),(37,some 4)],[(33,some 0),(38,some 5)],[(39,some 6)],[(32,some 7)],[(32,some 7)],[]] [(10,11),(9,41),(8,40),(7,32),(6,39),(5,38),(4,37),(3,36),(2,35),(1,34),(0,33)] hh mixed Yx (jL rfl aU.out dr) rfl (by repeat (first|exact cz|refine bU ?_|refine cw ?_)) ?_;refine ef 0 [_,_] ?_;refine cX ?_;refine ef 2 [_,_,_] ?_;refine cX ?_;refine ef 2 [_,_,_] ?_;refine dC (fun _ hj=>hsu _ (hT.hp hj.hp)) ?_;refine aO (i:=6) (eV hh.sz 0 n FL) (eV.ext) ?_ ?_
   ·intro ρ1 w1 hj hR;exact bk rfl (aV aw.out (az (show ρ1 33=Value.agg (List.toArray _) from hR.1) (az (show ρ1 38=Value.agg (List.toArray _) from hR.2.1) bf))) (hsc w1 (hT.hp hj.hp) (hj.hp.aG (i:=1) rfl)) (fun _ _ ⟨g,og,hq,h3⟩=>⟨_,hq,h3.below,g,w1,rfl,og,hj.bl.size,h3⟩)
   refine aO (i:=7) (eV hh.sz 0 n FL) (eV.ext) ?_ ?_
   ·exact F0
   refine aO (i:=8) (fR hh.sz 0 n FL) (fR.ext) ?_ ?_
   ·exact EJ
   refine aO (i:=9) (Is (.int .i64 0)) (Is.ext) ?_ ?_
   ·exact EO
   refine aO (i:=10) (cS _ 24 _) cS.ext (fun ρ1 w1 hj hR=>gP aU.out hj.bl (fun v w2 h hb=>⟨hb,h⟩)) ?_;refine aM ?_;intro f W hJ hV _;have hb_6:=hJ.bl;obtain ⟨v11,v41,v40,v32,v39,v38,v37,v36,v35,v34,v33,_⟩:=hV;obtain ⟨g39,u39,e39, -⟩:=v39;obtain ⟨g32,u32,e32, -⟩:=v32;obtain ⟨g40,u40,e40,o40,q40,h40⟩:=v40;obtain ⟨b11,e11,hl11,hc11⟩:cS _ _ _ (f 10) W:=v11;replace hh:=hJ.jH hh hl11 hc11 q40 h40 (PX.ne h40 hc11 Yw);refine aQ (bg (ae e11 (ae v41 (ae e40 (ae e32 (ae e39 (ae v38 (ae v37 (ae v36 (ae v35 (ae v34 (ae v33 aR)))))))))))) ?_;dsimp only [bO];clear e39 e32 e40 e11 hJ;simp only [YJ,YH] at hh;obtain ⟨fv,fA,fn,fc,ft⟩:=g40;replace hh:=show Hp w (_::.row fA fn fc 80 4 (aD TR.cells ft)::_) W from hh;have et:FL=ft:=o40.t0.symm;have ev_:fv=(n:Int):=o40.v0;subst et ev_;have fln:FL.length=fn:=(hh.aG (i:=1) rfl).bh TR.len Yw;have fcc:fn≤fc:=hh.dJ (i:=1) rfl;refine bV hh 0 [_,_] ?_;intro ws hh;replace hh:Hp _ (.blk _ _ [_,_] _::_) _:=hh;refine aI (aa (sr (mL (aK (bJ ?_)))));refine cC hh 4 [_,_,_] ?_;refine aJ (hcn _ (hT.hp hh)) aw.out rfl Yw ?_
   rintro e_ w47 ⟨u,ou,rfl,h4⟩;refine ⟨_,rfl, ?_⟩;have huc:u.n≤u.c:=h4.dJ (i:=0) rfl;replace hh:=hh.join h4;clear h4;simp only [YJ,YH] at hh;obtain ⟨uv,uA,un,uc,ut⟩:=u;replace hh:=show Hp w (.row uA un uc 80 4 (aD TR.cells ut)::_) _ from hh;have et:CL=ut:=ou.t0.symm;have ev_:uv=(n:Int):=ou.v0;subst et ev_;have uln:CL.length=un:=(hh.aG (i:=0) rfl).bh TR.len Yw;refine mT ?_;refine dx ?_;refine dx ?_;refine bW hh ?_;intro b13 w13 hh;refine bV hh 0 [_,_] ?_;intro ws hh;replace hh:Hp _ (.blk _ _ [_,_] _::_) _:=hh;refine aI (aa (sr ?_));refine cC hh 0 [_,_] ?_;refine cC hh 2 [_,_] ?_;refine vg ?_;intro b53 w53 hh;have hlp:eE [⟨n,uA,un,uc,CL⟩,⟨n,fA,fn,fc,FL⟩]=0:=kX co.e fo.e rfl;have had:=fun A3 w1 hT1 hS1 s1 s2=>qI A3 2 2 [⟨n,uA,un,uc,CL⟩,⟨n,fA,fn,fc,FL⟩] (k+k+10) w1 hT1 hS1 Yw (fun g hg=>by
    rcases YS.1 hg with rfl|hg
    ·exact s1
    ·rw [YT.1 hg];exact s2) (fun g hg=>by
    rcases YS.1 hg with rfl|hg
    ·exact ⟨by show un≤1000000;omega,huc,co.ok.mono Yv,co.sz⟩
    ·rw [YT.1 hg];exact ⟨by show fn≤1000000;omega,fcc,fo.ok.mono Yv,fo.sz⟩) Yv
   unfold ud at had;rw [YA hlp,yN] at had;dsimp only at had;rw [hP] at had;rw [fB (l:=CL++FL) (by rw [YK];omega)] at had;refine aJ (had _ _ (hT.hp hh) (hh.aG (i:=0) rfl) (hh.aG (i:=2) rfl) (hh.aG (i:=4) rfl)) aw.out rfl Yw ?_;rintro e_ w54 ⟨z,oz,rfl,h4⟩;refine ⟨_,rfl, ?_⟩;have hzc:z.n≤z.c:=h4.dJ (i:=0) rfl;replace hh:=hh.join h4;clear h4;simp only [YJ,YH] at hh;replace hh:=show Hp w (.row z.A z.n z.c 80 4 (aD TR.cells z.ts)::_) _ from hh;have zln:z.ts.length=z.n:=(hh.aG (i:=0) rfl).bh TR.len Yw;refine mT ?_;refine dx ?_;refine dx ?_;refine bW hh ?_;intro b15 w15 hh;refine bV hh 0 [_,_] ?_;intro ws hh;replace hh:Hp _ (.blk _ _ [_,_] _::_) _:=hh;refine aI (aa (ar (mL ?_)));refine cC hh 0 [_,_] ?_;refine cQ hh (cs:=[_,_]) bo.out aU.out (aX (gy rfl) cx) rfl rfl Yw Yw Yw rfl Yw ?_;intro b59 w59 hh;refine cd hh (i:=11) rfl rfl rfl (hh.aG (i:=0) rfl) bo.out aU.out rfl Yw (by first|rfl|exact dv _|exact cR _|exact br _|exact bD NR.one _) Yv Yv Yw ?_;intro A60 c60 w60 hh;simp only [YM,Zg] at hh;replace hh:=hh.sub (Zi _ _)
   refine mE ?_;refine bm (mI (aE (aj ?_)));replace hh:=hh.sub (YI _ (YC _ (YI _ (YI _ (YI _ (YI _ (YI _ (YI _ (YI _ (YI _ (YC _ (YC _ (YC _ (YC _ (ZK _)))))))))))))));replace hh:=hh.perm (Zh (l₁:=[_,_,_,_]));simp only [YJ,YH] at hh;replace hh:=hh.perm (Zh (l₁:=[_,_,_,_]));simp only [YJ,YH] at hh;replace hh:=hh.perm (Zh (l₁:=[_,_,_,_]));simp only [YJ,YH] at hh;replace hh:=hh.perm (Zh (l₁:=[_,_,_,_]));simp only [YJ,YH] at hh;have hcp2:=hcp.add (g:=⟨n,none,PL.length,0,PL⟩) (o:=z) (by rw [hol,YN,hps];rfl) ⟨oz.v0,oz.t0,by rw [←zln,oz.t0]⟩ hzc;refine ⟨⟨i+1,c60,A60,os++[z],z.row::R,Yv,rfl,rfl,by rw [YK,hol];rfl,hcp2,by rw [bZ,iB];exact hh⟩,by show n-(i+1)<n-i;omega, ?_⟩
   exact dO
  ·obtain rfl:i=n:=Yv;have hol2:os.length=((cO b).map fun g=>(⟨g.v,none,g.ts.length,0,g.ts⟩:PX)).length:=by rw [YO,qz];omega
   have hkey:=hcp.key hol2;rw [Zy] at hkey;replace hkey:os.map PX.norm=(cO b).map PX.norm:=hkey;obtain ⟨ks,kh⟩:=G3 (o:=p) (p:=p) rfl rfl hkey;have hall:∀o∈os,o.j8 (k+k+10)∧o.ts.length≤2:=fun o ho=>by
    obtain ⟨j,hj⟩:=aaj.1 ho;have hjn:j<os.length:=(YQ.1 hj).1;obtain ⟨s,hs⟩:=ao (l:=b) (k:=j) Yv;obtain ⟨e1,e2,e3⟩:=hcp.eq j ⟨b.length,none,(ka b.length j s).length,0,ka b.length j s⟩ o (by rw [YN,kL hs];rfl) hj;obtain ⟨po,pl⟩:=sE (v:=b.length) (i:=j) Yv (hb s (YF hs)) Yv;replace e2:o.ts=ka b.length j s:=e2;replace e3:o.n=(ka b.length j s).length:=e3;exact Q4
   have hfit:Wq p os k (k+k+10) 2 (k+k+16394) ds:=⟨Yv,hex,hgr,Yv,Yv,fun g hg=>(hall g hg).1,fun g hg=>(hall g hg).2⟩;have hsu:=fun w1 hT1 ha hs hm hc=>r9 p A c3 os k (k+k+10) 2 (k+k+16394) ds w1 hT1 ha lp hs hm hc hfit;rw [ks,kh,hhv,hol] at hsu;generalize (eH p (cO b)).1=E at*;generalize (eH p (cO b)).2=S at*;refine sr ?_;refine oa ?_;refine cC hh 3 [_,_] (mL ?_);refine aJ (hsu _ (hT.hp hh) (hp.ext hh.below) (hh.aG (i:=0) rfl) (fun z hz=>Hh hh (YP _ (YP _ (YP _ (YP _ (hcp.my z hz).1))))) (hh.dJ (i:=0) rfl)) aw.out rfl Yw ?_;rintro e_ w64 ⟨g,og,rfl,h4⟩;refine ⟨_,rfl, ?_⟩;replace hh:=hh.join h4;clear h4;simp only [YJ,YH] at hh;refine dx ?_;refine dx ?_;refine bV hh 3 [_,_] ?_;intro ws hh;replace hh:Hp _ (_::_::_::.blk _ _ [_,_] _::_) _:=hh;refine aI (aa (ay ?_));refine C3 ?_;exact GQ
variable {c c':Nat}{ls:List Int}
theorem Dr {H:List HE}{L D:Option Addr}{ds:List Int} (w:World) (hh:Hp w0 (.row L n c 3 1 (bQ ls)::H) w) (hD:Sl w0 D n 1 (bQ ds)) (hn:n≤100000)
  (hl:ls.all cJ=true) (hd:ds.all cJ=true) (hll:ls.length=n):
  Calls Tryz.prog 133 #[.slice L n c,.slice D n c'] w fun e w'=>
   match sG ds ls with
   |some l'=>e=.returned (.bool true)∧Hp w0 (.row L n c 3 1 (bQ l')::H) w'
   |none=>e=.returned (.bool false)∧Hp w0 (.row L n c 3 1 (bQ (gY n))::H) w':=by
 have hdl:ds.length=n:=by have:=hD.1;rw [cD] at this;omega
 refine ak (N:=31) (l:=[.slice L n c,.slice D n c']) Tryz.func133 rfl rfl (by simp) ?_;refine u9 ?_;refine eP (aI (aa (av ?_)));refine aT [4,5,9,10,11,12,13,14,15,16,17,18,19,20,21,22,23,24,25,26,27,28,29,30] 5
  (fun i w'=>∃(k:Nat) (z:Int),k≤n∧i=.int .i64 z∧z=(k:Int)-1∧sG (ds.drop k) (ls.drop k)=none∧Hp w0 (.row L n c 3 1 (bQ (pP ls k n))::H) w')
  (fun i _=>(intOf i+1).toNat) ?_ ?_
 ·exact ⟨n,_,YE _,rfl,rfl,by rw [ZZ Yv];rfl,by rw [LY hll];exact hh⟩
 ·clear hh;rintro ρ' i w' ⟨k,z,hk,rfl,hz,hnx,hh⟩
  cases k with
  |zero=>
   refine ai (sr (mI ?_));refine ej (aa (cF (a6 (aH (aH (bB (aj (sr (aB (aa (ay ?_)))))))))));refine dh ?_;rw [abt,abt] at hnx;rw [hnx];exact ⟨rfl,by simpa [pP] using hh⟩
  |succ k=>
   obtain rfl:z=(k:Int):=Yv;obtain ⟨x,hx⟩:=ao (l:=ls) (k:=k) Yv;obtain ⟨d,hdk⟩:=ao (l:=ds) (k:=k) Yv;have bx:=D4 hl hx;have bd:=D4 hd hdk;have hx2:=cL (S5 (n:=n) hx);have hol:=Pn hll hk;have hol2:=cD (pP ls (k+1) n);obtain ⟨g,rfl⟩:=hh.cK (i:=0) rfl Yv;have hD':=hD.ext hh.below;obtain ⟨ad,rfl,hr⟩:=hD'.at_ Yv;by_cases hlt:x<d
   ·refine ai (sr (mI ?_));refine ej (aa (cT (au (aj (ai (av (ai (ai ?_))))))));refine RT ?_;refine eQ ?_;refine cZ ?_;refine Rg ?_;refine QM ?_;refine eQ ?_;refine cZ ?_;refine QG ?_;refine pK (fun _ hj=>gL (hr.ext hj.bl) (cL hdk) rfl) ?_;refine aM ?_;intro f W hJ hV;have hb_4:=hJ.bl;obtain ⟨v20,v19,v18,v17,v16,v15,v14,v13,_⟩:=hV;replace hh:=hJ.hp;refine RF ?_;dsimp only [bO];clear hJ;refine a8 (aa (cT (sr (mL (mI ?_)))));refine rz ?_;refine jY ?_;refine bm ?_;refine rz ?_;refine cA hh (i:=0) (vs:=[_]) rfl rfl (dk rfl) rfl aU.out rfl Yv rfl ?_;intro ws hh;simp only [YM] at hh;refine aa (sr (aB (aa (ay (aN (cm (aN (aN (cm (aN ?_))))))))));refine dh ?_;rw [YX,IF _ hll Yv] at hh;rw [KE hdl hll hdk hx hnx hlt];exact ⟨rfl,hh⟩
   ·refine ai (sr (mI ?_));refine ej (aa (cT (au (aj (ai (av (ai (ai ?_))))))));refine RT ?_;refine eQ ?_;refine cZ ?_;refine Rg ?_;refine QM ?_;refine eQ ?_;refine cZ ?_;refine QG ?_;refine pK (fun _ hj=>gL (hr.ext hj.bl) (cL hdk) rfl) ?_;refine aM ?_;intro f W hJ hV;have hb_4:=hJ.bl;obtain ⟨v20,v19,v18,v17,v16,v15,v14,v13,_⟩:=hV;replace hh:=hJ.hp;refine RF ?_;dsimp only [bO];clear hJ;refine a8 (aa (cF (au (aj (ar (mL (mI ?_)))))));refine rz ?_;refine cA hh (i:=0) (vs:=[_]) rfl rfl (dk rfl) rfl aU.out rfl Yv rfl ?_;intro ws hh;simp only [YM] at hh;refine p9 ?_;refine eP (aI (aE (aj ?_)));rw [YX,IF _ hll Yv,Nz Yv] at hh;refine ⟨⟨k,_,Yv,rfl,rfl,KW hdk hx hnx hlt,hh⟩,by show ((k:Int)-1+1).toNat<((k:Int)+1).toNat;omega, ?_⟩;exact dO
theorem MC (n:Nat):gu n [Value.int .i64 0]=bQ (gY n):=by rw [xp];simp [bQ,gY]
theorem yW (l:List ByteArray) (x:ByteArray):iw l++[.string x]=iw (l++[x]):=by simp [iw]
theorem Jc (D:Option Addr) (n c:Nat) (ds:List Int) (w:World) (hD:Sl w D n 1 (bQ ds)) (hn:n≤100000):
  Calls Tryz.prog 87 #[.slice D n c] w fun e w'=>∃A c,e=.returned (.slice A (nA ds).length c)∧w'.ownsRow w.heap.size 9 1 (.slice A (nA ds).length c) (nA ds).length (iw (nA ds))∧Below w.heap.size w w':=by
 have hdl:ds.length=n:=by have:=hD.1;rw [cD] at this;omega
 have hh:=Hp.start w;refine ak (N:=52) (l:=[.slice D n c]) Tryz.func87 rfl rfl (by simp) ?_;refine sr (aL (aa (sr (aI (aa (ai (sr (mL (aK (mI (aa (av ?_))))))))))));refine bC [2,3,5,13,14,15,16,17,18,19,20,21,22,23,24,25,26,27,28,29,30,31,32,33,34] 3 13
  (fun p i w'=>∃(k:Nat),k≤n∧i=.int .i64 k∧p=.int .i64 (dI (ds.take k)).length∧(dI (ds.take k)).length≤65536∧tJ 1 ds=tJ (dI (ds.take k)).length (ds.drop k)∧w=w')
  (fun _ i _=>n-(intOf i).toNat) ?_ ?_
 ·exact ⟨0,YD _,rfl,rfl,by simp [dI],rfl,rfl⟩
 ·rintro ρ' p i w' ⟨k,hk,rfl,rfl,hsz,hok,rfl⟩;by_cases hlt:k<n
  ·obtain ⟨d,hdk⟩:=ao (l:=ds) (k:=k) Yv;obtain ⟨ad,rfl,hr⟩:=hD.at_ Yv;have hpos:=wi (ds.take k);by_cases hb1:0≤d∧d≤127
   ·have hm1:(0:Int)≤(dI (ds.take k)).length*(d+1):=Int.mul_nonneg Yv Yv;have hm2:((dI (ds.take k)).length:Int)*(d+1)≤65536*128:=aa8 Yv Yv Yv Yv;by_cases hb2:((dI (ds.take k)).length:Int)*(d+1)≤65536
    ·have hstep:=vw hdk hok ⟨hb1,hb2⟩;rw [←fK hdk hb1.1] at hstep;have hl2:=fK hdk hb1.1;refine sr ?_;refine eC ?_;refine gg ?_;refine pV ?_;refine aI (aa (ai (sr (mI ?_))));refine a8 (mB (gT (mI (gT ?_))));refine bT ?_;refine dX ?_;refine mB (gT (mI (gT (mI (gT ?_)))));refine bm (gT ?_);refine mulC (gT ?_);refine bT ?_;refine dX ?_;refine aa (cF (au (aj (ar (mI (mI ?_))))));refine bm ?_;refine mulC (aI (aE (bM (aj (ar ?_)))));refine bm (mI (aE (aj ?_)));exact QT
    ·have hf:=nS hdk hok fun h=>hb2 h.2;refine sr ?_;refine eC ?_;refine gg ?_;refine pV ?_;refine aI (aa (ai (sr (mI ?_))));refine a8 (mB (gT (mI (gT ?_))));refine bT ?_;refine dX ?_;refine mB (gT (mI (gT (mI (gT ?_)))));refine bm (gT ?_);refine mulC (gT ?_);refine bT ?_;refine dX ?_;exact LW
   ·have hf:=nS hdk hok fun h=>hb1 h.1;refine sr ?_;refine eC ?_;refine gg ?_;refine pV ?_;by_cases h0:d<0
    ·refine aI (aa (ai (sr (mI ?_))));refine a8 (mB ?_);refine gS (gS ?_);refine fG ?_;refine mB ?_;refine gS (gS (gS (gS (gS ?_))));refine fG ?_;exact LW
    ·refine aI (aa (ai (sr (mI ?_))));refine a8 (mB (gT (mI (gT ?_))));refine bT ?_;refine dX ?_;refine mB ?_;refine gS (gS (gS (gS (gS ?_))));refine fG ?_;exact LW
  ·obtain rfl:n=k:=Yv;rw [YG Yv] at hsz;rw [ZZ Yv] at hok;have hok:tJ 1 ds=true:=hok;have hbd:=z5 ds 1 hok;have hen:=Dj ds fun d hd=>(hbd d hd).1;have hall:=tP ds hbd;have hdok:ds.all cJ=true:=by
    rw [Y6];intro d hd;have:=hbd d hd;simp [cJ,this]
   have hAl:nA ds=(dI ds).map fX:=by simp only [nA,hok,if_true]
   refine sr ?_;refine a8 (aa (ai (cF (a6 (aH (aH (bB (aj (sr (mL (aK ?_)))))))))));refine gE hh rfl rfl rfl rfl bo.out aU.out rfl Yv Yv Yw ?_;intro b37 w37 hh;refine aL (aa (sr (aL (aa (ai (sr (aB (aa (av ?_)))))))));rw [MC] at hh;rw [hdl] at hen;refine bC [7,8,9,10,38,39,40,41,42,43,44,45,46,47,48,49,50] 7 8
    (fun v b w'=>∃(done rest:List (List Int)) (a:List Int) (A:Option Addr) (c':Nat),v=.slice A done.length c'∧Hp w [.row (some ⟨b37,0,none⟩) n n 3 1 (bQ a),.row A done.length c' 9 1 (iw (done.map fX))] w'∧dI ds=done++rest∧((b=.bool true∧pN (sG ds) a rest)∨(b=.bool false∧rest=[])))
    (fun v _ _=>65537-lenOf v) ?_ ?_
   ·exact ⟨[],_,_,none,0,rfl,(hh.cN _ _).swap,rfl,.inl ⟨rfl,hen⟩⟩
   ·clear hh;rintro ρ' v b w' ⟨done,rest,a,A,c',rfl,hh,hap,hc⟩
    rcases hc with ⟨rfl,hE⟩|⟨rfl,rfl⟩
    ·have hlen:(dI ds).length=done.length+rest.length:=by rw [hap,YK]
     have hre:rest=a::rest.tail:=by
      rcases yd hE with ⟨h,_⟩|⟨c,L,h,_⟩<;>simp [h]
     have hrl:rest.length=rest.tail.length+1:=by rw [hre];simp
     have ha:a∈dI ds:=by rw [hap,hre];simp
     have hao:=hall a ha;have hal:=kC ds a ha;obtain ⟨eo1,eo2⟩:=pr hao;have e1:iw (done.map fX)++[.string (str (Kg a))]=iw ((done++[a]).map fX):=by rw [yW,eo1,Zq];rfl
     refine ai (sr (mB (aa (cT (au (aj (ai (av (sr (mL ?_))))))))));refine bA hh (B3 _ _ _ _ _ (hh.aG (i:=0) rfl) Yv) rfl ?_;intro w44 hh;refine mT ?_;refine dx ?_;refine dx ?_;refine aS (aI (aa (ar (mL (mS ?_)))));refine cQ hh (cs:=[_]) bo.out aU.out (aX (Ek rfl) cx) rfl rfl Yw Yw Yw rfl Yw ?_;intro b49 w49 hh;refine cd hh (i:=2) rfl rfl rfl (hh.aG (i:=0) rfl) bo.out aU.out rfl Yw rfl Yv Yv Yw ?_;intro A50 c50 w50 hh;simp only [YM,Zg] at hh;replace hh:=hh.sub (Zi _ _);refine aL (aE (bM (aj (ar (mL (mL ?_))))));rw [e1] at hh;have hcc:=Dr (D:=D) (c':=c) (ds:=ds) _ hh hD Yv hao hdok Yv
     rcases yd hE with ⟨h1,h2⟩|⟨c2,L,h1,h2,h3⟩
     ·rw [h2] at hcc;refine aJ (hcc) aw.out rfl Yw ?_;rintro e_ w_ ⟨rfl,hh⟩;refine ⟨_,rfl, ?_⟩;refine aB (aE (aj ?_));refine ⟨⟨done++[a],[],_,A50,c50,by rw [YK];rfl,by rw [YK];exact hh,by rw [hap,h1];simp,.inr ⟨rfl,rfl⟩⟩,by show 65537-(done.length+1)<65537-done.length;omega, ?_⟩;exact dO
     ·rw [h2] at hcc;refine aJ (hcc) aw.out rfl Yw ?_;rintro e_ w_ ⟨rfl,hh⟩;refine ⟨_,rfl, ?_⟩;refine aB (aE (aj ?_));refine ⟨⟨done++[a],L,c2,A50,c50,by rw [YK];rfl,by rw [YK];exact hh,by rw [hap,h1];simp,.inl ⟨rfl,h3⟩⟩,by show 65537-(done.length+1)<65537-done.length;omega, ?_⟩;exact dO
    ·refine ai (sr (mB (aa (cF (a6 (aH (aH (bB (aj (sr (mL (aL (aa (ay ?_))))))))))))));refine dh ?_;have h1:=hh.at_ (i:=1) rfl;have hdn:dI ds=done:=by rw [hap];simp
     rw [hAl,hdn,YO];exact ⟨A,c',rfl,h1,hh.below⟩
theorem EW (D:Option Addr) (n c:Nat) (ds:List Int) (w:World) (hD:Sl w D n 1 (bQ ds)) (hn:n≤100000):
  Calls Tryz.prog 122 #[.slice D n c] w fun e w'=>∃A c,e=.returned (.slice A (nA ds).length c)∧w'.ownsRow w.heap.size 9 1 (.slice A (nA ds).length c) (nA ds).length (iw (nA ds))∧Below w.heap.size w w':=by
 have hdl:ds.length=n:=by have:=hD.1;rw [cD] at this;omega
 have hh:=Hp.start w;refine ak (N:=72) (l:=[.slice D n c]) Tryz.func122 rfl rfl (by simp) ?_;refine sr (aL (aa (sr (aI (aa (ai (sr (aI (aa (av ?_))))))))));refine bC [2,3,4,10,11,12,13,14,15,16,17,18,19,20,21,22,23,24,25,26,27,28,29,30,31,32,33,34,35,36] 3 4
  (fun p i w'=>∃(k:Nat),k≤n∧i=.int .i64 k∧p=.int .i64 (dI (ds.take k)).length∧(dI (ds.take k)).length≤65536∧tJ 1 ds=tJ (dI (ds.take k)).length (ds.drop k)∧w=w')
  (fun _ i _=>n-(intOf i).toNat) ?_ ?_
 ·exact ⟨0,YD _,rfl,rfl,by simp [dI],rfl,rfl⟩
 ·rintro ρ' p i w' ⟨k,hk,rfl,rfl,hsz,hok,rfl⟩;by_cases hlt:k<n
  ·obtain ⟨d,hdk⟩:=ao (l:=ds) (k:=k) Yv;obtain ⟨ad,rfl,hr⟩:=hD.at_ Yv;have hpos:=wi (ds.take k);by_cases hb1:0≤d∧d≤127
   ·have hm1:(0:Int)≤(dI (ds.take k)).length*(d+1):=Int.mul_nonneg Yv Yv;have hm2:((dI (ds.take k)).length:Int)*(d+1)≤65536*128:=aa8 Yv Yv Yv Yv;by_cases hb2:((dI (ds.take k)).length:Int)*(d+1)≤65536
    ·have hstep:=vw hdk hok ⟨hb1,hb2⟩;rw [←fK hdk hb1.1] at hstep;have hl2:=fK hdk hb1.1;refine ai (sr (mI (mL (aK ?_))));refine x8 ?_;refine gg ?_;refine pV ?_;refine a8 (mB (gT (mL (gT (mI (gT ?_))))));refine gg ?_;refine Mt ?_;refine gT ?_;refine bT ?_;refine dX ?_;refine aa (cF (au (aj (sr (mI (mL (mI ?_)))))));refine gg ?_;refine pV ?_;refine bm ?_;refine mulC (aI (aa (sr (mI ?_))));refine bT (aa (cF (au (bM (aj (ar (mI ?_)))))));refine bm (aI (aE (aj ?_)));exact QT
    ·have hf:=nS hdk hok fun h=>hb2 h.2;refine ai (sr (mI (mL (aK ?_))));refine x8 ?_;refine gg ?_;refine pV ?_;refine a8 (mB (gT (mL (gT (mI (gT ?_))))));refine gg ?_;refine Mt ?_;refine gT ?_;refine bT ?_;refine dX ?_;refine aa (cF (au (aj (sr (mI (mL (mI ?_)))))));refine gg ?_;refine pV ?_;refine bm ?_;refine mulC (aI (aa (sr (mI ?_))));refine bT (aa (cT (sr (aL (aa (ay (cm (aN (aN (cm (aN ?_)))))))))));refine dh ?_;simp only [nA,hf];exact TD
   ·have hf:=nS hdk hok fun h=>hb1 h.1;refine ai (sr (mI (mL (aK ?_))));refine x8 ?_;refine gg ?_;refine pV ?_;by_cases h0:d<0
    ·refine a8 (mB ?_);refine gS (gS (gS ?_));refine jG ?_;refine gS ?_;refine fG ?_;exact LW
    ·refine a8 (mB (gT (mL (gT (mI (gT ?_))))));refine gg ?_;refine Mt ?_;refine gT ?_;refine bT ?_;refine dX ?_;exact LW
  ·obtain rfl:n=k:=Yv;rw [ZZ Yv] at hok;have hok:tJ 1 ds=true:=hok;have hbd:=z5 ds 1 hok;have hAl:nA ds=(dI ds).map fX:=by simp only [nA,hok,if_true]
   refine ai (sr (mI (mL (aK ?_))));refine yC ?_;refine cQ hh (cs:=[_]) bo.out aU.out (aX rfl cx) rfl rfl Yw Yw Yw rfl Yw ?_;intro b37 w37 hh;refine DQ ?_;refine bC [5,6,7,8,9,38,39,40,41,42,43,44,45,46,47,48,49,50,51,52,53,54,55,56,57,58,59,60,61,62,63,64,65,66,67,68,69,70] 5 6
    (fun v i w'=>∃(k:Nat) (A:Option Addr) (c':Nat),k≤n∧i=.int .i64 k∧v=.slice A ((dI (ds.take k)).map fX).length c'∧Hp w [.row A ((dI (ds.take k)).map fX).length c' 9 1 (iw ((dI (ds.take k)).map fX))] w')
    (fun _ i _=>n-(intOf i).toNat) ?_ ?_
   ·exact ⟨0,_,_,YD _,rfl,rfl,hh⟩
   ·clear hh hsz hk;rintro ρ2 v i w' ⟨k,A,c',hk,rfl,rfl,hh⟩;by_cases hlt:k<n
    ·obtain ⟨d,hdk⟩:=ao (l:=ds) (k:=k) Yv;have bd:=hbd d (YF hdk);have hst:=Qa hdk;have hbig:=(uT hok (k+1) Yv).2;have hbig2:(((dI (ds.take k)).map fX).flatMap (gX d)).length≤65536:=by rw [←hst,YO];exact hbig
     have hsm:∀(j:Nat) (s:ByteArray),((dI (ds.take k)).map fX)[j]?=some s→s.size≤k:=fun j s h=>OO h;have hS:=(uT hok k Yv).2;rw [←YO (f:=fX)] at hS;generalize (dI (ds.take k)).map fX=S at*;refine ai (sr (mI (mL (aK ?_))));refine a8 (aa (cT (au (aj (ai (av (sr (aL (aa (ai (ai (ar (aI (aa (av ?_)))))))))))))));replace hh:=hh.cN 9 1;refine bC [7,8,9,44,45,46,47,48,49,50,51,52,53,54,55,56,57,58,59,60,61,62,63,64,65,66,67,68,69] 7 8
      (fun v j w'=>∃(j':Nat) (B:Option Addr) (c2:Nat),j'≤S.length∧j=.int .i64 j'∧v=.slice B ((S.take j').flatMap (gX d)).length c2∧Hp w [.row B ((S.take j').flatMap (gX d)).length c2 9 1 (iw ((S.take j').flatMap (gX d))),.row A S.length c' 9 1 (iw S)] w')
      (fun _ j _=>S.length-(intOf j).toNat) ?_ ?_
     ·exact ⟨0,none,0,YD _,rfl,rfl,hh⟩
     ·clear hh;rintro ρ3 v j w' ⟨j,B,c2,hj,rfl,rfl,hh⟩;by_cases hlj:j<S.length
      ·obtain ⟨s,hs⟩:=ao hlj;have hss:=hsm j s hs;have hs2:=sw hs;have hlS:=nH S;refine ai (sr (mI (mL (aK ?_))));refine a8 (aa (cT (au (aj (ai (av (sr (aI (aa (av ?_))))))))));refine bC [7,9,50,51,52,53,54,55,56,57,58,59,60,61,62,63,64,65,66,67,68,69] 7 9
        (fun v q w'=>∃(q':Nat) (B:Option Addr) (c2:Nat),q'≤d.toNat+1∧q=.int .i64 q'∧v=.slice B ((S.take j).flatMap (gX d)++(gX d s).take q').length c2∧Hp w [.row B ((S.take j).flatMap (gX d)++(gX d s).take q').length c2 9 1 (iw ((S.take j).flatMap (gX d)++(gX d s).take q')),.row A S.length c' 9 1 (iw S)] w')
        (fun _ q _=>d.toNat+1-(intOf q).toNat) ?_ ?_
       ·exact ⟨0,B,c2,YD _,rfl,by rw [ZS,Y9];rfl,by rw [ZS,Y9];exact hh⟩
       ·clear hh;rintro ρ4 v q w' ⟨q,B,c2,hq,rfl,rfl,hh⟩;obtain ⟨ad,rfl,hr⟩:=(hD.ext hh.below).at_ Yv;by_cases hlq:q<d.toNat+1
        ·have hq2:(q:Int)≤d:=Yv;have hqo:cJ (q:Int)=true:=by simp [cJ];omega
         have hgb:=Vj (d:=d) hs q;have hcat:s.size+(ByteArray.mk [qf (q:Int)].toArray).size≤9223372036854775807:=by show s.size+1≤_;omega
         obtain ⟨go,rfl⟩:=hh.cK (i:=1) rfl Yv;refine ai (sr (mI (mL (mI ?_))));refine gg ?_;refine pV ?_;refine TT (aa (cT (au (aj (ai (av ?_))))));refine aW 11 [[(7,none)],[(5,none)],[(8,none)],[(59,some 1),(60,some 2)],[(61,some 3)],[(9,none)],[(63,some 5)],[(64,some 6)],[(65,some 7)],[(62,some 4),(66,some 8)],[(67,some 9)]] [(10,68),(9,67),(8,66),(7,65),(6,64),(5,63),(4,62),(3,61),(2,60),(1,59),(0,58)] hh mixed Yx ?_;refine eQ ?_;refine eQ ?_;refine cZ ?_;refine bu (i:=3) (fun ρ1 w1 hj hR=>m7 bo.out aU.size (show ρ1 59=Value.slice _ _ _ from hR.1) (show ρ1 60=Value.int _ _ from hR.2.1) rfl Yv) ?_;refine bu (i:=4) (fun ρ1 w1 hj hR=>jT aU.out (show ρ1 61=Value.pointer _ from hR.1) (hj.hp.fU (i:=1) rfl (by rw [YX];exact hs2))) ?_;refine cZ ?_;refine bu (i:=6) (fun ρ1 w1 hj hR=>kT bo.out bo.out (show ρ1 63=Value.int _ _ from hR.1)) ?_;refine pL [_] ?_;refine aO (i:=8) (Is (.string ⟨([qf (q:Int)]).toArray⟩)) Is.ext ?_ ?_
         ·intro ρ1 w1 hj hR;obtain ⟨A65,c65,h65,s65⟩:=hR.1;exact eJ rfl (iT (l:=[qf (q:Int)]) bo.out bo.out bo.out h65 (by rw [zI Yv Yv,oT hqo] at s65;exact s65)) ⟨Below.refl _ _,rfl⟩
         refine bu (i:=9) (fun ρ1 w1 hj hR=>SD (show ρ1 62=Value.string _ from hR.1) (show ρ1 66=Value.string _ from hR.2.1) (by first|omega|assumption|(simp only [jm,dP];omega))) ?_;refine pL [_] ?_;refine aM ?_;intro f W hJ hV;have hb_21:=hJ.bl;obtain ⟨v68,v67,v66,v65,v64,v63,v62,v61,v60,v59,v58,_⟩:=hV;obtain ⟨A65,c65,e65,f65⟩:Rows _ _ _ (f 7) W:=v65;obtain ⟨A68,c68,e68,f68⟩:Rows _ _ _ (f 10) W:=v68;replace hh:=hJ.hp;refine aQ (bg (ae e68 (ae v67 (ae v66 (ae e65 (ae v64 (ae v63 (ae v62 (ae v61 (ae v60 (ae v59 (ae v58 aR)))))))))))) ?_;dsimp only [bO];clear e65 e68 hJ;refine cd hh (i:=0) rfl rfl rfl (f68) bo.out aU.out rfl Yw rfl Yv Yv Yw ?_;intro A69 c69 w69 hh;simp only [YM] at hh;refine lC ?_;refine bm (aI (aE (aj ?_)));have e1:iw ((S.take j).flatMap (gX d)++(gX d s).take q)++[.string (s++ByteArray.mk [qf (q:Int)].toArray)]=iw ((S.take j).flatMap (gX d)++(gX d s).take (q+1)):=by
          rw [yW,aC (Qt hq2),Ze];rfl
         have e2:((S.take j).flatMap (gX d)++(gX d s).take q).length+1=((S.take j).flatMap (gX d)++(gX d s).take (q+1)).length:=by
          rw [aC (Qt (s:=s) hq2)];simp;omega
         rw [e1,e2] at hh;refine ⟨⟨q+1,A69,c69,Yv,rfl,by rw [←e2];rfl,hh⟩,by show d.toNat+1-(q+1)<d.toNat+1-q;omega, ?_⟩;exact dO
        ·refine ai (sr (mI (mL (mI ?_))));refine gg ?_;refine pV ?_;refine TT (aa (cF (a6 (aH (aH (bB (bM (aj (ar (mI ?_))))))))));refine bm (aI (aE (aj ?_)));obtain rfl:q=d.toNat+1:=Yv;have e3:(S.take j).flatMap (gX d)++(gX d s).take (d.toNat+1)=(S.take (j+1)).flatMap (gX d):=by
          rw [YG (l:=gX d s) (by rw [IK];omega),aC hs,abg];simp
         rw [e3] at hh ⊢;refine ⟨⟨j+1,B,c2,Yv,rfl,rfl,hh⟩,by show S.length-(j+1)<S.length-j;omega, ?_⟩;exact dO
      ·refine ai (sr (mI (mL (aK ?_))));refine a8 (aa (cF (a6 (aH (aH (bB (aj (ar (mL (aL (aE (bM (aj (ar (mI ?_)))))))))))))));refine bm (aI (aE (aj ?_)));rw [YG (l:=S) Yv,←hst] at hh ⊢;refine ⟨⟨k+1,B,c2,Yv,rfl,rfl,hh.sub (.cons_cons _ (Zr _))⟩,by show n-(k+1)<n-k;omega, ?_⟩;exact dO
    ·refine ai (sr (mI (mL (aK ?_))));refine Nx ?_;refine dh ?_;have hds:dI (ds.take k)=dI ds:=by rw [YG (l:=ds) Yv]
     have h1:=hh.at_ (i:=0) rfl;rw [hAl,←hds];exact ⟨A,c',rfl,h1,hh.below⟩
theorem p5 (A:Option Addr) (n c:Nat) (ds:List Int) (w:World) (hS:Sl w A n 1 (bQ ds)) (hn:n≤1000000):
  Calls Tryz.prog 34 #[.slice A n c] w fun r w'=>r=.returned (.int .i64 (oE ds))∧Below w.heap.size w w':=by
 have hh:=Hp.start w;have hln:ds.length=n:=by have:=hS.1;simpa [bQ] using this
 unfold oE;refine ak (N:=39) (l:=[.slice A n c]) Tryz.func34 rfl rfl (by simp) ?_;refine sr (aI (aa (sr (aI (aa (ai (sr (aI (aa (av ?_))))))))));refine aT [2,4,6,7,8,9,10,11,12,13,14,15,16,17,18,19,20,21,22,23] 4
  (fun v w'=>∃i:Nat,i≤n∧v=.int .i64 i∧(ds.take i).any (fun d=> !cJ d)=false∧Hp w [] w')
  (fun v _=>n-(intOf v).toNat) ?_ ?_
 ·exact ⟨0,YD _,rfl,rfl,hh⟩
 ·clear hh;rintro ρ' v w' ⟨i,hi,rfl,hall,hh⟩;by_cases hlt:i<n
  ·obtain ⟨d,hd⟩:=ao (l:=ds) (k:=i) Yv;have hgi:=cL hd;obtain ⟨ad,rfl,hr⟩:=hS.at_ Yv;have hbad:(!cJ d)=true→ds.any (fun d=> !cJ d)=true:=fun h=>aag.2 ⟨d,YF hd,h⟩;by_cases h1:d<0
   ·refine ai (sr (mI (mL (aK ?_))));refine jq ?_;refine cE ?_;refine iD ?_;refine a8 (mB ?_);refine gS (gS (gS (gS (gS ?_))));refine fG ?_;exact V1
   ·by_cases h2:127<d
    ·refine ai (sr (mI (mL (aK ?_))));refine jq ?_;refine cE ?_;refine iD ?_;refine a8 (mB (gT (mL (gT (mI (gT ?_))))));refine cE ?_;refine gT ?_;refine iD ?_;refine gT ?_;refine bT ?_;refine dX ?_;exact V1
    ·refine ai (sr (mI (mL (aK ?_))));refine jq ?_;refine cE ?_;refine iD ?_;refine a8 (mB (gT (mL (gT (mI (gT ?_))))));refine cE ?_;refine gT ?_;refine iD ?_;refine gT ?_;refine bT ?_;refine dX ?_;refine p8 ?_;refine bm (aI (aE (aj ?_)));refine ⟨⟨i+1,Yv,rfl, ?_,hh⟩,by show n-(i+1)<n-i;omega, ?_⟩
     ·rw [aC hd,aaW,hall,aa4,aaR,cJ,YV Yv,YV Yv];rfl
     ·exact dO
  ·rw [YG Yv] at hall;rw [hall,YB Yw];obtain ⟨ns,hns,hlow⟩:=tp hall;have hds:∀(j:Nat) (d:Int),ds[j]?=some d→0≤d∧d≤127:=fun j d hd=>by
    have:=aaa.1 hall d (YF hd);simp [cJ] at this;omega
   refine ai (sr (mI (mL (aK ?_))));refine KG ?_;refine bC [3,5,24,25,26,27,28,29,30,31,32,33,34,35,36,37] 3 5
    (fun v3 v w'=>∃(i:Nat) (q:Int),i≤n∧v=.int .i64 i∧v3=.int .i64 q∧0≤q∧q≤4097∧xF 1 ds=xF q (ds.drop i)∧Hp w [] w')
    (fun _ v _=>n-(intOf v).toNat) ?_ ?_
   ·exact ⟨0,1,YD _,rfl,rfl,Yv,Yv,rfl,hh⟩
   ·clear hh;rintro ρ2 v3 v w2 ⟨j,q,hj,rfl,rfl,hq1,hq2,hc,hh⟩;by_cases hjn:j<n
    ·obtain ⟨d,hd⟩:=ao (l:=ds) (k:=j) Yv;have hgi:=cL hd;have hdb:=hds j d hd;obtain ⟨ad,rfl,hr⟩:=hS.at_ Yv;rw [gC hd,xF] at hc;have hm1:0*0≤q*(d+1):=aa8 hq1 Yv Yw Yv;have hm2:q*(d+1)≤4097*128:=aa8 hq2 Yv Yv Yw;refine ai (sr (mI (mL (aK ?_))));refine a8 (aa (cT (au (aj (ai (av (ar (mI (mL (mI ?_))))))))));refine lW ?_;refine iD ?_;refine bm ?_;refine mulC ?_;refine zd rfl rfl Yw ?_;refine aI (aE (bM (aj (ar (mI ?_)))));refine bm (aI (aE (aj ?_)));refine ⟨⟨j+1,_,Yv,rfl,rfl,by split<;>omega,by split<;>omega,by rw [hc,show min (q*(d+1)) 4097=if 4097<q*(d+1) then 4097 else q*(d+1) by split<;>omega],hh⟩,by show n-(j+1)<n-j;omega, ?_⟩;exact dO
    ·rw [ZZ Yv] at hc;refine ai (sr (mI (mL (aK ?_))));refine a8 (aa (cF (a6 (aH (aH (bB (aj (sr (mI (aI (aa (ay ?_))))))))))));refine dh ?_;exact ⟨by rw [hc];rfl,hh.below⟩
theorem MF {ds:List Int} (h:ds.any (fun d=> !cJ d)=false):(gH 1 ds=0↔4096<oE ds)∧(gH 1 ds≠0→gH 1 ds=oE ds)∧1≤oE ds:=by
 obtain ⟨ns,rfl,hlow⟩:=tp h;have h1:=lj ns 1 Yw Yw hlow;have h2:=vi ns 1 Yw Yw;have hp:=df ns;rw [aaH] at h1 h2;unfold oE;rw [h,YB Yw];have e1:gH ((1:Nat):Int) (cf ns)=gH 1 (cf ns):=rfl;have e2:xF ((1:Nat):Int) (cf ns)=xF 1 (cf ns):=rfl;rw [e1] at h1;rw [e2] at h2;rw [h1,h2];split<;>omega
theorem xu (A B:Option Addr) (n c m c2:Nat) (ds:List Int) (cs:List NR) (w:World) (hS:Sl w A n 1 (bQ ds)) (hS2:Sl w B m 3 (aD NR.cells cs)) (hn:n≤1000000) (hc:∀a∈cs,a.ok):
  Calls Tryz.prog 31 #[.agg #[.slice A n c,.slice B m c2]] w fun r w'=>r=.returned (.int .i64 (fE ds cs))∧Below w.heap.size w w':=by
 have hh:=Hp.start w;have hln:ds.length=n:=by have:=hS.1;simpa [bQ] using this
 have hlm:=hS2.bh NR.len Yw;unfold fE;by_cases g1:12<n
 ·refine CI ?_;refine sr ?_;refine cu hh [_,_] ?_;intro b1 w1 hh;refine aI (aa (sr (bJ ?_)));refine bG hh 0 ?_;refine CU ?_;intro w7 hh;refine aI (aa (ai (sr (bJ ?_))));refine bG hh 0 ?_;refine aK ?_;refine bT (mB ?_);refine gS (gS ?_);refine fG ?_;refine yy ?_;exact OX
 ·cases g2:ds.any (fun d=> !cJ d) with
  |true=>
   have hcd:oE ds= -1:=by unfold oE;rw [g2,YA rfl]
   refine CI ?_;refine sr ?_;refine cu hh [_,_] ?_;intro b1 w1 hh;refine aI (aa (sr (bJ ?_)));refine bG hh 0 ?_;refine CU ?_;intro w7 hh;rw [hcd];refine aI (aa (ai (sr (bJ ?_))));refine bG hh 0 ?_;refine aK ?_;refine bT (mB (gT (mI (gT ?_))));refine a8 ?_;exact SM
  |false=>
   rw [YB (fun h=>h.elim (fun h=>by omega) (fun h=>by cases h))];obtain ⟨k1,k2,k3⟩:=MF g2;by_cases g3:gH 1 ds=0
   ·have k4:=k1.1 g3;refine CI ?_;refine sr ?_;refine cu hh [_,_] ?_;intro b1 w1 hh;refine aI (aa (sr (bJ ?_)));refine bG hh 0 ?_;refine CU ?_;intro w7 hh;refine aI (aa (ai (sr (bJ ?_))));refine bG hh 0 ?_;refine aK ?_;refine bT (mB (gT (mI (gT ?_))));refine a8 ?_;refine dX ?_;refine aa (cF (au (aj (ai (sr (mI ?_))))));refine bT (aa (cT (sr (aI (aa (ay (aN ?_)))))));refine dh ?_;exact ⟨by rw [YA g3],hh.below⟩
   ·have k4:¬4096<oE ds:=fun h=>g3 (k1.2 h);rw [YB g3,k2 g3];by_cases g4:(m:Int)=oE ds
    ·rw [YB (show ¬(cs.length:Int)≠oE ds by omega)];refine CI ?_;refine sr ?_;refine cu hh [_,_] ?_;intro b1 w1 hh;refine aI (aa (sr (bJ ?_)));refine bG hh 0 ?_;refine CU ?_;intro w7 hh;refine aI (aa (ai (sr (bJ ?_))));refine bG hh 0 ?_;refine aK ?_;refine bT (mB (gT (mI (gT ?_))));refine a8 ?_;refine dX ?_;refine aa (cF (au (aj (ai (sr (mI ?_))))));refine bT (aa (cF (au (aj (ai (sr (bJ ?_)))))));refine bG hh 0 ?_;refine aK (mI ?_);refine Ib ?_;refine aT [2,4,23,24,25,26,27,28,29,30,31,32,33,34,35,36,37,38,39] 4
      (fun v w'=>∃i:Nat,i≤m∧v=.int .i64 i∧(cs.take i).any vI=false∧Hp w [.blk b1 33 [.slice A n c,.slice B m c2] (0,0)] w')
      (fun v _=>m-(intOf v).toNat) ?_ ?_
     ·exact ⟨0,YD _,rfl,rfl,hh⟩
     ·clear hh;rintro ρ' v w' ⟨i,hi,rfl,hall,hh⟩;by_cases hlt:i<m
      ·obtain ⟨x,hx⟩:=ao (l:=cs) (k:=i) Yv;have hxo:=hc x (YF hx);have hf:=fun w1=>j0 x w1 (by have:=hxo.1;omega) (by have:=hxo.2;omega) (by have:=hxo.2;omega);obtain ⟨ad,rfl,hr⟩:=hS2.at_ Yv
       cases g5:vI x with
       |true=>
        have he:¬nR x.d=x:=fun h=>by rw [oC.2 h] at g5;cases g5
        refine ai (sr (mI (mI ?_)));refine kP ?_;refine Rc ?_;refine cX ?_;refine dT 0 ?_;refine cZ ?_;refine RD ?_;refine G2 ?_;refine dC (fun _ hj=>hf _) ?_;refine cX ?_;refine dT 0 ?_;refine cZ ?_;refine Si ?_;refine G2 ?_;refine aM ?_;intro f W hJ hV;have hb_11:=hJ.bl;obtain ⟨v38,v37,v36,v35,v34,v33,v32,v31,v30,v29,v28,_⟩:=hV;replace hh:=hJ.hp;refine QX ?_;dsimp only [bO];clear hJ;refine uH rfl rfl (by assumption) Yw ?_;refine Cq ?_;refine dh ?_;exact ⟨by rw [YA (aag.2 ⟨x,YF hx,g5⟩)],hh.below⟩
       |false=>
        have he:=oC.1 g5;refine ai (sr (mI (mI ?_)));refine kP ?_;refine Rc ?_;refine cX ?_;refine dT 0 ?_;refine cZ ?_;refine RD ?_;refine G2 ?_;refine dC (fun _ hj=>hf _) ?_;refine cX ?_;refine dT 0 ?_;refine cZ ?_;refine Si ?_;refine G2 ?_;refine aM ?_;intro f W hJ hV;have hb_11:=hJ.bl;obtain ⟨v38,v37,v36,v35,v34,v33,v32,v31,v30,v29,v28,_⟩:=hV;replace hh:=hJ.hp;refine QX ?_;dsimp only [bO];clear hJ;refine rX rfl rfl (by first|assumption|rfl) Yw ?_;refine p8 ?_;refine bm (aI (aE (aj ?_)));refine ⟨⟨i+1,Yv,rfl,by rw [aC hx,aaW,hall,aa4,aaR,g5];rfl,hh⟩,by show m-(i+1)<m-i;omega, ?_⟩;exact dO
      ·rw [YG Yv] at hall;refine ai (sr (mI (mI ?_)));refine NI ?_;refine dh ?_;exact ⟨by rw [hall,YB Yw],hh.below⟩
    ·rw [YA (show (cs.length:Int)≠oE ds by omega)];refine CI ?_;refine sr ?_;refine cu hh [_,_] ?_;intro b1 w1 hh;refine aI (aa (sr (bJ ?_)));refine bG hh 0 ?_;refine CU ?_;intro w7 hh;refine aI (aa (ai (sr (bJ ?_))));refine bG hh 0 ?_;refine aK ?_;refine bT (mB (gT (mI (gT ?_))));refine a8 ?_;refine dX ?_;refine aa (cF (au (aj (ai (sr (mI ?_))))));refine bT (aa (cF (au (aj (ai (sr (bJ ?_)))))));refine bG hh 0 ?_;refine aK (mI ?_);refine db (aa (cT (sr (aI (aa (ay (aN ?_)))))));refine dh ?_;exact ⟨rfl,hh.below⟩
def Yn (n:Nat) (k:Int):Dyadic:=if k<0∨(n:Int)<k then 0 else nD (bin n k.toNat)
theorem Ae:∀(ns:List Nat) (n:Nat),(∀d∈ns,d≤127)→n*aA ns≤65536→1≤n→tJ n (cf ns)=true
 |[],_,_,_,_=>rfl
 |d::ns,n,h,hc,h1=>by
  have hd:=h d YL;have e1:(n:Int)*((d:Int)+1)=((n*(d+1):Nat):Int):=by rw [ZU,aaw];rfl
  rw [aA,←Zw] at hc;have h2:n*(d+1)*1≤n*(d+1)*aA ns:=Zc _ (df ns);have ih:=Ae ns (n*(d+1)) (fun x hx=>h x (YP _ hx)) hc (Nat.mul_pos h1 Yv);show (decide (0≤(d:Int)) && (decide ((d:Int)≤127) && (decide ((n:Int)*((d:Int)+1)≤65536) && tJ ((n:Int)*((d:Int)+1)) (cf ns))))=true;rw [e1,ih,YV Yv,YV Yv,YV Yv]
  rfl
def lE (ns:List Nat):List ByteArray:=(dI (cf ns)).map fX
theorem xZ (ns:List Nat):(lE ns).length=aA ns:=by unfold lE;rw [YO,KK,de]
theorem vO {ns:List Nat}{p:Nat} (h:p<aA ns):(lE ns)[p]?=some (fX (cf (dy ns.reverse p).reverse)):=by
 unfold lE;rw [YN,Od (by rw [de];exact h)]
 rfl
theorem r8 (A:Option Addr) (n c:Nat) (ns:List Nat) (w:World) (hS:Sl w A n 1 (bQ (cf ns))) (h12:ns.length≤12) (hlow:∀d∈ns,d≤127) (hmax:aA ns≤65536):
  Calls Tryz.prog 73 #[.slice A n c] w fun r w'=>∃B c',r=.returned (.slice B (aA ns) c')∧w'.ownsRow w.heap.size 9 1 (.slice B (aA ns) c') (aA ns) (iw (lE ns))∧Below w.heap.size w w':=by
 have hh:=Hp.start w;have hln:ns.length=n:=by have:=hS.1;simpa [bQ,cf] using this
 have ha:nA (cf ns)=lE ns:=by
  have h1:tJ 1 (cf ns)=true:=Ae ns 1 hlow (by rw [aaH];exact hmax) (YE _);unfold nA;rw [YA h1]
  rfl
 have hc:=fun w1 hS1=>EW A n c (cf ns) w1 hS1 Yv;rw [ha,xZ] at hc;refine ak (N:=5) (l:=[.slice A n c]) Tryz.func73 rfl rfl (by simp) ?_;refine sr (aL (aa (sr (mL ?_))));refine aJ (hc _ (hS.ext hh.below)) aw.out rfl Yw ?_;rintro e_ w4 ⟨A4,c4,rfl,hown_,hb_⟩;refine ⟨_,rfl, ?_⟩;replace hh:=hh.aY (x:=.row _ _ _ _ _ _) hb_ hown_;refine aL (aa (ay ?_));exact M1
theorem Ms {l:List Nat}{i r:Nat} (h:l[i]?=some r) (hr:r≤255):∃c:UInt8,(fX (cf l)).data.toList[i]?=some c∧c.toNat=r:=by
 refine ⟨qf (r:Int), ?_, ?_⟩
 ·unfold fX;rw [dY,YN,iG h]
  rfl
 ·show (UInt8.ofNat ((r:Int)).toNat).toNat=r;rw [ZL,abA];omega
theorem lJ (L:Option Addr) (n c:Nat) (b:List NR) (M:Option Addr) (c2:Nat) (w:World) (hS:Sl w L n 3 (aD NR.cells b)) (hS2:Sl w M n 3 (aD NR.cells b)) (hn:n≤1000000):
  Calls Tryz.prog 25 #[.slice L n c,.slice M n c2] w fun r w'=>r=.returned (.bool true)∧Below w.heap.size w w':=by
 have hh:=Hp.start w;have hln:=hS.bh NR.len Yw;refine ak (N:=26) (l:=[.slice L n c,.slice M n c2]) Tryz.func25 rfl rfl (by simp) ?_;refine C8 ?_;refine Ib ?_;refine aT [4,5,11,12,13,14,15,16,17,18,19,20,21,22,23,24,25] 5
  (fun v w'=>∃i:Nat,i≤n∧v=.int .i64 i∧Hp w [] w')
  (fun v _=>n-(intOf v).toNat) ?_ ?_
 ·exact ⟨0,YD _,rfl,hh⟩
 ·clear hh;rintro ρ' v w' ⟨i,hi,rfl,hh⟩;by_cases hlt:i<n
  ·obtain ⟨s,hs⟩:=ao (l:=b) (k:=i) Yv;obtain ⟨ad,rfl,hr⟩:=hS.at_ Yv;obtain ⟨ad2,rfl,hr2⟩:=hS2.at_ Yv;refine ai (sr (mI (mL (aK ?_))));refine kP ?_;refine De ?_;refine eQ ?_;refine cZ ?_;refine jA (i) ?_;refine nF [_,_,_] (fun _ hj=>(hr.ext hj.hp.below).recAt NR.len hs) ?_;refine eQ ?_;refine cZ ?_;refine jA (i) ?_;refine nF [_,_,_] (fun _ hj=>(hr2.ext hj.hp.below).recAt NR.len hs) ?_;refine aM ?_;intro f W hJ hV;have hb_6:=hJ.bl;obtain ⟨v24,v23,v22,v21,v20,v19,v18,v17,_⟩:=hV;replace hh:=hJ.hp;refine CR ?_;dsimp only [bO];clear hJ;refine rX rfl rfl (by first|assumption|rfl) Yw ?_;refine p8 ?_;refine bm (aI (aE (aj ?_)));exact Nv
  ·refine ai (sr (mI (mL (aK ?_))));refine Hu ?_;refine dh ?_;exact ⟨rfl,hh.below⟩
theorem Ar (A B:Option Addr) (n c m c2:Nat) (A' B':Option Addr) (c' c2':Nat) (ds:List Int) (cs:List NR) (w:World) (hS:Sl w A n 1 (bQ ds)) (hS2:Sl w B m 3 (aD NR.cells cs)) (hS3:Sl w A' n 1 (bQ ds)) (hS4:Sl w B' m 3 (aD NR.cells cs)) (hn:n≤100000) (hm:m≤1000000):
  Calls Tryz.prog 24 #[.agg #[.slice A n c,.slice B m c2],.agg #[.slice A' n c',.slice B' m c2']] w fun r w'=>r=.returned (.bool true)∧Below w.heap.size w w':=by
 have hh:=Hp.start w;have hnum:=fun w1 h1 h2=>xz A A' n n c c' ds ds w1 h1 h2 hn hn;simp only [decide_true] at hnum;refine ak (N:=17) (l:=[.agg #[.slice A n c,.slice B m c2],.agg #[.slice A' n c',.slice B' m c2']]) Tryz.func24 rfl rfl (by simp) ?_;refine sr ?_;refine cu hh [_,_] ?_;intro b2 w2 hh;refine cu hh [_,_] ?_;intro b3 w3 hh;refine aB (aa (sr (bJ ?_)));refine bG hh 1 ?_;refine bJ ?_;refine bG hh 0 ?_;refine bA hh (hnum _ (hS.ext hh.below) (hS3.ext hh.below)) rfl ?_;intro w9 hh;refine mB (gT (bJ (gT ?_)));refine bG hh 1 ?_;refine gT (bJ (gT ?_));refine bG hh 0 ?_;refine aP rfl rfl ?_;refine bA hh (lJ B m c2 cs B' c2' _ (hS2.ext hh.below) (hS4.ext hh.below) hm) rfl ?_;intro w15 hh;refine fG ?_;exact xG
theorem BR (A B:Option Addr) (n c m c2:Nat) (ds:List Int) (cs:List NR) (w:World) (hS:Sl w A n 1 (bQ ds)) (hS2:Sl w B m 3 (aD NR.cells cs)) (hn:n≤1000000) (hm:m≤1000000):
  Calls Tryz.prog 19 #[.agg #[.slice A n c,.slice B m c2]] w fun r w'=>∃A' c' B' c2' R,r=.returned (.agg #[.slice A' n c',.slice B' m c2'])∧(R=[.row B' m c2' 40 3 (aD NR.cells cs),.row A' n c' 3 1 (bQ ds)]∨m=0∧R=[.row A' n c' 3 1 (bQ ds)])∧Hp w R w':=by
 have hh:=Hp.start w;have hone:((aD NR.cells cs).all Value.oneCell')=true:=bD NR.one _;have hone2:=br ds;refine ak (N:=12) (l:=[.agg #[.slice A n c,.slice B m c2]]) Tryz.func19 rfl rfl (by simp) ?_;refine sr ?_;refine cu hh [_,_] ?_;intro b1 w1 hh;refine bW hh ?_;intro b2 w2 hh;refine aa (ai ?_);refine aW 7 [[],[(1,none)],[(4,some 1)],[(3,some 0),(5,some 2)],[],[(1,none)],[(8,some 5)]] [(6,9),(5,8),(4,7),(3,6),(2,5),(1,4),(0,3)] hh mixed Yx ?_;refine y9 (i:=0) bo.out aU.out (fun w1 hj=>hj.bl.size) ?_;refine cX ?_;refine dT 1 ?_;refine E4 (i:=3) (fun ρ1 w1 hj hR=>hR.1) (fun ρ1 w1 hj hR=>⟨_,_,(show ρ1 5=Value.slice _ _ _ from hR.2.1),hS.ext hj.hp.below⟩) bo.out aU.out rfl Yw (by first|rfl|assumption) (by unfold maxLen;omega) Yv (fun w1 hj=>hj.bl.size) ?_;refine y9 (i:=4) bo.out aU.out (fun w1 hj=>hj.bl.size) ?_;refine cX ?_;refine dT 1 ?_;refine aM ?_;intro f W hJ hV;have hb_1:=hJ.bl;obtain ⟨v9,v8,v7,v6,v5,v4,v3,_⟩:=hV;obtain ⟨g3,e3,_⟩:Bo _ _ _ (f 0) W:=v3;obtain ⟨A6,c6,e6,o6⟩:ru _ _ _ _ _ (f 3) W:=v6;obtain ⟨g7,e7,_⟩:Bo _ _ _ (f 4) W:=v7;replace hh:=JJ.FJ hh hJ.hp o6;clear o6
 refine aQ (bg (ae v9 (ae v8 (ae e7 (ae e6 (ae v5 (ae v4 (ae e3 aR)))))))) ?_;dsimp only [bO];clear e3 e6 e7 hJ;refine AN rfl rfl (hS2.ext hh.below) bo.out aU.out rfl Yw hone (by unfold maxLen;omega) Yv Yw ?_ ?_
 ·rintro rfl;refine fH [_,_] ?_;refine bV hh 1 [_,_] ?_;intro ws hh;replace hh:Hp _ (_::.blk _ _ [_,_] _::_) _:=hh;refine aa (ay ?_);refine zl ?_;exact ⟨_,_,_,_,_,rfl,.inr ⟨rfl,rfl⟩,hh.sub (aaG [_] _)⟩
 ·intro A10 c10 w10 h0 hb ho;replace hh:=hh.aY (x:=.row _ _ _ _ _ _) hb ho;refine fH [_,_] ?_;refine bV hh 2 [_,_] ?_;intro ws hh;replace hh:Hp _ (_::_::.blk _ _ [_,_] _::_) _:=hh;refine aa (ay ?_);refine NJ (er rfl (ew (vs:=[_,_]) aU.out (hh.cn (i:=2) (n:=2) rfl rfl) rfl) fF) ?_;exact ⟨_,_,_,_,_,rfl,.inl rfl,hh.sub (aaG [_,_] _)⟩
variable {α β:Type}
def Fk (dg ds:List Int):Bool:=(dg.zip ds).any fun q=>decide (q.2<q.1∨127<q.2)
def uh (p:PX) (b:List SR) (ds:List Int):Int:=
 if p.e≠0 then p.e else if g9 b≠0 then g9 b else if (b.length:Int)≠p.v∨(ds.length:Int)≠p.v then 1 else if Fk (yV p.v p.ts) ds=true then 1 else if gH 1 ds=0 then 3 else 0
theorem HJ {a:List α}{b:List β}{i:Nat}{x:α}{y:β} (hx:a[i]?=some x) (hy:b[i]?=some y):(a.zip b)[i]?=some (x,y):=by
 rw [List.getElem?_zip_eq_some];exact ⟨hx,hy⟩
theorem wa (p:PX) (L:Option Addr) (n c:Nat) (b:List SR) (M:Option Addr) (m mc:Nat) (ds:List Int) (k:Nat) (w:World) (hT:e8 w) (hp:p.at_ w) (lp:p.j8 k) (hB:Sl w L n 6 (aD SR.cells b)) (hb:∀s∈b,s.ok) (hn:n≤1000000) (hD:Sl w M m 1 (bQ ds)) (hm:m≤1000000):
  Calls Tryz.prog 43 #[.agg #[.int .i64 p.v,.slice p.A p.n p.c],.slice L n c,.slice M m mc] w fun r w'=>r=.returned (.int .i64 (uh p b ds))∧Below w.heap.size w w':=by
 have hh:=Hp.start w;have hck:=fun w1 hT1 hb=>pB p k w1 hT1 (hp.ext hb) lp;have hbk:=fun w1 hT1 hb1=>qW L n c b w1 hT1 (hB.ext hb1) hb hn;have hdg:=fun w1 hT1 hb=>tL p k w1 hT1 (hp.ext hb) lp;have hbl:b.length=n:=hB.bh SR.len Yw;have hdl:ds.length=m:=by have:=hD.1;rw [cD] at this;omega
 unfold uh;by_cases h0:p.e≠0
 ·rw [YA h0];generalize p.e=e at*;refine BQ ?_;refine sr ?_;refine cu hh [_,_] ?_;intro b3 w3 hh;refine aI (aa (ai (sr ?_)));refine cC hh 0 [_,_] ?_;refine gB ?_;intro w12 hh;exact TW
 ·rw [YB h0];have hpe:p.e=0:=Yv;rw [hpe] at hck;by_cases h1:g9 b≠0
  ·rw [YA h1];generalize g9 b=e at*;refine BQ ?_;refine sr ?_;refine cu hh [_,_] ?_;intro b3 w3 hh;refine aI (aa (ai (sr ?_)));refine cC hh 0 [_,_] ?_;refine gB ?_;intro w12 hh;refine aI (aa (sr (mI ?_)));refine so ?_;refine bA hh (hbk _ (hT.hp hh) hh.below) rfl ?_;intro w17 hh;exact TW
  ·rw [YB h1];rw [show g9 b=0 by omega] at hbk;by_cases h2:(b.length:Int)≠p.v
   ·rw [YA (.inl h2)];refine BQ ?_;refine sr ?_;refine cu hh [_,_] ?_;intro b3 w3 hh;refine aI (aa (ai (sr ?_)));refine cC hh 0 [_,_] ?_;refine gB ?_;intro w12 hh;refine aI (aa (sr (mI ?_)));refine so ?_;refine bA hh (hbk _ (hT.hp hh) hh.below) rfl ?_;intro w17 hh;refine aI (aa (sr (mI ?_)));refine nt ?_;refine bG hh 0 ?_;refine db (mB ?_);refine gS (gS (gS (gS (gS ?_))));refine fG ?_;exact Gj
   ·by_cases h3:(ds.length:Int)≠p.v
    ·rw [YA (.inr h3)];refine BQ ?_;refine sr ?_;refine cu hh [_,_] ?_;intro b3 w3 hh;refine aI (aa (ai (sr ?_)));refine cC hh 0 [_,_] ?_;refine gB ?_;intro w12 hh;refine aI (aa (sr (mI ?_)));refine so ?_;refine bA hh (hbk _ (hT.hp hh) hh.below) rfl ?_;intro w17 hh;refine aI (aa (sr (mI ?_)));refine nt ?_;refine bG hh 0 ?_;refine db (mB (gT (mL (gT (aK (gT (bJ (gT ?_))))))));refine bG hh 0 ?_;refine gT ?_;refine db ?_;refine dX ?_;exact Gj
    ·rw [YB (fun h=>h.elim h2 h3)];have hgl:(yV p.v p.ts).length=m:=by
      unfold yV;rw [YA (show fj p.v p.ts=0 from hpe),fW];omega
     have hzl:((yV p.v p.ts).zip ds).length=m:=by rw [List.length_zip];omega
     have hbd:Fk (yV p.v p.ts) ds=((yV p.v p.ts).zip ds).any fun q=>decide (q.2<q.1∨127<q.2):=rfl;generalize yV p.v p.ts=dg at*;rw [hgl] at hdg;refine BQ ?_;refine sr ?_;refine cu hh [_,_] ?_;intro b3 w3 hh;refine aI (aa (ai (sr ?_)));refine cC hh 0 [_,_] ?_;refine gB ?_;intro w12 hh;refine aI (aa (sr (mI ?_)));refine so ?_;refine bA hh (hbk _ (hT.hp hh) hh.below) rfl ?_;intro w17 hh;refine aI (aa (sr (mI ?_)));refine nt ?_;refine bG hh 0 ?_;refine db (mB (gT (mL (gT (aK (gT (bJ (gT ?_))))))));refine bG hh 0 ?_;refine gT ?_;refine db ?_;refine dX ?_;refine aa (cF (au (aj (ai (sr ?_)))));refine cC hh 0 [_,_] ?_;refine aJ (hdg _ (hT.hp hh) hh.below) aw.out rfl Yw ?_;rintro e_ w34 ⟨G,gc,rfl,h4⟩;refine ⟨_,rfl, ?_⟩;replace hh:=hh.join h4;simp only [YJ,YH] at hh;refine aK (mI (aa (av ?_)));refine aT [6,9,10,36,37,38,39,40,41,42,43,44,45,46,47,48,49,50,51,52,53,54] 36
      (fun v w'=>∃i:Nat,i≤m∧v=.int .i64 i∧((dg.zip ds).take i).any (fun q=>decide (q.2<q.1∨127<q.2))=false∧Hp w [.row G m gc 3 1 (bQ dg),.blk b3 24 [.int .i64 p.v,.slice p.A p.n p.c] (0,0)] w')
      (fun v _=>m-(intOf v).toNat) ?_ ?_
     ·exact ⟨0,YD _,rfl,rfl,hh⟩
     ·clear hh;rintro ρ' v w' ⟨i,hi,rfl,hall,hh⟩;by_cases hlt:i<m
      ·obtain ⟨x,hx⟩:=ao (l:=dg) (k:=i) Yv;obtain ⟨y,hy⟩:=ao (l:=ds) (k:=i) Yv;have hz:=HJ hx hy;have hx2:=cL hx;have hy2:=cL hy;have hll:(bQ dg).length=m:=by rw [cD];exact hgl
       obtain ⟨ad,rfl,hr⟩:=hD.at_ Yv;obtain ⟨g0,rfl⟩:=hh.cK (i:=0) rfl Yv;by_cases hxy:y<x
       ·refine sr ?_;refine e9 ?_;refine gD ?_;refine jY ?_;refine aI (aI (aa (sr (mL (mI ?_)))));refine cE ?_;refine CO ?_;refine mI ?_;refine a8 (mB ?_);refine gS (gS (gS (gS (gS ?_))));refine fG ?_;refine Cq ?_;refine dh ?_;rw [YA (by rw [hbd];exact aag.2 ⟨_,YF hz,YV (.inl hxy)⟩)];exact ⟨rfl,hh.below⟩
       ·by_cases hy7:127<y
        ·refine sr ?_;refine e9 ?_;refine gD ?_;refine jY ?_;refine aI (aI (aa (sr (mL (mI ?_)))));refine cE ?_;refine CO ?_;refine mI ?_;refine a8 (mB (gT (mL (gT (mI (gT ?_))))));refine cE ?_;refine aP rfl rfl ?_;refine CO ?_;refine gT ?_;refine bT ?_;refine dX ?_;refine Cq ?_;refine dh ?_;rw [YA (by rw [hbd];exact aag.2 ⟨_,YF hz,YV (.inr hy7)⟩)];exact ⟨rfl,hh.below⟩
        ·refine sr ?_;refine e9 ?_;refine gD ?_;refine jY ?_;refine aI (aI (aa (sr (mL (mI ?_)))));refine cE ?_;refine CO ?_;refine mI ?_;refine a8 (mB (gT (mL (gT (mI (gT ?_))))));refine cE ?_;refine aP rfl rfl ?_;refine CO ?_;refine gT ?_;refine bT ?_;refine dX ?_;refine Cz ?_;refine bm (mI (aE (aj ?_)));refine ⟨⟨i+1,Yv,rfl,by rw [aC hz,aaW,hall,aa4,aaR,Y3 (fun h=>h.elim hxy hy7)];rfl,hh⟩,by show m-(i+1)<m-i;omega, ?_⟩;exact dO
      ·rw [YG Yv] at hall;rw [YB (by rw [hbd,hall];decide)];have hcn:=fun w1 hb=>ff M m mc ds w1 (hD.ext hb) hm;refine sr ?_;refine a8 (aa (ai (cF (a6 (aH (aH (bB (aj (ai (sr (mL ?_)))))))))));by_cases h9:gH 1 ds=0
       ·rw [YA h9];rw [h9] at hcn;refine bA hh (hcn _ hh.below) rfl ?_;intro w56 hh;refine x6 ?_;refine dh ?_;exact ⟨rfl,hh.below⟩
       ·rw [YB h9];generalize gH 1 ds=N at*;refine bA hh (hcn _ hh.below) rfl ?_;intro w56 hh;refine di (aa (cF (au (aj (sr (aI (aa (ay ?_))))))));refine dh ?_;exact ⟨rfl,hh.below⟩
def kG (B:Nat→Nat) (l:List TR):Prop:=∀t∈l,∀i,ie i t≤B i
theorem kG.mono {B C:Nat→Nat} (h:kG B l) (hb:∀i,B i≤C i):kG C l:=fun t ht i=>Y2 (h t ht i) (hb i)
theorem VI {s t:TR} (h:s.m=t.m) (i:Nat):ie i s=ie i t:=by unfold ie;rw [h]
theorem kG.aF {B:Nat→Nat}{l:List TR} (h:kG B l):kG B (aF l):=fun t ht i=>by
 obtain ⟨s,hs,e⟩:=gZ t ht;rw [←VI e i];exact h s hs i
theorem kG.append {B:Nat→Nat}{k:List TR} (h:kG B l) (h2:kG B k):kG B (l++k):=fun t ht=>(Zb.1 ht).elim (h t) (h2 t)
theorem kG.prod {B C:Nat→Nat}{q:List TR} (hp:kG B p) (hq:kG C q) (h:∀e∈rC p q,e=0):kG (fun i=>B i+C i) (cg p q):=fun t ht i=>by
 obtain ⟨x,hx,ht⟩:=aai.1 ht;obtain ⟨y,hy,rfl⟩:=YR.1 ht;have hz:ki x.m y.m=0:=h _ (aai.2 ⟨x,hx,YR.2 ⟨y,hy,rfl⟩⟩)
 cases ha:x.m.data.toList[i]? with
 |none=>
  have hl:=Ep hz;have hx0:=List.getElem?_eq_none_iff.1 ha;have e:(od x y).m.data.toList[i]?=none:=by
   show (str _).data.toList[i]?=none;rw [dY];exact Y7 (by rw [hl];exact hx0)
  unfold ie;rw [e];exact YD _
 |some a=>
  obtain ⟨_,_,h3,_,_⟩:=oO hz;have hlt:=(YQ.1 ha).1;obtain ⟨b,hb⟩:=ao (l:=y.m.data.toList) (k:=i) Yv;obtain ⟨e1,e2⟩:=Ph hz ha hb;rw [ow (t:=od x y) e1,e2];have h1:=hp x hx i;have h2:=hq y hy i;rw [ow ha] at h1;rw [ow hb] at h2;show a.toNat+b.toNat≤B i+C i;omega
theorem uX {q p:List TR}{sub:List TR→Int×List TR}{j D:Nat}{E:Nat→Nat} (hq:kG (fun x=>if x=j then 1 else 0) q) (hD:∀t∈p,ie j t≤D) (hE:E j=0) (hs:∀n,(sub (ck p j n)).1=0→kG E (sub (ck p j n)).2):
  ∀i,i≤128→(cI q sub p j i).1=0→kG (fun x=>if x=j then i+D-128 else E x) (cI q sub p j i).2
 |0,_,_=>fun t ht=>(nomatch ht)
 |i+1,hi,h0=>by
  have h1:(cI q sub p j i).1=0:=by
   refine aaF fun c=> ?_;rw [pf c (Nat.le_succ i)] at h0;exact c h0
  have ih:=uX hq hD hE hs i Yv h1;have hsb:∀n,(sub (ck p j n)).1=0→kG (fun x=>if x=j then i+1+D-128 else E x) (sub (ck p j n)).2:=fun n hn=>(hs n hn).mono fun x=>by
   by_cases hx:x=j
   ·rw [YA hx,hx,hE];exact YD _
   ·rw [YB hx];exact YE _
  have hpr:ep (cI q sub p j i).2 q=0→kG (fun x=>if x=j then i+1+D-128 else E x) (aF (cg (cI q sub p j i).2 q)):=fun ht=>by
   by_cases hlow:i+D≤127
   ·rw [k7 hD i hlow];exact fun t ht=>(nomatch ht)
   ·refine ((ih.prod hq (lM ht).2.1).mono fun x=> ?_).aF;by_cases hx:x=j
    ·rw [YA hx,YA hx,YA hx];omega
    ·rw [YB hx,YB hx,YB hx];omega
  rw [mV] at h0 ⊢;unfold jD at h0 ⊢;rw [YB (fun h=>h h1)] at h0 ⊢;by_cases c1:(cI q sub p j i).2.length=0∧(ck p j (127-i)).length=0
  ·rw [YA c1,aaA.1 c1.1];exact fun t ht=>(nomatch ht)
  ·rw [YB c1] at h0 ⊢;by_cases c2:ep (cI q sub p j i).2 q≠0
   ·rw [YA c2] at h0;exact absurd h0 c2
   ·rw [YB c2] at h0 ⊢;by_cases c3:(sub (ck p j (127-i))).1≠0
    ·rw [YA c3] at h0;exact absurd h0 c3
    ·rw [YB c3] at h0 ⊢;by_cases c4:gF (aF (cg (cI q sub p j i).2 q)++(sub (ck p j (127-i))).2)≠0
     ·rw [YA c4] at h0;exact absurd h0 c4
     ·rw [YB c4];exact ((hpr Yv).append (hsb _ Yv)).aF
theorem nN (v:Int) (c:NR):kG (fun _=>0) [⟨du v,c⟩]:=fun t ht i=>by
 rw [YT.1 ht]
 cases he:(⟨du v,c⟩:TR).m.data.toList[i]? with
 |none=>unfold ie;rw [he];exact YE _
 |some e=>
  rw [ow he];have hm:=YF he;replace hm:e∈(List.replicate v.toNat (0:UInt8)):=by simpa [du] using hm
  rw [(List.mem_replicate.1 hm).2];exact YE _
theorem H4 {v:Int}:∀(qs:List (List TR)) (j:Nat) (p:List TR) (D:Nat→Nat),(∀(i:Nat) (q:List TR),qs[i]?=some q→kG (fun x=>if x=j+i then 1 else 0) q)→(∀t∈p,∀i,i<qs.length→ie (j+i) t≤D (j+i))→(gU v qs j p).1=0→kG (fun x=>if j≤x∧x<j+qs.length then D x else 0) (gU v qs j p).2:=by
 intro qs
 induction qs with
 |nil=>
  intro j p D _ _ _;exact (nN v _).aF.mono fun x=>YD _
 |cons q qs ih=>
  intro j p D hq hp h0;have hsub:∀n,(gU v qs (j+1) (ck p j n)).1=0→kG (fun x=>if j+1≤x∧x<j+1+qs.length then D x else 0) (gU v qs (j+1) (ck p j n)).2:=fun n hn=>by
   refine ih (j+1) (ck p j n) D (fun i r hr=> ?_) (fun t ht i hi=> ?_) hn
   ·have:=hq (i+1) r (by simpa using hr);rwa [show j+1+i=j+(i+1) by omega]
   ·have:=hp t (kZ t ht) (i+1) (by rw [YZ];omega);rwa [show j+1+i=j+(i+1) by omega]
  have hq0:kG (fun x=>if x=j then 1 else 0) q:=hq 0 q rfl;have hD:∀t∈p,ie j t≤D j:=fun t ht=>hp t ht 0 (by rw [YZ];omega);generalize hgen:gU v qs (j+1)=sub at hsub;have e:∀m,m=128→(cI q sub p j m).1=0→kG (fun x=>if j≤x∧x<j+(q::qs).length then D x else 0) (cI q sub p j m).2:=fun m hm h=>by
   refine (uX hq0 hD (E:=fun x=>if j+1≤x∧x<j+1+qs.length then D x else 0) (by rw [YB Yv]) hsub m Yv h).mono fun x=> ?_;rw [YZ];by_cases hx:x=j
   ·rw [YA hx,YA Yv,hx];omega
   ·rw [YB hx];by_cases h2:j+1≤x∧x<j+1+qs.length
    ·rw [YA h2,YA Yv];exact YE _
    ·rw [YB h2];exact YD _
  have e2:gU v (q::qs) j p=cI q sub p j 128:=by rw [←hgen];rfl
  rw [e2] at h0 ⊢;exact e 128 rfl h0
theorem U9 {i:Nat}{t:TR} (h:t∈l):p6 t.m i≤Cb l i:=by
 induction l using j6 with
 |h0=>cases h
 |hs l x ih=>
  rw [vc]
  rcases Zb.1 h with h|h
  ·have:=ih h;omega
  ·rw [YT.1 h];omega
theorem Rb {i:Nat}{B:Int} (hB:0≤B) (h:∀t∈l,p6 t.m i≤B):0≤Cb l i∧Cb l i≤B:=by
 induction l using j6 with
 |h0=>exact ⟨Int.le_refl _,hB⟩
 |hs l x ih=>
  rw [vc];have h1:=ih fun t ht=>h t (aan _ ht);have h2:=h x (Z5 _ YL);omega
theorem Lp (t:TR) (i:Nat):(ie i t:Int)=p6 t.m i:=by
 unfold ie p6
 cases t.m.data.toList[i]?<;>rfl
def m9 (v:Int) (ts:List TR):List Nat:=(yV v ts).map Int.toNat
theorem AG {v:Int} (h:fj v ts=0):yV v ts=cf (m9 v ts)∧(m9 v ts).length=v.toNat∧∀(i d:Nat),(m9 v ts)[i]?=some d→d≤127∧(∀t∈ts,ie i t≤d)∧((d:Int)=Cb ts i):=by
 obtain ⟨_,_,hm,_⟩:=cB h;have hd:yV v ts=nE v.toNat ts:=YA h;have hb:∀t∈ts,∀i,p6 t.m i≤127:=fun t ht i=>by
  have h1:=hm t ht;unfold eY at h1;rw [YU] at h1;unfold p6
  cases he:t.m.data.toList[i]? with
  |none=>decide
  |some e=>have:=oW h1.1 he;show ((e.toNat:Nat):Int)≤127;omega
 refine ⟨?_,by unfold m9;rw [YO,hd,fW],fun i d hi=> ?_⟩
 ·unfold m9 cf;rw [Zy];refine (List.map_id' _).symm.trans (aaB fun x hx=> ?_);rw [hd] at hx;obtain ⟨i,_,rfl⟩:=YR.1 hx;have:=(Rb (B:=127) Yw fun t ht=>hb t ht i).1;show Cb ts i=((Cb ts i).toNat:Int);omega
 ·unfold m9 at hi;rw [hd,YN] at hi;have hlt:i<v.toNat:=by
   refine aaF fun hc=> ?_;rw [Y7 (by rw [fW];omega)] at hi
   cases hi
  rw [uM ts hlt] at hi;have h1:=Rb (l:=ts) (i:=i) (B:=127) Yw fun t ht=>hb t ht i;have h2:(Cb ts i).toNat=d:=Zl hi;refine ⟨Yv,fun t ht=> ?_,Yv⟩;have h3:=U9 (i:=i) ht;have h4:=Lp t i;omega
def WW (p:Int×Int):Bool:=decide (p.2<p.1∨127<p.2)
def XT (ds es:List Int):Int:=if es.length≠ds.length then 1 else if (ds.zip es).any WW=true then 1 else if 4096<aA (es.map Int.toNat) then 3 else 0
def SZ (a b:List Nat):List Nat:=List.zipWith (· - ·) a b
def Th (ns ts:List Nat) (xs:List Dyadic):List Dyadic:=UR ns (SZ ts ns) xs ((ET (SZ ts ns)).map nD)
def Yh (es ds:List Int):List Int:=List.zipWith (· - ·) es ds
theorem Jv (ts:List Nat):(cf ts).map Int.toNat=ts:=by
 unfold cf;rw [Zy];exact List.map_id' ts
def XO (e:Int):Ending:=.returned (.tuple #[.agg #[.slice none 0 0,.slice none 0 0],.int .i64 e])
def FX.xK (f:FX):HE:=.row f.B f.m f.b 40 3 (aD NR.cells f.cs)
def FX.vQ (f:FX):HE:=.row f.A f.n f.a 3 1 (bQ f.ds)
def UM:List FX→List HE
 |[]=>[]
 |f::fs=>f.xK::f.vQ::UM fs
theorem Hp.iX {H:List HE} (h:Hp w0 H w) {f:FX} (h1:f.xK∈H) (h2:f.vQ∈H):f.at_ w:=⟨jx (h.own _ h2),jx (h.own _ h1)⟩
def VN (a b:List Nat):List Nat:=List.zipWith max a b
def maxD (fs:List FX):List Nat:=fs.foldl (fun a f=>VN a (f.ds.map Int.toNat)) ((fs.map fun f=>f.ds.map Int.toNat).headD [])
def Wp (fs:List FX):Int:=if GY fs≠0 then GY fs else if 4096<aA (maxD fs) then 3 else 0
def FX.ns (f:FX):List Nat:=f.ds.map Int.toNat
theorem FX.fv {f:FX} (h:f.e=0):f.ds=cf f.ns∧f.cs=(f.cs.map NR.d).map nR∧f.ns.length≤12∧(∀d∈f.ns,d≤127)∧f.cs.length=aA f.ns∧aA f.ns≤4096:=by
 obtain ⟨ns,xs,hv,hxs⟩:=V5 h;obtain ⟨h1,h2,h3,h4,h5,h6⟩:=hv;have e:f.ns=ns:=by unfold FX.ns;rw [h1];exact Jv ns
 subst hxs;rw [e];exact ⟨h1,h2,h3,h4,by simpa using h5,h6⟩
structure Yr (D:List Nat) (ys:List Dyadic) (g:FX):Prop where
 ds:g.ds=cf D
 cs:g.cs=ys.map nR
 n:g.n=D.length
 m:g.m=aA D
def Ye (D:List Nat) (f:FX):List Dyadic:=Th f.ns D (f.cs.map NR.d)
def XR (a b:List Nat) (j:Nat):List Nat:=(VN a b).take j++a.drop j
def T7 (a b:List Dyadic):List Dyadic:=List.zipWith (· + ·) a b
def XF:List (List Dyadic)→List Dyadic
 |[]=>[]
 |x::l=>l.foldl T7 x
def X3 (a b:List Dyadic) (j:Nat):List Dyadic:=(T7 a b).take j++a.drop j
def Xz (f g:FX):Int:=if GY [f,g]≠0 then GY [f,g] else if Wv (Tx f.ns g.ns)=true then 3 else 0
def XP (a b:List Nat) (j:Nat):List Nat:=(Tx a b).take j++a.drop j
variable {rs:List Nat}
def X8 (ds es:List Nat) (xs ys:List Dyadic) (i m:Nat):List (Nat×Dyadic):=(List.range m).map fun k=>(iI (Ey ds es) (Ey (dy ds i) (dy es k)),(xs[i]?).getD 0*(ys[k]?).getD 0)
def Ys (ds es:List Nat) (xs ys:List Dyadic) (i:Nat):List (Nat×Dyadic):=(List.range i).flatMap fun i=>X8 ds es xs ys i (aA es)
def bS (rs:List Nat):List UInt8:=(cf rs).map qf
theorem LZ {ns:List Nat} (h:nx ns.reverse rs) (j d r:Nat) (h1:ns[j]?=some d) (h2:rs.reverse[j]?=some r):r≤d:=by
 have hl:=zZ h;rw [Zs] at hl;have hj:=(YQ.1 h1).1;rw [Z4 Yv] at h2;refine MU h ?_ h2;rw [Z4 Yv,show ns.length-1-(rs.length-1-j)=j by omega];exact h1
theorem Js {ns:List Nat} (h:∀d∈ns,d≤127) (hc:aA ns≤4096):oE (cf ns)=aA ns:=by
 have e1:(cf ns).any (fun d=> !cJ d)=false:=aaa.2 fun d hd=>by
  unfold cf at hd;obtain ⟨x,hx,rfl⟩:=YR.1 hd;have:=h x hx;simp [cJ];omega
 unfold oE;rw [e1,YB Yw];have h2:=vi ns 1 Yw Yw;have h3:xF 1 (cf ns)=((min (1*aA ns) 4097:Nat):Int):=h2;rw [h3];omega
def OU (ns:List Nat) (a:Nat):List Nat:=ns.set a (ns.getD a 0+1)
def Yf (ns:List Nat) (a:Nat) (xs:List Dyadic):List Dyadic:=
 (List.range (aA (OU ns a))).map fun p=>co ns.reverse xs (dy (OU ns a).reverse p)+if 0<(dy (OU ns a).reverse p).getD (ns.length-1-a) 0 then co ns.reverse xs (WQ (dy (OU ns a).reverse p) (ns.length-1-a)) else 0
theorem k6:∀(ds rs:List Nat),nx ds rs↔rs.length=ds.length∧∀(i d r:Nat),ds[i]?=some d→rs[i]?=some r→r≤d
 |[],[]=>by simp [nx]
 |[],_::_=>by simp [nx]
 |_::_,[]=>by simp [nx]
 |d::ds,r::rs=>by
  rw [nx,k6 ds rs];constructor
  ·rintro ⟨h1,h2,h3⟩;refine ⟨by rw [YZ,YZ,h2],fun i e s he hs=> ?_⟩
   cases i with
   |zero=>cases he;cases hs;exact h1
   |succ i=>exact h3 i e s he hs
  ·rintro ⟨h1,h2⟩;exact ⟨h2 0 d r rfl rfl,by simpa using h1,fun i e s he hs=>h2 (i+1) e s he hs⟩
def XG (ns:List Nat) (xs:List Dyadic) (cs:List Nat) (zs:List Dyadic):Prop:=zs.length=aA cs∧cs.length=ns.length∧(∀(i n c:Nat),ns[i]?=some n→cs[i]?=some c→n≤c)∧∀row:List Nat,row.length=ns.length→co cs.reverse zs row=Xw (SZ cs ns).reverse (co ns.reverse xs) row
structure NN (p:PX) (b:List SR) (ns:List Nat):Prop where
 e:p.e=0
 box:g9 b=0
 pos:0<b.length
 KQ:b.length≤12
 v:p.v=b.length
 nl:ns.length=b.length
 low:∀d∈ns,d≤127
 most:aA ns≤4096
 own:∀(i d:Nat),ns[i]?=some d→∀t∈p.ts,ie i t≤d
theorem T9 {p:PX}{b:List SR}{D:List Int} (h:uh p b D=0):D=cf (D.map Int.toNat)∧NN p b (D.map Int.toNat):=by
 unfold uh at h;by_cases h0:p.e≠0
 ·rw [YA h0] at h;exact absurd h h0
 ·rw [YB h0] at h;by_cases h1:g9 b≠0
  ·rw [YA h1] at h;exact absurd h h1
  ·rw [YB h1] at h;by_cases h2:(b.length:Int)≠p.v∨(D.length:Int)≠p.v
   ·rw [YA h2] at h;exact absurd h Yw
   ·rw [YB h2] at h;by_cases h3:Fk (yV p.v p.ts) D=true
    ·rw [YA h3] at h;exact absurd h Yw
    ·rw [YB h3] at h;by_cases h4:gH 1 D=0
     ·rw [YA h4] at h;exact absurd h Yw
     ·have hpe:p.e=0:=aaS.1 h0;obtain ⟨f1,_,_,_⟩:=cB hpe;have f2:=eF.1 f1;obtain ⟨o1,o2,o3⟩:=AG hpe;have hbv:(b.length:Int)=p.v:=aaS.1 fun c=>h2 (.inl c);have hdv:(D.length:Int)=p.v:=aaS.1 fun c=>h2 (.inr c);have hD:∀(i:Nat) (y:Int),D[i]?=some y→∃d:Nat,(m9 p.v p.ts)[i]?=some d∧(d:Int)≤y∧y≤127:=fun i y hy=>by
       have hi:=(YQ.1 hy).1;obtain ⟨d,hd⟩:=ao (l:=m9 p.v p.ts) (k:=i) Yv;have hg:(yV p.v p.ts)[i]?=some (d:Int):=by rw [o1];exact iG hd
       have:=aaa.1 ((Bool.not_eq_true _).mp h3) _ (YF (HJ hg hy));rw [YY] at this;exact ⟨d,hd,by show (d:Int)≤y;omega,by show y≤127;omega⟩
      have hnat:D=cf (D.map Int.toNat):=by
       unfold cf;rw [Zy];refine (List.map_id' _).symm.trans (aaB fun y hy=> ?_);obtain ⟨i,hi⟩:=aaj.1 hy;obtain ⟨d,_,h5,_⟩:=hD i y hi;show y=((y.toNat:Nat):Int);omega
      have hlow:∀d∈D.map Int.toNat,d≤127:=fun d hd=>by
       obtain ⟨y,hy,rfl⟩:=YR.1 hd;obtain ⟨i,hi⟩:=aaj.1 hy;obtain ⟨_,_,_,h6⟩:=hD i y hi;omega
      refine ⟨hnat,hpe,aaS.1 h1, ?_,Yv,hbv.symm,by rw [YO];omega,hlow, ?_,fun i d hd t ht=> ?_⟩
      ·rcases aak b.length with c|c
       ·have h9:=aaS.1 h1;unfold g9 at h9;rw [aaA.1 c] at h9;exact absurd h9 Yw
       ·exact c
      ·have h8:=lj (D.map Int.toNat) 1 (YE _) Yw hlow;rw [←hnat,aaH] at h8;rw [show gH 1 D=gH ((1:Nat):Int) D from rfl,h8] at h4;exact aaS.1 fun c=>h4 (YB c)
      ·rw [YN] at hd;obtain ⟨y,hy,hyd⟩:=aao.1 hd;obtain ⟨d2,h7,h8,h9⟩:=hD i y hy;have:=(o3 i d2 h7).2.1 t ht;omega
theorem NN.It {p:PX}{b:List SR}{ns:List Nat} (h:NN p b ns):(m9 p.v p.ts).length=b.length:=by
 rw [(AG h.e).2.1,h.v];exact ZL _
theorem Bb (v i:Nat) (c:NR):kG (fun x=>if x=i then 1 else 0) [⟨j3 v i,c⟩]:=fun t ht j=>by
 rw [YT.1 ht]
 cases he:(⟨j3 v i,c⟩:TR).m.data.toList[j]? with
 |none=>unfold ie;rw [he];exact YD _
 |some e=>
  rw [ow he];show e.toNat≤if j=i then 1 else 0
  have e1:((List.replicate v (0:UInt8)).set i 1)[j]?=some e:=by simpa [j3] using he
  rw [aal] at e1;by_cases hj:i=j
  ·rw [YA hj] at e1;rw [YA hj.symm];split at e1
   ·rw [←Zl e1];decide
   ·cases e1
  ·rw [YB hj] at e1;rw [(List.mem_replicate.1 (YF e1)).2];exact YD _
theorem Jy (v i:Nat) (s:SR):kG (fun x=>if x=i then 1 else 0) (ka v i s):=by
 refine kG.aF (kG.append ((nN v _).aF.mono fun x=>YD _) (kG.aF fun t ht j=> ?_));obtain ⟨z,hz,rfl⟩:=YR.1 ht;rw [show ie j (nP (s.H-s.L) z)=ie j z from rfl];exact (Bb v i _).aF z hz j
theorem IL {p:PX}{b:List SR}{ns:List Nat} (h:NN p b ns) (ho:ja k p.ts) (hb:∀s∈b,s.fin k) (hk:k≤1000) (hgr:gQ (k+k+16394) (m9 p.v p.ts) (k+1)≤440000) (h0:(eH p (cO b)).1=0):
  lr b.length 440000 (eH p (cO b)).2∧∀t∈(eH p (cO b)).2,nx ns.reverse (cV t.m).reverse:=by
 have hl:=h.KQ;have hpos:=h.pos;have hln:=qz b;obtain ⟨_,o2,o3⟩:=AG h.e;have hol:=h.It;have hhv:fI (cO b)=b.length:=by
  obtain ⟨s,hs⟩:=ao (l:=b) (k:=0) Yv;rw [jV (kL hs)]
 unfold eH at h0 ⊢;rw [YB (fun c=>c h.e),YB (by rw [hln,h.v];exact fun c=>c rfl)] at h0 ⊢;by_cases hlk:(cO b).length≠0∧eE (cO b)≠0
 ·rw [YA hlk] at h0;exact absurd h0 hlk.2
 ·rw [YB hlk,hhv] at h0 ⊢;have hq:∀q∈(cO b).map PX.ts,lr b.length (k+k+10) q∧q.length≤2:=fun q hq=>by
   obtain ⟨g,hg,rfl⟩:=YR.1 hq;obtain ⟨i,s,hs,rfl⟩:=EY hg;exact sE hl (hb s (YF hs)) Yv
  have h1:=Gy (eW hl) (show k+k+10+4096*2+8192≤k+k+16394 by omega) ((cO b).map PX.ts) 0 p.ts (m9 p.v p.ts) k hq ho (by rw [YO,hln,hol]) (fun i d hd=>⟨(o3 i d hd).1,fun t ht=>by rw [Y0];exact (o3 i d hd).2.1 t ht⟩) Yv h0;refine ⟨h1.mono hgr, ?_⟩;have h2:=H4 ((cO b).map PX.ts) 0 p.ts (fun i=>(ns[i]?).getD 0) (fun i q hi=> ?_) (fun t ht i hi=> ?_) h0
  ·intro t ht;have hm:=(cB h1.e).2.2.1 t ht;unfold eY at hm;rw [YU,YY] at hm;have hsz:(cV t.m).length=b.length:=by rw [k9];omega
   rw [k6];refine ⟨by rw [Zs,Zs,hsz,h.nl],fun i d r hd hr=> ?_⟩;have hi:=(YQ.1 hd).1;rw [Zs] at hi;rw [Z4 hi] at hd;rw [Z4 (by rw [hsz,←h.nl];exact hi),hsz,←h.nl] at hr;have h3:=h2 t ht (ns.length-1-i);dsimp only at h3;rw [YO,hln,YA ⟨YD _,by have:=h.nl;omega⟩,hd,uw,hr] at h3;exact h3
  ·rw [YN] at hi;obtain ⟨g,hg,rfl⟩:=aao.1 hi;obtain ⟨s,hs⟩:=ao (l:=b) (k:=i) (by have:=(YQ.1 hg).1;rwa [hln] at this);rw [kL hs] at hg;rw [←Zl hg,Y0];exact Jy _ i s
  ·rw [YO,hln] at hi;rw [Y0];obtain ⟨d,hd⟩:=ao (l:=ns) (k:=i) (by rw [h.nl];exact hi);rw [hd];exact h.own i d hd t ht
variable {C:List Dyadic}{kb:Nat}
def AH (ds:List Nat) (X:List Dyadic):Nat→List Dyadic
 |0=>X
 |k+1=>iq ds (ds.length-1-k) (fm (ds.getD (ds.length-1-k) 0) 1 (-1)) (AH ds X k)
theorem vW (ds:List Nat) (X:List Dyadic) (k:Nat):AH ds X (k+1)=iq ds (ds.length-1-k) (fm (ds.getD (ds.length-1-k) 0) 1 (-1)) (AH ds X k):=rfl
theorem Pb (h:X.length=aA ds) (k:Nat):(AH ds X k).length=aA ds:=by
 cases k with
 |zero=>exact h
 |succ k=>rw [vW,qi]
theorem JL {a d:Nat} (hx:∀x∈X,Sz k x) (hd:ds.getD a 0=d) (hd7:d≤127):∀x∈iq ds a (fm d 1 (-1)) X,Sz (k+520) x:=fun x h=>by
 obtain ⟨p,_,rfl⟩:=YR.1 h;have hr:(dy ds p).getD a 0≤d:=by rw [←hd];exact uV a (lO ds p)
 have h2:=Cr (l:=List.range (ds.getD a 0+1)) (f:=fun i=>co ds X ((dy ds p).set a i)*fm d 1 (-1) i ((dy ds p).getD a 0)) (k:=k+(130+2*(1*d))) fun i _=>by
  refine Sz.mul ?_ (Br Sz.one (show Sz 1 (-1:Dyadic) from Sz.one.neg) hd7 hr);exact Ra
 rw [aav,hd] at h2;rw [hd];exact h2.mono Yv
theorem Fc {ds:List Nat}{X:List Dyadic}{k:Nat} (h:∀x∈X,Sz k x) (hd:∀d∈ds,d≤127):∀i,∀x∈AH ds X i,Sz (k+520*i) x
 |0=>h
 |i+1=>fun x hx=>(JL (Fc h hd i) rfl (Dl hd _) x hx).mono Yv
def mu (b:List SR) (i:Nat):Dyadic:=match b[i]? with|some s=>s.H-s.L|none=>0
def wP (b:List SR) (ns es:List Nat):Nat→Dyadic
 |0=>1
 |i+1=>wP b ns es i*mu b i^(ns.getD i 0-es.getD i 0)
def fg (ns:List Nat) (p:Nat):List Nat:=(dy ns.reverse p).reverse
def JW (b:List SR) (ns:List Nat) (C:List Dyadic) (p:Nat):TR:=⟨fX (cf (fg ns p)),nR (iX C p*wP b ns (fg ns p) b.length)⟩
def ll (b:List SR) (ns:List Nat) (C:List Dyadic):List TR:=(List.range (aA ns)).map (JW b ns C)
def mh (v i:Nat) (s:SR):List TR:=aF (kt v i++fP v (-s.L))
def gM (b:List SR):List PX:=b.mapIdx fun i s=>⟨b.length,none,0,0,mh b.length i s⟩
theorem nW {b:List SR}{i:Nat}{s:SR} (h:b[i]?=some s):(gM b)[i]?=some ⟨b.length,none,0,0,mh b.length i s⟩:=by
 unfold gM;rw [abd,h]
 rfl
theorem tm (b:List SR):(gM b).length=b.length:=by unfold gM;rw [List.length_mapIdx]
theorem rg {v i:Nat}{s:SR} (h:v≤12) (hs:s.fin k) (hk:k≤100000):lr (v:Int) (k+10) (mh v i s)∧(mh v i s).length≤2:=by
 have h1:=rG (i:=i) h;have h2:=lU h (SR.Oy hs).neg Yv;have hl:(kt v i++fP v (-s.L)).length≤2:=by
  rw [YK];have a1:(kt v i).length≤1:=bK _;have a2:(fP v (-s.L)).length≤1:=bK _;omega
 have hm:∀{P:TR→Prop},(∀t∈kt v i,P t)→(∀t∈fP v (-s.L),P t)→∀t∈kt v i++fP v (-s.L),P t:=fun a b t ht=>(Zb.1 ht).elim (a t) (b t);refine ⟨(iO (k:=k+4) (n:=2) (eW h) (hm (cB h1.e).2.2.1 (cB h2.e).2.2.1) (hm (h1.ok.mono Yv) (h2.ok.mono Yv)) (hm h1.sz h2.sz) hl Yw Yv).mono Yv,Y2 (bK _) hl⟩
theorem OL {r:List Nat} (h:∀d∈r,d≤255):cV (fX (cf r))=r:=by
 unfold cV fX cf;rw [dY,Zy,Zy];refine (aaB fun d hd=> ?_).trans (List.map_id r);have:=h d hd;show (qf (d:Int)).toNat=d;obtain ⟨c,hc,e⟩:=Ms (l:=[d]) (i:=0) rfl this;unfold fX cf at hc;rw [dY] at hc;rw [show qf (d:Int)=c from Zl hc];exact e
theorem GC {ns:List Nat} (p:Nat):nx ns.reverse (fg ns p).reverse:=by unfold fg;rw [aaT];exact lO _ _
theorem iC (ns:List Nat) (p:Nat):(fg ns p).length=ns.length:=by
 have:=zZ (GC (ns:=ns) p);rwa [Zs,Zs] at this
theorem oP {ns:List Nat}{p i d r:Nat} (hd:ns[i]?=some d) (hr:(fg ns p)[i]?=some r):r≤d:=by
 have h1:=(YQ.1 hd).1;have h2:=iC ns p;refine ((k6 _ _).1 (GC (ns:=ns) p)).2 (ns.length-1-i) d r ?_ ?_
 ·rw [Z4 Yv,show ns.length-1-(ns.length-1-i)=i by omega];exact hd
 ·rw [Z4 Yv,show (fg ns p).length-1-(ns.length-1-i)=i by omega];exact hr
theorem Dz {ns:List Nat}{B p:Nat} (h:∀d∈ns,d≤B):∀r∈fg ns p,r≤B:=fun r hr=>by
 obtain ⟨i,hi⟩:=aaj.1 hr;have h1:=(YQ.1 hi).1;rw [iC] at h1;obtain ⟨d,hd⟩:=ao (l:=ns) (k:=i) h1;exact Y2 (oP hd hi) (h d (YF hd))
theorem rZ {ns:List Nat}{p:Nat} (h:∀d∈ns,d≤127):cV (fX (cf (fg ns p)))=fg ns p:=OL fun r hr=>Y2 (Dz h r hr) Yw
theorem qR (b:List SR) (ns:List Nat) (C:List Dyadic):(ll b ns C).length=aA ns:=by simp [ll]
theorem Pd {b:List SR}{ns:List Nat}{p:Nat} (h:p<aA ns):(ll b ns C)[p]?=some (JW b ns C p):=by
 unfold ll;rw [YN,Zx h]
 rfl
theorem LF {b:List SR}{ns es:List Nat}{k:Nat} (hb:∀s∈b,s.fin k):∀i,i≤ns.length→Sz (1+i+(k+1)*(ns.take i).sum) (wP b ns es i)
 |0,_=>Sz.one.mono Yv
 |i+1,hi=>by
  have h1:=LF (es:=es) (ns:=ns) hb i Yv;obtain ⟨d,hd⟩:=ao (l:=ns) (k:=i) hi;have hg:ns.getD i 0=d:=by rw [Zo,hd];rfl
  have hw:Sz (k+1) (mu b i):=by
   unfold mu
   cases h:b[i]? with
   |none=>exact Sz.zero _
   |some s=>exact ((SR.Sx (hb s (YF h))).sub (SR.Oy (hb s (YF h)))).mono Yv
  have h2:=hw.CF (show ns.getD i 0-es.getD i 0≤d by omega);have h3:=h1.mul h2;rw [aC hd,List.sum_append,List.sum_singleton,Zt];exact h3.mono Yv
theorem KH {b:List SR}{ns:List Nat}{K:Nat} (hb:∀s∈b,s.fin k) (hbl:b.length=ns.length) (hC:∀x∈C,Sz K x) (hlow:∀d∈ns,d≤127) (hN:ns.length≤100000) (hK:K+(1+ns.length+(k+1)*ns.sum)≤2999000):ja (K+(1+ns.length+(k+1)*ns.sum)) (ll b ns C)∧(∀t∈ll b ns C,eY (ns.length:Int) t=true)∧(∀t∈ll b ns C,t.m.size≤100000∧∃p,cV t.m=fg ns p):=by
 refine ⟨fun t ht=> ?_,fun t ht=> ?_,fun t ht=> ?_⟩
 ·obtain ⟨p,hp,rfl⟩:=YR.1 ht;have h1:=LF (ns:=ns) (es:=fg ns p) hb ns.length (YE _);rw [abr] at h1;have h2:=(Aa hC p).mul h1;show (nR (iX C p*wP b ns (fg ns p) b.length)).ok∧Sz _ (nR (iX C p*wP b ns (fg ns p) b.length)).d;rw [hbl,cj];exact ⟨h2.ok Yv,h2⟩
 ·obtain ⟨p,hp,rfl⟩:=YR.1 ht;have h1:=rZ (p:=p) hlow;have h2:(fX (cf (fg ns p))).size=ns.length:=by rw [←k9,h1,iC]
  unfold eY;rw [YU,YY];refine ⟨?_,by show ((fX (cf (fg ns p))).size:Int)=_;rw [h2]⟩;unfold eK;rw [Y6];intro c hc;have:c.toNat∈cV (fX (cf (fg ns p))):=YR.2 ⟨c,hc,rfl⟩;rw [h1] at this;exact YV (by have:=Dz hlow c.toNat this;omega)
 ·obtain ⟨p,hp,rfl⟩:=YR.1 ht;have h1:=rZ (p:=p) hlow;have h2:(fX (cf (fg ns p))).size=ns.length:=by rw [←k9,h1,iC]
  exact ⟨by show (fX (cf (fg ns p))).size≤100000;omega,p,h1⟩
theorem NV {b:List SR}{ns:List Nat} (h12:ns.length≤12) (hm:∀t∈ll b ns C,eY (ns.length:Int) t=true) (hc:aA ns≤4096):r7 (ns.length:Int) (ll b ns C)=0:=by
 have hl:=qR b ns C;unfold r7;rw [YB,YB Yv,fB Yv];rintro (h|h)
 ·rw [eW h12] at h;cases h
 ·obtain ⟨t,ht,h2⟩:=aag.1 h;rw [hm t ht] at h2
  cases h2
theorem I0 {b:List SR}{os:List PX}{R:List HE} (hcp:BV ((gM b).map fun g=>⟨g.v,none,g.ts.length,0,g.ts⟩) os R) (hol:os.length=b.length) (h12:b.length≤12) (hb:∀s∈b,s.fin kb) (hkb:kb≤1000):∀o∈os,o.j8 (kb+10)∧o.ts.length≤2:=fun o ho=>by
 obtain ⟨j,hj⟩:=aaj.1 ho;have hjn:j<os.length:=(YQ.1 hj).1;obtain ⟨s,hs⟩:=ao (l:=b) (k:=j) Yv;obtain ⟨po,pl⟩:=rg (v:=b.length) (i:=j) h12 (hb s (YF hs)) Yv;have hx:=nW hs;generalize mh b.length j s=Q at hx po pl;obtain ⟨e1,e2,e3⟩:=hcp.eq j ⟨b.length,none,Q.length,0,Q⟩ o (by rw [YN,hx];rfl) hj;replace e2:o.ts=Q:=e2;replace e3:o.n=Q.length:=e3;exact Q4
theorem z6 (L:Option Addr) (n c d:Nat) (xs:List Dyadic) (k:Nat) (w:World) (hT:e8 w) (hS:Sl w L n 3 (aD NR.cells (xs.map nR))) (hn:n=d+1) (hd:d≤127) (hx:∀x∈xs,Sz k x) (hk:k≤500000):
  Calls Tryz.prog 50 #[.slice L n c] w fun r w'=>∃A c',r=.returned (.slice A n c')∧Hp w [.row A n c' 40 3 (aD NR.cells ((lS d (fm d 1 1) xs).map nR))] w':=by
 have hh:=Hp.start w;have hln:xs.length=n:=by have:=hS.bh NR.len Yw;simpa using this
 have ha:Sz 1 1:=Sz.one;obtain ⟨ad,rfl,hr⟩:=hS.at_ Yv;refine ak (N:=52) (l:=[.slice (some ad) n c]) Tryz.func50 rfl rfl (by simp) ?_;refine sr (aL (aa (sr (mL (aK ?_)))));refine eP (aI (aa (sr (mI ?_))));refine bm ?_;refine Mc ?_;intro b14 w14 hh;refine tE ?_;rw [pE,hn,←wO d 1 1 xs,←hn] at hh;refine aT [5,6,7,8,17,18,19,20,21,22,23,24,25,26,27,28,29,30,31,32,33,34,35,36,37,38,39,40,41,42,43,44,45,46,47,48,49,50] 17
  (fun v w'=>∃i:Nat,i≤n∧v=.int .i64 i∧Hp w [.row (some ⟨b14,0,none⟩) n n 40 3 (aD NR.cells ((jl d 1 1 xs i 0).map nR))] w')
  (fun v _=>n-(intOf v).toNat) ?_ ?_
 ·exact ⟨0,YD _,rfl,hh⟩
 ·clear hh;rintro ρ' v w' ⟨i,hi,rfl,hh⟩;by_cases hlt:i<n
  ·obtain ⟨x,hxi⟩:=ao (l:=xs) (k:=i) Yv;have hxn:(xs.map nR)[i]?=some (nR x):=by rw [YN,hxi];rfl
   have hat:iX xs i=x:=by unfold iX;rw [hxi];rfl
   have zx:=hx x (YF hxi);have hch:=fun w1 hT1=>l5 (d-i) w1 hT1 Yv;refine sr ?_;refine e9 ?_;refine cE ?_;refine LL ?_;refine bW hh ?_;intro b6 w6 hh;refine aI ?_;refine bV hh 0 [_,_,_] ?_;intro ws hh;replace hh:Hp _ (.blk _ _ [_,_,_] _::_) _:=hh;refine aa (sr (mI (mI ?_)));refine eP ?_;have e24:(n:Int)-1-(i:Int)=((d-i:Nat):Int):=Yv;rw [←e24] at hch;refine aJ (hch _ (hT.hp hh)) aw.out rfl Yw ?_;rintro e_ w25 ⟨A25,c25,rfl,hown_,hb_⟩;refine ⟨_,rfl, ?_⟩;replace hh:=hh.aY (x:=.row _ _ _ _ _ _) hb_ hown_;refine aK (mI (aa (av ?_)));replace hh:=hh.sub (YC _ (YC _ (YC _ Y5)));refine aT [7,8,27,28,29,30,31,32,33,34,35,36,37,38,39,40,41,42,43,44,45,46,47,48,49] 27
    (fun v w'=>∃j:Nat,j≤d-i+1∧v=.int .i64 j∧Hp w [.row A25 (d-i+1) c25 40 3 (aD NR.cells (mz (d-i))),.blk b6 40 [.bool (nR x).neg,.string (nR x).bj,.int .i64 (nR x).e] (0,0),.row (some ⟨b14,0,none⟩) n n 40 3 (aD NR.cells ((jl d 1 1 xs i j).map nR))] w')
    (fun v _=>d-i+1-(intOf v).toNat) ?_ ?_
   ·exact ⟨0,YD _,rfl,hh⟩
   ·clear hh;rintro ρ2 v w2 ⟨j,hj,rfl,hh⟩;by_cases hjn:j<d-i+1
    ·have hbn:(mz (d-i))[j]?=some (nR (nD (bin (d-i) j))):=lB Yv;have zb:=sA (d-i) j Yv;obtain ⟨o,ho⟩:=ao (l:=jl d 1 1 xs i j) (k:=i+j) (by rw [k8];omega);have hon:((jl d 1 1 xs i j).map nR)[i+j]?=some (nR o):=by rw [YN,ho];rfl
     have zo:=Hi (j:=j) hx ha ha hd (show i≤d+1 by omega) o (YF ho);have zy:=zx.mul zb;have hm2:=fun A cc w1 hT1 hS1=>fS A 2 cc [nR x,nR (nD (bin (d-i) j))] w1 hT1 hS1 (by simpa using ⟨zx.ok Yv,zb.ok Yv⟩) 600000 (by simpa [cj] using ⟨zx.mono Yv,zb.mono Yv⟩) Yv Yv;rw [show iZ ([nR x,nR (nD (bin (d-i) j))].map NR.d)=x*nD (bin (d-i) j) by simp only [Y1,Zp,cj];show 1*x*_=_;rw [aaJ]] at hm2;have hset:=Df (show i+j≤d by omega) ho;have hval:iX xs i*fm d 1 1 i (i+j)=x*nD (bin (d-i) j):=by
      unfold fm;rw [hat,YB Yv,show i+j-i=j by omega,mi,mi];generalize nD (bin (d-i) j)=u;grind
     rw [hval] at hset;generalize x*nD (bin (d-i) j)=y at*;have hsum:=fun A cc w1 hT1 hS1=>jM A 2 cc [nR o,nR y] w1 hT1 hS1 (by simpa using ⟨zo.ok Yv,zy.ok Yv⟩) 2000000 (by simpa [cj] using ⟨zo.mono Yv,zy.mono Yv⟩) Yv;rw [show oK ([nR o,nR y].map NR.d)=o+y by simp only [Y1,Zp,cj,mA]] at hsum;have hll:((jl d 1 1 xs i j).map nR).length=n:=by rw [YO,k8];omega
     generalize jl d 1 1 xs i j=S at*;have hrl:=eS NR.len (S.map nR);obtain ⟨gw,rfl⟩:=hh.cK (i:=0) rfl Yv;refine sr ?_;refine e9 ?_;refine nQ ?_;refine QH ?_;refine bW hh ?_;intro b8 w8 hh;refine aI ?_;refine bV hh 0 [_,_,_] ?_;intro ws hh;replace hh:Hp _ (.blk _ _ [_,_,_] _::_) _:=hh;refine aa ?_;refine aW 16 [[(4,none)],[(5,none)],[(7,none)],[(33,some 1),(34,some 2)],[(4,none)],[(5,none)],[(7,none)],[(37,some 5),(38,some 6)],[(36,some 4),(39,some 7)],[(40,some 8)],[(6,none)],[(8,none)],[(42,some 10),(43,some 11)],[(44,some 12)],[(41,some 9),(45,some 13)],[(46,some 14)]] [(15,47),(14,46),(13,45),(12,44),(11,43),(10,42),(9,41),(8,40),(7,39),(6,38),(5,37),(4,36),(3,35),(2,34),(1,33),(0,32)] hh mixed Yx ?_;refine eQ ?_;refine cZ ?_;refine cZ ?_;refine r6 ?_;refine eQ ?_;refine cZ ?_;refine cZ ?_;refine r6 ?_;refine N2 ((i+j)) ?_;refine nF [_,_,_] (fun _ hj=>hj.hp.iu (f:=NR.cells) (x:=nR o) (l:=S.map nR) (i:=3) rfl NR.len Yw hon) ?_;refine ef 2 [_,_,_] ?_;refine ef 0 [_,_,_] ?_;refine pL [_,_,_,_,_,_] ?_
     refine aO (i:=13) (Is (.agg #[.bool (nR y).neg,.string (nR y).bj,.int .i64 (nR y).e])) Is.ext ?_ ?_
     ·intro ρ1 w1 hj hR;obtain ⟨A44,c44,h44,s44⟩:=hR.1;exact bk rfl (aV aw.out (az h44 bf)) (hm2 A44 c44 _ (hT.hp hj.hp) s44) (fun _ _ hq=>⟨_,hq.1,hq.2,rfl⟩)
     refine pL [_,_,_,_,_,_] ?_;refine aO (i:=15) (Is (.agg #[.bool (nR (o+y)).neg,.string (nR (o+y)).bj,.int .i64 (nR (o+y)).e])) Is.ext ?_ ?_
     ·intro ρ1 w1 hj hR;obtain ⟨A46,c46,h46,s46⟩:=hR.1;exact bk rfl (aV aw.out (az h46 bf)) (hsum A46 c46 _ (hT.hp hj.hp) s46) (fun _ _ hq=>⟨_,hq.1,hq.2,rfl⟩)
     refine aM ?_;intro f W hJ hV;have hb_9:=hJ.bl;obtain ⟨v47,v46,v45,v44,v43,v42,v41,v40,v39,v38,v37,v36,v35,v34,v33,v32,_⟩:=hV;obtain ⟨A44,c44,e44,f44⟩:Rows _ _ _ (f 12) W:=v44;obtain ⟨A46,c46,e46,f46⟩:Rows _ _ _ (f 14) W:=v46;replace hh:=hJ.hp;refine aQ (bg (ae v47 (ae e46 (ae v45 (ae e44 (ae v43 (ae v42 (ae v41 (ae v40 (ae v39 (ae v38 (ae v37 (ae v36 (ae v35 (ae v34 (ae v33 (ae v32 aR))))))))))))))))) ?_;dsimp only [bO];clear e44 e46 hJ;exact RJ
    ·exact RE
  ·obtain rfl:i=n:=Yv;rw [show jl d 1 1 xs i 0=lS d (fm d 1 1) xs by rw [hn,xP]] at hh;exact Uf
def Xh (w:World) (b i:Nat):Int:=match w.cell? ⟨b,0,none⟩ with
 |some (.slice (some a) _ _)=>match w.cell? (a.add (i*1)) with
  |some (.int _ z)=>z
  |_=>0
 |_=>0
structure RS (ns ts:List Nat) (xs:List Dyadic) (k n:Nat) (F FC:Option Addr) (c1 c2 i T:Nat) (cur:List Nat) (zs:List Dyadic) (A B:Option Addr) (ca cb:Nat) (R:List HE) (w:World):Prop where
 X4:XG ns xs cur zs
 le:∀(j c t:Nat),cur[j]?=some c→ts[j]?=some t→c≤t
 eq:∀(j c t:Nat),j<i→cur[j]?=some c→ts[j]?=some t→c=t
 sz:∀x∈zs,Sz (k+T) x
 src:(A=F∧ca=c1∧B=FC∧cb=c2∧cur=ns∧zs=xs)∨R=[.row B (aA cur) cb 40 3 (aD NR.cells (zs.map nR)),.row A n ca 3 1 (bQ (cf cur))]
 rd:∀(H:List HE) (w':World),Hp w (H++R) w'→Sl w' A n 1 (bQ (cf cur))∧Sl w' B (aA cur) 3 (aD NR.cells (zs.map nR))
theorem rP (f:FX) (k:Nat) (w:World) (h:f.at_ w) (hl:f.j8 k):
  Calls Tryz.prog 31 #[.agg #[.slice f.A f.n f.a,.slice f.B f.m f.b]] w fun r w'=>r=.returned (.int .i64 f.e)∧Below w.heap.size w w':=
 xu f.A f.B f.n f.a f.m f.b f.ds f.cs w h.dg h.nm (by have:=hl.V2;omega) fun a ha=>(hl.num a ha).1
theorem FX.at_.ln {g:FX} (h:g.at_ w):g.ds.length=g.n∧g.cs.length=g.m:=⟨by have:=h.dg.1;rw [cD] at this;omega,h.nm.bh NR.len Yw⟩
def Kept (fs:List FX) (R:List HE) (g:FX):Prop:=g∈fs∨(g.xK∈R∧g.vQ∈R)
def UA (E:Int) (D:List Nat):List Int:=if E=0 then cf D else []
def VK (E:Int) (ys:List Dyadic):List NR:=if E=0 then ys.map nR else []
structure Out (E:Int) (D:List Nat) (ys:List Dyadic) (g:FX):Prop where
 ds:g.ds=UA E D
 cs:g.cs=VK E ys
 n:g.n≤100000
 m:g.m≤1000000
def FX.nil:FX:=⟨none,0,0,none,0,0,[],[]⟩
theorem Hp.U1 {H:List HE} (h:Hp w0 H w):Hp w0 (FX.nil.xK::FX.nil.vQ::H) w:=(h.cN 3 1).cN 40 3
theorem Out.err {D:List Nat}{ys:List Dyadic} (h:E≠0):Out E D ys FX.nil:=⟨by unfold UA;rw [YB h];rfl,by unfold VK;rw [YB h];rfl,YD _,YD _⟩
theorem tY (g h:FX) (w:World) (hg:g.at_ w) (hh:h.at_ w) (e:g.ds=h.ds∧g.cs=h.cs) (hn:g.n≤100000) (hm:g.m≤1000000):
  Calls Tryz.prog 24 #[.agg #[.slice g.A g.n g.a,.slice g.B g.m g.b],.agg #[.slice h.A h.n h.a,.slice h.B h.m h.b]] w fun r w'=>r=.returned (.bool true)∧Below w.heap.size w w':=by
 have l1:=hg.ln;have l2:=hh.ln;obtain ⟨hg1,hg2⟩:=hg;obtain ⟨hh1,hh2⟩:=hh;have e1:h.n=g.n:=by rw [←l1.1,←l2.1,e.1]
 have e2:h.m=g.m:=by rw [←l1.2,←l2.2,e.2]
 rw [←e.1,e1] at hh1;rw [←e.2,e2] at hh2;rw [e1,e2];exact Ar g.A g.B g.n g.a g.m g.b h.A h.B h.a h.b g.ds g.cs w hg1 hg2 hh1 hh2 hn hm
def Wt (f:FX) (es:List Int):Int:=if f.e≠0 then f.e else XT f.ds es
def FX.key (f:FX):List Int×List NR×Nat:=(f.ds,f.cs,f.n)
variable {M:List Nat}{N b m:Nat}{P:Program}{R:Ending→World→Prop}{args:Array Operand}{assign body:Code}{ops:Array Oper}{pos:String}{vs:List Value}{w':World}{ρ:Rf}
abbrev qQ (D:Nat):Deferred:={ target:=.collected D,args:= #[] }
abbrev qU (M:List Nat):List HE:=M.map fun D=>.ob D (.deferred (some []))
theorem K4 {D:List Deferred}{a b:Act} (h:fi N D a ρ) (k:fi N D b ρ):a=b:=by
 obtain ⟨t,d⟩:=a;obtain ⟨t',d'⟩:=b;obtain ⟨h1,h2,h3⟩:=h;obtain ⟨k1,k2,k3⟩:=k;obtain rfl:d=d':=h1.trans k1.symm;congr 1;refine Array.ext (h2.trans k2.symm) fun i hi hi'=> ?_;have e1:=h3 i;have e2:=k3 i;rw [ZI,aaQ hi] at e1;rw [ZI,aaQ hi'] at e2;exact e1.trans e2.symm
abbrev Kd:=Exit→List Nat→Rf→World→Prop
structure WD (P:Program) (N:Nat) (c:Code) (Q:Kd) (ρ:Rf) (w:World):Prop where
 out:∀(M:List Nat) a,fi N (M.map qQ) a ρ→∀n,c.wpIn Fence.wide n P (fun e a' w'=>∃M' ρ',fi N ((M'++M).map qQ) a' ρ'∧Q e M' ρ' w') a w
def As (next:List Nat→Rf→World→Prop) (Q:Kd):Kd
 |.normal,M,ρ,w=>next M ρ w
 |e,M,ρ,w=>Q e M ρ w
def vB (M:List Nat) (Q:Kd):Kd:=fun e M2 ρ w=>Q e (M2++M) ρ w
def NF (id:Nat) (Q:Kd):Kd
 |.exit id',M,ρ,w=>if id'=id then Q .normal M ρ w else Q (.exit id') M ρ w
 |e,M,ρ,w=>Q e M ρ w
def Kj (Q:Kd):Kq:=fun e ρ w=>Q e [] ρ w
section
variable {P:Program}{N:Nat}{Q:Kd}{ρ:Rf}{w:World}
theorem HD {c:Code} (h:∀D,WC ⟨none,D,true⟩ P N c (Kj Q) ρ w):WD P N c Q ρ w:=
 ⟨fun M a hf n=>wpIn_mono ((h (M.map qQ)).kr a hf n) fun e a' w' ⟨ρ',hf',hq⟩=>⟨[],ρ',hf',hq⟩⟩
theorem An {x y:Code} (h:WD P N x (As (fun M ρ w=>WD P N y (vB M Q) ρ w) Q) ρ w):WD P N (.seq x y) Q ρ w:=
 ⟨fun M a hf n=>wpIn_seq (wpIn_mono (h.out M a hf n) fun e a' w' ⟨M',ρ',hf',hq⟩=>by
  cases e with
  |normal=>
   refine wpIn_mono ((hq:WD P N y (vB M' Q) ρ' w').out (M'++M) a' hf' n) fun e a2 w2 ⟨M2,ρ2,hf2,hq2⟩=> ?_;exact ⟨M2++M',ρ2,by rw [Ze];exact hf2,hq2⟩
  |_=>exact ⟨M',ρ',hf',hq⟩)⟩
theorem km {x y:Code} (h:∀D,WC ⟨none,D,true⟩ P N x (cU (fun ρ w=>WD P N y Q ρ w) (Kj Q)) ρ w):WD P N (.seq x y) Q ρ w:=
 An (HD fun D=>(h D).mono fun e ρ w hq=>by
  cases e with
  |normal=>
   show WD P N y (vB [] Q) ρ w;have e0:vB [] Q=Q:=by funext e M ρ w;unfold vB;rw [Y9]
   rw [e0];exact hq
  |_=>exact hq)
theorem wv {id:Nat}{c:Code} (h:WD P N c (NF id Q) ρ w):WD P N (.block id c) Q ρ w:=
 ⟨fun M a hf n=>wpIn_block (wpIn_mono (h.out M a hf n) fun e a' w' ⟨M',ρ',hf',hq⟩=>by
  cases e with
  |exit id'=>
   by_cases hid:id'=id
   ·simp only [NF,hid,if_true] at hq;simp only [Exit.inBlock,hid,if_true];exact ⟨M',ρ',hf',hq⟩
   ·simp only [NF,hid,if_false] at hq;simp only [Exit.inBlock,hid,if_false];exact ⟨M',ρ',hf',hq⟩
  |_=>exact ⟨M',ρ',hf',hq⟩)⟩
theorem OD {c:Code} (I:List Nat→Rf→World→Prop) (μ:Rf→World→Nat) (h0:I [] ρ w)
  (round:∀M ρ w,I M ρ w→WD P N c (fun e M2 ρ' w'=>As (fun M2 ρ' w'=>I M2 ρ' w'∧μ ρ' w'<μ ρ w) Q e (M2++M) ρ' w') ρ w):WD P N (.loop c) Q ρ w:=by
 refine ⟨fun M0 a hf n=> ?_⟩;refine wpIn_loop (fun a w=>∃M ρ,fi N ((M++M0).map qQ) a ρ∧I M ρ w) (fun a w=>μ (fun i=>a.tmps.getD i undef) w) ⟨[],ρ,hf,h0⟩ ?_;rintro a w ⟨M,ρ,hf,hi⟩;refine wpIn_mono ((round M ρ w hi).out (M++M0) a hf n) ?_;rintro e a' w' ⟨M',ρ',hf',hq⟩;rw [←Ze] at hf';have e1:(fun i=>a.tmps.getD i undef)=ρ:=funext hf.at_;have e2:(fun i=>a'.tmps.getD i undef)=ρ':=funext hf'.at_
 cases e with
 |normal=>exact ⟨⟨_,ρ',hf',hq.1⟩,by rw [e1,e2];exact hq.2⟩
 |_=>exact ⟨_,ρ',hf',hq⟩
def RQ {α:Type} (Kp:World→World→Prop) (I:List α→World→Prop) (pre:List α) (x:α) (W:World):Kq
 |.normal,_,W'=>KeepsOthers W W'∧Kp W W'∧I (pre++[x]) W'
 |_,_,_=>False
def sv:Kq:=fun _ _ _=>False
theorem yP {ps:Tmp}{v:Value}{a:Array Value}:((#[ps]:Array Tmp).zip #[v]).foldl (fun t (p,v)=>t.setIfInBounds p v) a=a.setIfInBounds ps v:=by simp
theorem NG {g:Operand}{p:Tmp}{gf:Nat}{lb:Array Value} (hp:p<N) (hg:ev ρ g=.func (.func gf) #[] lb) (eg:∀args w,(callFunc gf args).run P w=.ok (.enter gf args) w)
  {enc:α→Value}{Kp:World→World→Prop}{S:List α→Prop}{Nn:Nat} (hseq:∀n,SeqStopsK Fence.wide n P gf lb (fun x=> #[enc x]) Kp S (fun _=>True) Nn w)
  (hKt:∀{A B C:World},Kp A B→Kp B C→Kp A C) (hKb:∀(W:World) (l:Nat) (o o':Obj),w.heap.size≤l→W.heap[l]?=some o→o.isCells=false→o.isWalk=false→Kp W (W.putObj l o'))
  (I:List α→World→Prop) (hI:OwnFrom w.heap.size I) (h0:I [] w) (ρ1:α→Rf) (hρ:∀x i,N≤i→ρ1 x i=ρ i)
  (hassign:∀l x W,WC ⟨some l,[],true⟩ P N assign (cU (fun ρ' W'=>ρ'=ρ1 x∧W'=W) sv) (cY ρ p (enc x)) W)
  (hbody:∀l pre x W,I pre W→pre.length<Nn→WC ⟨some l,[],true⟩ P N body (RQ Kp I pre x W) (ρ1 x) W)
  (hdone:∀(D:Nat) (xs:List α) (W:World),w.heap.size≤D→S xs→I xs W→W.heap[D]?=some (.deferred (some []))→Q .normal [D] ρ W):WD P N (.rangeFunc g #[p] assign body) Q ρ w:=by
 refine ⟨fun M a hf n=> ?_⟩;have hfit:∀x,fi N [] { tmps:=Array.ofFn fun i:Fin N=>ρ1 x i,defers:=[] } (ρ1 x):=fun x=>by
  refine ⟨rfl,by simp,fun i=> ?_⟩;rw [ZI];by_cases hi:i<N
  ·rw [aaQ (by simpa using hi)];simp
  ·rw [abn (by simp;omega),hρ x i Yv,←hf.at_ i,ZI,abn (by rw [hf.sz];omega)]
 have main:(Code.rangeFunc g #[p] assign body).wpIn Fence.wide (n+1) P (fun e a' w'=>∃M' ρ',fi N ((M'++M).map qQ) a' ρ'∧Q e M' ρ' w') a w:=by
  refine wpIn_rangeFunc_ownF (F:=Fence.wide) (n:=n+1) rfl Yv (gf:=gf) (lb:=lb) (by rw [hf.eval];exact hg) trivial eg (hseq _) hKt hKb (Below.refl _ _) (fun _=>rfl) I (fun _ _ _=>False) hI
   (fun _ _ _ _ _ hs _ _=>hs) h0 (fun x=>{ tmps:=Array.ofFn fun i:Fin N=>ρ1 x i,defers:=[] }) (fun l x W K hK=> ?_) (fun l pre x W hi hl=> ?_) (fun D xs W hD hS hi hW=> ?_) (fun _ _ _ _ _ _ h _=>h.elim)
  ·refine wpIn_mono ((hassign l x W).kr _ ⟨rfl, ?_,fun i=> ?_⟩ _) fun e a' w' ⟨ρ',hf',hq⟩=> ?_
   ·rw [yP];simp [hf.sz]
   ·rw [yP,←(hf.put hp (enc x)).at_ i]
    rfl
   ·cases e with
    |normal=>
     obtain ⟨rfl,rfl⟩:=hq;rw [K4 hf' (hfit x)];exact hK
    |_=>exact hq.elim
  ·refine wpIn_mono ((hbody l pre x W hi hl).kr _ (hfit x) _) fun e a' w' ⟨ρ',hf',hq⟩=> ?_
   cases e with
   |normal=>exact hq
   |_=>exact hq.elim
  ·exact ⟨[D],ρ,⟨by rw [hf.nd];rfl,hf.sz,hf.at_⟩,hdone D xs W hD hS hi hW⟩
 intro b k cs hro hb _;exact main b k cs hro hb (room_wide _)
end
def We (P:Program) (fn:Func) (R:Ending→World→Prop):Kd:=fun e M ρ w=>
 (e=.normal∨e=.ret)∧∀tmps:Array Value,(∀i,tmps.getD i undef=ρ i)→∀n,LeavesInM Fence.wide n P fn tmps R (M.map qQ) .returning w
theorem Jz {f:FuncId}{fn:Func}{c:Code}{l:List Value}
  (hf:P.funcs[f]?=some fn) (hb:fn.body=some c) (hn:fn.ntmps=N) (ha:l.length≤N)
  (h:WD P N c (We P fn R) (Ir l) w):Calls P f l.toArray w R:=by
 refine (callsIn_wide (n:=0)).1 (callsIn_of_wp_marks hf hb trivial ?_ rfl);refine wpIn_mono (h.out [] _ ⟨rfl,by simp [hn];omega,fun i=> ?_⟩ 0) ?_
 ·exact SX
 ·rintro e a w' ⟨M,ρ',hf',he,hl⟩;rw [Y9] at hf'
  rcases he with rfl|rfl
  ·show LeavesInM _ _ _ _ a.tmps _ a.defers _ _;rw [hf'.nd];exact hl _ hf'.at_ 0
  ·show LeavesInM _ _ _ _ a.tmps _ a.defers _ _;rw [hf'.nd];exact hl _ hf'.at_ 0
theorem F5 {f:FuncId}{fn:Func}{c:Code}{l:List Value}
  (hf:P.funcs[f]?=some fn) (hb:fn.body=some c) (hn:fn.ntmps=N) (ha:l.length≤N)
  (h:WC ⟨none,[],true⟩ P N c (nX P fn R) (Ir l) w):Calls P f l.toArray w R:=by
 refine (callsIn_wide (n:=0)).1 (callsIn_of_wp hf hb trivial ?_ rfl);refine wpIn_mono (h.kr _ ⟨rfl,by simp [hn];omega,fun i=> ?_⟩ 0) ?_
 ·exact SX
 ·rintro e a w' ⟨ρ',hf',he,v,hr,hR⟩
  rcases he with rfl|rfl
  ·exact ⟨hf'.nd,v,hr _ hf'.at_,hR⟩
  ·exact ⟨hf'.nd,v,hr _ hf'.at_,hR⟩
def HE.Uv:HE→Bool
 |.ob _ _=>false
 |_=>true
theorem u4 {x:HE} (h:x.holds base w) (hc:x.Uv=true) (hid:x.id=some b):∃o,w.heap[b]?=some o∧o.isCells=true:=by
 cases x with
 |blk b' t cs fz=>
  obtain rfl:b'=b:=Zl hid;exact ⟨_,h.2.1,rfl⟩
 |row A n c t sz xs=>
  rcases h.2 with ⟨h1,_⟩|⟨g,cap,cur,h1,_,h3,_⟩
  ·injection h1 with e1
   subst e1
   cases hid
  ·injection h1 with e1
   subst e1;obtain rfl:g=b:=Zl hid;exact ⟨_,h3,rfl⟩
 |ob _ _=>cases hc
theorem Hp.TY {H:List HE} (h:Hp w0 H w) (hc:∀x∈H,x.Uv=true) {row:Option Nat} (hg:w.grownBy w' row) (hr:∀r,row=some r→w0.heap.size≤r∧∃o:Obj,w.heap[r]?=some o∧o.isCells=false):Hp w0 H w':=by
 refine ⟨⟨hg.os.trans h.below.os,hg.tape.trans h.below.tape,hg.output.trans h.below.output,Y2 h.size hg.size,fun k hk=> ?_⟩,fun x hx=> ?_,h.nd⟩
 ·refine (hg.block k (ZC hk h.size) fun e=> ?_).trans (h.below.block k hk);have:=(hr k e.symm).1;omega
 ·refine qk (h.own x hx) fun b hid=>hg.block b (eA (h.own x hx) hid).2 fun e=> ?_;obtain ⟨o,h1,h2⟩:=u4 (h.own x hx) (hc x hx) hid;obtain ⟨_,o',h3,h4⟩:=hr b e.symm;rw [h1] at h3
  cases h3
  rw [h2] at h4
  cases h4
def P7 (base:Nat) (ids:List Nat) (w:World) (k:Nat):Option HE:=if base≤k∧ids.contains k=false then (w.heap[k]?).map fun o=>.ob k o else none
def FD (base:Nat) (ids:List Nat) (w:World):List HE:=(List.range w.heap.size).filterMap (P7 base ids w)
theorem uD {ids:List Nat}{x:HE} (h:P7 base ids w k=some x):∃o,x=.ob k o∧base≤k∧k∉ids∧w.heap[k]?=some o:=by
 unfold P7 at h;split at h
 ·rename_i h1;obtain ⟨o,h2,h3⟩:=aao.1 h;exact ⟨o,h3.symm,h1.1,by simpa using h1.2,h2⟩
 ·cases h
theorem Hp.Oo {H:List HE} (h:Hp w0 H w):Hp w0 (H++FD w0.heap.size (H.filterMap HE.id) w) w:=by
 refine ⟨h.below,fun x hx=> ?_, ?_⟩
 ·rcases Zb.1 hx with hx|hx
  ·exact h.own x hx
  ·obtain ⟨k,_,hk⟩:=ZJ.1 hx;obtain ⟨o,rfl,h1,_,h3⟩:=uD hk;exact ⟨h1,h3⟩
 ·rw [aa1];refine abm.2 ⟨h.nd, ?_,fun a ha b hb e=> ?_⟩
  ·unfold FD;rw [List.filterMap_filterMap];refine List.Pairwise.filterMap _ (fun a a' hne b hb b' hb' e=> ?_) List.nodup_range;obtain ⟨x,hx,hx2⟩:=Option.bind_eq_some_iff.1 hb;obtain ⟨y,hy,hy2⟩:=Option.bind_eq_some_iff.1 hb';obtain ⟨o,rfl,_⟩:=uD hx;obtain ⟨o',rfl,_⟩:=uD hy;obtain rfl:a=b:=Zl hx2;obtain rfl:a'=b':=Zl hy2;exact hne e
  ·obtain ⟨x,hx,hx2⟩:=ZJ.1 hb;obtain ⟨k,_,hk⟩:=ZJ.1 hx;obtain ⟨o,rfl,_,h2,_⟩:=uD hk;obtain rfl:k=b:=Zl hx2;exact h2 (e ▸ ha)
theorem rk {P:Program}{fn:Func}{tmps:Array Value}{R:Ending→World→Prop}{n:Nat}{w0:World}{H:List HE}:∀(M:List Nat) (w:World),Hp w0 (qU M++H) w→(∀w2,Hp w0 H w2→∃v,(results fn tmps).run P w2=.ok v w2∧R (.returned v) w2)→
  LeavesInM Fence.wide n P fn tmps R (M.map qQ) .returning w
 |[],w,hh,h=>h w hh
 |D::M,w,hh,h=>by
  have hD:w.heap[D]?=some (.deferred (some [])):=(hh.own _ YL).2;refine ⟨by simp,.inl ⟨D,w.putObj D (.deferred none),rfl,run_takeDeferred hD,rk M _ ?_ h⟩⟩;have hb:=(hh.own _ YL).1;have h2:=hh.Pa (i:=0) (x:=.ob D (.deferred (some []))) (y:=.ob D (.deferred none)) (w':=w.putObj D (.deferred none)) rfl (fun b e=>.inl e) ?_ (fun b hlt hne=>World.putObj_heap_other (fun e=>hne (by rw [e];rfl))) ⟨hb, ?_⟩
  ·exact h2.sub (Zi _ _)
  ·have hg:=grownBy_putObj' w D (.deferred none);refine ⟨hg.os.trans hh.below.os,hg.tape.trans hh.below.tape,hg.output.trans hh.below.output,Y2 hh.size hg.size,fun k hk=>(hg.block k (ZC hk hh.size) fun e=> ?_).trans (hh.below.block k hk)⟩
   cases e
   omega
  ·exact World.putObj_heap_same (abo.1 hD).1
theorem th {fn:Func}{e:Exit}{H:List HE}{rs:List ResultVar} (hh:Hp w0 (qU M++H) w) (he:e=.normal∨e=.ret) (hr:fn.results=rs.toArray)
  (h:∀w2,Hp w0 H w2→iL P ρ w2 rs vs∧R (.returned (zj vs)) w2):We P fn R e M ρ w:=by
 refine ⟨he,fun tmps ht n=>rk M w hh fun w2 hh2=> ?_⟩;obtain ⟨h1,h2⟩:=h w2 hh2;obtain ⟨_,v,h3,h4⟩:=lH (e:=e) he hr h1 h2;exact ⟨v,h3 tmps ht,h4⟩
theorem Qc {d:Option Nat}{ty:TypeId}{af:Array Edge}{g:Option (Nat×Bool)}{x:Operand}{ts:Array TypeId}{l:Nat}{fn:FuncId}{tmps:Array Value}
  (hx:ev ρ x=.func (.yield l) #[] #[]) (ha:zt ρ args.toList=vs) (hy:(Instr.yield l vs.toArray).run P w=.ok (.round l fn tmps assign body) w):(execOp (ev ρ) ⟨d,.call ⟨.value x,args,ts⟩,ty,pos,af,g⟩).run P w=.ok (.round l fn tmps assign body) w:=by
 have h2:args.map (ev ρ)=vs.toArray:=o8 args ha;simp [execOp,resolve,Deferred.ofValue,hx,h2,invoke,callFunc,program,Sem.run,hy]
theorem Ml {Q:Kq}{rest:List Oper}{d:Nat}{ty:TypeId}{af:Array Edge}{x:Operand}{ts:Array TypeId}{l:Nat}
  (hx:ev ρ x=.func (.yield l) #[] #[]) (ha:zt ρ args.toList=vs) (hy:YieldAt Fence.wide m P l vs.toArray w R) (hN:d<N) (kk:∀e w',R e w'→∃v,e=.returned v∧WL ⟨none,[],true⟩ P N ops Q rest (cY ρ d v) w'):
  WL ⟨none,[],true⟩ P N ops Q (⟨some d,.call ⟨.value x,args,ts⟩,ty,pos,af,none⟩::rest) ρ w:=by
 obtain ⟨fn,tmps,as_,bd,h1,h2⟩:=hy;refine ⟨fun h=>(by cases h),fun a hf n=>wpListIn_plain rfl fun K hK=>⟨fun _ _=>trivial, ?_⟩⟩;rw [hf.eval,mr _ (Qc hx ha h1) (fun _ h=>by cases h)];refine ⟨fun h=>(by cases h), ?_⟩;refine ⟨trivial,fun c cs _=> ?_⟩;obtain ⟨e,w',hR,hs⟩:=h2.2 c cs (room_wide _);refine ⟨e,w', ?_,hs⟩;obtain ⟨v,rfl,hk⟩:=kk e w' hR;exact hK _ _ (hk.kr _ (hf.put hN v) n)
variable {ad:Addr}{q:Nat}
theorem S6 {d:Option Nat}{ty:TypeId}{af:Array Edge}{g:Option (Nat×Bool)}{t e:TypeId}{x lo hi mx:Operand}{l h sz:Nat}{k1 k2 k3:IntKind}{m1 m2 m3:Int}
  (ht:P.underlying t=some (.slice e)) (hsz:(P.info? e).map (·.size)=some sz) (hx:ev ρ x=.slice (some ad) n c) (hlo:ev ρ lo=.int k1 m1) (hhi:ev ρ hi=.int k2 m2) (hmx:ev ρ mx=.int k3 m3) (e1:m1=(l:Int)) (e2:m2=(h:Int)) (e3:m3=(q:Int))
  (h1:l≤h) (h2:h≤q) (h3:q≤c) (h4:l<q):(execOp (ev ρ) ⟨d,.slice t x (some lo) (some hi) (some mx),ty,pos,af,g⟩).run P w=.ok (.value (.slice (some (ad.add (l*sz))) (h-l) (q-l))) w:=by
 obtain ⟨i,hi1,hi2⟩:=aao.1 hsz;subst e1 e2 e3 hi2;have a1:(l:Int)≤h:=Yv;have a2:(h:Int)≤q:=Yv;have a3:(q:Int)≤c:=Yv;have a4:¬q=l:=Yv;have a5:¬q-l=0:=Yv;simp [execOp,hx,Instr.sliceAt,Instr.slice,run_underlying ht,Instr.sliceBounds,Instr.sliceBound,asIntOf,hlo,hhi,hmx,h1,h2,h3,a4,a5,sizeOf,typeInfo,hi1]
theorem Cl (A:Option Addr) (n c K:Nat) (w:World) (hK:1≤K):
  Calls Tryz.prog 52 #[.slice A n c,.int .i64 K] w fun r w'=>∃b2 b3,r=.returned (.func (.func 108) #[] #[.pointer (some ⟨b2,0,none⟩),.pointer (some ⟨b3,0,none⟩)])∧Hp w [.blk b3 3 [.int .i64 K] (0,0),.blk b2 27 [.slice A n c] (0,0)] w':=by
 have hh:=Hp.start w;refine ak (N:=9) (l:=[.slice A n c,.int .i64 K]) Tryz.func52 rfl rfl (by simp) ?_;refine sr ?_;refine cu hh [_] ?_;intro b2 w2 hh;refine cu hh [_] ?_;intro b3 w3 hh;refine la (by first|exact uu rfl|exact uP rfl) Yw ?_;refine aa (ai (sr ?_));refine bG hh 0 ?_;refine a8 (aa (cF (au (aj (sr ?_)))));exact UL
def DM (b2 b3:Nat) (W W':World):Prop:=W'.cell? ⟨b2,0,none⟩=W.cell? ⟨b2,0,none⟩∧W'.cell? ⟨b3,0,none⟩=W.cell? ⟨b3,0,none⟩
theorem we {W':World} (h:Below W.heap.size W W'):W.grownBy W' none:=⟨h.os,h.tape,h.output,h.size,fun k hk _=>h.block k hk⟩
theorem Ow {b2 b3:Nat}{A B C:World} (h:DM b2 b3 A B) (k:DM b2 b3 B C):DM b2 b3 A C:=⟨k.1.trans h.1,k.2.trans h.2⟩
theorem P3 {b2 b3:Nat} (h2:b2<w.heap.size) (h3:b3<w.heap.size) (W:World) (l:Nat) (o o':Obj) (hl:w.heap.size≤l):DM b2 b3 W (W.putObj l o'):=
 ⟨World.cell?_of_block (World.putObj_heap_other (fun e=>by simp at e;omega)),World.cell?_of_block (World.putObj_heap_other (fun e=>by simp at e;omega))⟩
theorem Jh (b2 b3:Nat) (ad:Addr) (n c K m:Nat) (w:World) (h2:w.cell? ⟨b2,0,none⟩=some (.slice (some ad) n c)) (h3:w.cell? ⟨b3,0,none⟩=some (.int .i64 K)) (hn:n=m*K) (hK:0<K) (hc:n≤c) (hb:n≤1000000) (hKb:K≤1000000):
  ∀N1,SeqStopsK Fence.wide N1 Tryz.prog 108 #[.pointer (some ⟨b2,0,none⟩),.pointer (some ⟨b3,0,none⟩)] (fun j:Fin m=> #[.slice (some (ad.add (j.val*K*3))) K K]) (DM b2 b3) (fun xs=>xs=List.finRange m) (fun _=>True) m w:=by
 intro N1 l J Jx W hW hAb hAbx hY h0;refine callsIn_wide.2 ?_;show Calls _ _ #[.func (.yield l) #[] #[],.pointer (some ⟨b2,0,none⟩),.pointer (some ⟨b3,0,none⟩)] W _;have hAbd:∀xs W1 W2,J xs W1→Below W1.heap.size W1 W2→J xs W2:=fun xs W1 W2 h hb=>hAb xs W1 W2 none h (we hb) (fun r e=>nomatch e);have c2:=cH hW h2;have c3:=cH hW h3;refine F5 (N:=31) (l:=[.func (.yield l) #[] #[],.pointer (some ⟨b2,0,none⟩),.pointer (some ⟨b3,0,none⟩)]) Tryz.func108 rfl rfl (by simp) ?_;refine sr (aI (aa (av ?_)));refine aT [4,5,6,7,8,9,10,11,12,13,14,15,16,17,18,19,20,21,22,23,24,25,26,27,28,29,30] 4
  (fun v w'=>∃j:Nat,j≤m∧v=.int .i64 ((j*K:Nat):Int)∧J ((List.finRange m).take j) w'∧w'.cell? ⟨b2,0,none⟩=some (.slice (some ad) n c)∧w'.cell? ⟨b3,0,none⟩=some (.int .i64 K))
  (fun v _=>n+1-(intOf v).toNat) ?_ ?_
 ·exact ⟨0,YD _,by rw [aba];rfl,h0,c2,c3⟩
 ·clear c2 c3 h0;rintro ρ' v w' ⟨j,hj,rfl,hJj,c2,c3⟩;have hh:=Hp.start w';by_cases hlt:j<m
  ·have h5:(j+1)*K≤m*K:=ZH _ hlt;have h6:(j+1)*K=j*K+K:=ZE j K;refine ai (sr (mI ?_));refine cv aU.out rfl (c2) Yw ?_;refine aK ?_;refine kP ?_;refine SV ?_;refine aW 5 [[(2,none)],[(1,none)],[(4,none)],[(14,some 1),(15,some 2)],[(16,some 3)]] [(4,17),(3,16),(2,15),(1,14),(0,13)] hh mixed Yx ?_;refine pK (fun _ hj=>cH hj.bl c3) ?_;refine pK (fun _ hj=>cH hj.bl c2) ?_;refine cZ ?_;refine bu (i:=3) (fun ρ1 w1 hj hR=>gJ (l:=(j*K)) bo.out aU.size (show ρ1 14=Value.slice _ _ _ from hR.1) (show ρ1 15=Value.int _ _ from hR.2.1) Yv Yv Yv) ?_;refine sY ?_;refine aM ?_;intro f W hJ hV;have hb_3:=hJ.bl;obtain ⟨v17,v16,v15,v14,v13,_⟩:=hV;replace hh:=hJ.hp;refine aQ (bg (ae v17 (ae v16 (ae v15 (ae v14 (ae v13 aR)))))) ?_;dsimp only [bO];clear hJ;have hmin:(if ((n-j*K:Nat):Int)<(K:Int) then ((n-j*K:Nat):Int) else (K:Int))=(K:Int):=YB Yv;refine zd rfl rfl Yw ?_;rw [hmin];have c2':=cH hh.below c2;have c3':=cH hh.below c3;have hJ2:=hAbd _ _ _ hJj hh.below
   have hfr:(List.finRange m)[j]?=some ⟨j,hlt⟩:=by rw [Z1 (by rw [abp];exact hlt),List.getElem_finRange];rfl
   have hy:=hY ((List.finRange m).take j) ⟨j,hlt⟩ _ hJ2 (by rw [YW,abp];omega);refine aI (aa (sr ?_));refine jC ?_;refine cv aU.out rfl (c2') Yw ?_;refine mI (mI (mI ?_));refine bm (mI (mI ?_));refine bm ?_;refine aZ rfl rfl Yw (S6 bo.out aU.size (Gs rfl) rfl rfl rfl (l:=j*K) (h:=j*K+K) (q:=j*K+K) rfl Yv Yv Yv Yv Yv Yv) ?_;have e28:j*K+K-j*K=K:=Yv;rw [e28];refine Ml rfl (az (Gs rfl) bf) hy Yw ?_;rintro e_ w29 (⟨rfl,hJ3,hk⟩|⟨rfl,hJx⟩)
   ·refine ⟨_,rfl, ?_⟩;have c2'':=hk.1.trans c2';have c3'':=hk.2.trans c3';refine fV ?_;refine p8 ?_;refine cv aU.out rfl (c3'') Yw ?_;refine bm (aI (aE (aj ?_)));refine ⟨⟨j+1,hlt, ?_,by rw [aC hfr];exact hJ3,c2'',c3''⟩, ?_, ?_⟩
    ·show Value.int _ (((j*K:Nat):Int)+(K:Int))=_;rw [h6]
     rfl
    ·show n+1-(((j*K:Nat):Int)+(K:Int)).toNat<n+1-((j*K:Nat):Int).toNat;omega
    ·exact dO
   ·refine ⟨_,rfl, ?_⟩;refine fV ?_;refine aa (cT (ay (cm (aN (aN (cm ?_))))));refine T3 (by first|exact .inr rfl|exact .inl rfl) rfl ?_;exact ⟨⟨_,rfl⟩,.inr ⟨_,trivial,hJx⟩⟩
  ·obtain rfl:j=m:=Yv;refine ai (sr (mI ?_));refine cv aU.out rfl (c2) Yw ?_;refine aK ?_;refine a8 (aa (cF (a6 (aH (aH (bB ?_))))));refine T3 (by first|exact .inr rfl|exact .inl rfl) rfl ?_;rw [YG (by rw [abp];omega)] at hJj;exact ⟨⟨_,rfl⟩,.inl ⟨_,rfl,hJj⟩⟩
def Xk (base:Nat) (E:Int) (D:List Nat) (ys:List Dyadic):VP:=fun v W=>∃(g:FX) (w1:World),v=.agg #[.slice g.A g.n g.a,.slice g.B g.m g.b]∧Out E D ys g∧base≤w1.heap.size∧Hp w1 [g.xK,g.vQ] W
def XX (base:Nat) (E:Int) (D:List Nat) (ys:List Dyadic):VP:=fun v W=>∃(g:FX) (w1:World),v=.tuple #[.agg #[.slice g.A g.n g.a,.slice g.B g.m g.b],.int .i64 E]∧Out E D ys g∧base≤w1.heap.size∧Hp w1 [g.xK,g.vQ] W
instance:aU Tryz.prog 86 1 false 8 [.nilFunc]:={}
theorem I7 {bs:List (Fin m)}{q:Fin m} (h:bs++[q]=(List.finRange m).take (bs++[q]).length) (hb:bs.length<m):bs=(List.finRange m).take bs.length∧q.val=bs.length:=by
 have hl:(bs++[q]).length=bs.length+1:=by simp
 rw [hl] at h;have h1:=Zz (List.take bs.length) h;rw [List.take_left' rfl,List.take_take,ZB Yv] at h1;have h2:(bs++[q])[bs.length]?=((List.finRange m).take (bs.length+1))[bs.length]?:=by rw [←h]
 rw [ZQ (YE _),Zu,Z9,YA Yv,show (List.finRange m)[bs.length]?=some ⟨bs.length,hb⟩ by rw [Z1 (by rw [abp];exact hb),List.getElem_finRange];rfl] at h2;exact ⟨h1,Zz Fin.val (Zl h2)⟩
theorem Jn {Q:Kd}{g:Operand}{p:Tmp}{gf:Nat}{lb:Array Value} (q:Nat) (hq:q<N) (hp:p<N) (hg:ev ρ g=.func (.func gf) #[] lb) (eg:∀args w,(callFunc gf args).run P w=.ok (.enter gf args) w)
  {enc:α→Value}{Kp:World→World→Prop}{S:List α→Prop}{Nn:Nat} (hseq:∀n,SeqStopsK Fence.wide n P gf lb (fun x=> #[enc x]) Kp S (fun _=>True) Nn w)
  (hKt:∀{A B C:World},Kp A B→Kp B C→Kp A C) (hKb:∀(W:World) (l:Nat) (o o':Obj),w.heap.size≤l→W.heap[l]?=some o→o.isCells=false→o.isWalk=false→Kp W (W.putObj l o'))
  (I:List α→World→Prop) (hI:OwnFrom w.heap.size I) (h0:I [] w)
  (hassign:∀l x W,WC ⟨some l,[],true⟩ P N assign (cU (fun ρ' W'=>ρ'=cY (cY ρ p (enc x)) q (enc x)∧W'=W) sv) (cY ρ p (enc x)) W)
  (hbody:∀l pre x W,I pre W→pre.length<Nn→WC ⟨some l,[],true⟩ P N body (RQ Kp I pre x W) (cY (cY ρ p (enc x)) q (enc x)) W)
  (hdone:∀(D:Nat) (xs:List α) (W:World),w.heap.size≤D→S xs→I xs W→W.heap[D]?=some (.deferred (some []))→Q .normal [D] ρ W):WD P N (.rangeFunc g #[p] assign body) Q ρ w:=
 NG hp hg eg hseq hKt hKb I hI h0 (fun x=>cY (cY ρ p (enc x)) q (enc x)) (fun x i hi=>by rw [bI _ (fun h=>absurd hq (by rw [←h];exact Nat.not_lt.2 hi)),bI _ (fun h=>absurd hp (by rw [←h];exact Nat.not_lt.2 hi))]) hassign hbody hdone
def Xc (n m:Nat) (ds:List Int) (cs:List NR):VP:=fun v W=>∃A a B b,v=.agg #[.slice A n a,.slice B m b]∧n≤a∧Sl W A n 1 (bQ ds)∧Sl W B m 3 (aD NR.cells cs)
theorem JJ.PI {H:List HE}{t1 t2:TypeId}{xs1 xs2:List Value}{n1 c1 s1 n2 c2 s2:Nat}{A1 A2:Option Addr} (hJ:JJ w0 H w W) (hs:Hp w0 H w)
  (o1:W.ownsRow w.heap.size t1 s1 (.slice A1 n1 c1) n1 xs1) (o2:W.ownsRow w.heap.size t2 s2 (.slice A2 n2 c2) n2 xs2) (h12:t1≠t2):Hp w0 (.row A1 n1 c1 t1 s1 xs1::.row A2 n2 c2 t2 s2 xs2::H) W:=by
 have hL:Hp w [.row A1 n1 c1 t1 s1 xs1,.row A2 n2 c2 t2 s2 xs2] W:=by
  refine ⟨hJ.bl,fun x hx=> ?_, ?_⟩
  ·rcases YS.1 hx with rfl|hx
   ·exact o1
   ·obtain rfl:=YT.1 hx;exact o2
  ·rw [aap];split
   ·exact R8
   ·rename_i b1 hb1;refine aar.2 ⟨fun hm=> ?_, ?_⟩
    ·obtain ⟨y,hy,hyb⟩:=ZJ.1 hm;obtain rfl:=YT.1 hy;exact Og o1 o2 h12 b1 hb1 hyb
    ·exact R8
 exact hs.join hL
instance:aU Tryz.prog 86 1 false 8 [.nilFunc]:={}
def Wz (up:Bool) (s:Dyadic) (ns:List Nat) (a:Nat) (xs:List Dyadic):List Dyadic:=iq ns.reverse (ns.length-1-a) (if up then WO (ns.getD a 0) s else WS (ns.getD a 0) s) xs
def mY (fx:FX) (ax:Int):Int:=if fx.e≠0 then fx.e else if ax<0∨(fx.n:Int)≤ax then 1 else 0
def XU (e:Int):Ending:=.returned (.tuple #[.agg #[.slice none 0 0,.slice none 0 0],.agg #[.slice none 0 0,.slice none 0 0],.int .i64 e])
def WI (n:Nat) (h:Int):Bool:=decide (h<0∨(n:Int)≤h.tdiv 2)
def Wf (ns:List Nat) (xs:List Dyadic) (h:Int):List Dyadic:=Wz (decide (h % 2=1)) (se (-1)) ns (h/2).toNat xs
def Xs (ns:List Nat) (xs:List Dyadic) (hs:List Int):List Dyadic:=hs.foldl (Wf ns) xs
def Xj (fx:FX) (hs:List Int):Int:=if fx.e≠0 then fx.e else if hs.any (WI fx.n)=true then 1 else 0
section
variable {P:Program}{N:Nat}{ops:Array Oper}{Q:Kq}{ρ:Rf}{w:World}{rest:List Oper}{d ty:Nat}{pos:String}{af:Array Edge}
theorem W4 (a:Int):IntKind.i64.wrap (BitVec.ofInt IntKind.i64.bits a &&& BitVec.ofInt IntKind.i64.bits 1).toNat=a % 2:=by
 have h1:(BitVec.ofInt IntKind.i64.bits a &&& BitVec.ofInt IntKind.i64.bits 1).toNat=(a % 2).toNat:=by
  show (BitVec.ofInt 64 a &&& BitVec.ofInt 64 1).toNat=_;rw [BitVec.toNat_and,show (BitVec.ofInt 64 1).toNat=2^1-1 by decide,Nat.and_two_pow_sub_one_eq_mod,BitVec.toNat_ofInt];omega
 rw [h1,kU Yv Yv];omega
theorem Lq {t u:Nat}{x y:Operand}{a:Int} (hx:ev ρ x=.int .i64 a) (hy:ev ρ y=.int .i64 1) (hN:d<N) (kk:WL .plain P N ops Q rest (cY ρ d (.int .i64 (a % 2))) w):WL .plain P N ops Q (⟨some d,.binOp .and t x y u,ty,pos,af,none⟩::rest) ρ w:=
 aZ rfl rfl hN (by rw [RU hx hy,W4]) kk
end
def Md (R:List HE) (g:FX):Prop:=R=[g.xK,g.vQ]∨g.m=0∧R=[g.vQ]
theorem Md.at_ {R H:List HE}{g:FX} (h:Md R g) (hc:g.cs.length=g.m) (hs:∀x∈R,x∈H) (hh:Hp w H w'):g.at_ w':=by
 rcases h with rfl|⟨h0,rfl⟩
 ·exact hh.iX (hs _ YL) (hs _ (YP _ YL))
 ·refine ⟨jx (hh.own _ (hs _ YL)), ?_⟩;rw [h0] at hc ⊢;rw [ZO hc];exact ⟨rfl,fun h=>absurd h Yw⟩
theorem Vl (f:FX) (w:World) (hf:f.at_ w) (hn:f.n≤1000000) (hm:f.m≤1000000):
  Calls Tryz.prog 19 #[.agg #[.slice f.A f.n f.a,.slice f.B f.m f.b]] w fun r w'=>∃(g:FX) (R:List HE),g.ds=f.ds∧g.cs=f.cs∧g.n=f.n∧g.m=f.m∧r=.returned (.agg #[.slice g.A g.n g.a,.slice g.B g.m g.b])∧Md R g∧Hp w R w':=
 (BR f.A f.B f.n f.a f.m f.b f.ds f.cs w hf.dg hf.nm hn hm).mono fun _ _ ⟨A,a,B,b,R,h1,h2,h3⟩=>⟨⟨A,f.n,a,B,f.m,b,f.ds,f.cs⟩,R,rfl,rfl,rfl,rfl,h1,h2,h3⟩
variable {fx:FX}
theorem JX {ax:Int} (h:mY fx ax=0):fx.e=0∧0≤ax∧ax<fx.n:=by
 unfold mY at h;split at h
 ·rename_i h1;exact absurd h h1
 ·rename_i h1;split at h
  ·cases h
  ·omega
theorem Ft (fx:FX) (ax:Int) (k:Nat) (w:World) (hT:e8 w) (hf:fx.at_ w) (hl:fx.j8 k):
  Calls Tryz.prog 66 #[.agg #[.slice fx.A fx.n fx.a,.slice fx.B fx.m fx.b],.int .i64 ax] w fun r w'=>r=.returned (.int .i64 (mY fx ax))∧Below w.heap.size w w':=by
 have hh:=Hp.start w;have hck:=fun w1 hT1 hb=>uC fx k w1 hT1 (hf.ext hb) hl;by_cases h0:fx.e=0
 ·by_cases h1:ax<0
  ·rw [show mY fx ax=1 by unfold mY;rw [YB Yv,YA (.inl h1)]];refine Hb ?_;refine sr ?_;refine cu hh [_,_] ?_;intro b2 w2 hh;refine aI (aa (ai (sr ?_)));refine cC hh 0 [_,_] ?_;refine gB ?_;intro w7 hh;refine aI (aa (sr (mI ?_)));refine yJ ?_;refine a8 (mB ?_);refine gS (gS (gS (gS (gS ?_))));refine fG ?_;exact Gj
  ·by_cases h2:(fx.n:Int)≤ax
   ·rw [show mY fx ax=1 by unfold mY;rw [YB Yv,YA (.inr h2)]];refine Hb ?_;refine sr ?_;refine cu hh [_,_] ?_;intro b2 w2 hh;refine aI (aa (ai (sr ?_)));refine cC hh 0 [_,_] ?_;refine gB ?_;intro w7 hh;refine aI (aa (sr (mI ?_)));refine yJ ?_;refine a8 (mB (gT (mI (gT (bJ (gT ?_))))));refine bG hh 0 ?_;refine gT (aK (gT ?_));refine ej ?_;refine dX ?_;exact Gj
   ·rw [show mY fx ax=0 by unfold mY;rw [YB Yv,YB Yv]];refine Hb ?_;refine sr ?_;refine cu hh [_,_] ?_;intro b2 w2 hh;refine aI (aa (ai (sr ?_)));refine cC hh 0 [_,_] ?_;refine gB ?_;intro w7 hh;refine aI (aa (sr (mI ?_)));refine yJ ?_;refine a8 (mB (gT (mI (gT (bJ (gT ?_))))));refine bG hh 0 ?_;refine gT (aK (gT ?_));refine ej ?_;refine dX ?_;refine H0 ?_;refine dh ?_;exact ⟨rfl,hh.below⟩
 ·rw [show mY fx ax=fx.e by unfold mY;rw [YA h0]];refine Hb ?_;refine sr ?_;refine cu hh [_,_] ?_;intro b2 w2 hh;refine aI (aa (ai (sr ?_)));refine cC hh 0 [_,_] ?_;refine gB ?_;intro w7 hh;exact TW
theorem mU (A:Option Addr) (n c a d:Nat) (ns:List Nat) (w:World) (hS:Sl w A n 1 (bQ (cf ns))) (hcap:n≤c) (hn:n≤1000) (hd:ns[a]?=some d) (hlow:∀x∈ns,x≤127) (hmax:aA ns≤4096):
  Calls Tryz.prog 48 #[.slice A n c,.int .i64 a] w fun r w'=>r=.returned (.agg #[.int .i64 ((d:Int)+1),.int .i64 (aA (ns.drop (a+1)):Nat)])∧Below w.heap.size w w':=by
 have hh:=Hp.start w;have hln:ns.length=n:=by have:=hS.1;simpa [bQ,cf] using this
 have ha:=(YQ.1 hd).1;have hd127:=hlow d (YF hd);have hgd:=cL (iG hd);have hbk:=hS.back (l:=a+1) (c:=c) Yv hcap;have hds:(bQ (cf ns)).drop ((a+1)*1)=bQ (cf (ns.drop (a+1))):=by
  rw [YX];unfold bQ cf;rw [←aa7,←aa7]
 rw [hds] at hbk;have hcd:gH 1 (cf (ns.drop (a+1)))=(aA (ns.drop (a+1)):Nat):=by
  have h1:=lj (ns.drop (a+1)) 1 Yw Yw (fun x hx=>hlow x (abC hx));have h2:aA (ns.drop (a+1))≤aA ns:=by
   have h3:aA ns=aA (ns.take (a+1))*aA (ns.drop (a+1)):=by rw [←eN,Zv]
   rw [h3];exact Nat.le_mul_of_pos_left _ (df _)
  rw [aaH,YA Yv] at h1;exact h1
 have hcnt:=fun w1 hS1=>ff (if c=a+1 then A else A.map (·.add ((a+1)*1))) (n-(a+1)) (c-(a+1)) (cf (ns.drop (a+1))) w1 hS1 Yv;rw [hcd] at hcnt;obtain ⟨ad,rfl,srd⟩:=hS.at_ Yv;refine ak (N:=16) (l:=[.slice (some ad) n c,.int .i64 a]) Tryz.func48 rfl rfl (by simp) ?_;refine sr ?_;refine bW hh ?_;intro b4 w4 hh;refine aa (ai ?_);refine aW 10 [[(0,none)],[(1,none)],[(5,some 0),(6,some 1)],[(7,some 2)],[(8,some 3)],[(0,none)],[(1,none)],[(11,some 6)],[(10,some 5),(12,some 7)],[(13,some 8)]] [(9,14),(8,13),(7,12),(6,11),(5,10),(4,9),(3,8),(2,7),(1,6),(0,5)] hh mixed Yx ?_;refine eQ ?_;refine cZ ?_;refine jA (a) ?_;refine pK (fun _ hj=>(srd.ext hj.hp.below).xv hgd) ?_;refine r6 ?_;refine eQ ?_;refine cZ ?_;refine r6 ?_;refine bu (i:=8) (fun ρ1 w1 hj hR=>gJ (l:=(a+1)) bo.out aU.size (show ρ1 10=Value.slice _ _ _ from hR.1) (show ρ1 12=Value.int _ _ from hR.2.1) Yv Yv Yv) ?_;refine dC (fun _ hj=>hcnt _ (hbk.ext hj.hp.below)) ?_;refine aM ?_;intro f W hJ hV;have hb_1:=hJ.bl;obtain ⟨v14,v13,v12,v11,v10,v9,v8,v7,v6,v5,_⟩:=hV;replace hh:=hJ.hp;refine G1 ?_;dsimp only [bO];clear hJ
 refine fH [_,_] ?_;exact N4
theorem IY (A:List Nat) (d f i q:Nat):dK A d f i q=dK A d f 0 q+i*aA A:=by
 unfold dK;rw [Zt,Zt,Nat.mul_zero,Za i];omega
theorem oB (g:FuncId) [aw Tryz.prog g] (A B:List Nat) (d L:Nat) (φ:List Dyadic→List Dyadic) (C:Option Addr) (n c k:Nat) (X:List Dyadic) (w:World) (hT:e8 w) (hS:Sl w C n 3 (aD NR.cells (X.map nR))) (hn:n=aA (A++d::B)) (hmax:n≤4096) (hL:L≤d+1) (hd:d≤127) (hx:∀x∈X,Sz k x)
  (hg:∀(Y:List Dyadic) (D:Option Addr) (dc:Nat) (w1:World),e8 w1→(∀y∈Y,Sz k y)→Sl w1 D (d+1) 3 (aD NR.cells (Y.map nR))→Calls Tryz.prog g #[.slice D (d+1) dc] w1 fun r w'=>∃E ec,r=.returned (.slice E L ec)∧Hp w1 [.row E L ec 40 3 (aD NR.cells ((φ Y).map nR))] w')
  (hφ:∀Y:List Dyadic,Y.length=d+1→(φ Y).length=L):
  Calls Tryz.prog 49 #[.agg #[.int .i64 ((d:Int)+1),.int .i64 (aA A:Nat)],.slice C n c,.func (.func g) #[] #[]] w fun r w'=>∃E ec,r=.returned (.slice E n ec)∧Hp w [.row E n ec 40 3 (aD NR.cells ((jN A d L φ X n 0).map nR))] w':=by
 have hh:=Hp.start w;have hXl:X.length=n:=by have:=hS.bh NR.len Yw;simpa using this
 have hap:=df A;have hap2:aA A≤n:=by
  rw [hn,eN];exact abQ _ (df _)
 have hcl:=fun w1 hb=>AP C n c (X.map nR) w1 (hS.ext hb) Yv;refine ak (N:=67) (l:=[.agg #[.int .i64 ((d:Int)+1),.int .i64 (aA A:Nat)],.slice C n c,.func (.func g) #[] #[]]) Tryz.func49 rfl rfl (by simp) ?_;refine sr ?_;refine cu hh [_,_] ?_;intro b3 w3 hh;refine aL (aa (sr (mL ?_)));refine aJ (hcl _ hh.below) aw.out rfl Yw ?_;rintro e_ w14 ⟨A14,c14,rfl,hown_,hb_⟩;refine ⟨_,rfl, ?_⟩;replace hh:=hh.aY (x:=.row _ _ _ _ _ _) hb_ hown_;rw [show X.map nR=(jN A d L φ X 0 0).map nR by rw [I2]] at hh;clear hcl;refine tE ?_;refine aT [8,9,10,11,12,17,18,19,20,21,22,23,24,25,26,27,28,29,30,31,32,33,34,35,36,37,38,39,40,41,42,43,44,45,46,47,48,49,50,51,52,53,54,55,56,57,58,59,60,61,62,63,64,65] 17
  (fun v w'=>∃F:Nat,F≤n∧v=.int .i64 F∧Hp w [.row A14 n c14 40 3 (aD NR.cells ((jN A d L φ X F 0).map nR)),.blk b3 83 [.int .i64 ((d:Int)+1),.int .i64 (aA A:Nat)] (0,0)] w')
  (fun v _=>n-(intOf v).toNat) ?_ ?_
 ·exact ⟨0,YD _,rfl,hh⟩
 ·clear hh;rintro ρ' v w' ⟨F,hF,rfl,hh⟩;by_cases hlt:F<n
  ·have hcast:((F:Int)/((aA A:Nat):Int)) % ((d:Int)+1)=((F/aA A % (d+1):Nat):Int):=by norm_cast
   have hq0:(0:Int)≤(F:Int)/((aA A:Nat):Int):=Int.ediv_nonneg Yv Yv;by_cases h0:F/aA A % (d+1)=0
   ·obtain ⟨u0,hfF⟩:∃u0,u0=F % aA A:=⟨_,rfl⟩;obtain ⟨q,hqF⟩:∃q,q=F/aA A/(d+1):=⟨_,rfl⟩;have hf:u0<aA A:=by rw [hfF];exact Y8 _ hap
    have hFe:F=dK A d u0 0 q:=by rw [hfF,hqF,←h0,Bf]
    have hq:q<aA B:=by
     rw [hqF,aae,Z2 (Nat.mul_pos hap Yv)];rw [hn,eN,aA] at hlt
     calc F<aA A*((d+1)*aA B):=hlt
      _=aA B*(aA A*(d+1)):=by rw [←Zw,Za]
    have hpl:∀i,i≤d→dK A d u0 i q<n:=fun i hi=>by rw [hn];exact u7 hf hi hq
    have hpi:∀i,dK A d u0 i q=F+i*aA A:=fun i=>by rw [hFe];exact IY A d u0 i q
    have hxl:(fT A d X u0 q).length=d+1:=by simp [fT]
    have hxz:∀y∈fT A d X u0 q,Sz k y:=fun y hy=>by
     obtain ⟨i,hi,rfl⟩:=YR.1 hy;exact Aa hx _
    obtain ⟨ad,hCA,hr⟩:=hS.at_ Yv;rw [hCA] at*;refine sr ?_;refine a8 (aa (ai (cT (au (aj (ai (av (sr (mI (aI (aa (ai (ai ?_)))))))))))));refine RH ?_;refine cZ ?_;refine cX ?_;refine dT 1 ?_;refine Qq ?_;refine cX ?_;refine dT 1 ?_;refine aM ?_;intro f W hJ hV;have hb_5:=hJ.bl;obtain ⟨v25,v24,v23,v22,v21,v20,_⟩:=hV;replace hh:=hJ.hp;refine aQ (bg (ae v25 (ae v24 (ae v23 (ae v22 (ae v21 (ae v20 aR))))))) ?_;dsimp only [bO];clear hJ;refine ua ?_;refine db (aa (cF (au (aj (sr (aL (aa (ai (sr (bJ ?_))))))))));refine bG hh 1 ?_;refine mI (aa (av ?_));replace hh:=hh.cN 40 3;refine bC [9,10,30,31,32,33,34,35,36,37,38,39,40,41,42,43,44,45] 9 30
     (fun a v w'=>∃(i:Nat) (A':Option Addr) (c':Nat),i≤d+1∧v=.int .i64 i∧a=.slice A' i c'∧Hp w [.row A' i c' 40 3 (aD NR.cells (((fT A d X u0 q).take i).map nR)),.row A14 n c14 40 3 (aD NR.cells ((jN A d L φ X F 0).map nR)),.blk b3 83 [.int .i64 ((d:Int)+1),.int .i64 (aA A:Nat)] (0,0)] w')
     (fun _ v _=>d+1-(intOf v).toNat) ?_ ?_
    ·exact ⟨0,none,0,YD _,rfl,rfl,hh⟩
    ·clear hh;rintro ρ2 a_ v w2 ⟨i,A',c',hi,rfl,rfl,hh⟩;by_cases hil:i<d+1
     ·obtain ⟨y,hy⟩:=ao (l:=fT A d X u0 q) (k:=i) Yv;have hyx:(X.map nR)[dK A d u0 i q]?=some (nR y):=by
       have h1:=hpl i Yv;unfold fT at hy;rw [YN,Zx hil] at hy;have h2:(X[dK A d u0 i q]?).getD 0=y:=Zl hy;rw [YN,Cy (show dK A d u0 i q<X.length by omega)];show some (nR (iX X _))=_;unfold iX;rw [h2]
      have hpn:=hpl i Yv;have hpq:=hpi i;obtain ⟨m,hm⟩:∃m,m=i*aA A:=⟨_,rfl⟩;have hmi:(i:Int)*((aA A:Nat):Int)=(m:Int):=by rw [hm];exact (ZU _ _).symm
      rw [←hm] at hpq;refine sr ?_;refine a8 (aa (ai (cT (au (aj (ai (av (sr (mI (aI (aa (ar (mL (mL (mI (mI (bJ ?_)))))))))))))))));refine bG hh 2 ?_;refine mulC ?_;refine bm ?_;refine dm (k:=(dK A d u0 i q)) bo.out aU.size rfl rfl Yv Yv Yw ?_;refine cG (vs:=[_,_,_]) aU.out rfl ((hr.ext hh.below).recAt NR.len hyx) rfl Yw ?_;refine tH ?_;intro b43 w43 hh;refine pR ?_;intro A44 c44 w44 hh;simp only [YM,Zg] at hh;replace hh:=hh.sub (Zi _ _);refine mE ?_;refine bm (mI (aE (aj ?_)));have e1:aD NR.cells (((fT A d X u0 q).take i).map nR)++[.bool (nR y).neg,.string (nR y).bj,.int .i64 (nR y).e]=aD NR.cells (((fT A d X u0 q).take (i+1)).map nR):=by rw [aC hy,Zq,bZ,Y1,Zp,iB];rfl
      rw [e1] at hh;refine ⟨⟨i+1,A44,c44,Yv,rfl,rfl,hh⟩,by show d+1-(i+1)<d+1-i;omega, ?_⟩;exact dO
     ·obtain rfl:i=d+1:=Yv;rw [YG Yv] at hh;refine sr ?_;refine oa ?_;refine jC ?_;refine mL ?_;refine hH (hg (fT A d X u0 q) A' c' _ (hT.hp hh) hxz (hh.aG (i:=0) rfl)) aw.out rfl rfl Yw ?_;rintro e_ w48 ⟨E,ec,rfl,h4⟩;refine ⟨_,rfl, ?_⟩;replace hh:=hh.join h4;clear h4;simp only [YJ,YH] at hh;replace hh:=hh.sub (YC _ (YI _ (YC _ (YC _ Y5))));have hφl:=hφ (fT A d X u0 q) hxl;refine aK (mI (aa (av ?_)));refine aT [11,12,50,51,52,53,54,55,56,57,58,59,60,61,62,63,64] 50
       (fun v w'=>∃j:Nat,j≤L∧v=.int .i64 j∧Hp w [.row E L ec 40 3 (aD NR.cells ((φ (fT A d X u0 q)).map nR)),.row A14 n c14 40 3 (aD NR.cells ((jN A d L φ X F j).map nR)),.blk b3 83 [.int .i64 ((d:Int)+1),.int .i64 (aA A:Nat)] (0,0)] w')
       (fun v _=>L-(intOf v).toNat) ?_ ?_
      ·exact ⟨0,YD _,rfl,hh⟩
      ·clear hh;rintro ρ3 v w3 ⟨j,hj,rfl,hh⟩;by_cases hjl:j<L
       ·obtain ⟨y,hy⟩:=ao (l:=φ (fT A d X u0 q)) (k:=j) Yv;have hyn:((φ (fT A d X u0 q)).map nR)[j]?=some (nR y):=by rw [YN,hy];rfl
        have hpn:=hpl j Yv;have hpq:=hpi j;have hset:=Lu (φ:=φ) (X:=X) (q:=q) hf hjl (show j≤d by omega);rw [←hFe,show iX (φ (fT A d X u0 q)) j=y by unfold iX;rw [hy];rfl] at hset;obtain ⟨m,hm⟩:∃m,m=j*aA A:=⟨_,rfl⟩;have hmi:(j:Int)*((aA A:Nat):Int)=(m:Int):=by rw [hm];exact (ZU _ _).symm
        rw [←hm] at hpq;have hll:((jN A d L φ X F j).map nR).length=n:=by rw [YO,iE];exact hXl
        generalize jN A d L φ X F j=S at*;generalize dK A d u0 j q=P at*;have hrl:=eS NR.len (S.map nR);obtain ⟨gr,rfl⟩:=hh.cK (i:=0) rfl Yv;obtain ⟨go,rfl⟩:=hh.cK (i:=1) rfl Yv;refine sr ?_;refine e9 ?_;refine nQ ?_;refine cG (vs:=[_,_,_]) aU.out rfl (hh.iu (f:=NR.cells) (x:=nR y) (l:=(φ (fT A d X u0 q)).map nR) (i:=0) rfl NR.len Yw hyn) rfl Yw ?_;refine bW hh ?_;intro b12 w12 hh;refine aI ?_;refine bV hh 0 [_,_,_] ?_;intro ws hh;replace hh:Hp _ (.blk _ _ [_,_,_] _::_) _:=hh;refine aa (ar (mL (mI (mI (bJ ?_)))));refine bG hh 3 ?_;refine mulC ?_;refine bm ?_;refine cC hh 0 [_,_,_] ?_;refine dn (k:=P) bo.out aU.size rfl rfl Yv Yv Yw ?_;refine cA hh (i:=2) (vs:=[_,_,_]) rfl rfl (gy rfl) rfl aU.out rfl Yv rfl ?_;intro ws hh;simp only [YM,Zg] at hh;rw [show cM (aD NR.cells (S.map nR)) (P*3) [.bool (nR y).neg,.string (nR y).bj,.int .i64 (nR y).e]=aD NR.cells ((S.map nR).set P (nR y)) from jZ NR.len Yv,←aa3,hset] at hh;refine gN ?_;refine bm (mI (aE (aj ?_)))
        replace hh:=hh.sub (YI _ (YC _ (YC _ (YC _ Y5))));refine ⟨⟨j+1,Yv,rfl,hh⟩,by show L-(j+1)<L-j;omega, ?_⟩;exact dO
       ·rw [JQ (show L≤j by omega)] at hh;refine sr ?_;refine C9 ?_;refine bm (mI (aE (aj ?_)));replace hh:=hh.sub (YI _ (YC _ (YC _ Y5)));refine ⟨⟨F+1,Yv,rfl,hh⟩,by show n-(F+1)<n-F;omega, ?_⟩;exact dO
   ·rw [IJ h0] at hh;refine sr ?_;refine a8 (aa (ai (cT (au (aj (ai (av (sr (mI (aI (aa (ai (ai ?_)))))))))))));refine RH ?_;refine cZ ?_;refine cX ?_;refine dT 1 ?_;refine Qq ?_;refine cX ?_;refine dT 1 ?_;refine aM ?_;intro f W hJ hV;have hb_5:=hJ.bl;obtain ⟨v25,v24,v23,v22,v21,v20,_⟩:=hV;replace hh:=hJ.hp;refine aQ (bg (ae v25 (ae v24 (ae v23 (ae v22 (ae v21 (ae v20 aR))))))) ?_;dsimp only [bO];clear hJ;refine ua ?_;refine db (aa (cT (a6 (aH (bB (aj (ar ?_)))))));refine bm (mI (aE (aj ?_)));refine ⟨⟨F+1,Yv,rfl,hh⟩,by show n-(F+1)<n-F;omega, ?_⟩;exact dO
  ·obtain rfl:F=n:=Yv;exact U4
theorem yX (j:Nat):j % 2=0∧(-1:Dyadic)^j=1∨j % 2=1∧(-1:Dyadic)^j= -1:=by
 induction j with
 |zero=>exact .inl ⟨rfl,by grind⟩
 |succ n ih=>
  rcases ih with ⟨h,e⟩|⟨h,e⟩
  ·exact .inr ⟨Yv,by grind⟩
  ·exact .inl ⟨Yv,by grind⟩
theorem CS {ns:List Nat}{i d:Nat} (h:ns[i]?=some d):ns.reverse=(ns.drop (i+1)).reverse++d::(ns.take i).reverse:=by
 exact UY
theorem xc (L:Option Addr) (n c d:Nat) (xs:List Dyadic) (k:Nat) (w:World) (hT:e8 w) (hS:Sl w L n 3 (aD NR.cells (xs.map nR))) (hn:n=d+1) (hd:d≤127) (hx:∀x∈xs,Sz k x) (hk:k≤500000):
  Calls Tryz.prog 81 #[.slice L n c] w fun r w'=>∃A c',r=.returned (.slice A n c')∧Hp w [.row A n c' 40 3 (aD NR.cells ((lS d (fm d 1 (-1)) xs).map nR))] w':=by
 have hh:=Hp.start w;have hln:xs.length=n:=by have:=hS.bh NR.len Yw;simpa using this
 have ha:Sz 1 1:=Sz.one;obtain ⟨ad,rfl,hr⟩:=hS.at_ Yv;refine ak (N:=57) (l:=[.slice (some ad) n c]) Tryz.func81 rfl rfl (by simp) ?_;refine sr (aL (aa (sr (mL (aK ?_)))));refine eP (aI (aa (sr (mI ?_))));refine bm ?_;refine Mc ?_;intro b14 w14 hh;refine tE ?_;rw [pE,hn,←wO d 1 (-1) xs,←hn] at hh;refine aT [5,6,7,8,17,18,19,20,21,22,23,24,25,26,27,28,29,30,31,32,33,34,35,36,37,38,39,40,41,42,43,44,45,46,47,48,49,50,51,52,53,54,55] 17
  (fun v w'=>∃i:Nat,i≤n∧v=.int .i64 i∧Hp w [.row (some ⟨b14,0,none⟩) n n 40 3 (aD NR.cells ((jl d 1 (-1) xs i 0).map nR))] w')
  (fun v _=>n-(intOf v).toNat) ?_ ?_
 ·exact ⟨0,YD _,rfl,hh⟩
 ·clear hh;rintro ρ' v w' ⟨i,hi,rfl,hh⟩;by_cases hlt:i<n
  ·obtain ⟨x,hxi⟩:=ao (l:=xs) (k:=i) Yv;have hxn:(xs.map nR)[i]?=some (nR x):=by rw [YN,hxi];rfl
   have hat:iX xs i=x:=by unfold iX;rw [hxi];rfl
   have zx:=hx x (YF hxi);have hch:=fun w1 hT1=>l5 (d-i) w1 hT1 Yv;refine sr ?_;refine e9 ?_;refine cE ?_;refine LL ?_;refine bW hh ?_;intro b6 w6 hh;refine aI ?_;refine bV hh 0 [_,_,_] ?_;intro ws hh;replace hh:Hp _ (.blk _ _ [_,_,_] _::_) _:=hh;refine aa (sr (mI (mI ?_)));refine eP ?_;have e24:(n:Int)-1-(i:Int)=((d-i:Nat):Int):=Yv;rw [←e24] at hch;refine aJ (hch _ (hT.hp hh)) aw.out rfl Yw ?_;rintro e_ w25 ⟨A25,c25,rfl,hown_,hb_⟩;refine ⟨_,rfl, ?_⟩;replace hh:=hh.aY (x:=.row _ _ _ _ _ _) hb_ hown_;refine aK (mI (aa (av ?_)));replace hh:=hh.sub (YC _ (YC _ (YC _ Y5)));refine aT [7,8,27,28,29,30,31,32,33,34,35,36,37,38,39,40,41,42,43,44,45,46,47,48,49,50,51,52,53,54] 27
    (fun v w'=>∃j:Nat,j≤d-i+1∧v=.int .i64 j∧Hp w [.row A25 (d-i+1) c25 40 3 (aD NR.cells (mz (d-i))),.blk b6 40 [.bool (nR x).neg,.string (nR x).bj,.int .i64 (nR x).e] (0,0),.row (some ⟨b14,0,none⟩) n n 40 3 (aD NR.cells ((jl d 1 (-1) xs i j).map nR))] w')
    (fun v _=>d-i+1-(intOf v).toNat) ?_ ?_
   ·exact ⟨0,YD _,rfl,hh⟩
   ·clear hh;rintro ρ2 v w2 ⟨j,hj,rfl,hh⟩;by_cases hjn:j<d-i+1
    ·have hbn:(mz (d-i))[j]?=some (nR (nD (bin (d-i) j))):=lB Yv;have zb:=sA (d-i) j Yv;obtain ⟨o,ho⟩:=ao (l:=jl d 1 (-1) xs i j) (k:=i+j) (by rw [k8];omega);have hon:((jl d 1 (-1) xs i j).map nR)[i+j]?=some (nR o):=by rw [YN,ho];rfl
     have zo:=Hi (j:=j) hx ha (show Sz 1 (-1:Dyadic) from Sz.one.neg) hd (show i≤d+1 by omega) o (YF ho);have zy:=zx.mul zb;have hset:=Df (a:=1) (b:= -1) (xs:=xs) (show i+j≤d by omega) ho;have hval:iX xs i*fm d 1 (-1) i (i+j)=x*(nD (bin (d-i) j)*(-1:Dyadic)^j):=by
      unfold fm;rw [hat,YB Yv,show i+j-i=j by omega,mi];generalize nD (bin (d-i) j)=u;generalize (-1:Dyadic)^j=e;grind
     rw [hval] at hset;have zu:Sz (130+1) (nD (bin (d-i) j)*(-1:Dyadic)^j):=by
      rcases yX j with e|e
      ·rw [e.2,abl];exact zb.mono Yv
      ·rw [e.2,show nD (bin (d-i) j)*(-1:Dyadic)= - nD (bin (d-i) j) by grind];exact zb.neg.mono Yv
     have zbo:(nR (nD (bin (d-i) j))).ok:=zb.ok Yv;have hng:=fun w1 hT1=>qu (nR (nD (bin (d-i) j))) w1 hT1 (by have:=zbo.1;omega) (by have:=zbo.2.1;omega) (by have:=zbo.2.2;omega);rw [cj] at hng;have hsg:=yX j;have hll:((jl d 1 (-1) xs i j).map nR).length=n:=by rw [YO,k8];omega
     generalize jl d 1 (-1) xs i j=S at*;obtain ⟨gw,rfl⟩:=hh.cK (i:=0) rfl Yv;refine sr ?_;refine e9 ?_;refine nQ ?_;refine QH ?_
     rcases hsg with ⟨h2,he⟩|⟨h2,he⟩
     ·refine bW hh ?_;intro b8 w8 hh;refine aI ?_;refine bV hh 0 [_,_,_] ?_;intro ws hh;replace hh:Hp _ (.blk _ _ [_,_,_] _::_) _:=hh;refine aa (ai (sr (mI ?_)));refine Lq rfl rfl Yw ?_;refine di (aa (cF (au (aj ?_))));rw [he,abl] at hset zu;generalize nD (bin (d-i) j)=u at*;exact R3
     ·refine bW hh ?_;intro b8 w8 hh;refine aI ?_;refine bV hh 0 [_,_,_] ?_;intro ws hh;replace hh:Hp _ (.blk _ _ [_,_,_] _::_) _:=hh;refine aa (ai (sr (mI ?_)));refine Lq rfl rfl Yw ?_;refine di (aa (cT (ar ?_)));refine cC hh 0 [_,_,_] ?_;refine bA hh (hng _ (hT.hp hh)) rfl ?_;intro w36 hh;rw [he,show nD (bin (d-i) j)*(-1:Dyadic)= - nD (bin (d-i) j) by grind] at hset zu;refine bV hh 0 [_,_,_] ?_;intro ws hh;replace hh:Hp _ (.blk _ _ [_,_,_] _::_) _:=hh;refine aa ?_;generalize-nD (bin (d-i) j)=u at*;exact R3
    ·exact RE
  ·obtain rfl:i=n:=Yv;rw [show jl d 1 (-1) xs i 0=lS d (fm d 1 (-1)) xs by rw [hn,xP]] at hh;exact Uf
end Go.Proofs.YtolamocnngihpaaGreatDoor
