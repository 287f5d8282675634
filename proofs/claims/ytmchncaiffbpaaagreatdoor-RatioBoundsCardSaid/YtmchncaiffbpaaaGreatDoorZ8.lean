/- Lemmas for ratioBounds, part 8. -/
import Derived.Test.YtmchncaiffbpaaaGreatDoorZ7
set_option linter.all false
set_option maxHeartbeats 0
namespace Go.Proofs.YtmchncaiffbpaaaGreatDoor
variable {E:Int}{W w1:World}{b base j k:Nat}{fz:Nat×Nat}{p ts:List TR}
open Go.RowKit
def m7 (base:Nat) (E v:Int) (ts:List TR):VP:=fun x W=>∃(g:PX) (w1:World),x=.agg #[.int .i64 g.v,.slice g.A g.n g.c]∧iz E v ts g∧base≤w1.heap.size∧Hp w1 [g.row] W
theorem m7.ext {v:Int} (x:Value) (w w':World) (h:m7 base E v ts x w) (hb:Below w.heap.size w w'):m7 base E v ts x w':=let ⟨g,w1,h1,h2,h3,h4⟩:=h;⟨g,w1,h1,h2,h3,h4.ext hb⟩
def n4 (base:Nat) (E v:Int) (ts:List TR):VP:=fun x W=>∃(g:PX) (w1:World),x=.tuple #[.agg #[.int .i64 g.v,.slice g.A g.n g.c],.int .i64 E]∧iz E v ts g∧base≤w1.heap.size∧Hp w1 [g.row] W
theorem n4.ext {v:Int} (x:Value) (w w':World) (h:n4 base E v ts x w) (hb:Below w.heap.size w w'):n4 base E v ts x w':=let ⟨g,w1,h1,h2,h3,h4⟩:=h;⟨g,w1,h1,h2,h3,h4.ext hb⟩
def C3 (base:Nat) (v:Int) (ts:List TR):VP:=fun x W=>∃(g:PX) (w1:World),x=.slice g.A g.n g.c∧iz 0 v ts g∧base≤w1.heap.size∧Hp w1 [g.row] W
theorem C3.ext {v:Int} (x:Value) (w w':World) (h:C3 base v ts x w) (hb:Below w.heap.size w w'):C3 base v ts x w':=let ⟨g,w1,h1,h2,h3,h4⟩:=h;⟨g,w1,h1,h2,h3,h4.ext hb⟩
theorem PX.ne {g:PX}{t:TypeId}{cs:Array Value} (h:Hp w1 [g.row] W) (h3:W.heap[b]?=some (.cells cs t fz)) (h1:95≠t):∀x∈[g.row],x.id≠some b:=fun x hx=>by
 have hx2:=h.own x hx;obtain rfl:=aaa.1 hx;exact n6 hx2 h3 h1
def ke (a:List TR×Int) (g:PX):List TR×Int:=if a.2=0 then (aQ (dq a.1 g.ts),ir a.1 g.ts) else a
def Wf (ps:List PX):List TR×Int:=match ps with|[]=>([],0)|g::l=>l.foldl ke (g.ts,0)
def GQ (ps:List PX):Int:=if iG ps=0 then (Wf ps).2 else iG ps
theorem Cf {a:List TR×Int} (h:a.2≠0):∀l:List PX,l.foldl ke a=a
 |[]=>rfl
 |g::l=>by
  rw [abZ,show ke a g=a by unfold ke;rw [ZG h]];exact Cf h l
theorem Ky {l:List PX}{a:List TR×Int}{i:Nat}{g:PX} (hx:l[i]?=some g) (h0:((l.take i).foldl ke a).2=0) (h:ir ((l.take i).foldl ke a).1 g.ts≠0):(l.foldl ke a).2=ir ((l.take i).foldl ke a).1 g.ts:=by
 have e:l=l.take i++g::l.drop (i+1):=by rw [←gC hx,aaL]
 have e2:l.foldl ke a=(l.drop (i+1)).foldl ke (ke ((l.take i).foldl ke a) g):=by
  conv=>lhs;rw [e]
  rw [acA,abZ]
 rw [e2];have e3:ke ((l.take i).foldl ke a) g=(aQ (dq ((l.take i).foldl ke a).1 g.ts),ir ((l.take i).foldl ke a).1 g.ts):=ZH h0;rw [e3,Cf h]
theorem JD {l:List PX}{a:List TR×Int}{i:Nat}{g:PX} (hx:l[i]?=some g) (h0:((l.take i).foldl ke a).2=0):(l.take (i+1)).foldl ke a=(aQ (dq ((l.take i).foldl ke a).1 g.ts),ir ((l.take i).foldl ke a).1 g.ts):=by
 rw [al hx,acA,abZ,List.foldl_nil];exact ZH h0
theorem He {q:List TR} (hp:kq k p) (hq:kq j q) (sq:∀t∈q,t.m.size≤100000) (h:ir p q=0) (hk:k+j≤900000):kq (k+j+65536) (aQ (dq p q))∧∀t∈aQ (dq p q),t.m.size≤100000:=by
 obtain ⟨h6,_,h4⟩:=rS h;have ho:=xc hp hq ZB;have hz:=oW fun t ht=>(ho t ht).2;rw [sL] at hz;refine ⟨fun t ht=> ?_,fun t ht=> ?_⟩
 ·have:Sz (k+j+65536) t.c.d:=(hz t ht).mono ZB;refine ⟨?_,this⟩;rw [(gF _).nf t ht];exact this.ok ZB
 ·obtain ⟨s,hs,e⟩:=kW t ht;obtain ⟨x,hx,hs⟩:=abI.1 hs;obtain ⟨y,hy,rfl⟩:=ZU.1 hs;rw [←e];exact aac (IZ _ _) (sq y hy)
theorem Ee (L:Option Addr) (n c:Nat) (ps:List PX) (k s:Nat) (w:World) (hT:dO w) (hL:Sl w L n 2 (ao PX.cells ps)) (hcn:n≤c) (hn:n≤8) (hf:∀g∈ps,g.at_ w) (hl:∀g∈ps,g.iO k) (hs:k+65536≤s) (hk:k+k+(n-2)*s≤900000):
  Calls Tryz.prog 248 #[.slice L n c] w fun r w'=>∃g:PX,iz (GQ ps) (iE ps) (Wf ps).1 g∧r=.returned (.tuple #[.agg #[.int .i64 g.v,.slice g.A g.n g.c],.int .i64 (GQ ps)])∧Hp w [g.row] w':=by
 have hh:=Hp.start w;have hln:=hL.a6 PX.len ZC;have hlk:=fun w1 hT1 hb=>tJ L n c ps k w1 hT1 (hL.ext hb) ZB (fun g hg=>(hf g hg).ext hb) hl;unfold GQ;by_cases h0:iG ps=0
 ·rw [ZH h0];rw [h0] at hlk;obtain ⟨hne,pN,hvv⟩:=Bu h0;obtain ⟨g0,pt,rfl⟩:=List.exists_cons_of_ne_nil hne;rw [rp (g:=g0) rfl];have hnp:pt.length+1=n:=hln;obtain ⟨ad,rfl,hr⟩:=hL.at_ ZB;have hm0:g0∈g0::pt:=ZQ;have hg0:=hl g0 hm0;have h00:(g0::pt)[0]?=some g0:=rfl;show Calls _ _ _ _ fun r w'=>∃g:PX,iz (pt.foldl ke (g0.ts,0)).2 g0.v (pt.foldl ke (g0.ts,0)).1 g∧r=.returned (.tuple #[.agg #[.int .i64 g.v,.slice g.A g.n g.c],.int .i64 (pt.foldl ke (g0.ts,0)).2])∧Hp w [g.row] w';refine ae (N:=46) (l:=[.slice (some ad) n c]) Tryz.func248 rfl rfl (by simp) ?_;refine bJ ?_;intro b2 w2 hh;refine zf ?_;intro w11 hh;refine aj ?_;refine aw 11 [[(0,none)],[(16,some 0)],[(17,some 1)],[(18,some 2)],[(0,none)],[(20,some 4)],[(21,some 5)],[(22,some 6)],[(23,some 7)],[(19,some 3),(24,some 8)],[]] [(10,5),(9,25),(8,24),(7,23),(6,22),(5,21),(4,20),(3,19),(2,18),(1,17),(0,16)] hh mixed ZD ?_;refine dR ?_;refine jK (0) ?_;refine zr ?_;refine mZ (fun _ hj=>bD hj.hp.below ((hr.recAt PX.len h00) 0 _ rfl)) ?_;refine dR ?_;refine jK (0) ?_;refine zr ?_
  refine mZ (fun _ hj=>bD hj.hp.below ((hr.recAt PX.len h00) 1 _ rfl)) ?_;refine aM (i:=8) (C3 w11.heap.size g0.v g0.ts) (C3.ext) ?_ ?_
  ·intro ρ1 w1 hj hR;exact bI rfl (a8 ak.out (av (show ρ1 23=Value.slice _ _ _ from hR.1) bh)) (nq g0.A g0.n g0.c g0.ts w1 ((hf g0 hm0).ext hj.hp.below) hg0.n) (fun _ _ ⟨A,c,hq,ho,hb⟩=>⟨_,hq,hb,⟨g0.v,A,g0.n,c,g0.ts⟩,w1,rfl,⟨rfl,rfl⟩,hj.bl.size,(Hp.start w1).aE (x:=.row _ _ _ _ _ _) hb ho⟩)
  refine aM (i:=9) (m7 w11.heap.size 0 g0.v g0.ts) (m7.ext) ?_ ?_
  ·intro ρ1 w1 hj hR;exact let ⟨g,u,e,o,q,h⟩:=hR.2.1;dm rfl (mW (cs:=[_,_]) aC.out ki.out (bR (show ρ1 19=Value.int _ _ from hR.1) (bR e dX)) rfl) ⟨Below.refl _ _,g,u,by rw [show g.v=g0.v from o.v],o,q,h⟩
  refine aM (i:=10) (bC _ 52 _) bC.ext (fun ρ1 w1 hj hR=>eR aC.out hj.bl (fun v w2 h hb=>⟨hb,h⟩)) ?_;refine au ?_;intro f W hJ hV;have hb_4:=hJ.bl;obtain ⟨v5,v25,v24,v23,v22,v21,v20,v19,v18,v17,v16,_⟩:=hV;obtain ⟨g24,u24,e24, -⟩:=v24;obtain ⟨g25,u25,e25,o25,q25,h25⟩:=v25;obtain ⟨b5,e5,hl5,hc5⟩:bC _ _ _ (f 10) W:=v5;replace hh:=hJ.kE hh hl5 hc5 q25 h25 (PX.ne h25 hc5 ZC);refine az (aH (aa e5 (aa e25 (aa e24 (aa v23 (aa v22 (aa v21 (aa v20 (aa v19 (aa v18 (aa v17 (aa v16 ay)))))))))))) ?_;dsimp only [bf];clear e24 e25 e5 hJ;simp only [ZR,ZN] at hh;obtain ⟨gv,gA,gn,gc,gts⟩:=g25;obtain rfl:g0.v=gv:=o25.v.symm;obtain rfl:g0.ts=gts:=o25.ts.symm;replace hh:=show Hp w (_::.row gA gn gc 95 4 (ao TR.cells g0.ts)::_) W from hh;have hgn:g0.ts.length=gn:=(hh.ar (i:=1) rfl).a6 TR.len ZC;have hgc:gn≤gc:=hh.gO (i:=1) rfl;refine bJ ?_;intro ws hh;refine aR rfl rfl ZC (gJ bj.out aC.size rfl rfl (l:=1) rfl ZB ZB) ?_;refine aj ?_;replace hh:=hh.perm (aaQ (l₁:=[_]));simp only [ZR,ZN] at hh
  refine aD [3,7,8,9,29,30,31,32,33,34,35,36,37,38,39,40,41,42,43,44] 29
   (fun v w'=>∃(i:Nat) (g:PX),i≤n-1∧v=.int .i64 i∧((pt.take i).foldl ke (g0.ts,0)).2=0∧g.v=g0.v∧g.ts=((pt.take i).foldl ke (g0.ts,0)).1∧g.iO (k+i*s)∧Hp w [.row g.A g.n g.c 95 4 (ao TR.cells g.ts),.blk b5 52 [.int .i64 g.v,.slice g.A g.n g.c] (0,0),.blk b2 52 [.int .i64 0,.slice none 0 0] (0,0)] w')
   (fun v _=>n-1-(intOf v).toNat) ?_ ?_
  ·exact ⟨0,⟨g0.v,gA,gn,gc,g0.ts⟩,ZK _,rfl,rfl,rfl,rfl,⟨by show gn≤1000000;have:=hg0.n;have h9:=(hf g0 hm0).ln;omega,hgc,hg0.ok.mono (by rw [ab4];omega),hg0.sz⟩,hh⟩
  ·clear hh;rintro ρ' v w' ⟨i,g,hi,rfl,hz,hgv,hts,hgl,hh⟩;by_cases hlt:i<n-1
   ·obtain ⟨f,hx⟩:=ah (l:=pt) (k:=i) ZB;have hmem:f∈g0::pt:=Z0 _ (ZL hx);have his:i*s≤(n-2)*s:=aaV _ ZB;have his1:=aaS i s;have hbk:Sl w (if c=1 then some ad else (some ad:Option Addr).map (·.add (1*2))) (n-1) 2 (ao PX.cells pt):=hL.back ZB hcn;obtain ⟨ab,hAb,sb⟩:=hbk.at_ ZB;have pN:Value.slice (if c=1 then some ad else (some ad:Option Addr).map (·.add (1*2))) (n-1) (c-1)=.slice (some ab) (n-1) (c-1):=by rw [hAb]
    have hfl:=hl f hmem;have hnx:=JD (a:=(g0.ts,0)) hx hz;have hsp:=Ky (a:=(g0.ts,0)) hx hz;rw [←hts] at hnx hsp;refine aj ?_;refine NC ?_;refine bk (vs:=[_,_]) aC.out rfl (show Rd _ _ [.int .i64 f.v,.slice f.A f.n f.c] from (sb.ext hh.below).recAt PX.len hx) rfl ZC ?_;refine bU ?_;intro b7 w7 hh ws hh;refine aq (Ac g f (k+i*s) k _ (hT.hp hh) (hh.ar (i:=1) rfl) ((hf f hmem).ext hh.below) hgl hfl ZB) ak.out rfl ZC ?_;rintro e_ w36 ⟨h,oh,rfl,h3⟩;refine ⟨_,rfl, ?_⟩;replace hh:=hh.join h3;simp only [ZR,ZN] at hh;by_cases he:ir g.ts f.ts=0
    ·obtain ⟨hv,hA,hn2,hc2,hts2⟩:=h;rw [he] at oh;obtain rfl:g.v=hv:=oh.v.symm;obtain rfl:aQ (dq g.ts f.ts)=hts2:=oh.ts.symm;replace hh:=show Hp w (.row hA hn2 hc2 95 4 (ao TR.cells (aQ (dq g.ts f.ts)))::_) w36 from hh;have hhn:(aQ (dq g.ts f.ts)).length=hn2:=(hh.ar (i:=0) rfl).a6 TR.len ZC;have hhc:hn2≤hc2:=hh.gO (i:=0) rfl;have h4:=(rS he).2.2;have htl:=He hgl.ok hfl.ok hfl.sz he ZB;refine kb ?_;intro b8 w8 hh ws hh ws hh;replace hh:=hh.sub (ZJ _ (ZI _ (ZJ _ (ZJ _ (ZI _ (ZI _ Z4))))));refine ⟨⟨i+1,⟨g.v,hA,hn2,hc2,aQ (dq g.ts f.ts)⟩,ZB,rfl,by rw [hnx];exact he,hgv,by rw [hnx],⟨by show hn2≤1000000;omega,hhc,htl.1.mono (by rw [aaS];omega),htl.2⟩,hh⟩,by show n-1-(i+1)<n-1-i;omega, ?_⟩;exact dh
    ·rw [hsp he];refine kb ?_;intro b8 w8 hh ws hh ws hh;refine Cw (bH rfl (bG (vs:=[_,_]) aC.out (hh.aK (i:=5) (n:=2) rfl rfl) rfl) (dL (ep rfl) cV)) ?_;exact Oq
   ·obtain rfl:i=n-1:=ZB;rw [ZO ZB] at hz hts;refine bJ ?_;intro ws hh;refine pP ?_;rw [hz];exact ⟨g,⟨hgv,hts⟩,rfl,hh.sub (ZI _ (aaJ _))⟩
 ·rw [ZG h0];generalize iG ps=e at*;refine ae (N:=46) (l:=[.slice L n c]) Tryz.func248 rfl rfl (by simp) ?_;refine bJ ?_;intro b2 w2 hh;refine zf ?_;intro w11 hh;exact Qc
theorem tw {x:TR} (b:List TR):∀{a:List TR},(∀t∈a,iZ t.m x.m=true)→jb (a++b) x=a++jb b x
 |[],_=>rfl
 |t::a,h=>by
  rw [ZR,jb,ZH (h t ZQ),tw b fun s hs=>h s (Z0 _ hs)]
  rfl
theorem Ll {x:TR}{l:List TR} (h:∀t∈l,iZ t.m x.m=true):jb l x=l++[⟨x.m,nR x.c.d⟩]:=by
 have:=tw [] h;rwa [aal] at this
theorem Qi {x t:TR}{l:List TR}{i:Nat} (hx:l[i]?=some t) (h:∀s∈l.take i,iZ s.m x.m=true) (h1:iZ t.m x.m=false):jb l x=if t.m=x.m then l.take i++⟨x.m,nR (t.c.d+x.c.d)⟩::l.drop (i+1) else l.take i++⟨x.m,nR x.c.d⟩::l.drop i:=by
 have e:l=l.take i++t::l.drop (i+1):=by rw [←gC hx,aaL]
 have e2:jb l x=l.take i++jb (t::l.drop (i+1)) x:=by
  conv=>lhs;rw [e]
  exact tw _ h
 rw [e2,jb,ZG (by rw [h1];decide),gC hx];by_cases he:t.m=x.m
 ·rw [ZH he,ZG (by rw [he,jT];decide)]
 ·rw [ZG he,ZH]
  cases h2:iZ x.m t.m with
  |true=>rfl
  |false=>exact absurd (pr h1 h2) he
theorem Fs (A:Option Addr) (n c:Nat) (l:List TR) (x:TR) (w:World) (hS:Sl w A n 4 (ao TR.cells l)) (hcn:n≤c) (hn:n≤1000000) (ho:∀t∈l,t.c.ok) (hx:x.c.ok):
  Calls Tryz.prog 164 #[.slice A n c,.agg #[.string x.m,.bool x.c.neg,.string x.c.aW,.int .i64 x.c.e]] w fun r w'=>∃A' c',r=.returned (.slice A' (jb l x).length c')∧Hp w [.row A' (jb l x).length c' 95 4 (ao TR.cells (jb l x))] w':=by
 have hh:=Hp.start w;have hln:=hS.a6 TR.len ZC;have hfo:=fun w1=>gk x.c w1 (by have:=hx.1;omega) (by have:=hx.2.1;omega) (by have:=hx.2.2;omega);refine ae (N:=76) (l:=[.slice A n c,.agg #[.string x.m,.bool x.c.neg,.string x.c.aW,.int .i64 x.c.e]]) Tryz.func164 rfl rfl (by simp) ?_;refine bJ ?_;intro b3 w3 hh;refine aD [5,7,8,9,10,11,12,13,14,15,16,17,18,19,20,21,22] 5
  (fun v w'=>∃i:Nat,i≤n∧v=.int .i64 i∧(∀t∈l.take i,iZ t.m x.m=true)∧Hp w [.blk b3 95 [.string x.m,.bool x.c.neg,.string x.c.aW,.int .i64 x.c.e] (0,0)] w')
  (fun v _=>n-(intOf v).toNat) ?_ ?_
 ·exact ⟨0,ZK _,rfl,fun t ht=>(nomatch ht),hh⟩
 ·clear hh;rintro ρ' v w' ⟨i,hi,rfl,hall,hh⟩;by_cases hlt:i<n
  ·obtain ⟨t,ht⟩:=ah (l:=l) (k:=i) ZB;obtain ⟨ad,rfl,hr⟩:=hS.at_ ZB;have hto:=ho t (ZL ht)
   cases hl:iZ t.m x.m with
   |true=>
    have hbl:Op.bytesLess t.m.toList x.m.toList=true:=by rw [mf,hl]
    refine aj ?_;refine L8 ?_;refine cj ?_;refine dR ?_;refine m8 ?_;refine uw ?_;refine lY ?_;refine dG (dR ?_);refine dG (cj ?_);refine dG (jK (i) ?_);refine dG (zr ?_);refine GM ?_;refine dG (cK ?_);refine dG (ee 0 ?_);refine au ?_;intro f W hJ hV;have hb_2:=hJ.bl;obtain ⟨v18,v17,v16,v15,v14,v13,v12,v11,v10,v9,v8,v7,_⟩:=hV;replace hh:=hJ.hp;refine LU ?_;dsimp only [bf];clear hJ;refine gT ?_;refine tq rfl rfl ZC ?_;refine aj ?_;rw [hbl];refine aj ?_;refine ⟨⟨i+1,ZB,rfl,fun s hs=> ?_,hh⟩,by show n-(i+1)<n-i;omega, ?_⟩
    ·rw [al ht] at hs
     rcases aav.1 hs with hs|hs
     ·exact hall s hs
     ·rw [aaa.1 hs];exact hl
    ·exact dh
   |false=>
    have hbl:Op.bytesLess t.m.toList x.m.toList=false:=by rw [mf,hl]
    have hput:=Qi ht hall hl;have hS1:=hS.front (m:=i) ZB;rw [show (ao TR.cells l).take (i*4)=ao TR.cells (l.take i) from jZ TR.len l i] at hS1;have o1:=bo TR.one (l.take i);refine aj ?_;refine L8 ?_;refine cj ?_;refine dR ?_;refine m8 ?_;refine uw ?_;refine lY ?_;refine dG (dR ?_);refine dG (cj ?_);refine dG (jK (i) ?_);refine dG (zr ?_);refine GM ?_;refine dG (cK ?_);refine dG (ee 0 ?_);refine au ?_;intro f W hJ hV;have hb_2:=hJ.bl;obtain ⟨v18,v17,v16,v15,v14,v13,v12,v11,v10,v9,v8,v7,_⟩:=hV;replace hh:=hJ.hp;refine LU ?_;dsimp only [bf];clear hJ;refine gT ?_;refine tq rfl rfl ZC ?_;refine aj ?_;rw [hbl];refine aj ?_;refine xt ?_;intro b23 w23 hh;refine aj ?_;refine OR ?_;refine bQ hh (i:=0) rfl rfl rfl (hS1.ext hh.below) bj.out aC.out rfl ZC ?one10 ZB ZB ZC ?kk10
    case one10=>first|rfl|assumption|exact a9 _|exact oneCells_u8s _
    intro A27 c27 w27 hh;simp only [ZP] at hh;refine aj ?_;have hpl:=fun w1=>oe t.c x.c w1 hto hx;by_cases he:t.m=x.m
    ·rw [ZH he] at hput;have hS2:=hS.back (l:=i+1) ZB hcn;rw [show (ao TR.cells l).drop ((i+1)*4)=ao TR.cells (l.drop (i+1)) from jq TR.len l (i+1)] at hS2;have o2:=bo TR.one (l.drop (i+1));refine MZ ?_;refine cj ?_;refine dR ?_;refine m8 ?_;refine uw ?_;refine lY ?_;refine dG (dR ?_);refine dG (cj ?_);refine dG (jK (i) ?_);refine dG (zr ?_);refine GM ?_;refine dG (cK ?_);refine dG (ee 1 ?_);refine au ?_;intro f W hJ hV;have hb_5:=hJ.bl;obtain ⟨v39,v38,v37,v36,v35,v34,v33,v32,v31,v30,v29,v28,_⟩:=hV;replace hh:=hJ.hp;refine L5 ?_;dsimp only [bf];clear hJ;refine gT ?_
     (first|refine jm rfl rfl (by first|rfl|assumption|decide) ZC ?_|refine ji rfl rfl (by first|assumption|decide) ZC ?_)
     refine aj ?_;refine aw 13 [[(6,none)],[(3,none)],[(43,some 1)],[(0,none)],[(5,none)],[(45,some 3),(46,some 4)],[(47,some 5)],[(48,some 6)],[(3,none)],[(50,some 8)],[(49,some 7),(51,some 9)],[(44,some 2),(52,some 10)],[(53,some 11)]] [(12,54),(11,53),(10,52),(9,51),(8,50),(7,49),(6,48),(5,47),(4,46),(3,45),(2,44),(1,43),(0,42)] hh mixed ZD ?_;refine dR ?_;refine cK ?_;refine ee 1 ?_;refine dR ?_;refine cj ?_;refine jK (i) ?_;refine zr ?_;refine nu [_,_,_] (fun _ hj=>((hr.ext hj.hp.below).recAt TR.len ht).drop 1) ?_;refine cK ?_;refine df 1 [_,_,_] ?_;refine dC (fun _ hj=>hpl _) ?_;refine dB [_,_,_,_] ?_;refine vG [_,_,_,_] ?_;refine au ?_;intro f W hJ hV;have hb_6:=hJ.bl;obtain ⟨v54,v53,v52,v51,v50,v49,v48,v47,v46,v45,v44,v43,v42,_⟩:=hV;obtain ⟨A54,c54,e54,f54⟩:Rows _ _ _ (f 12) W:=v54;replace hh:=hJ.hp;refine az (aH (aa e54 (aa v53 (aa v52 (aa v51 (aa v50 (aa v49 (aa v48 (aa v47 (aa v46 (aa v45 (aa v44 (aa v43 (aa v42 ay)))))))))))))) ?_;dsimp only [bf];clear e54 hJ
     refine bQ hh (i:=0) rfl rfl rfl (f54) bj.out aC.out rfl ZC (by first|rfl|exact dw _|exact cL _|exact a9 _|exact bo NR.one _) ZB ZB ZC ?_;intro A55 c55 w55 hh;simp only [ZP] at hh;refine aj ?_;refine aR rfl rfl ZC (gJ bj.out aC.size rfl rfl (l:=i+1) ZB ZB ZB) ?_;refine bQ hh (i:=0) rfl rfl rfl (hS2.ext hh.below) bj.out aC.out rfl ZC ?one11 ZB ZB ZC ?kk11
     case one11=>first|rfl|assumption|exact a9 _|exact oneCells_u8s _
     intro A61 c61 w61 hh;simp only [ZP] at hh;refine aj ?_;have e1:(jb l x).length=0+i+1+(n-(i+1)):=by rw [hput,ZS,aae,Z1,aaU];omega
     have e2:ao TR.cells (jb l x)=[]++ao TR.cells (l.take i)++[.string x.m,.bool (nR (t.c.d+x.c.d)).neg,.string (nR (t.c.d+x.c.d)).aW,.int .i64 (nR (t.c.d+x.c.d)).e]++ao TR.cells (l.drop (i+1)):=by rw [hput,bp,iD,ZN,aam];rfl
     exact RW
    ·rw [ZG he] at hput;have hS2:=hS.back (l:=i) ZB hcn;rw [show (ao TR.cells l).drop (i*4)=ao TR.cells (l.drop i) from jq TR.len l i] at hS2;have o2:=bo TR.one (l.drop i);refine MZ ?_;refine cj ?_;refine dR ?_;refine m8 ?_;refine uw ?_;refine lY ?_;refine dG (dR ?_);refine dG (cj ?_);refine dG (jK (i) ?_);refine dG (zr ?_);refine GM ?_;refine dG (cK ?_);refine dG (ee 1 ?_);refine au ?_;intro f W hJ hV;have hb_5:=hJ.bl;obtain ⟨v39,v38,v37,v36,v35,v34,v33,v32,v31,v30,v29,v28,_⟩:=hV;replace hh:=hJ.hp;refine L5 ?_;dsimp only [bf];clear hJ;refine gT ?_
     (first|refine jm rfl rfl (by first|rfl|assumption|decide) ZC ?_|refine ji rfl rfl (by first|assumption|decide) ZC ?_)
     refine aj ?_;refine RK ?_;refine dR ?_;refine cK ?_;refine ee 1 ?_;refine cK ?_;refine df 1 [_,_,_] ?_;refine dC (fun _ hj=>hfo _) ?_;refine dB [_,_,_,_] ?_;refine vG [_,_,_,_] ?_;refine au ?_;intro f W hJ hV;have hb_8:=hJ.bl;obtain ⟨v69,v68,v67,v66,v65,v64,v63,v62,_⟩:=hV;obtain ⟨A69,c69,e69,f69⟩:Rows _ _ _ (f 7) W:=v69;replace hh:=hJ.hp;refine Sx ?_;dsimp only [bf];clear e69 hJ;refine Rv ?_;intro A70 c70 w70 hh;simp only [ZP] at hh;refine aj ?_;refine aR rfl rfl ZC (gJ bj.out aC.size rfl rfl (l:=i) ZB ZB ZB) ?_;refine bQ hh (i:=0) rfl rfl rfl (hS2.ext hh.below) bj.out aC.out rfl ZC ?one12 ZB ZB ZC ?kk12
     case one12=>first|rfl|assumption|exact a9 _|exact oneCells_u8s _
     intro A75 c75 w75 hh;simp only [ZP] at hh;refine aj ?_;have e1:(jb l x).length=0+i+1+(n-i):=by rw [hput,ZS,aae,Z1,aaU];omega
     exact Wh
  ·obtain rfl:i=n:=ZB;have hput:=Ll (x:=x) (l:=l) (by rwa [ZO ZB] at hall);rw [show l++[⟨x.m,nR x.c.d⟩]=l.take i++⟨x.m,nR x.c.d⟩::l.drop i by rw [ZO ZB,abx ZB]] at hput;have hS1:=hS.front (m:=i) ZB;rw [show (ao TR.cells l).take (i*4)=ao TR.cells (l.take i) from jZ TR.len l i] at hS1;have o1:=bo TR.one (l.take i);have hS2:=hS.back (l:=i) ZB hcn;rw [show (ao TR.cells l).drop (i*4)=ao TR.cells (l.drop i) from jq TR.len l i] at hS2;have o2:=bo TR.one (l.drop i);refine aj ?_;refine L8 ?_;refine cj ?_;refine dR ?_;refine m8 ?_;refine uw ?_;refine lY ?_;refine dS (dS ?_);refine oZ (i:=7) rfl (fun ρ1 w1 hj hR=>(show ρ1 11=Value.bool _ from hR.2.2.1)) ZC ?_;refine dS (dS (dS (dS ?_)));refine au ?_;intro f W hJ hV;have hb_2:=hJ.bl;obtain ⟨v18,v17,v16,v15,v14,v13,v12,v11,v10,v9,v8,v7,_⟩:=hV;replace hh:=hJ.hp;refine LU ?_;dsimp only [bf];clear hJ;refine aj ?_;refine xt ?_;intro b23 w23 hh;refine aj ?_;refine OR ?_;refine bQ hh (i:=0) rfl rfl rfl (hS1.ext hh.below) bj.out aC.out rfl ZC ?one13 ZB ZB ZC ?kk13
   case one13=>first|rfl|assumption|exact a9 _|exact oneCells_u8s _
   intro A27 c27 w27 hh;simp only [ZP] at hh;refine aj ?_;refine MZ ?_;refine cj ?_;refine dR ?_;refine m8 ?_;refine uw ?_;refine lY ?_;refine dS (dS ?_);refine oZ (i:=7) rfl (fun ρ1 w1 hj hR=>(show ρ1 32=Value.bool _ from hR.2.2.1)) ZC ?_;refine dS (dS (dS (dS ?_)));refine au ?_;intro f W hJ hV;have hb_5:=hJ.bl;obtain ⟨v39,v38,v37,v36,v35,v34,v33,v32,v31,v30,v29,v28,_⟩:=hV;replace hh:=hJ.hp;refine L5 ?_;dsimp only [bf];clear hJ;refine aj ?_;refine RK ?_;refine dR ?_;refine cK ?_;refine ee 1 ?_;refine cK ?_;refine df 1 [_,_,_] ?_;refine dC (fun _ hj=>hfo _) ?_;refine dB [_,_,_,_] ?_;refine vG [_,_,_,_] ?_;refine au ?_;intro f W hJ hV;have hb_8:=hJ.bl;obtain ⟨v69,v68,v67,v66,v65,v64,v63,v62,_⟩:=hV;obtain ⟨A69,c69,e69,f69⟩:Rows _ _ _ (f 7) W:=v69;replace hh:=hJ.hp;refine Sx ?_;dsimp only [bf];clear e69 hJ;refine Rv ?_;intro A70 c70 w70 hh;simp only [ZP] at hh;refine aj ?_;refine aR rfl rfl ZC (gJ bj.out aC.size rfl rfl (l:=i) ZB ZB ZB) ?_;refine bQ hh (i:=0) rfl rfl rfl (hS2.ext hh.below) bj.out aC.out rfl ZC ?one14 ZB ZB ZC ?kk14
   case one14=>first|rfl|assumption|exact a9 _|exact oneCells_u8s _
   intro A75 c75 w75 hh;simp only [ZP] at hh;refine aj ?_;have e1:(jb l x).length=0+i+1+(i-i):=by rw [hput,ZS,aae,Z1,aaU];omega
   exact Wh
theorem yS {l:List TR} (ho:kq k l) (hk:k+l.length≤3999980):kq (k+l.length) (jo l):=fun t ht=>by
 have h:=DS l (fun t ht=>(ho t ht).2) t ht;exact ⟨by rw [D7 l t ht];exact h.ok ZB,h⟩
theorem x8 (v:Int) (A:Option Addr) (n c:Nat) (l:List TR) (k:Nat) (w:World) (hS:Sl w A n 4 (ao TR.cells l)) (hn:n≤100000) (ho:kq k l) (hk:k+n≤3999980):
  Calls Tryz.prog 120 #[.int .i64 v,.slice A n c] w fun r w'=>∃g:PX,iz (iA l) v (aQ l) g∧r=.returned (.tuple #[.agg #[.int .i64 g.v,.slice g.A g.n g.c],.int .i64 (iA l)])∧Hp w [g.row] w':=by
 have hh:=Hp.start w;have hln:=hS.a6 TR.len ZC;refine ae (N:=49) (l:=[.int .i64 v,.slice A n c]) Tryz.func120 rfl rfl (by simp) ?_;refine bJ ?_;intro b4 w4 hh;replace hh:=hh.cq 95 4;refine a7 [6,7,10,11,12,13,14,15,16,17,18,19,20,21] 6 7
  (fun a x w'=>∃(i:Nat) (A':Option Addr) (c':Nat),i≤n∧x=.int .i64 i∧a=.slice A' (jo (l.take i)).length c'∧Hp w [.row A' (jo (l.take i)).length c' 95 4 (ao TR.cells (jo (l.take i))),.blk b4 52 [.int .i64 0,.slice none 0 0] (0,0)] w')
  (fun _ x _=>n-(intOf x).toNat) ?_ ?_
 ·exact ⟨0,none,0,ZK _,rfl,rfl,hh⟩
 ·clear hh;rintro ρ' a_ x_ w' ⟨i,A',c',hi,rfl,rfl,hh⟩;have hGl:=yJ (l.take i);rw [Z1] at hGl;by_cases hlt:i<n
  ·obtain ⟨x,hx⟩:=ah (l:=l) (k:=i) ZB;obtain ⟨ad,rfl,hr⟩:=hS.at_ ZB;have hgo:=yS (l:=l.take i) (k:=k) (fun t ht=>ho t (abw ht)) (by rw [Z1];omega);refine aj ?_;refine rm ?_;refine aq (Fs A' (jo (l.take i)).length c' (jo (l.take i)) x _ (hh.ar (i:=0) rfl) (hh.gO (i:=0) rfl) ZB (fun t ht=>(hgo t ht).1) (ho x (ZL hx)).1) ak.out rfl ZC ?_;rintro e_ w21 ⟨A2,c2,rfl,h3⟩;refine ⟨_,rfl, ?_⟩;replace hh:=hh.join h3;simp only [ZR,ZN] at hh;rw [←ja,←al hx] at hh ⊢;refine aj ?_;replace hh:=hh.sub (ZI _ (ZJ _ (ZI _ Z4)));refine ⟨⟨i+1,A2,c2,ZB,rfl,rfl,hh⟩,by show n-(i+1)<n-i;omega, ?_⟩;exact dh
  ·obtain rfl:i=n:=ZB;rw [ZO ZB] at hh hGl ⊢;have hgo:=yS ho ZB;have hgt:aQ l=(jo l).filter qy:=rfl;unfold iA;rw [hgt];generalize jo l=G at*;obtain ⟨m,hm⟩:∃m,m=G.length:=⟨_,rfl⟩;rw [←hm] at hh ⊢;refine aj ?_;replace hh:=hh.cq 95 4;refine a7 [8,9,22,23,24,25,26,27,28,29,30,31,32,33,34,35,36,37,38,39,40,41] 8 9
    (fun a x w'=>∃(j:Nat) (B:Option Addr) (d:Nat),j≤m∧x=.int .i64 j∧a=.slice B ((G.take j).filter qy).length d∧Hp w [.row B ((G.take j).filter qy).length d 95 4 (ao TR.cells ((G.take j).filter qy)),.row A' m c' 95 4 (ao TR.cells G),.blk b4 52 [.int .i64 0,.slice none 0 0] (0,0)] w')
    (fun _ x _=>m-(intOf x).toNat) ?_ ?_
   ·exact ⟨0,none,0,ZK _,rfl,rfl,hh⟩
   ·clear hh;rintro ρ2 a2 x2 w2 ⟨j,B,d,hj,rfl,rfl,hh⟩;have hfl:((G.take j).filter qy).length≤j:=aac (List.length_filter_le _ _) (by rw [Z1];omega);by_cases hjm:j<m
    ·obtain ⟨t,ht⟩:=ah (l:=G) (k:=j) ZB;have hto:=hgo t (ZL ht);have hsg:=fun w1=>dz t.c w1 (by have:=hto.1.1;omega);have hzz:t.c.i.sign=0↔t.c.d=0:=by
      exact Ut
     obtain ⟨g0,rfl⟩:=hh.bL (i:=1) rfl ZB;by_cases hz:t.c.d=0
     ·have hs:=hzz.2 hz;have hft:(G.take (j+1)).filter qy=(G.take j).filter qy:=by
       rw [al ht,acu,List.filter_cons,ZG (by unfold qy;rw [ZX hz];decide)];simp
      refine aj ?_;refine R7 ?_;refine a0 hh (hsg _) rfl ?_;intro w33 hh;refine aj ?_;refine ⟨⟨j+1,B,d,ZB,rfl,by rw [hft];rfl,by rw [hft];exact hh⟩,by show m-(j+1)<m-j;omega, ?_⟩;exact dh
     ·have hs:¬t.c.i.sign=0:=fun h=>hz (hzz.1 h);have hft:(G.take (j+1)).filter qy=(G.take j).filter qy++[t]:=by
       rw [al ht,acu,List.filter_cons,ZH (by unfold qy;rw [Z3 hz];rfl)];simp
      refine aj ?_;refine R7 ?_;refine a0 hh (hsg _) rfl ?_;intro w33 hh;refine aj ?_;refine bk (vs:=[_,_,_,_]) aC.out rfl (hh.dy (f:=TR.cells) (x:=t) (l:=G) (i:=1) rfl TR.len ZC ht) rfl ZC ?_;refine C5 ?_;intro b40 w40 hh;refine oM ?_;intro A41 c41 w41 hh;simp only [ZP,aaf] at hh;replace hh:=hh.sub (aan _ _);refine aj ?_;refine ⟨⟨j+1,A41,c41,ZB,rfl,by rw [hft,ZS];rfl,by rw [hft,ZS,bp,rv];exact hh⟩,by show m-(j+1)<m-j;omega, ?_⟩;exact dh
    ·obtain rfl:j=m:=ZB;rw [ZO ZB] at hh hfl ⊢;generalize G.filter qy=F at*;by_cases h4:4096<F.length
     ·rw [ZH h4];refine bJ ?_;intro ws hh;refine pP ?_;exact MN
     ·rw [ZG h4];refine bJ ?_;intro ws hh;refine pP ?_;exact ⟨⟨v,B,F.length,d,F⟩,⟨rfl,rfl⟩,rfl,hh.sub (ZI _ (aaJ _))⟩
def hU (v:Int):ByteArray:=⟨(List.replicate v.toNat 0).toArray⟩
theorem qF {v:Int} (h:0≤v):((hU v).size:Int)=v:=by
 have:(hU v).size=v.toNat:=by unfold hU;show (List.replicate v.toNat (0:UInt8)).toArray.size=_;rw [acC,aaZ]
 omega
theorem yT (v:Int):fK (hU v).data.toList=true:=by
 unfold fK hU;rw [aai];intro c hc;have:(⟨(List.replicate v.toNat (0:UInt8)).toArray⟩:ByteArray).data.toList=List.replicate v.toNat 0:=rfl;rw [this] at hc;rw [(List.mem_replicate.1 hc).2];decide
theorem OS {l:List TR} (h:l.length≤4096):iA l=0:=by
 unfold iA;have:=dQ l;rw [ZG ZB]
theorem DC {v:Int}{t:TR} (hf:jN v=true) (h:hQ v t=true):lk v [t]=0:=by
 unfold lk;rw [ZG (by rw [hf];simp [h]),ZG (by simp),OS (by simp)]
def Es (v:Int):Int:=if jN v=false then 1 else 0
theorem nj (v:Int) (c:NR) (k:Nat) (w:World) (hT:dO w) (hc:c.ok∧Sz k c.d) (hk:k≤2999980):
  Calls Tryz.prog 191 #[.int .i64 v,.agg #[.bool c.neg,.string c.aW,.int .i64 c.e]] w fun r w'=>∃g:PX,iz (Es v) v (aQ [⟨hU v,c⟩]) g∧r=.returned (.tuple #[.agg #[.int .i64 g.v,.slice g.A g.n g.c],.int .i64 (Es v)])∧Hp w [g.row] w':=by
 have hh:=Hp.start w;have hfw:=fun w1=>oT v w1
 cases hf:jN v with
 |false=>
  rw [hf] at hfw;rw [show Es v=1 by unfold Es;rw [ZH hf]];refine ae (N:=20) (l:=[.int .i64 v,.agg #[.bool c.neg,.string c.aW,.int .i64 c.e]]) Tryz.func191 rfl rfl (by simp) ?_;refine bU ?_;intro b3 w3 hh b4 w4 hh;refine a0 hh (hfw _) rfl ?_;intro w7 hh;refine bJ ?_;intro ws hh;exact QD
 |true=>
  rw [hf] at hfw;obtain ⟨h0,h12⟩:=iQ.1 hf;have hm:lk v [⟨hU v,c⟩]=0:=DC hf (by unfold hQ;rw [yT,ZX (qF h0)];rfl);have hmk:=fun A cc w1 hT1 hS1=>tx v A 1 cc [⟨hU v,c⟩] k w1 hT1 hS1 ZC ZB (fun t ht=>by rw [aaa.1 ht];exact hc) (fun t ht=>by rw [aaa.1 ht];have:=qF h0;show (hU v).size≤_;omega);rw [hm] at hmk;rw [show Es v=0 by unfold Es;rw [ZG (by rw [hf];decide)]];refine ae (N:=20) (l:=[.int .i64 v,.agg #[.bool c.neg,.string c.aW,.int .i64 c.e]]) Tryz.func191 rfl rfl (by simp) ?_;refine bU ?_;intro b3 w3 hh b4 w4 hh;refine a0 hh (hfw _) rfl ?_;intro w7 hh;refine aj ?_;refine kH [] [0,0,2,6,0,30,62,127,255,255,1023,2047] 7 [[(0,none)],[(0,none)],[(11,some 1)],[(12,some 2)],[(3,none)],[(13,some 3),(14,some 4)],[(15,some 5)]] [(6,16),(5,15),(4,14),(3,13),(2,12),(1,11),(0,10)] [([],4,[(6,16),(5,15),(4,14),(3,13),(2,12),(1,11),(0,10)])] hh mixed ZD ZD ZC ?_;refine cj ?_;refine cj ?_;refine aM (i:=2) (lU v.toNat 1 (jQ (List.replicate v.toNat 0))) (lU.ext) ?_ ?_
  ·intro ρ1 w1 hj hR;exact wk v.toNat ▸ QE (n:=v.toNat) (show ρ1 11=Value.int _ _ from hR.1) (show ρ1 11=Value.int _ _ from hR.1) ZB ZB bj.out aC.out rfl ZB ZB (fun _ _ h1 h2=>⟨h2,h1⟩)
  refine aM (i:=3) (Is (.string (hU v))) (Is.ext) ?_ ?_
  ·intro ρ1 w1 hj hR;obtain ⟨g12,e12,o12⟩:=hR.1;exact let ⟨g,e,o⟩:=hR.1;dm rfl (ij (l:=List.replicate v.toNat 0) bj.out bj.out bj.out e o) ⟨Below.refl _ _,rfl⟩
  refine df 1 [_,_,_] ?_;refine dB [_,_,_,_] ?_;refine vG [_,_,_,_] ?_;refine au ?_;intro p_ hp_;simp only [ZZ,aaO,or_false] at hp_
  rcases hp_ with rfl
  intro f W hJ hV;have hb_3:=hJ.bl;obtain ⟨v16,v15,v14,v13,v12,v11,v10,_⟩:=hV;simp only [il];have e10:f 0=_:=v10;rw [e10];have e11:f 1=_:=v11;rw [e11];obtain ⟨g12,e12,o12⟩:lU v.toNat 1 (jQ (List.replicate v.toNat 0)) (f 2) W:=v12;rw [e12];have e13:f 3=_:=v13;rw [e13];have e14:f 4=_:=v14;rw [e14];have e15:f 5=_:=v15;rw [e15];obtain ⟨A16,c16,e16,f16⟩:Rows _ _ _ (f 6) W:=v16;rw [e16];replace hh:=hJ.hp;clear e10 e11 e12 e13 e14 e15 e16 hJ;refine aq (hmk _ _ _ (hT.hp hh) f16) ak.out rfl ZC ?_;rintro e_ w17 ⟨g,og,rfl,h3⟩;refine ⟨_,rfl, ?_⟩;replace hh:=hh.join h3;refine dY ?_;simp only [ZR,ZN] at hh;refine cW (i:=8) (by repeat (first|exact bW|refine bA ?_|refine bY ?_|refine np_scope ?_)) rfl ZD ZD ZD (fun _=>ej (show _=Value.tuple (List.toArray _) from rfl) rfl) ZC ?_;refine cW (i:=9) (by repeat (first|exact bW|refine bA ?_|refine bY ?_|refine np_scope ?_)) rfl ZD ZD ZD (fun _=>ej (show _=Value.tuple (List.toArray _) from rfl) rfl) ZC ?_;refine jG 10 ZC ZD ZC ZD ZD ?_;exact KL
def pH (v:Int) (x:Nat):ByteArray:=⟨((List.replicate v.toNat (0:UInt8)).set x 1).toArray⟩
theorem tf {v:Int}{x:Nat} (h:0≤v):((pH v x).size:Int)=v:=by
 have:(pH v x).size=v.toNat:=by unfold pH;show ((List.replicate v.toNat (0:UInt8)).set x 1).toArray.size=_;rw [acC,aba,aaZ]
 omega
theorem Er (v:Int) (x:Nat):fK (pH v x).data.toList=true:=by
 unfold fK;rw [aai];intro c hc;have:(pH v x).data.toList=(List.replicate v.toNat 0).set x 1:=rfl;rw [this] at hc
 rcases List.mem_or_eq_of_mem_set hc with h|rfl
 ·rw [(List.mem_replicate.1 h).2];decide
 ·decide
theorem I1 {l:List UInt8}{i:Nat}{c:UInt8} (h:i<l.length):bO (jQ l) (i*1) [.int .u8 c.toNat]=jQ (l.set i c):=by
 unfold bO jQ;rw [Z8,ac3,ZH h,aaG,aaj,List.map_take,acs,aam]
 rfl
def vD (v x:Int):Int:=if jN v=false∨x<0∨v≤x then 1 else 0
theorem Gx (v x:Int) (w:World) (hT:dO w):
  Calls Tryz.prog 189 #[.int .i64 v,.int .i64 x] w fun r w'=>∃g:PX,iz (vD v x) v (aQ [⟨pH v x.toNat,nR ((1:Int):Dyadic)⟩]) g∧r=.returned (.tuple #[.agg #[.int .i64 g.v,.slice g.A g.n g.c],.int .i64 (vD v x)])∧Hp w [g.row] w':=by
 have hh:=Hp.start w;have hfw:=fun w1=>oT v w1
 cases hf:jN v with
 |false=>
  rw [hf] at hfw;rw [show vD v x=1 by unfold vD;rw [ZH (.inl hf)]];exact OZ
 |true=>
  rw [hf] at hfw;obtain ⟨h0,h12⟩:=iQ.1 hf;by_cases hx0:x<0
  ·rw [show vD v x=1 by unfold vD;rw [ZH (.inr (.inl hx0))]];exact OZ
  ·by_cases hx1:v≤x
   ·rw [show vD v x=1 by unfold vD;rw [ZH (.inr (.inr hx1))]];exact OZ
   ·rw [show vD v x=0 by unfold vD;rw [ZG (by rintro (h|h|h);exact absurd (hf.symm.trans h) ZC;omega;omega)]];have hm:lk v [⟨pH v x.toNat,nR ((1:Int):Dyadic)⟩]=0:=DC hf (by unfold hQ;rw [Er,ZX (tf h0)];rfl);have z1:Sz 24 ((1:Int):Dyadic):=VK (m:=1) (e:=0) ZC ZC ZC;have hmk:=fun A cc w1 hT1 hS1=>tx v A 1 cc [⟨pH v x.toNat,nR ((1:Int):Dyadic)⟩] 24 w1 hT1 hS1 ZC ZB (fun t ht=>by rw [aaa.1 ht];exact ⟨z1.ok ZC,by show Sz 24 (nR _).d;rw [bE];exact z1⟩) (fun t ht=>by rw [aaa.1 ht];have:=tf (x:=x.toNat) h0;show (pH v x.toNat).size≤_;omega);rw [hm] at hmk;refine ae (N:=34) (l:=[.int .i64 v,.int .i64 x]) Tryz.func189 rfl rfl (by simp) ?_;refine bJ ?_;intro b4 w4 hh;refine a0 hh (hfw _) rfl ?_;intro w8 hh;refine aj ?_;refine fT (n:=(v.toNat)) hh rfl rfl ZB ZB bj.out aC.out rfl ZB ZB ZC ?_;intro b21 w21 hh;refine aL (aN (sr (mL (mI ?_))));refine dN (k:=(x.toNat)) bj.out aC.size rfl rfl ZB ZB ZC ?_;rw [wk] at hh;have hll:(jQ (List.replicate v.toNat 0)).length=v.toNat:=by simp [jQ]
    refine Nw ?_;intro ws hh;simp only [ZP] at hh;rw [show bO (jQ (List.replicate v.toNat 0)) (x.toNat*1) [.int .u8 1]=jQ ((List.replicate v.toNat 0).set x.toNat 1) from I1 (l:=List.replicate v.toNat 0) (i:=x.toNat) (c:=1) (by rw [aaZ];omega)] at hh;refine aj ?_;refine kH [] [0,0,2,0,14,30,63,127,127,511,1023] 6 [[(0,none)],[(6,none)],[(26,some 1)],[],[(27,some 2),(28,some 3)],[(29,some 4)]] [(5,30),(4,29),(3,28),(2,27),(1,26),(0,25)] [([],4,[(5,30),(4,29),(3,28),(2,27),(1,26),(0,25)])] hh mixed ZD ZD ZC ?_;refine cj ?_;refine dR ?_;refine aM (i:=2) (Is (.string ⟨(((List.replicate v.toNat 0).set x.toNat 1)).toArray⟩)) Is.ext ?_ ?_
    ·intro ρ1 w1 hj hR;exact dm rfl (ij (l:=((List.replicate v.toNat 0).set x.toNat 1)) bj.out bj.out bj.out (show ρ1 26=Value.slice _ _ _ from hR.1) (hj.hp.ar (i:=0) rfl)) ⟨Below.refl _ _,rfl⟩
    refine dC (fun _ hj=>pg 1 _ (hT.hp hj.hp) ZC ZC) ?_;refine dB [_,_,_,_] ?_;refine vG [_,_,_,_] ?_;refine au ?_;intro p_ hp_;simp only [ZZ,aaO,or_false] at hp_
    rcases hp_ with rfl
    intro f W hJ hV;have hb_5:=hJ.bl;obtain ⟨v30,v29,v28,v27,v26,v25,_⟩:=hV;simp only [il];have e25:f 0=_:=v25;rw [e25];have e26:f 1=_:=v26;rw [e26];have e27:f 2=_:=v27;rw [e27];have e28:f 3=_:=v28;rw [e28];have e29:f 4=_:=v29;rw [e29];obtain ⟨A30,c30,e30,f30⟩:Rows _ _ _ (f 5) W:=v30;rw [e30];replace hh:=hJ.hp;clear e25 e26 e27 e28 e29 e30 hJ;refine aq (hmk _ _ _ (hT.hp hh) f30) ak.out rfl ZC ?_;rintro e_ w31 ⟨g,og,rfl,h3⟩;refine ⟨_,rfl, ?_⟩;replace hh:=hh.join h3;refine dY ?_;simp only [ZR,ZN] at hh;refine cW (i:=7) (by repeat (first|exact bW|refine bA ?_|refine bY ?_|refine np_scope ?_)) rfl ZD ZD ZD (fun _=>ej (show _=Value.tuple (List.toArray _) from rfl) rfl) ZC ?_;refine cW (i:=8) (by repeat (first|exact bW|refine bA ?_|refine bY ?_|refine np_scope ?_)) rfl ZD ZD ZD (fun _=>ej (show _=Value.tuple (List.toArray _) from rfl) rfl) ZC ?_;refine jG 9 ZC ZD ZC ZD ZD ?_;exact SS
theorem AK (v:Int) (A:Option Addr) (n c:Nat) (l:List TR) (k:Nat) (w:World) (hS:Sl w A n 4 (ao TR.cells l)) (hn:n≤100000) (ho:kq k l) (hk:k+n≤3999980) (hz:∀t∈l,t.m.size≤100000):
  Calls Tryz.prog 73 #[.int .i64 v,.slice A n c] w fun r w'=>∃g:PX,iz (lk v l) v (aQ l) g∧r=.returned (.tuple #[.agg #[.int .i64 g.v,.slice g.A g.n g.c],.int .i64 (lk v l)])∧Hp w [g.row] w':=by
 have hh:=Hp.start w;have hln:=hS.a6 TR.len ZC
 cases hf:jN v with
 |false=>
  have hbv:¬(0≤v∧v≤12):=fun h=>by rw [iQ.2 h] at hf;cases hf
  rw [show lk v l=1 by unfold lk;rw [ZH (.inl hf)]];by_cases h0:v<0
  ·exact RZ
  ·exact RZ
 |true=>
  obtain ⟨hv0,hv12⟩:=iQ.1 hf;refine ae (N:=38) (l:=[.int .i64 v,.slice A n c]) Tryz.func73 rfl rfl (by simp) ?_;refine bJ ?_;intro b4 w4 hh;refine aD [5,6,14,15,16,17,18,19,20,21,22,23,24,25,26,27,28] 6
   (fun x w'=>∃i:Nat,i≤n∧x=.int .i64 i∧(l.take i).any (fun t=> !hQ v t)=false∧Hp w [.blk b4 52 [.int .i64 0,.slice none 0 0] (0,0)] w')
   (fun x _=>n-(intOf x).toNat) ?_ ?_
  ·exact ⟨0,ZK _,rfl,rfl,hh⟩
  ·clear hh;rintro ρ' x_ w' ⟨i,hi,rfl,hall,hh⟩;by_cases hlt:i<n
   ·obtain ⟨x,hx⟩:=ah (l:=l) (k:=i) ZB;obtain ⟨ad,rfl,hr⟩:=hS.at_ ZB;have hxz:=hz x (ZL hx);have hmay:∀w1,Calls Tryz.prog 119 #[.string x.m,.int .i64 v] w1 fun r w'=>r=.returned (.bool (hQ v x))∧Below w1.heap.size w1 w':=fun w1=>Fg x.m v w1 ZB
    cases hm:hQ v x with
    |false=>
     rw [hm] at hmay;rw [show lk v l=1 by unfold lk;rw [ZH (.inr (abg.2 ⟨x,ZL hx,by rw [hm];rfl⟩))]];refine aj ?_;refine Hn ?_;refine mI ?_;refine a0 hh (hmay _) rfl ?_;intro w26 hh;refine bJ ?_;intro ws hh;exact QD
    |true=>
     rw [hm] at hmay;refine aj ?_;refine Hn ?_;refine mI ?_;refine a0 hh (hmay _) rfl ?_;intro w26 hh;refine aj ?_;refine ⟨⟨i+1,ZB,rfl,by rw [al hx,abK,hall,abT,abV,hm];rfl,hh⟩,by show n-(i+1)<n-i;omega, ?_⟩;exact dh
   ·rw [ZO ZB] at hall;have e1:lk v l=if 65536<l.length then 3 else iA l:=by unfold lk;rw [ZG (by rw [hf,hall];decide)]
    by_cases h6:65536<n
    ·rw [e1,ZH ZB];refine bJ ?_;intro ws hh;exact QD
    ·rw [e1,ZG ZB];refine aj ?_;refine aq (x8 v A n c l k _ (hS.ext hh.below) hn ho hk) ak.out rfl ZC ?_;rintro e_ w35 ⟨g,og,rfl,h3⟩;exact NH
def XH (p:PX) (n:Nat):List TR×Int:=(List.replicate n p).foldl ke (aQ [⟨hU p.v,nR ((1:Int):Dyadic)⟩],0)
def YP (p:PX) (n:Int):Int:=if p.e=0 then (if n<0∨127<n then 1 else (XH p n.toNat).2) else p.e
def YN (ps:List PX) (R:List HE) (g:PX):Prop:=(g∈ps∧R=[])∨R=[g.row]
section
variable {ρ:Rf}{w:World}{d:Option Nat}{ty u:TypeId}{pos:String}{af:Array Edge}{g:Option (Nat×Bool)}{x y:Operand}{s t:TR}
end
def Zf (a:NR):Bool:=decide ((24:Int)<a.aW.size∨a.e< -300∨300<a.e)
structure Zz (ts:List TR):Prop where
 n:ts.length≤12
 ok:kq 492 ts
 sz:∀t∈ts,t.m.size≤50
variable {w w':World}
def PX.norm (g:PX):PX:=⟨g.v,none,0,0,g.ts⟩
theorem yC (ps:List PX):iG (ps.map PX.norm)=iG ps:=by
 have h1:(ps.map PX.norm).find? (fun g=>decide (g.e≠0))=(ps.find? fun g=>decide (g.e≠0)).map PX.norm:=List.find?_map ..;have h2:BG (ps.map PX.norm)=BG ps:=by
  unfold BG;rw [List.any_map,aaB]
  rfl
 unfold iG;rw [h1,h2,ZY]
 cases ps.find? (fun g=>decide (g.e≠0))<;>rfl
theorem vq (ps:List PX):iE (ps.map PX.norm)=iE ps:=by unfold iE;rw [aaB];rfl
structure KA (ps os:List PX) (R:List HE):Prop where
 eq:∀(j:Nat) (g o:PX),ps[j]?=some g→os[j]?=some o→o.v=g.v∧o.ts=g.ts∧o.n=g.n
 my:∀o∈os,o.row∈R∧o.n≤o.c
theorem KA.add {ps os:List PX}{R:List HE}{g o:PX} (h:KA ps os R) (hx:ps[os.length]?=some g) (he:o.v=g.v∧o.ts=g.ts∧o.n=g.n) (hc:o.n≤o.c):KA ps (os++[o]) (o.row::R):=by
 refine ⟨fun j g2 o2 h1 h2=> ?_,fun o2 h2=> ?_⟩
 ·by_cases hj:j<os.length
  ·rw [abf hj] at h2;exact h.eq j g2 o2 h1 h2
  ·by_cases hj2:j=os.length
   ·subst hj2;rw [aa0 (ZM _),aaz] at h2;rw [hx] at h1
    cases h1;cases h2
    exact he
   ·rw [Z5 (by rw [ZS];simp;omega)] at h2
    cases h2
 ·rcases aav.1 h2 with h2|h2
  ·exact ⟨Z0 _ (h.my o2 h2).1,(h.my o2 h2).2⟩
  ·rw [aaa.1 h2];exact ⟨ZQ,hc⟩
theorem KA.key {ps os:List PX}{R:List HE} (h:KA ps os R) (hl:os.length=ps.length):os.map PX.norm=ps.map PX.norm:=by
 apply aaM;intro j;rw [ZW,ZW];by_cases hj:j<os.length
 ·obtain ⟨o,ho⟩:=ah hj;obtain ⟨g,hg⟩:=ah (l:=ps) (k:=j) ZB;obtain ⟨e1,e2,_⟩:=h.eq j g o hg ho;rw [ho,hg];show some (PX.norm o)=some (PX.norm g);unfold PX.norm;rw [e1,e2]
 ·rw [Z5 ZB,Z5 ZB]
theorem Qp {H:List HE}{g:PX} (hh:Hp w H w') (h:g.row∈H):g.at_ w':=gW (hh.own g.row h)
def LQ (p:PX) (c:Dyadic):Int:=if p.e=0 then iA (p.ts.map (vW c)) else p.e
theorem Ka {l X:List TR}{c:Dyadic}{i:Nat}{z:TR} (hz:l[i]?=some z) (hX:X=(l.take i).map (vW c)++l.drop i):X[i]?=some z∧X.set i ⟨z.m,nR (z.c.d*c)⟩=(l.take (i+1)).map (vW c)++l.drop (i+1):=by
 obtain ⟨h1,h2⟩:=ZV.1 hz;have hl:((l.take i).map (vW c)).length=i:=by rw [ZY,Z1];omega
 refine ⟨?_, ?_⟩
 ·rw [hX,aa0 ZB,hl,aaz,abv];exact hz
 ·rw [al hz,aaG,hX,abP _ _ ZB,hl,aaz,aam,gC hz]
  rfl
theorem GI {l:List TR}{c:Dyadic} (ho:kq k l) (hc:Sz j c) (hk:k+j≤1000000):kq (k+j) (l.map (vW c)):=fun t ht=>by
 obtain ⟨z,hz,rfl⟩:=ZU.1 ht;have hs:=(ho z hz).2.mul hc;exact ⟨hs.ok ZB,by show Sz _ (nR _).d;rw [bE];exact hs⟩
theorem Aj (p:PX) (c:NR) (k:Nat) (w:World) (hT:dO w) (hp:p.at_ w) (lp:p.iO k) (hc:c.ok∧Sz k c.d) (hk:k≤400000):
  Calls Tryz.prog 190 #[.agg #[.int .i64 p.v,.slice p.A p.n p.c],.agg #[.bool c.neg,.string c.aW,.int .i64 c.e]] w fun r w'=>∃g:PX,iz (LQ p c.d) p.v (aQ (p.ts.map (vW c.d))) g∧r=.returned (.tuple #[.agg #[.int .i64 g.v,.slice g.A g.n g.c],.int .i64 (LQ p c.d)])∧Hp w [g.row] w':=by
 have hh:=Hp.start w;have hck:=fun w1 hT1 hb=>o7 p k w1 hT1 (hp.ext hb) lp;unfold LQ;by_cases h0:p.e=0
 ·rw [ZH h0];rw [h0] at hck;obtain ⟨_,h4,_,_⟩:=eC h0;have hpl:p.ts.length=p.n:=hp.ln;refine Sv ?_;refine kb ?_;intro b2 w2 hh b3 w3 hh b4 w4 hh;refine iF ?_;intro w10 hh;refine aj ?_;refine aq (nq p.A p.n p.c p.ts _ (hp.ext hh.below) lp.n) ak.out rfl ZC ?_;rintro e_ w17 ⟨A17,c17,rfl,hown_,hb_⟩;refine ⟨_,rfl, ?_⟩;replace hh:=hh.aE (x:=.row _ _ _ _ _ _) hb_ hown_;refine aj ?_;refine aD [8,20,21,22,23,24,25,26,27,28,29,30,31,32,33,34,35] 20
   (fun v w'=>∃(i:Nat) (X:List TR),i≤p.n∧v=.int .i64 i∧X=(p.ts.take i).map (vW c.d)++p.ts.drop i∧Hp w [.row A17 p.n c17 95 4 (ao TR.cells X),.blk b4 52 [.int .i64 0,.slice none 0 0] (0,0),.blk b3 33 [.bool c.neg,.string c.aW,.int .i64 c.e] (0,0),.blk b2 52 [.int .i64 p.v,.slice p.A p.n p.c] (0,0)] w')
   (fun v _=>p.n-(intOf v).toNat) ?_ ?_
  ·exact ⟨0,p.ts,ZK _,rfl,rfl,hh⟩
  ·clear hh;rintro ρ' v w' ⟨i,X,hi,rfl,hX,hh⟩;have hXl:X.length=p.n:=by rw [hX,ZS,ZY,Z1,aaU];omega
   by_cases hlt:i<p.n
   ·obtain ⟨z,hz⟩:=ah (l:=p.ts) (k:=i) ZB;obtain ⟨hXz,hXn⟩:=Ka hz hX;have hzo:=lp.ok z (ZL hz);have hdm:=fun A cc w1 hT1 hS1=>iW A 2 cc [z.c,c] w1 hT1 hS1 (by simpa using ⟨hzo.1,hc.1⟩) k (by simpa using ⟨hzo.2,hc.2⟩) ZB ZC;rw [show jR ([z.c,c].map NR.d)=z.c.d*c.d by show 1*z.c.d*c.d=_;rw [acd]] at hdm;have hrl:=ff TR.len X;obtain ⟨g0,rfl⟩:=hh.bL (i:=0) rfl ZB;refine aj ?_;refine aw 10 [[(7,none)],[(8,none)],[(7,none)],[(8,none)],[(25,some 2),(26,some 3)],[(27,some 4)],[(28,some 5)],[(3,none)],[(29,some 6),(30,some 7)],[(31,some 8)]] [(9,32),(8,31),(7,30),(6,29),(5,28),(4,27),(3,26),(2,25),(1,24),(0,23)] hh mixed ZD ?_;refine dR ?_;refine cj ?_;refine dR ?_;refine cj ?_;refine uC (i) ?_;refine cK ?_;refine nu [_,_,_] (fun _ hj=>(hj.hp.dy (f:=TR.cells) (x:=z) (l:=X) (i:=0) rfl TR.len ZC hXz).drop 1) ?_;refine df 2 [_,_,_] ?_;refine vG [_,_,_,_,_,_] ?_;refine aM (i:=9) (Is (.agg #[.bool (nR (z.c.d*c.d)).neg,.string (nR (z.c.d*c.d)).aW,.int .i64 (nR (z.c.d*c.d)).e])) Is.ext ?_ ?_
    ·intro ρ1 w1 hj hR;obtain ⟨A31,c31,h31,s31⟩:=hR.1;exact bI rfl (a8 ak.out (av h31 bh)) (hdm A31 c31 _ (hT.hp hj.hp) s31) (fun _ _ hq=>⟨_,hq.1,hq.2,rfl⟩)
    refine au ?_;intro f W hJ hV;have hb_8:=hJ.bl;obtain ⟨v32,v31,v30,v29,v28,v27,v26,v25,v24,v23,_⟩:=hV;obtain ⟨A31,c31,e31,f31⟩:Rows _ _ _ (f 8) W:=v31;replace hh:=hJ.hp;refine az (aH (aa v32 (aa e31 (aa v30 (aa v29 (aa v28 (aa v27 (aa v26 (aa v25 (aa v24 (aa v23 ay))))))))))) ?_;dsimp only [bf];clear e31 hJ;refine aj ?_;refine G4 ?_;intro ws hh;simp only [ZP] at hh;rw [yO hXz,hXn] at hh;refine aj ?_;replace hh:=hh.sub (ZI _ (ZI _ (ZI _ (ZI _ Z4))));refine ⟨⟨i+1,_,ZB,rfl,rfl,hh⟩,by show p.n-(i+1)<p.n-i;omega, ?_⟩;exact dh
   ·obtain rfl:i=p.n:=ZB;rw [ZO ZB,abx ZB,aal] at hX;have hso:=GI lp.ok hc.2 ZB;rw [←hX] at hso ⊢;refine aj ?_;refine aq (lN p.v A17 p.n c17 X (k+k) _ hT hh hXl ZB ZB hso) ak.out rfl ZC ?_;rintro e_ w39 ⟨g,og,rfl,hh⟩;refine ⟨_,rfl, ?_⟩;exact KL
 ·rw [ZG h0];refine Sv ?_;refine kb ?_;intro b2 w2 hh b3 w3 hh b4 w4 hh;refine iF ?_;intro w10 hh;exact Qc
variable {n:Nat}
abbrev ZT:=List (List UInt8×Int)
def zT (L:ZT):List TR:=L.map fun x=>⟨str x.1,nR ((x.2:Int):Dyadic)⟩
def zS (L:ZT) (b:List UInt8):Int:=match L with|[]=>0|x::L=>(if x.1=b then x.2 else 0)+zS L b
theorem QW (a b:Int):((a+b:Int):Dyadic)=(a:Dyadic)+(b:Dyadic):=(rJ a b 0).symm
theorem Ql {a:Int} (h:(a:Dyadic)=0):a=0:=tU (p:=0) h
theorem Ah (m:ByteArray):∀L:ZT,iU (zT L) m=(zS L m.data.toList:Int)
 |[]=>rfl
 |x::L=>by
  show iU (⟨str x.1,nR ((x.2:Int):Dyadic)⟩::zT L) m=((if x.1=m.data.toList then x.2 else 0)+zS L m.data.toList:Int);rw [fW,Ah m L,QW];congr 1;by_cases h:x.1=m.data.toList
  ·rw [ZH h,ZH (by rw [h];exact Nj m)];exact bE _
  ·rw [ZG h,ZG (fun e=>h (by rw [←e];exact (dx _).symm))]
   rfl
def zC:ZT→Bool
 |[]=>true
 |[x]=> !decide (x.2=0)
 |x::y::L=> !decide (x.2=0) && (Op.bytesLess x.1 y.1 && zC (y::L))
theorem OV:∀{L:ZT},zC L=true→Canon (zT L):=fun {L} h=>by
 have h1:∀{L:ZT},zC L=true→sP (zT L)=true∧∀x∈L,x.2≠0:=fun {L}=>by
  induction L with
  |nil=>exact fun _=>⟨rfl,fun x hx=>nomatch hx⟩
  |cons x L ih=>
   intro h
   cases L with
   |nil=>exact ⟨rfl,fun y hy=>by rw [aaa.1 hy];simpa [zC] using h⟩
   |cons y L=>
    simp only [zC,Z7,acJ,acO] at h;obtain ⟨i1,i2⟩:=ih h.2.2;refine ⟨?_,fun z hz=> ?_⟩
    ·show (iZ (str x.1) (str y.1) && sP (zT (y::L)))=true;rw [i1,show iZ (str x.1) (str y.1)=true by unfold iZ;rw [dx,dx];exact h.2.1]
     rfl
    ·rcases ZZ.1 hz with rfl|hz
     ·exact h.1
     ·exact i2 z hz
 obtain ⟨i1,i2⟩:=h1 h;refine ⟨qT.1 i1,fun t ht=> ?_,fun t ht=> ?_⟩
 ·obtain ⟨x,hx,rfl⟩:=ZU.1 ht;show (nR _).d≠0;rw [bE];exact fun e=>i2 x hx (Ql e)
 ·obtain ⟨x,hx,rfl⟩:=ZU.1 ht;show nR _=nR (nR _).d;rw [bE]
def zE (L K:ZT):Bool:=(L++K).all fun x=>decide (zS L x.1=zS K x.1)
theorem HS {L:ZT}{b:List UInt8} (h:∀x∈L,x.1≠b):zS L b=0:=by
 induction L with
 |nil=>rfl
 |cons x L ih=>rw [zS,ZG (h x ZQ),ih fun y hy=>h y (Z0 _ hy)];rfl
theorem WK {L K:ZT} (h:zE L K=true) (b:List UInt8):zS L b=zS K b:=by
 by_cases hb:∃x∈L++K,x.1=b
 ·obtain ⟨x,hx,rfl⟩:=hb;exact aby (aai.1 h x hx)
 ·rw [HS fun x hx e=>hb ⟨x,abk _ hx,e⟩,HS fun x hx e=>hb ⟨x,aaD _ hx,e⟩]
theorem I4 {L K:ZT} (h:(zC K && zE K L)=true):aQ (zT L)=zT K:=by
 rw [Z7] at h;exact (sy (OV h.1) fun m=>by rw [Ah,Ah,WK h.2]).symm
def zP (P Q:ZT):ZT:=P.flatMap fun x=>Q.map fun y=>((mulL x.1 y.1).1,x.2*y.2)
def Zt (P Q:ZT):List Int:=P.flatMap fun x=>Q.map fun y=>(mulL x.1 y.1).2
theorem NB (L:ZT):(zT L).length=L.length:=ZY _
def zM (v:Int) (L:ZT):Bool:=L.all fun x=>fK x.1 && decide ((x.1.length:Int)=v)
theorem Ua {v:Int}{L:ZT} (h:zM v L=true):∀t∈zT L,hQ v t=true:=fun t ht=>by
 obtain ⟨x,hx,rfl⟩:=ZU.1 ht;have:=aai.1 h x hx;unfold hQ;show (fK (str x.1).data.toList && decide (((str x.1).size:Int)=v))=true;rw [dx,iI];exact this
theorem Ph {v:Int}{L:ZT} (hf:jN v=true) (h:zM v L=true) (hn:L.length≤4096):lk v (zT L)=0:=by
 unfold lk;rw [ZG,ZG (by rw [NB];omega)]
 ·unfold iA;rw [ZG];have:=dQ (zT L);rw [NB] at this;omega
 ·rintro (h1|h1)
  ·rw [hf] at h1;cases h1
  ·obtain ⟨t,ht,h2⟩:=abg.1 h1;rw [Ua h t ht] at h2
   cases h2
def zB (L:ZT):Bool:=L.all fun x=>decide (x.2.natAbs<256) && decide (x.1.length≤50)
theorem Ih {L:ZT} (h:zB L=true):kq 24 (zT L)∧∀t∈zT L,t.m.size≤50:=by
 refine ⟨fun t ht=> ?_,fun t ht=> ?_⟩
 ·obtain ⟨x,hx,rfl⟩:=ZU.1 ht;have:=abE.1 (aai.1 h x hx);have z:Sz 24 ((x.2:Int):Dyadic):=VK (m:=x.2) (e:=0) (aby this.1) ZC ZC;exact ⟨z.ok ZC,by show Sz 24 (nR _).d;rw [bE];exact z⟩
 ·obtain ⟨x,hx,rfl⟩:=ZU.1 ht;have:=abE.1 (aai.1 h x hx);show (str x.1).size≤50;rw [iI];exact aby this.2
theorem NL {v:Int}{A:Option Addr}{c:Nat}{L:ZT} (h:zB L=true) (hn:n≤1000000) (hc:n≤c):(⟨v,A,n,c,zT L⟩:PX).iO 24:=⟨hn,hc,(Ih h).1,fun t ht=>aac ((Ih h).2 t ht) ZC⟩
def Zi (n:Int):ZT:=[([0,1],n),([1,0],1)]
theorem u2 {g h:PX} (h1:g.e=0) (h2:h.e=0) (h3:h.v=g.v):iG [g,h]=0:=by
 have e:[g,h].find? (fun g=>decide (g.e≠0))=none:=jk (abd.2 fun x hx=>by
  rcases ZZ.1 hx with rfl|hx
  ·simp [h1]
  ·rw [aaa.1 hx];simp [h2])
 unfold iG;rw [e];show (if 2=0∨BG [g,h]=true then (1:Int) else 0)=0;rw [ZG];rintro (h0|h0)
 ·cases h0
 ·obtain ⟨x,hx,hx2⟩:=abg.1 h0;have hx3:x.v≠g.v:=aby hx2
  rcases ZZ.1 hx with rfl|hx
  ·exact hx3 rfl
  ·rw [aaa.1 hx] at hx3;exact hx3 h3
def X8 (ds:List Int):VP:=fun v W=>∃g:Option Addr×Nat,v=.slice g.1 ds.length g.2∧Sl W g.1 ds.length 1 (aZ ds)
structure Zo (E:Int) (g:PX):Prop where
 bad:E≠0→g.v=0∧g.ts=[]
 ok:E=0→g.e=0∧kq 100000 g.ts∧∀t∈g.ts,t.m.size≤100000
theorem Pq {l:List TR} (h:iA l=0):(aQ l).length≤4096:=by
 unfold iA at h;by_cases h4:4096<(aQ l).length
 ·rw [ZH h4] at h;omega
 ·omega
theorem vv {l:List TR} (h:kq k l) (hk:k+l.length≤j) (hj:j≤3999990):kq j (aQ l):=fun t ht=>by
 have h3:Sz j t.c.d:=(oW (fun t ht=>(h t ht).2) t ht).mono hk;exact ⟨by rw [(gF l).nf t ht];exact h3.ok hj,h3⟩
theorem vz {l:List TR} (h:∀t∈l,t.m.size≤100000):∀t∈aQ l,t.m.size≤100000:=fun t ht=>by
 obtain ⟨s,hs,e⟩:=kW t ht;rw [←e];exact h s hs
theorem vS {l:List TR} (h:l.length≤4096):iA l=0:=by
 unfold iA;have:=dQ l;rw [ZG ZB]
theorem iz.v0 {v:Int}{g:PX} (o:iz 0 v ts g):g.v=v:=o.v
theorem iz.t0 {v:Int}{g:PX} (o:iz 0 v ts g):g.ts=ts:=o.ts
theorem TG (p q:PX):BQ [p,q]=p.ts++q.ts:=by show p.ts++(q.ts++[])=_;rw [aal]
def lB (j:Nat) (t:TR):Nat:=match t.m.data.toList[j]? with|some e=>e.toNat|none=>0
theorem tm {t:TR}{e:UInt8} (h:t.m.data.toList[j]?=some e):lB j t=e.toNat:=by unfold lB;rw [h]
def cP (p:List TR) (j n:Nat):List TR:=p.filter fun t=>decide (lB j t=n)
def ko (q:List TR) (sub:List TR→Int×List TR) (p:List TR) (j n:Nat) (a:Int×List TR):Int×List TR:=
 if a.1≠0 then a else if a.2.length=0∧(cP p j n).length=0 then a else
 if ir a.2 q≠0 then (ir a.2 q,[]) else if (sub (cP p j n)).1≠0 then ((sub (cP p j n)).1,[]) else
 if iA (aQ (dq a.2 q)++(sub (cP p j n)).2)≠0 then (iA (aQ (dq a.2 q)++(sub (cP p j n)).2),[]) else (0,aQ (aQ (dq a.2 q)++(sub (cP p j n)).2))
def dp (q:List TR) (sub:List TR→Int×List TR) (p:List TR) (j:Nat):Nat→Int×List TR
 |0=>(0,[])
 |i+1=>ko q sub p j (127-i) (dp q sub p j i)
theorem wP (q:List TR) (sub:List TR→Int×List TR) (p:List TR) (j i:Nat):dp q sub p j (i+1)=ko q sub p j (127-i) (dp q sub p j i):=rfl
def kn (v:Int):List (List TR)→Nat→List TR→Int×List TR
 |[],_,p=>(0,aQ [⟨hU v,(p.map TR.c).headD (nR 0)⟩])
 |q::qs,j,p=>dp q (kn v qs (j+1)) p j 128
theorem sW {q:List TR}{sub:List TR→Int×List TR}{i:Nat} (h:(dp q sub p j i).1≠0) (hk:i≤k):dp q sub p j k=dp q sub p j i:=by
 induction k with
 |zero=>
  obtain rfl:i=0:=ZB
  rfl
 |succ k ih=>
  by_cases e:i=k+1
  ·rw [e]
  ·have:=ih ZB;show ko q sub p j (127-k) (dp q sub p j k)=_;rw [this];unfold ko;rw [ZH h]
theorem Lf {q:List TR} (hp:kq k p) (hq:kq j q) (sq:∀t∈q,t.m.size≤100000) (h:ir p q=0) (hk:k+j≤900000):kq (k+j+p.length*q.length) (aQ (dq p q))∧∀t∈aQ (dq p q),t.m.size≤100000:=by
 obtain ⟨h6,_,h4⟩:=rS h;have ho:=xc hp hq ZB;have hz:=oW fun t ht=>(ho t ht).2;rw [sL] at hz;refine ⟨fun t ht=> ?_,(He hp hq sq h hk).2⟩;have:Sz (k+j+p.length*q.length) t.c.d:=hz t ht;refine ⟨?_,this⟩;rw [(gF _).nf t ht];exact this.ok ZB
structure mD (v:Int) (k:Nat) (l:List TR):Prop where
 e:lT v l=0
 ok:kq k l
 sz:∀t∈l,t.m.size≤100000
theorem mD.mono {v:Int}{l:List TR} (h:mD v k l) (hk:k≤j):mD v j l:=⟨h.e,h.ok.mono hk,h.sz⟩
theorem mD.nil {v:Int} (hv:jN v=true):mD v k []:=⟨Iv hv (ZK _) (fun _ h=>nomatch h) ⟨.nil,(fun _ h=>nomatch h),(fun _ h=>nomatch h)⟩,(fun _ h=>nomatch h),(fun _ h=>nomatch h)⟩
theorem mD.len {v:Int}{l:List TR} (h:mD v k l):l.length≤4096:=(eC h.e).2.1
theorem Ig {v:Int}{q:List TR}{T:Nat} (hp:mD v k p) (hq:mD v j q) (hT:q.length≤T) (h:ir p q=0) (hk:k+j≤900000):mD v (k+j+4096*T) (aQ (dq p q)):=by
 obtain ⟨h6,h5,h4⟩:=rS h;obtain ⟨f1,f2,f3,f4⟩:=eC hp.e;have:=Lf hp.ok hq.ok hq.sz h hk;have hm:p.length*q.length≤4096*T:=abz hp.len hT;exact ⟨lF f1 h4 (Jw f3 h5),this.1.mono ZB,this.2⟩
theorem GO {v:Int}{a b:List TR} (ha:mD v k a) (hb:mD v k b) (h:iA (a++b)=0) (hk:k≤3000000):mD v (k+8192) (aQ (a++b)):=by
 obtain ⟨f1,f2,f3,f4⟩:=eC ha.e;obtain ⟨g1,g2,g3,g4⟩:=eC hb.e;have hl:(a++b).length≤8192:=by rw [ZS];omega
 refine ⟨lF f1 (Pq h) fun t ht=> ?_,vv (fun t ht=> ?_) (show k+(a++b).length≤k+8192 by omega) ZB,vz fun t ht=> ?_⟩
 ·rcases aav.1 ht with h|h
  ·exact f3 t h
  ·exact g3 t h
 ·rcases aav.1 ht with h|h
  ·exact ha.ok t h
  ·exact hb.ok t h
 ·rcases aav.1 ht with h|h
  ·exact ha.sz t h
  ·exact hb.sz t h
theorem O1 {v:Int}{q:List TR}{sub:List TR→Int×List TR}{a:Int×List TR}{S K T B S':Nat} (ha:mD v S a.2) (hq:mD v K q) (hT:q.length≤T) (hb:(sub (cP p j n)).1=0→mD v B (sub (cP p j n)).2) (h1:S+K+4096*T+8192≤S') (h2:B+8192≤S') (hS:S'≤900000)
  (h:(ko q sub p j n a).1=0):mD v S' (ko q sub p j n a).2:=by
 unfold ko at h ⊢;by_cases c0:a.1≠0
 ·rw [ZH c0] at h;exact absurd h c0
 ·rw [ZG c0] at h ⊢;by_cases c1:a.2.length=0∧(cP p j n).length=0
  ·rw [ZH c1];exact ha.mono ZB
  ·rw [ZG c1] at h ⊢;by_cases c2:ir a.2 q≠0
   ·rw [ZH c2] at h;exact absurd h c2
   ·rw [ZG c2] at h ⊢;by_cases c3:(sub (cP p j n)).1≠0
    ·rw [ZH c3] at h;exact absurd h c3
    ·rw [ZG c3] at h ⊢;by_cases c4:iA (aQ (dq a.2 q)++(sub (cP p j n)).2)≠0
     ·rw [ZH c4] at h;exact absurd h c4
     ·rw [ZG c4];exact (GO ((Ig ha hq hT ZB ZB).mono (show _≤S'-8192 by omega)) ((hb ZB).mono ZB) ZB ZB).mono ZB
theorem Ke (h:∀t∈p,lB j t<n):cP p j n=[]:=List.filter_eq_nil_iff.2 fun t ht=>by
 have:=h t ht;simp only [aad];omega
theorem ma:∀t∈cP p j n,t∈p:=fun t ht=>(abm.1 ht).1
theorem mE {q p:List TR}{sub:List TR→Int×List TR}{j D:Nat} (h:∀t∈p,lB j t≤D):∀i,i+D≤127→dp q sub p j i=(0,[])
 |0,_=>rfl
 |i+1,hi=>by
  show ko q sub p j (127-i) (dp q sub p j i)=_;rw [mE h i ZB,show ko q sub p j (127-i) (0,[])=(0,[]) by
   unfold ko;rw [ZG ZC,ZH ⟨rfl,by rw [Ke fun t ht=>by have:=h t ht;omega];rfl⟩]]
def jr (c:Nat):List Nat→Nat→Nat
 |[],k=>k
 |d::ds,k=>jr c ds k+d*c+8192
theorem y5 (c k:Nat):jr c [] k=k:=rfl
theorem vj (c d k:Nat) (ds:List Nat):jr c (d::ds) k=jr c ds k+d*c+8192:=rfl
theorem wU {v:Int}{q p:List TR}{sub:List TR→Int×List TR}{j D K T B c:Nat} (hv:jN v=true) (hq:mD v K q) (hT:q.length≤T) (hD:∀t∈p,lB j t≤D) (hD2:D≤127) (hb:∀n,(sub (cP p j n)).1=0→mD v B (sub (cP p j n)).2) (hc:K+4096*T+8192≤c) (hS:B+D*c+8192≤900000):
  ∀i,i≤128→(dp q sub p j i).1=0→mD v (B+(i+D-128)*c+8192) (dp q sub p j i).2
 |0,_,_=>mD.nil hv
 |i+1,hi,h0=>by
  by_cases h1:i+1+D≤127
  ·rw [mE hD _ h1];exact mD.nil hv
  ·have h2:(dp q sub p j i).1=0:=by
    refine ack fun c=> ?_;rw [sW c (Nat.le_succ i)] at h0;exact c h0
   have hle:(i+1+D-128)*c≤D*c:=aaV _ ZB;by_cases h3:i+D≤127
   ·have h4:=mE (q:=q) (sub:=sub) hD i h3;show mD v _ (ko q sub p j (127-i) (dp q sub p j i)).2;have h5:(ko q sub p j (127-i) (dp q sub p j i)).1=0:=h0;rw [h4] at h5 ⊢;rw [show i+1+D-128=0 by omega,ab4];unfold ko at h5 ⊢;rw [ZG ZC] at h5 ⊢;by_cases c1:((0:Int),([]:List TR)).2.length=0∧(cP p j (127-i)).length=0
    ·rw [ZH c1];exact mD.nil hv
    ·rw [ZG c1] at h5 ⊢;by_cases c2:ir [] q≠0
     ·rw [ZH c2] at h5;exact absurd h5 c2
     ·rw [ZG c2] at h5 ⊢;by_cases c3:(sub (cP p j (127-i))).1≠0
      ·rw [ZH c3] at h5;exact absurd h5 c3
      ·rw [ZG c3] at h5 ⊢;by_cases c4:iA (aQ (dq [] q)++(sub (cP p j (127-i))).2)≠0
       ·rw [ZH c4] at h5;exact absurd h5 c4
       ·rw [ZG c4];have hn:mD v B (aQ (dq [] q)):=mD.nil hv;exact (GO hn (hb _ ZB) ZB ZB).mono ZB
   ·have ih:=wU hv hq hT hD hD2 hb hc hS i ZB h2;have e1:(i+1+D-128)*c=(i+D-128)*c+c:=by rw [show i+1+D-128=(i+D-128)+1 by omega,aaS]
    rw [e1] at hle ⊢;generalize (i+D-128)*c=y at*;generalize D*c=z at*;exact O1 ih hq hT (hb _) ZB ZB ZB h0
theorem yW {v:Int}{x:NR} (hv:jN v=true) (hx:Sz k x.d) (hk:k≤900000):mD v (k+1) (aQ [⟨hU v,x⟩]):=by
 have h1:=iQ.1 hv;have h2:=qF h1.1;refine ⟨lF hv (aac (dQ _) (show 1≤4096 by decide)) fun t ht=> ?_,fun t ht=> ?_,fun t ht=> ?_⟩
 ·rw [aaa.1 ht];unfold hQ;rw [Z7,aad];exact ⟨yT v,h2⟩
 ·have h1:Sz (k+1) t.c.d:=oW (k:=k) (l:=[⟨hU v,x⟩]) (fun s hs=>by rw [aaa.1 hs];exact hx) t ht;exact ⟨by rw [(gF _).nf t ht];exact h1.ok ZB,h1⟩
 ·obtain ⟨s,hs,e⟩:=kW t ht;rw [←e,aaa.1 hs];show (hU v).size≤100000;omega
theorem HI {v:Int}{K T c0:Nat} (hv:jN v=true) (hc0:K+4096*T+8192≤c0):∀(qs:List (List TR)) (j:Nat) (p:List TR) (ds:List Nat) (k:Nat),(∀q∈qs,mD v K q∧q.length≤T)→kq k p→ds.length=qs.length→(∀(i d:Nat),ds[i]?=some d→d≤127∧∀t∈p,lB (j+i) t≤d)→jr c0 ds (k+1)≤900000→
  (kn v qs j p).1=0→mD v (jr c0 ds (k+1)) (kn v qs j p).2:=by
 intro qs
 induction qs with
 |nil=>
  intro j p ds k _ hok hds _ hB _;obtain rfl:ds=[]:=adb.1 hds;rw [y5] at hB ⊢;refine yW hv ?_ ZB
  cases p with
  |nil=>show Sz k (nR 0).d;rw [bE];exact Sz.zero k
  |cons t p=>exact (hok t ZQ).2
 |cons q qs ih=>
  intro j p ds k hq hok hds hD hB h0
  cases ds with
  |nil=>cases hds
  |cons d ds=>
   have hd:=hD 0 d rfl;rw [vj] at hB ⊢;have hB1:jr c0 ds (k+1)≤900000:=ZB;have hsub:∀n,(kn v qs (j+1) (cP p j n)).1=0→mD v (jr c0 ds (k+1)) (kn v qs (j+1) (cP p j n)).2:=fun n hn=>by
    refine ih (j+1) (cP p j n) ds k (fun r hr=>hq r (Z0 _ hr)) (fun t ht=>hok t (ma t ht)) (by simpa using hds) (fun i e he=> ?_) hB1 hn;exact TU
   have h1:=wU (sub:=kn v qs (j+1)) (p:=p) (j:=j) hv (hq q ZQ).1 (hq q ZQ).2 hd.2 hd.1 hsub hc0 hB 128 (ZM _) h0;rw [show 128+d-128=d by omega] at h1;exact h1
variable {fr:Nat}{α:Type}
theorem C8:∀{a b:List UInt8}{j:Nat}{x y:UInt8},Op.bytesLess a b=true→a.take j=b.take j→a[j]?=some x→b[j]?=some y→x.toNat≤y.toNat
 |[],_,j,x,y,_,_,hx,_=>by simp at hx
 |_,[],j,x,y,_,_,_,hy=>by simp at hy
 |c::a,d::b,0,x,y,h,_,hx,hy=>by
  simp only [acr,abB] at hx hy;subst hx;subst hy;simp only [Op.bytesLess,ab3,Z7,aad,abo] at h
  rcases h with h|⟨h,_⟩
  ·exact acN (UInt8.lt_iff_toNat_lt.1 h)
  ·rw [h];exact ZM _
 |c::a,d::b,j+1,x,y,h,ht,hx,hy=>by
  simp only [ach,List.cons.injEq] at ht;obtain ⟨rfl,ht⟩:=ht;simp only [acB] at hx hy;refine C8 (a:=a) (b:=b) ?_ ht hx hy;simpa [Op.bytesLess] using h
structure Mr (v:Int) (j:Nat) (p:List TR):Prop where
 uM:xT p
 may:∀t∈p,hQ v t=true
 pre:∀a∈p,∀b∈p,a.m.data.toList.take j=b.m.data.toList.take j
theorem Mr.size {v:Int} (h:Mr v j p):∀t∈p,(t.m.data.toList.length:Int)=v:=fun t ht=>by
 rw [←eS];exact aby (abE.1 (h.may t ht)).2
theorem Mr.get {v:Int} (h:Mr v j p) (hj:(j:Int)<v) {t:TR} (ht:t∈p):∃e:UInt8,t.m.data.toList[j]?=some e∧lB j t=e.toNat∧e.toNat<128:=by
 obtain ⟨e,he⟩:=ah (l:=t.m.data.toList) (k:=j) (by have:=h.size t ht;omega);exact ⟨e,he,tm he,uQ (abE.1 (h.may t ht)).1 he⟩
theorem Mr.mono {v:Int} (h:Mr v j p) (hj:(j:Int)<v):p.Pairwise fun a b=>lB j a≤lB j b:=by
 refine List.Pairwise.imp_of_mem (fun {a b} ha hb hl=> ?_) h.uM;obtain ⟨x,hx,ex,_⟩:=h.get hj ha;obtain ⟨y,hy,ey,_⟩:=h.get hj hb;rw [ex,ey];exact C8 hl (h.pre a ha b hb) hx hy
theorem Mr.with {v:Int} (h:Mr v j p) (hj:(j:Int)<v):Mr v (j+1) (cP p j n):=by
 refine ⟨h.uM.filter _,fun t ht=>h.may t (ma t ht),fun a ha b hb=> ?_⟩;obtain ⟨ha1,ha2⟩:=abm.1 ha;obtain ⟨hb1,hb2⟩:=abm.1 hb;obtain ⟨x,hx,ex,_⟩:=h.get hj ha1;obtain ⟨y,hy,ey,_⟩:=h.get hj hb1;have exy:x=y:=acG.1 (by rw [←ex,←ey,aby ha2,aby hb2]);rw [al hx,al hy,h.pre a ha1 b hb1,exy]
theorem Ma {p:List α}{en:Nat} (h:fr≤en):p.drop fr=(p.drop fr).take (en-fr)++p.drop en:=by
 have:p.drop en=(p.drop fr).drop (en-fr):=by rw [ab0];congr 1;omega
 rw [this,aaL]
theorem DT {en:Nat} (hfe:fr≤en) (h1:∀t∈p.take fr,lB j t<n) (h2:∀t∈(p.drop fr).take (en-fr),lB j t=n) (h3:∀t∈p.drop en,n<lB j t):cP p j n=(p.drop fr).take (en-fr):=by
 have e:p=p.take fr++((p.drop fr).take (en-fr)++p.drop en):=by
  have:p.drop en=(p.drop fr).drop (en-fr):=by rw [ab0];congr 1;omega
  rw [this,aaL,aaL]
 unfold cP
 conv=>lhs;rw [e]
 rw [acu,acu,List.filter_eq_nil_iff.2,List.filter_eq_self.2,List.filter_eq_nil_iff.2,ZN,aal]
 ·intro t ht;have:=h3 t ht;simp only [aad];omega
 ·intro t ht;have:=h2 t ht;simpa using this
 ·intro t ht;have:=h1 t ht;simp only [aad];omega
theorem Kw {x:TR} (h:p.Pairwise fun a b=>lB j a≤lB j b) (hx:p[fr]?=some x) (hn:lB j x<n):∀t∈p.take (fr+1),lB j t<n:=fun t ht=>by
 rw [al hx] at ht
 rcases aav.1 ht with ht|ht
 ·have e:p=p.take fr++x::p.drop (fr+1):=by rw [←gC hx,aaL]
  rw [e,List.pairwise_append] at h;have:=h.2.2 t ht x ZQ;omega
 ·obtain rfl:=aaa.1 ht;exact hn
def Y0 (p:PX) (i:Int):Int:=if p.e=0 then (if i<0∨p.v≤i then 1 else 0) else p.e
def X7 (i:Nat) (t:TR):Option TR:=match t.m.data.toList[i]? with|some e=>if e.toNat=0 then none else some ⟨str (t.m.data.toList.set i (e-1)),nR (t.c.d*((e.toNat:Int):Dyadic))⟩|none=>none
def Zk (i:Nat) (l:List TR):List TR:=l.filterMap (X7 i)
variable {w0:World}
theorem JJ.Q4 {H L:List HE} (hJ:JJ w0 H w W) (hs:Hp w0 H w) (hb:w.heap.size≤w1.heap.size) (hL:Hp w1 L W):Hp w0 (L++H) W:=
 hs.join (⟨hJ.bl,fun x hx=>n5 (hL.own x hx) hb,hL.nd⟩:Hp w L W)
def rE (base:Nat) (E v:Int) (ts:List TR):VP:=m7 base E v ts
theorem rE.ext {v:Int} (x:Value) (w w':World) (h:rE base E v ts x w) (hb:Below w.heap.size w w'):rE base E v ts x w':=m7.ext x w w' h hb
theorem Di (v:Int):aQ [⟨hU v,nR 0⟩]=[]:=by
 unfold aQ jo qy
 rfl
theorem EP (lA:Option Addr) (lc K T c0:Nat) (v:Int) (ls:List PX) (hv:jN v=true) (hlc:ls.length≤lc) (hl12:ls.length≤12) (hls:∀g∈ls,mD v K g.ts∧g.v=v∧g.iO K∧g.ts.length≤T) (hc0:K+4096*T+8192≤c0) (hc1:c0≤440000):
  ∀(qs:List PX) (j:Nat) (p:List TR) (A:Option Addr) (n c:Nat) (ds:List Nat) (k:Nat) (w:World),ls.drop j=qs→j≤ls.length→dO w→Sl w lA ls.length 2 (ao PX.cells ls)→(∀g∈ls,g.at_ w)→Sl w A n 4 (ao TR.cells p)→n≤c→Mr ls.length j p→kq k p→n≤4096→ds.length=qs.length→(∀(i d:Nat),ds[i]?=some d→d≤127∧∀t∈p,lB (j+i) t≤d)→jr c0 ds (k+1)≤440000→
  Calls Tryz.prog 227 #[.slice A n c,.int .i64 j,.slice lA ls.length lc,.int .i64 v] w fun r w'=>∃g:PX,iz (kn v (qs.map PX.ts) j p).1 v (kn v (qs.map PX.ts) j p).2 g∧r=.returned (.tuple #[.agg #[.int .i64 g.v,.slice g.A g.n g.c],.int .i64 (kn v (qs.map PX.ts) j p).1])∧Hp w [g.row] w':=by
 intro qs;have hK:K≤440000:=ZB;have hco:Es v=0:=ZG (by rw [hv];decide)
 induction qs with
 |nil=>
  intro j p A n c ds k w hq hj hT hL hat hS hnc hsr hok hn hds hD hB;have hh:=Hp.start w;have hln:=hS.a6 TR.len ZC;obtain rfl:j=ls.length:=by
   have:=aat List.length hq;rw [aaU] at this;simp only [aca] at this;omega
  obtain rfl:ds=[]:=adb.1 hds;rw [y5] at hB;have hcn:=fun c hc w1 hT1=>nj v c k w1 hT1 hc ZB;rw [hco] at hcn
  cases p with
  |nil=>
   obtain rfl:n=0:=by simpa using hln.symm
   show Calls _ _ _ _ fun r w'=>∃g:PX,iz 0 v (aQ [⟨hU v,nR 0⟩]) g∧r=.returned (.tuple #[.agg #[.int .i64 g.v,.slice g.A g.n g.c],.int .i64 0])∧Hp w [g.row] w';refine ae (N:=118) (l:=[.slice A 0 c,.int .i64 ls.length,.slice lA ls.length lc,.int .i64 v]) Tryz.func227 rfl rfl (by simp) ?_;refine bJ ?_;intro b8 w8 hh;refine aq (hcn (nR 0) ⟨(Sz.zero k).ok ZB,by rw [bE];exact Sz.zero k⟩ _ (hT.hp hh)) ak.out rfl ZC ?_;rintro e_ w25 ⟨g,og,rfl,h3⟩;exact NH
  |cons t p=>
   have hn1:p.length+1=n:=by simpa using hln
   have ht:=hok t ZQ;obtain ⟨ad,rfl,hr⟩:=hS.at_ ZB;show Calls _ _ _ _ fun r w'=>∃g:PX,iz 0 v (aQ [⟨hU v,t.c⟩]) g∧r=.returned (.tuple #[.agg #[.int .i64 g.v,.slice g.A g.n g.c],.int .i64 0])∧Hp w [g.row] w';refine ae (N:=118) (l:=[.slice (some ad) n c,.int .i64 ls.length,.slice lA ls.length lc,.int .i64 v]) Tryz.func227 rfl rfl (by simp) ?_;refine bJ ?_;intro b8 w8 hh;refine bk (vs:=[_,_,_]) aC.out rfl (((hr.ext hh.below).recAt TR.len (show (t::p)[0]?=some t from rfl)).drop 1) rfl ZC ?_;refine aq (hcn t.c ht _ (hT.hp hh)) ak.out rfl ZC ?_;rintro e_ w33 ⟨g,og,rfl,h3⟩;exact NH
 |cons q qs ih=>
  intro j p A n c ds k w hq hj hT hL hat hS hnc hsr hok hn hds hD hB;have hh:=Hp.start w;have hln:=hS.a6 TR.len ZC
  cases ds with
  |nil=>cases hds
  |cons d ds=>
   have hd:=hD 0 d rfl;have hjl:j<ls.length:=by
    rcases aap j ls.length with h|h
    ·exact h
    ·rw [abx h] at hq;cases hq
   have hqj:ls[j]?=some q:=by rw [←List.head?_drop,hq];rfl
   have hqs:ls.drop (j+1)=qs:=by rw [←List.tail_drop,hq];rfl
   obtain ⟨hqk,hqv,hql,hqT⟩:=hls q (ZL hqj);rw [vj] at hB;have hB1:jr c0 ds (k+1)≤440000:=ZB;have hmono:=hsr.mono ZB;rw [aaj];show Calls _ _ _ _ fun r w'=>∃g:PX,iz (dp q.ts (kn v (qs.map PX.ts) (j+1)) p j 128).1 v (dp q.ts (kn v (qs.map PX.ts) (j+1)) p j 128).2 g∧r=.returned (.tuple #[.agg #[.int .i64 g.v,.slice g.A g.n g.c],.int .i64 (dp q.ts (kn v (qs.map PX.ts) (j+1)) p j 128).1])∧Hp w [g.row] w';have hDs:∀n (i e:Nat),ds[i]?=some e→e≤127∧∀t∈cP p j n,lB (j+1+i) t≤e:=fun n i e he=>by
    exact TU
   have hrec:∀(m fr en:Nat) (w1:World),dO w1→Below w.heap.size w w1→fr≤en→en≤n→cP p j m=(p.drop fr).take (en-fr)→Calls Tryz.prog 227 #[.slice (if c=fr then A else A.map (·.add (fr*4))) (en-fr) (c-fr),.int .i64 ((j:Int)+1),.slice lA ls.length lc,.int .i64 v] w1 fun r w'=>∃g:PX,iz (kn v (qs.map PX.ts) (j+1) (cP p j m)).1 v (kn v (qs.map PX.ts) (j+1) (cP p j m)).2 g∧r=.returned (.tuple #[.agg #[.int .i64 g.v,.slice g.A g.n g.c],.int .i64 (kn v (qs.map PX.ts) (j+1) (cP p j m)).1])∧Hp w1 [g.row] w':=fun m fr en w1 hT1 hb h1 h2 hw=>by
    have hcut:=(hS.ext hb).cut h1 h2 hnc;rw [jq TR.len,jZ TR.len,←hw] at hcut;exact ih (j+1) (cP p j m) _ (en-fr) (c-fr) ds k w1 hqs ZB hT1 (hL.ext hb) (fun g hg=>(hat g hg).ext hb) hcut ZB (hsr.with ZB) (fun t ht=>hok t (ma t ht)) ZB (by simpa using hds) (hDs m) hB1
   have hsub:∀m,(kn v (qs.map PX.ts) (j+1) (cP p j m)).1=0→mD v (jr c0 ds (k+1)) (kn v (qs.map PX.ts) (j+1) (cP p j m)).2:=fun m hm=>by
    refine HI hv hc0 (qs.map PX.ts) (j+1) (cP p j m) ds k (fun r hr=> ?_) (fun t ht=>hok t (ma t ht)) (by rw [ZY];simpa using hds) (hDs m) ZB hm;obtain ⟨g,hg,rfl⟩:=ZU.1 hr;have:=hls g (ado (by rw [hqs];exact hg));exact ⟨this.1,this.2.2.2⟩
   generalize kn v (qs.map PX.ts) (j+1)=sub at hrec hsub ⊢;have hlim:=wU (sub:=sub) (p:=p) (j:=j) hv hqk hqT hd.2 hd.1 hsub hc0 ZB;have hlim2:∀i,i≤128→(dp q.ts sub p j i).1=0→mD v 440000 (dp q.ts sub p j i).2:=fun i hi h0=>(hlim i hi h0).mono (by
    have:(i+d-128)*c0≤d*c0:=aaV _ ZB;omega)
   have hcn:=fun w1 hT1=>nj v (nR 0) 0 w1 hT1 ⟨(Sz.zero 0).ok ZC,by rw [bE];exact Sz.zero 0⟩ ZC;rw [hco,Di] at hcn;refine ae (N:=118) (l:=[.slice A n c,.int .i64 j,.slice lA ls.length lc,.int .i64 v]) Tryz.func227 rfl rfl (by simp) ?_;refine bJ ?_;intro b8 w8 hh;refine aq (hcn _ (hT.hp hh)) ak.out rfl ZC ?_;rintro e_ w39 ⟨g,og,rfl,h3⟩;refine ⟨_,rfl, ?_⟩;replace hh:=hh.join h3;simp only [ZR,ZN] at hh;refine bU ?_;intro b10 w10 hh ws hh;refine oH [11,12,13,14,15,44,45,46,47,48,49,50,51,52,53,54,55,56,57,58,59,60,61,62,63,64,65,66,67,68,69,70,71,72,73,74,75,76,77,78,79,80,81,82,83,84,85,86,87,88,89,90,91,92,93,94,95,96,97,98,99,100,101,102,103,104,105,106,107,108,109,110,111,112] 11 12 13
    (fun e en nv w'=>∃(i en_:Nat) (e_ ov:Int) (oA:Option Addr) (on oc:Nat) (os:List TR),i≤128∧nv=.int .i64 (127-(i:Int))∧en=.int .i64 en_∧e=.int .i64 e_∧e_=(dp q.ts sub p j i).1∧en_≤n∧(e_=0→ov=v∧os=(dp q.ts sub p j i).2∧(∀t∈p.take en_,lB j t<128-i)∧(∀t∈p.drop en_,128-i≤lB j t))∧Hp w [.blk b10 52 [.int .i64 ov,.slice oA on oc] (0,0),.row oA on oc 95 4 (ao TR.cells os),.blk b8 52 [.int .i64 0,.slice none 0 0] (0,0)] w')
    (fun _ _ nv _=>(intOf nv+1).toNat) ?_ ?_
   ·refine ⟨0,n,0,g.v,g.A,g.n,g.c,g.ts,ZK _,rfl,rfl,rfl,rfl,ZM _,fun _=>⟨og.v,og.ts,fun t ht=> ?_,fun t ht=> ?_⟩,hh⟩
    ·obtain ⟨x,_,hx,h8⟩:=hsr.get ZB (abw ht);rw [hx];exact h8
    ·rw [abx ZB] at ht
     cases ht
   ·clear hh og h3;rintro ρ' e_ en_ nv_ w' ⟨i,en,e,ov,oA,on,oc,os,hi,rfl,rfl,rfl,he,hen,hok0,hh⟩;by_cases hcn:i<128∧e=0
    ·obtain ⟨hi8,rfl⟩:=hcn;obtain ⟨rfl,rfl,hlo,hhi⟩:=hok0 rfl;clear hok0;obtain ⟨m,hm⟩:∃m,m=127-i:=⟨_,rfl⟩;rw [show (127-(i:Int))=(m:Int) by omega];refine aj ?_;refine xx zL5 14
      (fun f w'=>∃fr:Nat,fr≤en∧f=.int .i64 fr∧cP p j m=(p.drop fr).take (en-fr)∧(∀t∈p.take fr,lB j t<m)∧Hp w [.blk b10 52 [.int .i64 ov,.slice oA on oc] (0,0),.row oA on oc 95 4 (ao TR.cells (dp q.ts sub p j i).2),.blk b8 52 [.int .i64 0,.slice none 0 0] (0,0)] w') ?_ ?_
     ·refine aD zL5 14
       (fun f w'=>∃fr:Nat,fr≤en∧f=.int .i64 fr∧(∀t∈(p.drop fr).take (en-fr),lB j t=m)∧Hp w [.blk b10 52 [.int .i64 ov,.slice oA on oc] (0,0),.row oA on oc 95 4 (ao TR.cells (dp q.ts sub p j i).2),.blk b8 52 [.int .i64 0,.slice none 0 0] (0,0)] w')
       (fun f _=>(intOf f).toNat) ?_ ?_
      ·exact ⟨en,ZM _,rfl,(fun t ht=>by rw [aaz] at ht;cases ht),hh⟩
      ·clear hh;rintro ρ' f w' ⟨fr,hfr,rfl,hmid,hh⟩;by_cases h0:0<fr
       ·obtain ⟨fr,rfl⟩:∃g,fr=g+1:=⟨fr-1,ZB⟩;obtain ⟨x,hx⟩:=ah (l:=p) (k:=fr) ZB;obtain ⟨ad,rfl,hr⟩:=hS.at_ ZB;obtain ⟨e,hex,hxe,h8⟩:=hsr.get ZB (ZL hx);by_cases hem:e.toNat=m
        ·refine bX (sr (mI ?_));refine Bp (mB (gT (mL (gT (mI (gT ?_))))));refine qf (gT ?_);refine dt (k:=fr) bj.out aC.size rfl rfl ZB ZB ZC ?_;refine gT ?_;refine mJ eH.out rfl ZC ?_;refine l8 rfl rfl ?_;refine Hn ?_;refine aj ?_;refine ⟨⟨fr,ZB,by show Value.int .i64 (((fr+1:Nat):Int)-1)=_;congr 1;omega,fun t ht=> ?_,hh⟩,by show (((fr+1:Nat):Int)-1).toNat<((fr+1:Nat):Int).toNat;omega, ?_⟩
         ·rw [gC hx,show en-fr=(en-(fr+1))+1 by omega,ach] at ht
          rcases ZZ.1 ht with rfl|ht
          ·rw [hxe,hem]
          ·exact hmid t ht
         ·exact dh
        ·have hlt:e.toNat<m:=by
          have:=hlo x (by rw [show en=(fr+1)+(en-(fr+1)) by omega,List.take_add];exact abk _ (by rw [al hx];exact aaD _ ZQ));omega
         have hall:=Kw hmono hx (n:=m) (by rw [hxe];exact hlt);refine bX (sr (mI ?_));refine Bp (mB (gT (mL (gT (mI (gT ?_))))));refine qf (gT ?_);refine dt (k:=fr) bj.out aC.size rfl rfl ZB ZB ZC ?_;refine gT ?_;refine mJ eH.out rfl ZC ?_;refine l8 rfl rfl ?_;refine Hn ?_;refine aj ?_;refine ⟨⟨fr+1,hfr,rfl,DT hfr hall hmid (fun t ht=>by have:=hhi t ht;omega),hall,hh⟩, ?_⟩;exact dh
       ·obtain rfl:fr=0:=ZB;refine aj ?_;refine ⟨⟨0,hfr,rfl,DT hfr (fun t ht=>by cases ht) hmid (fun t ht=>by have:=hhi t ht;omega),(fun t ht=>by cases ht),hh⟩, ?_⟩;exact dh
     ·skip;clear hh;rintro ρ' f w' ⟨fr,hfr,rfl,hwi,hbl,hh⟩;have hnx:dp q.ts sub p j (i+1)=ko q.ts sub p j m (dp q.ts sub p j i):=by rw [wP,hm]
      have hop:=hlim2 i ZB he.symm;unfold ko at hnx;rw [ZG (by rw [←he];decide)] at hnx;have hmi:m=128-(i+1):=ZB;have hmi2:(127-((i+1:Nat):Int))=(m:Int)-1:=ZB;have hdf:∀t∈p.drop fr,m≤lB j t:=fun t ht=>by
       rw [Ma hfr] at ht
       rcases aav.1 ht with ht|ht
       ·rw [←hwi] at ht;have:=aby (abm.1 ht).2;omega
       ·have:=hhi t ht;omega
      have hst:(dp q.ts sub p j i)=(0,(dp q.ts sub p j i).2):=by rw [he]
      generalize (dp q.ts sub p j i).2=os at*;have hoc:on≤oc:=hh.gO (i:=1) rfl;have hon:os.length=on:=(hh.ar (i:=1) rfl).a6 TR.len ZC;have hwl:(cP p j m).length=en-fr:=by rw [hwi,Z1,aaU];omega
      by_cases hsk:os.length=0∧(cP p j m).length=0
      ·rw [ZH hsk] at hnx;obtain ⟨h1,h2⟩:=hsk;obtain rfl:on=0:=ZB;obtain rfl:fr=en:=ZB;refine aj ?_;refine ⟨⟨i+1,fr,0,ov,oA,0,oc,os,ZB,by rw [hmi2];rfl,rfl,rfl,by rw [hnx];exact he,hen,fun _=>⟨rfl,by rw [hnx,hst],fun t ht=>by rw [←hmi];exact hbl t ht,fun t ht=>by rw [←hmi];exact hdf t ht⟩,hh⟩,by show ((m:Int)-1+1).toNat<((m:Int)+1).toNat;omega, ?_⟩;exact dh
      ·rw [ZG hsk] at hnx;refine sY [70,71,72,73,74,75,76,77,78]
        (fun w'=>Hp w [.blk b10 52 [.int .i64 ov,.slice oA on oc] (0,0),.row oA on oc 95 4 (ao TR.cells os),.blk b8 52 [.int .i64 0,.slice none 0 0] (0,0)] w') ?_ ?_
       ·by_cases h0:on=0
        ·subst h0;have hne:fr≠en:=fun h=>hsk ⟨hon,ZB⟩;refine aj ?_;refine ⟨hh, ?_⟩;exact PE
        ·refine aj ?_;refine ⟨hh, ?_⟩;exact PE
       ·skip;clear hh;rintro ρ' w' hh;obtain ⟨lad,rfl,hlr⟩:=hL.at_ ZB;have hlp:iG [⟨ov,oA,on,oc,os⟩,q]=0:=u2 hop.e (by unfold PX.e;rw [hqv];exact hqk.e) hqv;have hmu:∀(A2:Option Addr) (w1:World),dO w1→Sl w1 A2 2 2 (ao PX.cells [⟨ov,oA,on,oc,os⟩,q])→Sl w1 oA on 4 (ao TR.cells os)→Below w.heap.size w w1→Calls Tryz.prog 248 #[.slice A2 2 2] w1 fun r w'=>∃g:PX,iz (ir os q.ts) ov (aQ (dq os q.ts)) g∧r=.returned (.tuple #[.agg #[.int .i64 g.v,.slice g.A g.n g.c],.int .i64 (ir os q.ts)])∧Hp w1 [g.row] w':=fun A2 w1 hT1 s1 s2 hb=>by
         have h1:=Ee A2 2 2 [⟨ov,oA,on,oc,os⟩,q] 440000 505536 w1 hT1 s1 ZC ZC (fun g hg=>by
          rcases ZZ.1 hg with rfl|hg
          ·exact s2
          ·rw [aaa.1 hg];exact (hat q (ZL hqj)).ext hb) (fun g hg=>by
          rcases ZZ.1 hg with rfl|hg
          ·exact ⟨by have:=hop.len;show on≤1000000;omega,hoc,hop.ok,hop.sz⟩
          ·rw [aaa.1 hg];exact ⟨hql.n,hql.cap,hql.ok.mono hK,hql.sz⟩) ZC ZC
         unfold GQ at h1;rw [ZH hlp] at h1;exact h1
        refine bJ ?_;intro b15 w15 hh;refine cX [] [9] [0,0,0,6,14,31,63,127,255,255,511,2047] 10 [[(10,none)],[(2,none)],[(1,none)],[(81,some 1),(82,some 2)],[(83,some 3)],[(80,some 0),(84,some 4)],[(85,some 5)],[(86,some 6)],[(79,some 7)],[(79,some 7)]] [(9,88),(8,87),(7,79),(6,86),(5,85),(4,84),(3,83),(2,82),(1,81),(0,80)] hh mixed ZD dk rfl (by repeat (first|exact bW|refine bA ?_|refine bY ?_)) ?_;refine df 1 [_,_] ?_;refine dR ?_;refine cj ?_;refine jK (j) ?_;refine nu [_,_] (fun _ hj=>(hlr.ext hj.hp.below).recAt PX.len hqj) ?_;refine aM (i:=5) (lU 2 2 (ao PX.cells [⟨ov,oA,on,oc,os⟩,q])) (lU.ext) ?_ ?_
        ·intro ρ1 w1 hj hR;exact lZ (sz:=2) bj.out aC.out (show Dt ρ1 [(0,.tmp 80),(1,.tmp 84)]=[(0,.agg #[.int .i64 ov,.slice oA on oc]),(1,.agg #[.int .i64 q.v,.slice q.A q.n q.c])] from bR (show ρ1 80=_ from hR.1) (bR (show ρ1 84=_ from hR.2.1) dX)) rfl rfl ZC ZC rfl fun v w2 h hb=>⟨hb,h⟩
        refine aM (i:=6) (n4 hh.sz (ir os q.ts) ov (aQ (dq os q.ts))) (n4.ext) ?_ ?_
        ·intro ρ1 w1 hj hR;obtain ⟨g85,e85,o85⟩:=hR.1;exact let ⟨b,e1,s1⟩:=hR.1;bI rfl (a8 ak.out (av e1 bh)) (hmu _ w1 (hT.hp hj.hp) s1 (hj.hp.ar (i:=2) rfl) hj.hp.below) (fun _ _ ⟨g,og,hq,h3⟩=>⟨_,hq,h3.below,g,w1,rfl,og,hj.bl.size,h3⟩)
        refine aM (i:=7) (n4 hh.sz (ir os q.ts) ov (aQ (dq os q.ts))) (n4.ext) ?_ ?_
        ·exact Ol
        refine aM (i:=8) (rE hh.sz (ir os q.ts) ov (aQ (dq os q.ts))) (rE.ext) ?_ ?_
        ·exact SK
        refine aM (i:=9) (Is (.int .i64 (ir os q.ts))) (Is.ext) ?_ ?_
        ·exact Tw
        refine au ?_;intro f W hJ hV _;have hb_15:=hJ.bl;obtain ⟨v88,v87,v79,v86,v85,v84,v83,v82,v81,v80,_⟩:=hV;obtain ⟨g85,e85,o85⟩:lU 2 2 (ao PX.cells [⟨ov,oA,on,oc,os⟩,q]) (f 5) W:=v85;obtain ⟨g86,u86,e86, -⟩:=v86;obtain ⟨g79,u79,e79, -⟩:=v79;obtain ⟨g87,u87,e87,o87,q87,h87⟩:=v87;replace hh:=JJ.Q4 hJ hh q87 h87;refine az (aH (aa v88 (aa e87 (aa e79 (aa e86 (aa e85 (aa v84 (aa v83 (aa v82 (aa v81 (aa v80 ay))))))))))) ?_;dsimp only [bf];clear e85 e86 e79 e87 hJ;simp only [ZR,ZN] at hh;obtain ⟨gv,gA,gn,gc,gts⟩:=g87;replace hh:=show Hp w (.row gA gn gc 95 4 (ao TR.cells gts)::_) W from hh;by_cases hte:ir os q.ts=0
        ·rw [ZG (by rw [hte];decide)] at hnx;rw [hte] at o87;obtain rfl:ov=gv:=o87.v.symm;obtain rfl:aQ (dq os q.ts)=gts:=o87.ts.symm;have hgc:gn≤gc:=hh.gO (i:=0) rfl;have hgl:(aQ (dq os q.ts)).length=gn:=(hh.ar (i:=0) rfl).a6 TR.len ZC;have hgo:=Ig hop hqk hqT hte ZB;refine gE hh 2 [_,_] ?_;intro ws hh;replace hh:Hp _ (_::_::.blk _ _ [_,_] _::_) _:=hh;refine aI (aN (sr (mI ?_)));refine Pb (aN (cT (bZ (mL (mI (mI ?_))))));dsimp only at hh;refine aR rfl rfl ZC (je (lo:=some (.tmp 93)) (hi:=some (.tmp 94)) (l:=fr) (h:=en) bj.out aC.size rfl ⟨_,_,rfl,rfl⟩ ⟨_,_,rfl,rfl⟩ hfr ZB) ?_;refine aj ?_;refine aq (hrec m fr en _ (hT.hp hh) hh.below hfr hen hwi) ak.out rfl ZC ?_;rintro e_ w100 ⟨g2,og2,rfl,h4⟩;refine ⟨_,rfl, ?_⟩;replace hh:=hh.join h4;simp only [ZR,ZN] at hh;have hs2:=hsub m;obtain ⟨hv2,hA2,hn2,hc2,ht2⟩:=g2;replace hh:=show Hp w (.row hA2 hn2 hc2 95 4 (ao TR.cells ht2)::_) _ from hh;by_cases hE2:(sub (cP p j m)).1=0
         ·rw [ZG (by rw [hE2];decide)] at hnx;rw [hE2] at og2;obtain rfl:ov=hv2:=og2.v.symm;obtain rfl:(sub (cP p j m)).2=ht2:=og2.ts.symm;have ho2:=hs2 hE2;have hc2c:hn2≤hc2:=hh.gO (i:=0) rfl;have hl2:((sub (cP p j m)).2).length=hn2:=(hh.ar (i:=0) rfl).a6 TR.len ZC;generalize (sub (cP p j m)).2=us at*;refine mT ?_;refine uI ?_;refine uI ?_;refine gE hh 2 [_,_] ?_;intro ws hh;replace hh:Hp _ (_::_::.blk _ _ [_,_] _::_) _:=hh;refine aI (aN (bX (sr (mI ?_))));refine Pb (aN (cT (bZ ?_)));refine nB hh 3 [_,_] ?_;refine nB hh 2 [_,_] ?_;refine tO ?_;intro b108 w108 hh;dsimp only at hh;have hlp2:iG [⟨ov,gA,gn,gc,aQ (dq os q.ts)⟩,⟨ov,hA2,hn2,hc2,us⟩]=0:=u2 hgo.e ho2.e rfl;have had:=vV (some ⟨b108,0,none⟩) 2 2 [⟨ov,gA,gn,gc,aQ (dq os q.ts)⟩,⟨ov,hA2,hn2,hc2,us⟩] 2000000 _ (hT.hp hh) (hh.ar (i:=0) rfl) ZC (fun g hg=>by
           rcases ZZ.1 hg with rfl|hg
           ·exact hh.ar (i:=2) rfl
           ·rw [aaa.1 hg];exact hh.ar (i:=1) rfl) (fun g hg=>by
           rcases ZZ.1 hg with rfl|hg
           ·exact ⟨by have:=hgo.len;show gn≤1000000;omega,hgc,hgo.ok.mono ZB,hgo.sz⟩
           ·rw [aaa.1 hg];exact ⟨by have:=ho2.len;show hn2≤1000000;omega,hc2c,ho2.ok.mono ZB,ho2.sz⟩) ZC
          unfold Ml at had;rw [ZH hlp2,TG] at had;dsimp only at had;refine aq (had) ak.out rfl ZC ?_;rintro e_ w109 ⟨g3,og3,rfl,h5⟩;refine ⟨_,rfl, ?_⟩;replace hh:=hh.join h5;simp only [ZR,ZN] at hh;obtain ⟨hv3,hA3,hn3,hc3,ht3⟩:=g3;replace hh:=show Hp w (.row hA3 hn3 hc3 95 4 (ao TR.cells ht3)::_) _ from hh;refine bJ ?_;intro ws hh;replace hh:=hh.sub (ZI _ (ZJ _ (ZJ _ (ZJ _ (ZJ _ (ZI _ (ZJ _ (ZI _ Z4))))))));replace hh:=hh.perm (aaQ (l₁:=[_]));simp only [ZR,ZN] at hh;try dsimp only at hh
          refine ⟨⟨i+1,fr,iA (aQ (dq os q.ts)++us),hv3,hA3,hn3,hc3,ht3,ZB,by rw [hmi2];rfl,rfl,rfl, ?_,ZB,fun h=>⟨?_, ?_,fun t ht=>by rw [←hmi];exact hbl t ht,fun t ht=>by rw [←hmi];exact hdf t ht⟩,hh⟩,by show ((m:Int)-1+1).toNat<((m:Int)+1).toNat;omega, ?_⟩
          ·rw [hnx];by_cases hg:iA (aQ (dq os q.ts)++us)≠0
           ·rw [ZH hg]
           ·rw [ZG hg];omega
          ·have:=og3.v;rw [ZH h] at this;exact this
          ·rw [hnx,ZG (by rw [h];decide)];have:=og3.ts;rw [ZH h] at this;exact this
          ·exact dh
         ·rw [ZH hE2] at hnx;refine bJ ?_;intro ws hh;replace hh:=hh.sub (ZJ _ (ZI _ (ZJ _ (ZI _ (ZJ _ (ZI _ Z4))))));replace hh:=hh.perm (aaQ (l₁:=[_]));simp only [ZR,ZN] at hh;refine ⟨⟨i+1,fr,_,ov,gA,gn,gc,aQ (dq os q.ts),ZB,by rw [hmi2];rfl,rfl,rfl,by rw [hnx],ZB,fun h=>absurd h hE2,hh⟩,by show ((m:Int)-1+1).toNat<((m:Int)+1).toNat;omega, ?_⟩;exact dh
        ·rw [ZH hte] at hnx;refine bJ ?_;intro ws hh;replace hh:=hh.sub (ZI _ (ZJ _ (ZI _ (ZJ _ (ZI _ Z4)))));replace hh:=hh.perm (aaQ (l₁:=[_]));simp only [ZR,ZN] at hh;refine ⟨⟨i+1,fr,ir os q.ts,gv,gA,gn,gc,gts,ZB,by rw [hmi2];rfl,rfl,rfl,by rw [hnx],ZB,fun h=>absurd h hte,hh⟩,by show ((m:Int)-1+1).toNat<((m:Int)+1).toNat;omega, ?_⟩;exact dh
    ·have hfin:dp q.ts sub p j 128=dp q.ts sub p j i:=by
      by_cases h8:i=128
      ·rw [h8]
      ·exact sW ZB hi
     rw [hfin];by_cases he0:e=0
     ·subst he0;obtain ⟨rfl,rfl, -, -⟩:=hok0 rfl;clear hok0 hfin;generalize dp q.ts sub p j i=X at*;obtain rfl:i=128:=ZB;rw [←he];refine bJ ?_;intro ws hh;refine pP ?_;exact ⟨⟨ov,oA,on,oc,_⟩,⟨rfl,rfl⟩,rfl,hh.sub (.cons _ (ZI _ (aaJ _)))⟩
     ·rw [←he];clear hok0 hfin;generalize dp q.ts sub p j i=X at*;by_cases h8:i=128
      ·subst h8;exact WZ
      ·exact WZ
def jx (p:PX) (ls:List PX):Int×List TR:=
 if p.e≠0 then (p.e,[]) else if (ls.length:Int)≠p.v then (1,[]) else if ls.length≠0∧iG ls≠0 then (iG ls,[]) else kn (iE ls) (ls.map PX.ts) 0 p.ts
theorem Gg (f:PX) (p:Addr) (x:Int) (w:World) (hp:w.cell? p=some (.int .i64 x)):
  Calls Tryz.prog 226 #[.agg #[.int .i64 f.v,.slice f.A f.n f.c],.pointer (some p)] w fun r w'=>r=.returned (.bool (decide (f.v≠x)))∧Below w.heap.size w w':=by
 have hh:=Hp.start w;by_cases hg:f.v=x
 ·refine ae (N:=8) (l:=[.agg #[.int .i64 f.v,.slice f.A f.n f.c],.pointer (some p)]) Tryz.func226 rfl rfl (by simp) ?_;refine bJ ?_;intro b2 w2 hh;refine DV ?_;exact Mh
 ·refine ae (N:=8) (l:=[.agg #[.int .i64 f.v,.slice f.A f.n f.c],.pointer (some p)]) Tryz.func226 rfl rfl (by simp) ?_;refine bJ ?_;intro b2 w2 hh;refine DV ?_;exact LK
structure YB (p:PX) (ls:List PX) (k K T c0:Nat) (ds:List Nat):Prop where
 len:ds.length=ls.length
 XQ:∀(i d:Nat),ds[i]?=some d→d≤127∧∀t∈p.ts,lB i t≤d
 grow:jr c0 ds (k+1)≤440000
 step:K+4096*T+8192≤c0
 top:c0≤440000
 iO:∀g∈ls,g.iO K
 WI:∀g∈ls,g.ts.length≤T
theorem OH {v:Int} (h:lT v ts=0):Mr v 0 ts:=by
 obtain ⟨_,_,h3,h4⟩:=eC h;exact ⟨h4.uM,h3,fun a _ b _=>by rw [aa7,aa7]⟩
theorem Ag (p:PX) (lA:Option Addr) (lc:Nat) (ls:List PX) (k K T c0:Nat) (ds:List Nat) (w:World) (hT:dO w) (hp:p.at_ w) (lp:p.iO k) (hL:Sl w lA ls.length 2 (ao PX.cells ls)) (hat:∀g∈ls,g.at_ w) (hlc:ls.length≤lc) (hf:YB p ls k K T c0 ds):
  Calls Tryz.prog 193 #[.agg #[.int .i64 p.v,.slice p.A p.n p.c],.slice lA ls.length lc] w fun r w'=>∃g:PX,iz (jx p ls).1 (iE ls) (jx p ls).2 g∧r=.returned (.tuple #[.agg #[.int .i64 g.v,.slice g.A g.n g.c],.int .i64 (jx p ls).1])∧Hp w [g.row] w':=by
 have hh:=Hp.start w;have hck:=fun w1 hT1 hb=>o7 p k w1 hT1 (hp.ext hb) lp;unfold jx;by_cases h0:p.e≠0
 ·rw [ZH h0];generalize p.e=e at*;refine ae (N:=54) (l:=[.agg #[.int .i64 p.v,.slice p.A p.n p.c],.slice lA ls.length lc]) Tryz.func193 rfl rfl (by simp) ?_;refine bU ?_;intro b2 w2 hh b4 w4 hh;refine iF ?_;intro w12 hh;exact Qc
 ·rw [ZG h0];have hpe:p.e=0:=ZB;rw [hpe] at hck;by_cases h1:(ls.length:Int)≠p.v
  ·rw [ZH h1];refine ae (N:=54) (l:=[.agg #[.int .i64 p.v,.slice p.A p.n p.c],.slice lA ls.length lc]) Tryz.func193 rfl rfl (by simp) ?_;refine bU ?_;intro b2 w2 hh b4 w4 hh;refine iF ?_;intro w12 hh;refine bJ ?_;intro ws hh;exact QD
  ·rw [ZG h1];obtain ⟨hfw,h4,hmy,hca⟩:=eC hpe;replace hfw:=iQ.1 hfw;have hl12:ls.length≤12:=ZB;have hpl:=hp.ln;have hsr:=OH hpe;have hput:=fun (v:Int) (hv:jN v=true) (hz:∀g∈ls,lT v g.ts=0) (hvv:∀g∈ls,g.v=v) w1 hT1 hb=>EP lA lc K T c0 v ls hv hlc hl12 (fun g hg=>⟨⟨hz g hg,(hf.iO g hg).ok,(hf.iO g hg).sz⟩,hvv g hg,hf.iO g hg,hf.WI g hg⟩) hf.step hf.top ls 0 p.ts p.A p.n p.c ds k w1 rfl (ZK _) hT1 (hL.ext hb) (fun g hg=>(hat g hg).ext hb) (hp.ext hb) lp.cap (by rw [show ((ls.length:Nat):Int)=p.v by omega];exact hsr) lp.ok ZB hf.len (fun i d h=>by rw [Z9];exact hf.XQ i d h) hf.grow;by_cases hn:ls=[]
   ·subst hn;rw [ZG (fun h=>h.1 rfl)];have hpu:=hput 0 rfl (fun g hg=>by cases hg) (fun g hg=>by cases hg);refine ae (N:=54) (l:=[.agg #[.int .i64 p.v,.slice p.A p.n p.c],.slice lA 0 lc]) Tryz.func193 rfl rfl (by simp) ?_;refine bU ?_;intro b2 w2 hh b4 w4 hh;refine iF ?_;intro w12 hh;refine bU ?_;intro b7 w7 hh ws hh;replace hh:=show Hp w (.blk b7 3 [.int .i64 0] (0,0)::_) _ from hh;exact S2
   ·have hlp0:0<ls.length:=ac6.2 hn;obtain ⟨lad,rfl,hlr⟩:=hL.at_ hlp0;refine ae (N:=54) (l:=[.agg #[.int .i64 p.v,.slice p.A p.n p.c],.slice (some lad) ls.length lc]) Tryz.func193 rfl rfl (by simp) ?_;refine bU ?_;intro b2 w2 hh b4 w4 hh;refine iF ?_;intro w12 hh;refine bU ?_;intro b7 w7 hh ws hh;replace hh:=show Hp w (.blk b7 3 [.int .i64 0] (0,0)::_) _ from hh;refine aD [5,9,10,28,29,30,31,32,33,34,35,36,37,38] 28
     (fun v w'=>∃i:Nat,i≤ls.length∧v=.int .i64 i∧(ls.take i).any (fun g=>decide (g.e≠0))=false∧Hp w [.blk b7 3 [.int .i64 0] (0,0),.blk b4 52 [.int .i64 0,.slice none 0 0] (0,0),.blk b2 52 [.int .i64 p.v,.slice p.A p.n p.c] (0,0)] w')
     (fun v _=>ls.length-(intOf v).toNat) ?_ ?_
    ·exact ⟨0,ZK _,rfl,rfl,hh⟩
    ·clear hh;rintro ρ' v w' ⟨i,hi,rfl,hall,hh⟩;by_cases hlt:i<ls.length
     ·obtain ⟨g,hx⟩:=ah (l:=ls) (k:=i) hlt;have hmem:=ZL hx;have hc:=fun w1 hT1 hb=>o7 g K w1 hT1 ((hat g hmem).ext hb) (hf.iO g hmem);by_cases he:g.e=0
      ·refine aj ?_;refine bk (vs:=[_,_]) aC.out rfl ((hlr.ext hh.below).recAt PX.len hx) rfl ZC ?_;refine bU ?_;intro b9 w9 hh ws hh;refine zF ?_;intro w33 hh;refine aj ?_;replace hh:=hh.sub (ZJ _ (ZI _ (ZI _ (ZI _ Z4))));refine ⟨⟨i+1,ZB,rfl,by rw [al hx,abK,hall,abT,abV,Z3 ZB];rfl,hh⟩,by show ls.length-(i+1)<ls.length-i;omega, ?_⟩;exact dh
      ·have hlk:iG ls=g.e:=by unfold iG;rw [o8 hall hx (ZX he)]
       rw [ZH ⟨ZB,by rw [hlk];exact he⟩,hlk];refine aj ?_;refine bk (vs:=[_,_]) aC.out rfl ((hlr.ext hh.below).recAt PX.len hx) rfl ZC ?_;refine bU ?_;intro b9 w9 hh ws hh;refine zF ?_;intro w33 hh;refine bJ ?_;intro ws hh;refine pP ?_;exact Oq
     ·rw [ZO ZB] at hall;have hlk:iG ls=if ls.length=0∨BG ls=true then 1 else 0:=by unfold iG;rw [jk hall]
      obtain ⟨g0,h00⟩:=ah (l:=ls) (k:=0) hlp0;have hhv:iE ls=g0.v:=by
       cases ls with
       |nil=>cases hlp0
       |cons x l=>cases h00;rfl
      have hall0:∀g∈ls,g.e=0:=fun g hg=>by
       have:=abd.1 hall g hg;simpa using this
      refine aj ?_;refine bF aC.out rfl (((hlr.ext hh.below).recAt PX.len h00).cell (i:=0) rfl) ZC ?_;refine bJ ?_;intro ws hh;refine ze ?_;replace hh:=show Hp w (.blk b7 3 [.int .i64 g0.v] (0,0)::_) _ from hh;rw [←hhv] at hh;have hcell:World.cell? _ ⟨b7,0,none⟩=some (.int .i64 (iE ls)):=hh.dA (i:=0) rfl rfl;have hoa:=fun w1 hb=>xi (some lad) ls.length lc ls 226 [.pointer (some ⟨b7,0,none⟩)] (fun g=>decide (g.v≠iE ls)) w1 (hL.ext (hh.below.trans (hb.mono hh.below.size))) ZB (fun z w2 hz hb2=>Gg z ⟨b7,0,none⟩ (iE ls) w2 (bD hb2 (bD hb hcell)))
      cases hod:BG ls with
      |true=>
       have hod2:ls.any (fun g=>decide (g.v≠iE ls))=true:=hod;rw [hod2] at hoa;have hl1:iG ls=1:=by rw [hlk,ZH (.inr hod)]
       rw [ZH ⟨ZB,by rw [hl1];decide⟩,hl1];refine a0 hh (hoa _ (Below.refl _ _)) rfl ?_;intro w45 hh;refine bJ ?_;intro ws hh;refine Ii ?_;exact MN
      |false=>
       have hod2:ls.any (fun g=>decide (g.v≠iE ls))=false:=hod;rw [hod2] at hoa;have hl0:iG ls=0:=by
        rw [hlk,ZG (fun h=>h.elim (fun h=>by omega) fun h=>by rw [hod] at h;cases h)]
       rw [ZG (fun h=>h.2 hl0)];have hvv:=(Bu hl0).2.2;have hg0:=hall0 g0 (ZL h00);unfold PX.e at hg0;have hpu:=hput (iE ls) (by rw [hhv];exact (eC hg0).1) (fun g hg=>by rw [←hvv g hg];exact hall0 g hg) hvv;refine a0 hh (hoa _ (Below.refl _ _)) rfl ?_;intro w45 hh;refine aj ?_;exact S2
theorem Q0 {o p:PX}{os ls:List PX} (hv:o.v=p.v) (ht:o.ts=p.ts) (h:os.map PX.norm=ls.map PX.norm):jx o os=jx p ls∧iE os=iE ls:=by
 have h1:iG os=iG ls:=by rw [←yC,h,yC]
 have h2:iE os=iE ls:=by rw [←vq,h,vq]
 have h3:os.length=ls.length:=by have:=aat List.length h;rwa [ZY,ZY] at this
 have h4:os.map PX.ts=ls.map PX.ts:=by
  have:=aat (List.map PX.ts) h;rw [aaB,aaB] at this;exact this
 refine ⟨?_,h2⟩;unfold jx PX.e;rw [hv,ht,h1,h2,h3,h4]
theorem qI {v:Int}{l:List TR} (hv:jN v=true) (hm:∀t∈l,hQ v t=true) (ho:kq k l) (hz:∀t∈l,t.m.size≤100000) (hl:l.length≤n) (hn:n≤4096) (hk:k+n≤3999990):mD v (k+n) (aQ l):=
 ⟨lF hv (aac (dQ _) ZB) hm,vv ho ZB ZB,vz hz⟩
def Gb (v i:Nat):List TR:=aQ [⟨pH v i,nR ((1:Int):Dyadic)⟩]
def yn (v:Nat) (x:Dyadic):List TR:=aQ [⟨hU v,nR x⟩]
def yo (v i:Nat) (x:Dyadic):List TR:=aQ ((Gb v i).map (vW x))
def km (v i:Nat) (s:SR):List TR:=aQ (yn v s.L++yo v i (s.H-s.L))
def cQ (b:List SR):List PX:=b.mapIdx fun i s=>⟨b.length,none,0,0,km b.length i s⟩
theorem nt {v:Nat} (h:v≤12):jN (v:Int)=true:=iQ.2 ⟨ZB,ZB⟩
theorem Hw {v i:Nat} (h:v≤12):mD (v:Int) 3 (Gb v i):=by
 have hs:((pH v i).size:Int)=v:=tf ZB;refine qI (k:=2) (n:=1) (nt h) (fun t ht=> ?_) (fun t ht=> ?_) (fun t ht=> ?_) (ZM _) ZC ZC
 ·rw [aaa.1 ht];unfold hQ;rw [Z7,aad];exact ⟨Er v i,hs⟩
 ·rw [aaa.1 ht];exact ⟨Sz.one.ok ZC,by show Sz 2 (nR _).d;rw [bE];exact Sz.one.mono ZC⟩
 ·rw [aaa.1 ht];show (pH v i).size≤100000;omega
theorem GN {v:Nat}{x:Dyadic} (h:v≤12) (hx:Sz k x) (hk:k≤900000):mD (v:Int) (k+1) (yn v x):=yW (nt h) (by show Sz k (nR x).d;rw [bE];exact hx) hk
theorem IQ {v i:Nat}{x:Dyadic} (h:v≤12) (hx:Sz k x) (hk:k≤400000):mD (v:Int) (k+k+4) (yo v i x):=by
 have hv:=Hw (i:=i) h;have hl:((Gb v i).map (vW x)).length≤1:=by rw [ZY];exact dQ _
 refine (qI (k:=3+k) (n:=1) (nt h) (fun t ht=> ?_) (GI hv.ok hx ZB) (fun t ht=> ?_) hl ZC ZB).mono (by
  by_cases h0:k=0
  ·omega
  ·omega)
 ·obtain ⟨s,hs,rfl⟩:=ZU.1 ht;exact (eC hv.e).2.2.1 s hs
 ·obtain ⟨s,hs,rfl⟩:=ZU.1 ht;exact hv.sz s hs
theorem sD {v i:Nat}{s:SR} (h:v≤12) (hs:s.fin k) (hk:k≤100000):mD (v:Int) (k+k+10) (km v i s)∧(km v i s).length≤2:=by
 have h1:=GN h (SR.VH hs) ZB;have h2:=IQ (i:=i) h ((SR.XA hs).sub (SR.VH hs)) ZB;have hl:(yn v s.L++yo v i (s.H-s.L)).length≤2:=by
  rw [ZS];have a1:(yn v s.L).length≤1:=dQ _;have a2:(yo v i (s.H-s.L)).length≤1:=aac (dQ _) (by rw [ZY];exact dQ _);omega
 have hm:∀{P:TR→Prop},(∀t∈yn v s.L,P t)→(∀t∈yo v i (s.H-s.L),P t)→∀t∈yn v s.L++yo v i (s.H-s.L),P t:=fun a b t ht=>(aav.1 ht).elim (a t) (b t);refine ⟨(qI (k:=k+1+(k+1)+4) (n:=2) (nt h) (hm (eC h1.e).2.2.1 (eC h2.e).2.2.1) (hm (h1.ok.mono ZB) h2.ok) (hm h1.sz h2.sz) hl ZC ZB).mono ZB,aac (dQ _) hl⟩
theorem kN {b:List SR}{i:Nat}{s:SR} (h:b[i]?=some s):(cQ b)[i]?=some ⟨b.length,none,0,0,km b.length i s⟩:=by
 unfold cQ;rw [List.getElem?_mapIdx,h]
 rfl
theorem qe (b:List SR):(cQ b).length=b.length:=by unfold cQ;rw [List.length_mapIdx]
theorem Fj {b:List SR}{g:PX} (h:g∈cQ b):∃i s,b[i]?=some s∧g=⟨b.length,none,0,0,km b.length i s⟩:=by
 obtain ⟨i,hi⟩:=aa4.1 h;obtain ⟨s,hs⟩:=ah (l:=b) (k:=i) (by have:=(ZV.1 hi).1;rwa [qe] at this);rw [kN hs] at hi;exact ⟨i,s,hs,(aau hi).symm⟩
theorem VU {i:Nat} (h:n≤12) (hi:i<n):vD n i=0:=ZG (by rw [nt h];rintro (a|a|a)<;>first|cases a|omega)
theorem Wo (h:n≤12):Es n=0:=ZG (by rw [nt h];decide)
theorem AB (p:PX) (L:Option Addr) (n c:Nat) (b:List SR) (k:Nat) (ds:List Nat) (w:World) (hT:dO w) (hp:p.at_ w) (lp:p.iO k) (hB:Sl w L n 6 (ao SR.cells b)) (hb:∀s∈b,s.fin k) (hv:p.v=n) (hn0:0<n) (hn:n≤12) (hk:k≤1000)
  (hds:ds.length=n) (hex:∀(i d:Nat),ds[i]?=some d→d≤127∧∀t∈p.ts,lB i t≤d) (hgr:jr (k+k+16394) ds (k+1)≤440000):
  Calls Tryz.prog 152 #[.agg #[.int .i64 p.v,.slice p.A p.n p.c],.slice L n c] w fun r w'=>∃g:PX,iz (jx p (cQ b)).1 n (jx p (cQ b)).2 g∧r=.returned (.tuple #[.agg #[.int .i64 g.v,.slice g.A g.n g.c],.int .i64 (jx p (cQ b)).1])∧Hp w [g.row] w':=by
 have hh:=Hp.start w;have hbl:b.length=n:=hB.a6 SR.len ZC;have hok:∀s∈b,s.ok:=fun s hs=>⟨(hb s hs).1.ok,(hb s hs).2.ok⟩;have hfo:=fun w1 hT1 hb1=>lz L n c b w1 hT1 (hB.ext hb1) hok ZB;have hhv:iE (cQ b)=n:=by
  obtain ⟨s,hs⟩:=ah (l:=b) (k:=0) ZB;rw [rp (kN hs),hbl]
 refine ae (N:=67) (l:=[.agg #[.int .i64 p.v,.slice p.A p.n p.c],.slice L n c]) Tryz.func152 rfl rfl (by simp) ?_;refine bU ?_;intro b2 w2 hh b4 w4 hh;refine aq (hfo _ (hT.hp hh) hh.below) ak.out rfl ZC ?_;rintro e_ w18 ⟨A18,c18,rfl,hown_,hb_⟩;refine ⟨_,rfl, ?_⟩;replace hh:=hh.aE (x:=.row _ _ _ _ _ _) hb_ hown_;refine aj ?_;replace hh:=hh.cq 52 2;refine a7 [6,7,8,9,10,11,12,13,14,15,16,20,21,22,23,24,25,26,27,28,29,30,31,32,33,34,35,36,37,38,39,40,41,42,43,44,45,46,47,48,49,50,51,52,53,54,55,56,57,58,59,60,61] 6 20
  (fun a v w'=>∃(i c3:Nat) (A:Option Addr) (os:List PX) (R:List HE),i≤n∧v=.int .i64 i∧a=.slice A i c3∧os.length=i∧KA ((cQ b).map fun g=>⟨g.v,none,g.ts.length,0,g.ts⟩) os R∧Hp w (.row A i c3 52 2 (ao PX.cells os)::.row A18 n c18 35 6 (ao SR.cells (b.map SR.f))::.blk b4 52 [.int .i64 0,.slice none 0 0] (0,0)::.blk b2 52 [.int .i64 p.v,.slice p.A p.n p.c] (0,0)::R) w')
  (fun _ v _=>n-(intOf v).toNat) ?_ ?_
 ·exact ⟨0,0,none,[],[],ZK _,rfl,rfl,rfl,⟨fun j g o _ h=>(nomatch h),fun o h=>(nomatch h)⟩,hh⟩
 ·clear hh;rintro ρ' a_ v w' ⟨i,c3,A,os,R,hi,rfl,rfl,hol,hcp,hh⟩;by_cases hlt:i<n
  ·obtain ⟨s,hs⟩:=ah (l:=b) (k:=i) ZB;have hsf:=hb s (ZL hs);have hsn:(b.map SR.f)[i]?=some s.f:=by rw [ZW,hs];rfl
   have zL:=SR.VH hsf;have zH:=SR.XA hsf;have zW:=zH.sub zL;obtain ⟨po,pl⟩:=sD (v:=n) (i:=i) hn hsf ZB;have vo:=Hw (i:=i) hn;have fo:=IQ (i:=i) hn zW ZB;have co:=GN hn zL ZB;have hva:=fun w1 hT1=>Gx (n:Int) (i:Int) w1 hT1;rw [VU hn hlt] at hva;have hsu:=fun w1 hT1=>qj (nR s.H) (nR s.L) w1 hT1 (zH.ok ZB) (zL.ok ZB) k (by rw [bE];exact zH) (by rw [bE];exact zL) ZB;rw [bE,bE] at hsu;have hcn:=fun w1 hT1=>nj (n:Int) (nR s.L) k w1 hT1 ⟨zL.ok ZB,by rw [bE];exact zL⟩ ZB;rw [Wo hn] at hcn;rw [abc] at hva;have hV:aQ [⟨pH n i,nR ((1:Int):Dyadic)⟩]=Gb n i:=rfl;have hC:aQ [⟨hU n,nR s.L⟩]=yn n s.L:=rfl;have hF:aQ ((Gb n i).map (vW (s.H-s.L)))=yo n i (s.H-s.L):=rfl;have hP:aQ (yn n s.L++yo n i (s.H-s.L))=km n i s:=rfl;have tl1:(Gb n i).length≤1:=dQ _;have ul1:(yn n s.L).length≤1:=dQ _;have fl1:(yo n i (s.H-s.L)).length≤1:=aac (dQ _) (by rw [ZY];exact dQ _);have hps:=kN hs;rw [hbl] at hps;rw [hV] at hva;rw [hC] at hcn;clear hV hC;generalize Gb n i=VL at*;generalize yn n s.L=CL at*;generalize yo n i (s.H-s.L)=FL at*;generalize km n i s=PL at*
   obtain ⟨gf,rfl⟩:=hh.bL (i:=1) rfl ZB;refine aj ?_;refine bk (vs:=[_,_,_,_,_,_]) aC.out rfl (hh.dy (f:=SR.cells) (x:=s.f) (l:=b.map SR.f) (i:=1) rfl SR.len ZC hsn) rfl ZC ?_;refine bU ?_;intro b8 w8 hh ws hh;replace hh:=show Hp w (.blk b8 35 [.bool (nR s.L).neg,.string (nR s.L).aW,.int .i64 (nR s.L).e,.bool (nR s.H).neg,.string (nR s.H).aW,.int .i64 (nR s.H).e] (0,0)::_) _ from hh;refine aq (hva _ (hT.hp hh)) ak.out rfl ZC ?_;rintro e_ w29 ⟨t,ot,rfl,h4⟩;refine ⟨_,rfl, ?_⟩;have htc:t.n≤t.c:=h4.gO (i:=0) rfl;replace hh:=hh.join h4;clear h4;simp only [ZR,ZN] at hh;obtain ⟨tv,tA,tn,tc,tt⟩:=t;replace hh:=show Hp w (.row tA tn tc 95 4 (ao TR.cells tt)::_) _ from hh;have et:VL=tt:=ot.t0.symm;have ev_:tv=(n:Int):=ot.v0;subst et ev_;have tln:VL.length=tn:=(hh.ar (i:=0) rfl).a6 TR.len ZC;have hsc:=fun w1 hT1 ha=>Aj ⟨n,tA,tn,tc,VL⟩ (nR (s.H-s.L)) (k+3) w1 hT1 ha ⟨by show tn≤1000000;omega,htc,vo.ok.mono ZB,vo.sz⟩ ⟨zW.ok ZB,by rw [bE];exact zW.mono ZB⟩ ZB;have hse:LQ ⟨n,tA,tn,tc,VL⟩ (s.H-s.L)=0:=by
    unfold LQ PX.e;rw [vo.e,ZH rfl];exact vS (by rw [ZY];show VL.length≤4096;omega)
   rw [bE,hse] at hsc;dsimp only at hsc;rw [hF] at hsc;refine bU ?_;intro b9 w9 hh ws hh;refine cX [10] [9] [0,0,2,0,8,30,63,127,255,255,0,1535,4095] 11 [[(9,none)],[(8,none)],[(34,some 1)],[(8,none)],[(36,some 3)],[(35,some 2),(37,some 4)],[(33,some 0),(38,some 5)],[(39,some 6)],[(32,some 7)],[(32,some 7)],[]] [(10,11),(9,41),(8,40),(7,32),(6,39),(5,38),(4,37),(3,36),(2,35),(1,34),(0,33)] hh mixed ZD (fB rfl aC.out dk) rfl (by repeat (first|exact bW|refine bA ?_|refine bY ?_)) ?_;refine df 0 [_,_] ?_;refine cK ?_;refine df 2 [_,_,_] ?_;refine cK ?_;refine df 2 [_,_,_] ?_;refine dC (fun _ hj=>hsu _ (hT.hp hj.hp)) ?_;refine aM (i:=6) (n4 hh.sz 0 n FL) (n4.ext) ?_ ?_
   ·intro ρ1 w1 hj hR;exact bI rfl (a8 ak.out (av (show ρ1 33=Value.agg (List.toArray _) from hR.1) (av (show ρ1 38=Value.agg (List.toArray _) from hR.2.1) bh))) (hsc w1 (hT.hp hj.hp) (hj.hp.ar (i:=1) rfl)) (fun _ _ ⟨g,og,hq,h3⟩=>⟨_,hq,h3.below,g,w1,rfl,og,hj.bl.size,h3⟩)
   refine aM (i:=7) (n4 hh.sz 0 n FL) (n4.ext) ?_ ?_
   ·exact Ol
   refine aM (i:=8) (m7 hh.sz 0 n FL) (m7.ext) ?_ ?_
   ·exact SK
   refine aM (i:=9) (Is (.int .i64 0)) (Is.ext) ?_ ?_
   ·exact Tw
   refine aM (i:=10) (bC _ 52 _) bC.ext (fun ρ1 w1 hj hR=>eR aC.out hj.bl (fun v w2 h hb=>⟨hb,h⟩)) ?_;refine au ?_;intro f W hJ hV _;have hb_6:=hJ.bl;obtain ⟨v11,v41,v40,v32,v39,v38,v37,v36,v35,v34,v33,_⟩:=hV;obtain ⟨g39,u39,e39, -⟩:=v39;obtain ⟨g32,u32,e32, -⟩:=v32;obtain ⟨g40,u40,e40,o40,q40,h40⟩:=v40;obtain ⟨b11,e11,hl11,hc11⟩:bC _ _ _ (f 10) W:=v11;replace hh:=hJ.kE hh hl11 hc11 q40 h40 (PX.ne h40 hc11 ZC);refine az (aH (aa e11 (aa v41 (aa e40 (aa e32 (aa e39 (aa v38 (aa v37 (aa v36 (aa v35 (aa v34 (aa v33 ay)))))))))))) ?_;dsimp only [bf];clear e39 e32 e40 e11 hJ;simp only [ZR,ZN] at hh;obtain ⟨fv,fA,fn,fc,ft⟩:=g40;replace hh:=show Hp w (_::.row fA fn fc 95 4 (ao TR.cells ft)::_) W from hh;have et:FL=ft:=o40.t0.symm;have ev_:fv=(n:Int):=o40.v0;subst et ev_;have fln:FL.length=fn:=(hh.ar (i:=1) rfl).a6 TR.len ZC;have fcc:fn≤fc:=hh.gO (i:=1) rfl;refine bJ ?_;intro ws hh;refine aq (hcn _ (hT.hp hh)) ak.out rfl ZC ?_;rintro e_ w47 ⟨u,ou,rfl,h4⟩;refine ⟨_,rfl, ?_⟩;have huc:u.n≤u.c:=h4.gO (i:=0) rfl;replace hh:=hh.join h4;clear h4
   simp only [ZR,ZN] at hh;obtain ⟨uv,uA,un,uc,ut⟩:=u;replace hh:=show Hp w (.row uA un uc 95 4 (ao TR.cells ut)::_) _ from hh;have et:CL=ut:=ou.t0.symm;have ev_:uv=(n:Int):=ou.v0;subst et ev_;have uln:CL.length=un:=(hh.ar (i:=0) rfl).a6 TR.len ZC;refine bU ?_;intro b13 w13 hh ws hh;refine tO ?_;intro b53 w53 hh;have hlp:iG [⟨n,uA,un,uc,CL⟩,⟨n,fA,fn,fc,FL⟩]=0:=u2 co.e fo.e rfl;have had:=fun A3 w1 hT1 hS1 s1 s2=>vV A3 2 2 [⟨n,uA,un,uc,CL⟩,⟨n,fA,fn,fc,FL⟩] (k+k+10) w1 hT1 hS1 ZC (fun g hg=>by
    rcases ZZ.1 hg with rfl|hg
    ·exact s1
    ·rw [aaa.1 hg];exact s2) (fun g hg=>by
    rcases ZZ.1 hg with rfl|hg
    ·exact ⟨by show un≤1000000;omega,huc,co.ok.mono ZB,co.sz⟩
    ·rw [aaa.1 hg];exact ⟨by show fn≤1000000;omega,fcc,fo.ok.mono ZB,fo.sz⟩) ZB
   unfold Ml at had;rw [ZH hlp,TG] at had;dsimp only at had;rw [hP] at had;rw [vS (l:=CL++FL) (by rw [ZS];omega)] at had;refine aq (had _ _ (hT.hp hh) (hh.ar (i:=0) rfl) (hh.ar (i:=2) rfl) (hh.ar (i:=4) rfl)) ak.out rfl ZC ?_;rintro e_ w54 ⟨z,oz,rfl,h4⟩;refine ⟨_,rfl, ?_⟩;have hzc:z.n≤z.c:=h4.gO (i:=0) rfl;replace hh:=hh.join h4;clear h4;simp only [ZR,ZN] at hh;replace hh:=show Hp w (.row z.A z.n z.c 95 4 (ao TR.cells z.ts)::_) _ from hh;have zln:z.ts.length=z.n:=(hh.ar (i:=0) rfl).a6 TR.len ZC;refine bU ?_;intro b15 w15 hh ws hh;refine Lp ?_;intro b59 w59 hh;refine bQ hh (i:=11) rfl rfl rfl (hh.ar (i:=0) rfl) bj.out aC.out rfl ZC (by first|rfl|exact dw _|exact cL _|exact a9 _|exact bo NR.one _) ZB ZB ZC ?_;intro A60 c60 w60 hh;simp only [ZP,aaf] at hh;replace hh:=hh.sub (aan _ _);refine aj ?_
   replace hh:=hh.sub (ZJ _ (ZI _ (ZJ _ (ZJ _ (ZJ _ (ZJ _ (ZJ _ (ZJ _ (ZJ _ (ZJ _ (ZI _ (ZI _ (ZI _ (ZI _ (aay _)))))))))))))));replace hh:=hh.perm (aaQ (l₁:=[_,_,_,_]));simp only [ZR,ZN] at hh;replace hh:=hh.perm (aaQ (l₁:=[_,_,_,_]));simp only [ZR,ZN] at hh;replace hh:=hh.perm (aaQ (l₁:=[_,_,_,_]));simp only [ZR,ZN] at hh;replace hh:=hh.perm (aaQ (l₁:=[_,_,_,_]));simp only [ZR,ZN] at hh;have hcp2:=hcp.add (g:=⟨n,none,PL.length,0,PL⟩) (o:=z) (by rw [hol,ZW,hps];rfl) ⟨oz.v0,oz.t0,by rw [←zln,oz.t0]⟩ hzc;refine ⟨⟨i+1,c60,A60,os++[z],z.row::R,ZB,rfl,rfl,by rw [ZS,hol];rfl,hcp2,by rw [bp,rv];exact hh⟩,by show n-(i+1)<n-i;omega, ?_⟩;exact dh
  ·obtain rfl:i=n:=ZB;have hol2:os.length=((cQ b).map fun g=>(⟨g.v,none,g.ts.length,0,g.ts⟩:PX)).length:=by rw [ZY,qe];omega
   have hkey:=hcp.key hol2;rw [aaB] at hkey;replace hkey:os.map PX.norm=(cQ b).map PX.norm:=hkey;obtain ⟨ks,kh⟩:=Q0 (o:=p) (p:=p) rfl rfl hkey;have hall:∀o∈os,o.iO (k+k+10)∧o.ts.length≤2:=fun o ho=>by
    obtain ⟨j,hj⟩:=aa4.1 ho;have hjn:j<os.length:=(ZV.1 hj).1;obtain ⟨s,hs⟩:=ah (l:=b) (k:=j) ZB;obtain ⟨e1,e2,e3⟩:=hcp.eq j ⟨b.length,none,(km b.length j s).length,0,km b.length j s⟩ o (by rw [ZW,kN hs];rfl) hj;obtain ⟨po,pl⟩:=sD (v:=b.length) (i:=j) ZB (hb s (ZL hs)) ZB;replace e2:o.ts=km b.length j s:=e2;replace e3:o.n=(km b.length j s).length:=e3;exact ⟨⟨ZB,(hcp.my o ho).2,by rw [e2];exact po.ok,by rw [e2];exact po.sz⟩,by rw [e2];exact pl⟩
   have hfit:YB p os k (k+k+10) 2 (k+k+16394) ds:=⟨ZB,hex,hgr,ZB,ZB,fun g hg=>(hall g hg).1,fun g hg=>(hall g hg).2⟩;have hsu:=fun w1 hT1 ha hs hm hc=>Ag p A c3 os k (k+k+10) 2 (k+k+16394) ds w1 hT1 ha lp hs hm hc hfit;rw [ks,kh,hhv,hol] at hsu;generalize (jx p (cQ b)).1=E at*;generalize (jx p (cQ b)).2=S at*;refine aj ?_;refine aq (hsu _ (hT.hp hh) (hp.ext hh.below) (hh.ar (i:=0) rfl) (fun z hz=>Qp hh (Z0 _ (Z0 _ (Z0 _ (Z0 _ (hcp.my z hz).1))))) (hh.gO (i:=0) rfl)) ak.out rfl ZC ?_;rintro e_ w64 ⟨g,og,rfl,h4⟩;refine ⟨_,rfl, ?_⟩;replace hh:=hh.join h4;clear h4;simp only [ZR,ZN] at hh;refine bJ ?_;intro ws hh;refine Nh ?_;exact Vo
def dM (i:Nat) (f:ByteArray→Dyadic) (m:ByteArray):Dyadic:=
 match m.data.toList[i]? with|some e=>((e.toNat:Int):Dyadic)*f (str (m.data.toList.set i (e-1)))|none=>0
theorem Qq {a b:List UInt8} (ha:fK a=true) (hb:fK b=true) (hl:b.length=a.length) (h:(List.zipWith (· + ·) (ints a) (ints b)).all cH=true):mulL a b=((List.zipWith (· + ·) (ints a) (ints b)).map sx,0):=by
 unfold mulL;rw [QA ha hb hl];show (O4 _,Po _)=_;rw [(uS h).1,(uS h).2]
theorem L7 {a b:List UInt8} (h:(mulL a b).2=0):(List.zipWith (· + ·) (ints a) (ints b)).all cH=true:=by
 obtain ⟨_,_,_,h4,h5⟩:=r8 h;rw [←h5];exact Rl h4
theorem O9 {a b:ByteArray}{i:Nat}{x y:UInt8} (h:ti a b=0) (hx:a.data.toList[i]?=some x) (hy:b.data.toList[i]?=some y):(mulM a b).data.toList[i]?=some (sx ((x.toNat:Int)+y.toNat))∧(sx ((x.toNat:Int)+y.toNat)).toNat=x.toNat+y.toNat:=by
 obtain ⟨h1,h2,h3,_,_⟩:=r8 h;have hall:=L7 h;have hiy:(ints b.data.toList)[i]?=some (y.toNat:Int):=by unfold ints;rw [ZW,hy];rfl
 have hix:(ints a.data.toList)[i]?=some (x.toNat:Int):=by unfold ints;rw [ZW,hx];rfl
 have hzz:=M6 (f:=fun (x y:Int)=>x+y) hix hiy;have hxy:cH ((x.toNat:Int)+y.toNat)=true:=aai.1 hall _ (ZL hzz);have e1:=rO hxy;injection e1 with _ e1
 refine ⟨?_,ZB⟩;unfold mulM;rw [dx,Qq h1 h2 h3 hall,ZW,hzz]
 rfl
def qN (B:Nat→Nat) (l:List TR):Prop:=∀t∈l,∀i,lB i t≤B i
theorem qN.mono {B C:Nat→Nat}{l:List TR} (h:qN B l) (hb:∀i,B i≤C i):qN C l:=fun t ht i=>aac (h t ht i) (hb i)
theorem Wb {s t:TR} (h:s.m=t.m) (i:Nat):lB i s=lB i t:=by unfold lB;rw [h]
theorem qN.aQ {B:Nat→Nat}{l:List TR} (h:qN B l):qN B (aQ l):=fun t ht i=>by
 obtain ⟨s,hs,e⟩:=kW t ht;rw [←Wb e i];exact h s hs i
theorem qN.append {B:Nat→Nat}{l k:List TR} (h:qN B l) (h2:qN B k):qN B (l++k):=fun t ht=>(aav.1 ht).elim (h t) (h2 t)
theorem qN.prod {B C:Nat→Nat}{q:List TR} (hp:qN B p) (hq:qN C q) (h:∀e∈zh p q,e=0):qN (fun i=>B i+C i) (dq p q):=fun t ht i=>by
 obtain ⟨x,hx,ht⟩:=abI.1 ht;obtain ⟨y,hy,rfl⟩:=ZU.1 ht;have hz:ti x.m y.m=0:=h _ (abI.2 ⟨x,hx,ZU.2 ⟨y,hy,rfl⟩⟩)
 cases ha:x.m.data.toList[i]? with
 |none=>
  have hl:=E0 hz;have hx0:=List.getElem?_eq_none_iff.1 ha;have e:(wi x y).m.data.toList[i]?=none:=by
   show (str _).data.toList[i]?=none;rw [dx];exact Z5 (by rw [hl];exact hx0)
  unfold lB;rw [e];exact ZK _
 |some a=>
  obtain ⟨_,_,h3,_,_⟩:=r8 hz;have hlt:=(ZV.1 ha).1;obtain ⟨b,hb⟩:=ah (l:=y.m.data.toList) (k:=i) ZB;obtain ⟨e1,e2⟩:=O9 hz ha hb;rw [tm (t:=wi x y) e1,e2];have h1:=hp x hx i;have h2:=hq y hy i;rw [tm ha] at h1;rw [tm hb] at h2;show a.toNat+b.toNat≤B i+C i;omega
theorem Ea {q p:List TR}{sub:List TR→Int×List TR}{j D:Nat}{E:Nat→Nat} (hq:qN (fun x=>if x=j then 1 else 0) q) (hD:∀t∈p,lB j t≤D) (hE:E j=0) (hs:∀n,(sub (cP p j n)).1=0→qN E (sub (cP p j n)).2):
  ∀i,i≤128→(dp q sub p j i).1=0→qN (fun x=>if x=j then i+D-128 else E x) (dp q sub p j i).2
 |0,_,_=>fun t ht=>(nomatch ht)
 |i+1,hi,h0=>by
  have h1:(dp q sub p j i).1=0:=by
   refine ack fun c=> ?_;rw [sW c (Nat.le_succ i)] at h0;exact c h0
  have ih:=Ea hq hD hE hs i ZB h1;have hsb:∀n,(sub (cP p j n)).1=0→qN (fun x=>if x=j then i+1+D-128 else E x) (sub (cP p j n)).2:=fun n hn=>(hs n hn).mono fun x=>by
   by_cases hx:x=j
   ·rw [ZH hx,hx,hE];exact ZK _
   ·rw [ZG hx];exact ZM _
  have hpr:ir (dp q sub p j i).2 q=0→qN (fun x=>if x=j then i+1+D-128 else E x) (aQ (dq (dp q sub p j i).2 q)):=fun ht=>by
   by_cases hlow:i+D≤127
   ·rw [mE hD i hlow];exact fun t ht=>(nomatch ht)
   ·refine ((ih.prod hq (rS ht).2.1).mono fun x=> ?_).aQ;by_cases hx:x=j
    ·rw [ZH hx,ZH hx,ZH hx];omega
    ·rw [ZG hx,ZG hx,ZG hx];omega
  rw [wP] at h0 ⊢;unfold ko at h0 ⊢;rw [ZG (fun h=>h h1)] at h0 ⊢;by_cases c1:(dp q sub p j i).2.length=0∧(cP p j (127-i)).length=0
  ·rw [ZH c1,adb.1 c1.1];exact fun t ht=>(nomatch ht)
  ·rw [ZG c1] at h0 ⊢;by_cases c2:ir (dp q sub p j i).2 q≠0
   ·rw [ZH c2] at h0;exact absurd h0 c2
   ·rw [ZG c2] at h0 ⊢;by_cases c3:(sub (cP p j (127-i))).1≠0
    ·rw [ZH c3] at h0;exact absurd h0 c3
    ·rw [ZG c3] at h0 ⊢;by_cases c4:iA (aQ (dq (dp q sub p j i).2 q)++(sub (cP p j (127-i))).2)≠0
     ·rw [ZH c4] at h0;exact absurd h0 c4
     ·rw [ZG c4];exact ((hpr ZB).append (hsb _ ZB)).aQ
theorem Dj (v:Int) (c:NR):qN (fun _=>0) [⟨hU v,c⟩]:=fun t ht i=>by
 rw [aaa.1 ht]
 cases he:(⟨hU v,c⟩:TR).m.data.toList[i]? with
 |none=>unfold lB;rw [he];exact ZM _
 |some e=>
  rw [tm he];have hm:=ZL he;replace hm:e∈(List.replicate v.toNat (0:UInt8)):=by simpa [hU] using hm
  rw [(List.mem_replicate.1 hm).2];exact ZM _
theorem QO {v:Int}:∀(qs:List (List TR)) (j:Nat) (p:List TR) (D:Nat→Nat),(∀(i:Nat) (q:List TR),qs[i]?=some q→qN (fun x=>if x=j+i then 1 else 0) q)→(∀t∈p,∀i,i<qs.length→lB (j+i) t≤D (j+i))→(kn v qs j p).1=0→qN (fun x=>if j≤x∧x<j+qs.length then D x else 0) (kn v qs j p).2:=by
 intro qs
 induction qs with
 |nil=>
  intro j p D _ _ _;exact (Dj v _).aQ.mono fun x=>ZK _
 |cons q qs ih=>
  intro j p D hq hp h0;have hsub:∀n,(kn v qs (j+1) (cP p j n)).1=0→qN (fun x=>if j+1≤x∧x<j+1+qs.length then D x else 0) (kn v qs (j+1) (cP p j n)).2:=fun n hn=>by
   refine ih (j+1) (cP p j n) D (fun i r hr=> ?_) (fun t ht i hi=> ?_) hn
   ·have:=hq (i+1) r (by simpa using hr);rwa [show j+1+i=j+(i+1) by omega]
   ·have:=hp t (ma t ht) (i+1) (by rw [aae];omega);rwa [show j+1+i=j+(i+1) by omega]
  have hq0:qN (fun x=>if x=j then 1 else 0) q:=hq 0 q rfl;have hD:∀t∈p,lB j t≤D j:=fun t ht=>hp t ht 0 (by rw [aae];omega);generalize hgen:kn v qs (j+1)=sub at hsub;have e:∀m,m=128→(dp q sub p j m).1=0→qN (fun x=>if j≤x∧x<j+(q::qs).length then D x else 0) (dp q sub p j m).2:=fun m hm h=>by
   refine (Ea hq0 hD (E:=fun x=>if j+1≤x∧x<j+1+qs.length then D x else 0) (by rw [ZG ZB]) hsub m ZB h).mono fun x=> ?_;rw [aae];by_cases hx:x=j
   ·rw [ZH hx,ZH ZB,hx];omega
   ·rw [ZG hx];by_cases h2:j+1≤x∧x<j+1+qs.length
    ·rw [ZH h2,ZH ZB];exact ZM _
    ·rw [ZG h2];exact ZK _
  have e2:kn v (q::qs) j p=dp q sub p j 128:=by rw [←hgen];rfl
  rw [e2] at h0 ⊢;exact e 128 rfl h0
theorem Xl {l:List TR}{i:Nat}{t:TR} (h:t∈l):pM t.m i≤Cd l i:=by
 induction l using ka with
 |h0=>cases h
 |hs l x ih=>
  rw [wu]
  rcases aav.1 h with h|h
  ·have:=ih h;omega
  ·rw [aaa.1 h];omega
theorem Ty {l:List TR}{i:Nat}{B:Int} (hB:0≤B) (h:∀t∈l,pM t.m i≤B):0≤Cd l i∧Cd l i≤B:=by
 induction l using ka with
 |h0=>exact ⟨Int.le_refl _,hB⟩
 |hs l x ih=>
  rw [wu];have h1:=ih fun t ht=>h t (abk _ ht);have h2:=h x (aaD _ ZQ);omega
theorem Mk (t:TR) (i:Nat):(lB i t:Int)=pM t.m i:=by
 unfold lB pM
 cases t.m.data.toList[i]?<;>rfl
def hH (v:Int) (ts:List TR):List Nat:=(yy v ts).map Int.toNat
theorem BD {v:Int} (h:lT v ts=0):yy v ts=aJ (hH v ts)∧(hH v ts).length=v.toNat∧∀(i d:Nat),(hH v ts)[i]?=some d→d≤127∧(∀t∈ts,lB i t≤d)∧((d:Int)=Cd ts i):=by
 obtain ⟨_,_,hm,_⟩:=eC h;have hd:yy v ts=nN v.toNat ts:=ZH h;have hb:∀t∈ts,∀i,pM t.m i≤127:=fun t ht i=>by
  have h1:=hm t ht;unfold hQ at h1;rw [Z7] at h1;unfold pM
  cases he:t.m.data.toList[i]? with
  |none=>decide
  |some e=>have:=uQ h1.1 he;show ((e.toNat:Nat):Int)≤127;omega
 refine ⟨?_,by unfold hH;rw [ZY,hd,gK],fun i d hi=> ?_⟩
 ·unfold hH aJ;rw [aaB];refine (acR _).symm.trans (abj fun x hx=> ?_);rw [hd] at hx;obtain ⟨i,_,rfl⟩:=ZU.1 hx;have:=(Ty (B:=127) ZC fun t ht=>hb t ht i).1;show Cd ts i=((Cd ts i).toNat:Int);omega
 ·unfold hH at hi;rw [hd,ZW] at hi;have hlt:i<v.toNat:=by
   refine ack fun hc=> ?_;rw [Z5 (by rw [gK];omega)] at hi
   cases hi
  rw [uV ts hlt] at hi;have h1:=Ty (l:=ts) (i:=i) (B:=127) ZC fun t ht=>hb t ht i;have h2:(Cd ts i).toNat=d:=aau hi;refine ⟨ZB,fun t ht=> ?_,ZB⟩;have h3:=Xl (i:=i) ht;have h4:=Mk t i;omega
def jy (m:ByteArray):List Nat:=m.data.toList.map UInt8.toNat
theorem CK (m:ByteArray):(jy m).length=m.size:=by rw [eS];exact ZY _
theorem NU {a b:ByteArray} (h:jy a=jy b):a=b:=vQ (List.map_inj_right (fun _ _=>acG.1)|>.1 h)
theorem Kn (m:ByteArray):ints m.data.toList=aJ (jy m):=by unfold ints aJ jy;rw [aaB];rfl
def ZA (xs:List Dyadic) (l:List TR):Dyadic:=wS (fun m=>Xd (jy m) xs) l
theorem W3 (f:ByteArray→Dyadic) (l:List TR):wS f l=sm l fun t=>t.c.d*f t.m:=by
 induction l with
 |nil=>rfl
 |cons t l ih=>rw [wS,sm,ih]
theorem Q6 (j:Nat) (t:TR):lB j t=((jy t.m)[j]?).getD 0:=by
 unfold lB jy;rw [ZW]
 cases t.m.data.toList[j]?<;>rfl
variable {X:List Dyadic}{ds:List Nat}
def wK:Nat→List Nat→List Nat→List Nat→Dyadic
 |m+1,_::ds,a::s,r::rs=>(if a=r then 1 else 0)*wK m ds s rs
 |0,d::ds,a::s,r::rs=>gi d 1 1 a r*wK 0 ds s rs
 |_,_,_,_=>1
theorem GS:∀(j:Nat) (ds s rs:List Nat),j<ds.length→jL ds s→jL ds rs→sm (List.range (ds.getD j 0+1)) (fun i=>wK (j+1) ds s (rs.set j i)*gi (ds.getD j 0) 1 1 i (rs.getD j 0))=wK j ds s rs
 |_,[],_,_,h,_,_=>by cases h
 |_,_::_,[],_,_,h,_=>by cases h
 |_,_::_,_::_,[],_,_,h=>by cases h
 |0,d::ds,a::s,r::rs,_,h1,_=>by
  show sm (List.range (d+1)) (fun i=>(if a=i then 1 else 0)*wK 0 ds s rs*gi d 1 1 i r)=gi d 1 1 a r*wK 0 ds s rs;have e:sm (List.range (d+1)) (fun i=>(if a=i then 1 else 0)*wK 0 ds s rs*gi d 1 1 i r)=sm (List.range (d+1)) fun i=>if i=a then gi d 1 1 a r*wK 0 ds s rs else 0:=du fun i _=>by
   by_cases h:a=i
   ·rw [ZH h,ZH h.symm,h];grind
   ·rw [ZG h,ZG (fun e=>h e.symm)];grind
  rw [e,rg,ZH (by have:=h1.1;omega)]
 |j+1,d::ds,a::s,r::rs,hj,h1,h2=>by
  show sm (List.range (ds.getD j 0+1)) (fun i=>(if a=r then 1 else 0)*wK (j+1) ds s (rs.set j i)*gi (ds.getD j 0) 1 1 i (rs.getD j 0))=(if a=r then 1 else 0)*wK j ds s rs;rw [←GS j ds s rs (by simpa using hj) h1.2 h2.2,←wj];exact du fun i _=>by grind
theorem N3:∀(ds s rs:List Nat),jL ds s→jL ds rs→wK ds.length ds s rs=if s=rs then 1 else 0
 |[],[],[],_,_=>by rw [ZH rfl];rfl
 |[],_::_,_,h,_=>by cases h
 |[],[],_::_,_,h=>by cases h
 |_::_,[],_,h,_=>by cases h
 |_::_,_::_,[],_,h=>by cases h
 |d::ds,a::s,r::rs,h1,h2=>by
  show (if a=r then 1 else 0)*wK ds.length ds s rs=_;rw [N3 ds s rs h1.2 h2.2];by_cases e1:a=r
  ·by_cases e2:s=rs
   ·rw [ZH e1,ZH e2,ZH (by rw [e1,e2])];grind
   ·rw [ZH e1,ZG e2,ZG fun e=>e2 (List.cons.inj e).2];grind
  ·rw [ZG e1,ZG fun e=>e1 (List.cons.inj e).1];grind
abbrev QL:=List (List Nat×Dyadic)
def X0 (ds:List Nat) (L:QL):List Dyadic:=jO (ai ds) (L.map fun q=>(cU ds q.1,q.2))
def rq (ds:List Nat) (L:QL):Nat→List Dyadic
 |0=>X0 ds L
 |k+1=>eZ ds (ds.length-1-k) (gi (ds.getD (ds.length-1-k) 0) 1 1) (rq ds L k)
theorem s8 (ds:List Nat) (L:QL) (k:Nat):rq ds L (k+1)=eZ ds (ds.length-1-k) (gi (ds.getD (ds.length-1-k) 0) 1 1) (rq ds L k):=rfl
theorem Cy (ds:List Nat) (L:QL) (k:Nat):(rq ds L k).length=ai ds:=by
 cases k with
 |zero=>exact iJ _ _
 |succ k=>rw [s8,nx]
theorem Mm {ds:List Nat}{L:QL} (hL:∀q∈L,jL ds q.1):∀k,k≤ds.length→∀row,jL ds row→co ds (rq ds L k) row=sm L fun q=>q.2*wK (ds.length-k) ds q.1 row
 |0,_,row,hr=>by
  have hp:=iS hr;rw [wI hr];show ((X0 ds L)[cU ds row]?).getD 0=_;unfold X0;rw [mU _ hp,aa1,wc];refine du fun q hq=> ?_;rw [Nat.sub_zero,N3 ds q.1 row (hL q hq) hr];by_cases h:q.1=row
  ·rw [ZH h,ZH (by rw [h])];grind
  ·rw [ZG h,ZG fun e=>h (by rw [←ik (hL q hq),←ik hr];exact aat (bz ds) e)];grind
 |k+1,hk,row,hr=>by
  obtain ⟨j,hj⟩:∃j,j=ds.length-1-k:=⟨_,rfl⟩;rw [s8,←hj,Je _ _ _ hr,show ds.length-(k+1)=j by omega];have e1:∀i,i<ds.getD j 0+1→co ds (rq ds L k) (row.set j i)=sm L fun q=>q.2*wK (j+1) ds q.1 (row.set j i):=fun i hi=>by
   rw [Mm hL k ZB (row.set j i) (Hg hr ZB),show ds.length-k=j+1 by omega]
  rw [du fun i hi=>show co ds (rq ds L k) (row.set j i)*gi (ds.getD j 0) 1 1 i (row.getD j 0)=sm L fun q=>q.2*(wK (j+1) ds q.1 (row.set j i)*gi (ds.getD j 0) 1 1 i (row.getD j 0)) by
   rw [e1 i (aaR.1 hi),←T0];exact du fun q _=>by grind,Ie]
  refine du fun q hq=> ?_;rw [←GS j ds q.1 row ZB (hL q hq) hr,←wj]
def E6 (ns:List Nat) (l:List TR):List Dyadic:=(List.range (ai ns.reverse)).map fun p=>wS (fun m=>wK 0 ns.reverse (jy m).reverse (bz ns.reverse p)) l
theorem PU (ns:List Nat) (l:List TR):(E6 ns l).length=ai ns:=by unfold E6;rw [ZY,acI,bT]
def uo (l:List TR):QL:=l.map fun t=>((jy t.m).reverse,t.c.d)
theorem Nv {ns:List Nat}{l:List TR} (hl:∀t∈l,jL ns.reverse (jy t.m).reverse):rq ns.reverse (uo l) ns.length=E6 ns l:=by
 have hL:∀q∈uo l,jL ns.reverse q.1:=fun q hq=>by
  obtain ⟨t,ht,rfl⟩:=ZU.1 hq;exact hl t ht
 refine Oa (ds:=ns.reverse) (Cy _ _ _) (by rw [PU,bT]) fun row hr=> ?_;have hp:=iS hr;rw [Mm hL ns.length (by rw [Z6];exact ZM _) row hr,wI hr,show ns.reverse.length-ns.length=0 by rw [Z6,aaz]];unfold E6 uo;rw [ZW,aaP hp,wc];show _=wS _ l;rw [W3,ik hr]
theorem DG:∀{ds rs:List Nat} (a:Nat),jL ds rs→rs.getD a 0≤ds.getD a 0
 |[],[],_,_=>by simp
 |[],_::_,_,h=>by cases h
 |_::_,[],_,h=>by cases h
 |_::_,_::_,0,h=>h.1
 |_::ds,_::rs,a+1,h=>DG (ds:=ds) (rs:=rs) a h.2
theorem Ki {a d:Nat} (hx:∀x∈X,Sz k x) (hd:ds.getD a 0=d) (hd7:d≤127):∀x∈eZ ds a (gi d 1 1) X,Sz (k+520) x:=fun x h=>by
 obtain ⟨p,_,rfl⟩:=ZU.1 h;have hr:(bz ds p).getD a 0≤d:=by rw [←hd];exact DG a (kD ds p)
 have h2:=NT (l:=List.range (ds.getD a 0+1)) (f:=fun i=>co ds X ((bz ds p).set a i)*gi d 1 1 i ((bz ds p).getD a 0)) (k:=k+(130+2*(1*d))) fun i _=>by
  refine Sz.mul ?_ (Hd Sz.one Sz.one hd7 hr);unfold co;split
  ·cases h:X[cU ds ((bz ds p).set a i)]? with
   |none=>exact Sz.zero k
   |some y=>exact hx y (ZL h)
  ·exact Sz.zero k
 rw [acI,hd] at h2;rw [hd];exact h2.mono ZB
theorem OJ {B:Nat} (h:∀d∈ds,d≤B) (a:Nat):ds.getD a 0≤B:=by
 rw [aaK]
 cases ha:ds[a]? with
 |none=>exact ZK _
 |some d=>exact h d (ZL ha)
theorem Ng {ds:List Nat}{L:QL}{k:Nat} (h:∀x∈X0 ds L,Sz k x) (hd:∀d∈ds,d≤127):∀i,∀x∈rq ds L i,Sz (k+520*i) x
 |0=>h
 |i+1=>fun x hx=>(Ki (Ng h hd i) rfl (OJ hd _) x hx).mono ZB
theorem VI {l:List TR} (h:kq k l):∀x∈X0 ds (uo l),Sz (k+l.length) x:=fun x hx=>by
 have:=BC (N:=ai ds) (L:=(uo l).map fun (q:List Nat×Dyadic)=>(cU ds q.1,q.2)) (k:=k) (fun a ha=>by
  obtain ⟨q,hq,rfl⟩:=ZU.1 ha;obtain ⟨t,ht,rfl⟩:=ZU.1 hq;exact (h t ht).2) x hx
 unfold uo at this;rwa [ZY,ZY] at this
structure Qb (p:PX) (b:List SR) (ns:List Nat):Prop where
 e:p.e=0
 box:ux b=0
 pos:0<b.length
 LR:b.length≤12
 v:p.v=b.length
 nl:ns.length=b.length
 low:∀d∈ns,d≤127
 most:ai ns≤4096
 own:∀(i d:Nat),ns[i]?=some d→∀t∈p.ts,lB i t≤d
theorem UT {p:PX}{b:List SR}{D:List Int} (h:pG p b D=0):D=aJ (D.map Int.toNat)∧Qb p b (D.map Int.toNat):=by
 unfold pG at h;by_cases h0:p.e≠0
 ·rw [ZH h0] at h;exact absurd h h0
 ·rw [ZG h0] at h;by_cases h1:ux b≠0
  ·rw [ZH h1] at h;exact absurd h h1
  ·rw [ZG h1] at h;by_cases h2:(b.length:Int)≠p.v∨(D.length:Int)≠p.v
   ·rw [ZH h2] at h;exact absurd h ZC
   ·rw [ZG h2] at h;by_cases h3:EJ (yy p.v p.ts) D=true
    ·rw [ZH h3] at h;exact absurd h ZC
    ·rw [ZG h3] at h;by_cases h4:gU 1 D=0
     ·rw [ZH h4] at h;exact absurd h ZC
     ·have hpe:p.e=0:=abh.1 h0;obtain ⟨f1,_,_,_⟩:=eC hpe;have f2:=iQ.1 f1;obtain ⟨o1,o2,o3⟩:=BD hpe;have hbv:(b.length:Int)=p.v:=abh.1 fun c=>h2 (.inl c);have hdv:(D.length:Int)=p.v:=abh.1 fun c=>h2 (.inr c);have hD:∀(i:Nat) (y:Int),D[i]?=some y→∃d:Nat,(hH p.v p.ts)[i]?=some d∧(d:Int)≤y∧y≤127:=fun i y hy=>by
       have hi:=(ZV.1 hy).1;obtain ⟨d,hd⟩:=ah (l:=hH p.v p.ts) (k:=i) ZB;have hg:(yy p.v p.ts)[i]?=some (d:Int):=by rw [o1];exact ct hd
       have:=abd.1 ((Bool.not_eq_true _).mp h3) _ (ZL (Hi hg hy));rw [aad] at this;exact ⟨d,hd,by show (d:Int)≤y;omega,by show y≤127;omega⟩
      have hnat:D=aJ (D.map Int.toNat):=by
       unfold aJ;rw [aaB];refine (acR _).symm.trans (abj fun y hy=> ?_);obtain ⟨i,hi⟩:=aa4.1 hy;obtain ⟨d,_,h5,_⟩:=hD i y hi;show y=((y.toNat:Nat):Int);omega
      have hlow:∀d∈D.map Int.toNat,d≤127:=fun d hd=>by
       obtain ⟨y,hy,rfl⟩:=ZU.1 hd;obtain ⟨i,hi⟩:=aa4.1 hy;obtain ⟨_,_,_,h6⟩:=hD i y hi;omega
      refine ⟨hnat,hpe,abh.1 h1, ?_,ZB,hbv.symm,by rw [ZY];omega,hlow, ?_,fun i d hd t ht=> ?_⟩
      ·rcases abp b.length with c|c
       ·have h9:=abh.1 h1;unfold ux at h9;rw [adb.1 c] at h9;exact absurd h9 ZC
       ·exact c
      ·have h8:=j7 (D.map Int.toNat) 1 (ZM _) ZC hlow;rw [←hnat,abS] at h8;rw [show gU 1 D=gU ((1:Nat):Int) D from rfl,h8] at h4;exact abh.1 fun c=>h4 (ZG c)
      ·rw [ZW] at hd;obtain ⟨y,hy,hyd⟩:=abA.1 hd;obtain ⟨d2,h7,h8,h9⟩:=hD i y hy;have:=(o3 i d2 h7).2.1 t ht;omega
theorem Qb.G5 {p:PX}{b:List SR}{ns:List Nat} (h:Qb p b ns):(hH p.v p.ts).length=b.length:=by
 rw [(BD h.e).2.1,h.v];exact abc _
theorem Qz (v i:Nat) (c:NR):qN (fun x=>if x=i then 1 else 0) [⟨pH v i,c⟩]:=fun t ht j=>by
 rw [aaa.1 ht]
 cases he:(⟨pH v i,c⟩:TR).m.data.toList[j]? with
 |none=>unfold lB;rw [he];exact ZK _
 |some e=>
  rw [tm he];show e.toNat≤if j=i then 1 else 0
  have e1:((List.replicate v (0:UInt8)).set i 1)[j]?=some e:=by simpa [pH] using he
  rw [aaX] at e1;by_cases hj:i=j
  ·rw [ZH hj] at e1;rw [ZH hj.symm];split at e1
   ·rw [←aau e1];decide
   ·cases e1
  ·rw [ZG hj] at e1;rw [(List.mem_replicate.1 (ZL e1)).2];exact ZK _
theorem Jt (v i:Nat) (s:SR):qN (fun x=>if x=i then 1 else 0) (km v i s):=by
 refine qN.aQ (qN.append ((Dj v _).aQ.mono fun x=>ZK _) (qN.aQ fun t ht j=> ?_));obtain ⟨z,hz,rfl⟩:=ZU.1 ht;rw [show lB j (vW (s.H-s.L) z)=lB j z from rfl];exact (Qz v i _).aQ z hz j
theorem Ks {p:PX}{b:List SR}{ns:List Nat} (h:Qb p b ns) (ho:kq k p.ts) (hb:∀s∈b,s.fin k) (hk:k≤1000) (hgr:jr (k+k+16394) (hH p.v p.ts) (k+1)≤440000) (h0:(jx p (cQ b)).1=0):
  mD b.length 440000 (jx p (cQ b)).2∧∀t∈(jx p (cQ b)).2,jL ns.reverse (jy t.m).reverse:=by
 have hl:=h.LR;have hpos:=h.pos;have hln:=qe b;obtain ⟨_,o2,o3⟩:=BD h.e;have hol:=h.G5;have hhv:iE (cQ b)=b.length:=by
  obtain ⟨s,hs⟩:=ah (l:=b) (k:=0) ZB;rw [rp (kN hs)]
 unfold jx at h0 ⊢;rw [ZG (fun c=>c h.e),ZG (by rw [hln,h.v];exact fun c=>c rfl)] at h0 ⊢;by_cases hlk:(cQ b).length≠0∧iG (cQ b)≠0
 ·rw [ZH hlk] at h0;exact absurd h0 hlk.2
 ·rw [ZG hlk,hhv] at h0 ⊢;have hq:∀q∈(cQ b).map PX.ts,mD b.length (k+k+10) q∧q.length≤2:=fun q hq=>by
   obtain ⟨g,hg,rfl⟩:=ZU.1 hq;obtain ⟨i,s,hs,rfl⟩:=Fj hg;exact sD hl (hb s (ZL hs)) ZB
  have h1:=HI (nt hl) (show k+k+10+4096*2+8192≤k+k+16394 by omega) ((cQ b).map PX.ts) 0 p.ts (hH p.v p.ts) k hq ho (by rw [ZY,hln,hol]) (fun i d hd=>⟨(o3 i d hd).1,fun t ht=>by rw [Z9];exact (o3 i d hd).2.1 t ht⟩) ZB h0;refine ⟨h1.mono hgr, ?_⟩;have h2:=QO ((cQ b).map PX.ts) 0 p.ts (fun i=>(ns[i]?).getD 0) (fun i q hi=> ?_) (fun t ht i hi=> ?_) h0
  ·intro t ht;have hm:=(eC h1.e).2.2.1 t ht;unfold hQ at hm;rw [Z7,aad] at hm;have hsz:(jy t.m).length=b.length:=by rw [CK];omega
   rw [iq];refine ⟨by rw [Z6,Z6,hsz,h.nl],fun i d r hd hr=> ?_⟩;have hi:=(ZV.1 hd).1;rw [Z6] at hi;rw [aaH hi] at hd;rw [aaH (by rw [hsz,←h.nl];exact hi),hsz,←h.nl] at hr;have h3:=h2 t ht (ns.length-1-i);dsimp only at h3;rw [ZY,hln,ZH ⟨ZK _,by have:=h.nl;omega⟩,hd,Q6,hr] at h3;exact h3
  ·rw [ZW] at hi;obtain ⟨g,hg,rfl⟩:=abA.1 hi;obtain ⟨s,hs⟩:=ah (l:=b) (k:=i) (by have:=(ZV.1 hg).1;rwa [hln] at this);rw [kN hs] at hg;rw [←aau hg,Z9];exact Jt _ i s
  ·rw [ZY,hln] at hi;rw [Z9];obtain ⟨d,hd⟩:=ah (l:=ns) (k:=i) (by rw [h.nl];exact hi);rw [hd];exact h.own i d hd t ht
theorem BF (L:Option Addr) (n c d:Nat) (xs:List Dyadic) (k:Nat) (w:World) (hT:dO w) (hS:Sl w L n 3 (ao NR.cells (xs.map nR))) (hn:n=d+1) (hd:d≤127) (hx:∀x∈xs,Sz k x) (hk:k≤500000):
  Calls Tryz.prog 156 #[.slice L n c] w fun r w'=>∃A c',r=.returned (.slice A n c')∧Hp w [.row A n c' 33 3 (ao NR.cells ((dK d (gi d 1 1) xs).map nR))] w':=by
 have hh:=Hp.start w;have hln:xs.length=n:=by have:=hS.a6 NR.len ZC;simpa using this
 have ha:Sz 1 1:=Sz.one;obtain ⟨ad,rfl,hr⟩:=hS.at_ ZB;refine ae (N:=52) (l:=[.slice (some ad) n c]) Tryz.func156 rfl rfl (by simp) ?_;refine aj ?_;refine z5 ?_;intro b14 w14 hh;refine aj ?_;rw [th,hn,←xC d 1 1 xs,←hn] at hh;refine aD [5,6,7,8,17,18,19,20,21,22,23,24,25,26,27,28,29,30,31,32,33,34,35,36,37,38,39,40,41,42,43,44,45,46,47,48,49,50] 17
  (fun v w'=>∃i:Nat,i≤n∧v=.int .i64 i∧Hp w [.row (some ⟨b14,0,none⟩) n n 33 3 (ao NR.cells ((jJ d 1 1 xs i 0).map nR))] w')
  (fun v _=>n-(intOf v).toNat) ?_ ?_
 ·exact ⟨0,ZK _,rfl,hh⟩
 ·clear hh;rintro ρ' v w' ⟨i,hi,rfl,hh⟩;by_cases hlt:i<n
  ·obtain ⟨x,hxi⟩:=ah (l:=xs) (k:=i) ZB;have hxn:(xs.map nR)[i]?=some (nR x):=by rw [ZW,hxi];rfl
   have hat:gY xs i=x:=by unfold gY;rw [hxi];rfl
   have zx:=hx x (ZL hxi);have hch:=fun w1 hT1=>pO (d-i) w1 hT1 ZB;refine aj ?_;refine bk (vs:=[_,_,_]) aC.out rfl ((hr.ext hh.below).recAt NR.len hxn) rfl ZC ?_;refine bU ?_;intro b6 w6 hh ws hh;have e24:(n:Int)-1-(i:Int)=((d-i:Nat):Int):=ZB;rw [←e24] at hch;refine aq (hch _ (hT.hp hh)) ak.out rfl ZC ?_;rintro e_ w25 ⟨A25,c25,rfl,hown_,hb_⟩;refine ⟨_,rfl, ?_⟩;replace hh:=hh.aE (x:=.row _ _ _ _ _ _) hb_ hown_;refine aj ?_;replace hh:=hh.sub (ZI _ (ZI _ (ZI _ Z4)));refine aD [7,8,27,28,29,30,31,32,33,34,35,36,37,38,39,40,41,42,43,44,45,46,47,48,49] 27
    (fun v w'=>∃j:Nat,j≤d-i+1∧v=.int .i64 j∧Hp w [.row A25 (d-i+1) c25 33 3 (ao NR.cells (nL (d-i))),.blk b6 33 [.bool (nR x).neg,.string (nR x).aW,.int .i64 (nR x).e] (0,0),.row (some ⟨b14,0,none⟩) n n 33 3 (ao NR.cells ((jJ d 1 1 xs i j).map nR))] w')
    (fun v _=>d-i+1-(intOf v).toNat) ?_ ?_
   ·exact ⟨0,ZK _,rfl,hh⟩
   ·clear hh;rintro ρ2 v w2 ⟨j,hj,rfl,hh⟩;by_cases hjn:j<d-i+1
    ·have hbn:(nL (d-i))[j]?=some (nR (nD (bin (d-i) j))):=nI ZB;have zb:=sS (d-i) j ZB;obtain ⟨o,ho⟩:=ah (l:=jJ d 1 1 xs i j) (k:=i+j) (by rw [k6];omega);have hon:((jJ d 1 1 xs i j).map nR)[i+j]?=some (nR o):=by rw [ZW,ho];rfl
     have zo:=uH (j:=j) hx ha ha hd (show i≤d+1 by omega) o (ZL ho);have zy:=zx.mul zb;have hm2:=fun A cc w1 hT1 hS1=>iW A 2 cc [nR x,nR (nD (bin (d-i) j))] w1 hT1 hS1 (by simpa using ⟨zx.ok ZB,zb.ok ZB⟩) 600000 (by simpa [bE] using ⟨zx.mono ZB,zb.mono ZB⟩) ZB ZB;rw [show jR ([nR x,nR (nD (bin (d-i) j))].map NR.d)=x*nD (bin (d-i) j) by simp only [aaj,aaC,bE];show 1*x*_=_;rw [acd]] at hm2;have hset:=DH (show i+j≤d by omega) ho;have hval:gY xs i*gi d 1 1 i (i+j)=x*nD (bin (d-i) j):=by
      unfold gi;rw [hat,ZG ZB,show i+j-i=j by omega,yA,yA];generalize nD (bin (d-i) j)=u;grind
     rw [hval] at hset;generalize x*nD (bin (d-i) j)=y at*;have hsum:=fun A cc w1 hT1 hS1=>jd A 2 cc [nR o,nR y] w1 hT1 hS1 (by simpa using ⟨zo.ok ZB,zy.ok ZB⟩) 2000000 (by simpa [bE] using ⟨zo.mono ZB,zy.mono ZB⟩) ZB;rw [show nY ([nR o,nR y].map NR.d)=o+y by simp only [aaj,aaC,bE,k8]] at hsum;have hll:((jJ d 1 1 xs i j).map nR).length=n:=by rw [ZY,k6];omega
     generalize jJ d 1 1 xs i j=S at*;have hrl:=ff NR.len (S.map nR);obtain ⟨gw,rfl⟩:=hh.bL (i:=0) rfl ZB;refine aj ?_;refine bk (vs:=[_,_,_]) aC.out rfl (hh.dy (f:=NR.cells) (x:=nR (nD (bin (d-i) j))) (l:=nL (d-i)) (i:=0) rfl NR.len ZC hbn) rfl ZC ?_;refine bU ?_;intro b8 w8 hh ws hh;refine aw 16 [[(4,none)],[(5,none)],[(7,none)],[(33,some 1),(34,some 2)],[(4,none)],[(5,none)],[(7,none)],[(37,some 5),(38,some 6)],[(36,some 4),(39,some 7)],[(40,some 8)],[(6,none)],[(8,none)],[(42,some 10),(43,some 11)],[(44,some 12)],[(41,some 9),(45,some 13)],[(46,some 14)]] [(15,47),(14,46),(13,45),(12,44),(11,43),(10,42),(9,41),(8,40),(7,39),(6,38),(5,37),(4,36),(3,35),(2,34),(1,33),(0,32)] hh mixed ZD ?_;refine dR ?_;refine cj ?_;refine cj ?_;refine p8 ?_;refine dR ?_;refine cj ?_;refine cj ?_;refine p8 ?_;refine uC ((i+j)) ?_;refine nu [_,_,_] (fun _ hj=>hj.hp.dy (f:=NR.cells) (x:=nR o) (l:=S.map nR) (i:=3) rfl NR.len ZC hon) ?_;refine df 2 [_,_,_] ?_;refine df 0 [_,_,_] ?_;refine vG [_,_,_,_,_,_] ?_
     refine aM (i:=13) (Is (.agg #[.bool (nR y).neg,.string (nR y).aW,.int .i64 (nR y).e])) Is.ext ?_ ?_
     ·intro ρ1 w1 hj hR;obtain ⟨A44,c44,h44,s44⟩:=hR.1;exact bI rfl (a8 ak.out (av h44 bh)) (hm2 A44 c44 _ (hT.hp hj.hp) s44) (fun _ _ hq=>⟨_,hq.1,hq.2,rfl⟩)
     refine vG [_,_,_,_,_,_] ?_;refine aM (i:=15) (Is (.agg #[.bool (nR (o+y)).neg,.string (nR (o+y)).aW,.int .i64 (nR (o+y)).e])) Is.ext ?_ ?_
     ·intro ρ1 w1 hj hR;obtain ⟨A46,c46,h46,s46⟩:=hR.1;exact bI rfl (a8 ak.out (av h46 bh)) (hsum A46 c46 _ (hT.hp hj.hp) s46) (fun _ _ hq=>⟨_,hq.1,hq.2,rfl⟩)
     refine au ?_;intro f W hJ hV;have hb_9:=hJ.bl;obtain ⟨v47,v46,v45,v44,v43,v42,v41,v40,v39,v38,v37,v36,v35,v34,v33,v32,_⟩:=hV;obtain ⟨A44,c44,e44,f44⟩:Rows _ _ _ (f 12) W:=v44;obtain ⟨A46,c46,e46,f46⟩:Rows _ _ _ (f 14) W:=v46;replace hh:=hJ.hp;refine az (aH (aa v47 (aa e46 (aa v45 (aa e44 (aa v43 (aa v42 (aa v41 (aa v40 (aa v39 (aa v38 (aa v37 (aa v36 (aa v35 (aa v34 (aa v33 (aa v32 ay))))))))))))))))) ?_;dsimp only [bf];clear e44 e46 hJ;refine dN (k:=(i+j)) bj.out aC.size rfl rfl ZB ZB ZC ?_;refine G9 ?_;intro ws hh;simp only [ZP,aaf] at hh;rw [show bO (ao NR.cells (S.map nR)) ((i+j)*3) [.bool (nR (o+y)).neg,.string (nR (o+y)).aW,.int .i64 (nR (o+y)).e]=ao NR.cells ((S.map nR).set (i+j) (nR (o+y))) from ez NR.len ZB,←abr,hset] at hh;refine aj ?_;replace hh:=hh.sub (ZJ _ (ZI _ (ZI _ (ZI _ Z4))));exact Sw
    ·obtain rfl:j=d-i+1:=ZB;rw [yI ZB] at hh;refine aj ?_;replace hh:=hh.sub (ZJ _ (ZJ _ (ZI _ Z4)));exact vt
  ·obtain rfl:i=n:=ZB;rw [show jJ d 1 1 xs i 0=dK d (gi d 1 1) xs by rw [hn,px]] at hh;refine aj ?_;exact ⟨_,_,rfl,hh⟩
def YL (fx:FX) (hs:List Int):Int:=if fx.e≠0 then fx.e else if hs.any (XX fx.n)=true then 1 else 0
theorem Be (A:Option Addr) (n c a d:Nat) (ns:List Nat) (w:World) (hS:Sl w A n 1 (aZ (aJ ns))) (hcap:n≤c) (hn:n≤1000) (hd:ns[a]?=some d) (hlow:∀x∈ns,x≤127) (hmax:ai ns≤4096):
  Calls Tryz.prog 154 #[.slice A n c,.int .i64 a] w fun r w'=>r=.returned (.agg #[.int .i64 ((d:Int)+1),.int .i64 (ai (ns.drop (a+1)):Nat)])∧Below w.heap.size w w':=by
 have hh:=Hp.start w;have hln:ns.length=n:=by have:=hS.1;simpa [aZ,aJ] using this
 have ha:=(ZV.1 hd).1;have hd127:=hlow d (ZL hd);have hgd:=bB (ct hd);have hbk:=hS.back (l:=a+1) (c:=c) ZB hcap;have hds:(aZ (aJ ns)).drop ((a+1)*1)=aZ (aJ (ns.drop (a+1))):=by
  rw [Z8];unfold aZ aJ;rw [←acs,←acs]
 rw [hds] at hbk;have hcd:gU 1 (aJ (ns.drop (a+1)))=(ai (ns.drop (a+1)):Nat):=by
  have h1:=j7 (ns.drop (a+1)) 1 ZC ZC (fun x hx=>hlow x (ado hx));have h2:ai (ns.drop (a+1))≤ai ns:=by
   have h3:ai ns=ai (ns.take (a+1))*ai (ns.drop (a+1)):=by rw [←dF,aaL]
   rw [h3];exact acH _ (cI _)
  rw [abS,ZH ZB] at h1;exact h1
 have hcnt:=fun w1 hS1=>fD (if c=a+1 then A else A.map (·.add ((a+1)*1))) (n-(a+1)) (c-(a+1)) (aJ (ns.drop (a+1))) w1 hS1 ZB;rw [hcd] at hcnt;obtain ⟨ad,rfl,srd⟩:=hS.at_ ZB;refine ae (N:=16) (l:=[.slice (some ad) n c,.int .i64 a]) Tryz.func154 rfl rfl (by simp) ?_;refine bJ ?_;intro b4 w4 hh;refine aw 10 [[(0,none)],[(1,none)],[(5,some 0),(6,some 1)],[(7,some 2)],[(8,some 3)],[(0,none)],[(1,none)],[(11,some 6)],[(10,some 5),(12,some 7)],[(13,some 8)]] [(9,14),(8,13),(7,12),(6,11),(5,10),(4,9),(3,8),(2,7),(1,6),(0,5)] hh mixed ZD ?_;refine dR ?_;refine cj ?_;refine jK (a) ?_;refine mZ (fun _ hj=>(srd.ext hj.hp.below).mX hgd) ?_;refine p8 ?_;refine dR ?_;refine cj ?_;refine p8 ?_;refine aV (i:=8) (fun ρ1 w1 hj hR=>gJ (l:=(a+1)) bj.out aC.size (show ρ1 10=Value.slice _ _ _ from hR.1) (show ρ1 12=Value.int _ _ from hR.2.1) ZB ZB ZB) ?_;refine dC (fun _ hj=>hcnt _ (hbk.ext hj.hp.below)) ?_;refine au ?_;intro f W hJ hV;have hb_1:=hJ.bl;obtain ⟨v14,v13,v12,v11,v10,v9,v8,v7,v6,v5,_⟩:=hV;replace hh:=hJ.hp;refine RH ?_;dsimp only [bf];clear hJ;exact sG
theorem Jf (A:List Nat) (d f i q:Nat):cf A d f i q=cf A d f 0 q+i*ai A:=by
 unfold cf;rw [aaw,aaw,abO,Z2 i];omega
theorem C7 (g:FuncId) [ak Tryz.prog g] (A B:List Nat) (d L:Nat) (φ:List Dyadic→List Dyadic) (C:Option Addr) (n c k:Nat) (X:List Dyadic) (w:World) (hT:dO w) (hS:Sl w C n 3 (ao NR.cells (X.map nR))) (hn:n=ai (A++d::B)) (hmax:n≤4096) (hL:L≤d+1) (hd:d≤127) (hx:∀x∈X,Sz k x)
  (hg:∀(Y:List Dyadic) (D:Option Addr) (dc:Nat) (w1:World),dO w1→(∀y∈Y,Sz k y)→Sl w1 D (d+1) 3 (ao NR.cells (Y.map nR))→Calls Tryz.prog g #[.slice D (d+1) dc] w1 fun r w'=>∃E ec,r=.returned (.slice E L ec)∧Hp w1 [.row E L ec 33 3 (ao NR.cells ((φ Y).map nR))] w')
  (hφ:∀Y:List Dyadic,Y.length=d+1→(φ Y).length=L):
  Calls Tryz.prog 155 #[.agg #[.int .i64 ((d:Int)+1),.int .i64 (ai A:Nat)],.slice C n c,.func (.func g) #[] #[]] w fun r w'=>∃E ec,r=.returned (.slice E n ec)∧Hp w [.row E n ec 33 3 (ao NR.cells ((ll A d L φ X n 0).map nR))] w':=by
 have hh:=Hp.start w;have hXl:X.length=n:=by have:=hS.a6 NR.len ZC;simpa using this
 have hap:=cI A;have hap2:ai A≤n:=by
  rw [hn,dF];exact adj _ (cI _)
 have hcl:=fun w1 hb=>mV C n c (X.map nR) w1 (hS.ext hb) ZB;refine ae (N:=67) (l:=[.agg #[.int .i64 ((d:Int)+1),.int .i64 (ai A:Nat)],.slice C n c,.func (.func g) #[] #[]]) Tryz.func155 rfl rfl (by simp) ?_;refine bJ ?_;intro b3 w3 hh;refine aq (hcl _ hh.below) ak.out rfl ZC ?_;rintro e_ w14 ⟨A14,c14,rfl,hown_,hb_⟩;refine ⟨_,rfl, ?_⟩;replace hh:=hh.aE (x:=.row _ _ _ _ _ _) hb_ hown_;rw [show X.map nR=(ll A d L φ X 0 0).map nR by rw [Kj]] at hh;clear hcl;refine aj ?_;refine aD [8,9,10,11,12,17,18,19,20,21,22,23,24,25,26,27,28,29,30,31,32,33,34,35,36,37,38,39,40,41,42,43,44,45,46,47,48,49,50,51,52,53,54,55,56,57,58,59,60,61,62,63,64,65] 17
  (fun v w'=>∃F:Nat,F≤n∧v=.int .i64 F∧Hp w [.row A14 n c14 33 3 (ao NR.cells ((ll A d L φ X F 0).map nR)),.blk b3 184 [.int .i64 ((d:Int)+1),.int .i64 (ai A:Nat)] (0,0)] w')
  (fun v _=>n-(intOf v).toNat) ?_ ?_
 ·exact ⟨0,ZK _,rfl,hh⟩
 ·clear hh;rintro ρ' v w' ⟨F,hF,rfl,hh⟩;by_cases hlt:F<n
  ·have hcast:((F:Int)/((ai A:Nat):Int)) % ((d:Int)+1)=((F/ai A % (d+1):Nat):Int):=by norm_cast
   have hq0:(0:Int)≤(F:Int)/((ai A:Nat):Int):=Int.ediv_nonneg ZB ZB;by_cases h0:F/ai A % (d+1)=0
   ·obtain ⟨u0,hfF⟩:∃u0,u0=F % ai A:=⟨_,rfl⟩;obtain ⟨q,hqF⟩:∃q,q=F/ai A/(d+1):=⟨_,rfl⟩;have hf:u0<ai A:=by rw [hfF];exact aab _ hap
    have hFe:F=cf A d u0 0 q:=by rw [hfF,hqF,←h0,uW]
    have hq:q<ai B:=by
     rw [hqF,aa9,aaW (ace hap ZB)];rw [hn,dF,ai] at hlt
     calc F<ai A*((d+1)*ai B):=hlt
      _=ai B*(ai A*(d+1)):=by rw [←aaE,Z2]
    have hpl:∀i,i≤d→cf A d u0 i q<n:=fun i hi=>by rw [hn];exact nU hf hi hq
    have hpi:∀i,cf A d u0 i q=F+i*ai A:=fun i=>by rw [hFe];exact Jf A d u0 i q
    have hxl:(cO A d X u0 q).length=d+1:=by simp [cO]
    have hxz:∀y∈cO A d X u0 q,Sz k y:=fun y hy=>by
     obtain ⟨i,hi,rfl⟩:=ZU.1 hy;exact tj hx _
    obtain ⟨ad,hCA,hr⟩:=hS.at_ ZB;rw [hCA] at*;refine aj ?_;refine Tk ?_;refine cj ?_;refine cK ?_;refine ee 1 ?_;refine TJ ?_;refine cK ?_;refine ee 1 ?_;refine au ?_;intro f W hJ hV;have hb_5:=hJ.bl;obtain ⟨v25,v24,v23,v22,v21,v20,_⟩:=hV;replace hh:=hJ.hp;refine az (aH (aa v25 (aa v24 (aa v23 (aa v22 (aa v21 (aa v20 ay))))))) ?_;dsimp only [bf];clear hJ;refine aj ?_;replace hh:=hh.cq 33 3;refine a7 [9,10,30,31,32,33,34,35,36,37,38,39,40,41,42,43,44,45] 9 30
     (fun a v w'=>∃(i:Nat) (A':Option Addr) (c':Nat),i≤d+1∧v=.int .i64 i∧a=.slice A' i c'∧Hp w [.row A' i c' 33 3 (ao NR.cells (((cO A d X u0 q).take i).map nR)),.row A14 n c14 33 3 (ao NR.cells ((ll A d L φ X F 0).map nR)),.blk b3 184 [.int .i64 ((d:Int)+1),.int .i64 (ai A:Nat)] (0,0)] w')
     (fun _ v _=>d+1-(intOf v).toNat) ?_ ?_
    ·exact ⟨0,none,0,ZK _,rfl,rfl,hh⟩
    ·clear hh;rintro ρ2 a_ v w2 ⟨i,A',c',hi,rfl,rfl,hh⟩;by_cases hil:i<d+1
     ·obtain ⟨y,hy⟩:=ah (l:=cO A d X u0 q) (k:=i) ZB;have hyx:(X.map nR)[cf A d u0 i q]?=some (nR y):=by
       have h1:=hpl i ZB;unfold cO at hy;rw [ZW,aaP hil] at hy;have h2:(X[cf A d u0 i q]?).getD 0=y:=aau hy;rw [ZW,mb (show cf A d u0 i q<X.length by omega)];show some (nR (gY X _))=_;unfold gY;rw [h2]
      have hpn:=hpl i ZB;have hpq:=hpi i;obtain ⟨m,hm⟩:∃m,m=i*ai A:=⟨_,rfl⟩;have hmi:(i:Int)*((ai A:Nat):Int)=(m:Int):=by rw [hm];exact (aaA _ _).symm
      rw [←hm] at hpq;refine sr ?_;refine nC (aN (bX (cT (dP (eF (bX (k9 (sr (mI (aI (aN (bZ (mL (mL (mI (mI (te ?_)))))))))))))))));refine pF hh 2 ?_;refine mulC ?_;refine mN ?_;refine dt (k:=(cf A d u0 i q)) bj.out aC.size rfl rfl ZB ZB ZC ?_;refine bk (vs:=[_,_,_]) aC.out rfl ((hr.ext hh.below).recAt NR.len hyx) rfl ZC ?_;refine p6 ?_;intro b43 w43 hh;refine oM ?_;intro A44 c44 w44 hh;simp only [ZP,aaf] at hh;replace hh:=hh.sub (aan _ _);refine aj ?_;have e1:ao NR.cells (((cO A d X u0 q).take i).map nR)++[.bool (nR y).neg,.string (nR y).aW,.int .i64 (nR y).e]=ao NR.cells (((cO A d X u0 q).take (i+1)).map nR):=by rw [al hy,aaG,bp,aaj,aaC,rv];rfl
      rw [e1] at hh;refine ⟨⟨i+1,A44,c44,ZB,rfl,rfl,hh⟩,by show d+1-(i+1)<d+1-i;omega, ?_⟩;exact dh
     ·obtain rfl:i=d+1:=ZB;rw [ZO ZB] at hh;refine aj ?_;refine g6 (hg (cO A d X u0 q) A' c' _ (hT.hp hh) hxz (hh.ar (i:=0) rfl)) ak.out rfl rfl ZC ?_;rintro e_ w48 ⟨E,ec,rfl,h4⟩;refine ⟨_,rfl, ?_⟩;replace hh:=hh.join h4;clear h4;simp only [ZR,ZN] at hh;replace hh:=hh.sub (ZI _ (ZJ _ (ZI _ (ZI _ Z4))));have hφl:=hφ (cO A d X u0 q) hxl;refine aj ?_;refine aD [11,12,50,51,52,53,54,55,56,57,58,59,60,61,62,63,64] 50
       (fun v w'=>∃j:Nat,j≤L∧v=.int .i64 j∧Hp w [.row E L ec 33 3 (ao NR.cells ((φ (cO A d X u0 q)).map nR)),.row A14 n c14 33 3 (ao NR.cells ((ll A d L φ X F j).map nR)),.blk b3 184 [.int .i64 ((d:Int)+1),.int .i64 (ai A:Nat)] (0,0)] w')
       (fun v _=>L-(intOf v).toNat) ?_ ?_
      ·exact ⟨0,ZK _,rfl,hh⟩
      ·clear hh;rintro ρ3 v w3 ⟨j,hj,rfl,hh⟩;by_cases hjl:j<L
       ·obtain ⟨y,hy⟩:=ah (l:=φ (cO A d X u0 q)) (k:=j) ZB;have hyn:((φ (cO A d X u0 q)).map nR)[j]?=some (nR y):=by rw [ZW,hy];rfl
        have hpn:=hpl j ZB;have hpq:=hpi j;have hset:=Mw (φ:=φ) (X:=X) (q:=q) hf hjl (show j≤d by omega);rw [←hFe,show gY (φ (cO A d X u0 q)) j=y by unfold gY;rw [hy];rfl] at hset;obtain ⟨m,hm⟩:∃m,m=j*ai A:=⟨_,rfl⟩;have hmi:(j:Int)*((ai A:Nat):Int)=(m:Int):=by rw [hm];exact (aaA _ _).symm
        rw [←hm] at hpq;have hll:((ll A d L φ X F j).map nR).length=n:=by rw [ZY,jE];exact hXl
        generalize ll A d L φ X F j=S at*;generalize cf A d u0 j q=P at*;have hrl:=ff NR.len (S.map nR);obtain ⟨gr,rfl⟩:=hh.bL (i:=0) rfl ZB;obtain ⟨go,rfl⟩:=hh.bL (i:=1) rfl ZB;refine aj ?_;refine bk (vs:=[_,_,_]) aC.out rfl (hh.dy (f:=NR.cells) (x:=nR y) (l:=(φ (cO A d X u0 q)).map nR) (i:=0) rfl NR.len ZC hyn) rfl ZC ?_;refine x9 hh ?_;intro b12 w12 hh;refine aI ?_;refine gE hh 0 [_,_,_] ?_;intro ws hh;replace hh:Hp _ (.blk _ _ [_,_,_] _::_) _:=hh;refine aN (bZ (mL (mI (mI (te ?_)))));refine pF hh 3 ?_;refine mulC ?_;refine mN ?_;refine nB hh 0 [_,_,_] ?_;refine dN (k:=P) bj.out aC.size rfl rfl ZB ZB ZC ?_;refine bV hh (i:=2) (vs:=[_,_,_]) rfl rfl (eD rfl) rfl aC.out rfl ZB rfl ?_;intro ws hh;simp only [ZP,aaf] at hh;rw [show bO (ao NR.cells (S.map nR)) (P*3) [.bool (nR y).neg,.string (nR y).aW,.int .i64 (nR y).e]=ao NR.cells ((S.map nR).set P (nR y)) from ez NR.len ZB,←abr,hset] at hh;refine aj ?_;replace hh:=hh.sub (ZJ _ (ZI _ (ZI _ (ZI _ Z4))))
        refine ⟨⟨j+1,ZB,rfl,hh⟩,by show L-(j+1)<L-j;omega, ?_⟩;exact dh
       ·rw [Jq (show L≤j by omega)] at hh;refine aj ?_;replace hh:=hh.sub (ZJ _ (ZI _ (ZI _ Z4)));refine ⟨⟨F+1,ZB,rfl,hh⟩,by show n-(F+1)<n-F;omega, ?_⟩;exact dh
   ·rw [JA h0] at hh;refine aj ?_;refine Tk ?_;refine cj ?_;refine cK ?_;refine ee 1 ?_;refine TJ ?_;refine cK ?_;refine ee 1 ?_;refine au ?_;intro f W hJ hV;have hb_5:=hJ.bl;obtain ⟨v25,v24,v23,v22,v21,v20,_⟩:=hV;replace hh:=hJ.hp;refine az (aH (aa v25 (aa v24 (aa v23 (aa v22 (aa v21 (aa v20 ay))))))) ?_;dsimp only [bf];clear hJ;refine aj ?_;refine ⟨⟨F+1,ZB,rfl,hh⟩,by show n-(F+1)<n-F;omega, ?_⟩;exact dh
  ·obtain rfl:F=n:=ZB;refine aj ?_;exact ⟨_,_,rfl,hh.sub (ZI _ (aaJ _))⟩
def rQ (p:PX) (ds:List Int):List Int:=if ds.length=0 then yy p.v p.ts else ds
def XK (p:PX) (ds:List Int):List Nat:=(rQ p ds).map Int.toNat
def nT (p:PX) (b:List SR) (ds:List Int):Int:=if pG p b (rQ p ds)≠0 then pG p b (rQ p ds) else (jx p (cQ b)).1
theorem O8 {ns:List Nat}{i d:Nat} (h:ns[i]?=some d):ns.reverse=(ns.drop (i+1)).reverse++d::(ns.take i).reverse:=by
 have e:ns=ns.take i++d::ns.drop (i+1):=by rw [←gC h,aaL]
 conv=>lhs;rw [e]
 rw [acT,acj,aam]
 rfl
theorem Vu (ds:List Nat):X0 ds (uo [])=List.replicate (ai ds) 0:=wy _
theorem Rg {l:List TR}{i:Nat}{t:TR} (hl:∀t∈l,jL ds (jy t.m).reverse) (hr:xT l) (ht:l[i]?=some t):(X0 ds (uo (l.take i))).set (cU ds (jy t.m).reverse) t.c.d=X0 ds (uo (l.take (i+1))):=by
 have hok:=hl t (ZL ht);have hp:=iS hok;have h0:(X0 ds (uo (l.take i)))[cU ds (jy t.m).reverse]?=some 0:=by
  unfold X0;rw [mU _ hp];congr 1;unfold uo;rw [aaB,wc];refine pk fun s hs=>ZG fun e=> ?_;replace e:cU ds (jy s.m).reverse=cU ds (jy t.m).reverse:=e;have e2:(jy s.m).reverse=(jy t.m).reverse:=by rw [←ik (hl s (abw hs)),e,ik hok]
  have e3:s.m=t.m:=NU (List.reverse_inj.1 e2);obtain ⟨j,hj⟩:=aa4.1 hs;have hji:j<i:=by have:=(ZV.1 hj).1;rw [Z1] at this;omega
  rw [List.getElem?_take_of_lt hji] at hj;have h1:=(ZV.1 hj);have h2:=(ZV.1 ht);have h3:=List.pairwise_iff_getElem.1 hr j i h1.1 h2.1 hji;rw [h1.2,h2.2,e3,jT] at h3
  cases h3
 have h1:=yQ (v:=t.c.d) (show (jO (ai ds) ((uo (l.take i)).map fun (q:List Nat×Dyadic)=>(cU ds q.1,q.2)))[cU ds (jy t.m).reverse]?=some 0 from h0);rw [abU] at h1;show (jO (ai ds) ((uo (l.take i)).map fun (q:List Nat×Dyadic)=>(cU ds q.1,q.2))).set _ _=_;rw [h1,al ht];unfold X0 uo;rw [aaG,aaG]
 rfl
set_option maxRecDepth 10000 in
theorem yP (p:PX) (L:Option Addr) (n c:Nat) (b:List SR) (M:Option Addr) (m mc:Nat) (ds:List Int) (k:Nat) (w:World) (hT:dO w) (hp:p.at_ w) (lp:p.iO k) (hB:Sl w L n 6 (ao SR.cells b)) (hb:∀s∈b,s.fin k) (hn:n≤1000000) (hD:Sl w M m 1 (aZ ds)) (hm:m≤1000000) (hmc:m≤mc) (hk:k≤1000)
  (hgr:pG p b (rQ p ds)=0→jr (k+k+16394) (hH p.v p.ts) (k+1)≤440000):
  Calls Tryz.prog 106 #[.agg #[.int .i64 p.v,.slice p.A p.n p.c],.slice L n c,.slice M m mc] w fun r w'=>∃g:FX,Out (nT p b ds) (XK p ds) (E6 (XK p ds) (jx p (cQ b)).2) g∧r=.returned (.tuple #[.agg #[.slice g.A g.n g.a,.slice g.B g.m g.b],.int .i64 (nT p b ds)])∧Hp w [g.jM,g.jP] w':=by
 have hh:=Hp.start w;have hbl:b.length=n:=hB.a6 SR.len ZC;have hdl:ds.length=m:=by have:=hD.1;rw [bP] at this;omega
 have hok:∀s∈b,s.ok:=fun s hs=>⟨(hb s hs).1.ok,(hb s hs).2.ok⟩;have hDd:rQ p ds=if m=0 then yy p.v p.ts else ds:=by unfold rQ;rw [hdl]
 have hoN:XK p ds=(rQ p ds).map Int.toNat:=rfl;have hoE:nT p b ds=if pG p b (rQ p ds)≠0 then pG p b (rQ p ds) else (jx p (cQ b)).1:=rfl
 rw [hoN,hoE];clear hoN hoE;generalize rQ p ds=D at*;refine ae (N:=94) (l:=[.agg #[.int .i64 p.v,.slice p.A p.n p.c],.slice L n c,.slice M m mc]) Tryz.func106 rfl rfl (by simp) ?_;refine sr ?_;refine BL hh [_,_] ?_;intro b3 w3 hh;refine x9 hh ?_;intro b6 w6 hh;refine aI (aN ?_);refine zl [2,18,19,20,21,22] 2
  (fun v w'=>∃(M2:Option Addr) (m2 mc2:Nat) (R:List HE),v=.slice M2 m2 mc2∧m2≤mc2∧m2≤1000000∧D.length=m2∧(∀(H:List HE) (w1:World),Hp w (H++R) w1→Sl w1 M2 m2 1 (aZ D))∧Hp w (.blk b6 25 [.slice none 0 0,.slice none 0 0] (0,0)::.blk b3 52 [.int .i64 p.v,.slice p.A p.n p.c] (0,0)::R) w') ?_ ?_
 ·by_cases hm0:m=0
  ·subst hm0;rw [ZH rfl] at hDd;have hdg:=fun w1 hT1 hb=>tP p k w1 hT1 (hp.ext hb) lp;rw [←hDd] at hdg;have hl4:D.length≤1000000:=by
    rw [hDd];unfold yy;split
    ·rename_i hpe;have:=iQ.1 (eC hpe).1;rw [gK];omega
    ·exact ZK _
   refine aj ?_;refine aq (hdg _ (hT.hp hh) hh.below) ak.out rfl ZC ?_;rintro e_ w22 ⟨G,gc,rfl,h4⟩;refine ⟨_,rfl, ?_⟩;have hgc:D.length≤gc:=h4.gO (i:=0) rfl;replace hh:=hh.join h4;clear h4;simp only [ZR,ZN] at hh;refine aj ?_;replace hh:=hh.perm (aaQ (l₁:=[_,_]));simp only [ZR,ZN] at hh;replace hh:=hh.perm (aaQ (l₁:=[_,_]));simp only [ZR,ZN] at hh;refine ⟨⟨G,D.length,gc,_,rfl,hgc,hl4,rfl,fun H w1 h1=>gW (h1.own (.row G D.length gc 3 1 (aZ D)) (aaD _ ZQ)),hh⟩, ?_⟩;exact PE
  ·rw [ZG hm0] at hDd;refine aj ?_;refine ⟨⟨M,m,mc,[],rfl,hmc,hm,by rw [hDd];exact hdl,fun H w1 h1=>by rw [hDd];exact hD.ext h1.below,hh⟩, ?_⟩;exact PE
 ·skip;clear hh hDd hdl hD hm hmc;rintro ρ' v w' ⟨M2,m2,mc2,R,rfl,hmc2,hm2,hDl,hrd,hh⟩;have hfi:=fun w1 hT1 hb1 hd=>vn p L n c b M2 m2 mc2 D k w1 hT1 (hp.ext hb1) lp (hB.ext hb1) hok hn hd hm2;by_cases hE:pG p b D≠0
  ·rw [ZH hE];generalize pG p b D=E at*;refine aj ?_;refine a0 hh (hfi _ (hT.hp hh) hh.below (hrd [_,_] _ hh)) rfl ?_;intro w26 hh;refine bJ ?_;intro ws hh;refine rf ?_;exact ⟨FX.nil,Out.err hE,rfl,(hh.sub (aaJ _)).Pz⟩
  ·rw [ZG hE];have hE0:pG p b D=0:=ZB;obtain ⟨hnat,hF⟩:=UT hE0;rw [hE0] at hfi;have hpe:=hF.e;have hn0:=hF.pos;have hn12:=hF.LR;have hnl:=hF.nl;have hlow:=hF.low;have hmost:=hF.most;have hgr2:=hgr hE0;obtain ⟨_,o2,o3⟩:=BD hpe;have hwi:=fun w1 hT1 hb1=>AB p L n c b k (hH p.v p.ts) w1 hT1 (hp.ext hb1) lp (hB.ext hb1) hb (by rw [hF.v,hbl]) ZB ZB hk (by rw [hF.G5];exact hbl) (fun i d hd=>⟨(o3 i d hd).1,(o3 i d hd).2.1⟩) hgr2;have hsp:=Ks hF lp.ok hb hk hgr2;clear hgr hgr2 o2 o3 hfi;have hfi:=fun w1 hT1 hb1 hd=>vn p L n c b M2 m2 mc2 D k w1 hT1 (hp.ext hb1) lp (hB.ext hb1) hok hn hd hm2;rw [hE0] at hfi;clear hE hE0;have hcnt:gU 1 D=((ai (D.map Int.toNat):Nat):Int):=by
    have h8:=j7 (D.map Int.toNat) 1 (ZM _) ZC hlow;rw [←hnat,abS,ZH hmost] at h8;exact h8
   have hco:=fun w1 hd=>fD M2 m2 mc2 D w1 hd hm2;rw [hcnt] at hco;have hcl:=fun w1 hd=>nc M2 m2 mc2 D w1 hd hm2;have hm2n:m2=n:=by rw [←hDl,←hbl,←hnl,ZY]
   generalize hns:D.map Int.toNat=ns at*;generalize (jx p (cQ b)).1=E at*;generalize (jx p (cQ b)).2=S at*;have hN0:=cI ns;refine aj ?_;refine a0 hh (hfi _ (hT.hp hh) hh.below (hrd [_,_] _ hh)) rfl ?_;intro w26 hh;refine aj ?_;refine aq (hwi _ (hT.hp hh) hh.below) ak.out rfl ZC ?_;rintro e_ w34 ⟨q,oq,rfl,h4⟩;refine ⟨_,rfl, ?_⟩;replace hh:=hh.join h4;clear h4;simp only [ZR,ZN] at hh;replace hh:=show Hp w (.row q.A q.n q.c 95 4 (ao TR.cells q.ts)::_) _ from hh;by_cases hE2:E≠0
   ·refine kb ?_;intro b9 w9 hh ws hh ws hh;refine pP ?_;exact ⟨FX.nil,Out.err hE2,rfl,(hh.sub (aaJ _)).Pz⟩
   ·have hE0:E=0:=ZB;subst hE0;obtain ⟨hso,hsr⟩:=hsp rfl;have et:q.ts=S:=oq.t0;rw [et] at hh;clear oq et;generalize q.v=qv at*;generalize q.A=qA at*;generalize q.n=qn at*;generalize q.c=qc at*;have hSl:S.length=qn:=(hh.ar (i:=0) rfl).a6 TR.len ZC;have hSn:=hso.len;obtain ⟨_,_,hSm,hSc⟩:=eC hso.e;refine bU ?_;intro b9 w9 hh ws hh;refine aq (hcl _ (hrd [_,_,_,_] _ hh)) ak.out rfl ZC ?_;rintro e_ w42 ⟨A42,c42,rfl,hown_,hb_⟩;refine ⟨_,rfl, ?_⟩;replace hh:=hh.aE (x:=.row _ _ _ _ _ _) hb_ hown_;refine mL ?_;refine a0 hh (hco _ (hrd [_,_,_,_,_] _ hh)) rfl ?_;intro w44 hh;refine fT (n:=(ai ns)) hh rfl rfl ZB ZB bj.out aC.out rfl ZB ZB ZC ?_;intro b45 w45 hh;refine bU ?_;intro b11 w11 hh ws hh;rw [th,←bT ns,←Vu ns.reverse,bT] at hh;refine aD [13,14,15,16,50,51,52,53,54,55,56,57,58,59,60,61,62,63,64,65,66,67,68,69,70,71,72,73,74,75,76,77,78,79] 50
     (fun v w'=>∃i:Nat,i≤qn∧v=.int .i64 i∧Hp w (.blk b11 25 [.slice A42 m2 c42,.slice (some ⟨b45,0,none⟩) (ai ns) (ai ns)] (0,0)::.row (some ⟨b45,0,none⟩) (ai ns) (ai ns) 33 3 (ao NR.cells ((X0 ns.reverse (uo (S.take i))).map nR))::.row A42 m2 c42 3 1 (aZ D)::.blk b9 52 [.int .i64 qv,.slice qA qn qc] (0,0)::.row qA qn qc 95 4 (ao TR.cells S)::.blk b6 25 [.slice none 0 0,.slice none 0 0] (0,0)::.blk b3 52 [.int .i64 p.v,.slice p.A p.n p.c] (0,0)::R) w')
     (fun v _=>qn-(intOf v).toNat) ?_ ?_
    ·exact ⟨0,ZK _,rfl,hh⟩
    ·clear hh;rintro ρ2 v w2 ⟨i,hi,rfl,hh⟩;by_cases hlt:i<qn
     ·obtain ⟨x,hx⟩:=ah (l:=S) (k:=i) ZB;have hxm:=ZL hx;have hxo:=hsr x hxm;have hx2:=hSm x hxm;unfold hQ at hx2;rw [Z7,aad] at hx2;have hxs:x.m.size=n:=ZB;have hxz:=hso.sz x hxm;have hxc:x.c=nR x.c.d:=hSc.nf x hxm;have hex:j9 x.m.data.toList=aJ (jy x.m):=by rw [mz hx2.1,Kn]
      have hesl:(jy x.m).length=n:=by rw [CK];exact hxs
      have hel:(j9 x.m.data.toList).length=n:=by rw [hex,bK];exact hesl
      have hset:=Rg hsr hSc.uM hx;have hX0l:((X0 ns.reverse (uo (S.take i))).map nR).length=ai ns:=by rw [ZY];unfold X0;rw [iJ,bT]
      have hcell:ao TR.cells S=ao TR.cells S:=rfl;have hokat:∀(j d r:Nat),ns[j]?=some d→(jy x.m)[j]?=some r→r≤d:=fun j d r hd hr=>by
       have hj:=(ZV.1 hd).1;refine ((iq _ _).1 hxo).2 (n-1-j) d r ?_ ?_
       ·rw [aaH ZB,show ns.length-1-(n-1-j)=j by omega];exact hd
       ·rw [aaH ZB,show (jy x.m).length-1-(n-1-j)=j by omega];exact hr
      obtain ⟨gq,rfl⟩:=hh.bL (i:=4) rfl ZB;refine aj ?_;refine bk (vs:=[_,_,_,_]) aC.out rfl (hh.dy (f:=TR.cells) (x:=x) (l:=S) (i:=4) rfl TR.len ZC hx) rfl ZC ?_;refine bU ?_;intro b13 w13 hh ws hh;refine aq (jS x.m _ hxz) ak.out rfl ZC ?_;rintro e_ w56 ⟨A56,c56,rfl,hown_,hb_⟩;refine ⟨_,rfl, ?_⟩;replace hh:=hh.aE (x:=.row _ _ _ _ _ _) hb_ hown_;rw [hel,hex] at hh;rw [hel];refine aj ?_;refine a7 [14,15,16,58,59,60,61,62,63,64,65,66,67,68,69,70,71,72] 14 58
       (fun a v w'=>∃(j z:Nat),j≤n∧v=.int .i64 j∧a=.int .i64 z∧z=cU (ns.take j).reverse ((jy x.m).take j).reverse∧z<ai (ns.take j)∧Hp w (.row A56 n c56 3 1 (aZ (aJ (jy x.m)))::.blk b13 95 [.string x.m,.bool x.c.neg,.string x.c.aW,.int .i64 x.c.e] (0,0)::.blk b11 25 [.slice A42 m2 c42,.slice (some ⟨b45,0,none⟩) (ai ns) (ai ns)] (0,0)::.row (some ⟨b45,0,none⟩) (ai ns) (ai ns) 33 3 (ao NR.cells ((X0 ns.reverse (uo (S.take i))).map nR))::.row A42 m2 c42 3 1 (aZ D)::.blk b9 52 [.int .i64 qv,.slice (some ⟨gq,0,none⟩) qn qc] (0,0)::.row (some ⟨gq,0,none⟩) qn qc 95 4 (ao TR.cells S)::.blk b6 25 [.slice none 0 0,.slice none 0 0] (0,0)::.blk b3 52 [.int .i64 p.v,.slice p.A p.n p.c] (0,0)::R) w')
       (fun _ v _=>n-(intOf v).toNat) ?_ ?_
      ·exact KS
      ·clear hh;rintro ρ3 a_ v w3 ⟨j,z,hj,rfl,rfl,hz,hz2,hh⟩;by_cases hjn:j<n
       ·obtain ⟨d,hd⟩:=ah (l:=ns) (k:=j) ZB;obtain ⟨r,hr⟩:=ah (l:=jy x.m) (k:=j) ZB;have hrd2:=hokat j d r hd hr;have hd7:=hlow d (ZL hd);have hgD:(aZ D)[j]?=some (.int .i64 (d:Int)):=by rw [hnat];exact bB (ct hd)
        have hgE:=bB (ct hr);have hst:=vu hd hr;have hcs:=xO hd;rw [bT,bT] at hcs;rw [←hz] at hst;have hct:=ew ns (j+1);have hnew:r+(d+1)*z<(d+1)*ai (ns.take j):=by
         have:(d+1)*(z+1)≤(d+1)*ai (ns.take j):=aah _ hz2;rw [abb] at this;omega
        have hpr:(z:Int)*((d:Int)+1)=(((d+1)*z:Nat):Int):=by rw [Z2,aaA,aa3];rfl
        have hDs:=hrd [_,_,_,_,_,_,_,_,_] _ hh;obtain ⟨ad,hMe,hsr2⟩:=hDs.at_ ZB;have pN:Value.slice M2 m2 mc2=.slice (some ad) m2 mc2:=by rw [hMe]
        have hel2:(aZ (aJ (jy x.m))).length=n:=by rw [bP,bK];exact hesl
        obtain ⟨gx,rfl⟩:=hh.bL (i:=0) rfl ZB;refine aj ?_;refine lj ?_;refine aj ?_;refine rM ?_;refine bF aC.out rfl (hsr2.mX hgD) ZC ?_;refine aj ?_;rw [hpr];refine ⟨⟨j+1,r+(d+1)*z,ZB,rfl, ?_,hst.symm,ZB,hh⟩,by show n-(j+1)<n-j;omega, ?_⟩
        ·show Value.int IntKind.i64 ((((d+1)*z:Nat):Int)+(r:Int))=_;rw [show (((d+1)*z:Nat):Int)+(r:Int)=((r+(d+1)*z:Nat):Int) by omega]
        ·exact dh
       ·obtain rfl:j=n:=ZB;rw [ZO ZB,ZO ZB] at hz;rw [ZO ZB] at hz2;rw [←hz] at hset;generalize X0 ns.reverse (uo (S.take i))=X at*;have hrl:=ff NR.len (X.map nR);refine aj ?_;refine G9 ?_;intro ws hh;simp only [ZP,aaf] at hh;rw [hxc,show bO (ao NR.cells (X.map nR)) (z*3) [.bool (nR x.c.d).neg,.string (nR x.c.d).aW,.int .i64 (nR x.c.d).e]=ao NR.cells ((X.map nR).set z (nR x.c.d)) from ez NR.len ZB,←abr,hset] at hh;refine aj ?_;replace hh:=hh.sub (ZJ _ (ZJ _ (ZI _ (ZI _ (ZI _ (ZI _ (ZI _ (ZI _ (ZI _ (aay _))))))))));refine ⟨⟨i+1,ZB,rfl,hh⟩,by show qn-(i+1)<qn-i;omega, ?_⟩;exact dh
     ·obtain rfl:i=qn:=ZB;rw [ZO ZB,show X0 ns.reverse (uo S)=rq ns.reverse (uo S) 0 from rfl] at hh;have hoff:=Nv hsr;have hXz:=Ng (VI (ds:=ns.reverse) hso.ok) (fun d hd=>hlow d (abX.1 hd));have hnr:ns.reverse.length=n:=by rw [Z6];omega
      refine aj ?_;replace hh:=hh.sub (ZI _ (ZI _ (ZI _ (ZJ _ (ZJ _ (ZI _ (ZI _ (aay _))))))));refine aD [17,82,83,84,85,86,87,88,89,90,91,92] 82
       (fun v w'=>∃(j:Nat) (A:Option Addr) (ac:Nat),j≤n∧v=.int .i64 j∧Hp w (.blk b11 25 [.slice A42 m2 c42,.slice A (ai ns) ac] (0,0)::.row A (ai ns) ac 33 3 (ao NR.cells ((rq ns.reverse (uo S) j).map nR))::.row A42 m2 c42 3 1 (aZ D)::.blk b6 25 [.slice none 0 0,.slice none 0 0] (0,0)::.blk b3 52 [.int .i64 p.v,.slice p.A p.n p.c] (0,0)::R) w')
       (fun v _=>n-(intOf v).toNat) ?_ ?_
      ·exact ⟨0,_,_,ZK _,rfl,hh⟩
      ·clear hh;rintro ρ4 v w4 ⟨j,A,ac,hj,rfl,hh⟩;by_cases hjn:j<n
       ·obtain ⟨d,hd⟩:=ah (l:=ns) (k:=j) ZB;have hd7:=hlow d (ZL hd);have hrm:=O8 hd;have hol:(rq ns.reverse (uo S) j).length=ai ns:=by rw [Cy,bT]
        have hof:=fun w1 hs=>Be M2 m2 mc2 j d ns w1 (by rw [←hnat];exact hs) hmc2 ZB hd hlow hmost;have hcn:ai ns=ai ((ns.drop (j+1)).reverse++d::(ns.take j).reverse):=by rw [←hrm,bT]
        have hli:=fun w1 hT1 hS1=>C7 156 (ns.drop (j+1)).reverse (ns.take j).reverse d (d+1) (dK d (gi d 1 1)) A (ai ns) ac (440000+S.length+520*j) (rq ns.reverse (uo S) j) w1 hT1 hS1 hcn hmost (ZM _) hd7 (hXz j) (fun Y E ec w2 hT2 hy hs=>BF E (d+1) ec d Y _ w2 hT2 hs rfl hd7 hy ZB) (fun Y _=>by simp [dK]);have hM:=Vk (M:=gi d 1 1) (A:=(ns.drop (j+1)).reverse) (B:=(ns.take j).reverse) (X:=rq ns.reverse (uo S) j) (hol.trans hcn);have hsu:=s8 ns.reverse (uo S) j;have hgd:ns.reverse.getD (ns.reverse.length-1-j) 0=d:=by
         rw [aaK,aaH ZB,show ns.length-1-(ns.reverse.length-1-j)=j by omega,hd]
         rfl
        rw [hgd,show ns.reverse.length-1-j=(ns.drop (j+1)).reverse.length by rw [Z6,Z6,aaU];omega] at hsu;rw [hol,←hrm,←hsu] at hM;rw [hM,bT] at hli;clear hM hsu hgd hcn;refine aj ?_;refine aw 5 [[(2,none)],[(17,none)],[(85,some 0),(86,some 1)],[(11,none)],[(88,some 3)]] [(4,89),(3,88),(2,87),(1,86),(0,85)] hh mixed ZD ?_;refine dR ?_;refine cj ?_;refine dC (fun _ hj=>hof _ (hrd [_,_,_,_,_] _ hj.hp)) ?_;refine cK ?_;refine ee 0 ?_;refine au ?_;intro f W hJ hV;have hb_24:=hJ.bl;obtain ⟨v89,v88,v87,v86,v85,_⟩:=hV;replace hh:=hJ.hp;refine az (aH (aa v89 (aa v88 (aa v87 (aa v86 (aa v85 ay)))))) ?_;dsimp only [bf];clear hJ;refine aq (hli _ (hT.hp hh) (hh.ar (i:=1) rfl)) ak.out rfl ZC ?_;rintro e_ w90 ⟨E,ec,rfl,h4⟩;refine ⟨_,rfl, ?_⟩;replace hh:=hh.join h4;clear h4;simp only [ZR,ZN] at hh;refine bJ ?_;intro ws hh;replace hh:=hh.sub (ZI _ (ZI _ (ZJ _ (ZI _ (ZI _ (ZI _ (aay _)))))))
        replace hh:=hh.perm (aaQ (l₁:=[_]));simp only [ZR,ZN] at hh;refine ⟨⟨j+1,E,ec,ZB,rfl,hh⟩,by show n-(j+1)<n-j;omega, ?_⟩;exact dh
       ·obtain rfl:j=n:=ZB;rw [hnl,hbl] at hoff;rw [hoff] at hh;refine bJ ?_;intro ws hh;refine Nh ?_;exact ⟨⟨A42,m2,c42,A,ai ns,ac,D,(E6 ns S).map nR⟩,⟨hnat,rfl,by show m2≤100000;omega,by show ai ns≤1000000;omega⟩,rfl,hh.sub (.cons _ (.cons_cons _ (.cons_cons _ (aaJ _))))⟩
variable {cs:List Value}{g':FX}
def JP (rest:List Value) (base:Nat) (t:TypeId) (n sz:Nat) (cs:List Value):VP:=fun v W=>∃A c,v=.agg (.slice A n c::rest).toArray∧W.ownsRow base t sz (.slice A n c) n cs
theorem JP.ext {rest:List Value}{t:TypeId}{sz:Nat} (v:Value) (w w':World) (h:JP rest base t n sz cs v w) (hb:Below w.heap.size w w'):JP rest base t n sz cs v w':=let ⟨A,c,h1,h2⟩:=h;⟨A,c,h1,jU h2 hb⟩
def pU (p:PX) (b:List SR):FX:=rn (hH p.v p.ts) (E6 (hH p.v p.ts) (jx p (cQ b)).2)
structure Ju (D:List Nat) (X:List Dyadic):Prop where
 d12:D.length≤12
 d127:∀d∈D,d≤127
 Vx:ai D≤200
 lx:X.length=ai D
 zx:∀x∈X,Sz 90000 x
def oE (p q:PX) (b:List SR):CV:=⟨b.map SR.f,maxD [pU p b,pU q b],kj (maxD [pU p b,pU q b]) (pU p b),kj (maxD [pU p b,pU q b]) (pU q b)⟩
def sO (p q:PX) (b:List SR):Int:=if nT p b []≠0 then nT p b [] else if nT q b []≠0 then nT q b [] else cg [pU p b,pU q b]
theorem FX.is.LC {f:FX}{D:List Nat} (h:f.is D X) (ha:f.at_ w):f.key=(rn D X).key:=by
 unfold FX.key rn;rw [h.ds,h.cs,(h.key ha).1]
theorem wJ {f g f':FX} (h1:f.key=f'.key) (h2:g.key=g'.key):cg [f,g]=cg [f',g']∧maxD [f,g]=maxD [f',g']∧∀D,kj D f=kj D f'∧kj D g=kj D g':=by
 obtain ⟨_,a2,a3,a4⟩:=Nr (fs:=[f,g]) (gs:=[f',g']) (by simp [h1,h2]);refine ⟨a2,a3,fun D=> ?_⟩;have:=a4 D;simp only [aaj,aaC,List.cons.injEq,and_true] at this;exact this
theorem DR (p q:PX) (L:Option Addr) (n c:Nat) (b:List SR) (k:Nat) (w:World) (hT:dO w) (hp:p.at_ w) (lp:p.iO k) (hq:q.at_ w) (lq:q.iO k) (hB:Sl w L n 6 (ao SR.cells b)) (hb:∀s∈b,s.fin k) (hn:n≤1000000) (hk:k≤1000)
  (hgp:pG p b (rQ p [])=0→jr (k+k+16394) (hH p.v p.ts) (k+1)≤440000) (hgq:pG q b (rQ q [])=0→jr (k+k+16394) (hH q.v q.ts) (k+1)≤440000)
  (fp:nT p b []=0→Ju (pU p b).ns ((pU p b).cs.map NR.d)) (fq:nT q b []=0→Ju (pU q b).ns ((pU q b).cs.map NR.d)):
  Calls Tryz.prog 57 #[.agg #[.int .i64 p.v,.slice p.A p.n p.c],.agg #[.int .i64 q.v,.slice q.A q.n q.c],.slice L n c] w fun r w'=>∃(x:CX) (R:List HE),r=.returned (.tuple #[.agg x.cells.toArray,.int .i64 (sO p q b)])∧(sO p q b=0→x.v=oE p q b∧x.fit∧∀y∈x.rows,y∈R)∧Hp w R w':=by
 have hh:=Hp.start w;have hof1:=fun w1 hT1 hb1=>yP p L n c b none 0 0 [] k w1 hT1 (hp.ext hb1) lp (hB.ext hb1) hb hn (Sl.nil _ _ _) ZC (ZM _) hk hgp;replace hof1:∀w1,dO w1→Below w.heap.size w w1→Calls Tryz.prog 106 #[.agg #[.int .i64 p.v,.slice p.A p.n p.c],.slice L n c,.slice none 0 0] w1 fun r w'=>∃g:FX,Out (nT p b []) (hH p.v p.ts) (E6 (hH p.v p.ts) (jx p (cQ b)).2) g∧r=.returned (.tuple #[.agg #[.slice g.A g.n g.a,.slice g.B g.m g.b],.int .i64 (nT p b [])])∧Hp w1 [g.jM,g.jP] w':=hof1;have hof2:=fun w1 hT1 hb1=>yP q L n c b none 0 0 [] k w1 hT1 (hq.ext hb1) lq (hB.ext hb1) hb hn (Sl.nil _ _ _) ZC (ZM _) hk hgq;replace hof2:∀w1,dO w1→Below w.heap.size w w1→Calls Tryz.prog 106 #[.agg #[.int .i64 q.v,.slice q.A q.n q.c],.slice L n c,.slice none 0 0] w1 fun r w'=>∃g:FX,Out (nT q b []) (hH q.v q.ts) (E6 (hH q.v q.ts) (jx q (cQ b)).2) g∧r=.returned (.tuple #[.agg #[.slice g.A g.n g.a,.slice g.B g.m g.b],.int .i64 (nT q b [])])∧Hp w1 [g.jM,g.jP] w':=hof2;have hok:∀s∈b,s.ok:=fun s hs=>⟨(hb s hs).1.ok,(hb s hs).2.ok⟩;have hfo:=fun w1 hT1 hb1=>lz L n c b w1 hT1 (hB.ext hb1) hok hn
 have nsp:(pU p b).ns=hH p.v p.ts:=uE _;have nsq:(pU q b).ns=hH q.v q.ts:=uE _;have csp:(pU p b).cs.map NR.d=E6 (hH p.v p.ts) (jx p (cQ b)).2:=by unfold pU rn;rw [aaB];exact (abj fun y _=>bE y).trans (List.map_id _)
 have csq:(pU q b).cs.map NR.d=E6 (hH q.v q.ts) (jx q (cQ b)).2:=by unfold pU rn;rw [aaB];exact (abj fun y _=>bE y).trans (List.map_id _)
 rw [nsp,csp] at fp;rw [nsq,csq] at fq;clear nsp nsq csp csq;have eP:pU p b=rn (hH p.v p.ts) (E6 (hH p.v p.ts) (jx p (cQ b)).2):=rfl;have eQ:pU q b=rn (hH q.v q.ts) (E6 (hH q.v q.ts) (jx q (cQ b)).2):=rfl;unfold oE sO;rw [eP,eQ];clear eP eQ;generalize E6 (hH p.v p.ts) (jx p (cQ b)).2=X at*;generalize E6 (hH q.v q.ts) (jx q (cQ b)).2=Y at*;generalize hH p.v p.ts=DP at*;generalize hH q.v q.ts=DQ at*;generalize nT p b []=E1 at*;generalize nT q b []=E2 at*;by_cases hE1:E1≠0
 ·rw [ZH hE1];refine Oe ?_;refine kb ?_;intro b3 w3 hh b4 w4 hh b6 w6 hh;refine aq (hof1 _ (hT.hp hh) hh.below) ak.out rfl ZC ?_;rintro e_ w16 ⟨f,o1,rfl,h3⟩;refine ⟨_,rfl, ?_⟩;replace hh:=hh.join h3;simp only [ZR,ZN] at hh;clear h3;refine kb ?_;intro b8 w8 hh ws hh ws hh;refine Cw (bH rfl (bG (vs:=[_,_,_,_,_]) aC.out (hh.aK (i:=3) (n:=5) rfl rfl) rfl) (dL (ep rfl) cV)) ?_;exact ⟨⟨none,0,0,FX.nil,FX.nil,⟨[],[],[],[]⟩⟩,_,rfl,fun h=>absurd h hE1,hh⟩
 ·rw [ZG hE1];obtain rfl:E1=0:=abh.1 hE1;by_cases hE2:E2≠0
  ·rw [ZH hE2];refine Oe ?_;refine kb ?_;intro b3 w3 hh b4 w4 hh b6 w6 hh;refine aq (hof1 _ (hT.hp hh) hh.below) ak.out rfl ZC ?_;rintro e_ w16 ⟨f,o1,rfl,h3⟩;refine ⟨_,rfl, ?_⟩;replace hh:=hh.join h3;simp only [ZR,ZN] at hh;clear h3;refine bU ?_;intro b8 w8 hh ws hh;refine aq (hof2 _ (hT.hp hh) hh.below) ak.out rfl ZC ?_;rintro e_ w26 ⟨g,o2,rfl,h3⟩;refine ⟨_,rfl, ?_⟩;replace hh:=hh.join h3;simp only [ZR,ZN] at hh;clear h3;refine kb ?_;intro b10 w10 hh ws hh ws hh;refine Cw (bH rfl (bG (vs:=[_,_,_,_,_]) aC.out (hh.aK (i:=6) (n:=5) rfl rfl) rfl) (dL (ep rfl) cV)) ?_;exact ⟨⟨none,0,0,FX.nil,FX.nil,⟨[],[],[],[]⟩⟩,_,rfl,fun h=>absurd h hE2,hh⟩
  ·rw [ZG hE2];obtain rfl:E2=0:=abh.1 hE2;replace fp:=fp rfl;replace fq:=fq rfl;refine Oe ?_;refine kb ?_;intro b3 w3 hh b4 w4 hh b6 w6 hh;refine aq (hof1 _ (hT.hp hh) hh.below) ak.out rfl ZC ?_;rintro e_ w16 ⟨f,o1,rfl,h3⟩;refine ⟨_,rfl, ?_⟩;replace hh:=hh.join h3;simp only [ZR,ZN] at hh;clear h3;refine bU ?_;intro b8 w8 hh ws hh;refine aq (hof2 _ (hT.hp hh) hh.below) ak.out rfl ZC ?_;rintro e_ w26 ⟨g,o2,rfl,h3⟩;refine ⟨_,rfl, ?_⟩;replace hh:=hh.join h3;simp only [ZR,ZN] at hh;clear h3;have fat:=(FX.at_.mk (hh.ar (i:=4) rfl) (hh.ar (i:=3) rfl):f.at_ _);have gat:=(FX.at_.mk (hh.ar (i:=1) rfl) (hh.ar (i:=0) rfl):g.at_ _);have fis:f.is DP X:=⟨o1.ds,o1.cs⟩;have gis:g.is DQ Y:=⟨o2.ds,o2.cs⟩;have hp1:=fp.Vx;have hq1:=fq.Vx;have hp2:=fp.lx;have hq2:=fq.lx;have flim:=fis.iO fat fp.d12 fp.lx ZB fp.zx ZC;have glim:=gis.iO gat fq.d12 fq.lx ZB fq.zx ZC;have fm:=(fis.key fat).2;have gm:=(gis.key gat).2;have hboth:=fun w1 hT1 (h1:f.at_ w1) (h2:g.at_ w1)=>HC f g 90000 w1 hT1 h1 h2 flim glim ZB ZB ZC;obtain ⟨k1,k2,k3⟩:=wJ (fis.LC fat) (gis.LC gat)
   rw [k1,k2,(k3 _).1,(k3 _).2] at hboth;generalize cg [rn DP X,rn DQ Y]=E at*;generalize maxD [rn DP X,rn DQ Y]=D at*;generalize kj D (rn DP X)=X2 at*;generalize kj D (rn DQ Y)=Y2 at*;refine bU ?_;intro b10 w10 hh ws hh;refine aq (hboth _ (hT.hp hh) ⟨hh.ar (i:=5) rfl,hh.ar (i:=4) rfl⟩ ⟨hh.ar (i:=2) rfl,hh.ar (i:=1) rfl⟩) ak.out rfl ZC ?_;rintro e_ w36 ⟨x,y,ox,oy,rfl,h3⟩;refine ⟨_,rfl, ?_⟩;replace hh:=hh.join h3;simp only [ZR,ZN] at hh;clear h3;refine xQ ?_;intro b11 w11 hh b12 w12 hh ws hh ws hh;refine cX [] [5] [0,1,0,0,15,0,31,127] 6 [[(2,none)],[(40,some 0)],[(11,none)],[(12,none)],[(41,some 1),(42,some 2),(43,some 3)],[(9,none)]] [(5,45),(4,44),(3,43),(2,42),(1,41),(0,40)] hh mixed ZD dk rfl (by repeat (first|exact bW|refine bA ?_|refine bY ?_)) ?_;refine dR ?_;refine aM (i:=1) (qg ws.heap.size 35 n 6 (ao SR.cells (b.map SR.f))) (qg.ext) ?_ ?_
   ·intro ρ1 w1 hj hR;exact bI rfl (a8 ak.out (av hR.1 bh)) (hfo w1 (hT.hp hj.hp) hj.hp.below) (fun _ _ ⟨A,c,hq,ho,hb⟩=>⟨_,hq,hb,A,c,rfl,ix ho hj.bl.size⟩)
   refine df 1 [_,_] ?_;refine df 0 [_,_] ?_;refine aM (i:=4) (JP [.slice x.A x.n x.a,.slice x.B x.m x.b,.slice y.A y.n y.a,.slice y.B y.m y.b] ws.heap.size 35 n 6 (ao SR.cells (b.map SR.f))) (JP.ext) ?_ ?_
   ·intro ρ1 w1 hj hR;exact let ⟨A,c,e1,o1⟩:=hR.1;dm rfl (mW (cs:=[_,_,_,_,_]) aC.out ki.out (bR e1 (bR hR.2.1 (bR hR.2.2.1 dX))) rfl) ⟨Below.refl _ _,A,c,rfl,o1⟩
   refine cj ?_;refine au ?_;intro f W hJ hV _;have hb_8:=hJ.bl;obtain ⟨v45,v44,v43,v42,v41,v40,_⟩:=hV;obtain ⟨A44,c44,e44,o44⟩:JP _ _ _ _ _ _ (f 4) W:=v44;replace hh:=JJ.Ai hh hJ.hp o44;clear o44;refine az (aH (aa v45 (aa e44 (aa v43 (aa v42 (aa rfl (aa v40 ay))))))) ?_;dsimp only [bf];clear e44 hJ;refine bJ ?_;intro ws hh;refine Cw (bH rfl (bG (vs:=[_,_,_,_,_]) aC.out (hh.aK (i:=13) (n:=5) rfl rfl) rfl) (dL (ep rfl) cV)) ?_;refine ⟨⟨A44,n,c44,x,y,⟨b.map SR.f,D,X2,Y2⟩⟩,_,rfl,fun h=> ?_,hh⟩;subst h;refine ⟨rfl,⟨⟨ox.ds,ox.cs⟩,oy.ds,oy.cs⟩,fun z hz=> ?_⟩;simp only [CX.rows,ZZ,aaO,or_false] at hz ⊢
   rcases hz with rfl|rfl|rfl|rfl|rfl<;>simp
theorem yN {f g f':FX} (h1:f.key=f'.key) (h2:g.key=g'.key) (p:Int):jC f g=jC f' g'∧fP f g p=fP f' g' p:=by
 obtain ⟨a1,a2,a3⟩:=wJ h1 h2;unfold fP jC;rw [a1,a2,(a3 _).1,(a3 _).2];exact ⟨rfl,rfl⟩
theorem KU {g:FX} (h:g.key=g'.key) (eps:Dyadic):nJ g eps=nJ g' eps∧lv g eps=lv g' eps:=by
 obtain ⟨A,n,a,B,m,b,ds,cs⟩:=g;obtain ⟨A',n',a',B',m',b',ds',cs'⟩:=g';unfold FX.key at h;simp only [Prod.mk.injEq] at h;obtain ⟨rfl,rfl,rfl⟩:=h;exact ⟨rfl,rfl⟩
theorem qY (x:CX) (p:Int) (w:World) (hT:dO w) (hx:x.at_ w) (hf:x.fit) (ho:x.v.ok) (hp1: -1000≤p) (hp2:p≤1000):
  Calls Tryz.prog 9 #[.agg #[.slice x.f.A x.f.n x.f.a,.slice x.f.B x.f.m x.f.b],.agg #[.slice x.g.A x.g.n x.g.a,.slice x.g.B x.g.m x.g.b],.int .i64 p] w fun r w'=>r=.returned (.tuple #[.agg (SR.cells (fP x.v.f x.v.g p)).toArray,.int .i64 (jC x.v.f x.v.g)])∧Below w.heap.size w w':=by
 have lx:=ho.lx;have ly:=ho.ly;have hc:=ho.Vx;have k1:=hf.f.LC hx.f.at_;have k2:=hf.g.LC hx.g.at_;obtain ⟨b1,b2⟩:=yN k1 k2 p;obtain ⟨a1,a2,a3⟩:=wJ k1 k2;have h:=uj x.f x.g 90000 p w hT hx.f.at_ hx.g.at_ (hf.f.iO hx.f.at_ ho.d12 ho.lx ZB ho.zx ZC) (hf.g.iO hx.g.at_ ho.d12 ho.ly ZB ho.zy ZC) (by rw [(hf.f.key hx.f.at_).2];omega) (by rw [(hf.g.key hx.g.at_).2];omega) ZC (by rw [a1,a2,(a3 _).1,(a3 _).2];exact ho.up) hp1 hp2;rw [b1,b2] at h;exact h
theorem El (x:CX) (eps:NR) (w:World) (hT:dO w) (hx:x.at_ w) (hf:x.fit) (ho:x.v.ok) (he:eps.ok):
  Calls Tryz.prog 16 #[.agg #[.slice x.g.A x.g.n x.g.a,.slice x.g.B x.g.m x.g.b],.agg #[.bool eps.neg,.string eps.aW,.int .i64 eps.e]] w fun r w'=>r=.returned (.tuple #[.int .i64 (lv x.v.g eps.d:Nat),.int .i64 (nJ x.v.g eps.d)])∧Below w.heap.size w w':=by
 have hc:=ho.Vx;obtain ⟨b1,b2⟩:=KU (hf.g.LC hx.g.at_) eps.d;have h:=wv x.g eps 90000 w hT hx.g.at_ (hf.g.iO hx.g.at_ ho.d12 ho.ly ZB ho.zy ZC) he ZC;rw [b1,b2] at h;exact h
structure RV where
 k:Int
 s:SR
 at_:List NR
def Wu:RV:=⟨0,Ji,[]⟩
def RV.cells (R:RV) (A:Option Addr) (m c:Nat):List Value:=.int .i64 R.k::(SR.cells R.s++[.slice A m c])
def Wn (b:List SR) (k:Int):List NR:=b.mapIdx fun i s=>cond (oD k i) s.f.hi s.f.lo
def Pt (eps:Dyadic) (p bu:Int):Nat→Nat→List CV→List SR→RV→Int→Int→Prop
 |_,_,[],_,R,k,e=>R=Wu∧k=0∧e=3
 |0,_,_::_,_,_,_,_=>False
 |f+1,n,c::st,l,R,k,e=>if bu<n then R=Wu∧k=0∧e=3 else c.ok∧
   if jC c.f c.g=0 then (fP c.f c.g p).ok∧
    if st=[] then R=⟨1,iu (l++[fP c.f c.g p]),[]⟩∧k=n∧e=0 else Pt eps p bu f (n+1) st (l++[fP c.f c.g p]) R k e
   else if nJ c.g eps=0 then R=⟨2,Ji,Wn c.b (lv c.g eps)⟩∧k=n∧e=0
   else ∃(a:Nat) (s:SR),(∀v,tD c.b v→v=(a:Int))∧c.b[a]?=some s∧a<c.D.length∧Pt eps p bu f (n+1) (c.half a s false::c.half a s true::st) l R k e
def wM (p q:PX) (b:List SR) (eps:NR) (grid bu:Int) (f:Nat) (R:RV) (k e:Int):Prop:=
 if sO p q b≠0 then R=Wu∧k=0∧e=sO p q b else if eps.i.sign≤0 then R=Wu∧k=0∧e=1 else Pt eps.d grid bu f 1 [oE p q b] [] R k e
theorem yc (p q:PX) (L:Option Addr) (n c:Nat) (b:List SR) (eps:NR) (grid bu:Int) (f:Nat) (R:RV) (k e:Int) (k0:Nat) (w:World) (hT:dO w) (hp:p.at_ w) (lp:p.iO k0) (hq:q.at_ w) (lq:q.iO k0) (hB:Sl w L n 6 (ao SR.cells b)) (hb:∀s∈b,s.fin k0) (hn:n≤1000000) (hk0:k0≤1000)
  (hgp:pG p b (rQ p [])=0→jr (k0+k0+16394) (hH p.v p.ts) (k0+1)≤440000) (hgq:pG q b (rQ q [])=0→jr (k0+k0+16394) (hH q.v q.ts) (k0+1)≤440000)
  (fp:nT p b []=0→Ju (pU p b).ns ((pU p b).cs.map NR.d)) (fq:nT q b []=0→Ju (pU q b).ns ((pU q b).cs.map NR.d)) (he:eps.ok) (hg1: -1000≤grid) (hg2:grid≤1000) (hb1: -9223372036854775808≤bu) (hb2:bu≤10000) (hR:wM p q b eps grid bu f R k e):
  Calls Tryz.prog 21 #[.agg #[.int .i64 p.v,.slice p.A p.n p.c],.agg #[.int .i64 q.v,.slice q.A q.n q.c],.slice L n c,.agg #[.bool eps.neg,.string eps.aW,.int .i64 eps.e],.int .i64 grid,.int .i64 bu] w fun r w'=>∃A m c',r=.returned (.tuple #[.agg (R.cells A m c').toArray,.int .i64 k,.int .i64 e])∧Hp w [.row A m c' 33 3 (ao NR.cells R.at_)] w':=by
 have hh:=Hp.start w;have hbg:=fun w1 hT1 hb1=>DR p q L n c b k0 w1 hT1 (hp.ext hb1) lp (hq.ext hb1) lq (hB.ext hb1) hb hn hk0 hgp hgq fp fq;unfold wM at hR;generalize sO p q b=E at*;by_cases hE:E≠0
 ·rw [ZH hE] at hR;obtain ⟨rfl,rfl,rfl⟩:=hR;refine MH ?_;refine xQ ?_;intro b6 w6 hh b7 w7 hh b9 w9 hh b12 w12 hh;refine aq (hbg _ (hT.hp hh) hh.below) ak.out rfl ZC ?_;rintro e_ w31 ⟨x0,R0,rfl,hx0,h3⟩;refine ⟨_,rfl, ?_⟩;replace hh:=hh.join h3;clear h3;replace hh:=hh.perm acx;simp only [ZR,ZN] at hh;refine kb ?_;intro b15 w15 hh ws hh ws hh;exact WO
 ·rw [ZG hE] at hR;obtain rfl:E=0:=abh.1 hE;by_cases hs:eps.i.sign≤0
  ·rw [ZH hs] at hR;obtain ⟨rfl,rfl,rfl⟩:=hR;refine MH ?_;refine xQ ?_;intro b6 w6 hh b7 w7 hh b9 w9 hh b12 w12 hh;refine aq (hbg _ (hT.hp hh) hh.below) ak.out rfl ZC ?_;rintro e_ w31 ⟨x0,R0,rfl,hx0,h3⟩;refine ⟨_,rfl, ?_⟩;replace hh:=hh.join h3;clear h3;replace hh:=hh.perm acx;simp only [ZR,ZN] at hh;refine bU ?_;intro b15 w15 hh ws hh;refine aq (dr eps _) ak.out rfl ZC ?_;rintro e_ w39 ⟨rfl,hb_⟩;refine ⟨_,rfl, ?_⟩;replace hh:=hh.ext hb_;generalize eps.i.sign=g at*;refine bJ ?_;intro ws hh;exact WO
  ·rw [ZG hs] at hR;have hsb:=j6 eps.i;refine MH ?_;refine xQ ?_;intro b6 w6 hh b7 w7 hh b9 w9 hh b12 w12 hh;refine aq (hbg _ (hT.hp hh) hh.below) ak.out rfl ZC ?_;rintro e_ w31 ⟨x0,R0,rfl,hx0,h3⟩;refine ⟨_,rfl, ?_⟩;replace hh:=hh.join h3;clear h3;replace hh:=hh.perm acx;simp only [ZR,ZN] at hh;refine bU ?_;intro b15 w15 hh ws hh;obtain ⟨hv0,hf0,hm0⟩:=hx0 rfl;refine aq (dr eps _) ak.out rfl ZC ?_;rintro e_ w39 ⟨rfl,hb_⟩;refine ⟨_,rfl, ?_⟩;replace hh:=hh.ext hb_;generalize eps.i.sign=g at*;refine aj ?_;refine de hh (cs:=[_,_,_,_,_]) bj.out aC.out (bR (eD rfl) dX) rfl rfl ZC ZC ZC rfl ZC ?_;intro b43 w43 hh;refine aj ?_;replace hh:=hh.cq 35 6;rw [←hv0] at hR;replace hh:=hh.sub (ZI _ (ZI _ (ZJ _ (ZI _ (ZI _ (ZJ _ (ZJ _ (aay _))))))))
   refine oH [13,14,17,18,19,20,21,22,23,24,25,26,44,45,46,47,48,49,50,51,52,53,54,55,56,57,58,59,60,61,62,63,64,65,66,67,68,69,70,71,72,73,74,75,76,77,78,79,80,81,82,83,84,85,86,87,88,89,90,91,92,93,94,95,96,97,98,99,100,101,102,103,104,105,106,107,108,109,110] 17 18 19
    (fun v17 v18 v w'=>∃(i fu:Nat) (xs:List CX) (l:List SR) (A1:Option Addr) (q1 c1:Nat) (T:Option Addr) (m c2:Nat) (Rw:List HE),v=.int .i64 i∧v17=.slice A1 q1 c1∧l.length=q1∧v18=.slice T m c2∧xs.length=m∧Pt eps.d grid bu fu i (xs.map CX.v) l R k e∧(∀x∈xs,x.fit∧∀y∈x.rows,y∈Rw)∧(∀s∈l,s.ok)∧q1<i∧(i:Int)≤max bu 0+1∧m≤2*i∧Hp w (.row A1 q1 c1 35 6 (ao SR.cells l)::.row T m c2 97 5 (ao CX.cells xs.reverse)::.blk b12 58 [.int .i64 0,.bool false,.string (ByteArray.mk #[]),.int .i64 0,.bool false,.string (ByteArray.mk #[]),.int .i64 0,.slice none 0 0] (0,0)::.blk b9 33 [.bool eps.neg,.string eps.aW,.int .i64 eps.e] (0,0)::Rw) w')
    (fun _ _ v _=>(max bu 0+2).toNat-(intOf v).toNat) ?_ ?_
   ·exact ⟨1,f,[x0],[],none,0,0,_,1,_,R0,rfl,rfl,rfl,rfl,rfl,hR,fun x hx=>by obtain rfl:=aaa.1 hx;exact ⟨hf0,hm0⟩,fun s hs=>absurd hs aaO,ZC,ZB,ZC,hh⟩
   ·clear hh;rintro ρ' v17 v18 v w' ⟨i,fu,xs,l,A1,q1,c1,T,m,c2,Rw,rfl,rfl,hq1,rfl,hm,hE2,hxs,hl,hli,hib,hxl,hh⟩
    cases xs with
    |nil=>
     obtain rfl:m=0:=hm.symm;obtain ⟨rfl,rfl,rfl⟩:R=Wu∧k=0∧e=3:=by cases fu<;>exact hE2
     exact V4
    |cons x r=>
     obtain rfl:m=r.length+1:=hm.symm
     cases fu with
     |zero=>exact absurd hE2 id
     |succ fu=>
      rw [aaj,Pt] at hE2;by_cases hbu:bu<i
      ·rw [ZH hbu] at hE2;obtain ⟨rfl,rfl,rfl⟩:=hE2;exact V4
      ·rw [ZG hbu] at hE2;obtain ⟨hok,hE2⟩:=hE2;obtain ⟨hfx,hmx⟩:=hxs x ZQ;have hget:(x::r).reverse[r.length]?=some x:=by rw [acj,aa0 (by simp),Z6,aaz];rfl
       obtain ⟨gT,rfl⟩:=hh.bL (i:=1) rfl ZB;refine bX (sr (mL (sU ?_)));refine Bp (aN (cT (dP (eF (bX (k9 (bX (sr (mI (mI ?_))))))))));refine Bp (aN (cF (dP (eF (sr (mL (mL (sU ?_))))))));refine qf ?_;refine dN (k:=r.length) bj.out aC.size rfl rfl ZB ZB ZC ?_;refine bk (vs:=[_,_,_,_,_]) aC.out rfl (hh.dy (f:=CX.cells) (x:=x) (l:=(x::r).reverse) (i:=1) rfl CX.len ZC hget) rfl ZC ?_;have hcap:=hh.gO (i:=1) rfl;refine bU ?_;intro Vz w20 hh ws hh;refine nV (h:=r.length) bj.out aC.size rfl rfl ZB ZB ZC ?_;refine aj ?_;replace hh:=hh.perm (aaQ (l₁:=[_,_]));simp only [ZR,ZN] at hh;replace hh:=hh.Bv (k:=r.length) ZB;rw [jZ CX.len,show (x::r).reverse.take r.length=r.reverse by simp] at hh;have hbd:=fun w1 hT1 hx1=>qY x grid w1 hT1 hx1 hfx hok hg1 hg2;generalize fP x.v.f x.v.g grid=V at*;generalize jC x.v.f x.v.g=BE at*;refine aq (hbd _ (hT.hp hh) (.of hh fun y hy=>aaD [_,_,_,_,_] (hmx y hy))) ak.out rfl ZC ?_;rintro e_ w70 ⟨rfl,hb_⟩;refine ⟨_,rfl, ?_⟩;replace hh:=hh.ext hb_;by_cases hB0:BE=0
       ·subst hB0;rw [ZH rfl] at hE2;obtain ⟨hVo,hE2⟩:=hE2;have hlo:∀s∈l++[V],s.ok:=List.forall_mem_append.2 ⟨hl,fun s hs=>by obtain rfl:=aaa.1 hs;exact hVo⟩;have hhull:=fun A c w1 hT1 hS1=>xP A (q1+1) c (l++[V]) w1 hT1 hS1 hlo ZB
        cases r with
        |nil=>
         rw [aaC,ZH rfl] at hE2;obtain ⟨rfl,rfl,rfl⟩:=hE2;refine bU ?_;intro b21 w21 hh ws hh;refine Cs ?_;intro b77 w77 hh;refine Nu ?_;intro A78 c78 w78 hh;simp only [ZP,aaf] at hh;replace hh:=hh.sub (aan _ _);refine aj ?_;refine aq (hhull _ _ _ (hT.hp hh) (show Sl _ _ _ _ (ao SR.cells (l++[V])) from by rw [bp];exact hh.ar (i:=3) rfl)) ak.out rfl ZC ?_;rintro e_ w83 ⟨rfl,hb_⟩;refine ⟨_,rfl, ?_⟩;replace hh:=hh.ext hb_;refine bJ ?_;intro ws hh;refine Kg (bH rfl (bG (vs:=[_,_,_,_,_,_,_,_]) aC.out (hh.aK (i:=4) (n:=8) rfl rfl) rfl) (dL (ep rfl) (dL (ep rfl) cV))) ?_;exact Nf
        |cons y r=>
         rw [aaj,ZG (by simp)] at hE2;refine bU ?_;intro b21 w21 hh ws hh;refine Cs ?_;intro b77 w77 hh;refine Nu ?_;intro A78 c78 w78 hh;simp only [ZP,aaf] at hh;replace hh:=hh.sub (aan _ _);refine aj ?_;replace hh:=hh.perm (aaQ (l₁:=[_]));simp only [ZR,ZN] at hh;replace hh:=hh.perm (aaQ (l₁:=[_,_,_]));simp only [ZR,ZN] at hh;replace hh:=hh.sub (ZI _ (ZI _ (ZJ _ (ZJ _ (ZI _ (ZI _ (aay _)))))));refine ⟨⟨i+1,fu,y::r,l++[V],A78,q1+1,c78,_,_,c2,Rw,rfl,rfl,by rw [ZS,hq1];rfl,rfl,rfl,hE2,fun z hz=>hxs z (Z0 _ hz),hlo,ZB,ZB, ?_, ?_⟩, ?_, ?_⟩
         ·omega
         ·rw [bp];exact hh
         ·show (max bu 0+2).toNat-(i+1)<(max bu 0+2).toNat-i;omega
         ·exact dh
       ·rw [ZG hB0] at hE2;have hnr:=fun w1 hT1 hx1=>El x eps w1 hT1 hx1 hfx hok he;have hn20:∀w1,x.at_ w1→x.n≤20:=fun w1 h1=>by
         have:=h1.b.a6 SR.len ZC;have:=hok.Vz;omega
        generalize nJ x.v.g eps.d=NE at*;generalize lv x.v.g eps.d=NK at*;refine bU ?_;intro b21 w21 hh ws hh;have xat:=CX.at_.of (x:=x) hh fun y hy=>aaD [_,_,_,_,_,_] (hmx y hy);replace hn20:=hn20 _ xat;refine aq (hnr _ (hT.hp hh) xat) ak.out rfl ZC ?_;rintro e_ w90 ⟨rfl,hb_⟩;refine ⟨_,rfl, ?_⟩;replace hh:=hh.ext hb_;replace xat:=xat.ext hb_;by_cases hN0:NE=0
        ·subst hN0;rw [ZH rfl] at hE2;obtain ⟨rfl,rfl,rfl⟩:=hE2;refine aj ?_;refine aq (ym x.L x.n x.c x.v.b (NK:Int) _ (hT.hp hh) xat.b (fun s hs=>⟨(hok.bx s hs).1.ok,(hok.bx s hs).2.ok⟩) ZB) ak.out rfl ZC ?_;rintro e_ w98 ⟨A98,c98,rfl,hown_,hb_⟩;refine ⟨_,rfl, ?_⟩;replace hh:=hh.aE (x:=.row _ _ _ _ _ _) hb_ hown_;refine bJ ?_;intro ws hh;refine Kg (bH rfl (bG (vs:=[_,_,_,_,_,_,_,_]) aC.out (hh.aK (i:=5) (n:=8) rfl rfl) rfl) (dL (ep rfl) (dL (ep rfl) cV))) ?_;exact ⟨A98,x.n,c98,rfl,hh.sub (.cons_cons _ (aaJ _))⟩
        ·rw [ZG hN0] at hE2;obtain ⟨a,s,hW,hs,had,hE2⟩:=hE2;refine aj ?_;have xat:=CX.at_.of (x:=x) hh fun y hy=>aaD [_,_,_,_,_,_] (hmx y hy);refine aq (A5 x a s _ (hT.hp hh) xat hfx hok hW hs had) ak.out rfl ZC ?_;rintro e_ w103 ⟨lo,up,R2,rfl,e1,e2,hfl,hfu,hm2,h3⟩;refine ⟨_,rfl, ?_⟩;replace hh:=hh.join h3;clear h3;replace hh:=hh.perm acx;simp only [ZR,ZN] at hh;rw [←e1,←e2] at hE2;refine xQ ?_;intro b25 w25 hh b26 w26 hh ws hh ws hh;refine de hh (cs:=[_,_,_,_,_,_,_,_,_,_]) bj.out aC.out (bR (eD rfl) (bR (eD rfl) dX)) rfl rfl ZC ZC ZC rfl ZC ?_;intro b109 w109 hh;refine Nu ?_;intro A110 c110 w110 hh;simp only [ZP,aaf] at hh;replace hh:=hh.sub (aan _ _);refine aj ?_;replace hh:=hh.perm (aaQ (l₁:=[_,_,_]));simp only [ZR,ZN] at hh;replace hh:=hh.perm (aaQ (l₁:=[_,_,_,_,_]));simp only [ZR,ZN] at hh
         replace hh:=hh.sub (ZI _ (ZI _ (ZJ _ (ZJ _ (ZJ _ (ZJ _ (ZI _ (ZI _ (aay _)))))))));refine ⟨⟨i+1,fu,lo::up::r,l,A1,q1,c1,A110,_,c110,Rw++R2,rfl,rfl,hq1,rfl,rfl,hE2,fun z hz=> ?_,hl,ZB,ZB, ?_, ?_⟩, ?_, ?_⟩
         ·rcases ZZ.1 hz with rfl|hz
          ·exact ⟨hfl,fun y hy=>aaD _ (hm2 y (abk _ hy))⟩
          ·rcases ZZ.1 hz with rfl|hz
           ·exact ⟨hfu,fun y hy=>aaD _ (hm2 y (aaD _ hy))⟩
           ·exact ⟨(hxs z (Z0 _ hz)).1,fun y hy=>abk _ ((hxs z (Z0 _ hz)).2 y hy)⟩
         ·show r.length+2≤_;omega
         ·rw [show (lo::up::r).reverse=r.reverse++[up,lo] by simp,bp];exact hh
         ·show (max bu 0+2).toNat-(i+1)<(max bu 0+2).toNat-i;omega
         ·exact dh
def UD (b:List SR) (h:Int):Option (List SR):=
 if h.fdiv 2<0 then none else (b[(h.fdiv 2).toNat]?).map fun s=>(b.map SR.f).set (h.fdiv 2).toNat (s.f.half (nR s.f.uz) (decide (h % 2=1)))
def YH (b:List SR) (hs:List Int):Option (List SR):=hs.foldl (fun o h=>o.bind (UD · h)) (some b)
def SR.at_ (s:SR) (x:Dyadic):Dyadic:=s.lo.d+x*s.wid
def Yk (t:List NR) (i:Nat) (s:SR):NR:=match t[i]? with|none=>s.lo|some x=>nR (s.at_ x.d)
theorem Qa (n:Nat) (s1 s1' s2 s2':Bool) (a1 a1' a2 a2':ByteArray) (e1 e1' e2 e2':Int) (w:World):(Op.equalIn (n+4) 35 (.agg #[.bool s1,.string a1,.int .i64 e1,.bool s2,.string a2,.int .i64 e2]) (.agg #[.bool s1',.string a1',.int .i64 e1',.bool s2',.string a2',.int .i64 e2'])).run Tryz.prog w=.ok (((s1==s1' && a1==a1') && e1==e1') && ((s2==s2' && a2==a2') && e2==e2')) w:=by
 have h1:=fun (x x':Bool) (y y':ByteArray) (z z':Int)=>K4 (P:=Tryz.prog) (cs:= #[.bool x,.string y,.int .i64 z,.bool x',.string y',.int .i64 z']) (vs:= #[.bool x,.string y,.int .i64 z]) (off:=0) (aC.out (P:=Tryz.prog) (t:=33)) rfl;have h2:=fun (x x':Bool) (y y':ByteArray) (z z':Int)=>K4 (P:=Tryz.prog) (cs:= #[.bool x,.string y,.int .i64 z,.bool x',.string y',.int .i64 z']) (vs:= #[.bool x',.string y',.int .i64 z']) (off:=3) (aC.out (P:=Tryz.prog) (t:=33)) rfl;rw [Op.equalIn];simp [run_underlying Tryz.underlying35,h1,h2,KT]
 cases h:((s1==s1' && a1==a1') && e1==e1')<;>cases h':((s2==s2' && a2==a2') && e2==e2')<;>simp_all
section
variable {N:Nat}{ops:Array Oper}{Q:Kq}{ρ:Rf}{w:World}{rest:List Oper}{d:Option Nat}{ty u:TypeId}{pos:String}{af:Array Edge}{x y:Operand}{s:SR}
end
theorem ra (L:Option Addr) (n c:Nat) (b:List NR) (M:Option Addr) (c2:Nat) (w:World) (hS:Sl w L n 3 (ao NR.cells b)) (hS2:Sl w M n 3 (ao NR.cells b)) (hn:n≤1000000):
  Calls Tryz.prog 60 #[.slice L n c,.slice M n c2] w fun r w'=>r=.returned (.bool true)∧Below w.heap.size w w':=by
 have hh:=Hp.start w;have hln:=hS.a6 NR.len ZC;refine ae (N:=26) (l:=[.slice L n c,.slice M n c2]) Tryz.func60 rfl rfl (by simp) ?_;exact TW
variable {pos:String}{ρ:Rf}
theorem IJ {d:Option Nat}{ty u:TypeId}{af:Array Edge}{x y:Operand}{s:SR}{g:Option (Nat×Bool)} (hx:ev ρ x=.agg s.cells.toArray) (hy:ev ρ y=.agg s.cells.toArray):
  (execOp (ev ρ) ⟨d,.binOp .eql 35 x y u,ty,pos,af,g⟩).run Tryz.prog w=.ok (.value (.bool true)) w:=by
 have h0:=Qa 9996 s.lo.neg s.lo.neg s.hi.neg s.hi.neg s.lo.aW s.lo.aW s.hi.aW s.hi.aW s.lo.e s.lo.e s.hi.e s.hi.e w;rw [nA.2 rfl,nA.2 rfl] at h0;have h1:(Op.equal 35 (.agg s.cells.toArray) (.agg s.cells.toArray)).run Tryz.prog w=.ok true w:=h0;simp only [execOp,hx,hy];simp [eqGuard,binOp,h1]
theorem oP (R:RV) (A B:Option Addr) (m ca cb:Nat) (w:World) (hA:Sl w A m 3 (ao NR.cells R.at_)) (hB:Sl w B m 3 (ao NR.cells R.at_)) (hm:m≤1000):
  Calls Tryz.prog 22 #[.agg (R.cells A m ca).toArray,.agg (R.cells B m cb).toArray] w fun r w'=>r=.returned (.bool true)∧Below w.heap.size w w':=by
 have hh:=Hp.start w;have hs:=fun w1 hb1=>ra A m ca R.at_ B cb w1 (hA.ext hb1) (hB.ext hb1) ZB;refine ae (N:=24) (l:=[.agg (R.cells A m ca).toArray,.agg (R.cells B m cb).toArray]) Tryz.func22 rfl rfl (by simp) ?_;refine bU ?_;intro b2 w2 hh b3 w3 hh;refine aR rfl rfl ZC (IJ (s:=R.s) rfl rfl) ?_;skip;refine aj ?_;refine a0 hh (hs _ hh.below) rfl ?_;intro w22 hh;refine aj ?_;exact ⟨rfl,hh.below⟩
theorem dJ (n:Int) (w:World) (h1: -9223372036854775808≤n) (h2:n≤9223372036854775807):
  Calls Tryz.prog 29 #[.int .i64 n] w fun r w'=>r=.returned (.agg (NR.cells (nR (n:Dyadic))).toArray)∧Below w.heap.size w w':=by
 have hh:=Hp.start w;refine ae (N:=5) (l:=[.int .i64 n]) Tryz.func29 rfl rfl (by simp) ?_;refine bJ ?_;intro b2 w2 hh;refine a0 hh (Jj n _ h1 h2) rfl ?_;intro w4 hh;exact vI
theorem lK (a b:Int) (w:World) (h1: -1000≤a∧a≤1000) (h2: -1000≤b∧b≤1000):
  Calls Tryz.prog 28 #[.int .i64 a,.int .i64 b] w fun r w'=>∃A c B c',r=.returned (.agg #[.slice A 1 c,.slice B 2 c'])∧Hp w [.row B 2 c' 33 3 (ao NR.cells [nR (a:Dyadic),nR (b:Dyadic)]),.row A 1 c 3 1 (aZ [1])] w':=by
 have hh:=Hp.start w;refine ae (N:=12) (l:=[.int .i64 a,.int .i64 b]) Tryz.func28 rfl rfl (by simp) ?_;refine bJ ?_;intro b4 w4 hh;refine LM ?_;intro b5 w5 hh;refine mI ?_;refine a0 hh (dJ a _ ZB ZB) rfl ?_;intro w7 hh;refine mI ?_;refine a0 hh (dJ b _ ZB ZB) rfl ?_;intro w9 hh;refine ui ?_;intro b10 w10 hh;refine bJ ?_;intro ws hh;replace hh:=show Hp w (.row (some ⟨b10,0,none⟩) 2 2 33 3 (ao NR.cells [nR (a:Dyadic),nR (b:Dyadic)])::.row (some ⟨b5,0,none⟩) 1 1 3 1 (aZ [1])::.blk b4 25 [.slice (some ⟨b5,0,none⟩) 1 1,.slice (some ⟨b10,0,none⟩) 2 2] (0,0)::_) _ from hh;refine Ia ?_;exact ⟨_,_,_,_,rfl,hh.sub (.cons_cons _ (.cons_cons _ (aaJ _)))⟩
theorem xW (a b:Int) (K:ZT) (w:World) (h1: -200≤a∧a≤200) (h2: -200≤b∧b≤200) (hK:(zC K && zE K [([0],a),([1],b)])=true):
  Calls Tryz.prog 31 #[.int .i64 a,.int .i64 b] w fun r w'=>∃p:PX,p.v=1∧p.ts=zT K∧r=.returned (.agg #[.int .i64 p.v,.slice p.A p.n p.c])∧Hp w [p.row] w':=by
 have hh:=Hp.start w;refine ae (N:=19) (l:=[.int .i64 a,.int .i64 b]) Tryz.func31 rfl rfl (by simp) ?_;refine bJ ?_;intro b4 w4 hh;refine a0 hh (dJ a _ ZB ZB) rfl ?_;intro w9 hh;refine aj ?_;refine a0 hh (dJ b _ ZB ZB) rfl ?_;intro w12 hh;refine aj ?_;refine de hh (cs:=[_,_,_,_,_,_,_,_]) bj.out aC.out (bR (eD rfl) (bR (eD rfl) dX)) rfl rfl ZC ZC ZC rfl ZC ?_;intro b14 w14 hh;have hz:=Ih (L:=[([0],a),([1],b)]) (by unfold zB;simp;omega);have hmk:=fun w1 hS1=>AK 1 (some ⟨b14,0,none⟩) 2 2 (zT [([0],a),([1],b)]) 24 w1 hS1 ZC hz.1 ZC (fun t ht=>aac (hz.2 t ht) ZC);rw [I4 hK,Ph ZC (by rfl) (by simp)] at hmk;replace hh:=show Hp w (.row (some ⟨b14,0,none⟩) 2 2 95 4 (ao TR.cells (zT [([0],a),([1],b)]))::.blk b4 52 [.int .i64 0,.slice none 0 0] (0,0)::_) _ from hh;refine aq (hmk _ (hh.ar (i:=0) rfl)) ak.out rfl ZC ?_;rintro e_ w15 ⟨p,hp,rfl,h3⟩;refine ⟨_,rfl, ?_⟩;replace hh:=hh.join h3;simp only [ZR,ZN] at hh;clear h3;refine kb ?_;intro b5 w5 hh ws hh ws hh;refine Hj (bH rfl (bG (vs:=[_,_]) aC.out (hh.aK (i:=3) (n:=2) rfl rfl) rfl) cV) ?_
 exact ⟨p,hp.v,hp.ts,rfl,hh.sub (.cons _ (.cons_cons _ (aaJ _)))⟩
def pZ (K:ZT):PX:=⟨1,none,0,0,zT K⟩
def jn:List SR:=[⟨⟨false,ByteArray.mk #[],0⟩,nR ((1:Int):Dyadic)⟩]
abbrev P1:ZT:=[([0],1)]
abbrev Q1:ZT:=[([0],1),([1],1)]
abbrev Q2:ZT:=[([1],1)]
abbrev Q3:ZT:=[([0], -1),([1],2)]
def pR:Dyadic:=((1:Int):Dyadic)*fg (-1)
def qR:NR:=nR (((1:Int):Dyadic)*fg (-2))
def fS (l:List Int):List Dyadic:=l.map fun z:Int=>(z:Dyadic)
def cA:CV:=⟨jn.map SR.f,[1],fS [1,1],fS [1,2]⟩
def cB:CV:=⟨jn.map SR.f,[1],fS [1,1],fS [0,1]⟩
def cC:CV:=⟨jn.map SR.f,[1],fS [1,1],fS [-1,1]⟩
def gp:SR:=⟨nR 0,nR ((1:Int):Dyadic)⟩
def cD:CV:=⟨[gp.f.half (nR gp.f.uz) false],[1],fS [1,1],fS [-1,0]⟩
theorem Bn {l:List SR}{x y:Dyadic} (h:cG (fun x y=>decide (x<y)) ((im l).map NR.d)=x∧cG (fun x y=>decide (y<x)) ((im l).map NR.d)=y):iu l=⟨nR x,nR y⟩:=by unfold iu;rw [h.1,h.2]
theorem UU (z:Int) (h:z.natAbs<256):Sz 90000 (z:Dyadic):=(show Sz 24 (z:Dyadic) from bE (z:Dyadic) ▸ ((Ih (L:=[([],z)]) (by unfold zB;simpa using h)).1 ⟨str [],nR (z:Dyadic)⟩ ZQ).2).mono ZC
theorem qa {l:List Dyadic}{L:List Int} (h:l=L.map fun z:Int=>(z:Dyadic)) (hs:L.all (fun z=>decide (z.natAbs<256))=true):∀x∈l,Sz 90000 x:=fun x hx=>by
 rw [h] at hx;obtain ⟨z,hz,rfl⟩:=ZU.1 hx;exact UU z (aby (aai.1 hs z hz))
theorem oV {b:List SR}{X Y:List Int} (hb:∀s∈b,s.fin 1000) (hb1:b.length≤20) (hX:X.length=2) (hY:Y.length=2) (hs:(X++Y).all (fun z=>decide (z.natAbs<256))=true)
  (hu:kj (maxD [rn [1] (X.map fun z:Int=>(z:Dyadic)),rn [1] (Y.map fun z:Int=>(z:Dyadic))]) (rn [1] (X.map fun z:Int=>(z:Dyadic)))=(X.map fun z:Int=>(z:Dyadic))∧kj (maxD [rn [1] (X.map fun z:Int=>(z:Dyadic)),rn [1] (Y.map fun z:Int=>(z:Dyadic))]) (rn [1] (Y.map fun z:Int=>(z:Dyadic)))=(Y.map fun z:Int=>(z:Dyadic))):
  CV.ok ⟨b,[1],X.map fun z:Int=>(z:Dyadic),Y.map fun z:Int=>(z:Dyadic)⟩:=by
 rw [List.all_append,Z7] at hs;have h1:=qa (l:=X.map fun z:Int=>(z:Dyadic)) rfl hs.1;have h2:=qa (l:=Y.map fun z:Int=>(z:Dyadic)) rfl hs.2;refine ⟨hb,hb1,(by decide:([1]:List Nat).length≤12),(by decide:∀d∈([1]:List Nat),d≤127),(by decide:ai [1]≤200),by rw [ZY,hX];rfl,by rw [ZY,hY];rfl,h1,h2,fun _=> ?_⟩;unfold CV.f CV.g;dsimp only;rw [hu.1,hu.2];exact ⟨fun x hx=>(h1 x hx).mono ZC,fun x hx=>(h2 x hx).mono ZC⟩
theorem CZ:∀s∈jn,s.fin 24:=fun s hs=>by
 obtain rfl:=aaa.1 hs;exact ⟨⟨⟨ZC,ZC,ZC⟩,by show Sz 24 (NR.d ⟨false,ByteArray.mk #[],0⟩);rw [show NR.d ⟨false,ByteArray.mk #[],0⟩=0 by decide+kernel];exact Sz.zero _⟩,ur.of ((show Sz 1 ((1:Int):Dyadic) from ⟨2,by decide+kernel,ZC⟩).mono ZC) ZC⟩
theorem oR:∀s∈jn.map SR.f,s.fin 1000:=fun s hs=>by
 obtain ⟨z,hz,rfl⟩:=ZU.1 hs;have h:=SR.ID (CZ z hz) ZC;exact ⟨⟨h.1.ok,h.1.sz.mono ZC⟩,⟨h.2.ok,h.2.sz.mono ZC⟩⟩
theorem XM:cA.ok:=oV (X:=[1,1]) (Y:=[1,2]) oR ZC rfl rfl rfl (by decide+kernel)
theorem X9:cB.ok:=oV (X:=[1,1]) (Y:=[0,1]) oR ZC rfl rfl rfl (by decide+kernel)
theorem Yh:cC.ok:=oV (X:=[1,1]) (Y:=[-1,1]) oR ZC rfl rfl rfl (by decide+kernel)
def RA:RV:=⟨1,⟨nR pR,nR ((1:Int):Dyadic)⟩,[]⟩
def RB:RV:=⟨2,Ji,[nR ((0:Int):Dyadic)]⟩
def RC:RV:=⟨2,Ji,[nR pR]⟩
theorem xy {p q:PX}{b:List SR}{D:List Nat}{Y:List Dyadic} (h:maxD [pU p b,pU q b]=D∧kj D (pU p b)=X∧kj D (pU q b)=Y):oE p q b=⟨b.map SR.f,D,X,Y⟩:=by unfold oE;rw [h.1,h.2.1,h.2.2]
theorem UH:oE (pZ P1) (pZ Q1) jn=cA:=xy (by decide+kernel)
theorem Uw:oE (pZ P1) (pZ Q2) jn=cB:=xy (by decide+kernel)
theorem US:oE (pZ P1) (pZ Q3) jn=cC:=xy (by decide+kernel)
theorem XJ:wM (pZ P1) (pZ Q1) jn qR 2 9 1 RA 1 0:=by
 unfold wM;rw [ZG (by decide+kernel),ZG (by decide+kernel),UH,Pt,ZG ZC];refine ⟨XM, ?_⟩;rw [ZH (by decide+kernel)];have hv:fP cA.f cA.g 2=⟨nR pR,nR ((1:Int):Dyadic)⟩:=by
  unfold fP;rw [ZH (by decide+kernel)];exact Bn (by decide+kernel)
 rw [hv];refine ⟨⟨by unfold NR.ok;decide+kernel,by unfold NR.ok;decide+kernel⟩, ?_⟩;rw [ZH rfl];exact ⟨by rw [ZN,Bn (x:=pR) (y:=((1:Int):Dyadic)) (by decide+kernel)];rfl,rfl,rfl⟩
theorem HT {x y:Dyadic} (h:x=y):nR x=nR y:=by rw [h]
theorem unit_eq:jn.map SR.f=[gp]:=by
 show [SR.f _]=_;unfold SR.f gp;rw [show SR.L ⟨⟨false,ByteArray.mk #[],0⟩,nR ((1:Int):Dyadic)⟩=0 by decide+kernel,show SR.H ⟨⟨false,ByteArray.mk #[],0⟩,nR ((1:Int):Dyadic)⟩=((1:Int):Dyadic) by decide+kernel]
theorem XN:wM (pZ P1) (pZ Q2) jn qR 2 9 1 RB 1 0:=by
 unfold wM;rw [ZG (by decide+kernel),ZG (by decide+kernel),Uw,Pt,ZG ZC];refine ⟨X9, ?_⟩;rw [ZG (by decide+kernel),ZH (by decide+kernel)];refine ⟨?_,rfl,rfl⟩;have hk:lv cB.g qR.d=0:=by decide+kernel
 rw [hk,show cB.b=[gp] from unit_eq];show _=RV.mk 2 Ji [cond (oD 0 0) gp.f.hi gp.f.lo];rw [show oD 0 0=false by decide];show RV.mk 2 Ji [nR ((0:Int):Dyadic)]=RV.mk 2 Ji [nR gp.L];rw [HT (show gp.L=((0:Int):Dyadic) by decide+kernel)]
theorem Nm {s:SR}{v:Int} (h:tD [s] v):v=((0:Nat):Int):=by
 rcases h with ⟨h,_⟩|⟨m,t,h,hv,_⟩
 ·cases h
 ·match m,h with
  |0,_=>exact hv
theorem Kt:gp.fin 1000:=oR gp (by rw [unit_eq];exact aaa.2 rfl)
theorem Yj:cD.ok:=oV (X:=[1,1]) (Y:=[-1,0]) (fun s hs=>by
 obtain rfl:=aaa.1 hs;exact ⟨(SR.ID Kt ZC).1,ur.of ((show Sz 1 gp.f.uz from ⟨1,by decide+kernel,ZC⟩).mono ZC) ZC⟩) ZC rfl rfl rfl (by decide+kernel)
theorem XI:wM (pZ P1) (pZ Q3) jn qR 2 9 2 RC 2 0:=by
 unfold wM;rw [ZG (by decide+kernel),ZG (by decide+kernel),US,Pt,ZG ZC];refine ⟨Yh, ?_⟩;rw [ZG (by decide+kernel),ZG (by decide+kernel)];refine ⟨0,gp,fun v hv=>Nm (by rw [←unit_eq];exact hv),by show (jn.map SR.f)[0]?=_;rw [unit_eq];rfl,ZC, ?_⟩;have hc:cC.half 0 gp false=cD:=by
  show CV.mk (((jn.map SR.f).map SR.f).set 0 (gp.f.half (nR gp.f.uz) false)) [1] (pJ false (fg (-1)) [1] 0 (fS [1,1])) (pJ false (fg (-1)) [1] 0 (fS [-1,1]))=CV.mk [gp.f.half (nR gp.f.uz) false] [1] (fS [1,1]) (fS [-1,0]);rw [unit_eq,show pJ false (fg (-1)) [1] 0 (fS [1,1])=fS [1,1] by decide+kernel,show pJ false (fg (-1)) [1] 0 (fS [-1,1])=fS [-1,0] by decide+kernel]
  rfl
 rw [hc,Pt,ZG ZC];refine ⟨Yj, ?_⟩;rw [ZG (by decide+kernel),ZH (by decide+kernel)];refine ⟨?_,rfl,rfl⟩;have hk:lv cD.g qR.d=1:=by decide+kernel
 rw [hk];show _=RV.mk 2 Ji [cond (oD 1 0) (gp.f.half (nR gp.f.uz) false).f.hi (gp.f.half (nR gp.f.uz) false).f.lo];rw [show oD 1 0=true by decide];show RV.mk 2 Ji [nR pR]=RV.mk 2 Ji [nR (gp.f.half (nR gp.f.uz) false).H];rw [HT (show (gp.f.half (nR gp.f.uz) false).H=pR by decide+kernel)]
theorem Mi {p q p' q':PX} (h1:p.v=p'.v) (h2:p.ts=p'.ts) (h3:q.v=q'.v) (h4:q.ts=q'.ts) {b:List SR}{eps:NR}{g bu:Int}{f:Nat}{R:RV}{k e:Int} (h:wM p' q' b eps g bu f R k e):wM p q b eps g bu f R k e:=by
 obtain ⟨pv,pA,pn,pc,pt⟩:=p;obtain ⟨qv,qA,qn,qc,qt⟩:=q;obtain ⟨pv',pA',pn',pc',pt'⟩:=p';obtain ⟨qv',qA',qn',qc',qt'⟩:=q';replace h1:pv=pv':=h1;replace h2:pt=pt':=h2;replace h3:qv=qv':=h3;replace h4:qt=qt':=h4;subst h1 h2 h3 h4;exact h
theorem BA {D:List Nat}{L:List Int} (hD:D.length≤12∧(∀d∈D,d≤127)∧ai D≤200) (hX:X=fS L) (hl:L.length=ai D) (hs:L.all (fun z=>decide (z.natAbs<256))=true):Ju D X:=
 ⟨hD.1,hD.2.1,hD.2.2,by rw [hX,fS,ZY];exact hl,qa hX hs⟩
structure Eg (P:ZT):Prop where
 b:zB P=true
 g:jr (24+24+16394) (hH 1 (zT P)) (24+1)≤440000
 f:Ju (pU (pZ P) jn).ns ((pU (pZ P) jn).cs.map NR.d)
theorem UW:Eg P1:=⟨ZC,by decide+kernel,BA (L:=[1]) (by decide+kernel) (by decide+kernel) (by decide+kernel) rfl⟩
theorem X5:Eg Q1:=⟨ZC,by decide+kernel,BA (L:=[1,2]) (by decide+kernel) (by decide+kernel) (by decide+kernel) rfl⟩
theorem Yd:Eg Q2:=⟨ZC,by decide+kernel,BA (L:=[0,1]) (by decide+kernel) (by decide+kernel) (by decide+kernel) rfl⟩
theorem X6:Eg Q3:=⟨ZC,by decide+kernel,BA (L:=[-1,1]) (by decide+kernel) (by decide+kernel) (by decide+kernel) rfl⟩
theorem U9 (P Q:ZT) (p q:PX) (L:Option Addr) (c f:Nat) (R:RV) (k:Int) (w:World) (hT:dO w) (hp:p.v=1∧p.ts=zT P∧p.at_ w∧p.n≤p.c∧p.n≤1000) (hq:q.v=1∧q.ts=zT Q∧q.at_ w∧q.n≤q.c∧q.n≤1000) (eP:Eg P) (eQ:Eg Q) (hB:Sl w L 1 6 (ao SR.cells jn)) (h:wM (pZ P) (pZ Q) jn qR 2 9 f R k 0):
  Calls Tryz.prog 21 #[.agg #[.int .i64 p.v,.slice p.A p.n p.c],.agg #[.int .i64 q.v,.slice q.A q.n q.c],.slice L 1 c,.agg #[.bool qR.neg,.string qR.aW,.int .i64 qR.e],.int .i64 2,.int .i64 9] w fun r w'=>∃A m c',r=.returned (.tuple #[.agg (R.cells A m c').toArray,.int .i64 k,.int .i64 0])∧Hp w [.row A m c' 33 3 (ao NR.cells R.at_)] w':=by
 obtain ⟨pv,pA,pn,pc,pt⟩:=p;obtain ⟨qv,qA,qn,qc,qt⟩:=q;obtain ⟨rfl,rfl,p3,p4,p5⟩:=(hp:pv=1∧pt=zT P∧_);obtain ⟨rfl,rfl,q3,q4,q5⟩:=(hq:qv=1∧qt=zT Q∧_);exact yc ⟨1,pA,pn,pc,zT P⟩ ⟨1,qA,qn,qc,zT Q⟩ L 1 c jn qR 2 9 f R k 0 24 w hT p3 (NL eP.b (by have:pn≤1000:=p5;omega) p4) q3 (NL eQ.b (by have:qn≤1000:=q5;omega) q4) hB CZ ZC ZC (fun _=>eP.g) (fun _=>eQ.g) (fun _=>eP.f) (fun _=>eQ.f) (by unfold NR.ok;decide+kernel) ZC ZC ZC ZC (Mi rfl rfl rfl rfl h)
end Go.Proofs.YtmchncaiffbpaaaGreatDoor
