/- Lemmas for bernOf, part 8. -/
import Derived.OrdersIn
import Derived.Test.YteeckcbbnegmcaaGreatDoorZ7
namespace Go.Proofs.YteeckcbbnegmcaaGreatDoor
open Go.RowKit
def L4 (b:List SR) (ns:List Nat) (C:List Dyadic):PX:=⟨(ns.length:Int),none,0,0,aH (mK b ns C)⟩
def Nu (fx:FX):List Dyadic:=G8 fx.ns.reverse (fx.cs.map NR.d) fx.ns.length
def A0 (fx:FX) (b:List SR):Int×List TR:=ez (L4 b fx.ns (Nu fx)) (mD b)
def rp (fx:FX) (b:List SR):Int:=if fx.e≠0 then fx.e else if jk b≠0 then jk b else if b.length≠fx.n then 1 else (A0 fx b).1
def sC (n k kb:Nat) (ns:List Nat):Nat:=k+520*n+(1+n+(kb+1)*ns.sum)
set_option maxRecDepth 10000 in
theorem AN (fx:FX) (L:Option Addr) (n c:Nat) (b:List SR) (k kb:Nat) (w:World) (hT:eK w) (hf:fx.at_ w) (hl:fx.jX k) (hcap:fx.n≤fx.a) (hB:Sl w L n 6 (az SR.cells b)) (hb:∀s∈b,s.fin kb) (hn:n≤1000000) (hkb:kb≤1000)
  (hK:fx.e=0→fx.n=n→sC n k kb fx.ns≤400000) (hgr:fx.e=0→fx.n=n→eT (kb+16394) fx.ns (sC n k kb fx.ns+4097)≤440000):
  Calls Tryz.prog 37 #[.agg #[.slice fx.A fx.n fx.a,.slice fx.B fx.m fx.b],.slice L n c] w fun r w'=>∃g:PX,dN (rp fx b) n (A0 fx b).2 g∧r=.returned (.tuple #[.agg #[.int .i64 g.v,.slice g.A g.n g.c],.int .i64 (rp fx b)])∧Hp w [g.row] w':=by
 have hh:=Hp.start w;have hbl:b.length=n:=hB.bg SR.len VY;have hok:∀s∈b,s.ok:=fun s hs=>⟨(hb s hs).1.ok,(hb s hs).2.ok⟩;have hck:=fun w1 hT1 hb1=>yI fx k w1 hT1 (hf.ext hb1) hl;have hbc:=fun w1 hT1 hb1=>qh L n c b w1 hT1 (hB.ext hb1) hok hn;by_cases h0:fx.e=0
 ·by_cases h1:jk b=0
  ·by_cases h2:n=fx.n
   ·have hE:rp fx b=(A0 fx b).1:=by unfold rp;rw [V3 VX,V3 VX,V3 VX]
    have hpos:0<n:=by
     rw [←hbl];by_cases h:b.length=0
     ·unfold jk at h1;rw [V2 h] at h1;split at h1<;>omega
     ·omega
    obtain ⟨hdeg,hnum,h12,hlow,hcnt,hmax⟩:=FX.fv h0;have hln:=hf.ln.1;have hlm:=hf.ln.2;have hnl:fx.ns.length=n:=by unfold FX.ns;rw [Wh];omega
    have hdg:Sl w fx.A fx.n 1 (bC (bU fx.ns)):=by rw [←hdeg];exact hf.dg
    obtain ⟨X,hX⟩:∃X,X=fx.cs.map NR.d:=⟨_,rfl⟩;have hC:Nu fx=G8 fx.ns.reverse X n:=by unfold Nu;rw [hX,hnl]
    rw [←hX] at hnum;have hXl:X.length=ay fx.ns:=by rw [hX,Wh];exact hcnt
    have hXz:∀x∈X,Sz k x:=fun x h=>by
     rw [hX] at h;obtain ⟨z,hz,rfl⟩:=Wn.1 h;exact (hl.num z hz).2
    have hSX:Sl w fx.B fx.m 3 (az NR.cells (X.map nR)):=by rw [←hnum];exact hf.nm
    have hmc:fx.m=ay fx.ns:=VX;have hK:=hK h0 h2.symm;have hgr:=hgr h0 h2.symm;have hR:A0 fx b=ez (L4 b fx.ns (Nu fx)) (mD b):=rfl;rw [hC] at hR;rw [hE];clear hE hC;generalize A0 fx b=R0 at*;subst hR;have hfo:=fun w1 hT1 hb1=>r6 L n c b w1 hT1 (hB.ext hb1) hok hn;generalize fx.ns=ns at*;generalize fx.ds=ds at*;generalize fx.cs=cs at*;have hdgw:∀(H:List HE) (w1:World),Hp w H w1→Sl w1 fx.A fx.n 1 (bC (bU ns)):=fun H w1 h=>hdg.ext h.below;have hgX:∀j,(G8 ns.reverse X j).length=ay ns:=fun j=>by rw [Mr (by rw [db];exact hXl),db]
    have hgZ:=K8 (ds:=ns.reverse) hXz (fun d hd=>hlow d (YE.1 hd));rw [h0] at hck;rw [h1] at hbc;refine Gd ?_;refine sr ?_;refine cf hh [_,_] ?_;intro b2 w2 hh;refine bQ hh ?_;intro b4 w4 hh;refine aI (aa (ah (sr ?_)));refine cn hh 1 [_,_] ?_;refine gi ?_;intro w28 hh;refine aI (aa (sr (mI ?_)));refine nA ?_;refine br hh (hbc _ (hT.hp hh) hh.below) rfl ?_;intro w34 hh;refine aI (aa (sr (mI ?_)));refine k6 ?_;refine bB hh 1 ?_;refine aF ?_;refine cJ (aa (cF (ao (ai (sr (bE ?_))))));refine bB hh 1 ?_;refine aL (aa (ah (sr (bE ?_))));refine bB hh 1 ?_;refine aF (mI (aa (aq ?_)));refine bp [8,9,51,52,53,54,55,56,57,58,59,60] 8 51
     (fun q v w'=>∃(j:Nat) (A:Option Addr) (ac:Nat) (R:List HE),j≤n∧v=.int .i64 j∧q=.slice A fx.m ac∧(∀(H:List HE) (w1:World),Hp w (H++R) w1→Sl w1 A fx.m 3 (az NR.cells ((G8 ns.reverse X j).map nR)))∧Hp w (.blk b4 24 [.int .i64 0,.slice none 0 0] (0,0)::.blk b2 39 [.slice fx.A fx.n fx.a,.slice fx.B fx.m fx.b] (0,0)::R) w')
     (fun _ v _=>n-(intOf v).toNat) ?_ ?_
    ·exact ⟨0,fx.B,fx.b,[],V5 _,rfl,rfl,fun H w1 h=>hSX.ext h.below,hh⟩
    ·clear hh;rintro ρ' q_ v w' ⟨j,A,ac,R,hj,rfl,rfl,hrd,hh⟩;by_cases hlt:j<n
     ·obtain ⟨d,hd⟩:=ak (l:=ns) (k:=j) VX;have hd7:=hlow d (V7 hd);have hof:=fun w1 hs=>mr fx.A fx.n fx.a j d ns w1 hs hcap VX hd hlow VX;have hrm:ns.reverse=(ns.drop (j+1)).reverse++d::(ns.take j).reverse:=z9 hd;have hcn:fx.m=ay ((ns.drop (j+1)).reverse++d::(ns.take j).reverse):=by rw [←hrm,db];exact hmc
      have hli:=fun w1 hT1 hS1=>m7 116 (ns.drop (j+1)).reverse (ns.take j).reverse d (d+1) (kR d (eX d 1 (-1))) A fx.m ac (k+520*j) (G8 ns.reverse X j) w1 hT1 hS1 hcn VX (V8 _) hd7 (hgZ j) (fun Y E ec w2 hT2 hy hs=>u9 E (d+1) ec d Y (k+520*j) w2 hT2 hs rfl hd7 hy (by unfold sC at hK;omega)) (fun Y _=>by simp [kR]);have hM:=KJ (M:=eX d 1 (-1)) (A:=(ns.drop (j+1)).reverse) (B:=(ns.take j).reverse) (X:=G8 ns.reverse X j) ((hgX j).trans (hmc.symm.trans hcn));have hsu:=Bz ns.reverse X j;have hgd:ns.reverse.getD (ns.reverse.length-1-j) 0=d:=by
       rw [Xw,XE (by rw [W3];omega),W3,show ns.length-1-(ns.length-1-j)=j by omega,hd]
       rfl
      rw [hgd,show ns.reverse.length-1-j=(ns.drop (j+1)).reverse.length by rw [W3,W3,Xk];omega] at hsu;rw [hgX j,←hrm,←hsu,←hmc] at hM;rw [hM,db] at hli;clear hM hsu hgd hcn;refine sr ?_;refine aW (aa (ah (cT (ao (ai (ah (aq (sr (mI (aI (aa (al (bE ?_)))))))))))));refine bB hh 1 ?_;refine mI ?_;refine br hh (hof _ (hdgw _ _ hh)) rfl ?_;intro w57 hh;refine mL ?_;refine aG (hli _ (hT.hp hh) (hrd [_,_] _ hh)) ar.out rfl VY ?_;rintro e_ w59 ⟨E,ec,rfl,h4⟩;refine ⟨_,rfl, ?_⟩;replace hh:=hh.join h4;clear h4;simp only [Wb,V9] at hh;refine lR ?_;refine a9 (mI (aA (ai ?_)));replace hh:=hh.sub (V4 _ (V4 _ (V4 _ (Xh _))));replace hh:=hh.perm (WO (l₁:=[_,_]));simp only [Wb,V9] at hh;replace hh:=hh.perm (WO (l₁:=[_,_]));simp only [Wb,V9] at hh;replace hh:=hh.sub (.cons_cons _ (.cons_cons _ (.cons_cons _ (WN _))))
      refine ⟨⟨j+1,E,ec,[.row E fx.m ec 65 3 (az NR.cells ((G8 ns.reverse X (j+1)).map nR))],VX,rfl,rfl,fun H w1 h=>kO (h.own _ (XA _ (Wj.2 rfl))),hh⟩,by show n-(j+1)<n-j;omega, ?_⟩;exact dy
     ·obtain rfl:n=j:=VX;obtain ⟨adC,rfl⟩:∃ad,A=some ad:=let ⟨ad,e,_⟩:=(hrd [_,_] _ hh).at_ (by have:=cU ns;omega);⟨ad,e⟩;generalize hCC:G8 ns.reverse X n=C at*;have hCl:C.length=ay ns:=by rw [←hCC];exact hgX n
      have hCz:∀x∈C,Sz (k+520*n) x:=by rw [←hCC];have:=hgZ n;exact this
      clear hgX hgZ;refine sr ?_;refine oP ?_;refine aG (hfo _ (hT.hp hh) hh.below) ar.out rfl VY ?_;rintro e_ w62 ⟨A62,c62,rfl,hown_,hb_⟩;refine ⟨_,rfl, ?_⟩;replace hh:=hh.aY (x:=.row _ _ _ _ _ _) hb_ hown_;obtain ⟨adS,hAS⟩:∃ad,A62=some ad:=let ⟨ad,e,_⟩:=(hh.aC (i:=0) rfl).at_ hpos;⟨ad,e⟩;rw [hAS] at hh ⊢;clear hAS;refine aL (aa (sr (aL (aa (ah (sr (mL (aF (mI (aa (aq ?_)))))))))));replace hh:=hh.ck 24 2;refine bp [10,11,12,13,14,15,16,17,18,65,66,67,68,69,70,71,72,73,74,75,76,77,78,79,80,81,82,83,84,85,86,87,88,89,90,91,92,93,94,95,96,97] 10 65
       (fun a v w'=>∃(i c3:Nat) (A:Option Addr) (os:List PX) (R2:List HE),i≤n∧v=.int .i64 i∧a=.slice A i c3∧os.length=i∧rG ((mD b).map fun g=>⟨g.v,none,g.ts.length,0,g.ts⟩) os R2∧Hp w (.row A i c3 24 2 (az PX.cells os)::.row (some adS) n c62 81 6 (az SR.cells (b.map SR.f))::.blk b4 24 [.int .i64 0,.slice none 0 0] (0,0)::.blk b2 39 [.slice fx.A fx.n fx.a,.slice fx.B fx.m fx.b] (0,0)::(R2++R)) w')
       (fun _ v _=>n-(intOf v).toNat) ?_ ?_
      ·exact Rt
      ·clear hh;rintro ρ2 a_ v w2 ⟨i,c3,A,os,R2,hi,rfl,rfl,hol,hcp,hh⟩;by_cases hlt2:i<n
       ·obtain ⟨s,hs⟩:=ak (l:=b) (k:=i) VX;have hsf:=hb s (V7 hs);have hsn:(b.map SR.f)[i]?=some s.f:=by rw [Wf,hs];rfl
        have zL:=SR.L7 hsf;obtain ⟨po,pl⟩:=Aa (v:=n) (i:=i) VX hsf VX;have vo:=qO (v:=n) (i:=i) VX;have co:=pK (v:=n) VX zL.neg VX;have hva:=fun w1 hT1=>tY (n:Int) (i:Int) w1 hT1;rw [JA VX hlt2] at hva;rw [Xs] at hva;have zLo:(nR s.L).ok:=zL.ok VX;have hng:=fun w1 hT1=>pd (nR s.L) w1 hT1 (by have:=zLo.1;omega) (by have:=zLo.2.1;omega) (by have:=zLo.2.2;omega);rw [cm] at hng;have hcn:=fun w1 hT1=>j9 (n:Int) (nR (-s.L)) kb w1 hT1 ⟨zL.neg.ok VX,by rw [cm];exact zL.neg⟩ VX;rw [Iu VX] at hcn;have hV:aH [⟨lg n i,nR ((1:Int):Dyadic)⟩]=lK n i:=rfl;have hC:aH [⟨dX n,nR (-s.L)⟩]=j4 n (-s.L):=rfl;have hP:aH (lK n i++j4 n (-s.L))=uw n i s:=rfl;have tl1:(lK n i).length≤1:=cq _;have ul1:(j4 n (-s.L)).length≤1:=cq _;have hps:=tR hs;rw [hbl] at hps;rw [hV] at hva;rw [hC] at hcn;clear hV hC;generalize lK n i=VL at*;generalize j4 n (-s.L)=CL at*;generalize uw n i s=PL at*;obtain ⟨ad',e',hrS⟩:=(hh.aC (i:=1) rfl).at_ hpos;obtain rfl:=WZ e';refine sr ?_;refine eH ?_;refine bY ?_;refine cA (vs:=[_,_,_,_,_,_]) aO.out rfl (hrS.recAt SR.len hsn) rfl VY ?_
        refine bQ hh ?_;intro b12 w12 hh;refine aI ?_;refine bR hh 0 [_,_,_,_,_,_] ?_;intro ws hh;replace hh:Hp _ (.blk _ _ [_,_,_,_,_,_] _::_) _:=hh;refine aa (sr (mL (aF (mI ?_))));replace hh:=show Hp w (.blk b12 81 [.bool (nR s.L).neg,.string (nR s.L).bf,.int .i64 (nR s.L).e,.bool (nR s.H).neg,.string (nR s.H).bf,.int .i64 (nR s.H).e] (0,0)::_) _ from hh;refine aG (hva _ (hT.hp hh)) ar.out rfl VY ?_;rintro e_ w74 ⟨t,ot,rfl,h4⟩;refine ⟨_,rfl, ?_⟩;have htc:t.n≤t.c:=h4.dR (i:=0) rfl;replace hh:=hh.join h4;clear h4;simp only [Wb,V9] at hh;obtain ⟨tv,tA,tn,tc,tt⟩:=t;replace hh:=show Hp w (.row tA tn tc 96 4 (az TR.cells tt)::_) _ from hh;have et:VL=tt:=ot.t0.symm;have ev_:tv=(n:Int):=ot.v0;subst et ev_;have tln:VL.length=tn:=(hh.aC (i:=0) rfl).bg TR.len VY;refine mT ?_;refine du ?_;refine du ?_;refine bQ hh ?_;intro b13 w13 hh;refine bR hh 0 [_,_] ?_;intro ws hh;replace hh:Hp _ (.blk _ _ [_,_] _::_) _:=hh;refine aI (aa (sr (mL (aF (bE ?_)))));refine cn hh 2 [_,_,_] ?_;refine br hh (hng _ (hT.hp hh)) rfl ?_;intro w82 hh;refine aG (hcn _ (hT.hp hh)) ar.out rfl VY ?_
        rintro e_ w83 ⟨u,ou,rfl,h4⟩;refine ⟨_,rfl, ?_⟩;have huc:u.n≤u.c:=h4.dR (i:=0) rfl;replace hh:=hh.join h4;clear h4;simp only [Wb,V9] at hh;obtain ⟨uv,uA,un,uc,ut⟩:=u;replace hh:=show Hp w (.row uA un uc 96 4 (az TR.cells ut)::_) _ from hh;have et:CL=ut:=ou.t0.symm;have ev_:uv=(n:Int):=ou.v0;subst et ev_;have uln:CL.length=un:=(hh.aC (i:=0) rfl).bg TR.len VY;refine mT ?_;refine du ?_;refine du ?_;refine bQ hh ?_;intro b15 w15 hh;refine bR hh 0 [_,_] ?_;intro ws hh;replace hh:Hp _ (.blk _ _ [_,_] _::_) _:=hh;refine aI (aa (sr ?_));refine cn hh 2 [_,_] ?_;refine cn hh 0 [_,_] ?_;refine xr ?_;intro b89 w89 hh;have hlp:ff [⟨n,tA,tn,tc,VL⟩,⟨n,uA,un,uc,CL⟩]=0:=lP vo.e co.e rfl;have had:=fun A3 w1 hT1 hS1 s1 s2=>pg A3 2 2 [⟨n,tA,tn,tc,VL⟩,⟨n,uA,un,uc,CL⟩] (kb+10) w1 hT1 hS1 VY (fun g hg=>by
         rcases Wk.1 hg with rfl|hg
         ·exact s1
         ·rw [Wj.1 hg];exact s2) (fun g hg=>by
         rcases Wk.1 hg with rfl|hg
         ·exact ⟨by show tn≤1000000;omega,htc,vo.ok.mono VX,vo.sz⟩
         ·rw [Wj.1 hg];exact ⟨by show un≤1000000;omega,huc,co.ok.mono VX,co.sz⟩) VX
        unfold uU at had;rw [V2 hlp,Ap] at had;dsimp only at had;rw [hP] at had;rw [ku (l:=VL++CL) (by rw [Wc];omega)] at had;refine aG (had _ _ (hT.hp hh) (hh.aC (i:=0) rfl) (hh.aC (i:=4) rfl) (hh.aC (i:=2) rfl)) ar.out rfl VY ?_;rintro e_ w90 ⟨z,oz,rfl,h4⟩;refine ⟨_,rfl, ?_⟩;have hzc:z.n≤z.c:=h4.dR (i:=0) rfl;replace hh:=hh.join h4;clear h4;simp only [Wb,V9] at hh;replace hh:=show Hp w (.row z.A z.n z.c 96 4 (az TR.cells z.ts)::_) _ from hh;have zln:z.ts.length=z.n:=(hh.aC (i:=0) rfl).bg TR.len VY;refine mT ?_;refine du ?_;refine du ?_;refine bQ hh ?_;intro b17 w17 hh;refine bR hh 0 [_,_] ?_;intro ws hh;replace hh:Hp _ (.blk _ _ [_,_] _::_) _:=hh;refine aI (aa (al (mL ?_)));refine cn hh 0 [_,_] ?_;refine IW ?_;intro b95 w95 hh;refine bK hh (i:=9) rfl rfl rfl (hh.aC (i:=0) rfl) bj.out aO.out rfl VY (by first|rfl|exact cQ _|exact cD _|exact a7 _|exact bu NR.one _) VX VX VY ?_;intro A96 c96 w96 hh;simp only [Wd,WH] at hh;replace hh:=hh.sub (WE _ _);refine lR ?_;refine a9 (mI (aA (ai ?_)))
        replace hh:=hh.sub (V6 _ (V4 _ (V6 _ (V6 _ (V6 _ (V6 _ (V6 _ (V6 _ (V4 _ (V4 _ (V4 _ (V4 _ (Xh _)))))))))))));replace hh:=hh.perm (WO (l₁:=[_,_,_,_]));simp only [Wb,V9] at hh;replace hh:=hh.perm (WO (l₁:=[_,_,_,_]));simp only [Wb,V9] at hh;replace hh:=hh.perm (WO (l₁:=[_,_,_,_]));simp only [Wb,V9] at hh;replace hh:=hh.perm (WO (l₁:=[_,_,_,_]));simp only [Wb,V9] at hh;have hcp2:=hcp.add (g:=⟨n,none,PL.length,0,PL⟩) (o:=z) (by rw [hol,Wf,hps];rfl) ⟨oz.v0,oz.t0,by rw [←zln,oz.t0]⟩ hzc;refine ⟨⟨i+1,c96,A96,os++[z],z.row::R2,VX,rfl,rfl,by rw [Wc,hol];rfl,hcp2,by rw [bG,fR];exact hh⟩,by show n-(i+1)<n-i;omega, ?_⟩;exact dy
       ·obtain rfl:n=i:=VX;have hol2:os.length=((mD b).map fun g=>(⟨g.v,none,g.ts.length,0,g.ts⟩:PX)).length:=by rw [Wh,HV];omega
        have hkey:=hcp.key hol2;rw [W5] at hkey;replace hkey:os.map PX.norm=(mD b).map PX.norm:=hkey;have hoc:n≤c3:=hh.dR (i:=0) rfl;have hn12:n≤12:=VX;have hxb:(mK b ns C).length=ay ns:=BN b ns C;obtain ⟨bo1,bo2,bo3⟩:=QM (C:=C) (ns:=ns) hb VX hCz hlow VX (by rw [hnl];unfold sC at hK;omega);have hmk:=Jl (b:=b) (C:=C) (ns:=ns) VX bo2 hmax;have hal:mN (bU ns)=lI ns:=by unfold mN;rw [show sj 1 (bU ns)=true from x9 ns 1 hlow VX (V8 _)];rfl
        have hall:=fun w1 hD=>Hs fx.A fx.n fx.a (bU ns) w1 hD VX;rw [hal,xG] at hall;have hrd2:∀(H:List HE) (w1:World),Hp w (H++(R2++R)) w1→Sl w1 (some adC) fx.m 3 (az NR.cells (C.map nR)):=fun H w1 h=>hrd (H++R2) w1 (by rw [WQ];exact h);have hmy:=hcp.my;generalize hRR:(R2++R:List HE)=RR at*;refine sr ?_;refine aW (aa (ah (cF (aU (aD (aD (bk (ai (sr (aL (aa (ah (sr (bE ?_))))))))))))));refine bB hh 3 ?_;refine aG (hall _ (hdgw _ _ hh)) ar.out rfl VY ?_;rintro e_ w100 ⟨A100,c100,rfl,hown_,hb_⟩;refine ⟨_,rfl, ?_⟩;replace hh:=hh.aY (x:=.row _ _ _ _ _ _) hb_ hown_;refine aF (mI (aa (aq ?_)));replace hh:=hh.ck 96 4;refine bp [19,20,21,22,23,24,102,103,104,105,106,107,108,109,110,111,112,113,114,115,116,117,118,119,120,121,122,123,124,125,126,127,128,129,130,131,132,133,134,135,136,137,138,139,140,141,142,143,144,145,146,147,148] 19 102
         (fun a v w'=>∃(i c1:Nat) (D:Option Addr),i≤ay ns∧v=.int .i64 i∧a=.slice D i c1∧Hp w (.row D i c1 96 4 (az TR.cells ((mK b ns C).take i))::.row A100 (ay ns) c100 9 1 (iq (lI ns))::.row A n c3 24 2 (az PX.cells os)::.row (some adS) n c62 81 6 (az SR.cells (b.map SR.f))::.blk b4 24 [.int .i64 0,.slice none 0 0] (0,0)::.blk b2 39 [.slice fx.A fx.n fx.a,.slice fx.B fx.m fx.b] (0,0)::RR) w')
         (fun _ v _=>ay ns-(intOf v).toNat) ?_ ?_
        ·exact ⟨0,0,none,V5 _,rfl,rfl,hh⟩
        ·clear hh;rintro ρ3 a_ v w3 ⟨i,c1,D,hi2,rfl,rfl,hh⟩;by_cases hlt3:i<ay ns
         ·obtain ⟨x,hx⟩:=ak (l:=C) (k:=i) VX;have hxn:(C.map nR)[i]?=some (nR x):=by rw [Wf,hx];rfl
          have zx:=hCz x (V7 hx);have hax:jT C i=x:=by unfold jT;rw [hx];rfl
          have hti:=Mw (b:=b) (C:=C) hlt3;have hms:(iq (lI ns))[i]?=some (.string (fX (bU (j5 ns i)))):=by unfold iq;rw [Wf,Bh hlt3];rfl
          have hmm:=bo2 _ (V7 hti);have hmz:=(bo3 _ (V7 hti)).1;have hrl:=mU ns i;have hrr:∀(q d r:Nat),ns[q]?=some d→(j5 ns i)[q]?=some r→r≤d:=fun q d r h1 h2=>yD h1 h2;have hes:=yj (p:=i) hlow;unfold QV at hti hmm hmz;rw [hax] at hti;generalize fX (bU (j5 ns i))=M at*;generalize j5 ns i=es at*;have hex:iT M.data.toList=bU es:=by rw [ko (by unfold gg at hmm;rw [Wl] at hmm;exact hmm.1),xT,hes]
          have hel:(iT M.data.toList).length=n:=by rw [hex,qI];omega
          have hxp:=fun w1=>ik M w1 hmz;rw [hel,hex] at hxp;obtain ⟨ad',e',hrC⟩:=(hrd2 [_,_,_,_,_,_] _ hh).at_ VX;obtain rfl:=WZ e';obtain ⟨ga,rfl⟩:=hh.cu (i:=1) rfl VX;refine sr ?_;refine eH ?_;refine gh ?_;refine Jo ?_;refine aI (aS (aa (sr (mL (mI ?_)))));refine dp bj.out aO.size rfl rfl rfl VX VY ?_;refine cA (vs:=[_,_,_]) aO.out rfl (hrC.recAt NR.len hxn) rfl VY ?_;refine bQ hh ?_;intro b22 w22 hh;refine bR hh 0 [_,_,_] ?_;intro ws hh;replace hh:Hp _ (.blk _ _ [_,_,_] _::_) _:=hh;refine aa (ah (sr (mS ?_)));refine aG (hxp _) ar.out rfl VY ?_;rintro e_ w112 ⟨A112,c112,rfl,hown_,hb_⟩;refine ⟨_,rfl, ?_⟩;replace hh:=hh.aY (x:=.row _ _ _ _ _ _) hb_ hown_;refine aF (mI (aa (aq ?_)));rw [show x=x*wP b ns es 0 by show x=x*1;rw [Dyadic.mul_one]] at hh;refine aM [23,24,114,115,116,117,118,119,120,121,122,123,124,125,126,127,128,129,130,131,132,133,134,135,136,137,138,139,140,141] 114
           (fun v w'=>∃q:Nat,q≤n∧v=.int .i64 q∧Hp w (.row A112 n c112 3 1 (bC (bU es))::.blk b22 65 [.bool (nR (x*wP b ns es q)).neg,.string (nR (x*wP b ns es q)).bf,.int .i64 (nR (x*wP b ns es q)).e] (0,0)::.row D i c1 96 4 (az TR.cells ((mK b ns C).take i))::.row (some ⟨ga,0,none⟩) (ay ns) c100 9 1 (iq (lI ns))::.row A n c3 24 2 (az PX.cells os)::.row (some adS) n c62 81 6 (az SR.cells (b.map SR.f))::.blk b4 24 [.int .i64 0,.slice none 0 0] (0,0)::.blk b2 39 [.slice fx.A fx.n fx.a,.slice fx.B fx.m fx.b] (0,0)::RR) w')
           (fun v _=>n-(intOf v).toNat) ?_ ?_
          ·exact ⟨0,V5 _,rfl,hh⟩
          ·clear hh;rintro ρ4 v w4 ⟨q,hq,rfl,hh⟩;by_cases hqn:q<n
           ·obtain ⟨s,hs⟩:=ak (l:=b) (k:=q) VX;obtain ⟨d,hd⟩:=ak (l:=ns) (k:=q) VX;obtain ⟨r,hr⟩:=ak (l:=es) (k:=q) VX;have hsf:=hb s (V7 hs);have hsn:(b.map SR.f)[q]?=some s.f:=by rw [Wf,hs];rfl
            have hrd3:=hrr q d r hd hr;have hd7:=hlow d (V7 hd);have hgE:=cw (ig hr);have hgD:(bC (bU ns))[q]?=some (.int .i64 (d:Int)):=cw (ig hd);have zW:=(SR.R8 hsf).sub (SR.L7 hsf);have hsu:=fun w1 hT1=>mj (nR s.H) (nR s.L) w1 hT1 ((SR.R8 hsf).ok VX) ((SR.L7 hsf).ok VX) kb (by rw [cm];exact SR.R8 hsf) (by rw [cm];exact SR.L7 hsf) VX;rw [cm,cm] at hsu;have hwi:wP b ns es (q+1)=wP b ns es q*(s.H-s.L)^(d-r):=by
             show wP b ns es q*Cw b q^(ns.getD q 0-es.getD q 0)=_;rw [show Cw b q=s.H-s.L by unfold Cw;rw [hs],Xw,Xw,hd,hr]
             rfl
            have zq:=zx.mul (Iw (es:=es) (ns:=ns) hb q VX);have hsum:(ns.take q).sum≤ns.sum:=by
             conv=>rhs;rw [←W4 q ns,List.sum_append]
             omega
            have hsum2:=WS (kb+1) hsum;have hnw:=zW.nr;have hpm:(d-r)*(nR (s.H-s.L)).bf.size≤1000000:=Wz (XM (show d-r≤127 by omega) (show (nR (s.H-s.L)).bf.size≤1100 by omega)) VY;have hpw:=fun w1 hT1=>uL (nR (s.H-s.L)) ((d:Int)-(r:Int)) w1 hT1 (zW.ok VX) (by rw [show ((d:Int)-(r:Int)).toNat=d-r by omega];exact hpm) VX;rw [cm,show ((d:Int)-(r:Int)).toNat=d-r by omega] at hpw;have zp:=zW.AQ (show d-r≤127 by omega);have hm2:=fun A cc w1 hT1 hS1=>fH A 2 cc [nR (x*wP b ns es q),nR ((s.H-s.L)^(d-r))] w1 hT1 hS1 (by simpa using ⟨zq.ok (by unfold sC at hK;omega),zp.ok VX⟩) 600000 (by simpa [cm] using ⟨zq.mono (by unfold sC at hK;omega),zp.mono VX⟩) VX VX;rw [show iD ([nR (x*wP b ns es q),nR ((s.H-s.L)^(d-r))].map NR.d)=x*wP b ns es (q+1) by simp only [Wv,WV,cm];show 1*(x*wP b ns es q)*_=_;rw [Ye,hwi,Dyadic.mul_assoc]] at hm2;obtain ⟨ad',e',hrS⟩:=(hh.aC (i:=5) rfl).at_ hpos;obtain rfl:=WZ e';obtain ⟨adD,hAD,hrD⟩:=(hdgw _ _ hh).at_ VX
            have tQ:Value.slice fx.A fx.n fx.a=.slice (some adD) fx.n fx.a:=by rw [hAD]
            clear hwi;generalize x*wP b ns es q=y at*;generalize hy2:x*wP b ns es (q+1)=y2 at*;generalize (s.H-s.L)^(d-r)=u at*;obtain ⟨ge,rfl⟩:=hh.cu (i:=0) rfl VX;refine sr ?_;refine eH ?_;refine cX (k:=q) bj.out aO.size rfl rfl VX VX VY ?_;refine jO ?_;refine aI (aI (aa ?_));refine aT 20 [[(22,none)],[(1,none)],[(23,none)],[(120,some 1),(121,some 2)],[(122,some 3)],[(123,some 4)],[(1,none)],[(23,none)],[(125,some 6),(126,some 7)],[(127,some 8)],[(128,some 9)],[(124,some 5),(129,some 10)],[(2,none)],[(131,some 12)],[(23,none)],[(132,some 13),(133,some 14)],[(134,some 15)],[(24,none)],[(135,some 16),(136,some 17)],[(130,some 11),(137,some 18)]] [(19,138),(18,137),(17,136),(16,135),(15,134),(14,133),(13,132),(12,131),(11,130),(10,129),(9,128),(8,127),(7,126),(6,125),(5,124),(4,123),(3,122),(2,121),(1,120),(0,119)] hh mixed VZ ?_;refine ee 1 [_,_,_] ?_;refine dI ?_;refine cM ?_;refine iL (q) ?_;refine nJ ?_;refine mJ [_,_,_] (fun _ hj=>((((hrS.ext hj.bl).recAt SR.len hsn).drop 3).take 3)) ?_;refine dI ?_;refine cM ?_;refine iL (q) ?_;refine nJ ?_
            refine mJ [_,_,_] (fun _ hj=>((((hrS.ext hj.bl).recAt SR.len hsn).drop 0).take 3)) ?_;refine dC (fun _ hj=>hsu _ (hT.hp hj.hp)) ?_;refine cP ?_;refine dL 7 ?_;refine cM ?_;refine aN (i:=15) (Is (.pointer (some (adD.add (q*1))))) (Is.ext) ?_ ?_
            ·intro ρ1 w1 hj hR;exact eI rfl (iE (k:=q) bj.out aO.size ((show ρ1 132=Value.slice _ _ _ from hR.1).trans tQ) (show ρ1 133=Value.int _ _ from hR.2.1) VX VX) ⟨Below.refl _ _,rfl⟩
            refine mO (fun _ hj=>(hrD.ext hj.bl).su hgD) ?_;refine cM ?_;refine pE ?_;refine dC (fun _ hj=>hpw _ (hT.hp hj.hp)) ?_;refine aJ ?_;intro f W hJ hV;have hb_33:=hJ.bl;obtain ⟨v138,v137,v136,v135,v134,v133,v132,v131,v130,v129,v128,v127,v126,v125,v124,v123,v122,v121,v120,v119,_⟩:=hV;replace hh:=hJ.hp;refine aR (a8 (ae v138 (ae v137 (ae v136 (ae v135 (ae v134 (ae v133 (ae v132 (ae v131 (ae v130 (ae v129 (ae v128 (ae v127 (ae v126 (ae v125 (ae v124 (ae v123 (ae v122 (ae v121 (ae v120 (ae v119 aQ))))))))))))))))))))) ?_;dsimp only [bH];clear hJ;refine wQ ?_;intro b139 w139 hh;refine br hh (hm2 _ _ _ (hT.hp hh) (hh.aC (i:=0) rfl)) rfl ?_;intro w140 hh;refine bR hh 2 [_,_,_] ?_;intro ws hh;replace hh:Hp _ (_::_::.blk _ _ [_,_,_] _::_) _:=hh;refine gy ?_;refine a9 (mI (aA (ai ?_)));replace hh:=hh.sub (V6 _ (V4 _ (V4 _ (V4 _ (V4 _ (V4 _ (V4 _ (V4 _ (V4 _ (Xh _))))))))))
            refine ⟨⟨q+1,VX,rfl,by rw [hy2];exact hh⟩,by show n-(q+1)<n-q;omega, ?_⟩;exact dy
           ·obtain rfl:n=q:=VX;rw [hbl] at hti;refine sr ?_;refine aW (aa (ah (cF (aU (aD (aD (bk (ai (al (mL (mS ?_)))))))))));refine cn hh 1 [_,_,_] ?_;refine eV [_,_,_,_] ?_;refine tf ?_;intro b146 w146 hh;refine Ls ?_;intro A147 c147 w147 hh;simp only [Wd,WH] at hh;replace hh:=hh.sub (WE _ _);refine lR ?_;refine a9 (mI (aA (ai ?_)));have e1:az TR.cells ((mK b ns C).take i)++[.string M,.bool (nR (x*wP b ns es n)).neg,.string (nR (x*wP b ns es n)).bf,.int .i64 (nR (x*wP b ns es n)).e]=az TR.cells ((mK b ns C).take (i+1)):=by rw [aw hti,bG,fR];rfl
            replace hh:=hh.sub (V6 _ (V6 _ (V4 _ (V4 _ (V4 _ (V4 _ (V4 _ (V4 _ (Xh _)))))))));replace hh:=show Hp w (.row A147 (i+1) c147 96 4 (az TR.cells ((mK b ns C).take i)++[.string M,.bool (nR (x*wP b ns es n)).neg,.string (nR (x*wP b ns es n)).bf,.int .i64 (nR (x*wP b ns es n)).e])::_) _ from hh;rw [e1] at hh;refine ⟨⟨i+1,c147,A147,VX,rfl,rfl,hh⟩,by show ay ns-(i+1)<ay ns-i;omega, ?_⟩;exact dy
         ·obtain rfl:ay ns=i:=VX;rw [Wa VX] at hh;have hbz:=fun t ht=>(bo3 t ht).1;have hmA:=fun w1 hT1 hS1=>mP (n:Int) D (ay ns) c1 (mK b ns C) (sC n k kb ns) w1 hT1 hS1 VX VX (bo1.mono (by rw [hnl];exact V8 _)) hbz;rw [hnl] at hmk bo2;rw [hmk] at hmA;refine sr ?_;refine aW (aa (ah (cF (aU (aD (aD (bk (ai (sr (mL (aF (mL ?_))))))))))));refine aG (hmA _ (hT.hp hh) (hh.aC (i:=0) rfl)) ar.out rfl VY ?_;rintro e_ w153 ⟨g,og,rfl,h4⟩;refine ⟨_,rfl, ?_⟩;have hgc:g.n≤g.c:=h4.dR (i:=0) rfl;replace hh:=hh.join h4;clear h4;simp only [Wb,V9] at hh;obtain ⟨gv,gA,gn,gc,gt⟩:=g;replace hh:=show Hp w (.row gA gn gc 96 4 (az TR.cells gt)::_) _ from hh;replace hgc:gn≤gc:=hgc;have et:aH (mK b ns C)=gt:=og.t0.symm;have ev_:gv=(n:Int):=og.v0;subst ev_;have gln:gt.length=gn:=(hh.aC (i:=0) rfl).bg TR.len VY;have gl2:gt.length≤4096:=by rw [←et];exact Wz (cq _) VX
          have gok:kI (n:Int) (sC n k kb ns+4096) gt:=by
           rw [←et];exact kx (jC hn12) bo2 (bo1.mono (by rw [hnl];exact V8 _)) hbz VX (V8 _) VX
          have hgex:∀(i d:Nat),ns[i]?=some d→d≤127∧∀t∈gt,j1 i t≤d:=fun i d hd=>⟨hlow d (V7 hd),fun t ht=>by
           rw [←et] at ht;obtain ⟨s,hs,e⟩:=jn t ht;obtain ⟨_,p,hp⟩:=bo3 s hs;rw [ET,←e,hp]
           cases hr:(j5 ns p)[i]? with
           |none=>exact V5 _
           |some r=>exact yD hd hr⟩
          have hall:=G5 hcp VX VX hb VX;have hhv:fu (mD b)=n:=by
           obtain ⟨s,hs⟩:=ak (l:=b) (k:=0) VX;rw [jP (tR hs),hbl]
          obtain ⟨ks,kh⟩:=s9 (o:=⟨(n:Int),gA,gn,gc,gt⟩) (p:=L4 b ns C) (by show (n:Int)=(ns.length:Int);omega) et.symm hkey;have hfit:Tt ⟨(n:Int),gA,gn,gc,gt⟩ os (sC n k kb ns+4096) (kb+10) 2 (kb+16394) ns:=⟨VX,hgex,hgr,VX,VX,fun g hg=>(hall g hg).1,fun g hg=>(hall g hg).2⟩;have hsu:=fun w1 hT1 ha hs hm hc=>qM ⟨(n:Int),gA,gn,gc,gt⟩ A c3 os (sC n k kb ns+4096) (kb+10) 2 (kb+16394) ns w1 hT1 ha ⟨by show gn≤1000000;omega,hgc,gok.ok,gok.sz⟩ hs hm hc hfit;rw [ks,kh,hhv,hol] at hsu;generalize ez (L4 b ns C) (mD b)=R0 at*;refine mT ?_;refine du ?_;refine du ?_;refine bQ hh ?_;intro b25 w25 hh;refine bR hh 0 [_,_] ?_;intro ws hh;replace hh:Hp _ (.blk _ _ [_,_] _::_) _:=hh;refine aI (aa (ah (sr (mI ?_))));refine rQ ?_;refine cn hh 0 [_,_] (mL ?_);refine aG (hsu _ (hT.hp hh) (hh.aC (i:=1) rfl) (hh.aC (i:=4) rfl) (fun z hz=>yn hh (Wg _ (Wg _ (Wg _ (Wg _ (Wg _ (Wg _ (Wg _ (Wg _ (hRR ▸ XX R (hmy z hz).1)))))))))) hoc) ar.out rfl VY ?_
          rintro e_ w162 ⟨z,oz,rfl,h4⟩;refine ⟨_,rfl, ?_⟩;replace hh:=hh.join h4;clear h4;simp only [Wb,V9] at hh;refine du ?_;refine du ?_;refine bR hh 7 [_,_] ?_;intro ws hh;replace hh:Hp _ (_::_::_::_::_::_::_::.blk _ _ [_,_] _::_) _:=hh;refine aI (aa (au ?_));refine Ly (ej rfl (ek (vs:=[_,_]) aO.out (hh.bZ (i:=7) (n:=2) rfl rfl) rfl) (jg (jM rfl) fF)) ?_;exact ⟨z,oz,rfl,hh.sub (V4 _ (WN _))⟩
   ·have hE:rp fx b=1:=by unfold rp;rw [V3 VX,V3 VX,V2 VX]
    rw [h0] at hck;rw [h1] at hbc;rw [hE];have hln:=hf.ln.1;refine Gd ?_;refine sr ?_;refine cf hh [_,_] ?_;intro b2 w2 hh;refine bQ hh ?_;intro b4 w4 hh;refine aI (aa (ah (sr ?_)));refine cn hh 1 [_,_] ?_;refine gi ?_;intro w28 hh;refine aI (aa (sr (mI ?_)));refine nA ?_;refine br hh (hbc _ (hT.hp hh) hh.below) rfl ?_;intro w34 hh;refine aI (aa (sr (mI ?_)));refine k6 ?_;refine bB hh 1 ?_;refine aF ?_;refine cJ (aa (cT (sr ?_)));refine eV [_,_] ?_;exact Sd
  ·have hE:rp fx b=jk b:=by unfold rp;rw [V3 VX,V2 h1]
   rw [h0] at hck;rw [hE];refine Gd ?_;refine sr ?_;refine cf hh [_,_] ?_;intro b2 w2 hh;refine bQ hh ?_;intro b4 w4 hh;refine aI (aa (ah (sr ?_)));refine cn hh 1 [_,_] ?_;refine gi ?_;intro w28 hh;refine aI (aa (sr (mI ?_)));refine nA ?_;refine br hh (hbc _ (hT.hp hh) hh.below) rfl ?_;intro w34 hh;exact OQ
 ·have hE:rp fx b=fx.e:=by unfold rp;rw [V2 h0]
  rw [hE];refine Gd ?_;refine sr ?_;refine cf hh [_,_] ?_;intro b2 w2 hh;refine bQ hh ?_;intro b4 w4 hh;refine aI (aa (ah (sr ?_)));refine cn hh 1 [_,_] ?_;refine gi ?_;intro w28 hh;exact OQ
variable {M:List Nat}{b:Nat}{w w' w0:World}
section
variable {P:Program}{N:Nat}{Q:Kd}{ρ:Rf}{w:World}
theorem WD.mono {c:Code}{Q':Kd} (h:WD P N c Q ρ w) (hq:∀e M ρ w,Q e M ρ w→Q' e M ρ w):WD P N c Q' ρ w:=
 ⟨fun M a hf n=>wpIn_mono (h.out M a hf n) fun e a' w' ⟨M',ρ',hf',hk⟩=>⟨M',ρ',hf',hq e M' ρ' w' hk⟩⟩
theorem Lv {c:Code} (mods:List Nat) (s0 s1:Nat) (I:List Nat→Value→Value→World→Prop) (μ:Value→Value→World→Nat) (h0:I [] (ρ s0) (ρ s1) w)
  (round:∀M ρ' v0 v1 w',I M v0 v1 w'→WD P N c (fun e M2 ρ2 w2=>xY (fun M3 ρ2 w2=>I M3 (ρ2 s0) (ρ2 s1) w2∧μ (ρ2 s0) (ρ2 s1) w2<μ v0 v1 w'∧ji mods ρ2 ρ) Q e (M2++M) ρ2 w2) (cL (cL (mask mods ρ' ρ) s0 v0) s1 v1) w'):WD P N (.loop c) Q ρ w:=
 MS (fun M ρ1 w1=>I M (ρ1 s0) (ρ1 s1) w1∧ji mods ρ1 ρ) (fun ρ1 w1=>μ (ρ1 s0) (ρ1 s1) w1) ⟨h0,fun _ _=>rfl⟩ fun M ρ1 w1 ⟨hi,ha⟩=>by
  have h:=round M ρ1 (ρ1 s0) (ρ1 s1) w1 hi;rw [jr ha,g7,g7] at h;exact h.mono fun e M2 ρ2 w2 hq=>by
   cases e with
   |normal=>exact ⟨⟨hq.1,hq.2.2⟩,hq.2.1⟩
   |_=>exact hq
theorem RE {id:Nat}{next:List Nat→Rf→World→Prop} (h:next M ρ w):Ko (tS M (Ix id (xY next Q))) .normal ρ w:=h
theorem I9 {M0:List Nat}{next:List Nat→Rf→World→Prop} (h:next (M++M0) ρ w):Ko (tS M (fun e M2 ρ2 w2=>xY next Q e (M2++M0) ρ2 w2)) .normal ρ w:=h
theorem Nx {M0:List Nat}{id:Nat}{next next':List Nat→Rf→World→Prop} (h:next' M0 ρ w):Ko (fun e M2 ρ2 w2=>xY next (Ix id (xY next' Q)) e (M2++M0) ρ2 w2) (.exit id) ρ w:=by
 show if id=id then xY next' Q .normal ([]++M0) ρ w else xY next' Q (.exit id) ([]++M0) ρ w
 rw [V2 rfl];exact h
end
structure Marks (w0:World) (M:List Nat) (w:World):Prop where
 at_:∀D∈M,w0.heap.size≤D∧w.heap[D]?=some (.deferred (some []))
 nd:M.Nodup
theorem Gf (M:List Nat):(p9 M).filterMap HE.id=M:=by
 induction M with
 |nil=>rfl
 |cons D M ih=>rw [show p9 (D::M)=.ob D (.deferred (some []))::p9 M from rfl,XS,show HE.id (.ob D (.deferred (some [])))=some D from rfl];simp only [ih]
theorem Hp.marks {H:List HE} (h:Hp w0 (H++p9 M) w):Marks w0 M w:=by
 refine ⟨fun D hD=>h.own (.ob D (.deferred (some []))) (XA _ (List.mem_map_of_mem (f:=fun D=>HE.ob D (.deferred (some []))) hD)), ?_⟩;have:=h.nd;rw [Yu,Gf] at this;exact (Y0.1 this).2.1
theorem Hp.QB {H:List HE} (h:Hp w0 H w) (hc:∀x∈H,x.R9=true) (hm:Marks w0 M w):Hp w0 (H++p9 M) w:=by
 refine ⟨h.below,fun x hx=> ?_, ?_⟩
 ·rcases WI.1 hx with hx|hx
  ·exact h.own x hx
  ·obtain ⟨D,hD,rfl⟩:=Wn.1 hx;exact hm.at_ D hD
 ·rw [Yu,Gf];refine Y0.2 ⟨h.nd,hm.nd,fun a ha b hb e=> ?_⟩;subst e;obtain ⟨y,hy,hyb⟩:=Xe.1 ha;obtain ⟨o',h2,h3⟩:=uK (h.own y hy) (hc y hy) hyb;rw [(hm.at_ a hb).2] at h2
  cases h2
  cases h3
theorem Marks.keeps (h:Marks w0 M w) (hk:KeepsOthers w w'):Marks w0 M w':=⟨fun D hD=>⟨(h.at_ D hD).1,hk.2 D _ (h.at_ D hD).2 rfl⟩,h.nd⟩
theorem Marks.grown {ws:World} (h:Marks w0 M w) (hlt:∀D∈M,D<ws.heap.size) {row:Option Nat} (hg:w.grownBy w' row) (hr:∀r,row=some r→ws.heap.size≤r):Marks w0 M w':=by
 refine ⟨fun D hD=>⟨(h.at_ D hD).1, ?_⟩,h.nd⟩;have h1:=(h.at_ D hD).2;refine (hg.block D (YT.1 h1).1 fun e=> ?_).trans h1;have:=hr D e.symm;have:=hlt D hD;omega
theorem Marks.lt (h:Marks w0 M w):∀D∈M,D<w.heap.size:=fun D hD=>(YT.1 (h.at_ D hD).2).1
theorem Marks.cons {ws:World}{D:Nat} (h:Marks w0 M w) (hlt:∀D∈M,D<ws.heap.size) (h0:w0.heap.size≤ws.heap.size) (hD:ws.heap.size≤D) (h1:w.heap[D]?=some (.deferred (some []))):Marks w0 (D::M) w:=by
 refine ⟨fun E hE=> ?_,X2.2 ⟨fun hm=> ?_,h.nd⟩⟩
 ·rcases Wk.1 hE with rfl|hE
  ·exact ⟨VX,h1⟩
  ·exact h.at_ E hE
 ·have:=hlt D hm;omega
theorem Hp.QW {L:List HE} (h:Hp w0 L w) (hs:(p9 M).Sublist L):Marks w0 M w:=Hp.marks (H:=[]) (h.sub hs)
theorem Hp.Rp {x y:HE}{T T':List HE} (hs:Hp w0 (x::T) w) (hc:∀z∈x::T,z.R9=true) (he:Hp w0 (y::(T'++Ei w0.heap.size ((x::T).filterMap HE.id) w)) w') (hid:T'.filterMap HE.id=T.filterMap HE.id) (hy:y.id=some b):KeepsOthers w w':=by
 have hoth:∀k,k<w.heap.size→w0.heap.size≤k→k∉(x::T).filterMap HE.id→∃o,w.heap[k]?=some o∧HE.ob k o∈Ei w0.heap.size ((x::T).filterMap HE.id) w:=fun k hk h0 hm=>⟨w.heap[k],Yg hk,Xe.2 ⟨k,Xx.2 hk,by
  unfold NO;rw [V2 ⟨h0,by simpa using hm⟩,Yg hk]
  rfl⟩⟩
 have hob:∀z∈Ei w0.heap.size ((x::T).filterMap HE.id) w,z∈y::(T'++Ei w0.heap.size ((x::T).filterMap HE.id) w):=fun z hz=>Wg _ (XA _ hz);have hbl:=dY (he.own y We) hy;have hnd:=he.nd;rw [XS,hy] at hnd;have hnd1:=(X2.1 hnd).1;refine ⟨?_,fun k o h1 h2=> ?_⟩
 ·rcases XP w.heap.size with h|h
  ·omega
  ·have hk:w.heap.size-1<w.heap.size:=VX;by_cases h0:w.heap.size-1<w0.heap.size
   ·have:=he.size;omega
   ·by_cases hm:w.heap.size-1∈(x::T).filterMap HE.id
    ·rw [XS] at hm;have hT:w.heap.size-1∈T.filterMap HE.id→w.heap.size≤w'.heap.size:=fun hm=>by
      obtain ⟨z,hz,hzb⟩:=Xe.1 (hid ▸ hm);have:=(dY (he.own z (Wg _ (XX _ hz))) hzb).2;omega
     split at hm
     ·exact hT hm
     ·rename_i r hr
      rcases Wk.1 hm with e|hm
      ·by_cases hb:b<w.heap.size
       ·by_cases hbk:b=w.heap.size-1
        ·omega
        ·exfalso;by_cases hbm:b∈(x::T).filterMap HE.id
         ·rw [XS,hr] at hbm
          rcases Wk.1 hbm with e2|hbm
          ·omega
          ·rw [←hid] at hbm;exact hnd1 (by rw [Yu];exact XX _ hbm)
         ·obtain ⟨o,_,h3⟩:=hoth b hb hbl.1 hbm;exact hnd1 (by rw [Yu];exact XA _ (Xe.2 ⟨_,h3,rfl⟩))
       ·omega
      ·exact hT hm
    ·obtain ⟨o,_,h3⟩:=hoth _ hk VX hm;have:=(dY (he.own _ (hob _ h3)) rfl).2;omega
 ·have hk:=(YT.1 h1).1;by_cases h0:k<w0.heap.size
  ·exact (he.below.block k h0).trans ((hs.below.block k h0).symm.trans h1)
  ·by_cases hm:k∈(x::T).filterMap HE.id
   ·obtain ⟨z,hz,hzb⟩:=Xe.1 hm;obtain ⟨o',h3,h4⟩:=uK (hs.own z hz) (hc z hz) hzb;rw [h1] at h3
    cases h3
    rw [h2] at h4
    cases h4
   ·obtain ⟨o',h3,h4⟩:=hoth k hk VX hm;rw [h1] at h3
    cases h3
    exact (he.own _ (hob _ h4)).2
variable {k q:Nat}
def mC (d:Nat) (t:Dyadic) (xs:List Dyadic) (i:Nat):Dyadic:=sm (List.range i) fun r=>jT xs r*vE d r t
theorem GW (d:Nat) (t:Dyadic) (xs:List Dyadic) (i:Nat):mC d t xs (i+1)=mC d t xs i+jT xs i*vE d i t:=by
 unfold mC;rw [YZ,od]
theorem yN {d i:Nat}{t:Dyadic}{xs:List Dyadic} (hx:∀x∈xs,Sz k x) (ht:Sz q t) (ht1:Sz q (1-t)) (hi:i≤d+1):Sz (k+(2+2*(q*d))+i) (mC d t xs i):=by
 have h2:=Ch (l:=List.range i) (f:=fun r=>jT xs r*vE d r t) (k:=k+(2+2*(q*d))) fun r hr=>by
  have hr:=Xx.1 hr;unfold vE;exact ((yu hx r).mul ((ht.AQ (show r≤d by omega)).mul (ht1.AQ (show d-r≤d by omega)))).mono VX
 rw [YH] at h2;exact h2
theorem vR (tn:NR) (t:Dyadic) (bt bl:Addr) (L:Option Addr) (n c d:Nat) (xs:List Dyadic) (k q:Nat) (w:World) (hT:eK w) (hS:Sl w L n 3 (az NR.cells (xs.map nR))) (hn:n=d+1) (hd:d≤127) (hx:∀x∈xs,Sz k x) (vt:PB q tn t) (ht1:Sz q (1-t))
  (hb1:Rd w bt [.bool tn.neg,.string tn.bf,.int .i64 tn.e]) (hb2:Rd w bl [.bool (nR (1-t)).neg,.string (nR (1-t)).bf,.int .i64 (nR (1-t)).e]) (hk:k≤500000) (hq:q≤2000):
  Calls Tryz.prog 191 #[.slice L n c,.pointer (some bt),.pointer (some bl)] w fun r w'=>r=.returned (.agg #[.bool (nR (mC d t xs (d+1))).neg,.string (nR (mC d t xs (d+1))).bf,.int .i64 (nR (mC d t xs (d+1))).e])∧Below w.heap.size w w':=by
 have hh:=Hp.start w;have hln:xs.length=n:=by have:=hS.bg NR.len VY;simpa using this
 have hqd:q*d≤2000*127:=XM hq hd;have ht:=vt.sz;have hpw:∀(sn:NR) (z:Dyadic),PB q sn z→∀(i:Nat),i≤d→∀w1,eK w1→Calls Tryz.prog 51 #[.agg #[.bool sn.neg,.string sn.bf,.int .i64 sn.e],.int .i64 (i:Int)] w1 fun r w'=>r=.returned (.agg #[.bool (nR (z^i)).neg,.string (nR (z^i)).bf,.int .i64 (nR (z^i)).e])∧Below w1.heap.size w1 w':=fun sn z hz i hi w1 hT1=>by
  have h1:=hz.bf;have h2:i*sn.bf.size≤127*2001:=XM VX VX;have:=uL sn i w1 hT1 hz.ok (by rw [Xs];omega) VX;rwa [hz.d,Xs] at this
 obtain ⟨ad,rfl,hr⟩:=hS.at_ VX;refine aj (N:=35) (l:=[.slice (some ad) n c,.pointer (some bt),.pointer (some bl)]) Tryz.func191 rfl rfl (by simp) ?_;refine sr ?_;refine bQ hh ?_;intro b4 w4 hh;refine aa (sr (mL (aF ?_)));refine dQ (aI (aa (sr ?_)));refine bQ hh ?_;intro b6 w6 hh;refine vY ?_;refine aM [7,8,14,15,16,17,18,19,20,21,22,23,24,25,26,27,28,29,30,31,32,33] 14
  (fun v w'=>∃i:Nat,i≤n∧v=.int .i64 i∧Hp w [.blk b6 65 [.bool (nR (mC d t xs i)).neg,.string (nR (mC d t xs i)).bf,.int .i64 (nR (mC d t xs i)).e] (0,0),.blk b4 65 [.bool false,.string (ByteArray.mk #[]),.int .i64 0] (0,0)] w')
  (fun v _=>n-(intOf v).toNat) ?_ ?_
 ·exact ⟨0,V5 _,rfl,hh⟩
 ·clear hh;rintro ρ' v w' ⟨i,hi,rfl,hh⟩;by_cases hlt:i<n
  ·obtain ⟨x,hxi⟩:=ak (l:=xs) (k:=i) VX;have hxn:(xs.map nR)[i]?=some (nR x):=by rw [Wf,hxi];rfl
   have hat:jT xs i=x:=by unfold jT;rw [hxi];rfl
   have zx:=hx x (V7 hxi);have hpa:=hpw tn t vt i VX;have hpb:=hpw (nR (1-t)) (1-t) (PB.of ht1 hq) (d-i) VX;have zp:=ht.AQ (show i≤d by omega);have zq:=ht1.AQ (show d-i≤d by omega);have zo:=yN (d:=d) (i:=i) hx ht ht1 VX;have zy:=(zx.mul zp).mul zq;have hst:=GW d t xs i;unfold vE at hst;rw [hat,←Dyadic.mul_assoc] at hst;have hm3:=fun A cc w1 hT1 hS1=>fH A 3 cc [nR x,nR (t^i),nR ((1-t)^(d-i))] w1 hT1 hS1 (by simpa using ⟨zx.ok VX,zp.ok VX,zq.ok VX⟩) 600000 (by simpa [cm] using ⟨zx.mono VX,zp.mono VX,zq.mono VX⟩) VX VX;rw [show iD ([nR x,nR (t^i),nR ((1-t)^(d-i))].map NR.d)=x*t^i*(1-t)^(d-i) by simp only [Wv,WV,cm];show 1*x*_*_=_;rw [Ye]] at hm3;generalize x*t^i*(1-t)^(d-i)=y at*;have hsum:=fun A cc w1 hT1 hS1=>jl A 2 cc [nR (mC d t xs i),nR y] w1 hT1 hS1 (by simpa using ⟨zo.ok VX,zy.ok VX⟩) 2000000 (by simpa [cm] using ⟨zo.mono VX,zy.mono VX⟩) VX;rw [show m6 ([nR (mC d t xs i),nR y].map NR.d)=mC d t xs i+y by simp only [Wv,WV,cm,lL],←hst] at hsum;generalize hS2:mC d t xs (i+1)=S2 at*
   generalize mC d t xs i=S1 at*;have e27:(n:Int)-1-(i:Int)=((d-i:Nat):Int):=VX;refine sr ?_;refine eH ?_;refine fp ?_;refine IM ?_;refine bQ hh ?_;intro b8 w8 hh;refine aI ?_;refine bR hh 0 [_,_,_] ?_;intro ws hh;replace hh:Hp _ (.blk _ _ [_,_,_] _::_) _:=hh;refine aa ?_;rw [←e27] at hpb;refine aT 12 [[(6,none)],[(8,none)],[(1,none)],[(7,none)],[(21,some 2),(22,some 3)],[(2,none)],[(5,none)],[(7,none)],[(25,some 6),(26,some 7)],[(24,some 5),(27,some 8)],[(20,some 1),(23,some 4),(28,some 9)],[(29,some 10)]] [(11,30),(10,29),(9,28),(8,27),(7,26),(6,25),(5,24),(4,23),(3,22),(2,21),(1,20),(0,19)] hh mixed VZ ?_;refine ee 1 [_,_,_] ?_;refine ee 0 [_,_,_] ?_;refine mJ [_,_,_] (fun _ hj=>hb1.ext hj.hp.below) ?_;refine cM ?_;refine dC (fun _ hj=>hpa _ (hT.hp hj.hp)) ?_;refine mJ [_,_,_] (fun _ hj=>hb2.ext hj.hp.below) ?_;refine cM ?_;refine cM ?_;refine pE ?_;refine dC (fun _ hj=>hpb _ (hT.hp hj.hp)) ?_;refine oB [_,_,_,_,_,_,_,_,_] ?_;refine aN (i:=11) (Is (.agg #[.bool (nR y).neg,.string (nR y).bf,.int .i64 (nR y).e])) Is.ext ?_ ?_
   ·intro ρ1 w1 hj hR;obtain ⟨A29,c29,h29,s29⟩:=hR.1;exact bh rfl (aP ar.out (av h29 a6)) (hm3 A29 c29 _ (hT.hp hj.hp) s29) (fun _ _ hq=>⟨_,hq.1,hq.2,rfl⟩)
   refine aJ ?_;intro f W hJ hV;have hb_6:=hJ.bl;obtain ⟨v30,v29,v28,v27,v26,v25,v24,v23,v22,v21,v20,v19,_⟩:=hV;obtain ⟨A29,c29,e29,f29⟩:Rows _ _ _ (f 10) W:=v29;replace hh:=hJ.hp;refine aR (a8 (ae v30 (ae e29 (ae v28 (ae v27 (ae v26 (ae v25 (ae v24 (ae v23 (ae v22 (ae v21 (ae v20 (ae v19 aQ))))))))))))) ?_;dsimp only [bH];clear e29 hJ;refine wQ ?_;intro b31 w31 hh;refine br hh (hsum _ _ _ (hT.hp hh) (hh.aC (i:=0) rfl)) rfl ?_;intro w32 hh;refine bR hh 2 [_,_,_] ?_;intro ws hh;replace hh:Hp _ (_::_::.blk _ _ [_,_,_] _::_) _:=hh;refine gy ?_;refine a9 (mI (aA (ai ?_)));replace hh:=hh.sub (V6 _ (V6 _ (V4 _ (V4 _ Wq))));refine ⟨⟨i+1,VX,rfl,by rw [hS2];exact hh⟩,by show n-(i+1)<n-i;omega, ?_⟩;exact dy
  ·obtain rfl:i=n:=VX;rw [show i=d+1 from hn] at hh;refine sr ?_;refine mY ?_;refine cn hh 0 [_,_,_] ?_;exact RO
theorem yp (tn:NR) (t:Dyadic) (q:Nat) (w:World) (hT:eK w) (vt:PB q tn t) (hq:q≤2000):
  Calls Tryz.prog 125 #[.agg #[.bool tn.neg,.string tn.bf,.int .i64 tn.e]] w fun r w'=>∃b1 b3,r=.returned (.func (.func 191) #[] #[.pointer (some ⟨b1,0,none⟩),.pointer (some ⟨b3,0,none⟩)])∧Hp w [.blk b3 65 [.bool (nR (1-t)).neg,.string (nR (1-t)).bf,.int .i64 (nR (1-t)).e] (0,0),.blk b1 65 [.bool tn.neg,.string tn.bf,.int .i64 tn.e] (0,0)] w':=by
 have hh:=Hp.start w;have hof:∀w1,eK w1→Calls Tryz.prog 50 #[.int .i64 1] w1 fun r w'=>r=.returned (.agg #[.bool (nR (1:Dyadic)).neg,.string (nR (1:Dyadic)).bf,.int .i64 (nR (1:Dyadic)).e])∧Below w1.heap.size w1 w':=fun w1 hT1=>lN 1 w1 hT1 VY VY;have hsb:=fun w1 hT1=>mj (nR (1:Dyadic)) tn w1 hT1 (Sz.one.ok VX) vt.ok (q+1) (by rw [cm];exact Sz.one.mono VX) (by rw [vt.d];exact vt.sz.mono VX) VX;simp only [cm,vt.d] at hsb;refine aj (N:=8) (l:=[.agg #[.bool tn.neg,.string tn.bf,.int .i64 tn.e]]) Tryz.func125 rfl rfl (by simp) ?_;refine sr ?_;refine cf hh [_,_,_] ?_;intro b1 w1 hh;refine kB (by first|exact te rfl|exact sP rfl) VY ?_;refine aa (ah ?_);refine aT 4 [[],[(1,none)],[(4,some 0),(5,some 1)],[]] [(3,3),(2,6),(1,5),(0,4)] hh mixed VZ ?_;refine dC (fun _ hj=>hof _ (hT.hp hj.hp)) ?_;refine ee 0 [_,_,_] ?_;refine dC (fun _ hj=>hsb _ (hT.hp hj.hp)) ?_;refine aN (i:=3) (cO _ 65 _) cO.ext (fun ρ1 w1 hj hR=>g8 aO.out hj.bl (fun v w2 h hb=>⟨hb,h⟩)) ?_;refine aJ ?_;intro f W hJ hV;have hb_1:=hJ.bl;obtain ⟨v3,v6,v5,v4,_⟩:=hV;obtain ⟨b3,e3,hl3,hc3⟩:cO _ _ _ (f 3) W:=v3;replace hh:=hJ.newVar hh hl3 hc3
 refine aR (a8 (ae e3 (ae v6 (ae v5 (ae v4 aQ))))) ?_;dsimp only [bH];clear e3 hJ;refine bR hh 0 [_,_,_] ?_;intro ws hh;replace hh:Hp _ (.blk _ _ [_,_,_] _::_) _:=hh;refine aa (sr ?_);exact TC
variable {ad:Addr}{m n:Nat}
theorem Sl.part {l:List NR} (h:Sl w (some ad) n 3 (az NR.cells l)) (p m:Nat) (hpm:p+m≤n) (hm:0<m):Sl w (some (ad.add (p*3))) m 3 (az NR.cells ((l.drop p).take m)):=by
 have hl:=h.bg NR.len VY;obtain ⟨ad',e,r⟩:=h.2 VX;obtain rfl:ad=ad':=WZ e;refine ⟨by rw [fw NR.len,Wp,Xk,hl,Xd VX],fun _=>⟨_,rfl,fun j u hu=> ?_⟩⟩;rw [mf];refine r (p*3+j) u ?_;rw [←jz NR.len,←gH NR.len,XL] at hu;split at hu
 ·rw [XU] at hu;exact hu
 ·cases hu
def mV (K q:Nat) (X:List Dyadic):List Dyadic:=(X.drop (q*K)).take K
theorem xU (K q:Nat) (X:List Dyadic):((X.map nR).drop (q*K)).take K=(mV K q X).map nR:=by unfold mV;rw [YY,YG]
theorem rB {K:Nat}{X:List Dyadic}{x:Dyadic} (h:x∈mV K q X):x∈X:=Zb (X1 h)
theorem wx {d:Nat} (t:Dyadic) (X:List Dyadic):mC d t (mV (d+1) q X) (d+1)=sm (List.range (d+1)) fun r=>(X[r+(d+1)*q]?).getD 0*vE d r t:=by
 unfold mC;refine fN fun r hr=> ?_;have hr:=Xx.1 hr;unfold jT mV;rw [XL,V2 hr,XU,show q*(d+1)+r=r+(d+1)*q by rw [WB];omega]
theorem Ip {d:Nat} (t:Dyadic) (X:List Dyadic) (h:q<m):(lO d t m X)[q]?=some (mC d t (mV (d+1) q X) (d+1)):=by
 unfold lO;rw [Wf,Xc h,wx]
 rfl
theorem Ke {d:Nat}{t:Dyadic}{X:List Dyadic} (hx:∀x∈X,Sz k x) (ht:Sz q t) (ht1:Sz q (1-t)):∀x∈lO d t m X,Sz (k+(2+2*(q*d))+(d+1)) x:=fun x h=>by
 obtain ⟨p,_,rfl⟩:=Wn.1 h;rw [←wx];exact yN (fun y hy=>hx y (rB hy)) ht ht1 (V8 _)
theorem Ej {ns:List Nat}{ts:List Dyadic}{i d:Nat}{t:Dyadic} (X:List Dyadic) (hd:ns[i]?=some d) (ht:ts[i]?=some t):oR (ns.take (i+1)).reverse (ts.take (i+1)).reverse X=oR (ns.take i).reverse (ts.take i).reverse (lO d t (ay (ns.take i)) X):=by
 rw [aw hd,aw ht,Yz,Yz];show oR (d::(ns.take i).reverse) (t::(ts.take i).reverse) X=_;rw [oR,db]
def Jz (fx:FX) (m:Nat):Int:=if fx.e≠0 then fx.e else if m≠fx.n then 1 else 0
def Ng (fx:FX) (tn:List NR):Dyadic:=if Jz fx tn.length=0 then yk fx.ns.reverse (fx.cs.map NR.d) (tn.map NR.d).reverse else 0
variable {fuel:Nat}{next:Rf→World→Prop}{ops:Array Oper}{rs:List Nat}
section
variable {P:Program}{N:Nat}{Q:Kq}{ρ:Rf}{w:World}{ro:Option Nat}{D:List Deferred}
structure WR (ro:Option Nat) (D:List Deferred) (P:Program) (N:Nat) (ops:Array Oper) (Q:Kq) (fuel:Nat) (L:Array Bool) (ρ:Rf) (w:World):Prop where
 out:∀a,eW N D a ρ→∀n,wpAnyIn (FW ro) n P .any ops (dK N D Q) fuel L a w
theorem x6 {F:Fence}{o:Oper}{a:Act}{K:Act→World→Prop}{r:Result Next} (h:o.uponIn F n P a K (dK N D (cI next Q)) r):o.uponIn F n P a K (dK N D Q) r:=by
 have hp:∀c a w,dK N D (cI next Q) (.panic c) a w→dK N D Q (.panic c) a w:=fun _ _ _ h=>h;have ho:LetsOut (dK N D (cI next Q))→LetsOut (dK N D Q):=fun ⟨a,w,h⟩=>⟨a,w,h⟩
 cases r with
 |ok n w'=>
  cases n<;>simp only [Oper.uponIn] at h ⊢ <;>first
   |exact h
   |exact ⟨h.1,CallsIn.mono h.2 (fun e w'' he=>by cases e<;>first|exact he|exact hp _ _ _ he|exact ho he)⟩
   |exact ⟨h.1,RoundIn.mono h.2 (fun e w'' he=>by cases e<;>first|exact he|exact hp _ _ _ he|exact ho he)⟩
 |halt x w'=>cases x<;>simp only [Oper.uponIn] at h ⊢ <;>first|exact h|exact hp _ _ _ h|exact ho h
theorem yX {L:Array Bool} (hr:Region.ready .any ops L=rs) (hne:rs≠[])
  (h:∀i∈rs,∃o,ops[i]?=some o∧WL ⟨ro,D,true⟩ P N ops (cI (fun ρ w=>WR ro D P N ops Q fuel (L.setIfInBounds i true) ρ w) Q) [o] ρ w):WR ro D P N ops Q (fuel+1) L ρ w:=by
 refine ⟨fun a hf n=>⟨fun e=>absurd (hr.symm.trans e) hne,fun i hi=> ?_⟩⟩;rw [hr] at hi;obtain ⟨o,ho,hw⟩:=h i hi;have h1:=hw.j8 a hf n;have hK:∀a w,wpListIn (FW ro) n P ops (dK N D (cI (fun ρ w=>WR ro D P N ops Q fuel (L.setIfInBounds i true) ρ w) Q)) [] a w→wpAnyIn (FW ro) n P .any ops (dK N D Q) fuel (L.setIfInBounds i true) a w:=fun a w ⟨ρ',hf',hq⟩=>by
  have hq':WR ro D P N ops Q fuel (L.setIfInBounds i true) ρ' w:=hq;exact hq'.out a hf' n
 unfold wpOpIn;rw [ho];simp only [];unfold wpListIn at h1;split at h1
 ·rename_i hwt;rw [V2 hwt];have h2:=Oper.wpIn_mono hK h1;unfold Oper.wpIn at h2 ⊢;exact ⟨h2.1,x6 h2.2⟩
 ·rename_i hwt;rw [V3 hwt];exact ⟨h1.1,hK _ _ h1.2⟩
theorem RJ {L:Array Bool} (hr:Region.ready .any ops L=[]) (h:Q .normal ρ w):WR ro D P N ops Q fuel L ρ w:=
 ⟨fun a hf n=>by
  cases fuel with
  |zero=>exact ⟨hr,ρ,hf,h⟩
  |succ fuel=>exact ⟨fun _=>⟨ρ,hf,h⟩,fun i hi=>by rw [hr] at hi;cases hi⟩⟩
theorem Jb {id:Nat}{l:List Oper}{H:List HE} (hh:Hp w0 H w) (hm:P.follows .mixedOrders=true) (h:∀w',JJ w0 H w w'→WR ro D P N l.toArray Q l.length (Array.replicate l.length false) ρ w'):WC ⟨ro,D,true⟩ P N (.region id l.toArray true) Q ρ w:=by
 refine ⟨fun h=>(by cases h),fun a hf n=>wpIn_region_any hm ?_⟩;have hb:Below w.heap.size w ({ w with drawn:=w.drawn+1 }:World):=⟨rfl,rfl,rfl,V8 _,fun _ _=>rfl⟩;have:=(h _ ((JJ.start hh).ext hb)).out a hf n;simpa using this
theorem zn {F:Fence}{o:Oper}{a:Act}{K:Act→World→Prop}{Q1 Q2:Exit→Act→World→Prop}{r:Result Next} (hq:∀e a w,Q1 e a w→Q2 e a w) (h:o.uponIn F n P a K Q1 r):o.uponIn F n P a K Q2 r:=by
 have ho:LetsOut Q1→LetsOut Q2:=fun ⟨a,w,h⟩=>⟨a,w,hq _ _ _ h⟩
 cases r with
 |ok n w'=>
  cases n<;>simp only [Oper.uponIn] at h ⊢ <;>first
   |exact h
   |exact ⟨h.1,CallsIn.mono h.2 (fun e w'' he=>by cases e<;>first|exact he|exact hq _ _ _ he|exact ho he)⟩
   |exact ⟨h.1,RoundIn.mono h.2 (fun e w'' he=>by cases e<;>first|exact he|exact hq _ _ _ he|exact ho he)⟩
 |halt x w'=>cases x<;>simp only [Oper.uponIn] at h ⊢ <;>first|exact h|exact hq _ _ _ h|exact ho h
theorem rK {o:Oper}{A B:Rf→World→Prop} (h:WL ⟨ro,D,true⟩ P N ops (cI A qw) [o] ρ w) (hi:∀ρ w,A ρ w→B ρ w):WL ⟨ro,D,true⟩ P N ops (cI B Q) [o] ρ w:=by
 refine ⟨fun h=>(by cases h),fun a hf n=> ?_⟩;have h1:=h.j8 a hf n;have hq:∀e a w,dK N D (cI A qw) e a w→dK N D (cI B Q) e a w:=fun e a w ⟨ρ',hf',hk⟩=>⟨ρ',hf',by
  cases e with
  |normal=>exact hi _ _ hk
  |_=>exact hk.elim⟩
 unfold wpListIn at h1 ⊢;split at h1
 ·rename_i hwt;rw [V2 hwt];have h2:=Oper.wpIn_mono (K':=wpListIn (FW ro) n P ops (dK N D (cI B Q)) []) (fun a w h=>hq .normal a w h) h1;unfold Oper.wpIn at h2 ⊢;exact ⟨h2.1,zn hq h2.2⟩
 ·rename_i hwt;rw [V3 hwt];exact ⟨h1.1,hq .normal _ _ h1.2⟩
theorem Ky {o0 o1 o2 o3 o4 o5 o6:Oper}{I:Bool→Bool→Bool→Bool→Bool→Rf→World→Prop}{J K:Rf→World→Prop}
  (e0:ops[0]?=some o0) (e1:ops[1]?=some o1) (e2:ops[2]?=some o2) (e3:ops[3]?=some o3) (e4:ops[4]?=some o4) (e5:ops[5]?=some o5) (e6:ops[6]?=some o6)
  (r0:Region.ready .any ops #[false,false,false,false,false,false,false]=[0,1,2])
  (r1:Region.ready .any ops #[false,true,false,false,false,false,false]=[0,2])
  (r2:Region.ready .any ops #[false,false,true,false,false,false,false]=[0,1])
  (r3:Region.ready .any ops #[false,true,true,false,false,false,false]=[0,3])
  (r4:Region.ready .any ops #[false,true,true,true,false,false,false]=[0,4])
  (r5:Region.ready .any ops #[false,true,true,true,true,false,false]=[0])
  (q0:Region.ready .any ops #[true,false,false,false,false,false,false]=[1,2])
  (q1:Region.ready .any ops #[true,true,false,false,false,false,false]=[2])
  (q2:Region.ready .any ops #[true,false,true,false,false,false,false]=[1])
  (q3:Region.ready .any ops #[true,true,true,false,false,false,false]=[3])
  (q4:Region.ready .any ops #[true,true,true,true,false,false,false]=[4])
  (q5:Region.ready .any ops #[true,true,true,true,true,false,false]=[5])
  (q6:Region.ready .any ops #[true,true,true,true,true,true,false]=[6])
  (q7:Region.ready .any ops #[true,true,true,true,true,true,true]=[])
  (s0:∀a b e g ρ w,I false a b e g ρ w→WL ⟨ro,D,true⟩ P N ops (cI (fun ρ w=>I true a b e g ρ w) qw) [o0] ρ w)
  (s1:∀c b ρ w,I c false b false false ρ w→WL ⟨ro,D,true⟩ P N ops (cI (fun ρ w=>I c true b false false ρ w) qw) [o1] ρ w)
  (s2:∀c a ρ w,I c a false false false ρ w→WL ⟨ro,D,true⟩ P N ops (cI (fun ρ w=>I c a true false false ρ w) qw) [o2] ρ w)
  (s3:∀c ρ w,I c true true false false ρ w→WL ⟨ro,D,true⟩ P N ops (cI (fun ρ w=>I c true true true false ρ w) qw) [o3] ρ w)
  (s4:∀c ρ w,I c true true true false ρ w→WL ⟨ro,D,true⟩ P N ops (cI (fun ρ w=>I c true true true true ρ w) qw) [o4] ρ w)
  (s5:∀ρ w,I true true true true true ρ w→WL ⟨ro,D,true⟩ P N ops (cI J qw) [o5] ρ w)
  (s6:∀ρ w,J ρ w→WL ⟨ro,D,true⟩ P N ops (cI K qw) [o6] ρ w)
  (fin:∀ρ w,K ρ w→Q .normal ρ w) (st:I false false false false false ρ w):WR ro D P N ops Q 7 #[false,false,false,false,false,false,false] ρ w:=by
 have one:∀{fuel:Nat}{L:Array Bool}{i:Nat}{o:Oper}{ρ:Rf}{w:World}{A:Rf→World→Prop},Region.ready .any ops L=[i]→ops[i]?=some o→WL ⟨ro,D,true⟩ P N ops (cI A qw) [o] ρ w→(∀ρ w,A ρ w→WR ro D P N ops Q fuel (L.setIfInBounds i true) ρ w)→WR ro D P N ops Q (fuel+1) L ρ w:=fun hr ho h hi=>
  yX hr (by simp) fun j hj=>by
   obtain rfl:=Wj.1 hj;exact ⟨_,ho,rK h hi⟩
 have two:∀{fuel:Nat}{L:Array Bool}{i j:Nat}{o p:Oper}{ρ:Rf}{w:World}{A B:Rf→World→Prop},Region.ready .any ops L=[i,j]→ops[i]?=some o→ops[j]?=some p→WL ⟨ro,D,true⟩ P N ops (cI A qw) [o] ρ w→(∀ρ w,A ρ w→WR ro D P N ops Q fuel (L.setIfInBounds i true) ρ w)→WL ⟨ro,D,true⟩ P N ops (cI B qw) [p] ρ w→(∀ρ w,B ρ w→WR ro D P N ops Q fuel (L.setIfInBounds j true) ρ w)→WR ro D P N ops Q (fuel+1) L ρ w:=fun hr ho hp h hi h2 hi2=>
  yX hr (by simp) fun k hk=>by
   rcases Wk.1 hk with rfl|hk
   ·exact ⟨_,ho,rK h hi⟩
   ·obtain rfl:=Wj.1 hk;exact ⟨_,hp,rK h2 hi2⟩
 have n7:∀ρ w,K ρ w→WR ro D P N ops Q 0 #[true,true,true,true,true,true,true] ρ w:=fun ρ w h=>RJ q7 (fin ρ w h);have n6:∀ρ w,J ρ w→WR ro D P N ops Q 1 #[true,true,true,true,true,true,false] ρ w:=fun ρ w h=>one q6 e6 (s6 ρ w h) n7;have n5:∀ρ w,I true true true true true ρ w→WR ro D P N ops Q 2 #[true,true,true,true,true,false,false] ρ w:=fun ρ w h=>one q5 e5 (s5 ρ w h) n6;have n4:∀ρ w,I true true true true false ρ w→WR ro D P N ops Q 3 #[true,true,true,true,false,false,false] ρ w:=fun ρ w h=>one q4 e4 (s4 true ρ w h) n5;have m5:∀ρ w,I false true true true true ρ w→WR ro D P N ops Q 3 #[false,true,true,true,true,false,false] ρ w:=fun ρ w h=>one r5 e0 (s0 _ _ _ _ ρ w h) n5;have m4:∀ρ w,I false true true true false ρ w→WR ro D P N ops Q 4 #[false,true,true,true,false,false,false] ρ w:=fun ρ w h=>two r4 e0 e4 (s0 _ _ _ _ ρ w h) n4 (s4 false ρ w h) m5;have n3:∀ρ w,I true true true false false ρ w→WR ro D P N ops Q 4 #[true,true,true,false,false,false,false] ρ w:=fun ρ w h=>one q3 e3 (s3 true ρ w h) n4
 have m3:∀ρ w,I false true true false false ρ w→WR ro D P N ops Q 5 #[false,true,true,false,false,false,false] ρ w:=fun ρ w h=>two r3 e0 e3 (s0 _ _ _ _ ρ w h) n3 (s3 false ρ w h) m4;have n1:∀ρ w,I true true false false false ρ w→WR ro D P N ops Q 5 #[true,true,false,false,false,false,false] ρ w:=fun ρ w h=>one q1 e2 (s2 true true ρ w h) n3;have n2:∀ρ w,I true false true false false ρ w→WR ro D P N ops Q 5 #[true,false,true,false,false,false,false] ρ w:=fun ρ w h=>one q2 e1 (s1 true true ρ w h) n3;have m1:∀ρ w,I false true false false false ρ w→WR ro D P N ops Q 6 #[false,true,false,false,false,false,false] ρ w:=fun ρ w h=>two r1 e0 e2 (s0 _ _ _ _ ρ w h) n1 (s2 false true ρ w h) m3;have m2:∀ρ w,I false false true false false ρ w→WR ro D P N ops Q 6 #[false,false,true,false,false,false,false] ρ w:=fun ρ w h=>two r2 e0 e1 (s0 _ _ _ _ ρ w h) n2 (s1 false true ρ w h) m3;have n0:∀ρ w,I true false false false false ρ w→WR ro D P N ops Q 6 #[true,false,false,false,false,false,false] ρ w:=fun ρ w h=>two q0 e1 e2 (s1 true false ρ w h) n1 (s2 true false ρ w h) n2
 refine yX r0 (by simp) fun k hk=> ?_
 rcases Wk.1 hk with rfl|hk
 ·exact ⟨_,e0,rK (s0 _ _ _ _ ρ w st) n0⟩
 ·rcases Wk.1 hk with rfl|hk
  ·exact ⟨_,e1,rK (s1 false false ρ w st) m1⟩
  ·obtain rfl:=Wj.1 hk;exact ⟨_,e2,rK (s2 false false ρ w st) m2⟩
end
instance:aO Tryz.prog 148 1 false 8 [.nilFunc]:={}
theorem AW (fx:FX) (L:Option Addr) (m2 c2:Nat) (tn:List NR) (k q G:Nat) (w:World) (hT:eK w) (hf:fx.at_ w) (hl:fx.jX k) (hcap:fx.m≤fx.b) (hS:Sl w L m2 3 (az NR.cells tn)) (hv:∀s∈tn,PB q s s.d∧Sz q (1-s.d)) (hq:q≤2000)
  (hG:fx.e=0→∀d∈fx.ns,2+2*(q*d)+(d+1)≤G) (hk:k+fx.n*G≤500000):
  Calls Tryz.prog 39 #[.agg #[.slice fx.A fx.n fx.a,.slice fx.B fx.m fx.b],.slice L m2 c2] w fun r w'=>r=.returned (.tuple #[.agg #[.bool (nR (Ng fx tn)).neg,.string (nR (Ng fx tn)).bf,.int .i64 (nR (Ng fx tn)).e],.int .i64 (Jz fx m2)])∧Below w.heap.size w w':=by
 have hh:=Hp.start w;have hck:=fun w1 hT1 hb=>yI fx k w1 hT1 (hf.ext hb) hl;have hlt:=hS.bg NR.len VY;have hev0:Jz fx m2≠0→Ng fx tn=0:=fun h=>by unfold Ng;rw [hlt,V3 h]
 by_cases h0:fx.e=0
 ·by_cases h1:m2=fx.n
  ·have hE:Jz fx m2=0:=by unfold Jz;rw [V3 VX,V3 VX]
   have hV:Ng fx tn=yk fx.ns.reverse (fx.cs.map NR.d) (tn.map NR.d).reverse:=by unfold Ng;rw [hlt,hE,V2 rfl]
   rw [hE,hV];obtain ⟨hdeg,hnum,h12,hlow,hcnt,hmax⟩:=FX.fv h0;have hln:fx.ds.length=fx.n:=hf.ln.1;have hlm:=hf.ln.2;have hnl:fx.ns.length=fx.n:=by unfold FX.ns;rw [Wh];exact hln
   have hm:fx.m=ay fx.ns:=by rw [←hlm,hcnt]
   have hdg:Sl w fx.A fx.n 1 (bC (bU fx.ns)):=by rw [←hdeg];exact hf.dg
   have hxz:∀x∈fx.cs.map NR.d,Sz k x:=fun x h=>by
    obtain ⟨c,hc,rfl⟩:=Wn.1 h;exact (hl.num c hc).2
   have hxl:(fx.cs.map NR.d).length=ay fx.ns:=by rw [Wh,hcnt]
   have hval:=xJ fx.ns.reverse (tn.map NR.d).reverse (fx.cs.map NR.d) (by rw [W3,W3,Wh];omega) (by rw [hxl,db]);have hnm:Sl w fx.B (ay fx.ns) 3 (az NR.cells ((fx.cs.map NR.d).map nR)):=by rw [←hm,←hnum];exact hf.nm
   have hG:=hG h0;rw [hm] at hcap;refine I3 ?_;refine j0 fun D_=> ?_;refine al ?_;refine cf hh [_,_] ?_;intro b2 w2 hh;refine bQ hh ?_;intro b4 w4 hh;refine aI (aa ?_);refine j0 fun D_=> ?_;refine sr ?_;refine cn hh 1 [_,_] ?_;refine gi ?_;intro w13 hh;refine aI (aa (sr (mI ?_)));refine cJ (aa (cF (ao (ai ?_))));refine j0 fun D_=> ?_;refine sr (mL (aF (bE ?_)));refine bB hh 1 ?_;refine aF ?_;refine cJ (aa (cF (ao (ai ?_))));refine j0 fun D_=> ?_;refine al (bE ?_);refine bB hh 1 ?_;refine aL (aa ?_);refine ye ?_;refine j0 fun D_=> ?_;refine al (mL (aF ?_));refine dQ (aI (aa ?_));rw [hm];have hst:∀(H:List HE) (w1:World),Hp w (H++[]) w1→Sl w1 fx.B (ay fx.ns) 3 (az NR.cells ((fx.cs.map NR.d).map nR)):=fun H w1 h=>hnm.ext h.below;generalize fx.cs.map NR.d=xs at*;refine tJ (Lv [7,8,9,10,11,30,31,32,33,34,35,36,37,38,39,40,41,42,43,44,45,46,47,48,49,50,51,52,53,54] 7 8
    (fun M v7 v8 w'=>∃(j:Nat) (z:Int) (X:List Dyadic) (A:Option Addr) (a:Nat) (R:List HE),j≤fx.n∧v8=.int .i64 z∧z=(j:Int)-1∧v7=.slice A (ay (fx.ns.take j)) a∧ay (fx.ns.take j)≤a∧X.length=ay (fx.ns.take j)∧(∀x∈X,Sz (k+(fx.n-j)*G) x)∧oR (fx.ns.take j).reverse ((tn.map NR.d).take j).reverse X=oR fx.ns.reverse (tn.map NR.d).reverse xs∧(∀x∈R,x.R9=true)∧(∀(H:List HE) (w1:World),Hp w (H++R) w1→Sl w1 A (ay (fx.ns.take j)) 3 (az NR.cells (X.map nR)))∧Hp w (.blk b4 65 [.bool false,.string (ByteArray.mk #[]),.int .i64 0] (0,0)::.blk b2 39 [.slice fx.A fx.n fx.a,.slice fx.B fx.m fx.b] (0,0)::(R++p9 M)) w')
    (fun _ v _=>(intOf v+1).toNat) ?_ ?_)
   ·refine ⟨fx.n,_,xs,_,_,[],V8 _,rfl,VX,by rw [Wa VX];rfl,by rw [Wa VX];exact hcap,by rw [Wa VX];exact hxl,fun x h=>(hxz x h).mono VX,by rw [Wa VX,Wa (by rw [Wh];omega)],fun x h=>(by cases h),by rw [Wa VX];exact hst,hh⟩
   ·clear hh hst;rintro M ρ' v7 v8 w' ⟨j,z,X,A,a,R,hj,rfl,hz,rfl,hca,hXl,hXz,hXe,hcR,hrd,hh⟩;by_cases hj0:j=0
    ·subst hj0;obtain rfl:z= -1:=VX;have hX:X=[yk fx.ns.reverse xs (tn.map NR.d).reverse]:=by
      rw [←hval,←hXe];simp [oR]
     subst hX;have hh1:Hp w ([_,_]++R) w':=hh.sub (.cons_cons _ (.cons_cons _ (Yo R _)));have hsl:=hrd _ _ hh1;rw [XV] at hsl;obtain ⟨ac,rfl,sc⟩:=hsl.at_ (show 0<ay [] by decide);have hx0:([yk fx.ns.reverse xs (tn.map NR.d).reverse].map nR)[0]?=some (nR (yk fx.ns.reverse xs (tn.map NR.d).reverse)):=rfl;generalize yk fx.ns.reverse xs (tn.map NR.d).reverse=V at*;rw [XV];refine j0 fun D_=> ?_;refine sr (mI ?_);refine dJ (aa (cF (aU (aD ?_))));refine Nx ?_;refine j0 fun D_=> ?_;refine al (mL ?_);refine dp (k:=0) bj.out aO.size rfl rfl VX (show 0<ay [] by decide) VY ?_;refine cA (vs:=[_,_,_]) aO.out rfl (sc.recAt NR.len hx0) rfl VY ?_;refine bR hh 0 [_,_,_] ?_;intro ws hh;replace hh:Hp _ (.blk _ _ [_,_,_] _::_) _:=hh;refine aI (aa ?_);refine Fp fun D_=> ?_;refine au ?_;refine rJ (M:=M) (vs:=[.agg #[.bool (nR V).neg,.string (nR V).bf,.int .i64 (nR V).e],.int .i64 0]) (hh.perm (List.perm_append_comm (l₁:=_::_::R))) (.inr rfl) rfl ?_;exact Q6
    ·obtain ⟨i,rfl⟩:∃i,j=i+1:=⟨j-1,VX⟩;obtain rfl:z=(i:Int):=VX;obtain ⟨tq,htq⟩:=ak (l:=tn) (k:=i) VX;obtain ⟨vt,ht1⟩:=hv tq (V7 htq);obtain ⟨d,hd⟩:=ak (l:=fx.ns) (k:=i) VX;have hmd:=V7 hd;have hdl:=hlow d hmd;have hGd:=hG d hmd;have hgd:=cw (ig hd);obtain ⟨adL,rfl,sL⟩:=hS.at_ VX;obtain ⟨adD,hAD,sD⟩:=hdg.at_ VX;have tQ:Value.slice fx.A fx.n fx.a=.slice (some adD) fx.n fx.a:=by rw [hAD]
     have hh1:Hp w ([_,_]++R) w':=hh.sub (.cons_cons _ (.cons_cons _ (Yo R _)));obtain ⟨ac,rfl, -⟩:=(hrd _ _ hh1).at_ (cU _);clear hh1;have hcs:ay (fx.ns.take (i+1))=ay (fx.ns.take i)*(d+1):=by rw [aw hd,ep];simp [ay]
     have hct:=jH fx.ns (i+1);have hcp:=cU (fx.ns.take i);have hc4:=jH fx.ns i;have hd1c:d+1≤ay (fx.ns.take (i+1)):=by rw [hcs];exact Nat.le_mul_of_pos_left _ hcp
     have hKG:k+(fx.n-(i+1))*G+G=k+(fx.n-i)*G:=by
      rw [show fx.n-i=fx.n-(i+1)+1 by omega,Ya,X5];omega
     have hKle:k+(fx.n-(i+1))*G≤500000:=by
      have:=Xi G (show fx.n-(i+1)≤fx.n by omega);omega
     have eD:(d:Int)+1=((d+1:Nat):Int):=VX;refine j0 fun D_=> ?_;refine sr (mI ?_);refine dJ (aa (cT (ao (ai ?_))));refine ye (tJ ?_);refine j0 fun D_=> ?_;refine al (mL (mI ?_));refine bY ?_;refine cA (vs:=[_,_,_]) aO.out rfl ((sL.ext hh.below).recAt NR.len htq) rfl VY ?_;refine aG (yp tq tq.d q _ (hT.hp hh) vt hq) ar.out rfl VY ?_;rintro e_ w38 ⟨b1,b3,rfl,h2⟩;refine ⟨_,rfl, ?_⟩;replace hh:=hh.join h2;simp only [Wb,V9] at hh;clear h2;refine bQ hh ?_;intro b9 w9 hh;refine bR hh 0 [_] ?_;intro ws hh;replace hh:Hp _ (.blk _ _ [_] _::_) _:=hh;refine aa ?_;refine j0 fun D_=> ?_;refine al ?_;refine bQ hh ?_;intro b10 w10 hh;refine aa ?_;refine ye ?_;refine j0 fun D_=> ?_;refine al (mL (bE ?_));refine bB hh 5 ?_;refine mI ?_;refine dp (k:=i) bj.out aO.size tQ rfl VX VX VY ?_;refine bX aO.out rfl ((sD.ext hh.below).su hgd) VY ?_;refine a9 ?_;rw [eD];refine aG (Ck (some ac) (ay (fx.ns.take (i+1))) a (d+1) _ VX) ar.out rfl VY ?_;rintro e_ w46 ⟨c2,c1,rfl,h2⟩;refine ⟨_,rfl, ?_⟩;replace hh:=hh.join h2;simp only [Wb,V9] at hh;clear h2;replace hh:=hh.perm (WO (l₁:=[_,_]))
     simp only [Wb,V9] at hh;replace hh:=hh.ck 65 3;refine aa ?_;have hmk:=hh.QW (M:=M) (by repeat (first|exact Zd _ _|apply V6));have hmlt:=hmk.lt;replace hh:=hh.sub (H':=_::_::_::_::_::_::_::_::_::R) (by repeat (first|exact Yo _ _|apply V4));have hc2:=hh.eC (i:=3) (o:=0) rfl rfl;have hc1:=hh.eC (i:=2) (o:=0) rfl rfl;have hseq:=Hd c2 c1 ac (ay (fx.ns.take (i+1))) a (d+1) (ay (fx.ns.take i)) _ hc2 hc1 hcs VX hca VX VX
     have hcel:∀(A1:Option Addr) (n1 k1:Nat) (cs vs:List Value),∀x∈(HE.row A1 n1 k1 65 3 cs::.blk b10 37 vs (0,0)::.blk c1 3 [.int .i64 ((d+1:Nat):Int)] (0,0)::.blk c2 37 [.slice (some ac) (ay (fx.ns.take (i+1))) a] (0,0)::.blk b9 148 [.func (.func 191) #[] #[.pointer (some ⟨b1,0,none⟩),.pointer (some ⟨b3,0,none⟩)]] (0,0)::.blk b3 65 [.bool (nR (1-tq.d)).neg,.string (nR (1-tq.d)).bf,.int .i64 (nR (1-tq.d)).e] (0,0)::.blk b1 65 [.bool tq.neg,.string tq.bf,.int .i64 tq.e] (0,0)::.blk b4 65 [.bool false,.string (ByteArray.mk #[]),.int .i64 0] (0,0)::.blk b2 39 [.slice fx.A fx.n fx.a,.slice fx.B fx.m fx.b] (0,0)::R),x.R9=true:=fun A1 n1 k1 cs vs x hx=>by
      simp only [Wk] at hx
      rcases hx with rfl|rfl|rfl|rfl|rfl|rfl|rfl|rfl|rfl|hx
      all_goals first|rfl|exact hcR x hx
     trace_state
     refine tJ (HC (α:=Fin (ay (fx.ns.take i))) (enc:=fun jj:Fin (ay (fx.ns.take i))=>.slice (some (ac.add (jj.val*(d+1)*3))) (d+1) (d+1)) 11 VY VY rfl (enters_of Tryz.func192 VZ rfl) hseq Nr (fun W l o o' h _ _ _=>Mn (mq hc2) (mq hc1) W l o o' h)
      (fun bs W=>∃(Y:List Dyadic) (A1:Option Addr) (k1:Nat),Y.length=bs.length∧(∀y∈Y,Sz (k+(fx.n-i)*G) y)∧(bs=(List.finRange (ay (fx.ns.take i))).take bs.length→Y=(lO d tq.d (ay (fx.ns.take i)) X).take bs.length)∧Marks w M W∧Hp w (.row A1 bs.length k1 65 3 (az NR.cells (Y.map nR))::.blk b10 37 [.slice A1 bs.length k1] (0,0)::.blk c1 3 [.int .i64 ((d+1:Nat):Int)] (0,0)::.blk c2 37 [.slice (some ac) (ay (fx.ns.take (i+1))) a] (0,0)::.blk b9 148 [.func (.func 191) #[] #[.pointer (some ⟨b1,0,none⟩),.pointer (some ⟨b3,0,none⟩)]] (0,0)::.blk b3 65 [.bool (nR (1-tq.d)).neg,.string (nR (1-tq.d)).bf,.int .i64 (nR (1-tq.d)).e] (0,0)::.blk b1 65 [.bool tq.neg,.string tq.bf,.int .i64 tq.e] (0,0)::.blk b4 65 [.bool false,.string (ByteArray.mk #[]),.int .i64 0] (0,0)::.blk b2 39 [.slice fx.A fx.n fx.a,.slice fx.B fx.m fx.b] (0,0)::R) W)
      ?own ?zero ?asg ?body ?done)
     case own=>
      intro s W W' row ⟨Y,A1,k1,h1,h2,h3,h4,h5⟩ hg hr;exact ⟨Y,A1,k1,h1,h2,h3,h4.grown hmlt hg (fun r e=>(hr r e).1),h5.Rk (hcel _ _ _ _ _) hg fun r e=>⟨Wz hh.size (hr r e).1,(hr r e).2⟩⟩
     case zero=>exact ⟨[],none,0,rfl,fun y h=>(by cases h),fun _=>rfl,hmk,hh⟩
     case asg=>
      intro l x W;refine al (aL (aA ?_));exact ⟨rfl,rfl⟩
     case body=>
      rintro l bs qq W ⟨Y,A1,k1,hYl,hYz,hYe,hmk2,hh0⟩ hbl;have hqm:=qq.isLt;have hh:=hh0.MN;simp only [Wb,V9] at hh;generalize hO:Ei _ _ _=O at hh;have hq1:qq.val*(d+1)+(d+1)≤ay (fx.ns.take (i+1)):=by
       have:=Xi (d+1) (show qq.val+1≤ay (fx.ns.take i) from hqm);rw [Xj] at this;omega
      have hline:=(hrd [_,_,_,_,_,_,_,_,_] W hh0).part (qq.val*(d+1)) (d+1) hq1 VX;rw [xU] at hline;have hfo:=fun w1 hT1 hS1 hb1 hb2=>vR tq tq.d ⟨b1,0,none⟩ ⟨b3,0,none⟩ (some (ac.add (qq.val*(d+1)*3))) (d+1) (d+1) d (mV (d+1) qq.val X) (k+(fx.n-(i+1))*G) q w1 hT1 hS1 rfl hdl (fun x hx=>hXz x (rB hx)) vt ht1 hb1 hb2 hKle hq;have hfz:=yN (d:=d) (i:=d+1) (fun x hx=>hXz x (rB (K:=d+1) (q:=qq.val) hx)) vt.sz ht1 (V8 _);have hfa:=Ip (d:=d) (m:=ay (fx.ns.take i)) tq.d X hqm;generalize mC d tq.d (mV (d+1) qq.val X) (d+1)=y at*;refine aq ?_;refine Jb hh mixed fun W2 hJ2=> ?_;have hst2:=hJ2.hp
      refine Ky (I:=fun c x1 x2 e g ρ w'=>ρ 9=.pointer (some ⟨b9,0,none⟩)∧ρ 10=.pointer (some ⟨b10,0,none⟩)∧ρ 11=.slice (some (ac.add (qq.val*(d+1)*3))) (d+1) (d+1)∧(c=true→ρ 48=.slice A1 bs.length k1)∧(x1=true→ρ 49=.func (.func 191) #[] #[.pointer (some ⟨b1,0,none⟩),.pointer (some ⟨b3,0,none⟩)])∧(x2=true→ρ 50=.slice (some (ac.add (qq.val*(d+1)*3))) (d+1) (d+1))∧(e=true→ρ 51=.agg #[.bool (nR y).neg,.string (nR y).bf,.int .i64 (nR y).e])∧∃R52:List HE,Hp w (R52++(.row A1 bs.length k1 65 3 (az NR.cells (Y.map nR))::.blk b10 37 [.slice A1 bs.length k1] (0,0)::.blk c1 3 [.int .i64 ((d+1:Nat):Int)] (0,0)::.blk c2 37 [.slice (some ac) (ay (fx.ns.take (i+1))) a] (0,0)::.blk b9 148 [.func (.func 191) #[] #[.pointer (some ⟨b1,0,none⟩),.pointer (some ⟨b3,0,none⟩)]] (0,0)::.blk b3 65 [.bool (nR (1-tq.d)).neg,.string (nR (1-tq.d)).bf,.int .i64 (nR (1-tq.d)).e] (0,0)::.blk b1 65 [.bool tq.neg,.string tq.bf,.int .i64 tq.e] (0,0)::.blk b4 65 [.bool false,.string (ByteArray.mk #[]),.int .i64 0] (0,0)::.blk b2 39 [.slice fx.A fx.n fx.a,.slice fx.B fx.m fx.b] (0,0)::(R++O))) w'∧(g=true→∃g52,ρ 52=.slice (some ⟨g52,0,none⟩) 1 1∧R52=[.row (some ⟨g52,0,none⟩) 1 1 65 3 [.bool (nR y).neg,.string (nR y).bf,.int .i64 (nR y).e]]))
       (J:=fun ρ w'=>ρ 10=.pointer (some ⟨b10,0,none⟩)∧∃(A3:Option Addr) (k3:Nat),ρ 53=.slice A3 (bs.length+1) k3∧Hp w (.row A3 (bs.length+1) k3 65 3 (az NR.cells (Y.map nR)++[.bool (nR y).neg,.string (nR y).bf,.int .i64 (nR y).e])::.blk b10 37 [.slice A1 bs.length k1] (0,0)::.blk c1 3 [.int .i64 ((d+1:Nat):Int)] (0,0)::.blk c2 37 [.slice (some ac) (ay (fx.ns.take (i+1))) a] (0,0)::.blk b9 148 [.func (.func 191) #[] #[.pointer (some ⟨b1,0,none⟩),.pointer (some ⟨b3,0,none⟩)]] (0,0)::.blk b3 65 [.bool (nR (1-tq.d)).neg,.string (nR (1-tq.d)).bf,.int .i64 (nR (1-tq.d)).e] (0,0)::.blk b1 65 [.bool tq.neg,.string tq.bf,.int .i64 tq.e] (0,0)::.blk b4 65 [.bool false,.string (ByteArray.mk #[]),.int .i64 0] (0,0)::.blk b2 39 [.slice fx.A fx.n fx.a,.slice fx.B fx.m fx.b] (0,0)::(R++O)) w')
       (K:=fun _ w'=>∃(A3:Option Addr) (k3:Nat),Hp w (.row A3 (bs.length+1) k3 65 3 (az NR.cells (Y.map nR)++[.bool (nR y).neg,.string (nR y).bf,.int .i64 (nR y).e])::.blk b10 37 [.slice A3 (bs.length+1) k3] (0,0)::.blk c1 3 [.int .i64 ((d+1:Nat):Int)] (0,0)::.blk c2 37 [.slice (some ac) (ay (fx.ns.take (i+1))) a] (0,0)::.blk b9 148 [.func (.func 191) #[] #[.pointer (some ⟨b1,0,none⟩),.pointer (some ⟨b3,0,none⟩)]] (0,0)::.blk b3 65 [.bool (nR (1-tq.d)).neg,.string (nR (1-tq.d)).bf,.int .i64 (nR (1-tq.d)).e] (0,0)::.blk b1 65 [.bool tq.neg,.string tq.bf,.int .i64 tq.e] (0,0)::.blk b4 65 [.bool false,.string (ByteArray.mk #[]),.int .i64 0] (0,0)::.blk b2 39 [.slice fx.A fx.n fx.a,.slice fx.B fx.m fx.b] (0,0)::(R++O)) w')
       rfl rfl rfl rfl rfl rfl rfl VZ VZ VZ VZ VZ VZ VZ VZ VZ VZ VZ VZ VZ VZ ?s0 ?s1 ?s2 ?s3 ?s4 ?s5 ?s6 ?fin ?st
      case st=>exact ⟨rfl,rfl,rfl,fun h=>(by cases h),fun h=>(by cases h),fun h=>(by cases h),fun h=>(by cases h),[],hst2,fun h=>(by cases h)⟩
      case s0=>
       rintro a b e g ρ w3 ⟨h9,h10,h11, -,h49,h50,h51,R52,hp,h52⟩;have hp2:=hp.sub (Zd R52 _);refine bX aO.out h10 (hp2.eC (i:=1) (o:=0) rfl rfl) VY (aa ?_);refine ⟨(bD _ VY _).trans h9,(bD _ VY _).trans h10,(bD _ VY _).trans h11,fun _=>iQ _ _ _,fun h=>(bD _ VY _).trans (h49 h),fun h=>(bD _ VY _).trans (h50 h),fun h=>(bD _ VY _).trans (h51 h),R52,hp,fun h=> ?_⟩;obtain ⟨g52,h1,h2⟩:=h52 h;exact ⟨g52,(bD _ VY _).trans h1,h2⟩
      case s1=>
       rintro c b ρ w3 ⟨h9,h10,h11,h48, -,h50,h51,R52,hp,h52⟩;have hp2:=hp.sub (Zd R52 _);refine bX aO.out h9 (hp2.eC (i:=4) (o:=0) rfl rfl) VY (aa ?_);exact ⟨(bD _ VY _).trans h9,(bD _ VY _).trans h10,(bD _ VY _).trans h11,fun h=>(bD _ VY _).trans (h48 h),fun _=>iQ _ _ _,fun h=>(bD _ VY _).trans (h50 h),fun h=>(by cases h),R52,hp,fun h=>(by cases h)⟩
      case s2=>
       rintro c a ρ w3 ⟨h9,h10,h11,h48,h49, -,h51,R52,hp,h52⟩;refine aV rfl rfl VY (fh h11) (aa ?_);exact ⟨(bD _ VY _).trans h9,(bD _ VY _).trans h10,(bD _ VY _).trans h11,fun h=>(bD _ VY _).trans (h48 h),fun h=>(bD _ VY _).trans (h49 h),fun _=>iQ _ _ _,fun h=>(by cases h),R52,hp,fun h=>(by cases h)⟩
      case s3=>
       rintro c ρ w3 ⟨h9,h10,h11,h48,h49,h50, -,R52,hp,h52⟩;have hp2:=hp.sub (Zd R52 _);have hp3:Hp w ([_,_,_,_,_,_,_,_,_]++R) w3:=hp2.sub (by repeat (first|exact Yo _ _|apply V4));have hl3:=(hrd _ w3 hp3).part (qq.val*(d+1)) (d+1) hq1 VX;rw [xU] at hl3;refine gM (first:=[]) (cap:=[_,_]) (hfo w3 (hT.hp hp2) hl3 (hp2.bZ (i:=6) (n:=3) rfl rfl) (hp2.bZ (i:=5) (n:=3) rfl rfl)) ar.out (h49 rfl) (W8 (fun l=>[]++(l++[_,_])) (av (show ev ρ (Operand.tmp 50)=_ from h50 rfl) a6)) VY ?_;rintro e_ w5 ⟨rfl,hb_⟩;refine ⟨_,rfl,aa ?_⟩;exact ⟨(bD _ VY _).trans h9,(bD _ VY _).trans h10,(bD _ VY _).trans h11,fun h=>(bD _ VY _).trans (h48 h),fun h=>(bD _ VY _).trans (h49 h),fun h=>(bD _ VY _).trans (h50 h),fun _=>iQ _ _ _,R52,hp.ext hb_,fun h=>(by cases h)⟩
      case s4=>
       rintro c ρ w3 ⟨h9,h10,h11,h48,h49,h50,h51,R52,hp, -⟩;have hp2:=hp.sub (Zd R52 _);refine cZ hp2 (cs:=[_,_,_]) bj.out aO.out (aX (show ev ρ (Operand.tmp 51)=_ from h51 rfl) ct) rfl rfl VY VY VY rfl VY ?_;intro g52 w5 hp5;refine aa ?_;exact ⟨(bD _ VY _).trans h9,(bD _ VY _).trans h10,(bD _ VY _).trans h11,fun h=>(bD _ VY _).trans (h48 h),fun h=>(bD _ VY _).trans (h49 h),fun h=>(bD _ VY _).trans (h50 h),fun h=>(bD _ VY _).trans (h51 h),[_],hp5,fun _=>⟨g52,iQ _ _ _,rfl⟩⟩
      case s5=>
       rintro ρ w3 ⟨h9,h10,h11,h48,h49,h50,h51,R52,hp,h52⟩;obtain ⟨g52,h52',rfl⟩:=h52 rfl;refine bK hp (i:=1) rfl (show ev ρ (Operand.tmp 48)=_ from h48 rfl) (show ev ρ (Operand.tmp 52)=_ from h52') (hp.aC (i:=0) rfl) bj.out aO.out rfl VY (bu NR.one [nR y]) VX VX VY ?_;intro A3 k3 w5 hp5;refine aa ⟨(bD _ VY _).trans h10,A3,k3,iQ _ _ _, ?_⟩;exact hp5.sub (WE _ _)
      case s6=>
       rintro ρ w3 ⟨h10,A3,k3,h53,hp⟩;refine BK hp h10 (i:=1) rfl h53 rfl aO.out rfl (by simp) rfl ?_;intro w5 hp5;exact aa ⟨A3,k3,hp5⟩
      case fin=>
       rintro ρ ws ⟨A3,k3,hh⟩;refine bF ?_;subst hO;obtain ⟨gr,rfl⟩:=hh.cu (i:=0) rfl VX;have hkeep:=Hp.Rp (T':=_::_::_::_::_::_::_::_::R) hh0 (hcel _ _ _ _ _) hh rfl rfl;have el:(bs++[qq]).length=bs.length+1:=by simp
       refine ⟨hkeep,⟨by rw [hh.eC (i:=3) (o:=0) rfl rfl,hh0.eC (i:=3) (o:=0) rfl rfl],by rw [hh.eC (i:=2) (o:=0) rfl rfl,hh0.eC (i:=2) (o:=0) rfl rfl]⟩,Y++[y],some ⟨gr,0,none⟩,k3, ?_, ?_, ?_,hmk2.keeps hkeep, ?_⟩
       ·rw [el,Wc,hYl];rfl
       ·intro x hx
        rcases WI.1 hx with hx|hx
        ·exact hYz x hx
        ·obtain rfl:=Wj.1 hx;exact hfz.mono VX
       ·intro h;obtain ⟨h1,h2⟩:=GG h hbl;rw [el,hYe h1,←h2,aw hfa]
       ·rw [el,WT,bG];exact hh.sub (by repeat (first|exact Yo _ _|apply V4))
     case done=>
      rintro D bs W hD2 rfl ⟨Y,A1,k1,hYl,hYz,hYe,hmk2,hh0⟩ hDo;have hA2:=hYe (by rw [Wa (V8 _)]);rw [Wa (by rw [rF,YO];exact V8 _)] at hA2;rw [YO] at hh0;subst hA2;have hmk3:=hmk2.cons hmlt hh.size hD2 hDo;have hroom:=hh0.dR (i:=0) rfl;replace hh:=hh0.QB (hcel _ _ _ _ _) hmk3;simp only [Wb,V9] at hh;refine Fp fun D_=> ?_;refine al ?_;refine bB hh 1 ?_;refine aL (aA ?_);refine RE ?_;refine Fp fun D_=> ?_;refine al (mI ?_);refine dQ (aI (aA ?_));refine I9 ?_;replace hh:=hh.sub (V4 _ (V6 _ (V6 _ (V6 _ (V6 _ (V6 _ (V6 _ (V4 _ (V4 _ (Xh _))))))))));replace hh:=hh.perm (WO (l₁:=[_,_]));simp only [Wb,V9] at hh;replace hh:=hh.perm (WO (l₁:=[_,_]));simp only [Wb,V9] at hh
      refine ⟨⟨i,(i:Int)-1,lO d tq.d (ay (fx.ns.take i)) X,A1,k1,.row A1 (ay (fx.ns.take i)) k1 65 3 (az NR.cells ((lO d tq.d (ay (fx.ns.take i)) X).map nR))::R,VX,rfl,rfl,rfl,hroom,rF _ _ _ _,fun x hx=>(Ke hXz vt.sz ht1 x hx).mono VX, ?_,fun x hx=> ?_,fun H w1 h1=> ?_,hh⟩, ?_, ?_⟩
      ·rw [←Ej X hd (by rw [Wf,htq];rfl)];exact hXe
      ·rcases Wk.1 hx with rfl|hx
       ·rfl
       ·exact hcR x hx
      ·exact kO (h1.own (.row A1 (ay (fx.ns.take i)) k1 65 3 (az NR.cells ((lO d tq.d (ay (fx.ns.take i)) X).map nR))) (XA _ We))
      ·show ((i:Int)-1+1).toNat<((i:Int)+1).toNat;omega
      ·exact dy
  ·have hE:Jz fx m2=1:=by unfold Jz;rw [V3 VX,V2 h1]
   rw [hev0 (by rw [hE];decide),hE];refine I3 ?_;refine j0 fun D_=> ?_;refine al ?_;refine cf hh [_,_] ?_;intro b2 w2 hh;refine bQ hh ?_;intro b4 w4 hh;refine aI (aa ?_);refine j0 fun D_=> ?_;refine sr ?_;refine cn hh 1 [_,_] ?_;refine gi ?_;intro w13 hh;refine aI (aa (sr (mI ?_)));refine cJ (aa (cF (ao (ai ?_))));refine j0 fun D_=> ?_;refine sr (mL (aF (bE ?_)));refine bB hh 1 ?_;refine aF ?_;refine cJ (aa (cT (sr ?_)));refine eV [_,_,_] ?_;refine bR hh 0 [_,_,_] ?_;intro ws hh;replace hh:Hp _ (.blk _ _ [_,_,_] _::_) _:=hh;refine aI (aa (au (aE ?_)));refine rJ (M:=[]) (vs:=[.agg #[.bool false,.string (ByteArray.mk #[]),.int .i64 0],.int .i64 1]) hh (.inr rfl) rfl ?_;exact Q6
 ·have hE:Jz fx m2=fx.e:=by unfold Jz;rw [V2 h0]
  rw [hev0 (by rw [hE];exact h0),hE];refine I3 ?_;refine j0 fun D_=> ?_;refine al ?_;refine cf hh [_,_] ?_;intro b2 w2 hh;refine bQ hh ?_;intro b4 w4 hh;refine aI (aa ?_);refine j0 fun D_=> ?_;refine sr ?_;refine cn hh 1 [_,_] ?_;refine gi ?_;intro w13 hh;refine aI (aa (sr (mI ?_)));refine cJ (aa (cT (sr ?_)));refine eV [_,_,_] (mI ?_);refine bR hh 0 [_,_,_] ?_;intro ws hh;replace hh:Hp _ (.blk _ _ [_,_,_] _::_) _:=hh;refine aI (aa (au (aE ?_)));refine rJ (M:=[]) (vs:=[.agg #[.bool false,.string (ByteArray.mk #[]),.int .i64 0],.int .i64 fx.e]) hh (.inr rfl) rfl ?_;exact Q6
variable {z:Int}
def eJ (es:List UInt8) (z:Int):VP:=fun v W=>∃g:Option Addr×Nat,v=.agg #[.int .i64 es.length,.slice g.1 1 g.2]∧1≤g.2∧Sl W g.1 1 4 (az TR.cells [⟨str es,eP z⟩])
theorem eJ.ext {es:List UInt8} (v:Value) (w w':World) (h:eJ es z v w) (hb:Below w.heap.size w w'):eJ es z v w':=let ⟨g,h1,h2,h3⟩:=h;⟨g,h1,h2,h3.ext hb⟩
def Sy (l:List Int):Bool:=l.all fun z=>decide (z.natAbs<256)
theorem mQ {l:List Int} (h:Sy l=true):∀z∈l,z.natAbs<256:=fun z hz=>Xz (Ww.1 h z hz)
theorem TI (l:List Int) (A:Option Addr) (n c:Nat) (w:World) (hS:Sl w A n 1 (bC l)) (hl:Sy l=true) (hn:n≤1000):Calls Tryz.prog 104 #[.slice A n c] w fun r w'=>∃v,r=.returned v∧Rows n 3 (az NR.cells (l.map eP)) v w'∧Below w.heap.size w w':=
 (l6 l A n c w hS (mQ hl) hn).mono fun r w' ⟨B,c',hr,h3⟩=>⟨_,hr,⟨B,c',rfl,h3.aC (i:=0) rfl⟩,h3.below⟩
theorem Hk (l:List Int) (A:Option Addr) (n c:Nat) (w:World) (hS:Sl w A n 1 (bC l)) (hl:Sy l=true) (hn:n≤1000):Calls Tryz.prog 105 #[.slice A n c] w fun r w'=>∃v,r=.returned v∧Rows n 6 (az SR.cells (kv l)) v w'∧Below w.heap.size w w':=
 (Dv l A n c w hS (mQ hl) hn).mono fun r w' ⟨B,c',hr,h3⟩=>⟨_,hr,⟨B,c',rfl,h3.aC (i:=0) rfl⟩,h3.below⟩
theorem ra (z:Int) (es:List UInt8) (A:Option Addr) (n c:Nat) (w:World) (hS:Sl w A n 1 (lX es)) (hz:z.natAbs<256) (hn:es.length=n) (hn2:n≤1000):Calls Tryz.prog 107 #[.int .i64 z,.slice A n c] w fun r w'=>∃v,r=.returned v∧eJ es z v w'∧Below w.heap.size w w':=
 (yy z es A n c w hS hz hn hn2).mono fun r w' ⟨B,c',hr,h3⟩=>⟨_,hr,⟨(B,c'),by rw [hn],h3.dR (i:=0) rfl,h3.aC (i:=0) rfl⟩,h3.below⟩
def LF (es:List UInt8) (z:Int):PX:=⟨es.length,none,0,0,[⟨str es,eP z⟩]⟩
theorem IV {p q:PX} (hv:p.v=q.v) (ht:p.ts=q.ts) (b:List SR) (ds:List Int):oG p b ds=oG q b ds∧CG p ds=CG q ds∧ez p (bT b)=ez q (bT b):=by
 obtain ⟨pv,pA,pn,pc,pt⟩:=p;obtain ⟨qv,qA,qn,qc,qt⟩:=q;replace hv:pv=qv:=hv;replace ht:pt=qt:=ht;subst hv ht;exact ⟨rfl,rfl,rfl⟩
def UG (z:Int) (es:List UInt8) (bl ds l:List Int):Bool:=decide (z.natAbs<256∧es.length≤12∧oG (LF es z) (kv bl) ds=0∧sV (CG (LF es z) ds) (ez (LF es z) (bT (kv bl))).2=l.map (fun z:Int=>(z:Dyadic))∧eT (124+124+16394) (gL es.length [⟨str es,eP z⟩]) (124+1)≤440000) && Sy bl && Sy l
theorem Sj (z:Int) (es:List UInt8) (bl ds l:List Int) (A:Option Addr) (c:Nat) (B:Option Addr) (n bc:Nat) (M:Option Addr) (m mc:Nat) (D:Option Addr) (k dc:Nat) (w:World) (hT:eK w) (o:1≤c∧Sl w A 1 4 (az TR.cells [⟨str es,eP z⟩])) (hB:Sl w B n 6 (az SR.cells (kv bl))) (hM:Sl w M m 1 (bC ds)) (hmc:m≤mc) (hS:Sl w D k 1 (bC l))
  (hn:n≤1000) (hm:m≤1000) (hk:k≤1000) (hc:UG z es bl ds l=true):
  Calls Tryz.prog 106 #[.agg #[.int .i64 es.length,.slice A 1 c],.slice B n bc,.slice M m mc,.slice D k dc] w fun r w'=>r=.returned (.bool true)∧Below w.heap.size w w':=by
 unfold UG at hc;rw [Wl,Wl] at hc;obtain ⟨⟨hc,hbl⟩,hl⟩:=hc;obtain ⟨hz,hes,hE,hX,hg⟩:=Xz hc;have hk1:=IV (p:=⟨es.length,A,1,c,[⟨str es,eP z⟩]⟩) (q:=LF es z) rfl rfl (kv bl) ds;refine HH ⟨es.length,A,1,c,[⟨str es,eP z⟩]⟩ B n bc (kv bl) M m mc ds D k dc l w hT o.2 ⟨by show 1≤1000000;decide,o.1,fun t ht=> ?_,fun t ht=> ?_⟩ hB (fun s hs=> ?_) hn hM hm hmc hg hS (mQ hl) hk (hk1.1.trans hE) (by rw [hk1.2.1,hk1.2.2];exact hX)
 ·rw [Wj.1 ht];exact ⟨(qT hz).1,(qT hz).2.mono VY⟩
 ·rw [Wj.1 ht];show (str es).size≤100000;rw [jb];omega
 ·obtain ⟨y,hy,rfl⟩:=Wn.1 hs;have h1:=qT (mQ hbl y hy);exact ⟨⟨(Sz.zero 124).ok VY,by show Sz 124 (nR 0).d;rw [cm];exact Sz.zero _⟩,⟨h1.1,h1.2.mono VY⟩⟩
abbrev fZ (A:Option Addr) (a:Nat) (B:Option Addr) (b:Nat):FX:=⟨A,1,a,B,3,b,[2],[0,0,4].map eP⟩
theorem Dh (A:Option Addr) (a:Nat) (B:Option Addr) (b:Nat):(fZ A a B b).jX 24:=⟨by show 1≤1000;decide,by show 3≤100000;decide,fun c hc=>by
 obtain ⟨z,hz,rfl⟩:=Wn.1 hc;exact qT (mQ (l:=[0,0,4]) VY z hz)⟩
theorem Mz (A:Option Addr) (a:Nat) (B:Option Addr) (b:Nat) (L:Option Addr) (lc:Nat) (w:World) (hT:eK w) (hf:(fZ A a B b).at_ w) (hb:3≤b) (hS:Sl w L 1 3 (az NR.cells [nR (((1:Int):Dyadic)*qV (-1))])):
  Calls Tryz.prog 39 #[.agg #[.slice A 1 a,.slice B 3 b],.slice L 1 lc] w fun r w'=>r=.returned (.tuple #[.agg #[.bool (nR ((1:Int):Dyadic)).neg,.string (nR ((1:Int):Dyadic)).bf,.int .i64 (nR ((1:Int):Dyadic)).e],.int .i64 0])∧Below w.heap.size w w':=by
 have z:Sz 25 (((1:Int):Dyadic)*qV (-1)):=(show Sz 24 ((1:Int):Dyadic) from JS (m:=1) (e:=0) VY VY VY).mul (show Sz 1 (qV (-1)) from ⟨1,by decide+kernel,VY⟩);have hE:Jz (fZ none 0 none 0) 1=0:=by decide+kernel
 have hV:Ng (fZ none 0 none 0) [nR (((1:Int):Dyadic)*qV (-1))]=((1:Int):Dyadic):=by decide+kernel
 have hns:(fZ A a B b).ns=[2]:=rfl;have:=AW (fZ A a B b) L 1 lc [nR (((1:Int):Dyadic)*qV (-1))] 24 30 (2+2*(30*2)+(2+1)) w hT hf (Dh A a B b) hb hS (fun s hs=>by
  rw [Wj.1 hs,cm];exact ⟨PB.of (z.mono VY) VY,((show Sz 25 (1:Dyadic) from Sz.one.mono VY).sub z).mono VY⟩) VY (fun _ d hd=>by
  rw [hns,Wj] at hd;subst hd;decide) (by show 24+1*_≤500000;decide)
 rw [show Jz (fZ A a B b) 1=0 from hE,show Ng (fZ A a B b) [nR (((1:Int):Dyadic)*qV (-1))]=((1:Int):Dyadic) from hV] at this;exact this
theorem Uu (A:Option Addr) (a:Nat) (B:Option Addr) (b:Nat) (w:World) (hT:eK w) (hf:(fZ A a B b).at_ w) (ha:1≤a):
  Calls Tryz.prog 55 #[.agg #[.slice A 1 a,.slice B 3 b],.int .i64 0] w fun r w'=>∃g:FX,Out 0 [1] ([0,8].map fun z:Int=>(z:Dyadic)) g∧r=.returned (.tuple #[.agg #[.slice g.A g.n g.a,.slice g.B g.m g.b],.int .i64 0])∧Hp w [g.vD,g.uC] w':=by
 have hE:nk (fZ none 0 none 0) 0=0:=by decide+kernel
 have hN:DE [2] 0=[1]:=by decide+kernel
 have hX:CV [2] 0 (([0,0,4].map eP).map NR.d)=[0,8].map fun z:Int=>(z:Dyadic):=by decide+kernel
 have:=yE (fZ A a B b) 0 24 w hT hf (Dh A a B b) ha VY;rw [show nk (fZ A a B b) 0=0 from hE,show DE (fZ A a B b).ns (0:Int).toNat=[1] from hN,show CV (fZ A a B b).ns (0:Int).toNat ((fZ A a B b).cs.map NR.d)=_ from hX] at this;exact this
theorem Su (A:Option Addr) (a:Nat) (B:Option Addr) (b:Nat) (L:Option Addr) (lc:Nat) (w:World) (hT:eK w) (hf:(fZ A a B b).at_ w) (ha:1≤a) (hL:Sl w L 1 6 (az SR.cells (kv [2]))):
  Calls Tryz.prog 37 #[.agg #[.slice A 1 a,.slice B 3 b],.slice L 1 lc] w fun r w'=>∃g:PX,dN 0 1 [⟨str [2],eP 4⟩] g∧r=.returned (.tuple #[.agg #[.int .i64 g.v,.slice g.A g.n g.c],.int .i64 0])∧Hp w [g.row] w':=by
 have hE:rp (fZ none 0 none 0) (kv [2])=0:=by decide+kernel
 have hR:(A0 (fZ none 0 none 0) (kv [2])).2=[⟨str [2],eP 4⟩]:=by kernel_rfl
 have hG:sC 1 24 24 [2]≤400000∧eT (24+16394) [2] (sC 1 24 24 [2]+4097)≤440000:=by decide+kernel
 have:=AN (fZ A a B b) L 1 lc (kv [2]) 24 24 w hT hf (Dh A a B b) ha hL (fun s hs=>by
  obtain ⟨y,hy,rfl⟩:=Wn.1 hs;have h1:=qT (mQ (l:=[2]) VY y hy);exact ⟨⟨(Sz.zero 24).ok VY,by show Sz 24 (nR 0).d;rw [cm];exact Sz.zero _⟩,⟨h1.1,h1.2⟩⟩) VY VY (fun _ _=>hG.1) (fun _ _=>hG.2)
 rw [show rp (fZ A a B b) (kv [2])=0 from hE,show (A0 (fZ A a B b) (kv [2])).2=_ from hR] at this;exact this
theorem U0 (ns:List Nat) (l:List Int) (A:Option Addr) (n c:Nat) (w:World) (hT:eK w) (hS:Sl w A n 1 (bC (bU ns))) (h:(decide (ns.length≤12∧ay ns≤4096) && ns.all (fun d=>decide (d≤127)) && decide ((C6 ns).map (fun k:Nat=>(k:Int))=l))=true):
  Calls Tryz.prog 46 #[.slice A n c] w fun r w'=>∃v,r=.returned v∧Rows (ay ns) 3 (az NR.cells (l.map eP)) v w'∧Below w.heap.size w w':=by
 rw [Wl,Wl] at h;obtain ⟨⟨h1,h2⟩,h3⟩:=h;have h1:=Xz h1;have e:l.map eP=Lx ns:=by
  rw [←Xz h3,W5]
  rfl
 rw [e];exact (ti A n c ns w hT hS h1.1 (fun d hd=>Xz (Ww.1 h2 d hd)) h1.2).mono fun r w' ⟨B,c',hr,ho,hb⟩=>⟨_,hr,⟨B,c',rfl,kO ho⟩,hb⟩
theorem QN (g:FX) (h:FX) (w:World) (og:Out 0 [1] ([0,8].map fun z:Int=>(z:Dyadic)) g) (hg:g.at_ w) (oh:h.ds=[1]∧h.cs=[0,8].map eP∧h.at_ w):
  Calls Tryz.prog 23 #[.agg #[.slice g.A g.n g.a,.slice g.B g.m g.b],.agg #[.slice h.A h.n h.a,.slice h.B h.m h.b]] w fun r w'=>r=.returned (.bool true)∧Below w.heap.size w w':=
 rO g h w hg oh.2.2 ⟨og.ds.trans oh.1.symm,og.cs.trans oh.2.1.symm⟩ og.n og.m
theorem RN (p:PX) (q:Option Addr×Nat) (w:World) (op:dN 0 1 [⟨str [2],eP 4⟩] p) (hp:p.at_ w) (hq:1≤q.2∧Sl w q.1 1 4 (az TR.cells [⟨str [2],eP 4⟩])):
  Calls Tryz.prog 15 #[.agg #[.int .i64 p.v,.slice p.A p.n p.c],.agg #[.int .i64 1,.slice q.1 1 q.2]] w fun r w'=>r=.returned (.bool true)∧Below w.heap.size w w':=by
 have hv:p.v=1:=op.v;have ht:p.ts=[⟨str [2],eP 4⟩]:=op.ts;have hn:p.n=1:=by have:=hp.ln;rw [ht] at this;exact this.symm
 refine (rM p ⟨1,q.1,1,q.2,[⟨str [2],eP 4⟩]⟩ w hp hq.2 VX (by show 1≤1000000;decide)).mono fun r w' ⟨v,hr,hi,hb⟩=> ?_;rw [hr,hi.2 ⟨hv,ht⟩];exact ⟨rfl,hb⟩
set_option maxRecDepth 100000 in
theorem qa (w:World) (hT:eK w):Calls Tryz.prog 30 #[] w fun r w'=>r=.returned (.bool true)∧Below w.heap.size w w':=by
 have hh:=Hp.start w;refine aj (N:=116) (l:=[]) Tryz.func30 rfl rfl (by simp) ?_;refine sr (aB (aa (sr ?_)));refine cZ hh (cs:=[_]) bj.out aO.out (aX rfl ct) rfl rfl VY VY VY rfl VY ?_;intro b8 w8 hh;refine cZ hh (cs:=[_,_,_]) bj.out aO.out (aX rfl (aX rfl (aX rfl ct))) rfl rfl VY VY VY rfl VY ?_;intro b9 w9 hh;refine aG (l6 [0,0,4] _ 3 _ _ (hh.aC (i:=0) rfl) (mQ VY) VY) ar.out rfl VY ?_;rintro e_ w10 ⟨A1,c1,rfl,h2⟩;refine ⟨_,rfl, ?_⟩;have hc1:3≤c1:=h2.dR (i:=0) rfl;replace hh:=hh.join h2;simp only [Wb,V9] at hh;clear h2;replace hh:=hh.sub (V4 _ (V6 _ (V4 _ Wq)));refine eV [_,_] ?_;refine bQ hh ?_;intro b1 w1 hh;refine bR hh 0 [_,_] ?_;intro ws hh;replace hh:Hp _ (.blk _ _ [_,_] _::_) _:=hh;refine aa (ah ?_)
 refine cH [8] [7] [0,0,2,6,15,31,63,63,0,383,1023] 9 [[(1,none)],[],[(14,some 1)],[(15,some 2)],[(13,some 0),(16,some 3)],[(17,some 4)],[(12,some 5)],[(12,some 5)],[]] [(8,2),(7,19),(6,18),(5,12),(4,17),(3,16),(2,15),(1,14),(0,13)] hh mixed VZ (kn rfl aO.out da) rfl (by repeat (first|exact cj|refine bP ?_|refine cg ?_)) ?_;refine ee 0 [_,_] ?_;refine dC (fun _ hj=>jv 1 _ VY VY) ?_;refine dC (fun _ hj=>yS (nR ((1:Int):Dyadic)) (-1) _ (by decide+kernel) (by decide+kernel) (by decide+kernel) VY VY) ?_;refine oB [_,_,_] ?_;refine aN (i:=4) (Is (.tuple #[.agg #[.bool (nR ((1:Int):Dyadic)).neg,.string (nR ((1:Int):Dyadic)).bf,.int .i64 (nR ((1:Int):Dyadic)).e],.int .i64 0])) Is.ext ?_ ?_
 ·intro ρ1 w1 hj hR;obtain ⟨A16,c16,h16,s16⟩:=hR.2.1;exact bh rfl (aP ar.out (av (show ρ1 13=Value.agg (List.toArray _) from hR.1) (av h16 a6))) (Mz (some ⟨b8,0,none⟩) 1 A1 c1 A16 c16 _ (hT.hp hj.hp) ⟨hj.hp.aC (i:=2) rfl,hj.hp.aC (i:=1) rfl⟩ hc1 s16) (fun _ _ hq=>⟨_,hq.1,hq.2,rfl⟩)
 refine T1 ?_;refine LU ?_;refine LU ?_;refine aN (i:=8) (cO _ 65 _) cO.ext (fun ρ1 w1 hj hR=>g8 aO.out hj.bl (fun v w2 h hb=>⟨hb,h⟩)) ?_;refine aJ ?_;intro f W hJ hV _;have hb_2:=hJ.bl;obtain ⟨v2,v19,v18,v12,v17,v16,v15,v14,v13,_⟩:=hV;obtain ⟨A16,c16,e16,f16⟩:Rows _ _ _ (f 3) W:=v16;obtain ⟨b2,e2,hl2,hc2⟩:cO _ _ _ (f 8) W:=v2;replace hh:=hJ.newVar hh hl2 hc2;refine aR (a8 (ae e2 (ae v19 (ae v18 (ae v12 (ae v17 (ae e16 (ae v15 (ae v14 (ae v13 aQ)))))))))) ?_;dsimp only [bH];clear e16 e2 hJ;refine bR hh 0 [_,_,_] ?_;intro ws hh;replace hh:Hp _ (.blk _ _ [_,_,_] _::_) _:=hh;refine aI (aa (sr ?_));refine cn hh 1 [_,_] ?_;refine aG (Uu (some ⟨b8,0,none⟩) 1 A1 c1 _ (hT.hp hh) ⟨hh.aC (i:=3) rfl,hh.aC (i:=2) rfl⟩ (V8 _)) ar.out rfl VY ?_;rintro e_ w22 ⟨g,og,rfl,h4⟩;refine ⟨_,rfl, ?_⟩;replace hh:=hh.join h4;clear h4;simp only [Wb,V9] at hh;replace hh:=show Hp w (.row g.B g.m g.b 65 3 (az NR.cells g.cs)::.row g.A g.n g.a 3 1 (bC g.ds)::_) _ from hh;refine mT ?_;refine du ?_;refine du ?_;refine bQ hh ?_;intro b4 w4 hh;refine bR hh 0 [_,_] ?_;intro ws hh
 replace hh:Hp _ (.blk _ _ [_,_] _::_) _:=hh;refine aI (aa (ah ?_));refine cH [7] [6] [0,0,2,7,15,31,31,0,191,511] 8 [[(1,none)],[],[(27,some 1)],[(26,some 0),(28,some 2)],[(29,some 3)],[(25,some 4)],[(25,some 4)],[]] [(7,6),(6,31),(5,30),(4,25),(3,29),(2,28),(1,27),(0,26)] hh mixed VZ (kn rfl aO.out da) rfl (by repeat (first|exact cj|refine bP ?_|refine cg ?_)) ?_;refine ee 4 [_,_] ?_;refine oB [_] ?_;refine aN (i:=2) (Rows 1 6 (az SR.cells (kv [2]))) Rows.ext ?_ ?_
 ·intro ρ1 w1 hj hR;obtain ⟨A27,c27,h27,s27⟩:=hR.1;exact bh rfl (aP ar.out (av h27 a6)) (Hk [2] A27 1 c27 _ s27 VY VY) (fun _ _ ⟨v,hq,hp,hb⟩=>⟨v,hq,hb,hp⟩)
 refine aN (i:=3) (eR hh.sz 0 1 [⟨str [2],eP 4⟩]) (eR.ext) ?_ ?_
 ·intro ρ1 w1 hj hR;obtain ⟨A28,c28,h28,s28⟩:=hR.2.1;exact bh rfl (aP ar.out (av (show ρ1 26=Value.agg (List.toArray _) from hR.1) (av h28 a6))) (Su (some ⟨b8,0,none⟩) 1 A1 c1 A28 c28 w1 (hT.hp hj.hp) ⟨hj.hp.aC (i:=6) rfl,hj.hp.aC (i:=5) rfl⟩ (V8 _) s28) (fun _ _ ⟨g,og,hq,h3⟩=>⟨_,hq,h3.below,g,w1,rfl,og,hj.bl.size,h3⟩)
 refine aN (i:=4) (eR hh.sz 0 1 [⟨str [2],eP 4⟩]) (eR.ext) ?_ ?_
 ·exact HZ
 refine aN (i:=5) (gu hh.sz 0 1 [⟨str [2],eP 4⟩]) (gu.ext) ?_ ?_
 ·exact Du
 refine aN (i:=6) (Is (.int .i64 0)) (Is.ext) ?_ ?_
 ·exact CD
 refine aN (i:=7) (cO _ 24 _) cO.ext (fun ρ1 w1 hj hR=>g8 aO.out hj.bl (fun v w2 h hb=>⟨hb,h⟩)) ?_;refine aJ ?_;intro f W hJ hV _;have hb_4:=hJ.bl;obtain ⟨v6,v31,v30,v25,v29,v28,v27,v26,_⟩:=hV;obtain ⟨A27,c27,e27,f27⟩:Rows _ _ _ (f 1) W:=v27;obtain ⟨A28,c28,e28,f28⟩:Rows _ _ _ (f 2) W:=v28;obtain ⟨g29,u29,e29, -⟩:=v29;obtain ⟨g25,u25,e25, -⟩:=v25;obtain ⟨g30,u30,e30,o30,q30,h30⟩:=v30;obtain ⟨b6,e6,hl6,hc6⟩:cO _ _ _ (f 7) W:=v6;replace hh:=hJ.ka hh hl6 hc6 q30 h30 (PX.ne h30 hc6 VY);refine aR (a8 (ae e6 (ae v31 (ae e30 (ae e25 (ae e29 (ae e28 (ae e27 (ae v26 aQ))))))))) ?_;dsimp only [bH];clear e27 e28 e29 e25 e30 e6 hJ;refine bR hh 0 [_,_] ?_;intro ws hh;replace hh:Hp _ (.blk _ _ [_,_] _::_) _:=hh;refine aI (aa (ah ?_))
 refine cH [] [] [0,1,0,7,0,31,63,127,255,127,1023,127,4095,8191,16383,32767,65535,32767,262143,32767,1048575,2097151,4194303,8388607,16777215,8388607,67108863,8388607,8388607,536870911,1073741823,2147483647,4294967295,8589934591,4294967295,34359738367,4294967295,137438953471,274877906943,549755813887,1099511627775,1099511627775,4398046511103,8796093022207,17592186044415,35184372088831,70368744177663,140737488355327,281474976710655,562949953421311,562949953421311,562949953421311,2814749767106559,8444249301319679,18014398509481983,36028797018963967,72057594037927935,144115188075855871,288230376151711743,576460752303423487,1152921504606846975,2305843009213693951,2305843009213693951,6917529027641081855,18446744073709551615,36893488147419103231,73786976294838206463,147573952589676412927,295147905179352825855,590295810358705651711,1180591620717411303423,2361183241434822606847,4722366482869645213695,2361183241434822606847,18889465931478580854783,37778931862957161709567,75557863725914323419135,151115727451828646838271,302231454903657293676543,604462909807314587353087,302231454903657293676543,2417851639229258349412351,4835703278458516698824703,9671406556917033397649407,19342813113834066795298815] 81 [[],[(32,some 0)],[],[(34,some 2)],[],[(33,some 1),(35,some 3),(36,some 4)],[(37,some 5)],[(38,some 6)],[(39,some 7),(38,some 6)],[(38,some 6)],[(41,some 9),(38,some 6)],[(38,some 6)],[(40,some 8),(42,some 10),(43,some 11),(38,some 6)],[(38,some 6),(44,some 12)],[(45,some 13)],[(46,some 14)],[(47,some 15),(46,some 14)],[(46,some 14)],[(49,some 17),(46,some 14)],[(46,some 14)],[(48,some 16),(50,some 18),(51,some 19),(46,some 14)],[(46,some 14),(52,some 20)],[(53,some 21)],[(54,some 22)],[(55,some 23),(54,some 22)],[(54,some 22)],[(57,some 25),(54,some 22)],[(54,some 22)],[(54,some 22)],[(56,some 24),(58,some 26),(59,some 27),(60,some 28),(54,some 22)],[(54,some 22),(61,some 29)],[(62,some 30)],[(63,some 31)],[(64,some 32),(63,some 31)],[(63,some 31)],[(66,some 34),(63,some 31)],[(63,some 31)],[(65,some 33),(67,some 35),(68,some 36),(63,some 31)],[(63,some 31),(69,some 37)],[(70,some 38)],[(2,none),(71,some 39)],[(71,some 39)],[(72,some 40),(73,some 41),(71,some 39)],[(71,some 39),(74,some 42)],[(75,some 43)],[(3,none),(76,some 44)],[(77,some 45),(76,some 44)],[(76,some 44),(78,some 46)],[(79,some 47)],[(4,none),(80,some 48)],[(80,some 48)],[(80,some 48)],[(83,some 51),(80,some 48)],[(82,some 50),(84,some 52),(80,some 48)],[(81,some 49),(85,some 53),(80,some 48)],[(80,some 48),(86,some 54)],[(87,some 55)],[(5,none),(88,some 56)],[(89,some 57),(88,some 56)],[(88,some 56),(90,some 58)],[(91,some 59)],[(6,none),(92,some 60)],[(92,some 60)],[(94,some 62),(92,some 60)],[(93,some 61),(95,some 63),(92,some 60)],[(92,some 60),(96,some 64)],[(97,some 65)],[(7,none),(98,some 66)],[(99,some 67),(98,some 66)],[(98,some 66),(100,some 68)],[(101,some 69)],[(102,some 70)],[(103,some 71),(102,some 70)],[(102,some 70)],[(105,some 73),(102,some 70)],[(104,some 72),(106,some 74),(102,some 70)],[(102,some 70),(107,some 75)],[(108,some 76)],[(109,some 77)],[(110,some 78),(109,some 77)],[(109,some 77)]] [(80,112),(79,111),(78,110),(77,109),(76,108),(75,107),(74,106),(73,105),(72,104),(71,103),(70,102),(69,101),(68,100),(67,99),(66,98),(65,97),(64,96),(63,95),(62,94),(61,93),(60,92),(59,91),(58,90),(57,89),(56,88),(55,87),(54,86),(53,85),(52,84),(51,83),(50,82),(49,81),(48,80),(47,79),(46,78),(45,77),(44,76),(43,75),(42,74),(41,73),(40,72),(39,71),(38,70),(37,69),(36,68),(35,67),(34,66),(33,65),(32,64),(31,63),(30,62),(29,61),(28,60),(27,59),(26,58),(25,57),(24,56),(23,55),(22,54),(21,53),(20,52),(19,51),(18,50),(17,49),(16,48),(15,47),(14,46),(13,45),(12,44),(11,43),(10,42),(9,41),(8,40),(7,39),(6,38),(5,37),(4,36),(3,35),(2,34),(1,33),(0,32)] hh mixed VZ da rfl (by repeat (first|exact cj|refine bP ?_|refine cg ?_)) ?_
 refine oB [_] ?_;refine aN (i:=1) (eJ [1] 1) eJ.ext ?_ ?_
 ·intro ρ1 w1 hj hR;obtain ⟨A32,c32,h32,s32⟩:=hR.1;exact bh rfl (aP ar.out (av rfl (av h32 a6))) (ra 1 [1] A32 1 c32 _ s32 VY rfl VY) (fun _ _ ⟨v,hq,hp,hb⟩=>⟨v,hq,hb,hp⟩)
 refine oB [_] ?_;refine aN (i:=3) (Rows 1 6 (az SR.cells (kv [1]))) Rows.ext ?_ ?_
 ·intro ρ1 w1 hj hR;obtain ⟨A34,c34,h34,s34⟩:=hR.1;exact bh rfl (aP ar.out (av h34 a6)) (Hk [1] A34 1 c34 _ s34 rfl VY) (fun _ _ ⟨v,hq,hp,hb⟩=>⟨v,hq,hb,hp⟩)
 refine oB [_,_] ?_;refine aN (i:=5) (Is (.bool true)) Is.ext ?_ ?_
 ·intro ρ1 w1 hj hR;obtain ⟨A35,c35,h35,s35⟩:=hR.2.1;obtain ⟨A36,c36,h36,s36⟩:=hR.2.2.1;obtain ⟨g33,e33,o33⟩:=hR.1;exact bh rfl (aP ar.out (av e33 (av h35 (av rfl (av h36 a6))))) (Sj 1 [1] [1] [] [0,1] g33.1 g33.2 A35 1 c35 none 0 0 A36 2 c36 _ (hT.hp hj.hp) o33 s35 (Sl.nil _ _ _) VY s36 VY VY VY (by decide+kernel)) (fun _ _ hq=>⟨_,hq.1,hq.2,rfl⟩)
 refine jV ?_;refine bo (i:=7) (cs:=[_]) rfl (fun ρ1 w1 hj hR=>(show ρ1 38=Value.bool _ from hR.1)) bj.out aO.out (fun ρ1 w1 hj hR=>(aX rfl ct)) rfl rfl VY VY rfl ?_;refine aN (i:=8) (eJ [1] 1) eJ.ext ?_ ?_
 ·intro ρ1 w1 hj hR;obtain ⟨A39,c39,h39,s39⟩:=hR.1;refine bz rfl ((show ρ1 38=Value.bool _ from hR.2.1)) ?_;exact bh rfl (aP ar.out (av rfl (av h39 a6))) (ra 1 [1] A39 1 c39 _ s39 VY rfl VY) (fun _ _ ⟨v,hq,hp,hb⟩=>⟨v,hq,hb,hp⟩)
 refine bo (i:=9) (cs:=[_]) rfl (fun ρ1 w1 hj hR=>(show ρ1 38=Value.bool _ from hR.1)) bj.out aO.out (fun ρ1 w1 hj hR=>(aX rfl ct)) rfl rfl VY VY rfl ?_;refine aN (i:=10) (Rows 1 6 (az SR.cells (kv [4]))) Rows.ext ?_ ?_
 ·intro ρ1 w1 hj hR;obtain ⟨A41,c41,h41,s41⟩:=hR.1;refine bz rfl ((show ρ1 38=Value.bool _ from hR.2.1)) ?_;exact bh rfl (aP ar.out (av h41 a6)) (Hk [4] A41 1 c41 _ s41 rfl VY) (fun _ _ ⟨v,hq,hp,hb⟩=>⟨v,hq,hb,hp⟩)
 refine bo (i:=11) (cs:=[_,_]) rfl (fun ρ1 w1 hj hR=>(show ρ1 38=Value.bool _ from hR.1)) bj.out aO.out (fun ρ1 w1 hj hR=>(aX rfl (aX rfl ct))) rfl rfl VY VY rfl ?_;refine aN (i:=12) (Is (.bool true)) Is.ext ?_ ?_
 ·intro ρ1 w1 hj hR;obtain ⟨A42,c42,h42,s42⟩:=hR.2.1;obtain ⟨A43,c43,h43,s43⟩:=hR.2.2.1;obtain ⟨g40,e40,o40⟩:=hR.1;refine bz rfl ((show ρ1 38=Value.bool _ from hR.2.2.2.1)) ?_;exact bh rfl (aP ar.out (av e40 (av h42 (av rfl (av h43 a6))))) (Sj 1 [1] [4] [] [0,4] g40.1 g40.2 A42 1 c42 none 0 0 A43 2 c43 _ (hT.hp hj.hp) o40 s42 (Sl.nil _ _ _) VY s43 VY VY VY (by decide+kernel)) (fun _ _ hq=>⟨_,hq.1,hq.2,rfl⟩)
 refine Gj ?_;refine jV ?_;refine bo (i:=15) (cs:=[_]) rfl (fun ρ1 w1 hj hR=>(show ρ1 46=Value.bool _ from hR.1)) bj.out aO.out (fun ρ1 w1 hj hR=>(aX rfl ct)) rfl rfl VY VY rfl ?_;refine aN (i:=16) (eJ [2] 1) eJ.ext ?_ ?_
 ·intro ρ1 w1 hj hR;obtain ⟨A47,c47,h47,s47⟩:=hR.1;refine bz rfl ((show ρ1 46=Value.bool _ from hR.2.1)) ?_;exact bh rfl (aP ar.out (av rfl (av h47 a6))) (ra 1 [2] A47 1 c47 _ s47 VY rfl VY) (fun _ _ ⟨v,hq,hp,hb⟩=>⟨v,hq,hb,hp⟩)
 refine bo (i:=17) (cs:=[_]) rfl (fun ρ1 w1 hj hR=>(show ρ1 46=Value.bool _ from hR.1)) bj.out aO.out (fun ρ1 w1 hj hR=>(aX rfl ct)) rfl rfl VY VY rfl ?_;refine aN (i:=18) (Rows 1 6 (az SR.cells (kv [2]))) Rows.ext ?_ ?_
 ·intro ρ1 w1 hj hR;obtain ⟨A49,c49,h49,s49⟩:=hR.1;refine bz rfl ((show ρ1 46=Value.bool _ from hR.2.1)) ?_;exact bh rfl (aP ar.out (av h49 a6)) (Hk [2] A49 1 c49 _ s49 rfl VY) (fun _ _ ⟨v,hq,hp,hb⟩=>⟨v,hq,hb,hp⟩)
 refine bo (i:=19) (cs:=[_,_,_]) rfl (fun ρ1 w1 hj hR=>(show ρ1 46=Value.bool _ from hR.1)) bj.out aO.out (fun ρ1 w1 hj hR=>(aX rfl (aX rfl (aX rfl ct)))) rfl rfl VY VY rfl ?_;refine aN (i:=20) (Is (.bool true)) Is.ext ?_ ?_
 ·intro ρ1 w1 hj hR;obtain ⟨A50,c50,h50,s50⟩:=hR.2.1;obtain ⟨A51,c51,h51,s51⟩:=hR.2.2.1;obtain ⟨g48,e48,o48⟩:=hR.1;refine bz rfl ((show ρ1 46=Value.bool _ from hR.2.2.2.1)) ?_;exact bh rfl (aP ar.out (av e48 (av h50 (av rfl (av h51 a6))))) (Sj 1 [2] [2] [] [0,0,4] g48.1 g48.2 A50 1 c50 none 0 0 A51 3 c51 _ (hT.hp hj.hp) o48 s50 (Sl.nil _ _ _) VY s51 VY VY VY (by decide+kernel)) (fun _ _ hq=>⟨_,hq.1,hq.2,rfl⟩)
 refine Gj ?_;refine jV ?_;refine bo (i:=23) (cs:=[_]) rfl (fun ρ1 w1 hj hR=>(show ρ1 54=Value.bool _ from hR.1)) bj.out aO.out (fun ρ1 w1 hj hR=>(aX rfl ct)) rfl rfl VY VY rfl ?_;refine aN (i:=24) (eJ [0] 3) eJ.ext ?_ ?_
 ·intro ρ1 w1 hj hR;obtain ⟨A55,c55,h55,s55⟩:=hR.1;refine bz rfl ((show ρ1 54=Value.bool _ from hR.2.1)) ?_;exact bh rfl (aP ar.out (av rfl (av h55 a6))) (ra 3 [0] A55 1 c55 _ s55 VY rfl VY) (fun _ _ ⟨v,hq,hp,hb⟩=>⟨v,hq,hb,hp⟩)
 refine bo (i:=25) (cs:=[_]) rfl (fun ρ1 w1 hj hR=>(show ρ1 54=Value.bool _ from hR.1)) bj.out aO.out (fun ρ1 w1 hj hR=>(aX rfl ct)) rfl rfl VY VY rfl ?_;refine aN (i:=26) (Rows 1 6 (az SR.cells (kv [1]))) Rows.ext ?_ ?_
 ·intro ρ1 w1 hj hR;obtain ⟨A57,c57,h57,s57⟩:=hR.1;refine bz rfl ((show ρ1 54=Value.bool _ from hR.2.1)) ?_;exact bh rfl (aP ar.out (av h57 a6)) (Hk [1] A57 1 c57 _ s57 rfl VY) (fun _ _ ⟨v,hq,hp,hb⟩=>⟨v,hq,hb,hp⟩)
 refine aN (i:=27) (gY 1 1 (bC [2])) (gY.ext) ?_ ?_
 ·intro ρ1 w1 hj hR;exact bz rfl (show ρ1 54=Value.bool _ from hR.1) (jD (sz:=1) bj.out aO.out (show wq ρ1 [(0,.const (.int .i64 2))]=[(0,.int .i64 2)] from rfl) rfl rfl VY VY rfl fun v w2 h hb=>⟨hb,h⟩)
 refine bo (i:=28) (cs:=[_,_,_]) rfl (fun ρ1 w1 hj hR=>(show ρ1 54=Value.bool _ from hR.1)) bj.out aO.out (fun ρ1 w1 hj hR=>(aX rfl (aX rfl (aX rfl ct)))) rfl rfl VY VY rfl ?_;refine aN (i:=29) (Is (.bool true)) Is.ext ?_ ?_
 ·intro ρ1 w1 hj hR;obtain ⟨A58,c58,h58,s58⟩:=hR.2.1;obtain ⟨A60,c60,h60,s60⟩:=hR.2.2.2.1;obtain ⟨g56,e56,o56⟩:=hR.1;obtain ⟨g59,e59,o59⟩:=hR.2.2.1;refine bz rfl ((show ρ1 54=Value.bool _ from hR.2.2.2.2.1)) ?_;exact bh rfl (aP ar.out (av e56 (av h58 (av e59 (av h60 a6))))) (Sj 3 [0] [1] [2] [3,6,3] g56.1 g56.2 A58 1 c58 (some ⟨g59,0,none⟩) 1 1 A60 3 c60 _ (hT.hp hj.hp) o56 s58 o59 VY s60 VY VY VY (by decide+kernel)) (fun _ _ hq=>⟨_,hq.1,hq.2,rfl⟩)
 refine Gj ?_;refine jV ?_;refine bo (i:=32) (cs:=[_,_]) rfl (fun ρ1 w1 hj hR=>(show ρ1 63=Value.bool _ from hR.1)) bj.out aO.out (fun ρ1 w1 hj hR=>(aX rfl (aX rfl ct))) rfl rfl VY VY rfl ?_;refine aN (i:=33) (eJ [1,1] 1) eJ.ext ?_ ?_
 ·intro ρ1 w1 hj hR;obtain ⟨A64,c64,h64,s64⟩:=hR.1;refine bz rfl ((show ρ1 63=Value.bool _ from hR.2.1)) ?_;exact bh rfl (aP ar.out (av rfl (av h64 a6))) (ra 1 [1,1] A64 2 c64 _ s64 VY rfl VY) (fun _ _ ⟨v,hq,hp,hb⟩=>⟨v,hq,hb,hp⟩)
 refine bo (i:=34) (cs:=[_,_]) rfl (fun ρ1 w1 hj hR=>(show ρ1 63=Value.bool _ from hR.1)) bj.out aO.out (fun ρ1 w1 hj hR=>(aX rfl (aX rfl ct))) rfl rfl VY VY rfl ?_;refine aN (i:=35) (Rows 2 6 (az SR.cells (kv [1,1]))) Rows.ext ?_ ?_
 ·intro ρ1 w1 hj hR;obtain ⟨A66,c66,h66,s66⟩:=hR.1;refine bz rfl ((show ρ1 63=Value.bool _ from hR.2.1)) ?_;exact bh rfl (aP ar.out (av h66 a6)) (Hk [1,1] A66 2 c66 _ s66 rfl VY) (fun _ _ ⟨v,hq,hp,hb⟩=>⟨v,hq,hb,hp⟩)
 refine bo (i:=36) (cs:=[_,_,_,_]) rfl (fun ρ1 w1 hj hR=>(show ρ1 63=Value.bool _ from hR.1)) bj.out aO.out (fun ρ1 w1 hj hR=>(aX rfl (aX rfl (aX rfl (aX rfl ct))))) rfl rfl VY VY rfl ?_;refine aN (i:=37) (Is (.bool true)) Is.ext ?_ ?_
 ·intro ρ1 w1 hj hR;obtain ⟨A67,c67,h67,s67⟩:=hR.2.1;obtain ⟨A68,c68,h68,s68⟩:=hR.2.2.1;obtain ⟨g65,e65,o65⟩:=hR.1;refine bz rfl ((show ρ1 63=Value.bool _ from hR.2.2.2.1)) ?_;exact bh rfl (aP ar.out (av e65 (av h67 (av rfl (av h68 a6))))) (Sj 1 [1,1] [1,1] [] [0,0,0,1] g65.1 g65.2 A67 2 c67 none 0 0 A68 4 c68 _ (hT.hp hj.hp) o65 s67 (Sl.nil _ _ _) VY s68 VY VY VY (by decide+kernel)) (fun _ _ hq=>⟨_,hq.1,hq.2,rfl⟩)
 refine Gj ?_;refine jV ?_;refine dG (ee 5 [_,_,_] ?_);refine iZ (i:=41) rfl (fun ρ1 w1 hj hR=>(show ρ1 71=Value.bool _ from hR.1)) (fun ρ1 w1 hj hR=>aP ar.out (av rfl a6)) (fun w1 hj=>jv 1 _ VY VY) ?_;refine yi (i:=42) rfl (fun ρ1 w1 hj hR=>(show ρ1 71=Value.bool _ from hR.2.2.1)) (fun ρ1 w1 hj hR=>EN (show ρ1 72=Value.agg (List.toArray _) from hR.1) (show ρ1 73=Value.agg (List.toArray _) from hR.2.1) (by first|assumption|rfl)) ?_;refine Gj ?_;refine jV ?_;refine dG (cM ?_);refine dG (sy ?_);refine Gj ?_;refine jV ?_;refine dG (ee 2 [_,_] ?_);refine bo (i:=50) (cs:=[_]) rfl (fun ρ1 w1 hj hR=>(show ρ1 80=Value.bool _ from hR.1)) bj.out aO.out (fun ρ1 w1 hj hR=>(aX rfl ct)) rfl rfl VY VY rfl ?_;refine bo (i:=51) (cs:=[_,_]) rfl (fun ρ1 w1 hj hR=>(show ρ1 80=Value.bool _ from hR.1)) bj.out aO.out (fun ρ1 w1 hj hR=>(aX rfl (aX rfl ct))) rfl rfl VY VY rfl ?_;refine aN (i:=52) (Rows 2 3 (az NR.cells ([0,8].map eP))) Rows.ext ?_ ?_
 ·intro ρ1 w1 hj hR;obtain ⟨A83,c83,h83,s83⟩:=hR.1;refine bz rfl ((show ρ1 80=Value.bool _ from hR.2.1)) ?_;exact bh rfl (aP ar.out (av h83 a6)) (TI [0,8] A83 2 c83 _ s83 rfl VY) (fun _ _ ⟨v,hq,hp,hb⟩=>⟨v,hq,hb,hp⟩)
 refine aN (i:=53) (xp [1] ([0,8].map eP)) (xp.ext) ?_ ?_
 ·intro ρ1 w1 hj hR;obtain ⟨A82,c82,h82,s82⟩:=hR.1;obtain ⟨A84,c84,h84,s84⟩:=hR.2.1;exact bz rfl (show ρ1 80=Value.bool _ from hR.2.2.1) (eI rfl (sJ (cs:=[_,_]) aO.out lv.out (aX h82 (aX h84 ct)) rfl) ⟨Below.refl _ _,⟨A82,1,c82,A84,2,c84,[1],[0,8].map eP⟩,rfl,rfl,rfl,⟨s82,s84⟩⟩)
 refine aN (i:=54) (Is (.bool true)) Is.ext ?_ ?_
 ·intro ρ1 w1 hj hR;obtain ⟨g85,e85,o85⟩:=hR.2.1;refine bz rfl ((show ρ1 80=Value.bool _ from hR.2.2.1)) ?_;exact bh rfl (aP ar.out (av (show ρ1 81=Value.agg (List.toArray _) from hR.1) (av e85 a6))) (QN g g85 _ og ⟨hj.hp.aC (i:=4) rfl,hj.hp.aC (i:=3) rfl⟩ o85) (fun _ _ hq=>⟨_,hq.1,hq.2,rfl⟩)
 refine Gj ?_;refine jV ?_;refine dG (cM ?_);refine dG (sy ?_);refine Gj ?_;refine jV ?_;refine dG (ee 0 [_,_] ?_);refine bo (i:=62) (cs:=[_]) rfl (fun ρ1 w1 hj hR=>(show ρ1 92=Value.bool _ from hR.1)) bj.out aO.out (fun ρ1 w1 hj hR=>(aX rfl ct)) rfl rfl VY VY rfl ?_;refine aN (i:=63) (eJ [2] 4) eJ.ext ?_ ?_
 ·intro ρ1 w1 hj hR;obtain ⟨A94,c94,h94,s94⟩:=hR.1;refine bz rfl ((show ρ1 92=Value.bool _ from hR.2.1)) ?_;exact bh rfl (aP ar.out (av rfl (av h94 a6))) (ra 4 [2] A94 1 c94 _ s94 VY rfl VY) (fun _ _ ⟨v,hq,hp,hb⟩=>⟨v,hq,hb,hp⟩)
 refine aN (i:=64) (Is (.bool true)) Is.ext ?_ ?_
 ·intro ρ1 w1 hj hR;obtain ⟨g95,e95,o95⟩:=hR.2.1;refine bz rfl ((show ρ1 92=Value.bool _ from hR.2.2.1)) ?_;exact bh rfl (aP ar.out (av (show ρ1 93=Value.agg (List.toArray _) from hR.1) (av e95 a6))) (RN g30 g95 _ o30 (hj.hp.aC (i:=1) rfl) o95) (fun _ _ hq=>⟨_,hq.1,hq.2,rfl⟩)
 refine Gj ?_;refine jV ?_;refine dG (cM ?_);refine dG (sy ?_);refine Gj ?_;refine jV ?_;refine bo (i:=71) (cs:=[_]) rfl (fun ρ1 w1 hj hR=>(show ρ1 102=Value.bool _ from hR.1)) bj.out aO.out (fun ρ1 w1 hj hR=>(aX rfl ct)) rfl rfl VY VY rfl ?_;refine aN (i:=72) (Rows 3 3 (az NR.cells ([1,2,1].map eP))) Rows.ext ?_ ?_
 ·intro ρ1 w1 hj hR;obtain ⟨A103,c103,h103,s103⟩:=hR.1;refine bz rfl ((show ρ1 102=Value.bool _ from hR.2.1)) ?_;exact bh rfl (aP ar.out (av h103 a6)) (U0 [2] [1,2,1] A103 1 c103 _ (hT.hp hj.hp) s103 (by decide+kernel)) (fun _ _ ⟨v,hq,hp,hb⟩=>⟨v,hq,hb,hp⟩)
 refine bo (i:=73) (cs:=[_,_,_]) rfl (fun ρ1 w1 hj hR=>(show ρ1 102=Value.bool _ from hR.1)) bj.out aO.out (fun ρ1 w1 hj hR=>(aX rfl (aX rfl (aX rfl ct)))) rfl rfl VY VY rfl ?_;refine aN (i:=74) (Rows 3 3 (az NR.cells ([1,2,1].map eP))) Rows.ext ?_ ?_
 ·intro ρ1 w1 hj hR;obtain ⟨A105,c105,h105,s105⟩:=hR.1;refine bz rfl ((show ρ1 102=Value.bool _ from hR.2.1)) ?_;exact bh rfl (aP ar.out (av h105 a6)) (TI [1,2,1] A105 3 c105 _ s105 rfl VY) (fun _ _ ⟨v,hq,hp,hb⟩=>⟨v,hq,hb,hp⟩)
 refine aN (i:=75) (Is (.bool true)) Is.ext ?_ ?_
 ·intro ρ1 w1 hj hR;obtain ⟨A104,c104,h104,s104⟩:=hR.1;obtain ⟨A106,c106,h106,s106⟩:=hR.2.1;refine bz rfl ((show ρ1 102=Value.bool _ from hR.2.2.1)) ?_;exact bh rfl (aP ar.out (av h104 (av h106 a6))) (kT A104 3 c104 ([1,2,1].map eP) A106 c106 _ s104 s106 VY) (fun _ _ hq=>⟨_,hq.1,hq.2,rfl⟩)
 refine Gj ?_;refine jV ?_;refine bo (i:=78) (cs:=[_,_]) rfl (fun ρ1 w1 hj hR=>(show ρ1 109=Value.bool _ from hR.1)) bj.out aO.out (fun ρ1 w1 hj hR=>(aX rfl (aX rfl ct))) rfl rfl VY VY rfl ?_;refine aN (i:=79) (Rows 6 3 (az NR.cells ([1,2,1,1,2,1].map eP))) Rows.ext ?_ ?_
 ·intro ρ1 w1 hj hR;obtain ⟨A110,c110,h110,s110⟩:=hR.1;refine bz rfl ((show ρ1 109=Value.bool _ from hR.2.1)) ?_;exact bh rfl (aP ar.out (av h110 a6)) (U0 [1,2] [1,2,1,1,2,1] A110 2 c110 _ (hT.hp hj.hp) s110 (by decide+kernel)) (fun _ _ ⟨v,hq,hp,hb⟩=>⟨v,hq,hb,hp⟩)
 refine bo (i:=80) (cs:=[_,_,_,_,_,_]) rfl (fun ρ1 w1 hj hR=>(show ρ1 109=Value.bool _ from hR.1)) bj.out aO.out (fun ρ1 w1 hj hR=>(aX rfl (aX rfl (aX rfl (aX rfl (aX rfl (aX rfl ct))))))) rfl rfl VY VY rfl ?_;refine aJ ?_;intro f W hJ hV _;have hb_5:=hJ.bl;obtain ⟨v112,v111,v110,v109,v108,v107,v106,v105,v104,v103,v102,v101,v100,v99,v98,v97,v96,v95,v94,v93,v92,v91,v90,v89,v88,v87,v86,v85,v84,v83,v82,v81,v80,v79,v78,v77,v76,v75,v74,v73,v72,v71,v70,v69,v68,v67,v66,v65,v64,v63,v62,v61,v60,v59,v58,v57,v56,v55,v54,v53,v52,v51,v50,v49,v48,v47,v46,v45,v44,v43,v42,v41,v40,v39,v38,v37,v36,v35,v34,v33,v32,_⟩:=hV;obtain ⟨A32,c32,e32,f32⟩:Rows _ _ _ (f 0) W:=v32;obtain ⟨g33,e33,o33⟩:eJ [1] 1 (f 1) W:=v33;obtain ⟨A34,c34,e34,f34⟩:Rows _ _ _ (f 2) W:=v34;obtain ⟨A35,c35,e35,f35⟩:Rows _ _ _ (f 3) W:=v35;obtain ⟨A36,c36,e36,f36⟩:Rows _ _ _ (f 4) W:=v36;obtain ⟨A39,c39,e39,f39⟩:Rows _ _ _ (f 7) W:=v39;obtain ⟨g40,e40,o40⟩:eJ [1] 1 (f 8) W:=v40;obtain ⟨A41,c41,e41,f41⟩:Rows _ _ _ (f 9) W:=v41;obtain ⟨A42,c42,e42,f42⟩:Rows _ _ _ (f 10) W:=v42
 obtain ⟨A43,c43,e43,f43⟩:Rows _ _ _ (f 11) W:=v43;obtain ⟨A47,c47,e47,f47⟩:Rows _ _ _ (f 15) W:=v47;obtain ⟨g48,e48,o48⟩:eJ [2] 1 (f 16) W:=v48;obtain ⟨A49,c49,e49,f49⟩:Rows _ _ _ (f 17) W:=v49;obtain ⟨A50,c50,e50,f50⟩:Rows _ _ _ (f 18) W:=v50;obtain ⟨A51,c51,e51,f51⟩:Rows _ _ _ (f 19) W:=v51;obtain ⟨A55,c55,e55,f55⟩:Rows _ _ _ (f 23) W:=v55;obtain ⟨g56,e56,o56⟩:eJ [0] 3 (f 24) W:=v56;obtain ⟨A57,c57,e57,f57⟩:Rows _ _ _ (f 25) W:=v57;obtain ⟨A58,c58,e58,f58⟩:Rows _ _ _ (f 26) W:=v58;obtain ⟨g59,e59,o59⟩:gY 1 1 (bC [2]) (f 27) W:=v59;obtain ⟨A60,c60,e60,f60⟩:Rows _ _ _ (f 28) W:=v60;obtain ⟨A64,c64,e64,f64⟩:Rows _ _ _ (f 32) W:=v64;obtain ⟨g65,e65,o65⟩:eJ [1,1] 1 (f 33) W:=v65;obtain ⟨A66,c66,e66,f66⟩:Rows _ _ _ (f 34) W:=v66;obtain ⟨A67,c67,e67,f67⟩:Rows _ _ _ (f 35) W:=v67;obtain ⟨A68,c68,e68,f68⟩:Rows _ _ _ (f 36) W:=v68;obtain ⟨A82,c82,e82,f82⟩:Rows _ _ _ (f 50) W:=v82;obtain ⟨A83,c83,e83,f83⟩:Rows _ _ _ (f 51) W:=v83;obtain ⟨A84,c84,e84,f84⟩:Rows _ _ _ (f 52) W:=v84;obtain ⟨g85,e85,o85⟩:xp [1] ([0,8].map eP) (f 53) W:=v85
 obtain ⟨A94,c94,e94,f94⟩:Rows _ _ _ (f 62) W:=v94;obtain ⟨g95,e95,o95⟩:eJ [2] 4 (f 63) W:=v95;obtain ⟨A103,c103,e103,f103⟩:Rows _ _ _ (f 71) W:=v103;obtain ⟨A104,c104,e104,f104⟩:Rows _ _ _ (f 72) W:=v104;obtain ⟨A105,c105,e105,f105⟩:Rows _ _ _ (f 73) W:=v105;obtain ⟨A106,c106,e106,f106⟩:Rows _ _ _ (f 74) W:=v106;obtain ⟨A110,c110,e110,f110⟩:Rows _ _ _ (f 78) W:=v110;obtain ⟨A111,c111,e111,f111⟩:Rows _ _ _ (f 79) W:=v111;obtain ⟨A112,c112,e112,f112⟩:Rows _ _ _ (f 80) W:=v112;replace hh:=hJ.hp
 refine aR (a8 (ae e112 (ae e111 (ae e110 (ae v109 (ae v108 (ae v107 (ae e106 (ae e105 (ae e104 (ae e103 (ae v102 (ae v101 (ae v100 (ae v99 (ae v98 (ae v97 (ae v96 (ae e95 (ae e94 (ae v93 (ae v92 (ae v91 (ae v90 (ae v89 (ae v88 (ae v87 (ae v86 (ae e85 (ae e84 (ae e83 (ae e82 (ae v81 (ae v80 (ae v79 (ae v78 (ae v77 (ae v76 (ae v75 (ae v74 (ae v73 (ae v72 (ae v71 (ae v70 (ae v69 (ae e68 (ae e67 (ae e66 (ae e65 (ae e64 (ae v63 (ae v62 (ae v61 (ae e60 (ae e59 (ae e58 (ae e57 (ae e56 (ae e55 (ae v54 (ae v53 (ae v52 (ae e51 (ae e50 (ae e49 (ae e48 (ae e47 (ae v46 (ae v45 (ae v44 (ae e43 (ae e42 (ae e41 (ae e40 (ae e39 (ae v38 (ae v37 (ae e36 (ae e35 (ae e34 (ae e33 (ae e32 aQ)))))))))))))))))))))))))))))))))))))))))))))))))))))))))))))))))))))))))))))))))) ?_;dsimp only [bH];clear e32 e33 e34 e35 e36 e39 e40 e41 e42 e43 e47 e48 e49 e50 e51 e55 e56 e57 e58 e59 e60 e64 e65 e66 e67 e68 e82 e83 e84 e85 e94 e95 e103 e104 e105 e106 e110 e111 e112 hJ;refine aK rfl rfl ?_;refine aG (l6 [1,2,1,1,2,1] A112 6 c112 _ f112 (mQ rfl) VY) ar.out rfl VY ?_;rintro e_ w113 ⟨A113,c113,rfl,h2⟩;refine ⟨_,rfl, ?_⟩;replace hh:=hh.ext h2.below;refine aK rfl rfl ?_
 refine br hh (kT A111 6 c111 ([1,2,1,1,2,1].map eP) A113 c113 _ (f111.ext h2.below) (h2.aC (i:=0) rfl) VY) rfl ?_;intro w114 hh;refine eM ?_;exact vH
theorem lZ (a:NR) (w:World):
  Calls Tryz.prog 43 #[.agg #[.bool a.neg,.string a.bf,.int .i64 a.e]] w fun r w'=>r=.returned (.bool (sx a))∧Below w.heap.size w w':=by
 have hh:=Hp.start w;by_cases h1:(8:Int)<a.bf.size
 ·refine EE ?_;refine sr ?_;refine cf hh [_,_,_] ?_;intro b1 w1 hh;refine aB (aa (sr (bE (bE ?_))));refine bB hh 0 ?_;refine bA bj.out rfl VY ?_;refine bM (mB ?_);refine gS (gS (gS ?_));refine eM ?_;refine mB ?_;refine gS (gS (gS ?_));refine eM ?_;refine aB (aa (au ?_));refine cS ?_;refine ⟨?_,hh.below⟩;unfold sx;rw [Wm (.inl h1)]
 ·by_cases h2:a.e< -60
  ·refine EE ?_;refine sr ?_;refine cf hh [_,_,_] ?_;intro b1 w1 hh;refine aB (aa (sr (bE (bE ?_))));refine bB hh 0 ?_;refine bA bj.out rfl VY ?_;refine bM (mB (gT (bE (gT ?_))));refine bB hh 0 ?_;refine gT ?_;refine aW ?_;refine dE ?_;refine mB ?_;refine gS (gS (gS ?_));refine eM ?_;refine aB (aa (au ?_));refine cS ?_;refine ⟨?_,hh.below⟩;unfold sx;rw [Wm (.inr (.inl h2))]
  ·by_cases h3:60<a.e
   ·refine EE ?_;refine sr ?_;refine cf hh [_,_,_] ?_;intro b1 w1 hh;refine aB (aa (sr (bE (bE ?_))));refine bB hh 0 ?_;refine bA bj.out rfl VY ?_;refine bM (mB (gT (bE (gT ?_))));refine bB hh 0 ?_;refine gT ?_;refine aW ?_;refine dE ?_;refine mB (gT (bE (gT ?_)));refine bB hh 0 ?_;refine gT ?_;refine bM ?_;refine dE ?_;refine aB (aa (au ?_));refine cS ?_;refine ⟨?_,hh.below⟩;unfold sx;rw [Wm (.inr (.inr h3))]
   ·refine EE ?_;refine sr ?_;refine cf hh [_,_,_] ?_;intro b1 w1 hh;refine aB (aa (sr (bE (bE ?_))));refine bB hh 0 ?_;refine bA bj.out rfl VY ?_;refine bM (mB (gT (bE (gT ?_))));refine bB hh 0 ?_;refine gT ?_;refine aW ?_;refine dE ?_;refine mB (gT (bE (gT ?_)));refine bB hh 0 ?_;refine gT ?_;refine bM ?_;refine dE ?_;refine aB (aa (au ?_));refine cS ?_;refine ⟨?_,hh.below⟩;unfold sx;rw [Wu VX]
theorem p7 (A:Option Addr) (n c:Nat) (ds:List Int) (w:World) (hS:Sl w A n 1 (bC ds)):
  Calls Tryz.prog 28 #[.slice A n c] w fun r w'=>∃b:Bool,r=.returned (.bool b)∧(b=false→n≤20∧(sE ds≤4096→sE ds≤200∧∀d∈ds,¬(6<d∧d<128)))∧Below w.heap.size w w':=by
 have hh:=Hp.start w;have hln:ds.length=n:=by have:=hS.1;simpa [bC] using this
 by_cases h1:20<n
 ·refine aj (N:=32) (l:=[.slice A n c]) Tryz.func28 rfl rfl (by simp) ?_;refine tL ?_;refine bM (aa (cT (sr (aB (aa (au (aE ?_)))))));exact Bt
 ·have hc:=fun w1 hb=>lu A n c ds w1 (hS.ext hb) VX;generalize sE ds=q at*;by_cases h4:4096<q
  ·refine aj (N:=32) (l:=[.slice A n c]) Tryz.func28 rfl rfl (by simp) ?_;refine tL ?_;refine bM (aa (cF (ao (ai (sr (mL ?_))))));refine br hh (hc _ hh.below) rfl ?_;intro w9 hh;refine aI (aa (ah (sr (mI ?_))));refine bM (aa (cT (sr (aB (aa (au (aE ?_)))))));refine cS ?_;exact ⟨_,rfl,fun _=>⟨VX,fun h=>absurd h VX⟩,hh.below⟩
  ·refine aj (N:=32) (l:=[.slice A n c]) Tryz.func28 rfl rfl (by simp) ?_;refine tL ?_;refine bM (aa (cF (ao (ai (sr (mL ?_))))));refine br hh (hc _ hh.below) rfl ?_;intro w9 hh;refine aI (aa (ah (sr (mI ?_))));refine Jr ?_;refine aM [2,4,12,13,14,15,16,17,18,19,20,21,22,23,24,25,26,27,28,29] 4
    (fun v w'=>∃i:Nat,i≤n∧v=.int .i64 i∧(∀d∈ds.take i,¬(6<d∧d<128))∧Hp w [] w')
    (fun v _=>n-(intOf v).toNat) ?_ ?_
   ·exact ⟨0,V5 _,rfl,fun d hd=>(nomatch hd),hh⟩
   ·clear hh;rintro ρ2 v w2 ⟨j,hj,rfl,hall,hh⟩;by_cases hlt:j<n
    ·obtain ⟨d,hd⟩:=ak (l:=ds) (k:=j) VX;have hgd:=cw hd;obtain ⟨a1,rfl,hr⟩:=hS.at_ VX;by_cases h6:6<d
     ·by_cases h128:d<128
      ·refine ah (sr (mI (mL (aF ?_))));refine je ?_;refine k8 ?_;refine gZ ?_;refine bM (mB (gT (mL (gT (mI (gT ?_))))));refine k8 ?_;refine gT ?_;refine gZ ?_;refine gT ?_;refine aW ?_;refine eM ?_;exact FE
      ·refine ah (sr (mI (mL (aF ?_))));refine je ?_;refine k8 ?_;refine gZ ?_;refine bM (mB (gT (mL (gT (mI (gT ?_))))));refine k8 ?_;refine gT ?_;refine gZ ?_;refine gT ?_;refine aW ?_;refine eM ?_;exact Oc
     ·refine ah (sr (mI (mL (aF ?_))));refine je ?_;refine k8 ?_;refine gZ ?_;refine bM (mB ?_);refine gS (gS (gS (gS (gS ?_))));refine dE ?_;exact Oc
    ·rw [Wa VX] at hall;by_cases h3:200<q
     ·refine ah (sr (mI (mL (aF ?_))));refine aW (aa (cF (aU (aD (aD (bk (ai (sr (mI ?_)))))))));refine bM (aB (aa (au ?_)));exact Bt
     ·refine ah (sr (mI (mL (aF ?_))));refine aW (aa (cF (aU (aD (aD (bk (ai (sr (mI ?_)))))))));refine bM (aB (aa (au ?_)));refine cS ?_;exact ⟨_,rfl,fun _=>⟨VX,fun _=>⟨VX,hall⟩⟩,hh.below⟩
theorem yT (v:Int) (A:Option Addr) (n c:Nat) (ts:List TR) (w:World) (hp:Sl w A n 4 (az TR.cells ts)):
  Calls Tryz.prog 26 #[.agg #[.int .i64 v,.slice A n c]] w fun r w'=>∃b:Bool,r=.returned (.bool b)∧(b=false→n≤8∧jc 124 ts∧∀t∈ts,t.m.size≤20∧∀c∈t.m.data.toList,c.toNat≤4)∧Below w.heap.size w w':=by
 have hh:=Hp.start w;have hln:ts.length=n:=hp.bg TR.len VY;by_cases h1:8<n
 ·refine aj (N:=45) (l:=[.agg #[.int .i64 v,.slice A n c]]) Tryz.func26 rfl rfl (by simp) ?_;refine sr ?_;refine cf hh [_,_] ?_;intro b1 w1 hh;refine aB (aa (ah (sr (bE ?_))));refine bB hh 0 ?_;refine aF ?_;refine bM (aa (cT (sr (aB (aa (au (aE ?_)))))));exact Bt
 ·refine aj (N:=45) (l:=[.agg #[.int .i64 v,.slice A n c]]) Tryz.func26 rfl rfl (by simp) ?_;refine sr ?_;refine cf hh [_,_] ?_;intro b1 w1 hh;refine aB (aa (ah (sr (bE ?_))));refine bB hh 0 ?_;refine aF ?_;refine Jr ?_;refine aM [2,3,4,5,10,11,12,13,14,15,16,17,18,19,20,21,22,23,24,25,26,27,28,29,30,31,32,33,34,35,36,37,38,39,40,41,42,43,44] 3
   (fun x w'=>∃i:Nat,i≤n∧x=.int .i64 i∧jc 124 (ts.take i)∧(∀t∈ts.take i,t.m.size≤20∧∀c∈t.m.data.toList,c.toNat≤4)∧Hp w [.blk b1 24 [.int .i64 v,.slice A n c] (0,0)] w')
   (fun v _=>n-(intOf v).toNat) ?_ ?_
  ·exact ⟨0,V5 _,rfl,fun t ht=>(nomatch ht),fun t ht=>(nomatch ht),hh⟩
  ·clear hh;rintro ρ' x_ w' ⟨i,hi,rfl,hall,hsz,hh⟩;by_cases hlt:i<n
   ·obtain ⟨x,hx⟩:=ak (l:=ts) (k:=i) VX;obtain ⟨ad,rfl,hr⟩:=hp.at_ VX;have hfa:=fun w1=>lZ x.c w1;have hbm:=dD x.m;refine ah (sr (mI (bE ?_)));refine bB hh 0 ?_;refine aF ?_;refine vh ?_;refine bB hh 0 ?_;refine mI ?_;refine bY ?_;refine jY ?_;refine xd ?_;refine aS (aa (ah (sr (bE ?_))));refine bB hh 0 ?_;refine mI ?_;refine bY ?_;refine jY ?_;refine cA (vs:=[_,_,_]) aO.out rfl (((hr.ext hh.below).recAt TR.len hx).drop 1) rfl VY ?_;refine br hh (hfa _) rfl ?_;intro w29 hh
    cases hf:sx x.c with
    |true=>
     refine mB ?_;refine gS (gS (gS ?_));refine eM ?_;exact Pd
    |false=>
     by_cases h5:20<x.m.size
     ·refine mB (gT (mS (gT ?_)));refine bA bj.out rfl VY ?_;refine gT ?_;refine bM ?_;refine dE ?_;exact Pd
     ·refine mB (gT (mS (gT ?_)));refine bA bj.out rfl VY ?_;refine gT ?_;refine bM ?_;refine dE ?_;refine aa (cF (ao (ai (sr (aI (aa (aq ?_)))))));refine aM [2,5,35,36,37,38,39,40,41,42,43,44] 5
       (fun y w'=>∃q:Nat,q≤x.m.size∧y=.int .i64 q∧(∀c∈x.m.data.toList.take q,c.toNat≤4)∧Hp w [.blk b1 24 [.int .i64 v,.slice (some ad) n c] (0,0)] w')
       (fun v _=>x.m.size-(intOf v).toNat) ?_ ?_
      ·exact Ev
      ·clear hh;rintro ρ' y_ w' ⟨q,hq,rfl,hex,hh⟩;by_cases hlq:q<x.m.size
       ·obtain ⟨e,he⟩:=ak (l:=x.m.data.toList) (k:=q) VX;have he8:e.toNat<256:=e.toNat_lt;by_cases h6:4<e.toNat
        ·refine ah (sr (mI (mS ?_)));refine bA bj.out rfl VY ?_;refine EH ?_;refine hH ?_;refine bM (aa (cT (sr (aB (aa (au (bI (aE (aE (bI (bI (aE (aE (bI (aE ?_)))))))))))))));exact Bt
        ·refine ah (sr (mI (mS ?_)));refine bA bj.out rfl VY ?_;refine EH ?_;refine hH ?_;refine bM (aa (cF (ao (bF (ai (al (mI ?_)))))));refine a9 (aI (aA (ai ?_)));refine ⟨⟨q+1,VX,rfl,fun t ht=> ?_,hh⟩,by show x.m.size-(q+1)<x.m.size-q;omega, ?_⟩
         ·rw [aw he] at ht
          rcases WI.1 ht with ht|ht
          ·exact hex t ht
          ·rw [Wj.1 ht];omega
         ·exact dy
       ·rw [Wa VX] at hex;refine ah (sr (mI (mS ?_)));refine bA bj.out rfl VY ?_;refine KA ?_;refine a9 (aI (aA (ai ?_)));refine ⟨⟨i+1,VX,rfl,fun t ht=> ?_,fun t ht=> ?_,hh⟩,by show n-(i+1)<n-i;omega, ?_⟩
        ·rw [aw hx] at ht
         rcases WI.1 ht with ht|ht
         ·exact hall t ht
         ·rw [Wj.1 ht];exact Qp hf
        ·rw [aw hx] at ht
         rcases WI.1 ht with ht|ht
         ·exact hsz t ht
         ·rw [Wj.1 ht];exact ⟨VX,hex⟩
        ·exact dy
   ·rw [Wa VX] at hall hsz;refine ah (sr (mI (bE ?_)));refine bB hh 0 ?_;refine aF ?_;refine BF ?_;refine cS ?_;exact ⟨_,rfl,fun _=>⟨VX,hall,hsz⟩,hh.below⟩
theorem B3 (A:Option Addr) (n c:Nat) (xs:List NR) (B:Option Addr) (m d:Nat) (b:List SR) (w:World) (hS:Sl w A n 3 (az NR.cells xs)) (hB:Sl w B m 6 (az SR.cells b)):
  Calls Tryz.prog 27 #[.slice A n c,.slice B m d] w fun r w'=>∃v:Bool,r=.returned (.bool v)∧(v=false→n≤200∧m≤20∧(∀x∈xs,sx x=false)∧∀s∈b,s.fin 124)∧Below w.heap.size w w':=by
 have hh:=Hp.start w;have hln:xs.length=n:=hS.bg NR.len VY;have hlb:b.length=m:=hB.bg SR.len VY;by_cases h1:200<n
 ·refine Jh ?_;refine tL ?_;refine bM (mB ?_);refine gS (gS (gS ?_));refine eM ?_;refine aa (cT (sr (aB (aa (au (aE ?_))))));exact Bt
 ·by_cases h2:20<m
  ·refine Jh ?_;refine tL ?_;refine wU ?_;refine bM ?_;refine dE ?_;refine aa (cT (sr (aB (aa (au (aE ?_))))));exact Bt
  ·refine Jh ?_;refine tL ?_;refine wU ?_;refine bM ?_;refine dE ?_;refine aa (cF (ao (ai (ah (sr (aI (aa (aq ?_))))))));refine aM [4,5,15,16,17,18,19,20,21,22,23,24,25] 5
    (fun x w'=>∃i:Nat,i≤n∧x=.int .i64 i∧(∀x∈xs.take i,sx x=false)∧Hp w [] w')
    (fun v _=>n-(intOf v).toNat) ?_ ?_
   ·exact Ev
   ·clear hh;rintro ρ' x_ w' ⟨i,hi,rfl,hall,hh⟩;by_cases hlt:i<n
    ·obtain ⟨x,hx⟩:=ak (l:=xs) (k:=i) VX;obtain ⟨ad,rfl,hr⟩:=hS.at_ VX;have hfa:=fun w1=>lZ x w1;refine ah (sr (mI (mL (aF ?_))));refine je ?_;refine bY ?_;refine cA (vs:=[_,_,_]) aO.out rfl ((hr.ext hh.below).recAt NR.len hx) rfl VY ?_;refine br hh (hfa _) rfl ?_;intro w25 hh
     cases hf:sx x with
     |true=>
      exact FE
     |false=>
      refine oN ?_;refine a9 (aI (aA (ai ?_)));refine ⟨⟨i+1,VX,rfl,fun t ht=> ?_,hh⟩,by show n-(i+1)<n-i;omega, ?_⟩
      ·rw [aw hx] at ht
       rcases WI.1 ht with ht|ht
       ·exact hall t ht
       ·rw [Wj.1 ht];exact hf
      ·exact dy
    ·rw [Wa VX] at hall;refine ah (sr (mI (mL (aF ?_))));refine K4 ?_;refine aM [4,6,26,27,28,29,30,31,32,33,34,35,36,37,38,39,40,41,42,43,44,45] 6
      (fun x w'=>∃i:Nat,i≤m∧x=.int .i64 i∧(∀s∈b.take i,s.fin 124)∧Hp w [] w')
      (fun v _=>m-(intOf v).toNat) ?_ ?_
     ·exact Ev
     ·clear hh;rintro ρ' x_ w' ⟨j,hj,rfl,hbx,hh⟩;by_cases hlt2:j<m
      ·obtain ⟨s,hs⟩:=ak (l:=b) (k:=j) VX;obtain ⟨ad,rfl,hr⟩:=hB.at_ VX;have hf1:=fun w1=>lZ s.lo w1;have hf2:=fun w1=>lZ s.hi w1;refine ah (sr (mI (mL (aF ?_))));refine je ?_;refine k8 ?_;refine jY ?_;refine cA (vs:=[_,_,_]) aO.out rfl (((((hr.ext hh.below).recAt SR.len hs).drop 0).take 3)) rfl VY ?_
       cases hg1:sx s.lo with
       |true=>
        rw [hg1] at hf1;refine br hh (hf1 _) rfl ?_;intro w37 hh;refine mB ?_;refine gS (gS (gS (gS ?_)));refine ic ?_;refine ic ?_;refine eM ?_;exact FE
       |false=>
        rw [hg1] at hf1;refine br hh (hf1 _) rfl ?_;intro w37 hh;refine mB (gT (mL (gT (mI (gT ?_)))));refine k8 ?_;refine gT ?_;refine jY ?_;refine aK rfl rfl ?_;refine cA (vs:=[_,_,_]) aO.out rfl (((((hr.ext hh.below).recAt SR.len hs).drop 3).take 3)) rfl VY ?_
        cases hg2:sx s.hi with
        |true=>
         rw [hg2] at hf2;refine aK rfl rfl ?_;refine br hh (hf2 _) rfl ?_;intro w44 hh;refine dE ?_;exact FE
        |false=>
         rw [hg2] at hf2;refine aK rfl rfl ?_;refine br hh (hf2 _) rfl ?_;intro w44 hh;refine dE ?_;refine oN ?_;refine a9 (aI (aA (ai ?_)));refine ⟨⟨j+1,VX,rfl,fun t ht=> ?_,hh⟩,by show m-(j+1)<m-j;omega, ?_⟩
         ·rw [aw hs] at ht
          rcases WI.1 ht with ht|ht
          ·exact hbx t ht
          ·rw [Wj.1 ht];obtain ⟨a1,a2⟩:=Qp hg1;obtain ⟨a3,a4⟩:=Qp hg2;exact ⟨⟨a1,a2⟩,⟨a3,a4⟩⟩
         ·exact dy
      ·rw [Wa VX] at hbx;refine ah (sr (mI (mL (aF ?_))));refine BF ?_;refine cS ?_;exact ⟨_,rfl,fun _=>⟨VX,VX,hall,hbx⟩,hh.below⟩
variable {C:Nat}{ds:List Nat}
def VF (b:List SR) (xs:List Dyadic):List Dyadic:=b.mapIdx fun i s=>s.L+(s.H-s.L)*(xs[i]?).getD 0
theorem Fy:∀(ds:List Nat),(∀d∈ds,d≤5)→2^ds.sum≤ay ds*ay ds
 |[],_=>V8 _
 |d::ds,h=>by
  have h1:=Fy ds fun x hx=>h x (Wg _ hx);have h2:=h d We;have h3:2^d≤(d+1)*(d+1):=by
   match d,h2 with
   |0,_=>decide
   |1,_=>decide
   |2,_=>decide
   |3,_=>decide
   |4,_=>decide
   |5,_=>decide
  rw [List.sum_cons,Ws,ay];have:=XM h3 h1
  calc 2^d*2^ds.sum≤(d+1)*(d+1)*(ay ds*ay ds):=this
   _=(d+1)*ay ds*((d+1)*ay ds):=by rw [Nat.mul_mul_mul_comm]
theorem Rg {s:Nat} (h:∀d∈ds,d≤5) (hc:ay ds≤C) (hs:C*C<2^(s+1)):ds.sum≤s:=by
 have h1:=Fy ds h;have h2:=XM hc hc;have h3:2^ds.sum<2^(s+1):=VX;have:=(Zl (by decide:1<2)).1 h3;omega
theorem xn (c k:Nat):∀ds:List Nat,eT c ds k=k+ds.sum*c+ds.length*8192
 |[]=>by rw [nG];simp
 |d::ds=>by
  rw [l9,xn c k ds,List.sum_cons,Wx,Ya,Xj];omega
variable {ts:List TR}
theorem BO {t:TR}{B:Nat} (h:∀c∈t.m.data.toList,c.toNat≤B) (i:Nat):mG t.m i≤B:=by
 unfold mG
 cases he:t.m.data.toList[i]? with
 |none=>exact Int.natCast_nonneg B
 |some e=>have:=h e (V7 he);show ((e.toNat:Nat):Int)≤B;omega
theorem Q3 {v:Int}{B:Nat} (h:gF v ts=0) (hb:∀t∈ts,∀c∈t.m.data.toList,c.toNat≤B):∀d∈gL v ts,d≤B:=fun d hd=>by
 obtain ⟨i,hi⟩:=Xr.1 hd;have h1:=((lk h).2.2 i d hi).2.2;have h2:=(Gz (l:=ts) (i:=i) (B:=(B:Int)) (Int.natCast_nonneg B) fun t ht=>BO (hb t ht) i).2;omega
structure VO (p:PX) (b:List SR) (C s:Nat):Prop where
 n:p.ts.length≤8
 ok:jc 124 p.ts
 sz:∀t∈p.ts,t.m.size≤20
 ex:∀t∈p.ts,∀c∈t.m.data.toList,c.toNat≤4
 box:∀z∈b,z.fin 124
 Vb:p.e=0→ay (gL p.v p.ts)≤C
 P1:C*C<2^(s+1)
def Vs (a:NR):Bool:=decide ((8:Int)<a.bf.size∨a.e< -60∨60<a.e)
structure VI (ts:List TR):Prop where
 n:ts.length≤10
 ok:jc 124 ts
 sz:∀t∈ts,t.m.size≤20
 ex:∀t∈ts,∀c∈t.m.data.toList,c.toNat≤6
structure N3 (v:Int) (k n D:Nat) (ts:List TR):Prop where
 e:gF v ts=0
 ok:jc k ts
 sz:∀t∈ts,t.m.size≤100000
 len:ts.length≤n
 ex:∀t∈ts,∀c∈t.m.data.toList,c.toNat≤D
theorem GF {v:Int}{ns:List Nat} (h:gF v ts=0) (hl:(gL v ts).length=ns.length) (hx:∀(i d:Nat),ns[i]?=some d→∀t∈ts,j1 i t≤d):∀(i x y:Nat),(gL v ts)[i]?=some x→ns[i]?=some y→x≤y:=fun i x y h1 h2=>by
 have h3:=((lk h).2.2 i x h1).2.2;have h4:=(Gz (l:=ts) (i:=i) (B:=(y:Int)) (Int.natCast_nonneg y) fun t ht=>by rw [←z3];have:=hx i y h2 t ht;omega).2;omega
structure It (p:PX):Prop where
 n:p.ts.length≤8
 ok:jc 124 p.ts
 ex:∀t∈p.ts,t.m.size≤20∧∀c∈t.m.data.toList,c.toNat≤4
theorem It.jX {p:PX} (h:It p) (hp:p.at_ w) (hc:p.n≤p.c):p.jX 124:=⟨by have:=hp.ln;have:=h.n;omega,hc,h.ok,fun t ht=>Wz (h.ex t ht).1 VY⟩
theorem CW.NF {p:PX}{b:List SR}{ns:List Nat} (h:CW p b ns) (hc:ay ns≤C):ay (gL p.v p.ts)≤C:=
 Wz (xc (by rw [h.qg,h.nl]) (GF h.e (by rw [h.qg,h.nl]) h.own)) hc
structure Uz (p:PX) (b:List SR) (ns:List Nat):Prop where
 vl:∀ts:List Dyadic,ts.length=ns.length→yk ns.reverse (sV ns (ez p (bT b)).2) ts=Vf (VF b ts.reverse) p.ts
 sz:∀x∈sV ns (ez p (bT b)).2,Sz 460000 x
structure VD (p q s o:PX) (b:List SR) (ns:List Nat) (c:Dyadic):Prop where
 fit:CW p b ns
 Vb:ay ns≤100
 es:oG s b (bU ns)=0
 eo:oG o b (bU ns)=0
 gs:N3 s.v 140 16 4 s.ts
 go:N3 o.v 125 1 0 o.ts
 ws:eT (140+140+16394) (gL s.v s.ts) (140+1)≤440000
 wo:eT (140+140+16394) (gL o.v o.ts) (140+1)≤440000
 sum:sV ns (ez s (bT b)).2=QO (sV ns (ez p (bT b)).2) (sV ns (ez q (bT b)).2)
 VM:sV ns (ez o (bT b)).2=((C6 ns).map nD).map fun y=>c*y
 zp:∀x∈sV ns (ez p (bT b)).2,Sz 460000 x
 zq:∀x∈sV ns (ez q (bT b)).2,Sz 460000 x
theorem vC (p:PX) (c:NR) (k:Nat) (w:World) (hp:p.at_ w) (lp:p.jX k) (hc:c.ok∧Sz k c.d) (hk:k≤400000):
  Calls Tryz.prog 179 #[.agg #[.int .i64 p.v,.slice p.A p.n p.c],.agg #[.bool c.neg,.string c.bf,.int .i64 c.e]] w fun r w'=>∃g:PX,dN (vS p c.d) p.v (aH (p.ts.map (oC c.d))) g∧r=.returned (.tuple #[.agg #[.int .i64 g.v,.slice g.A g.n g.c],.int .i64 (vS p c.d)])∧Hp w [g.row] w':=by
 have hh:=Hp.start w;have hck:=fun w1 hb=>nu p k w1 (hp.ext hb) lp;unfold vS;by_cases h0:p.e=0
 ·rw [V2 h0];rw [h0] at hck;obtain ⟨_,h4,_,_⟩:=cK h0;have hpl:p.ts.length=p.n:=hp.ln;have hpn:=lp.n;refine NZ ?_;refine sr ?_;refine cf hh [_,_] ?_;intro b2 w2 hh;refine cf hh [_,_,_] ?_;intro b3 w3 hh;refine bQ hh ?_;intro b4 w4 hh;refine aI (aa (ah (sr ?_)));refine cn hh 2 [_,_] ?_;refine br hh (hck _ hh.below) rfl ?_;intro w10 hh;refine aI (aa (sr (mI ?_)));refine KI ?_;replace hh:=hh.ck 96 4;refine bp [7,8,15,16,17,18,19,20,21,22,23,24,25,26,27,28,29,30,31,32,33,34,35,36,37,38,39] 7 8
   (fun a v w'=>∃(i:Nat) (M:List TR) (A:Option Addr) (cc:Nat),i≤p.n∧v=.int .i64 i∧M=(p.ts.take i).map (oC c.d)∧a=.slice A M.length cc∧Hp w [.row A M.length cc 96 4 (az TR.cells M),.blk b4 24 [.int .i64 0,.slice none 0 0] (0,0),.blk b3 65 [.bool c.neg,.string c.bf,.int .i64 c.e] (0,0),.blk b2 24 [.int .i64 p.v,.slice p.A p.n p.c] (0,0)] w')
   (fun _ v _=>p.n-(intOf v).toNat) ?_ ?_
  ·exact Ki
  ·clear hh;rintro ρ' a_ v w' ⟨i,M,A,cc,hi,rfl,hM,rfl,hh⟩;have hMl:M.length≤i:=by rw [hM,Wh,Wp];omega
   by_cases hlt:i<p.n
   ·obtain ⟨x,hx⟩:=ak (l:=p.ts) (k:=i) VX;obtain ⟨ad,hpA,hr⟩:=hp.at_ VX;have hxo:=lp.ok x (V7 hx);have htm:=fun w1=>l0 x.c c w1 (by have:=hxo.1.1;omega) (by have:=hc.1.1;omega) (by have:=hxo.1.2.1;omega) (by have:=hxo.1.2.2;omega) (by have:=hc.1.2.1;omega) (by have:=hc.1.2.2;omega);rw [hpA] at hh;refine ah (sr (mI (bE ?_)));refine bB hh 3 ?_;refine aF ?_;refine F7 ?_;refine aT 17 [[(7,none)],[(2,none)],[(23,some 1)],[(8,none)],[(24,some 2),(25,some 3)],[(26,some 4)],[(27,some 5)],[(2,none)],[(29,some 7)],[(8,none)],[(30,some 8),(31,some 9)],[(32,some 10)],[(33,some 11)],[(3,none)],[(34,some 12),(35,some 13)],[(28,some 6),(36,some 14)],[(37,some 15)]] [(16,38),(15,37),(14,36),(13,35),(12,34),(11,33),(10,32),(9,31),(8,30),(7,29),(6,28),(5,27),(4,26),(3,25),(2,24),(1,23),(0,22)] hh mixed VZ ?_;refine dI ?_;refine cP ?_;refine dL 3 ?_;refine cM ?_;refine iL (i) ?_;refine nJ ?_;refine Iq ?_;refine cP ?_;refine dL 3 ?_;refine cM ?_;refine iL (i) ?_;refine nJ ?_;refine mJ [_,_,_] (fun _ hj=>((hr.ext hj.hp.below).recAt TR.len hx).drop 1) ?_;refine ee 2 [_,_,_] ?_
    refine dC (fun _ hj=>htm _) ?_;refine dB [_,_,_,_] ?_;refine oB [_,_,_,_] ?_;refine aJ ?_;intro f W hJ hV;have hb_8:=hJ.bl;obtain ⟨v38,v37,v36,v35,v34,v33,v32,v31,v30,v29,v28,v27,v26,v25,v24,v23,v22,_⟩:=hV;obtain ⟨A38,c38,e38,f38⟩:Rows _ _ _ (f 16) W:=v38;replace hh:=hJ.hp;refine aR (a8 (ae e38 (ae v37 (ae v36 (ae v35 (ae v34 (ae v33 (ae v32 (ae v31 (ae v30 (ae v29 (ae v28 (ae v27 (ae v26 (ae v25 (ae v24 (ae v23 (ae v22 aQ)))))))))))))))))) ?_;dsimp only [bH];clear e38 hJ;refine bK hh (i:=0) rfl rfl rfl (f38) bj.out aO.out rfl VY (by first|rfl|exact cQ _|exact cD _|exact a7 _|exact bu NR.one _) VX VX VY ?_;intro A39 c39 w39 hh;simp only [Wd] at hh;refine jK ?_;refine a9 (aI (aA (ai ?_)));rw [←hpA] at hh;refine ⟨⟨i+1,M++[⟨x.m,nR (x.c.d*c.d)⟩],A39,c39,VX,rfl,by rw [aw hx,WT,hM];rfl,by rw [Wc];rfl,by rw [Wc,bG,fR];exact hh⟩,by show p.n-(i+1)<p.n-i;omega, ?_⟩;exact dy
   ·obtain rfl:i=p.n:=VX;rw [Wa VX] at hM;rw [←hM];refine ah (sr (mI (bE ?_)));refine bB hh 3 ?_;refine aF ?_;refine aW (aa (cF (aU (aD (aD (bk (ai (sr (bE ?_)))))))));refine bB hh 3 ?_;refine mL ?_;refine aG (hZ p.v A M.length cc M (k+k) _ (hh.aC (i:=0) rfl) VX (by rw [hM];exact zr lp.ok hc.2 VX) VX) ar.out rfl VY ?_;rintro e_ w43 ⟨g,og,rfl,h3⟩;exact Gt
 ·rw [V3 h0];refine NZ ?_;refine sr ?_;refine cf hh [_,_] ?_;intro b2 w2 hh;refine cf hh [_,_,_] ?_;intro b3 w3 hh;refine bQ hh ?_;intro b4 w4 hh;refine aI (aa (ah (sr ?_)));refine cn hh 2 [_,_] ?_;refine br hh (hck _ hh.below) rfl ?_;intro w10 hh;exact R3
theorem sg (L:Option Addr) (n c:Nat) (ps:List PX) (k:Nat) (w:World) (hL:Sl w L n 2 (az PX.cells ps)) (hn:n≤20) (hf:∀g∈ps,g.at_ w) (hl:∀g∈ps,g.jX k) (hk:k≤2999000):
  Calls Tryz.prog 124 #[.slice L n c] w fun r w'=>∃g:PX,dN (uU ps) (fu ps) (aH (um ps)) g∧r=.returned (.tuple #[.agg #[.int .i64 g.v,.slice g.A g.n g.c],.int .i64 (uU ps)])∧Hp w [g.row] w':=by
 have hh:=Hp.start w;have hln:=hL.bg PX.len VY;have hlk:=fun w1 hb=>pN L n c ps k w1 (hL.ext hb) VX (fun g hg=>(hf g hg).ext hb) hl;unfold uU;by_cases h0:ff ps=0
 ·rw [V2 h0];rw [h0] at hlk;obtain ⟨hne,tQ,hvv⟩:=qd h0;have hpos:=Za.2 hne;obtain ⟨g0,h00⟩:=ak (l:=ps) (k:=0) hpos;rw [jP h00];have hflt:∀i,i≤n→((ps.take i).flatMap PX.ts).length≤i*4096:=fun i hi=>by
   exact Sm
  obtain ⟨ad,rfl,hr⟩:=hL.at_ VX;refine aj (N:=34) (l:=[.slice (some ad) n c]) Tryz.func124 rfl rfl (by simp) ?_;refine sr ?_;refine bQ hh ?_;intro b2 w2 hh;refine aI (aa (ah (sr (mL ?_))));refine br hh (hlk _ hh.below) rfl ?_;intro w8 hh;refine aI (aa (sr (mI ?_)));refine KI ?_;replace hh:=hh.ck 96 4;refine bp [5,6,13,14,15,16,17,18,19,20,21,22,23,24,25] 5 6
   (fun a x w'=>∃(i:Nat) (M:List TR) (A':Option Addr) (c':Nat),i≤n∧x=.int .i64 i∧a=.slice A' M.length c'∧M=(ps.take i).flatMap PX.ts∧Hp w [.row A' M.length c' 96 4 (az TR.cells M),.blk b2 24 [.int .i64 0,.slice none 0 0] (0,0)] w')
   (fun _ x _=>n-(intOf x).toNat) ?_ ?_
  ·exact Ki
  ·clear hh;rintro ρ' a_ x_ w' ⟨i,M,A',c',hi,rfl,rfl,hM,hh⟩;have hML:=hflt i hi;rw [←hM] at hML;by_cases hlt:i<n
   ·obtain ⟨g,hx⟩:=ak (l:=ps) (k:=i) VX;have hmem:=V7 hx;have hgn:=(hl g hmem).n;have hgl:=(hf g hmem).ln;have oc1:=bu TR.one g.ts;refine ah (sr (mI (mL (aF ?_))));refine B5 ?_;refine fp ?_;refine jY ?_;refine bX aO.out rfl (((hr.ext hh.below).recAt PX.len hx).cell (i:=1) rfl) VY ?_;refine bK hh (i:=0) rfl rfl rfl ((hf g hmem).ext hh.below) bj.out aO.out rfl VY ?one15 VX VX VY ?kk15
    case one15=>first|rfl|assumption|exact a7 _|exact oneCells_u8s _
    intro A25 c25 w25 hh;simp only [Wd] at hh;refine jK ?_;refine a9 (aI (aA (ai ?_)));refine ⟨⟨i+1,M++g.ts,A25,c25,VX,rfl,by rw [Wc,hgl];rfl,by rw [xb hx,hM],by rw [Wc,hgl,bG];exact hh⟩,by show n-(i+1)<n-i;omega, ?_⟩;exact dy
   ·obtain rfl:i=n:=VX;rw [Wa VX] at hM;have hMf:M=um ps:=hM;rw [←hMf];refine ah (sr (mI (mL (aF ?_))));refine Ar ?_;refine fp ?_;refine jY ?_;refine bX aO.out rfl (((hr.ext hh.below).recAt PX.len h00).cell (i:=0) rfl) VY ?_;refine mL ?_;have hMo:jc k M:=fun t ht=>by
     rw [hM] at ht;obtain ⟨g,hg,ht⟩:=X7.1 ht;exact (hl g hg).ok t ht
    refine aG (hZ g0.v A' M.length c' M k _ (hh.aC (i:=0) rfl) VX hMo VX) ar.out rfl VY ?_;rintro e_ w31 ⟨g,og,rfl,h3⟩;exact Gt
 ·rw [V3 h0];generalize ff ps=e at*;refine aj (N:=34) (l:=[.slice L n c]) Tryz.func124 rfl rfl (by simp) ?_;refine sr ?_;refine bQ hh ?_;intro b2 w2 hh;refine aI (aa (ah (sr (mL ?_))));refine br hh (hlk _ hh.below) rfl ?_;intro w8 hh;exact R3
def QX (f:Dyadic→Dyadic):Prop:=∃l:List Dyadic,∀t,f t=tQ l t
def S7:List Dyadic→List Dyadic→List Dyadic
 |[],b=>b
 |x::a,[]=>x::a
 |x::a,y::b=>(x+y)::S7 a b
def Ut:List Dyadic→List Dyadic→List Dyadic
 |[],_=>[]
 |x::a,b=>S7 (b.map fun y=>x*y) (0::Ut a b)
def D1 (F:Dyadic→Dyadic) (a b:Dyadic):Prop:=∃R,QX R∧∀h,F h=a+h*b+h*h*R h
def TK (A B:List Nat) (d t:Nat):List Nat:=(List.range (ay B)).flatMap fun q=>(List.range (ay A)).map fun f=>dt A d f t q
def U4 (A B:List Nat) (d t:Nat) (xs:List Dyadic):List Dyadic:=(TK A B d t).map fun p=>(xs[p]?).getD 0
def Vm (A:List Nat) (d:Nat) (B:List Nat) (X:List Dyadic) (ta tb:List Dyadic) (r:Nat):Dyadic:=sR (A++B) fun row=>co (A++d::B) X (row.take A.length++r::row.drop A.length)*NM (A++B) row (ta++tb)
def Tg:List Nat→List Nat→List Nat
 |[],_=>[]
 |_::_,[]=>[]
 |d::ds,k::ks=>d*k::Tg ds ks
def U6 (A:List Nat) (e:Nat) (X:List Dyadic):List Dyadic:=px (qe (ay A) (e+1)) (jq A (e+1) (e+1) (pW (e+1)) X X.length 0) X.length
def UQ:List (Nat→Dyadic)→List Nat→Dyadic
 |f::fs,r::rs=>f r*UQ fs rs
 |_,_=>1
def vG (ds:List Nat) (X:List Dyadic) (fs:List (Nat→Dyadic)):Dyadic:=sR ds fun row=>co ds X row*UQ fs row
def Ta (ds:List Nat) (ts:List Dyadic):List (Nat→Dyadic):=List.zipWith (fun d t r=>vE d r t) ds ts
def VE (ts:List Dyadic):List (Nat→Dyadic):=ts.map fun t r=>t^r
def Vy (ds:List Nat) (ts:List Dyadic) (k:Nat):List (Nat→Dyadic):=(Ta ds ts).take (ds.length-k)++(VE ts).drop (ds.length-k)
def wT (b:List SR) (ns:List Nat):Nat→Dyadic
 |0=>1
 |i+1=>wT b ns i*Cw b i^(ns.getD i 0)
theorem Ry {b:List SR}{s:SR} (h:jk b=0) (hs:s∈b):s.lo.d<s.hi.d:=by
 unfold jk at h;by_cases h1:b.any (fun s=> !decide (s.lo.d<s.hi.d))=true
 ·rw [V2 h1] at h;omega
 ·rw [Bool.not_eq_true,XD] at h1;have:=h1 s hs;simpa using this
theorem Tw {b:List SR}{s:SR} (h:jk b=0) (hs:s∈b):s.L=s.lo.d∧s.H=s.hi.d:=by
 have h1:=Ry h hs;have h2:¬s.hi.d<s.lo.d:=by grind
 unfold SR.L SR.H Qm Rj;rw [V3 h2,V2 h1];exact ⟨rfl,rfl⟩
structure UZ (p:PX) (b:List SR) (fx:FX) (ns:List Nat):Prop where
 e:rp fx b=0
 q:(A0 fx b).2=aH (p.ts.map (oC (wT b ns b.length)))
 s:vS p (wT b ns b.length)=0
 n:(aH (p.ts.map (oC (wT b ns b.length)))).length≤8
theorem Nq (v:Nat) (c:NR):aH [⟨dX v,c⟩]=j4 v c.d:=
 uB (eh _) (eh _) fun m=>by
  unfold j4;rw [kK,kK,eL,eL];show (if dX v=m then c.d else 0)+_=(if dX v=m then (nR c.d).d else 0)+_;rw [cm]
theorem Cv {b:List SR}{os:List PX}{R:List HE} (hcp:rG ((bT b).map fun g=>⟨g.v,none,g.ts.length,0,g.ts⟩) os R) (hol:os.length=b.length) (h12:b.length≤12) (hb:∀s∈b,s.fin k) (hk:k≤1000):os.map PX.norm=(bT b).map PX.norm∧∀o∈os,o.jX (k+k+10)∧o.ts.length≤2:=by
 have hol2:os.length=((bT b).map fun g=>(⟨g.v,none,g.ts.length,0,g.ts⟩:PX)).length:=by rw [Wh,mw];omega
 have hkey:=hcp.key hol2;rw [W5] at hkey;refine ⟨hkey,fun o ho=> ?_⟩;obtain ⟨j,hj⟩:=Xr.1 ho;have hjn:j<os.length:=(Wi.1 hj).1;obtain ⟨s,hs⟩:=ak (l:=b) (k:=j) VX;have hx:=gN hs;obtain ⟨po,pl⟩:=lQ (v:=b.length) (i:=j) VX (hb s (V7 hs)) VX;generalize gW b.length j s=Q at hx po pl;exact Sk
theorem yb (L:Option Addr) (n c:Nat) (b:List SR) (k:Nat) (w:World) (hB:Sl w L n 6 (az SR.cells b)) (hb:∀s∈b,s.fin k) (hbx:jk b=0) (hn:n≤12) (hk:k≤1000):
  Calls Tryz.prog 110 #[.slice L n c] w fun r w'=>∃(A:Option Addr) (c3:Nat) (os:List PX) (R:List HE),r=.returned (.slice A n c3)∧os.length=n∧rG ((bT b).map fun g=>⟨g.v,none,g.ts.length,0,g.ts⟩) os R∧Hp w (.row A n c3 24 2 (az PX.cells os)::R) w':=by
 have hh:=Hp.start w;have hbl:b.length=n:=hB.bg SR.len VY;refine aj (N:=65) (l:=[.slice L n c]) Tryz.func110 rfl rfl (by simp) ?_;refine Fi ?_;replace hh:=hh.ck 24 2;refine bp [3,4,5,6,7,8,9,10,11,12,13,14,15,16,17,18,19,20,21,22,23,24,25,26,27,28,29,30,31,32,33,34,35,36,37,38,39,40,41,42,43,44,45,46,47,48,49,50,51,52,53,54,55,56,57,58,59,60,61,62,63] 3 4
  (fun a v w'=>∃(i c3:Nat) (A:Option Addr) (os:List PX) (R:List HE),i≤n∧v=.int .i64 i∧a=.slice A i c3∧os.length=i∧rG ((bT b).map fun g=>⟨g.v,none,g.ts.length,0,g.ts⟩) os R∧Hp w (.row A i c3 24 2 (az PX.cells os)::R) w')
  (fun _ v _=>n-(intOf v).toNat) ?_ ?_
 ·exact Rt
 ·clear hh;rintro ρ' a_ v w' ⟨i,c3,A,os,R,hi,rfl,rfl,hol,hcp,hh⟩;by_cases hlt:i<n
  ·obtain ⟨s,hs⟩:=ak (l:=b) (k:=i) VX;have hsm:=V7 hs;have hsf:=hb s hsm;obtain ⟨c1,c2⟩:=Tw hbx hsm;have zL:Sz k s.lo.d:=hsf.1.sz;have zH:Sz k s.hi.d:=hsf.2.sz;have zW:=zH.sub zL;obtain ⟨po,pl⟩:=lQ (v:=n) (i:=i) hn hsf VX;have vo:=qO (i:=i) hn;have fo:=zf (i:=i) hn zW VX;have co:=pK hn zL VX;have hva:=fun w1=>Cn (n:Int) (i:Int) w1;rw [JA hn hlt] at hva;have hsu:=fun w1=>tC s.hi s.lo w1 hsf.2.ok hsf.1.ok (zL.ok VX);have hcn:=fun w1=>oL (n:Int) s.lo k w1 ⟨hsf.1.ok,zL⟩ VX;rw [Iu hn,Nq] at hcn;rw [Xs] at hva;have hV:aH [⟨lg n i,nR ((1:Int):Dyadic)⟩]=lK n i:=rfl;have hF:aH ((lK n i).map (oC (s.hi.d-s.lo.d)))=qu n i (s.hi.d-s.lo.d):=rfl;have hP:aH (j4 n s.lo.d++qu n i (s.hi.d-s.lo.d))=gW n i s:=by unfold gW;rw [c1,c2]
   have tl1:(lK n i).length≤1:=cq _;have ul1:(j4 n s.lo.d).length≤1:=cq _;have fl1:(qu n i (s.hi.d-s.lo.d)).length≤1:=Wz (cq _) (by rw [Wh];exact cq _);have hps:=gN hs;rw [hbl] at hps;rw [hV] at hva;clear hV;generalize lK n i=VL at*;generalize j4 n s.lo.d=CL at*;generalize qu n i (s.hi.d-s.lo.d)=FL at*;generalize gW n i s=PL at*;obtain ⟨ad,rfl,hr⟩:=hB.at_ VX;refine ah (sr (mI (mL (aF ?_))));refine aW (aa (cT (ao (ai (ah (aq (sr (mL (aF (mL (mI ?_)))))))))));refine bY ?_;refine jY ?_;refine cA (vs:=[_,_,_]) aO.out rfl (((((hr.ext hh.below).recAt SR.len hs).drop 0).take 3)) rfl VY ?_;refine aG (hcn _) ar.out rfl VY ?_;rintro e_ w27 ⟨u,ou,rfl,h4⟩;refine ⟨_,rfl, ?_⟩;have huc:u.n≤u.c:=h4.dR (i:=0) rfl;replace hh:=hh.join h4;clear h4;simp only [Wb,V9] at hh;obtain ⟨uv,uA,un,uc,ut⟩:=u;replace hh:=show Hp w (.row uA un uc 96 4 (az TR.cells ut)::_) _ from hh;have et:CL=ut:=ou.t0.symm;have ev_:uv=(n:Int):=ou.v0;subst et ev_;have uln:CL.length=un:=(hh.aC (i:=0) rfl).bg TR.len VY;refine mT ?_;refine du ?_;refine du ?_;refine bQ hh ?_;intro b5 w5 hh
   refine bR hh 0 [_,_] ?_;intro ws hh;replace hh:Hp _ (.blk _ _ [_,_] _::_) _:=hh;refine aI (aa (sr (mL (aF (mI ?_)))));refine aG (hva _) ar.out rfl VY ?_;rintro e_ w34 ⟨t,ot,rfl,h4⟩;refine ⟨_,rfl, ?_⟩;have htc:t.n≤t.c:=h4.dR (i:=0) rfl;replace hh:=hh.join h4;clear h4;simp only [Wb,V9] at hh;obtain ⟨tv,tA,tn,tc,tt⟩:=t;replace hh:=show Hp w (.row tA tn tc 96 4 (az TR.cells tt)::_) _ from hh;have et:VL=tt:=ot.t0.symm;have ev_:tv=(n:Int):=ot.v0;subst et ev_;have tln:VL.length=tn:=(hh.aC (i:=0) rfl).bg TR.len VY;have hsc:=fun w1 ha=>vC ⟨n,tA,tn,tc,VL⟩ (nR (s.hi.d-s.lo.d)) (k+3) w1 ha ⟨by show tn≤1000000;omega,htc,vo.ok.mono VX,vo.sz⟩ ⟨zW.ok VX,by rw [cm];exact zW.mono VX⟩ VX;have hse:vS ⟨n,tA,tn,tc,VL⟩ (s.hi.d-s.lo.d)=0:=by
    exact P8
   rw [cm,hse] at hsc;dsimp only at hsc;rw [hF] at hsc;refine mT ?_;refine du ?_;refine du ?_;refine bQ hh ?_;intro b7 w7 hh;refine bR hh 0 [_,_] ?_;intro ws hh;replace hh:Hp _ (.blk _ _ [_,_] _::_) _:=hh;refine aI (aa (ah ?_));refine cH [16] [15] [0,0,0,6,14,30,0,0,192,448,960,2046,4095,8191,16383,16383,0,98303,262143] 17 [[(7,none)],[(0,none)],[(4,none)],[(39,some 1),(40,some 2)],[(41,some 3)],[(42,some 4)],[(0,none)],[(4,none)],[(44,some 6),(45,some 7)],[(46,some 8)],[(47,some 9)],[(43,some 5),(48,some 10)],[(38,some 0),(49,some 11)],[(50,some 12)],[(37,some 13)],[(37,some 13)],[]] [(16,9),(15,52),(14,51),(13,37),(12,50),(11,49),(10,48),(9,47),(8,46),(7,45),(6,44),(5,43),(4,42),(3,41),(2,40),(1,39),(0,38)] hh mixed VZ (kn rfl aO.out da) rfl (by repeat (first|exact cj|refine bP ?_|refine cg ?_)) ?_;refine ee 0 [_,_] ?_;refine dI ?_;refine cM ?_;refine iL (i) ?_;refine nJ ?_;refine mJ [_,_,_] (fun _ hj=>((((hr.ext hj.hp.below).recAt SR.len hs).drop 3).take 3)) ?_;refine dI ?_;refine cM ?_;refine iL (i) ?_;refine nJ ?_
   refine mJ [_,_,_] (fun _ hj=>((((hr.ext hj.hp.below).recAt SR.len hs).drop 0).take 3)) ?_;refine dC (fun _ hj=>hsu _) ?_;refine aN (i:=12) (eR hh.sz 0 n FL) (eR.ext) ?_ ?_
   ·intro ρ1 w1 hj hR;exact bh rfl (aP ar.out (av (show ρ1 38=Value.agg (List.toArray _) from hR.1) (av (show ρ1 49=Value.agg (List.toArray _) from hR.2.1) a6))) (hsc w1 (hj.hp.aC (i:=1) rfl)) (fun _ _ ⟨g,og,hq,h3⟩=>⟨_,hq,h3.below,g,w1,rfl,og,hj.bl.size,h3⟩)
   refine aN (i:=13) (eR hh.sz 0 n FL) (eR.ext) ?_ ?_
   ·exact HZ
   refine aN (i:=14) (gu hh.sz 0 n FL) (gu.ext) ?_ ?_
   ·exact Du
   refine aN (i:=15) (Is (.int .i64 0)) (Is.ext) ?_ ?_
   ·exact CD
   refine aN (i:=16) (cO _ 24 _) cO.ext (fun ρ1 w1 hj hR=>g8 aO.out hj.bl (fun v w2 h hb=>⟨hb,h⟩)) ?_;refine aJ ?_;intro f W hJ hV _;have hb_7:=hJ.bl;obtain ⟨v9,v52,v51,v37,v50,v49,v48,v47,v46,v45,v44,v43,v42,v41,v40,v39,v38,_⟩:=hV;obtain ⟨g50,u50,e50, -⟩:=v50;obtain ⟨g37,u37,e37, -⟩:=v37;obtain ⟨g51,u51,e51,o51,q51,h51⟩:=v51;obtain ⟨b9,e9,hl9,hc9⟩:cO _ _ _ (f 16) W:=v9;replace hh:=hJ.ka hh hl9 hc9 q51 h51 (PX.ne h51 hc9 VY);refine aR (a8 (ae e9 (ae v52 (ae e51 (ae e37 (ae e50 (ae v49 (ae v48 (ae v47 (ae v46 (ae v45 (ae v44 (ae v43 (ae v42 (ae v41 (ae v40 (ae v39 (ae v38 aQ)))))))))))))))))) ?_;dsimp only [bH];clear e50 e37 e51 e9 hJ;simp only [Wb,V9] at hh;obtain ⟨fv,fA,fn,fc,ft⟩:=g51;replace hh:=show Hp w (_::.row fA fn fc 96 4 (az TR.cells ft)::_) W from hh;have et:FL=ft:=o51.t0.symm;have ev_:fv=(n:Int):=o51.v0;subst et ev_;have fln:FL.length=fn:=(hh.aC (i:=1) rfl).bg TR.len VY;have fcc:fn≤fc:=hh.dR (i:=1) rfl;refine bR hh 0 [_,_] ?_;intro ws hh;replace hh:Hp _ (.blk _ _ [_,_] _::_) _:=hh;refine aI (aa (sr ?_));refine cn hh 4 [_,_] ?_
   refine cn hh 0 [_,_] ?_;refine xr ?_;intro b56 w56 hh;have hlp:ff [⟨n,uA,un,uc,CL⟩,⟨n,fA,fn,fc,FL⟩]=0:=lP co.e fo.e rfl;have had:=fun A3 w1 hS1 s1 s2=>sg A3 2 2 [⟨n,uA,un,uc,CL⟩,⟨n,fA,fn,fc,FL⟩] (k+k+10) w1 hS1 VY (fun g hg=>by
    rcases Wk.1 hg with rfl|hg
    ·exact s1
    ·rw [Wj.1 hg];exact s2) (fun g hg=>by
    rcases Wk.1 hg with rfl|hg
    ·exact ⟨by show un≤1000000;omega,huc,co.ok.mono VX,co.sz⟩
    ·rw [Wj.1 hg];exact ⟨by show fn≤1000000;omega,fcc,fo.ok.mono VX,fo.sz⟩) VX
   unfold uU at had;rw [V2 hlp,Ap] at had;dsimp only at had;rw [hP] at had;rw [ku (l:=CL++FL) (by rw [Wc];omega)] at had;refine aG (had _ _ (hh.aC (i:=0) rfl) (hh.aC (i:=6) rfl) (hh.aC (i:=2) rfl)) ar.out rfl VY ?_;rintro e_ w57 ⟨z,oz,rfl,h4⟩;refine ⟨_,rfl, ?_⟩;have hzc:z.n≤z.c:=h4.dR (i:=0) rfl;replace hh:=hh.join h4;clear h4;simp only [Wb,V9] at hh;replace hh:=show Hp w (.row z.A z.n z.c 96 4 (az TR.cells z.ts)::_) _ from hh;have zln:z.ts.length=z.n:=(hh.aC (i:=0) rfl).bg TR.len VY;refine mT ?_;refine du ?_;refine du ?_;refine bQ hh ?_;intro b11 w11 hh;refine bR hh 0 [_,_] ?_;intro ws hh;replace hh:Hp _ (.blk _ _ [_,_] _::_) _:=hh;refine aI (aa (al (mL ?_)));refine cn hh 0 [_,_] ?_;refine IW ?_;intro b62 w62 hh;refine bK hh (i:=10) rfl rfl rfl (hh.aC (i:=0) rfl) bj.out aO.out rfl VY (by first|rfl|exact cQ _|exact cD _|exact a7 _|exact bu NR.one _) VX VX VY ?_;intro A63 c63 w63 hh;simp only [Wd,WH] at hh;replace hh:=hh.sub (WE _ _);refine jK ?_;refine a9 (aI (aA (ai ?_)))
   replace hh:=hh.sub (V6 _ (V4 _ (V6 _ (V6 _ (V6 _ (V6 _ (V6 _ (V6 _ (V6 _ (V4 _ (Xh _)))))))))));replace hh:=hh.perm (WO (l₁:=[_]));simp only [Wb,V9] at hh;have hcp2:=hcp.add (g:=⟨n,none,PL.length,0,PL⟩) (o:=z) (by rw [hol,Wf,hps];rfl) ⟨oz.v0,oz.t0,by rw [←zln,oz.t0]⟩ hzc;refine ⟨⟨i+1,c63,A63,os++[z],z.row::R,VX,rfl,rfl,by rw [Wc,hol];rfl,hcp2,by rw [bG,fR];exact hh⟩,by show n-(i+1)<n-i;omega, ?_⟩;exact dy
  ·obtain rfl:i=n:=VX;refine ah (sr (mI (mL (aF ?_))));refine Ce ?_;refine cS ?_;exact ⟨A,c3,os,R,rfl,hol,hcp,hh⟩
variable {j:Nat}{p:List TR}
theorem GN {i:Nat}{x:TR} (h:p[i]?=some x):bL (p.take (i+1)) j m=bL (p.take i) j m++if j1 j x=m then [x] else []:=by
 unfold bL;rw [aw h,Yc];by_cases hx:j1 j x=m
 ·rw [V2 hx,List.filter_cons_of_pos (by simpa using hx)];rfl
 ·rw [V3 hx,Zk (by simpa using hx)];rfl
theorem AJ (p:List TR) (j m:Nat):(bL p j m).length≤p.length:=Zj _ _
theorem AU (p:List TR) (A:Option Addr) (n c j m:Nat) (v:Int) (w:World) (hS:Sl w A n 4 (az TR.cells p)) (hsr:H4 v j p) (hj:(j:Int)<v) (hn:n≤100000):
  Calls Tryz.prog 213 #[.slice A n c,.int .i64 j,.int .i64 m] w fun r w'=>∃(B:Option Addr) (b:Nat),r=.returned (.slice B (bL p j m).length b)∧Hp w [.row B (bL p j m).length b 96 4 (az TR.cells (bL p j m))] w':=by
 have hh:=Hp.start w;have hln:=hS.bg TR.len VY;refine aj (N:=33) (l:=[.slice A n c,.int .i64 j,.int .i64 m]) Tryz.func213 rfl rfl (by simp) ?_;refine Fi ?_;replace hh:=hh.ck 96 4;refine bp [7,8,9,10,11,12,13,14,15,16,17,18,19,20,21,22,23,24,25,26,27,28,29,30,31] 7 8
  (fun a x w'=>∃(i:Nat) (M:List TR) (B:Option Addr) (b:Nat),i≤n∧x=.int .i64 i∧a=.slice B M.length b∧M=bL (p.take i) j m∧Hp w [.row B M.length b 96 4 (az TR.cells M)] w')
  (fun _ x _=>n-(intOf x).toNat) ?_ ?_
 ·exact Ki
 ·clear hh;rintro ρ' a_ x_ w' ⟨i,M,B,b,hi,rfl,rfl,hM,hh⟩;have hML:M.length≤i:=by rw [hM];exact Wz (AJ _ _ _) (by rw [Wp];omega)
  by_cases hlt:i<n
  ·obtain ⟨x,hx⟩:=ak (l:=p) (k:=i) VX;obtain ⟨e,hex,hxe,h8⟩:=hsr.get hj (V7 hx);obtain ⟨ad,rfl,hr⟩:=hS.at_ VX;have hsn:=GN (j:=j) (m:=m) hx;rw [←hM,hxe] at hsn;by_cases hem:e.toNat=m
   ·rw [V2 hem] at hsn;refine ah (sr (mI (mL (aF ?_))));refine je ?_;refine bY ?_;refine jY ?_;refine xd ?_;refine mI ?_;refine hH ?_;refine qb ?_;refine mI ?_;refine cB (aa (cT (al (mL (mL (mI ?_))))));refine bY ?_;refine kZ ?_;refine tf ?_;intro b30 w30 hh;refine mF ?_;intro A31 c31 w31 hh;simp only [Wd,WH] at hh;replace hh:=hh.sub (WE _ _);refine jK ?_;refine a9 (aI (aA (ai ?_)));refine ⟨⟨i+1,M++[x],A31,c31,VX,rfl,by rw [Wc];rfl,hsn.symm,by rw [Wc,bG,fR];exact hh⟩,by show n-(i+1)<n-i;omega, ?_⟩;exact dy
   ·rw [V3 hem,WG] at hsn;refine ah (sr (mI (mL (aF ?_))));refine je ?_;refine bY ?_;refine jY ?_;refine xd ?_;refine mI ?_;refine hH ?_;refine qb ?_;refine mI ?_;refine cB (aa (cF (ao (bF (ai (al (mI ?_)))))));refine a9 (aI (aA (ai ?_)));refine ⟨⟨i+1,M,B,b,VX,rfl,rfl,hsn.symm,hh⟩,by show n-(i+1)<n-i;omega, ?_⟩;exact dy
  ·obtain rfl:i=n:=VX;rw [Wa VX] at hM;rw [←hM];exact QD
theorem Er (lA:Option Addr) (lc K T c0:Nat) (v:Int) (ls:List PX) (hv:gU v=true) (hl12:ls.length≤12) (hls:∀g∈ls,kI v K g.ts∧g.v=v∧g.jX K∧g.ts.length≤T) (hc0:K+4096*T+8192≤c0) (hc1:c0≤440000):
  ∀(qs:List PX) (j:Nat) (p:List TR) (A:Option Addr) (n c:Nat) (ds:List Nat) (k:Nat) (w:World),ls.drop j=qs→j≤ls.length→Sl w lA ls.length 2 (az PX.cells ls)→(∀g∈ls,g.at_ w)→Sl w A n 4 (az TR.cells p)→H4 ls.length j p→jc k p→n≤4096→ds.length=qs.length→(∀(i d:Nat),ds[i]?=some d→d≤127∧∀t∈p,j1 (j+i) t≤d)→eT c0 ds (k+1)≤440000→
  Calls Tryz.prog 176 #[.slice A n c,.int .i64 j,.slice lA ls.length lc,.int .i64 v] w fun r w'=>∃g:PX,dN (fL v (qs.map PX.ts) j p).1 v (fL v (qs.map PX.ts) j p).2 g∧r=.returned (.tuple #[.agg #[.int .i64 g.v,.slice g.A g.n g.c],.int .i64 (fL v (qs.map PX.ts) j p).1])∧Hp w [g.row] w':=by
 intro qs;have hK:K≤440000:=VX;have hco:pI v=0:=V3 (by rw [hv];decide)
 induction qs with
 |nil=>
  intro j p A n c ds k w hq hj hL hat hS hsr hok hn hds hD hB;have hh:=Hp.start w;have hln:=hS.bg TR.len VY;obtain rfl:j=ls.length:=by
   exact N9
  obtain rfl:ds=[]:=Ze.1 hds;rw [nG] at hB;have hcn:=fun c hc w1=>oL v c k w1 hc VX;rw [hco] at hcn
  cases p with
  |nil=>
   obtain rfl:n=0:=by simpa using hln.symm
   show Calls _ _ _ _ fun r w'=>∃g:PX,dN 0 v (aH [⟨dX v,nR 0⟩]) g∧r=.returned (.tuple #[.agg #[.int .i64 g.v,.slice g.A g.n g.c],.int .i64 0])∧Hp w [g.row] w';rw [sk];refine aj (N:=94) (l:=[.slice A 0 c,.int .i64 ls.length,.slice lA ls.length lc,.int .i64 v]) Tryz.func176 rfl rfl (by simp) ?_;refine sr ?_;refine bQ hh ?_;intro b8 w8 hh;refine aI (aa (sr (mI ?_)));refine eV [_,_] ?_;refine bQ hh ?_;intro b10 w10 hh;refine bR hh 0 [_,_] ?_;intro ws hh;replace hh:Hp _ (.blk _ _ [_,_] _::_) _:=hh;refine aa (ah (sr (mI (mL (aF ?_)))));refine cB (aa (cT (ah (sr (aI (aa (aq ?_)))))));refine aM [9,11,23,24,25,26,27,28,29,30,31,32,33,34,35,36,37] 11
    (fun x w'=>x=.int .i64 0∧Hp w [.blk b10 24 [.int .i64 v,.slice none 0 0] (0,0),.blk b8 24 [.int .i64 0,.slice none 0 0] (0,0)] w')
    (fun _ _=>0) ?_ ?_
   ·exact ⟨rfl,hh⟩
   ·clear hh;rintro ρ' x_ w' ⟨rfl,hh⟩;refine ah (sr (mI (mL (aF ?_))));refine aW (aa (cF (aU (aD (aD (bk (ai (sr ?_))))))));refine cn hh 0 [_,_] ?_;refine bR hh 1 [_,_] ?_;intro ws hh;replace hh:Hp _ (_::.blk _ _ [_,_] _::_) _:=hh;refine aI (aa (au (aE ?_)));refine tU ?_;exact ⟨⟨v,none,0,0,[]⟩,⟨rfl,rfl⟩,rfl,(hh.sub (WN _)).uZ⟩
  |cons t p=>
   have hn1:p.length+1=n:=by simpa using hln
   have ht:=hok t We;obtain ⟨ad,rfl,hr⟩:=hS.at_ VX;show Calls _ _ _ _ fun r w'=>∃g:PX,dN 0 v (aH [⟨dX v,t.c⟩]) g∧r=.returned (.tuple #[.agg #[.int .i64 g.v,.slice g.A g.n g.c],.int .i64 0])∧Hp w [g.row] w';refine aj (N:=94) (l:=[.slice (some ad) n c,.int .i64 ls.length,.slice lA ls.length lc,.int .i64 v]) Tryz.func176 rfl rfl (by simp) ?_;refine sr ?_;refine bQ hh ?_;intro b8 w8 hh;refine aI (aa (sr (mI ?_)));refine eV [_,_] ?_;refine bQ hh ?_;intro b10 w10 hh;refine bR hh 0 [_,_] ?_;intro ws hh;replace hh:Hp _ (.blk _ _ [_,_] _::_) _:=hh;refine aa (ah (sr (mI (mL (aF ?_)))));refine cB (aa (cT (ah (sr (aI (aa (aq ?_)))))));refine aM [9,11,23,24,25,26,27,28,29,30,31,32,33,34,35,36,37] 11
    (fun x w'=>x=.int .i64 0∧Hp w [.blk b10 24 [.int .i64 v,.slice none 0 0] (0,0),.blk b8 24 [.int .i64 0,.slice none 0 0] (0,0)] w')
    (fun _ _=>0) ?_ ?_
   ·exact ⟨rfl,hh⟩
   ·clear hh;rintro ρ' x_ w' ⟨rfl,hh⟩;refine ah (sr (mI (mL (aF ?_))));refine aW (aa (cT (ao (ai (ah (aq (sr (mI (mL (mI ?_))))))))));refine Cj ?_;refine jY ?_;refine cA (vs:=[_,_,_]) aO.out rfl (((hr.ext hh.below).recAt TR.len (show (t::p)[0]?=some t from rfl)).drop 1) rfl VY ?_;refine aG (hcn t.c ht _) ar.out rfl VY ?_;rintro e_ w35 ⟨g,og,rfl,h3⟩;refine ⟨_,rfl, ?_⟩;replace hh:=hh.join h3;simp only [Wb,V9] at hh;refine du ?_;refine du ?_;refine bR hh 2 [_,_] ?_;intro ws hh;replace hh:Hp _ (_::_::.blk _ _ [_,_] _::_) _:=hh;refine aI (aa (au (bI (aE (aE (bI (aE (aE ?_))))))));refine mE ?_;exact Qy
 |cons q qs ih=>
  intro j p A n c ds k w hq hj hL hat hS hsr hok hn hds hD hB;have hh:=Hp.start w;have hln:=hS.bg TR.len VY
  cases ds with
  |nil=>cases hds
  |cons d ds=>
   have hd:=hD 0 d rfl;have hjl:j<ls.length:=by
    exact OS
   have hqj:ls[j]?=some q:=by rw [←List.head?_drop,hq];rfl
   have hqs:ls.drop (j+1)=qs:=by rw [←List.tail_drop,hq];rfl
   obtain ⟨hqk,hqv,hql,hqT⟩:=hls q (V7 hqj);rw [l9] at hB;have hB1:eT c0 ds (k+1)≤440000:=VX;rw [Wv];show Calls _ _ _ _ fun r w'=>∃g:PX,dN (cG q.ts (fL v (qs.map PX.ts) (j+1)) p j 128).1 v (cG q.ts (fL v (qs.map PX.ts) (j+1)) p j 128).2 g∧r=.returned (.tuple #[.agg #[.int .i64 g.v,.slice g.A g.n g.c],.int .i64 (cG q.ts (fL v (qs.map PX.ts) (j+1)) p j 128).1])∧Hp w [g.row] w';have hDs:∀n (i e:Nat),ds[i]?=some e→e≤127∧∀t∈bL p j n,j1 (j+1+i) t≤e:=fun n i e he=>by
    exact R1
   have hrec:∀(m:Nat) (B:Option Addr) (b:Nat) (w1:World),Below w.heap.size w w1→Sl w1 B (bL p j m).length 4 (az TR.cells (bL p j m))→Calls Tryz.prog 176 #[.slice B (bL p j m).length b,.int .i64 ((j:Int)+1),.slice lA ls.length lc,.int .i64 v] w1 fun r w'=>∃g:PX,dN (fL v (qs.map PX.ts) (j+1) (bL p j m)).1 v (fL v (qs.map PX.ts) (j+1) (bL p j m)).2 g∧r=.returned (.tuple #[.agg #[.int .i64 g.v,.slice g.A g.n g.c],.int .i64 (fL v (qs.map PX.ts) (j+1) (bL p j m)).1])∧Hp w1 [g.row] w':=fun m B b w1 hb hs=>by
    have hwl:=AJ p j m;exact ih (j+1) (bL p j m) _ _ b ds k w1 hqs VX (hL.ext hb) (fun g hg=>(hat g hg).ext hb) hs (hsr.with VX) (fun t ht=>hok t (kC t ht)) VX (by simpa using hds) (hDs m) hB1
   have hsub:∀m,(fL v (qs.map PX.ts) (j+1) (bL p j m)).1=0→kI v (eT c0 ds (k+1)) (fL v (qs.map PX.ts) (j+1) (bL p j m)).2:=fun m hm=>by
    exact SX
   generalize fL v (qs.map PX.ts) (j+1)=sub at hrec hsub ⊢;have hlim:=qy (sub:=sub) (p:=p) (j:=j) hv hqk hqT hd.2 hd.1 hsub hc0 VX;have hlim2:∀i,i≤128→(cG q.ts sub p j i).1=0→kI v 440000 (cG q.ts sub p j i).2:=fun i hi h0=>(hlim i hi h0).mono (by
    have:(i+d-128)*c0≤d*c0:=Xi _ VX;omega)
   obtain ⟨lad,rfl,hlr⟩:=hL.at_ VX;have hsd:=vW (q:=q.ts) (sub:=sub) (p:=p) (j:=j);refine aj (N:=94) (l:=[.slice A n c,.int .i64 j,.slice (some lad) ls.length lc,.int .i64 v]) Tryz.func176 rfl rfl (by simp) ?_;refine sr ?_;refine bQ hh ?_;intro b8 w8 hh;refine aI (aa (sr (mI ?_)));refine eV [_,_] ?_;refine bQ hh ?_;intro b10 w10 hh;refine bR hh 0 [_,_] ?_;intro ws hh;replace hh:Hp _ (.blk _ _ [_,_] _::_) _:=hh;refine aa (ah (sr (mI (mL (aF ?_)))));refine cB (aa (cF (ao (ai (ah (sr (aI (aa (aq ?_)))))))));replace hh:=(hh.ck 96 4);replace hh:=show Hp w (.row none 0 0 96 4 (az TR.cells [])::.blk b10 24 [.int .i64 v,.slice none 0 0] (0,0)::_) _ from hh;replace hh:=hh.perm (WO (l₁:=[_]));simp only [Wb,V9] at hh;refine aM [9,12,13,14,15,16,39,40,41,42,43,44,45,46,47,48,49,50,51,52,53,54,55,56,57,58,59,60,61,62,63,64,65,66,67,68,69,70,71,72,73,74,75,76,77,78,79,80,81,82,83,84,85,86,87,88,89,90,91,92] 12
    (fun nv w'=>∃(i:Nat) (oA:Option Addr) (on oc:Nat) (os:List TR),i≤128∧nv=.int .i64 (127-(i:Int))∧cG q.ts sub p j i=(0,os)∧Hp w [.blk b10 24 [.int .i64 v,.slice oA on oc] (0,0),.row oA on oc 96 4 (az TR.cells os),.blk b8 24 [.int .i64 0,.slice none 0 0] (0,0)] w')
    (fun nv _=>(intOf nv+1).toNat) ?_ ?_
   ·exact ⟨0,none,0,0,[],V5 _,rfl,rfl,hh⟩
   ·clear hh;rintro ρ' nv_ w' ⟨i,oA,on,oc,os,hi,rfl,hos,hh⟩;by_cases hi8:i<128
    ·obtain ⟨m,hm⟩:∃m,m=127-i:=⟨_,rfl⟩;rw [show (127-(i:Int))=(m:Int) by omega];have hnx:cG q.ts sub p j (i+1)=g6 q.ts sub p j m (0,os):=by rw [o7,hos,hm]
     have hop:=hlim2 i VX (by rw [hos]);rw [hos] at hop;replace hop:kI v 440000 os:=hop;unfold g6 at hnx;rw [V3 (fun h=>h rfl)] at hnx;have hmi2:(127-((i+1:Nat):Int))=(m:Int)-1:=VX;have hoc:on≤oc:=hh.dR (i:=1) rfl;have hon:os.length=on:=(hh.aC (i:=1) rfl).bg TR.len VY;have hol:=hop.len;dsimp only at hnx;refine ah (sr (mI ?_));refine dJ (aa (cT (ao (ai (ah (aq (sr (mL (mI (mI ?_))))))))));refine aG (AU p A n c j m ls.length _ (hS.ext hh.below) hsr VX VX) ar.out rfl VY ?_;rintro e_ w46 ⟨B,b,rfl,h3⟩;refine ⟨_,rfl, ?_⟩;replace hh:=hh.join h3;simp only [Wb,V9] at hh;refine aL (aa ?_);by_cases hsk:os.length=0∧(bL p j m).length=0
     ·rw [V2 hsk] at hnx;obtain ⟨h1,h2⟩:=hsk;obtain rfl:on=0:=VX;generalize (bL p j m).length=wl at*;subst h2;refine ah (sr (bE ?_));refine bB hh 1 ?_;refine aF ?_;refine cB (mB (gT (mL (gT (aF (gT ?_))))));refine cB ?_;refine eM ?_;refine aa (cT (aU (aD (bk (ai (al (mI ?_)))))));refine dQ (aI (aA (ai ?_)));replace hh:=hh.sub (V6 _ (V4 _ (V4 _ (V4 _ Wq))));refine ⟨⟨i+1,oA,0,oc,os,VX,by rw [hmi2];rfl,hnx,hh⟩,by show ((m:Int)-1+1).toNat<((m:Int)+1).toNat;omega, ?_⟩;exact dy
     ·rw [V3 hsk] at hnx;have htm:=fun w1 (hp1:PX.at_ ⟨v,oA,on,oc,os⟩ w1) hb=>vP ⟨v,oA,on,oc,os⟩ q 440000 440000 w1 hp1 ((hat q (V7 hqj)).ext hb) ⟨by show on≤1000000;omega,hoc,hop.ok,hop.sz⟩ ⟨hql.n,hql.cap,hql.ok.mono hK,hql.sz⟩ VY;refine wY [47,48,49,50,51,52,53,54,55]
       (fun w'=>Hp w [.row B (bL p j m).length b 96 4 (az TR.cells (bL p j m)),.blk b10 24 [.int .i64 v,.slice oA on oc] (0,0),.row oA on oc 96 4 (az TR.cells os),.blk b8 24 [.int .i64 0,.slice none 0 0] (0,0)] w') ?_ ?_
      ·by_cases h0:on=0
       ·subst h0;have hne:(bL p j m).length≠0:=fun h=>hsk ⟨hon,h⟩;refine sr (bE ?_);refine bB hh 1 ?_;refine aF ?_;refine cB (mB (gT (mL (gT (aF (gT ?_))))));refine cB ?_;refine eM ?_;exact ER
       ·refine sr (bE ?_);refine bB hh 1 ?_;refine aF ?_;refine cB (mB ?_);refine gS (gS (gS ?_));refine dE ?_;exact ER
      ·skip;clear hh;rintro ρ' w' hh;refine ah ?_;refine cH [9] [8] [0,0,0,6,14,31,63,127,127,0,767,2047] 10 [[(10,none)],[(2,none)],[(1,none)],[(58,some 1),(59,some 2)],[(60,some 3)],[(57,some 0),(61,some 4)],[(62,some 5)],[(56,some 6)],[(56,some 6)],[]] [(9,14),(8,64),(7,63),(6,56),(5,62),(4,61),(3,60),(2,59),(1,58),(0,57)] hh mixed VZ (kn rfl aO.out da) rfl (by repeat (first|exact cj|refine bP ?_|refine cg ?_)) ?_;refine ee 1 [_,_] ?_;refine dI ?_;refine cM ?_;refine iL (j) ?_;refine mJ [_,_] (fun _ hj=>(hlr.ext hj.hp.below).recAt PX.len hqj) ?_;refine aN (i:=5) (eR hh.sz (eE os q.ts) v (aH (cv os q.ts))) (eR.ext) ?_ ?_
       ·intro ρ1 w1 hj hR;exact bh rfl (aP ar.out (av (show ρ1 57=Value.agg (List.toArray _) from hR.1) (av (show ρ1 61=Value.agg (List.toArray _) from hR.2.1) a6))) (htm w1 (hj.hp.aC (i:=2) rfl) hj.hp.below) (fun _ _ ⟨g,og,hq,h3⟩=>⟨_,hq,h3.below,g,w1,rfl,og,hj.bl.size,h3⟩)
       refine aN (i:=6) (eR hh.sz (eE os q.ts) v (aH (cv os q.ts))) (eR.ext) ?_ ?_
       ·exact HZ
       refine aN (i:=7) (gu hh.sz (eE os q.ts) v (aH (cv os q.ts))) (gu.ext) ?_ ?_
       ·exact Du
       refine aN (i:=8) (Is (.int .i64 (eE os q.ts))) (Is.ext) ?_ ?_
       ·exact CD
       refine aN (i:=9) (cO _ 24 _) cO.ext (fun ρ1 w1 hj hR=>g8 aO.out hj.bl (fun v w2 h hb=>⟨hb,h⟩)) ?_;refine aJ ?_;intro f W hJ hV _;have hb_13:=hJ.bl;obtain ⟨v14,v64,v63,v56,v62,v61,v60,v59,v58,v57,_⟩:=hV;obtain ⟨g62,u62,e62, -⟩:=v62;obtain ⟨g56,u56,e56, -⟩:=v56;obtain ⟨g63,u63,e63,o63,q63,h63⟩:=v63;obtain ⟨b14,e14,hl14,hc14⟩:cO _ _ _ (f 9) W:=v14;replace hh:=hJ.ka hh hl14 hc14 q63 h63 (PX.ne h63 hc14 VY);refine aR (a8 (ae e14 (ae v64 (ae e63 (ae e56 (ae e62 (ae v61 (ae v60 (ae v59 (ae v58 (ae v57 aQ))))))))))) ?_;dsimp only [bH];clear e62 e56 e63 e14 hJ;simp only [Wb,V9] at hh;obtain ⟨gv,gA,gn,gc,gts⟩:=g63;replace hh:=show Hp w (_::.row gA gn gc 96 4 (az TR.cells gts)::_) W from hh;by_cases hte:eE os q.ts=0
       ·rw [V3 (by rw [hte];decide)] at hnx;rw [hte] at o63;obtain rfl:v=gv:=o63.v.symm;obtain rfl:aH (cv os q.ts)=gts:=o63.ts.symm;have hgc:gn≤gc:=hh.dR (i:=1) rfl;have hgl:(aH (cv os q.ts)).length=gn:=(hh.aC (i:=1) rfl).bg TR.len VY;have hgo:=yf hop hqk hqT hte VX;have hwi:=hh.aC (i:=2) rfl;refine bR hh 0 [_,_] ?_;intro ws hh;replace hh:Hp _ (.blk _ _ [_,_] _::_) _:=hh;refine aI (aa (ah (sr (mI ?_))));refine cJ (aa (cF (ao (ai (sr (mL (mI ?_)))))));refine a9 (mL (mI ?_));refine aG (hrec m B b _ hh.below (hh.aC (i:=2) rfl)) ar.out rfl VY ?_;rintro e_ w75 ⟨g2,og2,rfl,h4⟩;refine ⟨_,rfl, ?_⟩;replace hh:=hh.join h4;simp only [Wb,V9] at hh;have hs2:=hsub m;obtain ⟨hv2,hA2,hn2,hc2,ht2⟩:=g2;replace hh:=show Hp w (.row hA2 hn2 hc2 96 4 (az TR.cells ht2)::_) _ from hh;by_cases hE2:(sub (bL p j m)).1=0
        ·rw [V3 (by rw [hE2];decide)] at hnx;rw [hE2] at og2;obtain rfl:v=hv2:=og2.v.symm;obtain rfl:(sub (bL p j m)).2=ht2:=og2.ts.symm;have ho2:=hs2 hE2;have hc2c:hn2≤hc2:=hh.dR (i:=0) rfl;have hl2:((sub (bL p j m)).2).length=hn2:=(hh.aC (i:=0) rfl).bg TR.len VY;generalize (sub (bL p j m)).2=us at*;rw [hE2];refine mT ?_;refine du ?_;refine du ?_;refine bQ hh ?_;intro b16 w16 hh;refine bR hh 0 [_,_] ?_;intro ws hh;replace hh:Hp _ (.blk _ _ [_,_] _::_) _:=hh;refine aI (aa (ah (sr (mI ?_))));refine rQ ?_;refine cn hh 2 [_,_] ?_;refine cn hh 0 [_,_] ?_;refine xr ?_;intro b85 w85 hh;have hlp2:ff [⟨v,gA,gn,gc,aH (cv os q.ts)⟩,⟨v,hA2,hn2,hc2,us⟩]=0:=lP hgo.e ho2.e rfl;have had:=fun A3 w1 (hT1:Sl w1 A3 2 2 (az PX.cells [⟨v,gA,gn,gc,aH (cv os q.ts)⟩,⟨v,hA2,hn2,hc2,us⟩])) s1 s2=>sg A3 2 2 [⟨v,gA,gn,gc,aH (cv os q.ts)⟩,⟨v,hA2,hn2,hc2,us⟩] 2000000 w1 hT1 VY (fun g hg=>by
          rcases Wk.1 hg with rfl|hg
          ·exact s1
          ·rw [Wj.1 hg];exact s2) (fun g hg=>by
          rcases Wk.1 hg with rfl|hg
          ·exact ⟨by have:=hgo.len;show gn≤1000000;omega,hgc,hgo.ok.mono VX,hgo.sz⟩
          ·rw [Wj.1 hg];exact ⟨by have:=ho2.len;show hn2≤1000000;omega,hc2c,ho2.ok.mono VX,ho2.sz⟩) VY
         unfold uU at had;rw [V2 hlp2,Ap] at had;dsimp only at had;refine aG (had _ _ (hh.aC (i:=0) rfl) (hh.aC (i:=4) rfl) (hh.aC (i:=2) rfl)) ar.out rfl VY ?_;rintro e_ w86 ⟨g3,og3,rfl,h5⟩;refine ⟨_,rfl, ?_⟩;replace hh:=hh.join h5;simp only [Wb,V9] at hh;obtain ⟨hv3,hA3,hn3,hc3,ht3⟩:=g3;replace hh:=show Hp w (.row hA3 hn3 hc3 96 4 (az TR.cells ht3)::_) _ from hh;by_cases hg:fW (aH (cv os q.ts)++us)≠0
         ·rw [V2 hg] at hnx;have hfin:cG q.ts sub p j 128=(fW (aH (cv os q.ts)++us),[]):=by rw [kj (by rw [hnx];exact hg) (show i+1≤128 by omega),hnx]
          rw [hfin];generalize fW (aH (cv os q.ts)++us)=E at*;refine mT ?_;refine du ?_;refine du ?_;refine bR hh 7 [_,_] ?_;intro ws hh;replace hh:Hp _ (_::_::_::_::_::_::_::.blk _ _ [_,_] _::_) _:=hh;refine aI (aa (sr (mI ?_)));refine cJ (aa (cT (sr ?_)));refine eV [_,_] (mI ?_);refine bR hh 9 [_,_] ?_;intro ws hh;replace hh:Hp _ (_::_::_::_::_::_::_::_::_::.blk _ _ [_,_] _::_) _:=hh;refine aI (aa (au (bI (aE (aE (bI (aE ?_)))))));refine Ly (ej rfl (ek (vs:=[_,_]) aO.out (hh.bZ (i:=9) (n:=2) rfl rfl) rfl) (jg (jM rfl) fF)) ?_;exact ⟨PX.nil,dN.err hg,rfl,(hh.sub (WN _)).uZ⟩
         ·rw [V3 hg] at hnx;have hg0:fW (aH (cv os q.ts)++us)=0:=VX;rw [hg0] at og3;obtain rfl:hv3=v:=og3.v;obtain rfl:aH (aH (cv os q.ts)++us)=ht3:=og3.ts.symm;rw [hg0];refine mT ?_;refine du ?_;refine du ?_;refine bR hh 7 [_,_] ?_;intro ws hh;replace hh:Hp _ (_::_::_::_::_::_::_::.blk _ _ [_,_] _::_) _:=hh;refine aI (aa (sr (mI ?_)));refine B1 ?_;refine dQ (aI (aA (ai ?_)));replace hh:=hh.sub (V4 _ (V6 _ (V6 _ (V6 _ (V6 _ (V6 _ (V6 _ (V4 _ (V6 _ (V4 _ Wq))))))))));replace hh:=hh.perm (WO (l₁:=[_]));simp only [Wb,V9] at hh;try dsimp only at hh
          refine ⟨⟨i+1,hA3,hn3,hc3,_,VX,by rw [hmi2];rfl,hnx,hh⟩,by show ((m:Int)-1+1).toNat<((m:Int)+1).toNat;omega, ?_⟩;exact dy
        ·rw [V2 hE2] at hnx;have hfin:cG q.ts sub p j 128=((sub (bL p j m)).1,[]):=by rw [kj (by rw [hnx];exact hE2) (show i+1≤128 by omega),hnx]
         rw [hfin];generalize (sub (bL p j m)).1=E at*;refine mT ?_;refine du ?_;refine du ?_;refine bQ hh ?_;intro b16 w16 hh;refine bR hh 0 [_,_] ?_;intro ws hh;replace hh:Hp _ (.blk _ _ [_,_] _::_) _:=hh;refine aI (aa (ah (sr (mI ?_))));refine cJ (aa (cT (sr ?_)));refine eV [_,_] (mI ?_);refine bR hh 7 [_,_] ?_;intro ws hh;replace hh:Hp _ (_::_::_::_::_::_::_::.blk _ _ [_,_] _::_) _:=hh;refine aI (aa (au (aE (bI (aE (aE (bI (aE ?_))))))));refine Ly (ej rfl (ek (vs:=[_,_]) aO.out (hh.bZ (i:=7) (n:=2) rfl rfl) rfl) (jg (jM rfl) fF)) ?_;exact ⟨PX.nil,dN.err hE2,rfl,(hh.sub (WN _)).uZ⟩
       ·rw [V2 hte] at hnx;have hfin:cG q.ts sub p j 128=(eE os q.ts,[]):=by rw [kj (by rw [hnx];exact hte) (show i+1≤128 by omega),hnx]
        rw [hfin];generalize eE os q.ts=E at*;refine bR hh 0 [_,_] ?_;intro ws hh;replace hh:Hp _ (.blk _ _ [_,_] _::_) _:=hh;refine aI (aa (ah (sr (mI ?_))));refine cJ (aa (cT (sr ?_)));refine eV [_,_] (mI ?_);refine bR hh 5 [_,_] ?_;intro ws hh;replace hh:Hp _ (_::_::_::_::_::.blk _ _ [_,_] _::_) _:=hh;refine aI (aa (au (aE (bI (aE (aE (bI (aE ?_))))))));refine Ly (ej rfl (ek (vs:=[_,_]) aO.out (hh.bZ (i:=5) (n:=2) rfl rfl) rfl) (jg (jM rfl) fF)) ?_;exact ⟨PX.nil,dN.err hte,rfl,(hh.sub (WN _)).uZ⟩
    ·obtain rfl:i=128:=VX;rw [hos];refine ah (sr (mI ?_));refine dJ (aa (cF (aU (aD (aD (bk (ai (sr ?_))))))));refine cn hh 0 [_,_] ?_;refine bR hh 2 [_,_] ?_;intro ws hh;replace hh:Hp _ (_::_::.blk _ _ [_,_] _::_) _:=hh;refine aI (aa (au ?_));refine mE ?_;exact ⟨⟨v,oA,on,oc,os⟩,⟨rfl,rfl⟩,rfl,hh.sub (.cons _ (V4 _ (WN _)))⟩
theorem yO (p:PX) (lA:Option Addr) (lc:Nat) (ls:List PX) (k K T c0:Nat) (ds:List Nat) (w:World) (hp:p.at_ w) (lp:p.jX k) (hL:Sl w lA ls.length 2 (az PX.cells ls)) (hat:∀g∈ls,g.at_ w) (hl4:ls.length≤1000) (hf:Tt p ls k K T c0 ds):
  Calls Tryz.prog 109 #[.agg #[.int .i64 p.v,.slice p.A p.n p.c],.slice lA ls.length lc] w fun r w'=>∃g:PX,dN (ez p ls).1 (fu ls) (ez p ls).2 g∧r=.returned (.tuple #[.agg #[.int .i64 g.v,.slice g.A g.n g.c],.int .i64 (ez p ls).1])∧Hp w [g.row] w':=by
 have hh:=Hp.start w;have hck:=fun w1 hb=>nu p k w1 (hp.ext hb) lp;have hlk:=fun w1 hb=>pN lA ls.length lc ls K w1 (hL.ext hb) VX (fun g hg=>(hat g hg).ext hb) hf.jX;unfold ez;by_cases h0:p.e≠0
 ·rw [V2 h0];generalize p.e=e at*;refine aj (N:=45) (l:=[.agg #[.int .i64 p.v,.slice p.A p.n p.c],.slice lA ls.length lc]) Tryz.func109 rfl rfl (by simp) ?_;refine sr ?_;refine cf hh [_,_] ?_;intro b2 w2 hh;refine bQ hh ?_;intro b4 w4 hh;refine aI (aa (ah (sr ?_)));refine cn hh 1 [_,_] ?_;refine br hh (hck _ hh.below) rfl ?_;intro w9 hh;exact R3
 ·rw [V3 h0];have hpe:p.e=0:=VX;rw [hpe] at hck;by_cases h1:(ls.length:Int)≠p.v
  ·rw [V2 h1];refine aj (N:=45) (l:=[.agg #[.int .i64 p.v,.slice p.A p.n p.c],.slice lA ls.length lc]) Tryz.func109 rfl rfl (by simp) ?_;refine sr ?_;refine cf hh [_,_] ?_;intro b2 w2 hh;refine bQ hh ?_;intro b4 w4 hh;refine aI (aa (ah (sr ?_)));refine cn hh 1 [_,_] ?_;refine br hh (hck _ hh.below) rfl ?_;intro w9 hh;exact NV
  ·rw [V3 h1];obtain ⟨hfw,h4,hmy,hca⟩:=cK hpe;replace hfw:=dx.1 hfw;have hl12:ls.length≤12:=VX;have hpl:=hp.ln;have hsr:=AR hpe;have hput:=fun (v:Int) (hv:gU v=true) (hz:∀g∈ls,gF v g.ts=0) (hvv:∀g∈ls,g.v=v) w1 hb=>Er lA lc K T c0 v ls hv hl12 (fun g hg=>⟨⟨hz g hg,(hf.jX g hg).ok,(hf.jX g hg).sz⟩,hvv g hg,hf.jX g hg,hf.P1 g hg⟩) hf.step hf.top ls 0 p.ts p.A p.n p.c ds k w1 rfl (V5 _) (hL.ext hb) (fun g hg=>(hat g hg).ext hb) (hp.ext hb) (by rw [show ((ls.length:Nat):Int)=p.v by omega];exact hsr) lp.ok VX hf.len (fun i d h=>by rw [Wr];exact hf.Sv i d h) hf.grow;by_cases hn:ls=[]
   ·subst hn;rw [V3 (fun h=>h.1 rfl)];have hpu:=hput 0 rfl (fun g hg=>by cases hg) (fun g hg=>by cases hg);refine aj (N:=45) (l:=[.agg #[.int .i64 p.v,.slice p.A p.n p.c],.slice lA 0 lc]) Tryz.func109 rfl rfl (by simp) ?_;refine sr ?_;refine cf hh [_,_] ?_;intro b2 w2 hh;refine bQ hh ?_;intro b4 w4 hh;refine aI (aa (ah (sr ?_)));refine cn hh 1 [_,_] ?_;refine br hh (hck _ hh.below) rfl ?_;intro w9 hh;refine aI (aa (sr (mI ?_)));refine k6 ?_;refine bB hh 1 ?_;refine EA ?_;refine cB (aa (cT (sr (bE ?_))));refine bB hh 1 ?_;refine mL ?_;refine aG (hpu _ hh.below) ar.out rfl VY ?_;rintro e_ w26 ⟨g,og,rfl,h3⟩;exact Ob
   ·have hlp0:0<ls.length:=Za.2 hn;obtain ⟨lad,rfl,hlr⟩:=hL.at_ hlp0;by_cases hl0:ff ls=0
    ·rw [V3 (fun h=>h.2 hl0)];rw [hl0] at hlk;obtain ⟨g0,h00⟩:=ak (l:=ls) (k:=0) hlp0;have hhv:=jP h00;obtain ⟨_,tQ,hvv⟩:=qd hl0;have hg0:=tQ g0 (V7 h00);unfold PX.e at hg0;have hpu:=hput (fu ls) (by rw [hhv];exact (cK hg0).1) (fun g hg=>by rw [←hvv g hg];exact tQ g hg) hvv;rw [hhv] at hpu ⊢;generalize fL g0.v (ls.map PX.ts) 0 p.ts=E at*;refine aj (N:=45) (l:=[.agg #[.int .i64 p.v,.slice p.A p.n p.c],.slice (some lad) ls.length lc]) Tryz.func109 rfl rfl (by simp) ?_;refine sr ?_;refine cf hh [_,_] ?_;intro b2 w2 hh;refine bQ hh ?_;intro b4 w4 hh;refine aI (aa (ah (sr ?_)));refine cn hh 1 [_,_] ?_;refine br hh (hck _ hh.below) rfl ?_;intro w9 hh;refine aI (aa (sr (mI ?_)));refine k6 ?_;refine bB hh 1 ?_;refine EA ?_;refine cB (aa (cF (ao (ai (ah (sr (mL ?_)))))));refine br hh (hlk _ hh.below) rfl ?_;intro w30 hh;refine aI (aa (sr (mI ?_)));refine cJ (aa (cF (ao (ai (ah ?_)))))
     refine aT 10 [[(2,none)],[(35,some 0)],[(1,none)],[(1,none)],[(38,some 3)],[(39,some 4)],[(40,some 5)],[(36,some 1),(37,some 2),(41,some 6)],[(42,some 7)],[(42,some 7)]] [(9,44),(8,43),(7,42),(6,41),(5,40),(4,39),(3,38),(2,37),(1,36),(0,35)] hh mixed VZ ?_;refine cP ?_;refine dL 1 ?_;refine dI ?_;refine dI ?_;refine iL (0) ?_;refine nJ ?_;refine mO (fun _ hj=>((hlr.ext hj.hp.below).recAt PX.len h00).cell (i:=0) rfl) ?_;refine aN (i:=7) (eR hh.sz E.1 g0.v E.2) (eR.ext) ?_ ?_
     ·intro ρ1 w1 hj hR;exact bh rfl (aP ar.out (av (show ρ1 36=Value.slice _ _ _ from hR.1) (av rfl (av (show ρ1 37=Value.slice _ _ _ from hR.2.1) (av (show ρ1 41=Value.int _ _ from hR.2.2.1) a6))))) (hpu w1 hj.hp.below) (fun _ _ ⟨g,og,hq,h3⟩=>⟨_,hq,h3.below,g,w1,rfl,og,hj.bl.size,h3⟩)
     refine aN (i:=8) (me hh.sz E.1 g0.v E.2) (me.ext) ?_ ?_
     ·exact Du
     refine aN (i:=9) (Is (.int .i64 E.1)) (Is.ext) ?_ ?_
     ·exact CD
     refine aJ ?_;intro f W hJ hV;have hb_11:=hJ.bl;obtain ⟨v44,v43,v42,v41,v40,v39,v38,v37,v36,v35,_⟩:=hV;obtain ⟨g42,u42,e42, -⟩:=v42;obtain ⟨g43,u43,e43,o43,q43,h43⟩:=v43;replace hh:=JJ.Ew hJ hh q43 h43;refine aR (a8 (ae v44 (ae e43 (ae e42 (ae v41 (ae v40 (ae v39 (ae v38 (ae v37 (ae v36 (ae v35 aQ))))))))))) ?_;dsimp only [bH];clear e42 e43 hJ;simp only [Wb,V9] at hh;refine bR hh 1 [_,_] ?_;intro ws hh;replace hh:Hp _ (_::.blk _ _ [_,_] _::_) _:=hh;refine aI (aa (au ?_));refine tU ?_;exact ⟨_,o43,rfl,hh.sub (V4 _ (WN _))⟩
    ·rw [V2 ⟨VX,hl0⟩];generalize ff ls=E at*;refine aj (N:=45) (l:=[.agg #[.int .i64 p.v,.slice p.A p.n p.c],.slice (some lad) ls.length lc]) Tryz.func109 rfl rfl (by simp) ?_;refine sr ?_;refine cf hh [_,_] ?_;intro b2 w2 hh;refine bQ hh ?_;intro b4 w4 hh;refine aI (aa (ah (sr ?_)));refine cn hh 1 [_,_] ?_;refine br hh (hck _ hh.below) rfl ?_;intro w9 hh;refine aI (aa (sr (mI ?_)));refine k6 ?_;refine bB hh 1 ?_;refine EA ?_;refine cB (aa (cF (ao (ai (ah (sr (mL ?_)))))));refine br hh (hlk _ hh.below) rfl ?_;intro w30 hh;refine aI (aa (sr (mI ?_)));refine cJ (aa (cT (sr ?_)));refine eV [_,_] (mI ?_);refine bR hh 0 [_,_] ?_;intro ws hh;replace hh:Hp _ (.blk _ _ [_,_] _::_) _:=hh;refine aI (aa (au (aE ?_)));refine mW ?_;exact ⟨PX.nil,dN.err hl0,rfl,(hh.sub (WN _)).uZ⟩
def Vx (b:List SR):Dyadic:=iD (b.map SR.wid)
def UL (b:List SR) (v:Int):Prop:=(b=[]∧v= -1)∨∃(m:Nat) (s:SR),b[m]?=some s∧v=m∧(∀(j:Nat) (t:SR),b[j]?=some t→¬s.wid<t.wid)∧∀(j:Nat) (t:SR),j<m→b[j]?=some t→t.wid<s.wid
theorem TP (a b:NR) (k:Nat) (ha:LX k a) (hb:LX k b) (hk:k≤3000000) (w:World):
  Calls Tryz.prog 175 #[.agg #[.bool a.neg,.string a.bf,.int .i64 a.e],.agg #[.bool b.neg,.string b.bf,.int .i64 b.e]] w fun r w'=>r=.returned (.int .i64 (jU a.d b.d))∧Below w.heap.size w w':=
 CE a b w ha.ok hb.ok (hb.sz.ok VX) (by have:=((ha.sz.sub hb.sz).ok VX).1;omega)
theorem vO (L:Option Addr) (n c:Nat) (b:List SR) (k:Nat) (w:World) (hS:Sl w L n 6 (az SR.cells b)) (hb:∀s∈b,s.fin k) (hn:n≤1000000) (hk:k≤3000000):
  Calls Tryz.prog 108 #[.slice L n c] w fun r w'=>r=.returned (.int .i64 (jk b))∧Below w.heap.size w w':=by
 have hh:=Hp.start w;have hln:=hS.bg SR.len VY;by_cases h0:n=0
 ·refine aj (N:=25) (l:=[.slice L n c]) Tryz.func108 rfl rfl (by simp) ?_;refine sr (aI (aa (ah (sr (mL (aF ?_))))));refine xB ?_;refine cS ?_;obtain rfl:b=[]:=Xt VX;exact ⟨rfl,hh.below⟩
 ·refine aj (N:=25) (l:=[.slice L n c]) Tryz.func108 rfl rfl (by simp) ?_;refine sr (aI (aa (ah (sr (mL (aF ?_))))));refine cB (aa (cF (ao (ai (ah (sr (aI (aa (aq ?_)))))))));refine aM [2,3,7,8,9,10,11,12,13,14,15,16,17,18,19,20,21,22,23,24] 3
   (fun v w'=>∃i:Nat,i≤n∧v=.int .i64 i∧(b.take i).any (fun s=> !decide (s.lo.d<s.hi.d))=false∧Hp w [] w')
   (fun v _=>n-(intOf v).toNat) ?_ ?_
  ·exact ⟨0,V5 _,rfl,rfl,hh⟩
  ·clear hh;rintro ρ' v w' ⟨i,hi,rfl,hall,hh⟩;by_cases hlt:i<n
   ·obtain ⟨s,hs⟩:=ak (l:=b) (k:=i) VX;have ms:=V7 hs;obtain ⟨ad,rfl,hr⟩:=hS.at_ VX;have hc:=fun w1=>TP s.lo s.hi k (hb s ms).1 (hb s ms).2 hk w1;have e:=F2 s.lo.d s.hi.d;generalize jU s.lo.d s.hi.d=cc at*;by_cases g:0≤cc
    ·refine ah (sr (mI (mL (aF ?_))));refine jW ?_;refine OX ?_;refine dI ?_;refine cM ?_;refine iL (i) ?_;refine nJ ?_;refine mJ [_,_,_] (fun _ hj=>(((hr.ext hj.hp.below).recAt SR.len hs).drop 0).take 3) ?_;refine dI ?_;refine cM ?_;refine iL (i) ?_;refine nJ ?_;refine mJ [_,_,_] (fun _ hj=>(((hr.ext hj.hp.below).recAt SR.len hs).drop 3).take 3) ?_;refine aJ ?_;intro f W hJ hV;have hb_6:=hJ.bl;obtain ⟨v22,v21,v20,v19,v18,v17,v16,v15,v14,v13,_⟩:=hV;replace hh:=hJ.hp;refine O8 ?_;dsimp only [bH];clear hJ;refine br hh (hc _) rfl ?_;intro w23 hh;exact Sb
    ·refine ah (sr (mI (mL (aF ?_))));refine jW ?_;refine OX ?_;refine dI ?_;refine cM ?_;refine iL (i) ?_;refine nJ ?_;refine mJ [_,_,_] (fun _ hj=>(((hr.ext hj.hp.below).recAt SR.len hs).drop 0).take 3) ?_;refine dI ?_;refine cM ?_;refine iL (i) ?_;refine nJ ?_;refine mJ [_,_,_] (fun _ hj=>(((hr.ext hj.hp.below).recAt SR.len hs).drop 3).take 3) ?_;refine aJ ?_;intro f W hJ hV;have hb_6:=hJ.bl;obtain ⟨v22,v21,v20,v19,v18,v17,v16,v15,v14,v13,_⟩:=hV;replace hh:=hJ.hp;refine O8 ?_;dsimp only [bH];clear hJ;refine br hh (hc _) rfl ?_;intro w23 hh;refine dJ (aa (cF (ao (bF (ai (al (mI ?_)))))));refine a9 (aI (aA (ai ?_)));exact Pk
   ·rw [Wa VX] at hall;refine ah (sr (mI (mL (aF ?_))));refine aW (aa (cF (aU (aD (aD (bk (ai (sr (aI (aa (au ?_)))))))))));refine cS ?_;exact ⟨by rw [jk,hall,V3 (by simp),V3 VX],hh.below⟩
variable {base:Nat}{cs:List Value}
theorem Me {d e r:Nat} (h1:e≤d) (h2:r≤d):vy (d-e) ((r:Int)-(e:Int))=eX d 1 1 e r:=by
 unfold vy eX;by_cases h:r<e
 ·rw [V2 VX,V2 h]
 ·rw [V3 VX,V3 h,lz,lz,show ((r:Int)-(e:Int)).toNat=r-e by omega];grind
theorem LZ {ns es:List Nat}{a d e r:Nat} (h1:ns[a]?=some d) (h2:es[a]?=some e) (h3:rs[a]?=some r):wK 0 (ns.take (a+1)).reverse (es.take (a+1)).reverse (rs.take (a+1)).reverse=eX d 1 1 e r*wK 0 (ns.take a).reverse (es.take a).reverse (rs.take a).reverse:=by
 rw [aw h1,aw h2,aw h3,Yz,Yz,Yz]
 rfl
theorem JE {ns:List Nat} (h:∀d∈ns,d≤127) (hc:4096<ay ns):sE (bU ns)=4097:=by
 exact S6
theorem NI {g:Nat}{v:Value} (h:Sl w (some ⟨g,0,none⟩) n 1 cs) (hn:0<n) (hx:cs[k]?=some v):w.cell? ⟨g,k*1,none⟩=some v:=by
 obtain ⟨ad,e,hr⟩:=h.at_ hn
 cases e
 have h2:=hr.su hx;by_cases h0:k=0
 ·subst h0;exact h2
 ·rw [Wo] at*;unfold Addr.add at h2;rw [V3 h0] at h2;simpa using h2
theorem HX {p:PX}{D:List Int} (hpe:p.e=0) (hdv:(D.length:Int)=p.v) (h:m0 (jy p.v p.ts) D=false):D=bU (D.map Int.toNat)∧∀d∈D.map Int.toNat,d≤127:=by
 obtain ⟨f1,_,_,_⟩:=cK hpe;have f2:=dx.1 f1;obtain ⟨o1,o2,o3⟩:=lk hpe;have hD:∀(i:Nat) (y:Int),D[i]?=some y→0≤y∧y≤127:=fun i y hy=>by
  have hi:=(Wi.1 hy).1;obtain ⟨d,hd⟩:=ak (l:=gL p.v p.ts) (k:=i) VX;have hg:(jy p.v p.ts)[i]?=some (d:Int):=by rw [o1];exact ig hd
  have:=XD.1 h _ (V7 (sU hg hy));rw [Wt] at this;exact ⟨by show 0≤y;omega,by show y≤127;omega⟩
 constructor
 ·unfold bU;rw [W5];refine (Y1 _).symm.trans (XZ fun y hy=> ?_);obtain ⟨i,hi⟩:=Xr.1 hy;have:=hD i y hi;show y=((y.toNat:Nat):Int);omega
 ·intro d hd;obtain ⟨y,hy,rfl⟩:=Wn.1 hd;obtain ⟨i,hi⟩:=Xr.1 hy;have:=hD i y hi;omega
def BU (base n:Nat) (b:List SR):VP:=fun x W=>∃(g:Option Addr×Nat×List PX×List HE) (w1:World),x=.slice g.1 n g.2.1∧g.2.2.1.length=n∧rG ((bT b).map fun g=>⟨g.v,none,g.ts.length,0,g.ts⟩) g.2.2.1 g.2.2.2∧base≤w1.heap.size∧Hp w1 (.row g.1 n g.2.1 24 2 (az PX.cells g.2.2.1)::g.2.2.2) W
theorem BU.ext {b:List SR} (x:Value) (w w':World) (h:BU base n b x w) (hb:Below w.heap.size w w'):BU base n b x w':=let ⟨g,w1,h1,h2,h3,h4,h5⟩:=h;⟨g,w1,h1,h2,h3,h4,h5.ext hb⟩
set_option maxRecDepth 10000 in
theorem CS (p:PX) (L:Option Addr) (n c:Nat) (b:List SR) (M:Option Addr) (m mc:Nat) (ds:List Int) (k:Nat) (w:World) (hp:p.at_ w) (lp:p.jX k) (hB:Sl w L n 6 (az SR.cells b)) (hb:∀s∈b,s.fin k) (hn:n≤1000000) (hD:Sl w M m 1 (bC ds)) (hm:m≤1000000) (hk:k≤1000)
  (hgr:gI p b (lS p ds)=0→eT (k+k+16394) (gL p.v p.ts) (k+1)≤440000):
  Calls Tryz.prog 32 #[.agg #[.int .i64 p.v,.slice p.A p.n p.c],.slice L n c,.slice M m mc] w fun r w'=>∃g:FX,Out (oG p b ds) (CG p ds) (sV (CG p ds) (ez p (bT b)).2) g∧r=.returned (.tuple #[.agg #[.slice g.A g.n g.a,.slice g.B g.m g.b],.int .i64 (oG p b ds)])∧Hp w [g.vD,g.uC] w':=by
 have hh:=Hp.start w;have hbl:b.length=n:=hB.bg SR.len VY;have hdl:ds.length=m:=by have:=hD.1;rw [bV] at this;omega
 have hDd:lS p ds=if m=0 then jy p.v p.ts else ds:=by unfold lS;rw [hdl]
 have hoN:CG p ds=(lS p ds).map Int.toNat:=rfl;have hoE:oG p b ds=if gI p b (lS p ds)≠0 then gI p b (lS p ds) else (ez p (bT b)).1:=rfl
 rw [hoN,hoE];clear hoN hoE;generalize lS p ds=D at*;have hdg:=fun w1 hb=>qE p k w1 (hp.ext hb) lp;have hck:=fun w1 hb=>nu p k w1 (hp.ext hb) lp;have hbk:=fun w1 hb1=>vO L n c b k w1 (hB.ext hb1) hb hn VX;have hl4:(jy p.v p.ts).length≤1000000:=by
  exact OJ
 have hgl:p.e=0→((jy p.v p.ts).length:Int)=p.v:=fun h=>by
  have h9:gF p.v p.ts=0:=h;have:=dx.1 (cK h9).1;unfold jy;rw [V2 h9,eQ];omega
 refine aj (N:=160) (l:=[.agg #[.int .i64 p.v,.slice p.A p.n p.c],.slice L n c,.slice M m mc]) Tryz.func32 rfl rfl (by simp) ?_;refine sr ?_;refine cf hh [_,_] ?_;intro b3 w3 hh;refine bQ hh ?_;intro b6 w6 hh;refine aI (aa (sr ?_));refine cn hh 1 [_,_] ?_;refine aG (hdg _ hh.below) ar.out rfl VY ?_;rintro e_ w23 ⟨G,gc,rfl,h4⟩;refine ⟨_,rfl, ?_⟩;replace hh:=hh.join h4;clear h4;simp only [Wb,V9] at hh;refine aL (aa ?_);refine xt [2,24,25,26,27] 2
  (fun v w'=>∃(M2:Option Addr) (m2 mc2:Nat),v=.slice M2 m2 mc2∧m2≤1000000∧D.length=m2∧(∀(H:List HE) (w1:World),Hp w (H++[.row G (jy p.v p.ts).length gc 3 1 (bC (jy p.v p.ts))]) w1→Sl w1 M2 m2 1 (bC D))∧Hp w [.blk b6 39 [.slice none 0 0,.slice none 0 0] (0,0),.blk b3 24 [.int .i64 p.v,.slice p.A p.n p.c] (0,0),.row G (jy p.v p.ts).length gc 3 1 (bC (jy p.v p.ts))] w') ?_ ?_
 ·by_cases hm0:m=0
  ·subst hm0;rw [V2 rfl] at hDd;refine sr (mL (aF ?_));refine cB (aa (cT (al (mL (aL (aa ?_))))));replace hh:=hh.perm (WO (l₁:=[_,_]));simp only [Wb,V9] at hh;replace hh:=hh.perm (WO (l₁:=[_,_]));simp only [Wb,V9] at hh;refine ⟨⟨G,_,gc,rfl,hl4,by rw [hDd],fun H w1 h1=>by rw [hDd];exact kO (h1.own (.row G _ gc 3 1 (bC (jy p.v p.ts))) (XA _ We)),hh⟩, ?_⟩;exact JN
  ·rw [V3 hm0] at hDd;refine sr (mL (aF ?_));refine cB (aa (cF (ao (ai ?_))));replace hh:=hh.perm (WO (l₁:=[_,_]));simp only [Wb,V9] at hh;replace hh:=hh.perm (WO (l₁:=[_,_]));simp only [Wb,V9] at hh;refine ⟨⟨M,m,mc,rfl,hm,by rw [hDd];exact hdl,fun H w1 h1=>by rw [hDd];exact hD.ext h1.below,hh⟩, ?_⟩;exact JN
 ·skip;clear hh hDd hdl hD hm;rintro ρ' v w' ⟨M2,m2,mc2,rfl,hm2,hDl,hrd,hh⟩;have hEe:p.e≠0→gI p b D=p.e:=fun h=>by unfold gI;rw [V2 h]
  by_cases h0:p.e≠0
  ·rw [hEe h0,V2 h0];clear hEe hgr;generalize p.e=E at*;refine ah (sr ?_);refine cn hh 1 [_,_] ?_;refine br hh (hck _ hh.below) rfl ?_;intro w29 hh;refine aI (aa (sr (mI ?_)));refine cJ (aa (cT (sr ?_)));refine eV [_,_] (mI ?_);refine bR hh 0 [_,_] ?_;intro ws hh;replace hh:Hp _ (.blk _ _ [_,_] _::_) _:=hh;refine aI (aa (au (aE ?_)));refine mW ?_;exact ⟨FX.nil,Out.err h0,rfl,(hh.sub (WN _)).K9⟩
  ·replace h0:p.e=0:=VX;rw [h0] at hck;by_cases h1:jk b≠0
   ·rw [show gI p b D=jk b by unfold gI;rw [V3 (fun c=>c h0),V2 h1],V2 h1];clear hEe hgr;generalize jk b=E at*;refine ah (sr ?_);refine cn hh 1 [_,_] ?_;refine br hh (hck _ hh.below) rfl ?_;intro w29 hh;refine aI (aa (sr (mI ?_)));refine nA ?_;refine br hh (hbk _ hh.below) rfl ?_;intro w35 hh;refine aI (aa (sr (mI ?_)));refine cJ (aa (cT (sr ?_)));refine eV [_,_] (mI ?_);refine bR hh 0 [_,_] ?_;intro ws hh;replace hh:Hp _ (.blk _ _ [_,_] _::_) _:=hh;refine aI (aa (au (aE ?_)));refine mW ?_;exact ⟨FX.nil,Out.err h1,rfl,(hh.sub (WN _)).K9⟩
   ·replace h1:jk b=0:=VX;rw [h1] at hbk;by_cases h2:(b.length:Int)≠p.v
    ·rw [show gI p b D=1 by unfold gI;rw [V3 (fun c=>c h0),V3 (fun c=>c h1),V2 (.inl h2)],V2 VY];clear hEe hgr;refine ah (sr ?_);refine cn hh 1 [_,_] ?_;refine br hh (hck _ hh.below) rfl ?_;intro w29 hh;refine aI (aa (sr (mI ?_)));refine nA ?_;refine br hh (hbk _ hh.below) rfl ?_;intro w35 hh;refine aI (aa (sr (mI ?_)));refine k6 ?_;refine bB hh 1 ?_;refine cJ (mB ?_);refine gS (gS (gS (gS (gS ?_))));refine eM ?_;refine aa (cT (sr ?_));exact QT
    ·by_cases h3:(D.length:Int)≠p.v
     ·rw [show gI p b D=1 by unfold gI;rw [V3 (fun c=>c h0),V3 (fun c=>c h1),V2 (.inr h3)],V2 VY];clear hEe hgr;refine ah (sr ?_);refine cn hh 1 [_,_] ?_;refine br hh (hck _ hh.below) rfl ?_;intro w29 hh;refine aI (aa (sr (mI ?_)));refine nA ?_;refine br hh (hbk _ hh.below) rfl ?_;intro w35 hh;refine aI (aa (sr (mI ?_)));refine k6 ?_;refine bB hh 1 ?_;refine cJ (mB (gT (mL (gT (aF (gT (bE (gT ?_))))))));refine bB hh 1 ?_;refine gT ?_;refine cJ ?_;refine dE ?_;refine aa (cT (sr ?_));exact QT
     ·have hfs:m0 (jy p.v p.ts) D=true→gI p b D=1:=fun h=>by unfold gI;rw [V3 (fun c=>c h0),V3 (fun c=>c h1),V3 (fun h=>h.elim h2 h3),V2 h]
      have hft:m0 (jy p.v p.ts) D=false→gJ 1 D=0→gI p b D=3:=fun h h9=>by unfold gI;rw [V3 (fun c=>c h0),V3 (fun c=>c h1),V3 (fun h=>h.elim h2 h3),h,V3 VY,V2 h9]
      have hfo:m0 (jy p.v p.ts) D=false→gJ 1 D≠0→gI p b D=0:=fun h h9=>by unfold gI;rw [V3 (fun c=>c h0),V3 (fun c=>c h1),V3 (fun h=>h.elim h2 h3),h,V3 VY,V3 h9]
      have hgl2:=hgl h0;have hzl:((jy p.v p.ts).zip D).length=m2:=by rw [List.length_zip];omega
      have hbd:m0 (jy p.v p.ts) D=((jy p.v p.ts).zip D).any fun q=>decide (q.2<q.1∨127<q.2):=rfl;refine ah (sr ?_);refine cn hh 1 [_,_] ?_;refine br hh (hck _ hh.below) rfl ?_;intro w29 hh;refine aI (aa (sr (mI ?_)));refine nA ?_;refine br hh (hbk _ hh.below) rfl ?_;intro w35 hh;refine aI (aa (sr (mI ?_)));refine k6 ?_;refine bB hh 1 ?_;refine cJ (mB (gT (mL (gT (aF (gT (bE (gT ?_))))))));refine bB hh 1 ?_;refine gT ?_;refine cJ ?_;refine dE ?_;refine aa (cF (ao (ai (ah (sr (aI (aa (aq ?_))))))));refine aM [7,11,53,54,55,56,57,58,59,60,61,62,63,64,65,66,67,68,69,70,71,72,73,74,75] 11
       (fun v w'=>∃i:Nat,i≤m2∧v=.int .i64 i∧(((jy p.v p.ts).zip D).take i).any (fun q=>decide (q.2<q.1∨127<q.2))=false∧Hp w [.blk b6 39 [.slice none 0 0,.slice none 0 0] (0,0),.blk b3 24 [.int .i64 p.v,.slice p.A p.n p.c] (0,0),.row G (jy p.v p.ts).length gc 3 1 (bC (jy p.v p.ts))] w')
       (fun v _=>m2-(intOf v).toNat) ?_ ?_
      ·exact ⟨0,V5 _,rfl,rfl,hh⟩
      ·clear hh;rintro ρ' v w' ⟨i,hi,rfl,hall,hh⟩;by_cases hlt:i<m2
       ·obtain ⟨x,hx⟩:=ak (l:=jy p.v p.ts) (k:=i) VX;obtain ⟨y,hy⟩:=ak (l:=D) (k:=i) VX;have hz:=sU hx hy;have hx2:=cw hx;have hy2:=cw hy;obtain ⟨ad,rfl,hr⟩:=(hrd [_,_] _ hh).at_ VX;obtain ⟨g0,rfl⟩:=hh.cu (i:=2) rfl VX;by_cases hxy:y<x
        ·refine ah (sr (mI (mL (aF ?_))));refine jW ?_;refine IK ?_;refine dI ?_;refine cM ?_;refine JM ?_;refine mO (fun _ hj=>(hr.ext hj.bl).su hy2) ?_;refine dI ?_;refine cM ?_;refine FG (i) ?_;refine J8 ?_;refine y3 ?_;refine jV ?_;refine dS (dS ?_);refine aJ ?_;intro f W hJ hV;have hb_15:=hJ.bl;obtain ⟨v70,v69,v68,v67,v66,v65,v64,v63,v62,v61,v60,v59,_⟩:=hV;replace hh:=hJ.hp;refine JH ?_;dsimp only [bH];clear hJ;refine gS ?_;refine ic ?_;refine gS ?_;refine eM ?_;refine aa (cT (sr ?_));refine eV [_,_] ?_;refine bR hh 0 [_,_] ?_;intro ws hh;replace hh:Hp _ (.blk _ _ [_,_] _::_) _:=hh;refine aI (aa (au (bI (aE (aE (bI (aE ?_)))))));refine mW ?_;rw [hfs (by rw [hbd];exact XR.2 ⟨_,V7 hz,Wm (.inl hxy)⟩),V2 VY];exact IQ
        ·by_cases hy7:127<y
         ·refine ah (sr (mI (mL (aF ?_))));refine jW ?_;refine IK ?_;refine dI ?_;refine cM ?_;refine JM ?_;refine mO (fun _ hj=>(hr.ext hj.bl).su hy2) ?_;refine dI ?_;refine cM ?_;refine FG (i) ?_;refine J8 ?_;refine y3 ?_;refine jV ?_;refine dG (dI ?_);refine dG (cM ?_);refine aJ ?_;intro f W hJ hV;have hb_15:=hJ.bl;obtain ⟨v70,v69,v68,v67,v66,v65,v64,v63,v62,v61,v60,v59,_⟩:=hV;replace hh:=hJ.hp;refine JH ?_;dsimp only [bH];clear hJ;refine gT ?_;refine fp ?_;refine aK rfl rfl ?_;refine bX aO.out rfl ((hr.ext hb_15).su hy2) VY ?_;refine gT ?_;refine bM ?_;refine dE ?_;refine aa (cT (sr ?_));refine eV [_,_] ?_;refine bR hh 0 [_,_] ?_;intro ws hh;replace hh:Hp _ (.blk _ _ [_,_] _::_) _:=hh;refine aI (aa (au (bI (aE (aE (bI (aE ?_)))))));refine mW ?_;rw [hfs (by rw [hbd];exact XR.2 ⟨_,V7 hz,Wm (.inr hy7)⟩),V2 VY];exact IQ
         ·refine ah (sr (mI (mL (aF ?_))));refine jW ?_;refine IK ?_;refine dI ?_;refine cM ?_;refine JM ?_;refine mO (fun _ hj=>(hr.ext hj.bl).su hy2) ?_;refine dI ?_;refine cM ?_;refine FG (i) ?_;refine J8 ?_;refine y3 ?_;refine jV ?_;refine dG (dI ?_);refine dG (cM ?_);refine aJ ?_;intro f W hJ hV;have hb_15:=hJ.bl;obtain ⟨v70,v69,v68,v67,v66,v65,v64,v63,v62,v61,v60,v59,_⟩:=hV;replace hh:=hJ.hp;refine JH ?_;dsimp only [bH];clear hJ;refine gT ?_;refine fp ?_;refine aK rfl rfl ?_;refine bX aO.out rfl ((hr.ext hb_15).su hy2) VY ?_;refine gT ?_;refine bM ?_;refine dE ?_;refine oN ?_;refine a9 (aI (aA (ai ?_)));refine ⟨⟨i+1,VX,rfl,by rw [aw hz,Ym,hall,Yw,Yy,Wu (fun h=>h.elim hxy hy7)];rfl,hh⟩,by show m2-(i+1)<m2-i;omega, ?_⟩;exact dy
       ·rw [Wa VX] at hall;rw [←hbd] at hall;by_cases h9:gJ 1 D=0
        ·obtain ⟨hnat,hlow⟩:=HX h0 VX hall;have hcd:sE D=4097:=by
          have h8:=kE (D.map Int.toNat) 1 (V8 _) VY hlow;rw [←hnat,X5] at h8;rw [show gJ 1 D=gJ ((1:Nat):Int) D from rfl,h8] at h9;have hp:=cU (D.map Int.toNat);by_cases hc:ay (D.map Int.toNat)≤4096
          ·rw [V2 hc] at h9;omega
          ·have h10:=JE hlow VX;rw [←hnat] at h10;exact h10
         rw [hft hall h9,V2 VY];have hct:=fun w1 hs=>lu M2 m2 mc2 D w1 hs hm2;rw [hcd] at hct;refine ah (sr (mI (mL (aF ?_))));refine aW (aa (cF (aU (aD (aD (bk (ai (ah (sr (mL ?_))))))))));refine br hh (hct _ (hrd [_,_] _ hh)) rfl ?_;intro w77 hh;refine bM (aa (cT (sr ?_)));exact QT
        ·have hE0:=hfo hall h9;clear hfs hft hfo hbd hzl;obtain ⟨hnat,hF⟩:=C8 hE0;rw [hE0,V3 VY];have hpe:=hF.e;have hn0:=hF.pos;have hn12:=hF.Dl;have hnl:=hF.nl;have hlow:=hF.low;have hmost:=hF.most;have hgr2:=hgr hE0;have hsp:=xD hF lp.ok hb hk hgr2;obtain ⟨_,o2,o3⟩:=lk hpe;have hhv:fu (bT b)=n:=by
          obtain ⟨s,hs⟩:=ak (l:=b) (k:=0) VX;rw [jP (gN hs),hbl]
         have hpl:=fun w1 hb1=>yb L n c b k w1 (hB.ext hb1) hb hF.box VX hk;have hsu:∀(A:Option Addr) (c3:Nat) (os:List PX) (R:List HE) (w0 w1:World),Below w.heap.size w w1→os.length=n→rG ((bT b).map fun g=>⟨g.v,none,g.ts.length,0,g.ts⟩) os R→Hp w0 (.row A n c3 24 2 (az PX.cells os)::R) w1→Calls Tryz.prog 109 #[.agg #[.int .i64 p.v,.slice p.A p.n p.c],.slice A n c3] w1 fun r w'=>∃g:PX,dN (ez p (bT b)).1 n (ez p (bT b)).2 g∧r=.returned (.tuple #[.agg #[.int .i64 g.v,.slice g.A g.n g.c],.int .i64 (ez p (bT b)).1])∧Hp w1 [g.row] w':=by
          intro A c3 os R w0 w1 hb1 hol hcp h1;obtain ⟨hkey,hlim⟩:=Cv hcp VX hn12 hb hk;obtain ⟨ks,kh⟩:=s9 (o:=p) (p:=p) rfl rfl hkey;have hfit:Tt p os k (k+k+10) 2 (k+k+16394) (gL p.v p.ts):=⟨by rw [hF.qg];omega,fun i d hd=>⟨(o3 i d hd).1,(o3 i d hd).2.1⟩,hgr2,VX,VX,fun g hg=>(hlim g hg).1,fun g hg=>(hlim g hg).2⟩;have h2:=yO p A c3 os k (k+k+10) 2 (k+k+16394) (gL p.v p.ts) w1 (hp.ext hb1) lp (by rw [hol];exact h1.aC (i:=0) rfl) (fun z hz=>yn h1 (Wg _ (hcp.my z hz).1)) VX hfit;rw [ks,kh,hhv,hol] at h2;exact h2
         have hct:=fun w1 hs=>lu M2 m2 mc2 D w1 hs hm2;rw [show sE D=ay (D.map Int.toNat) by have h8:=wG hlow hmost;rw [←hnat] at h8;exact h8] at hct;clear o2 o3 hhv hgr hgr2;have hm2n:m2=n:=by rw [←hDl,←hbl,←hnl,Wh]
         generalize hns:D.map Int.toNat=ns at*;generalize (ez p (bT b)).1=E at*;generalize (ez p (bT b)).2=S at*;have hN0:=cU ns;refine ah (sr (mI (mL (aF ?_))));refine aW (aa (cF (aU (aD (aD (bk (ai (ah (sr (mL ?_))))))))));refine br hh (hct _ (hrd [_,_] _ hh)) rfl ?_;intro w77 hh;refine bM (aa (cF (ao (ai (ah ?_)))));refine cH [7] [6] [0,0,2,7,15,31,31,0,191,511] 8 [[(3,none)],[(1,none)],[(82,some 1)],[(81,some 0),(83,some 2)],[(84,some 3)],[(80,some 4)],[(80,some 4)],[]] [(7,12),(6,86),(5,85),(4,80),(3,84),(2,83),(1,82),(0,81)] hh mixed VZ (kn rfl aO.out da) rfl (by repeat (first|exact cj|refine bP ?_|refine cg ?_)) ?_;refine ee 1 [_,_] ?_;refine dI ?_;refine aN (i:=2) (BU hh.sz n b) (BU.ext) ?_ ?_
         ·intro ρ1 w1 hj hR;exact bh rfl (aP ar.out (av (show ρ1 82=Value.slice _ _ _ from hR.1) a6)) (hpl w1 hj.hp.below) (fun _ _ ⟨A,c3,os,R,hq,hol,hcp,h3⟩=>⟨_,hq,h3.below,(A,c3,os,R),w1,rfl,hol,hcp,hj.bl.size,h3⟩)
         refine aN (i:=3) (eR hh.sz E n S) (eR.ext) ?_ ?_
         ·intro ρ1 w1 hj hR;exact let ⟨g,u,e1,e2,e3,e4,e5⟩:=hR.2.1;bh rfl (aP ar.out (av (show ρ1 81=Value.agg (List.toArray _) from hR.1) (av e1 a6))) (hsu g.1 g.2.1 g.2.2.1 g.2.2.2 u w1 hj.hp.below e2 e3 e5) (fun _ _ ⟨g,og,hq,h3⟩=>⟨_,hq,h3.below,g,w1,rfl,og,hj.bl.size,h3⟩)
         refine aN (i:=4) (eR hh.sz E n S) (eR.ext) ?_ ?_
         ·exact HZ
         refine aN (i:=5) (gu hh.sz E n S) (gu.ext) ?_ ?_
         ·exact Du
         refine aN (i:=6) (Is (.int .i64 E)) (Is.ext) ?_ ?_
         ·exact CD
         refine aN (i:=7) (cO _ 24 _) cO.ext (fun ρ1 w1 hj hR=>g8 aO.out hj.bl (fun v w2 h hb=>⟨hb,h⟩)) ?_;refine aJ ?_;intro f W hJ hV _;have hb_19:=hJ.bl;obtain ⟨v12,v86,v85,v80,v84,v83,v82,v81,_⟩:=hV;obtain ⟨g83,u83,e83, -⟩:=v83;obtain ⟨g84,u84,e84, -⟩:=v84;obtain ⟨g80,u80,e80, -⟩:=v80;obtain ⟨g85,u85,e85,o85,q85,h85⟩:=v85;obtain ⟨b12,e12,hl12,hc12⟩:cO _ _ _ (f 7) W:=v12;replace hh:=hJ.ka hh hl12 hc12 q85 h85 (PX.ne h85 hc12 VY);refine aR (a8 (ae e12 (ae v86 (ae e85 (ae e80 (ae e84 (ae e83 (ae v82 (ae v81 aQ))))))))) ?_;dsimp only [bH];clear e83 e84 e80 e85 e12 hJ;simp only [Wb,V9] at hh;replace hh:=show Hp w (_::.row g85.A g85.n g85.c 96 4 (az TR.cells g85.ts)::_) W from hh;by_cases hE2:E≠0
         ·exact SA
         ·obtain rfl:E=0:=VX;obtain ⟨hso,hsr⟩:=hsp rfl;have et:g85.ts=S:=o85.t0;rw [et] at hh;have hqv:g85.v=n:=o85.v0;rw [hqv] at*;clear o85 et hsu hpl;generalize g85.A=qA at*;generalize g85.n=qn at*;generalize g85.c=qc at*;have hSl:S.length=qn:=(hh.aC (i:=1) rfl).bg TR.len VY;have hSn:=hso.len;obtain ⟨_,_,hSm,hSc⟩:=cK hso.e;subst hnat;have hone2:=a7 (bU ns);have hrw:=fun w1 hs=>yt M2 m2 mc2 ns w1 hs VX hlow VX;refine bR hh 0 [_,_] ?_;intro ws hh;replace hh:Hp _ (.blk _ _ [_,_] _::_) _:=hh;refine aI (aa (ah (sr (mI ?_))));refine rQ ?_;refine r7 ?_;intro b91 w91 hh;refine mL ?_;refine yx rfl rfl (hrd [_,_,_,_,_] _ hh) bj.out aO.out rfl VY hone2 (by unfold maxLen;omega) VX VY ?_ ?_
          ·intro h;omega
          ·intro A93 c93 w93 h0_ hb_ ho;replace hh:=hh.aY (x:=.row _ _ _ _ _ _) hb_ ho;refine eV [_,_] ?_;refine bQ hh ?_;intro b14 w14 hh;refine bR hh 0 [_,_] ?_;intro ws hh;replace hh:Hp _ (.blk _ _ [_,_] _::_) _:=hh;refine aa (sr (mL ?_));refine aG (hrw _ (hrd [_,_,_,_,_,_,_] _ hh)) ar.out rfl VY ?_;rintro e_ w96 ⟨A96,c96,rfl,hown_,hb_⟩;refine ⟨_,rfl, ?_⟩;replace hh:=hh.aY (x:=.row _ _ _ _ _ _) hb_ hown_;replace hh:=show Hp w (_::.blk b14 39 [.slice A93 m2 c93,.slice none 0 0] (0,0)::_) _ from hh;replace hh:=hh.sub (V4 _ (V4 _ (V4 _ (V6 _ (V4 _ (V4 _ (V4 _ (V4 _ (V4 _ Wq)))))))));obtain ⟨g96,rfl⟩:=hh.cu (i:=0) rfl VX;replace hh:=hh.ck 65 3;replace hh:=hh.perm (WO (l₁:=[_,_]));simp only [Wb,V9] at hh;refine EK ?_
           refine aM [16,17,18,19,20,21,97,98,99,100,101,102,103,104,105,106,107,108,109,110,111,112,113,114,115,116,117,118,119,120,121,122,123,124,125,126,127,128,129,130,131,132,133,134,135,136,137,138,139,140,141,142,143,144,145,146,147,148,149,150,151,152,153,154,155,156,157,158] 16
            (fun v w'=>∃(i cC:Nat) (C:Option Addr),i≤ay ns∧v=.int .i64 i∧Hp w (.blk b14 39 [.slice A93 m2 c93,.slice C i cC] (0,0)::.row C i cC 65 3 (az NR.cells (((sV ns S).take i).map nR))::.row (some ⟨g96,0,none⟩) (ay ns) c96 9 1 (iq (lI ns))::.row A93 m2 c93 3 1 (bC (bU ns))::.blk b12 24 [.int .i64 n,.slice qA qn qc] (0,0)::.row qA qn qc 96 4 (az TR.cells S)::.blk b6 39 [.slice none 0 0,.slice none 0 0] (0,0)::.blk b3 24 [.int .i64 p.v,.slice p.A p.n p.c] (0,0)::[.row G (jy p.v p.ts).length gc 3 1 (bC (jy p.v p.ts))]) w')
            (fun v _=>ay ns-(intOf v).toNat) ?_ ?_
           ·exact ⟨0,0,none,V5 _,rfl,hh⟩
           ·clear hh;rintro ρ2 v w2 ⟨i,cC,C,hi,rfl,hh⟩;by_cases hlt2:i<ay ns
            ·have hat:(sV ns S)[i]?=some (wS (fun m=>wK 0 ns.reverse (dz m).reverse (dq ns.reverse i)) S):=by
              unfold sV;rw [Wf,Xc (by rw [db];exact hlt2)]
              rfl
             have hrp:=s7 (Bh hlt2);have hrr:=Le (l3 ns.reverse i);have hrl:(dq ns.reverse i).reverse.length=n:=by rw [W3,th,W3];omega
             have hrv:(dq ns.reverse i)=(dq ns.reverse i).reverse.reverse:=(YD _).symm;generalize (dq ns.reverse i).reverse=rr at*;rw [hrv] at hat;clear hrv;refine ah (sr (mI (mL (aF ?_))));refine aW (aa (cT (ao (ai (ah (aq (sr ?_)))))));refine eV [_,_,_] ?_;refine bQ hh ?_;intro b17 w17 hh;refine bR hh 0 [_,_,_] ?_;intro ws hh;replace hh:Hp _ (.blk _ _ [_,_,_] _::_) _:=hh;refine aa (ah (sr (aI (aa (aq ?_)))));refine aM [18,19,20,21,104,105,106,107,108,109,110,111,112,113,114,115,116,117,118,119,120,121,122,123,124,125,126,127,128,129,130,131,132,133,134,135,136,137,138,139,140,141,142,143,144,145,146,147,148,149,150,151,152] 18
              (fun v w'=>∃j:Nat,j≤qn∧v=.int .i64 j∧Sz (442000+j) (wS (fun m=>wK 0 ns.reverse (dz m).reverse rr.reverse) (S.take j))∧Hp w (.blk b17 65 [.bool (nR (wS (fun m=>wK 0 ns.reverse (dz m).reverse rr.reverse) (S.take j))).neg,.string (nR (wS (fun m=>wK 0 ns.reverse (dz m).reverse rr.reverse) (S.take j))).bf,.int .i64 (nR (wS (fun m=>wK 0 ns.reverse (dz m).reverse rr.reverse) (S.take j))).e] (0,0)::.blk b14 39 [.slice A93 m2 c93,.slice C i cC] (0,0)::.row C i cC 65 3 (az NR.cells (((sV ns S).take i).map nR))::.row (some ⟨g96,0,none⟩) (ay ns) c96 9 1 (iq (lI ns))::.row A93 m2 c93 3 1 (bC (bU ns))::.blk b12 24 [.int .i64 n,.slice qA qn qc] (0,0)::.row qA qn qc 96 4 (az TR.cells S)::.blk b6 39 [.slice none 0 0,.slice none 0 0] (0,0)::.blk b3 24 [.int .i64 p.v,.slice p.A p.n p.c] (0,0)::[.row G (jy p.v p.ts).length gc 3 1 (bC (jy p.v p.ts))]) w')
              (fun v _=>qn-(intOf v).toNat) ?_ ?_
             ·exact ⟨0,V5 _,rfl,Sz.zero _,hh⟩
             ·clear hh;rintro ρ3 v w3 ⟨j,hj,rfl,hz,hh⟩;by_cases hlt3:j<qn
              ·obtain ⟨x,hx⟩:=ak (l:=S) (k:=j) VX;have hxm:=V7 hx;have hxo:=hsr x hxm;have hx2:=hSm x hxm;unfold gg at hx2;rw [Wl,Wt] at hx2;have hxz:=hso.sz x hxm;have hxc:x.c=nR x.c.d:=hSc.nf x hxm;have hesl:(dz x.m).length=n:=by rw [lM];omega
               have zx:Sz 440000 x.c.d:=(hso.ok x hxm).2;have hokat:∀(a d e:Nat),ns[a]?=some d→(dz x.m)[a]?=some e→e≤d:=fun a d e hd he=>Le (rs:=(dz x.m).reverse) hxo a d e hd (by rw [YD];exact he);have hws:wS (fun m=>wK 0 ns.reverse (dz m).reverse rr.reverse) (S.take (j+1))=wS (fun m=>wK 0 ns.reverse (dz m).reverse rr.reverse) (S.take j)+x.c.d*wK 0 ns.reverse (dz x.m).reverse rr.reverse:=by
                rw [aw hx,ri];congr 1;exact X8 _
               generalize wS (fun m=>wK 0 ns.reverse (dz m).reverse rr.reverse) (S.take j)=y at*;obtain ⟨gq,rfl⟩:=hh.cu (i:=6) rfl VX;refine ah (sr (mI (bE ?_)));refine bB hh 5 ?_;refine aF ?_;refine vh ?_;refine bB hh 5 ?_;refine mI ?_;refine lW ?_;refine bE ?_;refine cA (vs:=[_,_,_]) aO.out rfl ((hh.fY (f:=TR.cells) (x:=x) (l:=S) (i:=6) rfl TR.len VY hx).drop 1) rfl VY ?_;refine bQ hh ?_;intro b19 w19 hh;refine bR hh 0 [_,_,_] ?_;intro ws hh;replace hh:Hp _ (.blk _ _ [_,_,_] _::_) _:=hh;refine aa (ah (sr (aI (aa (aq ?_)))));rw [hxc] at hh;replace hh:=show Hp w (.blk b19 65 [.bool (nR x.c.d).neg,.string (nR x.c.d).bf,.int .i64 (nR x.c.d).e] (0,0)::_) _ from hh;refine aM [20,21,117,118,119,120,121,122,123,124,125,126,127,128,129,130,131,132,133,134,135,136,137,138,139,140,141,142,143,144,145,146,147,148,149] 20
                (fun v w'=>∃a:Nat,a≤n∧v=.int .i64 a∧Sz (440000+130*a) (x.c.d*wK 0 (ns.take a).reverse ((dz x.m).take a).reverse (rr.take a).reverse)∧Hp w (.blk b19 65 [.bool (nR (x.c.d*wK 0 (ns.take a).reverse ((dz x.m).take a).reverse (rr.take a).reverse)).neg,.string (nR (x.c.d*wK 0 (ns.take a).reverse ((dz x.m).take a).reverse (rr.take a).reverse)).bf,.int .i64 (nR (x.c.d*wK 0 (ns.take a).reverse ((dz x.m).take a).reverse (rr.take a).reverse)).e] (0,0)::.blk b17 65 [.bool (nR (y)).neg,.string (nR (y)).bf,.int .i64 (nR (y)).e] (0,0)::.blk b14 39 [.slice A93 m2 c93,.slice C i cC] (0,0)::.row C i cC 65 3 (az NR.cells (((sV ns S).take i).map nR))::.row (some ⟨g96,0,none⟩) (ay ns) c96 9 1 (iq (lI ns))::.row A93 m2 c93 3 1 (bC (bU ns))::.blk b12 24 [.int .i64 n,.slice (some ⟨gq,0,none⟩) qn qc] (0,0)::.row (some ⟨gq,0,none⟩) qn qc 96 4 (az TR.cells S)::.blk b6 39 [.slice none 0 0,.slice none 0 0] (0,0)::.blk b3 24 [.int .i64 p.v,.slice p.A p.n p.c] (0,0)::[.row G (jy p.v p.ts).length gc 3 1 (bC (jy p.v p.ts))]) w')
                (fun v _=>n-(intOf v).toNat) ?_ ?_
               ·have e0:x.c.d*wK 0 (ns.take 0).reverse ((dz x.m).take 0).reverse (rr.take 0).reverse=x.c.d:=by
                 show x.c.d*1=x.c.d;grind
                refine ⟨0,V5 _,rfl, ?_, ?_⟩
                ·rw [e0];exact zx
                ·rw [e0];exact hh
               ·clear hh;rintro ρ4 v w4 ⟨a,ha,rfl,hz2,hh⟩;by_cases hlt4:a<n
                ·obtain ⟨d,hd⟩:=ak (l:=ns) (k:=a) VX;obtain ⟨ch,hch⟩:=ak (l:=x.m.data.toList) (k:=(a:Int).toNat) (by have h8:=lM x.m;unfold dz at h8 hesl;rw [Wh] at h8 hesl;omega);have he:(dz x.m)[a]?=some ch.toNat:=by
                  unfold dz;rw [Wf,show x.m.data.toList[a]?=some ch from hch]
                  rfl
                 obtain ⟨r,hr⟩:=ak (l:=rr) (k:=a) VX;have hrd2:=hrr a d r hd hr;have hd7:=hlow d (V7 hd);obtain ⟨c2,hc2,hcr⟩:=OL hr VX;subst hcr;have hc3:(fX (bU rr)).data.toList[(a:Int).toNat]?=some c2:=hc2;have hed:=hokat a d _ hd he;have hgD:=cw (ig hd);have hwk:=LZ hd he hr;have hst:x.c.d*wK 0 (ns.take a).reverse ((dz x.m).take a).reverse (rr.take a).reverse*vy (d-ch.toNat) ((c2.toNat:Int)-(ch.toNat:Int))=x.c.d*wK 0 (ns.take (a+1)).reverse ((dz x.m).take (a+1)).reverse (rr.take (a+1)).reverse:=by
                  rw [hwk,Me hed hrd2];grind
                 have zc:=Dr (n:=d-ch.toNat) ((c2.toNat:Int)-(ch.toNat:Int)) VX;have hcho:=fun w1=>tN (d-ch.toNat) ((d:Int)-(ch.toNat:Int)) ((c2.toNat:Int)-(ch.toNat:Int)) w1 VX VX VX VX;have hz3:Sz (440000+130*(a+1)) (x.c.d*wK 0 (ns.take (a+1)).reverse ((dz x.m).take (a+1)).reverse (rr.take (a+1)).reverse):=by
                  rw [←hst];exact (hz2.mul zc).mono VX
                 generalize vy (d-ch.toNat) ((c2.toNat:Int)-(ch.toNat:Int))=z2 at*;have okz:=hz2.ok VX;have okc:=zc.ok VX;have hmul:=fun w1=>l0 (nR (x.c.d*wK 0 (ns.take a).reverse ((dz x.m).take a).reverse (rr.take a).reverse)) (nR z2) w1 (by have:=okz.1;omega) (by have:=okc.1;omega) (by have:=okz.2;omega) (by have:=okz.2;omega) (by have:=okc.2;omega) (by have:=okc.2;omega);rw [cm,cm,hst] at hmul;obtain ⟨ad,rfl,hsr2⟩:=(hrd [_,_,_,_,_,_,_,_,_,_] _ hh).at_ VX;refine ah (sr (mI (mL (aF ?_))));refine vh ?_;refine bB hh 6 ?_;refine mI ?_;refine lW ?_;refine bE ?_;refine bX aO.out rfl ((hh.fY (f:=TR.cells) (x:=x) (l:=S) (i:=7) rfl TR.len VY hx).cell (i:=0) rfl) VY ?_;refine mI ?_;refine hH ?_;refine qb ?_;refine aI (aa ?_)
                 refine aT 17 [[(19,none)],[(2,none)],[(20,none)],[(133,some 1),(134,some 2)],[(135,some 3)],[(21,none)],[(136,some 4),(137,some 5)],[(15,none)],[(16,none)],[(139,some 7),(140,some 8)],[(141,some 9)],[(20,none)],[(142,some 10),(143,some 11)],[(144,some 12)],[(21,none)],[(145,some 13),(146,some 14)],[(138,some 6),(147,some 15)]] [(16,148),(15,147),(14,146),(13,145),(12,144),(11,143),(10,142),(9,141),(8,140),(7,139),(6,138),(5,137),(4,136),(3,135),(2,134),(1,133),(0,132)] hh mixed VZ ?_;refine ee 0 [_,_,_] ?_;refine dI ?_;refine cM ?_;refine bm (i:=3) (fun ρ1 w1 hj hR=>dv bj.out aO.size (show ρ1 133=Value.slice _ _ _ from hR.1) (show ρ1 134=Value.int _ _ from hR.2.1) VX VX) ?_;refine mO (fun _ hj=>(hsr2.ext hj.bl).su hgD) ?_;refine cM ?_;refine pE ?_;refine dI ?_;refine cM ?_;refine FG (i) ?_;refine bm (i:=10) (fun ρ1 w1 hj hR=>ij aO.out (show ρ1 141=Value.pointer _ from hR.1) (hj.hp.fM (i:=4) rfl (by first|assumption|(simp only [Wo];assumption)))) ?_;refine cM ?_
                 refine bm (i:=12) (fun ρ1 w1 hj hR=>jL bj.out (show ρ1 142=Value.string _ from hR.1) (show ρ1 143=Value.int _ _ from hR.2.1) VX (by assumption)) ?_;refine bm (i:=13) (fun ρ1 w1 hj hR=>ml bj.out bj.out (show ρ1 144=Value.int _ _ from hR.1) VX VX) ?_;refine cM ?_;refine pE ?_;refine dC (fun _ hj=>hcho _) ?_;refine aJ ?_;intro f W hJ hV;have hb_36:=hJ.bl;obtain ⟨v148,v147,v146,v145,v144,v143,v142,v141,v140,v139,v138,v137,v136,v135,v134,v133,v132,_⟩:=hV;replace hh:=hJ.hp;refine aR (a8 (ae v148 (ae v147 (ae v146 (ae v145 (ae v144 (ae v143 (ae v142 (ae v141 (ae v140 (ae v139 (ae v138 (ae v137 (ae v136 (ae v135 (ae v134 (ae v133 (ae v132 aQ)))))))))))))))))) ?_;dsimp only [bH];clear hJ;refine br hh (hmul _) rfl ?_;intro w149 hh;refine bR hh 0 [_,_,_] ?_;intro ws hh;replace hh:Hp _ (.blk _ _ [_,_,_] _::_) _:=hh;refine xM ?_;refine a9 (aI (aA (ai ?_)));refine ⟨⟨a+1,VX,rfl,hz3,hh⟩,by show n-(a+1)<n-a;omega, ?_⟩;exact dy
                ·obtain rfl:a=n:=VX;rw [Wa VX,Wa VX,Wa VX] at hh hz2;have hz3:=hz.add (hz2.mono (show 440000+130*a≤442000+j by omega));have hplu:=fun w1=>kL (nR y) (nR (x.c.d*wK 0 ns.reverse (dz x.m).reverse rr.reverse)) w1 (hz.ok VX) (hz2.ok VX);rw [cm,cm,←hws] at hplu;rw [←hws] at hz3;refine ah (sr (mI (mL (aF ?_))));refine aW (aa (cF (aU (aD (aD (bk (ai (al ?_))))))));refine cn hh 1 [_,_,_] ?_;refine cn hh 0 [_,_,_] ?_;refine br hh (hplu _) rfl ?_;intro w152 hh;refine bR hh 1 [_,_,_] ?_;intro ws hh;replace hh:Hp _ (_::.blk _ _ [_,_,_] _::_) _:=hh;refine xM ?_;refine a9 (aI (aA (ai ?_)));replace hh:=hh.sub (V6 _ (V4 _ (V4 _ (V4 _ (V4 _ (V4 _ (V4 _ (V4 _ (V4 _ (V4 _ (V4 _ Wq)))))))))));refine ⟨⟨j+1,VX,rfl,hz3,hh⟩,by show qn-(j+1)<qn-j;omega, ?_⟩;exact dy
              ·obtain rfl:j=qn:=VX;rw [Wa VX] at hh;refine ah (sr (mI (bE ?_)));refine bB hh 5 ?_;refine aF ?_;refine aW (aa (cF (aU (aD (aD (bk (ai (al (bE ?_)))))))));refine bB hh 1 ?_;refine cn hh 0 [_,_,_] ?_;refine qK ?_;intro b156 w156 hh;refine Ls ?_;intro A157 c157 w157 hh;simp only [Wd,WH] at hh;replace hh:=hh.sub (WE _ _);refine bE ?_;refine bR hh 1 [_] ?_;intro ws hh;replace hh:Hp _ (_::.blk _ _ [_,_] _::_) _:=hh;refine xM ?_;refine a9 (aI (aA (ai ?_)));replace hh:=hh.sub (V6 _ (V4 _ (V4 _ (V4 _ (V4 _ (V4 _ (V4 _ (V4 _ (V4 _ (V4 _ Wq))))))))));refine ⟨⟨i+1,c157,A157,VX,rfl,by rw [aw hat,WT,bG];exact hh⟩,by show ay ns-(i+1)<ay ns-i;omega, ?_⟩;exact dy
            ·obtain rfl:i=ay ns:=VX;have hfl:=FQ ns S;rw [Wa VX] at hh;refine ah (sr (mI (mL (aF ?_))));refine aW (aa (cF (aU (aD (aD (bk (ai (sr ?_))))))));refine cn hh 0 [_,_] ?_;refine bR hh 6 [_,_] ?_;intro ws hh;replace hh:Hp _ (_::_::_::_::_::_::.blk _ _ [_,_] _::_) _:=hh;refine aI (aa (au ?_));refine Ly (ej rfl (ek (vs:=[_,_]) aO.out (hh.bZ (i:=6) (n:=2) rfl rfl) rfl) (jg (jM rfl) fF)) ?_;exact ⟨⟨A93,m2,c93,C,ay ns,cC,bU ns,(sV ns S).map nR⟩,⟨rfl,rfl,by show m2≤100000;omega,by show ay ns≤1000000;omega⟩,rfl,hh.sub (.cons _ (.cons_cons _ (.cons _ (.cons_cons _ (WN _)))))⟩
def SR.half (s:SR) (m:NR) (u:Bool):SR:=if u then ⟨m,s.hi⟩ else ⟨s.lo,m⟩
def US (k:Int) (i:Nat):Bool:=decide (0<k) && (decide (i<62) && decide (k.fdiv (2^i) % 2=1))
end Go.Proofs.YteeckcbbnegmcaaGreatDoor
