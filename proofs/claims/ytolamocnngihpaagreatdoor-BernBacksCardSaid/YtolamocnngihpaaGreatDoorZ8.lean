/- Lemmas for bernBacks, part 8. -/
import Derived.OrdersIn
import Derived.Test.YtolamocnngihpaaGreatDoorZ7
namespace Go.Proofs.YtolamocnngihpaaGreatDoor
open Go.RowKit
def ub (b:List SR) (ns:List Nat) (C:List Dyadic):PX:=⟨(ns.length:Int),none,0,0,aF (ll b ns C)⟩
def FB (fx:FX):List Dyadic:=AH fx.ns.reverse (fx.cs.map NR.d) fx.ns.length
def lv (fx:FX) (b:List SR):Int×List TR:=eH (ub b fx.ns (FB fx)) (gM b)
def jB (fx:FX) (b:List SR):Int:=if fx.e≠0 then fx.e else if g9 b≠0 then g9 b else if b.length≠fx.n then 1 else (lv fx b).1
def rT (n k kb:Nat) (ns:List Nat):Nat:=k+520*n+(1+n+(kb+1)*ns.sum)
set_option maxRecDepth 10000 in
theorem tx (fx:FX) (L:Option Addr) (n c:Nat) (b:List SR) (k kb:Nat) (w:World) (hT:e8 w) (hf:fx.at_ w) (hl:fx.j8 k) (hcap:fx.n≤fx.a) (hB:Sl w L n 6 (aD SR.cells b)) (hb:∀s∈b,s.fin kb) (hn:n≤1000000) (hkb:kb≤1000)
  (hK:fx.e=0→fx.n=n→rT n k kb fx.ns≤400000) (hgr:fx.e=0→fx.n=n→gQ (kb+16394) fx.ns (rT n k kb fx.ns+4097)≤440000):
  Calls Tryz.prog 28 #[.agg #[.slice fx.A fx.n fx.a,.slice fx.B fx.m fx.b],.slice L n c] w fun r w'=>∃g:PX,dW (jB fx b) n (lv fx b).2 g∧r=.returned (.tuple #[.agg #[.int .i64 g.v,.slice g.A g.n g.c],.int .i64 (jB fx b)])∧Hp w [g.row] w':=by
 have hh:=Hp.start w;have hbl:b.length=n:=hB.bh SR.len Yw;have hok:∀s∈b,s.ok:=fun s hs=>⟨(hb s hs).1.ok,(hb s hs).2.ok⟩;have hck:=fun w1 hT1 hb1=>uC fx k w1 hT1 (hf.ext hb1) hl;have hbc:=fun w1 hT1 hb1=>qW L n c b w1 hT1 (hB.ext hb1) hok hn;by_cases h0:fx.e=0
 ·by_cases h1:g9 b=0
  ·by_cases h2:n=fx.n
   ·have hE:jB fx b=(lv fx b).1:=by unfold jB;rw [YB Yv,YB Yv,YB Yv]
    have hpos:0<n:=by
     rw [←hbl];by_cases h:b.length=0
     ·unfold g9 at h1;rw [YA h] at h1;split at h1<;>omega
     ·omega
    obtain ⟨hdeg,hnum,h12,hlow,hcnt,hmax⟩:=FX.fv h0;have hln:=hf.ln.1;have hlm:=hf.ln.2;have hnl:fx.ns.length=n:=by unfold FX.ns;rw [YO];omega
    have hdg:Sl w fx.A fx.n 1 (bQ (cf fx.ns)):=by rw [←hdeg];exact hf.dg
    obtain ⟨X,hX⟩:∃X,X=fx.cs.map NR.d:=⟨_,rfl⟩;have hC:FB fx=AH fx.ns.reverse X n:=by unfold FB;rw [hX,hnl]
    rw [←hX] at hnum;have hXl:X.length=aA fx.ns:=by rw [hX,YO];exact hcnt
    have hXz:∀x∈X,Sz k x:=fun x h=>by
     rw [hX] at h;obtain ⟨z,hz,rfl⟩:=YR.1 h;exact (hl.num z hz).2
    have hSX:Sl w fx.B fx.m 3 (aD NR.cells (X.map nR)):=by rw [←hnum];exact hf.nm
    have hmc:fx.m=aA fx.ns:=Yv;have hK:=hK h0 h2.symm;have hgr:=hgr h0 h2.symm;have hR:lv fx b=eH (ub b fx.ns (FB fx)) (gM b):=rfl;rw [hC] at hR;rw [hE];clear hE hC;generalize lv fx b=R0 at*;subst hR;have hfo:=fun w1 hT1 hb1=>tC L n c b w1 hT1 (hB.ext hb1) hok hn;generalize fx.ns=ns at*;generalize fx.ds=ds at*;generalize fx.cs=cs at*;have hdgw:∀(H:List HE) (w1:World),Hp w H w1→Sl w1 fx.A fx.n 1 (bQ (cf ns)):=fun H w1 h=>hdg.ext h.below;have hgX:∀j,(AH ns.reverse X j).length=aA ns:=fun j=>by rw [Pb (by rw [de];exact hXl),de]
    have hgZ:=Fc (ds:=ns.reverse) hXz (fun d hd=>hlow d (aa0.1 hd));rw [h0] at hck;rw [h1] at hbc;refine GV ?_;refine sr ?_;refine cu hh [_,_] ?_;intro b2 w2 hh;refine bW hh ?_;intro b4 w4 hh;refine aI (aa (ai (sr ?_)));refine cC hh 1 [_,_] ?_;refine gB ?_;intro w28 hh;refine aI (aa (sr (mI ?_)));refine so ?_;refine bA hh (hbc _ (hT.hp hh) hh.below) rfl ?_;intro w34 hh;refine aI (aa (sr (mI ?_)));refine nt ?_;refine bG hh 1 ?_;refine aK ?_;refine db (aa (cF (au (aj (sr (bJ ?_))))));refine bG hh 1 ?_;refine aL (aa (ai (sr (bJ ?_))));refine bG hh 1 ?_;refine aK (mI (aa (av ?_)));refine bC [8,9,51,52,53,54,55,56,57,58,59,60] 8 51
     (fun q v w'=>∃(j:Nat) (A:Option Addr) (ac:Nat) (R:List HE),j≤n∧v=.int .i64 j∧q=.slice A fx.m ac∧(∀(H:List HE) (w1:World),Hp w (H++R) w1→Sl w1 A fx.m 3 (aD NR.cells ((AH ns.reverse X j).map nR)))∧Hp w (.blk b4 24 [.int .i64 0,.slice none 0 0] (0,0)::.blk b2 33 [.slice fx.A fx.n fx.a,.slice fx.B fx.m fx.b] (0,0)::R) w')
     (fun _ v _=>n-(intOf v).toNat) ?_ ?_
    ·exact ⟨0,fx.B,fx.b,[],YD _,rfl,rfl,fun H w1 h=>hSX.ext h.below,hh⟩
    ·clear hh;rintro ρ' q_ v w' ⟨j,A,ac,R,hj,rfl,rfl,hrd,hh⟩;by_cases hlt:j<n
     ·obtain ⟨d,hd⟩:=ao (l:=ns) (k:=j) Yv;have hd7:=hlow d (YF hd);have hof:=fun w1 hs=>mU fx.A fx.n fx.a j d ns w1 hs hcap Yv hd hlow Yv;have hrm:ns.reverse=(ns.drop (j+1)).reverse++d::(ns.take j).reverse:=CS hd;have hcn:fx.m=aA ((ns.drop (j+1)).reverse++d::(ns.take j).reverse):=by rw [←hrm,de];exact hmc
      have hli:=fun w1 hT1 hS1=>oB 81 (ns.drop (j+1)).reverse (ns.take j).reverse d (d+1) (lS d (fm d 1 (-1))) A fx.m ac (k+520*j) (AH ns.reverse X j) w1 hT1 hS1 hcn Yv (YE _) hd7 (hgZ j) (fun Y E ec w2 hT2 hy hs=>xc E (d+1) ec d Y (k+520*j) w2 hT2 hs rfl hd7 hy (by unfold rT at hK;omega)) (fun Y _=>by simp [lS]);have hM:=LC (M:=fm d 1 (-1)) (A:=(ns.drop (j+1)).reverse) (B:=(ns.take j).reverse) (X:=AH ns.reverse X j) ((hgX j).trans (hmc.symm.trans hcn));have hsu:=vW ns.reverse X j;have hgd:ns.reverse.getD (ns.reverse.length-1-j) 0=d:=by
       rw [Zo,Z4 (by rw [Zs];omega),Zs,show ns.length-1-(ns.length-1-j)=j by omega,hd]
       rfl
      rw [hgd,show ns.reverse.length-1-j=(ns.drop (j+1)).reverse.length by rw [Zs,Zs,ZM];omega] at hsu;rw [hgX j,←hrm,←hsu,←hmc] at hM;rw [hM,de] at hli;clear hM hsu hgd hcn;refine sr ?_;refine a8 (aa (ai (cT (au (aj (ai (av (sr (mI (aI (aa (ar (bJ ?_)))))))))))));refine bG hh 1 ?_;refine mI ?_;refine bA hh (hof _ (hdgw _ _ hh)) rfl ?_;intro w57 hh;refine mL ?_;refine aJ (hli _ (hT.hp hh) (hrd [_,_] _ hh)) aw.out rfl Yw ?_;rintro e_ w59 ⟨E,ec,rfl,h4⟩;refine ⟨_,rfl, ?_⟩;replace hh:=hh.join h4;clear h4;simp only [YJ,YH] at hh;refine mE ?_;refine bm (mI (aE (aj ?_)));replace hh:=hh.sub (YC _ (YC _ (YC _ (ZK _))));replace hh:=hh.perm (Zh (l₁:=[_,_]));simp only [YJ,YH] at hh;replace hh:=hh.perm (Zh (l₁:=[_,_]));simp only [YJ,YH] at hh;replace hh:=hh.sub (.cons_cons _ (.cons_cons _ (.cons_cons _ (Zr _))))
      refine ⟨⟨j+1,E,ec,[.row E fx.m ec 40 3 (aD NR.cells ((AH ns.reverse X (j+1)).map nR))],Yv,rfl,rfl,fun H w1 h=>jx (h.own _ (Z5 _ (YT.2 rfl))),hh⟩,by show n-(j+1)<n-j;omega, ?_⟩;exact dO
     ·obtain rfl:n=j:=Yv;obtain ⟨adC,rfl⟩:∃ad,A=some ad:=let ⟨ad,e,_⟩:=(hrd [_,_] _ hh).at_ (by have:=df ns;omega);⟨ad,e⟩;generalize hCC:AH ns.reverse X n=C at*;have hCl:C.length=aA ns:=by rw [←hCC];exact hgX n
      have hCz:∀x∈C,Sz (k+520*n) x:=by rw [←hCC];have:=hgZ n;exact this
      clear hgX hgZ;refine sr ?_;refine qb ?_;refine aJ (hfo _ (hT.hp hh) hh.below) aw.out rfl Yw ?_;rintro e_ w62 ⟨A62,c62,rfl,hown_,hb_⟩;refine ⟨_,rfl, ?_⟩;replace hh:=hh.aY (x:=.row _ _ _ _ _ _) hb_ hown_;obtain ⟨adS,hAS⟩:∃ad,A62=some ad:=let ⟨ad,e,_⟩:=(hh.aG (i:=0) rfl).at_ hpos;⟨ad,e⟩;rw [hAS] at hh ⊢;clear hAS;refine aL (aa (sr (aL (aa (ai (sr (mL (aK (mI (aa (av ?_)))))))))));replace hh:=hh.cN 24 2;refine bC [10,11,12,13,14,15,16,17,18,65,66,67,68,69,70,71,72,73,74,75,76,77,78,79,80,81,82,83,84,85,86,87,88,89,90,91,92,93,94,95,96,97] 10 65
       (fun a v w'=>∃(i c3:Nat) (A:Option Addr) (os:List PX) (R2:List HE),i≤n∧v=.int .i64 i∧a=.slice A i c3∧os.length=i∧BV ((gM b).map fun g=>⟨g.v,none,g.ts.length,0,g.ts⟩) os R2∧Hp w (.row A i c3 24 2 (aD PX.cells os)::.row (some adS) n c62 70 6 (aD SR.cells (b.map SR.f))::.blk b4 24 [.int .i64 0,.slice none 0 0] (0,0)::.blk b2 33 [.slice fx.A fx.n fx.a,.slice fx.B fx.m fx.b] (0,0)::(R2++R)) w')
       (fun _ v _=>n-(intOf v).toNat) ?_ ?_
      ·exact Rs
      ·clear hh;rintro ρ2 a_ v w2 ⟨i,c3,A,os,R2,hi,rfl,rfl,hol,hcp,hh⟩;by_cases hlt2:i<n
       ·obtain ⟨s,hs⟩:=ao (l:=b) (k:=i) Yv;have hsf:=hb s (YF hs);have hsn:(b.map SR.f)[i]?=some s.f:=by rw [YN,hs];rfl
        have zL:=SR.Oy hsf;obtain ⟨po,pl⟩:=rg (v:=n) (i:=i) Yv hsf Yv;have vo:=rG (v:=n) (i:=i) Yv;have co:=lU (v:=n) Yv zL.neg Yv;have hva:=fun w1 hT1=>uR (n:Int) (i:Int) w1 hT1;rw [M8 Yv hlt2] at hva;rw [ZL] at hva;have zLo:(nR s.L).ok:=zL.ok Yv;have hng:=fun w1 hT1=>qu (nR s.L) w1 hT1 (by have:=zLo.1;omega) (by have:=zLo.2.1;omega) (by have:=zLo.2.2;omega);rw [cj] at hng;have hcn:=fun w1 hT1=>ku (n:Int) (nR (-s.L)) kb w1 hT1 ⟨zL.neg.ok Yv,by rw [cj];exact zL.neg⟩ Yv;rw [BZ Yv] at hcn;have hV:aF [⟨j3 n i,nR ((1:Int):Dyadic)⟩]=kt n i:=rfl;have hC:aF [⟨du n,nR (-s.L)⟩]=fP n (-s.L):=rfl;have hP:aF (kt n i++fP n (-s.L))=mh n i s:=rfl;have tl1:(kt n i).length≤1:=bK _;have ul1:(fP n (-s.L)).length≤1:=bK _;have hps:=nW hs;rw [hbl] at hps;rw [hV] at hva;rw [hC] at hcn;clear hV hC;generalize kt n i=VL at*;generalize fP n (-s.L)=CL at*;generalize mh n i s=PL at*;obtain ⟨ad',e',hrS⟩:=(hh.aG (i:=1) rfl).at_ hpos;obtain rfl:=Zl e';refine sr ?_;refine e9 ?_;refine cE ?_;refine cG (vs:=[_,_,_,_,_,_]) aU.out rfl (hrS.recAt SR.len hsn) rfl Yw ?_
        refine bW hh ?_;intro b12 w12 hh;refine aI ?_;refine bV hh 0 [_,_,_,_,_,_] ?_;intro ws hh;replace hh:Hp _ (.blk _ _ [_,_,_,_,_,_] _::_) _:=hh;refine aa (sr (mL (aK (mI ?_))));replace hh:=show Hp w (.blk b12 70 [.bool (nR s.L).neg,.string (nR s.L).bj,.int .i64 (nR s.L).e,.bool (nR s.H).neg,.string (nR s.H).bj,.int .i64 (nR s.H).e] (0,0)::_) _ from hh;refine aJ (hva _ (hT.hp hh)) aw.out rfl Yw ?_;rintro e_ w74 ⟨t,ot,rfl,h4⟩;refine ⟨_,rfl, ?_⟩;have htc:t.n≤t.c:=h4.dJ (i:=0) rfl;replace hh:=hh.join h4;clear h4;simp only [YJ,YH] at hh;obtain ⟨tv,tA,tn,tc,tt⟩:=t;replace hh:=show Hp w (.row tA tn tc 80 4 (aD TR.cells tt)::_) _ from hh;have et:VL=tt:=ot.t0.symm;have ev_:tv=(n:Int):=ot.v0;subst et ev_;have tln:VL.length=tn:=(hh.aG (i:=0) rfl).bh TR.len Yw;refine mT ?_;refine dx ?_;refine dx ?_;refine bW hh ?_;intro b13 w13 hh;refine bV hh 0 [_,_] ?_;intro ws hh;replace hh:Hp _ (.blk _ _ [_,_] _::_) _:=hh;refine aI (aa (sr (mL (aK (bJ ?_)))));refine cC hh 2 [_,_,_] ?_;refine bA hh (hng _ (hT.hp hh)) rfl ?_;intro w82 hh;refine aJ (hcn _ (hT.hp hh)) aw.out rfl Yw ?_
        rintro e_ w83 ⟨u,ou,rfl,h4⟩;refine ⟨_,rfl, ?_⟩;have huc:u.n≤u.c:=h4.dJ (i:=0) rfl;replace hh:=hh.join h4;clear h4;simp only [YJ,YH] at hh;obtain ⟨uv,uA,un,uc,ut⟩:=u;replace hh:=show Hp w (.row uA un uc 80 4 (aD TR.cells ut)::_) _ from hh;have et:CL=ut:=ou.t0.symm;have ev_:uv=(n:Int):=ou.v0;subst et ev_;have uln:CL.length=un:=(hh.aG (i:=0) rfl).bh TR.len Yw;refine mT ?_;refine dx ?_;refine dx ?_;refine bW hh ?_;intro b15 w15 hh;refine bV hh 0 [_,_] ?_;intro ws hh;replace hh:Hp _ (.blk _ _ [_,_] _::_) _:=hh;refine aI (aa (sr ?_));refine cC hh 2 [_,_] ?_;refine cC hh 0 [_,_] ?_;refine vg ?_;intro b89 w89 hh;have hlp:eE [⟨n,tA,tn,tc,VL⟩,⟨n,uA,un,uc,CL⟩]=0:=kX vo.e co.e rfl;have had:=fun A3 w1 hT1 hS1 s1 s2=>qI A3 2 2 [⟨n,tA,tn,tc,VL⟩,⟨n,uA,un,uc,CL⟩] (kb+10) w1 hT1 hS1 Yw (fun g hg=>by
         rcases YS.1 hg with rfl|hg
         ·exact s1
         ·rw [YT.1 hg];exact s2) (fun g hg=>by
         rcases YS.1 hg with rfl|hg
         ·exact ⟨by show tn≤1000000;omega,htc,vo.ok.mono Yv,vo.sz⟩
         ·rw [YT.1 hg];exact ⟨by show un≤1000000;omega,huc,co.ok.mono Yv,co.sz⟩) Yv
        unfold ud at had;rw [YA hlp,yN] at had;dsimp only at had;rw [hP] at had;rw [fB (l:=VL++CL) (by rw [YK];omega)] at had;refine aJ (had _ _ (hT.hp hh) (hh.aG (i:=0) rfl) (hh.aG (i:=4) rfl) (hh.aG (i:=2) rfl)) aw.out rfl Yw ?_;rintro e_ w90 ⟨z,oz,rfl,h4⟩;refine ⟨_,rfl, ?_⟩;have hzc:z.n≤z.c:=h4.dJ (i:=0) rfl;replace hh:=hh.join h4;clear h4;simp only [YJ,YH] at hh;replace hh:=show Hp w (.row z.A z.n z.c 80 4 (aD TR.cells z.ts)::_) _ from hh;have zln:z.ts.length=z.n:=(hh.aG (i:=0) rfl).bh TR.len Yw;refine mT ?_;refine dx ?_;refine dx ?_;refine bW hh ?_;intro b17 w17 hh;refine bV hh 0 [_,_] ?_;intro ws hh;replace hh:Hp _ (.blk _ _ [_,_] _::_) _:=hh;refine aI (aa (ar (mL ?_)));refine cC hh 0 [_,_] ?_;refine cQ hh (cs:=[_,_]) bo.out aU.out (aX (gy rfl) cx) rfl rfl Yw Yw Yw rfl Yw ?_;intro b95 w95 hh;refine cd hh (i:=9) rfl rfl rfl (hh.aG (i:=0) rfl) bo.out aU.out rfl Yw (by first|rfl|exact dv _|exact cR _|exact br _|exact bD NR.one _) Yv Yv Yw ?_;intro A96 c96 w96 hh;simp only [YM,Zg] at hh;replace hh:=hh.sub (Zi _ _)
        refine mE ?_;refine bm (mI (aE (aj ?_)));replace hh:=hh.sub (YI _ (YC _ (YI _ (YI _ (YI _ (YI _ (YI _ (YI _ (YC _ (YC _ (YC _ (YC _ (ZK _)))))))))))));replace hh:=hh.perm (Zh (l₁:=[_,_,_,_]));simp only [YJ,YH] at hh;replace hh:=hh.perm (Zh (l₁:=[_,_,_,_]));simp only [YJ,YH] at hh;replace hh:=hh.perm (Zh (l₁:=[_,_,_,_]));simp only [YJ,YH] at hh;replace hh:=hh.perm (Zh (l₁:=[_,_,_,_]));simp only [YJ,YH] at hh;have hcp2:=hcp.add (g:=⟨n,none,PL.length,0,PL⟩) (o:=z) (by rw [hol,YN,hps];rfl) ⟨oz.v0,oz.t0,by rw [←zln,oz.t0]⟩ hzc;refine ⟨⟨i+1,c96,A96,os++[z],z.row::R2,Yv,rfl,rfl,by rw [YK,hol];rfl,hcp2,by rw [bZ,iB];exact hh⟩,by show n-(i+1)<n-i;omega, ?_⟩;exact dO
       ·obtain rfl:n=i:=Yv;have hol2:os.length=((gM b).map fun g=>(⟨g.v,none,g.ts.length,0,g.ts⟩:PX)).length:=by rw [YO,tm];omega
        have hkey:=hcp.key hol2;rw [Zy] at hkey;replace hkey:os.map PX.norm=(gM b).map PX.norm:=hkey;have hoc:n≤c3:=hh.dJ (i:=0) rfl;have hn12:n≤12:=Yv;have hxb:(ll b ns C).length=aA ns:=qR b ns C;obtain ⟨bo1,bo2,bo3⟩:=KH (C:=C) (ns:=ns) hb Yv hCz hlow Yv (by rw [hnl];unfold rT at hK;omega);have hmk:=NV (b:=b) (C:=C) (ns:=ns) Yv bo2 hmax;have hal:nA (cf ns)=lE ns:=by unfold nA;rw [show tJ 1 (cf ns)=true from Ae ns 1 hlow Yv (YE _)];rfl
        have hall:=fun w1 hD=>Jc fx.A fx.n fx.a (cf ns) w1 hD Yv;rw [hal,xZ] at hall;have hrd2:∀(H:List HE) (w1:World),Hp w (H++(R2++R)) w1→Sl w1 (some adC) fx.m 3 (aD NR.cells (C.map nR)):=fun H w1 h=>hrd (H++R2) w1 (by rw [Ze];exact h);have hmy:=hcp.my;generalize hRR:(R2++R:List HE)=RR at*;refine sr ?_;refine a8 (aa (ai (cF (a6 (aH (aH (bB (aj (sr (aL (aa (ai (sr (bJ ?_))))))))))))));refine bG hh 3 ?_;refine aJ (hall _ (hdgw _ _ hh)) aw.out rfl Yw ?_;rintro e_ w100 ⟨A100,c100,rfl,hown_,hb_⟩;refine ⟨_,rfl, ?_⟩;replace hh:=hh.aY (x:=.row _ _ _ _ _ _) hb_ hown_;refine aK (mI (aa (av ?_)));replace hh:=hh.cN 80 4;refine bC [19,20,21,22,23,24,102,103,104,105,106,107,108,109,110,111,112,113,114,115,116,117,118,119,120,121,122,123,124,125,126,127,128,129,130,131,132,133,134,135,136,137,138,139,140,141,142,143,144,145,146,147,148] 19 102
         (fun a v w'=>∃(i c1:Nat) (D:Option Addr),i≤aA ns∧v=.int .i64 i∧a=.slice D i c1∧Hp w (.row D i c1 80 4 (aD TR.cells ((ll b ns C).take i))::.row A100 (aA ns) c100 9 1 (iw (lE ns))::.row A n c3 24 2 (aD PX.cells os)::.row (some adS) n c62 70 6 (aD SR.cells (b.map SR.f))::.blk b4 24 [.int .i64 0,.slice none 0 0] (0,0)::.blk b2 33 [.slice fx.A fx.n fx.a,.slice fx.B fx.m fx.b] (0,0)::RR) w')
         (fun _ v _=>aA ns-(intOf v).toNat) ?_ ?_
        ·exact ⟨0,0,none,YD _,rfl,rfl,hh⟩
        ·clear hh;rintro ρ3 a_ v w3 ⟨i,c1,D,hi2,rfl,rfl,hh⟩;by_cases hlt3:i<aA ns
         ·obtain ⟨x,hx⟩:=ao (l:=C) (k:=i) Yv;have hxn:(C.map nR)[i]?=some (nR x):=by rw [YN,hx];rfl
          have zx:=hCz x (YF hx);have hax:iX C i=x:=by unfold iX;rw [hx];rfl
          have hti:=Pd (b:=b) (C:=C) hlt3;have hms:(iw (lE ns))[i]?=some (.string (fX (cf (fg ns i)))):=by unfold iw;rw [YN,vO hlt3];rfl
          have hmm:=bo2 _ (YF hti);have hmz:=(bo3 _ (YF hti)).1;have hrl:=iC ns i;have hrr:∀(q d r:Nat),ns[q]?=some d→(fg ns i)[q]?=some r→r≤d:=fun q d r h1 h2=>oP h1 h2;have hes:=rZ (p:=i) hlow;unfold JW at hti hmm hmz;rw [hax] at hti;generalize fX (cf (fg ns i))=M at*;generalize fg ns i=es at*;have hex:jw M.data.toList=cf es:=by rw [kJ (by unfold eY at hmm;rw [YU] at hmm;exact hmm.1),mj,hes]
          have hel:(jw M.data.toList).length=n:=by rw [hex,q8];omega
          have hxp:=fun w1=>iK M w1 hmz;rw [hel,hex] at hxp;obtain ⟨ad',e',hrC⟩:=(hrd2 [_,_,_,_,_,_] _ hh).at_ Yv;obtain rfl:=Zl e';obtain ⟨ga,rfl⟩:=hh.cK (i:=1) rfl Yv;refine sr ?_;refine e9 ?_;refine gD ?_;refine NM ?_;refine aI (aS (aa (sr (mL (mI ?_)))));refine dm bo.out aU.size rfl rfl rfl Yv Yw ?_;refine cG (vs:=[_,_,_]) aU.out rfl (hrC.recAt NR.len hxn) rfl Yw ?_;refine bW hh ?_;intro b22 w22 hh;refine bV hh 0 [_,_,_] ?_;intro ws hh;replace hh:Hp _ (.blk _ _ [_,_,_] _::_) _:=hh;refine aa (ai (sr (mS ?_)));refine aJ (hxp _) aw.out rfl Yw ?_;rintro e_ w112 ⟨A112,c112,rfl,hown_,hb_⟩;refine ⟨_,rfl, ?_⟩;replace hh:=hh.aY (x:=.row _ _ _ _ _ _) hb_ hown_;refine aK (mI (aa (av ?_)));rw [show x=x*wP b ns es 0 by show x=x*1;rw [abl]] at hh;refine aT [23,24,114,115,116,117,118,119,120,121,122,123,124,125,126,127,128,129,130,131,132,133,134,135,136,137,138,139,140,141] 114
           (fun v w'=>∃q:Nat,q≤n∧v=.int .i64 q∧Hp w (.row A112 n c112 3 1 (bQ (cf es))::.blk b22 40 [.bool (nR (x*wP b ns es q)).neg,.string (nR (x*wP b ns es q)).bj,.int .i64 (nR (x*wP b ns es q)).e] (0,0)::.row D i c1 80 4 (aD TR.cells ((ll b ns C).take i))::.row (some ⟨ga,0,none⟩) (aA ns) c100 9 1 (iw (lE ns))::.row A n c3 24 2 (aD PX.cells os)::.row (some adS) n c62 70 6 (aD SR.cells (b.map SR.f))::.blk b4 24 [.int .i64 0,.slice none 0 0] (0,0)::.blk b2 33 [.slice fx.A fx.n fx.a,.slice fx.B fx.m fx.b] (0,0)::RR) w')
           (fun v _=>n-(intOf v).toNat) ?_ ?_
          ·exact ⟨0,YD _,rfl,hh⟩
          ·clear hh;rintro ρ4 v w4 ⟨q,hq,rfl,hh⟩;by_cases hqn:q<n
           ·obtain ⟨s,hs⟩:=ao (l:=b) (k:=q) Yv;obtain ⟨d,hd⟩:=ao (l:=ns) (k:=q) Yv;obtain ⟨r,hr⟩:=ao (l:=es) (k:=q) Yv;have hsf:=hb s (YF hs);have hsn:(b.map SR.f)[q]?=some s.f:=by rw [YN,hs];rfl
            have hrd3:=hrr q d r hd hr;have hd7:=hlow d (YF hd);have hgE:=cL (iG hr);have hgD:(bQ (cf ns))[q]?=some (.int .i64 (d:Int)):=cL (iG hd);have zW:=(SR.Sx hsf).sub (SR.Oy hsf);have hsu:=fun w1 hT1=>na (nR s.H) (nR s.L) w1 hT1 ((SR.Sx hsf).ok Yv) ((SR.Oy hsf).ok Yv) kb (by rw [cj];exact SR.Sx hsf) (by rw [cj];exact SR.Oy hsf) Yv;rw [cj,cj] at hsu;have hwi:wP b ns es (q+1)=wP b ns es q*(s.H-s.L)^(d-r):=by
             show wP b ns es q*mu b q^(ns.getD q 0-es.getD q 0)=_;rw [show mu b q=s.H-s.L by unfold mu;rw [hs],Zo,Zo,hd,hr]
             rfl
            have zq:=zx.mul (LF (es:=es) (ns:=ns) hb q Yv);have hsum:(ns.take q).sum≤ns.sum:=by
             conv=>rhs;rw [←Zv q ns,List.sum_append]
             omega
            have hsum2:=Zc (kb+1) hsum;have hnw:=zW.nr;have hpm:(d-r)*(nR (s.H-s.L)).bj.size≤1000000:=Y2 (ZV (show d-r≤127 by omega) (show (nR (s.H-s.L)).bj.size≤1100 by omega)) Yw;have hpw:=fun w1 hT1=>wD (nR (s.H-s.L)) ((d:Int)-(r:Int)) w1 hT1 (zW.ok Yv) (by rw [show ((d:Int)-(r:Int)).toNat=d-r by omega];exact hpm) Yv;rw [cj,show ((d:Int)-(r:Int)).toNat=d-r by omega] at hpw;have zp:=zW.CF (show d-r≤127 by omega);have hm2:=fun A cc w1 hT1 hS1=>fS A 2 cc [nR (x*wP b ns es q),nR ((s.H-s.L)^(d-r))] w1 hT1 hS1 (by simpa using ⟨zq.ok (by unfold rT at hK;omega),zp.ok Yv⟩) 600000 (by simpa [cj] using ⟨zq.mono (by unfold rT at hK;omega),zp.mono Yv⟩) Yv Yv;rw [show iZ ([nR (x*wP b ns es q),nR ((s.H-s.L)^(d-r))].map NR.d)=x*wP b ns es (q+1) by simp only [Y1,Zp,cj];show 1*(x*wP b ns es q)*_=_;rw [aaJ,hwi,Dyadic.mul_assoc]] at hm2;obtain ⟨ad',e',hrS⟩:=(hh.aG (i:=5) rfl).at_ hpos;obtain rfl:=Zl e';obtain ⟨adD,hAD,hrD⟩:=(hdgw _ _ hh).at_ Yv
            have il:Value.slice fx.A fx.n fx.a=.slice (some adD) fx.n fx.a:=by rw [hAD]
            clear hwi;generalize x*wP b ns es q=y at*;generalize hy2:x*wP b ns es (q+1)=y2 at*;generalize (s.H-s.L)^(d-r)=u at*;obtain ⟨ge,rfl⟩:=hh.cK (i:=0) rfl Yv;refine sr ?_;refine e9 ?_;refine dn (k:=q) bo.out aU.size rfl rfl Yv Yv Yw ?_;refine jY ?_;refine aI (aI (aa ?_));refine aW 20 [[(22,none)],[(1,none)],[(23,none)],[(120,some 1),(121,some 2)],[(122,some 3)],[(123,some 4)],[(1,none)],[(23,none)],[(125,some 6),(126,some 7)],[(127,some 8)],[(128,some 9)],[(124,some 5),(129,some 10)],[(2,none)],[(131,some 12)],[(23,none)],[(132,some 13),(133,some 14)],[(134,some 15)],[(24,none)],[(135,some 16),(136,some 17)],[(130,some 11),(137,some 18)]] [(19,138),(18,137),(17,136),(16,135),(15,134),(14,133),(13,132),(12,131),(11,130),(10,129),(9,128),(8,127),(7,126),(6,125),(5,124),(4,123),(3,122),(2,121),(1,120),(0,119)] hh mixed Yx ?_;refine ef 1 [_,_,_] ?_;refine eQ ?_;refine cZ ?_;refine jA (q) ?_;refine qG ?_;refine nF [_,_,_] (fun _ hj=>((((hrS.ext hj.bl).recAt SR.len hsn).drop 3).take 3)) ?_;refine eQ ?_;refine cZ ?_;refine jA (q) ?_;refine qG ?_
            refine nF [_,_,_] (fun _ hj=>((((hrS.ext hj.bl).recAt SR.len hsn).drop 0).take 3)) ?_;refine dC (fun _ hj=>hsu _ (hT.hp hj.hp)) ?_;refine cX ?_;refine dT 7 ?_;refine cZ ?_;refine aO (i:=15) (Is (.pointer (some (adD.add (q*1))))) (Is.ext) ?_ ?_
            ·intro ρ1 w1 hj hR;exact eJ rfl (gl (k:=q) bo.out aU.size ((show ρ1 132=Value.slice _ _ _ from hR.1).trans il) (show ρ1 133=Value.int _ _ from hR.2.1) Yv Yv) ⟨Below.refl _ _,rfl⟩
            refine pK (fun _ hj=>(hrD.ext hj.bl).xv hgD) ?_;refine cZ ?_;refine qE ?_;refine dC (fun _ hj=>hpw _ (hT.hp hj.hp)) ?_;refine aM ?_;intro f W hJ hV;have hb_33:=hJ.bl;obtain ⟨v138,v137,v136,v135,v134,v133,v132,v131,v130,v129,v128,v127,v126,v125,v124,v123,v122,v121,v120,v119,_⟩:=hV;replace hh:=hJ.hp;refine aQ (bg (ae v138 (ae v137 (ae v136 (ae v135 (ae v134 (ae v133 (ae v132 (ae v131 (ae v130 (ae v129 (ae v128 (ae v127 (ae v126 (ae v125 (ae v124 (ae v123 (ae v122 (ae v121 (ae v120 (ae v119 aR))))))))))))))))))))) ?_;dsimp only [bO];clear hJ;refine zA ?_;intro b139 w139 hh;refine bA hh (hm2 _ _ _ (hT.hp hh) (hh.aG (i:=0) rfl)) rfl ?_;intro w140 hh;refine bV hh 2 [_,_,_] ?_;intro ws hh;replace hh:Hp _ (_::_::.blk _ _ [_,_,_] _::_) _:=hh;refine gN ?_;refine bm (mI (aE (aj ?_)));replace hh:=hh.sub (YI _ (YC _ (YC _ (YC _ (YC _ (YC _ (YC _ (YC _ (YC _ (ZK _))))))))))
            refine ⟨⟨q+1,Yv,rfl,by rw [hy2];exact hh⟩,by show n-(q+1)<n-q;omega, ?_⟩;exact dO
           ·obtain rfl:n=q:=Yv;rw [hbl] at hti;refine sr ?_;refine a8 (aa (ai (cF (a6 (aH (aH (bB (aj (ar (mL (mS ?_)))))))))));refine cC hh 1 [_,_,_] ?_;refine fH [_,_,_,_] ?_;refine yG ?_;intro b146 w146 hh;refine Q7 ?_;intro A147 c147 w147 hh;simp only [YM,Zg] at hh;replace hh:=hh.sub (Zi _ _);refine mE ?_;refine bm (mI (aE (aj ?_)));have e1:aD TR.cells ((ll b ns C).take i)++[.string M,.bool (nR (x*wP b ns es n)).neg,.string (nR (x*wP b ns es n)).bj,.int .i64 (nR (x*wP b ns es n)).e]=aD TR.cells ((ll b ns C).take (i+1)):=by rw [aC hti,bZ,iB];rfl
            replace hh:=hh.sub (YI _ (YI _ (YC _ (YC _ (YC _ (YC _ (YC _ (YC _ (ZK _)))))))));replace hh:=show Hp w (.row A147 (i+1) c147 80 4 (aD TR.cells ((ll b ns C).take i)++[.string M,.bool (nR (x*wP b ns es n)).neg,.string (nR (x*wP b ns es n)).bj,.int .i64 (nR (x*wP b ns es n)).e])::_) _ from hh;rw [e1] at hh;refine ⟨⟨i+1,c147,A147,Yv,rfl,rfl,hh⟩,by show aA ns-(i+1)<aA ns-i;omega, ?_⟩;exact dO
         ·obtain rfl:aA ns=i:=Yv;rw [YG Yv] at hh;have hbz:=fun t ht=>(bo3 t ht).1;have hmA:=fun w1 hT1 hS1=>nI (n:Int) D (aA ns) c1 (ll b ns C) (rT n k kb ns) w1 hT1 hS1 Yv Yv (bo1.mono (by rw [hnl];exact YE _)) hbz;rw [hnl] at hmk bo2;rw [hmk] at hmA;refine sr ?_;refine a8 (aa (ai (cF (a6 (aH (aH (bB (aj (sr (mL (aK (mL ?_))))))))))));refine aJ (hmA _ (hT.hp hh) (hh.aG (i:=0) rfl)) aw.out rfl Yw ?_;rintro e_ w153 ⟨g,og,rfl,h4⟩;refine ⟨_,rfl, ?_⟩;have hgc:g.n≤g.c:=h4.dJ (i:=0) rfl;replace hh:=hh.join h4;clear h4;simp only [YJ,YH] at hh;obtain ⟨gv,gA,gn,gc,gt⟩:=g;replace hh:=show Hp w (.row gA gn gc 80 4 (aD TR.cells gt)::_) _ from hh;replace hgc:gn≤gc:=hgc;have et:aF (ll b ns C)=gt:=og.t0.symm;have ev_:gv=(n:Int):=og.v0;subst ev_;have gln:gt.length=gn:=(hh.aG (i:=0) rfl).bh TR.len Yw;have gl2:gt.length≤4096:=by rw [←et];exact Y2 (bK _) Yv
          have gok:lr (n:Int) (rT n k kb ns+4096) gt:=by
           rw [←et];exact iO (eW hn12) bo2 (bo1.mono (by rw [hnl];exact YE _)) hbz Yv (YE _) Yv
          have hgex:∀(i d:Nat),ns[i]?=some d→d≤127∧∀t∈gt,ie i t≤d:=fun i d hd=>⟨hlow d (YF hd),fun t ht=>by
           rw [←et] at ht;obtain ⟨s,hs,e⟩:=gZ t ht;obtain ⟨_,p,hp⟩:=bo3 s hs;rw [uw,←e,hp]
           cases hr:(fg ns p)[i]? with
           |none=>exact YD _
           |some r=>exact oP hd hr⟩
          have hall:=I0 hcp Yv Yv hb Yv;have hhv:fI (gM b)=n:=by
           obtain ⟨s,hs⟩:=ao (l:=b) (k:=0) Yv;rw [jV (nW hs),hbl]
          obtain ⟨ks,kh⟩:=G3 (o:=⟨(n:Int),gA,gn,gc,gt⟩) (p:=ub b ns C) (by show (n:Int)=(ns.length:Int);omega) et.symm hkey;have hfit:Wq ⟨(n:Int),gA,gn,gc,gt⟩ os (rT n k kb ns+4096) (kb+10) 2 (kb+16394) ns:=⟨Yv,hgex,hgr,Yv,Yv,fun g hg=>(hall g hg).1,fun g hg=>(hall g hg).2⟩;have hsu:=fun w1 hT1 ha hs hm hc=>r9 ⟨(n:Int),gA,gn,gc,gt⟩ A c3 os (rT n k kb ns+4096) (kb+10) 2 (kb+16394) ns w1 hT1 ha ⟨by show gn≤1000000;omega,hgc,gok.ok,gok.sz⟩ hs hm hc hfit;rw [ks,kh,hhv,hol] at hsu;generalize eH (ub b ns C) (gM b)=R0 at*;refine mT ?_;refine dx ?_;refine dx ?_;refine bW hh ?_;intro b25 w25 hh;refine bV hh 0 [_,_] ?_;intro ws hh;replace hh:Hp _ (.blk _ _ [_,_] _::_) _:=hh;refine aI (aa (ai (sr (mI ?_))));refine wZ ?_;refine cC hh 0 [_,_] (mL ?_);refine aJ (hsu _ (hT.hp hh) (hh.aG (i:=1) rfl) (hh.aG (i:=4) rfl) (fun z hz=>Hh hh (YP _ (YP _ (YP _ (YP _ (YP _ (YP _ (YP _ (YP _ (hRR ▸ aan R (hmy z hz).1)))))))))) hoc) aw.out rfl Yw ?_
          rintro e_ w162 ⟨z,oz,rfl,h4⟩;refine ⟨_,rfl, ?_⟩;replace hh:=hh.join h4;clear h4;simp only [YJ,YH] at hh;refine dx ?_;refine dx ?_;refine bV hh 7 [_,_] ?_;intro ws hh;replace hh:Hp _ (_::_::_::_::_::_::_::.blk _ _ [_,_] _::_) _:=hh;refine aI (aa (ay ?_));refine PG (er rfl (ew (vs:=[_,_]) aU.out (hh.cn (i:=7) (n:=2) rfl rfl) rfl) (jF (kn rfl) fF)) ?_;exact ⟨z,oz,rfl,hh.sub (YC _ (Zr _))⟩
   ·have hE:jB fx b=1:=by unfold jB;rw [YB Yv,YB Yv,YA Yv]
    rw [h0] at hck;rw [h1] at hbc;rw [hE];have hln:=hf.ln.1;refine GV ?_;refine sr ?_;refine cu hh [_,_] ?_;intro b2 w2 hh;refine bW hh ?_;intro b4 w4 hh;refine aI (aa (ai (sr ?_)));refine cC hh 1 [_,_] ?_;refine gB ?_;intro w28 hh;refine aI (aa (sr (mI ?_)));refine so ?_;refine bA hh (hbc _ (hT.hp hh) hh.below) rfl ?_;intro w34 hh;refine aI (aa (sr (mI ?_)));refine nt ?_;refine bG hh 1 ?_;refine aK ?_;refine db (aa (cT (sr ?_)));refine fH [_,_] ?_;exact UX
  ·have hE:jB fx b=g9 b:=by unfold jB;rw [YB Yv,YA h1]
   rw [h0] at hck;rw [hE];refine GV ?_;refine sr ?_;refine cu hh [_,_] ?_;intro b2 w2 hh;refine bW hh ?_;intro b4 w4 hh;refine aI (aa (ai (sr ?_)));refine cC hh 1 [_,_] ?_;refine gB ?_;intro w28 hh;refine aI (aa (sr (mI ?_)));refine so ?_;refine bA hh (hbc _ (hT.hp hh) hh.below) rfl ?_;intro w34 hh;exact Sr
 ·have hE:jB fx b=fx.e:=by unfold jB;rw [YA h0]
  rw [hE];refine GV ?_;refine sr ?_;refine cu hh [_,_] ?_;intro b2 w2 hh;refine bW hh ?_;intro b4 w4 hh;refine aI (aa (ai (sr ?_)));refine cC hh 1 [_,_] ?_;refine gB ?_;intro w28 hh;exact Sr
def cW (f:Dyadic→Dyadic):Prop:=∃l:List Dyadic,∀t,f t=il l t
def EA:List Dyadic→List Dyadic→List Dyadic
 |[],b=>b
 |x::a,[]=>x::a
 |x::a,y::b=>(x+y)::EA a b
theorem vf:∀(a b:List Dyadic) (t:Dyadic),il (EA a b) t=il a t+il b t
 |[],b,t=>by rw [EA,il];grind
 |x::a,[],t=>by rw [EA,il];grind
 |x::a,y::b,t=>by rw [EA,il,il,il,vf a b t];grind
theorem Ha (c:Dyadic):∀(a:List Dyadic) (t:Dyadic),il (a.map fun x=>c*x) t=c*il a t
 |[],t=>by rw [Zp,il];grind
 |x::a,t=>by rw [Y1,il,il,Ha c a t];grind
def Li:List Dyadic→List Dyadic→List Dyadic
 |[],_=>[]
 |x::a,b=>EA (b.map fun y=>x*y) (0::Li a b)
theorem C2:∀(a b:List Dyadic) (t:Dyadic),il (Li a b) t=il a t*il b t
 |[],b,t=>by rw [Li,il];grind
 |x::a,b,t=>by rw [Li,vf,Ha,il,il,C2 a b t];grind
theorem cW.const (c:Dyadic):cW fun _=>c:=⟨[c],fun t=>by simp only [il];grind⟩
theorem cW.id:cW fun t=>t:=⟨[0,1],fun t=>by simp only [il];grind⟩
theorem cW.add {f g:Dyadic→Dyadic} (hf:cW f) (hg:cW g):cW fun t=>f t+g t:=by
 obtain ⟨a,ha⟩:=hf;obtain ⟨b,hb⟩:=hg;exact ⟨EA a b,fun t=>by show f t+g t=_;rw [vf,ha,hb]⟩
theorem cW.mul {f g:Dyadic→Dyadic} (hf:cW f) (hg:cW g):cW fun t=>f t*g t:=by
 obtain ⟨a,ha⟩:=hf;obtain ⟨b,hb⟩:=hg;exact ⟨Li a b,fun t=>by show f t*g t=_;rw [C2,ha,hb]⟩
theorem cW.of {f g:Dyadic→Dyadic} (hf:cW f) (h:∀t,g t=f t):cW g:=by
 obtain ⟨a,ha⟩:=hf;exact ⟨a,fun t=>by rw [h,ha]⟩
theorem cW.pow {f:Dyadic→Dyadic} (hf:cW f):∀n:Nat,cW fun t=>f t^n
 |0=>(cW.const 1).of fun t=>aaO _
 |n+1=>((cW.pow hf n).mul hf).of fun t=>abh _ _
theorem cW.sm {α:Type}{F:α→Dyadic→Dyadic}:∀(l:List α),(∀a∈l,cW (F a))→cW fun t=>sm l fun a=>F a t
 |[],_=>cW.const 0
 |a::l,h=>(h a YL).add (cW.sm l fun b hb=>h b (YP _ hb))
theorem CV {L w:Dyadic} (hw:w≠0):∀(n:Nat) (cs bad:List Dyadic),cs.length≤n→(∀t,t∉bad→il cs (L+w*t)=0)→∀x∈cs,x=0
 |0,cs,_,hn,_=>fun x hx=>by
  rw [aaA.1 (Nat.le_zero.1 hn)] at hx
  cases hx
 |n+1,cs,bad,hn,h=>by
  obtain ⟨a,ha⟩:=Ql bad;have h1:a∉bad:=fun c=>by have:=ha a c;grind
  have h0:=h a h1;obtain ⟨g,g1,g2,g3⟩:=z9 (L+w*a) cs;refine g3 (CV (L:=L) hw n g (a::bad) Yv fun t ht=> ?_) h0;have ht1:t≠a:=fun c=>ht (c ▸ YL);have ht2:=h t fun c=>ht (YP _ c);rw [g2,h0] at ht2;have e:(w*(t-a))*il g (L+w*t)=0:=by grind
  refine lY e fun c=> ?_;have:=lY c hw;grind
theorem OT {cs:List Dyadic} (t:Dyadic) (h:∀x∈cs,x=0):il cs t=0:=by
 induction cs with
 |nil=>rfl
 |cons c cs ih=>
  rw [il,h c YL,ih fun x hx=>h x (YP _ hx)];grind
theorem cW.W9 {f:Dyadic→Dyadic}{L w:Dyadic} (hf:cW f) (hw:w≠0) (h:∀t,f (L+w*t)=0) (x:Dyadic):f x=0:=by
 obtain ⟨a,ha⟩:=hf;rw [ha];exact OT x (CV hw a.length a [] (YE _) fun t _=>by rw [←ha];exact h t)
def D1 (F:Dyadic→Dyadic) (a b:Dyadic):Prop:=∃R,cW R∧∀h,F h=a+h*b+h*h*R h
def VG (A B:List Nat) (d t:Nat):List Nat:=(List.range (aA B)).flatMap fun q=>(List.range (aA A)).map fun f=>dK A d f t q
def Xn (A B:List Nat) (d t:Nat) (xs:List Dyadic):List Dyadic:=(VG A B d t).map fun p=>(xs[p]?).getD 0
theorem wF:∀{A ra:List Nat}{ta:List Dyadic} (d r:Nat) (t:Dyadic) (B rb:List Nat) (tb:List Dyadic),ra.length=A.length→ta.length=A.length→kj (A++d::B) (ra++r::rb) (ta++t::tb)=kj (A++B) (ra++rb) (ta++tb)*ke d r t
 |[],[],[],d,r,t,B,rb,tb,_,_=>by
  show ke d r t*kj B rb tb=kj B rb tb*ke d r t;grind
 |[],_::_,_,_,_,_,_,_,_,h,_=>by cases h
 |[],[],_::_,_,_,_,_,_,_,_,h=>by cases h
 |_::_,[],_,_,_,_,_,_,_,h,_=>by cases h
 |_::_,_::_,[],_,_,_,_,_,_,_,h=>by cases h
 |a::A,x::ra,u::ta,d,r,t,B,rb,tb,h1,h2=>by
  show ke a x u*kj (A++d::B) (ra++r::rb) (ta++t::tb)=ke a x u*kj (A++B) (ra++rb) (ta++tb)*ke d r t;rw [wF d r t B rb tb (by simpa using h1) (by simpa using h2)];grind
def XB (A:List Nat) (d:Nat) (B:List Nat) (X:List Dyadic) (ta tb:List Dyadic) (r:Nat):Dyadic:=sR (A++B) fun row=>co (A++d::B) X (row.take A.length++r::row.drop A.length)*kj (A++B) row (ta++tb)
def QQ:List Nat→List Nat→List Nat
 |[],_=>[]
 |_::_,[]=>[]
 |d::ds,k::ks=>d*k::QQ ds ks
variable {xs:List Dyadic}
theorem Xq (z:Int) (h:z.natAbs<256):Sz 24 (z:Dyadic):=Ew (e:=0) h Yw Yw
def Pp (d:Nat) (xs:List Dyadic) (i:Nat):Dyadic:=iX xs (i+1)*(((i:Int)+1:Int):Dyadic)-iX xs i*(((d:Int)-(i:Int):Int):Dyadic)
def sy (d:Nat) (xs:List Dyadic):List Dyadic:=(List.range d).map (Pp d xs)
theorem Dm (d:Nat) (xs:List Dyadic):(sy d xs).length=d:=by simp [sy]
theorem P9 {d i:Nat} (h:i<d):(sy d xs)[i]?=some (Pp d xs i):=by
 unfold sy;rw [YN,Zx h]
 rfl
theorem Ca (L:Option Addr) (n c d:Nat) (xs:List Dyadic) (k:Nat) (w:World) (hT:e8 w) (hS:Sl w L n 3 (aD NR.cells (xs.map nR))) (hn:n=d+1) (hd:d≤127) (hx:∀x∈xs,Sz k x) (hk:k≤500000):
  Calls Tryz.prog 74 #[.slice L n c] w fun r w'=>∃A c',r=.returned (.slice A d c')∧Hp w [.row A d c' 40 3 (aD NR.cells ((sy d xs).map nR))] w':=by
 have hh:=Hp.start w;have hln:xs.length=n:=by have:=hS.bh NR.len Yw;simpa using this
 obtain ⟨ad,rfl,hr⟩:=hS.at_ Yv;have hsl:=Dm d xs;refine ak (N:=41) (l:=[.slice (some ad) n c]) Tryz.func74 rfl rfl (by simp) ?_;refine sr (aL (aa (sr (mL (aK ?_)))));refine eP (aI (aa (sr (aL (aa (ai (sr (mI (mI (aa (av ?_)))))))))));replace hh:=hh.cN 40 3;refine bC [4,5,6,11,12,13,14,15,16,17,18,19,20,21,22,23,24,25,26,27,28,29,30,31,32,33,34,35,36,37,38,39] 4 11
  (fun a v w'=>∃(i:Nat) (A:Option Addr) (ac:Nat),i≤d∧v=.int .i64 i∧a=.slice A i ac∧Hp w [.row A i ac 40 3 (aD NR.cells (((sy d xs).take i).map nR))] w')
  (fun _ v _=>d-(intOf v).toNat) ?_ ?_
 ·exact ⟨0,none,0,YD _,rfl,rfl,hh⟩
 ·clear hh;rintro ρ' a_ v w' ⟨i,A,ac,hi,rfl,rfl,hh⟩;by_cases hlt:i<d
  ·obtain ⟨x,hxi⟩:=ao (l:=xs) (k:=i) Yv;obtain ⟨y,hyi⟩:=ao (l:=xs) (k:=i+1) Yv;have hxn:(xs.map nR)[i]?=some (nR x):=by rw [YN,hxi];rfl
   have hyn:(xs.map nR)[i+1]?=some (nR y):=by rw [YN,hyi];rfl
   have zx:=hx x (YF hxi);have zy:=hx y (YF hyi);have z1:=Xq ((i:Int)+1) Yv;have z2:=Xq ((d:Int)-(i:Int)) Yv;have hv:Pp d xs i=y*(((i:Int)+1:Int):Dyadic)-x*(((d:Int)-(i:Int):Int):Dyadic):=by
    unfold Pp iX;rw [hxi,hyi]
    rfl
   have hat:=P9 (xs:=xs) hlt;rw [hv] at hat;have hof1:=fun w1 hT1=>mF ((i:Int)+1) w1 hT1 Yv Yv;have hof2:=fun w1 hT1=>mF ((d:Int)-(i:Int)) w1 hT1 Yv Yv;generalize (((i:Int)+1:Int):Dyadic)=e1 at*;generalize (((d:Int)-(i:Int):Int):Dyadic)=e2 at*;rw [show (d:Int)-(i:Int)=(n:Int)-1-(i:Int) by omega] at hof2;have zp:=zy.mul z1;have zq:=zx.mul z2;have hm1:=fun A cc w1 hT1 hS1=>fS A 2 cc [nR y,nR e1] w1 hT1 hS1 (by simpa using ⟨zy.ok Yv,z1.ok Yv⟩) 600000 (by simpa [cj] using ⟨zy.mono Yv,z1.mono Yv⟩) Yv Yv;rw [show iZ ([nR y,nR e1].map NR.d)=y*e1 by simp only [Y1,Zp,cj];show 1*y*_=_;rw [aaJ]] at hm1;have hm2:=fun A cc w1 hT1 hS1=>fS A 2 cc [nR x,nR e2] w1 hT1 hS1 (by simpa using ⟨zx.ok Yv,z2.ok Yv⟩) 600000 (by simpa [cj] using ⟨zx.mono Yv,z2.mono Yv⟩) Yv Yv;rw [show iZ ([nR x,nR e2].map NR.d)=x*e2 by simp only [Y1,Zp,cj];show 1*x*_=_;rw [aaJ]] at hm2;generalize y*e1=p at*;generalize x*e2=q at*
   have hsb:=fun w1 hT1=>na (nR p) (nR q) w1 hT1 (zp.ok Yv) (zq.ok Yv) (k+24) (by rw [cj];exact zp) (by rw [cj];exact zq) Yv;rw [cj,cj] at hsb;refine sr ?_;refine a8 (aa (ai (cT (au (aj (ai (av (sr (mI (aI (aa (ai ?_))))))))))));refine aW 11 [[(0,none)],[(5,none)],[(15,some 1)],[(14,some 0),(16,some 2)],[(17,some 3)],[(5,none)],[(19,some 5)],[(20,some 6)],[(18,some 4),(21,some 7)],[(22,some 8)],[]] [(10,6),(9,23),(8,22),(7,21),(6,20),(5,19),(4,18),(3,17),(2,16),(1,15),(0,14)] hh mixed Yx ?_;refine eQ ?_;refine cZ ?_;refine r6 ?_;refine bu (i:=3) (fun ρ1 w1 hj hR=>dL bo.out aU.size (show ρ1 14=Value.slice _ _ _ from hR.1) (show ρ1 16=Value.int _ _ from hR.2.1) Yv Yv) ?_;refine nF [_,_,_] (fun _ hj=>(hr.ext hj.hp.below).recAt NR.len hyn) ?_;refine cZ ?_;refine r6 ?_;refine dC (fun _ hj=>hof1 _ (hT.hp hj.hp)) ?_;refine pL [_,_,_,_,_,_] ?_;refine aO (i:=9) (Is (.agg #[.bool (nR p).neg,.string (nR p).bj,.int .i64 (nR p).e])) Is.ext ?_ ?_
   ·intro ρ1 w1 hj hR;obtain ⟨A22,c22,h22,s22⟩:=hR.1;exact bk rfl (aV aw.out (az h22 bf)) (hm1 A22 c22 _ (hT.hp hj.hp) s22) (fun _ _ hq=>⟨_,hq.1,hq.2,rfl⟩)
   refine aO (i:=10) (cS _ 40 _) cS.ext (fun ρ1 w1 hj hR=>gP aU.out hj.bl (fun v w2 h hb=>⟨hb,h⟩)) ?_;refine aM ?_;intro f W hJ hV;have hb_6:=hJ.bl;obtain ⟨v6,v23,v22,v21,v20,v19,v18,v17,v16,v15,v14,_⟩:=hV;obtain ⟨A22,c22,e22,f22⟩:Rows _ _ _ (f 8) W:=v22;obtain ⟨b6,e6,hl6,hc6⟩:cS _ _ _ (f 10) W:=v6;replace hh:=hJ.newVar hh hl6 hc6;refine aQ (bg (ae e6 (ae v23 (ae e22 (ae v21 (ae v20 (ae v19 (ae v18 (ae v17 (ae v16 (ae v15 (ae v14 aR)))))))))))) ?_;dsimp only [bO];clear e22 e6 hJ;refine bV hh 0 [_,_,_] ?_;intro ws hh;replace hh:Hp _ (.blk _ _ [_,_,_] _::_) _:=hh;refine aa ?_;refine aW 14 [[(4,none)],[(6,none)],[(0,none)],[(5,none)],[(26,some 2),(27,some 3)],[(28,some 4)],[(3,none)],[(5,none)],[(30,some 6),(31,some 7)],[(32,some 8)],[(29,some 5),(33,some 9)],[(34,some 10)],[(25,some 1),(35,some 11)],[(36,some 12)]] [(13,37),(12,36),(11,35),(10,34),(9,33),(8,32),(7,31),(6,30),(5,29),(4,28),(3,27),(2,26),(1,25),(0,24)] hh mixed Yx ?_;refine eQ ?_;refine ef 0 [_,_,_] ?_;refine eQ ?_;refine cZ ?_
   refine bu (i:=4) (fun ρ1 w1 hj hR=>dL bo.out aU.size (show ρ1 26=Value.slice _ _ _ from hR.1) (show ρ1 27=Value.int _ _ from hR.2.1) Yv Yv) ?_;refine nF [_,_,_] (fun _ hj=>(hr.ext hj.hp.below).recAt NR.len hxn) ?_;refine cZ ?_;refine cZ ?_;refine qE ?_;refine dC (fun _ hj=>hof2 _ (hT.hp hj.hp)) ?_;refine pL [_,_,_,_,_,_] ?_;refine aO (i:=11) (Is (.agg #[.bool (nR q).neg,.string (nR q).bj,.int .i64 (nR q).e])) Is.ext ?_ ?_
   ·intro ρ1 w1 hj hR;obtain ⟨A34,c34,h34,s34⟩:=hR.1;exact bk rfl (aV aw.out (az h34 bf)) (hm2 A34 c34 _ (hT.hp hj.hp) s34) (fun _ _ hq=>⟨_,hq.1,hq.2,rfl⟩)
   refine dC (fun _ hj=>hsb _ (hT.hp hj.hp)) ?_;refine pL [_,_,_] ?_;refine aM ?_;intro f W hJ hV;have hb_7:=hJ.bl;obtain ⟨v37,v36,v35,v34,v33,v32,v31,v30,v29,v28,v27,v26,v25,v24,_⟩:=hV;obtain ⟨A34,c34,e34,f34⟩:Rows _ _ _ (f 10) W:=v34;obtain ⟨A37,c37,e37,f37⟩:Rows _ _ _ (f 13) W:=v37;replace hh:=hJ.hp;refine aQ (bg (ae e37 (ae v36 (ae v35 (ae e34 (ae v33 (ae v32 (ae v31 (ae v30 (ae v29 (ae v28 (ae v27 (ae v26 (ae v25 (ae v24 aR))))))))))))))) ?_;dsimp only [bO];clear e34 e37 hJ;refine cd hh (i:=1) rfl rfl rfl (f37) bo.out aU.out rfl Yw (by first|rfl|exact dv _|exact cR _|exact br _|exact bD NR.one _) Yv Yv Yw ?_;intro A38 c38 w38 hh;simp only [YM,Zg] at hh;refine mE ?_;refine bm (mI (aE (aj ?_)));have e1:aD NR.cells (((sy d xs).take i).map nR)++[.bool (nR (p-q)).neg,.string (nR (p-q)).bj,.int .i64 (nR (p-q)).e]=aD NR.cells (((sy d xs).take (i+1)).map nR):=by rw [aC hat,Zq,bZ,Y1,Zp,iB];rfl
   rw [e1] at hh;replace hh:=hh.sub (YI _ (ZK _));refine ⟨⟨i+1,A38,c38,Yv,rfl,rfl,hh⟩,by show d-(i+1)<d-i;omega, ?_⟩;exact dO
  ·obtain rfl:i=d:=Yv;rw [YG Yv] at hh;exact Uf
variable {K:Value→World→Prop}{ag:Bool}{base by' n:Nat}{cp:Operand}{cs zc:List Value}{kc kl:IntKind}{ops:Array Oper}{pos:String}
abbrev F6:=J5
theorem F6.ext {t:TypeId}{sz:Nat} (v:Value) (w w':World) (h:F6 base t n sz cs v w) (hb:Below w.heap.size w w'):F6 base t n sz cs v w':=J5.ext v w w' h hb
section
variable {P:Program}{ρ:Rf}{w:World}
theorem Lf {d:Option Nat}{ty:TypeId}{af:Array Edge}{t e:TypeId}{l:Operand}{L C:Int}{sz:Nat} (hl:ev ρ l=.int kl L) (hc:ev ρ cp=.int kc C) (hL:L=(n:Int)) (hC:C=(n:Int))
  (ht:P.underlying t=some (.slice e)) (hte:dH P e=some (sz,ag,by',zc)) (hzl:zc.length=sz) (hb:by'*n≤281474976710656) (h63:n≤9223372036854775807) (hbs:base≤w.heap.size)
  (hk:∀v w2,J5 base e n sz (gu n zc) v w2→Below w.heap.size w w2→K v w2):OG P ops ⟨d,.makeSlice t l cp,ty,pos,af,none⟩ ρ w K:=by
 obtain ⟨i,z,dd,hi,hd,hz,hs,hby,hzc,_⟩:=ez hte;subst hL;subst hC;obtain ⟨w',hr,hown,hg⟩:=run_make_full (P:=P) w base t e i z sz ht hi hz hs kl kc n (by rw [hby];exact hb) (by unfold maxLen;omega) hbs;have hzz:(madeCells z.cells (n*sz)).toList=gu n zc:=by
  exact Tb
 rw [hzz] at hown;exact eJ rfl (w':=w') (v:=.slice (some ⟨w.heap.size,0,none⟩) n n) (by simp [execOp,hl,hc,hr]) (hk _ _ ⟨_,_,rfl,hown⟩ ⟨hg.os,hg.tape,hg.output,hg.size,fun j hj=>hg.block j hj (by simp)⟩)
end
def qF (q:Nat→Bool) (xs:List Dyadic) (i:Nat):List Dyadic:=((List.range i).filter q).map fun p=>(xs[p]?).getD 0
theorem I4 (q:Nat→Bool) (xs:List Dyadic) (i:Nat):qF q xs (i+1)=qF q xs i++if q i=true then [(xs[i]?).getD 0] else []:=by
 unfold qF;rw [aas,aa6,Zq];congr 1;by_cases h:q i=true
 ·rw [YA h,abR h];rfl
 ·rw [YB h,abK h];rfl
theorem B8 (q:Nat→Bool) (xs:List Dyadic) (i:Nat):(qF q xs i).length≤i:=by
 unfold qF;rw [YO];exact Y2 (abT _ _) (by rw [aav];exact YE _)
def sf (ap d:Nat) (p:Nat):Bool:=decide (p/ap % (d+1)<d)
def Ao (ns:List Nat) (a:Nat):List Nat:=ns.set a (ns.getD a 0-1)
def BU (ns:List Nat) (a:Nat) (xs:List Dyadic):List Dyadic:=if ns.getD a 0=0 then List.replicate xs.length 0 else qF (sf (aA (ns.drop (a+1))) (ns.getD a 0)) (jN (ns.drop (a+1)).reverse (ns.getD a 0) (ns.getD a 0) (sy (ns.getD a 0)) xs xs.length 0) xs.length
set_option maxRecDepth 10000 in
theorem Ac (fx:FX) (ax:Int) (k:Nat) (w:World) (hT:e8 w) (hf:fx.at_ w) (hl:fx.j8 k) (hcap:fx.n≤fx.a) (hk:k≤500000):
  Calls Tryz.prog 22 #[.agg #[.slice fx.A fx.n fx.a,.slice fx.B fx.m fx.b],.int .i64 ax] w fun r w'=>∃g:FX,Out (mY fx ax) (Ao fx.ns ax.toNat) (BU fx.ns ax.toNat (fx.cs.map NR.d)) g∧r=.returned (.tuple #[.agg #[.slice g.A g.n g.a,.slice g.B g.m g.b],.int .i64 (mY fx ax)])∧Hp w [g.xK,g.vQ] w':=by
 have hh:=Hp.start w;have hhas:=fun w1 hT1 hb=>Ft fx ax k w1 hT1 (hf.ext hb) hl;by_cases hE:mY fx ax≠0
 ·refine ak (N:=78) (l:=[.agg #[.slice fx.A fx.n fx.a,.slice fx.B fx.m fx.b],.int .i64 ax]) Tryz.func22 rfl rfl (by simp) ?_;refine sr ?_;refine cu hh [_,_] ?_;intro b2 w2 hh;refine bW hh ?_;intro b4 w4 hh;refine aI (aa (ai (sr ?_)));refine cC hh 1 [_,_] (mI ?_);refine bA hh (hhas _ (hT.hp hh) hh.below) rfl ?_;intro w13 hh;exact Vn
 ·have hE:mY fx ax=0:=Yv;obtain ⟨h0,hx0,hx1⟩:=JX hE;obtain ⟨a,rfl⟩:∃a:Nat,ax=a:=⟨ax.toNat,Yv⟩;rw [hE] at hhas ⊢;rw [ZL];obtain ⟨hdeg,hnum,h12,hlow,hcnt,hmax⟩:=FX.fv h0;have hln:=hf.ln.1;have hlm:=hf.ln.2;have hnl:fx.ns.length=fx.n:=by unfold FX.ns;rw [YO];exact hln
  obtain ⟨d,hd⟩:=ao (l:=fx.ns) (k:=a) Yv;have hd127:=hlow d (YF hd);have hgd0:fx.ns.getD a 0=d:=by rw [Zo,hd];rfl
  have hgd:(bQ fx.ds)[a]?=some (.int .i64 (d:Int)):=by rw [hdeg];exact cL (iG hd)
  obtain ⟨ad0,hAD,sD⟩:=hf.dg.at_ Yv;have il:Value.slice fx.A fx.n fx.a=.slice (some ad0) fx.n fx.a:=by rw [hAD]
  by_cases Bs:d=0
  ·subst Bs;have hcl:=fun w1 hb=>nc fx.A fx.n fx.a fx.ds w1 (hf.dg.ext hb) Yv;have hDN:cf (Ao fx.ns a)=fx.ds:=by
    unfold Ao;rw [hgd0,D8 hd,hdeg]
   have hDX:BU fx.ns a (fx.cs.map NR.d)=List.replicate fx.m 0:=by
    unfold BU;rw [YA hgd0,YO,hlm]
   refine ak (N:=78) (l:=[.agg #[.slice fx.A fx.n fx.a,.slice fx.B fx.m fx.b],.int .i64 a]) Tryz.func22 rfl rfl (by simp) ?_;refine sr ?_;refine cu hh [_,_] ?_;intro b2 w2 hh;refine bW hh ?_;intro b4 w4 hh;refine aI (aa (ai (sr ?_)));refine cC hh 1 [_,_] (mI ?_);refine bA hh (hhas _ (hT.hp hh) hh.below) rfl ?_;intro w13 hh;refine aI (aa (sr (mI ?_)));refine db (aa (cF (au (aj (ai (sr (bJ ?_)))))));refine bG hh 1 ?_;refine mI ?_;refine dm (k:=a) bo.out aU.size il rfl Yv Yv Yw ?_;refine cv aU.out rfl ((sD.ext hh.below).xv hgd) Yw ?_;refine di (aa (cT (ai ?_)));refine aW 7 [[(2,none)],[(24,some 0)],[(25,some 1)],[(2,none)],[(27,some 3)],[(28,some 4)],[(29,some 5)]] [(6,30),(5,29),(4,28),(3,27),(2,26),(1,25),(0,24)] hh mixed Yx ?_;refine cX ?_;refine dT 1 ?_;refine aO (i:=2) (F6 hh.sz 3 fx.n 1 (bQ fx.ds)) (F6.ext) ?_ ?_
   ·intro ρ1 w1 hj hR;exact bk rfl (aV aw.out (az (show ρ1 25=Value.slice _ _ _ from hR.1) bf)) (hcl w1 hj.hp.below) (fun _ _ ⟨A,c,hq,ho,hb⟩=>⟨_,hq,hb,A,c,rfl,qw ho hj.bl.size⟩)
   refine cX ?_;refine dT 1 ?_;refine sY ?_;refine aO (i:=6) (F6 hh.sz 40 fx.m 3 (aD NR.cells ((List.replicate fx.m (0:Dyadic)).map nR))) (F6.ext) ?_ ?_
   ·intro ρ1 w1 hj hR;exact pE fx.m ▸ Lf (n:=fx.m) (show ρ1 29=Value.int _ _ from hR.1) (show ρ1 29=Value.int _ _ from hR.1) rfl rfl bo.out aU.out rfl Yv Yv hj.bl.size (fun _ _ h1 h2=>⟨h2,h1⟩)
   refine aM ?_;intro f W hJ hV;have hb_5:=hJ.bl;obtain ⟨v30,v29,v28,v27,v26,v25,v24,_⟩:=hV;obtain ⟨A26,c26,e26,o26⟩:=v26;obtain ⟨A30,c30,e30,o30⟩:=v30;replace hh:=JJ.PI hJ hh o26 o30 Yw;clear o26 o30;refine aQ (bg (ae e30 (ae v29 (ae v28 (ae v27 (ae e26 (ae v25 (ae v24 aR)))))))) ?_;dsimp only [bO];clear e26 e30 hJ;refine fH [_,_] ?_;refine bV hh 2 [_,_] ?_;intro ws hh;replace hh:Hp _ (_::_::.blk _ _ [_,_] _::_) _:=hh;refine aI (aa (ay (aN ?_)));replace hh:=hh.sub (YC _ (YC _ (YC _ (YI _ Y5))));replace hh:=hh.perm (Zh (l₁:=[_]));simp only [YJ,YH] at hh;refine oJ ?_;exact ⟨⟨A26,fx.n,c26,A30,fx.m,c30,fx.ds,(List.replicate fx.m (0:Dyadic)).map nR⟩,⟨hDN.symm,by rw [hDX];rfl,by show fx.n≤100000;omega,by show fx.m≤1000000;omega⟩,rfl,hh.sub (YC _ (YC _ (Zr _)))⟩
  ·have hdg:Sl w fx.A fx.n 1 (bQ (cf fx.ns)):=by rw [←hdeg];exact hf.dg
   have hof:=fun w1 hb=>mU fx.A fx.n fx.a a d fx.ns w1 (hdg.ext hb) hcap Yv hd hlow hmax;have hcl:=fun w1 hb=>nc fx.A fx.n fx.a fx.ds w1 (hf.dg.ext hb) Yv;have hDN:cf (Ao fx.ns a)=fx.ds.set a ((d:Int)-1):=by
    unfold Ao;rw [hgd0]
    conv=>rhs;rw [hdeg]
    unfold cf;rw [aa3,show ((d-1:Nat):Int)=(d:Int)-1 by omega]
   obtain ⟨X,hX⟩:∃X,X=fx.cs.map NR.d:=⟨_,rfl⟩;rw [←hX] at hnum ⊢;have hXl:X.length=fx.m:=by rw [hX,YO];exact hlm
   have hXz:∀x∈X,Sz k x:=fun x h=>by
    rw [hX] at h;obtain ⟨z,hz,rfl⟩:=YR.1 h;exact (hl.num z hz).2
   have hDX:BU fx.ns a X=qF (sf (aA (fx.ns.drop (a+1))) d) (jN (fx.ns.drop (a+1)).reverse d d (sy d) X fx.m 0) fx.m:=by
    unfold BU;rw [hgd0,YB Bs,hXl]
   have hsp:fx.m=aA ((fx.ns.drop (a+1)).reverse++d::(fx.ns.take a).reverse):=by
    rw [←CS hd,de];exact hlm.symm.trans hcnt
   have hSX:Sl w fx.B fx.m 3 (aD NR.cells (X.map nR)):=by rw [←hnum];exact hf.nm
   have hli:=fun w1 hT1 hb=>oB 74 (fx.ns.drop (a+1)).reverse (fx.ns.take a).reverse d d (sy d) fx.B fx.m fx.b k X w1 hT1 (hSX.ext hb) hsp Yv Yv hd127 hXz (fun Y E ec w2 hT2 hy hs=>Ca E (d+1) ec d Y k w2 hT2 hs rfl hd127 hy hk) (fun Y _=>Dm d Y);rw [de] at hli;have hap:=df (fx.ns.drop (a+1));have hap2:aA (fx.ns.drop (a+1))≤4096:=by
    have h3:aA fx.ns=aA (fx.ns.take (a+1))*aA (fx.ns.drop (a+1)):=by rw [←eN,Zv]
    have:=Nat.le_mul_of_pos_left (aA (fx.ns.drop (a+1))) (df (fx.ns.take (a+1)));omega
   rw [hDX];have hYl:(jN (fx.ns.drop (a+1)).reverse d d (sy d) X fx.m 0).length=fx.m:=by rw [iE,hXl]
   generalize jN (fx.ns.drop (a+1)).reverse d d (sy d) X fx.m 0=Y at*;generalize aA (fx.ns.drop (a+1))=ap at*;refine ak (N:=78) (l:=[.agg #[.slice fx.A fx.n fx.a,.slice fx.B fx.m fx.b],.int .i64 a]) Tryz.func22 rfl rfl (by simp) ?_;refine sr ?_;refine cu hh [_,_] ?_;intro b2 w2 hh;refine bW hh ?_;intro b4 w4 hh;refine aI (aa (ai (sr ?_)));refine cC hh 1 [_,_] (mI ?_);refine bA hh (hhas _ (hT.hp hh) hh.below) rfl ?_;intro w13 hh;refine aI (aa (sr (mI ?_)));refine db (aa (cF (au (aj (ai (sr (bJ ?_)))))));refine bG hh 1 ?_;refine mI ?_;refine dm (k:=a) bo.out aU.size il rfl Yv Yv Yw ?_;refine cv aU.out rfl ((sD.ext hh.below).xv hgd) Yw ?_;refine di (aa (cF (au (aj (sr (bJ ?_))))));refine bG hh 1 ?_;refine mI ?_;refine bA hh (hof _ hh.below) rfl ?_;intro w35 hh;refine bW hh ?_;intro b7 w7 hh;refine bV hh 0 [_,_] ?_;intro ws hh;replace hh:Hp _ (.blk _ _ [_,_] _::_) _:=hh;refine aa (sr (bJ ?_));refine bG hh 2 ?_;refine aJ (hcl _ hh.below) aw.out rfl Yw ?_;rintro e_ w38 ⟨A38,c38,rfl,hown_,hb_⟩;refine ⟨_,rfl, ?_⟩;replace hh:=hh.aY (x:=.row _ _ _ _ _ _) hb_ hown_;obtain ⟨gd,rfl⟩:=hh.cK (i:=0) rfl Yv;have hil:=cD fx.ds
   have hm0:0<fx.m:=by have:=df fx.ns;omega
   refine fH [_,_] ?_;refine bW hh ?_;intro b8 w8 hh;refine bV hh 0 [_,_] ?_;intro ws hh;replace hh:Hp _ (.blk _ _ [_,_] _::_) _:=hh;refine aa (sr (bJ ?_));refine bG hh 0 ?_;refine mI ?_;refine dn (k:=a) bo.out aU.size rfl rfl Yv Yv Yw ?_;refine NM ?_;refine eP ?_;refine dn (k:=a) bo.out aU.size rfl rfl Yv Yv Yw ?_;refine cA hh (i:=1) (vs:=[_]) rfl rfl (dk rfl) rfl aU.out rfl Yv rfl ?_;intro ws hh;simp only [YM,Zg] at hh;rw [tR _ Yv] at hh;refine aa (ai (sr ?_));refine cC hh 2 [_,_] (bJ ?_);refine bG hh 4 ?_;refine aJ (hli _ (hT.hp hh) hh.below) aw.out rfl Yw ?_;rintro e_ w50 ⟨E,ec,rfl,h4⟩;refine ⟨_,rfl, ?_⟩;replace hh:=hh.join h4;clear h4;simp only [YJ,YH] at hh;obtain ⟨gn,rfl⟩:=hh.cK (i:=0) rfl Yv;refine aK (mI (aa (av ?_)));replace hh:=hh.cN 40 3;refine aT [9,10,52,53,54,55,56,57,58,59,60,61,62,63,64,65,66,67,68,69,70,71,72,73,74,75,76] 52
    (fun v w'=>∃(i c1:Nat) (B:Option Addr),i≤fx.m∧v=.int .i64 i∧Hp w [.row B (qF (sf ap d) Y i).length c1 40 3 (aD NR.cells ((qF (sf ap d) Y i).map nR)),.row (some ⟨gn,0,none⟩) fx.m ec 40 3 (aD NR.cells (Y.map nR)),.blk b8 33 [.slice (some ⟨gd,0,none⟩) fx.n c38,.slice B (qF (sf ap d) Y i).length c1] (0,0),.row (some ⟨gd,0,none⟩) fx.n c38 3 1 (bQ (fx.ds.set a ((d:Int)-1))),.blk b7 83 [.int .i64 ((d:Int)+1),.int .i64 (ap:Int)] (0,0),.blk b4 33 [.slice none 0 0,.slice none 0 0] (0,0),.blk b2 33 [.slice fx.A fx.n fx.a,.slice fx.B fx.m fx.b] (0,0)] w')
    (fun v _=>fx.m-(intOf v).toNat) ?_ ?_
   ·exact ⟨0,0,none,YD _,rfl,hh⟩
   ·clear hh;rintro ρ' v w' ⟨i,c1,B,hi,rfl,hh⟩;by_cases hlt:i<fx.m
    ·obtain ⟨x,hx⟩:=ao (l:=Y) (k:=i) Yv;have hxn:(Y.map nR)[i]?=some (nR x):=by rw [YN,hx];rfl
     have hxd:(Y[i]?).getD 0=x:=by rw [hx];rfl
     have hcast:((i:Int)/(ap:Int)) % ((d:Int)+1)=((i/ap % (d+1):Nat):Int):=by norm_cast
     have hq0:(0:Int)≤(i:Int)/(ap:Int):=Int.ediv_nonneg Yv Yv;have hst:=I4 (sf ap d) Y i;rw [hxd] at hst;have hfl:=B8 (sf ap d) Y i;have hrl:=eS NR.len (Y.map nR);have hYl2:(Y.map nR).length=fx.m:=by rw [YO];exact hYl
     have hQ:sf ap d i=decide (i/ap % (d+1)<d):=rfl;generalize hF:qF (sf ap d) Y i=F at*;by_cases hdg2:i/ap % (d+1)<d
     ·rw [hQ,YV hdg2,YA rfl] at hst;refine sr ?_;refine e9 ?_;refine gD ?_;refine R4 ?_;refine bW hh ?_;intro b10 w10 hh;refine aI ?_;refine bV hh 0 [_,_,_] ?_;intro ws hh;replace hh:Hp _ (.blk _ _ [_,_,_] _::_) _:=hh;refine aa (ai ?_);refine Sm ?_;refine cZ ?_;refine cX ?_;refine dT 5 ?_;refine Sw ?_;refine cX ?_;refine dT 5 ?_;refine Rz ?_;refine cX ?_;refine dT 7 ?_;refine cZ ?_;refine aO (i:=10) (Is (.pointer (some (ad0.add (a*1))))) (Is.ext) ?_ ?_
      ·exact VQ
      refine pK (fun _ hj=>(sD.ext hj.hp.below).xv hgd) ?_;refine aM ?_;intro f W hJ hV;have hb_12:=hJ.bl;obtain ⟨v68,v67,v66,v65,v64,v63,v62,v61,v60,v59,v58,v57,_⟩:=hV;replace hh:=hJ.hp;refine RC ?_;dsimp only [bO];clear hJ;refine a8 (aa (cT (ar (bJ ?_))));refine bG hh 3 ?_;refine cC hh 0 [_,_,_] ?_;refine tH ?_;intro b73 w73 hh;refine Q0 ?_;intro A74 c74 w74 hh;simp only [YM,Zg] at hh;replace hh:=hh.sub (Zi _ _);refine bJ ?_;refine bV hh 3 [_] ?_;intro ws hh;replace hh:Hp _ (_::_::_::.blk _ _ [_,_] _::_) _:=hh;refine gN ?_;refine bm (mI (aE (aj ?_)));replace hh:=hh.sub (YI _ (YC _ (YC _ (YC _ (YC _ (YC _ (YC _ (YC _ Y5))))))));refine ⟨⟨i+1,c74,A74,Yv,rfl, ?_⟩,by show fx.m-(i+1)<fx.m-i;omega, ?_⟩
      ·rw [hst,YK,Zq,bZ];exact hh
      ·exact dO
     ·rw [hQ,Y3 hdg2,YB Yw,Y9] at hst;refine sr ?_;refine e9 ?_;refine gD ?_;refine R4 ?_;refine bW hh ?_;intro b10 w10 hh;refine aI ?_;refine bV hh 0 [_,_,_] ?_;intro ws hh;replace hh:Hp _ (.blk _ _ [_,_,_] _::_) _:=hh;refine aa (ai ?_);refine Sm ?_;refine cZ ?_;refine cX ?_;refine dT 5 ?_;refine Sw ?_;refine cX ?_;refine dT 5 ?_;refine Rz ?_;refine cX ?_;refine dT 7 ?_;refine cZ ?_;refine aO (i:=10) (Is (.pointer (some (ad0.add (a*1))))) (Is.ext) ?_ ?_
      ·exact VQ
      refine pK (fun _ hj=>(sD.ext hj.hp.below).xv hgd) ?_;refine aM ?_;intro f W hJ hV;have hb_12:=hJ.bl;obtain ⟨v68,v67,v66,v65,v64,v63,v62,v61,v60,v59,v58,v57,_⟩:=hV;replace hh:=hJ.hp;refine RC ?_;dsimp only [bO];clear hJ;refine a8 (aa (cF (au (bM (aj (ar ?_))))));refine bm (mI (aE (aj ?_)));replace hh:=hh.sub (YI _ (YC _ (YC _ (YC _ (YC _ (YC _ (YC _ (YC _ Y5))))))));refine ⟨⟨i+1,c1,B,Yv,rfl,by rw [hst];exact hh⟩,by show fx.m-(i+1)<fx.m-i;omega, ?_⟩;exact dO
    ·obtain rfl:i=fx.m:=Yv;refine sr ?_;refine oa ?_;refine cC hh 2 [_,_] ?_;refine bV hh 5 [_,_] ?_;intro ws hh;replace hh:Hp _ (_::_::_::_::_::.blk _ _ [_,_] _::_) _:=hh;refine aI (aa (ay ?_));replace hh:=hh.sub (YC _ (YI _ (YI _ (YC _ (YI _ (YC _ (YI _ Y5)))))));refine oJ ?_;refine ⟨⟨some ⟨gd,0,none⟩,fx.n,c38,B,(qF (sf ap d) Y fx.m).length,c1,fx.ds.set a ((d:Int)-1),(qF (sf ap d) Y fx.m).map nR⟩,⟨hDN.symm,rfl,by show fx.n≤100000;omega, ?_⟩,rfl,hh.sub (aaG [_,_] _)⟩;have:=B8 (sf ap d) Y fx.m;show (qF (sf ap d) Y fx.m).length≤1000000;omega
variable {ds:List Nat}{l ts:List TR}
theorem wq:∀(N:Nat) (l:List Nat),l.Nodup→(∀x∈l,x<N)→l.length≤N
 |0,l,_,h=>by
  cases l with
  |nil=>exact YE _
  |cons x l=>exact absurd (h x YL) Yv
 |N+1,l,hd,h=>by
  by_cases hm:N∈l
  ·have h1:=wq N (l.erase N) (hd.erase N) fun x hx=>by
    have:=(hd.mem_erase_iff).1 hx;have:=h x this.2;omega
   rw [List.length_erase_of_mem hm] at h1;omega
  ·have:=wq N l hd fun x hx=>by
    have:=h x hx;have:x≠N:=fun e=>hm (e ▸ hx);omega
   omega
theorem Gz (hr:ux l) (h:∀t∈l,nx ds (cV t.m)):l.length≤aA ds:=by
 have h1:=wq (aA ds) (l.map fun t=>iI ds (cV t.m)) (by
  unfold List.Nodup;rw [List.pairwise_map];refine List.Pairwise.imp_of_mem (fun {a b} ha hb hl e=> ?_) hr;have e2:cV a.m=cV b.m:=by rw [←jn (h a ha),e,jn (h b hb)]
  rw [uY e2,gW] at hl
  cases hl) (fun x hx=>by
  obtain ⟨t,ht,rfl⟩:=YR.1 hx;exact oR (h t ht))
 rwa [YO] at h1
theorem Mf {v:Nat}{B:Nat→Nat} (hs:∀t∈l,t.m.size=v) (h:kG B l):∀t∈l,nx ((List.range v).map B) (cV t.m):=fun t ht=>by
 rw [k6];refine ⟨by rw [k9,hs t ht,YO,aav],fun i d r hd hr=> ?_⟩;have hi:=(YQ.1 hd).1;rw [YO,aav] at hi;rw [YN,Zx hi] at hd;have:=h t ht i;rw [uw,hr] at this;rw [←Zl hd];exact this
theorem BC {v:Nat}{B:Nat→Nat} (h:fj (v:Int) ts=0) (hb:kG B ts):ts.length≤aA ((List.range v).map B):=by
 obtain ⟨_,_,h3,h4⟩:=cB h;refine Gz h4.sO (Mf (fun t ht=> ?_) hb);have:=h3 t ht;unfold eY at this;rw [YU,YY] at this;omega
section
variable {ro:Mode}{P:Program}{N:Nat}{Q:Kq}{ρ:Rf}{w:World}
theorem Jt {a c:Code} (mods:List Nat) (s0:Nat) (J:Value→World→Prop) (hc:WC ro P N a (cU (fun ρ2 w2=>J (ρ2 s0) w2∧jE mods ρ2 ρ) Q) ρ w) (hn:∀ρ' v0 w',J v0 w'→WC ro P N c Q (cY (mask mods ρ' ρ) s0 v0) w'):WC ro P N (.seq a c) Q ρ w:=
 ai (hc.mono fun e ρ2 w2 hq=>by
  cases e with
  |normal=>
   have:=hn ρ2 (ρ2 s0) w2 hq.1;rwa [jI hq.2,iy] at this
  |_=>exact hq)
end
def xO (p:PX) (ds:List Int):List Int:=if ds.length=0 then yV p.v p.ts else ds
def T4 (p:PX) (ds:List Int):List Nat:=(xO p ds).map Int.toNat
def xM (p:PX) (b:List SR) (ds:List Int):Int:=if uh p b (xO p ds)≠0 then uh p b (xO p ds) else (eH p (cO b)).1
theorem Pr {ns:List Nat}{i d:Nat} (h:ns[i]?=some d):ns.reverse=(ns.drop (i+1)).reverse++d::(ns.take i).reverse:=by
 exact UY
theorem T6 (ds:List Nat):X0 ds (uj [])=List.replicate (aA ds) 0:=vL _
theorem P6 {i:Nat}{t:TR} (hl:∀t∈l,nx ds (cV t.m).reverse) (hr:ux l) (ht:l[i]?=some t):(X0 ds (uj (l.take i))).set (iI ds (cV t.m).reverse) t.c.d=X0 ds (uj (l.take (i+1))):=by
 have hok:=hl t (YF ht);have hp:=oR hok;have h0:(X0 ds (uj (l.take i)))[iI ds (cV t.m).reverse]?=some 0:=by
  unfold X0;rw [pz _ hp];congr 1;unfold uj;rw [Zy,kg];refine kp fun s hs=>YB fun e=> ?_;replace e:iI ds (cV s.m).reverse=iI ds (cV t.m).reverse:=e;have e2:(cV s.m).reverse=(cV t.m).reverse:=by rw [←jn (hl s (aau hs)),e,jn hok]
  have e3:s.m=t.m:=uY (List.reverse_inj.1 e2);obtain ⟨j,hj⟩:=aaj.1 hs;have hji:j<i:=by have:=(YQ.1 hj).1;rw [YW] at this;omega
  rw [List.getElem?_take_of_lt hji] at hj;have h1:=(YQ.1 hj);have h2:=(YQ.1 ht);have h3:=List.pairwise_iff_getElem.1 hr j i h1.1 h2.1 hji;rw [h1.2,h2.2,e3,gW] at h3
  cases h3
 have h1:=Jp (v:=t.c.d) (show (pO (aA ds) ((uj (l.take i)).map fun (q:List Nat×Dyadic)=>(iI ds q.1,q.2)))[iI ds (cV t.m).reverse]?=some 0 from h0);rw [aaz] at h1;show (pO (aA ds) ((uj (l.take i)).map fun (q:List Nat×Dyadic)=>(iI ds q.1,q.2))).set _ _=_;rw [h1,aC ht];unfold X0 uj;rw [Zq,Zq]
 rfl
set_option maxRecDepth 10000 in
theorem Jm (p:PX) (L:Option Addr) (n c:Nat) (b:List SR) (M:Option Addr) (m mc:Nat) (ds:List Int) (k:Nat) (w:World) (hT:e8 w) (hp:p.at_ w) (lp:p.j8 k) (hB:Sl w L n 6 (aD SR.cells b)) (hb:∀s∈b,s.fin k) (hn:n≤1000000) (hD:Sl w M m 1 (bQ ds)) (hm:m≤1000000) (hmc:m≤mc) (hk:k≤1000)
  (hgr:uh p b (xO p ds)=0→gQ (k+k+16394) (m9 p.v p.ts) (k+1)≤440000):
  Calls Tryz.prog 9 #[.agg #[.int .i64 p.v,.slice p.A p.n p.c],.slice L n c,.slice M m mc] w fun r w'=>∃g:FX,Out (xM p b ds) (T4 p ds) (Dw (T4 p ds) (eH p (cO b)).2) g∧r=.returned (.tuple #[.agg #[.slice g.A g.n g.a,.slice g.B g.m g.b],.int .i64 (xM p b ds)])∧Hp w [g.xK,g.vQ] w':=by
 have hh:=Hp.start w;have hbl:b.length=n:=hB.bh SR.len Yw;have hdl:ds.length=m:=by have:=hD.1;rw [cD] at this;omega
 have hok:∀s∈b,s.ok:=fun s hs=>⟨(hb s hs).1.ok,(hb s hs).2.ok⟩;have hDd:xO p ds=if m=0 then yV p.v p.ts else ds:=by unfold xO;rw [hdl]
 have hoN:T4 p ds=(xO p ds).map Int.toNat:=rfl;have hoE:xM p b ds=if uh p b (xO p ds)≠0 then uh p b (xO p ds) else (eH p (cO b)).1:=rfl
 rw [hoN,hoE];clear hoN hoE;generalize xO p ds=D at*;refine ak (N:=94) (l:=[.agg #[.int .i64 p.v,.slice p.A p.n p.c],.slice L n c,.slice M m mc]) Tryz.func9 rfl rfl (by simp) ?_;refine sr ?_;refine cu hh [_,_] ?_;intro b3 w3 hh;refine bW hh ?_;intro b6 w6 hh;refine aI (aa ?_);refine Jt [2,18,19,20,21,22] 2
  (fun v w'=>∃(M2:Option Addr) (m2 mc2:Nat) (R:List HE),v=.slice M2 m2 mc2∧m2≤mc2∧m2≤1000000∧D.length=m2∧(∀(H:List HE) (w1:World),Hp w (H++R) w1→Sl w1 M2 m2 1 (bQ D))∧Hp w (.blk b6 33 [.slice none 0 0,.slice none 0 0] (0,0)::.blk b3 24 [.int .i64 p.v,.slice p.A p.n p.c] (0,0)::R) w') ?_ ?_
 ·by_cases hm0:m=0
  ·subst hm0;rw [YA rfl] at hDd;have hdg:=fun w1 hT1 hb=>tL p k w1 hT1 (hp.ext hb) lp;rw [←hDd] at hdg;have hl4:D.length≤1000000:=by
    rw [hDd];unfold yV;split
    ·rename_i hpe;have:=eF.1 (cB hpe).1;rw [fW];omega
    ·exact YD _
   refine sr (mL (aK ?_));refine di (aa (cT (ar ?_)));refine cC hh 1 [_,_] ?_;refine aJ (hdg _ (hT.hp hh) hh.below) aw.out rfl Yw ?_;rintro e_ w22 ⟨G,gc,rfl,h4⟩;refine ⟨_,rfl, ?_⟩;have hgc:D.length≤gc:=h4.dJ (i:=0) rfl;replace hh:=hh.join h4;clear h4;simp only [YJ,YH] at hh;refine aL (aa ?_);replace hh:=hh.perm (Zh (l₁:=[_,_]));simp only [YJ,YH] at hh;replace hh:=hh.perm (Zh (l₁:=[_,_]));simp only [YJ,YH] at hh;refine ⟨⟨G,D.length,gc,_,rfl,hgc,hl4,rfl,fun H w1 h1=>jx (h1.own (.row G D.length gc 3 1 (bQ D)) (Z5 _ YL)),hh⟩, ?_⟩;exact P5
  ·rw [YB hm0] at hDd;refine sr (mL (aK ?_));refine di (aa (cF (au (aj ?_))));refine ⟨⟨M,m,mc,[],rfl,hmc,hm,by rw [hDd];exact hdl,fun H w1 h1=>by rw [hDd];exact hD.ext h1.below,hh⟩, ?_⟩;exact P5
 ·skip;clear hh hDd hdl hD hm hmc;rintro ρ' v w' ⟨M2,m2,mc2,R,rfl,hmc2,hm2,hDl,hrd,hh⟩;have hfi:=fun w1 hT1 hb1 hd=>wa p L n c b M2 m2 mc2 D k w1 hT1 (hp.ext hb1) lp (hB.ext hb1) hok hn hd hm2;by_cases hE:uh p b D≠0
  ·rw [YA hE];generalize uh p b D=E at*;refine ai (sr ?_);refine cC hh 1 [_,_] (mL (mL ?_));refine bA hh (hfi _ (hT.hp hh) hh.below (hrd [_,_] _ hh)) rfl ?_;intro w26 hh;exact Vn
  ·rw [YB hE];have hE0:uh p b D=0:=Yv;obtain ⟨hnat,hF⟩:=T9 hE0;rw [hE0] at hfi;have hpe:=hF.e;have hn0:=hF.pos;have hn12:=hF.KQ;have hnl:=hF.nl;have hlow:=hF.low;have hmost:=hF.most;have hgr2:=hgr hE0;obtain ⟨_,o2,o3⟩:=AG hpe;have hwi:=fun w1 hT1 hb1=>A0 p L n c b k (m9 p.v p.ts) w1 hT1 (hp.ext hb1) lp (hB.ext hb1) hb (by rw [hF.v,hbl]) Yv Yv hk (by rw [hF.It];exact hbl) (fun i d hd=>⟨(o3 i d hd).1,(o3 i d hd).2.1⟩) hgr2;have hsp:=IL hF lp.ok hb hk hgr2;clear hgr hgr2 o2 o3 hfi;have hfi:=fun w1 hT1 hb1 hd=>wa p L n c b M2 m2 mc2 D k w1 hT1 (hp.ext hb1) lp (hB.ext hb1) hok hn hd hm2;rw [hE0] at hfi;clear hE hE0;have hcnt:gH 1 D=((aA (D.map Int.toNat):Nat):Int):=by
    have h8:=lj (D.map Int.toNat) 1 (YE _) Yw hlow;rw [←hnat,aaH,YA hmost] at h8;exact h8
   have hco:=fun w1 hd=>ff M2 m2 mc2 D w1 hd hm2;rw [hcnt] at hco;have hcl:=fun w1 hd=>nc M2 m2 mc2 D w1 hd hm2;have hm2n:m2=n:=by rw [←hDl,←hbl,←hnl,YO]
   generalize hns:D.map Int.toNat=ns at*;generalize (eH p (cO b)).1=E at*;generalize (eH p (cO b)).2=S at*;have hN0:=df ns;refine ai (sr ?_);refine cC hh 1 [_,_] (mL (mL ?_));refine bA hh (hfi _ (hT.hp hh) hh.below (hrd [_,_] _ hh)) rfl ?_;intro w26 hh;refine aI (aa (sr (mI ?_)));refine wZ ?_;refine cC hh 1 [_,_] (mL ?_);refine aJ (hwi _ (hT.hp hh) hh.below) aw.out rfl Yw ?_;rintro e_ w34 ⟨q,oq,rfl,h4⟩;refine ⟨_,rfl, ?_⟩;replace hh:=hh.join h4;clear h4;simp only [YJ,YH] at hh;replace hh:=show Hp w (.row q.A q.n q.c 80 4 (aD TR.cells q.ts)::_) _ from hh;by_cases hE2:E≠0
   ·refine mT ?_;refine dx ?_;refine dx ?_;refine bW hh ?_;intro b9 w9 hh;refine bV hh 0 [_,_] ?_;intro ws hh;replace hh:Hp _ (.blk _ _ [_,_] _::_) _:=hh;refine aI (aa (ai (sr (mI ?_))));refine db (aa (cT (sr ?_)));refine fH [_,_] (mI ?_);refine bV hh 2 [_,_] ?_;intro ws hh;replace hh:Hp _ (_::_::.blk _ _ [_,_] _::_) _:=hh;refine aI (aa (ay (aN ?_)));refine oJ ?_;exact ⟨FX.nil,Out.err hE2,rfl,(hh.sub (Zr _)).U1⟩
   ·have hE0:E=0:=Yv;subst hE0;obtain ⟨hso,hsr⟩:=hsp rfl;have et:q.ts=S:=oq.t0;rw [et] at hh;clear oq et;generalize q.v=qv at*;generalize q.A=qA at*;generalize q.n=qn at*;generalize q.c=qc at*;have hSl:S.length=qn:=(hh.aG (i:=0) rfl).bh TR.len Yw;have hSn:=hso.len;obtain ⟨_,_,hSm,hSc⟩:=cB hso.e;refine mT ?_;refine dx ?_;refine dx ?_;refine bW hh ?_;intro b9 w9 hh;refine bV hh 0 [_,_] ?_;intro ws hh;replace hh:Hp _ (.blk _ _ [_,_] _::_) _:=hh;refine aI (aa (ai (sr (mI ?_))));refine db (aa (cF (au (aj (sr (mL ?_))))));refine aJ (hcl _ (hrd [_,_,_,_] _ hh)) aw.out rfl Yw ?_;rintro e_ w42 ⟨A42,c42,rfl,hown_,hb_⟩;refine ⟨_,rfl, ?_⟩;replace hh:=hh.aY (x:=.row _ _ _ _ _ _) hb_ hown_;refine mL ?_;refine bA hh (hco _ (hrd [_,_,_,_,_] _ hh)) rfl ?_;intro w44 hh;refine gE (n:=(aA ns)) hh rfl rfl Yv Yv bo.out aU.out rfl Yv Yv Yw ?_;intro b45 w45 hh;refine fH [_,_] ?_;refine bW hh ?_;intro b11 w11 hh;refine bV hh 0 [_,_] ?_;intro ws hh;replace hh:Hp _ (.blk _ _ [_,_] _::_) _:=hh;refine aa (ai (sr (bJ ?_)));refine bG hh 3 ?_;refine aK (mI (aa (av ?_)));rw [pE,←de ns,←T6 ns.reverse,de] at hh
    refine aT [13,14,15,16,50,51,52,53,54,55,56,57,58,59,60,61,62,63,64,65,66,67,68,69,70,71,72,73,74,75,76,77,78,79] 50
     (fun v w'=>∃i:Nat,i≤qn∧v=.int .i64 i∧Hp w (.blk b11 33 [.slice A42 m2 c42,.slice (some ⟨b45,0,none⟩) (aA ns) (aA ns)] (0,0)::.row (some ⟨b45,0,none⟩) (aA ns) (aA ns) 40 3 (aD NR.cells ((X0 ns.reverse (uj (S.take i))).map nR))::.row A42 m2 c42 3 1 (bQ D)::.blk b9 24 [.int .i64 qv,.slice qA qn qc] (0,0)::.row qA qn qc 80 4 (aD TR.cells S)::.blk b6 33 [.slice none 0 0,.slice none 0 0] (0,0)::.blk b3 24 [.int .i64 p.v,.slice p.A p.n p.c] (0,0)::R) w')
     (fun v _=>qn-(intOf v).toNat) ?_ ?_
    ·exact ⟨0,YD _,rfl,hh⟩
    ·clear hh;rintro ρ2 v w2 ⟨i,hi,rfl,hh⟩;by_cases hlt:i<qn
     ·obtain ⟨x,hx⟩:=ao (l:=S) (k:=i) Yv;have hxm:=YF hx;have hxo:=hsr x hxm;have hx2:=hSm x hxm;unfold eY at hx2;rw [YU,YY] at hx2;have hxs:x.m.size=n:=Yv;have hxz:=hso.sz x hxm;have hxc:x.c=nR x.c.d:=hSc.nf x hxm;have hex:jw x.m.data.toList=cf (cV x.m):=by rw [kJ hx2.1,mj]
      have hesl:(cV x.m).length=n:=by rw [k9];exact hxs
      have hel:(jw x.m.data.toList).length=n:=by rw [hex,q8];exact hesl
      have hset:=P6 hsr hSc.sO hx;have hX0l:((X0 ns.reverse (uj (S.take i))).map nR).length=aA ns:=by rw [YO];unfold X0;rw [mf,de]
      have hcell:aD TR.cells S=aD TR.cells S:=rfl;have hokat:∀(j d r:Nat),ns[j]?=some d→(cV x.m)[j]?=some r→r≤d:=fun j d r hd hr=>by
       have hj:=(YQ.1 hd).1;refine ((k6 _ _).1 hxo).2 (n-1-j) d r ?_ ?_
       ·rw [Z4 Yv,show ns.length-1-(n-1-j)=j by omega];exact hd
       ·rw [Z4 Yv,show (cV x.m).length-1-(n-1-j)=j by omega];exact hr
      obtain ⟨gq,rfl⟩:=hh.cK (i:=4) rfl Yv;refine sr ?_;refine eC ?_;refine gD ?_;refine cG (vs:=[_,_,_,_]) aU.out rfl (hh.iu (f:=TR.cells) (x:=x) (l:=S) (i:=4) rfl TR.len Yw hx) rfl Yw ?_;refine bW hh ?_;intro b13 w13 hh;refine bV hh 0 [_,_,_,_] ?_;intro ws hh;replace hh:Hp _ (.blk _ _ [_,_,_,_] _::_) _:=hh;refine aa (sr (aI (aa (ai (sr (bJ ?_))))));refine bG hh 0 ?_;refine aJ (iK x.m _ hxz) aw.out rfl Yw ?_;rintro e_ w56 ⟨A56,c56,rfl,hown_,hb_⟩;refine ⟨_,rfl, ?_⟩;replace hh:=hh.aY (x:=.row _ _ _ _ _ _) hb_ hown_;rw [hel,hex] at hh;rw [hel];refine aK (mI (aa (av ?_)));refine bC [14,15,16,58,59,60,61,62,63,64,65,66,67,68,69,70,71,72] 14 58
       (fun a v w'=>∃(j z:Nat),j≤n∧v=.int .i64 j∧a=.int .i64 z∧z=iI (ns.take j).reverse ((cV x.m).take j).reverse∧z<aA (ns.take j)∧Hp w (.row A56 n c56 3 1 (bQ (cf (cV x.m)))::.blk b13 80 [.string x.m,.bool x.c.neg,.string x.c.bj,.int .i64 x.c.e] (0,0)::.blk b11 33 [.slice A42 m2 c42,.slice (some ⟨b45,0,none⟩) (aA ns) (aA ns)] (0,0)::.row (some ⟨b45,0,none⟩) (aA ns) (aA ns) 40 3 (aD NR.cells ((X0 ns.reverse (uj (S.take i))).map nR))::.row A42 m2 c42 3 1 (bQ D)::.blk b9 24 [.int .i64 qv,.slice (some ⟨gq,0,none⟩) qn qc] (0,0)::.row (some ⟨gq,0,none⟩) qn qc 80 4 (aD TR.cells S)::.blk b6 33 [.slice none 0 0,.slice none 0 0] (0,0)::.blk b3 24 [.int .i64 p.v,.slice p.A p.n p.c] (0,0)::R) w')
       (fun _ v _=>n-(intOf v).toNat) ?_ ?_
      ·exact ⟨0,0,YD _,rfl,rfl,rfl,Nat.one_pos,hh⟩
      ·clear hh;rintro ρ3 a_ v w3 ⟨j,z,hj,rfl,rfl,hz,hz2,hh⟩;by_cases hjn:j<n
       ·obtain ⟨d,hd⟩:=ao (l:=ns) (k:=j) Yv;obtain ⟨r,hr⟩:=ao (l:=cV x.m) (k:=j) Yv;have hrd2:=hokat j d r hd hr;have hd7:=hlow d (YF hd);have hgD:(bQ D)[j]?=some (.int .i64 (d:Int)):=by rw [hnat];exact cL (iG hd)
        have hgE:=cL (iG hr);have hst:=MX hd hr;have hcs:=KR hd;rw [de,de] at hcs;rw [←hz] at hst;have hct:=j7 ns (j+1);have hnew:r+(d+1)*z<(d+1)*aA (ns.take j):=by
         have:(d+1)*(z+1)≤(d+1)*aA (ns.take j):=Zc _ hz2;rw [aad] at this;omega
        have hpr:(z:Int)*((d:Int)+1)=(((d+1)*z:Nat):Int):=by rw [Za,ZU,aaw];rfl
        have hDs:=hrd [_,_,_,_,_,_,_,_,_] _ hh;obtain ⟨ad,hMe,hsr2⟩:=hDs.at_ Yv;have il:Value.slice M2 m2 mc2=.slice (some ad) m2 mc2:=by rw [hMe]
        have hel2:(bQ (cf (cV x.m))).length=n:=by rw [cD,q8];exact hesl
        obtain ⟨gx,rfl⟩:=hh.cK (i:=0) rfl Yv;refine sr ?_;refine e9 ?_;refine nQ ?_;refine jY ?_;refine aI (aI (aa (ar (mI (mL (mI ?_))))));refine dm (k:=j) bo.out aU.size il rfl Yv Yv Yw ?_;refine cv aU.out rfl (hsr2.xv hgD) Yw ?_;refine bm ?_;refine mulC (mI ?_);refine bm (aI (aE (bM (aj (ar ?_)))));refine bm (mI (aE (aj ?_)));rw [hpr];refine ⟨⟨j+1,r+(d+1)*z,Yv,rfl, ?_,hst.symm,Yv,hh⟩,by show n-(j+1)<n-j;omega, ?_⟩
        ·show Value.int IntKind.i64 ((((d+1)*z:Nat):Int)+(r:Int))=_;rw [show (((d+1)*z:Nat):Int)+(r:Int)=((r+(d+1)*z:Nat):Int) by omega]
        ·exact dO
       ·obtain rfl:j=n:=Yv;rw [YG Yv,YG Yv] at hz;rw [YG Yv] at hz2;rw [←hz] at hset;generalize X0 ns.reverse (uj (S.take i))=X at*;have hrl:=eS NR.len (X.map nR);refine sr ?_;refine a8 (aa (ai (cF (a6 (aH (aH (bB (aj (ar (bJ ?_))))))))));refine bG hh 2 ?_;refine mI (bJ ?_);refine cC hh 1 [_,_,_] ?_;refine dn (k:=z) bo.out aU.size rfl rfl Yv Yv Yw ?_;refine cA hh (i:=3) (vs:=[_,_,_]) rfl rfl (gy rfl) rfl aU.out rfl Yv rfl ?_;intro ws hh;simp only [YM,Zg] at hh;rw [hxc,show cM (aD NR.cells (X.map nR)) (z*3) [.bool (nR x.c.d).neg,.string (nR x.c.d).bj,.int .i64 (nR x.c.d).e]=aD NR.cells ((X.map nR).set z (nR x.c.d)) from jZ NR.len Yv,←aa3,hset] at hh;refine gN ?_;refine bm (mI (aE (aj ?_)));replace hh:=hh.sub (YI _ (YI _ (YC _ (YC _ (YC _ (YC _ (YC _ (YC _ (YC _ (ZK _))))))))));refine ⟨⟨i+1,Yv,rfl,hh⟩,by show qn-(i+1)<qn-i;omega, ?_⟩;exact dO
     ·obtain rfl:i=qn:=Yv;rw [YG Yv,show X0 ns.reverse (uj S)=rp ns.reverse (uj S) 0 from rfl] at hh;have hoff:=ML hsr;have hXz:=MT (VX (ds:=ns.reverse) hso.ok) (fun d hd=>hlow d (aa0.1 hd));have hnr:ns.reverse.length=n:=by rw [Zs];omega
      refine sr ?_;refine a8 (aa (ai (cF (a6 (aH (aH (bB (aj (ai (sr (mL (aK (mI (aa (av ?_)))))))))))))));replace hh:=hh.sub (YC _ (YC _ (YC _ (YI _ (YI _ (YC _ (YC _ (ZK _))))))));refine aT [17,82,83,84,85,86,87,88,89,90,91,92] 82
       (fun v w'=>∃(j:Nat) (A:Option Addr) (ac:Nat),j≤n∧v=.int .i64 j∧Hp w (.blk b11 33 [.slice A42 m2 c42,.slice A (aA ns) ac] (0,0)::.row A (aA ns) ac 40 3 (aD NR.cells ((rp ns.reverse (uj S) j).map nR))::.row A42 m2 c42 3 1 (bQ D)::.blk b6 33 [.slice none 0 0,.slice none 0 0] (0,0)::.blk b3 24 [.int .i64 p.v,.slice p.A p.n p.c] (0,0)::R) w')
       (fun v _=>n-(intOf v).toNat) ?_ ?_
      ·exact ⟨0,_,_,YD _,rfl,hh⟩
      ·clear hh;rintro ρ4 v w4 ⟨j,A,ac,hj,rfl,hh⟩;by_cases hjn:j<n
       ·obtain ⟨d,hd⟩:=ao (l:=ns) (k:=j) Yv;have hd7:=hlow d (YF hd);have hrm:=Pr hd;have hol:(rp ns.reverse (uj S) j).length=aA ns:=by rw [CG,de]
        have hof:=fun w1 hs=>mU M2 m2 mc2 j d ns w1 (by rw [←hnat];exact hs) hmc2 Yv hd hlow hmost;have hcn:aA ns=aA ((ns.drop (j+1)).reverse++d::(ns.take j).reverse):=by rw [←hrm,de]
        have hli:=fun w1 hT1 hS1=>oB 50 (ns.drop (j+1)).reverse (ns.take j).reverse d (d+1) (lS d (fm d 1 1)) A (aA ns) ac (440000+S.length+520*j) (rp ns.reverse (uj S) j) w1 hT1 hS1 hcn hmost (YE _) hd7 (hXz j) (fun Y E ec w2 hT2 hy hs=>z6 E (d+1) ec d Y _ w2 hT2 hs rfl hd7 hy Yv) (fun Y _=>by simp [lS]);have hM:=LC (M:=fm d 1 1) (A:=(ns.drop (j+1)).reverse) (B:=(ns.take j).reverse) (X:=rp ns.reverse (uj S) j) (hol.trans hcn);have hsu:=td ns.reverse (uj S) j;have hgd:ns.reverse.getD (ns.reverse.length-1-j) 0=d:=by
         rw [Zo,Z4 Yv,show ns.length-1-(ns.reverse.length-1-j)=j by omega,hd]
         rfl
        rw [hgd,show ns.reverse.length-1-j=(ns.drop (j+1)).reverse.length by rw [Zs,Zs,ZM];omega] at hsu;rw [hol,←hrm,←hsu] at hM;rw [hM,de] at hli;clear hM hsu hgd hcn;refine sr ?_;refine a8 (aa (ai (cT (au (aj (ai (av (sr (mI (aI (aa ?_)))))))))));refine aW 5 [[(2,none)],[(17,none)],[(85,some 0),(86,some 1)],[(11,none)],[(88,some 3)]] [(4,89),(3,88),(2,87),(1,86),(0,85)] hh mixed Yx ?_;refine eQ ?_;refine cZ ?_;refine dC (fun _ hj=>hof _ (hrd [_,_,_,_,_] _ hj.hp)) ?_;refine cX ?_;refine dT 0 ?_;refine aM ?_;intro f W hJ hV;have hb_24:=hJ.bl;obtain ⟨v89,v88,v87,v86,v85,_⟩:=hV;replace hh:=hJ.hp;refine aQ (bg (ae v89 (ae v88 (ae v87 (ae v86 (ae v85 aR)))))) ?_;dsimp only [bO];clear hJ;refine aJ (hli _ (hT.hp hh) (hh.aG (i:=1) rfl)) aw.out rfl Yw ?_;rintro e_ w90 ⟨E,ec,rfl,h4⟩;refine ⟨_,rfl, ?_⟩;replace hh:=hh.join h4;clear h4;simp only [YJ,YH] at hh;refine bJ ?_;refine bV hh 1 [_] ?_;intro ws hh;replace hh:Hp _ (_::.blk _ _ [_,_] _::_) _:=hh;refine gN ?_;refine bm (mI (aE (aj ?_)))
        replace hh:=hh.sub (YC _ (YC _ (YI _ (YC _ (YC _ (YC _ (ZK _)))))));replace hh:=hh.perm (Zh (l₁:=[_]));simp only [YJ,YH] at hh;refine ⟨⟨j+1,E,ec,Yv,rfl,hh⟩,by show n-(j+1)<n-j;omega, ?_⟩;exact dO
       ·obtain rfl:j=n:=Yv;rw [hnl,hbl] at hoff;rw [hoff] at hh;refine sr ?_;refine oa ?_;refine cC hh 0 [_,_] ?_;refine bV hh 3 [_,_] ?_;intro ws hh;replace hh:Hp _ (_::_::_::.blk _ _ [_,_] _::_) _:=hh;refine aI (aa (ay ?_));refine C3 ?_;exact ⟨⟨A42,m2,c42,A,aA ns,ac,D,(Dw ns S).map nR⟩,⟨hnat,rfl,by show m2≤100000;omega,by show aA ns≤1000000;omega⟩,rfl,hh.sub (.cons _ (.cons_cons _ (.cons_cons _ (Zr _))))⟩
theorem pI:∀(s:List Nat) (ts:List Dyadic) (a:Nat) (t:Dyadic),s.length=ts.length→eU (s++[a]) (ts++[t])=eU s ts*t^a
 |[],[],a,t,_=>by show t^a*1=1*t^a;grind
 |[],_::_,_,_,h=>by cases h
 |_::_,[],_,_,h=>by cases h
 |b::s,u::ts,a,t,h=>by
  show u^b*eU (s++[a]) (ts++[t])=u^b*eU s ts*t^a;rw [pI s ts a t (by simpa using h)];grind
theorem BJ:∀(s:List Nat) (ts:List Dyadic),s.length=ts.length→eU s.reverse ts.reverse=eU s ts
 |[],[],_=>rfl
 |[],_::_,h=>by cases h
 |_::_,[],h=>by cases h
 |b::s,u::ts,h=>by
  rw [aaC,aaC,pI _ _ _ _ (by simpa using h),BJ s ts (by simpa using h),eU];grind
theorem Pq (f:ByteArray→Dyadic) (c:Dyadic) (l:List TR):wS f (l.map (nP c))=wS f l*c:=by
 induction l with
 |nil=>exact (Dyadic.zero_mul _).symm
 |cons t l ih=>
  rw [Y1,wS,wS,ih];show (nR (t.c.d*c)).d*f t.m+_=_;rw [cj];grind
theorem CE:∀(v i:Nat) (xs:List Dyadic),xs.length=v→i<v→eU (((List.replicate v 0).set i 1)) xs=(xs[i]?).getD 0
 |0,_,_,_,h=>absurd h (Nat.not_lt_zero _)
 |v+1,i,[],h,_=>by cases h
 |v+1,0,x::xs,h,_=>by
  show x^1*eU (List.replicate v 0) xs=x;rw [mG];grind
 |v+1,i+1,x::xs,h,hi=>by
  show x^0*eU ((List.replicate v 0).set i 1) xs=(xs[i]?).getD 0;rw [CE v i xs (by simpa using h) Yv,aaO];grind
theorem Mj (v i:Nat):cV (j3 v i)=(List.replicate v 0).set i 1:=by
 unfold cV j3;show ((((List.replicate (v:Int).toNat (0:UInt8)).set i 1).toArray).toList).map UInt8.toNat=_;rw [List.toList_toArray,aa3,List.map_replicate]
 rfl
theorem yR (v:Nat):cV (du v)=List.replicate v 0:=by
 unfold cV du;show (((List.replicate (v:Int).toNat (0:UInt8)).toArray).toList).map UInt8.toNat=_;rw [List.toList_toArray,List.map_replicate]
 rfl
def nq (b:List SR) (xs:List Dyadic):List Dyadic:=b.mapIdx fun i s=>s.L+(s.H-s.L)*(xs[i]?).getD 0
theorem yF (c k:Nat):∀ds:List Nat,gQ c ds k=k+ds.sum*c+ds.length*8192
 |[]=>by rw [sS];simp
 |d::ds=>by
  rw [qK,yF c k ds,List.sum_cons,YZ,aay,ZE];omega
variable {N:Nat}
theorem ye {v:Int}{a b:TR} (ha:eY v a=true) (hb:eY v b=true) (h:∀i,ie i a+ie i b≤127):ki a.m b.m=0:=by
 unfold eY at ha hb;rw [YU,YY] at ha hb;have hl:b.m.data.toList.length=a.m.data.toList.length:=by rw [←dP,←dP];omega
 unfold ki;rw [HM ha.1 hb.1 hl];rw [Y6];intro z hz;obtain ⟨i,hi⟩:=aaj.1 hz;rw [List.getElem?_zipWith] at hi
 cases hx:(ints a.m.data.toList)[i]? with
 |none=>rw [hx] at hi;cases hi
 |some x=>
  cases hy:(ints b.m.data.toList)[i]? with
  |none=>rw [hx,hy] at hi;cases hi
  |some y=>
   rw [hx,hy] at hi;have e:x+y=z:=Zl hi;unfold ints at hx hy;rw [YN] at hx hy;obtain ⟨c,hc,rfl⟩:=aao.1 hx;obtain ⟨d,hd,rfl⟩:=aao.1 hy;have:=h i;rw [ow hc,ow hd] at this;unfold cJ;rw [←e,YU,YY,YY];omega
theorem yr {v:Nat}{q p:List TR}{sub:List TR→Int×List TR}{j d N T:Nat}{E:Nat→Nat} (hv:v≤12) (hq:fj v q=0) (hqT:q.length≤T) (hqB:kG (fun x=>if x=j then 1 else 0) q) (hD:∀t∈p,ie j t≤d) (hE:E j=0) (hd:d≤127) (hE2:∀x,E x≤127)
  (hs:∀n,(sub (ck p j n)).1=0∧fj v (sub (ck p j n)).2=0∧kG E (sub (ck p j n)).2) (hN:aA ((List.range v).map fun x=>if x=j then d else E x)≤N) (hNT:N*T+N≤4096):
  ∀i,i≤128→(cI q sub p j i).1=0∧fj v (cI q sub p j i).2=0
 |0,_=>⟨rfl,(lr.nil (k:=0) (eW hv)).e⟩
 |i+1,hi=>by
  obtain ⟨h1,h2⟩:=yr hv hq hqT hqB hD hE hd hE2 hs hN hNT i Yv;have hb:=uX hqB hD hE (fun n _=>(hs n).2.2) i Yv h1;have hl:(cI q sub p j i).2.length≤N:=Y2 (BC h2 (hb.mono fun x=>by
   by_cases hx:x=j
   ·rw [YA hx,YA hx];omega
   ·rw [YB hx,YB hx];exact YE _)) hN
  have hls:∀n,(sub (ck p j n)).2.length≤N:=fun n=>Y2 (BC (hs n).2.1 ((hs n).2.2.mono fun x=>by
   by_cases hx:x=j
   ·rw [YA hx,hx,hE];exact YD _
   ·rw [YB hx];exact YE _)) hN
  obtain ⟨f1,f2,f3,f4⟩:=cB h2;obtain ⟨q1,q2,q3,q4⟩:=cB hq;have hpl:(cg (cI q sub p j i).2 q).length≤N*T:=by rw [md];exact ZV hl hqT
  have hpe:∀e∈rC (cI q sub p j i).2 q,e=0:=fun e he=>by
   by_cases hlow:i+d≤127
   ·rw [k7 hD i hlow] at he
    cases he
   ·obtain ⟨x,hx,he⟩:=aai.1 he;obtain ⟨y,hy,rfl⟩:=YR.1 he;refine ye (f3 x hx) (q3 y hy) fun r=> ?_;have a1:=hb x hx r;have a2:=hqB y hy r;have a3:=hE2 r;by_cases hr:r=j
    ·simp only [YA hr] at a1 a2;omega
    ·simp only [YB hr] at a1 a2;omega
  have htm:ep (cI q sub p j i).2 q=0:=by
   rw [rM (by rw [←md];omega) hpe,fB Yv]
  obtain ⟨s1,s2,s3⟩:=hs (127-i);have hgl:=bK (cg (cI q sub p j i).2 q);have hg:gF (aF (cg (cI q sub p j i).2 q)++(sub (ck p j (127-i))).2)=0:=fB (by rw [YK];have:=hls (127-i);omega);rw [mV];unfold jD;rw [YB (fun c=>c h1)];by_cases c1:(cI q sub p j i).2.length=0∧(ck p j (127-i)).length=0
  ·rw [YA c1];exact ⟨h1,h2⟩
  ·rw [YB c1,YB (fun c=>c htm),YB (fun c=>c s1),YB (fun c=>c hg)];refine ⟨rfl,eO (eW hv) (HP hg) fun t ht=>(Zb.1 ht).elim (qg (pg f3 hpe) t) ((cB s2).2.2.1 t)⟩
theorem Lj {f g:Nat→Nat} (l:List Nat) (h:∀x,f x≤g x):aA (l.map f)≤aA (l.map g):=by
 induction l with
 |nil=>exact YE _
 |cons x l ih=>exact ZV (Nat.succ_le_succ (h x)) ih
theorem Eb {v N T:Nat} (hv:v≤12) (D:Nat→Nat) (hD7:∀x,D x≤127) (hN:aA ((List.range v).map D)≤N) (hNT:N*T+N≤4096):∀(qs:List (List TR)) (j:Nat) (p:List TR),(∀(i:Nat) (q:List TR),qs[i]?=some q→fj v q=0∧q.length≤T∧kG (fun x=>if x=j+i then 1 else 0) q)→(∀t∈p,∀i,i<qs.length→ie (j+i) t≤D (j+i))→
  (gU v qs j p).1=0∧fj v (gU v qs j p).2=0
 |[],j,p,_,_=>⟨rfl,eO (eW hv) (Y2 (bK _) (by show 1≤4096;decide)) fun t ht=>by
   rw [YT.1 ht];unfold eY;rw [YU,YY];exact ⟨sP v,kM Yv⟩⟩
 |q::qs,j,p,hq,hp=>by
  obtain ⟨q1,q2,q3⟩:=hq 0 q rfl;rw [aab] at q3;have hpw:∀n,∀t∈ck p j n,∀i,i<qs.length→ie (j+1+i) t≤D (j+1+i):=fun n t ht i hi=>by
   have:=hp t (kZ t ht) (i+1) (by rw [YZ];omega);rwa [show j+1+i=j+(i+1) by omega]
  have hqs:∀(i:Nat) (r:List TR),qs[i]?=some r→fj v r=0∧r.length≤T∧kG (fun x=>if x=j+1+i then 1 else 0) r:=fun i r hr=>by
   have:=hq (i+1) r (by simpa using hr);rwa [show j+1+i=j+(i+1) by omega]
  have hs:∀n,(gU v qs (j+1) (ck p j n)).1=0∧fj v (gU v qs (j+1) (ck p j n)).2=0∧kG (fun x=>if j+1≤x∧x<j+1+qs.length then D x else 0) (gU v qs (j+1) (ck p j n)).2:=fun n=>by
   obtain ⟨a1,a2⟩:=Eb hv D hD7 hN hNT qs (j+1) (ck p j n) hqs (hpw n);exact ⟨a1,a2,H4 qs (j+1) (ck p j n) D (fun i r hr=>(hqs i r hr).2.2) (hpw n) a1⟩
  rw [yc];exact yr (d:=D j) (E:=fun x=>if j+1≤x∧x<j+1+qs.length then D x else 0) hv q1 q2 q3 (fun t ht=>hp t ht 0 (by rw [YZ];omega)) (by rw [YB Yv]) (hD7 j) (fun x=>by
   split
   ·exact hD7 x
   ·exact YD _) hs (Y2 (Lj _ fun x=>by
   by_cases hx:x=j
   ·rw [YA hx,hx];exact YE _
   ·rw [YB hx];split
    ·exact YE _
    ·exact YD _) hN) hNT 128 (YE _)
theorem Jr {p:PX}{ls:List PX}{v T:Nat} (hv:v≤12) (h0:p.e=0) (hpv:p.v=(ls.length:Int)) (hn:0<ls.length) (hl:ds.length=v) (hlv:ls.length=v) (hls:∀(i:Nat) (g:PX),ls[i]?=some g→g.v=(v:Int)∧fj v g.ts=0∧g.ts.length≤T∧kG (fun x=>if x=i then 1 else 0) g.ts)
  (hd:∀(i d:Nat),ds[i]?=some d→d≤127∧∀t∈p.ts,ie i t≤d) (hN:aA ds≤N) (hNT:N*T+N≤4096):(eH p ls).1=0∧fj v (eH p ls).2=0:=by
 have hne:ls≠[]:=fun e=>by rw [e] at hn;exact absurd hn Yw
 have hmem:∀g∈ls,g.v=(v:Int)∧fj v g.ts=0:=fun g hg=>by
  obtain ⟨i,hi⟩:=aaj.1 hg;exact ⟨(hls i g hi).1,(hls i g hi).2.1⟩
 have hlk:eE ls=0:=yK (v:=v) hne (fun g hg=>by unfold PX.e;rw [(hmem g hg).1];exact (hmem g hg).2) fun g hg=>(hmem g hg).1;have hhv:fI ls=v:=by
  obtain ⟨g,hg⟩:=ao (l:=ls) (k:=0) hn;rw [jV hg];exact (hls 0 g hg).1
 unfold eH;rw [YB (fun c=>c h0),YB Yv,YB (fun c=>c.2 hlk),hhv];have hDD:∀i,ds.getD i 0≤127:=fun i=>by
  rw [Zo]
  cases h:ds[i]? with
  |none=>exact YD _
  |some d=>exact (hd i d h).1
 have hDm:(List.range v).map (fun i=>ds.getD i 0)=ds:=by
  refine ZN fun i=> ?_;rw [YN];by_cases hi:i<v
  ·obtain ⟨d,hdd⟩:=ao (l:=ds) (k:=i) Yv;rw [Zx hi,hdd];show some (ds.getD i 0)=some d;rw [Zo,hdd]
   rfl
  ·rw [Y7 (by rw [aav];omega),Y7 Yv]
   rfl
 refine Eb hv (fun i=>ds.getD i 0) hDD (by rw [hDm];exact hN) hNT (ls.map PX.ts) 0 p.ts (fun i q hq=> ?_) fun t ht i hi=> ?_
 ·rw [YN] at hq;obtain ⟨g,hg,rfl⟩:=aao.1 hq;rw [Y0];exact (hls i g hg).2
 ·rw [YO] at hi;rw [Y0];obtain ⟨d,hdd⟩:=ao (l:=ds) (k:=i) Yv;rw [Zo,hdd];exact (hd i d hdd).2 t ht
variable {M:List Nat}{b:Nat}{w w' w0:World}
section
variable {P:Program}{N:Nat}{Q:Kd}{ρ:Rf}{w:World}
theorem WD.mono {c:Code}{Q':Kd} (h:WD P N c Q ρ w) (hq:∀e M ρ w,Q e M ρ w→Q' e M ρ w):WD P N c Q' ρ w:=
 ⟨fun M a hf n=>wpIn_mono (h.out M a hf n) fun e a' w' ⟨M',ρ',hf',hk⟩=>⟨M',ρ',hf',hq e M' ρ' w' hk⟩⟩
theorem Nj {c:Code} (mods:List Nat) (s0 s1:Nat) (I:List Nat→Value→Value→World→Prop) (μ:Value→Value→World→Nat) (h0:I [] (ρ s0) (ρ s1) w)
  (round:∀M ρ' v0 v1 w',I M v0 v1 w'→WD P N c (fun e M2 ρ2 w2=>As (fun M3 ρ2 w2=>I M3 (ρ2 s0) (ρ2 s1) w2∧μ (ρ2 s0) (ρ2 s1) w2<μ v0 v1 w'∧jE mods ρ2 ρ) Q e (M2++M) ρ2 w2) (cY (cY (mask mods ρ' ρ) s0 v0) s1 v1) w'):WD P N (.loop c) Q ρ w:=
 OD (fun M ρ1 w1=>I M (ρ1 s0) (ρ1 s1) w1∧jE mods ρ1 ρ) (fun ρ1 w1=>μ (ρ1 s0) (ρ1 s1) w1) ⟨h0,fun _ _=>rfl⟩ fun M ρ1 w1 ⟨hi,ha⟩=>by
  have h:=round M ρ1 (ρ1 s0) (ρ1 s1) w1 hi;rw [jI ha,iy,iy] at h;exact h.mono fun e M2 ρ2 w2 hq=>by
   cases e with
   |normal=>exact ⟨⟨hq.1,hq.2.2⟩,hq.2.1⟩
   |_=>exact hq
theorem Us {id:Nat}{next:List Nat→Rf→World→Prop} (h:next M ρ w):Kj (vB M (NF id (As next Q))) .normal ρ w:=h
theorem Kl {M0:List Nat}{next:List Nat→Rf→World→Prop} (h:next (M++M0) ρ w):Kj (vB M (fun e M2 ρ2 w2=>As next Q e (M2++M0) ρ2 w2)) .normal ρ w:=h
theorem O1 {M0:List Nat}{id:Nat}{next next':List Nat→Rf→World→Prop} (h:next' M0 ρ w):Kj (fun e M2 ρ2 w2=>As next (NF id (As next' Q)) e (M2++M0) ρ2 w2) (.exit id) ρ w:=by
 show if id=id then As next' Q .normal ([]++M0) ρ w else As next' Q (.exit id) ([]++M0) ρ w
 rw [YA rfl];exact h
end
structure Marks (w0:World) (M:List Nat) (w:World):Prop where
 at_:∀D∈M,w0.heap.size≤D∧w.heap[D]?=some (.deferred (some []))
 nd:M.Nodup
theorem H3 (M:List Nat):(qU M).filterMap HE.id=M:=by
 induction M with
 |nil=>rfl
 |cons D M ih=>rw [show qU (D::M)=.ob D (.deferred (some []))::qU M from rfl,aap,show HE.id (.ob D (.deferred (some [])))=some D from rfl];simp only [ih]
theorem Hp.marks {H:List HE} (h:Hp w0 (H++qU M) w):Marks w0 M w:=by
 refine ⟨fun D hD=>h.own (.ob D (.deferred (some []))) (Z5 _ (List.mem_map_of_mem (f:=fun D=>HE.ob D (.deferred (some []))) hD)), ?_⟩;have:=h.nd;rw [aa1,H3] at this;exact (abm.1 this).2.1
theorem Hp.TM {H:List HE} (h:Hp w0 H w) (hc:∀x∈H,x.Uv=true) (hm:Marks w0 M w):Hp w0 (H++qU M) w:=by
 refine ⟨h.below,fun x hx=> ?_, ?_⟩
 ·rcases Zb.1 hx with hx|hx
  ·exact h.own x hx
  ·obtain ⟨D,hD,rfl⟩:=YR.1 hx;exact hm.at_ D hD
 ·rw [aa1,H3];refine abm.2 ⟨h.nd,hm.nd,fun a ha b hb e=> ?_⟩;subst e;obtain ⟨y,hy,hyb⟩:=ZJ.1 ha;obtain ⟨o',h2,h3⟩:=u4 (h.own y hy) (hc y hy) hyb;rw [(hm.at_ a hb).2] at h2
  cases h2
  cases h3
theorem Marks.keeps (h:Marks w0 M w) (hk:KeepsOthers w w'):Marks w0 M w':=⟨fun D hD=>⟨(h.at_ D hD).1,hk.2 D _ (h.at_ D hD).2 rfl⟩,h.nd⟩
theorem Marks.grown {ws:World} (h:Marks w0 M w) (hlt:∀D∈M,D<ws.heap.size) {row:Option Nat} (hg:w.grownBy w' row) (hr:∀r,row=some r→ws.heap.size≤r):Marks w0 M w':=by
 refine ⟨fun D hD=>⟨(h.at_ D hD).1, ?_⟩,h.nd⟩;have h1:=(h.at_ D hD).2;refine (hg.block D (abo.1 h1).1 fun e=> ?_).trans h1;have:=hr D e.symm;have:=hlt D hD;omega
theorem Marks.lt (h:Marks w0 M w):∀D∈M,D<w.heap.size:=fun D hD=>(abo.1 (h.at_ D hD).2).1
theorem Marks.cons {ws:World}{D:Nat} (h:Marks w0 M w) (hlt:∀D∈M,D<ws.heap.size) (h0:w0.heap.size≤ws.heap.size) (hD:ws.heap.size≤D) (h1:w.heap[D]?=some (.deferred (some []))):Marks w0 (D::M) w:=by
 refine ⟨fun E hE=> ?_,aar.2 ⟨fun hm=> ?_,h.nd⟩⟩
 ·rcases YS.1 hE with rfl|hE
  ·exact ⟨Yv,h1⟩
  ·exact h.at_ E hE
 ·have:=hlt D hm;omega
theorem Hp.Ts {L:List HE} (h:Hp w0 L w) (hs:(qU M).Sublist L):Marks w0 M w:=Hp.marks (H:=[]) (h.sub hs)
theorem Hp.Ty {x y:HE}{T T':List HE} (hs:Hp w0 (x::T) w) (hc:∀z∈x::T,z.Uv=true) (he:Hp w0 (y::(T'++FD w0.heap.size ((x::T).filterMap HE.id) w)) w') (hid:T'.filterMap HE.id=T.filterMap HE.id) (hy:y.id=some b):KeepsOthers w w':=by
 have hoth:∀k,k<w.heap.size→w0.heap.size≤k→k∉(x::T).filterMap HE.id→∃o,w.heap[k]?=some o∧HE.ob k o∈FD w0.heap.size ((x::T).filterMap HE.id) w:=fun k hk h0 hm=>⟨w.heap[k],aaQ hk,ZJ.2 ⟨k,ZA.2 hk,by
  unfold P7;rw [YA ⟨h0,by simpa using hm⟩,aaQ hk]
  rfl⟩⟩
 have hob:∀z∈FD w0.heap.size ((x::T).filterMap HE.id) w,z∈y::(T'++FD w0.heap.size ((x::T).filterMap HE.id) w):=fun z hz=>YP _ (Z5 _ hz);have hbl:=eA (he.own y YL) hy;have hnd:=he.nd;rw [aap,hy] at hnd;have hnd1:=(aar.1 hnd).1;refine ⟨?_,fun k o h1 h2=> ?_⟩
 ·rcases aak w.heap.size with h|h
  ·omega
  ·have hk:w.heap.size-1<w.heap.size:=Yv;by_cases h0:w.heap.size-1<w0.heap.size
   ·have:=he.size;omega
   ·by_cases hm:w.heap.size-1∈(x::T).filterMap HE.id
    ·rw [aap] at hm;have hT:w.heap.size-1∈T.filterMap HE.id→w.heap.size≤w'.heap.size:=fun hm=>by
      obtain ⟨z,hz,hzb⟩:=ZJ.1 (hid ▸ hm);have:=(eA (he.own z (YP _ (aan _ hz))) hzb).2;omega
     split at hm
     ·exact hT hm
     ·rename_i r hr
      rcases YS.1 hm with e|hm
      ·by_cases hb:b<w.heap.size
       ·by_cases hbk:b=w.heap.size-1
        ·omega
        ·exfalso;by_cases hbm:b∈(x::T).filterMap HE.id
         ·rw [aap,hr] at hbm
          rcases YS.1 hbm with e2|hbm
          ·omega
          ·rw [←hid] at hbm;exact hnd1 (by rw [aa1];exact aan _ hbm)
         ·obtain ⟨o,_,h3⟩:=hoth b hb hbl.1 hbm;exact hnd1 (by rw [aa1];exact Z5 _ (ZJ.2 ⟨_,h3,rfl⟩))
       ·omega
      ·exact hT hm
    ·obtain ⟨o,_,h3⟩:=hoth _ hk Yv hm;have:=(eA (he.own _ (hob _ h3)) rfl).2;omega
 ·have hk:=(abo.1 h1).1;by_cases h0:k<w0.heap.size
  ·exact (he.below.block k h0).trans ((hs.below.block k h0).symm.trans h1)
  ·by_cases hm:k∈(x::T).filterMap HE.id
   ·obtain ⟨z,hz,hzb⟩:=ZJ.1 hm;obtain ⟨o',h3,h4⟩:=u4 (hs.own z hz) (hc z hz) hzb;rw [h1] at h3
    cases h3
    rw [h2] at h4
    cases h4
   ·obtain ⟨o',h3,h4⟩:=hoth k hk Yv hm;rw [h1] at h3
    cases h3
    exact (he.own _ (hob _ h4)).2
variable {k q:Nat}
def mO (d:Nat) (t:Dyadic) (xs:List Dyadic) (i:Nat):Dyadic:=sm (List.range i) fun r=>iX xs r*ke d r t
theorem IU (d:Nat) (t:Dyadic) (xs:List Dyadic) (i:Nat):mO d t xs (i+1)=mO d t xs i+iX xs i*ke d i t:=by
 unfold mO;rw [aas,jo]
theorem At {d i:Nat}{t:Dyadic} (hx:∀x∈xs,Sz k x) (ht:Sz q t) (ht1:Sz q (1-t)) (hi:i≤d+1):Sz (k+(2+2*(q*d))+i) (mO d t xs i):=by
 have h2:=Cr (l:=List.range i) (f:=fun r=>iX xs r*ke d r t) (k:=k+(2+2*(q*d))) fun r hr=>by
  have hr:=ZA.1 hr;unfold ke;exact ((Aa hx r).mul ((ht.CF (show r≤d by omega)).mul (ht1.CF (show d-r≤d by omega)))).mono Yv
 rw [aav] at h2;exact h2
theorem xN (tn:NR) (t:Dyadic) (bt bl:Addr) (L:Option Addr) (n c d:Nat) (xs:List Dyadic) (k q:Nat) (w:World) (hT:e8 w) (hS:Sl w L n 3 (aD NR.cells (xs.map nR))) (hn:n=d+1) (hd:d≤127) (hx:∀x∈xs,Sz k x) (vt:OZ q tn t) (ht1:Sz q (1-t))
  (hb1:Rd w bt [.bool tn.neg,.string tn.bj,.int .i64 tn.e]) (hb2:Rd w bl [.bool (nR (1-t)).neg,.string (nR (1-t)).bj,.int .i64 (nR (1-t)).e]) (hk:k≤500000) (hq:q≤2000):
  Calls Tryz.prog 107 #[.slice L n c,.pointer (some bt),.pointer (some bl)] w fun r w'=>r=.returned (.agg #[.bool (nR (mO d t xs (d+1))).neg,.string (nR (mO d t xs (d+1))).bj,.int .i64 (nR (mO d t xs (d+1))).e])∧Below w.heap.size w w':=by
 have hh:=Hp.start w;have hln:xs.length=n:=by have:=hS.bh NR.len Yw;simpa using this
 have hqd:q*d≤2000*127:=ZV hq hd;have ht:=vt.sz;have hpw:∀(sn:NR) (z:Dyadic),OZ q sn z→∀(i:Nat),i≤d→∀w1,e8 w1→Calls Tryz.prog 88 #[.agg #[.bool sn.neg,.string sn.bj,.int .i64 sn.e],.int .i64 (i:Int)] w1 fun r w'=>r=.returned (.agg #[.bool (nR (z^i)).neg,.string (nR (z^i)).bj,.int .i64 (nR (z^i)).e])∧Below w1.heap.size w1 w':=fun sn z hz i hi w1 hT1=>by
  have h1:=hz.bj;have h2:i*sn.bj.size≤127*2001:=ZV Yv Yv;have:=wD sn i w1 hT1 hz.ok (by rw [ZL];omega) Yv;rwa [hz.d,ZL] at this
 obtain ⟨ad,rfl,hr⟩:=hS.at_ Yv;refine ak (N:=35) (l:=[.slice (some ad) n c,.pointer (some bt),.pointer (some bl)]) Tryz.func107 rfl rfl (by simp) ?_;refine sr ?_;refine bW hh ?_;intro b4 w4 hh;refine aa (sr (mL (aK ?_)));refine eP (aI (aa (sr ?_)));refine bW hh ?_;intro b6 w6 hh;refine yS ?_;refine aT [7,8,14,15,16,17,18,19,20,21,22,23,24,25,26,27,28,29,30,31,32,33] 14
  (fun v w'=>∃i:Nat,i≤n∧v=.int .i64 i∧Hp w [.blk b6 40 [.bool (nR (mO d t xs i)).neg,.string (nR (mO d t xs i)).bj,.int .i64 (nR (mO d t xs i)).e] (0,0),.blk b4 40 [.bool false,.string (ByteArray.mk #[]),.int .i64 0] (0,0)] w')
  (fun v _=>n-(intOf v).toNat) ?_ ?_
 ·exact ⟨0,YD _,rfl,hh⟩
 ·clear hh;rintro ρ' v w' ⟨i,hi,rfl,hh⟩;by_cases hlt:i<n
  ·obtain ⟨x,hxi⟩:=ao (l:=xs) (k:=i) Yv;have hxn:(xs.map nR)[i]?=some (nR x):=by rw [YN,hxi];rfl
   have hat:iX xs i=x:=by unfold iX;rw [hxi];rfl
   have zx:=hx x (YF hxi);have hpa:=hpw tn t vt i Yv;have hpb:=hpw (nR (1-t)) (1-t) (OZ.of ht1 hq) (d-i) Yv;have zp:=ht.CF (show i≤d by omega);have zq:=ht1.CF (show d-i≤d by omega);have zo:=At (d:=d) (i:=i) hx ht ht1 Yv;have zy:=(zx.mul zp).mul zq;have hst:=IU d t xs i;unfold ke at hst;rw [hat,←Dyadic.mul_assoc] at hst;have hm3:=fun A cc w1 hT1 hS1=>fS A 3 cc [nR x,nR (t^i),nR ((1-t)^(d-i))] w1 hT1 hS1 (by simpa using ⟨zx.ok Yv,zp.ok Yv,zq.ok Yv⟩) 600000 (by simpa [cj] using ⟨zx.mono Yv,zp.mono Yv,zq.mono Yv⟩) Yv Yv;rw [show iZ ([nR x,nR (t^i),nR ((1-t)^(d-i))].map NR.d)=x*t^i*(1-t)^(d-i) by simp only [Y1,Zp,cj];show 1*x*_*_=_;rw [aaJ]] at hm3;generalize x*t^i*(1-t)^(d-i)=y at*;have hsum:=fun A cc w1 hT1 hS1=>jM A 2 cc [nR (mO d t xs i),nR y] w1 hT1 hS1 (by simpa using ⟨zo.ok Yv,zy.ok Yv⟩) 2000000 (by simpa [cj] using ⟨zo.mono Yv,zy.mono Yv⟩) Yv;rw [show oK ([nR (mO d t xs i),nR y].map NR.d)=mO d t xs i+y by simp only [Y1,Zp,cj,mA],←hst] at hsum;generalize hS2:mO d t xs (i+1)=S2 at*
   generalize mO d t xs i=S1 at*;have e27:(n:Int)-1-(i:Int)=((d-i:Nat):Int):=Yv;refine sr ?_;refine e9 ?_;refine gg ?_;refine LL ?_;refine bW hh ?_;intro b8 w8 hh;refine aI ?_;refine bV hh 0 [_,_,_] ?_;intro ws hh;replace hh:Hp _ (.blk _ _ [_,_,_] _::_) _:=hh;refine aa ?_;rw [←e27] at hpb;refine aW 12 [[(6,none)],[(8,none)],[(1,none)],[(7,none)],[(21,some 2),(22,some 3)],[(2,none)],[(5,none)],[(7,none)],[(25,some 6),(26,some 7)],[(24,some 5),(27,some 8)],[(20,some 1),(23,some 4),(28,some 9)],[(29,some 10)]] [(11,30),(10,29),(9,28),(8,27),(7,26),(6,25),(5,24),(4,23),(3,22),(2,21),(1,20),(0,19)] hh mixed Yx ?_;refine ef 1 [_,_,_] ?_;refine ef 0 [_,_,_] ?_;refine nF [_,_,_] (fun _ hj=>hb1.ext hj.hp.below) ?_;refine cZ ?_;refine dC (fun _ hj=>hpa _ (hT.hp hj.hp)) ?_;refine nF [_,_,_] (fun _ hj=>hb2.ext hj.hp.below) ?_;refine cZ ?_;refine cZ ?_;refine qE ?_;refine dC (fun _ hj=>hpb _ (hT.hp hj.hp)) ?_;refine pL [_,_,_,_,_,_,_,_,_] ?_;refine aO (i:=11) (Is (.agg #[.bool (nR y).neg,.string (nR y).bj,.int .i64 (nR y).e])) Is.ext ?_ ?_
   ·intro ρ1 w1 hj hR;obtain ⟨A29,c29,h29,s29⟩:=hR.1;exact bk rfl (aV aw.out (az h29 bf)) (hm3 A29 c29 _ (hT.hp hj.hp) s29) (fun _ _ hq=>⟨_,hq.1,hq.2,rfl⟩)
   refine aM ?_;intro f W hJ hV;have hb_6:=hJ.bl;obtain ⟨v30,v29,v28,v27,v26,v25,v24,v23,v22,v21,v20,v19,_⟩:=hV;obtain ⟨A29,c29,e29,f29⟩:Rows _ _ _ (f 10) W:=v29;replace hh:=hJ.hp;refine aQ (bg (ae v30 (ae e29 (ae v28 (ae v27 (ae v26 (ae v25 (ae v24 (ae v23 (ae v22 (ae v21 (ae v20 (ae v19 aR))))))))))))) ?_;dsimp only [bO];clear e29 hJ;refine zA ?_;intro b31 w31 hh;refine bA hh (hsum _ _ _ (hT.hp hh) (hh.aG (i:=0) rfl)) rfl ?_;intro w32 hh;refine bV hh 2 [_,_,_] ?_;intro ws hh;replace hh:Hp _ (_::_::.blk _ _ [_,_,_] _::_) _:=hh;refine gN ?_;refine bm (mI (aE (aj ?_)));replace hh:=hh.sub (YI _ (YI _ (YC _ (YC _ Y5))));refine ⟨⟨i+1,Yv,rfl,by rw [hS2];exact hh⟩,by show n-(i+1)<n-i;omega, ?_⟩;exact dO
  ·obtain rfl:i=n:=Yv;rw [show i=d+1 from hn] at hh;refine sr ?_;refine oa ?_;refine cC hh 0 [_,_,_] ?_;exact Uj
theorem Be (tn:NR) (t:Dyadic) (q:Nat) (w:World) (hT:e8 w) (vt:OZ q tn t) (hq:q≤2000):
  Calls Tryz.prog 51 #[.agg #[.bool tn.neg,.string tn.bj,.int .i64 tn.e]] w fun r w'=>∃b1 b3,r=.returned (.func (.func 107) #[] #[.pointer (some ⟨b1,0,none⟩),.pointer (some ⟨b3,0,none⟩)])∧Hp w [.blk b3 40 [.bool (nR (1-t)).neg,.string (nR (1-t)).bj,.int .i64 (nR (1-t)).e] (0,0),.blk b1 40 [.bool tn.neg,.string tn.bj,.int .i64 tn.e] (0,0)] w':=by
 have hh:=Hp.start w;have hof:∀w1,e8 w1→Calls Tryz.prog 17 #[.int .i64 1] w1 fun r w'=>r=.returned (.agg #[.bool (nR (1:Dyadic)).neg,.string (nR (1:Dyadic)).bj,.int .i64 (nR (1:Dyadic)).e])∧Below w1.heap.size w1 w':=fun w1 hT1=>mF 1 w1 hT1 Yw Yw;have hsb:=fun w1 hT1=>na (nR (1:Dyadic)) tn w1 hT1 (Sz.one.ok Yv) vt.ok (q+1) (by rw [cj];exact Sz.one.mono Yv) (by rw [vt.d];exact vt.sz.mono Yv) Yv;simp only [cj,vt.d] at hsb;refine ak (N:=8) (l:=[.agg #[.bool tn.neg,.string tn.bj,.int .i64 tn.e]]) Tryz.func51 rfl rfl (by simp) ?_;refine sr ?_;refine cu hh [_,_,_] ?_;intro b1 w1 hh;refine la (by first|exact uu rfl|exact uP rfl) Yw ?_;refine aa (ai ?_);refine aW 4 [[],[(1,none)],[(4,some 0),(5,some 1)],[]] [(3,3),(2,6),(1,5),(0,4)] hh mixed Yx ?_;refine dC (fun _ hj=>hof _ (hT.hp hj.hp)) ?_;refine ef 0 [_,_,_] ?_;refine dC (fun _ hj=>hsb _ (hT.hp hj.hp)) ?_;refine aO (i:=3) (cS _ 40 _) cS.ext (fun ρ1 w1 hj hR=>gP aU.out hj.bl (fun v w2 h hb=>⟨hb,h⟩)) ?_;refine aM ?_;intro f W hJ hV;have hb_1:=hJ.bl;obtain ⟨v3,v6,v5,v4,_⟩:=hV;obtain ⟨b3,e3,hl3,hc3⟩:cS _ _ _ (f 3) W:=v3;replace hh:=hJ.newVar hh hl3 hc3
 refine aQ (bg (ae e3 (ae v6 (ae v5 (ae v4 aR))))) ?_;dsimp only [bO];clear e3 hJ;refine bV hh 0 [_,_,_] ?_;intro ws hh;replace hh:Hp _ (.blk _ _ [_,_,_] _::_) _:=hh;refine aa (sr ?_);exact UL
variable {X:List Dyadic}{ad:Addr}{m:Nat}
theorem Sl.part {l:List NR} (h:Sl w (some ad) n 3 (aD NR.cells l)) (p m:Nat) (hpm:p+m≤n) (hm:0<m):Sl w (some (ad.add (p*3))) m 3 (aD NR.cells ((l.drop p).take m)):=by
 have hl:=h.bh NR.len Yw;obtain ⟨ad',e,r⟩:=h.2 Yv;obtain rfl:ad=ad':=Zl e;refine ⟨by rw [eS NR.len,YW,ZM,hl,ZB Yv],fun _=>⟨_,rfl,fun j u hu=> ?_⟩⟩;rw [kz];refine r (p*3+j) u ?_;rw [←jO NR.len,←hZ NR.len,Z9] at hu;split at hu
 ·rw [Z6] at hu;exact hu
 ·cases hu
def nT (K q:Nat) (X:List Dyadic):List Dyadic:=(X.drop (q*K)).take K
theorem yn (K q:Nat) (X:List Dyadic):((X.map nR).drop (q*K)).take K=(nT K q X).map nR:=by unfold nT;rw [abj,aa7]
theorem sF {K:Nat}{x:Dyadic} (h:x∈nT K q X):x∈X:=abC (aau h)
theorem zm {d:Nat} (t:Dyadic) (X:List Dyadic):mO d t (nT (d+1) q X) (d+1)=sm (List.range (d+1)) fun r=>(X[r+(d+1)*q]?).getD 0*ke d r t:=by
 unfold mO;refine bY fun r hr=> ?_;have hr:=ZA.1 hr;unfold iX nT;rw [Z9,YA hr,Z6,show q*(d+1)+r=r+(d+1)*q by rw [Za];omega]
theorem KU {d:Nat} (t:Dyadic) (X:List Dyadic) (h:q<m):(mH d t m X)[q]?=some (mO d t (nT (d+1) q X) (d+1)):=by
 unfold mH;rw [YN,Zx h,zm]
 rfl
theorem M7 {d:Nat}{t:Dyadic} (hx:∀x∈X,Sz k x) (ht:Sz q t) (ht1:Sz q (1-t)):∀x∈mH d t m X,Sz (k+(2+2*(q*d))+(d+1)) x:=fun x h=>by
 obtain ⟨p,_,rfl⟩:=YR.1 h;rw [←zm];exact At (fun y hy=>hx y (sF hy)) ht ht1 (YE _)
theorem F9 {ns:List Nat}{ts:List Dyadic}{i d:Nat}{t:Dyadic} (X:List Dyadic) (hd:ns[i]?=some d) (ht:ts[i]?=some t):qe (ns.take (i+1)).reverse (ts.take (i+1)).reverse X=qe (ns.take i).reverse (ts.take i).reverse (mH d t (aA (ns.take i)) X):=by
 rw [aC hd,aC ht,List.reverse_append,List.reverse_append];show qe (d::(ns.take i).reverse) (t::(ts.take i).reverse) X=_;rw [qe,de]
def uI (fx:FX) (m:Nat):Int:=if fx.e≠0 then fx.e else if m≠fx.n then 1 else 0
def yl (fx:FX) (tn:List NR):Dyadic:=if uI fx tn.length=0 then nB fx.ns.reverse (fx.cs.map NR.d) (tn.map NR.d).reverse else 0
variable {fuel:Nat}{next:Rf→World→Prop}{rs:List Nat}
section
variable {P:Program}{N:Nat}{Q:Kq}{ρ:Rf}{w:World}{ro:Option Nat}{D:List Deferred}
structure WR (ro:Option Nat) (D:List Deferred) (P:Program) (N:Nat) (ops:Array Oper) (Q:Kq) (fuel:Nat) (L:Array Bool) (ρ:Rf) (w:World):Prop where
 out:∀a,fi N D a ρ→∀n,wpAnyIn (FW ro) n P .any ops (ea N D Q) fuel L a w
theorem Bk {F:Fence}{o:Oper}{a:Act}{K:Act→World→Prop}{r:Result Next} (h:o.uponIn F n P a K (ea N D (cU next Q)) r):o.uponIn F n P a K (ea N D Q) r:=by
 have hp:∀c a w,ea N D (cU next Q) (.panic c) a w→ea N D Q (.panic c) a w:=fun _ _ _ h=>h;have ho:LetsOut (ea N D (cU next Q))→LetsOut (ea N D Q):=fun ⟨a,w,h⟩=>⟨a,w,h⟩
 cases r with
 |ok n w'=>
  cases n<;>simp only [Oper.uponIn] at h ⊢ <;>first
   |exact h
   |exact ⟨h.1,CallsIn.mono h.2 (fun e w'' he=>by cases e<;>first|exact he|exact hp _ _ _ he|exact ho he)⟩
   |exact ⟨h.1,RoundIn.mono h.2 (fun e w'' he=>by cases e<;>first|exact he|exact hp _ _ _ he|exact ho he)⟩
 |halt x w'=>cases x<;>simp only [Oper.uponIn] at h ⊢ <;>first|exact h|exact hp _ _ _ h|exact ho h
theorem Ba {L:Array Bool} (hr:Region.ready .any ops L=rs) (hne:rs≠[])
  (h:∀i∈rs,∃o,ops[i]?=some o∧WL ⟨ro,D,true⟩ P N ops (cU (fun ρ w=>WR ro D P N ops Q fuel (L.setIfInBounds i true) ρ w) Q) [o] ρ w):WR ro D P N ops Q (fuel+1) L ρ w:=by
 refine ⟨fun a hf n=>⟨fun e=>absurd (hr.symm.trans e) hne,fun i hi=> ?_⟩⟩;rw [hr] at hi;obtain ⟨o,ho,hw⟩:=h i hi;have h1:=hw.kr a hf n;have hK:∀a w,wpListIn (FW ro) n P ops (ea N D (cU (fun ρ w=>WR ro D P N ops Q fuel (L.setIfInBounds i true) ρ w) Q)) [] a w→wpAnyIn (FW ro) n P .any ops (ea N D Q) fuel (L.setIfInBounds i true) a w:=fun a w ⟨ρ',hf',hq⟩=>by
  have hq':WR ro D P N ops Q fuel (L.setIfInBounds i true) ρ' w:=hq;exact hq'.out a hf' n
 unfold wpOpIn;rw [ho];simp only [];unfold wpListIn at h1;split at h1
 ·rename_i hwt;rw [YA hwt];have h2:=Oper.wpIn_mono hK h1;unfold Oper.wpIn at h2 ⊢;exact ⟨h2.1,Bk h2.2⟩
 ·rename_i hwt;rw [YB hwt];exact ⟨h1.1,hK _ _ h1.2⟩
theorem TZ {L:Array Bool} (hr:Region.ready .any ops L=[]) (h:Q .normal ρ w):WR ro D P N ops Q fuel L ρ w:=
 ⟨fun a hf n=>by
  cases fuel with
  |zero=>exact ⟨hr,ρ,hf,h⟩
  |succ fuel=>exact ⟨fun _=>⟨ρ,hf,h⟩,fun i hi=>by rw [hr] at hi;cases hi⟩⟩
theorem MM {id:Nat}{l:List Oper}{H:List HE} (hh:Hp w0 H w) (hm:P.follows .mixedOrders=true) (h:∀w',JJ w0 H w w'→WR ro D P N l.toArray Q l.length (Array.replicate l.length false) ρ w'):WC ⟨ro,D,true⟩ P N (.region id l.toArray true) Q ρ w:=by
 refine ⟨fun h=>(by cases h),fun a hf n=>wpIn_region_any hm ?_⟩;have hb:Below w.heap.size w ({ w with drawn:=w.drawn+1 }:World):=⟨rfl,rfl,rfl,YE _,fun _ _=>rfl⟩;have:=(h _ ((JJ.start hh).ext hb)).out a hf n;simpa using this
theorem AV {F:Fence}{o:Oper}{a:Act}{K:Act→World→Prop}{Q1 Q2:Exit→Act→World→Prop}{r:Result Next} (hq:∀e a w,Q1 e a w→Q2 e a w) (h:o.uponIn F n P a K Q1 r):o.uponIn F n P a K Q2 r:=by
 have ho:LetsOut Q1→LetsOut Q2:=fun ⟨a,w,h⟩=>⟨a,w,hq _ _ _ h⟩
 cases r with
 |ok n w'=>
  cases n<;>simp only [Oper.uponIn] at h ⊢ <;>first
   |exact h
   |exact ⟨h.1,CallsIn.mono h.2 (fun e w'' he=>by cases e<;>first|exact he|exact hq _ _ _ he|exact ho he)⟩
   |exact ⟨h.1,RoundIn.mono h.2 (fun e w'' he=>by cases e<;>first|exact he|exact hq _ _ _ he|exact ho he)⟩
 |halt x w'=>cases x<;>simp only [Oper.uponIn] at h ⊢ <;>first|exact h|exact hq _ _ _ h|exact ho h
theorem tu {o:Oper}{A B:Rf→World→Prop} (h:WL ⟨ro,D,true⟩ P N ops (cU A sv) [o] ρ w) (hi:∀ρ w,A ρ w→B ρ w):WL ⟨ro,D,true⟩ P N ops (cU B Q) [o] ρ w:=by
 refine ⟨fun h=>(by cases h),fun a hf n=> ?_⟩;have h1:=h.kr a hf n;have hq:∀e a w,ea N D (cU A sv) e a w→ea N D (cU B Q) e a w:=fun e a w ⟨ρ',hf',hk⟩=>⟨ρ',hf',by
  cases e with
  |normal=>exact hi _ _ hk
  |_=>exact hk.elim⟩
 unfold wpListIn at h1 ⊢;split at h1
 ·rename_i hwt;rw [YA hwt];have h2:=Oper.wpIn_mono (K':=wpListIn (FW ro) n P ops (ea N D (cU B Q)) []) (fun a w h=>hq .normal a w h) h1;unfold Oper.wpIn at h2 ⊢;exact ⟨h2.1,AV hq h2.2⟩
 ·rename_i hwt;rw [YB hwt];exact ⟨h1.1,hq .normal _ _ h1.2⟩
theorem NL {o0 o1 o2 o3 o4 o5 o6:Oper}{I:Bool→Bool→Bool→Bool→Bool→Rf→World→Prop}{J K:Rf→World→Prop}
  (e0:ops[0]?=some o0) (e1:ops[1]?=some o1) (e2:ops[2]?=some o2) (e3:ops[3]?=some o3) (e4:ops[4]?=some o4) (e5:ops[5]?=some o5) (e6:ops[6]?=some o6)
  (r0:Region.ready .any ops #[false,false,false,false,false,false,false]=[0,1,2])
  (r1:Region.ready .any ops #[false,true,false,false,false,false,false]=[0,2])
  (r2:Region.ready .any ops #[false,false,true,false,false,false,false]=[0,1])
  (r3:Region.ready .any ops #[false,true,true,false,false,false,false]=[0,3])
  (r4:Region.ready .any ops #[false,true,true,true,false,false,false]=[0,4])
  (r5:Region.ready .any ops #[false,true,true,true,true,false,false]=[0])
  (q0:Region.ready .any ops #[true,false,false,false,false,false,false]=[1,2])
  (q1:Region.ready .any ops #[true,true,false,false,false,false,false]=[2])
  (q2:Region.ready .any ops #[true,false,true,false,false,false,false]=[1])
  (q3:Region.ready .any ops #[true,true,true,false,false,false,false]=[3])
  (q4:Region.ready .any ops #[true,true,true,true,false,false,false]=[4])
  (q5:Region.ready .any ops #[true,true,true,true,true,false,false]=[5])
  (q6:Region.ready .any ops #[true,true,true,true,true,true,false]=[6])
  (q7:Region.ready .any ops #[true,true,true,true,true,true,true]=[])
  (s0:∀a b e g ρ w,I false a b e g ρ w→WL ⟨ro,D,true⟩ P N ops (cU (fun ρ w=>I true a b e g ρ w) sv) [o0] ρ w)
  (s1:∀c b ρ w,I c false b false false ρ w→WL ⟨ro,D,true⟩ P N ops (cU (fun ρ w=>I c true b false false ρ w) sv) [o1] ρ w)
  (s2:∀c a ρ w,I c a false false false ρ w→WL ⟨ro,D,true⟩ P N ops (cU (fun ρ w=>I c a true false false ρ w) sv) [o2] ρ w)
  (s3:∀c ρ w,I c true true false false ρ w→WL ⟨ro,D,true⟩ P N ops (cU (fun ρ w=>I c true true true false ρ w) sv) [o3] ρ w)
  (s4:∀c ρ w,I c true true true false ρ w→WL ⟨ro,D,true⟩ P N ops (cU (fun ρ w=>I c true true true true ρ w) sv) [o4] ρ w)
  (s5:∀ρ w,I true true true true true ρ w→WL ⟨ro,D,true⟩ P N ops (cU J sv) [o5] ρ w)
  (s6:∀ρ w,J ρ w→WL ⟨ro,D,true⟩ P N ops (cU K sv) [o6] ρ w)
  (fin:∀ρ w,K ρ w→Q .normal ρ w) (st:I false false false false false ρ w):WR ro D P N ops Q 7 #[false,false,false,false,false,false,false] ρ w:=by
 have one:∀{fuel:Nat}{L:Array Bool}{i:Nat}{o:Oper}{ρ:Rf}{w:World}{A:Rf→World→Prop},Region.ready .any ops L=[i]→ops[i]?=some o→WL ⟨ro,D,true⟩ P N ops (cU A sv) [o] ρ w→(∀ρ w,A ρ w→WR ro D P N ops Q fuel (L.setIfInBounds i true) ρ w)→WR ro D P N ops Q (fuel+1) L ρ w:=fun hr ho h hi=>
  Ba hr (by simp) fun j hj=>by
   obtain rfl:=YT.1 hj;exact ⟨_,ho,tu h hi⟩
 have two:∀{fuel:Nat}{L:Array Bool}{i j:Nat}{o p:Oper}{ρ:Rf}{w:World}{A B:Rf→World→Prop},Region.ready .any ops L=[i,j]→ops[i]?=some o→ops[j]?=some p→WL ⟨ro,D,true⟩ P N ops (cU A sv) [o] ρ w→(∀ρ w,A ρ w→WR ro D P N ops Q fuel (L.setIfInBounds i true) ρ w)→WL ⟨ro,D,true⟩ P N ops (cU B sv) [p] ρ w→(∀ρ w,B ρ w→WR ro D P N ops Q fuel (L.setIfInBounds j true) ρ w)→WR ro D P N ops Q (fuel+1) L ρ w:=fun hr ho hp h hi h2 hi2=>
  Ba hr (by simp) fun k hk=>by
   rcases YS.1 hk with rfl|hk
   ·exact ⟨_,ho,tu h hi⟩
   ·obtain rfl:=YT.1 hk;exact ⟨_,hp,tu h2 hi2⟩
 have n7:∀ρ w,K ρ w→WR ro D P N ops Q 0 #[true,true,true,true,true,true,true] ρ w:=fun ρ w h=>TZ q7 (fin ρ w h);have n6:∀ρ w,J ρ w→WR ro D P N ops Q 1 #[true,true,true,true,true,true,false] ρ w:=fun ρ w h=>one q6 e6 (s6 ρ w h) n7;have n5:∀ρ w,I true true true true true ρ w→WR ro D P N ops Q 2 #[true,true,true,true,true,false,false] ρ w:=fun ρ w h=>one q5 e5 (s5 ρ w h) n6;have n4:∀ρ w,I true true true true false ρ w→WR ro D P N ops Q 3 #[true,true,true,true,false,false,false] ρ w:=fun ρ w h=>one q4 e4 (s4 true ρ w h) n5;have m5:∀ρ w,I false true true true true ρ w→WR ro D P N ops Q 3 #[false,true,true,true,true,false,false] ρ w:=fun ρ w h=>one r5 e0 (s0 _ _ _ _ ρ w h) n5;have m4:∀ρ w,I false true true true false ρ w→WR ro D P N ops Q 4 #[false,true,true,true,false,false,false] ρ w:=fun ρ w h=>two r4 e0 e4 (s0 _ _ _ _ ρ w h) n4 (s4 false ρ w h) m5;have n3:∀ρ w,I true true true false false ρ w→WR ro D P N ops Q 4 #[true,true,true,false,false,false,false] ρ w:=fun ρ w h=>one q3 e3 (s3 true ρ w h) n4
 have m3:∀ρ w,I false true true false false ρ w→WR ro D P N ops Q 5 #[false,true,true,false,false,false,false] ρ w:=fun ρ w h=>two r3 e0 e3 (s0 _ _ _ _ ρ w h) n3 (s3 false ρ w h) m4;have n1:∀ρ w,I true true false false false ρ w→WR ro D P N ops Q 5 #[true,true,false,false,false,false,false] ρ w:=fun ρ w h=>one q1 e2 (s2 true true ρ w h) n3;have n2:∀ρ w,I true false true false false ρ w→WR ro D P N ops Q 5 #[true,false,true,false,false,false,false] ρ w:=fun ρ w h=>one q2 e1 (s1 true true ρ w h) n3;have m1:∀ρ w,I false true false false false ρ w→WR ro D P N ops Q 6 #[false,true,false,false,false,false,false] ρ w:=fun ρ w h=>two r1 e0 e2 (s0 _ _ _ _ ρ w h) n1 (s2 false true ρ w h) m3;have m2:∀ρ w,I false false true false false ρ w→WR ro D P N ops Q 6 #[false,false,true,false,false,false,false] ρ w:=fun ρ w h=>two r2 e0 e1 (s0 _ _ _ _ ρ w h) n2 (s1 false true ρ w h) m3;have n0:∀ρ w,I true false false false false ρ w→WR ro D P N ops Q 6 #[true,false,false,false,false,false,false] ρ w:=fun ρ w h=>two q0 e1 e2 (s1 true false ρ w h) n1 (s2 true false ρ w h) n2
 refine Ba r0 (by simp) fun k hk=> ?_
 rcases YS.1 hk with rfl|hk
 ·exact ⟨_,e0,tu (s0 _ _ _ _ ρ w st) n0⟩
 ·rcases YS.1 hk with rfl|hk
  ·exact ⟨_,e1,tu (s1 false false ρ w st) m1⟩
  ·obtain rfl:=YT.1 hk;exact ⟨_,e2,tu (s2 false false ρ w st) m2⟩
end
instance:aU Tryz.prog 87 1 false 8 [.nilFunc]:={}
theorem tK (fx:FX) (L:Option Addr) (m2 c2:Nat) (tn:List NR) (k q G:Nat) (w:World) (hT:e8 w) (hf:fx.at_ w) (hl:fx.j8 k) (hcap:fx.m≤fx.b) (hS:Sl w L m2 3 (aD NR.cells tn)) (hv:∀s∈tn,OZ q s s.d∧Sz q (1-s.d)) (hq:q≤2000)
  (hG:fx.e=0→∀d∈fx.ns,2+2*(q*d)+(d+1)≤G) (hk:k+fx.n*G≤500000):
  Calls Tryz.prog 10 #[.agg #[.slice fx.A fx.n fx.a,.slice fx.B fx.m fx.b],.slice L m2 c2] w fun r w'=>r=.returned (.tuple #[.agg #[.bool (nR (yl fx tn)).neg,.string (nR (yl fx tn)).bj,.int .i64 (nR (yl fx tn)).e],.int .i64 (uI fx m2)])∧Below w.heap.size w w':=by
 have hh:=Hp.start w;have hck:=fun w1 hT1 hb=>uC fx k w1 hT1 (hf.ext hb) hl;have hlt:=hS.bh NR.len Yw;have hev0:uI fx m2≠0→yl fx tn=0:=fun h=>by unfold yl;rw [hlt,YB h]
 by_cases h0:fx.e=0
 ·by_cases h1:m2=fx.n
  ·have hE:uI fx m2=0:=by unfold uI;rw [YB Yv,YB Yv]
   have hV:yl fx tn=nB fx.ns.reverse (fx.cs.map NR.d) (tn.map NR.d).reverse:=by unfold yl;rw [hlt,hE,YA rfl]
   rw [hE,hV];obtain ⟨hdeg,hnum,h12,hlow,hcnt,hmax⟩:=FX.fv h0;have hln:fx.ds.length=fx.n:=hf.ln.1;have hlm:=hf.ln.2;have hnl:fx.ns.length=fx.n:=by unfold FX.ns;rw [YO];exact hln
   have hm:fx.m=aA fx.ns:=by rw [←hlm,hcnt]
   have hdg:Sl w fx.A fx.n 1 (bQ (cf fx.ns)):=by rw [←hdeg];exact hf.dg
   have hxz:∀x∈fx.cs.map NR.d,Sz k x:=fun x h=>by
    obtain ⟨c,hc,rfl⟩:=YR.1 h;exact (hl.num c hc).2
   have hxl:(fx.cs.map NR.d).length=aA fx.ns:=by rw [YO,hcnt]
   have hval:=yO fx.ns.reverse (tn.map NR.d).reverse (fx.cs.map NR.d) (by rw [Zs,Zs,YO];omega) (by rw [hxl,de]);have hnm:Sl w fx.B (aA fx.ns) 3 (aD NR.cells ((fx.cs.map NR.d).map nR)):=by rw [←hm,←hnum];exact hf.nm
   have hG:=hG h0;rw [hm] at hcap;refine Ld ?_;refine km fun D_=> ?_;refine ar ?_;refine cu hh [_,_] ?_;intro b2 w2 hh;refine bW hh ?_;intro b4 w4 hh;refine aI (aa ?_);refine km fun D_=> ?_;refine sr ?_;refine cC hh 1 [_,_] ?_;refine gB ?_;intro w13 hh;refine aI (aa (sr (mI ?_)));refine db (aa (cF (au (aj ?_))));refine km fun D_=> ?_;refine sr (mL (aK (bJ ?_)));refine bG hh 1 ?_;refine aK ?_;refine db (aa (cF (au (aj ?_))));refine km fun D_=> ?_;refine ar (bJ ?_);refine bG hh 1 ?_;refine aL (aa ?_);refine An ?_;refine km fun D_=> ?_;refine ar (mL (aK ?_));refine eP (aI (aa ?_));rw [hm];have hst:∀(H:List HE) (w1:World),Hp w (H++[]) w1→Sl w1 fx.B (aA fx.ns) 3 (aD NR.cells ((fx.cs.map NR.d).map nR)):=fun H w1 h=>hnm.ext h.below;generalize fx.cs.map NR.d=xs at*;refine wv (Nj [7,8,9,10,11,30,31,32,33,34,35,36,37,38,39,40,41,42,43,44,45,46,47,48,49,50,51,52,53,54] 7 8
    (fun M v7 v8 w'=>∃(j:Nat) (z:Int) (X:List Dyadic) (A:Option Addr) (a:Nat) (R:List HE),j≤fx.n∧v8=.int .i64 z∧z=(j:Int)-1∧v7=.slice A (aA (fx.ns.take j)) a∧aA (fx.ns.take j)≤a∧X.length=aA (fx.ns.take j)∧(∀x∈X,Sz (k+(fx.n-j)*G) x)∧qe (fx.ns.take j).reverse ((tn.map NR.d).take j).reverse X=qe fx.ns.reverse (tn.map NR.d).reverse xs∧(∀x∈R,x.Uv=true)∧(∀(H:List HE) (w1:World),Hp w (H++R) w1→Sl w1 A (aA (fx.ns.take j)) 3 (aD NR.cells (X.map nR)))∧Hp w (.blk b4 40 [.bool false,.string (ByteArray.mk #[]),.int .i64 0] (0,0)::.blk b2 33 [.slice fx.A fx.n fx.a,.slice fx.B fx.m fx.b] (0,0)::(R++qU M)) w')
    (fun _ v _=>(intOf v+1).toNat) ?_ ?_)
   ·refine ⟨fx.n,_,xs,_,_,[],YE _,rfl,Yv,by rw [YG Yv];rfl,by rw [YG Yv];exact hcap,by rw [YG Yv];exact hxl,fun x h=>(hxz x h).mono Yv,by rw [YG Yv,YG (by rw [YO];omega)],fun x h=>(by cases h),by rw [YG Yv];exact hst,hh⟩
   ·clear hh hst;rintro M ρ' v7 v8 w' ⟨j,z,X,A,a,R,hj,rfl,hz,rfl,hca,hXl,hXz,hXe,hcR,hrd,hh⟩;by_cases hj0:j=0
    ·subst hj0;obtain rfl:z= -1:=Yv;have hX:X=[nB fx.ns.reverse xs (tn.map NR.d).reverse]:=by
      rw [←hval,←hXe];simp [qe]
     subst hX;have hh1:Hp w ([_,_]++R) w':=hh.sub (.cons_cons _ (.cons_cons _ (aaG R _)));have hsl:=hrd _ _ hh1;rw [ZS] at hsl;obtain ⟨ac,rfl,sc⟩:=hsl.at_ (show 0<aA [] by decide);have hx0:([nB fx.ns.reverse xs (tn.map NR.d).reverse].map nR)[0]?=some (nR (nB fx.ns.reverse xs (tn.map NR.d).reverse)):=rfl;generalize nB fx.ns.reverse xs (tn.map NR.d).reverse=V at*;rw [ZS];refine km fun D_=> ?_;refine sr (mI ?_);refine ej (aa (cF (a6 (aH ?_))));refine O1 ?_;refine km fun D_=> ?_;refine ar (mL ?_);refine dm (k:=0) bo.out aU.size rfl rfl Yv (show 0<aA [] by decide) Yw ?_;refine cG (vs:=[_,_,_]) aU.out rfl (sc.recAt NR.len hx0) rfl Yw ?_;refine bV hh 0 [_,_,_] ?_;intro ws hh;replace hh:Hp _ (.blk _ _ [_,_,_] _::_) _:=hh;refine aI (aa ?_);refine HD fun D_=> ?_;refine ay ?_;refine th (M:=M) (vs:=[.agg #[.bool (nR V).neg,.string (nR V).bj,.int .i64 (nR V).e],.int .i64 0]) (hh.perm (List.perm_append_comm (l₁:=_::_::R))) (.inr rfl) rfl ?_;exact TC
    ·obtain ⟨i,rfl⟩:∃i,j=i+1:=⟨j-1,Yv⟩;obtain rfl:z=(i:Int):=Yv;obtain ⟨tq,htq⟩:=ao (l:=tn) (k:=i) Yv;obtain ⟨vt,ht1⟩:=hv tq (YF htq);obtain ⟨d,hd⟩:=ao (l:=fx.ns) (k:=i) Yv;have hmd:=YF hd;have hdl:=hlow d hmd;have hGd:=hG d hmd;have hgd:=cL (iG hd);obtain ⟨adL,rfl,sL⟩:=hS.at_ Yv;obtain ⟨adD,hAD,sD⟩:=hdg.at_ Yv;have il:Value.slice fx.A fx.n fx.a=.slice (some adD) fx.n fx.a:=by rw [hAD]
     have hh1:Hp w ([_,_]++R) w':=hh.sub (.cons_cons _ (.cons_cons _ (aaG R _)));obtain ⟨ac,rfl, -⟩:=(hrd _ _ hh1).at_ (df _);clear hh1;have hcs:aA (fx.ns.take (i+1))=aA (fx.ns.take i)*(d+1):=by rw [aC hd,eN];simp [aA]
     have hct:=j7 fx.ns (i+1);have hcp:=df (fx.ns.take i);have hc4:=j7 fx.ns i;have hd1c:d+1≤aA (fx.ns.take (i+1)):=by rw [hcs];exact Nat.le_mul_of_pos_left _ hcp
     have hKG:k+(fx.n-(i+1))*G+G=k+(fx.n-i)*G:=by
      rw [show fx.n-i=fx.n-(i+1)+1 by omega,aay,aaH];omega
     have hKle:k+(fx.n-(i+1))*G≤500000:=by
      have:=ZH G (show fx.n-(i+1)≤fx.n by omega);omega
     have eD:(d:Int)+1=((d+1:Nat):Int):=Yv;refine km fun D_=> ?_;refine sr (mI ?_);refine ej (aa (cT (au (aj ?_))));refine An (wv ?_);refine km fun D_=> ?_;refine ar (mL (mI ?_));refine cE ?_;refine cG (vs:=[_,_,_]) aU.out rfl ((sL.ext hh.below).recAt NR.len htq) rfl Yw ?_;refine aJ (Be tq tq.d q _ (hT.hp hh) vt hq) aw.out rfl Yw ?_;rintro e_ w38 ⟨b1,b3,rfl,h2⟩;refine ⟨_,rfl, ?_⟩;replace hh:=hh.join h2;simp only [YJ,YH] at hh;clear h2;refine bW hh ?_;intro b9 w9 hh;refine bV hh 0 [_] ?_;intro ws hh;replace hh:Hp _ (.blk _ _ [_] _::_) _:=hh;refine aa ?_;refine km fun D_=> ?_;refine ar ?_;refine bW hh ?_;intro b10 w10 hh;refine aa ?_;refine An ?_;refine km fun D_=> ?_;refine ar (mL (bJ ?_));refine bG hh 5 ?_;refine mI ?_;refine dm (k:=i) bo.out aU.size il rfl Yv Yv Yw ?_;refine cv aU.out rfl ((sD.ext hh.below).xv hgd) Yw ?_;refine bm ?_;rw [eD];refine aJ (Cl (some ac) (aA (fx.ns.take (i+1))) a (d+1) _ Yv) aw.out rfl Yw ?_;rintro e_ w46 ⟨c2,c1,rfl,h2⟩;refine ⟨_,rfl, ?_⟩;replace hh:=hh.join h2;simp only [YJ,YH] at hh;clear h2;replace hh:=hh.perm (Zh (l₁:=[_,_]))
     simp only [YJ,YH] at hh;replace hh:=hh.cN 40 3;refine aa ?_;have hmk:=hh.Ts (M:=M) (by repeat (first|exact abJ _ _|apply YI));have hmlt:=hmk.lt;replace hh:=hh.sub (H':=_::_::_::_::_::_::_::_::_::R) (by repeat (first|exact aaG _ _|apply YC));have hc2:=hh.eT (i:=3) (o:=0) rfl rfl;have hc1:=hh.eT (i:=2) (o:=0) rfl rfl;have hseq:=Jh c2 c1 ac (aA (fx.ns.take (i+1))) a (d+1) (aA (fx.ns.take i)) _ hc2 hc1 hcs Yv hca Yv Yv
     have hcel:∀(A1:Option Addr) (n1 k1:Nat) (cs vs:List Value),∀x∈(HE.row A1 n1 k1 40 3 cs::.blk b10 27 vs (0,0)::.blk c1 3 [.int .i64 ((d+1:Nat):Int)] (0,0)::.blk c2 27 [.slice (some ac) (aA (fx.ns.take (i+1))) a] (0,0)::.blk b9 87 [.func (.func 107) #[] #[.pointer (some ⟨b1,0,none⟩),.pointer (some ⟨b3,0,none⟩)]] (0,0)::.blk b3 40 [.bool (nR (1-tq.d)).neg,.string (nR (1-tq.d)).bj,.int .i64 (nR (1-tq.d)).e] (0,0)::.blk b1 40 [.bool tq.neg,.string tq.bj,.int .i64 tq.e] (0,0)::.blk b4 40 [.bool false,.string (ByteArray.mk #[]),.int .i64 0] (0,0)::.blk b2 33 [.slice fx.A fx.n fx.a,.slice fx.B fx.m fx.b] (0,0)::R),x.Uv=true:=fun A1 n1 k1 cs vs x hx=>by
      simp only [YS] at hx
      rcases hx with rfl|rfl|rfl|rfl|rfl|rfl|rfl|rfl|rfl|hx
      all_goals first|rfl|exact hcR x hx
     trace_state
     refine wv (Jn (α:=Fin (aA (fx.ns.take i))) (enc:=fun jj:Fin (aA (fx.ns.take i))=>.slice (some (ac.add (jj.val*(d+1)*3))) (d+1) (d+1)) 11 Yw Yw rfl (enters_of Tryz.func108 Yx rfl) hseq Ow (fun W l o o' h _ _ _=>P3 (mW hc2) (mW hc1) W l o o' h)
      (fun bs W=>∃(Y:List Dyadic) (A1:Option Addr) (k1:Nat),Y.length=bs.length∧(∀y∈Y,Sz (k+(fx.n-i)*G) y)∧(bs=(List.finRange (aA (fx.ns.take i))).take bs.length→Y=(mH d tq.d (aA (fx.ns.take i)) X).take bs.length)∧Marks w M W∧Hp w (.row A1 bs.length k1 40 3 (aD NR.cells (Y.map nR))::.blk b10 27 [.slice A1 bs.length k1] (0,0)::.blk c1 3 [.int .i64 ((d+1:Nat):Int)] (0,0)::.blk c2 27 [.slice (some ac) (aA (fx.ns.take (i+1))) a] (0,0)::.blk b9 87 [.func (.func 107) #[] #[.pointer (some ⟨b1,0,none⟩),.pointer (some ⟨b3,0,none⟩)]] (0,0)::.blk b3 40 [.bool (nR (1-tq.d)).neg,.string (nR (1-tq.d)).bj,.int .i64 (nR (1-tq.d)).e] (0,0)::.blk b1 40 [.bool tq.neg,.string tq.bj,.int .i64 tq.e] (0,0)::.blk b4 40 [.bool false,.string (ByteArray.mk #[]),.int .i64 0] (0,0)::.blk b2 33 [.slice fx.A fx.n fx.a,.slice fx.B fx.m fx.b] (0,0)::R) W)
      ?own ?zero ?asg ?body ?done)
     case own=>
      intro s W W' row ⟨Y,A1,k1,h1,h2,h3,h4,h5⟩ hg hr;exact ⟨Y,A1,k1,h1,h2,h3,h4.grown hmlt hg (fun r e=>(hr r e).1),h5.TY (hcel _ _ _ _ _) hg fun r e=>⟨Y2 hh.size (hr r e).1,(hr r e).2⟩⟩
     case zero=>exact ⟨[],none,0,rfl,fun y h=>(by cases h),fun _=>rfl,hmk,hh⟩
     case asg=>
      intro l x W;refine ar (aL (aE ?_));exact ⟨rfl,rfl⟩
     case body=>
      rintro l bs qq W ⟨Y,A1,k1,hYl,hYz,hYe,hmk2,hh0⟩ hbl;have hqm:=qq.isLt;have hh:=hh0.Oo;simp only [YJ,YH] at hh;generalize hO:FD _ _ _=O at hh;have hq1:qq.val*(d+1)+(d+1)≤aA (fx.ns.take (i+1)):=by
       have:=ZH (d+1) (show qq.val+1≤aA (fx.ns.take i) from hqm);rw [ZE] at this;omega
      have hline:=(hrd [_,_,_,_,_,_,_,_,_] W hh0).part (qq.val*(d+1)) (d+1) hq1 Yv;rw [yn] at hline;have hfo:=fun w1 hT1 hS1 hb1 hb2=>xN tq tq.d ⟨b1,0,none⟩ ⟨b3,0,none⟩ (some (ac.add (qq.val*(d+1)*3))) (d+1) (d+1) d (nT (d+1) qq.val X) (k+(fx.n-(i+1))*G) q w1 hT1 hS1 rfl hdl (fun x hx=>hXz x (sF hx)) vt ht1 hb1 hb2 hKle hq;have hfz:=At (d:=d) (i:=d+1) (fun x hx=>hXz x (sF (K:=d+1) (q:=qq.val) hx)) vt.sz ht1 (YE _);have hfa:=KU (d:=d) (m:=aA (fx.ns.take i)) tq.d X hqm;generalize mO d tq.d (nT (d+1) qq.val X) (d+1)=y at*;refine av ?_;refine MM hh mixed fun W2 hJ2=> ?_;have hst2:=hJ2.hp
      refine NL (I:=fun c x1 x2 e g ρ w'=>ρ 9=.pointer (some ⟨b9,0,none⟩)∧ρ 10=.pointer (some ⟨b10,0,none⟩)∧ρ 11=.slice (some (ac.add (qq.val*(d+1)*3))) (d+1) (d+1)∧(c=true→ρ 48=.slice A1 bs.length k1)∧(x1=true→ρ 49=.func (.func 107) #[] #[.pointer (some ⟨b1,0,none⟩),.pointer (some ⟨b3,0,none⟩)])∧(x2=true→ρ 50=.slice (some (ac.add (qq.val*(d+1)*3))) (d+1) (d+1))∧(e=true→ρ 51=.agg #[.bool (nR y).neg,.string (nR y).bj,.int .i64 (nR y).e])∧∃R52:List HE,Hp w (R52++(.row A1 bs.length k1 40 3 (aD NR.cells (Y.map nR))::.blk b10 27 [.slice A1 bs.length k1] (0,0)::.blk c1 3 [.int .i64 ((d+1:Nat):Int)] (0,0)::.blk c2 27 [.slice (some ac) (aA (fx.ns.take (i+1))) a] (0,0)::.blk b9 87 [.func (.func 107) #[] #[.pointer (some ⟨b1,0,none⟩),.pointer (some ⟨b3,0,none⟩)]] (0,0)::.blk b3 40 [.bool (nR (1-tq.d)).neg,.string (nR (1-tq.d)).bj,.int .i64 (nR (1-tq.d)).e] (0,0)::.blk b1 40 [.bool tq.neg,.string tq.bj,.int .i64 tq.e] (0,0)::.blk b4 40 [.bool false,.string (ByteArray.mk #[]),.int .i64 0] (0,0)::.blk b2 33 [.slice fx.A fx.n fx.a,.slice fx.B fx.m fx.b] (0,0)::(R++O))) w'∧(g=true→∃g52,ρ 52=.slice (some ⟨g52,0,none⟩) 1 1∧R52=[.row (some ⟨g52,0,none⟩) 1 1 40 3 [.bool (nR y).neg,.string (nR y).bj,.int .i64 (nR y).e]]))
       (J:=fun ρ w'=>ρ 10=.pointer (some ⟨b10,0,none⟩)∧∃(A3:Option Addr) (k3:Nat),ρ 53=.slice A3 (bs.length+1) k3∧Hp w (.row A3 (bs.length+1) k3 40 3 (aD NR.cells (Y.map nR)++[.bool (nR y).neg,.string (nR y).bj,.int .i64 (nR y).e])::.blk b10 27 [.slice A1 bs.length k1] (0,0)::.blk c1 3 [.int .i64 ((d+1:Nat):Int)] (0,0)::.blk c2 27 [.slice (some ac) (aA (fx.ns.take (i+1))) a] (0,0)::.blk b9 87 [.func (.func 107) #[] #[.pointer (some ⟨b1,0,none⟩),.pointer (some ⟨b3,0,none⟩)]] (0,0)::.blk b3 40 [.bool (nR (1-tq.d)).neg,.string (nR (1-tq.d)).bj,.int .i64 (nR (1-tq.d)).e] (0,0)::.blk b1 40 [.bool tq.neg,.string tq.bj,.int .i64 tq.e] (0,0)::.blk b4 40 [.bool false,.string (ByteArray.mk #[]),.int .i64 0] (0,0)::.blk b2 33 [.slice fx.A fx.n fx.a,.slice fx.B fx.m fx.b] (0,0)::(R++O)) w')
       (K:=fun _ w'=>∃(A3:Option Addr) (k3:Nat),Hp w (.row A3 (bs.length+1) k3 40 3 (aD NR.cells (Y.map nR)++[.bool (nR y).neg,.string (nR y).bj,.int .i64 (nR y).e])::.blk b10 27 [.slice A3 (bs.length+1) k3] (0,0)::.blk c1 3 [.int .i64 ((d+1:Nat):Int)] (0,0)::.blk c2 27 [.slice (some ac) (aA (fx.ns.take (i+1))) a] (0,0)::.blk b9 87 [.func (.func 107) #[] #[.pointer (some ⟨b1,0,none⟩),.pointer (some ⟨b3,0,none⟩)]] (0,0)::.blk b3 40 [.bool (nR (1-tq.d)).neg,.string (nR (1-tq.d)).bj,.int .i64 (nR (1-tq.d)).e] (0,0)::.blk b1 40 [.bool tq.neg,.string tq.bj,.int .i64 tq.e] (0,0)::.blk b4 40 [.bool false,.string (ByteArray.mk #[]),.int .i64 0] (0,0)::.blk b2 33 [.slice fx.A fx.n fx.a,.slice fx.B fx.m fx.b] (0,0)::(R++O)) w')
       rfl rfl rfl rfl rfl rfl rfl Yx Yx Yx Yx Yx Yx Yx Yx Yx Yx Yx Yx Yx Yx ?s0 ?s1 ?s2 ?s3 ?s4 ?s5 ?s6 ?fin ?st
      case st=>exact ⟨rfl,rfl,rfl,fun h=>(by cases h),fun h=>(by cases h),fun h=>(by cases h),fun h=>(by cases h),[],hst2,fun h=>(by cases h)⟩
      case s0=>
       rintro a b e g ρ w3 ⟨h9,h10,h11, -,h49,h50,h51,R52,hp,h52⟩;have hp2:=hp.sub (abJ R52 _);refine cv aU.out h10 (hp2.eT (i:=1) (o:=0) rfl rfl) Yw (aa ?_);refine ⟨(bI _ Yw _).trans h9,(bI _ Yw _).trans h10,(bI _ Yw _).trans h11,fun _=>ju _ _ _,fun h=>(bI _ Yw _).trans (h49 h),fun h=>(bI _ Yw _).trans (h50 h),fun h=>(bI _ Yw _).trans (h51 h),R52,hp,fun h=> ?_⟩;obtain ⟨g52,h1,h2⟩:=h52 h;exact ⟨g52,(bI _ Yw _).trans h1,h2⟩
      case s1=>
       rintro c b ρ w3 ⟨h9,h10,h11,h48, -,h50,h51,R52,hp,h52⟩;have hp2:=hp.sub (abJ R52 _);refine cv aU.out h9 (hp2.eT (i:=4) (o:=0) rfl rfl) Yw (aa ?_);exact ⟨(bI _ Yw _).trans h9,(bI _ Yw _).trans h10,(bI _ Yw _).trans h11,fun h=>(bI _ Yw _).trans (h48 h),fun _=>ju _ _ _,fun h=>(bI _ Yw _).trans (h50 h),fun h=>(by cases h),R52,hp,fun h=>(by cases h)⟩
      case s2=>
       rintro c a ρ w3 ⟨h9,h10,h11,h48,h49, -,h51,R52,hp,h52⟩;refine aZ rfl rfl Yw (fy h11) (aa ?_);exact ⟨(bI _ Yw _).trans h9,(bI _ Yw _).trans h10,(bI _ Yw _).trans h11,fun h=>(bI _ Yw _).trans (h48 h),fun h=>(bI _ Yw _).trans (h49 h),fun _=>ju _ _ _,fun h=>(by cases h),R52,hp,fun h=>(by cases h)⟩
      case s3=>
       rintro c ρ w3 ⟨h9,h10,h11,h48,h49,h50, -,R52,hp,h52⟩;have hp2:=hp.sub (abJ R52 _);have hp3:Hp w ([_,_,_,_,_,_,_,_,_]++R) w3:=hp2.sub (by repeat (first|exact aaG _ _|apply YC));have hl3:=(hrd _ w3 hp3).part (qq.val*(d+1)) (d+1) hq1 Yv;rw [yn] at hl3;refine hH (first:=[]) (cap:=[_,_]) (hfo w3 (hT.hp hp2) hl3 (hp2.cn (i:=6) (n:=3) rfl rfl) (hp2.cn (i:=5) (n:=3) rfl rfl)) aw.out (h49 rfl) (Zz (fun l=>[]++(l++[_,_])) (az (show ev ρ (Operand.tmp 50)=_ from h50 rfl) bf)) Yw ?_;rintro e_ w5 ⟨rfl,hb_⟩;refine ⟨_,rfl,aa ?_⟩;exact ⟨(bI _ Yw _).trans h9,(bI _ Yw _).trans h10,(bI _ Yw _).trans h11,fun h=>(bI _ Yw _).trans (h48 h),fun h=>(bI _ Yw _).trans (h49 h),fun h=>(bI _ Yw _).trans (h50 h),fun _=>ju _ _ _,R52,hp.ext hb_,fun h=>(by cases h)⟩
      case s4=>
       rintro c ρ w3 ⟨h9,h10,h11,h48,h49,h50,h51,R52,hp, -⟩;have hp2:=hp.sub (abJ R52 _);refine cQ hp2 (cs:=[_,_,_]) bo.out aU.out (aX (show ev ρ (Operand.tmp 51)=_ from h51 rfl) cx) rfl rfl Yw Yw Yw rfl Yw ?_;intro g52 w5 hp5;refine aa ?_;exact ⟨(bI _ Yw _).trans h9,(bI _ Yw _).trans h10,(bI _ Yw _).trans h11,fun h=>(bI _ Yw _).trans (h48 h),fun h=>(bI _ Yw _).trans (h49 h),fun h=>(bI _ Yw _).trans (h50 h),fun h=>(bI _ Yw _).trans (h51 h),[_],hp5,fun _=>⟨g52,ju _ _ _,rfl⟩⟩
      case s5=>
       rintro ρ w3 ⟨h9,h10,h11,h48,h49,h50,h51,R52,hp,h52⟩;obtain ⟨g52,h52',rfl⟩:=h52 rfl;refine cd hp (i:=1) rfl (show ev ρ (Operand.tmp 48)=_ from h48 rfl) (show ev ρ (Operand.tmp 52)=_ from h52') (hp.aG (i:=0) rfl) bo.out aU.out rfl Yw (bD NR.one [nR y]) Yv Yv Yw ?_;intro A3 k3 w5 hp5;refine aa ⟨(bI _ Yw _).trans h10,A3,k3,ju _ _ _, ?_⟩;exact hp5.sub (Zi _ _)
      case s6=>
       rintro ρ w3 ⟨h10,A3,k3,h53,hp⟩;refine Du hp h10 (i:=1) rfl h53 rfl aU.out rfl (by simp) rfl ?_;intro w5 hp5;exact aa ⟨A3,k3,hp5⟩
      case fin=>
       rintro ρ ws ⟨A3,k3,hh⟩;refine bM ?_;subst hO;obtain ⟨gr,rfl⟩:=hh.cK (i:=0) rfl Yv;have hkeep:=Hp.Ty (T':=_::_::_::_::_::_::_::_::R) hh0 (hcel _ _ _ _ _) hh rfl rfl;have el:(bs++[qq]).length=bs.length+1:=by simp
       refine ⟨hkeep,⟨by rw [hh.eT (i:=3) (o:=0) rfl rfl,hh0.eT (i:=3) (o:=0) rfl rfl],by rw [hh.eT (i:=2) (o:=0) rfl rfl,hh0.eT (i:=2) (o:=0) rfl rfl]⟩,Y++[y],some ⟨gr,0,none⟩,k3, ?_, ?_, ?_,hmk2.keeps hkeep, ?_⟩
       ·rw [el,YK,hYl];rfl
       ·intro x hx
        rcases Zb.1 hx with hx|hx
        ·exact hYz x hx
        ·obtain rfl:=YT.1 hx;exact hfz.mono Yv
       ·intro h;obtain ⟨h1,h2⟩:=I7 h hbl;rw [el,hYe h1,←h2,aC hfa]
       ·rw [el,Zq,bZ];exact hh.sub (by repeat (first|exact aaG _ _|apply YC))
     case done=>
      rintro D bs W hD2 rfl ⟨Y,A1,k1,hYl,hYz,hYe,hmk2,hh0⟩ hDo;have hA2:=hYe (by rw [YG (YE _)]);rw [YG (by rw [te,abp];exact YE _)] at hA2;rw [abp] at hh0;subst hA2;have hmk3:=hmk2.cons hmlt hh.size hD2 hDo;have hroom:=hh0.dJ (i:=0) rfl;replace hh:=hh0.TM (hcel _ _ _ _ _) hmk3;simp only [YJ,YH] at hh;refine HD fun D_=> ?_;refine ar ?_;refine bG hh 1 ?_;refine aL (aE ?_);refine Us ?_;refine HD fun D_=> ?_;refine ar (mI ?_);refine eP (aI (aE ?_));refine Kl ?_;replace hh:=hh.sub (YC _ (YI _ (YI _ (YI _ (YI _ (YI _ (YI _ (YC _ (YC _ (ZK _))))))))));replace hh:=hh.perm (Zh (l₁:=[_,_]));simp only [YJ,YH] at hh;replace hh:=hh.perm (Zh (l₁:=[_,_]));simp only [YJ,YH] at hh
      refine ⟨⟨i,(i:Int)-1,mH d tq.d (aA (fx.ns.take i)) X,A1,k1,.row A1 (aA (fx.ns.take i)) k1 40 3 (aD NR.cells ((mH d tq.d (aA (fx.ns.take i)) X).map nR))::R,Yv,rfl,rfl,rfl,hroom,te _ _ _ _,fun x hx=>(M7 hXz vt.sz ht1 x hx).mono Yv, ?_,fun x hx=> ?_,fun H w1 h1=> ?_,hh⟩, ?_, ?_⟩
      ·rw [←F9 X hd (by rw [YN,htq];rfl)];exact hXe
      ·rcases YS.1 hx with rfl|hx
       ·rfl
       ·exact hcR x hx
      ·exact jx (h1.own (.row A1 (aA (fx.ns.take i)) k1 40 3 (aD NR.cells ((mH d tq.d (aA (fx.ns.take i)) X).map nR))) (Z5 _ YL))
      ·show ((i:Int)-1+1).toNat<((i:Int)+1).toNat;omega
      ·exact dO
  ·have hE:uI fx m2=1:=by unfold uI;rw [YB Yv,YA h1]
   rw [hev0 (by rw [hE];decide),hE];refine Ld ?_;refine km fun D_=> ?_;refine ar ?_;refine cu hh [_,_] ?_;intro b2 w2 hh;refine bW hh ?_;intro b4 w4 hh;refine aI (aa ?_);refine km fun D_=> ?_;refine sr ?_;refine cC hh 1 [_,_] ?_;refine gB ?_;intro w13 hh;refine aI (aa (sr (mI ?_)));refine db (aa (cF (au (aj ?_))));refine km fun D_=> ?_;refine sr (mL (aK (bJ ?_)));refine bG hh 1 ?_;refine aK ?_;refine db (aa (cT (sr ?_)));refine fH [_,_,_] ?_;refine bV hh 0 [_,_,_] ?_;intro ws hh;replace hh:Hp _ (.blk _ _ [_,_,_] _::_) _:=hh;refine aI (aa (ay (aN ?_)));refine th (M:=[]) (vs:=[.agg #[.bool false,.string (ByteArray.mk #[]),.int .i64 0],.int .i64 1]) hh (.inr rfl) rfl ?_;exact TC
 ·have hE:uI fx m2=fx.e:=by unfold uI;rw [YA h0]
  rw [hev0 (by rw [hE];exact h0),hE];refine Ld ?_;refine km fun D_=> ?_;refine ar ?_;refine cu hh [_,_] ?_;intro b2 w2 hh;refine bW hh ?_;intro b4 w4 hh;refine aI (aa ?_);refine km fun D_=> ?_;refine sr ?_;refine cC hh 1 [_,_] ?_;refine gB ?_;intro w13 hh;refine aI (aa (sr (mI ?_)));refine db (aa (cT (sr ?_)));refine fH [_,_,_] (mI ?_);refine bV hh 0 [_,_,_] ?_;intro ws hh;replace hh:Hp _ (.blk _ _ [_,_,_] _::_) _:=hh;refine aI (aa (ay (aN ?_)));refine th (M:=[]) (vs:=[.agg #[.bool false,.string (ByteArray.mk #[]),.int .i64 0],.int .i64 fx.e]) hh (.inr rfl) rfl ?_;exact TC
structure Yj (p:PX) (b:List SR) (C s:Nat):Prop where
 n:p.ts.length≤8
 ok:ja 124 p.ts
 sz:∀t∈p.ts,t.m.size≤20
 ex:∀t∈p.ts,∀c∈t.m.data.toList,c.toNat≤4
 box:∀z∈b,z.fin 124
 XQ:p.e=0→aA (m9 p.v p.ts)≤C
 Tm:C*C<2^(s+1)
def Ya (a:NR):Bool:=decide ((8:Int)<a.bj.size∨a.e< -60∨60<a.e)
structure Yo (ts:List TR):Prop where
 n:ts.length≤10
 ok:ja 124 ts
 sz:∀t∈ts,t.m.size≤20
 ex:∀t∈ts,∀c∈t.m.data.toList,c.toNat≤6
structure Ll (v:Int) (k n D:Nat) (ts:List TR):Prop where
 e:fj v ts=0
 ok:ja k ts
 sz:∀t∈ts,t.m.size≤100000
 len:ts.length≤n
 ex:∀t∈ts,∀c∈t.m.data.toList,c.toNat≤D
structure XW (p:PX):Prop where
 n:p.ts.length≤8
 ok:ja 124 p.ts
 ex:∀t∈p.ts,t.m.size≤20∧∀c∈t.m.data.toList,c.toNat≤4
structure W0 (p:PX) (b:List SR) (ns:List Nat):Prop where
 vl:∀ts:List Dyadic,ts.length=ns.length→nB ns.reverse (Dw ns (eH p (cO b)).2) ts=kA (nq b ts.reverse) p.ts
 sz:∀x∈Dw ns (eH p (cO b)).2,Sz 460000 x
structure Yc (p q s o:PX) (b:List SR) (ns:List Nat) (c:Dyadic):Prop where
 fit:NN p b ns
 XQ:aA ns≤100
 es:xM s b (cf ns)=0
 eo:xM o b (cf ns)=0
 gs:Ll s.v 140 16 4 s.ts
 go:Ll o.v 125 1 0 o.ts
 ws:gQ (140+140+16394) (m9 s.v s.ts) (140+1)≤440000
 wo:gQ (140+140+16394) (m9 o.v o.ts) (140+1)≤440000
 sum:Dw ns (eH s (cO b)).2=T7 (Dw ns (eH p (cO b)).2) (Dw ns (eH q (cO b)).2)
 Ym:Dw ns (eH o (cO b)).2=((ET ns).map nD).map fun y=>c*y
 zp:∀x∈Dw ns (eH p (cO b)).2,Sz 460000 x
 zq:∀x∈Dw ns (eH q (cO b)).2,Sz 460000 x
variable {us:List Dyadic}
def XE (A:List Nat) (e:Nat) (X:List Dyadic):List Dyadic:=qF (sf (aA A) (e+1)) (jN A (e+1) (e+1) (sy (e+1)) X X.length 0) X.length
theorem N7 {b:List SR}{a:Nat}{s:SR}{z:Dyadic} (hs:b[a]?=some s) (hu:us.length=b.length):nq b (us.set a z)=(nq b us).set a (s.L+(s.H-s.L)*z):=by
 have ha:=(YQ.1 hs).1;refine ZN fun i=> ?_;unfold nq;rw [abd,aal,aal,abd];by_cases hi:a=i
 ·subst hi;rw [YA rfl,YA rfl,YA Yv,YA (by simpa using ha),hs]
  rfl
 ·rw [YB hi,YB hi]
theorem FK {b:List SR}{a:Nat}{s:SR}{u:Dyadic} (hs:b[a]?=some s) (hu:us[a]?=some u):(nq b us)[a]?=some (s.L+(s.H-s.L)*u):=by
 unfold nq;rw [abd,hs,hu]
 rfl
theorem G4 {α:Type}:∀(l:List α) (x y:α) (k:List α),(l++x::k).set l.length y=l++y::k
 |[],_,_,_=>rfl
 |z::l,x,y,k=>by
  show z::(l++x::k).set l.length y=_;rw [G4 l x y k]
  rfl
variable {C:List Dyadic}{kb:Nat}
def EU:List (Nat→Dyadic)→List Nat→Dyadic
 |f::fs,r::rs=>f r*EU fs rs
 |_,_=>1
theorem Cv:∀(ds:List Nat) (a:Nat) (M:Nat→Nat→Dyadic) (G:List Nat→Dyadic) (fs:List (Nat→Dyadic)) (f f':Nat→Dyadic),a<ds.length→fs.length=ds.length→
  (∀i,i≤ds.getD a 0→sm (List.range (ds.getD a 0+1)) (fun k=>M i k*f k)=f' i)→
  sR ds (fun row=>sm (List.range (ds.getD a 0+1)) (fun i=>G (row.set a i)*M i (row.getD a 0))*EU (fs.set a f) row)=sR ds fun row=>G row*EU (fs.set a f') row
 |d::ds,0,M,G,u::fs,f,f',_,_,h=>by
  simp only [sR,List.getD_cons_zero,YM,EU] at h ⊢;have e1:∀r,sR ds (fun row=>sm (List.range (d+1)) (fun i=>G (i::row)*M i r)*(f r*EU fs row))=sm (List.range (d+1)) fun i=>sR ds (fun row=>G (i::row)*EU fs row)*(M i r*f r):=fun r=>by
   rw [bY (l:=List.range (d+1)) (g:=fun i=>sR ds fun row=>G (i::row)*EU fs row*(M i r*f r)) fun i _=>(AF ds _ _).symm,←St];refine mw fun row _=> ?_;rw [←oI];exact bY fun i _=>by grind
  rw [bY fun r _=>e1 r,uB];refine bY fun i hi=> ?_;have hi2:=ZA.1 hi;rw [ld,h i Yv,←AF];exact mw fun row _=>by grind
 |d::ds,a+1,M,G,u::fs,f,f',h1,h2,h=>by
  simp only [sR,List.getD_cons_succ,Zg,EU] at h ⊢;refine bY fun r _=> ?_;have ih:=Cv ds a M (fun row=>G (r::row)) fs f f' (by simpa using h1) (by simpa using h2) h;have e1:∀(F:List Nat→Dyadic) (us:List (Nat→Dyadic)),sR ds (fun row=>F row*(u r*EU us row))=sR ds (fun row=>F row*EU us row)*u r:=fun F us=>by
   rw [←AF];exact mw fun row _=>by grind
  rw [e1,e1,ih]
def vG (ds:List Nat) (X:List Dyadic) (fs:List (Nat→Dyadic)):Dyadic:=sR ds fun row=>co ds X row*EU fs row
theorem K9 {a:Nat}{M:Nat→Nat→Dyadic}{fs:List (Nat→Dyadic)}{f f':Nat→Dyadic} (ha:a<ds.length) (hl:fs.length=ds.length) (h:∀i,i≤ds.getD a 0→sm (List.range (ds.getD a 0+1)) (fun k=>M i k*f k)=f' i):vG ds (iq ds a M X) (fs.set a f)=vG ds X (fs.set a f'):=by
 unfold vG;rw [←Cv ds a M (co ds X) fs f f' ha hl h];exact mw fun row hr=>by rw [y3 a M X hr]
def re (ds:List Nat) (ts:List Dyadic):List (Nat→Dyadic):=List.zipWith (fun d t r=>ke d r t) ds ts
def Tj (ts:List Dyadic):List (Nat→Dyadic):=ts.map fun t r=>t^r
theorem Ii:∀(ds row:List Nat) (ts:List Dyadic),kj ds row ts=EU (re ds ts) row
 |[],_,_=>rfl
 |_::_,_,[]=>by cases ‹List Nat› <;>rfl
 |_::_,[],_::_=>rfl
 |d::ds,r::row,t::ts=>by
  show ke d r t*kj ds row ts=ke d r t*EU (re ds ts) row;rw [Ii]
theorem IB:∀(row:List Nat) (ts:List Dyadic),eU row ts=EU (Tj ts) row
 |[],[]=>rfl
 |[],_::_=>rfl
 |_::_,[]=>rfl
 |r::row,t::ts=>by
  show t^r*eU row ts=t^r*EU (Tj ts) row;rw [IB]
def uf (ds:List Nat) (ts:List Dyadic) (k:Nat):List (Nat→Dyadic):=(re ds ts).take (ds.length-k)++(Tj ts).drop (ds.length-k)
theorem KB {ts:List Dyadic} (hl:ts.length=ds.length) (k:Nat):(uf ds ts k).length=ds.length:=by
 unfold uf re Tj;simp;omega
theorem Bi {ts:List Dyadic} (hl:ts.length=ds.length) (k i:Nat):(uf ds ts k)[i]?=if i<ds.length-k then (re ds ts)[i]? else (Tj ts)[i]?:=by
 have hb:(re ds ts).length=ds.length:=by unfold re;simp;omega
 unfold uf;by_cases h:i<ds.length-k
 ·rw [YA h,aaM (by rw [YW];omega),List.getElem?_take_of_lt h]
 ·rw [YB h,ZQ (by rw [YW];omega),YW,Z6];congr 1;omega
theorem K7 {d i:Nat} (t:Dyadic) (h:i≤d):sm (List.range (d+1)) (fun k=>fm d 1 (-1) i k*t^k)=ke d i t:=by
 have e0:(fun k=>fm d 1 (-1) i k*t^k)=fun k=>if k<i then 0 else (fun j=>nD (bin (d-i) j)*(-1)^j*t^(j+i)) (k-i):=funext fun k=>by
  unfold fm;by_cases hk:k<i
  ·rw [YA hk,YA hk,Dyadic.zero_mul]
  ·rw [YB hk,YB hk,mi];show nD (bin (d-i) (k-i))*1*(-1)^(k-i)*t^k=nD (bin (d-i) (k-i))*(-1)^(k-i)*t^(k-i+i);rw [Nat.sub_add_cancel Yv];grind
 rw [e0,VF d i h fun j=>nD (bin (d-i) j)*(-1)^j*t^(j+i)];have e1:∀j,j∈List.range (d-i+1)→nD (bin (d-i) j)*(-1)^j*t^(j+i)=t^i*(nD (bin (d-i) j)*(-1*t)^j*1^(d-i-j)):=fun j hj=>by
  rw [oZ,pk,mi];grind
 rw [bY e1,ld,Vt];unfold ke;rw [show -1*t+1=1-t by grind]
theorem LQ {ds:List Nat}{X ts:List Dyadic} (hl:ts.length=ds.length):∀k,k≤ds.length→vG ds (AH ds X k) (uf ds ts k)=nB ds X ts
 |0,_=>by
  rw [PO];unfold vG;refine mw fun row _=> ?_;rw [Ii];unfold uf;rw [Nat.sub_zero,YG (by unfold re;simp;omega),ZZ (by unfold Tj;simp;omega),Y9]
  rfl
 |k+1,hk=>by
  rw [←LQ hl k Yv,vW];have ha:ds.length-1-k<ds.length:=Yv;obtain ⟨d,hd⟩:=ao ha;obtain ⟨t,ht⟩:=ao (l:=ts) (k:=ds.length-1-k) Yv;have hg:ds.getD (ds.length-1-k) 0=d:=by rw [Zo,hd];rfl
  have hm:=KB hl k;have hlow:(uf ds ts k)[ds.length-1-k]?=some fun r=>ke d r t:=by
   rw [Bi hl,YA Yv];unfold re;rw [List.getElem?_zipWith,hd,ht]
  have e1:uf ds ts (k+1)=(uf ds ts k).set (ds.length-1-k) fun r=>t^r:=by
   refine ZN fun i=> ?_;rw [aal,Bi hl,Bi hl,hm];by_cases hi:ds.length-1-k=i
   ·subst hi;rw [YB Yv,YA rfl,YA ha];unfold Tj;rw [YN,ht]
    rfl
   ·rw [YB hi];by_cases h1:i<ds.length-(k+1)
    ·rw [YA h1,YA Yv]
    ·rw [YB h1,YB Yv]
  have e2:uf ds ts k=(uf ds ts k).set (ds.length-1-k) fun r=>ke d r t:=by
   refine ZN fun i=> ?_;rw [aal,hm];by_cases hi:ds.length-1-k=i
   ·subst hi;rw [YA rfl,YA ha,hlow]
   ·rw [YB hi]
  rw [e1]
  conv=>rhs;rw [e2]
  refine K9 ha hm fun i hi=> ?_;rw [hg] at hi ⊢;exact K7 t hi
theorem Lo {ts:List Dyadic} (hl:ts.length=ds.length):sm (List.range (aA ds)) (fun p=>iX (AH ds X ds.length) p*eU (dy ds p) ts)=nB ds X ts:=by
 rw [←LQ hl ds.length (YE _)];unfold vG uf;rw [Zu,ZS,abt,YH,←M6];refine bY fun p hp=> ?_;rw [xj (ZA.1 hp),IB]
 rfl
def wT (b:List SR) (ns:List Nat):Nat→Dyadic
 |0=>1
 |i+1=>wT b ns i*mu b i^(ns.getD i 0)
theorem H9 {b:List SR}{i:Nat}{s:SR} (h:b[i]?=some s):mu b i=s.H-s.L:=by unfold mu;rw [h]
theorem Kw {b:List SR}{ns es:List Nat}{us:List Dyadic} (hl:es.length=ns.length) (hu:us.length=ns.length) (he:∀(i d r:Nat),ns[i]?=some d→es[i]?=some r→r≤d):∀i,i≤ns.length→wP b ns es i*eU (es.take i) ((us.mapIdx fun i u=>mu b i*u).take i)=wT b ns i*eU (es.take i) (us.take i)
 |0,_=>rfl
 |i+1,hi=>by
  have ih:=Kw (b:=b) hl hu he i Yv;obtain ⟨d,hd⟩:=ao (l:=ns) (k:=i) Yv;obtain ⟨r,hr⟩:=ao (l:=es) (k:=i) Yv;obtain ⟨u,hu1⟩:=ao (l:=us) (k:=i) Yv;have hrd:=he i d r hd hr;have hy:(us.mapIdx fun i u=>mu b i*u)[i]?=some (mu b i*u):=by rw [abd,hu1];rfl
  have g1:ns.getD i 0=d:=by rw [Zo,hd];rfl
  have g2:es.getD i 0=r:=by rw [Zo,hr];rfl
  rw [aC hr,aC hu1,aC hy,pI _ _ _ _ (by simp;omega),pI _ _ _ _ (by simp;omega),wP,wT,g1,g2,pk];have e:=oZ (mu b i) (d-r) r;rw [Nat.sub_add_cancel hrd] at e;rw [e];generalize mu b i^(d-r)=x at*;generalize mu b i^r=y at*;generalize u^r=z at*;have e2:wP b ns es i*x*(eU (es.take i) ((us.mapIdx fun i u=>mu b i*u).take i)*(y*z))=(wP b ns es i*eU (es.take i) ((us.mapIdx fun i u=>mu b i*u).take i))*(x*y*z):=by grind
  rw [e2,ih];grind
theorem Cx {v i:Nat}{s:SR} (hx:xs.length=v) (hi:i<v):kA xs (mh v i s)=(xs[i]?).getD 0+ -1*s.L:=by
 unfold mh fP kt;rw [dZ,mX,dZ,dZ];have e1:kA xs [⟨du v,nR (-s.L)⟩]= -1*s.L:=by
  show (nR (-s.L)).d*eU (cV (du v)) xs+0=_;rw [cj,yR,mG];grind
 have e2:kA xs [⟨j3 v i,nR ((1:Int):Dyadic)⟩]=(xs[i]?).getD 0:=by
  exact Ux
 rw [e1,e2]
theorem LJ {b:List SR} (hu:us.length=b.length):(gM b).map (fun g=>kA (nq b us) g.ts)=us.mapIdx fun i u=>mu b i*u:=by
 have hp:(nq b us).length=b.length:=by unfold nq;simp
 refine ZN fun i=> ?_;rw [YN,abd]
 cases hs:b[i]? with
 |none=>
  have hi:=List.getElem?_eq_none_iff.1 hs;rw [Y7 (by rw [tm];exact hi),Y7 (l:=us) Yv]
  rfl
 |some s=>
  have hi:=(YQ.1 hs).1;obtain ⟨u,hu1⟩:=ao (l:=us) (k:=i) Yv;have il:=Cx (s:=s) hp hi;have hx:=nW hs;generalize mh b.length i s=Q at il hx;rw [hx,hu1,Z0,Z0];congr 1;show kA (nq b us) Q=mu b i*u;rw [il,FK hs hu1,H9 hs];show s.L+(s.H-s.L)*u+ -1*s.L=_;grind
theorem PR {b:List SR}{ns:List Nat} (hnl:ns.length=b.length) (hlow:∀d∈ns,d≤127) (hu:us.length=b.length) (h0:(eH (ub b ns (AH ns.reverse X ns.length)) (gM b)).1=0):kA (nq b us) (eH (ub b ns (AH ns.reverse X ns.length)) (gM b)).2=wT b ns b.length*nB ns.reverse X us.reverse:=by
 rw [Tt h0,LJ hu];show kA _ (aF (ll b ns (AH ns.reverse X ns.length)))=_;rw [dZ];unfold kA;rw [vn];unfold ll;rw [kg,←Lo (ds:=ns.reverse) (by simp;omega),←ld,de,Zs];generalize AH ns.reverse X ns.length=C;refine bY fun p hp=> ?_;have ec:(JW b ns C p).c.d=iX C p*wP b ns (fg ns p) b.length:=cj _;have em:cV (JW b ns C p).m=fg ns p:=rZ hlow;rw [ec,em];have hrl:=iC ns p;have h1:=Kw (b:=b) (us:=us) hrl Yv (fun i d r hd hr=>oP hd hr) ns.length (YE _);rw [YG Yv,YG (by simp;omega),YG Yv,hnl] at h1;have h2:=BJ (dy ns.reverse p) us.reverse (by rw [u6,Zs,Zs];omega);rw [aaT] at h2;rw [←h2,show (dy ns.reverse p).reverse=fg ns p from rfl];generalize eU (fg ns p) us=m1 at*;generalize eU (fg ns p) (us.mapIdx fun i u=>mu b i*u)=m2 at*;generalize wP b ns (fg ns p) b.length=m3 at*;generalize wT b ns b.length=m4 at*;grind
theorem zw:∀(s:List Nat) (zs:List Dyadic) (k:Nat),cW fun x=>eU s (zs.set k x)
 |[],zs,k=>(cW.const 1).of fun t=>by cases zs.set k t<;>rfl
 |a::s,[],k=>(cW.const 1).of fun t=>rfl
 |a::s,z::zs,0=>((cW.id.pow a).mul (cW.const (eU s zs))).of fun t=>rfl
 |a::s,z::zs,k+1=>((cW.const (z^a)).mul (zw s zs k)).of fun t=>rfl
theorem DB (l:List TR) (zs:List Dyadic) (k:Nat):cW fun x=>kA (zs.set k x) l:=
 (cW.sm l (F:=fun (t:TR) x=>t.c.d*eU (cV t.m) (zs.set k x)) fun t _=>(cW.const _).mul (zw _ zs k)).of fun x=>vn (fun m=>eU (cV m) (zs.set k x)) l
theorem DE {b:List SR}{l k:List TR} (hw:∀s∈b,s.H-s.L≠0) (h:∀us:List Dyadic,us.length=b.length→kA (nq b us) l=kA (nq b us) k):∀i,i≤b.length→∀xs us:List Dyadic,xs.length=b.length→us.length=b.length→kA (xs.take i++(nq b us).drop i) l=kA (xs.take i++(nq b us).drop i) k
 |0,_,xs,us,_,hu=>h us hu
 |i+1,hi,xs,us,hx,hu=>by
  have ih:=DE hw h i Yv;obtain ⟨s,hs⟩:=ao (l:=b) (k:=i) Yv;obtain ⟨x,hx1⟩:=ao (l:=xs) (k:=i) Yv;have hset:∀z,(xs.take (i+1)++(nq b us).drop (i+1)).set i z=xs.take i++z::(nq b us).drop (i+1):=fun z=>by
   rw [aC hx1,Ze,List.singleton_append];have:=G4 (xs.take i) x z ((nq b us).drop (i+1));rwa [YW,ZB Yv] at this
  have e0:xs.take (i+1)++(nq b us).drop (i+1)=(xs.take (i+1)++(nq b us).drop (i+1)).set i x:=by
   rw [hset,aC hx1,Ze,List.singleton_append]
  have hp:=(DB l (xs.take (i+1)++(nq b us).drop (i+1)) i).add ((cW.const (-1)).mul (DB k (xs.take (i+1)++(nq b us).drop (i+1)) i));have h0:=hp.W9 (L:=s.L) (hw s (YF hs)) (fun t=>by
   have e1:(xs.take (i+1)++(nq b us).drop (i+1)).set i (s.L+(s.H-s.L)*t)=xs.take i++(nq b (us.set i t)).drop i:=by
    rw [hset,N7 hs hu];congr 1;have hpl:i<(nq b us).length:=by unfold nq;simp;omega
    rw [ZR (l:=(nq b us).set i (s.L+(s.H-s.L)*t)) (i:=i) (by rw [aaX];exact hpl),List.getElem_set_self,List.drop_set_of_lt (Nat.lt_succ_self i)]
   have:=ih xs (us.set i t) hx (by rw [aaX];exact hu);rw [←e1] at this;show _+ -1*_=(0:Dyadic);rw [this];grind) x
  rw [e0];have h0':kA ((xs.take (i+1)++(nq b us).drop (i+1)).set i x) l+ -1*kA ((xs.take (i+1)++(nq b us).drop (i+1)).set i x) k=0:=h0;grind
theorem P1 {b:List SR}{k:List TR} (hw:∀s∈b,s.H-s.L≠0) (h:∀us:List Dyadic,us.length=b.length→kA (nq b us) l=kA (nq b us) k) (xs:List Dyadic) (hx:xs.length=b.length):kA xs l=kA xs k:=by
 have:=DE hw h b.length (YE _) xs xs hx hx;rwa [YG Yv,ZZ (by unfold nq;simp),Y9] at this
theorem BN (v i:Nat) (s:SR):kG (fun x=>if x=i then 1 else 0) (mh v i s):=
 kG.aF (kG.append (Bb v i _).aF ((nN v _).aF.mono fun x=>YD _))
theorem Mq {b:List SR}{ns:List Nat} (hbl:b.length=ns.length) (hpos:0<b.length) (h12:ns.length≤12) (hlow:∀d∈ns,d≤127) (hb:∀s∈b,s.fin kb) (hkb:kb≤1000) (hm:∀t∈ll b ns C,eY (ns.length:Int) t=true) (hN:aA ns≤1000):(eH (ub b ns C) (gM b)).1=0∧fj (ns.length:Int) (eH (ub b ns C) (gM b)).2=0:=by
 have hfl:=tm b;refine Jr (v:=ns.length) (T:=2) (N:=1000) (ds:=ns) h12 ?_ (show (ns.length:Int)=((gM b).length:Int) by omega) Yv rfl Yv (fun i g hg=> ?_) (fun i d hd=>⟨hlow d (YF hd),fun t ht=> ?_⟩) hN Yw
 ·exact eO (eW h12) (Y2 (bK _) (by rw [qR];omega)) hm
 ·have hi:=(YQ.1 hg).1;obtain ⟨z,hz⟩:=ao (l:=b) (k:=i) Yv;rw [nW hz] at hg;obtain ⟨a1,a2⟩:=rg (v:=b.length) (i:=i) Yv (hb z (YF hz)) Yv;have a3:=BN b.length i z;obtain rfl:=Zl hg;rw [←hbl];dsimp only;refine ⟨rfl, ?_, ?_, ?_⟩
  ·exact a1.e
  ·exact a2
  ·exact a3
 ·obtain ⟨s,hs,e⟩:=gZ t ht;obtain ⟨p,_,rfl⟩:=YR.1 hs;have em:cV (JW b ns C p).m=fg ns p:=rZ hlow;rw [uw,←e,em]
  cases hr:(fg ns p)[i]? with
  |none=>exact YD _
  |some r=>exact oP hd hr
theorem Mi {b:List SR}{s:SR} (h:g9 b=0) (hs:s∈b):s.lo.d<s.hi.d:=by
 unfold g9 at h;by_cases h1:b.any (fun s=> !decide (s.lo.d<s.hi.d))=true
 ·rw [YA h1] at h;omega
 ·rw [Bool.not_eq_true,aaa] at h1;have:=h1 s hs;simpa using this
theorem RB {b:List SR}{s:SR} (h:g9 b=0) (hs:s∈b):s.L=s.lo.d∧s.H=s.hi.d:=by
 have h1:=Mi h hs;have h2:¬s.hi.d<s.lo.d:=by grind
 unfold SR.L SR.H Ul Uk;rw [YB h2,YA h1];exact ⟨rfl,rfl⟩
theorem On {b:List SR}{s:SR} (h:g9 b=0) (hs:s∈b):s.H-s.L≠0:=fun c=>by
 obtain ⟨h1,h2⟩:=RB h hs;have:=Mi h hs;rw [h1,h2] at c;grind
structure Xl (p:PX) (b:List SR) (fx:FX) (ns:List Nat):Prop where
 e:jB fx b=0
 q:(lv fx b).2=aF (p.ts.map (nP (wT b ns b.length)))
 s:wz p (wT b ns b.length)=0
 n:(aF (p.ts.map (nP (wT b ns b.length)))).length≤8
theorem xL (p:PX) (c:NR) (k:Nat) (w:World) (hp:p.at_ w) (lp:p.j8 k) (hc:c.ok∧Sz k c.d) (hk:k≤400000):
  Calls Tryz.prog 147 #[.agg #[.int .i64 p.v,.slice p.A p.n p.c],.agg #[.bool c.neg,.string c.bj,.int .i64 c.e]] w fun r w'=>∃g:PX,dW (wz p c.d) p.v (aF (p.ts.map (nP c.d))) g∧r=.returned (.tuple #[.agg #[.int .i64 g.v,.slice g.A g.n g.c],.int .i64 (wz p c.d)])∧Hp w [g.row] w':=by
 have hh:=Hp.start w;have hck:=fun w1 hb=>wV p k w1 (hp.ext hb) lp;unfold wz;by_cases h0:p.e=0
 ·rw [YA h0];rw [h0] at hck;obtain ⟨_,h4,_,_⟩:=cB h0;have hpl:p.ts.length=p.n:=hp.ln;have hpn:=lp.n;refine Se ?_;refine sr ?_;refine cu hh [_,_] ?_;intro b2 w2 hh;refine cu hh [_,_,_] ?_;intro b3 w3 hh;refine bW hh ?_;intro b4 w4 hh;refine aI (aa (ai (sr ?_)));refine cC hh 2 [_,_] ?_;refine bA hh (hck _ hh.below) rfl ?_;intro w10 hh;refine aI (aa (sr (mI ?_)));refine db (aa (cF (au (aj (sr (aL (aa (ai (sr (aI (aa (av ?_))))))))))));replace hh:=hh.cN 80 4;refine bC [7,8,15,16,17,18,19,20,21,22,23,24,25,26,27,28,29,30,31,32,33,34,35,36,37,38,39] 7 8
   (fun a v w'=>∃(i:Nat) (M:List TR) (A:Option Addr) (cc:Nat),i≤p.n∧v=.int .i64 i∧M=(p.ts.take i).map (nP c.d)∧a=.slice A M.length cc∧Hp w [.row A M.length cc 80 4 (aD TR.cells M),.blk b4 24 [.int .i64 0,.slice none 0 0] (0,0),.blk b3 40 [.bool c.neg,.string c.bj,.int .i64 c.e] (0,0),.blk b2 24 [.int .i64 p.v,.slice p.A p.n p.c] (0,0)] w')
   (fun _ v _=>p.n-(intOf v).toNat) ?_ ?_
  ·exact ⟨0,[],none,0,YD _,rfl,rfl,rfl,hh⟩
  ·clear hh;rintro ρ' a_ v w' ⟨i,M,A,cc,hi,rfl,hM,rfl,hh⟩;have hMl:M.length≤i:=by rw [hM,YO,YW];omega
   by_cases hlt:i<p.n
   ·obtain ⟨x,hx⟩:=ao (l:=p.ts) (k:=i) Yv;obtain ⟨ad,hpA,hr⟩:=hp.at_ Yv;have hxo:=lp.ok x (YF hx);have htm:=fun w1=>kv x.c c w1 (by have:=hxo.1.1;omega) (by have:=hc.1.1;omega) (by have:=hxo.1.2.1;omega) (by have:=hxo.1.2.2;omega) (by have:=hc.1.2.1;omega) (by have:=hc.1.2.2;omega);rw [hpA] at hh;refine ai (sr (mI (bJ ?_)));refine bG hh 3 ?_;refine aK ?_;refine HV ?_;refine aW 17 [[(7,none)],[(2,none)],[(23,some 1)],[(8,none)],[(24,some 2),(25,some 3)],[(26,some 4)],[(27,some 5)],[(2,none)],[(29,some 7)],[(8,none)],[(30,some 8),(31,some 9)],[(32,some 10)],[(33,some 11)],[(3,none)],[(34,some 12),(35,some 13)],[(28,some 6),(36,some 14)],[(37,some 15)]] [(16,38),(15,37),(14,36),(13,35),(12,34),(11,33),(10,32),(9,31),(8,30),(7,29),(6,28),(5,27),(4,26),(3,25),(2,24),(1,23),(0,22)] hh mixed Yx ?_;refine eQ ?_;refine cX ?_;refine dT 3 ?_;refine cZ ?_;refine jA (i) ?_;refine qG ?_;refine Lb ?_;refine cX ?_;refine dT 3 ?_;refine cZ ?_;refine jA (i) ?_;refine qG ?_;refine nF [_,_,_] (fun _ hj=>((hr.ext hj.hp.below).recAt TR.len hx).drop 1) ?_;refine ef 2 [_,_,_] ?_
    refine dC (fun _ hj=>htm _) ?_;refine dB [_,_,_,_] ?_;refine pL [_,_,_,_] ?_;refine aM ?_;intro f W hJ hV;have hb_8:=hJ.bl;obtain ⟨v38,v37,v36,v35,v34,v33,v32,v31,v30,v29,v28,v27,v26,v25,v24,v23,v22,_⟩:=hV;obtain ⟨A38,c38,e38,f38⟩:Rows _ _ _ (f 16) W:=v38;replace hh:=hJ.hp;refine aQ (bg (ae e38 (ae v37 (ae v36 (ae v35 (ae v34 (ae v33 (ae v32 (ae v31 (ae v30 (ae v29 (ae v28 (ae v27 (ae v26 (ae v25 (ae v24 (ae v23 (ae v22 aR)))))))))))))))))) ?_;dsimp only [bO];clear e38 hJ;refine cd hh (i:=0) rfl rfl rfl (f38) bo.out aU.out rfl Yw (by first|rfl|exact dv _|exact cR _|exact br _|exact bD NR.one _) Yv Yv Yw ?_;intro A39 c39 w39 hh;simp only [YM] at hh;refine lC ?_;refine bm (aI (aE (aj ?_)));rw [←hpA] at hh;refine ⟨⟨i+1,M++[⟨x.m,nR (x.c.d*c.d)⟩],A39,c39,Yv,rfl,by rw [aC hx,Zq,hM];rfl,by rw [YK];rfl,by rw [YK,bZ,iB];exact hh⟩,by show p.n-(i+1)<p.n-i;omega, ?_⟩;exact dO
   ·obtain rfl:i=p.n:=Yv;rw [YG Yv] at hM;rw [←hM];refine ai (sr (mI (bJ ?_)));refine bG hh 3 ?_;refine aK ?_;refine a8 (aa (cF (a6 (aH (aH (bB (aj (sr (bJ ?_)))))))));refine bG hh 3 ?_;refine mL ?_;refine aJ (ix p.v A M.length cc M (k+k) _ (hh.aG (i:=0) rfl) Yv (by rw [hM];exact Am lp.ok hc.2 Yv) Yv) aw.out rfl Yw ?_;rintro e_ w43 ⟨g,og,rfl,h3⟩;exact HK
 ·rw [YB h0];refine Se ?_;refine sr ?_;refine cu hh [_,_] ?_;intro b2 w2 hh;refine cu hh [_,_,_] ?_;intro b3 w3 hh;refine bW hh ?_;intro b4 w4 hh;refine aI (aa (ai (sr ?_)));refine cC hh 2 [_,_] ?_;refine bA hh (hck _ hh.below) rfl ?_;intro w10 hh;exact SS
theorem n9 (L:Option Addr) (n c:Nat) (ps:List PX) (k:Nat) (w:World) (hL:Sl w L n 2 (aD PX.cells ps)) (hn:n≤20) (hf:∀g∈ps,g.at_ w) (hl:∀g∈ps,g.j8 k) (hk:k≤2999000):
  Calls Tryz.prog 97 #[.slice L n c] w fun r w'=>∃g:PX,dW (ud ps) (fI ps) (aF (vE ps)) g∧r=.returned (.tuple #[.agg #[.int .i64 g.v,.slice g.A g.n g.c],.int .i64 (ud ps)])∧Hp w [g.row] w':=by
 have hh:=Hp.start w;have hln:=hL.bh PX.len Yw;have hlk:=fun w1 hb=>su L n c ps k w1 (hL.ext hb) Yv (fun g hg=>(hf g hg).ext hb) hl;unfold ud;by_cases h0:eE ps=0
 ·rw [YA h0];rw [h0] at hlk;obtain ⟨hne,il,hvv⟩:=rn h0;have hpos:=List.length_pos_iff.2 hne;obtain ⟨g0,h00⟩:=ao (l:=ps) (k:=0) hpos;rw [jV h00];have hflt:∀i,i≤n→((ps.take i).flatMap PX.ts).length≤i*4096:=fun i hi=>by
   exact Vo
  obtain ⟨ad,rfl,hr⟩:=hL.at_ Yv;refine ak (N:=34) (l:=[.slice (some ad) n c]) Tryz.func97 rfl rfl (by simp) ?_;refine sr ?_;refine bW hh ?_;intro b2 w2 hh;refine aI (aa (ai (sr (mL ?_))));refine bA hh (hlk _ hh.below) rfl ?_;intro w8 hh;refine aI (aa (sr (mI ?_)));refine db (aa (cF (au (aj (sr (aL (aa (ai (sr (aI (aa (av ?_))))))))))));replace hh:=hh.cN 80 4;refine bC [5,6,13,14,15,16,17,18,19,20,21,22,23,24,25] 5 6
   (fun a x w'=>∃(i:Nat) (M:List TR) (A':Option Addr) (c':Nat),i≤n∧x=.int .i64 i∧a=.slice A' M.length c'∧M=(ps.take i).flatMap PX.ts∧Hp w [.row A' M.length c' 80 4 (aD TR.cells M),.blk b2 24 [.int .i64 0,.slice none 0 0] (0,0)] w')
   (fun _ x _=>n-(intOf x).toNat) ?_ ?_
  ·exact ⟨0,[],none,0,YD _,rfl,rfl,rfl,hh⟩
  ·clear hh;rintro ρ' a_ x_ w' ⟨i,M,A',c',hi,rfl,rfl,hM,hh⟩;have hML:=hflt i hi;rw [←hM] at hML;by_cases hlt:i<n
   ·obtain ⟨g,hx⟩:=ao (l:=ps) (k:=i) Yv;have hmem:=YF hx;have hgn:=(hl g hmem).n;have hgl:=(hf g hmem).ln;have oc1:=bD TR.one g.ts;refine ai (sr (mI (mL (aK ?_))));refine C0 ?_;refine gg ?_;refine oL ?_;refine cv aU.out rfl (((hr.ext hh.below).recAt PX.len hx).cell (i:=1) rfl) Yw ?_;refine cd hh (i:=0) rfl rfl rfl ((hf g hmem).ext hh.below) bo.out aU.out rfl Yw ?one15 Yv Yv Yw ?kk15
    case one15=>first|rfl|assumption|exact br _|exact oneCells_u8s _
    intro A25 c25 w25 hh;simp only [YM] at hh;refine lC ?_;refine bm (aI (aE (aj ?_)));refine ⟨⟨i+1,M++g.ts,A25,c25,Yv,rfl,by rw [YK,hgl];rfl,by rw [yh hx,hM],by rw [YK,hgl,bZ];exact hh⟩,by show n-(i+1)<n-i;omega, ?_⟩;exact dO
   ·obtain rfl:i=n:=Yv;rw [YG Yv] at hM;have hMf:M=vE ps:=hM;rw [←hMf];refine ai (sr (mI (mL (aK ?_))));refine DZ ?_;refine gg ?_;refine oL ?_;refine cv aU.out rfl (((hr.ext hh.below).recAt PX.len h00).cell (i:=0) rfl) Yw ?_;refine mL ?_;have hMo:ja k M:=fun t ht=>by
     rw [hM] at ht;obtain ⟨g,hg,ht⟩:=aai.1 ht;exact (hl g hg).ok t ht
    refine aJ (ix g0.v A' M.length c' M k _ (hh.aG (i:=0) rfl) Yv hMo Yv) aw.out rfl Yw ?_;rintro e_ w31 ⟨g,og,rfl,h3⟩;exact HK
 ·rw [YB h0];generalize eE ps=e at*;refine ak (N:=34) (l:=[.slice L n c]) Tryz.func97 rfl rfl (by simp) ?_;refine sr ?_;refine bW hh ?_;intro b2 w2 hh;refine aI (aa (ai (sr (mL ?_))));refine bA hh (hlk _ hh.below) rfl ?_;intro w8 hh;exact SS
theorem AA (v:Nat) (c:NR):aF [⟨du v,c⟩]=fP v c.d:=
 si (dQ _) (dQ _) fun m=>by
  unfold fP;rw [lz,lz,fe,fe];show (if du v=m then c.d else 0)+_=(if du v=m then (nR c.d).d else 0)+_;rw [cj]
variable {F G:List Dyadic→Dyadic}{j:Nat}{p:List TR}
structure ma (v k:Nat) (B:Nat→Nat) (F:List Dyadic→Dyadic) (ts:List TR):Prop where
 o:lr (v:Int) k ts
 b:kG B ts
 ev:∀xs:List Dyadic,xs.length=v→kA xs ts=F xs
theorem ma.of {v:Nat}{B C:Nat→Nat} (h:ma v k B F ts) (hk:k≤j) (hB:∀i,B i≤C i) (hF:∀xs:List Dyadic,xs.length=v→F xs=G xs):ma v j C G ts:=⟨h.o.mono hk,h.b.mono hB,fun xs hx=>(h.ev xs hx).trans (hF xs hx)⟩
theorem vU {v:Nat}{t:TR} (h:eY (v:Int) t=true):t.m.size=v:=by
 unfold eY at h;rw [YU,YY] at h;omega
def tZ (ns:List Nat) (i:Nat):Nat:=ns.getD i 0
theorem P0 (ns:List Nat):(List.range ns.length).map (tZ ns)=ns:=by
 refine ZN fun i=> ?_;rw [YN];unfold tZ
 rcases Zj i ns.length with h|h
 ·obtain ⟨d,hd⟩:=ao h;rw [Zx h,hd,Z0,Zo,hd]
  rfl
 ·rw [Y7 (by rw [aav];exact h),Y7 h]
  rfl
theorem Ia {ns:List Nat} (hc:Canon l) (hm:∀t∈l,eY (ns.length:Int) t=true) (hb:kG (tZ ns) l):l.length≤aA ns:=by
 have:=Gz hc.sO (Mf (fun t ht=>vU (hm t ht)) hb);rwa [P0] at this
theorem ma.len {ns:List Nat}{B:Nat→Nat} (h:ma ns.length k B F ts) (hB:∀i,B i≤tZ ns i):ts.length≤aA ns:=
 Ia (cB h.o.e).2.2.2 (cB h.o.e).2.2.1 (h.b.mono hB)
theorem Gd {ns:List Nat}{M:Nat}{B C:Nat→Nat}{q:List TR} (hp:ma ns.length k B F p) (hq:ma ns.length j C G q) (h7:∀d∈ns,d≤127) (hc:aA ns≤4096) (hB:∀i,B i+C i≤tZ ns i) (hN:p.length≤N) (hM:q.length≤M) (h6:N*M≤65536) (hk:k+j≤800000):
  ep p q=0∧ma ns.length (k+j+N*M) (fun i=>B i+C i) (fun xs=>F xs*G xs) (aF (cg p q)):=by
 obtain ⟨f1,f2,f3,f4⟩:=cB hp.o.e;obtain ⟨g1,g2,g3,g4⟩:=cB hq.o.e;have hl:p.length*q.length≤N*M:=ZV hN hM;have h127:∀i,tZ ns i≤127:=fun i=>by
  unfold tZ;rw [Zo]
  cases hd:ns[i]? with
  |none=>exact YD _
  |some d=>exact h7 d (YF hd)
 have he:∀e∈rC p q,e=0:=fun e he=>by
  obtain ⟨x,hx,he⟩:=aai.1 he;obtain ⟨y,hy,rfl⟩:=YR.1 he;exact ye (f3 x hx) (g3 y hy) fun i=>by
   have:=hp.b x hx i;have:=hq.b y hy i;have:=hB i;have:=h127 i;omega
 have hbn:=(kG.prod hp.b hq.b he).aF;have hcl:=Ia (dQ (cg p q)) (qg (pg f3 he)) (hbn.mono hB);have h0:ep p q=0:=by
  rw [rM Yv he];unfold gF;rw [YB Yv]
 have h1:=C5 hp.o.ok hq.o.ok hq.o.sz h0 Yv;refine ⟨h0,⟨⟨eO f1 Yv (pg f3 he),h1.1.mono Yv,h1.2⟩,hbn,fun xs hx=> ?_⟩⟩;rw [dZ,Dn he,hp.ev xs hx,hq.ev xs hx]
theorem TP {ns:List Nat}{B:Nat→Nat}{q:List TR} (hp:ma ns.length k B F p) (hq:ma ns.length k B G q) (hB:∀i,B i≤tZ ns i) (hc:aA ns≤2048) (hk:k≤800000):
  gF (p++q)=0∧ma ns.length (k+(aA ns+aA ns)) B (fun xs=>F xs+G xs) (aF (p++q)):=by
 obtain ⟨f1,f2,f3,f4⟩:=cB hp.o.e;obtain ⟨g1,g2,g3,g4⟩:=cB hq.o.e;have l1:=hp.len hB;have l2:=hq.len hB;have hl:(p++q).length≤aA ns+aA ns:=by rw [YK];omega
 have hm:∀{P:TR→Prop},(∀t∈p,P t)→(∀t∈q,P t)→∀t∈p++q,P t:=fun h1 h2 t ht=>(Zb.1 ht).elim (h1 t) (h2 t);refine ⟨fB Yv,iO f1 (hm f3 g3) (hm hp.o.ok hq.o.ok) (hm hp.o.sz hq.o.sz) hl Yv Yv,(kG.append hp.b hq.b).aF,fun xs hx=> ?_⟩;rw [dZ,mX,hp.ev xs hx,hq.ev xs hx]
theorem EK {v:Nat}{x:Dyadic} (h:v≤12) (hx:Sz k x) (hk:k≤900000):ma v (k+1) (fun _=>0) (fun _=>x) (fP v x):=
 ⟨lU h hx hk,(nN v _).aF,fun xs _=>by
  unfold fP;rw [dZ];show (nR x).d*eU (cV (du v)) xs+0=_;rw [cj,yR,mG];grind⟩
def l8 (i n x:Nat):Nat:=if x=i then n else 0
def lu (v i:Nat) (s:SR) (sd:Nat):List TR:=if sd=0 then mh v i s else aF (me v i (-1)++fP v s.H)
def pM (i:Nat) (s:SR) (sd:Nat) (xs:List Dyadic):Dyadic:=if sd=0 then (xs[i]?).getD 0+ -1*s.L else s.H+ -1*(xs[i]?).getD 0
theorem HG (v i:Nat) (x:Dyadic):(me v i x).length≤1:=Y2 (bK _) (by rw [YO];exact bK _)
theorem SP {v i:Nat}{s:SR} (sd:Nat) (h:v≤12) (hi:i<v) (hs:s.fin k) (hk:k≤1000):ma v (k+10) (l8 i 1) (pM i s sd) (lu v i s sd)∧(lu v i s sd).length≤2:=by
 by_cases h0:sd=0
 ·obtain ⟨a1,a2⟩:=rg (v:=v) (i:=i) h hs Yv;unfold lu pM;rw [YA h0];simp only [h0,if_true];exact ⟨⟨a1,BN v i s,fun xs hx=>Cx hx hi⟩,a2⟩
 ·unfold lu pM;rw [YB h0];simp only [h0,if_false];have z1:Sz 2 (-1:Dyadic):=(Sz.one.mono (show 1≤2 by decide)).neg;have w1:=uE (i:=i) h z1 Yw;have c1:=lU h (SR.Sx hs) Yv;have hl:(me v i (-1)++fP v s.H).length≤2:=by
   rw [YK];have:=HG v i (-1);have:(fP v s.H).length≤1:=bK _;omega
  have hm:∀{P:TR→Prop},(∀t∈me v i (-1),P t)→(∀t∈fP v s.H,P t)→∀t∈me v i (-1)++fP v s.H,P t:=fun h1 h2 t ht=>(Zb.1 ht).elim (h1 t) (h2 t);have ho:=iO (k:=k+8) (eW h) (hm (cB w1.e).2.2.1 (cB c1.e).2.2.1) (hm (w1.ok.mono Yv) (c1.ok.mono Yv)) (hm w1.sz c1.sz) hl Yw Yv;have hbw:kG (l8 i 1) (me v i (-1)):=by
   refine kG.aF fun t ht j=> ?_;obtain ⟨u,hu,rfl⟩:=YR.1 ht;exact (Bb v i _).aF u hu j
  refine ⟨⟨ho,(kG.append hbw ((nN v _).aF.mono fun x=>YD _)).aF,fun xs hx=> ?_⟩,Y2 (bK _) hl⟩;rw [dZ,mX,(EK h (SR.Sx hs) Yv).ev xs hx];unfold me kt;rw [dZ];unfold kA;rw [Pq];have e2:kA xs (aF [⟨j3 v i,nR ((1:Int):Dyadic)⟩])=(xs[i]?).getD 0:=by
   rw [dZ];exact Ux
  unfold kA at e2;rw [e2];grind
theorem Iu {ns:List Nat}{i d:Nat} (hd:ns[i]?=some d) (h:n≤d) (x:Nat):l8 i n x≤tZ ns x:=by
 unfold l8 tZ;split
 ·rename_i e;rw [e,Zo,hd];exact h
 ·exact YD _
theorem L6 {ns:List Nat}{i d k:Nat}{F:List Dyadic→Dyadic}{p:PX} (hp:ma ns.length k (l8 i 1) F p.ts) (hv:p.v=(ns.length:Int)) (h2:p.ts.length≤2) (h12:ns.length≤12) (h7:∀d∈ns,d≤127) (hc:aA ns≤100) (hd:ns[i]?=some d) (hk:k≤1000):∀n,n≤d→
  (kd p n).2=0∧ma ns.length (25+n*(k+200)) (l8 i n) (fun xs=>F xs^n) (kd p n).1
 |0,_=>by
  have z1:Sz 24 ((1:Int):Dyadic):=Ew (m:=1) (e:=0) Yw Yw Yw;have hc:=EK (v:=ns.length) (k:=24) h12 z1 Yw;have e1:kd p 0=(fP ns.length ((1:Int):Dyadic),0):=by
   unfold kd fP;rw [hv]
   rfl
  rw [e1];have e2:((1:Int):Dyadic)=1:=rfl;clear z1 e1;dsimp only;generalize fP ns.length ((1:Int):Dyadic)=CL at*;refine ⟨rfl,hc.of Yv (fun x=>by unfold l8;exact YD _) fun xs _=> ?_⟩;rw [aaO];exact e2
 |n+1,hn=>by
  have hd7:=h7 d (YF hd);obtain ⟨a1,a2⟩:=L6 hp hv h2 h12 h7 hc hd hk n Yv;have hl:=a2.len (Iu hd Yv);have hnk:n*(k+200)≤127*1200:=ZV Yv Yv;have hs:∀x,l8 i n x+l8 i 1 x=l8 i (n+1) x:=fun x=>by unfold l8;split<;>rfl
  obtain ⟨b1,b2⟩:=Gd (N:=100) (M:=2) a2 hp h7 Yv (fun x=>by rw [hs];exact Iu hd hn x) Yv h2 Yw Yv;rw [mD];unfold eZ;rw [YA a1];exact ⟨b1,b2.of (show 25+n*(k+200)+k+100*2≤25+(n+1)*(k+200) by rw [ZE n];omega) (fun x=>by rw [hs];exact YE _) fun xs _=>(abh _ _).symm⟩
def N0 (b:List SR) (ns row:List Nat) (xs:List Dyadic):Nat→Dyadic
 |0=>1
 |i+1=>N0 b ns row xs i*((match b[i]? with|some s=>pM i s 0 xs|none=>1)^(row.getD i 0)*(match b[i]? with|some s=>pM i s 1 xs|none=>1)^(ns.getD i 0-row.getD i 0))
theorem Kz {b:List SR}{ns row:List Nat}{i d r:Nat}{s:SR} (hs:b[i]?=some s) (hd:ns[i]?=some d) (hr:row[i]?=some r):N0 b ns row xs (i+1)=N0 b ns row xs i*(pM i s 0 xs^r*pM i s 1 xs^(d-r)):=by
 rw [N0,hs,Zo,Zo,hr,hd]
 rfl
theorem tk {A ra:List Nat}{ta:List Dyadic}{d r:Nat}{t:Dyadic} (h1:ra.length=A.length) (h2:ta.length=A.length):kj (A++[d]) (ra++[r]) (ta++[t])=kj A ra ta*ke d r t:=by
 have:=wF (A:=A) (ra:=ra) (ta:=ta) d r t [] [] [] h1 h2;rwa [Y9,Y9,Y9] at this
theorem vz:∀(ds rs:List Nat) (ts:List Dyadic),rs.length=ds.length→ts.length=ds.length→kj ds.reverse rs.reverse ts.reverse=kj ds rs ts
 |[],[],[],_,_=>rfl
 |d::ds,r::rs,t::ts,h1,h2=>by
  rw [aaC,aaC,aaC,tk (by simpa using h1) (by simpa using h2),vz ds rs ts (by simpa using h1) (by simpa using h2),Dyadic.mul_comm]
  rfl
 |[],_::_,_,h,_=>by cases h
 |[],[],_::_,_,h=>by cases h
 |_::_,[],_,h,_=>by cases h
 |_::_,_::_,[],_,h=>by cases h
theorem B9 {b:List SR}{ns row:List Nat}{us:List Dyadic} (hn:ns.length=b.length) (hr:row.length=b.length) (hu:us.length=b.length) (hok:∀(i d r:Nat),ns[i]?=some d→row[i]?=some r→r≤d):∀i,i≤b.length→N0 b ns row (nq b us) i=wT b ns i*kj (ns.take i) (row.take i) (us.take i)
 |0,_=>by
  rw [ZS,ZS,ZS];show (1:Dyadic)=1*1;grind
 |i+1,hi=>by
  have ih:=B9 hn hr hu hok i Yv;obtain ⟨s,hs⟩:=ao (l:=b) (k:=i) Yv;obtain ⟨d,hd⟩:=ao (l:=ns) (k:=i) Yv;obtain ⟨r,hrr⟩:=ao (l:=row) (k:=i) Yv;obtain ⟨u,hu1⟩:=ao (l:=us) (k:=i) Yv;have hrd:=hok i d r hd hrr;have g1:ns.getD i 0=d:=by rw [Zo,hd];rfl
  rw [Kz hs hd hrr,ih,aC hd,aC hrr,aC hu1,tk (by simp;omega) (by simp;omega),wT,g1,H9 hs];have e0:pM i s 0 (nq b us)=(s.H-s.L)*u:=by
   unfold pM;rw [YA rfl,FK hs hu1];show s.L+(s.H-s.L)*u+ -1*s.L=_;grind
  have e1:pM i s 1 (nq b us)=(s.H-s.L)*(1-u):=by
   unfold pM;rw [YB Yw,FK hs hu1];show s.H+ -1*(s.L+(s.H-s.L)*u)=_;grind
  rw [e0,e1,pk,pk];unfold ke;have e:=oZ (s.H-s.L) r (d-r);rw [Nat.add_sub_cancel' hrd] at e;rw [e];grind
def N3 (b:List SR) (ns:List Nat) (X xs:List Dyadic) (r:Nat):Dyadic:=sm (List.range r) fun p=>iX X p*N0 b ns (fg ns p) xs b.length
theorem Np (b:List SR) (ns:List Nat) (X xs:List Dyadic) (r:Nat):N3 b ns X xs (r+1)=N3 b ns X xs r+iX X r*N0 b ns (fg ns r) xs b.length:=by
 unfold N3;rw [aas,jo]
theorem M5 {b:List SR}{ns:List Nat} (hn:ns.length=b.length) (hu:us.length=b.length):N3 b ns X (nq b us) (aA ns)=wT b ns b.length*nB ns.reverse X us.reverse:=by
 unfold N3 nB;rw [de,←ld];refine bY fun p hp=> ?_;have hrl:=iC ns p;rw [B9 hn Yv hu (fun i d r hd hr=>oP hd hr) b.length (YE _),YG Yv,YG Yv,YG Yv];have:=vz ns (fg ns p) us Yv Yv;unfold fg at this ⊢;rw [aaT] at this;rw [this];unfold iX;grind
theorem Dq (L:Option Addr) (n c:Nat) (b:List SR) (s:SR) (i sd k:Nat) (w:World) (hB:Sl w L n 6 (aD SR.cells b)) (hb:∀s∈b,s.fin k) (hbx:g9 b=0) (hn:n≤12) (hk:k≤1000) (hs:b[i]?=some s) (hsd:sd=0∨sd=1):
  Calls Tryz.prog 95 #[.slice L n c,.int .i64 i,.int .i64 sd] w fun r w'=>∃g:PX,dW 0 n (lu n i s sd) g∧r=.returned (.agg #[.int .i64 g.v,.slice g.A g.n g.c])∧Hp w [g.row] w':=by
 have hh:=Hp.start w;have hbl:b.length=n:=hB.bh SR.len Yw;have hlt:i<n:=by have:=(YQ.1 hs).1;omega
 have hsm:=YF hs;have hsf:=hb s hsm;obtain ⟨c1,c2⟩:=RB hbx hsm;have zL:Sz k s.lo.d:=hsf.1.sz;have zH:Sz k s.hi.d:=hsf.2.sz;have vo:=rG (i:=i) hn;have hva:=fun w1=>CY (n:Int) (i:Int) w1;rw [M8 hn hlt,ZL] at hva;have tl1:(kt n i).length≤1:=bK _;have hV:aF [⟨j3 n i,nR ((1:Int):Dyadic)⟩]=kt n i:=rfl;rw [hV] at hva;obtain ⟨ad,rfl,hr⟩:=hB.at_ Yv
 rcases hsd with rfl|rfl
 ·have zN:Sz k (-s.lo.d):=zL.neg;have co:=lU hn zN Yv;have hng:=fun w1=>xd s.lo w1 (by have:=hsf.1.ok.1;omega) (by have:=hsf.1.ok.2;omega) (by have:=hsf.1.ok.2;omega);have hcn:=fun w1=>jS (n:Int) (nR (-s.lo.d)) k w1 ⟨zN.ok Yv,by rw [cj];exact zN⟩ Yv;rw [BZ hn,AA,cj] at hcn;have hP:aF (kt n i++fP n (-s.lo.d))=lu n i s 0:=by unfold lu mh;rw [c1,YA rfl]
  have ul1:(fP n (-s.lo.d)).length≤1:=bK _;clear hV;generalize kt n i=VL at*;generalize fP n (-s.lo.d)=CL at*;generalize lu n i s 0=PL at*;refine ak (N:=73) (l:=[.slice (some ad) n c,.int .i64 i,.int .i64 0]) Tryz.func95 rfl rfl (by simp) ?_;refine sr ?_;refine bW hh ?_;intro b6 w6 hh;refine aa (sr (mL (aK (mI ?_))));refine aJ (hva _) aw.out rfl Yw ?_;rintro e_ w23 ⟨t,ot,rfl,h4⟩;refine ⟨_,rfl, ?_⟩;have htc:t.n≤t.c:=h4.dJ (i:=0) rfl;replace hh:=hh.join h4;clear h4;simp only [YJ,YH] at hh;obtain ⟨tv,tA,tn,tc,tt⟩:=t;replace hh:=show Hp w (.row tA tn tc 80 4 (aD TR.cells tt)::_) _ from hh;have et:VL=tt:=ot.t0.symm;have ev_:tv=(n:Int):=ot.v0;subst et ev_;have tln:VL.length=tn:=(hh.aG (i:=0) rfl).bh TR.len Yw;refine mT ?_;refine dx ?_;refine dx ?_;refine bW hh ?_;intro b7 w7 hh;refine bV hh 0 [_,_] ?_;intro ws hh;replace hh:Hp _ (.blk _ _ [_,_] _::_) _:=hh;refine aI (aa (ai (sr (mI ?_))));refine di (aa (cT (sr (mL (aK (mL (mI ?_)))))));refine cE ?_;refine oL ?_;refine cG (vs:=[_,_,_]) aU.out rfl (((((hr.ext hh.below).recAt SR.len hs).drop 0).take 3)) rfl Yw ?_
  refine bA hh (hng _) rfl ?_;intro w36 hh;refine aJ (hcn _) aw.out rfl Yw ?_;rintro e_ w37 ⟨u,ou,rfl,h4⟩;refine ⟨_,rfl, ?_⟩;have huc:u.n≤u.c:=h4.dJ (i:=0) rfl;replace hh:=hh.join h4;clear h4;simp only [YJ,YH] at hh;obtain ⟨uv,uA,un,uc,ut⟩:=u;replace hh:=show Hp w (.row uA un uc 80 4 (aD TR.cells ut)::_) _ from hh;have et:CL=ut:=ou.t0.symm;have ev_:uv=(n:Int):=ou.v0;subst et ev_;have uln:CL.length=un:=(hh.aG (i:=0) rfl).bh TR.len Yw;refine mT ?_;refine dx ?_;refine dx ?_;refine bW hh ?_;intro b9 w9 hh;refine bV hh 0 [_,_] ?_;intro ws hh;replace hh:Hp _ (.blk _ _ [_,_] _::_) _:=hh;refine aI (aa (sr ?_));refine cC hh 2 [_,_] ?_;refine cC hh 0 [_,_] ?_;refine vg ?_;intro b43 w43 hh;have hlp:eE [⟨n,tA,tn,tc,VL⟩,⟨n,uA,un,uc,CL⟩]=0:=kX vo.e co.e rfl;have had:=fun A3 w1 hS1 s1 s2=>n9 A3 2 2 [⟨n,tA,tn,tc,VL⟩,⟨n,uA,un,uc,CL⟩] (k+3) w1 hS1 Yw (fun g hg=>by
   rcases YS.1 hg with rfl|hg
   ·exact s1
   ·rw [YT.1 hg];exact s2) (fun g hg=>by
   rcases YS.1 hg with rfl|hg
   ·exact ⟨by show tn≤1000000;omega,htc,vo.ok.mono Yv,vo.sz⟩
   ·rw [YT.1 hg];exact ⟨by show un≤1000000;omega,huc,co.ok.mono Yv,co.sz⟩) Yv
  unfold ud at had;rw [YA hlp,yN] at had;dsimp only at had;rw [hP] at had;rw [fB (l:=VL++CL) (by rw [YK];omega)] at had;refine aJ (had _ _ (hh.aG (i:=0) rfl) (hh.aG (i:=4) rfl) (hh.aG (i:=2) rfl)) aw.out rfl Yw ?_;rintro e_ w44 ⟨z,oz,rfl,h4⟩;refine ⟨_,rfl, ?_⟩;replace hh:=hh.join h4;clear h4;simp only [YJ,YH] at hh;replace hh:=show Hp w (.row z.A z.n z.c 80 4 (aD TR.cells z.ts)::_) _ from hh;refine mT ?_;refine dx ?_;refine dx ?_;refine bW hh ?_;intro b11 w11 hh;refine bV hh 0 [_,_] ?_;intro ws hh;replace hh:Hp _ (.blk _ _ [_,_] _::_) _:=hh;refine aI (aa (sr ?_));refine cC hh 0 [_,_] ?_;refine bV hh 7 [_,_] ?_;intro ws hh;replace hh:Hp _ (_::_::_::_::_::_::_::.blk _ _ [_,_] _::_) _:=hh;refine aa (ay (aN ?_));replace hh:=hh.perm (Zh (l₁:=[_]));simp only [YJ,YH] at hh;refine NJ (er rfl (ew (vs:=[_,_]) aU.out (hh.cn (i:=7) (n:=2) rfl rfl) rfl) fF) ?_;exact ⟨z,oz,rfl,hh.sub (.cons_cons _ (Zr _))⟩
 ·have zM:Sz 2 (-1:Dyadic):=(Sz.one.mono (show 1≤2 by decide)).neg;have co:=lU hn zH Yv;have fo:=uE (i:=i) hn zM Yw;have okM:(nR (-1)).ok:=zM.ok Yw;have zM3:Sz 3 (nR (-1)).d:=by rw [cj];exact zM.mono Yw
  have hcn:=fun w1=>jS (n:Int) s.hi k w1 ⟨hsf.2.ok,zH⟩ Yv;rw [BZ hn,AA] at hcn;have hF:aF ((kt n i).map (nP (-1)))=me n i (-1):=rfl;have hP:aF (me n i (-1)++fP n s.hi.d)=lu n i s 1:=by unfold lu;rw [c2,YB Yw]
  have ul1:(fP n s.hi.d).length≤1:=bK _;have fl1:=HG n i (-1);have hof:=fun w1=>gm (-1) w1 Yw Yw;rw [show (((-1:Int)):Dyadic)= -1 from rfl] at hof;clear hV;generalize kt n i=VL at*;have hsc:=fun tA tn tc w1 ha (h1:(VL).length=tn) (h2:tn≤tc)=>xL ⟨n,tA,tn,tc,VL⟩ (nR (-1)) 3 w1 ha ⟨by show tn≤1000000;omega,h2,vo.ok,vo.sz⟩ ⟨okM,zM3⟩ Yw;have hse:∀tA tn tc,wz ⟨n,tA,tn,tc,VL⟩ (-1)=0:=fun tA tn tc=>by
   unfold wz PX.e;rw [vo.e,YA rfl];exact fB (by rw [YO];show (VL).length≤4096;omega)
  simp only [cj,hse,hF] at hsc;clear hF hse;generalize fP n s.hi.d=CL at*;generalize me n i (-1)=FL at*;generalize lu n i s 1=PL at*;refine ak (N:=73) (l:=[.slice (some ad) n c,.int .i64 i,.int .i64 1]) Tryz.func95 rfl rfl (by simp) ?_;refine sr ?_;refine bW hh ?_;intro b6 w6 hh;refine aa (sr (mL (aK (mI ?_))));refine aJ (hva _) aw.out rfl Yw ?_;rintro e_ w23 ⟨t,ot,rfl,h4⟩;refine ⟨_,rfl, ?_⟩;have htc:t.n≤t.c:=h4.dJ (i:=0) rfl;replace hh:=hh.join h4;clear h4;simp only [YJ,YH] at hh;obtain ⟨tv,tA,tn,tc,tt⟩:=t;replace hh:=show Hp w (.row tA tn tc 80 4 (aD TR.cells tt)::_) _ from hh;have et:VL=tt:=ot.t0.symm;have ev_:tv=(n:Int):=ot.v0;subst et ev_;have tln:VL.length=tn:=(hh.aG (i:=0) rfl).bh TR.len Yw;refine mT ?_;refine dx ?_;refine dx ?_;refine bW hh ?_;intro b7 w7 hh;refine bV hh 0 [_,_] ?_;intro ws hh;replace hh:Hp _ (.blk _ _ [_,_] _::_) _:=hh;refine aI (aa (ai (sr (mI ?_))));refine di (aa (cF (au (aj (ai ?_)))))
  refine cP [6] [5] [0,0,3,7,15,15,0,95,255] 7 [[(7,none)],[],[(49,some 0),(50,some 1)],[(51,some 2)],[(48,some 3)],[(48,some 3)],[]] [(6,13),(5,53),(4,52),(3,48),(2,51),(1,50),(0,49)] hh mixed Yx (jL rfl aU.out dr) rfl (by repeat (first|exact cz|refine bU ?_|refine cw ?_)) ?_;refine ef 0 [_,_] ?_;refine dC (fun _ hj=>hof _) ?_;refine aO (i:=2) (eV hh.sz 0 n FL) (eV.ext) ?_ ?_
  ·intro ρ1 w1 hj hR;exact bk rfl (aV aw.out (az (show ρ1 49=Value.agg (List.toArray _) from hR.1) (az (show ρ1 50=Value.agg (List.toArray _) from hR.2.1) bf))) (hsc tA tn tc w1 (hj.hp.aG (i:=1) rfl) tln htc) (fun _ _ ⟨g,og,hq,h3⟩=>⟨_,hq,h3.below,g,w1,rfl,og,hj.bl.size,h3⟩)
  refine aO (i:=3) (eV hh.sz 0 n FL) (eV.ext) ?_ ?_
  ·exact F0
  refine aO (i:=4) (fR hh.sz 0 n FL) (fR.ext) ?_ ?_
  ·exact EJ
  refine aO (i:=5) (Is (.int .i64 0)) (Is.ext) ?_ ?_
  ·exact EO
  refine aO (i:=6) (cS _ 24 _) cS.ext (fun ρ1 w1 hj hR=>gP aU.out hj.bl (fun v w2 h hb=>⟨hb,h⟩)) ?_;refine aM ?_;intro f W hJ hV _;have hb_6:=hJ.bl;obtain ⟨v13,v53,v52,v48,v51,v50,v49,_⟩:=hV;obtain ⟨g51,u51,e51, -⟩:=v51;obtain ⟨g48,u48,e48, -⟩:=v48;obtain ⟨g52,u52,e52,o52,q52,h52⟩:=v52;obtain ⟨b13,e13,hl13,hc13⟩:cS _ _ _ (f 6) W:=v13;replace hh:=hJ.jH hh hl13 hc13 q52 h52 (PX.ne h52 hc13 Yw);refine aQ (bg (ae e13 (ae v53 (ae e52 (ae e48 (ae e51 (ae v50 (ae v49 aR)))))))) ?_;dsimp only [bO];clear e51 e48 e52 e13 hJ;simp only [YJ,YH] at hh;obtain ⟨fv,fA,fn,fc,ft⟩:=g52;replace hh:=show Hp w (_::.row fA fn fc 80 4 (aD TR.cells ft)::_) W from hh;have et:FL=ft:=o52.t0.symm;have ev_:fv=(n:Int):=o52.v0;subst et ev_;have fln:FL.length=fn:=(hh.aG (i:=1) rfl).bh TR.len Yw;have fcc:fn≤fc:=hh.dJ (i:=1) rfl;refine bV hh 0 [_,_] ?_;intro ws hh;replace hh:Hp _ (.blk _ _ [_,_] _::_) _:=hh;refine aI (aa (sr (mL (aK (mL (mI ?_))))));refine cE ?_;refine oL ?_;refine cG (vs:=[_,_,_]) aU.out rfl (((((hr.ext hh.below).recAt SR.len hs).drop 3).take 3)) rfl Yw ?_
  refine aJ (hcn _) aw.out rfl Yw ?_;rintro e_ w62 ⟨u,ou,rfl,h4⟩;refine ⟨_,rfl, ?_⟩;have huc:u.n≤u.c:=h4.dJ (i:=0) rfl;replace hh:=hh.join h4;clear h4;simp only [YJ,YH] at hh;obtain ⟨uv,uA,un,uc,ut⟩:=u;replace hh:=show Hp w (.row uA un uc 80 4 (aD TR.cells ut)::_) _ from hh;have et:CL=ut:=ou.t0.symm;have ev_:uv=(n:Int):=ou.v0;subst et ev_;have uln:CL.length=un:=(hh.aG (i:=0) rfl).bh TR.len Yw;refine mT ?_;refine dx ?_;refine dx ?_;refine bW hh ?_;intro b15 w15 hh;refine bV hh 0 [_,_] ?_;intro ws hh;replace hh:Hp _ (.blk _ _ [_,_] _::_) _:=hh;refine aI (aa (sr ?_));refine cC hh 2 [_,_] ?_;refine cC hh 0 [_,_] ?_;refine vg ?_;intro b68 w68 hh;have hlp:eE [⟨n,fA,fn,fc,FL⟩,⟨n,uA,un,uc,CL⟩]=0:=kX fo.e co.e rfl;have had:=fun A3 w1 hS1 s1 s2=>n9 A3 2 2 [⟨n,fA,fn,fc,FL⟩,⟨n,uA,un,uc,CL⟩] (k+8) w1 hS1 Yw (fun g hg=>by
   rcases YS.1 hg with rfl|hg
   ·exact s1
   ·rw [YT.1 hg];exact s2) (fun g hg=>by
   rcases YS.1 hg with rfl|hg
   ·exact ⟨by show fn≤1000000;omega,fcc,fo.ok.mono Yv,fo.sz⟩
   ·rw [YT.1 hg];exact ⟨by show un≤1000000;omega,huc,co.ok.mono Yv,co.sz⟩) Yv
  unfold ud at had;rw [YA hlp,yN] at had;dsimp only at had;rw [hP] at had;rw [fB (l:=FL++CL) (by rw [YK];omega)] at had;refine aJ (had _ _ (hh.aG (i:=0) rfl) (hh.aG (i:=4) rfl) (hh.aG (i:=2) rfl)) aw.out rfl Yw ?_;rintro e_ w69 ⟨z,oz,rfl,h4⟩;refine ⟨_,rfl, ?_⟩;replace hh:=hh.join h4;clear h4;simp only [YJ,YH] at hh;replace hh:=show Hp w (.row z.A z.n z.c 80 4 (aD TR.cells z.ts)::_) _ from hh;refine mT ?_;refine dx ?_;refine dx ?_;refine bW hh ?_;intro b17 w17 hh;refine bV hh 0 [_,_] ?_;intro ws hh;replace hh:Hp _ (.blk _ _ [_,_] _::_) _:=hh;refine aI (aa (sr ?_));refine cC hh 0 [_,_] ?_;refine bV hh 9 [_,_] ?_;intro ws hh;replace hh:Hp _ (_::_::_::_::_::_::_::_::_::.blk _ _ [_,_] _::_) _:=hh;refine aa (ay ?_);replace hh:=hh.perm (Zh (l₁:=[_]));simp only [YJ,YH] at hh;refine NJ (er rfl (ew (vs:=[_,_]) aU.out (hh.cn (i:=9) (n:=2) rfl rfl) rfl) fF) ?_;exact ⟨z,oz,rfl,hh.sub (.cons_cons _ (Zr _))⟩
def z7 (v:Nat) (l:List TR) (m:Nat):List TR:=(kd ⟨v,none,0,0,l⟩ m).1
theorem Iv {ns:List Nat}{i d:Nat} (hp:ma ns.length k (l8 i 1) F l) (h2:l.length≤2) (h12:ns.length≤12) (h7:∀d∈ns,d≤127) (hc:aA ns≤100) (hd:ns[i]?=some d) (hk:k≤1000) (m:Nat) (hm:m≤d):
  (kd ⟨ns.length,none,0,0,l⟩ m).2=0∧ma ns.length (25+m*(k+200)) (l8 i m) (fun xs=>F xs^m) (z7 ns.length l m):=
 L6 (p:=⟨ns.length,none,0,0,l⟩) hp rfl h2 h12 h7 hc hd hk m hm
theorem MQ (g:PX) (ns:List Nat) (i d m k:Nat) (F:List Dyadic→Dyadic) (w:World) (hg:g.at_ w) (hgc:g.n≤g.c) (hv:g.v=(ns.length:Int)) (hb:ma ns.length k (l8 i 1) F g.ts) (h2:g.ts.length≤2) (h12:ns.length≤12) (h7:∀d∈ns,d≤127) (hc:aA ns≤100) (hd:ns[i]?=some d) (hk:k≤1000) (hm:m≤d):
  Calls Tryz.prog 94 #[.agg #[.int .i64 g.v,.slice g.A g.n g.c],.int .i64 m] w fun r w'=>∃h:PX,dW 0 (ns.length:Int) (z7 ns.length g.ts m) h∧r=.returned (.tuple #[.agg #[.int .i64 h.v,.slice h.A h.n h.c],.int .i64 0])∧Hp w [h.row] w':=by
 have hd7:=h7 d (YF hd);have e:∀j,kd g j=kd ⟨ns.length,none,0,0,g.ts⟩ j:=Co (p:=g) (q:=⟨ns.length,none,0,0,g.ts⟩) hv rfl;have hp:=fun j (hj:j≤m)=>Iv hb h2 h12 h7 hc hd hk j Yv;have hgn:=hg.ln;have lg:g.j8 k:=⟨Yv,hgc,hb.o.ok,hb.o.sz⟩;have hge:g.e=0:=by unfold PX.e;rw [hv];exact hb.o.e
 have h0:BX g m=0:=by
  unfold BX;rw [YA hge,YB Yv,ZL,e];exact (hp m (YE _)).1
 have:=Jo g m k 160000 w hg lg Yw Yv (fun _ j hj _=>by
  rw [ZL] at hj;rw [e];have h8:j*(k+200)≤127*1200:=ZV Yv Yv;exact ((hp j hj).2.o.ok).mono Yv)
 rw [h0,ZL,hv,e] at this;unfold z7;rw [hv];exact this
theorem Te {ns:List Nat}{kq kl kh:Nat}{Bq Bl Bh:Nat→Nat}{Fq Fl Fh:List Dyadic→Dyadic}{q h:List TR} (hq:ma ns.length kq Bq Fq q) (hl:ma ns.length kl Bl Fl l) (hh:ma ns.length kh Bh Fh h) (h7:∀d∈ns,d≤127) (hc:aA ns≤100) (hB:∀i,Bq i+Bl i+Bh i≤tZ ns i) (hk:kq+kl+kh≤300000):
  (ep q l=0∧ja 400000 (aF (cg q l)))∧ep (aF (cg q l)) h=0∧ma ns.length (kq+kl+kh+20000) (fun i=>Bq i+Bl i+Bh i) (fun xs=>Fq xs*Fl xs*Fh xs) (aF (cg (aF (cg q l)) h)):=by
 have hB1:∀i,Bq i+Bl i≤tZ ns i:=fun i=>by have:=hB i;omega
 have l1:=hq.len (fun i=>by have:=hB i;omega);have l2:=hl.len (fun i=>by have:=hB i;omega);have l3:=hh.len (fun i=>by have:=hB i;omega);obtain ⟨a1,a2⟩:=Gd (N:=100) (M:=100) hq hl h7 Yv hB1 Yv Yv Yw Yv;have l4:=a2.len hB1;obtain ⟨b1,b2⟩:=Gd (N:=100) (M:=100) a2 hh h7 Yv hB Yv Yv Yw Yv;exact ⟨⟨a1,a2.o.ok.mono Yv⟩,b1,b2.of Yv (fun i=>YE _) fun xs _=>rfl⟩
theorem K5 (L:Option Addr) (c:Nat) (q l h:PX) (ns:List Nat) (kq kl kh:Nat) (Bq Bl Bh:Nat→Nat) (Fq Fl Fh:List Dyadic→Dyadic) (w:World) (hL:Sl w L 3 2 (aD PX.cells [q,l,h])) (aq:q.at_ w) (al:l.at_ w) (ah:h.at_ w) (cq:q.n≤q.c) (cl:l.n≤l.c) (ch:h.n≤h.c) (vq:q.v=(ns.length:Int)) (vl:l.v=(ns.length:Int)) (vh:h.v=(ns.length:Int))
  (hq:ma ns.length kq Bq Fq q.ts) (hl:ma ns.length kl Bl Fl l.ts) (hh:ma ns.length kh Bh Fh h.ts) (h7:∀d∈ns,d≤127) (hc:aA ns≤100) (hB:∀i,Bq i+Bl i+Bh i≤tZ ns i) (hk:kq+kl+kh≤300000):
  Calls Tryz.prog 96 #[.slice L 3 c] w fun r w'=>∃g:PX,(g.v=(ns.length:Int)∧ma ns.length (kq+kl+kh+20000) (fun i=>Bq i+Bl i+Bh i) (fun xs=>Fq xs*Fl xs*Fh xs) g.ts)∧r=.returned (.tuple #[.agg #[.int .i64 g.v,.slice g.A g.n g.c],.int .i64 0])∧Hp w [g.row] w':=by
 obtain ⟨⟨a1,a2⟩,b1,b2⟩:=Te hq hl hh h7 hc hB hk;have f1:eZ (q.ts,0) l=(aF (cg q.ts l.ts),0):=by unfold eZ;rw [YA rfl,a1]
 have f2:eZ (aF (cg q.ts l.ts),0) h=(aF (cg (aF (cg q.ts l.ts)) h.ts),0):=by unfold eZ;rw [YA rfl,b1]
 have hS:OP [q,l,h]=(aF (cg (aF (cg q.ts l.ts)) h.ts),0):=by
  show eZ (eZ (q.ts,0) l) h=_;rw [f1,f2]
 have hm:∀{P:PX→Prop},P q→P l→P h→∀g∈[q,l,h],P g:=fun h1 h2 h3 g hg=>by
  rcases YS.1 hg with rfl|hg
  ·exact h1
  ·rcases YS.1 hg with rfl|hg
   ·exact h2
   ·rw [YT.1 hg];exact h3
 have ee:∀{g:PX}{k:Nat}{B:Nat→Nat}{F:List Dyadic→Dyadic},g.v=(ns.length:Int)→ma ns.length k B F g.ts→g.e=0:=fun hv hb=>by unfold PX.e;rw [hv];exact hb.o.e
 have hlk:eE [q,l,h]=0:=yK (v:=(ns.length:Int)) (by simp) (hm (ee vq hq) (ee vl hl) (ee vh hh)) (hm vq vl vh);have lm:∀{g:PX}{k:Nat}{B:Nat→Nat}{F:List Dyadic→Dyadic},g.at_ w→g.n≤g.c→ma ns.length k B F g.ts→k≤300000→g.j8 300000:=fun ha hc hb hk=>⟨by have:=ha.ln;have:=hb.o.len;omega,hc,hb.o.ok.mono hk,hb.o.sz⟩;have:=JB L 3 c [q,l,h] 300000 400000 w hL Yw (hm aq al ah) (hm (lm aq cq hq Yv) (lm al cl hl Yv) (lm ah ch hh Yv)) Yw Yw (fun g0 pt e i hi _=>by
  obtain ⟨rfl,rfl⟩:=List.cons.inj e
  match i,hi with
  |0,_=>exact hq.o.ok.mono Yv
  |1,_=>
   show ja 400000 (eZ (q.ts,0) l).1;rw [f1];exact a2
  |2,_=>
   show ja 400000 (eZ (eZ (q.ts,0) l) h).1;rw [f1,f2];exact b2.o.ok.mono Yv
  |i+3,hi=>exact absurd hi (by show ¬i+3≤2;omega))
 have hp0:rO [q,l,h]=0:=by unfold rO;rw [YA hlk,hS]
 rw [hp0,hS] at this;refine this.mono fun r w' ⟨g,R,o,⟨_,_,hR⟩,hr,hp⟩=>⟨g,⟨?_, ?_⟩,hr, ?_⟩
 ·rw [o.v0];exact vq
 ·rw [o.t0];exact b2
 ·rw [hR Yw] at hp;exact hp
theorem Ng (L:Option Addr) (c:Nat) (p q:PX) (ns:List Nat) (k:Nat) (F G:List Dyadic→Dyadic) (w:World) (hL:Sl w L 2 2 (aD PX.cells [p,q])) (ap:p.at_ w) (aq:q.at_ w) (cp:p.n≤p.c) (cq:q.n≤q.c) (vp:p.v=(ns.length:Int)) (vq:q.v=(ns.length:Int)) (hp:ma ns.length k (tZ ns) F p.ts) (hq:ma ns.length k (tZ ns) G q.ts) (hc:aA ns≤100) (hk:k≤500000):
  Calls Tryz.prog 97 #[.slice L 2 c] w fun r w'=>∃g:PX,(g.v=(ns.length:Int)∧ma ns.length (k+200) (tZ ns) (fun xs=>F xs+G xs) g.ts)∧r=.returned (.tuple #[.agg #[.int .i64 g.v,.slice g.A g.n g.c],.int .i64 0])∧Hp w [g.row] w':=by
 obtain ⟨a1,a2⟩:=TP hp hq (fun i=>YE _) Yv Yv;have ee:∀{g:PX}{F:List Dyadic→Dyadic},g.v=(ns.length:Int)→ma ns.length k (tZ ns) F g.ts→g.e=0:=fun hv hb=>by unfold PX.e;rw [hv];exact hb.o.e
 have hlk:eE [p,q]=0:=kX (ee vp hp) (ee vq hq) (vq.trans vp.symm);have hm:∀{P:PX→Prop},P p→P q→∀g∈[p,q],P g:=fun h1 h2 g hg=>by
  rcases YS.1 hg with rfl|hg
  ·exact h1
  ·rw [YT.1 hg];exact h2
 have lm:∀{g:PX}{F:List Dyadic→Dyadic},g.at_ w→g.n≤g.c→ma ns.length k (tZ ns) F g.ts→g.j8 k:=fun ha hc hb=>⟨by have:=ha.ln;have:=hb.o.len;omega,hc,hb.o.ok,hb.o.sz⟩;have:=n9 L 2 c [p,q] k w hL Yw (hm ap aq) (hm (lm ap cp hp) (lm aq cq hq)) Yv;unfold ud at this;rw [YA hlk,yN,a1] at this;refine this.mono fun r w' ⟨g,o,hr,hp⟩=>⟨g,⟨?_, ?_⟩,hr,hp⟩
 ·rw [o.v0];exact vp
 ·rw [o.t0];exact a2.of Yv (fun i=>YE _) fun xs _=>rfl
def XV (b:List SR):Dyadic:=iZ (b.map SR.wid)
def Xt (b:List SR) (v:Int):Prop:=(b=[]∧v= -1)∨∃(m:Nat) (s:SR),b[m]?=some s∧v=m∧(∀(j:Nat) (t:SR),b[j]?=some t→¬s.wid<t.wid)∧∀(j:Nat) (t:SR),j<m→b[j]?=some t→t.wid<s.wid
theorem Vw (a b:NR) (k:Nat) (ha:O3 k a) (hb:O3 k b) (hk:k≤3000000) (w:World):
  Calls Tryz.prog 142 #[.agg #[.bool a.neg,.string a.bj,.int .i64 a.e],.agg #[.bool b.neg,.string b.bj,.int .i64 b.e]] w fun r w'=>r=.returned (.int .i64 (kf a.d b.d))∧Below w.heap.size w w':=
 Eu a b w ha.ok hb.ok (hb.sz.ok Yv) (by have:=((ha.sz.sub hb.sz).ok Yv).1;omega)
theorem pY (L:Option Addr) (n c:Nat) (b:List SR) (k:Nat) (w:World) (hS:Sl w L n 6 (aD SR.cells b)) (hb:∀s∈b,s.fin k) (hn:n≤1000000) (hk:k≤3000000):
  Calls Tryz.prog 92 #[.slice L n c] w fun r w'=>r=.returned (.int .i64 (g9 b))∧Below w.heap.size w w':=by
 have hh:=Hp.start w;have hln:=hS.bh SR.len Yw;by_cases h0:n=0
 ·refine ak (N:=25) (l:=[.slice L n c]) Tryz.func92 rfl rfl (by simp) ?_;refine sr (aI (aa (ai (sr (mL (aK ?_))))));refine x6 ?_;refine dh ?_;obtain rfl:b=[]:=ZO Yv;exact ⟨rfl,hh.below⟩
 ·refine ak (N:=25) (l:=[.slice L n c]) Tryz.func92 rfl rfl (by simp) ?_;refine sr (aI (aa (ai (sr (mL (aK ?_))))));refine di (aa (cF (au (aj (ai (sr (aI (aa (av ?_)))))))));refine aT [2,3,7,8,9,10,11,12,13,14,15,16,17,18,19,20,21,22,23,24] 3
   (fun v w'=>∃i:Nat,i≤n∧v=.int .i64 i∧(b.take i).any (fun s=> !decide (s.lo.d<s.hi.d))=false∧Hp w [] w')
   (fun v _=>n-(intOf v).toNat) ?_ ?_
  ·exact ⟨0,YD _,rfl,rfl,hh⟩
  ·clear hh;rintro ρ' v w' ⟨i,hi,rfl,hall,hh⟩;by_cases hlt:i<n
   ·obtain ⟨s,hs⟩:=ao (l:=b) (k:=i) Yv;have ms:=YF hs;obtain ⟨ad,rfl,hr⟩:=hS.at_ Yv;have hc:=fun w1=>Vw s.lo s.hi k (hb s ms).1 (hb s ms).2 hk w1;have e:=GK s.lo.d s.hi.d;generalize kf s.lo.d s.hi.d=cc at*;by_cases g:0≤cc
    ·refine ai (sr (mI (mL (aK ?_))));refine kP ?_;refine SH ?_;refine eQ ?_;refine cZ ?_;refine jA (i) ?_;refine qG ?_;refine nF [_,_,_] (fun _ hj=>(((hr.ext hj.hp.below).recAt SR.len hs).drop 0).take 3) ?_;refine eQ ?_;refine cZ ?_;refine jA (i) ?_;refine qG ?_;refine nF [_,_,_] (fun _ hj=>(((hr.ext hj.hp.below).recAt SR.len hs).drop 3).take 3) ?_;refine aM ?_;intro f W hJ hV;have hb_6:=hJ.bl;obtain ⟨v22,v21,v20,v19,v18,v17,v16,v15,v14,v13,_⟩:=hV;replace hh:=hJ.hp;refine Rp ?_;dsimp only [bO];clear hJ;refine bA hh (hc _) rfl ?_;intro w23 hh;exact VU
    ·refine ai (sr (mI (mL (aK ?_))));refine kP ?_;refine SH ?_;refine eQ ?_;refine cZ ?_;refine jA (i) ?_;refine qG ?_;refine nF [_,_,_] (fun _ hj=>(((hr.ext hj.hp.below).recAt SR.len hs).drop 0).take 3) ?_;refine eQ ?_;refine cZ ?_;refine jA (i) ?_;refine qG ?_;refine nF [_,_,_] (fun _ hj=>(((hr.ext hj.hp.below).recAt SR.len hs).drop 3).take 3) ?_;refine aM ?_;intro f W hJ hV;have hb_6:=hJ.bl;obtain ⟨v22,v21,v20,v19,v18,v17,v16,v15,v14,v13,_⟩:=hV;replace hh:=hJ.hp;refine Rp ?_;dsimp only [bO];clear hJ;refine bA hh (hc _) rfl ?_;intro w23 hh;refine ej (aa (cF (au (bM (aj (ar (mI ?_)))))));refine bm (aI (aE (aj ?_)));exact RG
   ·rw [YG Yv] at hall;refine ai (sr (mI (mL (aK ?_))));refine NI ?_;refine dh ?_;exact ⟨by rw [g9,hall,YB (by simp),YB Yv],hh.below⟩
def Ak (fx:FX) (b:List SR):Int:=if fx.e≠0 then fx.e else if g9 b≠0 then g9 b else if b.length≠fx.n then 1 else 0
theorem I1 (fx:FX) (L:Option Addr) (n c:Nat) (b:List SR) (k:Nat) (w:World) (hf:fx.at_ w) (hl:fx.j8 k) (hB:Sl w L n 6 (aD SR.cells b)) (hb:∀s∈b,s.fin k) (hn:n≤1000000) (hk:k≤130) (hE:Ak fx b≠0):
  Calls Tryz.prog 29 #[.agg #[.slice fx.A fx.n fx.a,.slice fx.B fx.m fx.b],.slice L n c] w fun r w'=>r=.returned (.tuple #[.agg #[.int .i64 0,.slice none 0 0],.int .i64 (Ak fx b)])∧Below w.heap.size w w':=by
 have hh:=Hp.start w;have hbl:b.length=n:=hB.bh SR.len Yw;have hck:=fun w1 hb=>rP fx k w1 (hf.ext hb) hl;have hcb:=fun w1 hb1=>pY L n c b k w1 (hB.ext hb1) hb hn Yv;unfold Ak at hE ⊢;generalize fx.e=E1 at*;generalize g9 b=E2 at*;refine ak (N:=112) (l:=[.agg #[.slice fx.A fx.n fx.a,.slice fx.B fx.m fx.b],.slice L n c]) Tryz.func29 rfl rfl (by simp) ?_;refine sr ?_;refine cu hh [_,_] ?_;intro b2 w2 hh;refine bW hh ?_;intro b4 w4 hh;refine aI (aa (ai (sr ?_)));refine cC hh 1 [_,_] ?_;refine bA hh (hck _ hh.below) rfl ?_;intro w20 hh;by_cases h1:E1=0
 ·rw [YB (fun c=>c h1)] at hE ⊢;refine aI (aa (sr (mI ?_)));refine so ?_;refine bA hh (hcb _ hh.below) rfl ?_;intro w26 hh;by_cases h2:E2=0
  ·rw [YB (fun c=>c h2)] at hE ⊢;by_cases h3:b.length=fx.n
   ·rw [YB (fun c=>c h3)] at hE;exact absurd rfl hE
   ·rw [YA h3];refine aI (aa (sr (mI ?_)));refine nt ?_;refine bG hh 1 ?_;refine aK ?_;refine db (aa (cT (sr ?_)));refine fH [_,_] ?_;exact Vg
  ·rw [YA h2];exact Q8
 ·rw [YA h1];exact Q8
def preB (ns:List Nat) (a x:Nat):Nat:=if x<a then tZ ns x else 0
theorem G6 (ns:List Nat) (a x:Nat):preB ns a x≤tZ ns x:=by
 unfold preB;split
 ·exact YE _
 ·exact YD _
theorem IZ {ns:List Nat}{a d r:Nat} (hd:ns[a]?=some d) (hr:r≤d) (x:Nat):preB ns a x+l8 a r x+l8 a (d-r) x=preB ns (a+1) x:=by
 have hg:tZ ns a=d:=by unfold tZ;rw [Zo,hd];rfl
 unfold preB l8;by_cases h1:x=a
 ·subst h1;rw [YB Yv,YA rfl,YA rfl,YA Yv,hg];omega
 ·rw [YB h1,YB h1];by_cases h2:x<a
  ·rw [YA h2,YA Yv]
   rfl
  ·rw [YB h2,YB Yv]
def sT (base:Nat) (v:Int) (ts:List TR):VP:=fun x W=>∃g:PX,x=.agg #[.int .i64 g.v,.slice g.A g.n g.c]∧dW 0 v ts g∧∃w2:World,base≤w2.heap.size∧Hp w2 [g.row] W
theorem sT.ext {v:Int} (x:Value) (w w':World) (h:sT base v ts x w) (hb:Below w.heap.size w w'):sT base v ts x w':=let ⟨g,h1,h2,w2,h3,h4⟩:=h;⟨g,h1,h2,w2,h3,h4.ext hb⟩
theorem B7 (fx:FX) (L:Option Addr) (n c:Nat) (b:List SR) (k:Nat) (w:World) (hf:fx.at_ w) (hl:fx.j8 k) (hB:Sl w L n 6 (aD SR.cells b)) (hb:∀s∈b,s.fin k) (hk:k≤130) (h0:fx.e=0) (hbx:g9 b=0) (hn:fx.ns.length=n) (hcn:aA fx.ns≤100) (h6:∀d∈fx.ns,d≤6):
  Calls Tryz.prog 29 #[.agg #[.slice fx.A fx.n fx.a,.slice fx.B fx.m fx.b],.slice L n c] w fun r w'=>∃g:PX,(g.v=(n:Int)∧ma n 330000 (tZ fx.ns) (fun xs=>N3 b fx.ns (fx.cs.map NR.d) xs (aA fx.ns)) g.ts)∧r=.returned (.tuple #[.agg #[.int .i64 g.v,.slice g.A g.n g.c],.int .i64 0])∧Hp w [g.row] w':=by
 have hh:=Hp.start w;have hbl:b.length=n:=hB.bh SR.len Yw;obtain ⟨hdeg,hnum,h12,hlow,hcnt,hmax⟩:=FX.fv h0;have hln:=hf.ln.1;have hlm:=hf.ln.2;have hnl:fx.ns.length=fx.n:=by unfold FX.ns;rw [YO];exact hln
 have hck:=fun w1 hb=>rP fx k w1 (hf.ext hb) hl;rw [h0] at hck;have hcb:=fun w1 hb1=>pY L n c b k w1 (hB.ext hb1) hb Yv Yv;rw [hbx] at hcb;have hdg:Sl w fx.A fx.n 1 (bQ (cf fx.ns)):=by rw [←hdeg];exact hf.dg
 have hrw:=fun w1 hb=>r8 fx.A fx.n fx.a fx.ns w1 (hdg.ext hb) Yv hlow Yv;have hcp:=df fx.ns;obtain ⟨adC,hAC,sC⟩:=hf.nm.at_ Yv;have hevC:Value.slice fx.B fx.m fx.b=.slice (some adC) fx.m fx.b:=by rw [hAC]
 have hend:=fun (i sd:Nat) (s:SR) w1 hb1 hs hsd=>Dq L n c b s i sd k w1 (hB.ext hb1) hb hbx Yv Yv hs hsd;refine ak (N:=112) (l:=[.agg #[.slice fx.A fx.n fx.a,.slice fx.B fx.m fx.b],.slice L n c]) Tryz.func29 rfl rfl (by simp) ?_;refine sr ?_;refine cu hh [_,_] ?_;intro b2 w2 hh;refine bW hh ?_;intro b4 w4 hh;refine aI (aa (ai (sr ?_)));refine cC hh 1 [_,_] ?_;refine bA hh (hck _ hh.below) rfl ?_;intro w20 hh;refine aI (aa (sr (mI ?_)));refine so ?_;refine bA hh (hcb _ hh.below) rfl ?_;intro w26 hh;refine aI (aa (sr (mI ?_)));refine nt ?_;refine bG hh 1 ?_;refine aK ?_;refine db (aa (cF (au (aj (sr (mL (aK ?_)))))));refine fH [_,_] ?_;refine bW hh ?_;intro b8 w8 hh;refine bV hh 0 [_,_] ?_;intro ws hh;replace hh:Hp _ (.blk _ _ [_,_] _::_) _:=hh;refine aa (sr (bJ ?_));refine bG hh 2 ?_;refine aJ (hrw _ hh.below) aw.out rfl Yw ?_;rintro e_ w43 ⟨A43,c43,rfl,hown_,hb_⟩;refine ⟨_,rfl, ?_⟩;replace hh:=hh.aY (x:=.row _ _ _ _ _ _) hb_ hown_;obtain ⟨g43,rfl⟩:=hh.cK (i:=0) rfl Yv;replace hh:=show Hp w (_::.blk b8 24 [.int .i64 n,.slice none 0 0] (0,0)::_) _ from hh;refine DQ ?_
 have hpow:=fun (g:PX) (a d m:Nat) (F:List Dyadic→Dyadic) w1 h1 h2 h3 h4 h5 h6 h7=>MQ g fx.ns a d m 140 F w1 h1 h2 h3 h4 h5 Yv hlow hcn h6 Yw h7;have hmul:=fun A c2 (q l h:PX) (a:Nat) (Bq Bl Bh:Nat→Nat) (Fq Fl Fh:List Dyadic→Dyadic) w1 h1 h2 h3 h4 h5 h6 h7 h8 h9 h10 h11 h12 h13 hB=>K5 A c2 q l h fx.ns (200+a*25000) 2100 2100 Bq Bl Bh Fq Fl Fh w1 h1 h2 h3 h4 h5 h6 h7 h8 h9 h10 h11 h12 h13 hlow hcn hB;have hadd:=fun A c2 (p q:PX) (i:Nat) (F G:List Dyadic→Dyadic) w1 h1 h2 h3 h4 h5 h6 h7 h8 h9=>Ng A c2 p q fx.ns (301000+i*200) F G w1 h1 h2 h3 h4 h5 h6 h7 h8 h9 hcn;have hpl:=fun {i d:Nat}{F:List Dyadic→Dyadic}{l:List TR} (hp:ma fx.ns.length 140 (l8 i 1) F l) (h2:l.length≤2) (hd:fx.ns[i]?=some d) (m:Nat) (hm:m≤d)=>(Iv hp h2 Yv hlow hcn hd Yw m hm).2;rw [hn] at hpow hmul hadd hpl;replace hh:=hh.cN 80 4;replace hh:=hh.perm (Zh (l₁:=[_,_]));simp only [YJ,YH] at hh;replace hh:=hh.perm (Zh (l₁:=[_]));simp only [YJ,YH] at hh
 refine aT [10,11,12,13,14,15,16,17,18,44,45,46,47,48,49,50,51,52,53,54,55,56,57,58,59,60,61,62,63,64,65,66,67,68,69,70,71,72,73,74,75,76,77,78,79,80,81,82,83,84,85,86,87,88,89,90,91,92,93,94,95,96,97,98,99,100,101,102,103,104,105,106,107,108,109,110] 10
  (fun v w'=>∃(i:Nat) (S:PX),i≤aA fx.ns∧v=.int .i64 i∧S.v=(n:Int)∧ma n (301000+i*200) (tZ fx.ns) (fun xs=>N3 b fx.ns (fx.cs.map NR.d) xs i) S.ts∧Hp w [.row S.A S.n S.c 80 4 (aD TR.cells S.ts),.blk b8 24 [.int .i64 S.v,.slice S.A S.n S.c] (0,0),.row (some ⟨g43,0,none⟩) (aA fx.ns) c43 9 1 (iw (lE fx.ns)),.blk b4 24 [.int .i64 0,.slice none 0 0] (0,0),.blk b2 33 [.slice fx.A fx.n fx.a,.slice fx.B fx.m fx.b] (0,0)] w')
  (fun v _=>aA fx.ns-(intOf v).toNat) ?_ ?_
 ·exact ⟨0,⟨n,none,0,0,[]⟩,YD _,rfl,rfl,⟨lr.nil (eW Yv),fun t ht=>(nomatch ht),fun xs hx=>rfl⟩,hh⟩
 ·clear hh;rintro ρ' v w' ⟨i,S,hi,rfl,hSv,hSb,hh⟩;have hSc:S.n≤S.c:=hh.dJ (i:=0) rfl;by_cases hlt:i<aA fx.ns
  ·obtain ⟨x,hx⟩:=ao (l:=fx.cs) (k:=i) Yv;obtain ⟨ok1,sz1⟩:=hl.num x (YF hx);have hrp:=sw (vO hlt);have hrr:=LZ (lO fx.ns.reverse i);have hSs:∀xs,N3 b fx.ns (fx.cs.map NR.d) xs (i+1)=N3 b fx.ns (fx.cs.map NR.d) xs i+x.d*N0 b fx.ns (fg fx.ns i) xs n:=fun xs=>by
    rw [Np,hbl];unfold iX;rw [YN,hx]
    rfl
   have hrl:=iC fx.ns i;unfold fg at hSs hrl;generalize (dy fx.ns.reverse i).reverse=rr at*;have hcn2:=fun w1=>jS (n:Int) x k w1 ⟨ok1,sz1⟩ Yv;rw [BZ Yv,AA] at hcn2;have hq0:=EK (v:=n) Yv sz1 Yv;generalize fP n x.d=CL at*;refine ai (sr (mI (mL (aK ?_))));refine a8 (aa (cT (au (aj (ai (av (sr (mL (aK (bJ ?_))))))))));refine bG hh 4 ?_;refine mI ?_;refine dm (k:=i) bo.out aU.size hevC rfl Yv Yv Yw ?_;refine cG (vs:=[_,_,_]) aU.out rfl ((sC.ext hh.below).recAt NR.len hx) rfl Yw ?_;refine aJ (hcn2 _) aw.out rfl Yw ?_;rintro e_ w58 ⟨u,ou,rfl,h4⟩;refine ⟨_,rfl, ?_⟩;replace hh:=hh.join h4;clear h4;simp only [YJ,YH] at hh;replace hh:=show Hp w (.row u.A u.n u.c 80 4 (aD TR.cells u.ts)::_) _ from hh;refine mT ?_;refine dx ?_;refine dx ?_;refine bW hh ?_;intro b11 w11 hh;refine bV hh 0 [_,_] ?_;intro ws hh;replace hh:Hp _ (.blk _ _ [_,_] _::_) _:=hh;refine aI (aa (ai (sr (aI (aa (av ?_))))));replace hh:=hh.perm (Zh (l₁:=[_]));simp only [YJ,YH] at hh
   refine aT [13,14,15,16,17,18,61,62,63,64,65,66,67,68,69,70,71,72,73,74,75,76,77,78,79,80,81,82,83,84,85,86,87,88,89,90,91,92,93,94,95,96,97,98,99,100,101,102,103] 13
    (fun v w'=>∃(a:Nat) (g:PX),a≤n∧v=.int .i64 a∧g.v=(n:Int)∧ma n (200+a*25000) (preB fx.ns a) (fun xs=>x.d*N0 b fx.ns rr xs a) g.ts∧Hp w [.row g.A g.n g.c 80 4 (aD TR.cells g.ts),.blk b11 24 [.int .i64 g.v,.slice g.A g.n g.c] (0,0),.row S.A S.n S.c 80 4 (aD TR.cells S.ts),.blk b8 24 [.int .i64 S.v,.slice S.A S.n S.c] (0,0),.row (some ⟨g43,0,none⟩) (aA fx.ns) c43 9 1 (iw (lE fx.ns)),.blk b4 24 [.int .i64 0,.slice none 0 0] (0,0),.blk b2 33 [.slice fx.A fx.n fx.a,.slice fx.B fx.m fx.b] (0,0)] w')
    (fun v _=>n-(intOf v).toNat) ?_ ?_
   ·exact ⟨0,u,YD _,rfl,ou.v0,by rw [ou.t0];exact hq0.of Yv (fun _=>YD _) fun _ _=>(abl _).symm,hh⟩
   ·clear hh;rintro ρ2 v w2 ⟨a,g,ha,rfl,hgv,hgb,hh⟩;have hgc:g.n≤g.c:=hh.dJ (i:=0) rfl;by_cases hlt2:a<n
    ·obtain ⟨s,hs⟩:=ao (l:=b) (k:=a) Yv;obtain ⟨d,hd⟩:=ao (l:=fx.ns) (k:=a) Yv;obtain ⟨r,hr⟩:=ao (l:=rr) (k:=a) Yv;have hrd:=hrr a d r hd hr;have hd6:=h6 d (YF hd);have hsf:=hb s (YF hs);obtain ⟨c2,hc2,hcr⟩:=Ms hr Yv;subst hcr;have hc3:(fX (cf rr)).data.toList[(a:Int).toNat]?=some c2:=hc2;have hgd:(bQ (cf fx.ns))[a]?=some (.int .i64 (d:Int)):=cL (iG hd);obtain ⟨adD,hAD,sD⟩:=hdg.at_ Yv;have hevD:Value.slice fx.A fx.n fx.a=.slice (some adD) fx.n fx.a:=by rw [hAD]
     have bE:=fun sd=>SP (v:=n) (i:=a) sd Yv hlt2 hsf Yv;have bF:∀sd,ma n 140 (l8 a 1) (pM a s sd) (lu n a s sd):=fun sd=>(bE sd).1.of Yv (fun _=>YE _) fun _ _=>rfl;have bL:ma n 2100 (l8 a c2.toNat) (fun xs=>pM a s 0 xs^c2.toNat) (z7 n (lu n a s 0) c2.toNat):=(hpl (bF 0) (bE 0).2 hd c2.toNat hrd).of Yv (fun _=>YE _) fun _ _=>rfl;have bH:ma n 2100 (l8 a (d-c2.toNat)) (fun xs=>pM a s 1 xs^(d-c2.toNat)) (z7 n (lu n a s 1) (d-c2.toNat)):=(hpl (bF 1) (bE 1).2 hd (d-c2.toNat) Yv).of Yv (fun _=>YE _) fun _ _=>rfl;have hpn:=IZ hd hrd;have hMs:=fun xs=>Kz (xs:=xs) hs hd hr;have hp1:=fun (e:PX) w1 h1 h2 h3 (h4:e.ts=lu n a s 0)=>h4 ▸ hpow e a d c2.toNat (pM a s 0) w1 h1 h2 h3 (by rw [h4];exact bF 0) (by rw [h4];exact (bE 0).2) hd hrd;have hp2:=fun (e:PX) w1 h1 h2 h3 (h4:e.ts=lu n a s 1)=>h4 ▸ hpow e a d (d-c2.toNat) (pM a s 1) w1 h1 h2 h3 (by rw [h4];exact bF 1) (by rw [h4];exact (bE 1).2) hd (Nat.sub_le _ _);rw [show ((d-c2.toNat:Nat):Int)=(d:Int)-(c2.toNat:Int) by omega] at hp2
     have hmu:=fun A c2_ (l h:PX) w1 h1 h2 h3 h4 h5 h6 h7 h8 h9 h10 (h11:l.ts=z7 n (lu n a s 0) c2.toNat) (h12:h.ts=z7 n (lu n a s 1) (d-c2.toNat))=>hmul A c2_ g l h a _ _ _ _ _ _ w1 h1 h2 h3 h4 h5 h6 h7 h8 h9 h10 hgb (by rw [h11];exact bL) (by rw [h12];exact bH) (fun j=>by rw [hpn];exact G6 _ _ _) Yv;have hen0:=fun w1 hb1=>hend a 0 s w1 hb1 hs (.inl rfl);have hen1:=fun w1 hb1=>hend a 1 s w1 hb1 hs (.inr rfl);clear bE bF bL bH;generalize z7 n (lu n a s 0) c2.toNat=PL at*;generalize z7 n (lu n a s 1) (d-c2.toNat)=PH at*;generalize lu n a s 0=EL at*;generalize lu n a s 1=EH at*;refine ai (sr (mI (mL (aK ?_))));refine jq ?_;refine rz ?_;refine cv aU.out rfl (hh.fU (i:=4) rfl (by first|assumption|(simp only [YX];assumption))) Yw ?_;refine mI ?_;refine j4 ?_;refine vP ?_;refine aI (aa (sr (mL (mI ?_))));refine aJ (hen0 _ hh.below) aw.out rfl Yw ?_;rintro e_ w77 ⟨e0,oe0,rfl,h4⟩;refine ⟨_,rfl, ?_⟩;have hec:e0.n≤e0.c:=h4.dJ (i:=0) rfl;replace hh:=hh.join h4;clear h4;simp only [YJ,YH] at hh;replace hh:=show Hp w (.row e0.A e0.n e0.c 80 4 (aD TR.cells e0.ts)::_) _ from hh;refine mI ?_
     refine aJ (hp1 e0 _ (hh.aG (i:=0) rfl) hec oe0.v0 oe0.t0) aw.out rfl Yw ?_;rintro e_ w79 ⟨lo,olo,rfl,h4⟩;refine ⟨_,rfl, ?_⟩;have hlc:lo.n≤lo.c:=h4.dJ (i:=0) rfl;replace hh:=hh.join h4;clear h4;simp only [YJ,YH] at hh;replace hh:=show Hp w (.row lo.A lo.n lo.c 80 4 (aD TR.cells lo.ts)::_) _ from hh;refine mT ?_;refine dx ?_;refine dx ?_;refine bW hh ?_;intro b15 w15 hh;refine bV hh 0 [_,_] ?_;intro ws hh;replace hh:Hp _ (.blk _ _ [_,_] _::_) _:=hh;refine aI (aa (ai ?_));refine cP [14] [13] [0,0,3,0,8,0,56,120,0,504,1023,2047,4095,4095,0,24575,65535] 15 [[(1,none)],[(13,none)],[(83,some 0),(84,some 1)],[(2,none)],[(86,some 3)],[(13,none)],[(87,some 4),(88,some 5)],[(89,some 6)],[(14,none)],[(90,some 7),(91,some 8)],[(85,some 2),(92,some 9)],[(93,some 10)],[(82,some 11)],[(82,some 11)],[]] [(14,17),(13,95),(12,94),(11,82),(10,93),(9,92),(8,91),(7,90),(6,89),(5,88),(4,87),(3,86),(2,85),(1,84),(0,83)] hh mixed Yx (jL rfl aU.out dr) rfl (by repeat (first|exact cz|refine bU ?_|refine cw ?_)) ?_;refine eQ ?_;refine cZ ?_
     refine aO (i:=2) (sT hh.sz n EH) (sT.ext) ?_ ?_
     ·intro ρ1 w1 hj hR;exact bk rfl (aV aw.out (az (show ρ1 83=Value.slice _ _ _ from hR.1) (az (show ρ1 84=Value.int _ _ from hR.2.1) (az rfl bf)))) (hen1 w1 hj.hp.below) (fun _ _ ⟨g,og,hq,h3⟩=>⟨_,hq,h3.below,g,rfl,og,w1,hj.bl.size,h3⟩)
     refine cX ?_;refine dT 9 ?_;refine cZ ?_;refine aO (i:=6) (Is (.pointer (some (adD.add (a*1))))) (Is.ext) ?_ ?_
     ·intro ρ1 w1 hj hR;exact eJ rfl (gl (k:=a) bo.out aU.size ((show ρ1 87=Value.slice _ _ _ from hR.1).trans hevD) (show ρ1 88=Value.int _ _ from hR.2.1) Yv Yv) ⟨Below.refl _ _,rfl⟩
     refine pK (fun _ hj=>(sD.ext hj.hp.below).xv hgd) ?_;refine cZ ?_;refine qE ?_;refine aO (i:=10) (eV hh.sz 0 n PH) (eV.ext) ?_ ?_
     ·intro ρ1 w1 hj hR;obtain ⟨g85,e85,o85⟩:=hR.1;exact let ⟨e1,q1,oe,w2,_,h3⟩:=hR.1;bk rfl (aV aw.out (az q1 (az (show ρ1 92=Value.int _ _ from hR.2.1) bf))) (hp2 e1 w1 (h3.aG (i:=0) rfl) (h3.dJ (i:=0) rfl) oe.v0 oe.t0) (fun _ _ ⟨g,og,hq,h3⟩=>⟨_,hq,h3.below,g,w1,rfl,og,hj.bl.size,h3⟩)
     refine aO (i:=11) (eV hh.sz 0 n PH) (eV.ext) ?_ ?_
     ·exact F0
     refine aO (i:=12) (fR hh.sz 0 n PH) (fR.ext) ?_ ?_
     ·exact EJ
     refine aO (i:=13) (Is (.int .i64 0)) (Is.ext) ?_ ?_
     ·exact EO
     refine aO (i:=14) (cS _ 24 _) cS.ext (fun ρ1 w1 hj hR=>gP aU.out hj.bl (fun v w2 h hb=>⟨hb,h⟩)) ?_;refine aM ?_;intro f W hJ hV _;have hb_20:=hJ.bl;obtain ⟨v17,v95,v94,v82,v93,v92,v91,v90,v89,v88,v87,v86,v85,v84,v83,_⟩:=hV;obtain ⟨g85,e85,o85⟩:sT hh.sz n EH (f 2) W:=v85;obtain ⟨g93,u93,e93, -⟩:=v93;obtain ⟨g82,u82,e82, -⟩:=v82;obtain ⟨g94,u94,e94,o94,q94,h94⟩:=v94;obtain ⟨b17,e17,hl17,hc17⟩:cS _ _ _ (f 14) W:=v17;replace hh:=hJ.jH hh hl17 hc17 q94 h94 (PX.ne h94 hc17 Yw);refine aQ (bg (ae e17 (ae v95 (ae e94 (ae e82 (ae e93 (ae v92 (ae v91 (ae v90 (ae v89 (ae v88 (ae v87 (ae v86 (ae e85 (ae v84 (ae v83 aR)))))))))))))))) ?_;dsimp only [bO];clear e85 e93 e82 e94 e17 hJ;simp only [YJ,YH] at hh;replace hh:=show Hp w (_::.row g94.A g94.n g94.c 80 4 (aD TR.cells g94.ts)::_) W from hh;have hHc:g94.n≤g94.c:=hh.dJ (i:=1) rfl;refine bV hh 0 [_,_] ?_;intro ws hh;replace hh:Hp _ (.blk _ _ [_,_] _::_) _:=hh;refine aI (aa (ar ?_));refine cC hh 6 [_,_] ?_;refine cC hh 2 [_,_] ?_;refine cC hh 0 [_,_] ?_
     refine cQ hh (cs:=[_,_,_,_,_,_]) bo.out aU.out (aX (gy rfl) (aX (gy rfl) (aX (gy rfl) cx))) rfl rfl Yw Yw Yw rfl Yw ?_;intro b100 w100 hh;refine aJ (hmu _ _ lo g94 _ (hh.aG (i:=0) rfl) (hh.aG (i:=6) rfl) (hh.aG (i:=4) rfl) (hh.aG (i:=2) rfl) hgc hlc hHc hgv olo.v0 o94.v0 olo.t0 o94.t0) aw.out rfl Yw ?_;rintro e_ w101 ⟨g2,⟨v2,bb2⟩,rfl,h4⟩;refine ⟨_,rfl, ?_⟩;replace hh:=hh.join h4;clear h4;simp only [YJ,YH] at hh;replace hh:=show Hp w (.row g2.A g2.n g2.c 80 4 (aD TR.cells g2.ts)::_) _ from hh;refine mT ?_;refine dx ?_;refine dx ?_;refine bV hh 8 [_,_] ?_;intro ws hh;replace hh:Hp _ (_::_::_::_::_::_::_::_::.blk _ _ [_,_] _::_) _:=hh;refine p9 ?_;refine bm (aI (aE (aj ?_)));replace hh:=hh.sub (YC _ (YI _ (YI _ (YI _ (YI _ (YI _ (YI _ (YI _ (YC _ (YC _ (YC _ (YC _ (YC _ (YC _ Y5))))))))))))))
     refine ⟨⟨a+1,g2,Yv,rfl,v2,bb2.of Yv (fun j=>by rw [hpn];exact YE _) (fun xs _=>by rw [hMs];grind),hh⟩,by show n-(a+1)<n-a;omega, ?_⟩;exact dO
    ·have han:a=n:=Yv;have hgb2:ma n (301000+i*200) (tZ fx.ns) (fun xs=>x.d*N0 b fx.ns rr xs n) g.ts:=hgb.of Yv (G6 _ _) fun _ _=>by rw [han]
     refine ai (sr (mI (mL (aK ?_))));refine a8 (aa (cF (a6 (aH (aH (bB (aj (ar ?_))))))));refine cC hh 3 [_,_] ?_;refine cC hh 1 [_,_] ?_;refine vg ?_;intro b107 w107 hh;refine aJ (hadd _ _ S g i _ _ _ (hh.aG (i:=0) rfl) (hh.aG (i:=3) rfl) (hh.aG (i:=1) rfl) hSc hgc hSv hgv hSb hgb2 Yv) aw.out rfl Yw ?_;rintro e_ w108 ⟨g2,⟨v2,bb2⟩,rfl,h4⟩;refine ⟨_,rfl, ?_⟩;replace hh:=hh.join h4;clear h4;simp only [YJ,YH] at hh;replace hh:=show Hp w (.row g2.A g2.n g2.c 80 4 (aD TR.cells g2.ts)::_) _ from hh;refine mT ?_;refine dx ?_;refine dx ?_;refine bV hh 5 [_,_] ?_;intro ws hh;replace hh:Hp _ (_::_::_::_::_::.blk _ _ [_,_] _::_) _:=hh;refine p9 ?_;refine bm (aI (aE (aj ?_)));replace hh:=hh.sub (YC _ (YI _ (YI _ (YI _ (YI _ (YC _ (YC _ (YC _ (YC _ Y5)))))))));refine ⟨⟨i+1,g2,Yv,rfl,v2,bb2.of Yv (fun _=>YE _) (fun xs _=>(hSs xs).symm),hh⟩,by show aA fx.ns-(i+1)<aA fx.ns-i;omega, ?_⟩;exact dO
  ·obtain rfl:i=aA fx.ns:=Yv;refine ai (sr (mI (mL (aK ?_))));refine yC ?_;refine cC hh 1 [_,_] ?_;refine bV hh 3 [_,_] ?_;intro ws hh;replace hh:Hp _ (_::_::_::.blk _ _ [_,_] _::_) _:=hh;refine aI (aa (ay ?_));refine C3 ?_;exact ⟨S,⟨hSv,hSb.of Yv (fun _=>YE _) fun _ _=>rfl⟩,rfl,hh.sub (.cons_cons _ (Zr _))⟩
variable {fx:FX}
theorem I6 (hm:∀t∈ll [] [] C,eY ((0:Nat):Int) t=true):(eH (ub [] [] C) (gM [])).1=0∧fj ((0:Nat):Int) (eH (ub [] [] C) (gM [])).2=0:=by
 have he:(ub [] [] C).e=0:=eO (eW (v:=0) Yw) (Y2 (bK _) (by rw [qR];decide)) hm;have hz:((gM []).length:Int)=(ub [] [] C).v:=rfl;have hl:¬((gM []).length≠0∧eE (gM [])≠0):=fun c=>c.1 rfl;unfold eH;rw [YB (fun c=>c he),YB (fun c=>c hz),YB hl];refine ⟨rfl,eO (eW (v:=0) Yw) (Y2 (bK _) (by show 1≤4096;decide)) fun t ht=> ?_⟩;rw [YT.1 ht]
 rfl
theorem Ka {b:List SR} (hbl:b.length=fx.ns.length) (h12:fx.ns.length≤12) (hlow:∀d∈fx.ns,d≤127) (hb:∀s∈b,s.fin kb) (hkb:kb≤1000) (hm:∀t∈ll b fx.ns (FB fx),eY (fx.ns.length:Int) t=true) (hN:aA fx.ns≤1000):(lv fx b).1=0∧fj (fx.ns.length:Int) (lv fx b).2=0:=by
 unfold lv;generalize FB fx=C at*;generalize fx.ns=ns at*;by_cases hp:0<b.length
 ·exact Mq hbl hp h12 hlow hb hkb hm hN
 ·obtain rfl:b=[]:=ZO Yv;obtain rfl:ns=[]:=ZO (by rw [←hbl];rfl);exact I6 hm
theorem Up:∀{ns:List Nat},(∀d∈ns,d≤6)→ns.sum≤ns.length*6
 |[],_=>YD _
 |d::ns,h=>by
  have:=Up fun x hx=>h x (YP _ hx);have:=h d YL;rw [List.sum_cons,YZ,ZE];omega
theorem GD {b:List SR} (h0:fx.e=0) (hbl:b.length=fx.ns.length) (hcn:aA fx.ns≤200) (h6:∀d∈fx.ns,d≤6) (hb:∀s∈b,s.fin k) (hk:k≤130) (hC:∀c∈fx.cs,Sz k c.d):(lv fx b).1=0∧fj (fx.ns.length:Int) (lv fx b).2=0:=by
 obtain ⟨hdeg,hnum,h12,hlow,hcnt,hmax⟩:=FX.fv h0;have hsum:=Up h6;have hX:∀x∈fx.cs.map NR.d,Sz k x:=fun x hx=>by
  obtain ⟨c,hc,rfl⟩:=YR.1 hx;exact hC c hc
 have hG:=Fc hX (fun d hd=>hlow d (aa0.1 hd)) fx.ns.length;have hK:k+520*fx.ns.length+(1+fx.ns.length+(k+1)*fx.ns.sum)≤2999000:=by
  have:(k+1)*fx.ns.sum≤131*72:=ZV Yv Yv;omega
 obtain ⟨k1,k2,k3⟩:=KH hb hbl hG hlow Yv hK;exact Ka hbl h12 hlow hb Yv k2 Yv
theorem Qi {b:List SR} (h:jB fx b=0):fx.e=0∧g9 b=0∧b.length=fx.n:=by
 unfold jB at h;by_cases h1:fx.e=0
 ·rw [YB (fun c=>c h1)] at h;by_cases h2:g9 b=0
  ·rw [YB (fun c=>c h2)] at h;by_cases h3:b.length=fx.n
   ·exact ⟨h1,h2,h3⟩
   ·rw [YA h3] at h;cases h
  ·rw [YA h2] at h;exact absurd h h2
 ·rw [YA h1] at h;exact absurd h h1
theorem Je {b:List SR}{K:Nat} (h0:fx.e=0) (hbx:g9 b=0) (hbl:b.length=fx.ns.length) (hcn:aA fx.ns≤200) (h6:∀d∈fx.ns,d≤6) (hb:∀s∈b,s.fin k) (hk:k≤130) (hC:∀c∈fx.cs,Sz k c.d) (hl:ma fx.ns.length K (tZ fx.ns) (fun xs=>N3 b fx.ns (fx.cs.map NR.d) xs (aA fx.ns)) l):(lv fx b).1=0∧(lv fx b).2=l:=by
 obtain ⟨hdeg,hnum,h12,hlow,hcnt,hmax⟩:=FX.fv h0;obtain ⟨f1,f2⟩:=GD h0 hbl hcn h6 hb hk hC;refine ⟨f1, ?_⟩;obtain ⟨q1,q2,q3,q4⟩:=cB f2;obtain ⟨p1,p2,p3,p4⟩:=cB hl.o.e;have hwid:∀s∈b,s.H-s.L≠0:=fun s hs=>On hbx hs;refine Ti (v:=b.length) q4 p4 (fun t ht=>(vU (q3 t ht)).trans hbl.symm) (fun t ht=>(vU (p3 t ht)).trans hbl.symm) fun xs hx=>P1 hwid (fun us hu=> ?_) xs hx;have e1:=PR (X:=fx.cs.map NR.d) (us:=us) hbl.symm hlow hu f1;have e2:=hl.ev (nq b us) (by unfold nq;simp;omega);rw [e2,M5 hbl.symm hu];exact e1
end Go.Proofs.YtolamocnngihpaaGreatDoor
