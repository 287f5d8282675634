/- Lemmas for bernValues, part 7. -/
import Derived.RangeFuncFrom
import Derived.RangeFuncCalls
import Derived.RangeFuncLeaves
import Derived.Shelf.Abstract
import Derived.OrdersIn
import Derived.Test.YtolamocnngihpaaGreatDoorZ6
namespace Go.Proofs.YtolamocnngihpaaGreatDoor
variable {c c' n:Nat}{ls:List Int}{w0:World}
open Go.RowKit
theorem Cx {H:List HE}{L D:Option Addr}{ds:List Int} (w:World) (hh:Hp w0 (.row L n c 3 1 (bu ls)::H) w) (hD:Sl w0 D n 1 (bu ds)) (hn:n≤100000)
  (hl:ls.all cH=true) (hd:ds.all cH=true) (hll:ls.length=n):
  Calls Tryz.prog 133 #[.slice L n c,.slice D n c'] w fun e w'=>
   match rF ds ls with
   |some l'=>e=.returned (.bool true)∧Hp w0 (.row L n c 3 1 (bu l')::H) w'
   |none=>e=.returned (.bool false)∧Hp w0 (.row L n c 3 1 (bu (gh n))::H) w':=by
 have hdl:ds.length=n:=by have:=hD.1;rw [bX] at this;omega
 refine aj (N:=31) (l:=[.slice L n c,.slice D n c']) Tryz.func133 rfl rfl (by simp) ?_;refine sr (aB (aa (ah (sr (mL (aH ?_))))));refine ep (aI (aa (ao ?_)));refine aR [4,5,9,10,11,12,13,14,15,16,17,18,19,20,21,22,23,24,25,26,27,28,29,30] 5
  (fun i w'=>∃(k:Nat) (z:Int),k≤n∧i=.int .i64 z∧z=(k:Int)-1∧rF (ds.drop k) (ls.drop k)=none∧Hp w0 (.row L n c 3 1 (bu (nY ls k n))::H) w')
  (fun i _=>(intOf i+1).toNat) ?_ ?_
 ·exact ⟨n,_,Xr _,rfl,rfl,by rw [Zj Xj];rfl,by rw [L0 hll];exact hh⟩
 ·clear hh;rintro ρ' i w' ⟨k,z,hk,rfl,hz,hnx,hh⟩
  cases k with
  |zero=>
   refine ah (sr (mI ?_));refine dL (aa (cF (a6 (aE (aE (bq (ai (sr (aB (aa (aw ?_)))))))))));refine df ?_;rw [List.drop_zero,List.drop_zero] at hnx;rw [hnx];exact ⟨rfl,by simpa [nY] using hh⟩
  |succ k=>
   obtain rfl:z=(k:Int):=Xj;obtain ⟨x,hx⟩:=ak (l:=ls) (k:=k) Xj;obtain ⟨d,hdk⟩:=ak (l:=ds) (k:=k) Xj;have bx:=As hl hx;have bd:=As hd hdk;have hx2:=ck (RQ (n:=n) hx);have hol:=Ny hll hk;have hol2:=bX (nY ls (k+1) n);obtain ⟨g,rfl⟩:=hh.cn (i:=0) rfl Xj;have hD':=hD.ext hh.below;obtain ⟨ad,rfl,hr⟩:=hD'.at_ Xj;by_cases hlt:x<d
   ·refine ah (sr (mI ?_));refine dL (aa (cT (aq (ai (ah (ao (ah (ah ?_))))))));refine Rg ?_;refine fS ?_;refine dJ ?_;refine PZ ?_;refine Qc ?_;refine fS ?_;refine dJ ?_;refine Qn ?_;refine qS (fun _ hj=>fk (hr.ext hj.bl) (ck hdk) rfl) ?_;refine aO ?_;intro f W hJ hV;have hb_4:=hJ.bl;obtain ⟨v20,v19,v18,v17,v16,v15,v14,v13,_⟩:=hV;replace hh:=hJ.hp;refine Pp ?_;dsimp only [cd];clear hJ;refine bf (aa (cT (sr (mL (mI ?_)))));refine vD ?_;refine jw ?_;refine bk ?_;refine vD ?_;refine bW hh (i:=0) (vs:=[_]) rfl rfl (cO rfl) rfl aM.out rfl Xj rfl ?_;intro ws hh;simp only [XC] at hh;refine aa (sr (aB (aa (aw (aK (cf (aK (aK (cf (aK ?_))))))))));refine df ?_;rw [XK,E3 _ hll Xj] at hh;rw [LD hdl hll hdk hx hnx hlt];exact ⟨rfl,hh⟩
   ·refine ah (sr (mI ?_));refine dL (aa (cT (aq (ai (ah (ao (ah (ah ?_))))))));refine Rg ?_;refine fS ?_;refine dJ ?_;refine PZ ?_;refine Qc ?_;refine fS ?_;refine dJ ?_;refine Qn ?_;refine qS (fun _ hj=>fk (hr.ext hj.bl) (ck hdk) rfl) ?_;refine aO ?_;intro f W hJ hV;have hb_4:=hJ.bl;obtain ⟨v20,v19,v18,v17,v16,v15,v14,v13,_⟩:=hV;replace hh:=hJ.hp;refine Pp ?_;dsimp only [cd];clear hJ;refine bf (aa (cF (aq (ai (al (mL (mI ?_)))))));refine vD ?_;refine bW hh (i:=0) (vs:=[_]) rfl rfl (cO rfl) rfl aM.out rfl Xj rfl ?_;intro ws hh;simp only [XC] at hh;refine aA (bz (ai (al (mI ?_))));refine ep (aI (aA (ai ?_)));rw [XK,E3 _ hll Xj,LS Xj] at hh;refine ⟨⟨k,_,Xj,rfl,rfl,Mn hdk hx hnx hlt,hh⟩,by show ((k:Int)-1+1).toNat<((k:Int)+1).toNat;omega, ?_⟩;exact dV
theorem Lj (n:Nat):eZ n [Value.int .i64 0]=bu (gh n):=by rw [pY];simp [bu,gh]
theorem H4 (l:List ByteArray) (x:ByteArray):lV l++[.string x]=lV (l++[x]):=by simp [lV]
theorem HR (D:Option Addr) (n c:Nat) (ds:List Int) (w:World) (hD:Sl w D n 1 (bu ds)) (hn:n≤100000):
  Calls Tryz.prog 87 #[.slice D n c] w fun e w'=>∃A c,e=.returned (.slice A (zF ds).length c)∧w'.ownsRow w.heap.size 9 1 (.slice A (zF ds).length c) (zF ds).length (lV (zF ds))∧Below w.heap.size w w':=by
 have hdl:ds.length=n:=by have:=hD.1;rw [bX] at this;omega
 have hh:=Hp.start w;refine aj (N:=52) (l:=[.slice D n c]) Tryz.func87 rfl rfl (by simp) ?_;refine sr (aL (aa (sr (aI (aa (ah (sr (mL (aH (mI (aa (ao ?_))))))))))));refine bK [2,3,5,13,14,15,16,17,18,19,20,21,22,23,24,25,26,27,28,29,30,31,32,33,34] 3 13
  (fun p i w'=>∃(k:Nat),k≤n∧i=.int .i64 k∧p=.int .i64 (eQ (ds.take k)).length∧(eQ (ds.take k)).length≤65536∧yV 1 ds=yV (eQ (ds.take k)).length (ds.drop k)∧w=w')
  (fun _ i _=>n-(intOf i).toNat) ?_ ?_
 ·exact ⟨0,Xs _,rfl,rfl,by simp [eQ],rfl,rfl⟩
 ·rintro ρ' p i w' ⟨k,hk,rfl,rfl,hsz,hok,rfl⟩;by_cases hlt:k<n
  ·obtain ⟨d,hdk⟩:=ak (l:=ds) (k:=k) Xj;obtain ⟨ad,rfl,hr⟩:=hD.at_ Xj;have hpos:=Cp (ds.take k);by_cases hb1:0≤d∧d≤127
   ·have hm1:(0:Int)≤(eQ (ds.take k)).length*(d+1):=Int.mul_nonneg Xj Xj;have hm2:((eQ (ds.take k)).length:Int)*(d+1)≤65536*128:=aat Xj Xj Xj Xj;by_cases hb2:((eQ (ds.take k)).length:Int)*(d+1)≤65536
    ·have hstep:=Ln hdk hok ⟨hb1,hb2⟩;rw [←lK hdk hb1.1] at hstep;have hl2:=lK hdk hb1.1;refine sr ?_;refine dT ?_;refine uP ?_;refine bU aM.out rfl (fk hr (ck hdk) rfl) Xk ?_;refine aI (aa (ah (sr (mI ?_))));refine bf (mB (gT (mI (gT ?_))));refine cj ?_;refine ez ?_;refine mB (gT (mI (gT (mI (gT ?_)))));refine bk (gT ?_);refine mulC (gT ?_);refine cj ?_;refine ez ?_;refine aa (cF (aq (ai (al (mI (mI ?_))))));refine bk ?_;refine mulC (aI (aA (bz (ai (al ?_)))));refine bk (mI (aA (ai ?_)));refine ⟨⟨k+1,Xj,rfl,by rw [hl2];rfl,Xj,hstep,rfl⟩,by show n-(k+1)<n-k;omega, ?_⟩;exact dV
    ·have hf:=Cf hdk hok fun h=>hb2 h.2;refine sr ?_;refine dT ?_;refine uP ?_;refine bU aM.out rfl (fk hr (ck hdk) rfl) Xk ?_;refine aI (aa (ah (sr (mI ?_))));refine bf (mB (gT (mI (gT ?_))));refine cj ?_;refine ez ?_;refine mB (gT (mI (gT (mI (gT ?_)))));refine bk (gT ?_);refine mulC (gT ?_);refine cj ?_;refine ez ?_;exact Rt
   ·have hf:=Cf hdk hok fun h=>hb1 h.1;refine sr ?_;refine dT ?_;refine uP ?_;refine bU aM.out rfl (fk hr (ck hdk) rfl) Xk ?_;by_cases h0:d<0
    ·refine aI (aa (ah (sr (mI ?_))));refine bf (mB ?_);refine gS (gS ?_);refine eR ?_;refine mB ?_;refine gS (gS (gS (gS (gS ?_))));refine eR ?_;exact Rt
    ·refine aI (aa (ah (sr (mI ?_))));refine bf (mB (gT (mI (gT ?_))));refine cj ?_;refine ez ?_;refine mB ?_;refine gS (gS (gS (gS (gS ?_))));refine eR ?_;exact Rt
  ·obtain rfl:n=k:=Xj;rw [Xz Xj] at hsz;rw [Zj Xj] at hok;have hok:yV 1 ds=true:=hok;have hbd:=I1 ds 1 hok;have hen:=AD ds fun d hd=>(hbd d hd).1;have hall:=rW ds hbd;have hdok:ds.all cH=true:=by
    rw [XI];intro d hd;have:=hbd d hd;simp [cH,this]
   have hAl:zF ds=(eQ ds).map fX:=by simp only [zF,hok,if_true]
   refine sr ?_;refine bf (aa (ah (cF (a6 (aE (aE (bq (ai (sr (mL (aH ?_)))))))))));refine fO hh rfl rfl rfl rfl bh.out aM.out rfl Xj Xj Xk ?_;intro b37 w37 hh;refine aL (aa (sr (aL (aa (ah (sr (aB (aa (ao ?_)))))))));rw [Lj] at hh;rw [hdl] at hen;refine bK [7,8,9,10,38,39,40,41,42,43,44,45,46,47,48,49,50] 7 8
    (fun v b w'=>∃(done rest:List (List Int)) (a:List Int) (A:Option Addr) (c':Nat),v=.slice A done.length c'∧Hp w [.row (some ⟨b37,0,none⟩) n n 3 1 (bu a),.row A done.length c' 9 1 (lV (done.map fX))] w'∧eQ ds=done++rest∧((b=.bool true∧nX (rF ds) a rest)∨(b=.bool false∧rest=[])))
    (fun v _ _=>65537-lenOf v) ?_ ?_
   ·exact ⟨[],_,_,none,0,rfl,(hh.cU _ _).swap,rfl,.inl ⟨rfl,hen⟩⟩
   ·clear hh;rintro ρ' v b w' ⟨done,rest,a,A,c',rfl,hh,hap,hc⟩
    rcases hc with ⟨rfl,hE⟩|⟨rfl,rfl⟩
    ·have hlen:(eQ ds).length=done.length+rest.length:=by rw [hap,Xy]
     have hre:rest=a::rest.tail:=by
      rcases yi hE with ⟨h,_⟩|⟨c,L,h,_⟩<;>simp [h]
     have hrl:rest.length=rest.tail.length+1:=by rw [hre];simp
     have ha:a∈eQ ds:=by rw [hap,hre];simp
     have hao:=hall a ha;have hal:=lR ds a ha;obtain ⟨eo1,eo2⟩:=pV hao;have e1:lV (done.map fX)++[.string (str (MC a))]=lV ((done++[a]).map fX):=by rw [H4,eo1,Yc];rfl
     refine ah (sr (mB (aa (cT (aq (ai (ah (ao (sr (mL ?_))))))))));refine bA hh (Ba _ _ _ _ _ (hh.aC (i:=0) rfl) Xj) rfl ?_;intro w44 hh;refine mT ?_;refine dn ?_;refine dn ?_;refine aS (aI (aa (al (mL (mS ?_)))));refine cX hh (cs:=[_]) bh.out aM.out (aN (D9 rfl) bZ) rfl rfl Xk Xk Xk rfl Xk ?_;intro b49 w49 hh;refine cw hh (i:=2) rfl rfl rfl (hh.aC (i:=0) rfl) bh.out aM.out rfl Xk rfl Xj Xj Xk ?_;intro A50 c50 w50 hh;simp only [XC,X6] at hh;replace hh:=hh.sub (X9 _ _);refine aL (aA (bz (ai (al (mL (mL ?_))))));rw [e1] at hh;have hcc:=Cx (D:=D) (c':=c) (ds:=ds) _ hh hD Xj hao hdok Xj
     rcases yi hE with ⟨h1,h2⟩|⟨c2,L,h1,h2,h3⟩
     ·rw [h2] at hcc;refine aF (hcc) ar.out rfl Xk ?_;rintro e_ w_ ⟨rfl,hh⟩;refine ⟨_,rfl, ?_⟩;refine aB (aA (ai ?_));refine ⟨⟨done++[a],[],_,A50,c50,by rw [Xy];rfl,by rw [Xy];exact hh,by rw [hap,h1];simp,.inr ⟨rfl,rfl⟩⟩,by show 65537-(done.length+1)<65537-done.length;omega, ?_⟩;exact dV
     ·rw [h2] at hcc;refine aF (hcc) ar.out rfl Xk ?_;rintro e_ w_ ⟨rfl,hh⟩;refine ⟨_,rfl, ?_⟩;refine aB (aA (ai ?_));refine ⟨⟨done++[a],L,c2,A50,c50,by rw [Xy];rfl,by rw [Xy];exact hh,by rw [hap,h1];simp,.inl ⟨rfl,h3⟩⟩,by show 65537-(done.length+1)<65537-done.length;omega, ?_⟩;exact dV
    ·refine ah (sr (mB (aa (cF (a6 (aE (aE (bq (ai (sr (mL (aL (aa (aw ?_))))))))))))));refine df ?_;have h1:=hh.at_ (i:=1) rfl;have hdn:eQ ds=done:=by rw [hap];simp
     rw [hAl,hdn,XA];exact ⟨A,c',rfl,h1,hh.below⟩
theorem wJ (A:Option Addr) (n c:Nat) (ds:List Int) (w:World) (hS:Sl w A n 1 (bu ds)) (hn:n≤1000000):
  Calls Tryz.prog 34 #[.slice A n c] w fun r w'=>r=.returned (.int .i64 (Iv ds))∧Below w.heap.size w w':=by
 have hh:=Hp.start w;have hln:ds.length=n:=by have:=hS.1;simpa [bu] using this
 unfold Iv;refine aj (N:=39) (l:=[.slice A n c]) Tryz.func34 rfl rfl (by simp) ?_;refine sr (aI (aa (sr (aI (aa (ah (sr (aI (aa (ao ?_))))))))));refine aR [2,4,6,7,8,9,10,11,12,13,14,15,16,17,18,19,20,21,22,23] 4
  (fun v w'=>∃i:Nat,i≤n∧v=.int .i64 i∧(ds.take i).any (fun d=> !cH d)=false∧Hp w [] w')
  (fun v _=>n-(intOf v).toNat) ?_ ?_
 ·exact ⟨0,Xs _,rfl,rfl,hh⟩
 ·clear hh;rintro ρ' v w' ⟨i,hi,rfl,hall,hh⟩;by_cases hlt:i<n
  ·obtain ⟨d,hd⟩:=ak (l:=ds) (k:=i) Xj;have hgi:=ck hd;obtain ⟨ad,rfl,hr⟩:=hS.at_ Xj;have hbad:(!cH d)=true→ds.any (fun d=> !cH d)=true:=fun h=>Zb.2 ⟨d,Xt hd,h⟩;by_cases h1:d<0
   ·refine ah (sr (mI (mL (aH ?_))));refine sG ?_;refine cx ?_;refine jG ?_;refine bf (mB ?_);refine gS (gS (gS (gS (gS ?_))));refine eR ?_;exact Ty
   ·by_cases h2:127<d
    ·refine ah (sr (mI (mL (aH ?_))));refine sG ?_;refine cx ?_;refine jG ?_;refine bf (mB (gT (mL (gT (mI (gT ?_))))));refine cx ?_;refine gT ?_;refine jG ?_;refine gT ?_;refine cj ?_;refine ez ?_;exact Ty
    ·refine ah (sr (mI (mL (aH ?_))));refine sG ?_;refine cx ?_;refine jG ?_;refine bf (mB (gT (mL (gT (mI (gT ?_))))));refine cx ?_;refine gT ?_;refine jG ?_;refine gT ?_;refine cj ?_;refine ez ?_;refine rQ ?_;refine bk (aI (aA (ai ?_)));refine ⟨⟨i+1,Xj,rfl, ?_,hh⟩,by show n-(i+1)<n-i;omega, ?_⟩
     ·rw [az hd,aag,hall,aao,aaj,cH,XH Xj,XH Xj];rfl
     ·exact dV
  ·rw [Xz Xj] at hall;rw [hall,Xp Xk];obtain ⟨ns,hns,hlow⟩:=xF hall;have hds:∀(j:Nat) (d:Int),ds[j]?=some d→0≤d∧d≤127:=fun j d hd=>by
    have:=Zf.1 hall d (Xt hd);simp [cH] at this;omega
   refine ah (sr (mI (mL (aH ?_))));refine bf (aa (cF (a6 (aE (aE (bq (ai (ah (sr (aI (aa (ao ?_))))))))))));refine bK [3,5,24,25,26,27,28,29,30,31,32,33,34,35,36,37] 3 5
    (fun v3 v w'=>∃(i:Nat) (q:Int),i≤n∧v=.int .i64 i∧v3=.int .i64 q∧0≤q∧q≤4097∧yw 1 ds=yw q (ds.drop i)∧Hp w [] w')
    (fun _ v _=>n-(intOf v).toNat) ?_ ?_
   ·exact ⟨0,1,Xs _,rfl,rfl,Xj,Xj,rfl,hh⟩
   ·clear hh;rintro ρ2 v3 v w2 ⟨j,q,hj,rfl,rfl,hq1,hq2,hc,hh⟩;by_cases hjn:j<n
    ·obtain ⟨d,hd⟩:=ak (l:=ds) (k:=j) Xj;have hgi:=ck hd;have hdb:=hds j d hd;obtain ⟨ad,rfl,hr⟩:=hS.at_ Xj;rw [gm hd,yw] at hc;have hm1:0*0≤q*(d+1):=aat hq1 Xj Xk Xj;have hm2:q*(d+1)≤4097*128:=aat hq2 Xj Xj Xk;refine ah (sr (mI (mL (aH ?_))));refine bf (aa (cT (aq (ai (ah (ao (al (mI (mL (mI ?_))))))))));refine pK ?_;refine jG ?_;refine bk ?_;refine mulC ?_;refine xG rfl rfl Xk ?_;refine aI (aA (bz (ai (al (mI ?_)))));refine bk (aI (aA (ai ?_)));refine ⟨⟨j+1,_,Xj,rfl,rfl,by split<;>omega,by split<;>omega,by rw [hc,show min (q*(d+1)) 4097=if 4097<q*(d+1) then 4097 else q*(d+1) by split<;>omega],hh⟩,by show n-(j+1)<n-j;omega, ?_⟩;exact dV
    ·rw [Zj Xj] at hc;refine ah (sr (mI (mL (aH ?_))));refine bf (aa (cF (a6 (aE (aE (bq (ai (sr (mI (aI (aa (aw ?_))))))))))));refine df ?_;exact ⟨by rw [hc];rfl,hh.below⟩
def Xa (n:Nat) (k:Int):Dyadic:=if k<0∨(n:Int)<k then 0 else nD (bin n k.toNat)
theorem E6:∀(ns:List Nat) (n:Nat),(∀d∈ns,d≤127)→n*au ns≤65536→1≤n→yV n (bM ns)=true
 |[],_,_,_,_=>rfl
 |d::ns,n,h,hc,h1=>by
  have hd:=h d XB;have e1:(n:Int)*((d:Int)+1)=((n*(d+1):Nat):Int):=by rw [YB,Zm];rfl
  rw [au,←Yp] at hc;have h2:n*(d+1)*1≤n*(d+1)*au ns:=X4 _ (cC ns);have ih:=E6 ns (n*(d+1)) (fun x hx=>h x (XD _ hx)) hc (Nat.mul_pos h1 Xj);show (decide (0≤(d:Int)) && (decide ((d:Int)≤127) && (decide ((n:Int)*((d:Int)+1)≤65536) && yV ((n:Int)*((d:Int)+1)) (bM ns))))=true;rw [e1,ih,XH Xj,XH Xj,XH Xj]
  rfl
def sO (ns:List Nat):List ByteArray:=(eQ (bM ns)).map fX
theorem Ho (ns:List Nat):(sO ns).length=au ns:=by unfold sO;rw [XA,L7,cD]
theorem MI {ns:List Nat}{p:Nat} (h:p<au ns):(sO ns)[p]?=some (fX (bM (cZ ns.reverse p).reverse)):=by
 unfold sO;rw [Xx,OK (by rw [cD];exact h)]
 rfl
theorem TH {l:List Nat}{i r:Nat} (h:l[i]?=some r) (hr:r≤255):∃c:UInt8,(fX (bM l)).data.toList[i]?=some c∧c.toNat=r:=by
 refine ⟨zU (r:Int), ?_, ?_⟩
 ·unfold fX;rw [dH,Xx,gN h]
  rfl
 ·show (UInt8.ofNat ((r:Int)).toNat).toNat=r;rw [YN,aaz];omega
theorem kH (L:Option Addr) (n c:Nat) (b:List NR) (M:Option Addr) (c2:Nat) (w:World) (hS:Sl w L n 3 (ay NR.cells b)) (hS2:Sl w M n 3 (ay NR.cells b)) (hn:n≤1000000):
  Calls Tryz.prog 25 #[.slice L n c,.slice M n c2] w fun r w'=>r=.returned (.bool true)∧Below w.heap.size w w':=by
 have hh:=Hp.start w;have hln:=hS.bp NR.len Xk;refine aj (N:=26) (l:=[.slice L n c,.slice M n c2]) Tryz.func25 rfl rfl (by simp) ?_;refine B5 ?_;refine IZ ?_;refine aR [4,5,11,12,13,14,15,16,17,18,19,20,21,22,23,24,25] 5
  (fun v w'=>∃i:Nat,i≤n∧v=.int .i64 i∧Hp w [] w')
  (fun v _=>n-(intOf v).toNat) ?_ ?_
 ·exact ⟨0,Xs _,rfl,hh⟩
 ·clear hh;rintro ρ' v w' ⟨i,hi,rfl,hh⟩;by_cases hlt:i<n
  ·obtain ⟨s,hs⟩:=ak (l:=b) (k:=i) Xj;obtain ⟨ad,rfl,hr⟩:=hS.at_ Xj;obtain ⟨ad2,rfl,hr2⟩:=hS2.at_ Xj;refine ah (sr (mI (mL (aH ?_))));refine yh ?_;refine AZ ?_;refine fS ?_;refine dJ ?_;refine ow (i) ?_;refine so [_,_,_] (fun _ hj=>(hr.ext hj.hp.below).recAt NR.len hs) ?_;refine fS ?_;refine dJ ?_;refine ow (i) ?_;refine so [_,_,_] (fun _ hj=>(hr2.ext hj.hp.below).recAt NR.len hs) ?_;refine aO ?_;intro f W hJ hV;have hb_6:=hJ.bl;obtain ⟨v24,v23,v22,v21,v20,v19,v18,v17,_⟩:=hV;replace hh:=hJ.hp;refine Bi ?_;dsimp only [cd];clear hJ;refine tw rfl rfl (by first|assumption|rfl) Xk ?_;refine rQ ?_;refine bk (aI (aA (ai ?_)));exact KG
  ·refine ah (sr (mI (mL (aH ?_))));refine CB ?_;refine df ?_;exact ⟨rfl,hh.below⟩
theorem yJ (A B:Option Addr) (n c m c2:Nat) (A' B':Option Addr) (c' c2':Nat) (ds:List Int) (cs:List NR) (w:World) (hS:Sl w A n 1 (bu ds)) (hS2:Sl w B m 3 (ay NR.cells cs)) (hS3:Sl w A' n 1 (bu ds)) (hS4:Sl w B' m 3 (ay NR.cells cs)) (hn:n≤100000) (hm:m≤1000000):
  Calls Tryz.prog 24 #[.agg #[.slice A n c,.slice B m c2],.agg #[.slice A' n c',.slice B' m c2']] w fun r w'=>r=.returned (.bool true)∧Below w.heap.size w w':=by
 have hh:=Hp.start w;have hnum:=fun w1 h1 h2=>wG A A' n n c c' ds ds w1 h1 h2 hn hn;simp only [decide_true] at hnum;refine aj (N:=17) (l:=[.agg #[.slice A n c,.slice B m c2],.agg #[.slice A' n c',.slice B' m c2']]) Tryz.func24 rfl rfl (by simp) ?_;refine sr ?_;refine cv hh [_,_] ?_;intro b2 w2 hh;refine cv hh [_,_] ?_;intro b3 w3 hh;refine aB (aa (sr (bH ?_)));refine bE hh 1 ?_;refine bH ?_;refine bE hh 0 ?_;refine bA hh (hnum _ (hS.ext hh.below) (hS3.ext hh.below)) rfl ?_;intro w9 hh;refine mB (gT (bH (gT ?_)));refine bE hh 1 ?_;refine gT (bH (gT ?_));refine bE hh 0 ?_;refine aD rfl rfl ?_;refine bA hh (kH B m c2 cs B' c2' _ (hS2.ext hh.below) (hS4.ext hh.below) hm) rfl ?_;intro w15 hh;refine eR ?_;exact zr
def Wv (ds es:List Nat) (xs ys:List Dyadic) (i m:Nat):List (Nat×Dyadic):=(List.range m).map fun k=>(eh (DM ds es) (DM (cZ ds i) (cZ es k)),(xs[i]?).getD 0*(ys[k]?).getD 0)
def W5 (ds es:List Nat) (xs ys:List Dyadic) (i:Nat):List (Nat×Dyadic):=(List.range i).flatMap fun i=>Wv ds es xs ys i (au es)
def bS (rs:List Nat):List UInt8:=(bM rs).map zU
def Ob (ns:List Nat) (a:Nat):List Nat:=ns.set a (ns.getD a 0+1)
def W0 (ns:List Nat) (a:Nat) (xs:List Dyadic):List Dyadic:=
 (List.range (au (Ob ns a))).map fun p=>co ns.reverse xs (cZ (Ob ns a).reverse p)+if 0<(cZ (Ob ns a).reverse p).getD (ns.length-1-a) 0 then co ns.reverse xs (Vd (cZ (Ob ns a).reverse p) (ns.length-1-a)) else 0
theorem ke:∀(ds rs:List Nat),iV ds rs↔rs.length=ds.length∧∀(i d r:Nat),ds[i]?=some d→rs[i]?=some r→r≤d
 |[],[]=>by simp [iV]
 |[],_::_=>by simp [iV]
 |_::_,[]=>by simp [iV]
 |d::ds,r::rs=>by
  rw [iV,ke ds rs];constructor
  ·rintro ⟨h1,h2,h3⟩;refine ⟨by rw [XR,XR,h2],fun i e s he hs=> ?_⟩
   cases i with
   |zero=>cases he;cases hs;exact h1
   |succ i=>exact h3 i e s he hs
  ·rintro ⟨h1,h2⟩;exact ⟨h2 0 d r rfl rfl,by simpa using h1,fun i e s he hs=>h2 (i+1) e s he hs⟩
def VU (ns:List Nat) (xs:List Dyadic) (cs:List Nat) (zs:List Dyadic):Prop:=zs.length=au cs∧cs.length=ns.length∧(∀(i n c:Nat),ns[i]?=some n→cs[i]?=some c→n≤c)∧∀row:List Nat,row.length=ns.length→co cs.reverse zs row=Wd (R6 cs ns).reverse (co ns.reverse xs) row
variable {k:Nat}
structure yE (p:PX) (b:List SR) (ns:List Nat):Prop where
 e:p.e=0
 box:m7 b=0
 pos:0<b.length
 uz:b.length≤12
 v:p.v=b.length
 nl:ns.length=b.length
 low:∀d∈ns,d≤127
 most:au ns≤4096
 own:∀(i d:Nat),ns[i]?=some d→∀t∈p.ts,gC i t≤d
theorem C6 {p:PX}{b:List SR}{D:List Int} (h:pT p b D=0):D=bM (D.map Int.toNat)∧yE p b (D.map Int.toNat):=by
 unfold pT at h;by_cases h0:p.e≠0
 ·rw [Xo h0] at h;exact absurd h h0
 ·rw [Xp h0] at h;by_cases h1:m7 b≠0
  ·rw [Xo h1] at h;exact absurd h h1
  ·rw [Xp h1] at h;by_cases h2:(b.length:Int)≠p.v∨(D.length:Int)≠p.v
   ·rw [Xo h2] at h;exact absurd h Xk
   ·rw [Xp h2] at h;by_cases h3:Eg (sS p.v p.ts) D=true
    ·rw [Xo h3] at h;exact absurd h Xk
    ·rw [Xp h3] at h;by_cases h4:g7 1 D=0
     ·rw [Xo h4] at h;exact absurd h Xk
     ·have hpe:p.e=0:=Y5.1 h0;obtain ⟨f1,_,_,_⟩:=cK hpe;have f2:=gK.1 f1;obtain ⟨o1,o2,o3⟩:=m6 hpe;have hbv:(b.length:Int)=p.v:=Y5.1 fun c=>h2 (.inl c);have hdv:(D.length:Int)=p.v:=Y5.1 fun c=>h2 (.inr c);have hD:∀(i:Nat) (y:Int),D[i]?=some y→∃d:Nat,(dZ p.v p.ts)[i]?=some d∧(d:Int)≤y∧y≤127:=fun i y hy=>by
       have hi:=(XE.1 hy).1;obtain ⟨d,hd⟩:=ak (l:=dZ p.v p.ts) (k:=i) Xj;have hg:(sS p.v p.ts)[i]?=some (d:Int):=by rw [o1];exact gN hd
       have:=Zf.1 ((Bool.not_eq_true _).mp h3) _ (Xt (GG hg hy));rw [XN] at this;exact ⟨d,hd,by show (d:Int)≤y;omega,by show y≤127;omega⟩
      have hnat:D=bM (D.map Int.toNat):=by
       unfold bM;rw [Ym];refine (aaw _).symm.trans (YZ fun y hy=> ?_);obtain ⟨i,hi⟩:=YJ.1 hy;obtain ⟨d,_,h5,_⟩:=hD i y hi;show y=((y.toNat:Nat):Int);omega
      have hlow:∀d∈D.map Int.toNat,d≤127:=fun d hd=>by
       obtain ⟨y,hy,rfl⟩:=XG.1 hd;obtain ⟨i,hi⟩:=YJ.1 hy;obtain ⟨_,_,_,h6⟩:=hD i y hi;omega
      refine ⟨hnat,hpe,Y5.1 h1, ?_,Xj,hbv.symm,by rw [XA];omega,hlow, ?_,fun i d hd t ht=> ?_⟩
      ·rcases Y3 b.length with c|c
       ·have h9:=Y5.1 h1;unfold m7 at h9;rw [ZZ.1 c] at h9;exact absurd h9 Xk
       ·exact c
      ·have h8:=kv (D.map Int.toNat) 1 (Xr _) Xk hlow;rw [←hnat,Zd] at h8;rw [show g7 1 D=g7 ((1:Nat):Int) D from rfl,h8] at h4;exact Y5.1 fun c=>h4 (Xp c)
      ·rw [Xx] at hd;obtain ⟨y,hy,hyd⟩:=Zp.1 hd;obtain ⟨d2,h7,h8,h9⟩:=hD i y hy;have:=(o3 i d2 h7).2.1 t ht;omega
theorem yE.y3 {p:PX}{b:List SR}{ns:List Nat} (h:yE p b ns):(dZ p.v p.ts).length=b.length:=by
 rw [(m6 h.e).2.1,h.v];exact YN _
theorem NC (v i:Nat) (c:NR):nS (fun x=>if x=i then 1 else 0) [⟨k5 v i,c⟩]:=fun t ht j=>by
 rw [XO.1 ht]
 cases he:(⟨k5 v i,c⟩:TR).m.data.toList[j]? with
 |none=>unfold gC;rw [he];exact Xs _
 |some e=>
  rw [ri he];show e.toNat≤if j=i then 1 else 0
  have e1:((List.replicate v (0:UInt8)).set i 1)[j]?=some e:=by simpa [k5] using he
  rw [Zw] at e1;by_cases hj:i=j
  ·rw [Xo hj] at e1;rw [Xo hj.symm];split at e1
   ·rw [←Yd e1];decide
   ·cases e1
  ·rw [Xp hj] at e1;rw [(List.mem_replicate.1 (Xt e1)).2];exact Xs _
theorem xV (v i:Nat) (s:SR):nS (fun x=>if x=i then 1 else 0) (gP v i s):=by
 refine nS.aG (nS.append ((uh v _).aG.mono fun x=>Xs _) (nS.aG fun t ht j=> ?_));obtain ⟨z,hz,rfl⟩:=XG.1 ht;rw [show gC j (oN (s.H-s.L) z)=gC j z from rfl];exact (NC v i _).aG z hz j
theorem yl {p:PX}{b:List SR}{ns:List Nat} (h:yE p b ns) (ho:iT k p.ts) (hb:∀s∈b,s.fin k) (hk:k≤1000) (hgr:fK (k+k+16394) (dZ p.v p.ts) (k+1)≤440000) (h0:(dw p (br b)).1=0):
  jl b.length 440000 (dw p (br b)).2∧∀t∈(dw p (br b)).2,iV ns.reverse (cP t.m).reverse:=by
 have hl:=h.uz;have hpos:=h.pos;have hln:=j6 b;obtain ⟨_,o2,o3⟩:=m6 h.e;have hol:=h.y3;have hhv:fH (br b)=b.length:=by
  obtain ⟨s,hs⟩:=ak (l:=b) (k:=0) Xj;rw [lF (gl hs)]
 unfold dw at h0 ⊢;rw [Xp (fun c=>c h.e),Xp (by rw [hln,h.v];exact fun c=>c rfl)] at h0 ⊢;by_cases hlk:(br b).length≠0∧fR (br b)≠0
 ·rw [Xo hlk] at h0;exact absurd h0 hlk.2
 ·rw [Xp hlk,hhv] at h0 ⊢;have hq:∀q∈(br b).map PX.ts,jl b.length (k+k+10) q∧q.length≤2:=fun q hq=>by
   obtain ⟨g,hg,rfl⟩:=XG.1 hq;obtain ⟨i,s,hs,rfl⟩:=DC hg;exact nw hl (hb s (Xt hs)) Xj
  have h1:=EY (fL hl) (show k+k+10+4096*2+8192≤k+k+16394 by omega) ((br b).map PX.ts) 0 p.ts (dZ p.v p.ts) k hq ho (by rw [XA,hln,hol]) (fun i d hd=>⟨(o3 i d hd).1,fun t ht=>by rw [XJ];exact (o3 i d hd).2.1 t ht⟩) Xj h0;refine ⟨h1.mono hgr, ?_⟩;have h2:=FJ ((br b).map PX.ts) 0 p.ts (fun i=>(ns[i]?).getD 0) (fun i q hi=> ?_) (fun t ht i hi=> ?_) h0
  ·intro t ht;have hm:=(cK h1.e).2.2.1 t ht;unfold fa at hm;rw [XF,XN] at hm;have hsz:(cP t.m).length=b.length:=by rw [j5];omega
   rw [ke];refine ⟨by rw [X8,X8,hsz,h.nl],fun i d r hd hr=> ?_⟩;have hi:=(XE.1 hd).1;rw [X8] at hi;rw [Ze hi] at hd;rw [Ze (by rw [hsz,←h.nl];exact hi),hsz,←h.nl] at hr;have h3:=h2 t ht (ns.length-1-i);dsimp only at h3;rw [XA,hln,Xo ⟨Xs _,by have:=h.nl;omega⟩,hd,zk,hr] at h3;exact h3
  ·rw [Xx] at hi;obtain ⟨g,hg,rfl⟩:=Zp.1 hi;obtain ⟨s,hs⟩:=ak (l:=b) (k:=i) (by have:=(XE.1 hg).1;rwa [hln] at this);rw [gl hs] at hg;rw [←Yd hg,XJ];exact xV _ i s
  ·rw [XA,hln] at hi;rw [XJ];obtain ⟨d,hd⟩:=ak (l:=ns) (k:=i) (by rw [h.nl];exact hi);rw [hd];exact h.own i d hd t ht
theorem yt (L:Option Addr) (n c d:Nat) (xs:List Dyadic) (k:Nat) (w:World) (hT:dN w) (hS:Sl w L n 3 (ay NR.cells (xs.map nR))) (hn:n=d+1) (hd:d≤127) (hx:∀x∈xs,Sz k x) (hk:k≤500000):
  Calls Tryz.prog 50 #[.slice L n c] w fun r w'=>∃A c',r=.returned (.slice A n c')∧Hp w [.row A n c' 40 3 (ay NR.cells ((kU d (eB d 1 1) xs).map nR))] w':=by
 have hh:=Hp.start w;have hln:xs.length=n:=by have:=hS.bp NR.len Xk;simpa using this
 have ha:Sz 1 1:=Sz.one;obtain ⟨ad,rfl,hr⟩:=hS.at_ Xj;refine aj (N:=52) (l:=[.slice (some ad) n c]) Tryz.func50 rfl rfl (by simp) ?_;refine sr (aL (aa (sr (mL (aH ?_)))));refine ep (aI (aa (sr (mI ?_))));refine bk ?_;refine Jh ?_;intro b14 w14 hh;refine rZ ?_;rw [nu,hn,←uZ d 1 1 xs,←hn] at hh;refine aR [5,6,7,8,17,18,19,20,21,22,23,24,25,26,27,28,29,30,31,32,33,34,35,36,37,38,39,40,41,42,43,44,45,46,47,48,49,50] 17
  (fun v w'=>∃i:Nat,i≤n∧v=.int .i64 i∧Hp w [.row (some ⟨b14,0,none⟩) n n 40 3 (ay NR.cells ((iE d 1 1 xs i 0).map nR))] w')
  (fun v _=>n-(intOf v).toNat) ?_ ?_
 ·exact ⟨0,Xs _,rfl,hh⟩
 ·clear hh;rintro ρ' v w' ⟨i,hi,rfl,hh⟩;by_cases hlt:i<n
  ·obtain ⟨x,hxi⟩:=ak (l:=xs) (k:=i) Xj;have hxn:(xs.map nR)[i]?=some (nR x):=by rw [Xx,hxi];rfl
   have hat:jD xs i=x:=by unfold jD;rw [hxi];rfl
   have zx:=hx x (Xt hxi);have hch:=fun w1 hT1=>kY (d-i) w1 hT1 Xj;refine sr ?_;refine dR ?_;refine cx ?_;refine Ju ?_;refine bP hh ?_;intro b6 w6 hh;refine aI ?_;refine bR hh 0 [_,_,_] ?_;intro ws hh;replace hh:Hp _ (.blk _ _ [_,_,_] _::_) _:=hh;refine aa (sr (mI (mI ?_)));refine ep ?_;have e24:(n:Int)-1-(i:Int)=((d-i:Nat):Int):=Xj;rw [←e24] at hch;refine aF (hch _ (hT.hp hh)) ar.out rfl Xk ?_;rintro e_ w25 ⟨A25,c25,rfl,hown_,hb_⟩;refine ⟨_,rfl, ?_⟩;replace hh:=hh.aX (x:=.row _ _ _ _ _ _) hb_ hown_;refine aH (mI (aa (ao ?_)));replace hh:=hh.sub (Xq _ (Xq _ (Xq _ XU)));refine aR [7,8,27,28,29,30,31,32,33,34,35,36,37,38,39,40,41,42,43,44,45,46,47,48,49] 27
    (fun v w'=>∃j:Nat,j≤d-i+1∧v=.int .i64 j∧Hp w [.row A25 (d-i+1) c25 40 3 (ay NR.cells (la (d-i))),.blk b6 40 [.bool (nR x).neg,.string (nR x).bg,.int .i64 (nR x).e] (0,0),.row (some ⟨b14,0,none⟩) n n 40 3 (ay NR.cells ((iE d 1 1 xs i j).map nR))] w')
    (fun v _=>d-i+1-(intOf v).toNat) ?_ ?_
   ·exact ⟨0,Xs _,rfl,hh⟩
   ·clear hh;rintro ρ2 v w2 ⟨j,hj,rfl,hh⟩;by_cases hjn:j<d-i+1
    ·have hbn:(la (d-i))[j]?=some (nR (nD (bin (d-i) j))):=kV Xj;have zb:=rK (d-i) j Xj;obtain ⟨o,ho⟩:=ak (l:=iE d 1 1 xs i j) (k:=i+j) (by rw [kt];omega);have hon:((iE d 1 1 xs i j).map nR)[i+j]?=some (nR o):=by rw [Xx,ho];rfl
     have zo:=FD (j:=j) hx ha ha hd (show i≤d+1 by omega) o (Xt ho);have zy:=zx.mul zb;have hm2:=fun A cc w1 hT1 hS1=>dW A 2 cc [nR x,nR (nD (bin (d-i) j))] w1 hT1 hS1 (by simpa using ⟨zx.ok Xj,zb.ok Xj⟩) 600000 (by simpa [bI] using ⟨zx.mono Xj,zb.mono Xj⟩) Xj Xj;rw [show fU ([nR x,nR (nD (bin (d-i) j))].map NR.d)=x*nD (bin (d-i) j) by simp only [XQ,Ye,bI];show 1*x*_=_;rw [Zi]] at hm2;have hset:=BV (show i+j≤d by omega) ho;have hval:jD xs i*eB d 1 1 i (i+j)=x*nD (bin (d-i) j):=by
      unfold eB;rw [hat,Xp Xj,show i+j-i=j by omega,iw,iw];generalize nD (bin (d-i) j)=u;grind
     rw [hval] at hset;generalize x*nD (bin (d-i) j)=y at*;have hsum:=fun A cc w1 hT1 hS1=>fY A 2 cc [nR o,nR y] w1 hT1 hS1 (by simpa using ⟨zo.ok Xj,zy.ok Xj⟩) 2000000 (by simpa [bI] using ⟨zo.mono Xj,zy.mono Xj⟩) Xj;rw [show l4 ([nR o,nR y].map NR.d)=o+y by simp only [XQ,Ye,bI,jA]] at hsum;have hll:((iE d 1 1 xs i j).map nR).length=n:=by rw [XA,kt];omega
     generalize iE d 1 1 xs i j=S at*;have hrl:=dY NR.len (S.map nR);obtain ⟨gw,rfl⟩:=hh.cn (i:=0) rfl Xj;refine sr ?_;refine dR ?_;refine sy ?_;refine QJ ?_;refine bP hh ?_;intro b8 w8 hh;refine aI ?_;refine bR hh 0 [_,_,_] ?_;intro ws hh;replace hh:Hp _ (.blk _ _ [_,_,_] _::_) _:=hh;refine aa ?_;refine a0 16 [[(4,none)],[(5,none)],[(7,none)],[(33,some 1),(34,some 2)],[(4,none)],[(5,none)],[(7,none)],[(37,some 5),(38,some 6)],[(36,some 4),(39,some 7)],[(40,some 8)],[(6,none)],[(8,none)],[(42,some 10),(43,some 11)],[(44,some 12)],[(41,some 9),(45,some 13)],[(46,some 14)]] [(15,47),(14,46),(13,45),(12,44),(11,43),(10,42),(9,41),(8,40),(7,39),(6,38),(5,37),(4,36),(3,35),(2,34),(1,33),(0,32)] hh mixed Xl ?_;refine fS ?_;refine dJ ?_;refine dJ ?_;refine rL ?_;refine fS ?_;refine dJ ?_;refine dJ ?_;refine rL ?_;refine LC ((i+j)) ?_;refine so [_,_,_] (fun _ hj=>hj.hp.fV (f:=NR.cells) (x:=nR o) (l:=S.map nR) (i:=3) rfl NR.len Xk hon) ?_;refine fG 2 [_,_,_] ?_;refine fG 0 [_,_,_] ?_;refine rD [_,_,_,_,_,_] ?_
     refine aQ (i:=13) (Is (.agg #[.bool (nR y).neg,.string (nR y).bg,.int .i64 (nR y).e])) Is.ext ?_ ?_
     ·intro ρ1 w1 hj hR;obtain ⟨A44,c44,h44,s44⟩:=hR.1;exact aY rfl (aJ ar.out (av h44 aU)) (hm2 A44 c44 _ (hT.hp hj.hp) s44) (fun _ _ hq=>⟨_,hq.1,hq.2,rfl⟩)
     refine rD [_,_,_,_,_,_] ?_;refine aQ (i:=15) (Is (.agg #[.bool (nR (o+y)).neg,.string (nR (o+y)).bg,.int .i64 (nR (o+y)).e])) Is.ext ?_ ?_
     ·intro ρ1 w1 hj hR;obtain ⟨A46,c46,h46,s46⟩:=hR.1;exact aY rfl (aJ ar.out (av h46 aU)) (hsum A46 c46 _ (hT.hp hj.hp) s46) (fun _ _ hq=>⟨_,hq.1,hq.2,rfl⟩)
     refine aO ?_;intro f W hJ hV;have hb_9:=hJ.bl;obtain ⟨v47,v46,v45,v44,v43,v42,v41,v40,v39,v38,v37,v36,v35,v34,v33,v32,_⟩:=hV;obtain ⟨A44,c44,e44,f44⟩:Rows _ _ _ (f 12) W:=v44;obtain ⟨A46,c46,e46,f46⟩:Rows _ _ _ (f 14) W:=v46;replace hh:=hJ.hp;refine aW (bm (ae v47 (ae e46 (ae v45 (ae e44 (ae v43 (ae v42 (ae v41 (ae v40 (ae v39 (ae v38 (ae v37 (ae v36 (ae v35 (ae v34 (ae v33 (ae v32 aV))))))))))))))))) ?_;dsimp only [cd];clear e44 e46 hJ;exact Po
    ·exact PY
  ·obtain rfl:i=n:=Xj;rw [show iE d 1 1 xs i 0=kU d (eB d 1 1) xs by rw [hn,xW]] at hh;exact SH
def VN (w:World) (b i:Nat):Int:=match w.cell? ⟨b,0,none⟩ with
 |some (.slice (some a) _ _)=>match w.cell? (a.add (i*1)) with
  |some (.int _ z)=>z
  |_=>0
 |_=>0
structure RS (ns ts:List Nat) (xs:List Dyadic) (k n:Nat) (F FC:Option Addr) (c1 c2 i T:Nat) (cur:List Nat) (zs:List Dyadic) (A B:Option Addr) (ca cb:Nat) (R:List HE) (w:World):Prop where
 VF:VU ns xs cur zs
 le:∀(j c t:Nat),cur[j]?=some c→ts[j]?=some t→c≤t
 eq:∀(j c t:Nat),j<i→cur[j]?=some c→ts[j]?=some t→c=t
 sz:∀x∈zs,Sz (k+T) x
 src:(A=F∧ca=c1∧B=FC∧cb=c2∧cur=ns∧zs=xs)∨R=[.row B (au cur) cb 40 3 (ay NR.cells (zs.map nR)),.row A n ca 3 1 (bu (bM cur))]
 rd:∀(H:List HE) (w':World),Hp w (H++R) w'→Sl w' A n 1 (bu (bM cur))∧Sl w' B (au cur) 3 (ay NR.cells (zs.map nR))
variable {w:World}
theorem FX.at_.ln {g:FX} (h:g.at_ w):g.ds.length=g.n∧g.cs.length=g.m:=⟨by have:=h.dg.1;rw [bX] at this;omega,h.nm.bp NR.len Xk⟩
def Kept (fs:List FX) (R:List HE) (g:FX):Prop:=g∈fs∨(g.qz∈R∧g.oV∈R)
variable {E:Int}
def Tu (E:Int) (D:List Nat):List Int:=if E=0 then bM D else []
def TI (E:Int) (ys:List Dyadic):List NR:=if E=0 then ys.map nR else []
structure Out (E:Int) (D:List Nat) (ys:List Dyadic) (g:FX):Prop where
 ds:g.ds=Tu E D
 cs:g.cs=TI E ys
 n:g.n≤100000
 m:g.m≤1000000
def FX.nil:FX:=⟨none,0,0,none,0,0,[],[]⟩
theorem Hp.UB {H:List HE} (h:Hp w0 H w):Hp w0 (FX.nil.qz::FX.nil.oV::H) w:=(h.cU 3 1).cU 40 3
theorem Out.err {D:List Nat}{ys:List Dyadic} (h:E≠0):Out E D ys FX.nil:=⟨by unfold Tu;rw [Xp h];rfl,by unfold TI;rw [Xp h];rfl,Xs _,Xs _⟩
theorem Cg (g h:FX) (w:World) (hg:g.at_ w) (hh:h.at_ w) (e:g.ds=h.ds∧g.cs=h.cs) (hn:g.n≤100000) (hm:g.m≤1000000):
  Calls Tryz.prog 24 #[.agg #[.slice g.A g.n g.a,.slice g.B g.m g.b],.agg #[.slice h.A h.n h.a,.slice h.B h.m h.b]] w fun r w'=>r=.returned (.bool true)∧Below w.heap.size w w':=by
 have l1:=hg.ln;have l2:=hh.ln;obtain ⟨hg1,hg2⟩:=hg;obtain ⟨hh1,hh2⟩:=hh;have e1:h.n=g.n:=by rw [←l1.1,←l2.1,e.1]
 have e2:h.m=g.m:=by rw [←l1.2,←l2.2,e.2]
 rw [←e.1,e1] at hh1;rw [←e.2,e2] at hh2;rw [e1,e2];exact yJ g.A g.B g.n g.a g.m g.b h.A h.B h.a h.b g.ds g.cs w hg1 hg2 hh1 hh2 hn hm
def U9 (f:FX) (es:List Int):Int:=if f.e≠0 then f.e else Wz f.ds es
def FX.key (f:FX):List Int×List NR×Nat:=(f.ds,f.cs,f.n)
variable {M:List Nat}{N b base m:Nat}{P:Program}{R:Ending→World→Prop}{args:Array Operand}{assign body:Code}{ops:Array Oper}{pos:String}{vs:List Value}{w':World}{α:Type}{ρ:Rf}
abbrev pE (D:Nat):Deferred:={ target:=.collected D,args:= #[] }
abbrev pX (M:List Nat):List HE:=M.map fun D=>.ob D (.deferred (some []))
theorem L5 {D:List Deferred}{a b:Act} (h:eA N D a ρ) (k:eA N D b ρ):a=b:=by
 obtain ⟨t,d⟩:=a;obtain ⟨t',d'⟩:=b;obtain ⟨h1,h2,h3⟩:=h;obtain ⟨k1,k2,k3⟩:=k;obtain rfl:d=d':=h1.trans k1.symm;congr 1;refine Array.ext (h2.trans k2.symm) fun i hi hi'=> ?_;have e1:=h3 i;have e2:=k3 i;rw [Yn,Zy hi] at e1;rw [Yn,Zy hi'] at e2;exact e1.trans e2.symm
abbrev Kd:=Exit→List Nat→Rf→World→Prop
structure WD (P:Program) (N:Nat) (c:Code) (Q:Kd) (ρ:Rf) (w:World):Prop where
 out:∀(M:List Nat) a,eA N (M.map pE) a ρ→∀n,c.wpIn Fence.wide n P (fun e a' w'=>∃M' ρ',eA N ((M'++M).map pE) a' ρ'∧Q e M' ρ' w') a w
def yY (next:List Nat→Rf→World→Prop) (Q:Kd):Kd
 |.normal,M,ρ,w=>next M ρ w
 |e,M,ρ,w=>Q e M ρ w
def tR (M:List Nat) (Q:Kd):Kd:=fun e M2 ρ w=>Q e (M2++M) ρ w
def KJ (id:Nat) (Q:Kd):Kd
 |.exit id',M,ρ,w=>if id'=id then Q .normal M ρ w else Q (.exit id') M ρ w
 |e,M,ρ,w=>Q e M ρ w
def JW (Q:Kd):Kq:=fun e ρ w=>Q e [] ρ w
section
variable {P:Program}{N:Nat}{Q:Kd}{ρ:Rf}{w:World}
theorem Fs {c:Code} (h:∀D,WC ⟨none,D,true⟩ P N c (JW Q) ρ w):WD P N c Q ρ w:=
 ⟨fun M a hf n=>wpIn_mono ((h (M.map pE)).jO a hf n) fun e a' w' ⟨ρ',hf',hq⟩=>⟨[],ρ',hf',hq⟩⟩
theorem yF {x y:Code} (h:WD P N x (yY (fun M ρ w=>WD P N y (tR M Q) ρ w) Q) ρ w):WD P N (.seq x y) Q ρ w:=
 ⟨fun M a hf n=>wpIn_seq (wpIn_mono (h.out M a hf n) fun e a' w' ⟨M',ρ',hf',hq⟩=>by
  cases e with
  |normal=>
   refine wpIn_mono ((hq:WD P N y (tR M' Q) ρ' w').out (M'++M) a' hf' n) fun e a2 w2 ⟨M2,ρ2,hf2,hq2⟩=> ?_;exact ⟨M2++M',ρ2,by rw [Ya];exact hf2,hq2⟩
  |_=>exact ⟨M',ρ',hf',hq⟩)⟩
theorem jF {x y:Code} (h:∀D,WC ⟨none,D,true⟩ P N x (cB (fun ρ w=>WD P N y Q ρ w) (JW Q)) ρ w):WD P N (.seq x y) Q ρ w:=
 yF (Fs fun D=>(h D).mono fun e ρ w hq=>by
  cases e with
  |normal=>
   show WD P N y (tR [] Q) ρ w;have e0:tR [] Q=Q:=by funext e M ρ w;unfold tR;rw [XZ]
   rw [e0];exact hq
  |_=>exact hq)
theorem ua {id:Nat}{c:Code} (h:WD P N c (KJ id Q) ρ w):WD P N (.block id c) Q ρ w:=
 ⟨fun M a hf n=>wpIn_block (wpIn_mono (h.out M a hf n) fun e a' w' ⟨M',ρ',hf',hq⟩=>by
  cases e with
  |exit id'=>
   by_cases hid:id'=id
   ·simp only [KJ,hid,if_true] at hq;simp only [Exit.inBlock,hid,if_true];exact ⟨M',ρ',hf',hq⟩
   ·simp only [KJ,hid,if_false] at hq;simp only [Exit.inBlock,hid,if_false];exact ⟨M',ρ',hf',hq⟩
  |_=>exact ⟨M',ρ',hf',hq⟩)⟩
theorem OC {c:Code} (I:List Nat→Rf→World→Prop) (μ:Rf→World→Nat) (h0:I [] ρ w)
  (round:∀M ρ w,I M ρ w→WD P N c (fun e M2 ρ' w'=>yY (fun M2 ρ' w'=>I M2 ρ' w'∧μ ρ' w'<μ ρ w) Q e (M2++M) ρ' w') ρ w):WD P N (.loop c) Q ρ w:=by
 refine ⟨fun M0 a hf n=> ?_⟩;refine wpIn_loop (fun a w=>∃M ρ,eA N ((M++M0).map pE) a ρ∧I M ρ w) (fun a w=>μ (fun i=>a.tmps.getD i undef) w) ⟨[],ρ,hf,h0⟩ ?_;rintro a w ⟨M,ρ,hf,hi⟩;refine wpIn_mono ((round M ρ w hi).out (M++M0) a hf n) ?_;rintro e a' w' ⟨M',ρ',hf',hq⟩;rw [←Ya] at hf';have e1:(fun i=>a.tmps.getD i undef)=ρ:=funext hf.at_;have e2:(fun i=>a'.tmps.getD i undef)=ρ':=funext hf'.at_
 cases e with
 |normal=>exact ⟨⟨_,ρ',hf',hq.1⟩,by rw [e1,e2];exact hq.2⟩
 |_=>exact ⟨_,ρ',hf',hq⟩
def Qe {α:Type} (Kp:World→World→Prop) (I:List α→World→Prop) (pre:List α) (x:α) (W:World):Kq
 |.normal,_,W'=>KeepsOthers W W'∧Kp W W'∧I (pre++[x]) W'
 |_,_,_=>False
def qy:Kq:=fun _ _ _=>False
theorem xU {ps:Tmp}{v:Value}{a:Array Value}:((#[ps]:Array Tmp).zip #[v]).foldl (fun t (p,v)=>t.setIfInBounds p v) a=a.setIfInBounds ps v:=by simp
theorem KD {g:Operand}{p:Tmp}{gf:Nat}{lb:Array Value} (hp:p<N) (hg:ev ρ g=.func (.func gf) #[] lb) (eg:∀args w,(callFunc gf args).run P w=.ok (.enter gf args) w)
  {enc:α→Value}{Kp:World→World→Prop}{S:List α→Prop}{Nn:Nat} (hseq:∀n,SeqStopsK Fence.wide n P gf lb (fun x=> #[enc x]) Kp S (fun _=>True) Nn w)
  (hKt:∀{A B C:World},Kp A B→Kp B C→Kp A C) (hKb:∀(W:World) (l:Nat) (o o':Obj),w.heap.size≤l→W.heap[l]?=some o→o.isCells=false→o.isWalk=false→Kp W (W.putObj l o'))
  (I:List α→World→Prop) (hI:OwnFrom w.heap.size I) (h0:I [] w) (ρ1:α→Rf) (hρ:∀x i,N≤i→ρ1 x i=ρ i)
  (hassign:∀l x W,WC ⟨some l,[],true⟩ P N assign (cB (fun ρ' W'=>ρ'=ρ1 x∧W'=W) qy) (cG ρ p (enc x)) W)
  (hbody:∀l pre x W,I pre W→pre.length<Nn→WC ⟨some l,[],true⟩ P N body (Qe Kp I pre x W) (ρ1 x) W)
  (hdone:∀(D:Nat) (xs:List α) (W:World),w.heap.size≤D→S xs→I xs W→W.heap[D]?=some (.deferred (some []))→Q .normal [D] ρ W):WD P N (.rangeFunc g #[p] assign body) Q ρ w:=by
 refine ⟨fun M a hf n=> ?_⟩;have hfit:∀x,eA N [] { tmps:=Array.ofFn fun i:Fin N=>ρ1 x i,defers:=[] } (ρ1 x):=fun x=>by
  refine ⟨rfl,by simp,fun i=> ?_⟩;rw [Yn];by_cases hi:i<N
  ·rw [Zy (by simpa using hi)];simp
  ·rw [Z5 (by simp;omega),hρ x i Xj,←hf.at_ i,Yn,Z5 (by rw [hf.sz];omega)]
 have main:(Code.rangeFunc g #[p] assign body).wpIn Fence.wide (n+1) P (fun e a' w'=>∃M' ρ',eA N ((M'++M).map pE) a' ρ'∧Q e M' ρ' w') a w:=by
  refine wpIn_rangeFunc_ownF (F:=Fence.wide) (n:=n+1) rfl Xj (gf:=gf) (lb:=lb) (by rw [hf.eval];exact hg) trivial eg (hseq _) hKt hKb (Below.refl _ _) (fun _=>rfl) I (fun _ _ _=>False) hI
   (fun _ _ _ _ _ hs _ _=>hs) h0 (fun x=>{ tmps:=Array.ofFn fun i:Fin N=>ρ1 x i,defers:=[] }) (fun l x W K hK=> ?_) (fun l pre x W hi hl=> ?_) (fun D xs W hD hS hi hW=> ?_) (fun _ _ _ _ _ _ h _=>h.elim)
  ·refine wpIn_mono ((hassign l x W).jO _ ⟨rfl, ?_,fun i=> ?_⟩ _) fun e a' w' ⟨ρ',hf',hq⟩=> ?_
   ·rw [xU];simp [hf.sz]
   ·rw [xU,←(hf.put hp (enc x)).at_ i]
    rfl
   ·cases e with
    |normal=>
     obtain ⟨rfl,rfl⟩:=hq;rw [L5 hf' (hfit x)];exact hK
    |_=>exact hq.elim
  ·refine wpIn_mono ((hbody l pre x W hi hl).jO _ (hfit x) _) fun e a' w' ⟨ρ',hf',hq⟩=> ?_
   cases e with
   |normal=>exact hq
   |_=>exact hq.elim
  ·exact ⟨[D],ρ,⟨by rw [hf.nd];rfl,hf.sz,hf.at_⟩,hdone D xs W hD hS hi hW⟩
 intro b k cs hro hb _;exact main b k cs hro hb (room_wide _)
end
def TM (P:Program) (fn:Func) (R:Ending→World→Prop):Kd:=fun e M ρ w=>
 (e=.normal∨e=.ret)∧∀tmps:Array Value,(∀i,tmps.getD i undef=ρ i)→∀n,LeavesInM Fence.wide n P fn tmps R (M.map pE) .returning w
theorem It {f:FuncId}{fn:Func}{c:Code}{l:List Value}
  (hf:P.funcs[f]?=some fn) (hb:fn.body=some c) (hn:fn.ntmps=N) (ha:l.length≤N)
  (h:WD P N c (TM P fn R) (GQ l) w):Calls P f l.toArray w R:=by
 refine (callsIn_wide (n:=0)).1 (callsIn_of_wp_marks hf hb trivial ?_ rfl);refine wpIn_mono (h.out [] _ ⟨rfl,by simp [hn];omega,fun i=> ?_⟩ 0) ?_
 ·exact Sb
 ·rintro e a w' ⟨M,ρ',hf',he,hl⟩;rw [XZ] at hf'
  rcases he with rfl|rfl
  ·show LeavesInM _ _ _ _ a.tmps _ a.defers _ _;rw [hf'.nd];exact hl _ hf'.at_ 0
  ·show LeavesInM _ _ _ _ a.tmps _ a.defers _ _;rw [hf'.nd];exact hl _ hf'.at_ 0
theorem DJ {f:FuncId}{fn:Func}{c:Code}{l:List Value}
  (hf:P.funcs[f]?=some fn) (hb:fn.body=some c) (hn:fn.ntmps=N) (ha:l.length≤N)
  (h:WC ⟨none,[],true⟩ P N c (mH P fn R) (GQ l) w):Calls P f l.toArray w R:=by
 refine (callsIn_wide (n:=0)).1 (callsIn_of_wp hf hb trivial ?_ rfl);refine wpIn_mono (h.jO _ ⟨rfl,by simp [hn];omega,fun i=> ?_⟩ 0) ?_
 ·exact Sb
 ·rintro e a w' ⟨ρ',hf',he,v,hr,hR⟩
  rcases he with rfl|rfl
  ·exact ⟨hf'.nd,v,hr _ hf'.at_,hR⟩
  ·exact ⟨hf'.nd,v,hr _ hf'.at_,hR⟩
def HE.Te:HE→Bool
 |.ob _ _=>false
 |_=>true
theorem uN {x:HE} (h:x.holds base w) (hc:x.Te=true) (hid:x.id=some b):∃o,w.heap[b]?=some o∧o.isCells=true:=by
 cases x with
 |blk b' t cs fz=>
  obtain rfl:b'=b:=Yd hid;exact ⟨_,h.2.1,rfl⟩
 |row A n c t sz xs=>
  rcases h.2 with ⟨h1,_⟩|⟨g,cap,cur,h1,_,h3,_⟩
  ·injection h1 with e1
   subst e1
   cases hid
  ·injection h1 with e1
   subst e1;obtain rfl:g=b:=Yd hid;exact ⟨_,h3,rfl⟩
 |ob _ _=>cases hc
theorem Hp.S8 {H:List HE} (h:Hp w0 H w) (hc:∀x∈H,x.Te=true) {row:Option Nat} (hg:w.grownBy w' row) (hr:∀r,row=some r→w0.heap.size≤r∧∃o:Obj,w.heap[r]?=some o∧o.isCells=false):Hp w0 H w':=by
 refine ⟨⟨hg.os.trans h.below.os,hg.tape.trans h.below.tape,hg.output.trans h.below.output,XV h.size hg.size,fun k hk=> ?_⟩,fun x hx=> ?_,h.nd⟩
 ·refine (hg.block k (Yt hk h.size) fun e=> ?_).trans (h.below.block k hk);have:=(hr k e.symm).1;omega
 ·refine pk (h.own x hx) fun b hid=>hg.block b (eb (h.own x hx) hid).2 fun e=> ?_;obtain ⟨o,h1,h2⟩:=uN (h.own x hx) (hc x hx) hid;obtain ⟨_,o',h3,h4⟩:=hr b e.symm;rw [h1] at h3
  cases h3
  rw [h2] at h4
  cases h4
def MS (base:Nat) (ids:List Nat) (w:World) (k:Nat):Option HE:=if base≤k∧ids.contains k=false then (w.heap[k]?).map fun o=>.ob k o else none
def Dt (base:Nat) (ids:List Nat) (w:World):List HE:=(List.range w.heap.size).filterMap (MS base ids w)
theorem tm {ids:List Nat}{x:HE} (h:MS base ids w k=some x):∃o,x=.ob k o∧base≤k∧k∉ids∧w.heap[k]?=some o:=by
 unfold MS at h;split at h
 ·rename_i h1;obtain ⟨o,h2,h3⟩:=Zp.1 h;exact ⟨o,h3.symm,h1.1,by simpa using h1.2,h2⟩
 ·cases h
theorem Hp.Nw {H:List HE} (h:Hp w0 H w):Hp w0 (H++Dt w0.heap.size (H.filterMap HE.id) w) w:=by
 refine ⟨h.below,fun x hx=> ?_, ?_⟩
 ·rcases X3.1 hx with hx|hx
  ·exact h.own x hx
  ·obtain ⟨k,_,hk⟩:=Yx.1 hx;obtain ⟨o,rfl,h1,_,h3⟩:=tm hk;exact ⟨h1,h3⟩
 ·rw [ZO];refine aac.2 ⟨h.nd, ?_,fun a ha b hb e=> ?_⟩
  ·unfold Dt;rw [List.filterMap_filterMap];refine List.Pairwise.filterMap _ (fun a a' hne b hb b' hb' e=> ?_) List.nodup_range;obtain ⟨x,hx,hx2⟩:=Option.bind_eq_some_iff.1 hb;obtain ⟨y,hy,hy2⟩:=Option.bind_eq_some_iff.1 hb';obtain ⟨o,rfl,_⟩:=tm hx;obtain ⟨o',rfl,_⟩:=tm hy;obtain rfl:a=b:=Yd hx2;obtain rfl:a'=b':=Yd hy2;exact hne e
  ·obtain ⟨x,hx,hx2⟩:=Yx.1 hb;obtain ⟨k,_,hk⟩:=Yx.1 hx;obtain ⟨o,rfl,_,h2,_⟩:=tm hk;obtain rfl:k=b:=Yd hx2;exact h2 (e ▸ ha)
theorem qI {P:Program}{fn:Func}{tmps:Array Value}{R:Ending→World→Prop}{n:Nat}{w0:World}{H:List HE}:∀(M:List Nat) (w:World),Hp w0 (pX M++H) w→(∀w2,Hp w0 H w2→∃v,(results fn tmps).run P w2=.ok v w2∧R (.returned v) w2)→
  LeavesInM Fence.wide n P fn tmps R (M.map pE) .returning w
 |[],w,hh,h=>h w hh
 |D::M,w,hh,h=>by
  have hD:w.heap[D]?=some (.deferred (some [])):=(hh.own _ XB).2;refine ⟨by simp,.inl ⟨D,w.putObj D (.deferred none),rfl,run_takeDeferred hD,qI M _ ?_ h⟩⟩;have hb:=(hh.own _ XB).1;have h2:=hh.NA (i:=0) (x:=.ob D (.deferred (some []))) (y:=.ob D (.deferred none)) (w':=w.putObj D (.deferred none)) rfl (fun b e=>.inl e) ?_ (fun b hlt hne=>World.putObj_heap_other (fun e=>hne (by rw [e];rfl))) ⟨hb, ?_⟩
  ·exact h2.sub (X9 _ _)
  ·have hg:=grownBy_putObj' w D (.deferred none);refine ⟨hg.os.trans hh.below.os,hg.tape.trans hh.below.tape,hg.output.trans hh.below.output,XV hh.size hg.size,fun k hk=>(hg.block k (Yt hk hh.size) fun e=> ?_).trans (hh.below.block k hk)⟩
   cases e
   omega
  ·exact World.putObj_heap_same (aam.1 hD).1
theorem rh {fn:Func}{e:Exit}{H:List HE}{rs:List ResultVar} (hh:Hp w0 (pX M++H) w) (he:e=.normal∨e=.ret) (hr:fn.results=rs.toArray)
  (h:∀w2,Hp w0 H w2→g6 P ρ w2 rs vs∧R (.returned (wZ vs)) w2):TM P fn R e M ρ w:=by
 refine ⟨he,fun tmps ht n=>qI M w hh fun w2 hh2=> ?_⟩;obtain ⟨h1,h2⟩:=h w2 hh2;obtain ⟨_,v,h3,h4⟩:=kT (e:=e) he hr h1 h2;exact ⟨v,h3 tmps ht,h4⟩
theorem NB {d:Option Nat}{ty:TypeId}{af:Array Edge}{g:Option (Nat×Bool)}{x:Operand}{ts:Array TypeId}{l:Nat}{fn:FuncId}{tmps:Array Value}
  (hx:ev ρ x=.func (.yield l) #[] #[]) (ha:wc ρ args.toList=vs) (hy:(Instr.yield l vs.toArray).run P w=.ok (.round l fn tmps assign body) w):(execOp (ev ρ) ⟨d,.call ⟨.value x,args,ts⟩,ty,pos,af,g⟩).run P w=.ok (.round l fn tmps assign body) w:=by
 have h2:args.map (ev ρ)=vs.toArray:=nC args ha;simp [execOp,resolve,Deferred.ofValue,hx,h2,invoke,callFunc,program,Sem.run,hy]
theorem Lr {Q:Kq}{rest:List Oper}{d:Nat}{ty:TypeId}{af:Array Edge}{x:Operand}{ts:Array TypeId}{l:Nat}
  (hx:ev ρ x=.func (.yield l) #[] #[]) (ha:wc ρ args.toList=vs) (hy:YieldAt Fence.wide m P l vs.toArray w R) (hN:d<N) (kk:∀e w',R e w'→∃v,e=.returned v∧WL ⟨none,[],true⟩ P N ops Q rest (cG ρ d v) w'):
  WL ⟨none,[],true⟩ P N ops Q (⟨some d,.call ⟨.value x,args,ts⟩,ty,pos,af,none⟩::rest) ρ w:=by
 obtain ⟨fn,tmps,as_,bd,h1,h2⟩:=hy;refine ⟨fun h=>(by cases h),fun a hf n=>wpListIn_plain rfl fun K hK=>⟨fun _ _=>trivial, ?_⟩⟩;rw [hf.eval,lJ _ (NB hx ha h1) (fun _ h=>by cases h)];refine ⟨fun h=>(by cases h), ?_⟩;refine ⟨trivial,fun c cs _=> ?_⟩;obtain ⟨e,w',hR,hs⟩:=h2.2 c cs (room_wide _);refine ⟨e,w', ?_,hs⟩;obtain ⟨v,rfl,hk⟩:=kk e w' hR;exact hK _ _ (hk.jO _ (hf.put hN v) n)
variable {W W':World}{ad:Addr}{q:Nat}
theorem LL {d:Option Nat}{ty:TypeId}{af:Array Edge}{g:Option (Nat×Bool)}{t e:TypeId}{x lo hi mx:Operand}{l h sz:Nat}{k1 k2 k3:IntKind}{m1 m2 m3:Int}
  (ht:P.underlying t=some (.slice e)) (hsz:(P.info? e).map (·.size)=some sz) (hx:ev ρ x=.slice (some ad) n c) (hlo:ev ρ lo=.int k1 m1) (hhi:ev ρ hi=.int k2 m2) (hmx:ev ρ mx=.int k3 m3) (e1:m1=(l:Int)) (e2:m2=(h:Int)) (e3:m3=(q:Int))
  (h1:l≤h) (h2:h≤q) (h3:q≤c) (h4:l<q):(execOp (ev ρ) ⟨d,.slice t x (some lo) (some hi) (some mx),ty,pos,af,g⟩).run P w=.ok (.value (.slice (some (ad.add (l*sz))) (h-l) (q-l))) w:=by
 obtain ⟨i,hi1,hi2⟩:=Zp.1 hsz;subst e1 e2 e3 hi2;have a1:(l:Int)≤h:=Xj;have a2:(h:Int)≤q:=Xj;have a3:(q:Int)≤c:=Xj;have a4:¬q=l:=Xj;have a5:¬q-l=0:=Xj;simp [execOp,hx,Instr.sliceAt,Instr.slice,run_underlying ht,Instr.sliceBounds,Instr.sliceBound,asIntOf,hlo,hhi,hmx,h1,h2,h3,a4,a5,sizeOf,typeInfo,hi1]
theorem AQ (A:Option Addr) (n c K:Nat) (w:World) (hK:1≤K):
  Calls Tryz.prog 52 #[.slice A n c,.int .i64 K] w fun r w'=>∃b2 b3,r=.returned (.func (.func 108) #[] #[.pointer (some ⟨b2,0,none⟩),.pointer (some ⟨b3,0,none⟩)])∧Hp w [.blk b3 3 [.int .i64 K] (0,0),.blk b2 27 [.slice A n c] (0,0)] w':=by
 have hh:=Hp.start w;refine aj (N:=9) (l:=[.slice A n c,.int .i64 K]) Tryz.func52 rfl rfl (by simp) ?_;refine sr ?_;refine cv hh [_] ?_;intro b2 w2 hh;refine cv hh [_] ?_;intro b3 w3 hh;refine j9 (by first|exact tI rfl|exact ti rfl) Xk ?_;refine aa (ah (sr ?_));refine bE hh 0 ?_;refine bf (aa (cF (aq (ai (sr ?_)))));exact UN
def Bq (b2 b3:Nat) (W W':World):Prop:=W'.cell? ⟨b2,0,none⟩=W.cell? ⟨b2,0,none⟩∧W'.cell? ⟨b3,0,none⟩=W.cell? ⟨b3,0,none⟩
theorem uG (h:Below W.heap.size W W'):W.grownBy W' none:=⟨h.os,h.tape,h.output,h.size,fun k hk _=>h.block k hk⟩
theorem Oq {b2 b3:Nat}{A B C:World} (h:Bq b2 b3 A B) (k:Bq b2 b3 B C):Bq b2 b3 A C:=⟨k.1.trans h.1,k.2.trans h.2⟩
theorem O7 {b2 b3:Nat} (h2:b2<w.heap.size) (h3:b3<w.heap.size) (W:World) (l:Nat) (o o':Obj) (hl:w.heap.size≤l):Bq b2 b3 W (W.putObj l o'):=
 ⟨World.cell?_of_block (World.putObj_heap_other (fun e=>by simp at e;omega)),World.cell?_of_block (World.putObj_heap_other (fun e=>by simp at e;omega))⟩
theorem Iq (b2 b3:Nat) (ad:Addr) (n c K m:Nat) (w:World) (h2:w.cell? ⟨b2,0,none⟩=some (.slice (some ad) n c)) (h3:w.cell? ⟨b3,0,none⟩=some (.int .i64 K)) (hn:n=m*K) (hK:0<K) (hc:n≤c) (hb:n≤1000000) (hKb:K≤1000000):
  ∀N1,SeqStopsK Fence.wide N1 Tryz.prog 108 #[.pointer (some ⟨b2,0,none⟩),.pointer (some ⟨b3,0,none⟩)] (fun j:Fin m=> #[.slice (some (ad.add (j.val*K*3))) K K]) (Bq b2 b3) (fun xs=>xs=List.finRange m) (fun _=>True) m w:=by
 intro N1 l J Jx W hW hAb hAbx hY h0;refine callsIn_wide.2 ?_;show Calls _ _ #[.func (.yield l) #[] #[],.pointer (some ⟨b2,0,none⟩),.pointer (some ⟨b3,0,none⟩)] W _;have hAbd:∀xs W1 W2,J xs W1→Below W1.heap.size W1 W2→J xs W2:=fun xs W1 W2 h hb=>hAb xs W1 W2 none h (uG hb) (fun r e=>nomatch e);have c2:=cN hW h2;have c3:=cN hW h3;refine DJ (N:=31) (l:=[.func (.yield l) #[] #[],.pointer (some ⟨b2,0,none⟩),.pointer (some ⟨b3,0,none⟩)]) Tryz.func108 rfl rfl (by simp) ?_;refine sr (aI (aa (ao ?_)));refine aR [4,5,6,7,8,9,10,11,12,13,14,15,16,17,18,19,20,21,22,23,24,25,26,27,28,29,30] 4
  (fun v w'=>∃j:Nat,j≤m∧v=.int .i64 ((j*K:Nat):Int)∧J ((List.finRange m).take j) w'∧w'.cell? ⟨b2,0,none⟩=some (.slice (some ad) n c)∧w'.cell? ⟨b3,0,none⟩=some (.int .i64 K))
  (fun v _=>n+1-(intOf v).toNat) ?_ ?_
 ·exact ⟨0,Xs _,by rw [Z0];rfl,h0,c2,c3⟩
 ·clear c2 c3 h0;rintro ρ' v w' ⟨j,hj,rfl,hJj,c2,c3⟩;have hh:=Hp.start w';by_cases hlt:j<m
  ·have h5:(j+1)*K≤m*K:=Yr _ hlt;have h6:(j+1)*K=j*K+K:=Yw j K;refine ah (sr (mI ?_));refine bU aM.out rfl (c2) Xk ?_;refine aH ?_;refine yh ?_;refine Sm ?_;refine a0 5 [[(2,none)],[(1,none)],[(4,none)],[(14,some 1),(15,some 2)],[(16,some 3)]] [(4,17),(3,16),(2,15),(1,14),(0,13)] hh mixed Xl ?_;refine qS (fun _ hj=>cN hj.bl c3) ?_;refine qS (fun _ hj=>cN hj.bl c2) ?_;refine dJ ?_;refine bj (i:=3) (fun ρ1 w1 hj hR=>gL (l:=(j*K)) bh.out aM.size (show ρ1 14=Value.slice _ _ _ from hR.1) (show ρ1 15=Value.int _ _ from hR.2.1) Xj Xj Xj) ?_;refine AU ?_;refine aO ?_;intro f W hJ hV;have hb_3:=hJ.bl;obtain ⟨v17,v16,v15,v14,v13,_⟩:=hV;replace hh:=hJ.hp;refine aW (bm (ae v17 (ae v16 (ae v15 (ae v14 (ae v13 aV)))))) ?_;dsimp only [cd];clear hJ;have hmin:(if ((n-j*K:Nat):Int)<(K:Int) then ((n-j*K:Nat):Int) else (K:Int))=(K:Int):=Xp Xj;refine xG rfl rfl Xk ?_;rw [hmin];have c2':=cN hh.below c2;have c3':=cN hh.below c3;have hJ2:=hAbd _ _ _ hJj hh.below
   have hfr:(List.finRange m)[j]?=some ⟨j,hlt⟩:=by rw [YI (by rw [aal];exact hlt),List.getElem_finRange];rfl
   have hy:=hY ((List.finRange m).take j) ⟨j,hlt⟩ _ hJ2 (by rw [XP,aal];omega);refine aI (aa (sr ?_));refine iQ ?_;refine bU aM.out rfl (c2') Xk ?_;refine mI (mI (mI ?_));refine bk (mI (mI ?_));refine bk ?_;refine aP rfl rfl Xk (LL bh.out aM.size (GP rfl) rfl rfl rfl (l:=j*K) (h:=j*K+K) (q:=j*K+K) rfl Xj Xj Xj Xj Xj Xj) ?_;have e28:j*K+K-j*K=K:=Xj;rw [e28];refine Lr rfl (av (GP rfl) aU) hy Xk ?_;rintro e_ w29 (⟨rfl,hJ3,hk⟩|⟨rfl,hJx⟩)
   ·refine ⟨_,rfl, ?_⟩;have c2'':=hk.1.trans c2';have c3'':=hk.2.trans c3';refine fi ?_;refine rQ ?_;refine bU aM.out rfl (c3'') Xk ?_;refine bk (aI (aA (ai ?_)));refine ⟨⟨j+1,hlt, ?_,by rw [az hfr];exact hJ3,c2'',c3''⟩, ?_, ?_⟩
    ·show Value.int _ (((j*K:Nat):Int)+(K:Int))=_;rw [h6]
     rfl
    ·show n+1-(((j*K:Nat):Int)+(K:Int)).toNat<n+1-((j*K:Nat):Int).toNat;omega
    ·exact dV
   ·refine ⟨_,rfl, ?_⟩;refine fi ?_;refine aa (cT (aw (cf (aK (aK (cf ?_))))));refine Rm (by first|exact .inr rfl|exact .inl rfl) rfl ?_;exact ⟨⟨_,rfl⟩,.inr ⟨_,trivial,hJx⟩⟩
  ·obtain rfl:j=m:=Xj;refine ah (sr (mI ?_));refine bU aM.out rfl (c2) Xk ?_;refine aH ?_;refine bf (aa (cF (a6 (aE (aE (bq ?_))))));refine Rm (by first|exact .inr rfl|exact .inl rfl) rfl ?_;rw [Xz (by rw [aal];omega)] at hJj;exact ⟨⟨_,rfl⟩,.inl ⟨_,rfl,hJj⟩⟩
def VW (base:Nat) (E:Int) (D:List Nat) (ys:List Dyadic):VP:=fun v W=>∃(g:FX) (w1:World),v=.agg #[.slice g.A g.n g.a,.slice g.B g.m g.b]∧Out E D ys g∧base≤w1.heap.size∧Hp w1 [g.qz,g.oV] W
def Wo (base:Nat) (E:Int) (D:List Nat) (ys:List Dyadic):VP:=fun v W=>∃(g:FX) (w1:World),v=.tuple #[.agg #[.slice g.A g.n g.a,.slice g.B g.m g.b],.int .i64 E]∧Out E D ys g∧base≤w1.heap.size∧Hp w1 [g.qz,g.oV] W
instance:aM Tryz.prog 86 1 false 8 [.nilFunc]:={}
theorem Ii {bs:List (Fin m)}{q:Fin m} (h:bs++[q]=(List.finRange m).take (bs++[q]).length) (hb:bs.length<m):bs=(List.finRange m).take bs.length∧q.val=bs.length:=by
 have hl:(bs++[q]).length=bs.length+1:=by simp
 rw [hl] at h;have h1:=Yu (List.take bs.length) h;rw [List.take_left' rfl,aan,Ys Xj] at h1;have h2:(bs++[q])[bs.length]?=((List.finRange m).take (bs.length+1))[bs.length]?:=by rw [←h]
 rw [YD (Xr _),Yq,YL,Xo Xj,show (List.finRange m)[bs.length]?=some ⟨bs.length,hb⟩ by rw [YI (by rw [aal];exact hb),List.getElem_finRange];rfl] at h2;exact ⟨h1,Yu Fin.val (Yd h2)⟩
theorem Hw {Q:Kd}{g:Operand}{p:Tmp}{gf:Nat}{lb:Array Value} (q:Nat) (hq:q<N) (hp:p<N) (hg:ev ρ g=.func (.func gf) #[] lb) (eg:∀args w,(callFunc gf args).run P w=.ok (.enter gf args) w)
  {enc:α→Value}{Kp:World→World→Prop}{S:List α→Prop}{Nn:Nat} (hseq:∀n,SeqStopsK Fence.wide n P gf lb (fun x=> #[enc x]) Kp S (fun _=>True) Nn w)
  (hKt:∀{A B C:World},Kp A B→Kp B C→Kp A C) (hKb:∀(W:World) (l:Nat) (o o':Obj),w.heap.size≤l→W.heap[l]?=some o→o.isCells=false→o.isWalk=false→Kp W (W.putObj l o'))
  (I:List α→World→Prop) (hI:OwnFrom w.heap.size I) (h0:I [] w)
  (hassign:∀l x W,WC ⟨some l,[],true⟩ P N assign (cB (fun ρ' W'=>ρ'=cG (cG ρ p (enc x)) q (enc x)∧W'=W) qy) (cG ρ p (enc x)) W)
  (hbody:∀l pre x W,I pre W→pre.length<Nn→WC ⟨some l,[],true⟩ P N body (Qe Kp I pre x W) (cG (cG ρ p (enc x)) q (enc x)) W)
  (hdone:∀(D:Nat) (xs:List α) (W:World),w.heap.size≤D→S xs→I xs W→W.heap[D]?=some (.deferred (some []))→Q .normal [D] ρ W):WD P N (.rangeFunc g #[p] assign body) Q ρ w:=
 KD hp hg eg hseq hKt hKb I hI h0 (fun x=>cG (cG ρ p (enc x)) q (enc x)) (fun x i hi=>by rw [bo _ (fun h=>absurd hq (by rw [←h];exact Nat.not_lt.2 hi)),bo _ (fun h=>absurd hp (by rw [←h];exact Nat.not_lt.2 hi))]) hassign hbody hdone
def Wa (n m:Nat) (ds:List Int) (cs:List NR):VP:=fun v W=>∃A a B b,v=.agg #[.slice A n a,.slice B m b]∧n≤a∧Sl W A n 1 (bu ds)∧Sl W B m 3 (ay NR.cells cs)
theorem JJ.OS {H:List HE}{t1 t2:TypeId}{xs1 xs2:List Value}{n1 c1 s1 n2 c2 s2:Nat}{A1 A2:Option Addr} (hJ:JJ w0 H w W) (hs:Hp w0 H w)
  (o1:W.ownsRow w.heap.size t1 s1 (.slice A1 n1 c1) n1 xs1) (o2:W.ownsRow w.heap.size t2 s2 (.slice A2 n2 c2) n2 xs2) (h12:t1≠t2):Hp w0 (.row A1 n1 c1 t1 s1 xs1::.row A2 n2 c2 t2 s2 xs2::H) W:=by
 have hL:Hp w [.row A1 n1 c1 t1 s1 xs1,.row A2 n2 c2 t2 s2 xs2] W:=by
  refine ⟨hJ.bl,fun x hx=> ?_, ?_⟩
  ·rcases XL.1 hx with rfl|hx
   ·exact o1
   ·obtain rfl:=XO.1 hx;exact o2
  ·rw [Zk];split
   ·exact P5
   ·rename_i b1 hb1;refine Zs.2 ⟨fun hm=> ?_, ?_⟩
    ·obtain ⟨y,hy,hyb⟩:=Yx.1 hm;obtain rfl:=XO.1 hy;exact Pm o1 o2 h12 b1 hb1 hyb
    ·exact P5
 exact hs.join hL
instance:aM Tryz.prog 86 1 false 8 [.nilFunc]:={}
def Vj (up:Bool) (s:Dyadic) (ns:List Nat) (a:Nat) (xs:List Dyadic):List Dyadic:=gY ns.reverse (ns.length-1-a) (if up then T6 (ns.getD a 0) s else TY (ns.getD a 0) s) xs
def jC (fx:FX) (ax:Int):Int:=if fx.e≠0 then fx.e else if ax<0∨(fx.n:Int)≤ax then 1 else 0
def Wm (e:Int):Ending:=.returned (.tuple #[.agg #[.slice none 0 0,.slice none 0 0],.agg #[.slice none 0 0,.slice none 0 0],.int .i64 e])
def Vb (n:Nat) (h:Int):Bool:=decide (h<0∨(n:Int)≤h.tdiv 2)
def T4 (ns:List Nat) (xs:List Dyadic) (h:Int):List Dyadic:=Vj (decide (h % 2=1)) (m9 (-1)) ns (h/2).toNat xs
def VR (ns:List Nat) (xs:List Dyadic) (hs:List Int):List Dyadic:=hs.foldl (T4 ns) xs
def We (fx:FX) (hs:List Int):Int:=if fx.e≠0 then fx.e else if hs.any (Vb fx.n)=true then 1 else 0
section
variable {P:Program}{N:Nat}{ops:Array Oper}{Q:Kq}{ρ:Rf}{w:World}{rest:List Oper}{d ty:Nat}{pos:String}{af:Array Edge}
theorem Ve (a:Int):IntKind.i64.wrap (BitVec.ofInt IntKind.i64.bits a &&& BitVec.ofInt IntKind.i64.bits 1).toNat=a % 2:=by
 have h1:(BitVec.ofInt IntKind.i64.bits a &&& BitVec.ofInt IntKind.i64.bits 1).toNat=(a % 2).toNat:=by
  show (BitVec.ofInt 64 a &&& BitVec.ofInt 64 1).toNat=_;rw [BitVec.toNat_and,show (BitVec.ofInt 64 1).toNat=2^1-1 by decide,Nat.and_two_pow_sub_one_eq_mod,BitVec.toNat_ofInt];omega
 rw [h1,kn Xj Xj];omega
theorem uB {t u:Nat}{x y:Operand}{a:Int} (hx:ev ρ x=.int .i64 a) (hy:ev ρ y=.int .i64 1) (hN:d<N) (kk:WL .plain P N ops Q rest (cG ρ d (.int .i64 (a % 2))) w):WL .plain P N ops Q (⟨some d,.binOp .and t x y u,ty,pos,af,none⟩::rest) ρ w:=
 aP rfl rfl hN (by rw [QY hx hy,Ve]) kk
end
theorem R8 {D:List Nat}{ys:List Dyadic}{g:FX} (h:Out 0 D ys g) (h1:D.length≤12) (h2:∀d∈D,d≤127) (h3:ys.length=au D) (h4:au D≤4096):g.e=0∧g.ns=D∧g.cs.map NR.d=ys:=by
 have e1:g.ds=bM D:=h.ds;have e2:g.cs=ys.map nR:=h.cs;refine ⟨?_, ?_, ?_⟩
 ·unfold FX.e;rw [e1,e2];exact FV.ok (xs:=ys) ⟨rfl,rfl,h1,h2,h3,h4⟩
 ·unfold FX.ns;rw [e1];exact qZ D
 ·rw [e2,Ym];exact (YZ fun x _=>bI x).trans (List.map_id ys)
def Wt (R:List HE) (g:FX):Prop:=R=[g.qz,g.oV]∨g.m=0∧R=[g.oV]
theorem Ik {fx:FX}{ax:Int} (h:jC fx ax=0):fx.e=0∧0≤ax∧ax<fx.n:=by
 unfold jC at h;split at h
 ·rename_i h1;exact absurd h h1
 ·rename_i h1;split at h
  ·cases h
  ·omega
variable {Hr:List HE}
theorem IM (g n c a:Nat) (ds:List Int) (w:World) (hh:Hp w0 (.row (some ⟨g,0,none⟩) n c 3 1 (bu ds)::Hr) w) (hl:ds.length=n) (ha:a<n) (hn:n≤1000):
  Calls Tryz.prog 67 #[.slice (some ⟨g,0,none⟩) n c,.int .i64 a,.int .i64 ((a:Int)+1)] w fun r w'=>r=.returned (.slice (some ⟨g,0,none⟩) (n-1) c)∧Hp w0 (.row (some ⟨g,0,none⟩) (n-1) c 3 1 (bu (ds.eraseIdx a))::Hr) w':=by
 have hc:=hh.eJ (i:=0) rfl;refine aj (N:=33) (l:=[.slice (some ⟨g,0,none⟩) n c,.int .i64 a,.int .i64 ((a:Int)+1)]) Tryz.func67 rfl rfl (by simp) ?_;have hsl0:=fun (w1:World) (H1:Hp w0 (.row (some ⟨g,0,none⟩) n c 3 1 (bu ds)::Hr) w1)=>H1.aC (i:=0) rfl;have her:bu (ds.take a)++bu (ds.drop (a+1))=bu (ds.eraseIdx a):=by
  rw [aaG];simp [bu]
 refine sr (aL (aa (sr (mL (mI (mI (mL (aH ?_))))))));refine aP rfl rfl Xk (LL bh.out aM.size rfl rfl rfl rfl (l:=a) (h:=a+1) (q:=n) rfl Xj rfl Xj Xj Xj Xj) ?_;refine aa (ah (sr (mI (mI ?_))));refine cR (aa (cF (aq (ai (sr (mL (aH (aI (aa (ah ?_))))))))));refine a0 6 [[(0,none)],[(1,none)],[(20,some 0),(21,some 1)],[(0,none)],[(2,none)],[(23,some 3),(24,some 4)]] [(5,25),(4,24),(3,23),(2,22),(1,21),(0,20)] hh mixed Xl ?_;refine fS ?_;refine dJ ?_;refine bj (i:=2) (fun ρ1 w1 hj hR=>qE (h:=a) bh.out aM.size (show ρ1 20=Value.slice _ _ _ from hR.1) (show ρ1 21=Value.int _ _ from hR.2.1) Xj Xj) ?_;refine fS ?_;refine dJ ?_;refine bj (i:=5) (fun ρ1 w1 hj hR=>gL (l:=(a+1)) bh.out aM.size (show ρ1 23=Value.slice _ _ _ from hR.1) (show ρ1 24=Value.int _ _ from hR.2.1) Xj Xj Xj) ?_;refine aO ?_;intro f W hJ hV;have hb_5:=hJ.bl;obtain ⟨v25,v24,v23,v22,v21,v20,_⟩:=hV;replace hh:=hJ.hp;refine J2 ?_;dsimp only [cd];clear hJ;have hbk:=(hsl0 _ hh).back (l:=a+1) (c:=c) Xj hc;obtain ⟨ad,had⟩:∃ad,(if c=a+1 then some (⟨g,0,none⟩:Addr) else (some (⟨g,0,none⟩:Addr)).map (·.add ((a+1)*1)))=some ad:=by
  split<;>exact ⟨_,rfl⟩
 rw [had] at hbk ⊢;have hds:(bu ds).drop ((a+1)*1)=bu (ds.drop (a+1)):=by rw [XK];unfold bu;rw [←Zr]
 have hdt:(bu ds).take (a*1)=bu (ds.take a):=by rw [XK];unfold bu;rw [←Zx]
 rw [hds] at hbk;have hrd:∀j u,(bu (ds.drop (a+1)))[j]?=some u→W.cell? (ad.add j)=some u:=fun j u hu=>by
  have hj:=(XE.1 hu).1;rw [bX,Yz] at hj;obtain ⟨ad',e,r⟩:=hbk.2 Xj;obtain rfl:ad=ad':=Yd e;exact r j u hu
 refine wD hh (i:=0) (a:=ad) (p:=a) (m:=n-(a+1)) rfl rfl rfl Xj Xj hbk.1 hrd (bF _) bh.out aM.out Xk ?_;intro w26 hh;simp only [XC] at hh;rw [hdt,her,show a+(n-(a+1))=n-1 by omega] at hh;rw [show a+(n-(a+1))=n-1 by omega];have hp31:(if c=n-1 then some (⟨g,0,none⟩:Addr) else (some (⟨g,0,none⟩:Addr)).map (·.add ((n-1)*1)))=some ⟨g,n-1,none⟩:=by
  rw [Xp Xj];show some ((⟨g,0,none⟩:Addr).add ((n-1)*1))=_;rw [eS,XJ,XK]
 refine aL (aa (sr (mL (mL (aH (mI ?_))))));refine aP rfl rfl Xk (gW (l:=n-1) (h:=n) bh.out aM.size rfl ⟨_,_,rfl,rfl⟩ ⟨_,_,rfl,rfl⟩ Xj Xj) ?_;rw [hp31,show n-(n-1)=1 by omega];refine qO hh (i:=0) (o:=n-1) (m:=1) rfl rfl Xj Xj Xk bh.out aM.out rfl rfl ?_;intro w32 hh;refine aa (sr (mL (aL (aa (aw ?_)))));refine df ?_;exact ⟨rfl,hh⟩
theorem pB (fx:FX) (ax:Int) (k:Nat) (w:World) (hT:dN w) (hf:fx.at_ w) (hl:fx.k8 k):
  Calls Tryz.prog 66 #[.agg #[.slice fx.A fx.n fx.a,.slice fx.B fx.m fx.b],.int .i64 ax] w fun r w'=>r=.returned (.int .i64 (jC fx ax))∧Below w.heap.size w w':=by
 have hh:=Hp.start w;have hck:=fun w1 hT1 hb=>qR fx k w1 hT1 (hf.ext hb) hl;by_cases h0:fx.e=0
 ·by_cases h1:ax<0
  ·rw [show jC fx ax=1 by unfold jC;rw [Xp Xj,Xo (.inl h1)]];refine EL ?_;refine sr ?_;refine cv hh [_,_] ?_;intro b2 w2 hh;refine aI (aa (ah (sr ?_)));refine cg hh 0 [_,_] ?_;refine eu ?_;intro w7 hh;refine aI (aa (sr (mI ?_)));refine mU ?_;refine bf (mB ?_);refine gS (gS (gS (gS (gS ?_))));refine eR ?_;exact MJ
  ·by_cases h2:(fx.n:Int)≤ax
   ·rw [show jC fx ax=1 by unfold jC;rw [Xp Xj,Xo (.inr h2)]];refine EL ?_;refine sr ?_;refine cv hh [_,_] ?_;intro b2 w2 hh;refine aI (aa (ah (sr ?_)));refine cg hh 0 [_,_] ?_;refine eu ?_;intro w7 hh;refine aI (aa (sr (mI ?_)));refine mU ?_;refine bf (mB (gT (mI (gT (bH (gT ?_))))));refine bE hh 0 ?_;refine gT (aH (gT ?_));refine dL ?_;refine ez ?_;exact MJ
   ·rw [show jC fx ax=0 by unfold jC;rw [Xp Xj,Xp Xj]];refine EL ?_;refine sr ?_;refine cv hh [_,_] ?_;intro b2 w2 hh;refine aI (aa (ah (sr ?_)));refine cg hh 0 [_,_] ?_;refine eu ?_;intro w7 hh;refine aI (aa (sr (mI ?_)));refine mU ?_;refine bf (mB (gT (mI (gT (bH (gT ?_))))));refine bE hh 0 ?_;refine gT (aH (gT ?_));refine dL ?_;refine ez ?_;refine EW ?_;refine df ?_;exact ⟨rfl,hh.below⟩
 ·rw [show jC fx ax=fx.e by unfold jC;rw [Xo h0]];refine EL ?_;refine sr ?_;refine cv hh [_,_] ?_;intro b2 w2 hh;refine aI (aa (ah (sr ?_)));refine cg hh 0 [_,_] ?_;refine eu ?_;intro w7 hh;exact RW
theorem jR (A:Option Addr) (n c a d:Nat) (ns:List Nat) (w:World) (hS:Sl w A n 1 (bu (bM ns))) (hcap:n≤c) (hn:n≤1000) (hd:ns[a]?=some d) (hlow:∀x∈ns,x≤127) (hmax:au ns≤4096):
  Calls Tryz.prog 48 #[.slice A n c,.int .i64 a] w fun r w'=>r=.returned (.agg #[.int .i64 ((d:Int)+1),.int .i64 (au (ns.drop (a+1)):Nat)])∧Below w.heap.size w w':=by
 have hh:=Hp.start w;have hln:ns.length=n:=by have:=hS.1;simpa [bu,bM] using this
 have ha:=(XE.1 hd).1;have hd127:=hlow d (Xt hd);have hgd:=ck (gN hd);have hbk:=hS.back (l:=a+1) (c:=c) Xj hcap;have hds:(bu (bM ns)).drop ((a+1)*1)=bu (bM (ns.drop (a+1))):=by
  rw [XK];unfold bu bM;rw [←Zr,←Zr]
 rw [hds] at hbk;have hcd:g7 1 (bM (ns.drop (a+1)))=(au (ns.drop (a+1)):Nat):=by
  have h1:=kv (ns.drop (a+1)) 1 Xk Xk (fun x hx=>hlow x (ZD hx));have h2:au (ns.drop (a+1))≤au ns:=by
   have h3:au ns=au (ns.take (a+1))*au (ns.drop (a+1)):=by rw [←de,Yg]
   rw [h3];exact aaW _ (cC _)
  rw [Zd,Xo Xj] at h1;exact h1
 have hcnt:=fun w1 hS1=>eI (if c=a+1 then A else A.map (·.add ((a+1)*1))) (n-(a+1)) (c-(a+1)) (bM (ns.drop (a+1))) w1 hS1 Xj;rw [hcd] at hcnt;obtain ⟨ad,rfl,srd⟩:=hS.at_ Xj;refine aj (N:=16) (l:=[.slice (some ad) n c,.int .i64 a]) Tryz.func48 rfl rfl (by simp) ?_;refine sr ?_;refine bP hh ?_;intro b4 w4 hh;refine aa (ah ?_);refine a0 10 [[(0,none)],[(1,none)],[(5,some 0),(6,some 1)],[(7,some 2)],[(8,some 3)],[(0,none)],[(1,none)],[(11,some 6)],[(10,some 5),(12,some 7)],[(13,some 8)]] [(9,14),(8,13),(7,12),(6,11),(5,10),(4,9),(3,8),(2,7),(1,6),(0,5)] hh mixed Xl ?_;refine fS ?_;refine dJ ?_;refine ow (a) ?_;refine qS (fun _ hj=>(srd.ext hj.hp.below).wj hgd) ?_;refine rL ?_;refine fS ?_;refine dJ ?_;refine rL ?_;refine bj (i:=8) (fun ρ1 w1 hj hR=>gL (l:=(a+1)) bh.out aM.size (show ρ1 10=Value.slice _ _ _ from hR.1) (show ρ1 12=Value.int _ _ from hR.2.1) Xj Xj Xj) ?_;refine dC (fun _ hj=>hcnt _ (hbk.ext hj.hp.below)) ?_;refine aO ?_;intro f W hJ hV;have hb_1:=hJ.bl;obtain ⟨v14,v13,v12,v11,v10,v9,v8,v7,v6,v5,_⟩:=hV;replace hh:=hJ.hp;refine Pw ?_;dsimp only [cd];clear hJ
 refine fP [_,_] ?_;exact BM
theorem Ip (A:List Nat) (d f i q:Nat):cL A d f i q=cL A d f 0 q+i*au A:=by
 unfold cL;rw [Yl,Yl,Nat.mul_zero,XY i];omega
theorem mC (g:FuncId) [ar Tryz.prog g] (A B:List Nat) (d L:Nat) (φ:List Dyadic→List Dyadic) (C:Option Addr) (n c k:Nat) (X:List Dyadic) (w:World) (hT:dN w) (hS:Sl w C n 3 (ay NR.cells (X.map nR))) (hn:n=au (A++d::B)) (hmax:n≤4096) (hL:L≤d+1) (hd:d≤127) (hx:∀x∈X,Sz k x)
  (hg:∀(Y:List Dyadic) (D:Option Addr) (dc:Nat) (w1:World),dN w1→(∀y∈Y,Sz k y)→Sl w1 D (d+1) 3 (ay NR.cells (Y.map nR))→Calls Tryz.prog g #[.slice D (d+1) dc] w1 fun r w'=>∃E ec,r=.returned (.slice E L ec)∧Hp w1 [.row E L ec 40 3 (ay NR.cells ((φ Y).map nR))] w')
  (hφ:∀Y:List Dyadic,Y.length=d+1→(φ Y).length=L):
  Calls Tryz.prog 49 #[.agg #[.int .i64 ((d:Int)+1),.int .i64 (au A:Nat)],.slice C n c,.func (.func g) #[] #[]] w fun r w'=>∃E ec,r=.returned (.slice E n ec)∧Hp w [.row E n ec 40 3 (ay NR.cells ((jb A d L φ X n 0).map nR))] w':=by
 have hh:=Hp.start w;have hXl:X.length=n:=by have:=hS.bp NR.len Xk;simpa using this
 have hap:=cC A;have hap2:au A≤n:=by
  rw [hn,de];exact aaO _ (cC _)
 have hcl:=fun w1 hb=>zK C n c (X.map nR) w1 (hS.ext hb) Xj;refine aj (N:=67) (l:=[.agg #[.int .i64 ((d:Int)+1),.int .i64 (au A:Nat)],.slice C n c,.func (.func g) #[] #[]]) Tryz.func49 rfl rfl (by simp) ?_;refine sr ?_;refine cv hh [_,_] ?_;intro b3 w3 hh;refine aL (aa (sr (mL ?_)));refine aF (hcl _ hh.below) ar.out rfl Xk ?_;rintro e_ w14 ⟨A14,c14,rfl,hown_,hb_⟩;refine ⟨_,rfl, ?_⟩;replace hh:=hh.aX (x:=.row _ _ _ _ _ _) hb_ hown_;rw [show X.map nR=(jb A d L φ X 0 0).map nR by rw [HD]] at hh;clear hcl;refine rZ ?_;refine aR [8,9,10,11,12,17,18,19,20,21,22,23,24,25,26,27,28,29,30,31,32,33,34,35,36,37,38,39,40,41,42,43,44,45,46,47,48,49,50,51,52,53,54,55,56,57,58,59,60,61,62,63,64,65] 17
  (fun v w'=>∃F:Nat,F≤n∧v=.int .i64 F∧Hp w [.row A14 n c14 40 3 (ay NR.cells ((jb A d L φ X F 0).map nR)),.blk b3 83 [.int .i64 ((d:Int)+1),.int .i64 (au A:Nat)] (0,0)] w')
  (fun v _=>n-(intOf v).toNat) ?_ ?_
 ·exact ⟨0,Xs _,rfl,hh⟩
 ·clear hh;rintro ρ' v w' ⟨F,hF,rfl,hh⟩;by_cases hlt:F<n
  ·have hcast:((F:Int)/((au A:Nat):Int)) % ((d:Int)+1)=((F/au A % (d+1):Nat):Int):=by norm_cast
   have hq0:(0:Int)≤(F:Int)/((au A:Nat):Int):=Int.ediv_nonneg Xj Xj;by_cases h0:F/au A % (d+1)=0
   ·obtain ⟨u0,hfF⟩:∃u0,u0=F % au A:=⟨_,rfl⟩;obtain ⟨q,hqF⟩:∃q,q=F/au A/(d+1):=⟨_,rfl⟩;have hf:u0<au A:=by rw [hfF];exact XW _ hap
    have hFe:F=cL A d u0 0 q:=by rw [hfF,hqF,←h0,yI]
    have hq:q<au B:=by
     rw [hqF,Y6,YR (Nat.mul_pos hap Xj)];rw [hn,de,au] at hlt
     calc F<au A*((d+1)*au B):=hlt
      _=au B*(au A*(d+1)):=by rw [←Yp,XY]
    have hpl:∀i,i≤d→cL A d u0 i q<n:=fun i hi=>by rw [hn];exact wg hf hi hq
    have hpi:∀i,cL A d u0 i q=F+i*au A:=fun i=>by rw [hFe];exact Ip A d u0 i q
    have hxl:(fj A d X u0 q).length=d+1:=by simp [fj]
    have hxz:∀y∈fj A d X u0 q,Sz k y:=fun y hy=>by
     obtain ⟨i,hi,rfl⟩:=XG.1 hy;exact zI hx _
    obtain ⟨ad,hCA,hr⟩:=hS.at_ Xj;rw [hCA] at*;refine sr ?_;refine bf (aa (ah (cT (aq (ai (ah (ao (sr (mI (aI (aa (ah (ah ?_)))))))))))));refine P3 ?_;refine dJ ?_;refine ej ?_;refine fN 1 ?_;refine Qs ?_;refine ej ?_;refine fN 1 ?_;refine aO ?_;intro f W hJ hV;have hb_5:=hJ.bl;obtain ⟨v25,v24,v23,v22,v21,v20,_⟩:=hV;replace hh:=hJ.hp;refine J2 ?_;dsimp only [cd];clear hJ;refine sY ?_;refine cJ (aa (cF (aq (ai (sr (aL (aa (ah (sr (bH ?_))))))))));refine bE hh 1 ?_;refine mI (aa (ao ?_));replace hh:=hh.cU 40 3;refine bK [9,10,30,31,32,33,34,35,36,37,38,39,40,41,42,43,44,45] 9 30
     (fun a v w'=>∃(i:Nat) (A':Option Addr) (c':Nat),i≤d+1∧v=.int .i64 i∧a=.slice A' i c'∧Hp w [.row A' i c' 40 3 (ay NR.cells (((fj A d X u0 q).take i).map nR)),.row A14 n c14 40 3 (ay NR.cells ((jb A d L φ X F 0).map nR)),.blk b3 83 [.int .i64 ((d:Int)+1),.int .i64 (au A:Nat)] (0,0)] w')
     (fun _ v _=>d+1-(intOf v).toNat) ?_ ?_
    ·exact ⟨0,none,0,Xs _,rfl,rfl,hh⟩
    ·clear hh;rintro ρ2 a_ v w2 ⟨i,A',c',hi,rfl,rfl,hh⟩;by_cases hil:i<d+1
     ·obtain ⟨y,hy⟩:=ak (l:=fj A d X u0 q) (k:=i) Xj;have hyx:(X.map nR)[cL A d u0 i q]?=some (nR y):=by
       have h1:=hpl i Xj;unfold fj at hy;rw [Xx,Yh hil] at hy;have h2:(X[cL A d u0 i q]?).getD 0=y:=Yd hy;rw [Xx,Bg (show cL A d u0 i q<X.length by omega)];show some (nR (jD X _))=_;unfold jD;rw [h2]
      have hpn:=hpl i Xj;have hpq:=hpi i;obtain ⟨m,hm⟩:∃m,m=i*au A:=⟨_,rfl⟩;have hmi:(i:Int)*((au A:Nat):Int)=(m:Int):=by rw [hm];exact (YB _ _).symm
      rw [←hm] at hpq;refine sr ?_;refine bf (aa (ah (cT (aq (ai (ah (ao (sr (mI (aI (aa (al (mL (mL (mI (mI (bH ?_)))))))))))))))));refine bE hh 2 ?_;refine mulC ?_;refine bk ?_;refine cE (k:=(cL A d u0 i q)) bh.out aM.size rfl rfl Xj Xj Xk ?_;refine cq (vs:=[_,_,_]) aM.out rfl ((hr.ext hh.below).recAt NR.len hyx) rfl Xk ?_;refine oF ?_;intro b43 w43 hh;refine qM ?_;intro A44 c44 w44 hh;simp only [XC,X6] at hh;replace hh:=hh.sub (X9 _ _);refine kM ?_;refine bk (mI (aA (ai ?_)));have e1:ay NR.cells (((fj A d X u0 q).take i).map nR)++[.bool (nR y).neg,.string (nR y).bg,.int .i64 (nR y).e]=ay NR.cells (((fj A d X u0 q).take (i+1)).map nR):=by rw [az hy,Yc,bD,XQ,Ye,iC];rfl
      rw [e1] at hh;refine ⟨⟨i+1,A44,c44,Xj,rfl,rfl,hh⟩,by show d+1-(i+1)<d+1-i;omega, ?_⟩;exact dV
     ·obtain rfl:i=d+1:=Xj;rw [Xz Xj] at hh;refine sr ?_;refine ll ?_;refine iQ ?_;refine mL ?_;refine fI (hg (fj A d X u0 q) A' c' _ (hT.hp hh) hxz (hh.aC (i:=0) rfl)) ar.out rfl rfl Xk ?_;rintro e_ w48 ⟨E,ec,rfl,h4⟩;refine ⟨_,rfl, ?_⟩;replace hh:=hh.join h4;clear h4;simp only [Xw,Xu] at hh;replace hh:=hh.sub (Xq _ (Xv _ (Xq _ (Xq _ XU))));have hφl:=hφ (fj A d X u0 q) hxl;refine aH (mI (aa (ao ?_)));refine aR [11,12,50,51,52,53,54,55,56,57,58,59,60,61,62,63,64] 50
       (fun v w'=>∃j:Nat,j≤L∧v=.int .i64 j∧Hp w [.row E L ec 40 3 (ay NR.cells ((φ (fj A d X u0 q)).map nR)),.row A14 n c14 40 3 (ay NR.cells ((jb A d L φ X F j).map nR)),.blk b3 83 [.int .i64 ((d:Int)+1),.int .i64 (au A:Nat)] (0,0)] w')
       (fun v _=>L-(intOf v).toNat) ?_ ?_
      ·exact ⟨0,Xs _,rfl,hh⟩
      ·clear hh;rintro ρ3 v w3 ⟨j,hj,rfl,hh⟩;by_cases hjl:j<L
       ·obtain ⟨y,hy⟩:=ak (l:=φ (fj A d X u0 q)) (k:=j) Xj;have hyn:((φ (fj A d X u0 q)).map nR)[j]?=some (nR y):=by rw [Xx,hy];rfl
        have hpn:=hpl j Xj;have hpq:=hpi j;have hset:=KM (φ:=φ) (X:=X) (q:=q) hf hjl (show j≤d by omega);rw [←hFe,show jD (φ (fj A d X u0 q)) j=y by unfold jD;rw [hy];rfl] at hset;obtain ⟨m,hm⟩:∃m,m=j*au A:=⟨_,rfl⟩;have hmi:(j:Int)*((au A:Nat):Int)=(m:Int):=by rw [hm];exact (YB _ _).symm
        rw [←hm] at hpq;have hll:((jb A d L φ X F j).map nR).length=n:=by rw [XA,gE];exact hXl
        generalize jb A d L φ X F j=S at*;generalize cL A d u0 j q=P at*;have hrl:=dY NR.len (S.map nR);obtain ⟨gr,rfl⟩:=hh.cn (i:=0) rfl Xj;obtain ⟨go,rfl⟩:=hh.cn (i:=1) rfl Xj;refine sr ?_;refine dR ?_;refine sy ?_;refine cq (vs:=[_,_,_]) aM.out rfl (hh.fV (f:=NR.cells) (x:=nR y) (l:=(φ (fj A d X u0 q)).map nR) (i:=0) rfl NR.len Xk hyn) rfl Xk ?_;refine bP hh ?_;intro b12 w12 hh;refine aI ?_;refine bR hh 0 [_,_,_] ?_;intro ws hh;replace hh:Hp _ (.blk _ _ [_,_,_] _::_) _:=hh;refine aa (al (mL (mI (mI (bH ?_)))));refine bE hh 3 ?_;refine mulC ?_;refine bk ?_;refine cg hh 0 [_,_,_] ?_;refine da (k:=P) bh.out aM.size rfl rfl Xj Xj Xk ?_;refine bW hh (i:=2) (vs:=[_,_,_]) rfl rfl (iO rfl) rfl aM.out rfl Xj rfl ?_;intro ws hh;simp only [XC,X6] at hh;rw [show cm (ay NR.cells (S.map nR)) (P*3) [.bool (nR y).neg,.string (nR y).bg,.int .i64 (nR y).e]=ay NR.cells ((S.map nR).set P (nR y)) from il NR.len Xj,←Zv,hset] at hh;refine fp ?_;refine bk (mI (aA (ai ?_)))
        replace hh:=hh.sub (Xv _ (Xq _ (Xq _ (Xq _ XU))));refine ⟨⟨j+1,Xj,rfl,hh⟩,by show L-(j+1)<L-j;omega, ?_⟩;exact dV
       ·rw [HM (show L≤j by omega)] at hh;refine sr ?_;refine B8 ?_;refine bk (mI (aA (ai ?_)));replace hh:=hh.sub (Xv _ (Xq _ (Xq _ XU)));refine ⟨⟨F+1,Xj,rfl,hh⟩,by show n-(F+1)<n-F;omega, ?_⟩;exact dV
   ·rw [Hb h0] at hh;refine sr ?_;refine bf (aa (ah (cT (aq (ai (ah (ao (sr (mI (aI (aa (ah (ah ?_)))))))))))));refine P3 ?_;refine dJ ?_;refine ej ?_;refine fN 1 ?_;refine Qs ?_;refine ej ?_;refine fN 1 ?_;refine aO ?_;intro f W hJ hV;have hb_5:=hJ.bl;obtain ⟨v25,v24,v23,v22,v21,v20,_⟩:=hV;replace hh:=hJ.hp;refine J2 ?_;dsimp only [cd];clear hJ;refine sY ?_;refine cJ (aa (cT (a6 (aE (bq (ai (al ?_)))))));refine bk (mI (aA (ai ?_)));refine ⟨⟨F+1,Xj,rfl,hh⟩,by show n-(F+1)<n-F;omega, ?_⟩;exact dV
  ·obtain rfl:F=n:=Xj;exact Uj
variable {ds:List Nat}{l:List TR}
def td (p:PX) (ds:List Int):List Int:=if ds.length=0 then sS p.v p.ts else ds
def Sq (p:PX) (ds:List Int):List Nat:=(td p ds).map Int.toNat
def nW (p:PX) (b:List SR) (ds:List Int):Int:=if pT p b (td p ds)≠0 then pT p b (td p ds) else (dw p (br b)).1
theorem Nd {ns:List Nat}{i d:Nat} (h:ns[i]?=some d):ns.reverse=(ns.drop (i+1)).reverse++d::(ns.take i).reverse:=by
 exact Uo
theorem Sx (ds:List Nat):X0 ds (th [])=List.replicate (au ds) 0:=u6 _
theorem MR {i:Nat}{t:TR} (hl:∀t∈l,iV ds (cP t.m).reverse) (hr:tP l) (ht:l[i]?=some t):(X0 ds (th (l.take i))).set (eh ds (cP t.m).reverse) t.c.d=X0 ds (th (l.take (i+1))):=by
 have hok:=hl t (Xt ht);have hp:=jK hok;have h0:(X0 ds (th (l.take i)))[eh ds (cP t.m).reverse]?=some 0:=by
  unfold X0;rw [nT _ hp];congr 1;unfold th;rw [Ym,u4];refine tF fun s hs=>Xp fun e=> ?_;replace e:eh ds (cP s.m).reverse=eh ds (cP t.m).reverse:=e;have e2:(cP s.m).reverse=(cP t.m).reverse:=by rw [←gM (hl s (YY hs)),e,gM hok]
  have e3:s.m=t.m:=Af (List.reverse_inj.1 e2);obtain ⟨j,hj⟩:=YJ.1 hs;have hji:j<i:=by have:=(XE.1 hj).1;rw [XP] at this;omega
  rw [List.getElem?_take_of_lt hji] at hj;have h1:=(XE.1 hj);have h2:=(XE.1 ht);have h3:=List.pairwise_iff_getElem.1 hr j i h1.1 h2.1 hji;rw [h1.2,h2.2,e3,gZ] at h3
  cases h3
 have h1:=Ig (v:=t.c.d) (show (nZ (au ds) ((th (l.take i)).map fun (q:List Nat×Dyadic)=>(eh ds q.1,q.2)))[eh ds (cP t.m).reverse]?=some 0 from h0);rw [ZF] at h1;show (nZ (au ds) ((th (l.take i)).map fun (q:List Nat×Dyadic)=>(eh ds q.1,q.2))).set _ _=_;rw [h1,az ht];unfold X0 th;rw [Yc,Yc]
 rfl
set_option maxRecDepth 10000 in
theorem yj (p:PX) (L:Option Addr) (n c:Nat) (b:List SR) (M:Option Addr) (m mc:Nat) (ds:List Int) (k:Nat) (w:World) (hT:dN w) (hp:p.at_ w) (lp:p.k8 k) (hB:Sl w L n 6 (ay SR.cells b)) (hb:∀s∈b,s.fin k) (hn:n≤1000000) (hD:Sl w M m 1 (bu ds)) (hm:m≤1000000) (hmc:m≤mc) (hk:k≤1000)
  (hgr:pT p b (td p ds)=0→fK (k+k+16394) (dZ p.v p.ts) (k+1)≤440000):
  Calls Tryz.prog 9 #[.agg #[.int .i64 p.v,.slice p.A p.n p.c],.slice L n c,.slice M m mc] w fun r w'=>∃g:FX,Out (nW p b ds) (Sq p ds) (sP (Sq p ds) (dw p (br b)).2) g∧r=.returned (.tuple #[.agg #[.slice g.A g.n g.a,.slice g.B g.m g.b],.int .i64 (nW p b ds)])∧Hp w [g.qz,g.oV] w':=by
 have hh:=Hp.start w;have hbl:b.length=n:=hB.bp SR.len Xk;have hdl:ds.length=m:=by have:=hD.1;rw [bX] at this;omega
 have hok:∀s∈b,s.ok:=fun s hs=>⟨(hb s hs).1.ok,(hb s hs).2.ok⟩;have hDd:td p ds=if m=0 then sS p.v p.ts else ds:=by unfold td;rw [hdl]
 have hoN:Sq p ds=(td p ds).map Int.toNat:=rfl;have hoE:nW p b ds=if pT p b (td p ds)≠0 then pT p b (td p ds) else (dw p (br b)).1:=rfl
 rw [hoN,hoE];clear hoN hoE;generalize td p ds=D at*;refine aj (N:=94) (l:=[.agg #[.int .i64 p.v,.slice p.A p.n p.c],.slice L n c,.slice M m mc]) Tryz.func9 rfl rfl (by simp) ?_;refine sr ?_;refine cv hh [_,_] ?_;intro b3 w3 hh;refine bP hh ?_;intro b6 w6 hh;refine aI (aa ?_);refine Hs [2,18,19,20,21,22] 2
  (fun v w'=>∃(M2:Option Addr) (m2 mc2:Nat) (R:List HE),v=.slice M2 m2 mc2∧m2≤mc2∧m2≤1000000∧D.length=m2∧(∀(H:List HE) (w1:World),Hp w (H++R) w1→Sl w1 M2 m2 1 (bu D))∧Hp w (.blk b6 33 [.slice none 0 0,.slice none 0 0] (0,0)::.blk b3 24 [.int .i64 p.v,.slice p.A p.n p.c] (0,0)::R) w') ?_ ?_
 ·by_cases hm0:m=0
  ·subst hm0;rw [Xo rfl] at hDd;have hdg:=fun w1 hT1 hb=>na p k w1 hT1 (hp.ext hb) lp;rw [←hDd] at hdg;have hl4:D.length≤1000000:=by
    rw [hDd];exact Qy
   refine sr (mL (aH ?_));refine cR (aa (cT (al ?_)));refine cg hh 1 [_,_] ?_;refine aF (hdg _ (hT.hp hh) hh.below) ar.out rfl Xk ?_;rintro e_ w22 ⟨G,gc,rfl,h4⟩;refine ⟨_,rfl, ?_⟩;have hgc:D.length≤gc:=h4.eJ (i:=0) rfl;replace hh:=hh.join h4;clear h4;simp only [Xw,Xu] at hh;refine aL (aa ?_);replace hh:=hh.perm (XX (l₁:=[_,_]));simp only [Xw,Xu] at hh;replace hh:=hh.perm (XX (l₁:=[_,_]));simp only [Xw,Xu] at hh;refine ⟨⟨G,D.length,gc,_,rfl,hgc,hl4,rfl,fun H w1 h1=>jM (h1.own (.row G D.length gc 3 1 (bu D)) (Y2 _ XB)),hh⟩, ?_⟩;exact OO
  ·rw [Xp hm0] at hDd;refine sr (mL (aH ?_));refine cR (aa (cF (aq (ai ?_))));refine ⟨⟨M,m,mc,[],rfl,hmc,hm,by rw [hDd];exact hdl,fun H w1 h1=>by rw [hDd];exact hD.ext h1.below,hh⟩, ?_⟩;exact OO
 ·skip;clear hh hDd hdl hD hm hmc;rintro ρ' v w' ⟨M2,m2,mc2,R,rfl,hmc2,hm2,hDl,hrd,hh⟩;have hfi:=fun w1 hT1 hb1 hd=>ue p L n c b M2 m2 mc2 D k w1 hT1 (hp.ext hb1) lp (hB.ext hb1) hok hn hd hm2;by_cases hE:pT p b D≠0
  ·rw [Xo hE];generalize pT p b D=E at*;refine ah (sr ?_);refine cg hh 1 [_,_] (mL (mL ?_));refine bA hh (hfi _ (hT.hp hh) hh.below (hrd [_,_] _ hh)) rfl ?_;intro w26 hh;exact Tz
  ·rw [Xp hE];have hE0:pT p b D=0:=Xj;obtain ⟨hnat,hF⟩:=C6 hE0;rw [hE0] at hfi;have hpe:=hF.e;have hn0:=hF.pos;have hn12:=hF.uz;have hnl:=hF.nl;have hlow:=hF.low;have hmost:=hF.most;have hgr2:=hgr hE0;obtain ⟨_,o2,o3⟩:=m6 hpe;have hwi:=fun w1 hT1 hb1=>zg p L n c b k (dZ p.v p.ts) w1 hT1 (hp.ext hb1) lp (hB.ext hb1) hb (by rw [hF.v,hbl]) Xj Xj hk (by rw [hF.y3];exact hbl) (fun i d hd=>⟨(o3 i d hd).1,(o3 i d hd).2.1⟩) hgr2;have hsp:=yl hF lp.ok hb hk hgr2;clear hgr hgr2 o2 o3 hfi;have hfi:=fun w1 hT1 hb1 hd=>ue p L n c b M2 m2 mc2 D k w1 hT1 (hp.ext hb1) lp (hB.ext hb1) hok hn hd hm2;rw [hE0] at hfi;clear hE hE0;have hcnt:g7 1 D=((au (D.map Int.toNat):Nat):Int):=by
    have h8:=kv (D.map Int.toNat) 1 (Xr _) Xk hlow;rw [←hnat,Zd,Xo hmost] at h8;exact h8
   have hco:=fun w1 hd=>eI M2 m2 mc2 D w1 hd hm2;rw [hcnt] at hco;have hcl:=fun w1 hd=>jI M2 m2 mc2 D w1 hd hm2;have hm2n:m2=n:=by rw [←hDl,←hbl,←hnl,XA]
   generalize hns:D.map Int.toNat=ns at*;generalize (dw p (br b)).1=E at*;generalize (dw p (br b)).2=S at*;have hN0:=cC ns;refine ah (sr ?_);refine cg hh 1 [_,_] (mL (mL ?_));refine bA hh (hfi _ (hT.hp hh) hh.below (hrd [_,_] _ hh)) rfl ?_;intro w26 hh;refine aI (aa (sr (mI ?_)));refine wV ?_;refine cg hh 1 [_,_] (mL ?_);refine aF (hwi _ (hT.hp hh) hh.below) ar.out rfl Xk ?_;rintro e_ w34 ⟨q,oq,rfl,h4⟩;refine ⟨_,rfl, ?_⟩;replace hh:=hh.join h4;clear h4;simp only [Xw,Xu] at hh;replace hh:=show Hp w (.row q.A q.n q.c 80 4 (ay TR.cells q.ts)::_) _ from hh;by_cases hE2:E≠0
   ·refine mT ?_;refine dn ?_;refine dn ?_;refine bP hh ?_;intro b9 w9 hh;refine bR hh 0 [_,_] ?_;intro ws hh;replace hh:Hp _ (.blk _ _ [_,_] _::_) _:=hh;refine aI (aa (ah (sr (mI ?_))));refine cJ (aa (cT (sr ?_)));refine fP [_,_] (mI ?_);refine bR hh 2 [_,_] ?_;intro ws hh;replace hh:Hp _ (_::_::.blk _ _ [_,_] _::_) _:=hh;refine aI (aa (aw (aK ?_)));refine qH ?_;exact ⟨FX.nil,Out.err hE2,rfl,(hh.sub (YE _)).UB⟩
   ·have hE0:E=0:=Xj;subst hE0;obtain ⟨hso,hsr⟩:=hsp rfl;have et:q.ts=S:=oq.t0;rw [et] at hh;clear oq et;generalize q.v=qv at*;generalize q.A=qA at*;generalize q.n=qn at*;generalize q.c=qc at*;have hSl:S.length=qn:=(hh.aC (i:=0) rfl).bp TR.len Xk;have hSn:=hso.len;obtain ⟨_,_,hSm,hSc⟩:=cK hso.e;refine mT ?_;refine dn ?_;refine dn ?_;refine bP hh ?_;intro b9 w9 hh;refine bR hh 0 [_,_] ?_;intro ws hh;replace hh:Hp _ (.blk _ _ [_,_] _::_) _:=hh;refine aI (aa (ah (sr (mI ?_))));refine cJ (aa (cF (aq (ai (sr (mL ?_))))));refine aF (hcl _ (hrd [_,_,_,_] _ hh)) ar.out rfl Xk ?_;rintro e_ w42 ⟨A42,c42,rfl,hown_,hb_⟩;refine ⟨_,rfl, ?_⟩;replace hh:=hh.aX (x:=.row _ _ _ _ _ _) hb_ hown_;refine mL ?_;refine bA hh (hco _ (hrd [_,_,_,_,_] _ hh)) rfl ?_;intro w44 hh;refine fO (n:=(au ns)) hh rfl rfl Xj Xj bh.out aM.out rfl Xj Xj Xk ?_;intro b45 w45 hh;refine fP [_,_] ?_;refine bP hh ?_;intro b11 w11 hh;refine bR hh 0 [_,_] ?_;intro ws hh;replace hh:Hp _ (.blk _ _ [_,_] _::_) _:=hh;refine aa (ah (sr (bH ?_)));refine bE hh 3 ?_;refine aH (mI (aa (ao ?_)));rw [nu,←cD ns,←Sx ns.reverse,cD] at hh
    refine aR [13,14,15,16,50,51,52,53,54,55,56,57,58,59,60,61,62,63,64,65,66,67,68,69,70,71,72,73,74,75,76,77,78,79] 50
     (fun v w'=>∃i:Nat,i≤qn∧v=.int .i64 i∧Hp w (.blk b11 33 [.slice A42 m2 c42,.slice (some ⟨b45,0,none⟩) (au ns) (au ns)] (0,0)::.row (some ⟨b45,0,none⟩) (au ns) (au ns) 40 3 (ay NR.cells ((X0 ns.reverse (th (S.take i))).map nR))::.row A42 m2 c42 3 1 (bu D)::.blk b9 24 [.int .i64 qv,.slice qA qn qc] (0,0)::.row qA qn qc 80 4 (ay TR.cells S)::.blk b6 33 [.slice none 0 0,.slice none 0 0] (0,0)::.blk b3 24 [.int .i64 p.v,.slice p.A p.n p.c] (0,0)::R) w')
     (fun v _=>qn-(intOf v).toNat) ?_ ?_
    ·exact ⟨0,Xs _,rfl,hh⟩
    ·clear hh;rintro ρ2 v w2 ⟨i,hi,rfl,hh⟩;by_cases hlt:i<qn
     ·obtain ⟨x,hx⟩:=ak (l:=S) (k:=i) Xj;have hxm:=Xt hx;have hxo:=hsr x hxm;have hx2:=hSm x hxm;unfold fa at hx2;rw [XF,XN] at hx2;have hxs:x.m.size=n:=Xj;have hxz:=hso.sz x hxm;have hxc:x.c=nR x.c.d:=hSc.nf x hxm;have hex:iG x.m.data.toList=bM (cP x.m):=by rw [jW hx2.1,lv]
      have hesl:(cP x.m).length=n:=by rw [j5];exact hxs
      have hel:(iG x.m.data.toList).length=n:=by rw [hex,ko];exact hesl
      have hset:=MR hsr hSc.sM hx;have hX0l:((X0 ns.reverse (th (S.take i))).map nR).length=au ns:=by rw [XA];unfold X0;rw [lh,cD]
      have hcell:ay TR.cells S=ay TR.cells S:=rfl;have hokat:∀(j d r:Nat),ns[j]?=some d→(cP x.m)[j]?=some r→r≤d:=fun j d r hd hr=>by
       have hj:=(XE.1 hd).1;refine ((ke _ _).1 hxo).2 (n-1-j) d r ?_ ?_
       ·rw [Ze Xj,show ns.length-1-(n-1-j)=j by omega];exact hd
       ·rw [Ze Xj,show (cP x.m).length-1-(n-1-j)=j by omega];exact hr
      obtain ⟨gq,rfl⟩:=hh.cn (i:=4) rfl Xj;refine sr ?_;refine dT ?_;refine fT ?_;refine cq (vs:=[_,_,_,_]) aM.out rfl (hh.fV (f:=TR.cells) (x:=x) (l:=S) (i:=4) rfl TR.len Xk hx) rfl Xk ?_;refine bP hh ?_;intro b13 w13 hh;refine bR hh 0 [_,_,_,_] ?_;intro ws hh;replace hh:Hp _ (.blk _ _ [_,_,_,_] _::_) _:=hh;refine aa (sr (aI (aa (ah (sr (bH ?_))))));refine bE hh 0 ?_;refine aF (g8 x.m _ hxz) ar.out rfl Xk ?_;rintro e_ w56 ⟨A56,c56,rfl,hown_,hb_⟩;refine ⟨_,rfl, ?_⟩;replace hh:=hh.aX (x:=.row _ _ _ _ _ _) hb_ hown_;rw [hel,hex] at hh;rw [hel];refine aH (mI (aa (ao ?_)));refine bK [14,15,16,58,59,60,61,62,63,64,65,66,67,68,69,70,71,72] 14 58
       (fun a v w'=>∃(j z:Nat),j≤n∧v=.int .i64 j∧a=.int .i64 z∧z=eh (ns.take j).reverse ((cP x.m).take j).reverse∧z<au (ns.take j)∧Hp w (.row A56 n c56 3 1 (bu (bM (cP x.m)))::.blk b13 80 [.string x.m,.bool x.c.neg,.string x.c.bg,.int .i64 x.c.e] (0,0)::.blk b11 33 [.slice A42 m2 c42,.slice (some ⟨b45,0,none⟩) (au ns) (au ns)] (0,0)::.row (some ⟨b45,0,none⟩) (au ns) (au ns) 40 3 (ay NR.cells ((X0 ns.reverse (th (S.take i))).map nR))::.row A42 m2 c42 3 1 (bu D)::.blk b9 24 [.int .i64 qv,.slice (some ⟨gq,0,none⟩) qn qc] (0,0)::.row (some ⟨gq,0,none⟩) qn qc 80 4 (ay TR.cells S)::.blk b6 33 [.slice none 0 0,.slice none 0 0] (0,0)::.blk b3 24 [.int .i64 p.v,.slice p.A p.n p.c] (0,0)::R) w')
       (fun _ v _=>n-(intOf v).toNat) ?_ ?_
      ·exact ⟨0,0,Xs _,rfl,rfl,rfl,Nat.one_pos,hh⟩
      ·clear hh;rintro ρ3 a_ v w3 ⟨j,z,hj,rfl,rfl,hz,hz2,hh⟩;by_cases hjn:j<n
       ·obtain ⟨d,hd⟩:=ak (l:=ns) (k:=j) Xj;obtain ⟨r,hr⟩:=ak (l:=cP x.m) (k:=j) Xj;have hrd2:=hokat j d r hd hr;have hd7:=hlow d (Xt hd);have hgD:(bu D)[j]?=some (.int .i64 (d:Int)):=by rw [hnat];exact ck (gN hd)
        have hgE:=ck (gN hr);have hst:=Bu hd hr;have hcs:=BJ hd;rw [cD,cD] at hcs;rw [←hz] at hst;have hct:=ij ns (j+1);have hnew:r+(d+1)*z<(d+1)*au (ns.take j):=by
         have:(d+1)*(z+1)≤(d+1)*au (ns.take j):=X4 _ hz2;rw [YS] at this;omega
        have hpr:(z:Int)*((d:Int)+1)=(((d+1)*z:Nat):Int):=by rw [XY,YB,Zm];rfl
        have hDs:=hrd [_,_,_,_,_,_,_,_,_] _ hh;obtain ⟨ad,hMe,hsr2⟩:=hDs.at_ Xj;have si:Value.slice M2 m2 mc2=.slice (some ad) m2 mc2:=by rw [hMe]
        have hel2:(bu (bM (cP x.m))).length=n:=by rw [bX,ko];exact hesl
        obtain ⟨gx,rfl⟩:=hh.cn (i:=0) rfl Xj;refine sr ?_;refine dR ?_;refine sy ?_;refine jw ?_;refine aI (aI (aa (al (mI (mL (mI ?_))))));refine cE (k:=j) bh.out aM.size si rfl Xj Xj Xk ?_;refine bU aM.out rfl (hsr2.wj hgD) Xk ?_;refine bk ?_;refine mulC (mI ?_);refine bk (aI (aA (bz (ai (al ?_)))));refine bk (mI (aA (ai ?_)));rw [hpr];refine ⟨⟨j+1,r+(d+1)*z,Xj,rfl, ?_,hst.symm,Xj,hh⟩,by show n-(j+1)<n-j;omega, ?_⟩
        ·show Value.int IntKind.i64 ((((d+1)*z:Nat):Int)+(r:Int))=_;rw [show (((d+1)*z:Nat):Int)+(r:Int)=((r+(d+1)*z:Nat):Int) by omega]
        ·exact dV
       ·obtain rfl:j=n:=Xj;rw [Xz Xj,Xz Xj] at hz;rw [Xz Xj] at hz2;rw [←hz] at hset;generalize X0 ns.reverse (th (S.take i))=X at*;have hrl:=dY NR.len (X.map nR);refine sr ?_;refine bf (aa (ah (cF (a6 (aE (aE (bq (ai (al (bH ?_))))))))));refine bE hh 2 ?_;refine mI (bH ?_);refine cg hh 1 [_,_,_] ?_;refine da (k:=z) bh.out aM.size rfl rfl Xj Xj Xk ?_;refine bW hh (i:=3) (vs:=[_,_,_]) rfl rfl (iO rfl) rfl aM.out rfl Xj rfl ?_;intro ws hh;simp only [XC,X6] at hh;rw [hxc,show cm (ay NR.cells (X.map nR)) (z*3) [.bool (nR x.c.d).neg,.string (nR x.c.d).bg,.int .i64 (nR x.c.d).e]=ay NR.cells ((X.map nR).set z (nR x.c.d)) from il NR.len Xj,←Zv,hset] at hh;refine fp ?_;refine bk (mI (aA (ai ?_)));replace hh:=hh.sub (Xv _ (Xv _ (Xq _ (Xq _ (Xq _ (Xq _ (Xq _ (Xq _ (Xq _ (Yo _))))))))));refine ⟨⟨i+1,Xj,rfl,hh⟩,by show qn-(i+1)<qn-i;omega, ?_⟩;exact dV
     ·obtain rfl:i=qn:=Xj;rw [Xz Xj,show X0 ns.reverse (th S)=pJ ns.reverse (th S) 0 from rfl] at hh;have hoff:=AW hsr;have hXz:=DH (QO (ds:=ns.reverse) hso.ok) (fun d hd=>hlow d (Zt.1 hd));have hnr:ns.reverse.length=n:=by rw [X8];omega
      refine sr ?_;refine bf (aa (ah (cF (a6 (aE (aE (bq (ai (ah (sr (mL (aH (mI (aa (ao ?_)))))))))))))));replace hh:=hh.sub (Xq _ (Xq _ (Xq _ (Xv _ (Xv _ (Xq _ (Xq _ (Yo _))))))));refine aR [17,82,83,84,85,86,87,88,89,90,91,92] 82
       (fun v w'=>∃(j:Nat) (A:Option Addr) (ac:Nat),j≤n∧v=.int .i64 j∧Hp w (.blk b11 33 [.slice A42 m2 c42,.slice A (au ns) ac] (0,0)::.row A (au ns) ac 40 3 (ay NR.cells ((pJ ns.reverse (th S) j).map nR))::.row A42 m2 c42 3 1 (bu D)::.blk b6 33 [.slice none 0 0,.slice none 0 0] (0,0)::.blk b3 24 [.int .i64 p.v,.slice p.A p.n p.c] (0,0)::R) w')
       (fun v _=>n-(intOf v).toNat) ?_ ?_
      ·exact ⟨0,_,_,Xs _,rfl,hh⟩
      ·clear hh;rintro ρ4 v w4 ⟨j,A,ac,hj,rfl,hh⟩;by_cases hjn:j<n
       ·obtain ⟨d,hd⟩:=ak (l:=ns) (k:=j) Xj;have hd7:=hlow d (Xt hd);have hrm:=Nd hd;have hol:(pJ ns.reverse (th S) j).length=au ns:=by rw [BG,cD]
        have hof:=fun w1 hs=>jR M2 m2 mc2 j d ns w1 (by rw [←hnat];exact hs) hmc2 Xj hd hlow hmost;have hcn:au ns=au ((ns.drop (j+1)).reverse++d::(ns.take j).reverse):=by rw [←hrm,cD]
        have hli:=fun w1 hT1 hS1=>mC 50 (ns.drop (j+1)).reverse (ns.take j).reverse d (d+1) (kU d (eB d 1 1)) A (au ns) ac (440000+S.length+520*j) (pJ ns.reverse (th S) j) w1 hT1 hS1 hcn hmost (Xr _) hd7 (hXz j) (fun Y E ec w2 hT2 hy hs=>yt E (d+1) ec d Y _ w2 hT2 hs rfl hd7 hy Xj) (fun Y _=>by simp [kU]);have hM:=JK (M:=eB d 1 1) (A:=(ns.drop (j+1)).reverse) (B:=(ns.take j).reverse) (X:=pJ ns.reverse (th S) j) (hol.trans hcn);have hsu:=rI ns.reverse (th S) j;have hgd:ns.reverse.getD (ns.reverse.length-1-j) 0=d:=by
         rw [YM,Ze Xj,show ns.length-1-(ns.reverse.length-1-j)=j by omega,hd]
         rfl
        rw [hgd,show ns.reverse.length-1-j=(ns.drop (j+1)).reverse.length by rw [X8,X8,Yz];omega] at hsu;rw [hol,←hrm,←hsu] at hM;rw [hM,cD] at hli;clear hM hsu hgd hcn;refine sr ?_;refine bf (aa (ah (cT (aq (ai (ah (ao (sr (mI (aI (aa ?_)))))))))));refine a0 5 [[(2,none)],[(17,none)],[(85,some 0),(86,some 1)],[(11,none)],[(88,some 3)]] [(4,89),(3,88),(2,87),(1,86),(0,85)] hh mixed Xl ?_;refine fS ?_;refine dJ ?_;refine dC (fun _ hj=>hof _ (hrd [_,_,_,_,_] _ hj.hp)) ?_;refine ej ?_;refine fN 0 ?_;refine aO ?_;intro f W hJ hV;have hb_24:=hJ.bl;obtain ⟨v89,v88,v87,v86,v85,_⟩:=hV;replace hh:=hJ.hp;refine aW (bm (ae v89 (ae v88 (ae v87 (ae v86 (ae v85 aV)))))) ?_;dsimp only [cd];clear hJ;refine aF (hli _ (hT.hp hh) (hh.aC (i:=1) rfl)) ar.out rfl Xk ?_;rintro e_ w90 ⟨E,ec,rfl,h4⟩;refine ⟨_,rfl, ?_⟩;replace hh:=hh.join h4;clear h4;simp only [Xw,Xu] at hh;refine bH ?_;refine bR hh 1 [_] ?_;intro ws hh;replace hh:Hp _ (_::.blk _ _ [_,_] _::_) _:=hh;refine fp ?_;refine bk (mI (aA (ai ?_)))
        replace hh:=hh.sub (Xq _ (Xq _ (Xv _ (Xq _ (Xq _ (Xq _ (Yo _)))))));replace hh:=hh.perm (XX (l₁:=[_]));simp only [Xw,Xu] at hh;refine ⟨⟨j+1,E,ec,Xj,rfl,hh⟩,by show n-(j+1)<n-j;omega, ?_⟩;exact dV
       ·obtain rfl:j=n:=Xj;rw [hnl,hbl] at hoff;rw [hoff] at hh;refine sr ?_;refine ll ?_;refine cg hh 0 [_,_] ?_;refine bR hh 3 [_,_] ?_;intro ws hh;replace hh:Hp _ (_::_::_::.blk _ _ [_,_] _::_) _:=hh;refine aI (aa (aw ?_));refine JM ?_;exact ⟨⟨A42,m2,c42,A,au ns,ac,D,(sP ns S).map nR⟩,⟨hnat,rfl,by show m2≤100000;omega,by show au ns≤1000000;omega⟩,rfl,hh.sub (.cons _ (.cons_cons _ (.cons_cons _ (YE _))))⟩
def qj (a:NR):Bool:=decide ((8:Int)<a.bg.size∨a.e< -60∨60<a.e)
theorem H0 {a:NR} (h:qj a=false):a.ok∧Sz 124 a.d:=by
 have h':=of_decide_eq_false h;have h1:(a.bg.size:Int)≤8:=Xj;have h2: -60≤a.e:=Xj;have h3:a.e≤60:=Xj;exact ⟨⟨Xj,Xj,Xj⟩,Sz.raw (m:=64) (E:=60) Xj h2 h3⟩
def FX.small (f:FX):Prop:=f.k8 124∧f.m≤60∧f.n≤20
abbrev Xb (l:List Int) (A:Option Addr) (a:Nat) (B:Option Addr) (b:Nat):FX:=⟨A,1,a,B,l.length,b,[(l.length:Int)-1],l.map fun z:Int=>nR (z:Dyadic)⟩
def xB (ds:List Int) (cs:List NR):VP:=fun v W=>∃g:FX,v=.agg #[.slice g.A g.n g.a,.slice g.B g.m g.b]∧g.ds=ds∧g.cs=cs∧g.at_ W
theorem xB.ext {ds:List Int}{cs:List NR} (v:Value) (w w':World) (h:xB ds cs v w) (hb:Below w.heap.size w w'):xB ds cs v w':=let ⟨g,h1,h2,h3,h4⟩:=h;⟨g,h1,h2,h3,h4.ext hb⟩
variable {K:Value→World→Prop}{ag:Bool}{by':Nat}{cs zc:List Value}{parts:Array (Nat×Operand)}{ps:List (Nat×Value)}{z:Int}
section
variable {P:Program}{ρ:Rf}{w:World}
theorem RB {d:Option Nat}{ty:TypeId}{af:Array Edge}{t e:TypeId}{len sz:Nat} (ht:P.underlying t=some (.slice e)) (hte:cQ P e=some (sz,ag,by',zc))
  (hp:wh ρ parts.toList=ps) (hzl:zc.length=sz) (hf:ky (fun i=>some (i*sz,sz)) (eZ len zc) ps=some cs) (h0:¬len*sz=0) (hsl:len*sz≤16777216) (hl:cs.length=len*sz) (hn:len≤1000000) (hbs:base≤w.heap.size)
  (hk:∀v w2,n8 base e len sz cs v w2→Below w.heap.size w w2→K v w2):OG P ops ⟨d,.buildSlice t len parts,ty,pos,af,none⟩ ρ w K:=by
 obtain ⟨z,hz,hzc⟩:=dx (w:=w) hte;have hbl:Below w.heap.size w (w.alloc (.cells cs.toArray e)):=(Below.refl _ _).alloc (Xr _) _;refine db rfl (w':=w.alloc (.cells cs.toArray e)) (v:=.slice (some ⟨w.heap.size,0,none⟩) len len) ?_ (hk _ _ ⟨_,_,rfl,hl,.inr ⟨w.heap.size,len,cs.toArray,rfl,hbs,heap_alloc_new w _,Xr _,by unfold maxLen;omega,by simpa using hl,by rw [←hl];simp⟩⟩ hbl);exact Oh
end
def eL (z:Int):NR:=nR (z:Dyadic)
def ku (l:List Int):List SR:=l.map fun z=>⟨nR 0,eL z⟩
theorem qL (h:z.natAbs<256):(eL z).ok∧Sz 24 (eL z).d:=by
 have z1:Sz 24 ((z:Int):Dyadic):=NZ (m:=z) (e:=0) h Xk Xk;exact ⟨z1.ok Xk,by unfold eL;rw [bI];exact z1⟩
theorem lP (l:List Int) (A:Option Addr) (n c:Nat) (w:World) (hS:Sl w A n 1 (bu l)) (hl:∀z∈l,z.natAbs<256) (hn:n≤1000):
  Calls Tryz.prog 37 #[.slice A n c] w fun r w'=>∃B c',r=.returned (.slice B n c')∧Hp w [.row B n c' 40 3 (ay NR.cells (l.map eL))] w':=by
 have hh:=Hp.start w;have hln:l.length=n:=by have:=hS.1;rw [bX] at this;omega
 refine aj (N:=20) (l:=[.slice A n c]) Tryz.func37 rfl rfl (by simp) ?_;refine sr (aL (aa (sr (aL (aa (ah (sr (aI (aa (ao ?_))))))))));replace hh:=hh.cU 40 3;refine bK [3,4,5,6,7,8,9,10,11,12,13,14,15,16,17,18] 3 4
  (fun a v w'=>∃(i c1:Nat) (B:Option Addr),i≤n∧v=.int .i64 i∧a=.slice B i c1∧Hp w [.row B i c1 40 3 (ay NR.cells ((l.take i).map eL))] w')
  (fun _ v _=>n-(intOf v).toNat) ?_ ?_
 ·exact ⟨0,0,none,Xs _,rfl,rfl,hh⟩
 ·clear hh;rintro ρ' a_ v w' ⟨i,c1,B,hi,rfl,rfl,hh⟩;by_cases hlt:i<n
  ·obtain ⟨z,hz⟩:=ak (l:=l) (k:=i) Xj;have hgz:=ck hz;have hzb:=hl z (Xt hz);obtain ⟨ad,rfl,hr⟩:=hS.at_ Xj;refine ah (sr (mI (mL (aH ?_))));refine Ky ?_;refine cx ?_;refine bU aM.out rfl ((hr.ext hh.below).wj hgz) Xk ?_;refine bA hh (lH z _ Xj Xj) rfl ?_;intro w16 hh;refine oF ?_;intro b17 w17 hh;refine qM ?_;intro A18 c18 w18 hh;simp only [XC,X6] at hh;replace hh:=hh.sub (X9 _ _);refine x9 ?_;refine bk (aI (aA (ai ?_)));refine ⟨⟨i+1,c18,A18,Xj,rfl,rfl, ?_⟩,by show n-(i+1)<n-i;omega, ?_⟩
   ·rw [az hz,Yc,bD];exact hh
   ·exact dV
  ·exact Uc
theorem El (l:List Int) (A:Option Addr) (n c:Nat) (w:World) (hS:Sl w A n 1 (bu l)) (hl:∀z∈l,z.natAbs<256) (hn:n≤1000):
  Calls Tryz.prog 40 #[.slice A n c] w fun r w'=>∃B c',r=.returned (.slice B n c')∧Hp w [.row B n c' 70 6 (ay SR.cells (ku l))] w':=by
 have hh:=Hp.start w;have hln:l.length=n:=by have:=hS.1;rw [bX] at this;omega
 refine aj (N:=21) (l:=[.slice A n c]) Tryz.func40 rfl rfl (by simp) ?_;refine sr (aL (aa (sr (aL (aa (ah (sr (aI (aa (ao ?_))))))))));replace hh:=hh.cU 70 6;refine bK [3,4,5,6,7,8,9,10,11,12,13,14,15,16,17,18,19] 3 4
  (fun a v w'=>∃(i c1:Nat) (B:Option Addr),i≤n∧v=.int .i64 i∧a=.slice B i c1∧Hp w [.row B i c1 70 6 (ay SR.cells (ku (l.take i)))] w')
  (fun _ v _=>n-(intOf v).toNat) ?_ ?_
 ·exact ⟨0,0,none,Xs _,rfl,rfl,hh⟩
 ·clear hh;rintro ρ' a_ v w' ⟨i,c1,B,hi,rfl,rfl,hh⟩;by_cases hlt:i<n
  ·obtain ⟨z,hz⟩:=ak (l:=l) (k:=i) Xj;have hgz:=ck hz;have hzb:=hl z (Xt hz);obtain ⟨ad,rfl,hr⟩:=hS.at_ Xj;have e1:ay SR.cells (ku (l.take (i+1)))=ay SR.cells (ku (l.take i))++[.bool false,.string (ByteArray.mk #[]),.int .i64 0,.bool (nR (z:Dyadic)).neg,.string (nR (z:Dyadic)).bg,.int .i64 (nR (z:Dyadic)).e]:=by
    unfold ku;rw [az hz,Yc,bD,XQ,Ye,iC,l3]
    rfl
   refine ah (sr (mI (mL (aH ?_))));refine Ky ?_;refine cx ?_;refine bU aM.out rfl ((hr.ext hh.below).wj hgz) Xk ?_;refine bA hh (lH z _ Xj Xj) rfl ?_;intro w16 hh;refine fP [_,_,_,_,_,_] ?_;refine Pq ?_;intro b18 w18 hh;refine qM ?_;intro A19 c19 w19 hh;simp only [XC,X6] at hh;replace hh:=hh.sub (X9 _ _);refine x9 ?_;refine bk (aI (aA (ai ?_)));refine ⟨⟨i+1,c19,A19,Xj,rfl,rfl, ?_⟩,by show n-(i+1)<n-i;omega, ?_⟩
   ·rw [e1];exact hh
   ·exact dV
  ·exact Uc
theorem yL (z:Int) (es:List UInt8) (A:Option Addr) (n c:Nat) (w:World) (hS:Sl w A n 1 (nV es)) (hz:z.natAbs<256) (hn:es.length=n) (hn2:n≤1000):
  Calls Tryz.prog 42 #[.int .i64 z,.slice A n c] w fun r w'=>∃B c',r=.returned (.agg #[.int .i64 n,.slice B 1 c'])∧Hp w [.row B 1 c' 80 4 (ay TR.cells [⟨str es,eL z⟩])] w':=by
 have hh:=Hp.start w;refine aj (N:=14) (l:=[.int .i64 z,.slice A n c]) Tryz.func42 rfl rfl (by simp) ?_;refine sr ?_;refine bP hh ?_;intro b4 w4 hh;refine aa (ah ?_);refine a0 8 [[(1,none)],[(5,some 0)],[(1,none)],[(7,some 2)],[(0,none)],[(9,some 4)],[(8,some 3),(10,some 5)],[(11,some 6)]] [(7,12),(6,11),(5,10),(4,9),(3,8),(2,7),(1,6),(0,5)] hh mixed Xl ?_;refine fS ?_;refine AU ?_;refine fS ?_;refine aQ (i:=3) (Is (.string ⟨(es).toArray⟩)) Is.ext ?_ ?_
 ·intro ρ1 w1 hj hR;exact db rfl (kR (l:=es) bh.out bh.out bh.out (show ρ1 7=Value.slice _ _ _ from hR.1) (hS.ext hj.hp.below)) ⟨Below.refl _ _,rfl⟩
 refine dJ ?_;refine dC (fun _ hj=>lH z _ Xj Xj) ?_;refine dB [_,_,_,_] ?_;refine aQ (i:=7) (n8 hh.sz 80 1 4 (ay TR.cells [⟨str es,eL z⟩])) (n8.ext) ?_ ?_
 ·intro ρ1 w1 hj hR;exact RB (sz:=4) bh.out aM.out (show wh ρ1 [(0,.tmp 11)]=[(0,.agg #[.string (str es),.bool (eL z).neg,.string (eL z).bg,.int .i64 (eL z).e])] from aN (show ρ1 11=_ from hR.1) bZ) rfl rfl Xk Xk rfl Xk hj.bl.size fun v w2 h hb=>⟨hb,h⟩
 refine aO ?_;intro f W hJ hV;have hb_1:=hJ.bl;obtain ⟨v12,v11,v10,v9,v8,v7,v6,v5,_⟩:=hV;obtain ⟨A12,c12,e12,o12⟩:n8 _ _ _ _ _ (f 7) W:=v12;replace hh:=JJ.Ls hh hJ.hp o12;clear o12;refine aW (bm (ae e12 (ae v11 (ae v10 (ae v9 (ae v8 (ae v7 (ae v6 (ae v5 aV))))))))) ?_;dsimp only [cd];clear e12 hJ;refine fP [_,_] ?_;refine bR hh 1 [_,_] ?_;intro ws hh;replace hh:Hp _ (_::.blk _ _ [_,_] _::_) _:=hh;refine aa (aw ?_);refine CK ?_;exact ⟨A12,c12,rfl,hh.sub (Xq _ (YE _))⟩
theorem G6 (p:PX) (L:Option Addr) (n c:Nat) (b:List SR) (M:Option Addr) (m mc:Nat) (ds:List Int) (A:Option Addr) (k ac:Nat) (l:List Int) (w:World) (hT:dN w) (hp:p.at_ w) (lp:p.k8 124) (hB:Sl w L n 6 (ay SR.cells b)) (hb:∀s∈b,s.fin 124) (hn:n≤1000) (hD:Sl w M m 1 (bu ds)) (hm:m≤1000) (hmc:m≤mc)
  (hgr:fK (124+124+16394) (dZ p.v p.ts) (124+1)≤440000) (hS:Sl w A k 1 (bu l)) (hl:∀z∈l,z.natAbs<256) (hk:k≤1000) (hE:nW p b ds=0) (hX:sP (Sq p ds) (dw p (br b)).2=l.map fun z:Int=>(z:Dyadic)):
  Calls Tryz.prog 41 #[.agg #[.int .i64 p.v,.slice p.A p.n p.c],.slice L n c,.slice M m mc,.slice A k ac] w fun r w'=>r=.returned (.bool true)∧Below w.heap.size w w':=by
 have hh:=Hp.start w;have hof:=fun w1 hT1 hb1=>yj p L n c b M m mc ds 124 w1 hT1 (hp.ext hb1) lp (hB.ext hb1) hb Xj (hD.ext hb1) Xj hmc Xk (fun _=>hgr);rw [hE,hX] at hof;have hro:=fun w1 hb1=>lP l A k ac w1 (hS.ext hb1) hl hk;have hll:l.length=k:=by have:=hS.1;rw [bX] at this;omega
 refine aj (N:=27) (l:=[.agg #[.int .i64 p.v,.slice p.A p.n p.c],.slice L n c,.slice M m mc,.slice A k ac]) Tryz.func41 rfl rfl (by simp) ?_;refine sr ?_;refine cv hh [_,_] ?_;intro b4 w4 hh;refine aB (aa (sr ?_));refine cg hh 0 [_,_] (mL (mL ?_));refine aF (hof _ (hT.hp hh) hh.below) ar.out rfl Xk ?_;rintro e_ w15 ⟨g,og,rfl,h4⟩;refine ⟨_,rfl, ?_⟩;replace hh:=hh.join h4;clear h4;simp only [Xw,Xu] at hh;have hcs:g.cs=l.map eL:=by
  rw [og.cs];show (l.map fun z:Int=>(z:Dyadic)).map nR=_;rw [Ym]
  rfl
 replace hh:=show Hp w (.row g.B g.m g.b 40 3 (ay NR.cells g.cs)::.row g.A g.n g.a 3 1 (bu g.ds)::_) _ from hh;rw [hcs] at hh;have hgm:g.m=k:=by have:=(hh.aC (i:=0) rfl).bp NR.len Xk;rw [XA] at this;omega
 refine mT ?_;refine dn ?_;refine dn ?_;refine bP hh ?_;intro b9 w9 hh;refine bR hh 0 [_,_] ?_;intro ws hh;replace hh:Hp _ (.blk _ _ [_,_] _::_) _:=hh;refine aI (aa (ah ?_));refine a0 7 [[(10,none)],[(18,some 0)],[(19,some 1)],[(9,none),(20,some 2)],[(21,some 3),(20,some 2)],[(3,none),(20,some 2)],[(23,some 5),(20,some 2)]] [(6,24),(5,23),(4,22),(3,21),(2,20),(1,19),(0,18)] hh mixed Xl ?_;refine dJ ?_;refine yH ?_;refine oQ ?_;refine dG (ej ?_);refine dG (fN 0 ?_);refine dG (fS ?_);refine aQ (i:=6) (Rows k 3 (ay NR.cells (l.map eL))) (Rows.ext) ?_ ?_
 ·intro ρ1 w1 hj hR;exact a9 rfl (show ρ1 20=Value.bool _ from hR.2.1) (aY rfl (aJ ar.out (av (show ρ1 23=Value.slice _ _ _ from hR.1) aU)) (hro w1 hj.hp.below) (fun _ _ ⟨B,c',hq,h3⟩=>⟨_,hq,h3.below,B,c',rfl,h3.aC (i:=0) rfl⟩))
 refine aO ?_;intro f W hJ hV;have hb_2:=hJ.bl;obtain ⟨v24,v23,v22,v21,v20,v19,v18,_⟩:=hV;obtain ⟨A24,c24,e24,f24⟩:Rows _ _ _ (f 6) W:=v24;replace hh:=hJ.hp;refine aW (bm (ae e24 (ae v23 (ae v22 (ae v21 (ae v20 (ae v19 (ae v18 aV)))))))) ?_;dsimp only [cd];clear e24 hJ;have hsg:=hh.aC (i:=1) rfl;rw [hgm];rw [hgm] at hsg;refine aD rfl rfl ?_;refine bA hh (kH g.B k g.b (l.map eL) A24 c24 _ hsg f24 Xj) rfl ?_;intro w25 hh;refine eR ?_;exact zr
theorem ya (j:Nat):j % 2=0∧(-1:Dyadic)^j=1∨j % 2=1∧(-1:Dyadic)^j= -1:=by
 induction j with
 |zero=>exact .inl ⟨rfl,by grind⟩
 |succ n ih=>
  rcases ih with ⟨h,e⟩|⟨h,e⟩
  ·exact .inr ⟨Xj,by grind⟩
  ·exact .inl ⟨Xj,by grind⟩
theorem uk {ns:List Nat}{i d:Nat} (h:ns[i]?=some d):ns.reverse=(ns.drop (i+1)).reverse++d::(ns.take i).reverse:=by
 exact Uo
theorem vV (L:Option Addr) (n c d:Nat) (xs:List Dyadic) (k:Nat) (w:World) (hT:dN w) (hS:Sl w L n 3 (ay NR.cells (xs.map nR))) (hn:n=d+1) (hd:d≤127) (hx:∀x∈xs,Sz k x) (hk:k≤500000):
  Calls Tryz.prog 81 #[.slice L n c] w fun r w'=>∃A c',r=.returned (.slice A n c')∧Hp w [.row A n c' 40 3 (ay NR.cells ((kU d (eB d 1 (-1)) xs).map nR))] w':=by
 have hh:=Hp.start w;have hln:xs.length=n:=by have:=hS.bp NR.len Xk;simpa using this
 have ha:Sz 1 1:=Sz.one;obtain ⟨ad,rfl,hr⟩:=hS.at_ Xj;refine aj (N:=57) (l:=[.slice (some ad) n c]) Tryz.func81 rfl rfl (by simp) ?_;refine sr (aL (aa (sr (mL (aH ?_)))));refine ep (aI (aa (sr (mI ?_))));refine bk ?_;refine Jh ?_;intro b14 w14 hh;refine rZ ?_;rw [nu,hn,←uZ d 1 (-1) xs,←hn] at hh;refine aR [5,6,7,8,17,18,19,20,21,22,23,24,25,26,27,28,29,30,31,32,33,34,35,36,37,38,39,40,41,42,43,44,45,46,47,48,49,50,51,52,53,54,55] 17
  (fun v w'=>∃i:Nat,i≤n∧v=.int .i64 i∧Hp w [.row (some ⟨b14,0,none⟩) n n 40 3 (ay NR.cells ((iE d 1 (-1) xs i 0).map nR))] w')
  (fun v _=>n-(intOf v).toNat) ?_ ?_
 ·exact ⟨0,Xs _,rfl,hh⟩
 ·clear hh;rintro ρ' v w' ⟨i,hi,rfl,hh⟩;by_cases hlt:i<n
  ·obtain ⟨x,hxi⟩:=ak (l:=xs) (k:=i) Xj;have hxn:(xs.map nR)[i]?=some (nR x):=by rw [Xx,hxi];rfl
   have hat:jD xs i=x:=by unfold jD;rw [hxi];rfl
   have zx:=hx x (Xt hxi);have hch:=fun w1 hT1=>kY (d-i) w1 hT1 Xj;refine sr ?_;refine dR ?_;refine cx ?_;refine Ju ?_;refine bP hh ?_;intro b6 w6 hh;refine aI ?_;refine bR hh 0 [_,_,_] ?_;intro ws hh;replace hh:Hp _ (.blk _ _ [_,_,_] _::_) _:=hh;refine aa (sr (mI (mI ?_)));refine ep ?_;have e24:(n:Int)-1-(i:Int)=((d-i:Nat):Int):=Xj;rw [←e24] at hch;refine aF (hch _ (hT.hp hh)) ar.out rfl Xk ?_;rintro e_ w25 ⟨A25,c25,rfl,hown_,hb_⟩;refine ⟨_,rfl, ?_⟩;replace hh:=hh.aX (x:=.row _ _ _ _ _ _) hb_ hown_;refine aH (mI (aa (ao ?_)));replace hh:=hh.sub (Xq _ (Xq _ (Xq _ XU)));refine aR [7,8,27,28,29,30,31,32,33,34,35,36,37,38,39,40,41,42,43,44,45,46,47,48,49,50,51,52,53,54] 27
    (fun v w'=>∃j:Nat,j≤d-i+1∧v=.int .i64 j∧Hp w [.row A25 (d-i+1) c25 40 3 (ay NR.cells (la (d-i))),.blk b6 40 [.bool (nR x).neg,.string (nR x).bg,.int .i64 (nR x).e] (0,0),.row (some ⟨b14,0,none⟩) n n 40 3 (ay NR.cells ((iE d 1 (-1) xs i j).map nR))] w')
    (fun v _=>d-i+1-(intOf v).toNat) ?_ ?_
   ·exact ⟨0,Xs _,rfl,hh⟩
   ·clear hh;rintro ρ2 v w2 ⟨j,hj,rfl,hh⟩;by_cases hjn:j<d-i+1
    ·have hbn:(la (d-i))[j]?=some (nR (nD (bin (d-i) j))):=kV Xj;have zb:=rK (d-i) j Xj;obtain ⟨o,ho⟩:=ak (l:=iE d 1 (-1) xs i j) (k:=i+j) (by rw [kt];omega);have hon:((iE d 1 (-1) xs i j).map nR)[i+j]?=some (nR o):=by rw [Xx,ho];rfl
     have zo:=FD (j:=j) hx ha (show Sz 1 (-1:Dyadic) from Sz.one.neg) hd (show i≤d+1 by omega) o (Xt ho);have zy:=zx.mul zb;have hset:=BV (a:=1) (b:= -1) (xs:=xs) (show i+j≤d by omega) ho;have hval:jD xs i*eB d 1 (-1) i (i+j)=x*(nD (bin (d-i) j)*(-1:Dyadic)^j):=by
      unfold eB;rw [hat,Xp Xj,show i+j-i=j by omega,iw];generalize nD (bin (d-i) j)=u;generalize (-1:Dyadic)^j=e;grind
     rw [hval] at hset;have zu:Sz (130+1) (nD (bin (d-i) j)*(-1:Dyadic)^j):=by
      rcases ya j with e|e
      ·rw [e.2,aai];exact zb.mono Xj
      ·rw [e.2,show nD (bin (d-i) j)*(-1:Dyadic)= - nD (bin (d-i) j) by grind];exact zb.neg.mono Xj
     have zbo:(nR (nD (bin (d-i) j))).ok:=zb.ok Xj;have hng:=fun w1 hT1=>pg (nR (nD (bin (d-i) j))) w1 hT1 (by have:=zbo.1;omega) (by have:=zbo.2.1;omega) (by have:=zbo.2.2;omega);rw [bI] at hng;have hsg:=ya j;have hll:((iE d 1 (-1) xs i j).map nR).length=n:=by rw [XA,kt];omega
     generalize iE d 1 (-1) xs i j=S at*;obtain ⟨gw,rfl⟩:=hh.cn (i:=0) rfl Xj;refine sr ?_;refine dR ?_;refine sy ?_;refine QJ ?_
     rcases hsg with ⟨h2,he⟩|⟨h2,he⟩
     ·refine bP hh ?_;intro b8 w8 hh;refine aI ?_;refine bR hh 0 [_,_,_] ?_;intro ws hh;replace hh:Hp _ (.blk _ _ [_,_,_] _::_) _:=hh;refine aa (ah (sr (mI ?_)));refine uB rfl rfl Xk ?_;refine cR (aa (cF (aq (ai ?_))));rw [he,aai] at hset zu;generalize nD (bin (d-i) j)=u at*;exact QS
     ·refine bP hh ?_;intro b8 w8 hh;refine aI ?_;refine bR hh 0 [_,_,_] ?_;intro ws hh;replace hh:Hp _ (.blk _ _ [_,_,_] _::_) _:=hh;refine aa (ah (sr (mI ?_)));refine uB rfl rfl Xk ?_;refine cR (aa (cT (al ?_)));refine cg hh 0 [_,_,_] ?_;refine bA hh (hng _ (hT.hp hh)) rfl ?_;intro w36 hh;rw [he,show nD (bin (d-i) j)*(-1:Dyadic)= - nD (bin (d-i) j) by grind] at hset zu;refine bR hh 0 [_,_,_] ?_;intro ws hh;replace hh:Hp _ (.blk _ _ [_,_,_] _::_) _:=hh;refine aa ?_;generalize-nD (bin (d-i) j)=u at*;exact QS
    ·exact PY
  ·obtain rfl:i=n:=Xj;rw [show iE d 1 (-1) xs i 0=kU d (eB d 1 (-1)) xs by rw [hn,xW]] at hh;exact SH
variable {xs:List Dyadic}
theorem VT (z:Int) (h:z.natAbs<256):Sz 24 (z:Dyadic):=NZ (e:=0) h Xk Xk
def M5 (d:Nat) (xs:List Dyadic) (i:Nat):Dyadic:=jD xs (i+1)*(((i:Int)+1:Int):Dyadic)-jD xs i*(((d:Int)-(i:Int):Int):Dyadic)
def pM (d:Nat) (xs:List Dyadic):List Dyadic:=(List.range d).map (M5 d xs)
theorem Bd (d:Nat) (xs:List Dyadic):(pM d xs).length=d:=by simp [pM]
theorem Pk {d i:Nat} (h:i<d):(pM d xs)[i]?=some (M5 d xs i):=by
 unfold pM;rw [Xx,Yh h]
 rfl
theorem Ar (L:Option Addr) (n c d:Nat) (xs:List Dyadic) (k:Nat) (w:World) (hT:dN w) (hS:Sl w L n 3 (ay NR.cells (xs.map nR))) (hn:n=d+1) (hd:d≤127) (hx:∀x∈xs,Sz k x) (hk:k≤500000):
  Calls Tryz.prog 74 #[.slice L n c] w fun r w'=>∃A c',r=.returned (.slice A d c')∧Hp w [.row A d c' 40 3 (ay NR.cells ((pM d xs).map nR))] w':=by
 have hh:=Hp.start w;have hln:xs.length=n:=by have:=hS.bp NR.len Xk;simpa using this
 obtain ⟨ad,rfl,hr⟩:=hS.at_ Xj;have hsl:=Bd d xs;refine aj (N:=41) (l:=[.slice (some ad) n c]) Tryz.func74 rfl rfl (by simp) ?_;refine sr (aL (aa (sr (mL (aH ?_)))));refine ep (aI (aa (sr (aL (aa (ah (sr (mI (mI (aa (ao ?_)))))))))));replace hh:=hh.cU 40 3;refine bK [4,5,6,11,12,13,14,15,16,17,18,19,20,21,22,23,24,25,26,27,28,29,30,31,32,33,34,35,36,37,38,39] 4 11
  (fun a v w'=>∃(i:Nat) (A:Option Addr) (ac:Nat),i≤d∧v=.int .i64 i∧a=.slice A i ac∧Hp w [.row A i ac 40 3 (ay NR.cells (((pM d xs).take i).map nR))] w')
  (fun _ v _=>d-(intOf v).toNat) ?_ ?_
 ·exact ⟨0,none,0,Xs _,rfl,rfl,hh⟩
 ·clear hh;rintro ρ' a_ v w' ⟨i,A,ac,hi,rfl,rfl,hh⟩;by_cases hlt:i<d
  ·obtain ⟨x,hxi⟩:=ak (l:=xs) (k:=i) Xj;obtain ⟨y,hyi⟩:=ak (l:=xs) (k:=i+1) Xj;have hxn:(xs.map nR)[i]?=some (nR x):=by rw [Xx,hxi];rfl
   have hyn:(xs.map nR)[i+1]?=some (nR y):=by rw [Xx,hyi];rfl
   have zx:=hx x (Xt hxi);have zy:=hx y (Xt hyi);have z1:=VT ((i:Int)+1) Xj;have z2:=VT ((d:Int)-(i:Int)) Xj;have hv:M5 d xs i=y*(((i:Int)+1:Int):Dyadic)-x*(((d:Int)-(i:Int):Int):Dyadic):=by
    unfold M5 jD;rw [hxi,hyi]
    rfl
   have hat:=Pk (xs:=xs) hlt;rw [hv] at hat;have hof1:=fun w1 hT1=>ja ((i:Int)+1) w1 hT1 Xj Xj;have hof2:=fun w1 hT1=>ja ((d:Int)-(i:Int)) w1 hT1 Xj Xj;generalize (((i:Int)+1:Int):Dyadic)=e1 at*;generalize (((d:Int)-(i:Int):Int):Dyadic)=e2 at*;rw [show (d:Int)-(i:Int)=(n:Int)-1-(i:Int) by omega] at hof2;have zp:=zy.mul z1;have zq:=zx.mul z2;have hm1:=fun A cc w1 hT1 hS1=>dW A 2 cc [nR y,nR e1] w1 hT1 hS1 (by simpa using ⟨zy.ok Xj,z1.ok Xj⟩) 600000 (by simpa [bI] using ⟨zy.mono Xj,z1.mono Xj⟩) Xj Xj;rw [show fU ([nR y,nR e1].map NR.d)=y*e1 by simp only [XQ,Ye,bI];show 1*y*_=_;rw [Zi]] at hm1;have hm2:=fun A cc w1 hT1 hS1=>dW A 2 cc [nR x,nR e2] w1 hT1 hS1 (by simpa using ⟨zx.ok Xj,z2.ok Xj⟩) 600000 (by simpa [bI] using ⟨zx.mono Xj,z2.mono Xj⟩) Xj Xj;rw [show fU ([nR x,nR e2].map NR.d)=x*e2 by simp only [XQ,Ye,bI];show 1*x*_=_;rw [Zi]] at hm2;generalize y*e1=p at*;generalize x*e2=q at*
   have hsb:=fun w1 hT1=>kx (nR p) (nR q) w1 hT1 (zp.ok Xj) (zq.ok Xj) (k+24) (by rw [bI];exact zp) (by rw [bI];exact zq) Xj;rw [bI,bI] at hsb;refine sr ?_;refine bf (aa (ah (cT (aq (ai (ah (ao (sr (mI (aI (aa (ah ?_))))))))))));refine a0 11 [[(0,none)],[(5,none)],[(15,some 1)],[(14,some 0),(16,some 2)],[(17,some 3)],[(5,none)],[(19,some 5)],[(20,some 6)],[(18,some 4),(21,some 7)],[(22,some 8)],[]] [(10,6),(9,23),(8,22),(7,21),(6,20),(5,19),(4,18),(3,17),(2,16),(1,15),(0,14)] hh mixed Xl ?_;refine fS ?_;refine dJ ?_;refine rL ?_;refine bj (i:=3) (fun ρ1 w1 hj hR=>dA bh.out aM.size (show ρ1 14=Value.slice _ _ _ from hR.1) (show ρ1 16=Value.int _ _ from hR.2.1) Xj Xj) ?_;refine so [_,_,_] (fun _ hj=>(hr.ext hj.hp.below).recAt NR.len hyn) ?_;refine dJ ?_;refine rL ?_;refine dC (fun _ hj=>hof1 _ (hT.hp hj.hp)) ?_;refine rD [_,_,_,_,_,_] ?_;refine aQ (i:=9) (Is (.agg #[.bool (nR p).neg,.string (nR p).bg,.int .i64 (nR p).e])) Is.ext ?_ ?_
   ·intro ρ1 w1 hj hR;obtain ⟨A22,c22,h22,s22⟩:=hR.1;exact aY rfl (aJ ar.out (av h22 aU)) (hm1 A22 c22 _ (hT.hp hj.hp) s22) (fun _ _ hq=>⟨_,hq.1,hq.2,rfl⟩)
   refine aQ (i:=10) (dm _ 40 _) dm.ext (fun ρ1 w1 hj hR=>jz aM.out hj.bl (fun v w2 h hb=>⟨hb,h⟩)) ?_;refine aO ?_;intro f W hJ hV;have hb_6:=hJ.bl;obtain ⟨v6,v23,v22,v21,v20,v19,v18,v17,v16,v15,v14,_⟩:=hV;obtain ⟨A22,c22,e22,f22⟩:Rows _ _ _ (f 8) W:=v22;obtain ⟨b6,e6,hl6,hc6⟩:dm _ _ _ (f 10) W:=v6;replace hh:=hJ.newVar hh hl6 hc6;refine aW (bm (ae e6 (ae v23 (ae e22 (ae v21 (ae v20 (ae v19 (ae v18 (ae v17 (ae v16 (ae v15 (ae v14 aV)))))))))))) ?_;dsimp only [cd];clear e22 e6 hJ;refine bR hh 0 [_,_,_] ?_;intro ws hh;replace hh:Hp _ (.blk _ _ [_,_,_] _::_) _:=hh;refine aa ?_;refine a0 14 [[(4,none)],[(6,none)],[(0,none)],[(5,none)],[(26,some 2),(27,some 3)],[(28,some 4)],[(3,none)],[(5,none)],[(30,some 6),(31,some 7)],[(32,some 8)],[(29,some 5),(33,some 9)],[(34,some 10)],[(25,some 1),(35,some 11)],[(36,some 12)]] [(13,37),(12,36),(11,35),(10,34),(9,33),(8,32),(7,31),(6,30),(5,29),(4,28),(3,27),(2,26),(1,25),(0,24)] hh mixed Xl ?_;refine fS ?_;refine fG 0 [_,_,_] ?_;refine fS ?_;refine dJ ?_
   refine bj (i:=4) (fun ρ1 w1 hj hR=>dA bh.out aM.size (show ρ1 26=Value.slice _ _ _ from hR.1) (show ρ1 27=Value.int _ _ from hR.2.1) Xj Xj) ?_;refine so [_,_,_] (fun _ hj=>(hr.ext hj.hp.below).recAt NR.len hxn) ?_;refine dJ ?_;refine dJ ?_;refine vx ?_;refine dC (fun _ hj=>hof2 _ (hT.hp hj.hp)) ?_;refine rD [_,_,_,_,_,_] ?_;refine aQ (i:=11) (Is (.agg #[.bool (nR q).neg,.string (nR q).bg,.int .i64 (nR q).e])) Is.ext ?_ ?_
   ·intro ρ1 w1 hj hR;obtain ⟨A34,c34,h34,s34⟩:=hR.1;exact aY rfl (aJ ar.out (av h34 aU)) (hm2 A34 c34 _ (hT.hp hj.hp) s34) (fun _ _ hq=>⟨_,hq.1,hq.2,rfl⟩)
   refine dC (fun _ hj=>hsb _ (hT.hp hj.hp)) ?_;refine rD [_,_,_] ?_;refine aO ?_;intro f W hJ hV;have hb_7:=hJ.bl;obtain ⟨v37,v36,v35,v34,v33,v32,v31,v30,v29,v28,v27,v26,v25,v24,_⟩:=hV;obtain ⟨A34,c34,e34,f34⟩:Rows _ _ _ (f 10) W:=v34;obtain ⟨A37,c37,e37,f37⟩:Rows _ _ _ (f 13) W:=v37;replace hh:=hJ.hp;refine aW (bm (ae e37 (ae v36 (ae v35 (ae e34 (ae v33 (ae v32 (ae v31 (ae v30 (ae v29 (ae v28 (ae v27 (ae v26 (ae v25 (ae v24 aV))))))))))))))) ?_;dsimp only [cd];clear e34 e37 hJ;refine cw hh (i:=1) rfl rfl rfl (f37) bh.out aM.out rfl Xk (by first|rfl|exact dv _|exact cY _|exact bF _|exact bT NR.one _) Xj Xj Xk ?_;intro A38 c38 w38 hh;simp only [XC,X6] at hh;refine kM ?_;refine bk (mI (aA (ai ?_)));have e1:ay NR.cells (((pM d xs).take i).map nR)++[.bool (nR (p-q)).neg,.string (nR (p-q)).bg,.int .i64 (nR (p-q)).e]=ay NR.cells (((pM d xs).take (i+1)).map nR):=by rw [az hat,Yc,bD,XQ,Ye,iC];rfl
   rw [e1] at hh;replace hh:=hh.sub (Xv _ (Yo _));refine ⟨⟨i+1,A38,c38,Xj,rfl,rfl,hh⟩,by show d-(i+1)<d-i;omega, ?_⟩;exact dV
  ·obtain rfl:i=d:=Xj;rw [Xz Xj] at hh;exact SH
variable {cp:Operand}{kc kl:IntKind}
abbrev Er:=Ic
theorem Er.ext {t:TypeId}{sz:Nat} (v:Value) (w w':World) (h:Er base t n sz cs v w) (hb:Below w.heap.size w w'):Er base t n sz cs v w':=Ic.ext v w w' h hb
section
variable {P:Program}{ρ:Rf}{w:World}
theorem JL {d:Option Nat}{ty:TypeId}{af:Array Edge}{t e:TypeId}{l:Operand}{L C:Int}{sz:Nat} (hl:ev ρ l=.int kl L) (hc:ev ρ cp=.int kc C) (hL:L=(n:Int)) (hC:C=(n:Int))
  (ht:P.underlying t=some (.slice e)) (hte:cQ P e=some (sz,ag,by',zc)) (hzl:zc.length=sz) (hb:by'*n≤281474976710656) (h63:n≤9223372036854775807) (hbs:base≤w.heap.size)
  (hk:∀v w2,Ic base e n sz (eZ n zc) v w2→Below w.heap.size w w2→K v w2):OG P ops ⟨d,.makeSlice t l cp,ty,pos,af,none⟩ ρ w K:=by
 obtain ⟨i,z,dd,hi,hd,hz,hs,hby,hzc,_⟩:=dI hte;subst hL;subst hC;obtain ⟨w',hr,hown,hg⟩:=run_make_full (P:=P) w base t e i z sz ht hi hz hs kl kc n (by rw [hby];exact hb) (by unfold maxLen;omega) hbs;have hzz:(madeCells z.cells (n*sz)).toList=eZ n zc:=by
  exact Tb
 rw [hzz] at hown;exact db rfl (w':=w') (v:=.slice (some ⟨w.heap.size,0,none⟩) n n) (by simp [execOp,hl,hc,hr]) (hk _ _ ⟨_,_,rfl,hown⟩ ⟨hg.os,hg.tape,hg.output,hg.size,fun j hj=>hg.block j hj (by simp)⟩)
end
def o9 (q:Nat→Bool) (xs:List Dyadic) (i:Nat):List Dyadic:=((List.range i).filter q).map fun p=>(xs[p]?).getD 0
theorem Ib (q:Nat→Bool) (xs:List Dyadic) (i:Nat):o9 q xs (i+1)=o9 q xs i++if q i=true then [(xs[i]?).getD 0] else []:=by
 unfold o9;rw [YQ,ZQ,Yc];congr 1;by_cases h:q i=true
 ·rw [Xo h,aa1 h];rfl
 ·rw [Xp h,aaD h];rfl
theorem AJ (q:Nat→Bool) (xs:List Dyadic) (i:Nat):(o9 q xs i).length≤i:=by
 unfold o9;exact QU
def p7 (ap d:Nat) (p:Nat):Bool:=decide (p/ap % (d+1)<d)
def yZ (ns:List Nat) (a:Nat):List Nat:=ns.set a (ns.getD a 0-1)
def AK (ns:List Nat) (a:Nat) (xs:List Dyadic):List Dyadic:=if ns.getD a 0=0 then List.replicate xs.length 0 else o9 (p7 (au (ns.drop (a+1))) (ns.getD a 0)) (jb (ns.drop (a+1)).reverse (ns.getD a 0) (ns.getD a 0) (pM (ns.getD a 0)) xs xs.length 0) xs.length
set_option maxRecDepth 10000 in
theorem zQ (fx:FX) (ax:Int) (k:Nat) (w:World) (hT:dN w) (hf:fx.at_ w) (hl:fx.k8 k) (hcap:fx.n≤fx.a) (hk:k≤500000):
  Calls Tryz.prog 22 #[.agg #[.slice fx.A fx.n fx.a,.slice fx.B fx.m fx.b],.int .i64 ax] w fun r w'=>∃g:FX,Out (jC fx ax) (yZ fx.ns ax.toNat) (AK fx.ns ax.toNat (fx.cs.map NR.d)) g∧r=.returned (.tuple #[.agg #[.slice g.A g.n g.a,.slice g.B g.m g.b],.int .i64 (jC fx ax)])∧Hp w [g.qz,g.oV] w':=by
 have hh:=Hp.start w;have hhas:=fun w1 hT1 hb=>pB fx ax k w1 hT1 (hf.ext hb) hl;by_cases hE:jC fx ax≠0
 ·refine aj (N:=78) (l:=[.agg #[.slice fx.A fx.n fx.a,.slice fx.B fx.m fx.b],.int .i64 ax]) Tryz.func22 rfl rfl (by simp) ?_;refine sr ?_;refine cv hh [_,_] ?_;intro b2 w2 hh;refine bP hh ?_;intro b4 w4 hh;refine aI (aa (ah (sr ?_)));refine cg hh 1 [_,_] (mI ?_);refine Cs ?_;intro w13 hh;exact Tz
 ·have hE:jC fx ax=0:=Xj;obtain ⟨h0,hx0,hx1⟩:=Ik hE;obtain ⟨a,rfl⟩:∃a:Nat,ax=a:=⟨ax.toNat,Xj⟩;rw [hE] at hhas ⊢;rw [YN];obtain ⟨hdeg,hnum,h12,hlow,hcnt,hmax⟩:=FX.fv h0;have hln:=hf.ln.1;have hlm:=hf.ln.2;have hnl:fx.ns.length=fx.n:=by unfold FX.ns;rw [XA];exact hln
  obtain ⟨d,hd⟩:=ak (l:=fx.ns) (k:=a) Xj;have hd127:=hlow d (Xt hd);have hgd0:fx.ns.getD a 0=d:=by rw [YM,hd];rfl
  have hgd:(bu fx.ds)[a]?=some (.int .i64 (d:Int)):=by rw [hdeg];exact ck (gN hd)
  obtain ⟨ad0,hAD,sD⟩:=hf.dg.at_ Xj;have si:Value.slice fx.A fx.n fx.a=.slice (some ad0) fx.n fx.a:=by rw [hAD]
  by_cases Ab:d=0
  ·subst Ab;have hcl:=fun w1 hb=>jI fx.A fx.n fx.a fx.ds w1 (hf.dg.ext hb) Xj;have hDN:bM (yZ fx.ns a)=fx.ds:=by
    unfold yZ;rw [hgd0,uO hd,hdeg]
   have hDX:AK fx.ns a (fx.cs.map NR.d)=List.replicate fx.m 0:=by
    unfold AK;rw [Xo hgd0,XA,hlm]
   refine aj (N:=78) (l:=[.agg #[.slice fx.A fx.n fx.a,.slice fx.B fx.m fx.b],.int .i64 a]) Tryz.func22 rfl rfl (by simp) ?_;refine sr ?_;refine cv hh [_,_] ?_;intro b2 w2 hh;refine bP hh ?_;intro b4 w4 hh;refine aI (aa (ah (sr ?_)));refine cg hh 1 [_,_] (mI ?_);refine Cs ?_;intro w13 hh;refine aI (aa (sr (mI ?_)));refine cJ (aa (cF (aq (ai (ah (sr (bH ?_)))))));refine bE hh 1 ?_;refine mI ?_;refine cE (k:=a) bh.out aM.size si rfl Xj Xj Xk ?_;refine bU aM.out rfl ((sD.ext hh.below).wj hgd) Xk ?_;refine cR (aa (cT (ah ?_)));refine a0 7 [[(2,none)],[(24,some 0)],[(25,some 1)],[(2,none)],[(27,some 3)],[(28,some 4)],[(29,some 5)]] [(6,30),(5,29),(4,28),(3,27),(2,26),(1,25),(0,24)] hh mixed Xl ?_;refine ej ?_;refine fN 1 ?_;refine aQ (i:=2) (Er hh.sz 3 fx.n 1 (bu fx.ds)) (Er.ext) ?_ ?_
   ·intro ρ1 w1 hj hR;exact aY rfl (aJ ar.out (av (show ρ1 25=Value.slice _ _ _ from hR.1) aU)) (hcl w1 hj.hp.below) (fun _ _ ⟨A,c,hq,ho,hb⟩=>⟨_,hq,hb,A,c,rfl,oZ ho hj.bl.size⟩)
   refine ej ?_;refine fN 1 ?_;refine AU ?_;refine aQ (i:=6) (Er hh.sz 40 fx.m 3 (ay NR.cells ((List.replicate fx.m (0:Dyadic)).map nR))) (Er.ext) ?_ ?_
   ·intro ρ1 w1 hj hR;exact nu fx.m ▸ JL (n:=fx.m) (show ρ1 29=Value.int _ _ from hR.1) (show ρ1 29=Value.int _ _ from hR.1) rfl rfl bh.out aM.out rfl Xj Xj hj.bl.size (fun _ _ h1 h2=>⟨h2,h1⟩)
   refine aO ?_;intro f W hJ hV;have hb_5:=hJ.bl;obtain ⟨v30,v29,v28,v27,v26,v25,v24,_⟩:=hV;obtain ⟨A26,c26,e26,o26⟩:=v26;obtain ⟨A30,c30,e30,o30⟩:=v30;replace hh:=JJ.OS hJ hh o26 o30 Xk;clear o26 o30;refine aW (bm (ae e30 (ae v29 (ae v28 (ae v27 (ae e26 (ae v25 (ae v24 aV)))))))) ?_;dsimp only [cd];clear e26 e30 hJ;refine fP [_,_] ?_;refine bR hh 2 [_,_] ?_;intro ws hh;replace hh:Hp _ (_::_::.blk _ _ [_,_] _::_) _:=hh;refine aI (aa (aw (aK ?_)));replace hh:=hh.sub (Xq _ (Xq _ (Xq _ (Xv _ XU))));replace hh:=hh.perm (XX (l₁:=[_]));simp only [Xw,Xu] at hh;refine qH ?_;exact ⟨⟨A26,fx.n,c26,A30,fx.m,c30,fx.ds,(List.replicate fx.m (0:Dyadic)).map nR⟩,⟨hDN.symm,by rw [hDX];rfl,by show fx.n≤100000;omega,by show fx.m≤1000000;omega⟩,rfl,hh.sub (Xq _ (Xq _ (YE _)))⟩
  ·have hdg:Sl w fx.A fx.n 1 (bu (bM fx.ns)):=by rw [←hdeg];exact hf.dg
   have hof:=fun w1 hb=>jR fx.A fx.n fx.a a d fx.ns w1 (hdg.ext hb) hcap Xj hd hlow hmax;have hcl:=fun w1 hb=>jI fx.A fx.n fx.a fx.ds w1 (hf.dg.ext hb) Xj;have hDN:bM (yZ fx.ns a)=fx.ds.set a ((d:Int)-1):=by
    unfold yZ;rw [hgd0]
    conv=>rhs;rw [hdeg]
    unfold bM;rw [Zv,show ((d-1:Nat):Int)=(d:Int)-1 by omega]
   obtain ⟨X,hX⟩:∃X,X=fx.cs.map NR.d:=⟨_,rfl⟩;rw [←hX] at hnum ⊢;have hXl:X.length=fx.m:=by rw [hX,XA];exact hlm
   have hXz:∀x∈X,Sz k x:=fun x h=>by
    rw [hX] at h;obtain ⟨z,hz,rfl⟩:=XG.1 h;exact (hl.num z hz).2
   have hDX:AK fx.ns a X=o9 (p7 (au (fx.ns.drop (a+1))) d) (jb (fx.ns.drop (a+1)).reverse d d (pM d) X fx.m 0) fx.m:=by
    unfold AK;rw [hgd0,Xp Ab,hXl]
   have hsp:fx.m=au ((fx.ns.drop (a+1)).reverse++d::(fx.ns.take a).reverse):=by
    rw [←uk hd,cD];exact hlm.symm.trans hcnt
   have hSX:Sl w fx.B fx.m 3 (ay NR.cells (X.map nR)):=by rw [←hnum];exact hf.nm
   have hli:=fun w1 hT1 hb=>mC 74 (fx.ns.drop (a+1)).reverse (fx.ns.take a).reverse d d (pM d) fx.B fx.m fx.b k X w1 hT1 (hSX.ext hb) hsp Xj Xj hd127 hXz (fun Y E ec w2 hT2 hy hs=>Ar E (d+1) ec d Y k w2 hT2 hs rfl hd127 hy hk) (fun Y _=>Bd d Y);rw [cD] at hli;have hap:=cC (fx.ns.drop (a+1));have hap2:au (fx.ns.drop (a+1))≤4096:=by
    exact Tr
   rw [hDX];have hYl:(jb (fx.ns.drop (a+1)).reverse d d (pM d) X fx.m 0).length=fx.m:=by rw [gE,hXl]
   generalize jb (fx.ns.drop (a+1)).reverse d d (pM d) X fx.m 0=Y at*;generalize au (fx.ns.drop (a+1))=ap at*;refine aj (N:=78) (l:=[.agg #[.slice fx.A fx.n fx.a,.slice fx.B fx.m fx.b],.int .i64 a]) Tryz.func22 rfl rfl (by simp) ?_;refine sr ?_;refine cv hh [_,_] ?_;intro b2 w2 hh;refine bP hh ?_;intro b4 w4 hh;refine aI (aa (ah (sr ?_)));refine cg hh 1 [_,_] (mI ?_);refine Cs ?_;intro w13 hh;refine aI (aa (sr (mI ?_)));refine cJ (aa (cF (aq (ai (ah (sr (bH ?_)))))));refine bE hh 1 ?_;refine mI ?_;refine cE (k:=a) bh.out aM.size si rfl Xj Xj Xk ?_;refine bU aM.out rfl ((sD.ext hh.below).wj hgd) Xk ?_;refine cR (aa (cF (aq (ai (sr (bH ?_))))));refine bE hh 1 ?_;refine mI ?_;refine bA hh (hof _ hh.below) rfl ?_;intro w35 hh;refine bP hh ?_;intro b7 w7 hh;refine bR hh 0 [_,_] ?_;intro ws hh;replace hh:Hp _ (.blk _ _ [_,_] _::_) _:=hh;refine aa (sr (bH ?_));refine bE hh 2 ?_;refine aF (hcl _ hh.below) ar.out rfl Xk ?_;rintro e_ w38 ⟨A38,c38,rfl,hown_,hb_⟩;refine ⟨_,rfl, ?_⟩;replace hh:=hh.aX (x:=.row _ _ _ _ _ _) hb_ hown_;obtain ⟨gd,rfl⟩:=hh.cn (i:=0) rfl Xj;have hil:=bX fx.ds;have hm0:0<fx.m:=by have:=cC fx.ns;omega
   refine fP [_,_] ?_;refine bP hh ?_;intro b8 w8 hh;refine bR hh 0 [_,_] ?_;intro ws hh;replace hh:Hp _ (.blk _ _ [_,_] _::_) _:=hh;refine aa (sr (bH ?_));refine bE hh 0 ?_;refine mI ?_;refine Js ?_;refine JF ?_;refine ep ?_;refine Js ?_;refine bW hh (i:=1) (vs:=[_]) rfl rfl (cO rfl) rfl aM.out rfl Xj rfl ?_;intro ws hh;simp only [XC,X6] at hh;rw [se _ Xj] at hh;refine aa (ah (sr ?_));refine cg hh 2 [_,_] (bH ?_);refine bE hh 4 ?_;refine aF (hli _ (hT.hp hh) hh.below) ar.out rfl Xk ?_;rintro e_ w50 ⟨E,ec,rfl,h4⟩;refine ⟨_,rfl, ?_⟩;replace hh:=hh.join h4;clear h4;simp only [Xw,Xu] at hh;obtain ⟨gn,rfl⟩:=hh.cn (i:=0) rfl Xj;refine aH (mI (aa (ao ?_)));replace hh:=hh.cU 40 3;refine aR [9,10,52,53,54,55,56,57,58,59,60,61,62,63,64,65,66,67,68,69,70,71,72,73,74,75,76] 52
    (fun v w'=>∃(i c1:Nat) (B:Option Addr),i≤fx.m∧v=.int .i64 i∧Hp w [.row B (o9 (p7 ap d) Y i).length c1 40 3 (ay NR.cells ((o9 (p7 ap d) Y i).map nR)),.row (some ⟨gn,0,none⟩) fx.m ec 40 3 (ay NR.cells (Y.map nR)),.blk b8 33 [.slice (some ⟨gd,0,none⟩) fx.n c38,.slice B (o9 (p7 ap d) Y i).length c1] (0,0),.row (some ⟨gd,0,none⟩) fx.n c38 3 1 (bu (fx.ds.set a ((d:Int)-1))),.blk b7 83 [.int .i64 ((d:Int)+1),.int .i64 (ap:Int)] (0,0),.blk b4 33 [.slice none 0 0,.slice none 0 0] (0,0),.blk b2 33 [.slice fx.A fx.n fx.a,.slice fx.B fx.m fx.b] (0,0)] w')
    (fun v _=>fx.m-(intOf v).toNat) ?_ ?_
   ·exact ⟨0,0,none,Xs _,rfl,hh⟩
   ·clear hh;rintro ρ' v w' ⟨i,c1,B,hi,rfl,hh⟩;by_cases hlt:i<fx.m
    ·obtain ⟨x,hx⟩:=ak (l:=Y) (k:=i) Xj;have hxn:(Y.map nR)[i]?=some (nR x):=by rw [Xx,hx];rfl
     have hxd:(Y[i]?).getD 0=x:=by rw [hx];rfl
     have hcast:((i:Int)/(ap:Int)) % ((d:Int)+1)=((i/ap % (d+1):Nat):Int):=by norm_cast
     have hq0:(0:Int)≤(i:Int)/(ap:Int):=Int.ediv_nonneg Xj Xj;have hst:=Ib (p7 ap d) Y i;rw [hxd] at hst;have hfl:=AJ (p7 ap d) Y i;have hrl:=dY NR.len (Y.map nR);have hYl2:(Y.map nR).length=fx.m:=by rw [XA];exact hYl
     have hQ:p7 ap d i=decide (i/ap % (d+1)<d):=rfl;generalize hF:o9 (p7 ap d) Y i=F at*;by_cases hdg2:i/ap % (d+1)<d
     ·rw [hQ,XH hdg2,Xo rfl] at hst;refine sr ?_;refine dR ?_;refine fT ?_;refine QE ?_;refine bP hh ?_;intro b10 w10 hh;refine aI ?_;refine bR hh 0 [_,_,_] ?_;intro ws hh;replace hh:Hp _ (.blk _ _ [_,_,_] _::_) _:=hh;refine aa (ah ?_);refine P6 ?_;refine dJ ?_;refine ej ?_;refine fN 5 ?_;refine QP ?_;refine ej ?_;refine fN 5 ?_;refine P0 ?_;refine ej ?_;refine fN 7 ?_;refine dJ ?_;refine EU ?_ ?_
      ·exact Ug
      refine qS (fun _ hj=>(sD.ext hj.hp.below).wj hgd) ?_;refine aO ?_;intro f W hJ hV;have hb_12:=hJ.bl;obtain ⟨v68,v67,v66,v65,v64,v63,v62,v61,v60,v59,v58,v57,_⟩:=hV;replace hh:=hJ.hp;refine Q9 ?_;dsimp only [cd];clear hJ;refine bf (aa (cT (al (bH ?_))));refine bE hh 3 ?_;refine cg hh 0 [_,_,_] ?_;refine oF ?_;intro b73 w73 hh;refine Fq ?_;intro A74 c74 w74 hh;simp only [XC,X6] at hh;replace hh:=hh.sub (X9 _ _);refine bH ?_;refine bR hh 3 [_] ?_;intro ws hh;replace hh:Hp _ (_::_::_::.blk _ _ [_,_] _::_) _:=hh;refine fp ?_;refine bk (mI (aA (ai ?_)));replace hh:=hh.sub (Xv _ (Xq _ (Xq _ (Xq _ (Xq _ (Xq _ (Xq _ (Xq _ XU))))))));refine ⟨⟨i+1,c74,A74,Xj,rfl, ?_⟩,by show fx.m-(i+1)<fx.m-i;omega, ?_⟩
      ·rw [hst,Xy,Yc,bD];exact hh
      ·exact dV
     ·rw [hQ,XM hdg2,Xp Xk,XZ] at hst;refine sr ?_;refine dR ?_;refine fT ?_;refine QE ?_;refine bP hh ?_;intro b10 w10 hh;refine aI ?_;refine bR hh 0 [_,_,_] ?_;intro ws hh;replace hh:Hp _ (.blk _ _ [_,_,_] _::_) _:=hh;refine aa (ah ?_);refine P6 ?_;refine dJ ?_;refine ej ?_;refine fN 5 ?_;refine QP ?_;refine ej ?_;refine fN 5 ?_;refine P0 ?_;refine ej ?_;refine fN 7 ?_;refine dJ ?_;refine EU ?_ ?_
      ·exact Ug
      refine qS (fun _ hj=>(sD.ext hj.hp.below).wj hgd) ?_;refine aO ?_;intro f W hJ hV;have hb_12:=hJ.bl;obtain ⟨v68,v67,v66,v65,v64,v63,v62,v61,v60,v59,v58,v57,_⟩:=hV;replace hh:=hJ.hp;refine Q9 ?_;dsimp only [cd];clear hJ;refine bf (aa (cF (aq (bz (ai (al ?_))))));refine bk (mI (aA (ai ?_)));replace hh:=hh.sub (Xv _ (Xq _ (Xq _ (Xq _ (Xq _ (Xq _ (Xq _ (Xq _ XU))))))));refine ⟨⟨i+1,c1,B,Xj,rfl,by rw [hst];exact hh⟩,by show fx.m-(i+1)<fx.m-i;omega, ?_⟩;exact dV
    ·obtain rfl:i=fx.m:=Xj;refine sr ?_;refine ll ?_;refine cg hh 2 [_,_] ?_;refine bR hh 5 [_,_] ?_;intro ws hh;replace hh:Hp _ (_::_::_::_::_::.blk _ _ [_,_] _::_) _:=hh;refine aI (aa (aw ?_));replace hh:=hh.sub (Xq _ (Xv _ (Xv _ (Xq _ (Xv _ (Xq _ (Xv _ XU)))))));refine qH ?_;refine ⟨⟨some ⟨gd,0,none⟩,fx.n,c38,B,(o9 (p7 ap d) Y fx.m).length,c1,fx.ds.set a ((d:Int)-1),(o9 (p7 ap d) Y fx.m).map nR⟩,⟨hDN.symm,rfl,by show fx.n≤100000;omega, ?_⟩,rfl,hh.sub (ZJ [_,_] _)⟩;have:=AJ (p7 ap d) Y fx.m;show (o9 (p7 ap d) Y fx.m).length≤1000000;omega
variable {X:List Dyadic}
def HS (ds:List Nat) (X:List Dyadic):Nat→List Dyadic
 |0=>X
 |k+1=>gY ds (ds.length-1-k) (eB (ds.getD (ds.length-1-k) 0) 1 (-1)) (HS ds X k)
theorem Ci (ds:List Nat) (X:List Dyadic) (k:Nat):HS ds X (k+1)=gY ds (ds.length-1-k) (eB (ds.getD (ds.length-1-k) 0) 1 (-1)) (HS ds X k):=rfl
theorem NN (h:X.length=au ds) (k:Nat):(HS ds X k).length=au ds:=by
 cases k with
 |zero=>exact h
 |succ k=>rw [Ci,oP]
theorem Io {a d:Nat} (hx:∀x∈X,Sz k x) (hd:ds.getD a 0=d) (hd7:d≤127):∀x∈gY ds a (eB d 1 (-1)) X,Sz (k+520) x:=fun x h=>by
 obtain ⟨p,_,rfl⟩:=XG.1 h;have hr:(cZ ds p).getD a 0≤d:=by rw [←hd];exact vB a (mh ds p)
 have h2:=B6 (l:=List.range (ds.getD a 0+1)) (f:=fun i=>co ds X ((cZ ds p).set a i)*eB d 1 (-1) i ((cZ ds p).getD a 0)) (k:=k+(130+2*(1*d))) fun i _=>by
  refine Sz.mul ?_ (y8 Sz.one (show Sz 1 (-1:Dyadic) from Sz.one.neg) hd7 hr);exact TC
 rw [YO,hd] at h2;rw [hd];exact h2.mono Xj
theorem L8 {ds:List Nat}{X:List Dyadic}{k:Nat} (h:∀x∈X,Sz k x) (hd:∀d∈ds,d≤127):∀i,∀x∈HS ds X i,Sz (k+520*i) x
 |0=>h
 |i+1=>fun x hx=>(Io (L8 h hd i) rfl (Bh hd _) x hx).mono Xj
def D0 (b:List SR) (i:Nat):Dyadic:=match b[i]? with|some s=>s.H-s.L|none=>0
def wP (b:List SR) (ns es:List Nat):Nat→Dyadic
 |0=>1
 |i+1=>wP b ns es i*D0 b i^(ns.getD i 0-es.getD i 0)
def jJ (ns:List Nat) (p:Nat):List Nat:=(cZ ns.reverse p).reverse
def SO (b:List SR) (ns:List Nat) (C:List Dyadic) (p:Nat):TR:=⟨fX (bM (jJ ns p)),nR (jD C p*wP b ns (jJ ns p) b.length)⟩
def mq (b:List SR) (ns:List Nat) (C:List Dyadic):List TR:=(List.range (au ns)).map (SO b ns C)
def vz (v i:Nat) (s:SR):List TR:=aG (ng v i++lC v (-s.L))
def mn (b:List SR):List PX:=b.mapIdx fun i s=>⟨b.length,none,0,0,vz b.length i s⟩
theorem uS {b:List SR}{i:Nat}{s:SR} (h:b[i]?=some s):(mn b)[i]?=some ⟨b.length,none,0,0,vz b.length i s⟩:=by
 unfold mn;rw [ZE,h]
 rfl
theorem Ht (b:List SR):(mn b).length=b.length:=by unfold mn;rw [aau]
theorem AX {v i:Nat}{s:SR} (h:v≤12) (hs:s.fin k) (hk:k≤100000):jl (v:Int) (k+10) (vz v i s)∧(vz v i s).length≤2:=by
 have h1:=tK (i:=i) h;have h2:=tO h (SR.GR hs).neg Xj;have hl:(ng v i++lC v (-s.L)).length≤2:=by
  rw [Xy];have a1:(ng v i).length≤1:=cz _;have a2:(lC v (-s.L)).length≤1:=cz _;omega
 have hm:∀{P:TR→Prop},(∀t∈ng v i,P t)→(∀t∈lC v (-s.L),P t)→∀t∈ng v i++lC v (-s.L),P t:=fun a b t ht=>(X3.1 ht).elim (a t) (b t);refine ⟨(jk (k:=k+4) (n:=2) (fL h) (hm (cK h1.e).2.2.1 (cK h2.e).2.2.1) (hm (h1.ok.mono Xj) (h2.ok.mono Xj)) (hm h1.sz h2.sz) hl Xk Xj).mono Xj,XV (cz _) hl⟩
theorem Oi {r:List Nat} (h:∀d∈r,d≤255):cP (fX (bM r))=r:=by
 unfold cP fX bM;rw [dH,Ym,Ym];refine (YZ fun d hd=> ?_).trans (List.map_id r);have:=h d hd;show (zU (d:Int)).toNat=d;obtain ⟨c,hc,e⟩:=TH (l:=[d]) (i:=0) rfl this;unfold fX bM at hc;rw [dH] at hc;rw [show zU (d:Int)=c from Yd hc];exact e
theorem Fv {ns:List Nat} (p:Nat):iV ns.reverse (jJ ns p).reverse:=by unfold jJ;rw [ZK];exact mh _ _
theorem mR (ns:List Nat) (p:Nat):(jJ ns p).length=ns.length:=by
 have:=l9 (Fv (ns:=ns) p);rwa [X8,X8] at this
theorem yr {ns:List Nat}{p i d r:Nat} (hd:ns[i]?=some d) (hr:(jJ ns p)[i]?=some r):r≤d:=by
 have h1:=(XE.1 hd).1;have h2:=mR ns p;refine ((ke _ _).1 (Fv (ns:=ns) p)).2 (ns.length-1-i) d r ?_ ?_
 ·rw [Ze Xj,show ns.length-1-(ns.length-1-i)=i by omega];exact hd
 ·rw [Ze Xj,show (jJ ns p).length-1-(ns.length-1-i)=i by omega];exact hr
theorem B2 {ns:List Nat}{B p:Nat} (h:∀d∈ns,d≤B):∀r∈jJ ns p,r≤B:=fun r hr=>by
 obtain ⟨i,hi⟩:=YJ.1 hr;have h1:=(XE.1 hi).1;rw [mR] at h1;obtain ⟨d,hd⟩:=ak (l:=ns) (k:=i) h1;exact XV (yr hd hi) (h d (Xt hd))
theorem zJ {ns:List Nat}{p:Nat} (h:∀d∈ns,d≤127):cP (fX (bM (jJ ns p)))=jJ ns p:=Oi fun r hr=>XV (B2 h r hr) Xk
theorem BL (b:List SR) (ns:List Nat) (C:List Dyadic):(mq b ns C).length=au ns:=by simp [mq]
theorem O0 {b:List SR}{ns:List Nat}{C:List Dyadic}{p:Nat} (h:p<au ns):(mq b ns C)[p]?=some (SO b ns C p):=by
 unfold mq;rw [Xx,Yh h]
 rfl
theorem Kv {b:List SR}{ns es:List Nat}{k:Nat} (hb:∀s∈b,s.fin k):∀i,i≤ns.length→Sz (1+i+(k+1)*(ns.take i).sum) (wP b ns es i)
 |0,_=>Sz.one.mono Xj
 |i+1,hi=>by
  have h1:=Kv (es:=es) (ns:=ns) hb i Xj;obtain ⟨d,hd⟩:=ak (l:=ns) (k:=i) hi;have hg:ns.getD i 0=d:=by rw [YM,hd];rfl
  have hw:Sz (k+1) (D0 b i):=by
   unfold D0
   cases h:b[i]? with
   |none=>exact Sz.zero _
   |some s=>exact ((SR.MP (hb s (Xt h))).sub (SR.GR (hb s (Xt h)))).mono Xj
  have h2:=hw.Ae (show ns.getD i 0-es.getD i 0≤d by omega);have h3:=h1.mul h2;rw [az hd,List.sum_append,List.sum_singleton,Yl];exact h3.mono Xj
theorem Ry {b:List SR}{ns:List Nat}{C:List Dyadic}{K:Nat} (hb:∀s∈b,s.fin k) (hbl:b.length=ns.length) (hC:∀x∈C,Sz K x) (hlow:∀d∈ns,d≤127) (hN:ns.length≤100000) (hK:K+(1+ns.length+(k+1)*ns.sum)≤2999000):iT (K+(1+ns.length+(k+1)*ns.sum)) (mq b ns C)∧(∀t∈mq b ns C,fa (ns.length:Int) t=true)∧(∀t∈mq b ns C,t.m.size≤100000∧∃p,cP t.m=jJ ns p):=by
 refine ⟨fun t ht=> ?_,fun t ht=> ?_,fun t ht=> ?_⟩
 ·obtain ⟨p,hp,rfl⟩:=XG.1 ht;have h1:=Kv (ns:=ns) (es:=jJ ns p) hb ns.length (Xr _);rw [Z2] at h1;have h2:=(zI hC p).mul h1;show (nR (jD C p*wP b ns (jJ ns p) b.length)).ok∧Sz _ (nR (jD C p*wP b ns (jJ ns p) b.length)).d;rw [hbl,bI];exact ⟨h2.ok Xj,h2⟩
 ·obtain ⟨p,hp,rfl⟩:=XG.1 ht;have h1:=zJ (p:=p) hlow;have h2:(fX (bM (jJ ns p))).size=ns.length:=by rw [←j5,h1,mR]
  unfold fa;rw [XF,XN];refine ⟨?_,by show ((fX (bM (jJ ns p))).size:Int)=_;rw [h2]⟩;unfold eK;rw [XI];intro c hc;have:c.toNat∈cP (fX (bM (jJ ns p))):=XG.2 ⟨c,hc,rfl⟩;rw [h1] at this;exact XH (by have:=B2 hlow c.toNat this;omega)
 ·obtain ⟨p,hp,rfl⟩:=XG.1 ht;have h1:=zJ (p:=p) hlow;have h2:(fX (bM (jJ ns p))).size=ns.length:=by rw [←j5,h1,mR]
  exact ⟨by show (fX (bM (jJ ns p))).size≤100000;omega,p,h1⟩
theorem I4 {b:List SR}{ns:List Nat}{C:List Dyadic} (h12:ns.length≤12) (hm:∀t∈mq b ns C,fa (ns.length:Int) t=true) (hc:au ns≤4096):qB (ns.length:Int) (mq b ns C)=0:=by
 have hl:=BL b ns C;unfold qB;rw [Xp,Xp Xj,me Xj];rintro (h|h)
 ·rw [fL h12] at h;cases h
 ·obtain ⟨t,ht,h2⟩:=Zb.1 h;rw [hm t ht] at h2
  cases h2
theorem Im {b:List SR}{os:List PX}{R:List HE}{kb:Nat} (hcp:Ai ((mn b).map fun g=>⟨g.v,none,g.ts.length,0,g.ts⟩) os R) (hol:os.length=b.length) (h12:b.length≤12) (hb:∀s∈b,s.fin kb) (hkb:kb≤1000):∀o∈os,o.k8 (kb+10)∧o.ts.length≤2:=fun o ho=>by
 obtain ⟨j,hj⟩:=YJ.1 ho;have hjn:j<os.length:=(XE.1 hj).1;obtain ⟨s,hs⟩:=ak (l:=b) (k:=j) Xj;obtain ⟨po,pl⟩:=AX (v:=b.length) (i:=j) h12 (hb s (Xt hs)) Xj;have hx:=uS hs;generalize vz b.length j s=Q at hx po pl;obtain ⟨e1,e2,e3⟩:=hcp.eq j ⟨b.length,none,Q.length,0,Q⟩ o (by rw [Xx,hx];rfl) hj;replace e2:o.ts=Q:=e2;replace e3:o.n=Q.length:=e3;exact Rk
def Pc (b:List SR) (ns:List Nat) (C:List Dyadic):PX:=⟨(ns.length:Int),none,0,0,aG (mq b ns C)⟩
def OY (fx:FX):List Dyadic:=HS fx.ns.reverse (fx.cs.map NR.d) fx.ns.length
def Cv (fx:FX) (b:List SR):Int×List TR:=dw (Pc b fx.ns (OY fx)) (mn b)
def rv (fx:FX) (b:List SR):Int:=if fx.e≠0 then fx.e else if m7 b≠0 then m7 b else if b.length≠fx.n then 1 else (Cv fx b).1
def tf (n k kb:Nat) (ns:List Nat):Nat:=k+520*n+(1+n+(kb+1)*ns.sum)
set_option maxRecDepth 10000 in
theorem BZ (fx:FX) (L:Option Addr) (n c:Nat) (b:List SR) (k kb:Nat) (w:World) (hT:dN w) (hf:fx.at_ w) (hl:fx.k8 k) (hcap:fx.n≤fx.a) (hB:Sl w L n 6 (ay SR.cells b)) (hb:∀s∈b,s.fin kb) (hn:n≤1000000) (hkb:kb≤1000)
  (hK:fx.e=0→fx.n=n→tf n k kb fx.ns≤400000) (hgr:fx.e=0→fx.n=n→fK (kb+16394) fx.ns (tf n k kb fx.ns+4097)≤440000):
  Calls Tryz.prog 28 #[.agg #[.slice fx.A fx.n fx.a,.slice fx.B fx.m fx.b],.slice L n c] w fun r w'=>∃g:PX,fF (rv fx b) n (Cv fx b).2 g∧r=.returned (.tuple #[.agg #[.int .i64 g.v,.slice g.A g.n g.c],.int .i64 (rv fx b)])∧Hp w [g.row] w':=by
 have hh:=Hp.start w;have hbl:b.length=n:=hB.bp SR.len Xk;have hok:∀s∈b,s.ok:=fun s hs=>⟨(hb s hs).1.ok,(hb s hs).2.ok⟩;have hck:=fun w1 hT1 hb1=>qR fx k w1 hT1 (hf.ext hb1) hl;have hbc:=fun w1 hT1 hb1=>pF L n c b w1 hT1 (hB.ext hb1) hok hn;by_cases h0:fx.e=0
 ·by_cases h1:m7 b=0
  ·by_cases h2:n=fx.n
   ·have hE:rv fx b=(Cv fx b).1:=by unfold rv;rw [Xp Xj,Xp Xj,Xp Xj]
    have hpos:0<n:=by
     rw [←hbl];by_cases h:b.length=0
     ·unfold m7 at h1;rw [Xo h] at h1;split at h1<;>omega
     ·omega
    obtain ⟨hdeg,hnum,h12,hlow,hcnt,hmax⟩:=FX.fv h0;have hln:=hf.ln.1;have hlm:=hf.ln.2;have hnl:fx.ns.length=n:=by unfold FX.ns;rw [XA];omega
    have hdg:Sl w fx.A fx.n 1 (bu (bM fx.ns)):=by rw [←hdeg];exact hf.dg
    obtain ⟨X,hX⟩:∃X,X=fx.cs.map NR.d:=⟨_,rfl⟩;have hC:OY fx=HS fx.ns.reverse X n:=by unfold OY;rw [hX,hnl]
    rw [←hX] at hnum;have hXl:X.length=au fx.ns:=by rw [hX,XA];exact hcnt
    have hXz:∀x∈X,Sz k x:=fun x h=>by
     rw [hX] at h;obtain ⟨z,hz,rfl⟩:=XG.1 h;exact (hl.num z hz).2
    have hSX:Sl w fx.B fx.m 3 (ay NR.cells (X.map nR)):=by rw [←hnum];exact hf.nm
    have hmc:fx.m=au fx.ns:=Xj;have hK:=hK h0 h2.symm;have hgr:=hgr h0 h2.symm;have hR:Cv fx b=dw (Pc b fx.ns (OY fx)) (mn b):=rfl;rw [hC] at hR;rw [hE];clear hE hC;generalize Cv fx b=R0 at*;subst hR;have hfo:=fun w1 hT1 hb1=>mV L n c b w1 hT1 (hB.ext hb1) hok hn;generalize fx.ns=ns at*;generalize fx.ds=ds at*;generalize fx.cs=cs at*;have hdgw:∀(H:List HE) (w1:World),Hp w H w1→Sl w1 fx.A fx.n 1 (bu (bM ns)):=fun H w1 h=>hdg.ext h.below;have hgX:∀j,(HS ns.reverse X j).length=au ns:=fun j=>by rw [NN (by rw [cD];exact hXl),cD]
    have hgZ:=L8 (ds:=ns.reverse) hXz (fun d hd=>hlow d (Zt.1 hd));rw [h0] at hck;rw [h1] at hbc;refine FZ ?_;refine sr ?_;refine cv hh [_,_] ?_;intro b2 w2 hh;refine bP hh ?_;intro b4 w4 hh;refine aI (aa (ah (sr ?_)));refine cg hh 1 [_,_] ?_;refine eu ?_;intro w28 hh;refine aI (aa (sr (mI ?_)));refine vT ?_;refine bA hh (hbc _ (hT.hp hh) hh.below) rfl ?_;intro w34 hh;refine aI (aa (sr (mI ?_)));refine n9 ?_;refine bE hh 1 ?_;refine aH ?_;refine cJ (aa (cF (aq (ai (sr (bH ?_))))));refine bE hh 1 ?_;refine aL (aa (ah (sr (bH ?_))));refine bE hh 1 ?_;refine aH (mI (aa (ao ?_)));refine bK [8,9,51,52,53,54,55,56,57,58,59,60] 8 51
     (fun q v w'=>∃(j:Nat) (A:Option Addr) (ac:Nat) (R:List HE),j≤n∧v=.int .i64 j∧q=.slice A fx.m ac∧(∀(H:List HE) (w1:World),Hp w (H++R) w1→Sl w1 A fx.m 3 (ay NR.cells ((HS ns.reverse X j).map nR)))∧Hp w (.blk b4 24 [.int .i64 0,.slice none 0 0] (0,0)::.blk b2 33 [.slice fx.A fx.n fx.a,.slice fx.B fx.m fx.b] (0,0)::R) w')
     (fun _ v _=>n-(intOf v).toNat) ?_ ?_
    ·exact ⟨0,fx.B,fx.b,[],Xs _,rfl,rfl,fun H w1 h=>hSX.ext h.below,hh⟩
    ·clear hh;rintro ρ' q_ v w' ⟨j,A,ac,R,hj,rfl,rfl,hrd,hh⟩;by_cases hlt:j<n
     ·obtain ⟨d,hd⟩:=ak (l:=ns) (k:=j) Xj;have hd7:=hlow d (Xt hd);have hof:=fun w1 hs=>jR fx.A fx.n fx.a j d ns w1 hs hcap Xj hd hlow Xj;have hrm:ns.reverse=(ns.drop (j+1)).reverse++d::(ns.take j).reverse:=uk hd;have hcn:fx.m=au ((ns.drop (j+1)).reverse++d::(ns.take j).reverse):=by rw [←hrm,cD];exact hmc
      have hli:=fun w1 hT1 hS1=>mC 81 (ns.drop (j+1)).reverse (ns.take j).reverse d (d+1) (kU d (eB d 1 (-1))) A fx.m ac (k+520*j) (HS ns.reverse X j) w1 hT1 hS1 hcn Xj (Xr _) hd7 (hgZ j) (fun Y E ec w2 hT2 hy hs=>vV E (d+1) ec d Y (k+520*j) w2 hT2 hs rfl hd7 hy (by unfold tf at hK;omega)) (fun Y _=>by simp [kU]);have hM:=JK (M:=eB d 1 (-1)) (A:=(ns.drop (j+1)).reverse) (B:=(ns.take j).reverse) (X:=HS ns.reverse X j) ((hgX j).trans (hmc.symm.trans hcn));have hsu:=Ci ns.reverse X j;have hgd:ns.reverse.getD (ns.reverse.length-1-j) 0=d:=by
       rw [YM,Ze (by rw [X8];omega),X8,show ns.length-1-(ns.length-1-j)=j by omega,hd]
       rfl
      rw [hgd,show ns.reverse.length-1-j=(ns.drop (j+1)).reverse.length by rw [X8,X8,Yz];omega] at hsu;rw [hgX j,←hrm,←hsu,←hmc] at hM;rw [hM,cD] at hli;clear hM hsu hgd hcn;refine sr ?_;refine bf (aa (ah (cT (aq (ai (ah (ao (sr (mI (aI (aa (al (bH ?_)))))))))))));refine bE hh 1 ?_;refine mI ?_;refine bA hh (hof _ (hdgw _ _ hh)) rfl ?_;intro w57 hh;refine mL ?_;refine aF (hli _ (hT.hp hh) (hrd [_,_] _ hh)) ar.out rfl Xk ?_;rintro e_ w59 ⟨E,ec,rfl,h4⟩;refine ⟨_,rfl, ?_⟩;replace hh:=hh.join h4;clear h4;simp only [Xw,Xu] at hh;refine kM ?_;refine bk (mI (aA (ai ?_)));replace hh:=hh.sub (Xq _ (Xq _ (Xq _ (Yo _))));replace hh:=hh.perm (XX (l₁:=[_,_]));simp only [Xw,Xu] at hh;replace hh:=hh.perm (XX (l₁:=[_,_]));simp only [Xw,Xu] at hh;replace hh:=hh.sub (.cons_cons _ (.cons_cons _ (.cons_cons _ (YE _))))
      refine ⟨⟨j+1,E,ec,[.row E fx.m ec 40 3 (ay NR.cells ((HS ns.reverse X (j+1)).map nR))],Xj,rfl,rfl,fun H w1 h=>jM (h.own _ (Y2 _ (XO.2 rfl))),hh⟩,by show n-(j+1)<n-j;omega, ?_⟩;exact dV
     ·obtain rfl:n=j:=Xj;obtain ⟨adC,rfl⟩:∃ad,A=some ad:=let ⟨ad,e,_⟩:=(hrd [_,_] _ hh).at_ (by have:=cC ns;omega);⟨ad,e⟩;generalize hCC:HS ns.reverse X n=C at*;have hCl:C.length=au ns:=by rw [←hCC];exact hgX n
      have hCz:∀x∈C,Sz (k+520*n) x:=by rw [←hCC];have:=hgZ n;exact this
      clear hgX hgZ;refine sr ?_;refine oI ?_;refine aF (hfo _ (hT.hp hh) hh.below) ar.out rfl Xk ?_;rintro e_ w62 ⟨A62,c62,rfl,hown_,hb_⟩;refine ⟨_,rfl, ?_⟩;replace hh:=hh.aX (x:=.row _ _ _ _ _ _) hb_ hown_;obtain ⟨adS,hAS⟩:∃ad,A62=some ad:=let ⟨ad,e,_⟩:=(hh.aC (i:=0) rfl).at_ hpos;⟨ad,e⟩;rw [hAS] at hh ⊢;clear hAS;refine aL (aa (sr (aL (aa (ah (sr (mL (aH (mI (aa (ao ?_)))))))))));replace hh:=hh.cU 24 2;refine bK [10,11,12,13,14,15,16,17,18,65,66,67,68,69,70,71,72,73,74,75,76,77,78,79,80,81,82,83,84,85,86,87,88,89,90,91,92,93,94,95,96,97] 10 65
       (fun a v w'=>∃(i c3:Nat) (A:Option Addr) (os:List PX) (R2:List HE),i≤n∧v=.int .i64 i∧a=.slice A i c3∧os.length=i∧Ai ((mn b).map fun g=>⟨g.v,none,g.ts.length,0,g.ts⟩) os R2∧Hp w (.row A i c3 24 2 (ay PX.cells os)::.row (some adS) n c62 70 6 (ay SR.cells (b.map SR.f))::.blk b4 24 [.int .i64 0,.slice none 0 0] (0,0)::.blk b2 33 [.slice fx.A fx.n fx.a,.slice fx.B fx.m fx.b] (0,0)::(R2++R)) w')
       (fun _ v _=>n-(intOf v).toNat) ?_ ?_
      ·exact Qo
      ·clear hh;rintro ρ2 a_ v w2 ⟨i,c3,A,os,R2,hi,rfl,rfl,hol,hcp,hh⟩;by_cases hlt2:i<n
       ·obtain ⟨s,hs⟩:=ak (l:=b) (k:=i) Xj;have hsf:=hb s (Xt hs);have hsn:(b.map SR.f)[i]?=some s.f:=by rw [Xx,hs];rfl
        have zL:=SR.GR hsf;obtain ⟨po,pl⟩:=AX (v:=n) (i:=i) Xj hsf Xj;have vo:=tK (v:=n) (i:=i) Xj;have co:=tO (v:=n) Xj zL.neg Xj;have hva:=fun w1 hT1=>vE (n:Int) (i:Int) w1 hT1;rw [Ps Xj hlt2] at hva;rw [YN] at hva;have zLo:(nR s.L).ok:=zL.ok Xj;have hng:=fun w1 hT1=>pg (nR s.L) w1 hT1 (by have:=zLo.1;omega) (by have:=zLo.2.1;omega) (by have:=zLo.2.2;omega);rw [bI] at hng;have hcn:=fun w1 hT1=>jQ (n:Int) (nR (-s.L)) kb w1 hT1 ⟨zL.neg.ok Xj,by rw [bI];exact zL.neg⟩ Xj;rw [Rh Xj] at hcn;have hV:aG [⟨k5 n i,nR ((1:Int):Dyadic)⟩]=ng n i:=rfl;have hC:aG [⟨er n,nR (-s.L)⟩]=lC n (-s.L):=rfl;have hP:aG (ng n i++lC n (-s.L))=vz n i s:=rfl;have tl1:(ng n i).length≤1:=cz _;have ul1:(lC n (-s.L)).length≤1:=cz _;have hps:=uS hs;rw [hbl] at hps;rw [hV] at hva;rw [hC] at hcn;clear hV hC;generalize ng n i=VL at*;generalize lC n (-s.L)=CL at*;generalize vz n i s=PL at*;obtain ⟨ad',e',hrS⟩:=(hh.aC (i:=1) rfl).at_ hpos;obtain rfl:=Yd e';refine sr ?_;refine dR ?_;refine cx ?_;refine cq (vs:=[_,_,_,_,_,_]) aM.out rfl (hrS.recAt SR.len hsn) rfl Xk ?_
        refine bP hh ?_;intro b12 w12 hh;refine aI ?_;refine bR hh 0 [_,_,_,_,_,_] ?_;intro ws hh;replace hh:Hp _ (.blk _ _ [_,_,_,_,_,_] _::_) _:=hh;refine aa (sr (mL (aH (mI ?_))));replace hh:=show Hp w (.blk b12 70 [.bool (nR s.L).neg,.string (nR s.L).bg,.int .i64 (nR s.L).e,.bool (nR s.H).neg,.string (nR s.H).bg,.int .i64 (nR s.H).e] (0,0)::_) _ from hh;refine aF (hva _ (hT.hp hh)) ar.out rfl Xk ?_;rintro e_ w74 ⟨t,ot,rfl,h4⟩;refine ⟨_,rfl, ?_⟩;have htc:t.n≤t.c:=h4.eJ (i:=0) rfl;replace hh:=hh.join h4;clear h4;simp only [Xw,Xu] at hh;obtain ⟨tv,tA,tn,tc,tt⟩:=t;replace hh:=show Hp w (.row tA tn tc 80 4 (ay TR.cells tt)::_) _ from hh;have et:VL=tt:=ot.t0.symm;have ev_:tv=(n:Int):=ot.v0;subst et ev_;have tln:VL.length=tn:=(hh.aC (i:=0) rfl).bp TR.len Xk;refine mT ?_;refine dn ?_;refine dn ?_;refine bP hh ?_;intro b13 w13 hh;refine bR hh 0 [_,_] ?_;intro ws hh;replace hh:Hp _ (.blk _ _ [_,_] _::_) _:=hh;refine aI (aa (sr (mL (aH (bH ?_)))));refine cg hh 2 [_,_,_] ?_;refine bA hh (hng _ (hT.hp hh)) rfl ?_;intro w82 hh;refine aF (hcn _ (hT.hp hh)) ar.out rfl Xk ?_
        rintro e_ w83 ⟨u,ou,rfl,h4⟩;refine ⟨_,rfl, ?_⟩;have huc:u.n≤u.c:=h4.eJ (i:=0) rfl;replace hh:=hh.join h4;clear h4;simp only [Xw,Xu] at hh;obtain ⟨uv,uA,un,uc,ut⟩:=u;replace hh:=show Hp w (.row uA un uc 80 4 (ay TR.cells ut)::_) _ from hh;have et:CL=ut:=ou.t0.symm;have ev_:uv=(n:Int):=ou.v0;subst et ev_;have uln:CL.length=un:=(hh.aC (i:=0) rfl).bp TR.len Xk;refine mT ?_;refine dn ?_;refine dn ?_;refine bP hh ?_;intro b15 w15 hh;refine bR hh 0 [_,_] ?_;intro ws hh;replace hh:Hp _ (.blk _ _ [_,_] _::_) _:=hh;refine aI (aa (sr ?_));refine cg hh 2 [_,_] ?_;refine cg hh 0 [_,_] ?_;refine EJ ?_;intro b89 w89 hh;have hlp:fR [⟨n,tA,tn,tc,VL⟩,⟨n,uA,un,uc,CL⟩]=0:=qJ vo.e co.e rfl;have had:=fun A3 w1 hT1 hS1 s1 s2=>pj A3 2 2 [⟨n,tA,tn,tc,VL⟩,⟨n,uA,un,uc,CL⟩] (kb+10) w1 hT1 hS1 Xk (fun g hg=>by
         rcases XL.1 hg with rfl|hg
         ·exact s1
         ·rw [XO.1 hg];exact s2) (fun g hg=>by
         rcases XL.1 hg with rfl|hg
         ·exact ⟨by show tn≤1000000;omega,htc,vo.ok.mono Xj,vo.sz⟩
         ·rw [XO.1 hg];exact ⟨by show un≤1000000;omega,huc,co.ok.mono Xj,co.sz⟩) Xj
        unfold GU at had;rw [Xo hlp,JH] at had;dsimp only at had;rw [hP] at had;rw [me (l:=VL++CL) (by rw [Xy];omega)] at had;refine aF (had _ _ (hT.hp hh) (hh.aC (i:=0) rfl) (hh.aC (i:=4) rfl) (hh.aC (i:=2) rfl)) ar.out rfl Xk ?_;rintro e_ w90 ⟨z,oz,rfl,h4⟩;refine ⟨_,rfl, ?_⟩;have hzc:z.n≤z.c:=h4.eJ (i:=0) rfl;replace hh:=hh.join h4;clear h4;simp only [Xw,Xu] at hh;replace hh:=show Hp w (.row z.A z.n z.c 80 4 (ay TR.cells z.ts)::_) _ from hh;have zln:z.ts.length=z.n:=(hh.aC (i:=0) rfl).bp TR.len Xk;refine mT ?_;refine dn ?_;refine dn ?_;refine bP hh ?_;intro b17 w17 hh;refine bR hh 0 [_,_] ?_;intro ws hh;replace hh:Hp _ (.blk _ _ [_,_] _::_) _:=hh;refine aI (aa (al (mL ?_)));refine cg hh 0 [_,_] ?_;refine cX hh (cs:=[_,_]) bh.out aM.out (aN (iO rfl) bZ) rfl rfl Xk Xk Xk rfl Xk ?_;intro b95 w95 hh;refine cw hh (i:=9) rfl rfl rfl (hh.aC (i:=0) rfl) bh.out aM.out rfl Xk (by first|rfl|exact dv _|exact cY _|exact bF _|exact bT NR.one _) Xj Xj Xk ?_;intro A96 c96 w96 hh;simp only [XC,X6] at hh;replace hh:=hh.sub (X9 _ _)
        refine kM ?_;refine bk (mI (aA (ai ?_)));replace hh:=hh.sub (Xv _ (Xq _ (Xv _ (Xv _ (Xv _ (Xv _ (Xv _ (Xv _ (Xq _ (Xq _ (Xq _ (Xq _ (Yo _)))))))))))));replace hh:=hh.perm (XX (l₁:=[_,_,_,_]));simp only [Xw,Xu] at hh;replace hh:=hh.perm (XX (l₁:=[_,_,_,_]));simp only [Xw,Xu] at hh;replace hh:=hh.perm (XX (l₁:=[_,_,_,_]));simp only [Xw,Xu] at hh;replace hh:=hh.perm (XX (l₁:=[_,_,_,_]));simp only [Xw,Xu] at hh;have hcp2:=hcp.add (g:=⟨n,none,PL.length,0,PL⟩) (o:=z) (by rw [hol,Xx,hps];rfl) ⟨oz.v0,oz.t0,by rw [←zln,oz.t0]⟩ hzc;refine ⟨⟨i+1,c96,A96,os++[z],z.row::R2,Xj,rfl,rfl,by rw [Xy,hol];rfl,hcp2,by rw [bD,iC];exact hh⟩,by show n-(i+1)<n-i;omega, ?_⟩;exact dV
       ·obtain rfl:n=i:=Xj;have hol2:os.length=((mn b).map fun g=>(⟨g.v,none,g.ts.length,0,g.ts⟩:PX)).length:=by rw [XA,Ht];omega
        have hkey:=hcp.key hol2;rw [Ym] at hkey;replace hkey:os.map PX.norm=(mn b).map PX.norm:=hkey;have hoc:n≤c3:=hh.eJ (i:=0) rfl;have hn12:n≤12:=Xj;have hxb:(mq b ns C).length=au ns:=BL b ns C;obtain ⟨bo1,bo2,bo3⟩:=Ry (C:=C) (ns:=ns) hb Xj hCz hlow Xj (by rw [hnl];unfold tf at hK;omega);have hmk:=I4 (b:=b) (C:=C) (ns:=ns) Xj bo2 hmax;have hal:zF (bM ns)=sO ns:=by unfold zF;rw [show yV 1 (bM ns)=true from E6 ns 1 hlow Xj (Xr _)];rfl
        have hall:=fun w1 hD=>HR fx.A fx.n fx.a (bM ns) w1 hD Xj;rw [hal,Ho] at hall;have hrd2:∀(H:List HE) (w1:World),Hp w (H++(R2++R)) w1→Sl w1 (some adC) fx.m 3 (ay NR.cells (C.map nR)):=fun H w1 h=>hrd (H++R2) w1 (by rw [Ya];exact h);have hmy:=hcp.my;generalize hRR:(R2++R:List HE)=RR at*;refine sr ?_;refine bf (aa (ah (cF (a6 (aE (aE (bq (ai (sr (aL (aa (ah (sr (bH ?_))))))))))))));refine bE hh 3 ?_;refine aF (hall _ (hdgw _ _ hh)) ar.out rfl Xk ?_;rintro e_ w100 ⟨A100,c100,rfl,hown_,hb_⟩;refine ⟨_,rfl, ?_⟩;replace hh:=hh.aX (x:=.row _ _ _ _ _ _) hb_ hown_;refine aH (mI (aa (ao ?_)));replace hh:=hh.cU 80 4;refine bK [19,20,21,22,23,24,102,103,104,105,106,107,108,109,110,111,112,113,114,115,116,117,118,119,120,121,122,123,124,125,126,127,128,129,130,131,132,133,134,135,136,137,138,139,140,141,142,143,144,145,146,147,148] 19 102
         (fun a v w'=>∃(i c1:Nat) (D:Option Addr),i≤au ns∧v=.int .i64 i∧a=.slice D i c1∧Hp w (.row D i c1 80 4 (ay TR.cells ((mq b ns C).take i))::.row A100 (au ns) c100 9 1 (lV (sO ns))::.row A n c3 24 2 (ay PX.cells os)::.row (some adS) n c62 70 6 (ay SR.cells (b.map SR.f))::.blk b4 24 [.int .i64 0,.slice none 0 0] (0,0)::.blk b2 33 [.slice fx.A fx.n fx.a,.slice fx.B fx.m fx.b] (0,0)::RR) w')
         (fun _ v _=>au ns-(intOf v).toNat) ?_ ?_
        ·exact ⟨0,0,none,Xs _,rfl,rfl,hh⟩
        ·clear hh;rintro ρ3 a_ v w3 ⟨i,c1,D,hi2,rfl,rfl,hh⟩;by_cases hlt3:i<au ns
         ·obtain ⟨x,hx⟩:=ak (l:=C) (k:=i) Xj;have hxn:(C.map nR)[i]?=some (nR x):=by rw [Xx,hx];rfl
          have zx:=hCz x (Xt hx);have hax:jD C i=x:=by unfold jD;rw [hx];rfl
          have hti:=O0 (b:=b) (C:=C) hlt3;have hms:(lV (sO ns))[i]?=some (.string (fX (bM (jJ ns i)))):=by unfold lV;rw [Xx,MI hlt3];rfl
          have hmm:=bo2 _ (Xt hti);have hmz:=(bo3 _ (Xt hti)).1;have hrl:=mR ns i;have hrr:∀(q d r:Nat),ns[q]?=some d→(jJ ns i)[q]?=some r→r≤d:=fun q d r h1 h2=>yr h1 h2;have hes:=zJ (p:=i) hlow;unfold SO at hti hmm hmz;rw [hax] at hti;generalize fX (bM (jJ ns i))=M at*;generalize jJ ns i=es at*;have hex:iG M.data.toList=bM es:=by rw [jW (by unfold fa at hmm;rw [XF] at hmm;exact hmm.1),lv,hes]
          have hel:(iG M.data.toList).length=n:=by rw [hex,ko];omega
          have hxp:=fun w1=>g8 M w1 hmz;rw [hel,hex] at hxp;obtain ⟨ad',e',hrC⟩:=(hrd2 [_,_,_,_,_,_] _ hh).at_ Xj;obtain rfl:=Yd e';obtain ⟨ga,rfl⟩:=hh.cn (i:=1) rfl Xj;refine sr ?_;refine dR ?_;refine fT ?_;refine JF ?_;refine aI (aS (aa (sr (mL (mI ?_)))));refine cE bh.out aM.size rfl rfl rfl Xj Xk ?_;refine cq (vs:=[_,_,_]) aM.out rfl (hrC.recAt NR.len hxn) rfl Xk ?_;refine bP hh ?_;intro b22 w22 hh;refine bR hh 0 [_,_,_] ?_;intro ws hh;replace hh:Hp _ (.blk _ _ [_,_,_] _::_) _:=hh;refine aa (ah (sr (mS ?_)));refine aF (hxp _) ar.out rfl Xk ?_;rintro e_ w112 ⟨A112,c112,rfl,hown_,hb_⟩;refine ⟨_,rfl, ?_⟩;replace hh:=hh.aX (x:=.row _ _ _ _ _ _) hb_ hown_;refine aH (mI (aa (ao ?_)));rw [show x=x*wP b ns es 0 by show x=x*1;rw [aai]] at hh;refine aR [23,24,114,115,116,117,118,119,120,121,122,123,124,125,126,127,128,129,130,131,132,133,134,135,136,137,138,139,140,141] 114
           (fun v w'=>∃q:Nat,q≤n∧v=.int .i64 q∧Hp w (.row A112 n c112 3 1 (bu (bM es))::.blk b22 40 [.bool (nR (x*wP b ns es q)).neg,.string (nR (x*wP b ns es q)).bg,.int .i64 (nR (x*wP b ns es q)).e] (0,0)::.row D i c1 80 4 (ay TR.cells ((mq b ns C).take i))::.row (some ⟨ga,0,none⟩) (au ns) c100 9 1 (lV (sO ns))::.row A n c3 24 2 (ay PX.cells os)::.row (some adS) n c62 70 6 (ay SR.cells (b.map SR.f))::.blk b4 24 [.int .i64 0,.slice none 0 0] (0,0)::.blk b2 33 [.slice fx.A fx.n fx.a,.slice fx.B fx.m fx.b] (0,0)::RR) w')
           (fun v _=>n-(intOf v).toNat) ?_ ?_
          ·exact ⟨0,Xs _,rfl,hh⟩
          ·clear hh;rintro ρ4 v w4 ⟨q,hq,rfl,hh⟩;by_cases hqn:q<n
           ·obtain ⟨s,hs⟩:=ak (l:=b) (k:=q) Xj;obtain ⟨d,hd⟩:=ak (l:=ns) (k:=q) Xj;obtain ⟨r,hr⟩:=ak (l:=es) (k:=q) Xj;have hsf:=hb s (Xt hs);have hsn:(b.map SR.f)[q]?=some s.f:=by rw [Xx,hs];rfl
            have hrd3:=hrr q d r hd hr;have hd7:=hlow d (Xt hd);have hgE:=ck (gN hr);have hgD:(bu (bM ns))[q]?=some (.int .i64 (d:Int)):=ck (gN hd);have zW:=(SR.MP hsf).sub (SR.GR hsf);have hsu:=fun w1 hT1=>kx (nR s.H) (nR s.L) w1 hT1 ((SR.MP hsf).ok Xj) ((SR.GR hsf).ok Xj) kb (by rw [bI];exact SR.MP hsf) (by rw [bI];exact SR.GR hsf) Xj;rw [bI,bI] at hsu;have hwi:wP b ns es (q+1)=wP b ns es q*(s.H-s.L)^(d-r):=by
             show wP b ns es q*D0 b q^(ns.getD q 0-es.getD q 0)=_;rw [show D0 b q=s.H-s.L by unfold D0;rw [hs],YM,YM,hd,hr]
             rfl
            have zq:=zx.mul (Kv (es:=es) (ns:=ns) hb q Xj);have hsum:(ns.take q).sum≤ns.sum:=by
             conv=>rhs;rw [←Yg q ns,List.sum_append]
             omega
            have hsum2:=X4 (kb+1) hsum;have hnw:=zW.nr;have hpm:(d-r)*(nR (s.H-s.L)).bg.size≤1000000:=XV (YT (show d-r≤127 by omega) (show (nR (s.H-s.L)).bg.size≤1100 by omega)) Xk;have hpw:=fun w1 hT1=>uD (nR (s.H-s.L)) ((d:Int)-(r:Int)) w1 hT1 (zW.ok Xj) (by rw [show ((d:Int)-(r:Int)).toNat=d-r by omega];exact hpm) Xj;rw [bI,show ((d:Int)-(r:Int)).toNat=d-r by omega] at hpw;have zp:=zW.Ae (show d-r≤127 by omega);have hm2:=fun A cc w1 hT1 hS1=>dW A 2 cc [nR (x*wP b ns es q),nR ((s.H-s.L)^(d-r))] w1 hT1 hS1 (by simpa using ⟨zq.ok (by unfold tf at hK;omega),zp.ok Xj⟩) 600000 (by simpa [bI] using ⟨zq.mono (by unfold tf at hK;omega),zp.mono Xj⟩) Xj Xj;rw [show fU ([nR (x*wP b ns es q),nR ((s.H-s.L)^(d-r))].map NR.d)=x*wP b ns es (q+1) by simp only [XQ,Ye,bI];show 1*(x*wP b ns es q)*_=_;rw [Zi,hwi,Dyadic.mul_assoc]] at hm2;obtain ⟨ad',e',hrS⟩:=(hh.aC (i:=5) rfl).at_ hpos;obtain rfl:=Yd e';obtain ⟨adD,hAD,hrD⟩:=(hdgw _ _ hh).at_ Xj
            have si:Value.slice fx.A fx.n fx.a=.slice (some adD) fx.n fx.a:=by rw [hAD]
            clear hwi;generalize x*wP b ns es q=y at*;generalize hy2:x*wP b ns es (q+1)=y2 at*;generalize (s.H-s.L)^(d-r)=u at*;obtain ⟨ge,rfl⟩:=hh.cn (i:=0) rfl Xj;refine sr ?_;refine dR ?_;refine da (k:=q) bh.out aM.size rfl rfl Xj Xj Xk ?_;refine jw ?_;refine aI (aI (aa ?_));refine a0 20 [[(22,none)],[(1,none)],[(23,none)],[(120,some 1),(121,some 2)],[(122,some 3)],[(123,some 4)],[(1,none)],[(23,none)],[(125,some 6),(126,some 7)],[(127,some 8)],[(128,some 9)],[(124,some 5),(129,some 10)],[(2,none)],[(131,some 12)],[(23,none)],[(132,some 13),(133,some 14)],[(134,some 15)],[(24,none)],[(135,some 16),(136,some 17)],[(130,some 11),(137,some 18)]] [(19,138),(18,137),(17,136),(16,135),(15,134),(14,133),(13,132),(12,131),(11,130),(10,129),(9,128),(8,127),(7,126),(6,125),(5,124),(4,123),(3,122),(2,121),(1,120),(0,119)] hh mixed Xl ?_;refine fG 1 [_,_,_] ?_;refine fS ?_;refine dJ ?_;refine ow (q) ?_;refine IU ?_;refine so [_,_,_] (fun _ hj=>((((hrS.ext hj.bl).recAt SR.len hsn).drop 3).take 3)) ?_;refine fS ?_;refine dJ ?_;refine ow (q) ?_;refine IU ?_
            refine so [_,_,_] (fun _ hj=>((((hrS.ext hj.bl).recAt SR.len hsn).drop 0).take 3)) ?_;refine dC (fun _ hj=>hsu _ (hT.hp hj.hp)) ?_;refine ej ?_;refine fN 7 ?_;refine dJ ?_;refine aQ (i:=15) (Is (.pointer (some (adD.add (q*1))))) (Is.ext) ?_ ?_
            ·intro ρ1 w1 hj hR;exact db rfl (fC (k:=q) bh.out aM.size ((show ρ1 132=Value.slice _ _ _ from hR.1).trans si) (show ρ1 133=Value.int _ _ from hR.2.1) Xj Xj) ⟨Below.refl _ _,rfl⟩
            refine qS (fun _ hj=>(hrD.ext hj.bl).wj hgD) ?_;refine dJ ?_;refine vx ?_;refine dC (fun _ hj=>hpw _ (hT.hp hj.hp)) ?_;refine aO ?_;intro f W hJ hV;have hb_33:=hJ.bl;obtain ⟨v138,v137,v136,v135,v134,v133,v132,v131,v130,v129,v128,v127,v126,v125,v124,v123,v122,v121,v120,v119,_⟩:=hV;replace hh:=hJ.hp;refine aW (bm (ae v138 (ae v137 (ae v136 (ae v135 (ae v134 (ae v133 (ae v132 (ae v131 (ae v130 (ae v129 (ae v128 (ae v127 (ae v126 (ae v125 (ae v124 (ae v123 (ae v122 (ae v121 (ae v120 (ae v119 aV))))))))))))))))))))) ?_;dsimp only [cd];clear hJ;refine sj ?_;intro b139 w139 hh;refine bA hh (hm2 _ _ _ (hT.hp hh) (hh.aC (i:=0) rfl)) rfl ?_;intro w140 hh;refine bR hh 2 [_,_,_] ?_;intro ws hh;replace hh:Hp _ (_::_::.blk _ _ [_,_,_] _::_) _:=hh;refine fp ?_;refine bk (mI (aA (ai ?_)));replace hh:=hh.sub (Xv _ (Xq _ (Xq _ (Xq _ (Xq _ (Xq _ (Xq _ (Xq _ (Xq _ (Yo _))))))))))
            refine ⟨⟨q+1,Xj,rfl,by rw [hy2];exact hh⟩,by show n-(q+1)<n-q;omega, ?_⟩;exact dV
           ·obtain rfl:n=q:=Xj;rw [hbl] at hti;refine sr ?_;refine bf (aa (ah (cF (a6 (aE (aE (bq (ai (al (mL (mS ?_)))))))))));refine cg hh 1 [_,_,_] ?_;refine fP [_,_,_,_] ?_;refine Cq ?_;intro b146 w146 hh;refine Q5 ?_;intro A147 c147 w147 hh;simp only [XC,X6] at hh;replace hh:=hh.sub (X9 _ _);refine kM ?_;refine bk (mI (aA (ai ?_)));have e1:ay TR.cells ((mq b ns C).take i)++[.string M,.bool (nR (x*wP b ns es n)).neg,.string (nR (x*wP b ns es n)).bg,.int .i64 (nR (x*wP b ns es n)).e]=ay TR.cells ((mq b ns C).take (i+1)):=by rw [az hti,bD,iC];rfl
            replace hh:=hh.sub (Xv _ (Xv _ (Xq _ (Xq _ (Xq _ (Xq _ (Xq _ (Xq _ (Yo _)))))))));replace hh:=show Hp w (.row A147 (i+1) c147 80 4 (ay TR.cells ((mq b ns C).take i)++[.string M,.bool (nR (x*wP b ns es n)).neg,.string (nR (x*wP b ns es n)).bg,.int .i64 (nR (x*wP b ns es n)).e])::_) _ from hh;rw [e1] at hh;refine ⟨⟨i+1,c147,A147,Xj,rfl,rfl,hh⟩,by show au ns-(i+1)<au ns-i;omega, ?_⟩;exact dV
         ·obtain rfl:au ns=i:=Xj;rw [Xz Xj] at hh;have hbz:=fun t ht=>(bo3 t ht).1;have hmA:=fun w1 hT1 hS1=>mX (n:Int) D (au ns) c1 (mq b ns C) (tf n k kb ns) w1 hT1 hS1 Xj Xj (bo1.mono (by rw [hnl];exact Xr _)) hbz;rw [hnl] at hmk bo2;rw [hmk] at hmA;refine sr ?_;refine bf (aa (ah (cF (a6 (aE (aE (bq (ai (sr (mL (aH (mL ?_))))))))))));refine aF (hmA _ (hT.hp hh) (hh.aC (i:=0) rfl)) ar.out rfl Xk ?_;rintro e_ w153 ⟨g,og,rfl,h4⟩;refine ⟨_,rfl, ?_⟩;have hgc:g.n≤g.c:=h4.eJ (i:=0) rfl;replace hh:=hh.join h4;clear h4;simp only [Xw,Xu] at hh;obtain ⟨gv,gA,gn,gc,gt⟩:=g;replace hh:=show Hp w (.row gA gn gc 80 4 (ay TR.cells gt)::_) _ from hh;replace hgc:gn≤gc:=hgc;have et:aG (mq b ns C)=gt:=og.t0.symm;have ev_:gv=(n:Int):=og.v0;subst ev_;have gln:gt.length=gn:=(hh.aC (i:=0) rfl).bp TR.len Xk;have gl2:gt.length≤4096:=by rw [←et];exact XV (cz _) Xj
          have gok:jl (n:Int) (tf n k kb ns+4096) gt:=by
           rw [←et];exact jk (fL hn12) bo2 (bo1.mono (by rw [hnl];exact Xr _)) hbz Xj (Xr _) Xj
          have hgex:∀(i d:Nat),ns[i]?=some d→d≤127∧∀t∈gt,gC i t≤d:=fun i d hd=>⟨hlow d (Xt hd),fun t ht=>by
           rw [←et] at ht;obtain ⟨s,hs,e⟩:=jh t ht;obtain ⟨_,p,hp⟩:=bo3 s hs;rw [zk,←e,hp]
           cases hr:(jJ ns p)[i]? with
           |none=>exact Xs _
           |some r=>exact yr hd hr⟩
          have hall:=Im hcp Xj Xj hb Xj;have hhv:fH (mn b)=n:=by
           obtain ⟨s,hs⟩:=ak (l:=b) (k:=0) Xj;rw [lF (uS hs),hbl]
          obtain ⟨ks,kh⟩:=FT (o:=⟨(n:Int),gA,gn,gc,gt⟩) (p:=Pc b ns C) (by show (n:Int)=(ns.length:Int);omega) et.symm hkey;have hfit:Vg ⟨(n:Int),gA,gn,gc,gt⟩ os (tf n k kb ns+4096) (kb+10) 2 (kb+16394) ns:=⟨Xj,hgex,hgr,Xj,Xj,fun g hg=>(hall g hg).1,fun g hg=>(hall g hg).2⟩;have hsu:=fun w1 hT1 ha hs hm hc=>qC ⟨(n:Int),gA,gn,gc,gt⟩ A c3 os (tf n k kb ns+4096) (kb+10) 2 (kb+16394) ns w1 hT1 ha ⟨by show gn≤1000000;omega,hgc,gok.ok,gok.sz⟩ hs hm hc hfit;rw [ks,kh,hhv,hol] at hsu;generalize dw (Pc b ns C) (mn b)=R0 at*;refine mT ?_;refine dn ?_;refine dn ?_;refine bP hh ?_;intro b25 w25 hh;refine bR hh 0 [_,_] ?_;intro ws hh;replace hh:Hp _ (.blk _ _ [_,_] _::_) _:=hh;refine aI (aa (ah (sr (mI ?_))));refine wV ?_;refine cg hh 0 [_,_] (mL ?_);refine aF (hsu _ (hT.hp hh) (hh.aC (i:=1) rfl) (hh.aC (i:=4) rfl) (fun z hz=>FG hh (XD _ (XD _ (XD _ (XD _ (XD _ (XD _ (XD _ (XD _ (hRR ▸ Y7 R (hmy z hz).1)))))))))) hoc) ar.out rfl Xk ?_
          rintro e_ w162 ⟨z,oz,rfl,h4⟩;refine ⟨_,rfl, ?_⟩;replace hh:=hh.join h4;clear h4;simp only [Xw,Xu] at hh;refine dn ?_;refine dn ?_;refine bR hh 7 [_,_] ?_;intro ws hh;replace hh:Hp _ (_::_::_::_::_::_::_::.blk _ _ [_,_] _::_) _:=hh;refine aI (aa (aw ?_));refine Pt (eC rfl (eF (vs:=[_,_]) aM.out (hh.bY (i:=7) (n:=2) rfl rfl) rfl) (ju (kf rfl) fJ)) ?_;exact ⟨z,oz,rfl,hh.sub (Xq _ (YE _))⟩
   ·have hE:rv fx b=1:=by unfold rv;rw [Xp Xj,Xp Xj,Xo Xj]
    rw [h0] at hck;rw [h1] at hbc;rw [hE];have hln:=hf.ln.1;refine FZ ?_;refine sr ?_;refine cv hh [_,_] ?_;intro b2 w2 hh;refine bP hh ?_;intro b4 w4 hh;refine aI (aa (ah (sr ?_)));refine cg hh 1 [_,_] ?_;refine eu ?_;intro w28 hh;refine aI (aa (sr (mI ?_)));refine vT ?_;refine bA hh (hbc _ (hT.hp hh) hh.below) rfl ?_;intro w34 hh;refine aI (aa (sr (mI ?_)));refine n9 ?_;refine bE hh 1 ?_;refine aH ?_;refine cJ (aa (cT (sr ?_)));refine fP [_,_] ?_;exact Uu
  ·have hE:rv fx b=m7 b:=by unfold rv;rw [Xp Xj,Xo h1]
   rw [h0] at hck;rw [hE];refine FZ ?_;refine sr ?_;refine cv hh [_,_] ?_;intro b2 w2 hh;refine bP hh ?_;intro b4 w4 hh;refine aI (aa (ah (sr ?_)));refine cg hh 1 [_,_] ?_;refine eu ?_;intro w28 hh;refine aI (aa (sr (mI ?_)));refine vT ?_;refine bA hh (hbc _ (hT.hp hh) hh.below) rfl ?_;intro w34 hh;exact Q8
 ·have hE:rv fx b=fx.e:=by unfold rv;rw [Xo h0]
  rw [hE];refine FZ ?_;refine sr ?_;refine cv hh [_,_] ?_;intro b2 w2 hh;refine bP hh ?_;intro b4 w4 hh;refine aI (aa (ah (sr ?_)));refine cg hh 1 [_,_] ?_;refine eu ?_;intro w28 hh;exact Q8
variable {ws:World}
section
variable {P:Program}{N:Nat}{Q:Kd}{ρ:Rf}{w:World}
theorem WD.mono {c:Code}{Q':Kd} (h:WD P N c Q ρ w) (hq:∀e M ρ w,Q e M ρ w→Q' e M ρ w):WD P N c Q' ρ w:=
 ⟨fun M a hf n=>wpIn_mono (h.out M a hf n) fun e a' w' ⟨M',ρ',hf',hk⟩=>⟨M',ρ',hf',hq e M' ρ' w' hk⟩⟩
theorem L6 {c:Code} (mods:List Nat) (s0 s1:Nat) (I:List Nat→Value→Value→World→Prop) (μ:Value→Value→World→Nat) (h0:I [] (ρ s0) (ρ s1) w)
  (round:∀M ρ' v0 v1 w',I M v0 v1 w'→WD P N c (fun e M2 ρ2 w2=>yY (fun M3 ρ2 w2=>I M3 (ρ2 s0) (ρ2 s1) w2∧μ (ρ2 s0) (ρ2 s1) w2<μ v0 v1 w'∧iq mods ρ2 ρ) Q e (M2++M) ρ2 w2) (cG (cG (mask mods ρ' ρ) s0 v0) s1 v1) w'):WD P N (.loop c) Q ρ w:=
 OC (fun M ρ1 w1=>I M (ρ1 s0) (ρ1 s1) w1∧iq mods ρ1 ρ) (fun ρ1 w1=>μ (ρ1 s0) (ρ1 s1) w1) ⟨h0,fun _ _=>rfl⟩ fun M ρ1 w1 ⟨hi,ha⟩=>by
  have h:=round M ρ1 (ρ1 s0) (ρ1 s1) w1 hi;rw [ig ha,gF,gF] at h;exact h.mono fun e M2 ρ2 w2 hq=>by
   cases e with
   |normal=>exact ⟨⟨hq.1,hq.2.2⟩,hq.2.1⟩
   |_=>exact hq
theorem SW {id:Nat}{next:List Nat→Rf→World→Prop} (h:next M ρ w):JW (tR M (KJ id (yY next Q))) .normal ρ w:=h
theorem Kr {M0:List Nat}{next:List Nat→Rf→World→Prop} (h:next (M++M0) ρ w):JW (tR M (fun e M2 ρ2 w2=>yY next Q e (M2++M0) ρ2 w2)) .normal ρ w:=h
theorem Oj {M0:List Nat}{id:Nat}{next next':List Nat→Rf→World→Prop} (h:next' M0 ρ w):JW (fun e M2 ρ2 w2=>yY next (KJ id (yY next' Q)) e (M2++M0) ρ2 w2) (.exit id) ρ w:=by
 show if id=id then yY next' Q .normal ([]++M0) ρ w else yY next' Q (.exit id) ([]++M0) ρ w
 rw [Xo rfl];exact h
end
structure Marks (w0:World) (M:List Nat) (w:World):Prop where
 at_:∀D∈M,w0.heap.size≤D∧w.heap[D]?=some (.deferred (some []))
 nd:M.Nodup
theorem Gc (M:List Nat):(pX M).filterMap HE.id=M:=by
 induction M with
 |nil=>rfl
 |cons D M ih=>rw [show pX (D::M)=.ob D (.deferred (some []))::pX M from rfl,Zk,show HE.id (.ob D (.deferred (some [])))=some D from rfl];simp only [ih]
theorem Hp.marks {H:List HE} (h:Hp w0 (H++pX M) w):Marks w0 M w:=by
 refine ⟨fun D hD=>h.own (.ob D (.deferred (some []))) (Y2 _ (List.mem_map_of_mem (f:=fun D=>HE.ob D (.deferred (some []))) hD)), ?_⟩;have:=h.nd;rw [ZO,Gc] at this;exact (aac.1 this).2.1
theorem Hp.So {H:List HE} (h:Hp w0 H w) (hc:∀x∈H,x.Te=true) (hm:Marks w0 M w):Hp w0 (H++pX M) w:=by
 refine ⟨h.below,fun x hx=> ?_, ?_⟩
 ·rcases X3.1 hx with hx|hx
  ·exact h.own x hx
  ·obtain ⟨D,hD,rfl⟩:=XG.1 hx;exact hm.at_ D hD
 ·rw [ZO,Gc];refine aac.2 ⟨h.nd,hm.nd,fun a ha b hb e=> ?_⟩;subst e;obtain ⟨y,hy,hyb⟩:=Yx.1 ha;obtain ⟨o',h2,h3⟩:=uN (h.own y hy) (hc y hy) hyb;rw [(hm.at_ a hb).2] at h2
  cases h2
  cases h3
theorem Marks.keeps (h:Marks w0 M w) (hk:KeepsOthers w w'):Marks w0 M w':=⟨fun D hD=>⟨(h.at_ D hD).1,hk.2 D _ (h.at_ D hD).2 rfl⟩,h.nd⟩
theorem Marks.grown (h:Marks w0 M w) (hlt:∀D∈M,D<ws.heap.size) {row:Option Nat} (hg:w.grownBy w' row) (hr:∀r,row=some r→ws.heap.size≤r):Marks w0 M w':=by
 refine ⟨fun D hD=>⟨(h.at_ D hD).1, ?_⟩,h.nd⟩;have h1:=(h.at_ D hD).2;refine (hg.block D (aam.1 h1).1 fun e=> ?_).trans h1;have:=hr D e.symm;have:=hlt D hD;omega
theorem Marks.lt (h:Marks w0 M w):∀D∈M,D<w.heap.size:=fun D hD=>(aam.1 (h.at_ D hD).2).1
theorem Marks.cons {D:Nat} (h:Marks w0 M w) (hlt:∀D∈M,D<ws.heap.size) (h0:w0.heap.size≤ws.heap.size) (hD:ws.heap.size≤D) (h1:w.heap[D]?=some (.deferred (some []))):Marks w0 (D::M) w:=by
 refine ⟨fun E hE=> ?_,Zs.2 ⟨fun hm=> ?_,h.nd⟩⟩
 ·rcases XL.1 hE with rfl|hE
  ·exact ⟨Xj,h1⟩
  ·exact h.at_ E hE
 ·have:=hlt D hm;omega
theorem Hp.SA {L:List HE} (h:Hp w0 L w) (hs:(pX M).Sublist L):Marks w0 M w:=Hp.marks (H:=[]) (h.sub hs)
theorem Hp.R9 {x y:HE}{T T':List HE} (hs:Hp w0 (x::T) w) (hc:∀z∈x::T,z.Te=true) (he:Hp w0 (y::(T'++Dt w0.heap.size ((x::T).filterMap HE.id) w)) w') (hid:T'.filterMap HE.id=T.filterMap HE.id) (hy:y.id=some b):KeepsOthers w w':=by
 have hoth:∀k,k<w.heap.size→w0.heap.size≤k→k∉(x::T).filterMap HE.id→∃o,w.heap[k]?=some o∧HE.ob k o∈Dt w0.heap.size ((x::T).filterMap HE.id) w:=fun k hk h0 hm=>⟨w.heap[k],Zy hk,Yx.2 ⟨k,XT.2 hk,by
  unfold MS;rw [Xo ⟨h0,by simpa using hm⟩,Zy hk]
  rfl⟩⟩
 have hob:∀z∈Dt w0.heap.size ((x::T).filterMap HE.id) w,z∈y::(T'++Dt w0.heap.size ((x::T).filterMap HE.id) w):=fun z hz=>XD _ (Y2 _ hz);have hbl:=eb (he.own y XB) hy;have hnd:=he.nd;rw [Zk,hy] at hnd;have hnd1:=(Zs.1 hnd).1;refine ⟨?_,fun k o h1 h2=> ?_⟩
 ·rcases Y3 w.heap.size with h|h
  ·omega
  ·have hk:w.heap.size-1<w.heap.size:=Xj;by_cases h0:w.heap.size-1<w0.heap.size
   ·have:=he.size;omega
   ·by_cases hm:w.heap.size-1∈(x::T).filterMap HE.id
    ·rw [Zk] at hm;have hT:w.heap.size-1∈T.filterMap HE.id→w.heap.size≤w'.heap.size:=fun hm=>by
      obtain ⟨z,hz,hzb⟩:=Yx.1 (hid ▸ hm);have:=(eb (he.own z (XD _ (Y7 _ hz))) hzb).2;omega
     split at hm
     ·exact hT hm
     ·rename_i r hr
      rcases XL.1 hm with e|hm
      ·by_cases hb:b<w.heap.size
       ·by_cases hbk:b=w.heap.size-1
        ·omega
        ·exfalso;by_cases hbm:b∈(x::T).filterMap HE.id
         ·rw [Zk,hr] at hbm
          rcases XL.1 hbm with e2|hbm
          ·omega
          ·rw [←hid] at hbm;exact hnd1 (by rw [ZO];exact Y7 _ hbm)
         ·obtain ⟨o,_,h3⟩:=hoth b hb hbl.1 hbm;exact hnd1 (by rw [ZO];exact Y2 _ (Yx.2 ⟨_,h3,rfl⟩))
       ·omega
      ·exact hT hm
    ·obtain ⟨o,_,h3⟩:=hoth _ hk Xj hm;have:=(eb (he.own _ (hob _ h3)) rfl).2;omega
 ·have hk:=(aam.1 h1).1;by_cases h0:k<w0.heap.size
  ·exact (he.below.block k h0).trans ((hs.below.block k h0).symm.trans h1)
  ·by_cases hm:k∈(x::T).filterMap HE.id
   ·obtain ⟨z,hz,hzb⟩:=Yx.1 hm;obtain ⟨o',h3,h4⟩:=uN (hs.own z hz) (hc z hz) hzb;rw [h1] at h3
    cases h3
    rw [h2] at h4
    cases h4
   ·obtain ⟨o',h3,h4⟩:=hoth k hk Xj hm;rw [h1] at h3
    cases h3
    exact (he.own _ (hob _ h4)).2
def lU (d:Nat) (t:Dyadic) (xs:List Dyadic) (i:Nat):Dyadic:=sm (List.range i) fun r=>jD xs r*iZ d r t
theorem Ij (d:Nat) (t:Dyadic) (xs:List Dyadic) (i:Nat):lU d t xs (i+1)=lU d t xs i+jD xs i*iZ d i t:=by
 unfold lU;rw [YQ,jS]
theorem yv {d i:Nat}{t:Dyadic} (hx:∀x∈xs,Sz k x) (ht:Sz q t) (ht1:Sz q (1-t)) (hi:i≤d+1):Sz (k+(2+2*(q*d))+i) (lU d t xs i):=by
 have h2:=B6 (l:=List.range i) (f:=fun r=>jD xs r*iZ d r t) (k:=k+(2+2*(q*d))) fun r hr=>by
  have hr:=XT.1 hr;unfold iZ;exact ((zI hx r).mul ((ht.Ae (show r≤d by omega)).mul (ht1.Ae (show d-r≤d by omega)))).mono Xj
 rw [YO] at h2;exact h2
theorem wL (tn:NR) (t:Dyadic) (bt bl:Addr) (L:Option Addr) (n c d:Nat) (xs:List Dyadic) (k q:Nat) (w:World) (hT:dN w) (hS:Sl w L n 3 (ay NR.cells (xs.map nR))) (hn:n=d+1) (hd:d≤127) (hx:∀x∈xs,Sz k x) (vt:Val q tn t) (ht1:Sz q (1-t))
  (hb1:Rd w bt [.bool tn.neg,.string tn.bg,.int .i64 tn.e]) (hb2:Rd w bl [.bool (nR (1-t)).neg,.string (nR (1-t)).bg,.int .i64 (nR (1-t)).e]) (hk:k≤500000) (hq:q≤2000):
  Calls Tryz.prog 107 #[.slice L n c,.pointer (some bt),.pointer (some bl)] w fun r w'=>r=.returned (.agg #[.bool (nR (lU d t xs (d+1))).neg,.string (nR (lU d t xs (d+1))).bg,.int .i64 (nR (lU d t xs (d+1))).e])∧Below w.heap.size w w':=by
 have hh:=Hp.start w;have hln:xs.length=n:=by have:=hS.bp NR.len Xk;simpa using this
 have hqd:q*d≤2000*127:=YT hq hd;have ht:=vt.sz;have hpw:∀(sn:NR) (z:Dyadic),Val q sn z→∀(i:Nat),i≤d→∀w1,dN w1→Calls Tryz.prog 88 #[.agg #[.bool sn.neg,.string sn.bg,.int .i64 sn.e],.int .i64 (i:Int)] w1 fun r w'=>r=.returned (.agg #[.bool (nR (z^i)).neg,.string (nR (z^i)).bg,.int .i64 (nR (z^i)).e])∧Below w1.heap.size w1 w':=fun sn z hz i hi w1 hT1=>by
  have h1:=hz.bg;have h2:i*sn.bg.size≤127*2001:=YT Xj Xj;have:=uD sn i w1 hT1 hz.ok (by rw [YN];omega) Xj;rwa [hz.d,YN] at this
 obtain ⟨ad,rfl,hr⟩:=hS.at_ Xj;refine aj (N:=35) (l:=[.slice (some ad) n c,.pointer (some bt),.pointer (some bl)]) Tryz.func107 rfl rfl (by simp) ?_;refine sr ?_;refine bP hh ?_;intro b4 w4 hh;refine aa (sr (mL (aH ?_)));refine ep (aI (aa (sr ?_)));refine bP hh ?_;intro b6 w6 hh;refine yc ?_;refine aR [7,8,14,15,16,17,18,19,20,21,22,23,24,25,26,27,28,29,30,31,32,33] 14
  (fun v w'=>∃i:Nat,i≤n∧v=.int .i64 i∧Hp w [.blk b6 40 [.bool (nR (lU d t xs i)).neg,.string (nR (lU d t xs i)).bg,.int .i64 (nR (lU d t xs i)).e] (0,0),.blk b4 40 [.bool false,.string (ByteArray.mk #[]),.int .i64 0] (0,0)] w')
  (fun v _=>n-(intOf v).toNat) ?_ ?_
 ·exact ⟨0,Xs _,rfl,hh⟩
 ·clear hh;rintro ρ' v w' ⟨i,hi,rfl,hh⟩;by_cases hlt:i<n
  ·obtain ⟨x,hxi⟩:=ak (l:=xs) (k:=i) Xj;have hxn:(xs.map nR)[i]?=some (nR x):=by rw [Xx,hxi];rfl
   have hat:jD xs i=x:=by unfold jD;rw [hxi];rfl
   have zx:=hx x (Xt hxi);have hpa:=hpw tn t vt i Xj;have hpb:=hpw (nR (1-t)) (1-t) (Val.of ht1 hq) (d-i) Xj;have zp:=ht.Ae (show i≤d by omega);have zq:=ht1.Ae (show d-i≤d by omega);have zo:=yv (d:=d) (i:=i) hx ht ht1 Xj;have zy:=(zx.mul zp).mul zq;have hst:=Ij d t xs i;unfold iZ at hst;rw [hat,←Dyadic.mul_assoc] at hst;have hm3:=fun A cc w1 hT1 hS1=>dW A 3 cc [nR x,nR (t^i),nR ((1-t)^(d-i))] w1 hT1 hS1 (by simpa using ⟨zx.ok Xj,zp.ok Xj,zq.ok Xj⟩) 600000 (by simpa [bI] using ⟨zx.mono Xj,zp.mono Xj,zq.mono Xj⟩) Xj Xj;rw [show fU ([nR x,nR (t^i),nR ((1-t)^(d-i))].map NR.d)=x*t^i*(1-t)^(d-i) by simp only [XQ,Ye,bI];show 1*x*_*_=_;rw [Zi]] at hm3;generalize x*t^i*(1-t)^(d-i)=y at*;have hsum:=fun A cc w1 hT1 hS1=>fY A 2 cc [nR (lU d t xs i),nR y] w1 hT1 hS1 (by simpa using ⟨zo.ok Xj,zy.ok Xj⟩) 2000000 (by simpa [bI] using ⟨zo.mono Xj,zy.mono Xj⟩) Xj;rw [show l4 ([nR (lU d t xs i),nR y].map NR.d)=lU d t xs i+y by simp only [XQ,Ye,bI,jA],←hst] at hsum;generalize hS2:lU d t xs (i+1)=S2 at*
   generalize lU d t xs i=S1 at*;have e27:(n:Int)-1-(i:Int)=((d-i:Nat):Int):=Xj;refine sr ?_;refine dR ?_;refine uP ?_;refine Ju ?_;refine bP hh ?_;intro b8 w8 hh;refine aI ?_;refine bR hh 0 [_,_,_] ?_;intro ws hh;replace hh:Hp _ (.blk _ _ [_,_,_] _::_) _:=hh;refine aa ?_;rw [←e27] at hpb;refine a0 12 [[(6,none)],[(8,none)],[(1,none)],[(7,none)],[(21,some 2),(22,some 3)],[(2,none)],[(5,none)],[(7,none)],[(25,some 6),(26,some 7)],[(24,some 5),(27,some 8)],[(20,some 1),(23,some 4),(28,some 9)],[(29,some 10)]] [(11,30),(10,29),(9,28),(8,27),(7,26),(6,25),(5,24),(4,23),(3,22),(2,21),(1,20),(0,19)] hh mixed Xl ?_;refine fG 1 [_,_,_] ?_;refine fG 0 [_,_,_] ?_;refine so [_,_,_] (fun _ hj=>hb1.ext hj.hp.below) ?_;refine dJ ?_;refine dC (fun _ hj=>hpa _ (hT.hp hj.hp)) ?_;refine so [_,_,_] (fun _ hj=>hb2.ext hj.hp.below) ?_;refine dJ ?_;refine dJ ?_;refine vx ?_;refine dC (fun _ hj=>hpb _ (hT.hp hj.hp)) ?_;refine rD [_,_,_,_,_,_,_,_,_] ?_;refine aQ (i:=11) (Is (.agg #[.bool (nR y).neg,.string (nR y).bg,.int .i64 (nR y).e])) Is.ext ?_ ?_
   ·intro ρ1 w1 hj hR;obtain ⟨A29,c29,h29,s29⟩:=hR.1;exact aY rfl (aJ ar.out (av h29 aU)) (hm3 A29 c29 _ (hT.hp hj.hp) s29) (fun _ _ hq=>⟨_,hq.1,hq.2,rfl⟩)
   refine aO ?_;intro f W hJ hV;have hb_6:=hJ.bl;obtain ⟨v30,v29,v28,v27,v26,v25,v24,v23,v22,v21,v20,v19,_⟩:=hV;obtain ⟨A29,c29,e29,f29⟩:Rows _ _ _ (f 10) W:=v29;replace hh:=hJ.hp;refine aW (bm (ae v30 (ae e29 (ae v28 (ae v27 (ae v26 (ae v25 (ae v24 (ae v23 (ae v22 (ae v21 (ae v20 (ae v19 aV))))))))))))) ?_;dsimp only [cd];clear e29 hJ;refine sj ?_;intro b31 w31 hh;refine bA hh (hsum _ _ _ (hT.hp hh) (hh.aC (i:=0) rfl)) rfl ?_;intro w32 hh;refine bR hh 2 [_,_,_] ?_;intro ws hh;replace hh:Hp _ (_::_::.blk _ _ [_,_,_] _::_) _:=hh;refine fp ?_;refine bk (mI (aA (ai ?_)));replace hh:=hh.sub (Xv _ (Xv _ (Xq _ (Xq _ XU))));refine ⟨⟨i+1,Xj,rfl,by rw [hS2];exact hh⟩,by show n-(i+1)<n-i;omega, ?_⟩;exact dV
  ·obtain rfl:i=n:=Xj;rw [show i=d+1 from hn] at hh;refine sr ?_;refine ll ?_;refine cg hh 0 [_,_,_] ?_;exact Lk
theorem zY (tn:NR) (t:Dyadic) (q:Nat) (w:World) (hT:dN w) (vt:Val q tn t) (hq:q≤2000):
  Calls Tryz.prog 51 #[.agg #[.bool tn.neg,.string tn.bg,.int .i64 tn.e]] w fun r w'=>∃b1 b3,r=.returned (.func (.func 107) #[] #[.pointer (some ⟨b1,0,none⟩),.pointer (some ⟨b3,0,none⟩)])∧Hp w [.blk b3 40 [.bool (nR (1-t)).neg,.string (nR (1-t)).bg,.int .i64 (nR (1-t)).e] (0,0),.blk b1 40 [.bool tn.neg,.string tn.bg,.int .i64 tn.e] (0,0)] w':=by
 have hh:=Hp.start w;have hof:∀w1,dN w1→Calls Tryz.prog 17 #[.int .i64 1] w1 fun r w'=>r=.returned (.agg #[.bool (nR (1:Dyadic)).neg,.string (nR (1:Dyadic)).bg,.int .i64 (nR (1:Dyadic)).e])∧Below w1.heap.size w1 w':=fun w1 hT1=>ja 1 w1 hT1 Xk Xk;have hsb:=fun w1 hT1=>kx (nR (1:Dyadic)) tn w1 hT1 (Sz.one.ok Xj) vt.ok (q+1) (by rw [bI];exact Sz.one.mono Xj) (by rw [vt.d];exact vt.sz.mono Xj) Xj;simp only [bI,vt.d] at hsb;refine aj (N:=8) (l:=[.agg #[.bool tn.neg,.string tn.bg,.int .i64 tn.e]]) Tryz.func51 rfl rfl (by simp) ?_;refine sr ?_;refine cv hh [_,_,_] ?_;intro b1 w1 hh;refine j9 (by first|exact tI rfl|exact ti rfl) Xk ?_;refine aa (ah ?_);refine a0 4 [[],[(1,none)],[(4,some 0),(5,some 1)],[]] [(3,3),(2,6),(1,5),(0,4)] hh mixed Xl ?_;refine dC (fun _ hj=>hof _ (hT.hp hj.hp)) ?_;refine fG 0 [_,_,_] ?_;refine dC (fun _ hj=>hsb _ (hT.hp hj.hp)) ?_;refine aQ (i:=3) (dm _ 40 _) dm.ext (fun ρ1 w1 hj hR=>jz aM.out hj.bl (fun v w2 h hb=>⟨hb,h⟩)) ?_;refine aO ?_;intro f W hJ hV;have hb_1:=hJ.bl;obtain ⟨v3,v6,v5,v4,_⟩:=hV;obtain ⟨b3,e3,hl3,hc3⟩:dm _ _ _ (f 3) W:=v3;replace hh:=hJ.newVar hh hl3 hc3
 refine aW (bm (ae e3 (ae v6 (ae v5 (ae v4 aV))))) ?_;dsimp only [cd];clear e3 hJ;refine bR hh 0 [_,_,_] ?_;intro ws hh;replace hh:Hp _ (.blk _ _ [_,_,_] _::_) _:=hh;refine aa (sr ?_);exact UN
theorem Sl.part {l:List NR} (h:Sl w (some ad) n 3 (ay NR.cells l)) (p m:Nat) (hpm:p+m≤n) (hm:0<m):Sl w (some (ad.add (p*3))) m 3 (ay NR.cells ((l.drop p).take m)):=by
 have hl:=h.bp NR.len Xk;obtain ⟨ad',e,r⟩:=h.2 Xj;obtain rfl:ad=ad':=Yd e;refine ⟨by rw [dY NR.len,XP,Yz,hl,Ys Xj],fun _=>⟨_,rfl,fun j u hu=> ?_⟩⟩;rw [jU];refine r (p*3+j) u ?_;rw [←jg NR.len,←iy NR.len,YL] at hu;split at hu
 ·rw [Y4] at hu;exact hu
 ·cases hu
def mG (K q:Nat) (X:List Dyadic):List Dyadic:=(X.drop (q*K)).take K
theorem xk (K q:Nat) (X:List Dyadic):((X.map nR).drop (q*K)).take K=(mG K q X).map nR:=by unfold mG;rw [Zx,Zr]
theorem rq {K:Nat}{x:Dyadic} (h:x∈mG K q X):x∈X:=ZD (YY h)
theorem xP {d:Nat} (t:Dyadic) (X:List Dyadic):lU d t (mG (d+1) q X) (d+1)=sm (List.range (d+1)) fun r=>(X[r+(d+1)*q]?).getD 0*iZ d r t:=by
 unfold lU;refine bL fun r hr=> ?_;have hr:=XT.1 hr;unfold jD mG;rw [YL,Xo hr,Y4,show q*(d+1)+r=r+(d+1)*q by rw [XY];omega]
theorem Jq {d:Nat} (t:Dyadic) (X:List Dyadic) (h:q<m):(lj d t m X)[q]?=some (lU d t (mG (d+1) q X) (d+1)):=by
 unfold lj;rw [Xx,Yh h,xP]
 rfl
theorem Jf {d:Nat}{t:Dyadic} (hx:∀x∈X,Sz k x) (ht:Sz q t) (ht1:Sz q (1-t)):∀x∈lj d t m X,Sz (k+(2+2*(q*d))+(d+1)) x:=fun x h=>by
 obtain ⟨p,_,rfl⟩:=XG.1 h;rw [←xP];exact yv (fun y hy=>hx y (rq hy)) ht ht1 (Xr _)
theorem Ed {ns:List Nat}{ts:List Dyadic}{i d:Nat}{t:Dyadic} (X:List Dyadic) (hd:ns[i]?=some d) (ht:ts[i]?=some t):oG (ns.take (i+1)).reverse (ts.take (i+1)).reverse X=oG (ns.take i).reverse (ts.take i).reverse (lj d t (au (ns.take i)) X):=by
 rw [az hd,az ht,ZV,ZV];show oG (d::(ns.take i).reverse) (t::(ts.take i).reverse) X=_;rw [oG,cD]
def Iu (fx:FX) (m:Nat):Int:=if fx.e≠0 then fx.e else if m≠fx.n then 1 else 0
def IY (fx:FX) (tn:List NR):Dyadic:=if Iu fx tn.length=0 then iX fx.ns.reverse (fx.cs.map NR.d) (tn.map NR.d).reverse else 0
variable {fuel:Nat}{next:Rf→World→Prop}{rs:List Nat}
section
variable {P:Program}{N:Nat}{Q:Kq}{ρ:Rf}{w:World}{ro:Option Nat}{D:List Deferred}
structure WR (ro:Option Nat) (D:List Deferred) (P:Program) (N:Nat) (ops:Array Oper) (Q:Kq) (fuel:Nat) (L:Array Bool) (ρ:Rf) (w:World):Prop where
 out:∀a,eA N D a ρ→∀n,wpAnyIn (FW ro) n P .any ops (du N D Q) fuel L a w
theorem Aa {F:Fence}{o:Oper}{a:Act}{K:Act→World→Prop}{r:Result Next} (h:o.uponIn F n P a K (du N D (cB next Q)) r):o.uponIn F n P a K (du N D Q) r:=by
 have hp:∀c a w,du N D (cB next Q) (.panic c) a w→du N D Q (.panic c) a w:=fun _ _ _ h=>h;have ho:LetsOut (du N D (cB next Q))→LetsOut (du N D Q):=fun ⟨a,w,h⟩=>⟨a,w,h⟩
 cases r with
 |ok n w'=>
  cases n<;>simp only [Oper.uponIn] at h ⊢ <;>first
   |exact h
   |exact ⟨h.1,CallsIn.mono h.2 (fun e w'' he=>by cases e<;>first|exact he|exact hp _ _ _ he|exact ho he)⟩
   |exact ⟨h.1,RoundIn.mono h.2 (fun e w'' he=>by cases e<;>first|exact he|exact hp _ _ _ he|exact ho he)⟩
 |halt x w'=>cases x<;>simp only [Oper.uponIn] at h ⊢ <;>first|exact h|exact hp _ _ _ h|exact ho h
theorem yA {L:Array Bool} (hr:Region.ready .any ops L=rs) (hne:rs≠[])
  (h:∀i∈rs,∃o,ops[i]?=some o∧WL ⟨ro,D,true⟩ P N ops (cB (fun ρ w=>WR ro D P N ops Q fuel (L.setIfInBounds i true) ρ w) Q) [o] ρ w):WR ro D P N ops Q (fuel+1) L ρ w:=by
 refine ⟨fun a hf n=>⟨fun e=>absurd (hr.symm.trans e) hne,fun i hi=> ?_⟩⟩;rw [hr] at hi;obtain ⟨o,ho,hw⟩:=h i hi;have h1:=hw.jO a hf n;have hK:∀a w,wpListIn (FW ro) n P ops (du N D (cB (fun ρ w=>WR ro D P N ops Q fuel (L.setIfInBounds i true) ρ w) Q)) [] a w→wpAnyIn (FW ro) n P .any ops (du N D Q) fuel (L.setIfInBounds i true) a w:=fun a w ⟨ρ',hf',hq⟩=>by
  have hq':WR ro D P N ops Q fuel (L.setIfInBounds i true) ρ' w:=hq;exact hq'.out a hf' n
 unfold wpOpIn;rw [ho];simp only [];unfold wpListIn at h1;split at h1
 ·rename_i hwt;rw [Xo hwt];have h2:=Oper.wpIn_mono hK h1;unfold Oper.wpIn at h2 ⊢;exact ⟨h2.1,Aa h2.2⟩
 ·rename_i hwt;rw [Xp hwt];exact ⟨h1.1,hK _ _ h1.2⟩
theorem RL {L:Array Bool} (hr:Region.ready .any ops L=[]) (h:Q .normal ρ w):WR ro D P N ops Q fuel L ρ w:=
 ⟨fun a hf n=>by
  cases fuel with
  |zero=>exact ⟨hr,ρ,hf,h⟩
  |succ fuel=>exact ⟨fun _=>⟨ρ,hf,h⟩,fun i hi=>by rw [hr] at hi;cases hi⟩⟩
theorem JO {id:Nat}{l:List Oper}{H:List HE} (hh:Hp w0 H w) (hm:P.follows .mixedOrders=true) (h:∀w',JJ w0 H w w'→WR ro D P N l.toArray Q l.length (Array.replicate l.length false) ρ w'):WC ⟨ro,D,true⟩ P N (.region id l.toArray true) Q ρ w:=by
 refine ⟨fun h=>(by cases h),fun a hf n=>wpIn_region_any hm ?_⟩;have hb:Below w.heap.size w ({ w with drawn:=w.drawn+1 }:World):=⟨rfl,rfl,rfl,Xr _,fun _ _=>rfl⟩;have:=(h _ ((JJ.start hh).ext hb)).out a hf n;simpa using this
theorem zR {F:Fence}{o:Oper}{a:Act}{K:Act→World→Prop}{Q1 Q2:Exit→Act→World→Prop}{r:Result Next} (hq:∀e a w,Q1 e a w→Q2 e a w) (h:o.uponIn F n P a K Q1 r):o.uponIn F n P a K Q2 r:=by
 have ho:LetsOut Q1→LetsOut Q2:=fun ⟨a,w,h⟩=>⟨a,w,hq _ _ _ h⟩
 cases r with
 |ok n w'=>
  cases n<;>simp only [Oper.uponIn] at h ⊢ <;>first
   |exact h
   |exact ⟨h.1,CallsIn.mono h.2 (fun e w'' he=>by cases e<;>first|exact he|exact hq _ _ _ he|exact ho he)⟩
   |exact ⟨h.1,RoundIn.mono h.2 (fun e w'' he=>by cases e<;>first|exact he|exact hq _ _ _ he|exact ho he)⟩
 |halt x w'=>cases x<;>simp only [Oper.uponIn] at h ⊢ <;>first|exact h|exact hq _ _ _ h|exact ho h
theorem rO {o:Oper}{A B:Rf→World→Prop} (h:WL ⟨ro,D,true⟩ P N ops (cB A qy) [o] ρ w) (hi:∀ρ w,A ρ w→B ρ w):WL ⟨ro,D,true⟩ P N ops (cB B Q) [o] ρ w:=by
 refine ⟨fun h=>(by cases h),fun a hf n=> ?_⟩;have h1:=h.jO a hf n;have hq:∀e a w,du N D (cB A qy) e a w→du N D (cB B Q) e a w:=fun e a w ⟨ρ',hf',hk⟩=>⟨ρ',hf',by
  cases e with
  |normal=>exact hi _ _ hk
  |_=>exact hk.elim⟩
 unfold wpListIn at h1 ⊢;split at h1
 ·rename_i hwt;rw [Xo hwt];have h2:=Oper.wpIn_mono (K':=wpListIn (FW ro) n P ops (du N D (cB B Q)) []) (fun a w h=>hq .normal a w h) h1;unfold Oper.wpIn at h2 ⊢;exact ⟨h2.1,zR hq h2.2⟩
 ·rename_i hwt;rw [Xp hwt];exact ⟨h1.1,hq .normal _ _ h1.2⟩
theorem Jw {o0 o1 o2 o3 o4 o5 o6:Oper}{I:Bool→Bool→Bool→Bool→Bool→Rf→World→Prop}{J K:Rf→World→Prop}
  (e0:ops[0]?=some o0) (e1:ops[1]?=some o1) (e2:ops[2]?=some o2) (e3:ops[3]?=some o3) (e4:ops[4]?=some o4) (e5:ops[5]?=some o5) (e6:ops[6]?=some o6)
  (r0:Region.ready .any ops #[false,false,false,false,false,false,false]=[0,1,2])
  (r1:Region.ready .any ops #[false,true,false,false,false,false,false]=[0,2])
  (r2:Region.ready .any ops #[false,false,true,false,false,false,false]=[0,1])
  (r3:Region.ready .any ops #[false,true,true,false,false,false,false]=[0,3])
  (r4:Region.ready .any ops #[false,true,true,true,false,false,false]=[0,4])
  (r5:Region.ready .any ops #[false,true,true,true,true,false,false]=[0])
  (q0:Region.ready .any ops #[true,false,false,false,false,false,false]=[1,2])
  (q1:Region.ready .any ops #[true,true,false,false,false,false,false]=[2])
  (q2:Region.ready .any ops #[true,false,true,false,false,false,false]=[1])
  (q3:Region.ready .any ops #[true,true,true,false,false,false,false]=[3])
  (q4:Region.ready .any ops #[true,true,true,true,false,false,false]=[4])
  (q5:Region.ready .any ops #[true,true,true,true,true,false,false]=[5])
  (q6:Region.ready .any ops #[true,true,true,true,true,true,false]=[6])
  (q7:Region.ready .any ops #[true,true,true,true,true,true,true]=[])
  (s0:∀a b e g ρ w,I false a b e g ρ w→WL ⟨ro,D,true⟩ P N ops (cB (fun ρ w=>I true a b e g ρ w) qy) [o0] ρ w)
  (s1:∀c b ρ w,I c false b false false ρ w→WL ⟨ro,D,true⟩ P N ops (cB (fun ρ w=>I c true b false false ρ w) qy) [o1] ρ w)
  (s2:∀c a ρ w,I c a false false false ρ w→WL ⟨ro,D,true⟩ P N ops (cB (fun ρ w=>I c a true false false ρ w) qy) [o2] ρ w)
  (s3:∀c ρ w,I c true true false false ρ w→WL ⟨ro,D,true⟩ P N ops (cB (fun ρ w=>I c true true true false ρ w) qy) [o3] ρ w)
  (s4:∀c ρ w,I c true true true false ρ w→WL ⟨ro,D,true⟩ P N ops (cB (fun ρ w=>I c true true true true ρ w) qy) [o4] ρ w)
  (s5:∀ρ w,I true true true true true ρ w→WL ⟨ro,D,true⟩ P N ops (cB J qy) [o5] ρ w)
  (s6:∀ρ w,J ρ w→WL ⟨ro,D,true⟩ P N ops (cB K qy) [o6] ρ w)
  (fin:∀ρ w,K ρ w→Q .normal ρ w) (st:I false false false false false ρ w):WR ro D P N ops Q 7 #[false,false,false,false,false,false,false] ρ w:=by
 have one:∀{fuel:Nat}{L:Array Bool}{i:Nat}{o:Oper}{ρ:Rf}{w:World}{A:Rf→World→Prop},Region.ready .any ops L=[i]→ops[i]?=some o→WL ⟨ro,D,true⟩ P N ops (cB A qy) [o] ρ w→(∀ρ w,A ρ w→WR ro D P N ops Q fuel (L.setIfInBounds i true) ρ w)→WR ro D P N ops Q (fuel+1) L ρ w:=fun hr ho h hi=>
  yA hr (by simp) fun j hj=>by
   obtain rfl:=XO.1 hj;exact ⟨_,ho,rO h hi⟩
 have two:∀{fuel:Nat}{L:Array Bool}{i j:Nat}{o p:Oper}{ρ:Rf}{w:World}{A B:Rf→World→Prop},Region.ready .any ops L=[i,j]→ops[i]?=some o→ops[j]?=some p→WL ⟨ro,D,true⟩ P N ops (cB A qy) [o] ρ w→(∀ρ w,A ρ w→WR ro D P N ops Q fuel (L.setIfInBounds i true) ρ w)→WL ⟨ro,D,true⟩ P N ops (cB B qy) [p] ρ w→(∀ρ w,B ρ w→WR ro D P N ops Q fuel (L.setIfInBounds j true) ρ w)→WR ro D P N ops Q (fuel+1) L ρ w:=fun hr ho hp h hi h2 hi2=>
  yA hr (by simp) fun k hk=>by
   rcases XL.1 hk with rfl|hk
   ·exact ⟨_,ho,rO h hi⟩
   ·obtain rfl:=XO.1 hk;exact ⟨_,hp,rO h2 hi2⟩
 have n7:∀ρ w,K ρ w→WR ro D P N ops Q 0 #[true,true,true,true,true,true,true] ρ w:=fun ρ w h=>RL q7 (fin ρ w h);have n6:∀ρ w,J ρ w→WR ro D P N ops Q 1 #[true,true,true,true,true,true,false] ρ w:=fun ρ w h=>one q6 e6 (s6 ρ w h) n7;have n5:∀ρ w,I true true true true true ρ w→WR ro D P N ops Q 2 #[true,true,true,true,true,false,false] ρ w:=fun ρ w h=>one q5 e5 (s5 ρ w h) n6;have n4:∀ρ w,I true true true true false ρ w→WR ro D P N ops Q 3 #[true,true,true,true,false,false,false] ρ w:=fun ρ w h=>one q4 e4 (s4 true ρ w h) n5;have m5:∀ρ w,I false true true true true ρ w→WR ro D P N ops Q 3 #[false,true,true,true,true,false,false] ρ w:=fun ρ w h=>one r5 e0 (s0 _ _ _ _ ρ w h) n5;have m4:∀ρ w,I false true true true false ρ w→WR ro D P N ops Q 4 #[false,true,true,true,false,false,false] ρ w:=fun ρ w h=>two r4 e0 e4 (s0 _ _ _ _ ρ w h) n4 (s4 false ρ w h) m5;have n3:∀ρ w,I true true true false false ρ w→WR ro D P N ops Q 4 #[true,true,true,false,false,false,false] ρ w:=fun ρ w h=>one q3 e3 (s3 true ρ w h) n4
 have m3:∀ρ w,I false true true false false ρ w→WR ro D P N ops Q 5 #[false,true,true,false,false,false,false] ρ w:=fun ρ w h=>two r3 e0 e3 (s0 _ _ _ _ ρ w h) n3 (s3 false ρ w h) m4;have n1:∀ρ w,I true true false false false ρ w→WR ro D P N ops Q 5 #[true,true,false,false,false,false,false] ρ w:=fun ρ w h=>one q1 e2 (s2 true true ρ w h) n3;have n2:∀ρ w,I true false true false false ρ w→WR ro D P N ops Q 5 #[true,false,true,false,false,false,false] ρ w:=fun ρ w h=>one q2 e1 (s1 true true ρ w h) n3;have m1:∀ρ w,I false true false false false ρ w→WR ro D P N ops Q 6 #[false,true,false,false,false,false,false] ρ w:=fun ρ w h=>two r1 e0 e2 (s0 _ _ _ _ ρ w h) n1 (s2 false true ρ w h) m3;have m2:∀ρ w,I false false true false false ρ w→WR ro D P N ops Q 6 #[false,false,true,false,false,false,false] ρ w:=fun ρ w h=>two r2 e0 e1 (s0 _ _ _ _ ρ w h) n2 (s1 false true ρ w h) m3;have n0:∀ρ w,I true false false false false ρ w→WR ro D P N ops Q 6 #[true,false,false,false,false,false,false] ρ w:=fun ρ w h=>two q0 e1 e2 (s1 true false ρ w h) n1 (s2 true false ρ w h) n2
 refine yA r0 (by simp) fun k hk=> ?_
 rcases XL.1 hk with rfl|hk
 ·exact ⟨_,e0,rO (s0 _ _ _ _ ρ w st) n0⟩
 ·rcases XL.1 hk with rfl|hk
  ·exact ⟨_,e1,rO (s1 false false ρ w st) m1⟩
  ·obtain rfl:=XO.1 hk;exact ⟨_,e2,rO (s2 false false ρ w st) m2⟩
end
end Go.Proofs.YtolamocnngihpaaGreatDoor
