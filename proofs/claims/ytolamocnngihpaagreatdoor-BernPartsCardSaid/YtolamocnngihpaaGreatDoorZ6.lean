/- Lemmas for bernParts, part 6. -/
import Derived.Laws.OwnMore
import Derived.Test.YtolamocnngihpaaGreatDoorZ5
namespace Go.Proofs.YtolamocnngihpaaGreatDoor
variable {n:Nat}
open Go.RowKit
def vr (n:Nat) (k:Int):Dyadic:=if k<0∨(n:Int)<k then 0 else nD (bin n k.toNat)
theorem DY (k:Int) (h:n≤127):Sz 128 (vr n k):=by
 unfold vr;split
 ·exact Sz.zero _
 ·exact KC (Xi (sX n _) (Nat.pow_lt_pow_right V0 VZ))
set_option maxRecDepth 10000 in
theorem tZ:∀(n:Nat) (N k:Int) (w:World),n≤127→N=n→ -1000≤k→k≤1000→
  Calls Tryz.prog 79 #[.int .i64 N,.int .i64 k] w fun r w'=>r=.returned (.agg #[.bool (nR (vr n k)).neg,.string (nR (vr n k)).bk,.int .i64 (nR (vr n k)).e])∧Below w.heap.size w w':=by
 intro n
 induction n with
 |zero=>
  intro N k w hn hN h1 h2;have hh:=Hp.start w;by_cases hz:k<0∨N<k
  ·have e:vr 0 k=0:=by unfold vr;rw [V5 VZ]
   exact Pb
  ·obtain rfl:k=0:=VZ;have e:vr 0 0=((1:Int):Dyadic):=rfl;rw [e];refine aj (N:=31) (l:=[.int .i64 N,.int .i64 0]) Tryz.func79 rfl rfl (by simp) ?_;exact PT
 |succ n ih=>
  intro N k w hn hN h1 h2;have hh:=Hp.start w;by_cases hz:k<0∨N<k
  ·have e:vr (n+1) k=0:=by unfold vr;rw [V5 VZ]
   exact Pb
  ·by_cases hs:k=0∨k=N
   ·have e:vr (n+1) k=((1:Int):Dyadic):=by
     unfold vr;rw [V6 VZ]
     rcases hs with rfl|h
     ·rw [show Int.toNat 0=0 from rfl,tS];rfl
     ·rw [show k.toNat=n+1 by omega,tp];rfl
    rw [e];by_cases hs1:k=0
    ·refine Eg ?_;exact PT
    ·refine Eg ?_;refine sr ?_;refine bJ hh ?_;intro b4 w4 hh;refine aa (ah (sr (mI ?_)));refine a0 (mB (gT (mI (gT (mI (gT ?_))))));refine bH ?_;refine dR ?_;refine vU ?_;refine ct (mB (gT (mI (gT (mI (gT ?_))))));refine ct ?_;refine dR ?_;exact O2
   ·obtain ⟨j,rfl⟩:∃j:Nat,k=((j+1:Nat):Int):=⟨(k-1).toNat,VZ⟩;have z1:=DY (n:=n) (((j+1:Nat):Int)-1) VZ;have z2:=DY (n:=n) ((j+1:Nat):Int) VZ;have e:vr n (((j+1:Nat):Int)-1)+vr n ((j+1:Nat):Int)=vr (n+1) ((j+1:Nat):Int):=by
     unfold vr;rw [V6 VZ,V6 VZ,V6 VZ,←yW,show (((j+1:Nat):Int)-1).toNat=j by omega,Xd]
     rfl
    have hpl:=fun w1=>rW (nR (vr n (((j+1:Nat):Int)-1))) (nR (vr n ((j+1:Nat):Int))) w1 (z1.ok VZ) (z2.ok VZ);rw [cj,cj,e] at hpl;refine aj (N:=31) (l:=[.int .i64 N,.int .i64 ((j+1:Nat):Int)]) Tryz.func79 rfl rfl (by simp) ?_;refine sr ?_;refine bJ hh ?_;intro b4 w4 hh;refine aa (ah (sr (mI ?_)));refine a0 (mB (gT (mI (gT (mI (gT ?_))))));refine bH ?_;refine dR ?_;refine vU ?_;refine ct (mB (gT (mI (gT (mI (gT ?_))))));refine ct ?_;refine dR ?_;refine aa (cF (ao (ai (sr (mI ?_)))));refine dQ (mI ?_);refine dQ ?_;refine bq hh (ih (N-1) (((j+1:Nat):Int)-1) _ VZ VZ VZ VZ) rfl ?_;intro w25 hh;refine mI ?_;refine dQ (mI ?_);refine bq hh (ih (N-1) ((j+1:Nat):Int) _ VZ VZ VZ VZ) rfl ?_;intro w29 hh;refine bq hh (hpl _) rfl ?_;intro w30 hh;exact Dd
theorem yS:∀(ns:List Nat) (n:Nat),(∀d∈ns,d≤127)→n*ar ns≤65536→1≤n→rD n (bp ns)=true
 |[],_,_,_,_=>rfl
 |d::ns,n,h,hc,h1=>by
  have hd:=h d Wj;have e1:(n:Int)*((d:Int)+1)=((n*(d+1):Nat):Int):=by rw [Xk,X7];rfl
  rw [ar,←Xb] at hc;have h2:n*(d+1)*1≤n*(d+1)*ar ns:=WM _ (cn ns);have ih:=yS ns (n*(d+1)) (fun x hx=>h x (Wl _ hx)) hc (Nat.mul_pos h1 VZ);show (decide (0≤(d:Int)) && (decide ((d:Int)≤127) && (decide ((n:Int)*((d:Int)+1)≤65536) && rD ((n:Int)*((d:Int)+1)) (bp ns))))=true;rw [e1,ih,Wr VZ,Wr VZ,Wr VZ]
  rfl
def kr (ns:List Nat):List ByteArray:=(dp (bp ns)).map fX
theorem xL (ns:List Nat):(kr ns).length=ar ns:=by unfold kr;rw [Wi,Ky,bM]
theorem pG {ns:List Nat}{p:Nat} (h:p<ar ns):(kr ns)[p]?=some (fX (bp (cq ns.reverse p).reverse)):=by
 unfold kr;rw [Wg,Nm (by rw [bM];exact h)]
 rfl
theorem lT (A:Option Addr) (n c:Nat) (ns:List Nat) (w:World) (hS:Sl w A n 1 (a7 (bp ns))) (h12:ns.length≤12) (hlow:∀d∈ns,d≤127) (hmax:ar ns≤65536):
  Calls Tryz.prog 73 #[.slice A n c] w fun r w'=>∃B c',r=.returned (.slice B (ar ns) c')∧w'.ownsRow w.heap.size 9 1 (.slice B (ar ns) c') (ar ns) (gM (kr ns))∧Below w.heap.size w w':=by
 have hh:=Hp.start w;have hln:ns.length=n:=by have:=hS.1;simpa [a7,bp] using this
 have ha:mj (bp ns)=kr ns:=by
  have h1:rD 1 (bp ns)=true:=yS ns 1 hlow (by rw [XP];exact hmax) (V9 _);unfold mj;rw [V5 h1]
  rfl
 have hc:=fun w1 hS1=>CB A n c (bp ns) w1 hS1 VZ;rw [ha,xL] at hc;refine aj (N:=5) (l:=[.slice A n c]) Tryz.func73 rfl rfl (by simp) ?_;refine sr (aL (aa (sr (mL ?_))));refine aE (hc _ (hS.ext hh.below)) au.out rfl V0 ?_;rintro e_ w4 ⟨A4,c4,rfl,hown_,hb_⟩;refine ⟨_,rfl, ?_⟩;replace hh:=hh.aO (x:=.row _ _ _ _ _ _) hb_ hown_;refine aL (aa (av ?_));exact Kg
theorem zN {l:List Nat}{i r:Nat} (h:l[i]?=some r) (hr:r≤255):∃c:UInt8,(fX (bp l)).data.toList[i]?=some c∧c.toNat=r:=by
 refine ⟨qR (r:Int), ?_, ?_⟩
 ·unfold fX;rw [dV,Wg,ez h]
  rfl
 ·exact Qm
theorem pf (A:Option Addr) (n c:Nat) (ns rs:List Nat) (w:World) (hS:Sl w A n 1 (a7 (bp ns))) (hn:n≤1000) (hmax:ar ns≤1000000) (hl:rs.length=ns.length) (hok:∀(i d r:Nat),ns[i]?=some d→rs[i]?=some r→r≤d) (hlow:∀d∈ns,d≤255):
  Calls Tryz.prog 71 #[.slice A n c,.string (fX (bp rs))] w fun r w'=>r=.returned (.int .i64 (eu ns.reverse rs.reverse))∧Below w.heap.size w w':=by
 have hh:=Hp.start w;have hln:ns.length=n:=by have:=hS.1;simpa [a7,bp] using this
 refine aj (N:=26) (l:=[.slice A n c,.string (fX (bp rs))]) Tryz.func71 rfl rfl (by simp) ?_;refine sr (aI (aa (sr (aI (aa (ah (sr (aI (aa (aq ?_))))))))));refine bz [5,6,7,8,9,10,11,12,13,14,15,16,17,18,19,20,21,22,23,24] 5 6
  (fun v5 v w'=>∃(i q:Nat),i≤n∧v=.int .i64 i∧v5=.int .i64 q∧q=eu (ns.take i).reverse (rs.take i).reverse∧q<ar (ns.take i)∧Hp w [] w')
  (fun _ v _=>n-(intOf v).toNat) ?_ ?_
 ·exact KH
 ·clear hh;rintro ρ' v5 v w' ⟨i,q,hi,rfl,rfl,hq,hq2,hh⟩;by_cases hlt:i<n
  ·obtain ⟨d,hd⟩:=al (l:=ns) (k:=i) VZ;obtain ⟨r,hr⟩:=al (l:=rs) (k:=i) VZ;have hgi:=bR (ez hd);have hrd:=hok i d r hd hr;have hd255:=hlow d (Wb hd);obtain ⟨ch,hch,hcr⟩:=zN hr VZ;have hch2:(fX (bp rs)).data.toList[(i:Int).toNat]?=some ch:=hch;have hst:=vk hd hr;have hcs:=uZ hd;rw [bM,bM] at hcs;rw [←hq] at hst;have hct:=gg ns (i+1);have hnew:r+(d+1)*q<(d+1)*ar (ns.take i):=by
    have:(d+1)*(q+1)≤(d+1)*ar (ns.take i):=WM _ hq2;rw [XC] at this;omega
   have hpr:(q:Int)*((d:Int)+1)=(((d+1)*q:Nat):Int):=by rw [Wz,Xk,X7];rfl
   obtain ⟨ad,rfl,hsr⟩:=hS.at_ VZ;refine ah (sr (mI (mL (aF ?_))));refine EB ?_;refine aN 11 [[(5,none)],[(0,none)],[(6,none)],[(14,some 1),(15,some 2)],[(16,some 3)],[(17,some 4)],[(13,some 0),(18,some 5)],[(1,none)],[(6,none)],[(20,some 7),(21,some 8)],[(22,some 9)]] [(10,23),(9,22),(8,21),(7,20),(6,19),(5,18),(4,17),(3,16),(2,15),(1,14),(0,13)] hh mixed V2 ?_;refine dn ?_;refine fD ?_;refine dn ?_;refine nC (i) ?_;refine a6 (i:=4) (fun ρ1 w1 hj hR=>fj aJ.out (show ρ1 16=Value.pointer _ from hR.1) ((hsr.ext hj.hp.below).wN (by assumption))) ?_;refine nX ?_;refine Dq ?_;refine UM ?_;refine dn ?_;refine a6 (i:=9) (fun ρ1 w1 hj hR=>jq a9.out (show ρ1 20=Value.string _ from hR.1) (show ρ1 21=Value.int _ _ from hR.2.1) VZ (by assumption)) ?_;refine a6 (i:=10) (fun ρ1 w1 hj hR=>j5 a9.out a9.out (show ρ1 22=Value.int _ _ from hR.1) VZ VZ) ?_;refine aG ?_;intro f W hJ hV;have hb_5:=hJ.bl;obtain ⟨v23,v22,v21,v20,v19,v18,v17,v16,v15,v14,v13,_⟩:=hV;replace hh:=hJ.hp;refine aU (bg (ae v23 (ae v22 (ae v21 (ae v20 (ae v19 (ae v18 (ae v17 (ae v16 (ae v15 (ae v14 (ae v13 aT)))))))))))) ?_;dsimp only [bI]
   clear hJ;refine bj (aI (az (bF (ai (ak (mI ?_))))));refine bj (aI (az (ai ?_)));rw [hcr,hpr];refine ⟨⟨i+1,r+(d+1)*q,VZ,rfl, ?_,hst.symm,VZ,hh⟩,by show n-(i+1)<n-i;omega, ?_⟩
   ·show Value.int IntKind.i64 ((((d+1)*q:Nat):Int)+(r:Int))=_;rw [show (((d+1)*q:Nat):Int)+(r:Int)=((r+(d+1)*q:Nat):Int) by omega]
   ·exact dF
  ·obtain rfl:i=n:=VZ;rw [Wc VZ,Wc VZ] at hq;refine ah (sr (mI (mL (aF ?_))));refine a0 (aa (cF (aZ (aC (aC (br (ai (sr (mI (aI (aa (av ?_))))))))))));refine cW ?_;exact ⟨by rw [hq],hh.below⟩
theorem jw (L:Option Addr) (n c:Nat) (b:List NR) (M:Option Addr) (c2:Nat) (w:World) (hS:Sl w L n 3 (aA NR.cells b)) (hS2:Sl w M n 3 (aA NR.cells b)) (hn:n≤1000000):
  Calls Tryz.prog 25 #[.slice L n c,.slice M n c2] w fun r w'=>r=.returned (.bool true)∧Below w.heap.size w w':=by
 have hh:=Hp.start w;have hln:=hS.bE NR.len V0;refine aj (N:=26) (l:=[.slice L n c,.slice M n c2]) Tryz.func25 rfl rfl (by simp) ?_;refine Au ?_;refine Fp ?_;refine aW [4,5,11,12,13,14,15,16,17,18,19,20,21,22,23,24,25] 5
  (fun v w'=>∃i:Nat,i≤n∧v=.int .i64 i∧Hp w [] w')
  (fun v _=>n-(intOf v).toNat) ?_ ?_
 ·exact ⟨0,V8 _,rfl,hh⟩
 ·clear hh;rintro ρ' v w' ⟨i,hi,rfl,hh⟩;by_cases hlt:i<n
  ·obtain ⟨s,hs⟩:=al (l:=b) (k:=i) VZ;obtain ⟨ad,rfl,hr⟩:=hS.at_ VZ;obtain ⟨ad2,rfl,hr2⟩:=hS2.at_ VZ;refine ah (sr (mI (mL (aF ?_))));refine oH ?_;refine BL ?_;refine fD ?_;refine dn ?_;refine nC (i) ?_;refine qK [_,_,_] (fun _ hj=>(hr.ext hj.hp.below).recAt NR.len hs) ?_;refine fD ?_;refine dn ?_;refine nC (i) ?_;refine qK [_,_,_] (fun _ hj=>(hr2.ext hj.hp.below).recAt NR.len hs) ?_;refine aG ?_;intro f W hJ hV;have hb_6:=hJ.bl;obtain ⟨v24,v23,v22,v21,v20,v19,v18,v17,_⟩:=hV;replace hh:=hJ.hp;refine zY ?_;dsimp only [bI];clear hJ;refine EU ?_;refine pH ?_;refine bj (aI (az (ai ?_)));exact Iq
  ·refine ah (sr (mI (mL (aF ?_))));refine Ft ?_;refine cW ?_;exact ⟨rfl,hh.below⟩
theorem x7 (A B:Option Addr) (n c m c2:Nat) (A' B':Option Addr) (c' c2':Nat) (ds:List Int) (cs:List NR) (w:World) (hS:Sl w A n 1 (a7 ds)) (hS2:Sl w B m 3 (aA NR.cells cs)) (hS3:Sl w A' n 1 (a7 ds)) (hS4:Sl w B' m 3 (aA NR.cells cs)) (hn:n≤100000) (hm:m≤1000000):
  Calls Tryz.prog 24 #[.agg #[.slice A n c,.slice B m c2],.agg #[.slice A' n c',.slice B' m c2']] w fun r w'=>r=.returned (.bool true)∧Below w.heap.size w w':=by
 have hh:=Hp.start w;have hnum:=fun w1 h1 h2=>vO A A' n n c c' ds ds w1 h1 h2 hn hn;simp only [decide_true] at hnum;refine aj (N:=17) (l:=[.agg #[.slice A n c,.slice B m c2],.agg #[.slice A' n c',.slice B' m c2']]) Tryz.func24 rfl rfl (by simp) ?_;refine sr ?_;refine bV hh [_,_] ?_;intro b2 w2 hh;refine bV hh [_,_] ?_;intro b3 w3 hh;refine aB (aa (sr (bC ?_)));refine bA hh 1 ?_;refine bC ?_;refine bA hh 0 ?_;refine bq hh (hnum _ (hS.ext hh.below) (hS3.ext hh.below)) rfl ?_;intro w9 hh;refine mB (gT (bC (gT ?_)));refine bA hh 1 ?_;refine gT (bC (gT ?_));refine bA hh 0 ?_;refine aH rfl rfl ?_;refine bq hh (jw B m c2 cs B' c2' _ (hS2.ext hh.below) (hS4.ext hh.below) hm) rfl ?_;intro w15 hh;refine fi ?_;exact vP
theorem Bj (A B:Option Addr) (n c m c2:Nat) (ds:List Int) (cs:List NR) (w:World) (hS:Sl w A n 1 (a7 ds)) (hS2:Sl w B m 3 (aA NR.cells cs)) (hn:n≤1000000) (hm:m≤1000000):
  Calls Tryz.prog 19 #[.agg #[.slice A n c,.slice B m c2]] w fun r w'=>∃A' c' B' c2' R,r=.returned (.agg #[.slice A' n c',.slice B' m c2'])∧(R=[.row B' m c2' 40 3 (aA NR.cells cs),.row A' n c' 3 1 (a7 ds)]∨m=0∧R=[.row A' n c' 3 1 (a7 ds)])∧Hp w R w':=by
 have hh:=Hp.start w;have hone:((aA NR.cells cs).all Value.oneCell')=true:=bU NR.one _;have hone2:=bB ds;refine aj (N:=12) (l:=[.agg #[.slice A n c,.slice B m c2]]) Tryz.func19 rfl rfl (by simp) ?_;refine sr ?_;refine bV hh [_,_] ?_;intro b1 w1 hh;refine bJ hh ?_;intro b2 w2 hh;refine aa (ah ?_);refine aN 7 [[],[(1,none)],[(4,some 1)],[(3,some 0),(5,some 2)],[],[(1,none)],[(8,some 5)]] [(6,9),(5,8),(4,7),(3,6),(2,5),(1,4),(0,3)] hh mixed V2 ?_;refine qS (i:=0) a9.out aJ.out (fun w1 hj=>hj.bl.size) ?_;refine da ?_;refine dN 1 ?_;refine ur (i:=3) (fun ρ1 w1 hj hR=>hR.1) (fun ρ1 w1 hj hR=>⟨_,_,(show ρ1 5=Value.slice _ _ _ from hR.2.1),hS.ext hj.hp.below⟩) a9.out aJ.out rfl V0 (by first|rfl|assumption) (by unfold maxLen;omega) VZ (fun w1 hj=>hj.bl.size) ?_;refine qS (i:=4) a9.out aJ.out (fun w1 hj=>hj.bl.size) ?_;refine da ?_;refine dN 1 ?_;refine aG ?_;intro f W hJ hV;have hb_1:=hJ.bl;obtain ⟨v9,v8,v7,v6,v5,v4,v3,_⟩:=hV;obtain ⟨g3,e3,_⟩:yt _ _ _ (f 0) W:=v3;obtain ⟨A6,c6,e6,o6⟩:mw _ _ _ _ _ (f 3) W:=v6;obtain ⟨g7,e7,_⟩:yt _ _ _ (f 4) W:=v7;replace hh:=JJ.yI hh hJ.hp o6;clear o6
 refine aU (bg (ae v9 (ae v8 (ae e7 (ae e6 (ae v5 (ae v4 (ae e3 aT)))))))) ?_;dsimp only [bI];clear e3 e6 e7 hJ;refine pS rfl rfl (hS2.ext hh.below) a9.out aJ.out rfl V0 hone (by unfold maxLen;omega) VZ V0 ?_ ?_
 ·rintro rfl;refine fe [_,_] ?_;refine bL hh 1 [_,_] ?_;intro ws hh;replace hh:Hp _ (_::.blk _ _ [_,_] _::_) _:=hh;refine aa (av ?_);refine xc ?_;exact ⟨_,_,_,_,_,rfl,.inr ⟨rfl,rfl⟩,hh.sub (X1 [_] _)⟩
 ·intro A10 c10 w10 h0 hb ho;replace hh:=hh.aO (x:=.row _ _ _ _ _ _) hb ho;refine fe [_,_] ?_;refine bL hh 2 [_,_] ?_;intro ws hh;replace hh:Hp _ (_::_::.blk _ _ [_,_] _::_) _:=hh;refine aa (av ?_);refine LO (dT rfl (dW (vs:=[_,_]) aJ.out (hh.bP (i:=2) (n:=2) rfl rfl) rfl) e8) ?_;exact ⟨_,_,_,_,_,rfl,.inl rfl,hh.sub (X1 [_,_] _)⟩
variable {j:Nat}{rs:List Nat}
def Vi (ds es:List Nat) (xs ys:List Dyadic) (i m:Nat):List (Nat×Dyadic):=(List.range m).map fun k=>(eu (DC ds es) (DC (cq ds i) (cq es k)),(xs[i]?).getD 0*(ys[k]?).getD 0)
def VV (ds es:List Nat) (xs ys:List Dyadic) (i:Nat):List (Nat×Dyadic):=(List.range i).flatMap fun i=>Vi ds es xs ys i (ar es)
def bS (rs:List Nat):List UInt8:=(bp rs).map qR
theorem Jo {ns:List Nat} (h:mh ns.reverse rs) (j d r:Nat) (h1:ns[j]?=some d) (h2:rs.reverse[j]?=some r):r≤d:=by
 have hl:=yN h;rw [WE] at hl;have hj:=(Wk.1 h1).1;rw [Xh VZ] at h2;refine Ly h ?_ h2;rw [Xh VZ,show ns.length-1-(rs.length-1-j)=j by omega];exact h1
theorem wZ {ns:List Nat} (h:∀d∈ns,d≤127) (hc:ar ns≤4096):kn (bp ns)=ar ns:=by
 have e1:(bp ns).any (fun d=> !ck d)=false:=Ya.2 fun d hd=>by
  unfold bp at hd;obtain ⟨x,hx,rfl⟩:=Wo.1 hd;have:=h x hx;simp [ck];omega
 unfold kn;rw [e1,V6 V0];have h2:=qi ns 1 V0 V0;have h3:sl 1 (bp ns)=((min (1*ar ns) 4097:Nat):Int):=h2;rw [h3];omega
theorem FM {r:Nat} (h:rs[j]?=some r) (hr:r≤255):jB ((bS rs).take (j+1))=jB ((bS rs).take j)++[.int .u8 (r:Int)]:=by
 have h1:(bS rs)[j]?=some (qR (r:Int)):=by unfold bS;rw [Wg,ez h];rfl
 rw [ay h1];unfold jB;rw [WX,Wv,WV];have:(qR (r:Int)).toNat=r:=by
  exact Qm
 rw [this]
def MC (ns:List Nat) (a:Nat):List Nat:=ns.set a (ns.getD a 0+1)
def VR (ns:List Nat) (a:Nat) (xs:List Dyadic):List Dyadic:=
 (List.range (ar (MC ns a))).map fun p=>co ns.reverse xs (cq (MC ns a).reverse p)+if 0<(cq (MC ns a).reverse p).getD (ns.length-1-a) 0 then co ns.reverse xs (T8 (cq (MC ns a).reverse p) (ns.length-1-a)) else 0
theorem iP:∀(ds rs:List Nat),mh ds rs↔rs.length=ds.length∧∀(i d r:Nat),ds[i]?=some d→rs[i]?=some r→r≤d
 |[],[]=>by simp [mh]
 |[],_::_=>by simp [mh]
 |_::_,[]=>by simp [mh]
 |d::ds,r::rs=>by
  rw [mh,iP ds rs];constructor
  ·rintro ⟨h1,h2,h3⟩;refine ⟨by rw [WH,WH,h2],fun i e s he hs=> ?_⟩
   cases i with
   |zero=>cases he;cases hs;exact h1
   |succ i=>exact h3 i e s he hs
  ·rintro ⟨h1,h2⟩;exact ⟨h2 0 d r rfl rfl,by simpa using h1,fun i e s he hs=>h2 (i+1) e s he hs⟩
def VC (ns:List Nat) (xs:List Dyadic) (cs:List Nat) (zs:List Dyadic):Prop:=zs.length=ar cs∧cs.length=ns.length∧(∀(i n c:Nat),ns[i]?=some n→cs[i]?=some c→n≤c)∧∀row:List Nat,row.length=ns.length→co cs.reverse zs row=UJ (RY cs ns).reverse (co ns.reverse xs) row
def U4 (w:World) (b i:Nat):Int:=match w.cell? ⟨b,0,none⟩ with
 |some (.slice (some a) _ _)=>match w.cell? (a.add (i*1)) with
  |some (.int _ z)=>z
  |_=>0
 |_=>0
structure RS (ns ts:List Nat) (xs:List Dyadic) (k n:Nat) (F FC:Option Addr) (c1 c2 i T:Nat) (cur:List Nat) (zs:List Dyadic) (A B:Option Addr) (ca cb:Nat) (R:List HE) (w:World):Prop where
 VD:VC ns xs cur zs
 le:∀(j c t:Nat),cur[j]?=some c→ts[j]?=some t→c≤t
 eq:∀(j c t:Nat),j<i→cur[j]?=some c→ts[j]?=some t→c=t
 sz:∀x∈zs,Sz (k+T) x
 src:(A=F∧ca=c1∧B=FC∧cb=c2∧cur=ns∧zs=xs)∨R=[.row B (ar cur) cb 40 3 (aA NR.cells (zs.map nR)),.row A n ca 3 1 (a7 (bp cur))]
 rd:∀(H:List HE) (w':World),Hp w (H++R) w'→Sl w' A n 1 (a7 (bp cur))∧Sl w' B (ar cur) 3 (aA NR.cells (zs.map nR))
variable {w:World}
theorem Ca (f:FX) (k:Nat) (w:World) (h:f.at_ w) (hl:f.km k):
  Calls Tryz.prog 31 #[.agg #[.slice f.A f.n f.a,.slice f.B f.m f.b]] w fun r w'=>r=.returned (.int .i64 f.e)∧Below w.heap.size w w':=
 vE f.A f.B f.n f.a f.m f.b f.ds f.cs w h.dg h.nm (by have:=hl.Qx;omega) fun a ha=>(hl.num a ha).1
theorem FX.at_.ln {g:FX} (h:g.at_ w):g.ds.length=g.n∧g.cs.length=g.m:=⟨by have:=h.dg.1;rw [bQ] at this;omega,h.nm.bE NR.len V0⟩
def Kept (fs:List FX) (R:List HE) (g:FX):Prop:=g∈fs∨(g.mP∈R∧g.mi∈R)
variable {E:Int}{w0:World}
def SS (E:Int) (D:List Nat):List Int:=if E=0 then bp D else []
def TI (E:Int) (ys:List Dyadic):List NR:=if E=0 then ys.map nR else []
structure Out (E:Int) (D:List Nat) (ys:List Dyadic) (g:FX):Prop where
 ds:g.ds=SS E D
 cs:g.cs=TI E ys
 n:g.n≤100000
 m:g.m≤1000000
def FX.nil:FX:=⟨none,0,0,none,0,0,[],[]⟩
theorem Hp.JX {H:List HE} (h:Hp w0 H w):Hp w0 (FX.nil.mP::FX.nil.mi::H) w:=(h.cx 3 1).cx 40 3
theorem Out.err {D:List Nat}{ys:List Dyadic} (h:E≠0):Out E D ys FX.nil:=⟨by unfold SS;rw [V6 h];rfl,by unfold TI;rw [V6 h];rfl,V8 _,V8 _⟩
theorem Out.same {D:List Nat}{ys:List Dyadic}{g h:FX} (h1:Out E D ys g) (h2:Out E D ys h):g.ds=h.ds∧g.cs=h.cs:=⟨h1.ds.trans h2.ds.symm,h1.cs.trans h2.cs.symm⟩
theorem kD (g h:FX) (w:World) (hg:g.at_ w) (hh:h.at_ w) (e:g.ds=h.ds∧g.cs=h.cs) (hn:g.n≤100000) (hm:g.m≤1000000):
  Calls Tryz.prog 24 #[.agg #[.slice g.A g.n g.a,.slice g.B g.m g.b],.agg #[.slice h.A h.n h.a,.slice h.B h.m h.b]] w fun r w'=>r=.returned (.bool true)∧Below w.heap.size w w':=by
 have l1:=hg.ln;have l2:=hh.ln;obtain ⟨hg1,hg2⟩:=hg;obtain ⟨hh1,hh2⟩:=hh;have e1:h.n=g.n:=by rw [←l1.1,←l2.1,e.1]
 have e2:h.m=g.m:=by rw [←l1.2,←l2.2,e.2]
 rw [←e.1,e1] at hh1;rw [←e.2,e2] at hh2;rw [e1,e2];exact x7 g.A g.B g.n g.a g.m g.b h.A h.B h.a h.b g.ds g.cs w hg1 hg2 hh1 hh2 hn hm
def Uq (f:FX) (es:List Int):Int:=if f.e≠0 then f.e else VG f.ds es
def FX.key (f:FX):List Int×List NR×Nat:=(f.ds,f.cs,f.n)
def UU (base:Nat) (E:Int) (D:List Nat) (ys:List Dyadic):VP:=fun v W=>∃(g:FX) (w1:World),v=.agg #[.slice g.A g.n g.a,.slice g.B g.m g.b]∧Out E D ys g∧base≤w1.heap.size∧Hp w1 [g.mP,g.mi] W
def VI (base:Nat) (E:Int) (D:List Nat) (ys:List Dyadic):VP:=fun v W=>∃(g:FX) (w1:World),v=.tuple #[.agg #[.slice g.A g.n g.a,.slice g.B g.m g.b],.int .i64 E]∧Out E D ys g∧base≤w1.heap.size∧Hp w1 [g.mP,g.mi] W
variable {N m:Nat}{P:Program}{assign body:Code}{α:Type}{ρ:Rf}
instance:aJ Tryz.prog 86 1 false 8 [.nilFunc]:={}
theorem GO {bs:List (Fin m)}{q:Fin m} (h:bs++[q]=(List.finRange m).take (bs++[q]).length) (hb:bs.length<m):bs=(List.finRange m).take bs.length∧q.val=bs.length:=by
 have hl:(bs++[q]).length=bs.length+1:=by simp
 rw [hl] at h;have h1:=Xm (List.take bs.length) h;rw [List.take_left' rfl,Zd,Xg VZ] at h1;have h2:(bs++[q])[bs.length]?=((List.finRange m).take (bs.length+1))[bs.length]?:=by rw [←h]
 rw [Xt (V9 _),Xc,XF,V5 VZ,show (List.finRange m)[bs.length]?=some ⟨bs.length,hb⟩ by rw [Xz (by rw [Y9];exact hb),List.getElem_finRange];rfl] at h2;exact ⟨h1,Xm Fin.val (WT h2)⟩
theorem HO {Q:Kd}{g:Operand}{p:Tmp}{gf:Nat}{lb:Array Value} (q:Nat) (hq:q<N) (hp:p<N) (hg:ev ρ g=.func (.func gf) #[] lb) (eg:∀args w,(callFunc gf args).run P w=.ok (.enter gf args) w)
  {enc:α→Value}{Kp:World→World→Prop}{S:List α→Prop}{Nn:Nat} (hseq:∀n,SeqStopsK Fence.wide n P gf lb (fun x=> #[enc x]) Kp S (fun _=>True) Nn w)
  (hKt:∀{A B C:World},Kp A B→Kp B C→Kp A C) (hKb:∀(W:World) (l:Nat) (o o':Obj),w.heap.size≤l→W.heap[l]?=some o→o.isCells=false→o.isWalk=false→Kp W (W.putObj l o'))
  (I:List α→World→Prop) (hI:OwnFrom w.heap.size I) (h0:I [] w)
  (hassign:∀l x W,WC ⟨some l,[],true⟩ P N assign (cG (fun ρ' W'=>ρ'=cH (cH ρ p (enc x)) q (enc x)∧W'=W) qo) (cH ρ p (enc x)) W)
  (hbody:∀l pre x W,I pre W→pre.length<Nn→WC ⟨some l,[],true⟩ P N body (OO Kp I pre x W) (cH (cH ρ p (enc x)) q (enc x)) W)
  (hdone:∀(D:Nat) (xs:List α) (W:World),w.heap.size≤D→S xs→I xs W→W.heap[D]?=some (.deferred (some []))→Q .normal [D] ρ W):WD P N (.rangeFunc g #[p] assign body) Q ρ w:=
 Kt hp hg eg hseq hKt hKb I hI h0 (fun x=>cH (cH ρ p (enc x)) q (enc x)) (fun x i hi=>by rw [bu _ (fun h=>absurd hq (by rw [←h];exact Nat.not_lt.2 hi)),bu _ (fun h=>absurd hp (by rw [←h];exact Nat.not_lt.2 hi))]) hassign hbody hdone
variable {W:World}
def U7 (n m:Nat) (ds:List Int) (cs:List NR):VP:=fun v W=>∃A a B b,v=.agg #[.slice A n a,.slice B m b]∧n≤a∧Sl W A n 1 (a7 ds)∧Sl W B m 3 (aA NR.cells cs)
theorem JJ.NX {H:List HE}{t1 t2:TypeId}{xs1 xs2:List Value}{n1 c1 s1 n2 c2 s2:Nat}{A1 A2:Option Addr} (hJ:JJ w0 H w W) (hs:Hp w0 H w)
  (o1:W.ownsRow w.heap.size t1 s1 (.slice A1 n1 c1) n1 xs1) (o2:W.ownsRow w.heap.size t2 s2 (.slice A2 n2 c2) n2 xs2) (h12:t1≠t2):Hp w0 (.row A1 n1 c1 t1 s1 xs1::.row A2 n2 c2 t2 s2 xs2::H) W:=by
 have hL:Hp w [.row A1 n1 c1 t1 s1 xs1,.row A2 n2 c2 t2 s2 xs2] W:=by
  refine ⟨hJ.bl,fun x hx=> ?_, ?_⟩
  ·rcases Wp.1 hx with rfl|hx
   ·exact o1
   ·obtain rfl:=Wu.1 hx;exact o2
  ·rw [XE];split
   ·exact Qi
   ·rename_i b1 hb1;refine XR.2 ⟨fun hm=> ?_, ?_⟩
    ·obtain ⟨y,hy,hyb⟩:=Xp.1 hm;obtain rfl:=Wu.1 hy;exact Mz o1 o2 h12 b1 hb1 hyb
    ·exact Qi
 exact hs.join hL
instance:aJ Tryz.prog 86 1 false 8 [.nilFunc]:={}
def UE (up:Bool) (s:Dyadic) (ns:List Nat) (a:Nat) (xs:List Dyadic):List Dyadic:=gR ns.reverse (ns.length-1-a) (if up then Ui (ns.getD a 0) s else Un (ns.getD a 0) s) xs
def ej (fx:FX) (ax:Int):Int:=if fx.e≠0 then fx.e else if ax<0∨(fx.n:Int)≤ax then 1 else 0
def Vq (e:Int):Ending:=.returned (.tuple #[.agg #[.slice none 0 0,.slice none 0 0],.agg #[.slice none 0 0,.slice none 0 0],.int .i64 e])
def Ue (n:Nat) (h:Int):Bool:=decide (h<0∨(n:Int)≤h.tdiv 2)
variable {fuel:Nat}{ops:Array Oper}{pos:String}
theorem dk {Q:Kq}{L:Array Bool}{i d:Nat}{op:Op}{ty:TypeId}{af:Array Edge}{v:Value} (hq:NP Q) (hi:ops[i]?=some ⟨some d,op,ty,pos,af,none⟩) (hs:Region.noSelect ops=true) (hf:Region.free .any ops L i=true) (hr:(Region.ready .any ops L).contains i=true)
  (hv:∀w,(execOp (ev ρ) ⟨some d,op,ty,pos,af,none⟩).run P w=.ok (.value v) w) (hN:d<N) (h:WA P N ops Q fuel (L.setIfInBounds i true) (cH ρ d v) w):WA P N ops Q (fuel+1) L ρ w:=
 ⟨fun a hfit=>wpAny_first hi (Region.noSelect_spec hs) (fun c a w ⟨ρ',_,hq'⟩=>(hq c ρ' w hq').elim) fuel L a w (Region.free_spec hi hf) (by simpa using hr) (.inl ⟨by simp [Region.wanted],fun w=>by rw [hfit.eval];exact hv w⟩) (h.out _ (hfit.put hN v))⟩
def Tw (ns:List Nat) (xs:List Dyadic) (h:Int):List Dyadic:=UE (decide (h % 2=1)) (p5 (-1)) ns (h/2).toNat xs
def U0 (ns:List Nat) (xs:List Dyadic) (hs:List Int):List Dyadic:=hs.foldl (Tw ns) xs
variable {β:Type}
theorem Jl {l:List α}{f g:α→List β} (h:∀a∈l,f a=g a):l.flatMap f=l.flatMap g:=by
 rw [List.flatMap_def,List.flatMap_def,XW h]
theorem nx (m n:Nat):List.range (m*n)=(List.range n).flatMap fun q=>(List.range m).map fun r=>r+m*q:=by
 induction n with
 |zero=>rfl
 |succ n ih=>
  rw [XC,List.range_add,ih,YJ,Yu,List.flatMap_singleton];congr 1;exact XW fun r _=>X6 _ _
def S0 (A B:List Nat) (d t:Nat):List Nat:=(List.range (ar B)).flatMap fun q=>(List.range (ar A)).map fun f=>cI A d f t q
def UP (A B:List Nat) (d t:Nat) (xs:List Dyadic):List Dyadic:=(S0 A B d t).map fun p=>(xs[p]?).getD 0
def Vf (A:List Nat) (d:Nat) (B:List Nat) (X:List Dyadic) (ta tb:List Dyadic) (r:Nat):Dyadic:=sR (A++B) fun row=>co (A++d::B) X (row.take A.length++r::row.drop A.length)*Np (A++B) row (ta++tb)
def kY:List Nat→List Nat→List Nat
 |[],_=>[]
 |_::_,[]=>[]
 |d::ds,k::ks=>d*k::kY ds ks
theorem B1:∀(ds ks:List Nat),ks.length=ds.length→(∀k∈ks,k≤1)→mh ds (kY ds ks)
 |[],[],_,_=>trivial
 |[],_::_,h,_=>by cases h
 |_::_,[],h,_=>by cases h
 |d::ds,k::ks,h,h3=>by
  refine ⟨?_,B1 ds ks (by simpa using h) fun x hx=>h3 x (Wl _ hx)⟩;have:=h3 k Wj
  rcases (by omega:k=0∨k=1) with rfl|rfl<;>omega
theorem xR (L:Option Addr) (n c d:Nat) (xs:List Dyadic) (k:Nat) (w:World) (hT:er w) (hS:Sl w L n 3 (aA NR.cells (xs.map nR))) (hn:n=d+1) (hd:d≤127) (hx:∀x∈xs,Sz k x) (hk:k≤500000):
  Calls Tryz.prog 50 #[.slice L n c] w fun r w'=>∃A c',r=.returned (.slice A n c')∧Hp w [.row A n c' 40 3 (aA NR.cells ((kK d (eV d 1 1) xs).map nR))] w':=by
 have hh:=Hp.start w;have hln:xs.length=n:=by have:=hS.bE NR.len V0;simpa using this
 have ha:Sz 1 1:=Sz.one;obtain ⟨ad,rfl,hr⟩:=hS.at_ VZ;refine aj (N:=52) (l:=[.slice (some ad) n c]) Tryz.func50 rfl rfl (by simp) ?_;refine sr (aL (aa (sr (mL (aF ?_)))));refine dQ (aI (aa (sr (mI ?_))));refine bj ?_;refine K4 ?_;intro b14 w14 hh;refine sa ?_;rw [nu,hn,←uC d 1 1 xs,←hn] at hh;refine aW [5,6,7,8,17,18,19,20,21,22,23,24,25,26,27,28,29,30,31,32,33,34,35,36,37,38,39,40,41,42,43,44,45,46,47,48,49,50] 17
  (fun v w'=>∃i:Nat,i≤n∧v=.int .i64 i∧Hp w [.row (some ⟨b14,0,none⟩) n n 40 3 (aA NR.cells ((iz d 1 1 xs i 0).map nR))] w')
  (fun v _=>n-(intOf v).toNat) ?_ ?_
 ·exact ⟨0,V8 _,rfl,hh⟩
 ·clear hh;rintro ρ' v w' ⟨i,hi,rfl,hh⟩;by_cases hlt:i<n
  ·obtain ⟨x,hxi⟩:=al (l:=xs) (k:=i) VZ;have hxn:(xs.map nR)[i]?=some (nR x):=by rw [Wg,hxi];rfl
   have hat:iX xs i=x:=by unfold iX;rw [hxi];rfl
   have zx:=hx x (Wb hxi);have hch:=fun w1 hT1=>kR (d-i) w1 hT1 VZ;refine sr ?_;refine dY ?_;refine cA ?_;refine Jq ?_;refine bJ hh ?_;intro b6 w6 hh;refine aI ?_;refine bL hh 0 [_,_,_] ?_;intro ws hh;replace hh:Hp _ (.blk _ _ [_,_,_] _::_) _:=hh;refine aa (sr (mI (mI ?_)));refine dQ ?_;have e24:(n:Int)-1-(i:Int)=((d-i:Nat):Int):=VZ;rw [←e24] at hch;refine aE (hch _ (hT.hp hh)) au.out rfl V0 ?_;rintro e_ w25 ⟨A25,c25,rfl,hown_,hb_⟩;refine ⟨_,rfl, ?_⟩;replace hh:=hh.aO (x:=.row _ _ _ _ _ _) hb_ hown_;refine aF (mI (aa (aq ?_)));replace hh:=hh.sub (V7 _ (V7 _ (V7 _ Wx)));refine aW [7,8,27,28,29,30,31,32,33,34,35,36,37,38,39,40,41,42,43,44,45,46,47,48,49] 27
    (fun v w'=>∃j:Nat,j≤d-i+1∧v=.int .i64 j∧Hp w [.row A25 (d-i+1) c25 40 3 (aA NR.cells (lk (d-i))),.blk b6 40 [.bool (nR x).neg,.string (nR x).bk,.int .i64 (nR x).e] (0,0),.row (some ⟨b14,0,none⟩) n n 40 3 (aA NR.cells ((iz d 1 1 xs i j).map nR))] w')
    (fun v _=>d-i+1-(intOf v).toNat) ?_ ?_
   ·exact ⟨0,V8 _,rfl,hh⟩
   ·clear hh;rintro ρ2 v w2 ⟨j,hj,rfl,hh⟩;by_cases hjn:j<d-i+1
    ·have hbn:(lk (d-i))[j]?=some (nR (nD (bin (d-i) j))):=kE VZ;have zb:=qQ (d-i) j VZ;obtain ⟨o,ho⟩:=al (l:=iz d 1 1 xs i j) (k:=i+j) (by rw [ke];omega);have hon:((iz d 1 1 xs i j).map nR)[i+j]?=some (nR o):=by rw [Wg,ho];rfl
     have zo:=FY (j:=j) hx ha ha hd (show i≤d+1 by omega) o (Wb ho);have zy:=zx.mul zb;have hm2:=fun A cc w1 hT1 hS1=>fk A 2 cc [nR x,nR (nD (bin (d-i) j))] w1 hT1 hS1 (by simpa using ⟨zx.ok VZ,zb.ok VZ⟩) 600000 (by simpa [cj] using ⟨zx.mono VZ,zb.mono VZ⟩) VZ VZ;rw [show ik ([nR x,nR (nD (bin (d-i) j))].map NR.d)=x*nD (bin (d-i) j) by simp only [Wv,WV,cj];show 1*x*_=_;rw [Yt]] at hm2;have hset:=zA (show i+j≤d by omega) ho;have hval:iX xs i*eV d 1 1 i (i+j)=x*nD (bin (d-i) j):=by
      unfold eV;rw [hat,V6 VZ,show i+j-i=j by omega,qU,qU];generalize nD (bin (d-i) j)=u;grind
     rw [hval] at hset;generalize x*nD (bin (d-i) j)=y at*;have hsum:=fun A cc w1 hT1 hS1=>iW A 2 cc [nR o,nR y] w1 hT1 hS1 (by simpa using ⟨zo.ok VZ,zy.ok VZ⟩) 2000000 (by simpa [cj] using ⟨zo.mono VZ,zy.mono VZ⟩) VZ;rw [show mv ([nR o,nR y].map NR.d)=o+y by simp only [Wv,WV,cj,k8]] at hsum;have hll:((iz d 1 1 xs i j).map nR).length=n:=by rw [Wi,ke];omega
     generalize iz d 1 1 xs i j=S at*;have hrl:=fy NR.len (S.map nR);obtain ⟨gw,rfl⟩:=hh.bZ (i:=0) rfl VZ;refine sr ?_;refine dY ?_;refine rL ?_;refine Qd ?_;refine bJ hh ?_;intro b8 w8 hh;refine aI ?_;refine bL hh 0 [_,_,_] ?_;intro ws hh;replace hh:Hp _ (.blk _ _ [_,_,_] _::_) _:=hh;refine aa ?_;refine aN 16 [[(4,none)],[(5,none)],[(7,none)],[(33,some 1),(34,some 2)],[(4,none)],[(5,none)],[(7,none)],[(37,some 5),(38,some 6)],[(36,some 4),(39,some 7)],[(40,some 8)],[(6,none)],[(8,none)],[(42,some 10),(43,some 11)],[(44,some 12)],[(41,some 9),(45,some 13)],[(46,some 14)]] [(15,47),(14,46),(13,45),(12,44),(11,43),(10,42),(9,41),(8,40),(7,39),(6,38),(5,37),(4,36),(3,35),(2,34),(1,33),(0,32)] hh mixed V2 ?_;refine fD ?_;refine dn ?_;refine dn ?_;refine nX ?_;refine fD ?_;refine dn ?_;refine dn ?_;refine nX ?_;refine Gn ((i+j)) ?_;refine qK [_,_,_] (fun _ hj=>hj.hp.iF (f:=NR.cells) (x:=nR o) (l:=S.map nR) (i:=3) rfl NR.len V0 hon) ?_;refine eJ 2 [_,_,_] ?_;refine eJ 0 [_,_,_] ?_;refine rh [_,_,_,_,_,_] ?_
     refine aP (i:=13) (Is (.agg #[.bool (nR y).neg,.string (nR y).bk,.int .i64 (nR y).e])) Is.ext ?_ ?_
     ·intro ρ1 w1 hj hR;obtain ⟨A44,c44,h44,s44⟩:=hR.1;exact bf rfl (aQ au.out (aw h44 a8)) (hm2 A44 c44 _ (hT.hp hj.hp) s44) (fun _ _ hq=>⟨_,hq.1,hq.2,rfl⟩)
     refine rh [_,_,_,_,_,_] ?_;refine aP (i:=15) (Is (.agg #[.bool (nR (o+y)).neg,.string (nR (o+y)).bk,.int .i64 (nR (o+y)).e])) Is.ext ?_ ?_
     ·intro ρ1 w1 hj hR;obtain ⟨A46,c46,h46,s46⟩:=hR.1;exact bf rfl (aQ au.out (aw h46 a8)) (hsum A46 c46 _ (hT.hp hj.hp) s46) (fun _ _ hq=>⟨_,hq.1,hq.2,rfl⟩)
     refine aG ?_;intro f W hJ hV;have hb_9:=hJ.bl;obtain ⟨v47,v46,v45,v44,v43,v42,v41,v40,v39,v38,v37,v36,v35,v34,v33,v32,_⟩:=hV;obtain ⟨A44,c44,e44,f44⟩:Rows _ _ _ (f 12) W:=v44;obtain ⟨A46,c46,e46,f46⟩:Rows _ _ _ (f 14) W:=v46;replace hh:=hJ.hp;refine aU (bg (ae v47 (ae e46 (ae v45 (ae e44 (ae v43 (ae v42 (ae v41 (ae v40 (ae v39 (ae v38 (ae v37 (ae v36 (ae v35 (ae v34 (ae v33 (ae v32 aT))))))))))))))))) ?_;dsimp only [bI];clear e44 e46 hJ;exact Pj
    ·exact P9
  ·obtain rfl:i=n:=VZ;rw [show iz d 1 1 xs i 0=kK d (eV d 1 1) xs by rw [hn,xd]] at hh;exact Q0
section
variable {P:Program}{N:Nat}{ops:Array Oper}{Q:Kq}{ρ:Rf}{w:World}{rest:List Oper}{d ty:Nat}{pos:String}{af:Array Edge}
theorem Uc (a:Int):IntKind.i64.wrap (BitVec.ofInt IntKind.i64.bits a &&& BitVec.ofInt IntKind.i64.bits 1).toNat=a % 2:=by
 have h1:(BitVec.ofInt IntKind.i64.bits a &&& BitVec.ofInt IntKind.i64.bits 1).toNat=(a % 2).toNat:=by
  show (BitVec.ofInt 64 a &&& BitVec.ofInt 64 1).toNat=_;rw [BitVec.toNat_and,show (BitVec.ofInt 64 1).toNat=2^1-1 by decide,Nat.and_two_pow_sub_one_eq_mod,BitVec.toNat_ofInt];omega
 rw [h1,j6 VZ VZ];omega
theorem DW {t u:Nat}{x y:Operand}{a:Int} (hx:ev ρ x=.int .i64 a) (hy:ev ρ y=.int .i64 1) (hN:d<N) (kk:WL .plain P N ops Q rest (cH ρ d (.int .i64 (a % 2))) w):WL .plain P N ops Q (⟨some d,.binOp .and t x y u,ty,pos,af,none⟩::rest) ρ w:=
 aR rfl rfl hN (by rw [PB hx hy,Uc]) kk
end
theorem xA (j:Nat):j % 2=0∧(-1:Dyadic)^j=1∨j % 2=1∧(-1:Dyadic)^j= -1:=by
 induction j with
 |zero=>exact .inl ⟨rfl,by grind⟩
 |succ n ih=>
  rcases ih with ⟨h,e⟩|⟨h,e⟩
  ·exact .inr ⟨VZ,by grind⟩
  ·exact .inl ⟨VZ,by grind⟩
theorem qB {ns:List Nat}{i d:Nat} (h:ns[i]?=some d):ns.reverse=(ns.drop (i+1)).reverse++d::(ns.take i).reverse:=by
 exact St
theorem uu (L:Option Addr) (n c d:Nat) (xs:List Dyadic) (k:Nat) (w:World) (hT:er w) (hS:Sl w L n 3 (aA NR.cells (xs.map nR))) (hn:n=d+1) (hd:d≤127) (hx:∀x∈xs,Sz k x) (hk:k≤500000):
  Calls Tryz.prog 81 #[.slice L n c] w fun r w'=>∃A c',r=.returned (.slice A n c')∧Hp w [.row A n c' 40 3 (aA NR.cells ((kK d (eV d 1 (-1)) xs).map nR))] w':=by
 have hh:=Hp.start w;have hln:xs.length=n:=by have:=hS.bE NR.len V0;simpa using this
 have ha:Sz 1 1:=Sz.one;obtain ⟨ad,rfl,hr⟩:=hS.at_ VZ;refine aj (N:=57) (l:=[.slice (some ad) n c]) Tryz.func81 rfl rfl (by simp) ?_;refine sr (aL (aa (sr (mL (aF ?_)))));refine dQ (aI (aa (sr (mI ?_))));refine bj ?_;refine K4 ?_;intro b14 w14 hh;refine sa ?_;rw [nu,hn,←uC d 1 (-1) xs,←hn] at hh;refine aW [5,6,7,8,17,18,19,20,21,22,23,24,25,26,27,28,29,30,31,32,33,34,35,36,37,38,39,40,41,42,43,44,45,46,47,48,49,50,51,52,53,54,55] 17
  (fun v w'=>∃i:Nat,i≤n∧v=.int .i64 i∧Hp w [.row (some ⟨b14,0,none⟩) n n 40 3 (aA NR.cells ((iz d 1 (-1) xs i 0).map nR))] w')
  (fun v _=>n-(intOf v).toNat) ?_ ?_
 ·exact ⟨0,V8 _,rfl,hh⟩
 ·clear hh;rintro ρ' v w' ⟨i,hi,rfl,hh⟩;by_cases hlt:i<n
  ·obtain ⟨x,hxi⟩:=al (l:=xs) (k:=i) VZ;have hxn:(xs.map nR)[i]?=some (nR x):=by rw [Wg,hxi];rfl
   have hat:iX xs i=x:=by unfold iX;rw [hxi];rfl
   have zx:=hx x (Wb hxi);have hch:=fun w1 hT1=>kR (d-i) w1 hT1 VZ;refine sr ?_;refine dY ?_;refine cA ?_;refine Jq ?_;refine bJ hh ?_;intro b6 w6 hh;refine aI ?_;refine bL hh 0 [_,_,_] ?_;intro ws hh;replace hh:Hp _ (.blk _ _ [_,_,_] _::_) _:=hh;refine aa (sr (mI (mI ?_)));refine dQ ?_;have e24:(n:Int)-1-(i:Int)=((d-i:Nat):Int):=VZ;rw [←e24] at hch;refine aE (hch _ (hT.hp hh)) au.out rfl V0 ?_;rintro e_ w25 ⟨A25,c25,rfl,hown_,hb_⟩;refine ⟨_,rfl, ?_⟩;replace hh:=hh.aO (x:=.row _ _ _ _ _ _) hb_ hown_;refine aF (mI (aa (aq ?_)));replace hh:=hh.sub (V7 _ (V7 _ (V7 _ Wx)));refine aW [7,8,27,28,29,30,31,32,33,34,35,36,37,38,39,40,41,42,43,44,45,46,47,48,49,50,51,52,53,54] 27
    (fun v w'=>∃j:Nat,j≤d-i+1∧v=.int .i64 j∧Hp w [.row A25 (d-i+1) c25 40 3 (aA NR.cells (lk (d-i))),.blk b6 40 [.bool (nR x).neg,.string (nR x).bk,.int .i64 (nR x).e] (0,0),.row (some ⟨b14,0,none⟩) n n 40 3 (aA NR.cells ((iz d 1 (-1) xs i j).map nR))] w')
    (fun v _=>d-i+1-(intOf v).toNat) ?_ ?_
   ·exact ⟨0,V8 _,rfl,hh⟩
   ·clear hh;rintro ρ2 v w2 ⟨j,hj,rfl,hh⟩;by_cases hjn:j<d-i+1
    ·have hbn:(lk (d-i))[j]?=some (nR (nD (bin (d-i) j))):=kE VZ;have zb:=qQ (d-i) j VZ;obtain ⟨o,ho⟩:=al (l:=iz d 1 (-1) xs i j) (k:=i+j) (by rw [ke];omega);have hon:((iz d 1 (-1) xs i j).map nR)[i+j]?=some (nR o):=by rw [Wg,ho];rfl
     have zo:=FY (j:=j) hx ha (show Sz 1 (-1:Dyadic) from Sz.one.neg) hd (show i≤d+1 by omega) o (Wb ho);have zy:=zx.mul zb;have hset:=zA (a:=1) (b:= -1) (xs:=xs) (show i+j≤d by omega) ho;have hval:iX xs i*eV d 1 (-1) i (i+j)=x*(nD (bin (d-i) j)*(-1:Dyadic)^j):=by
      unfold eV;rw [hat,V6 VZ,show i+j-i=j by omega,qU];generalize nD (bin (d-i) j)=u;generalize (-1:Dyadic)^j=e;grind
     rw [hval] at hset;have zu:Sz (130+1) (nD (bin (d-i) j)*(-1:Dyadic)^j):=by
      rcases xA j with e|e
      ·rw [e.2,Dyadic.mul_one];exact zb.mono VZ
      ·rw [e.2,show nD (bin (d-i) j)*(-1:Dyadic)= - nD (bin (d-i) j) by grind];exact zb.neg.mono VZ
     have zbo:(nR (nD (bin (d-i) j))).ok:=zb.ok VZ;have hng:=fun w1 hT1=>oN (nR (nD (bin (d-i) j))) w1 hT1 (by have:=zbo.1;omega) (by have:=zbo.2.1;omega) (by have:=zbo.2.2;omega);rw [cj] at hng;have hsg:=xA j;have hll:((iz d 1 (-1) xs i j).map nR).length=n:=by rw [Wi,ke];omega
     generalize iz d 1 (-1) xs i j=S at*;obtain ⟨gw,rfl⟩:=hh.bZ (i:=0) rfl VZ;refine sr ?_;refine dY ?_;refine rL ?_;refine Qd ?_
     rcases hsg with ⟨h2,he⟩|⟨h2,he⟩
     ·refine bJ hh ?_;intro b8 w8 hh;refine aI ?_;refine bL hh 0 [_,_,_] ?_;intro ws hh;replace hh:Hp _ (.blk _ _ [_,_,_] _::_) _:=hh;refine aa (ah (sr (mI ?_)));refine DW rfl rfl V0 ?_;refine ct (aa (cF (ao (ai ?_))));rw [he,Dyadic.mul_one] at hset zu;generalize nD (bin (d-i) j)=u at*;exact Pq
     ·refine bJ hh ?_;intro b8 w8 hh;refine aI ?_;refine bL hh 0 [_,_,_] ?_;intro ws hh;replace hh:Hp _ (.blk _ _ [_,_,_] _::_) _:=hh;refine aa (ah (sr (mI ?_)));refine DW rfl rfl V0 ?_;refine ct (aa (cT (ak ?_)));refine bY hh 0 [_,_,_] ?_;refine bq hh (hng _ (hT.hp hh)) rfl ?_;intro w36 hh;rw [he,show nD (bin (d-i) j)*(-1:Dyadic)= - nD (bin (d-i) j) by grind] at hset zu;refine bL hh 0 [_,_,_] ?_;intro ws hh;replace hh:Hp _ (.blk _ _ [_,_,_] _::_) _:=hh;refine aa ?_;generalize-nD (bin (d-i) j)=u at*;exact Pq
    ·exact P9
  ·obtain rfl:i=n:=VZ;rw [show iz d 1 (-1) xs i 0=kK d (eV d 1 (-1)) xs by rw [hn,xd]] at hh;exact Q0
theorem UG (z:Int) (h:z.natAbs<256):Sz 24 (z:Dyadic):=JK (e:=0) h V0 V0
def Lm (d:Nat) (xs:List Dyadic) (i:Nat):Dyadic:=iX xs (i+1)*(((i:Int)+1:Int):Dyadic)-iX xs i*(((d:Int)-(i:Int):Int):Dyadic)
def qj (d:Nat) (xs:List Dyadic):List Dyadic:=(List.range d).map (Lm d xs)
theorem AK (d:Nat) (xs:List Dyadic):(qj d xs).length=d:=by simp [qj]
theorem Fk {d i:Nat}{xs:List Dyadic} (h:i<d):(qj d xs)[i]?=some (Lm d xs i):=by
 unfold qj;rw [Wg,W8 h]
 rfl
theorem Bo (L:Option Addr) (n c d:Nat) (xs:List Dyadic) (k:Nat) (w:World) (hT:er w) (hS:Sl w L n 3 (aA NR.cells (xs.map nR))) (hn:n=d+1) (hd:d≤127) (hx:∀x∈xs,Sz k x) (hk:k≤500000):
  Calls Tryz.prog 74 #[.slice L n c] w fun r w'=>∃A c',r=.returned (.slice A d c')∧Hp w [.row A d c' 40 3 (aA NR.cells ((qj d xs).map nR))] w':=by
 have hh:=Hp.start w;have hln:xs.length=n:=by have:=hS.bE NR.len V0;simpa using this
 obtain ⟨ad,rfl,hr⟩:=hS.at_ VZ;have hsl:=AK d xs;refine aj (N:=41) (l:=[.slice (some ad) n c]) Tryz.func74 rfl rfl (by simp) ?_;refine sr (aL (aa (sr (mL (aF ?_)))));refine dQ (aI (aa (sr (aL (aa (ah (sr (mI (mI (aa (aq ?_)))))))))));replace hh:=hh.cx 40 3;refine bz [4,5,6,11,12,13,14,15,16,17,18,19,20,21,22,23,24,25,26,27,28,29,30,31,32,33,34,35,36,37,38,39] 4 11
  (fun a v w'=>∃(i:Nat) (A:Option Addr) (ac:Nat),i≤d∧v=.int .i64 i∧a=.slice A i ac∧Hp w [.row A i ac 40 3 (aA NR.cells (((qj d xs).take i).map nR))] w')
  (fun _ v _=>d-(intOf v).toNat) ?_ ?_
 ·exact ⟨0,none,0,V8 _,rfl,rfl,hh⟩
 ·clear hh;rintro ρ' a_ v w' ⟨i,A,ac,hi,rfl,rfl,hh⟩;by_cases hlt:i<d
  ·obtain ⟨x,hxi⟩:=al (l:=xs) (k:=i) VZ;obtain ⟨y,hyi⟩:=al (l:=xs) (k:=i+1) VZ;have hxn:(xs.map nR)[i]?=some (nR x):=by rw [Wg,hxi];rfl
   have hyn:(xs.map nR)[i+1]?=some (nR y):=by rw [Wg,hyi];rfl
   have zx:=hx x (Wb hxi);have zy:=hx y (Wb hyi);have z1:=UG ((i:Int)+1) VZ;have z2:=UG ((d:Int)-(i:Int)) VZ;have hv:Lm d xs i=y*(((i:Int)+1:Int):Dyadic)-x*(((d:Int)-(i:Int):Int):Dyadic):=by
    unfold Lm iX;rw [hxi,hyi]
    rfl
   have hat:=Fk (xs:=xs) hlt;rw [hv] at hat;have hof1:=fun w1 hT1=>lj ((i:Int)+1) w1 hT1 VZ VZ;have hof2:=fun w1 hT1=>lj ((d:Int)-(i:Int)) w1 hT1 VZ VZ;generalize (((i:Int)+1:Int):Dyadic)=e1 at*;generalize (((d:Int)-(i:Int):Int):Dyadic)=e2 at*;rw [show (d:Int)-(i:Int)=(n:Int)-1-(i:Int) by omega] at hof2;have zp:=zy.mul z1;have zq:=zx.mul z2;have hm1:=fun A cc w1 hT1 hS1=>fk A 2 cc [nR y,nR e1] w1 hT1 hS1 (by simpa using ⟨zy.ok VZ,z1.ok VZ⟩) 600000 (by simpa [cj] using ⟨zy.mono VZ,z1.mono VZ⟩) VZ VZ;rw [show ik ([nR y,nR e1].map NR.d)=y*e1 by simp only [Wv,WV,cj];show 1*y*_=_;rw [Yt]] at hm1;have hm2:=fun A cc w1 hT1 hS1=>fk A 2 cc [nR x,nR e2] w1 hT1 hS1 (by simpa using ⟨zx.ok VZ,z2.ok VZ⟩) 600000 (by simpa [cj] using ⟨zx.mono VZ,z2.mono VZ⟩) VZ VZ;rw [show ik ([nR x,nR e2].map NR.d)=x*e2 by simp only [Wv,WV,cj];show 1*x*_=_;rw [Yt]] at hm2;generalize y*e1=p at*;generalize x*e2=q at*
   have hsb:=fun w1 hT1=>l9 (nR p) (nR q) w1 hT1 (zp.ok VZ) (zq.ok VZ) (k+24) (by rw [cj];exact zp) (by rw [cj];exact zq) VZ;rw [cj,cj] at hsb;refine sr ?_;refine a0 (aa (ah (cT (ao (ai (ah (aq (sr (mI (aI (aa (ah ?_))))))))))));refine aN 11 [[(0,none)],[(5,none)],[(15,some 1)],[(14,some 0),(16,some 2)],[(17,some 3)],[(5,none)],[(19,some 5)],[(20,some 6)],[(18,some 4),(21,some 7)],[(22,some 8)],[]] [(10,6),(9,23),(8,22),(7,21),(6,20),(5,19),(4,18),(3,17),(2,16),(1,15),(0,14)] hh mixed V2 ?_;refine fD ?_;refine dn ?_;refine nX ?_;refine a6 (i:=3) (fun ρ1 w1 hj hR=>du a9.out aJ.size (show ρ1 14=Value.slice _ _ _ from hR.1) (show ρ1 16=Value.int _ _ from hR.2.1) VZ VZ) ?_;refine qK [_,_,_] (fun _ hj=>(hr.ext hj.hp.below).recAt NR.len hyn) ?_;refine dn ?_;refine nX ?_;refine dC (fun _ hj=>hof1 _ (hT.hp hj.hp)) ?_;refine rh [_,_,_,_,_,_] ?_;refine aP (i:=9) (Is (.agg #[.bool (nR p).neg,.string (nR p).bk,.int .i64 (nR p).e])) Is.ext ?_ ?_
   ·intro ρ1 w1 hj hR;obtain ⟨A22,c22,h22,s22⟩:=hR.1;exact bf rfl (aQ au.out (aw h22 a8)) (hm1 A22 c22 _ (hT.hp hj.hp) s22) (fun _ _ hq=>⟨_,hq.1,hq.2,rfl⟩)
   refine aP (i:=10) (cu _ 40 _) cu.ext (fun ρ1 w1 hj hR=>gL aJ.out hj.bl (fun v w2 h hb=>⟨hb,h⟩)) ?_;refine aG ?_;intro f W hJ hV;have hb_6:=hJ.bl;obtain ⟨v6,v23,v22,v21,v20,v19,v18,v17,v16,v15,v14,_⟩:=hV;obtain ⟨A22,c22,e22,f22⟩:Rows _ _ _ (f 8) W:=v22;obtain ⟨b6,e6,hl6,hc6⟩:cu _ _ _ (f 10) W:=v6;replace hh:=hJ.newVar hh hl6 hc6;refine aU (bg (ae e6 (ae v23 (ae e22 (ae v21 (ae v20 (ae v19 (ae v18 (ae v17 (ae v16 (ae v15 (ae v14 aT)))))))))))) ?_;dsimp only [bI];clear e22 e6 hJ;refine bL hh 0 [_,_,_] ?_;intro ws hh;replace hh:Hp _ (.blk _ _ [_,_,_] _::_) _:=hh;refine aa ?_;refine aN 14 [[(4,none)],[(6,none)],[(0,none)],[(5,none)],[(26,some 2),(27,some 3)],[(28,some 4)],[(3,none)],[(5,none)],[(30,some 6),(31,some 7)],[(32,some 8)],[(29,some 5),(33,some 9)],[(34,some 10)],[(25,some 1),(35,some 11)],[(36,some 12)]] [(13,37),(12,36),(11,35),(10,34),(9,33),(8,32),(7,31),(6,30),(5,29),(4,28),(3,27),(2,26),(1,25),(0,24)] hh mixed V2 ?_;refine fD ?_;refine eJ 0 [_,_,_] ?_;refine fD ?_;refine dn ?_
   refine a6 (i:=4) (fun ρ1 w1 hj hR=>du a9.out aJ.size (show ρ1 26=Value.slice _ _ _ from hR.1) (show ρ1 27=Value.int _ _ from hR.2.1) VZ VZ) ?_;refine qK [_,_,_] (fun _ hj=>(hr.ext hj.hp.below).recAt NR.len hxn) ?_;refine dn ?_;refine dn ?_;refine so ?_;refine dC (fun _ hj=>hof2 _ (hT.hp hj.hp)) ?_;refine rh [_,_,_,_,_,_] ?_;refine aP (i:=11) (Is (.agg #[.bool (nR q).neg,.string (nR q).bk,.int .i64 (nR q).e])) Is.ext ?_ ?_
   ·intro ρ1 w1 hj hR;obtain ⟨A34,c34,h34,s34⟩:=hR.1;exact bf rfl (aQ au.out (aw h34 a8)) (hm2 A34 c34 _ (hT.hp hj.hp) s34) (fun _ _ hq=>⟨_,hq.1,hq.2,rfl⟩)
   refine dC (fun _ hj=>hsb _ (hT.hp hj.hp)) ?_;refine rh [_,_,_] ?_;refine aG ?_;intro f W hJ hV;have hb_7:=hJ.bl;obtain ⟨v37,v36,v35,v34,v33,v32,v31,v30,v29,v28,v27,v26,v25,v24,_⟩:=hV;obtain ⟨A34,c34,e34,f34⟩:Rows _ _ _ (f 10) W:=v34;obtain ⟨A37,c37,e37,f37⟩:Rows _ _ _ (f 13) W:=v37;replace hh:=hJ.hp;refine aU (bg (ae e37 (ae v36 (ae v35 (ae e34 (ae v33 (ae v32 (ae v31 (ae v30 (ae v29 (ae v28 (ae v27 (ae v26 (ae v25 (ae v24 aT))))))))))))))) ?_;dsimp only [bI];clear e34 e37 hJ;refine cv hh (i:=1) rfl rfl rfl (f37) a9.out aJ.out rfl V0 (by first|rfl|exact dz _|exact cX _|exact bB _|exact bU NR.one _) VZ VZ V0 ?_;intro A38 c38 w38 hh;simp only [Wh,WI] at hh;refine lf ?_;refine bj (mI (az (ai ?_)));have e1:aA NR.cells (((qj d xs).take i).map nR)++[.bool (nR (p-q)).neg,.string (nR (p-q)).bk,.int .i64 (nR (p-q)).e]=aA NR.cells (((qj d xs).take (i+1)).map nR):=by rw [ay hat,WX,bK,Wv,WV,jv];rfl
   rw [e1] at hh;replace hh:=hh.sub (Wa _ (Xf _));refine ⟨⟨i+1,A38,c38,VZ,rfl,rfl,hh⟩,by show d-(i+1)<d-i;omega, ?_⟩;exact dF
  ·obtain rfl:i=d:=VZ;rw [Wc VZ] at hh;exact Q0
variable {ag:Bool}{b by' c c':Nat}{news xs zc:List Value}
section
variable {ro:Mode}
theorem Hj {t:TypeId}{sz p g:Nat} (h:w.ownsRow b t sz (.slice (some ⟨g,0,none⟩) n c) n xs) (hp:p≤n):w.ownsRow b t sz (.slice (some ⟨g,0,none⟩) p c) p (xs.take (p*sz)):=by
 have hps:p*sz≤n*sz:=Xr _ hp;have hl:(xs.take (p*sz)).length=p*sz:=by rw [Ww,h.1];omega
 refine ⟨hl, ?_⟩
 rcases h.2 with ⟨h1,_⟩|⟨g',cap,cur,hv,hg,hheap,hmc,hcm,hcur,htake⟩
 ·cases h1
 ·injection hv with hA _ hcap
  injection hA with hA
  injection hA with hA
  subst hA;subst hcap;refine .inr ⟨g,c,cur,rfl,hg,hheap,VZ,hcm,hcur, ?_⟩;rw [←htake,Zd,Xg hps]
section
variable {P:Program}{N:Nat}{ops:Array Oper}{Q:Kq}{ρ:Rf}{w w0:World}{rest:List Oper}{H:List HE}{ty d:Nat}{pos:String}{af:Array Edge}
theorem vM (hh:Hp w0 H w) {t e:TypeId}{s x:Operand}{i p sz g:Nat}{a:Addr} (hi:H[i]?=some (.row (some ⟨g,0,none⟩) n c e sz xs)) (hs:ev ρ s=.slice (some ⟨g,0,none⟩) p c) (hx:ev ρ x=.slice (some a) m c')
  (hp:p≤n) (hpm:p+m≤c) (hl:news.length=m*sz) (hr:∀j u,news[j]?=some u→w.cell? (a.add j)=some u) (h1:(news.all Value.oneCell')=true) (ht:P.underlying t=some (.slice e)) (hte:cQ P e=some (sz,ag,by',zc)) (hN:d<N)
  (k:∀w',Hp w0 (H.set i (.row (some ⟨g,0,none⟩) (p+m) c e sz (xs.take (p*sz)++news))) w'→WL ro P N ops Q rest (cH ρ d (.slice (some ⟨g,0,none⟩) (p+m) c)) w'):
  WL ro P N ops Q (⟨some d,.call ⟨.builtin .append, #[s,x], #[t,t]⟩,ty,pos,af,none⟩::rest) ρ w:=by
 obtain ⟨inf,z,dd,hinf,hd,hz,hsz,hby,hzc,_⟩:=dx hte;obtain ⟨w',hrun,hown,hg⟩:=run_append_fits (P:=P) w w0.heap.size t ty e inf sz ht hinf hsz g p c _ (Hj (hh.at_ hi) hp) a m c' news hl hr (by simpa using h1) hpm;refine aR rfl rfl hN (w':=w') (v:=.slice (some ⟨g,0,none⟩) (p+m) c) ?_ (k w' (hh.grown hi hg (.inl rfl) hown));simp only [execOp,resolve,invoke,builtin,Sem.run_bind,Sem.run_pure,Result.andThen_ok,Yn,Wv,WV,hs,hx,hrun]
theorem pL (hh:Hp w0 H w) {t e:TypeId}{x:Operand}{i p o sz g:Nat} (hi:H[i]?=some (.row (some ⟨g,0,none⟩) p c e sz xs)) (hx:ev ρ x=.slice (some ⟨g,o,none⟩) m c') (ho:p*sz≤o) (hom:o+m*sz≤c*sz) (hm:0<m)
  (ht:P.underlying t=some (.slice e)) (hte:cQ P e=some (sz,ag,by',zc)) (hzl:zc.length=sz) (h1:(zc.all Value.oneCell')=true)
  (k:∀w',Hp w0 H w'→WL ro P N ops Q rest ρ w'):WL ro P N ops Q (⟨none,.call ⟨.builtin .clear, #[x], #[t]⟩,ty,pos,af,none⟩::rest) ρ w:=by
 obtain ⟨z,hz,hzc⟩:=dy (w:=w) hte;obtain ⟨hlen,h2⟩:=hh.at_ hi
 rcases h2 with ⟨h2,_⟩|⟨g',cap,cur,hv,hg,hheap,hmc,hcm,hcur,htake⟩
 ·cases h2
 ·injection hv with hA hn hcap
  injection hA with hA
  injection hA with hA
  subst hA;subst hcap;have hcl:cur.size=cur.toList.length:=by simp
  have hzr:(eI m zc).length=m*sz:=by rw [ju,hzl]
  have hall:∀v∈eI m zc,v.oneCell'=true:=fun v hv=>by
   obtain ⟨j,hj⟩:=Yc.1 hv;have hj2:=(Wk.1 hj).1;rw [ju] at hj2;rw [sw m zc j hj2] at hj;exact Wq.1 h1 v (Wb hj)
  obtain ⟨w',hr,hb',hgr,hs⟩:=fJ (P:=P) (b:=g) (t:=e) (fz:=(0,0)) o (eI m zc) 0 cur.toList w (by simpa using hheap) (.inr (V9 _)) (by rw [←hcl,hzr];omega) hall;have hset:=tE hi;refine yc rfl rfl (w':=w') (v:=.tuple #[]) ?_ (k w' (hset ▸ hh.grown hi hgr (.inl rfl) ⟨hlen,.inr ⟨g,c,(cd cur.toList (o+0) (eI m zc)).toArray,rfl,hg,by simpa using hb',hmc,hcm, ?_, ?_⟩⟩))
  ·simp only [execOp,resolve,invoke,hx,Yn,Wv,WV];have hzz:Builtin.zeroCells z.cells m=(eI m zc).toArray:=by
    rw [Builtin.zeroCells,hzc,Yj];exact pD m zc
   obtain ⟨q,rfl⟩:∃q,m=q+1:=⟨m-1,VZ⟩;simp [builtin,Builtin.clear_,run_underlying ht,hz,hzz,hr]
  ·simp only [Yj];rw [eM (by rw [←hcl,hzr];omega),←hcl,hcur]
  ·simp only [cd];rw [WY,Zw (by rw [Ww,←hcl];omega),Zd,Xg VZ];exact htake
end
end
def UT (fx:FX) (hs:List Int):Int:=if fx.e≠0 then fx.e else if hs.any (Ue fx.n)=true then 1 else 0
variable {w':World}
def Lr (R:List HE) (g:FX):Prop:=R=[g.mP,g.mi]∨g.m=0∧R=[g.mi]
theorem Lr.at_ {R H:List HE}{g:FX} (h:Lr R g) (hc:g.cs.length=g.m) (hs:∀x∈R,x∈H) (hh:Hp w H w'):g.at_ w':=by
 rcases h with rfl|⟨h0,rfl⟩
 ·exact hh.iX (hs _ Wj) (hs _ (Wl _ Wj))
 ·refine ⟨iw (hh.own _ (hs _ Wj)), ?_⟩;rw [h0] at hc ⊢;rw [XA hc];exact ⟨rfl,fun h=>absurd h V0⟩
theorem Tx (f:FX) (w:World) (hf:f.at_ w) (hn:f.n≤1000000) (hm:f.m≤1000000):
  Calls Tryz.prog 19 #[.agg #[.slice f.A f.n f.a,.slice f.B f.m f.b]] w fun r w'=>∃(g:FX) (R:List HE),g.ds=f.ds∧g.cs=f.cs∧g.n=f.n∧g.m=f.m∧r=.returned (.agg #[.slice g.A g.n g.a,.slice g.B g.m g.b])∧Lr R g∧Hp w R w':=
 (Bj f.A f.B f.n f.a f.m f.b f.ds f.cs w hf.dg hf.nm hn hm).mono fun _ _ ⟨A,a,B,b,R,h1,h2,h3⟩=>⟨⟨A,f.n,a,B,f.m,b,f.ds,f.cs⟩,R,rfl,rfl,rfl,rfl,h1,h2,h3⟩
variable {ax:Int}{fx:FX}
theorem G9 (h:ej fx ax=0):fx.e=0∧0≤ax∧ax<fx.n:=by
 unfold ej at h;split at h
 ·rename_i h1;exact absurd h h1
 ·rename_i h1;split at h
  ·cases h
  ·omega
variable {Hr:List HE}
theorem GU (g n c a:Nat) (ds:List Int) (w:World) (hh:Hp w0 (.row (some ⟨g,0,none⟩) n c 3 1 (a7 ds)::Hr) w) (hl:ds.length=n) (ha:a<n) (hn:n≤1000):
  Calls Tryz.prog 67 #[.slice (some ⟨g,0,none⟩) n c,.int .i64 a,.int .i64 ((a:Int)+1)] w fun r w'=>r=.returned (.slice (some ⟨g,0,none⟩) (n-1) c)∧Hp w0 (.row (some ⟨g,0,none⟩) (n-1) c 3 1 (a7 (ds.eraseIdx a))::Hr) w':=by
 have hc:=hh.eZ (i:=0) rfl;refine aj (N:=33) (l:=[.slice (some ⟨g,0,none⟩) n c,.int .i64 a,.int .i64 ((a:Int)+1)]) Tryz.func67 rfl rfl (by simp) ?_;have hsl0:=fun (w1:World) (H1:Hp w0 (.row (some ⟨g,0,none⟩) n c 3 1 (a7 ds)::Hr) w1)=>H1.aD (i:=0) rfl;have her:a7 (ds.take a)++a7 (ds.drop (a+1))=a7 (ds.eraseIdx a):=by
  rw [List.eraseIdx_eq_take_drop_succ];simp [a7]
 refine sr (aL (aa (sr (mL (mI (mI (mL (aF ?_))))))));refine aR rfl rfl V0 (Ia a9.out aJ.size rfl rfl rfl rfl (l:=a) (h:=a+1) (q:=n) rfl VZ rfl VZ VZ VZ VZ) ?_;refine aa (ah (sr (mI (mI ?_))));refine ct (aa (cF (ao (ai (sr (mL (aF (aI (aa (ah ?_))))))))));refine aN 6 [[(0,none)],[(1,none)],[(20,some 0),(21,some 1)],[(0,none)],[(2,none)],[(23,some 3),(24,some 4)]] [(5,25),(4,24),(3,23),(2,22),(1,21),(0,20)] hh mixed V2 ?_;refine fD ?_;refine dn ?_;refine a6 (i:=2) (fun ρ1 w1 hj hR=>pK (h:=a) a9.out aJ.size (show ρ1 20=Value.slice _ _ _ from hR.1) (show ρ1 21=Value.int _ _ from hR.2.1) VZ VZ) ?_;refine fD ?_;refine dn ?_;refine a6 (i:=5) (fun ρ1 w1 hj hR=>gK (l:=(a+1)) a9.out aJ.size (show ρ1 23=Value.slice _ _ _ from hR.1) (show ρ1 24=Value.int _ _ from hR.2.1) VZ VZ VZ) ?_;refine aG ?_;intro f W hJ hV;have hb_5:=hJ.bl;obtain ⟨v25,v24,v23,v22,v21,v20,_⟩:=hV;replace hh:=hJ.hp;refine Je ?_;dsimp only [bI];clear hJ;have hbk:=(hsl0 _ hh).back (l:=a+1) (c:=c) VZ hc;obtain ⟨ad,had⟩:∃ad,(if c=a+1 then some (⟨g,0,none⟩:Addr) else (some (⟨g,0,none⟩:Addr)).map (·.add ((a+1)*1)))=some ad:=by
  split<;>exact ⟨_,rfl⟩
 rw [had] at hbk ⊢;have hds:(a7 ds).drop ((a+1)*1)=a7 (ds.drop (a+1)):=by rw [Wn];unfold a7;rw [←Yy]
 have hdt:(a7 ds).take (a*1)=a7 (ds.take a):=by rw [Wn];unfold a7;rw [←YV]
 rw [hds] at hbk;have hrd:∀j u,(a7 (ds.drop (a+1)))[j]?=some u→W.cell? (ad.add j)=some u:=fun j u hu=>by
  have hj:=(Wk.1 hu).1;rw [bQ,Xu] at hj;obtain ⟨ad',e,r⟩:=hbk.2 VZ;obtain rfl:ad=ad':=WT e;exact r j u hu
 refine vM hh (i:=0) (a:=ad) (p:=a) (m:=n-(a+1)) rfl rfl rfl VZ VZ hbk.1 hrd (bB _) a9.out aJ.out V0 ?_;intro w26 hh;simp only [Wh] at hh;rw [hdt,her,show a+(n-(a+1))=n-1 by omega] at hh;rw [show a+(n-(a+1))=n-1 by omega];have hp31:(if c=n-1 then some (⟨g,0,none⟩:Addr) else (some (⟨g,0,none⟩:Addr)).map (·.add ((n-1)*1)))=some ⟨g,n-1,none⟩:=by
  rw [V6 VZ];show some ((⟨g,0,none⟩:Addr).add ((n-1)*1))=_;rw [eW,Ws,Wn]
 refine aL (aa (sr (mL (mL (aF (mI ?_))))));refine aR rfl rfl V0 (gU (l:=n-1) (h:=n) a9.out aJ.size rfl ⟨_,_,rfl,rfl⟩ ⟨_,_,rfl,rfl⟩ VZ VZ) ?_;rw [hp31,show n-(n-1)=1 by omega];refine pL hh (i:=0) (o:=n-1) (m:=1) rfl rfl VZ VZ V0 a9.out aJ.out rfl rfl ?_;intro w32 hh;refine aa (sr (mL (aL (aa (av ?_)))));refine cW ?_;exact ⟨rfl,hh⟩
theorem oK (fx:FX) (ax:Int) (k:Nat) (w:World) (hT:er w) (hf:fx.at_ w) (hl:fx.km k):
  Calls Tryz.prog 66 #[.agg #[.slice fx.A fx.n fx.a,.slice fx.B fx.m fx.b],.int .i64 ax] w fun r w'=>r=.returned (.int .i64 (ej fx ax))∧Below w.heap.size w w':=by
 have hh:=Hp.start w;have hck:=fun w1 hT1 hb=>sE fx k w1 hT1 (hf.ext hb) hl;by_cases h0:fx.e=0
 ·by_cases h1:ax<0
  ·rw [show ej fx ax=1 by unfold ej;rw [V6 VZ,V5 (.inl h1)]];refine F8 ?_;refine sr ?_;refine bV hh [_,_] ?_;intro b2 w2 hh;refine aI (aa (ah (sr ?_)));refine bY hh 0 [_,_] ?_;refine eQ ?_;exact Qr
  ·by_cases h2:(fx.n:Int)≤ax
   ·rw [show ej fx ax=1 by unfold ej;rw [V6 VZ,V5 (.inr h2)]];refine F8 ?_;refine sr ?_;refine bV hh [_,_] ?_;intro b2 w2 hh;refine aI (aa (ah (sr ?_)));refine bY hh 0 [_,_] ?_;refine eQ ?_;exact Ov
   ·rw [show ej fx ax=0 by unfold ej;rw [V6 VZ,V6 VZ]];refine F8 ?_;refine sr ?_;refine bV hh [_,_] ?_;intro b2 w2 hh;refine aI (aa (ah (sr ?_)));refine bY hh 0 [_,_] ?_;refine eQ ?_;exact TJ
 ·rw [show ej fx ax=fx.e by unfold ej;rw [V5 h0]];refine F8 ?_;refine sr ?_;refine bV hh [_,_] ?_;intro b2 w2 hh;refine aI (aa (ah (sr ?_)));refine bY hh 0 [_,_] ?_;refine eQ ?_;intro w7 hh;exact NL
theorem jJ (A:Option Addr) (n c a d:Nat) (ns:List Nat) (w:World) (hS:Sl w A n 1 (a7 (bp ns))) (hcap:n≤c) (hn:n≤1000) (hd:ns[a]?=some d) (hlow:∀x∈ns,x≤127) (hmax:ar ns≤4096):
  Calls Tryz.prog 48 #[.slice A n c,.int .i64 a] w fun r w'=>r=.returned (.agg #[.int .i64 ((d:Int)+1),.int .i64 (ar (ns.drop (a+1)):Nat)])∧Below w.heap.size w w':=by
 have hh:=Hp.start w;have hln:ns.length=n:=by have:=hS.1;simpa [a7,bp] using this
 have ha:=(Wk.1 hd).1;have hd127:=hlow d (Wb hd);have hgd:=bR (ez hd);have hbk:=hS.back (l:=a+1) (c:=c) VZ hcap;have hds:(a7 (bp ns)).drop ((a+1)*1)=a7 (bp (ns.drop (a+1))):=by
  rw [Wn];unfold a7 bp;rw [←Yy,←Yy]
 rw [hds] at hbk;have hcd:eR 1 (bp (ns.drop (a+1)))=(ar (ns.drop (a+1)):Nat):=by
  have h1:=ir (ns.drop (a+1)) 1 V0 V0 (fun x hx=>hlow x (Y4 hx));have h2:ar (ns.drop (a+1))≤ar ns:=by
   have h3:ar ns=ar (ns.take (a+1))*ar (ns.drop (a+1)):=by rw [←dD,W9]
   rw [h3];exact Nat.le_mul_of_pos_left _ (cn _)
  rw [XP,V5 VZ] at h1;exact h1
 have hcnt:=fun w1 hS1=>ef (if c=a+1 then A else A.map (·.add ((a+1)*1))) (n-(a+1)) (c-(a+1)) (bp (ns.drop (a+1))) w1 hS1 VZ;rw [hcd] at hcnt;obtain ⟨ad,rfl,srd⟩:=hS.at_ VZ;refine aj (N:=16) (l:=[.slice (some ad) n c,.int .i64 a]) Tryz.func48 rfl rfl (by simp) ?_;refine sr ?_;refine bJ hh ?_;intro b4 w4 hh;refine aa (ah ?_);refine aN 10 [[(0,none)],[(1,none)],[(5,some 0),(6,some 1)],[(7,some 2)],[(8,some 3)],[(0,none)],[(1,none)],[(11,some 6)],[(10,some 5),(12,some 7)],[(13,some 8)]] [(9,14),(8,13),(7,12),(6,11),(5,10),(4,9),(3,8),(2,7),(1,6),(0,5)] hh mixed V2 ?_;refine fD ?_;refine dn ?_;refine nC (a) ?_;refine uF (fun _ hj=>(srd.ext hj.hp.below).wN hgd) ?_;refine nX ?_;refine fD ?_;refine dn ?_;refine nX ?_;refine a6 (i:=8) (fun ρ1 w1 hj hR=>gK (l:=(a+1)) a9.out aJ.size (show ρ1 10=Value.slice _ _ _ from hR.1) (show ρ1 12=Value.int _ _ from hR.2.1) VZ VZ VZ) ?_;refine dC (fun _ hj=>hcnt _ (hbk.ext hj.hp.below)) ?_;refine aG ?_;intro f W hJ hV;have hb_1:=hJ.bl;obtain ⟨v14,v13,v12,v11,v10,v9,v8,v7,v6,v5,_⟩:=hV;replace hh:=hJ.hp;refine F3 ?_;dsimp only [bI];clear hJ
 refine fe [_,_] ?_;exact LM
theorem Hg (A:List Nat) (d f i q:Nat):cI A d f i q=cI A d f 0 q+i*ar A:=by
 unfold cI;rw [W7,W7,Nat.mul_zero,Wz i];omega
theorem mR (g:FuncId) [au Tryz.prog g] (A B:List Nat) (d L:Nat) (φ:List Dyadic→List Dyadic) (C:Option Addr) (n c k:Nat) (X:List Dyadic) (w:World) (hT:er w) (hS:Sl w C n 3 (aA NR.cells (X.map nR))) (hn:n=ar (A++d::B)) (hmax:n≤4096) (hL:L≤d+1) (hd:d≤127) (hx:∀x∈X,Sz k x)
  (hg:∀(Y:List Dyadic) (D:Option Addr) (dc:Nat) (w1:World),er w1→(∀y∈Y,Sz k y)→Sl w1 D (d+1) 3 (aA NR.cells (Y.map nR))→Calls Tryz.prog g #[.slice D (d+1) dc] w1 fun r w'=>∃E ec,r=.returned (.slice E L ec)∧Hp w1 [.row E L ec 40 3 (aA NR.cells ((φ Y).map nR))] w')
  (hφ:∀Y:List Dyadic,Y.length=d+1→(φ Y).length=L):
  Calls Tryz.prog 49 #[.agg #[.int .i64 ((d:Int)+1),.int .i64 (ar A:Nat)],.slice C n c,.func (.func g) #[] #[]] w fun r w'=>∃E ec,r=.returned (.slice E n ec)∧Hp w [.row E n ec 40 3 (aA NR.cells ((iO A d L φ X n 0).map nR))] w':=by
 have hh:=Hp.start w;have hXl:X.length=n:=by have:=hS.bE NR.len V0;simpa using this
 have hap:=cn A;have hap2:ar A≤n:=by
  rw [hn,dD];exact ZC _ (cn _)
 have hcl:=fun w1 hb=>zg C n c (X.map nR) w1 (hS.ext hb) VZ;refine aj (N:=67) (l:=[.agg #[.int .i64 ((d:Int)+1),.int .i64 (ar A:Nat)],.slice C n c,.func (.func g) #[] #[]]) Tryz.func49 rfl rfl (by simp) ?_;refine sr ?_;refine bV hh [_,_] ?_;intro b3 w3 hh;refine aL (aa (sr (mL ?_)));refine aE (hcl _ hh.below) au.out rfl V0 ?_;rintro e_ w14 ⟨A14,c14,rfl,hown_,hb_⟩;refine ⟨_,rfl, ?_⟩;replace hh:=hh.aO (x:=.row _ _ _ _ _ _) hb_ hown_;rw [show X.map nR=(iO A d L φ X 0 0).map nR by rw [H6]] at hh;clear hcl;refine sa ?_;refine aW [8,9,10,11,12,17,18,19,20,21,22,23,24,25,26,27,28,29,30,31,32,33,34,35,36,37,38,39,40,41,42,43,44,45,46,47,48,49,50,51,52,53,54,55,56,57,58,59,60,61,62,63,64,65] 17
  (fun v w'=>∃F:Nat,F≤n∧v=.int .i64 F∧Hp w [.row A14 n c14 40 3 (aA NR.cells ((iO A d L φ X F 0).map nR)),.blk b3 83 [.int .i64 ((d:Int)+1),.int .i64 (ar A:Nat)] (0,0)] w')
  (fun v _=>n-(intOf v).toNat) ?_ ?_
 ·exact ⟨0,V8 _,rfl,hh⟩
 ·clear hh;rintro ρ' v w' ⟨F,hF,rfl,hh⟩;by_cases hlt:F<n
  ·have hcast:((F:Int)/((ar A:Nat):Int)) % ((d:Int)+1)=((F/ar A % (d+1):Nat):Int):=by norm_cast
   have hq0:(0:Int)≤(F:Int)/((ar A:Nat):Int):=Int.ediv_nonneg VZ VZ;by_cases h0:F/ar A % (d+1)=0
   ·obtain ⟨u0,hfF⟩:∃u0,u0=F % ar A:=⟨_,rfl⟩;obtain ⟨q,hqF⟩:∃q,q=F/ar A/(d+1):=⟨_,rfl⟩;have hf:u0<ar A:=by rw [hfF];exact WB _ hap
    have hFe:F=cI A d u0 0 q:=by rw [hfF,hqF,←h0,yu]
    have hq:q<ar B:=by
     rw [hqF,XG,XH (Nat.mul_pos hap VZ)];rw [hn,dD,ar] at hlt
     calc F<ar A*((d+1)*ar B):=hlt
      _=ar B*(ar A*(d+1)):=by rw [←Xb,Wz]
    have hpl:∀i,i≤d→cI A d u0 i q<n:=fun i hi=>by rw [hn];exact mu hf hi hq
    have hpi:∀i,cI A d u0 i q=F+i*ar A:=fun i=>by rw [hFe];exact Hg A d u0 i q
    have hxl:(fg A d X u0 q).length=d+1:=by simp [fg]
    have hxz:∀y∈fg A d X u0 q,Sz k y:=fun y hy=>by
     obtain ⟨i,hi,rfl⟩:=Wo.1 hy;exact yJ hx _
    obtain ⟨ad,hCA,hr⟩:=hS.at_ VZ;rw [hCA] at*;refine sr ?_;refine a0 (aa (ah (cT (ao (ai (ah (aq (sr (mI (aI (aa (ah (ah ?_)))))))))))));refine OB ?_;refine dn ?_;refine da ?_;refine dN 1 ?_;refine Qe ?_;refine da ?_;refine dN 1 ?_;refine aG ?_;intro f W hJ hV;have hb_5:=hJ.bl;obtain ⟨v25,v24,v23,v22,v21,v20,_⟩:=hV;replace hh:=hJ.hp;refine Je ?_;dsimp only [bI];clear hJ;refine oB ?_;refine cY (aa (cF (ao (ai (sr (aL (aa (ah (sr (bC ?_))))))))));refine bA hh 1 ?_;refine mI (aa (aq ?_));replace hh:=hh.cx 40 3;refine bz [9,10,30,31,32,33,34,35,36,37,38,39,40,41,42,43,44,45] 9 30
     (fun a v w'=>∃(i:Nat) (A':Option Addr) (c':Nat),i≤d+1∧v=.int .i64 i∧a=.slice A' i c'∧Hp w [.row A' i c' 40 3 (aA NR.cells (((fg A d X u0 q).take i).map nR)),.row A14 n c14 40 3 (aA NR.cells ((iO A d L φ X F 0).map nR)),.blk b3 83 [.int .i64 ((d:Int)+1),.int .i64 (ar A:Nat)] (0,0)] w')
     (fun _ v _=>d+1-(intOf v).toNat) ?_ ?_
    ·exact ⟨0,none,0,V8 _,rfl,rfl,hh⟩
    ·clear hh;rintro ρ2 a_ v w2 ⟨i,A',c',hi,rfl,rfl,hh⟩;by_cases hil:i<d+1
     ·obtain ⟨y,hy⟩:=al (l:=fg A d X u0 q) (k:=i) VZ;have hyx:(X.map nR)[cI A d u0 i q]?=some (nR y):=by
       have h1:=hpl i VZ;unfold fg at hy;rw [Wg,W8 hil] at hy;have h2:(X[cI A d u0 i q]?).getD 0=y:=WT hy;rw [Wg,Br (show cI A d u0 i q<X.length by omega)];show some (nR (iX X _))=_;unfold iX;rw [h2]
      have hpn:=hpl i VZ;have hpq:=hpi i;obtain ⟨m,hm⟩:∃m,m=i*ar A:=⟨_,rfl⟩;have hmi:(i:Int)*((ar A:Nat):Int)=(m:Int):=by rw [hm];exact (Xk _ _).symm
      rw [←hm] at hpq;refine sr ?_;refine a0 (aa (ah (cT (ao (ai (ah (aq (sr (mI (aI (aa (ak (mL (mL (mI (mI (bC ?_)))))))))))))))));refine bA hh 2 ?_;refine mulC ?_;refine bj ?_;refine cK (k:=(cI A d u0 i q)) a9.out aJ.size rfl rfl VZ VZ V0 ?_;refine cz (vs:=[_,_,_]) aJ.out rfl ((hr.ext hh.below).recAt NR.len hyx) rfl V0 ?_;refine mG ?_;intro b43 w43 hh;refine nj ?_;intro A44 c44 w44 hh;simp only [Wh,WI] at hh;replace hh:=hh.sub (WO _ _);refine lf ?_;refine bj (mI (az (ai ?_)));have e1:aA NR.cells (((fg A d X u0 q).take i).map nR)++[.bool (nR y).neg,.string (nR y).bk,.int .i64 (nR y).e]=aA NR.cells (((fg A d X u0 q).take (i+1)).map nR):=by rw [ay hy,WX,bK,Wv,WV,jv];rfl
      rw [e1] at hh;refine ⟨⟨i+1,A44,c44,VZ,rfl,rfl,hh⟩,by show d+1-(i+1)<d+1-i;omega, ?_⟩;exact dF
     ·obtain rfl:i=d+1:=VZ;rw [Wc VZ] at hh;refine sr ?_;refine mf ?_;refine iJ ?_;refine mL ?_;refine gy (hg (fg A d X u0 q) A' c' _ (hT.hp hh) hxz (hh.aD (i:=0) rfl)) au.out rfl rfl V0 ?_;rintro e_ w48 ⟨E,ec,rfl,h4⟩;refine ⟨_,rfl, ?_⟩;replace hh:=hh.join h4;clear h4;simp only [Wf,Wd] at hh;replace hh:=hh.sub (V7 _ (Wa _ (V7 _ (V7 _ Wx))));have hφl:=hφ (fg A d X u0 q) hxl;refine aF (mI (aa (aq ?_)));refine aW [11,12,50,51,52,53,54,55,56,57,58,59,60,61,62,63,64] 50
       (fun v w'=>∃j:Nat,j≤L∧v=.int .i64 j∧Hp w [.row E L ec 40 3 (aA NR.cells ((φ (fg A d X u0 q)).map nR)),.row A14 n c14 40 3 (aA NR.cells ((iO A d L φ X F j).map nR)),.blk b3 83 [.int .i64 ((d:Int)+1),.int .i64 (ar A:Nat)] (0,0)] w')
       (fun v _=>L-(intOf v).toNat) ?_ ?_
      ·exact ⟨0,V8 _,rfl,hh⟩
      ·clear hh;rintro ρ3 v w3 ⟨j,hj,rfl,hh⟩;by_cases hjl:j<L
       ·obtain ⟨y,hy⟩:=al (l:=φ (fg A d X u0 q)) (k:=j) VZ;have hyn:((φ (fg A d X u0 q)).map nR)[j]?=some (nR y):=by rw [Wg,hy];rfl
        have hpn:=hpl j VZ;have hpq:=hpi j;have hset:=Jb (φ:=φ) (X:=X) (q:=q) hf hjl (show j≤d by omega);rw [←hFe,show iX (φ (fg A d X u0 q)) j=y by unfold iX;rw [hy];rfl] at hset;obtain ⟨m,hm⟩:∃m,m=j*ar A:=⟨_,rfl⟩;have hmi:(j:Int)*((ar A:Nat):Int)=(m:Int):=by rw [hm];exact (Xk _ _).symm
        rw [←hm] at hpq;have hll:((iO A d L φ X F j).map nR).length=n:=by rw [Wi,gN];exact hXl
        generalize iO A d L φ X F j=S at*;generalize cI A d u0 j q=P at*;have hrl:=fy NR.len (S.map nR);obtain ⟨gr,rfl⟩:=hh.bZ (i:=0) rfl VZ;obtain ⟨go,rfl⟩:=hh.bZ (i:=1) rfl VZ;refine sr ?_;refine dY ?_;refine rL ?_;refine cz (vs:=[_,_,_]) aJ.out rfl (hh.iF (f:=NR.cells) (x:=nR y) (l:=(φ (fg A d X u0 q)).map nR) (i:=0) rfl NR.len V0 hyn) rfl V0 ?_;refine bJ hh ?_;intro b12 w12 hh;refine aI ?_;refine bL hh 0 [_,_,_] ?_;intro ws hh;replace hh:Hp _ (.blk _ _ [_,_,_] _::_) _:=hh;refine aa (ak (mL (mI (mI (bC ?_)))));refine bA hh 3 ?_;refine mulC ?_;refine bj ?_;refine bY hh 0 [_,_,_] ?_;refine dq (k:=P) a9.out aJ.size rfl rfl VZ VZ V0 ?_;refine cf hh (i:=2) (vs:=[_,_,_]) rfl rfl (g6 rfl) rfl aJ.out rfl VZ rfl ?_;intro ws hh;simp only [Wh,WI] at hh;rw [show cd (aA NR.cells (S.map nR)) (P*3) [.bool (nR y).neg,.string (nR y).bk,.int .i64 (nR y).e]=aA NR.cells ((S.map nR).set P (nR y)) from jk NR.len VZ,←YC,hset] at hh;refine fN ?_;refine bj (mI (az (ai ?_)))
        replace hh:=hh.sub (Wa _ (V7 _ (V7 _ (V7 _ Wx))));refine ⟨⟨j+1,VZ,rfl,hh⟩,by show L-(j+1)<L-j;omega, ?_⟩;exact dF
       ·rw [GB (show L≤j by omega)] at hh;refine sr ?_;refine Al ?_;refine bj (mI (az (ai ?_)));replace hh:=hh.sub (Wa _ (V7 _ (V7 _ Wx)));refine ⟨⟨F+1,VZ,rfl,hh⟩,by show n-(F+1)<n-F;omega, ?_⟩;exact dF
   ·rw [HD h0] at hh;refine sr ?_;refine a0 (aa (ah (cT (ao (ai (ah (aq (sr (mI (aI (aa (ah (ah ?_)))))))))))));refine OB ?_;refine dn ?_;refine da ?_;refine dN 1 ?_;refine Qe ?_;refine da ?_;refine dN 1 ?_;refine aG ?_;intro f W hJ hV;have hb_5:=hJ.bl;obtain ⟨v25,v24,v23,v22,v21,v20,_⟩:=hV;replace hh:=hJ.hp;refine Je ?_;dsimp only [bI];clear hJ;refine oB ?_;refine cY (aa (cT (aZ (aC (br (ai (ak ?_)))))));refine bj (mI (az (ai ?_)));refine ⟨⟨F+1,VZ,rfl,hh⟩,by show n-(F+1)<n-F;omega, ?_⟩;exact dF
  ·obtain rfl:F=n:=VZ;exact SY
variable {K:Value→World→Prop}{cp:Operand}{cs:List Value}{kc kl:IntKind}
section
variable {ro:Mode}
section
variable {P:Program}{N:Nat}{ops:Array Oper}{Q:Kq}{ρ:Rf}{w w0:World}{rest:List Oper}{H:List HE}{d:Nat}{ty:TypeId}{pos:String}{af:Array Edge}
theorem NT (hh:Hp w0 H w) {t e:TypeId}{l:Operand}{L C:Int}{sz:Nat} (hl:ev ρ l=.int kl L) (hc:ev ρ cp=.int kc C) (hL:L=0) (hC:C=(n:Int))
  (ht:P.underlying t=some (.slice e)) (hte:cQ P e=some (sz,ag,by',zc)) (hb:by'*n≤281474976710656) (h63:n≤9223372036854775807) (hN:d<N)
  (k:∀b w',Hp w0 (.row (some ⟨b,0,none⟩) 0 n e sz []::H) w'→WL ro P N ops Q rest (cH ρ d (.slice (some ⟨b,0,none⟩) 0 n)) w'):
  WL ro P N ops Q (⟨some d,.makeSlice t l cp,ty,pos,af,none⟩::rest) ρ w:=by
 obtain ⟨i,z,dd,hi,hd,hz,hs,hby,hzc,_⟩:=dx hte;subst hL;subst hC;subst hs;have hr:=run_make (P:=P) w t e i z ht hi hz kl kc 0 n (Int.le_refl _) VZ (by rw [hby,←Xk];omega) VZ;simp only [Xd,Int.toNat_zero] at hr;refine aR rfl rfl hN (w':=w.alloc (.cells (madeCells z.cells (n*i.size)) e)) (v:=.slice (some ⟨w.heap.size,0,none⟩) 0 n) ?_ (k _ _ (hh.aO (show Below w.heap.size w (w.alloc (.cells (madeCells z.cells (n*i.size)) e)) from ⟨rfl,rfl,rfl,(World.grownBy_alloc w _ none).size,fun j hj=>(World.grownBy_alloc w _ none).block j hj (by simp)⟩) ?_))
 ·simp [execOp,hl,hc,hr]
 ·exact ⟨by simp,.inr ⟨w.heap.size,n,madeCells z.cells (n*i.size),rfl,V9 _,heap_alloc_new w _,V8 _,by unfold maxLen;omega,size_madeCells _ _,by simp⟩⟩
end
def iV (n sz:Nat) (cs:List Value):VP:=fun v W=>∃g:Nat,v=.slice (some ⟨g,0,none⟩) n n∧Sl W (some ⟨g,0,none⟩) n sz cs
theorem iV.ext {sz:Nat} (v:Value) (w w':World) (h:iV n sz cs v w) (hb:Below w.heap.size w w'):iV n sz cs v w':=let ⟨g,h1,h2⟩:=h;⟨g,h1,h2.ext hb⟩
section
variable {P:Program}{ρ:Rf}{w:World}
theorem N7 {d:Option Nat}{ty:TypeId}{af:Array Edge}{t e:TypeId}{l:Operand}{L C:Int}{sz:Nat} (hl:ev ρ l=.int kl L) (hc:ev ρ cp=.int kc C) (hL:L=(n:Int)) (hC:C=(n:Int))
  (ht:P.underlying t=some (.slice e)) (hte:cQ P e=some (sz,ag,by',zc)) (hzl:zc.length=sz) (hb:by'*n≤281474976710656) (h63:n≤9223372036854775807)
  (hk:∀v w2,iV n sz (eI n zc) v w2→Below w.heap.size w w2→K v w2):OG P ops ⟨d,.makeSlice t l cp,ty,pos,af,none⟩ ρ w K:=by
 obtain ⟨i,z,dd,hi,hd,hz,hs,hby,hzc,_⟩:=dx hte;subst hL;subst hC;obtain ⟨w',hr,hown,hg⟩:=run_make_full (P:=P) w w.heap.size t e i z sz ht hi hz hs kl kc n (by rw [hby];exact hb) (by unfold maxLen;omega) (V9 _);have hzz:(madeCells z.cells (n*sz)).toList=eI n zc:=by
  exact RM
 rw [hzz] at hown;exact dv rfl (w':=w') (v:=.slice (some ⟨w.heap.size,0,none⟩) n n) (by simp [execOp,hl,hc,hr]) (hk _ _ ⟨w.heap.size,rfl,iw hown⟩ ⟨hg.os,hg.tape,hg.output,hg.size,fun j hj=>hg.block j hj (by simp)⟩)
theorem tO (n:Nat):eI n [.int .u8 0]=jB (List.replicate n 0):=by
 induction n with
 |zero=>rfl
 |succ n ih=>rw [eI,ih,Yp];rfl
end
end
variable {base:Nat}
abbrev CQ:=GW
theorem CQ.ext {t:TypeId}{sz:Nat} (v:Value) (w w':World) (h:CQ base t n sz cs v w) (hb:Below w.heap.size w w'):CQ base t n sz cs v w':=GW.ext v w w' h hb
section
variable {P:Program}{ρ:Rf}{w:World}
theorem LB {d:Option Nat}{ty:TypeId}{af:Array Edge}{t e:TypeId}{l:Operand}{L C:Int}{sz:Nat} (hl:ev ρ l=.int kl L) (hc:ev ρ cp=.int kc C) (hL:L=(n:Int)) (hC:C=(n:Int))
  (ht:P.underlying t=some (.slice e)) (hte:cQ P e=some (sz,ag,by',zc)) (hzl:zc.length=sz) (hb:by'*n≤281474976710656) (h63:n≤9223372036854775807) (hbs:base≤w.heap.size)
  (hk:∀v w2,GW base e n sz (eI n zc) v w2→Below w.heap.size w w2→K v w2):OG P ops ⟨d,.makeSlice t l cp,ty,pos,af,none⟩ ρ w K:=by
 obtain ⟨i,z,dd,hi,hd,hz,hs,hby,hzc,_⟩:=dx hte;subst hL;subst hC;obtain ⟨w',hr,hown,hg⟩:=run_make_full (P:=P) w base t e i z sz ht hi hz hs kl kc n (by rw [hby];exact hb) (by unfold maxLen;omega) hbs;have hzz:(madeCells z.cells (n*sz)).toList=eI n zc:=by
  exact RM
 rw [hzz] at hown;exact dv rfl (w':=w') (v:=.slice (some ⟨w.heap.size,0,none⟩) n n) (by simp [execOp,hl,hc,hr]) (hk _ _ ⟨_,_,rfl,hown⟩ ⟨hg.os,hg.tape,hg.output,hg.size,fun j hj=>hg.block j hj (by simp)⟩)
end
def mA (q:Nat→Bool) (xs:List Dyadic) (i:Nat):List Dyadic:=((List.range i).filter q).map fun p=>(xs[p]?).getD 0
theorem Hm (q:Nat→Bool) (xs:List Dyadic) (i:Nat):mA q xs (i+1)=mA q xs i++if q i=true then [(xs[i]?).getD 0] else []:=by
 unfold mA;rw [YJ,YU,WX];congr 1;by_cases h:q i=true
 ·rw [V5 h,List.filter_cons_of_pos h];rfl
 ·rw [V6 h,ZA h];rfl
theorem B8 (q:Nat→Bool) (xs:List Dyadic) (i:Nat):(mA q xs i).length≤i:=by
 unfold mA;exact RL
def mn (ap d:Nat) (p:Nat):Bool:=decide (p/ap % (d+1)<d)
def dJ (ns:List Nat) (a:Nat):List Nat:=ns.set a (ns.getD a 0-1)
def lZ (ns:List Nat) (a:Nat) (xs:List Dyadic):List Dyadic:=if ns.getD a 0=0 then List.replicate xs.length 0 else mA (mn (ar (ns.drop (a+1))) (ns.getD a 0)) (iO (ns.drop (a+1)).reverse (ns.getD a 0) (ns.getD a 0) (qj (ns.getD a 0)) xs xs.length 0) xs.length
set_option maxRecDepth 10000 in
theorem pT (fx:FX) (ax:Int) (k:Nat) (w:World) (hT:er w) (hf:fx.at_ w) (hl:fx.km k) (hcap:fx.n≤fx.a) (hk:k≤500000):
  Calls Tryz.prog 22 #[.agg #[.slice fx.A fx.n fx.a,.slice fx.B fx.m fx.b],.int .i64 ax] w fun r w'=>∃g:FX,Out (ej fx ax) (dJ fx.ns ax.toNat) (lZ fx.ns ax.toNat (fx.cs.map NR.d)) g∧r=.returned (.tuple #[.agg #[.slice g.A g.n g.a,.slice g.B g.m g.b],.int .i64 (ej fx ax)])∧Hp w [g.mP,g.mi] w':=by
 have hh:=Hp.start w;have hhas:=fun w1 hT1 hb=>oK fx ax k w1 hT1 (hf.ext hb) hl;by_cases hE:ej fx ax≠0
 ·refine aj (N:=78) (l:=[.agg #[.slice fx.A fx.n fx.a,.slice fx.B fx.m fx.b],.int .i64 ax]) Tryz.func22 rfl rfl (by simp) ?_;refine sr ?_;refine bV hh [_,_] ?_;intro b2 w2 hh;refine bJ hh ?_;intro b4 w4 hh;refine aI (aa (ah (sr ?_)));refine bY hh 1 [_,_] (mI ?_);refine Bd ?_;intro w13 hh;exact Sj
 ·have hE:ej fx ax=0:=VZ;obtain ⟨h0,hx0,hx1⟩:=G9 hE;obtain ⟨a,rfl⟩:∃a:Nat,ax=a:=⟨ax.toNat,VZ⟩;rw [hE] at hhas ⊢;rw [Xd];obtain ⟨hdeg,hnum,h12,hlow,hcnt,hmax⟩:=FX.fv h0;have hln:=hf.ln.1;have hlm:=hf.ln.2;have hnl:fx.ns.length=fx.n:=by unfold FX.ns;rw [Wi];exact hln
  obtain ⟨d,hd⟩:=al (l:=fx.ns) (k:=a) VZ;have hd127:=hlow d (Wb hd);have hgd0:fx.ns.getD a 0=d:=by rw [Xl,hd];rfl
  have hgd:(a7 fx.ds)[a]?=some (.int .i64 (d:Int)):=by rw [hdeg];exact bR (ez hd)
  obtain ⟨ad0,hAD,sD⟩:=hf.dg.at_ VZ;have su:Value.slice fx.A fx.n fx.a=.slice (some ad0) fx.n fx.a:=by rw [hAD]
  by_cases vD:d=0
  ·subst vD;have hcl:=fun w1 hb=>jK fx.A fx.n fx.a fx.ds w1 (hf.dg.ext hb) VZ;have hDN:bp (dJ fx.ns a)=fx.ds:=by
    unfold dJ;rw [hgd0,tE hd,hdeg]
   have hDX:lZ fx.ns a (fx.cs.map NR.d)=List.replicate fx.m 0:=by
    unfold lZ;rw [V5 hgd0,Wi,hlm]
   refine aj (N:=78) (l:=[.agg #[.slice fx.A fx.n fx.a,.slice fx.B fx.m fx.b],.int .i64 a]) Tryz.func22 rfl rfl (by simp) ?_;refine sr ?_;refine bV hh [_,_] ?_;intro b2 w2 hh;refine bJ hh ?_;intro b4 w4 hh;refine aI (aa (ah (sr ?_)));refine bY hh 1 [_,_] (mI ?_);refine Bd ?_;intro w13 hh;refine aI (aa (sr (mI ?_)));refine cY (aa (cF (ao (ai (ah (sr (bC ?_)))))));refine bA hh 1 ?_;refine mI ?_;refine I2 ?_;refine Fa ?_;refine ct (aa (cT (ah ?_)));refine aN 7 [[(2,none)],[(24,some 0)],[(25,some 1)],[(2,none)],[(27,some 3)],[(28,some 4)],[(29,some 5)]] [(6,30),(5,29),(4,28),(3,27),(2,26),(1,25),(0,24)] hh mixed V2 ?_;refine da ?_;refine dN 1 ?_;refine aP (i:=2) (CQ hh.sz 3 fx.n 1 (a7 fx.ds)) (CQ.ext) ?_ ?_
   ·intro ρ1 w1 hj hR;exact bf rfl (aQ au.out (aw (show ρ1 25=Value.slice _ _ _ from hR.1) a8)) (hcl w1 hj.hp.below) (fun _ _ ⟨A,c,hq,ho,hb⟩=>⟨_,hq,hb,A,c,rfl,oO ho hj.bl.size⟩)
   refine da ?_;refine dN 1 ?_;refine C9 ?_;refine aP (i:=6) (CQ hh.sz 40 fx.m 3 (aA NR.cells ((List.replicate fx.m (0:Dyadic)).map nR))) (CQ.ext) ?_ ?_
   ·intro ρ1 w1 hj hR;exact nu fx.m ▸ LB (n:=fx.m) (show ρ1 29=Value.int _ _ from hR.1) (show ρ1 29=Value.int _ _ from hR.1) rfl rfl a9.out aJ.out rfl VZ VZ hj.bl.size (fun _ _ h1 h2=>⟨h2,h1⟩)
   refine aG ?_;intro f W hJ hV;have hb_5:=hJ.bl;obtain ⟨v30,v29,v28,v27,v26,v25,v24,_⟩:=hV;obtain ⟨A26,c26,e26,o26⟩:=v26;obtain ⟨A30,c30,e30,o30⟩:=v30;replace hh:=JJ.NX hJ hh o26 o30 V0;clear o26 o30;refine aU (bg (ae e30 (ae v29 (ae v28 (ae v27 (ae e26 (ae v25 (ae v24 aT)))))))) ?_;dsimp only [bI];clear e26 e30 hJ;refine fe [_,_] ?_;refine bL hh 2 [_,_] ?_;intro ws hh;replace hh:Hp _ (_::_::.blk _ _ [_,_] _::_) _:=hh;refine aI (aa (av (aK ?_)));replace hh:=hh.sub (V7 _ (V7 _ (V7 _ (Wa _ Wx))));replace hh:=hh.perm (WZ (l₁:=[_]));simp only [Wf,Wd] at hh;refine px ?_;exact ⟨⟨A26,fx.n,c26,A30,fx.m,c30,fx.ds,(List.replicate fx.m (0:Dyadic)).map nR⟩,⟨hDN.symm,by rw [hDX];rfl,by show fx.n≤100000;omega,by show fx.m≤1000000;omega⟩,rfl,hh.sub (V7 _ (V7 _ (Xq _)))⟩
  ·have hdg:Sl w fx.A fx.n 1 (a7 (bp fx.ns)):=by rw [←hdeg];exact hf.dg
   have hof:=fun w1 hb=>jJ fx.A fx.n fx.a a d fx.ns w1 (hdg.ext hb) hcap VZ hd hlow hmax;have hcl:=fun w1 hb=>jK fx.A fx.n fx.a fx.ds w1 (hf.dg.ext hb) VZ;have hDN:bp (dJ fx.ns a)=fx.ds.set a ((d:Int)-1):=by
    unfold dJ;rw [hgd0]
    conv=>rhs;rw [hdeg]
    unfold bp;rw [YC,show ((d-1:Nat):Int)=(d:Int)-1 by omega]
   obtain ⟨X,hX⟩:∃X,X=fx.cs.map NR.d:=⟨_,rfl⟩;rw [←hX] at hnum ⊢;have hXl:X.length=fx.m:=by rw [hX,Wi];exact hlm
   have hXz:∀x∈X,Sz k x:=fun x h=>by
    rw [hX] at h;obtain ⟨z,hz,rfl⟩:=Wo.1 h;exact (hl.num z hz).2
   have hDX:lZ fx.ns a X=mA (mn (ar (fx.ns.drop (a+1))) d) (iO (fx.ns.drop (a+1)).reverse d d (qj d) X fx.m 0) fx.m:=by
    unfold lZ;rw [hgd0,V6 vD,hXl]
   have hsp:fx.m=ar ((fx.ns.drop (a+1)).reverse++d::(fx.ns.take a).reverse):=by
    rw [←qB hd,bM];exact hlm.symm.trans hcnt
   have hSX:Sl w fx.B fx.m 3 (aA NR.cells (X.map nR)):=by rw [←hnum];exact hf.nm
   have hli:=fun w1 hT1 hb=>mR 74 (fx.ns.drop (a+1)).reverse (fx.ns.take a).reverse d d (qj d) fx.B fx.m fx.b k X w1 hT1 (hSX.ext hb) hsp VZ VZ hd127 hXz (fun Y E ec w2 hT2 hy hs=>Bo E (d+1) ec d Y k w2 hT2 hs rfl hd127 hy hk) (fun Y _=>AK d Y);rw [bM] at hli;have hap:=cn (fx.ns.drop (a+1));have hap2:ar (fx.ns.drop (a+1))≤4096:=by
    exact SB
   rw [hDX];have hYl:(iO (fx.ns.drop (a+1)).reverse d d (qj d) X fx.m 0).length=fx.m:=by rw [gN,hXl]
   generalize iO (fx.ns.drop (a+1)).reverse d d (qj d) X fx.m 0=Y at*;generalize ar (fx.ns.drop (a+1))=ap at*;refine aj (N:=78) (l:=[.agg #[.slice fx.A fx.n fx.a,.slice fx.B fx.m fx.b],.int .i64 a]) Tryz.func22 rfl rfl (by simp) ?_;refine sr ?_;refine bV hh [_,_] ?_;intro b2 w2 hh;refine bJ hh ?_;intro b4 w4 hh;refine aI (aa (ah (sr ?_)));refine bY hh 1 [_,_] (mI ?_);refine Bd ?_;intro w13 hh;refine aI (aa (sr (mI ?_)));refine cY (aa (cF (ao (ai (ah (sr (bC ?_)))))));refine bA hh 1 ?_;refine mI ?_;refine I2 ?_;refine Fa ?_;refine ct (aa (cF (ao (ai (sr (bC ?_))))));refine bA hh 1 ?_;refine mI ?_;refine bq hh (hof _ hh.below) rfl ?_;intro w35 hh;refine bJ hh ?_;intro b7 w7 hh;refine bL hh 0 [_,_] ?_;intro ws hh;replace hh:Hp _ (.blk _ _ [_,_] _::_) _:=hh;refine aa (sr (bC ?_));refine bA hh 2 ?_;refine aE (hcl _ hh.below) au.out rfl V0 ?_;rintro e_ w38 ⟨A38,c38,rfl,hown_,hb_⟩;refine ⟨_,rfl, ?_⟩;replace hh:=hh.aO (x:=.row _ _ _ _ _ _) hb_ hown_;obtain ⟨gd,rfl⟩:=hh.bZ (i:=0) rfl VZ;have hil:=bQ fx.ds;have hm0:0<fx.m:=by have:=cn fx.ns;omega
   refine fe [_,_] ?_;refine bJ hh ?_;intro b8 w8 hh;refine bL hh 0 [_,_] ?_;intro ws hh;replace hh:Hp _ (.blk _ _ [_,_] _::_) _:=hh;refine aa (sr (bC ?_));refine bA hh 0 ?_;refine mI ?_;refine xM ?_;refine Lz ?_;refine dQ ?_;refine xM ?_;refine KN ?_;intro ws hh;simp only [Wh,WI] at hh;rw [rI _ VZ] at hh;refine aa (ah (sr ?_));refine bY hh 2 [_,_] (bC ?_);refine bA hh 4 ?_;refine aE (hli _ (hT.hp hh) hh.below) au.out rfl V0 ?_;rintro e_ w50 ⟨E,ec,rfl,h4⟩;refine ⟨_,rfl, ?_⟩;replace hh:=hh.join h4;clear h4;simp only [Wf,Wd] at hh;obtain ⟨gn,rfl⟩:=hh.bZ (i:=0) rfl VZ;refine aF (mI (aa (aq ?_)));replace hh:=hh.cx 40 3;refine aW [9,10,52,53,54,55,56,57,58,59,60,61,62,63,64,65,66,67,68,69,70,71,72,73,74,75,76] 52
    (fun v w'=>∃(i c1:Nat) (B:Option Addr),i≤fx.m∧v=.int .i64 i∧Hp w [.row B (mA (mn ap d) Y i).length c1 40 3 (aA NR.cells ((mA (mn ap d) Y i).map nR)),.row (some ⟨gn,0,none⟩) fx.m ec 40 3 (aA NR.cells (Y.map nR)),.blk b8 33 [.slice (some ⟨gd,0,none⟩) fx.n c38,.slice B (mA (mn ap d) Y i).length c1] (0,0),.row (some ⟨gd,0,none⟩) fx.n c38 3 1 (a7 (fx.ds.set a ((d:Int)-1))),.blk b7 83 [.int .i64 ((d:Int)+1),.int .i64 (ap:Int)] (0,0),.blk b4 33 [.slice none 0 0,.slice none 0 0] (0,0),.blk b2 33 [.slice fx.A fx.n fx.a,.slice fx.B fx.m fx.b] (0,0)] w')
    (fun v _=>fx.m-(intOf v).toNat) ?_ ?_
   ·exact ⟨0,0,none,V8 _,rfl,hh⟩
   ·clear hh;rintro ρ' v w' ⟨i,c1,B,hi,rfl,hh⟩;by_cases hlt:i<fx.m
    ·obtain ⟨x,hx⟩:=al (l:=Y) (k:=i) VZ;have hxn:(Y.map nR)[i]?=some (nR x):=by rw [Wg,hx];rfl
     have hxd:(Y[i]?).getD 0=x:=by rw [hx];rfl
     have hcast:((i:Int)/(ap:Int)) % ((d:Int)+1)=((i/ap % (d+1):Nat):Int):=by norm_cast
     have hq0:(0:Int)≤(i:Int)/(ap:Int):=Int.ediv_nonneg VZ VZ;have hst:=Hm (mn ap d) Y i;rw [hxd] at hst;have hfl:=B8 (mn ap d) Y i;have hrl:=fy NR.len (Y.map nR);have hYl2:(Y.map nR).length=fx.m:=by rw [Wi];exact hYl
     have hQ:mn ap d i=decide (i/ap % (d+1)<d):=rfl;generalize hF:mA (mn ap d) Y i=F at*;by_cases hdg2:i/ap % (d+1)<d
     ·rw [hQ,Wr hdg2,V5 rfl] at hst;refine sr ?_;refine dY ?_;refine fP ?_;refine Oj ?_;refine bJ hh ?_;intro b10 w10 hh;refine aI ?_;refine bL hh 0 [_,_,_] ?_;intro ws hh;replace hh:Hp _ (.blk _ _ [_,_,_] _::_) _:=hh;refine aa (ah ?_);refine Pd ?_;refine dn ?_;refine da ?_;refine dN 5 ?_;refine OR ?_;refine da ?_;refine dN 5 ?_;refine Ph ?_;refine da ?_;refine dN 7 ?_;refine dn ?_;refine Fi ?_ ?_
      ·exact Te
      refine xN ?_;refine aG ?_;intro f W hJ hV;have hb_12:=hJ.bl;obtain ⟨v68,v67,v66,v65,v64,v63,v62,v61,v60,v59,v58,v57,_⟩:=hV;replace hh:=hJ.hp;refine OD ?_;dsimp only [bI];clear hJ;refine a0 (aa (cT (ak (bC ?_))));refine bA hh 3 ?_;refine bY hh 0 [_,_,_] ?_;refine mG ?_;intro b73 w73 hh;refine Bb ?_;intro A74 c74 w74 hh;simp only [Wh,WI] at hh;replace hh:=hh.sub (WO _ _);refine bC ?_;refine bL hh 3 [_] ?_;intro ws hh;replace hh:Hp _ (_::_::_::.blk _ _ [_,_] _::_) _:=hh;refine fN ?_;refine bj (mI (az (ai ?_)));replace hh:=hh.sub (Wa _ (V7 _ (V7 _ (V7 _ (V7 _ (V7 _ (V7 _ (V7 _ Wx))))))));refine ⟨⟨i+1,c74,A74,VZ,rfl, ?_⟩,by show fx.m-(i+1)<fx.m-i;omega, ?_⟩
      ·rw [hst,We,WX,bK];exact hh
      ·exact dF
     ·rw [hQ,WG hdg2,V6 V0,WJ] at hst;refine sr ?_;refine dY ?_;refine fP ?_;refine Oj ?_;refine bJ hh ?_;intro b10 w10 hh;refine aI ?_;refine bL hh 0 [_,_,_] ?_;intro ws hh;replace hh:Hp _ (.blk _ _ [_,_,_] _::_) _:=hh;refine aa (ah ?_);refine Pd ?_;refine dn ?_;refine da ?_;refine dN 5 ?_;refine OR ?_;refine da ?_;refine dN 5 ?_;refine Ph ?_;refine da ?_;refine dN 7 ?_;refine dn ?_;refine Fi ?_ ?_
      ·exact Te
      refine xN ?_;refine aG ?_;intro f W hJ hV;have hb_12:=hJ.bl;obtain ⟨v68,v67,v66,v65,v64,v63,v62,v61,v60,v59,v58,v57,_⟩:=hV;replace hh:=hJ.hp;refine OD ?_;dsimp only [bI];clear hJ;refine a0 (aa (cF (ao (bF (ai (ak ?_))))));refine bj (mI (az (ai ?_)));replace hh:=hh.sub (Wa _ (V7 _ (V7 _ (V7 _ (V7 _ (V7 _ (V7 _ (V7 _ Wx))))))));exact O9
    ·obtain rfl:i=fx.m:=VZ;refine sr ?_;refine mf ?_;refine bY hh 2 [_,_] ?_;refine bL hh 5 [_,_] ?_;intro ws hh;replace hh:Hp _ (_::_::_::_::_::.blk _ _ [_,_] _::_) _:=hh;refine aI (aa (av ?_));replace hh:=hh.sub (V7 _ (Wa _ (Wa _ (V7 _ (Wa _ (V7 _ (Wa _ Wx)))))));refine px ?_;refine ⟨⟨some ⟨gd,0,none⟩,fx.n,c38,B,(mA (mn ap d) Y fx.m).length,c1,fx.ds.set a ((d:Int)-1),(mA (mn ap d) Y fx.m).map nR⟩,⟨hDN.symm,rfl,by show fx.n≤100000;omega, ?_⟩,rfl,hh.sub (X1 [_,_] _)⟩;have:=B8 (mn ap d) Y fx.m;show (mA (mn ap d) Y fx.m).length≤1000000;omega
theorem Jn {l:List Int} (h:l.all ck=true):ints (l.map qR)=l:=by
 induction l with
 |nil=>rfl
 |cons x l ih=>
  simp only [List.all_cons,Wm] at h;have h1:((qR x).toNat:Int)=x:=by
   have:=qa h.1;injection this with _ this
   exact this.symm
  have:=ih h.2;simp only [ints,Wv,h1];congr 1
theorem J5 {l:List Int} (h:l.all ck=true):eS (l.map qR)=true:=by
 rw [eS,Wq];intro c hc;obtain ⟨x,hx,rfl⟩:=Wo.1 hc;have h1:=Wq.1 h x hx;have:=qa h1;injection this with _ this
 simp only [ck,Wm,Wt] at h1;simp only [Wt];omega
theorem ND {a:List UInt8} (h:eS a=true):(ints a).all ck=true:=by
 rw [Wq];intro x hx;obtain ⟨c,hc,rfl⟩:=Wo.1 hx;have:=Wq.1 h c hc;simp only [Wt] at this;simp only [ck,Wm,Wt];omega
theorem xE {f:Int→Int→Int}{a b:List UInt8}{l:List Int} (h:jA f a b=some l):eS a=true∧eS b=true∧b.length=a.length∧l=List.zipWith f (ints a) (ints b):=by
 unfold jA at h;split at h
 ·rename_i hc;simp only [Wm,Wt] at hc;injection h with h
  exact ⟨hc.1,hc.2.1,VZ,h.symm⟩
 ·cases h
theorem NS {f:Int→Int→Int}{a b:List UInt8} (h1:eS a=true) (h2:eS b=true) (h3:b.length=a.length):jA f a b=some (List.zipWith f (ints a) (ints b)):=by
 unfold jA;rw [V5 (by simp [h1,h2,h3])]
theorem pZ {a c:List UInt8} (h:(mulL a c).2=0):eS a=true∧eS c=true∧c.length=a.length∧eS (mulL a c).1=true∧ints (mulL a c).1=List.zipWith (· + ·) (ints a) (ints c):=by
 unfold mulL at h ⊢;split
 ·rename_i l hl;rw [hl] at h;simp only at h ⊢;obtain ⟨h1,h2,h3,h4⟩:=xE hl;by_cases hc:l.all ck=true
  ·rw [(p7 hc).1];exact ⟨h1,h2,h3,J5 hc,by rw [Jn hc,h4]⟩
  ·simp [Oh,hc] at h
 ·rename_i hl;rw [hl] at h;simp at h
theorem C8 {a c:List UInt8} (h:(mulL a c).2=0):(mulL a c).1.length=a.length:=by
 obtain ⟨_,_,h3,_,h5⟩:=pZ h;have:=Xm List.length h5;rw [di,Zt,di,di] at this;omega
variable {k:Nat}
structure TR where
 m:ByteArray
 c:NR
def TR.cells (t:TR):List Value:=[.string t.m,.bool t.c.neg,.string t.c.bk,.int .i64 t.c.e]
theorem TR.len (t:TR):t.cells.length=4:=rfl
theorem TR.one (t:TR):t.cells.all Value.oneCell'=true:=rfl
def jx (a b:ByteArray):Bool:=Op.bytesLess a.data.toList b.data.toList
theorem qg:∀a:List UInt8,Op.bytesLess a a=false
 |[]=>rfl
 |c::a=>by simp [Op.bytesLess,qg a]
theorem r9:∀a b c:List UInt8,Op.bytesLess a b=true→Op.bytesLess b c=true→Op.bytesLess a c=true
 |_,[],[],_,h=>by simp [Op.bytesLess] at h
 |_,_::_,[],_,h=>by simp [Op.bytesLess] at h
 |[],[],_::_,h,_=>by simp [Op.bytesLess] at h
 |_::_,[],_::_,h,_=>by simp [Op.bytesLess] at h
 |[],_::_,_::_,_,_=>rfl
 |x::a,y::b,z::c,h1,h2=>by
  simp only [Op.bytesLess,X4,Wm,Wt,Xy] at h1 h2 ⊢
  rcases h1 with h1|⟨rfl,h1⟩
  ·rcases h2 with h2|⟨rfl,h2⟩
   ·exact .inl (UInt8.lt_trans h1 h2)
   ·exact .inl h1
  ·rcases h2 with h2|⟨rfl,h2⟩
   ·exact .inl h2
   ·exact .inr ⟨rfl,r9 a b c h1 h2⟩
theorem wi:∀a b:List UInt8,Op.bytesLess a b=false→Op.bytesLess b a=false→a=b
 |[],[],_,_=>rfl
 |[],_::_,h,_=>by simp [Op.bytesLess] at h
 |_::_,[],_,h=>by simp [Op.bytesLess] at h
 |x::a,y::b,h1,h2=>by
  simp only [Op.bytesLess,Bool.or_eq_false_iff,Zn,Yo,beq_eq_false_iff_ne] at h1 h2;have e:x=y:=by
   have a1:=h1.1;have a2:=h2.1;rw [UInt8.lt_iff_toNat_lt] at a1 a2;exact Y2.1 VZ
  subst e;rw [wi a b (h1.2.resolve_left (fun h=>h rfl)) (h2.2.resolve_left (fun h=>h rfl))]
theorem j3 (a:ByteArray):jx a a=false:=qg _
theorem jT {a b c:ByteArray} (h1:jx a b=true) (h2:jx b c=true):jx a c=true:=r9 _ _ _ h1 h2
theorem qE {a b:ByteArray} (h1:jx a b=false) (h2:jx b a=false):a=b:=uR (wi _ _ h1 h2)
theorem JR {a b:ByteArray} (h:jx a b=true):a≠b:=fun e=>by rw [e,j3] at h;cases h
theorem HZ {a b:ByteArray} (h:jx a b=true):jx b a=false:=by
 cases h2:jx b a with
 |false=>rfl
 |true=>have:=jT h h2;rw [j3] at this;cases this
def vq (l:List TR):Prop:=l.Pairwise fun a b=>jx a.m b.m=true
def wS (f:ByteArray→Dyadic):List TR→Dyadic
 |[]=>0
 |t::l=>t.c.d*f t.m+wS f l
theorem wJ (f:ByteArray→Dyadic) (l k:List TR):wS f (l++k)=wS f l+wS f k:=by
 induction l with
 |nil=>exact (Yk _).symm
 |cons t l ih=>rw [Wf,wS,wS,ih,Dyadic.add_assoc]
theorem NJ (f:ByteArray→Dyadic) (l:List TR) (t:TR):wS f (l++[t])=wS f l+t.c.d*f t.m:=by
 rw [wJ,wS,wS,Yx]
def iy (l:List TR) (m:ByteArray):Dyadic:=wS (fun k=>if k=m then 1 else 0) l
theorem fG (t:TR) (l:List TR) (m:ByteArray):iy (t::l) m=(if t.m=m then t.c.d else 0)+iy l m:=by
 show t.c.d*(if t.m=m then 1 else 0)+iy l m=_;split
 ·rw [Dyadic.mul_one]
 ·rw [Dyadic.mul_zero]
theorem tT (m:ByteArray):iy [] m=0:=rfl
theorem fh (l k:List TR) (m:ByteArray):iy (l++k) m=iy l m+iy k m:=wJ _ _ _
theorem xk {l:List TR}{m:ByteArray} (h:∀t∈l,t.m≠m):iy l m=0:=by
 induction l with
 |nil=>rfl
 |cons t l ih=>rw [fG,V6 (h t Wj),ih fun s hs=>h s (Wl _ hs),Yk]
structure Canon (l:List TR):Prop where
 sB:vq l
 nz:∀t∈l,t.c.d≠0
 nf:∀t∈l,t.c=nR t.c.d
theorem uI {t:TR}{l:List TR} (h:Canon (t::l)):Canon l:=⟨(XJ.1 h.sB).2,fun s hs=>h.nz s (Wl _ hs),fun s hs=>h.nf s (Wl _ hs)⟩
theorem wb {t:TR}{l:List TR}{m:ByteArray} (h:vq (t::l)) (hm:m=t.m∨jx m t.m=true):∀s∈l,s.m≠m:=fun s hs e=>by
 have h1:=(XJ.1 h).1 s hs
 rcases hm with rfl|hm
 ·rw [e,j3] at h1;cases h1
 ·have:=jT hm h1;rw [e,j3] at this;cases this
theorem jW {t:TR}{l:List TR} (h:vq (t::l)):iy (t::l) t.m=t.c.d:=by
 rw [fG,V5 rfl,xk (wb h (.inl rfl)),Yx]
theorem xC {t:TR}{l:List TR}{m:ByteArray} (h:vq (t::l)) (hm:jx m t.m=true):iy (t::l) m=0:=by
 rw [fG,V6 (fun e=>JR hm e.symm),xk (wb h (.inr hm)),Yk]
theorem AA:∀{l k:List TR},Canon l→Canon k→(∀m,iy l m=iy k m)→l=k
 |[],[],_,_,_=>rfl
 |[],t::k,_,hk,h=>by
  have:=h t.m;rw [jW hk.sB,tT] at this;exact absurd this.symm (hk.nz t Wj)
 |t::l,[],hl,_,h=>by
  have:=h t.m;rw [jW hl.sB,tT] at this;exact absurd this (hl.nz t Wj)
 |t::l,s::k,hl,hk,h=>by
  have h1:jx t.m s.m=false:=by
   cases hb:jx t.m s.m with
   |false=>rfl
   |true=>
    have:=h t.m;rw [jW hl.sB,xC hk.sB hb] at this;exact absurd this (hl.nz t Wj)
  have h2:jx s.m t.m=false:=by
   cases hb:jx s.m t.m with
   |false=>rfl
   |true=>
    have:=h s.m;rw [jW hk.sB,xC hl.sB hb] at this;exact absurd this.symm (hk.nz s Wj)
  have em:=qE h1 h2;have ed:t.c.d=s.c.d:=by
   have:=h t.m;rw [jW hl.sB,em,jW hk.sB] at this;exact this
  have et:t=s:=by
   have a:=hl.nf t Wj;have b:=hk.nf s Wj;obtain ⟨m1,c1⟩:=t;obtain ⟨m2,c2⟩:=s;simp only at em ed a b;rw [em,a,b,ed]
  subst et;rw [AA (uI hl) (uI hk) fun m=>by
   have:=h m;rw [fG,fG] at this;grind]
def oR:List TR→TR→List TR
 |[],x=>[⟨x.m,nR x.c.d⟩]
 |t::l,x=>if jx t.m x.m=true then t::oR l x else if jx x.m t.m=true then ⟨x.m,nR x.c.d⟩::t::l else ⟨x.m,nR (t.c.d+x.c.d)⟩::l
theorem Gg (f:ByteArray→Dyadic):∀(l:List TR) (x:TR),wS f (oR l x)=wS f l+x.c.d*f x.m
 |[],x=>by
  show (nR x.c.d).d*f x.m+0=0+_;rw [cj,Yx,Yk]
 |t::l,x=>by
  unfold oR;split
  ·rw [wS,Gg f l x,wS,Dyadic.add_assoc]
  ·split
   ·rw [wS,wS,cj,Dyadic.add_comm]
   ·rename_i h1 h2;have e:t.m=x.m:=qE (by simpa using h1) (by simpa using h2);rw [wS,wS,cj,e];grind
theorem u9:∀{l:List TR}{x t:TR},t∈oR l x→t∈l∨t.m=x.m
 |[],x,t,h=>.inr (by rw [Wu.1 h])
 |s::l,x,t,h=>by
  unfold oR at h;split at h
  ·rcases Wp.1 h with rfl|h
   ·exact .inl Wj
   ·rcases u9 h with h|h
    ·exact .inl (Wl _ h)
    ·exact .inr h
  ·split at h
   ·rcases Wp.1 h with rfl|h
    ·exact .inr rfl
    ·exact .inl h
   ·rcases Wp.1 h with rfl|h
    ·exact .inr rfl
    ·exact .inl (Wl _ h)
theorem AE:∀{l:List TR}{x:TR},vq l→vq (oR l x)
 |[],x,_=>Zx _ _
 |s::l,x,h=>by
  have h1:=XJ.1 h;unfold oR;split
  ·rename_i hs;refine XJ.2 ⟨fun t ht=> ?_,AE h1.2⟩
   rcases u9 ht with ht|ht
   ·exact h1.1 t ht
   ·rw [ht];exact hs
  ·split
   ·rename_i hs;refine XJ.2 ⟨fun t ht=> ?_,h⟩
    rcases Wp.1 ht with rfl|ht
    ·exact hs
    ·exact jT hs (h1.1 t ht)
   ·rename_i a b;have e:s.m=x.m:=qE (by simpa using a) (by simpa using b);refine XJ.2 ⟨fun t ht=> ?_,h1.2⟩;show jx x.m t.m=true;rw [←e];exact h1.1 t ht
theorem EJ:∀{l:List TR}{x:TR},(∀t∈l,t.c=nR t.c.d)→∀t∈oR l x,t.c=nR t.c.d
 |[],x,_,t,ht=>by rw [Wu.1 ht];show nR _=nR (nR _).d;rw [cj]
 |s::l,x,h,t,ht=>by
  unfold oR at ht;split at ht
  ·rcases Wp.1 ht with rfl|ht
   ·exact h t Wj
   ·exact EJ (fun t ht=>h t (Wl _ ht)) t ht
  ·split at ht
   ·rcases Wp.1 ht with rfl|ht
    ·show nR _=nR (nR _).d;rw [cj]
    ·exact h t ht
   ·rcases Wp.1 ht with rfl|ht
    ·show nR _=nR (nR _).d;rw [cj]
    ·exact h t (Wl _ ht)
theorem Av:∀(l:List TR) (x:TR),(oR l x).length≤l.length+1
 |[],x=>V9 _
 |s::l,x=>by
  have:=Av l x;unfold oR;split
  ·rw [WH,WH];omega
  ·split<;>simp
theorem ET {k:Nat}:∀{l:List TR}{x:TR},(∀t∈l,Sz k t.c.d)→Sz k x.c.d→∀t∈oR l x,Sz (k+1) t.c.d
 |[],x,_,hx,t,ht=>by rw [Wu.1 ht];show Sz _ (nR _).d;rw [cj];exact hx.mono VZ
 |s::l,x,h,hx,t,ht=>by
  unfold oR at ht;split at ht
  ·rcases Wp.1 ht with rfl|ht
   ·exact (h t Wj).mono VZ
   ·exact ET (fun t ht=>h t (Wl _ ht)) hx t ht
  ·split at ht
   ·rcases Wp.1 ht with rfl|ht
    ·show Sz _ (nR _).d;rw [cj];exact hx.mono VZ
    ·exact (h t ht).mono VZ
   ·rcases Wp.1 ht with rfl|ht
    ·show Sz _ (nR _).d;rw [cj];exact (h s Wj).add hx
    ·exact (h t (Wl _ ht)).mono VZ
def mb (l:List TR):List TR:=l.foldl oR []
def y7 (t:TR):Bool:= !decide (t.c.d=0)
def aM (l:List TR):List TR:=(mb l).filter y7
theorem iZ (l:List TR) (x:TR):mb (l++[x])=oR (mb l) x:=by unfold mb;rw [Zk];rfl
theorem jz {P:List α→Prop} (h0:P []) (hs:∀l x,P l→P (l++[x])) (l:List α):P l:=by
 have:∀k:List α,P k.reverse:=fun k=>by
  induction k with
  |nil=>exact h0
  |cons x k ih=>rw [Zg];exact hs _ _ ih
 have h:=this l.reverse;rwa [YM] at h
theorem Ju (f:ByteArray→Dyadic) (l:List TR):wS f (mb l)=wS f l:=by
 induction l using jz with
 |h0=>rfl
 |hs l x ih=>rw [iZ,Gg,ih,NJ]
theorem H4 (l:List TR):vq (mb l):=by
 induction l using jz with
 |h0=>exact Zq
 |hs l x ih=>rw [iZ];exact AE ih
theorem KK (l:List TR):∀t∈mb l,t.c=nR t.c.d:=by
 induction l using jz with
 |h0=>intro t ht;cases ht
 |hs l x ih=>rw [iZ];exact EJ ih
theorem HG (l:List TR):(mb l).length≤l.length:=by
 induction l using jz with
 |h0=>exact V9 _
 |hs l x ih=>rw [iZ,We];have:=Av (mb l) x;simp;omega
theorem Lc (l:List TR) (h:∀t∈l,Sz k t.c.d):∀t∈mb l,Sz (k+l.length) t.c.d:=by
 induction l using jz with
 |h0=>intro t ht;cases ht
 |hs l x ih=>
  rw [iZ,We];exact ET (k:=k+l.length) (ih fun t ht=>h t (X5 _ ht)) ((h x (by simp)).mono VZ)
theorem GG (l:List TR):∀t∈mb l,∃s∈l,s.m=t.m:=by
 induction l using jz with
 |h0=>intro t ht;cases ht
 |hs l x ih=>
  rw [iZ];intro t ht
  rcases u9 ht with ht|ht
  ·obtain ⟨s,hs,e⟩:=ih t ht;exact ⟨s,X5 _ hs,e⟩
  ·exact ⟨x,by simp,ht.symm⟩
theorem xe (f:ByteArray→Dyadic) (l:List TR):wS f (l.filter y7)=wS f l:=by
 induction l with
 |nil=>rfl
 |cons t l ih=>
  rw [List.filter_cons];by_cases h:t.c.d=0
  ·rw [V6 (by unfold y7;rw [Wr h];decide),ih,wS,h,Dyadic.zero_mul,Yk]
  ·rw [V5 (by unfold y7;rw [WG h];rfl),wS,wS,ih]
theorem G2 (f:ByteArray→Dyadic) (l:List TR):wS f (aM l)=wS f l:=(xe f _).trans (Ju f l)
theorem rN (l:List TR) (m:ByteArray):iy (aM l) m=iy l m:=G2 _ _
theorem CK {t:TR} (h:y7 t=true):t.c.d≠0:=fun e=>by
 unfold y7 at h;rw [Wr e] at h
 cases h
theorem fp (l:List TR):Canon (aM l):=
 ⟨List.Pairwise.filter _ (H4 l),fun t ht=>CK (XI.1 ht).2,fun t ht=>KK l t (XI.1 ht).1⟩
theorem cB (l:List TR):(aM l).length≤l.length:=WK (Zy _ _) (HG l)
theorem nU {l:List TR} (h:∀t∈l,Sz k t.c.d):∀t∈aM l,Sz (k+l.length) t.c.d:=fun t ht=>Lc l h t (XI.1 ht).1
theorem iQ {l:List TR}:∀t∈aM l,∃s∈l,s.m=t.m:=fun t ht=>GG l t (XI.1 ht).1
theorem xh {l k:List TR} (h:Canon k) (hc:∀m,iy k m=iy l m):k=aM l:=AA h (fp l) fun m=>by rw [hc,rN]
theorem yX {l k:List TR} (hc:∀m,iy k m=iy l m):aM k=aM l:=xh (fp k) fun m=>by rw [rN,hc]
variable {O Y l ys:List TR}
def jG (k:Nat) (l:List TR):Prop:=∀t∈l,t.c.ok∧Sz k t.c.d
theorem jG.mono (h:jG k l) (hk:k≤j):jG j l:=fun t ht=>⟨(h t ht).1,(h t ht).2.mono hk⟩
structure MD (k:Nat) (l L:List TR):Prop where
 sB:vq L
 co:∀m,iy L m=iy l m
 len:L.length≤l.length
 ok:jG k L
 mem:∀t∈L,∃s∈l,s.m=t.m
theorem MD.mono {L:List TR} (h:MD k l L) (hk:k≤j):MD j l L:=⟨h.sB,h.co,h.len,h.ok.mono hk,h.mem⟩
theorem MD.self (h:vq l) (hk:jG k l):MD k l l:=⟨h,fun _=>rfl,V9 _,hk,fun t ht=>⟨t,ht,rfl⟩⟩
structure Mg (k:Nat) (xs ys O X Y:List TR):Prop where
 ro:vq O
 rx:vq X
 ry:vq Y
 co:∀m,iy O m+(iy X m+iy Y m)=iy xs m+iy ys m
 bx:∀t∈O,∀s∈X,jx t.m s.m=true
 hy:∀t∈O,∀s∈Y,jx t.m s.m=true
 len:O.length+(X.length+Y.length)≤xs.length+ys.length
 oo:jG (k+1) O
 ox:jG k X
 oy:jG k Y
 mo:∀t∈O,∃s∈xs++ys,s.m=t.m
 mx:∀t∈X,t∈xs++ys
 my:∀t∈Y,t∈xs++ys
theorem Mg.start {xs:List TR} (hx:vq xs) (hy:vq ys) (ox:jG k xs) (oy:jG k ys):Mg k xs ys [] xs ys:=
 ⟨Zq,hx,hy,fun m=>Yk _,fun t ht=>(by cases ht),fun t ht=>(by cases ht),by simp,fun t ht=>(by cases ht),ox,oy,fun t ht=>(by cases ht),fun t ht=>X5 _ ht,fun t ht=>XU _ ht⟩
theorem uU {x:TR} (h:vq O) (hx:∀t∈O,jx t.m x.m=true):vq (O++[x]):=
 List.pairwise_append.2 ⟨h,Zx _ _,fun t ht s hs=>by rw [Wu.1 hs];exact hx t ht⟩
theorem vh (x:TR) (m:ByteArray):iy [x] m=if x.m=m then x.c.d else 0:=by rw [fG,tT,Yx]
theorem fu {P:α→Prop}{O:List α}{x:α} (h:∀t∈O,P t) (hx:P x):∀t∈O++[x],P t:=fun t ht=>by
 rcases W3.1 ht with ht|ht
 ·exact h t ht
 ·rw [Wu.1 ht];exact hx
theorem Mg.left {xs X:List TR}{x y:TR} (h:Mg k xs ys O (x::X) (y::Y)) (hl:jx x.m y.m=true):Mg k xs ys (O++[x]) X (y::Y):=by
 obtain ⟨ro,rx,ry,co,bx,hby,len,oo,ox,oy,mo,mx,my⟩:=h;have r1:=XJ.1 rx;have r2:=XJ.1 ry;refine ⟨uU ro fun t ht=>bx t ht x Wj,r1.2,ry,fun m=> ?_,fu (fun t ht s hs=>bx t ht s (Wl _ hs)) fun s hs=>r1.1 s hs,fu hby fun s hs=> ?_,by simp at len ⊢;omega,fu oo ⟨(ox x Wj).1,(ox x Wj).2.mono VZ⟩,fun t ht=>ox t (Wl _ ht),oy,fu mo ⟨x,mx x Wj,rfl⟩,fun t ht=>mx t (Wl _ ht),my⟩
 ·have:=co m;rw [fG x X] at this;rw [fh,vh];grind
 ·rcases Wp.1 hs with rfl|hs
  ·exact hl
  ·exact jT hl (r2.1 s hs)
theorem Mg.right {xs X:List TR}{x y:TR} (h:Mg k xs ys O (x::X) (y::Y)) (hl:jx y.m x.m=true):Mg k xs ys (O++[y]) (x::X) Y:=by
 obtain ⟨ro,rx,ry,co,bx,hby,len,oo,ox,oy,mo,mx,my⟩:=h;have r1:=XJ.1 rx;have r2:=XJ.1 ry;refine ⟨uU ro fun t ht=>hby t ht y Wj,rx,r2.2,fun m=> ?_,fu bx fun s hs=> ?_,fu (fun t ht s hs=>hby t ht s (Wl _ hs)) fun s hs=>r2.1 s hs,by simp at len ⊢;omega,fu oo ⟨(oy y Wj).1,(oy y Wj).2.mono VZ⟩,ox,fun t ht=>oy t (Wl _ ht),fu mo ⟨y,my y Wj,rfl⟩,mx,fun t ht=>my t (Wl _ ht)⟩
 ·have:=co m;rw [fG y Y] at this;rw [fh,vh];grind
 ·rcases Wp.1 hs with rfl|hs
  ·exact hl
  ·exact jT hl (r1.1 s hs)
theorem Mg.both {xs X:List TR}{x y:TR} (h:Mg k xs ys O (x::X) (y::Y)) (h1:jx x.m y.m=false) (h2:jx y.m x.m=false) (hk:k≤3999980):Mg k xs ys (O++[⟨x.m,nR (x.c.d+y.c.d)⟩]) X Y:=by
 obtain ⟨ro,rx,ry,co,bx,hby,len,oo,ox,oy,mo,mx,my⟩:=h;have r1:=XJ.1 rx;have r2:=XJ.1 ry;have e:=qE h1 h2;have hz:=(ox x Wj).2.add (oy y Wj).2;refine ⟨uU ro fun t ht=>bx t ht x Wj,r1.2,r2.2,fun m=> ?_,fu (fun t ht s hs=>bx t ht s (Wl _ hs)) fun s hs=>r1.1 s hs,fu (fun t ht s hs=>hby t ht s (Wl _ hs)) fun s hs=> ?_,by simp at len ⊢;omega,fu oo ⟨hz.ok VZ, ?_⟩,fun t ht=>ox t (Wl _ ht),fun t ht=>oy t (Wl _ ht),fu mo ⟨x,mx x Wj,rfl⟩,fun t ht=>mx t (Wl _ ht),fun t ht=>my t (Wl _ ht)⟩
 ·have:=co m;rw [fG y Y,fG x X,←e] at this;rw [fh,vh];show iy O m+(if x.m=m then (nR (x.c.d+y.c.d)).d else 0)+(iy X m+iy Y m)=_;rw [cj];grind
 ·show jx x.m s.m=true;rw [e];exact r2.1 s hs
 ·show Sz _ (nR _).d;rw [cj];exact hz
theorem Mg.done {xs X:List TR} (h:Mg k xs ys O X Y) (hd:X=[]∨Y=[]):MD (k+1) (xs++ys) (O++X++Y):=by
 obtain ⟨ro,rx,ry,co,bx,hby,len,oo,ox,oy,mo,mx,my⟩:=h;refine ⟨?_,fun m=> ?_,by simp at len ⊢;omega,fun t ht=> ?_,fun t ht=> ?_⟩
 ·rw [WY];refine List.pairwise_append.2 ⟨ro, ?_,fun t ht s hs=> ?_⟩
  ·rcases hd with rfl|rfl
   ·exact ry
   ·rw [WJ];exact rx
  ·rcases W3.1 hs with hs|hs
   ·exact bx t ht s hs
   ·exact hby t ht s hs
 ·rw [fh,fh,fh,Dyadic.add_assoc];exact co m
 ·rcases W3.1 ht with ht|ht
  ·rcases W3.1 ht with ht|ht
   ·exact oo t ht
   ·exact ⟨(ox t ht).1,(ox t ht).2.mono VZ⟩
  ·exact ⟨(oy t ht).1,(oy t ht).2.mono VZ⟩
 ·rcases W3.1 ht with ht|ht
  ·rcases W3.1 ht with ht|ht
   ·exact mo t ht
   ·exact ⟨t,mx t ht,rfl⟩
  ·exact ⟨t,my t ht,rfl⟩
theorem MD.aM {k:Nat}{l L:List TR} (h:MD k l L):((L.filter y7).map fun t=>(⟨t.m,nR t.c.d⟩:TR))=aM l:=by
 refine xh ⟨?_,fun t ht=> ?_,fun t ht=> ?_⟩ fun m=> ?_
 ·exact List.Pairwise.map _ (fun a b hab=>hab) (List.Pairwise.filter _ h.sB)
 ·obtain ⟨s,hs,rfl⟩:=Wo.1 ht;show (nR s.c.d).d≠0;rw [cj];exact CK (XI.1 hs).2
 ·obtain ⟨s,hs,rfl⟩:=Wo.1 ht;show nR s.c.d=nR (nR s.c.d).d;rw [cj]
 ·have e:∀(f:ByteArray→Dyadic) (k:List TR),wS f (k.map fun t=>(⟨t.m,nR t.c.d⟩:TR))=wS f k:=fun f k=>by
   induction k with
   |nil=>rfl
   |cons t k ih=>rw [Wv,wS,wS,ih];show (nR t.c.d).d*f t.m+_=_;rw [cj]
  show wS _ _=_;rw [e,xe];exact h.co m
theorem xK (h:l.length<2):vq l:=by
 match l,h with
 |[],_=>exact Zq
 |[x],_=>exact Zx _ _
theorem Gv (a:ByteArray):a.toList=a.data.toList:=by
 have key:∀s:ByteArray,s.toList=s.data.toList:=fun s=>by
  exact TD
 exact key a
theorem pX (a b:ByteArray):Op.bytesLess a.toList b.toList=jx a b:=by rw [Gv,Gv];rfl
theorem Me (a b:ByteArray):(!(Op.bytesLess a.toList b.toList||a.toList==b.toList))=jx b a:=by
 rw [pX,Jj]
 cases h1:jx a b with
 |true=>rw [HZ h1];rfl
 |false=>
  cases h2:jx b a with
  |true=>rw [WG (fun e=>JR h2 e.symm)];rfl
  |false=>rw [Wr (qE h1 h2)];rfl
def IZ (x y:TR):Int:=if jx x.m y.m=true then -1 else if jx y.m x.m=true then 1 else 0
theorem CP (x y:TR) (w:World):Calls Tryz.prog 130 #[.agg #[.string x.m,.bool x.c.neg,.string x.c.bk,.int .i64 x.c.e],.agg #[.string y.m,.bool y.c.neg,.string y.c.bk,.int .i64 y.c.e]] w fun r w'=>r=.returned (.int .i64 (IZ x y))∧Below w.heap.size w w':=by
 have hh:=Hp.start w;refine aj (N:=17) (l:=[.agg #[.string x.m,.bool x.c.neg,.string x.c.bk,.int .i64 x.c.e],.agg #[.string y.m,.bool y.c.neg,.string y.c.bk,.int .i64 y.c.e]]) Tryz.func130 rfl rfl (by simp) ?_;refine sr ?_;refine bV hh [_,_,_,_] ?_;intro b2 w2 hh;refine bV hh [_,_,_,_] ?_;intro b3 w3 hh;refine uM ?_;refine bA hh 1 ?_;refine bC ?_;refine bA hh 0 ?_;refine Hf rfl rfl V0 ?_;refine aB (aa ?_);rw [pX];unfold IZ
 cases h1:jx x.m y.m with
 |true=>
  refine cT (sr (aI (aa (av (cm (aK ?_))))));refine cW ?_;exact ⟨rfl,hh.below⟩
 |false=>
  refine cF (sr (bC ?_));refine bA hh 1 ?_;refine bC ?_;refine bA hh 0 ?_;refine H0 rfl rfl V0 ?_;refine aB (aa ?_);rw [Me]
  cases h2:jx y.m x.m with
  |true=>
   refine cT (sr (aI (aa (av (cm (aK ?_))))));refine cW ?_;exact ⟨rfl,hh.below⟩
  |false=>
   refine cF (ao (bF (ai (sr (aI (aa (av ?_)))))));refine cW ?_;exact ⟨rfl,hh.below⟩
theorem GY (x y:TR) (k:Nat) (w:World) (hT:er w) (hx:x.c.ok∧Sz k x.c.d) (hy:y.c.ok∧Sz k y.c.d) (hk:k≤3999980):Calls Tryz.prog 131 #[.agg #[.string x.m,.bool x.c.neg,.string x.c.bk,.int .i64 x.c.e],.agg #[.string y.m,.bool y.c.neg,.string y.c.bk,.int .i64 y.c.e]] w fun r w'=>r=.returned (.agg #[.string x.m,.bool (nR (x.c.d+y.c.d)).neg,.string (nR (x.c.d+y.c.d)).bk,.int .i64 (nR (x.c.d+y.c.d)).e])∧Below w.heap.size w w':=by
 have hh:=Hp.start w;have hsum:=fun A cc w1 hT1 hS1=>iW A 2 cc [x.c,y.c] w1 hT1 hS1 (by simpa using ⟨hx.1,hy.1⟩) k (by simpa using ⟨hx.2,hy.2⟩) VZ;rw [show mv ([x.c,y.c].map NR.d)=x.c.d+y.c.d by simp only [Wv,WV,k8]] at hsum;refine aj (N:=14) (l:=[.agg #[.string x.m,.bool x.c.neg,.string x.c.bk,.int .i64 x.c.e],.agg #[.string y.m,.bool y.c.neg,.string y.c.bk,.int .i64 y.c.e]]) Tryz.func131 rfl rfl (by simp) ?_;refine sr ?_;refine bV hh [_,_,_,_] ?_;intro b2 w2 hh;refine bV hh [_,_,_,_] ?_;intro b3 w3 hh;refine bJ hh ?_;intro b4 w4 hh;refine aa (ah ?_);refine aN 8 [[(2,none)],[(5,some 0)],[(2,none)],[(7,some 2)],[(3,none)],[(9,some 4)],[(8,some 3),(10,some 5)],[(11,some 6)]] [(7,12),(6,11),(5,10),(4,9),(3,8),(2,7),(1,6),(0,5)] hh mixed V2 ?_;refine da ?_;refine dN 2 ?_;refine da ?_;refine eJ 2 [_,_,_] ?_;refine da ?_;refine eJ 1 [_,_,_] ?_;refine rh [_,_,_,_,_,_] ?_;refine aP (i:=7) (Is (.agg #[.bool (nR (x.c.d+y.c.d)).neg,.string (nR (x.c.d+y.c.d)).bk,.int .i64 (nR (x.c.d+y.c.d)).e])) Is.ext ?_ ?_
 ·intro ρ1 w1 hj hR;obtain ⟨A11,c11,h11,s11⟩:=hR.1;exact bf rfl (aQ au.out (aw h11 a8)) (hsum A11 c11 _ (hT.hp hj.hp) s11) (fun _ _ hq=>⟨_,hq.1,hq.2,rfl⟩)
 refine aG ?_;intro f W hJ hV;have hb_1:=hJ.bl;obtain ⟨v12,v11,v10,v9,v8,v7,v6,v5,_⟩:=hV;obtain ⟨A11,c11,e11,f11⟩:Rows _ _ _ (f 6) W:=v11;replace hh:=hJ.hp;refine aU (bg (ae v12 (ae e11 (ae v10 (ae v9 (ae v8 (ae v7 (ae v6 (ae v5 aT))))))))) ?_;dsimp only [bI];clear e11 hJ;refine fe [_,_,_,_] ?_;refine bL hh 0 [_,_,_,_] ?_;intro ws hh;replace hh:Hp _ (.blk _ _ [_,_,_,_] _::_) _:=hh;refine aa (av ?_);refine LO (dT rfl (dW (vs:=[_,_,_,_]) aJ.out (hh.bP (i:=0) (n:=4) rfl rfl) rfl) e8) ?_;exact ⟨rfl,hh.below⟩
theorem Sl.tail {A:Option Addr}{x:TR}{X:List TR} (h:Sl w A n 4 (aA TR.cells (x::X))) (h0:0<n) (hc:n≤c):Sl w (if c=1 then A else A.map (·.add (1*4))) (n-1) 4 (aA TR.cells X):=by
 have:=h.back (l:=1) VZ hc;rw [show (aA TR.cells (x::X)).drop (1*4)=aA TR.cells X from jU TR.len (x::X) 1] at this;exact this
theorem pJ (A:Option Addr) (n c:Nat) (xs:List TR) (B:Option Addr) (m c2:Nat) (ys:List TR) (k:Nat) (w:World) (hT:er w) (hS:Sl w A n 4 (aA TR.cells xs)) (hS2:Sl w B m 4 (aA TR.cells ys)) (hc:n≤c) (hc2:m≤c2) (hn:n≤1000000) (hm:m≤1000000) (hk:k≤3999980)
  (rx:vq xs) (ry:vq ys) (ox:jG k xs) (oy:jG k ys):
  Calls Tryz.prog 129 #[.slice A n c,.slice B m c2,.func (.func 130) #[] #[],.func (.func 131) #[] #[]] w fun r w'=>∃(L:List TR) (A':Option Addr) (c':Nat),MD (k+1) (xs++ys) L∧r=.returned (.slice A' L.length c')∧Hp w [.row A' L.length c' 80 4 (aA TR.cells L)] w':=by
 have hh:=Hp.start w;have hlx:=hS.bE TR.len V0;have hly:=hS2.bE TR.len V0;have hnx:xs.length≤1000000:=VZ;have hny:ys.length≤1000000:=VZ;refine aj (N:=75) (l:=[.slice A n c,.slice B m c2,.func (.func 130) #[] #[],.func (.func 131) #[] #[]]) Tryz.func129 rfl rfl (by simp) ?_;refine sr (aL (aa (sr (mL (aF (mL (aF ?_)))))));refine bj ?_;refine NT (n:=(n+m)) hh rfl rfl VZ VZ a9.out aJ.out VZ VZ V0 ?_;intro b16 w16 hh;refine aL (aa (ah (aq ?_)));refine ux [0,1,9,10,17,18,19,20,21,22,23,24,25,26,27,28,29,30,31,32,33,34,35,36,37,38,39,40,41,42,43,44,45,46,47,48,49,50,51,52,53,54,55,56,57,58,59,60,61,62,63,64,65,66,67,68,69] 0 1 9
  (fun va vb vo w'=>∃(A:Option Addr) (n c:Nat) (X:List TR) (B:Option Addr) (m c2:Nat) (Y:List TR) (O:List TR) (C:Option Addr) (co:Nat),va=.slice A n c∧vb=.slice B m c2∧vo=.slice C O.length co∧n≤c∧m≤c2∧Sl w A n 4 (aA TR.cells X)∧Sl w B m 4 (aA TR.cells Y)∧Mg k xs ys O X Y∧Hp w [.row C O.length co 80 4 (aA TR.cells O)] w')
  (fun va vb _ _=>lenOf va+lenOf vb) ?_ ?_
 ·exact ⟨A,n,c,xs,B,m,c2,ys,[],some ⟨b16,0,none⟩,n+m,rfl,rfl,rfl,hc,hc2,hS,hS2,Mg.start rx ry ox oy,hh⟩
 ·clear hh hS hS2 hlx hly hc hc2 hn hm;rintro ρ' va vb vo w' ⟨A,n,c,X,B,m,c2,Y,O,C,co,rfl,rfl,rfl,hc,hc2,hS,hS2,hmg,hh⟩;have hX:=hS.bE TR.len V0;have hY:=hS2.bE TR.len V0;have hlen:=hmg.len;have oX:=bU TR.one X;have oY:=bU TR.one Y;by_cases hn:n=0
  ·refine ah (sr (mL (aF ?_)));refine bH (mB ?_);refine gS (gS (gS ?_));refine dR ?_;refine aa (cF (aZ (aC (aC (br (ai (sr (mL (mL ?_)))))))));refine cv hh (i:=0) rfl rfl rfl (hS.ext hh.below) a9.out aJ.out rfl V0 ?one5 VZ VZ V0 ?kk5
   case one5=>first|rfl|assumption|exact bB _|exact oneCells_u8s _
   intro A72 c72 w72 hh;simp only [Wh] at hh;refine mL ?_;refine cv hh (i:=0) rfl rfl rfl (hS2.ext hh.below) a9.out aJ.out rfl V0 ?one6 VZ VZ V0 ?kk6
   case one6=>first|rfl|assumption|exact bB _|exact oneCells_u8s _
   intro A74 c74 w74 hh;simp only [Wh] at hh;refine aL (aa (av ?_));refine cW ?_;have hd:=hmg.done (.inl (XA VZ));exact Tc
  ·by_cases hm:m=0
   ·refine ah (sr (mL (aF ?_)));refine vV ?_;refine bH ?_;refine fi ?_;refine aa (cF (aZ (aC (aC (br (ai (sr (mL (mL ?_)))))))));refine cv hh (i:=0) rfl rfl rfl (hS.ext hh.below) a9.out aJ.out rfl V0 ?one7 VZ VZ V0 ?kk7
    case one7=>first|rfl|assumption|exact bB _|exact oneCells_u8s _
    intro A72 c72 w72 hh;simp only [Wh] at hh;refine mL ?_;refine cv hh (i:=0) rfl rfl rfl (hS2.ext hh.below) a9.out aJ.out rfl V0 ?one8 VZ VZ V0 ?kk8
    case one8=>first|rfl|assumption|exact bB _|exact oneCells_u8s _
    intro A74 c74 w74 hh;simp only [Wh] at hh;refine aL (aa (av ?_));refine cW ?_;have hd:=hmg.done (.inr (XA VZ));exact Tc
   ·obtain ⟨x,X,rfl⟩:∃x X',X=x::X':=by cases X with
     |nil=>exact absurd hX.symm hn
     |cons x X'=>exact ⟨x,X',rfl⟩
    obtain ⟨y,Y,rfl⟩:∃y Y',Y=y::Y':=by cases Y with
     |nil=>exact absurd hY.symm hm
     |cons y Y'=>exact ⟨y,Y',rfl⟩
    obtain ⟨ad,rfl,hr⟩:=hS.at_ VZ;obtain ⟨ad2,rfl,hr2⟩:=hS2.at_ VZ;have hxx:(x::X)[0]?=some x:=rfl;have hyy:(y::Y)[0]?=some y:=rfl;have hSt:=hS.tail VZ hc;have hSt2:=hS2.tail VZ hc2;have hsd:=fun w1=>CP x y w1;unfold IZ at hsd
    cases h1:jx x.m y.m with
    |true=>
     rw [h1,V5 rfl] at hsd;refine ah (sr (mL (aF ?_)));refine vV ?_;refine bH ?_;refine fi ?_;refine aa (cT (ao (ai (aq (ah ?_)))));refine JY ?_;refine Ng ?_;refine fD ?_;refine nC (0) ?_;refine qK [_,_,_,_] (fun _ hj=>(hr.ext hj.hp.below).recAt TR.len hxx) ?_;refine fD ?_;refine nC (0) ?_;refine qK [_,_,_,_] (fun _ hj=>(hr2.ext hj.hp.below).recAt TR.len hyy) ?_;refine aG ?_;intro f W hJ hV;have hb_3:=hJ.bl;obtain ⟨v31,v30,v29,v28,v27,v26,v25,_⟩:=hV;replace hh:=hJ.hp;refine K5 ?_;dsimp only [bI];clear hJ;refine gy (hsd _) au.out rfl rfl V0 ?_;rintro e_ w32 ⟨rfl,hb_⟩;refine ⟨_,rfl, ?_⟩;replace hh:=hh.ext hb_;refine aI (aa (aq (sr (mI ?_))));refine a0 (aB (aa (cT ?_)));refine qz hh mixed fun w_ hj_=> ?_;replace hh:=hj_.hp;clear hj_;refine dk (i:=6) (by repeat (first|exact cD|refine bT ?_|refine cE ?_|refine np_scope ?_)) rfl V2 V2 V2 (fun _=>eO rfl) V0 ?_;refine dk (i:=7) (by repeat (first|exact cD|refine bT ?_|refine cE ?_|refine np_scope ?_)) rfl V2 V2 V2 (fun _=>gK (l:=1) a9.out aJ.size rfl rfl VZ VZ VZ) V0 ?_
     refine dk (i:=0) (by repeat (first|exact cD|refine bT ?_|refine cE ?_|refine np_scope ?_)) rfl V2 V2 V2 (fun _=>eO rfl) V0 ?_;refine dk (i:=1) (by repeat (first|exact cD|refine bT ?_|refine cE ?_|refine np_scope ?_)) rfl V2 V2 V2 (fun _=>eO rfl) V0 ?_;refine dk (i:=2) (by repeat (first|exact cD|refine bT ?_|refine cE ?_|refine np_scope ?_)) rfl V2 V2 V2 (fun _=>ep (k:=0) a9.out aJ.size rfl rfl VZ VZ) V0 ?_;refine fV (i:=3) V2 rfl ?_;refine KM ?_;refine fw ?_;refine fV (i:=4) V2 rfl ?_;refine Ch ?_;intro b55 w55 hh;refine fw ?_;refine fV (i:=5) V2 rfl ?_;refine nj ?_;intro A56 c56 w56 hh;simp only [Wh,WI] at hh;replace hh:=hh.sub (WO _ _);refine fw ?_;refine kF 8 V0 V2 V0 V2 V2 ?_;refine aL (aL (az (bF (bF (ai ?_)))));replace hh:=hh.sub (V7 _ Wx);refine ⟨⟨_,n-1,c-1,X,some ad2,m,c2,y::Y,O++[x],A56,c56,rfl,rfl, ?_,VZ,hc2,hSt,hS2,hmg.left h1, ?_⟩,by show (n-1)+m<n+m;omega, ?_⟩
     ·show Value.slice _ (O.length+1) _=Value.slice _ (O++[x]).length _;rw [We]
      rfl
     ·rw [We,bK];exact hh
     ·exact dF
    |false=>
     cases h2:jx y.m x.m with
     |true=>
      rw [h1,h2,V6 V0,V5 rfl] at hsd;refine ah (sr (mL (aF ?_)));refine vV ?_;refine bH ?_;refine fi ?_;refine aa (cT (ao (ai (aq (ah ?_)))));refine JY ?_;refine Ng ?_;refine fD ?_;refine nC (0) ?_;refine qK [_,_,_,_] (fun _ hj=>(hr.ext hj.hp.below).recAt TR.len hxx) ?_;refine fD ?_;refine nC (0) ?_;refine qK [_,_,_,_] (fun _ hj=>(hr2.ext hj.hp.below).recAt TR.len hyy) ?_;refine aG ?_;intro f W hJ hV;have hb_3:=hJ.bl;obtain ⟨v31,v30,v29,v28,v27,v26,v25,_⟩:=hV;replace hh:=hJ.hp;refine K5 ?_;dsimp only [bI];clear hJ;refine gy (hsd _) au.out rfl rfl V0 ?_;rintro e_ w32 ⟨rfl,hb_⟩;refine ⟨_,rfl, ?_⟩;replace hh:=hh.ext hb_;refine aI (aa (aq (sr (mI ?_))));refine a0 (aB (aa (cF (sr (mI ?_)))));refine bH (aB (aa (cT ?_)));refine qz hh mixed fun w_ hj_=> ?_;replace hh:=hj_.hp;clear hj_;refine dk (i:=6) (by repeat (first|exact cD|refine bT ?_|refine cE ?_|refine np_scope ?_)) rfl V2 V2 V2 (fun _=>eO rfl) V0 ?_;refine dk (i:=7) (by repeat (first|exact cD|refine bT ?_|refine cE ?_|refine np_scope ?_)) rfl V2 V2 V2 (fun _=>gK (l:=1) a9.out aJ.size rfl rfl VZ VZ VZ) V0 ?_
      refine dk (i:=0) (by repeat (first|exact cD|refine bT ?_|refine cE ?_|refine np_scope ?_)) rfl V2 V2 V2 (fun _=>eO rfl) V0 ?_;refine dk (i:=1) (by repeat (first|exact cD|refine bT ?_|refine cE ?_|refine np_scope ?_)) rfl V2 V2 V2 (fun _=>eO rfl) V0 ?_;refine dk (i:=2) (by repeat (first|exact cD|refine bT ?_|refine cE ?_|refine np_scope ?_)) rfl V2 V2 V2 (fun _=>ep (k:=0) a9.out aJ.size rfl rfl VZ VZ) V0 ?_;refine fV (i:=3) V2 rfl ?_;refine Jf ?_;refine fw ?_;refine fV (i:=4) V2 rfl ?_;refine Ch ?_;intro b66 w66 hh;refine fw ?_;refine fV (i:=5) V2 rfl ?_;refine nj ?_;intro A67 c67 w67 hh;simp only [Wh,WI] at hh;replace hh:=hh.sub (WO _ _);refine fw ?_;refine kF 8 V0 V2 V0 V2 V2 ?_;refine aL (aL (az (bF (bF (ai ?_)))));replace hh:=hh.sub (V7 _ Wx);refine ⟨⟨some ad,n,c,x::X,_,m-1,c2-1,Y,O++[y],A67,c67,rfl,rfl, ?_,hc,VZ,hS,hSt2,hmg.right h2, ?_⟩,by show n+(m-1)<n+m;omega, ?_⟩
      ·show Value.slice _ (O.length+1) _=Value.slice _ (O++[y]).length _;rw [We]
       rfl
      ·rw [We,bK];exact hh
      ·exact dF
     |false=>
      rw [h1,h2,V6 V0,V6 V0] at hsd;have hsm:=fun w1 hT1=>GY x y k w1 hT1 (hmg.ox x Wj) (hmg.oy y Wj) hk;refine ah (sr (mL (aF ?_)));refine vV ?_;refine bH ?_;refine fi ?_;refine aa (cT (ao (ai (aq (ah ?_)))));refine JY ?_;refine Ng ?_;refine fD ?_;refine nC (0) ?_;refine qK [_,_,_,_] (fun _ hj=>(hr.ext hj.hp.below).recAt TR.len hxx) ?_;refine fD ?_;refine nC (0) ?_;refine qK [_,_,_,_] (fun _ hj=>(hr2.ext hj.hp.below).recAt TR.len hyy) ?_;refine aG ?_;intro f W hJ hV;have hb_3:=hJ.bl;obtain ⟨v31,v30,v29,v28,v27,v26,v25,_⟩:=hV;replace hh:=hJ.hp;refine K5 ?_;dsimp only [bI];clear hJ;refine gy (hsd _) au.out rfl rfl V0 ?_;rintro e_ w32 ⟨rfl,hb_⟩;refine ⟨_,rfl, ?_⟩;replace hh:=hh.ext hb_;refine aI (aa (aq (sr (mI ?_))));refine a0 (aB (aa (cF (sr (mI ?_)))));refine bH (aB (aa (cF ?_)));refine qz hh mixed fun w_ hj_=> ?_;replace hh:=hj_.hp;clear hj_;refine dk (i:=11) (by repeat (first|exact cD|refine bT ?_|refine cE ?_|refine np_scope ?_)) rfl V2 V2 V2 (fun _=>eO rfl) V0 ?_
      refine dk (i:=12) (by repeat (first|exact cD|refine bT ?_|refine cE ?_|refine np_scope ?_)) rfl V2 V2 V2 (fun _=>gK (l:=1) a9.out aJ.size rfl rfl VZ VZ VZ) V0 ?_;refine dk (i:=13) (by repeat (first|exact cD|refine bT ?_|refine cE ?_|refine np_scope ?_)) rfl V2 V2 V2 (fun _=>eO rfl) V0 ?_;refine dk (i:=14) (by repeat (first|exact cD|refine bT ?_|refine cE ?_|refine np_scope ?_)) rfl V2 V2 V2 (fun _=>gK (l:=1) a9.out aJ.size rfl rfl VZ VZ VZ) V0 ?_;refine dk (i:=0) (by repeat (first|exact cD|refine bT ?_|refine cE ?_|refine np_scope ?_)) rfl V2 V2 V2 (fun _=>eO rfl) V0 ?_;refine dk (i:=1) (by repeat (first|exact cD|refine bT ?_|refine cE ?_|refine np_scope ?_)) rfl V2 V2 V2 (fun _=>eO rfl) V0 ?_;refine dk (i:=2) (by repeat (first|exact cD|refine bT ?_|refine cE ?_|refine np_scope ?_)) rfl V2 V2 V2 (fun _=>eO rfl) V0 ?_;refine dk (i:=3) (by repeat (first|exact cD|refine bT ?_|refine cE ?_|refine np_scope ?_)) rfl V2 V2 V2 (fun _=>ep (k:=0) a9.out aJ.size rfl rfl VZ VZ) V0 ?_
      refine dk (i:=5) (by repeat (first|exact cD|refine bT ?_|refine cE ?_|refine np_scope ?_)) rfl V2 V2 V2 (fun _=>eO rfl) V0 ?_;refine dk (i:=6) (by repeat (first|exact cD|refine bT ?_|refine cE ?_|refine np_scope ?_)) rfl V2 V2 V2 (fun _=>ep (k:=0) a9.out aJ.size rfl rfl VZ VZ) V0 ?_;refine tf (i:=4) (i2:=7) V2 rfl rfl ?_ ?_
      ·refine KM ?_;refine fw ?_;refine fV (i:=7) V2 rfl ?_;refine Jf ?_;exact ON
      ·refine Jf ?_;refine fw ?_;refine fV (i:=4) V2 rfl ?_;refine KM ?_;exact ON
structure RX where
 A:Option Addr
 n:Nat
 c:Nat
 ts:List TR
def kM (k:Nat) (l:List TR):VP:=fun v W=>∃g:RX,v=.slice g.A g.n g.c∧(g.n≤g.c∧g.ts.length=g.n∧MD k l g.ts∧Sl W g.A g.n 4 (aA TR.cells g.ts))
theorem kM.ext (v:Value) (w w':World) (h:kM k l v w) (hb:Below w.heap.size w w'):kM k l v w':=let ⟨g,h1,h2,h3,h4,h5⟩:=h;⟨g,h1,h2,h3,h4,h5.ext hb⟩
theorem MD.KF {k1 k2:Nat}{l1 l2 L1 L2 L:List TR} (h1:MD k1 l1 L1) (h2:MD k2 l2 L2) (h:MD k (L1++L2) L) (hk:k≤j):MD j (l1++l2) L:=
 ⟨h.sB,fun m=>by rw [h.co,fh,h1.co,h2.co,fh],by have a:=h.len;have b:=h1.len;have c:=h2.len;rw [We] at a ⊢;omega,h.ok.mono hk,fun t ht=>by
  obtain ⟨s,hs,e⟩:=h.mem t ht
  rcases W3.1 hs with hs|hs
  ·obtain ⟨u,hu,e2⟩:=h1.mem s hs;exact ⟨u,X5 _ hu,e2.trans e⟩
  ·obtain ⟨u,hu,e2⟩:=h2.mem s hs;exact ⟨u,XU _ hu,e2.trans e⟩⟩
theorem mH (k:Nat):∀(N:Nat) (A:Option Addr) (n c:Nat) (l:List TR) (w:World),n≤N→er w→Sl w A n 4 (aA TR.cells l)→n≤c→n≤1000000→k+n≤3999980→jG k l→
  Calls Tryz.prog 174 #[.slice A n c,.func (.func 130) #[] #[],.func (.func 131) #[] #[]] w fun r w'=>(n<2∧r=.returned (.slice A n c)∧Below w.heap.size w w')∨(2≤n∧∃(L:List TR) (A':Option Addr) (c':Nat),MD (k+n) l L∧r=.returned (.slice A' L.length c')∧Hp w [.row A' L.length c' 80 4 (aA TR.cells L)] w')
 |0,A,n,c,l,w,hN,hT,hS,hc,hn,hk,hok=>by
  have hh:=Hp.start w;obtain rfl:n=0:=VZ;refine aj (N:=30) (l:=[.slice A 0 c,.func (.func 130) #[] #[],.func (.func 131) #[] #[]]) Tryz.func174 rfl rfl (by simp) ?_;refine wA ?_;refine a0 (aa (cT (sr (mL (aL (aa (av (aK ?_))))))));refine cW ?_;exact .inl ⟨VZ,rfl,hh.below⟩
 |N+1,A,n,c,l,w,hN,hT,hS,hc,hn,hk,hok=>by
  have hh:=Hp.start w;have hl:=hS.bE TR.len V0;by_cases h2:n<2
  ·refine aj (N:=30) (l:=[.slice A n c,.func (.func 130) #[] #[],.func (.func 131) #[] #[]]) Tryz.func174 rfl rfl (by simp) ?_;refine wA ?_;refine a0 (aa (cT (sr (mL (aL (aa (av (aK ?_))))))));refine cW ?_;exact .inl ⟨h2,rfl,hh.below⟩
  ·obtain ⟨h,hhalf⟩:∃h,h=n/2:=⟨_,rfl⟩;have hh1:1≤h:=VZ;have hh2:h+h≤n:=VZ;have hh3:n≤h+h+1:=VZ;have hq:((n:Int))/2=(h:Int):=VZ;have hS1:=hS.front (m:=h) VZ;rw [show (aA TR.cells l).take (h*4)=aA TR.cells (l.take h) from lh TR.len l h] at hS1;have hS2:=hS.back (l:=h) VZ hc;rw [show (aA TR.cells l).drop (h*4)=aA TR.cells (l.drop h) from jU TR.len l h] at hS2;have o1:jG k (l.take h):=fun t ht=>hok t (Yd ht);have o2:jG k (l.drop h):=fun t ht=>hok t (Y4 ht);have rd:∀{A':Option Addr}{n' c':Nat}{l':List TR}{r:Ending}{w1 w':World},Sl w1 A' n' 4 (aA TR.cells l')→n'≤c'→jG k l'→((n'<2∧r=.returned (.slice A' n' c')∧Below w1.heap.size w1 w')∨(2≤n'∧∃(L:List TR) (B:Option Addr) (b:Nat),MD (k+n') l' L∧r=.returned (.slice B L.length b)∧Hp w1 [.row B L.length b 80 4 (aA TR.cells L)] w'))→∃v,r=.returned v∧Below w1.heap.size w1 w'∧kM (k+n') l' v w':=by
    rintro A' n' c' l' r w1 w' hs hc' ho (⟨h1,rfl,hb⟩|⟨h1,L,B,b,hm,rfl,h3⟩)
    ·have e:=hs.bE TR.len V0;exact ⟨_,rfl,hb,⟨A',n',c',l'⟩,rfl,hc',e,(MD.self (xK VZ) ho).mono VZ,hs.ext hb⟩
    ·exact ⟨_,rfl,h3.below,⟨B,L.length,b,L⟩,rfl,h3.eZ (i:=0) rfl,rfl,hm,h3.aD (i:=0) rfl⟩
   have ih1:=fun w1 (hT1:er w1) (hb:Below w.heap.size w w1)=>mH k N A h c (l.take h) w1 VZ hT1 (hS1.ext hb) VZ VZ VZ o1;have ih2:=fun w1 (hT1:er w1) (hb:Below w.heap.size w w1)=>mH k N _ (n-h) (c-h) (l.drop h) w1 VZ hT1 (hS2.ext hb) VZ VZ VZ o2;refine aj (N:=30) (l:=[.slice A n c,.func (.func 130) #[] #[],.func (.func 131) #[] #[]]) Tryz.func174 rfl rfl (by simp) ?_;refine wA ?_;refine a0 (aa (cF (ao (ai (sr (mL (aF ?_)))))));refine me ?_;refine aI (aa (ah ?_));rw [hq];refine aN 14 [[(0,none)],[(7,none)],[(15,some 0),(16,some 1)],[(1,none)],[(2,none)],[(17,some 2),(18,some 3),(19,some 4)],[(0,none)],[(7,none)],[(21,some 6),(22,some 7)],[(1,none)],[(2,none)],[(23,some 8),(24,some 9),(25,some 10)],[(1,none)],[(2,none)]] [(13,28),(12,27),(11,26),(10,25),(9,24),(8,23),(7,22),(6,21),(5,20),(4,19),(3,18),(2,17),(1,16),(0,15)] hh mixed V2 ?_;refine fD ?_;refine dn ?_;refine a6 (i:=2) (fun ρ1 w1 hj hR=>pK (h:=h) a9.out aJ.size (show ρ1 15=Value.slice _ _ _ from hR.1) (show ρ1 16=Value.int _ _ from hR.2.1) VZ VZ) ?_;refine Ng ?_;refine Ng ?_
   refine aP (i:=5) (kM (k+h) (l.take h)) (kM.ext) ?_ ?_
   ·intro ρ1 w1 hj hR;exact bf rfl (aQ au.out (aw (show ρ1 17=Value.slice _ _ _ from hR.1) (aw (show ρ1 18=Value.func _ _ _ from hR.2.1) (aw (show ρ1 19=Value.func _ _ _ from hR.2.2.1) a8)))) (ih1 w1 (hT.hp hj.hp) hj.hp.below) (fun _ _ hq=>rd (hS1.ext hj.hp.below) VZ o1 hq)
   refine fD ?_;refine dn ?_;refine a6 (i:=8) (fun ρ1 w1 hj hR=>gK (l:=h) a9.out aJ.size (show ρ1 21=Value.slice _ _ _ from hR.1) (show ρ1 22=Value.int _ _ from hR.2.1) VZ VZ VZ) ?_;refine Ng ?_;refine Ng ?_;refine aP (i:=11) (kM (k+(n-h)) (l.drop h)) (kM.ext) ?_ ?_
   ·intro ρ1 w1 hj hR;exact bf rfl (aQ au.out (aw (show ρ1 23=Value.slice _ _ _ from hR.1) (aw (show ρ1 24=Value.func _ _ _ from hR.2.1) (aw (show ρ1 25=Value.func _ _ _ from hR.2.2.1) a8)))) (ih2 w1 (hT.hp hj.hp) hj.hp.below) (fun _ _ hq=>rd (hS2.ext hj.hp.below) VZ o2 hq)
   refine Ng ?_;refine Ng ?_;refine aG ?_;intro f W hJ hV;have hb_4:=hJ.bl;obtain ⟨v28,v27,v26,v25,v24,v23,v22,v21,v20,v19,v18,v17,v16,v15,_⟩:=hV;obtain ⟨g20,e20,o20⟩:kM (k+h) (l.take h) (f 5) W:=v20;obtain ⟨g26,e26,o26⟩:kM (k+(n-h)) (l.drop h) (f 11) W:=v26;replace hh:=hJ.hp;refine aU (bg (ae v28 (ae v27 (ae e26 (ae v25 (ae v24 (ae v23 (ae v22 (ae v21 (ae e20 (ae v19 (ae v18 (ae v17 (ae v16 (ae v15 aT))))))))))))))) ?_;dsimp only [bI];clear e20 e26 hJ;obtain ⟨p1,p2,p3,p4⟩:=o20;obtain ⟨q1,q2,q3,q4⟩:=o26;have l1:=p3.len;have l2:=q3.len;rw [Ww] at l1;rw [Xu] at l2;refine aE (pJ g20.A g20.n g20.c g20.ts g26.A g26.n g26.c g26.ts (k+(n-h)) _ (hT.hp hh) p4 q4 p1 q1 VZ VZ VZ p3.sB q3.sB (p3.ok.mono VZ) (q3.ok.mono VZ)) au.out rfl V0 ?_;rintro e_ w29 ⟨L,A',c',hm,rfl,h3⟩;refine ⟨_,rfl, ?_⟩;replace hh:=hh.join h3;refine aL (aa (av ?_));refine cW ?_;refine .inr ⟨VZ,L,A',c', ?_,rfl,hh⟩;have:=p3.KF q3 hm (j:=k+n) VZ;rwa [W9] at this
theorem u6 (A:Option Addr) (n c:Nat) (l:List TR) (g:FuncId) (cap:List Value) (p:TR→Bool) (w:World) (hS:Sl w A n 4 (aA TR.cells l)) (hn:n≤1000000) [au Tryz.prog g]
  (hg:∀(z:TR) (w1:World),z∈l→Below w.heap.size w w1→Calls Tryz.prog g (.agg #[.string z.m,.bool z.c.neg,.string z.c.bk,.int .i64 z.c.e]::cap).toArray w1 fun r w'=>r=.returned (.bool (p z))∧Below w1.heap.size w1 w'):
  Calls Tryz.prog 176 #[.slice A n c,.func (.func g) #[] cap.toArray] w fun r w'=>∃v,r=.returned (.int .i64 v)∧((l.any p=false∧v= -1)∨∃(i:Nat) (z:TR),i<n∧v=i∧(l.take i).any p=false∧l[i]?=some z∧p z=true)∧Below w.heap.size w w':=by
 have hh:=Hp.start w;have hln:=hS.bE TR.len V0;refine aj (N:=19) (l:=[.slice A n c,.func (.func g) #[] cap.toArray]) Tryz.func176 rfl rfl (by simp) ?_;refine Bq ?_;refine aW [4,5,8,9,10,11,12,13,14,15,16,17,18] 8
  (fun v w'=>∃i:Nat,i≤n∧v=.int .i64 i∧(l.take i).any p=false∧Hp w [] w')
  (fun v _=>n-(intOf v).toNat) ?_ ?_
 ·exact ⟨0,V8 _,rfl,rfl,hh⟩
 ·clear hh;rintro ρ' v w' ⟨i,hi,rfl,hall,hh⟩;by_cases hlt:i<n
  ·obtain ⟨z,hz⟩:=al (l:=l) (k:=i) VZ;obtain ⟨ad,rfl,hr⟩:=hS.at_ VZ;have hc:=fun w1=>hg z w1 (Wb hz)
   cases gz:p z with
   |true=>
    rw [gz] at hc;refine sr ?_;refine rG ?_;refine iJ ?_;refine mL (mI ?_);refine cA ?_;refine cz (vs:=[_,_,_,_]) aJ.out rfl ((hr.ext hh.below).recAt TR.len hz) rfl V0 ?_;refine gy (hc _ hh.below) au.out rfl rfl V0 ?_;rintro e_ w16 ⟨rfl,hb_⟩;refine ⟨_,rfl, ?_⟩;replace hh:=hh.ext hb_;refine aa (cT (sr (mI (aI (aa (av (cm (aK (aK (cm (aK ?_)))))))))));refine cW ?_;exact ⟨_,rfl,.inr ⟨i,z,hlt,rfl,hall,hz,gz⟩,hh.below⟩
   |false=>
    rw [gz] at hc;refine sr ?_;refine rG ?_;refine iJ ?_;refine mL (mI ?_);refine cA ?_;refine cz (vs:=[_,_,_,_]) aJ.out rfl ((hr.ext hh.below).recAt TR.len hz) rfl V0 ?_;exact Gf
  ·rw [Wc VZ] at hall;refine sr ?_;refine Gm ?_;refine cW ?_;exact ⟨_,rfl,.inl ⟨hall,rfl⟩,hh.below⟩
theorem DK (A:Option Addr) (n c:Nat) (l:List TR) (g:FuncId) (cap:List Value) (p:TR→Bool) (w:World) (hS:Sl w A n 4 (aA TR.cells l)) (hn:n≤1000000) [au Tryz.prog g]
  (hg:∀(z:TR) (w1:World),z∈l→Below w.heap.size w w1→Calls Tryz.prog g (.agg #[.string z.m,.bool z.c.neg,.string z.c.bk,.int .i64 z.c.e]::cap).toArray w1 fun r w'=>r=.returned (.bool (p z))∧Below w1.heap.size w1 w'):
  Calls Tryz.prog 136 #[.slice A n c,.func (.func g) #[] cap.toArray] w fun r w'=>r=.returned (.bool (l.any p))∧Below w.heap.size w w':=by
 have hh:=Hp.start w;refine aj (N:=9) (l:=[.slice A n c,.func (.func g) #[] cap.toArray]) Tryz.func136 rfl rfl (by simp) ?_;refine sr (aB (aa (sr (mL ?_))));refine iJ ?_;refine aE (u6 A n c l g cap p _ (hS.ext hh.below) hn hg) au.out rfl V0 ?_;rintro e_ w7 ⟨v_,rfl,hv_,hb_⟩;refine ⟨_,rfl, ?_⟩;replace hh:=hh.ext hb_
 rcases hv_ with ⟨ha,rfl⟩|⟨i,z,hi,rfl,ht,hz,hp⟩
 ·rw [ha];exact EK
 ·rw [show l.any p=true from Yb.2 ⟨z,Wb hz,hp⟩];exact EK
theorem l4 (A:Option Addr) (n c:Nat) (l:List TR) (w:World) (hS:Sl w A n 4 (aA TR.cells l)) (hn:n≤1000000):
  Calls Tryz.prog 138 #[.slice A n c] w fun r w'=>∃A' c',r=.returned (.slice A' n c')∧w'.ownsRow w.heap.size 80 4 (.slice A' n c') n (aA TR.cells l)∧Below w.heap.size w w':=by
 have hh:=Hp.start w;have oX:=bU TR.one l
 rcases A with _|ad
 ·have hn0:n=0:=by
   exact R7
  subst hn0;have hl:l=[]:=XA (by have:=hS.bE TR.len V0;omega);subst hl;refine aj (N:=8) (l:=[.slice none 0 c]) Tryz.func138 rfl rfl (by simp) ?_;exact RH
 ·refine aj (N:=8) (l:=[.slice (some ad) n c]) Tryz.func138 rfl rfl (by simp) ?_;refine sr (aL (aa (ah (sr (mL ?_)))));refine sF a9.out rfl rfl V0 ?_;refine uk ?_;refine iG hh a9.out aJ.out V0 ?_;intro b5 w5 hh;refine mL ?_;refine cv hh (i:=0) rfl rfl rfl (hS.ext hh.below) a9.out aJ.out rfl V0 ?one9 VZ VZ V0 ?kk9
  case one9=>first|rfl|assumption|exact bB _|exact oneCells_u8s _
  exact Sb
theorem B5 {l:List α}{i:Nat} (h:i<j) (x:α):(l.set i x).drop j=l.drop j:=by
 refine XK fun k=> ?_;rw [XY,XY,XB,V6 VZ]
theorem vN {l:List α}{i:Nat} (h:i<l.length) (x:α):(l.set i x).take (i+1)=l.take i++[x]:=by
 rw [ay (show (l.set i x)[i]?=some x by rw [XB,V5 rfl,V5 h]),List.take_set_of_le (V9 _)]
theorem C5 (A:Option Addr) (n c:Nat) (l:List TR) (g:FuncId) (p:TR→Bool) (w:World) (hh:Hp w0 (.row A n c 80 4 (aA TR.cells l)::Hr) w) (hl:l.length=n) (hn:n≤1000000) [au Tryz.prog g]
  (hg:∀(z:TR) (w1:World),z∈l→Calls Tryz.prog g (.agg #[.string z.m,.bool z.c.neg,.string z.c.bk,.int .i64 z.c.e]::[]).toArray w1 fun r w'=>r=.returned (.bool (p z))∧Below w1.heap.size w1 w'):
  Calls Tryz.prog 173 #[.slice A n c,.func (.func g) #[] #[]] w fun r w'=>r=.returned (.slice A (l.filter fun z=> !p z).length c)∧Hp w0 (.row A (l.filter fun z=> !p z).length c 80 4 (aA TR.cells (l.filter fun z=> !p z))::Hr) w':=by
 have hc:=hh.eZ (i:=0) rfl;have hsl:=hh.aD (i:=0) rfl;refine aj (N:=42) (l:=[.slice A n c,.func (.func g) #[] #[]]) Tryz.func173 rfl rfl (by simp) ?_;refine sr (aL (aa (sr (mL ?_))));refine iJ ?_;refine aE (u6 A n c l g [] p _ hsl hn (fun z w1 hz _=>hg z w1 hz)) au.out rfl V0 ?_;rintro e_ w10 ⟨v_,rfl,hv_,hb_⟩;refine ⟨_,rfl, ?_⟩;replace hh:=hh.ext hb_
 rcases hv_ with ⟨ha,rfl⟩|⟨i0,z0,hi0,rfl,ht0,hz0,hp0⟩
 ·have hf:(l.filter fun z=> !p z)=l:=List.filter_eq_self.2 fun z hz=>by
   have:=Ya.1 ha z hz;simpa using this
  rw [hf,hl];refine aI (aa (ah (sr (mI ?_))));refine ct (aa (cT (sr (mL (aL (aa (av (aK ?_))))))));refine cW ?_;exact ⟨rfl,hh⟩
 ·have hf0:((l.take (i0+1)).filter fun z=> !p z)=l.take i0:=by
   rw [ay hz0,YU,ZA (by rw [hp0];decide),List.filter_nil,WJ];exact List.filter_eq_self.2 fun z hz=>by
    have:=Ya.1 ht0 z hz;simpa using this
  obtain ⟨g0,rfl⟩:=hh.bZ (i:=0) rfl VZ;refine aI (aa (ah (sr (mI ?_))));refine ct (aa (cF (ao (ai (ah (sr (mI ?_)))))));refine bj (aI (aa (aq ?_)));refine bz [5,6,7,16,17,18,19,20,21,22,23,24,25,26,27,28,29,30,31,32,33,34,35] 5 6
   (fun v5 v6 w'=>∃(i j:Nat) (X:List TR),i<j∧j≤n∧v5=.int .i64 i∧v6=.int .i64 j∧X.length=n∧i=((l.take j).filter fun z=> !p z).length∧X.take i=((l.take j).filter fun z=> !p z)∧X.drop j=l.drop j∧Hp w0 (.row (some ⟨g0,0,none⟩) n c 80 4 (aA TR.cells X)::Hr) w')
   (fun _ v _=>n-(intOf v).toNat) ?_ ?_
  ·exact ⟨i0,i0+1,l,VZ,VZ,rfl,rfl,hl,by rw [hf0,Ww];omega,hf0.symm,rfl,hh⟩
  ·clear hh;rintro ρ' v5 v6 w' ⟨i,j,X,hij,hj,rfl,rfl,hX,hi,htk,hdr,hh⟩;by_cases hlt:j<n
   ·obtain ⟨z,hz⟩:=al (l:=l) (k:=j) VZ;have hXj:X[j]?=some z:=by
     have h1:(X.drop j)[0]?=(l.drop j)[0]?:=by rw [hdr]
     rw [XY,XY,XZ] at h1;rw [h1,hz]
    have hgz:=fun w1=>hg z w1 (Wb hz);have hdr2:X.drop (j+1)=l.drop (j+1):=by rw [←List.drop_drop,←List.drop_drop,hdr]
    have hrl:=fy TR.len X;refine ah (sr (mI (mL (aF ?_))));refine kT ?_;refine rL ?_;refine cz (vs:=[_,_,_,_]) aJ.out rfl (hh.iF (f:=TR.cells) (x:=z) (l:=X) (i:=0) rfl TR.len V0 hXj) rfl V0 ?_;refine bJ hh ?_;intro b7 w7 hh;refine bL hh 0 [_,_,_,_] ?_;intro ws hh;replace hh:Hp _ (.blk _ _ [_,_,_,_] _::_) _:=hh;refine aa (sr ?_);refine iJ ?_;refine bY hh 0 [_,_,_,_] ?_
    cases hpz:p z with
    |true=>
     rw [hpz] at hgz;have hfl:((l.take (j+1)).filter fun z=> !p z)=((l.take j).filter fun z=> !p z):=by rw [ay hz,YU,ZA (by rw [hpz];decide),List.filter_nil,WJ]
     refine gy (hgz _) au.out rfl rfl V0 ?_;rintro e_ w28 ⟨rfl,hb_⟩;refine ⟨_,rfl, ?_⟩;replace hh:=hh.ext hb_;refine gj ?_;refine pH ?_;refine bj (aI (az (ai ?_)));replace hh:=hh.sub (Wa _ (V7 _ (Xf _)));refine ⟨⟨i,j+1,X,VZ,VZ,rfl,rfl,hX,by rw [hfl];exact hi,by rw [hfl];exact htk,hdr2,hh⟩,by show n-(j+1)<n-j;omega, ?_⟩;exact dF
    |false=>
     rw [hpz] at hgz;have hfl:((l.take (j+1)).filter fun z=> !p z)=((l.take j).filter fun z=> !p z)++[z]:=by rw [ay hz,YU,List.filter_cons_of_pos (by rw [hpz];decide),List.filter_nil]
     refine gy (hgz _) au.out rfl rfl V0 ?_;rintro e_ w28 ⟨rfl,hb_⟩;refine ⟨_,rfl, ?_⟩;replace hh:=hh.ext hb_;refine gj ?_;refine aa (cT (sr (mL (mI ?_))));refine bY hh 0 [_,_,_,_] ?_;refine fP ?_;refine cf hh (i:=1) (vs:=[_,_,_,_]) rfl rfl (g6 rfl) rfl aJ.out rfl VZ rfl ?_;intro ws hh;simp only [Wh,WI] at hh;rw [show cd (aA TR.cells X) (i*4) [.string z.m,.bool z.c.neg,.string z.c.bk,.int .i64 z.c.e]=aA TR.cells (X.set i z) from jk TR.len VZ] at hh;refine aa (ak (mI ?_));refine bj (aI (az (bF (ai (ak (mI ?_))))));refine bj (aI (az (ai ?_)));replace hh:=hh.sub (Wa _ (V7 _ (Xf _)));refine ⟨⟨i+1,j+1,X.set i z,VZ,VZ,rfl,rfl,by rw [X8];exact hX,by rw [hfl,We,←hi];rfl,by rw [hfl,vN VZ,htk],by rw [B5 VZ];exact hdr2,hh⟩,by show n-(j+1)<n-j;omega, ?_⟩;exact dF
   ·obtain rfl:j=n:=VZ;rw [show l.take j=l from Wc VZ] at hi htk;have hcap:=hh.eZ (i:=0) rfl;have hp31:(if c=i then some (⟨g0,0,none⟩:Addr) else (some (⟨g0,0,none⟩:Addr)).map (·.add (i*4)))=some ⟨g0,i*4,none⟩:=by
     rw [V6 VZ];show some ((⟨g0,0,none⟩:Addr).add (i*4))=_;rw [eW,Ws]
    have htt:(aA TR.cells X).take (i*4)=aA TR.cells (l.filter fun z=> !p z):=by rw [lh TR.len,htk]
    refine ah (sr (mI (mL (aF ?_))));refine a0 (aa (cF (aZ (aC (aC (br (ai (sr (mL (mI ?_))))))))));refine aR rfl rfl V0 (gU (l:=i) (h:=j) a9.out aJ.size rfl ⟨_,_,rfl,rfl⟩ rfl VZ VZ) ?_;rw [hp31];replace hh:=hh.DT (k:=i) VZ;rw [htt] at hh;refine pL hh (i:=0) (o:=i*4) (m:=j-i) rfl rfl VZ VZ VZ a9.out aJ.out rfl rfl ?_;intro w38 hh;refine aa (sr (mL (mI ?_)));refine p9 (h:=i) a9.out aJ.size rfl rfl VZ VZ V0 ?_;refine aL (aa (av ?_));refine cW ?_;rw [←hi];exact ⟨rfl,hh⟩
variable {ts:List TR}
structure PX where
 v:Int
 A:Option Addr
 n:Nat
 c:Nat
 ts:List TR
def PX.row (g:PX):HE:=.row g.A g.n g.c 80 4 (aA TR.cells g.ts)
def PX.at_ (g:PX) (w:World):Prop:=Sl w g.A g.n 4 (aA TR.cells g.ts)
theorem PX.at_.ext {g:PX} (h:g.at_ w) (hb:Below w.heap.size w w'):g.at_ w':=Sl.ext h hb
theorem PX.at_.ln {g:PX} (h:g.at_ w):g.ts.length=g.n:=Sl.bE h TR.len V0
structure fL (E v:Int) (ts:List TR) (g:PX):Prop where
 v:g.v=if E=0 then v else 0
 ts:g.ts=if E=0 then ts else []
def PX.nil:PX:=⟨0,none,0,0,[]⟩
theorem fL.err {v:Int} (h:E≠0):fL E v ts PX.nil:=⟨by rw [V6 h];rfl,by rw [V6 h];rfl⟩
theorem Hp.CU {H:List HE} (h:Hp w0 H w):Hp w0 (PX.nil.row::H) w:=h.cx 80 4
theorem vH (A:Option Addr) (n c:Nat) (l:List TR) (k:Nat) (w:World) (hT:er w) (hh:Hp w0 (.row A n c 80 4 (aA TR.cells l)::Hr) w) (hl:l.length=n) (hn:n≤1000000) (hk:k+n≤3999980) (ho:jG k l):
  Calls Tryz.prog 174 #[.slice A n c,.func (.func 130) #[] #[],.func (.func 131) #[] #[]] w fun r w'=>∃(L:List TR) (A':Option Addr) (c':Nat),MD (k+n) l L∧r=.returned (.slice A' L.length c')∧Hp w0 (.row A' L.length c' 80 4 (aA TR.cells L)::Hr) w':=by
 refine (mH k n A n c l w (V9 _) hT (hh.aD (i:=0) rfl) (hh.eZ (i:=0) rfl) hn hk ho).mono fun r w' h=> ?_
 rcases h with ⟨h1,rfl,hb⟩|⟨h1,L,A',c',hm,rfl,h3⟩
 ·exact ⟨l,A,c,(MD.self (xK VZ) ho).mono VZ,by rw [hl],by rw [hl];exact hh.ext hb⟩
 ·refine ⟨L,A',c',hm,rfl, ?_⟩;exact (hh.join h3).sub (V7 _ (Wa _ (Xf _)))
def T1 (t:TR):Bool:=decide (t.c.d=0)
theorem CX (l:List TR):(l.filter fun z=> !T1 z)=l.filter y7:=rfl
theorem y8 (z:TR) (w:World):Calls Tryz.prog 175 #[.agg #[.string z.m,.bool z.c.neg,.string z.c.bk,.int .i64 z.c.e]] w fun r w'=>r=.returned (.bool (T1 z))∧Below w.heap.size w w':=by
 have hh:=Hp.start w;refine aj (N:=7) (l:=[.agg #[.string z.m,.bool z.c.neg,.string z.c.bk,.int .i64 z.c.e]]) Tryz.func175 rfl rfl (by simp) ?_;refine sr ?_;refine bV hh [_,_,_,_] ?_;intro b1 w1 hh;refine aB (aa (sr (bC ?_)));refine bY hh 0 [_,_,_] ?_;refine bq hh (ig z.c _) rfl ?_;intro w5 hh;have hz:z.c.i.sign=0↔z.c.d=0:=by
  rw [ZB];exact ⟨fun h=>by unfold NR.d;rw [h];rfl,rP⟩
 unfold T1;by_cases h0:z.c.d=0
 ·have hs:=hz.2 h0;rw [Wr h0];refine ct (aB (aa (av ?_)));refine cW ?_;exact ⟨rfl,hh.below⟩
 ·have hs:¬z.c.i.sign=0:=fun h=>h0 (hz.1 h);rw [WG h0];refine ct (aB (aa (av ?_)));refine cW ?_;exact ⟨rfl,hh.below⟩
def im (l:List TR):Int:=if 4096<(aM l).length then 3 else 0
theorem Bm {ys:List Value}{o:Nat}{v:Value} (h:xs[o]?=some v):cd xs o (v::ys)=cd xs (o+1) ys:=by
 unfold cd;rw [ay h,WH,show o+(ys.length+1)=o+1+ys.length by omega];simp
def US (t:TR):TR:=⟨t.m,nR t.c.d⟩
theorem xJ {X:List TR}{i:Nat}{z:TR} (h:X[i]?=some z) (y:NR):cd (aA TR.cells X) (i*4+1) [.bool y.neg,.string y.bk,.int .i64 y.e]=aA TR.cells (X.set i ⟨z.m,y⟩):=by
 have h0:(aA TR.cells X)[i*4]?=some (.string z.m):=by
  have h1:=tu TR.len h;have h2:(((aA TR.cells X).drop (i*4)).take 4)[0]?=some (.string z.m):=by rw [h1];rfl
  rwa [List.getElem?_take_of_lt V0,XY,XZ] at h2
 rw [←Bm h0];exact jk TR.len (y:=⟨z.m,y⟩) (Wk.1 h).1
theorem kB (v:Int) (A:Option Addr) (n c:Nat) (l:List TR) (k:Nat) (w:World) (hT:er w0) (hh:Hp w0 (.row A n c 80 4 (aA TR.cells l)::Hr) w) (hl:l.length=n) (hn:n≤1000000) (hk:k+n≤3999980) (ho:jG k l):
  Calls Tryz.prog 132 #[.int .i64 v,.slice A n c] w fun r w'=>∃g:PX,fL (im l) v (aM l) g∧r=.returned (.tuple #[.agg #[.int .i64 g.v,.slice g.A g.n g.c],.int .i64 (im l)])∧Hp w0 (g.row::Hr) w':=by
 refine aj (N:=33) (l:=[.int .i64 v,.slice A n c]) Tryz.func132 rfl rfl (by simp) ?_;refine sr ?_;refine bJ hh ?_;intro b4 w4 hh;refine aI (aa (sr (mL ?_)));replace hh:=hh.perm (WZ (l₁:=[_]));simp only [Wf,Wd] at hh;refine aE (vH A n c l k _ (hT.hp hh) hh hl hn hk ho) au.out rfl V0 ?_;rintro e_ w8 ⟨L,A1,c1,hmd,rfl,hh⟩;refine ⟨_,rfl, ?_⟩;have hlen:=hmd.len;refine aE (C5 A1 L.length c1 L _ T1 _ hh rfl VZ (fun z w1 _=>y8 z w1)) au.out rfl V0 ?_;rintro e_ w9 ⟨rfl,hh⟩;refine ⟨_,rfl, ?_⟩;rw [CX] at hh ⊢;have hML:(L.filter y7).length≤L.length:=Zy _ _;have hgl:(aM l).length=(L.filter y7).length:=by rw [←hmd.aM,Wi]
 have hgm:=hmd.aM;have hok:jG (k+n) (L.filter y7):=fun t ht=>hmd.ok t (XI.1 ht).1;generalize hM:L.filter y7=M at*;by_cases h4:4096<M.length
 ·rw [show im l=3 by unfold im;rw [V5 VZ]];refine aL (aa (ah (sr (mL (aF ?_)))));refine bH (aa (cT (sr ?_)));refine fe [_,_] ?_;refine bL hh 1 [_,_] ?_;intro ws hh;replace hh:Hp _ (_::.blk _ _ [_,_] _::_) _:=hh;refine aI (aa (av (aK ?_)));replace hh:=hh.sub (Wa _ (V7 _ (Xf _)));refine xm ?_;exact ⟨PX.nil,fL.err V0,rfl,(hh.sub (WO _ _)).CU⟩
 ·rw [show im l=0 by unfold im;rw [V6 VZ]];refine aL (aa (ah (sr (mL (aF ?_)))));refine bH (aa (cF (ao (ai (ah (sr (mL (aF (mI (aa (aq ?_)))))))))));refine aW [6,16,17,18,19,20,21,22,23,24,25,26,27,28,29] 16
   (fun v w'=>∃(i:Nat) (X:List TR),i≤M.length∧v=.int .i64 i∧X.length=M.length∧X=(M.take i).map US++M.drop i∧Hp w0 (.row A1 M.length c1 80 4 (aA TR.cells X)::.blk b4 24 [.int .i64 0,.slice none 0 0] (0,0)::Hr) w')
   (fun v _=>M.length-(intOf v).toNat) ?_ ?_
  ·exact ⟨0,M,V8 _,rfl,rfl,rfl,hh⟩
  ·clear hh;rintro ρ' v w' ⟨i,X,hi,rfl,hX,hXe,hh⟩;by_cases hlt:i<M.length
   ·obtain ⟨z,hz⟩:=al (l:=M) (k:=i) VZ;have hXz:X[i]?=some z:=by
     rw [hXe,Xt (by rw [Wi,Ww];omega),Wi,Ww,Xg VZ,Xc,XY];exact hz
    have hzo:=hok z (Wb hz);have hXn:X.set i ⟨z.m,nR z.c.d⟩=(M.take (i+1)).map US++M.drop (i+1):=by
     rw [ay hz,WX,hXe,Yf _ _ (by rw [Wi,Ww];omega),Wi,Ww,Xg VZ,Xc,WY];congr 1;obtain ⟨h1,h2⟩:=Wk.1 hz;rw [Xv h1,h2]
     rfl
    have hrl:=fy TR.len X;obtain ⟨g0,rfl⟩:=hh.bZ (i:=0) rfl VZ;refine sr ?_;refine a0 (aa (ah (cT (ao (ai (ah (aq (sr (mI (aI (aa (ak (mL (mI (mL (mI ?_))))))))))))))));refine fP ?_;refine bC ?_;refine cz (vs:=[_,_,_]) aJ.out rfl ((hh.iF (f:=TR.cells) (x:=z) (l:=X) (i:=0) rfl TR.len V0 hXz).drop 1) rfl V0 ?_;refine bq hh (eF z.c _ (hT.hp hh) (by have:=hzo.1.1;omega) (by have:=hzo.1.2.1;omega) (by have:=hzo.1.2.2;omega)) rfl ?_;intro w26 hh;refine fP ?_;refine bC ?_;refine cf hh (i:=0) (vs:=[_,_,_]) rfl rfl (g6 rfl) rfl aJ.out rfl VZ rfl ?_;intro ws hh;simp only [Wh] at hh;rw [xJ hXz,hXn] at hh;refine fN ?_;refine bj (mI (az (ai ?_)));refine ⟨⟨i+1,_,VZ,rfl, ?_,rfl,hh⟩,by show M.length-(i+1)<M.length-i;omega, ?_⟩
    ·rw [←hXn,X8,hX]
    ·exact dF
   ·obtain rfl:i=M.length:=VZ;rw [Wc (V9 _),XX (V9 _),WJ] at hXe;have hXg:X=aM l:=by rw [hXe];exact hgm
    rw [hXg] at hh;refine sr ?_;refine a0 (aa (ah (cF (aZ (aC (aC (br (ai (sr (mI (mL ?_)))))))))));refine fe [_,_] ?_;refine bL hh 1 [_,_] ?_;intro ws hh;replace hh:Hp _ (_::.blk _ _ [_,_] _::_) _:=hh;refine aI (aa (av ?_));refine Fj ?_;exact ⟨⟨v,A1,M.length,c1,aM l⟩,⟨rfl,rfl⟩,rfl,hh.sub (V7 _ (Wa _ (Xf _)))⟩
def jo (v:Int):Bool:=decide (0≤v) && decide (v≤12)
theorem jy {v:Int}:jo v=true↔0≤v∧v≤12:=by unfold jo;rw [Wm,Wt,Wt]
theorem nB (v:Int) (w:World):Calls Tryz.prog 109 #[.int .i64 v] w fun r w'=>r=.returned (.bool (jo v))∧Below w.heap.size w w':=by
 have hh:=Hp.start w;unfold jo;by_cases h1:0≤v
 ·rw [Wr h1,Bool.true_and];by_cases h2:v≤12
  ·rw [Wr h2];exact PY
  ·rw [WG h2];exact PY
 ·rw [WG h1,Bool.false_and];refine aj (N:=9) (l:=[.int .i64 v]) Tryz.func109 rfl rfl (by simp) ?_;refine sr (aB (aa (sr (mI ?_))));refine dP (mB ?_);refine gS (gS ?_);refine dR ?_;exact vP
def TZ (a:NR):Bool:=decide ((nR a.d).neg=a.neg) && (decide ((nR a.d).bk=a.bk) && decide ((nR a.d).e=a.e))
theorem sA (a:NR):TZ a=true↔nR a.d=a:=by
 unfold TZ;rw [Wm,Wm,Wt,Wt,Wt];constructor
 ·rintro ⟨h1,h2,h3⟩;obtain ⟨s,m,e⟩:=a;generalize nR (NR.d ⟨s,m,e⟩)=b at*;obtain ⟨s',m',e'⟩:=b;simp only at h1 h2 h3;rw [h1,h2,h3]
 ·intro h;rw [h];exact ⟨rfl,rfl,rfl⟩
def n9 (v:Int) (t:TR):Bool:=eS t.m.data.toList && decide ((t.m.size:Int)=v) && (y7 t && TZ t.c)
def tC:List TR→Bool
 |[]=>true
 |[_]=>true
 |a::b::l=>jx a.m b.m && tC (b::l)
theorem xH:∀(l:List TR) (p x:TR),tC (l++[p,x])=(tC (l++[p]) && jx p.m x.m)
 |[],p,x=>by show (jx p.m x.m && true)=(true && jx p.m x.m);rw [Bool.and_true,Bool.true_and]
 |[a],p,x=>by
  show (jx a.m p.m && (jx p.m x.m && true))=((jx a.m p.m && true) && jx p.m x.m);rw [Bool.and_true,Bool.and_true]
 |a::b::l,p,x=>by
  show (jx a.m b.m && tC ((b::l)++[p,x]))=((jx a.m b.m && tC ((b::l)++[p])) && jx p.m x.m);rw [xH (b::l) p x,Bool.and_assoc]
theorem E6:∀{l:List TR}{i:Nat}{p x:TR},tC l=true→l[i]?=some p→l[i+1]?=some x→jx p.m x.m=true
 |[],i,p,x,_,h,_=>by simp at h
 |[a],i,p,x,_,_,h=>by simp at h
 |a::b::l,0,p,x,h,h1,h2=>by
  simp only [YI,XN,Ws,YT] at h1 h2;subst h1 h2;exact (Yi.1 h).1
 |a::b::l,i+1,p,x,h,h1,h2=>by
  rw [YT] at h1 h2;exact E6 (Yi.1 h).2 h1 h2
theorem tV:∀{l:List TR},tC l=true↔vq l
 |[]=>⟨fun _=>Zq,fun _=>rfl⟩
 |[a]=>⟨fun _=>Zx _ _,fun _=>rfl⟩
 |a::b::l=>by
  show (jx a.m b.m && tC (b::l))=true↔_;rw [Wm,tV (l:=b::l)];constructor
  ·rintro ⟨h1,h2⟩;refine XJ.2 ⟨fun t ht=> ?_,h2⟩
   rcases Wp.1 ht with rfl|ht
   ·exact h1
   ·exact jT h1 ((XJ.1 h2).1 t ht)
  ·intro h;have:=XJ.1 h;exact ⟨this.1 b Wj,this.2⟩
def okB (v:Int) (ts:List TR):Bool:=ts.all (n9 v) && tC ts
def ko (v:Int) (ts:List TR):Int:=if jo v=false then 1 else if 4096<ts.length then 3 else if okB v ts=true then 0 else 1
theorem LK {v:Int} (h1:jo v=true) (h2:¬4096<ts.length) (h:okB v ts=false):ko v ts=1:=by
 unfold ko;rw [V6 (by rw [h1];decide),V6 h2,V6 (by rw [h];decide)]
theorem yy {v:Int}{i:Nat}{x:TR} (hx:ts[i]?=some x) (h:n9 v x=false):okB v ts=false:=by
 unfold okB;rw [Zn];refine .inl (YK.2 fun h2=> ?_);rw [Wq.1 h2 x (Wb hx)] at h
 cases h
theorem IM {v:Int}{i:Nat}{p x:TR} (hp:ts[i]?=some p) (hx:ts[i+1]?=some x) (h:jx p.m x.m=false):okB v ts=false:=by
 unfold okB;rw [Zn];refine .inr (YK.2 fun h2=> ?_);rw [E6 h2 hp hx] at h
 cases h
theorem yZ (v:Int) (A:Option Addr) (n c:Nat) (ts:List TR) (w:World) (hT:er w) (hS:Sl w A n 4 (aA TR.cells ts)) (hn:n≤1000000) (ho:∀t∈ts,t.c.ok∧t.m.size≤100000):
  Calls Tryz.prog 53 #[.agg #[.int .i64 v,.slice A n c]] w fun r w'=>r=.returned (.int .i64 (ko v ts))∧Below w.heap.size w w':=by
 have hh:=Hp.start w;have hln:=hS.bE TR.len V0;have hfw:=fun w1=>nB v w1
 cases hf:jo v with
 |false=>
  rw [hf] at hfw;rw [show ko v ts=1 by unfold ko;rw [V5 hf]];refine Iv ?_;refine sr ?_;refine bV hh [_,_] ?_;intro b1 w1 hh;refine aI (aa (ah (sr (bC ?_))));refine bA hh 0 ?_;refine bq hh (hfw _) rfl ?_;intro w7 hh;refine gj ?_;exact Ig
 |true=>
  rw [hf] at hfw;by_cases h4:4096<n
  ·rw [show ko v ts=3 by unfold ko;rw [V6 (by rw [hf];decide),V5 VZ]];refine Iv ?_;refine sr ?_;refine bV hh [_,_] ?_;intro b1 w1 hh;refine aI (aa (ah (sr (bC ?_))));refine bA hh 0 ?_;refine bq hh (hfw _) rfl ?_;intro w7 hh;refine gj ?_;refine E5 ?_;refine bA hh 0 ?_;refine aF ?_;refine bH (aa (cT (sr (aI (aa (av (aK ?_)))))));refine cW ?_;exact ⟨rfl,hh.below⟩
  ·have hbad:=fun h=>LK (v:=v) (ts:=ts) hf VZ h;refine Iv ?_;refine sr ?_;refine bV hh [_,_] ?_;intro b1 w1 hh;refine aI (aa (ah (sr (bC ?_))));refine bA hh 0 ?_;refine bq hh (hfw _) rfl ?_;intro w7 hh;refine gj ?_;refine E5 ?_;refine bA hh 0 ?_;refine aF ?_;refine bH (aa (cF (ao (ai (ah (sr (bC ?_)))))));refine bA hh 0 ?_;refine aF (mI (aa (aq ?_)));refine aW [2,3,4,16,17,18,19,20,21,22,23,24,25,26,27,28,29,30,31,32,33,34,35,36,37,38,39,40,41,42,43,44,45,46,47,48,49,50,51,52,53,54,55,56,57] 16
    (fun x w'=>∃i:Nat,i≤n∧x=.int .i64 i∧(ts.take i).all (n9 v)=true∧tC (ts.take i)=true∧Hp w [.blk b1 24 [.int .i64 v,.slice A n c] (0,0)] w')
    (fun x _=>n-(intOf x).toNat) ?_ ?_
   ·exact ⟨0,V8 _,rfl,rfl,rfl,hh⟩
   ·clear hh;rintro ρ' x_ w' ⟨i,hi,rfl,hall,hris,hh⟩;by_cases hlt:i<n
    ·obtain ⟨x,hx⟩:=al (l:=ts) (k:=i) VZ;obtain ⟨ad,rfl,hr⟩:=hS.at_ VZ;obtain ⟨hxo,hxm⟩:=ho x (Wb hx);have hmay:=fun w1=>lg x.m v w1 VZ;have hsg:=fun w1=>ig x.c w1;have hfo:=fun w1 hT1=>eF x.c w1 hT1 (by have:=hxo.1;omega) (by have:=hxo.2.1;omega) (by have:=hxo.2.2;omega);have hzz:x.c.i.sign=0↔x.c.d=0:=by
      rw [ZB];exact ⟨fun h=>by unfold NR.d;rw [h];rfl,rP⟩
     cases hm:eS x.m.data.toList && decide ((x.m.size:Int)=v) with
     |false=>
      rw [hm] at hmay;rw [hbad (yy hx (by unfold n9;rw [hm];rfl))];refine sr ?_;refine dY ?_;refine cA ?_;refine r6 ?_;refine bJ hh ?_;intro b4 w4 hh;refine aI ?_;refine bL hh 0 [_,_,_,_] ?_;intro ws hh;replace hh:Hp _ (.blk _ _ [_,_,_,_] _::_) _:=hh;refine aa (ah ?_)
      refine eC [] [] zL1 33 zL0 [(32,53),(31,52),(30,51),(29,50),(28,49),(27,48),(26,47),(25,46),(24,45),(23,44),(22,43),(21,42),(20,41),(19,40),(18,39),(17,38),(16,37),(15,36),(14,35),(13,34),(12,33),(11,32),(10,31),(9,30),(8,29),(7,28),(6,27),(5,26),(4,25),(3,24),(2,23),(1,22),(0,21)] hh mixed V2 eX rfl (by repeat (first|exact cD|refine bT ?_|refine cE ?_)) ?_
      refine da ?_;refine dN 0 ?_;refine da ?_;refine dN 1 ?_;refine dC (fun _ hj=>hmay _) ?_;refine GF ?_;refine od ?_;refine dS (dS (dS (dS ?_)));refine G3 ?_;exact P7
     |true=>
      rw [hm] at hmay;by_cases hz:x.c.d=0
      ·have hs:=hzz.2 hz;rw [hbad (yy hx (by unfold n9 y7;rw [hm,Wr hz];rfl))];refine sr ?_;refine dY ?_;refine cA ?_;refine r6 ?_;refine bJ hh ?_;intro b4 w4 hh;refine aI ?_;refine bL hh 0 [_,_,_,_] ?_;intro ws hh;replace hh:Hp _ (.blk _ _ [_,_,_,_] _::_) _:=hh;refine aa (ah ?_)
       refine eC [] [] zL1 33 zL0 [(32,53),(31,52),(30,51),(29,50),(28,49),(27,48),(26,47),(25,46),(24,45),(23,44),(22,43),(21,42),(20,41),(19,40),(18,39),(17,38),(16,37),(15,36),(14,35),(13,34),(12,33),(11,32),(10,31),(9,30),(8,29),(7,28),(6,27),(5,26),(4,25),(3,24),(2,23),(1,22),(0,21)] hh mixed V2 eX rfl (by repeat (first|exact cD|refine bT ?_|refine cE ?_)) ?_
       refine da ?_;refine dN 0 ?_;refine da ?_;refine dN 1 ?_;refine dC (fun _ hj=>hmay _) ?_;refine GF ?_;refine od ?_;refine dG (da ?_);refine dG (eJ 0 [_,_,_] ?_);refine z3 ?_;refine dG (zt ?_);refine Mt ?_;exact P7
      ·have hs:¬x.c.i.sign=0:=fun h=>hz (hzz.1 h);by_cases hnf:nR x.c.d=x.c
       ·have hgood:n9 v x=true:=by unfold n9 y7;rw [hm,WG hz,(sA x.c).2 hnf];rfl
        have hall2:(ts.take (i+1)).all (n9 v)=true:=by rw [ay hx,List.all_append,hall];simp [hgood]
        by_cases h0:i=0
        ·refine sr ?_;refine dY ?_;refine cA ?_;refine r6 ?_;refine bJ hh ?_;intro b4 w4 hh;refine aI ?_;refine bL hh 0 [_,_,_,_] ?_;intro ws hh;replace hh:Hp _ (.blk _ _ [_,_,_,_] _::_) _:=hh;refine aa (ah ?_)
         refine eC [] [] zL1 33 zL0 [(32,53),(31,52),(30,51),(29,50),(28,49),(27,48),(26,47),(25,46),(24,45),(23,44),(22,43),(21,42),(20,41),(19,40),(18,39),(17,38),(16,37),(15,36),(14,35),(13,34),(12,33),(11,32),(10,31),(9,30),(8,29),(7,28),(6,27),(5,26),(4,25),(3,24),(2,23),(1,22),(0,21)] hh mixed V2 eX rfl (by repeat (first|exact cD|refine bT ?_|refine cE ?_)) ?_
         refine da ?_;refine dN 0 ?_;refine da ?_;refine dN 1 ?_;refine dC (fun _ hj=>hmay _) ?_;refine GF ?_;refine od ?_;refine dG (da ?_);refine dG (eJ 0 [_,_,_] ?_);refine z3 ?_;refine dG (zt ?_);refine Mt ?_;refine od ?_;refine dG (da ?_);refine dG (eJ 0 [_,_,_] ?_);refine EY ?_;refine dG (da ?_);refine dG (eJ 0 [_,_,_] ?_);refine Im ?_;refine Mt ?_;refine od ?_;refine dG (dn ?_);refine dG (Rm ?_);refine dG (od ?_);refine dS (dS (dS (dS ?_)));refine yV (i:=28) rfl (fun ρ1 w1 hj hR=>(show ρ1 44=Value.bool _ from hR.2.2.1)) V0 ?_;refine dS (dS (dS (dS ?_)));refine aG ?_;intro f W hJ hV _;have hb_8:=hJ.bl;obtain ⟨v53,v52,v51,v50,v49,v48,v47,v46,v45,v44,v43,v42,v41,v40,v39,v38,v37,v36,v35,v34,v33,v32,v31,v30,v29,v28,v27,v26,v25,v24,v23,v22,v21,_⟩:=hV;replace hh:=hJ.hp;refine Ea ?_;dsimp only [bI];clear hJ;refine gS (gT ?_)
         (first|refine fi ?_|refine dR ?_)
         refine dR ?_;refine BZ ?_;refine bj (mI (az (ai ?_)));replace hh:=hh.sub (Wa _ (V7 _ Wx));refine ⟨⟨i+1,VZ,rfl,hall2,by rw [ay hx,h0];rfl,hh⟩,by show n-(i+1)<n-i;omega, ?_⟩;exact dF
        ·obtain ⟨q,hq⟩:∃q,i=q+1:=⟨i-1,VZ⟩;obtain ⟨p,hp⟩:=al (l:=ts) (k:=q) VZ
         cases hlp:jx p.m x.m with
         |false=>
          rw [hbad (IM hp (hq ▸ hx) hlp)];have hge:(!(Op.bytesLess p.m.toList x.m.toList))=true:=by rw [pX,hlp];rfl
          refine sr ?_;refine dY ?_;refine cA ?_;refine r6 ?_;refine bJ hh ?_;intro b4 w4 hh;refine aI ?_;refine bL hh 0 [_,_,_,_] ?_;intro ws hh;replace hh:Hp _ (.blk _ _ [_,_,_,_] _::_) _:=hh;refine aa (ah ?_)
          refine eC [] [] zL1 33 zL0 [(32,53),(31,52),(30,51),(29,50),(28,49),(27,48),(26,47),(25,46),(24,45),(23,44),(22,43),(21,42),(20,41),(19,40),(18,39),(17,38),(16,37),(15,36),(14,35),(13,34),(12,33),(11,32),(10,31),(9,30),(8,29),(7,28),(6,27),(5,26),(4,25),(3,24),(2,23),(1,22),(0,21)] hh mixed V2 eX rfl (by repeat (first|exact cD|refine bT ?_|refine cE ?_)) ?_
          refine da ?_;refine dN 0 ?_;refine da ?_;refine dN 1 ?_;refine dC (fun _ hj=>hmay _) ?_;refine GF ?_;refine od ?_;refine dG (da ?_);refine dG (eJ 0 [_,_,_] ?_);refine z3 ?_;refine dG (zt ?_);refine Mt ?_;refine od ?_;refine dG (da ?_);refine dG (eJ 0 [_,_,_] ?_);refine EY ?_;refine dG (da ?_);refine dG (eJ 0 [_,_,_] ?_);refine Im ?_;refine Mt ?_;refine od ?_;refine dG (dn ?_);refine dG (Rm ?_);refine dG (od ?_);refine dG (da ?_);refine dG (dN 1 ?_);refine dG (dn ?_);refine dG (so ?_);refine dG (nC (q) ?_);refine dG (P3 ?_);refine dG (uF (fun _ hj=>((hr.ext hj.hp.below).recAt TR.len hp).cell (i:=0) rfl) ?_);refine dG (da ?_);refine dG (dN 0 ?_);refine aG ?_;intro f W hJ hV _;have hb_8:=hJ.bl;obtain ⟨v53,v52,v51,v50,v49,v48,v47,v46,v45,v44,v43,v42,v41,v40,v39,v38,v37,v36,v35,v34,v33,v32,v31,v30,v29,v28,v27,v26,v25,v24,v23,v22,v21,_⟩:=hV;replace hh:=hJ.hp;refine Ea ?_;dsimp only [bI];clear hJ;refine gT ?_;refine wX rfl rfl V0 ?_;refine gT ?_
          (first|refine fi ?_|refine dR ?_)
          refine dR ?_;refine aa ?_;rw [hge];refine cT (sr (aI (aa (av (cm (aK (aK (cm (aK ?_)))))))));refine cW ?_;exact ⟨rfl,hh.below⟩
         |true=>
          have hge:(!(Op.bytesLess p.m.toList x.m.toList))=false:=by rw [pX,hlp];rfl
          refine sr ?_;refine dY ?_;refine cA ?_;refine r6 ?_;refine bJ hh ?_;intro b4 w4 hh;refine aI ?_;refine bL hh 0 [_,_,_,_] ?_;intro ws hh;replace hh:Hp _ (.blk _ _ [_,_,_,_] _::_) _:=hh;refine aa (ah ?_)
          refine eC [] [] zL1 33 zL0 [(32,53),(31,52),(30,51),(29,50),(28,49),(27,48),(26,47),(25,46),(24,45),(23,44),(22,43),(21,42),(20,41),(19,40),(18,39),(17,38),(16,37),(15,36),(14,35),(13,34),(12,33),(11,32),(10,31),(9,30),(8,29),(7,28),(6,27),(5,26),(4,25),(3,24),(2,23),(1,22),(0,21)] hh mixed V2 eX rfl (by repeat (first|exact cD|refine bT ?_|refine cE ?_)) ?_
          refine da ?_;refine dN 0 ?_;refine da ?_;refine dN 1 ?_;refine dC (fun _ hj=>hmay _) ?_;refine GF ?_;refine od ?_;refine dG (da ?_);refine dG (eJ 0 [_,_,_] ?_);refine z3 ?_;refine dG (zt ?_);refine Mt ?_;refine od ?_;refine dG (da ?_);refine dG (eJ 0 [_,_,_] ?_);refine EY ?_;refine dG (da ?_);refine dG (eJ 0 [_,_,_] ?_);refine Im ?_;refine Mt ?_;refine od ?_;refine dG (dn ?_);refine dG (Rm ?_);refine dG (od ?_);refine dG (da ?_);refine dG (dN 1 ?_);refine dG (dn ?_);refine dG (so ?_);refine dG (nC (q) ?_);refine dG (P3 ?_);refine dG (uF (fun _ hj=>((hr.ext hj.hp.below).recAt TR.len hp).cell (i:=0) rfl) ?_);refine dG (da ?_);refine dG (dN 0 ?_);refine aG ?_;intro f W hJ hV _;have hb_8:=hJ.bl;obtain ⟨v53,v52,v51,v50,v49,v48,v47,v46,v45,v44,v43,v42,v41,v40,v39,v38,v37,v36,v35,v34,v33,v32,v31,v30,v29,v28,v27,v26,v25,v24,v23,v22,v21,_⟩:=hV;replace hh:=hJ.hp;refine Ea ?_;dsimp only [bI];clear hJ;refine gT ?_;refine wX rfl rfl V0 ?_;refine gT ?_
          (first|refine fi ?_|refine dR ?_)
          refine dR ?_;refine aa ?_;rw [hge];refine cF (ao (bF (ai (ak ?_))));refine bj (mI (az (ai ?_)));replace hh:=hh.sub (Wa _ (V7 _ Wx));refine ⟨⟨i+1,VZ,rfl,hall2, ?_,hh⟩,by show n-(i+1)<n-i;omega, ?_⟩
          ·rw [hq,ay hp] at hris;rw [ay hx,hq,ay hp,WY];show tC (ts.take q++[p,x])=true;rw [xH,hris,hlp]
           rfl
          ·exact dF
       ·rw [hbad (yy hx (by unfold n9 y7;rw [hm,WG hz,YK.2 (fun h=>hnf ((sA x.c).1 h))];rfl))];refine sr ?_;refine dY ?_;refine cA ?_;refine r6 ?_;refine bJ hh ?_;intro b4 w4 hh;refine aI ?_;refine bL hh 0 [_,_,_,_] ?_;intro ws hh;replace hh:Hp _ (.blk _ _ [_,_,_,_] _::_) _:=hh;refine aa (ah ?_)
        refine eC [] [] zL1 33 zL0 [(32,53),(31,52),(30,51),(29,50),(28,49),(27,48),(26,47),(25,46),(24,45),(23,44),(22,43),(21,42),(20,41),(19,40),(18,39),(17,38),(16,37),(15,36),(14,35),(13,34),(12,33),(11,32),(10,31),(9,30),(8,29),(7,28),(6,27),(5,26),(4,25),(3,24),(2,23),(1,22),(0,21)] hh mixed V2 eX rfl (by repeat (first|exact cD|refine bT ?_|refine cE ?_)) ?_
        refine da ?_;refine dN 0 ?_;refine da ?_;refine dN 1 ?_;refine dC (fun _ hj=>hmay _) ?_;refine GF ?_;refine od ?_;refine dG (da ?_);refine dG (eJ 0 [_,_,_] ?_);refine z3 ?_;refine dG (zt ?_);refine Mt ?_;refine od ?_;refine dG (da ?_);refine dG (eJ 0 [_,_,_] ?_);refine EY ?_;refine dG (da ?_);refine dG (eJ 0 [_,_,_] ?_);refine x9 (i:=18) rfl (fun ρ1 w1 hj hR=>(show ρ1 33=Value.bool _ from hR.2.2.1)) (fun ρ1 w1 hj hR=>Fb (show ρ1 36=Value.agg (List.toArray _) from hR.1) (show ρ1 38=Value.agg (List.toArray _) from hR.2.1) (by assumption)) ?_;refine Mt ?_;exact UO
    ·rw [Wc VZ] at hall hris;rw [show ko v ts=0 by unfold ko okB;rw [V6 (by rw [hf];decide),V6 VZ,hall,hris];rfl];refine sr ?_;refine Gm ?_;refine cW ?_;exact ⟨rfl,hh.below⟩
def fY (v:Int) (t:TR):Bool:=eS t.m.data.toList && decide ((t.m.size:Int)=v)
theorem Be (z:TR) (v:Int) (b:Nat) (w:World) (hp:w.cell? ⟨b,0,none⟩=some (.int .i64 v)) (hz:z.m.size≤100000):Calls Tryz.prog 137 #[.agg #[.string z.m,.bool z.c.neg,.string z.c.bk,.int .i64 z.c.e],.pointer (some ⟨b,0,none⟩)] w fun r w'=>r=.returned (.bool (!fY v z))∧Below w.heap.size w w':=by
 have hh:=Hp.start w;have hmay:=fun w1=>lg z.m v w1 VZ;unfold fY;refine aj (N:=9) (l:=[.agg #[.string z.m,.bool z.c.neg,.string z.c.bk,.int .i64 z.c.e],.pointer (some ⟨b,0,none⟩)]) Tryz.func137 rfl rfl (by simp) ?_;refine sr ?_;refine bV hh [_,_,_,_] ?_;intro b2 w2 hh;refine aB (aa (sr (bC ?_)));refine bA hh 0 ?_;refine bX aJ.out rfl (cO hh.below hp) V0 ?_;refine bq hh (hmay _) rfl ?_;intro w7 hh
 cases eS z.m.data.toList && decide ((z.m.size:Int)=v) with
 |false=>
  refine gj ?_;exact vP
 |true=>
  refine gj ?_;exact vP
theorem vu (A:Option Addr) (n c:Nat) (l:List TR) (v:Int) (b:Nat) (w:World) (hS:Sl w A n 4 (aA TR.cells l)) (hn:n≤1000000) (hp:w.cell? ⟨b,0,none⟩=some (.int .i64 v)) (hz:∀t∈l,t.m.size≤100000):
  Calls Tryz.prog 136 #[.slice A n c,.func (.func 137) #[] #[.pointer (some ⟨b,0,none⟩)]] w fun r w'=>r=.returned (.bool (l.any fun t=> !fY v t))∧Below w.heap.size w w':=
 DK A n c l 137 [.pointer (some ⟨b,0,none⟩)] (fun t=> !fY v t) w hS hn fun z w1 hz2 hb=>Be z v b w1 (cO hb hp) (hz z hz2)
def qk (v:Int) (l:List TR):Int:=if jo v=false∨(l.any fun t=> !fY v t)=true then 1 else if 65536<l.length then 3 else im l
theorem mF (v:Int) (A:Option Addr) (n c:Nat) (l:List TR) (k:Nat) (w:World) (hT:er w) (hS:Sl w A n 4 (aA TR.cells l)) (hn:n≤1000000) (hk:k≤2999980) (ho:jG k l) (hz:∀t∈l,t.m.size≤100000):
  Calls Tryz.prog 90 #[.int .i64 v,.slice A n c] w fun r w'=>∃g:PX,fL (qk v l) v (aM l) g∧r=.returned (.tuple #[.agg #[.int .i64 g.v,.slice g.A g.n g.c],.int .i64 (qk v l)])∧Hp w [g.row] w':=by
 have hh:=Hp.start w;have hln:=hS.bE TR.len V0;have hfw:=fun w1=>nB v w1;have han:=fun b w1 hb hp=>vu A n c l v b w1 (hS.ext hb) hn hp hz
 cases hf:jo v with
 |false=>
  rw [hf] at hfw;rw [show qk v l=1 by unfold qk;rw [V5 (.inl hf)]];refine E8 ?_;refine sr ?_;refine bV hh [_] ?_;intro b2 w2 hh;refine bJ hh ?_;intro b4 w4 hh;refine aI (aa (ah (sr ?_)));refine bA hh 1 ?_;refine bq hh (hfw _) rfl ?_;intro w7 hh;refine gj ?_;refine mB ?_;refine gS (gS ?_);refine jg ?_;refine fi ?_;refine aa (cT (sr ?_));exact ME
 |true=>
  rw [hf] at hfw
  cases ha:l.any fun t=> !fY v t with
  |true=>
   rw [ha] at han;rw [show qk v l=1 by unfold qk;rw [V5 (.inr ha)]];refine E8 ?_;refine sr ?_;refine bV hh [_] ?_;intro b2 w2 hh;refine bJ hh ?_;intro b4 w4 hh;refine aI (aa (ah (sr ?_)));refine bA hh 1 ?_;refine bq hh (hfw _) rfl ?_;intro w7 hh;refine gj ?_;refine mB (gT (mL (gT ?_)));refine wh ?_;refine aH rfl rfl ?_;refine bq hh (han _ _ hh.below (hh.dO (i:=1) (o:=0) rfl rfl)) rfl ?_;intro w12 hh;refine dR ?_;refine aa (cT (sr ?_));exact ME
  |false=>
   rw [ha] at han;have e1:qk v l=if 65536<l.length then 3 else im l:=by unfold qk;rw [V6 (by rw [hf,ha];decide)]
   by_cases h6:65536<n
   ·rw [e1,V5 VZ];refine E8 ?_;refine sr ?_;refine bV hh [_] ?_;intro b2 w2 hh;refine bJ hh ?_;intro b4 w4 hh;refine aI (aa (ah (sr ?_)));refine bA hh 1 ?_;refine bq hh (hfw _) rfl ?_;intro w7 hh;refine gj ?_;refine mB (gT (mL (gT ?_)));refine wh ?_;refine aH rfl rfl ?_;refine bq hh (han _ _ hh.below (hh.dO (i:=1) (o:=0) rfl rfl)) rfl ?_;intro w12 hh;refine dR ?_;refine aa (cF (ao (ai (ah (sr (mL (aF ?_)))))));refine bH (aa (cT (sr ?_)));exact ME
   ·rw [e1,V6 VZ];refine E8 ?_;refine sr ?_;refine bV hh [_] ?_;intro b2 w2 hh;refine bJ hh ?_;intro b4 w4 hh;refine aI (aa (ah (sr ?_)));refine bA hh 1 ?_;refine bq hh (hfw _) rfl ?_;intro w7 hh;refine gj ?_;refine mB (gT (mL (gT ?_)));refine wh ?_;refine aH rfl rfl ?_;refine bq hh (han _ _ hh.below (hh.dO (i:=1) (o:=0) rfl rfl)) rfl ?_;intro w12 hh;refine dR ?_;refine aa (cF (ao (ai (ah (sr (mL (aF ?_)))))));refine bH (aa (cF (ao (ai (ah ?_)))));refine qY [] [0,0,2,7,15,15,63,127] 3 [[(2,none)],[(1,none)],[(20,some 1)]] [(2,21),(1,20),(0,19)] [([],4,[(2,21),(1,20),(0,19)])] hh mixed V2 V2 V0 ?_;refine dN 1 ?_;refine fD ?_;refine aP (i:=2) (mw hh.sz 80 n 4 (aA TR.cells l)) (mw.ext) ?_ ?_
    ·intro ρ1 w1 hj hR;exact bf rfl (aQ au.out (aw (show ρ1 20=Value.slice _ _ _ from hR.1) a8)) (l4 A n c l w1 (hS.ext hj.hp.below) hn) (fun _ _ ⟨A,c,hq,ho,hb⟩=>⟨_,hq,hb,A,c,rfl,oO ho hj.bl.size⟩)
    refine aG ?_;intro p_ hp_;simp only [Wp,List.not_mem_nil,or_false] at hp_
    rcases hp_ with rfl
    intro f W hJ hV;have hb_5:=hJ.bl;obtain ⟨v21,v20,v19,_⟩:=hV;simp only [kZ];have e19:f 0=_:=v19;rw [e19];have e20:f 1=_:=v20;rw [e20];obtain ⟨A21,c21,e21,o21⟩:mw _ _ _ _ _ (f 2) W:=v21;rw [e21];replace hh:=JJ.yI hh hJ.hp o21;clear o21;clear e19 e20 e21 hJ;refine aE (kB v A21 n c21 l k _ hT hh hln VZ VZ ho) au.out rfl V0 ?_;rintro e_ w22 ⟨g,og,rfl,hh⟩;refine ⟨_,rfl, ?_⟩;refine fw ?_;refine dk (i:=4) (by repeat (first|exact cD|refine bT ?_|refine cE ?_|refine np_scope ?_)) rfl V2 V2 V2 (fun _=>fK (show _=Value.tuple (List.toArray _) from rfl) rfl) V0 ?_;refine dk (i:=5) (by repeat (first|exact cD|refine bT ?_|refine cE ?_|refine np_scope ?_)) rfl V2 V2 V2 (fun _=>fK (show _=Value.tuple (List.toArray _) from rfl) rfl) V0 ?_;refine kF 6 V0 V2 V0 V2 V2 ?_;exact Gq
def PX.cells (g:PX):List Value:=[.int .i64 g.v,.slice g.A g.n g.c]
theorem PX.len (g:PX):(PX.cells g).length=2:=rfl
structure PX.km (g:PX) (k:Nat):Prop where
 n:g.n≤1000000
 cap:g.n≤g.c
 ok:jG k g.ts
 sz:∀t∈g.ts,t.m.size≤100000
def PX.e (g:PX):Int:=ko g.v g.ts
theorem nT (g:PX) (k:Nat) (w:World) (hT:er w) (h:g.at_ w) (hl:g.km k):
  Calls Tryz.prog 53 #[.agg #[.int .i64 g.v,.slice g.A g.n g.c]] w fun r w'=>r=.returned (.int .i64 g.e)∧Below w.heap.size w w':=
 yZ g.v g.A g.n g.c g.ts w hT h hl.n fun t ht=>⟨(hl.ok t ht).1,hl.sz t ht⟩
def yf (ps:List PX):Bool:=ps.any fun g=>decide (g.v≠(ps.map PX.v).headD 0)
def gC (ps:List PX):Int:=match ps.find? (fun g=>decide (g.e≠0)) with|some g=>g.e|none=>if ps.length=0∨yf ps=true then 1 else 0
theorem D7 (L:Option Addr) (n c:Nat) (ps:List PX) (f:PX) (p:Addr) (w:World) (hL:Sl w L n 2 (aA PX.cells ps)) (hp:w.cell? p=some (.slice L n c)) (hn:0<n):
  Calls Tryz.prog 172 #[.agg #[.int .i64 f.v,.slice f.A f.n f.c],.pointer (some p)] w fun r w'=>r=.returned (.bool (decide (f.v≠(ps.map PX.v).headD 0)))∧Below w.heap.size w w':=by
 have hh:=Hp.start w;have hln:=hL.bE PX.len V0;obtain ⟨g,ps,rfl⟩:∃g l,ps=g::l:=by
  cases ps with
  |nil=>exact absurd hln (by show ¬0=n;omega)
  |cons g l=>exact ⟨g,l,rfl⟩
 obtain ⟨ad,rfl,hr⟩:=hL.at_ hn;have hd:(((g::ps).map PX.v).headD 0)=g.v:=rfl;rw [hd];have h0:(g::ps)[0]?=some g:=rfl;by_cases hg:f.v=g.v
 ·refine aj (N:=11) (l:=[.agg #[.int .i64 f.v,.slice f.A f.n f.c],.pointer (some p)]) Tryz.func172 rfl rfl (by simp) ?_;refine sr ?_;refine bV hh [_,_] ?_;intro b2 w2 hh;refine aB (aa (ah ?_));refine PJ ?_;refine da ?_;refine dN 0 ?_;refine uF (fun _ hj=>(hj.hp.below.cell (l0 hp)).trans hp) ?_;refine a6 (i:=3) (fun ρ1 w1 hj hR=>du a9.out aJ.size (show ρ1 6=Value.slice _ _ _ from hR.1) rfl VZ VZ) ?_;refine P3 ?_;refine uF (fun _ hj=>cO hj.hp.below (((hr.recAt PX.len h0)) 0 _ rfl)) ?_;refine aG ?_;intro f W hJ hV;have hb_1:=hJ.bl;obtain ⟨v9,v8,v7,v6,v5,v4,_⟩:=hV;replace hh:=hJ.hp;refine aU (bg (ae v9 (ae v8 (ae v7 (ae v6 (ae v5 (ae v4 aT))))))) ?_;dsimp only [bI];clear hJ;exact Pp
 ·refine aj (N:=11) (l:=[.agg #[.int .i64 f.v,.slice f.A f.n f.c],.pointer (some p)]) Tryz.func172 rfl rfl (by simp) ?_;refine sr ?_;refine bV hh [_,_] ?_;intro b2 w2 hh;refine aB (aa (ah ?_));refine PJ ?_;refine da ?_;refine dN 0 ?_;refine uF (fun _ hj=>(hj.hp.below.cell (l0 hp)).trans hp) ?_;refine a6 (i:=3) (fun ρ1 w1 hj hR=>du a9.out aJ.size (show ρ1 6=Value.slice _ _ _ from hR.1) rfl VZ VZ) ?_;refine P3 ?_;refine uF (fun _ hj=>cO hj.hp.below (((hr.recAt PX.len h0)) 0 _ rfl)) ?_;refine aG ?_;intro f W hJ hV;have hb_1:=hJ.bl;obtain ⟨v9,v8,v7,v6,v5,v4,_⟩:=hV;replace hh:=hJ.hp;refine aU (bg (ae v9 (ae v8 (ae v7 (ae v6 (ae v5 (ae v4 aT))))))) ?_;dsimp only [bI];clear hJ;exact PI
theorem Dr (A:Option Addr) (n c:Nat) (l:List PX) (g:FuncId) (cap:List Value) (p:PX→Bool) (w:World) (hS:Sl w A n 2 (aA PX.cells l)) (hn:n≤1000000) [au Tryz.prog g]
  (hg:∀(z:PX) (w1:World),z∈l→Below w.heap.size w w1→Calls Tryz.prog g (.agg #[.int .i64 z.v,.slice z.A z.n z.c]::cap).toArray w1 fun r w'=>r=.returned (.bool (p z))∧Below w1.heap.size w1 w'):
  Calls Tryz.prog 177 #[.slice A n c,.func (.func g) #[] cap.toArray] w fun r w'=>∃v,r=.returned (.int .i64 v)∧(0≤v↔l.any p=true)∧Below w.heap.size w w':=by
 have hh:=Hp.start w;have hln:=hS.bE PX.len V0;refine aj (N:=19) (l:=[.slice A n c,.func (.func g) #[] cap.toArray]) Tryz.func177 rfl rfl (by simp) ?_;refine Bq ?_;refine aW [4,5,8,9,10,11,12,13,14,15,16,17,18] 8
  (fun v w'=>∃i:Nat,i≤n∧v=.int .i64 i∧(l.take i).any p=false∧Hp w [] w')
  (fun v _=>n-(intOf v).toNat) ?_ ?_
 ·exact ⟨0,V8 _,rfl,rfl,hh⟩
 ·clear hh;rintro ρ' v w' ⟨i,hi,rfl,hall,hh⟩;by_cases hlt:i<n
  ·obtain ⟨z,hz⟩:=al (l:=l) (k:=i) VZ;obtain ⟨ad,rfl,hr⟩:=hS.at_ VZ;have hc:=fun w1=>hg z w1 (Wb hz)
   cases gz:p z with
   |true=>
    rw [gz] at hc;refine sr ?_;refine rG ?_;refine iJ ?_;refine mL (mI ?_);refine cA ?_;refine cz (vs:=[_,_]) aJ.out rfl ((hr.ext hh.below).recAt PX.len hz) rfl V0 ?_;exact QE
   |false=>
    rw [gz] at hc;refine sr ?_;refine rG ?_;refine iJ ?_;refine mL (mI ?_);refine cA ?_;refine cz (vs:=[_,_]) aJ.out rfl ((hr.ext hh.below).recAt PX.len hz) rfl V0 ?_;exact Gf
  ·exact QC
theorem tr (A:Option Addr) (n c:Nat) (l:List PX) (g:FuncId) (cap:List Value) (p:PX→Bool) (w:World) (hS:Sl w A n 2 (aA PX.cells l)) (hn:n≤1000000) [au Tryz.prog g]
  (hg:∀(z:PX) (w1:World),z∈l→Below w.heap.size w w1→Calls Tryz.prog g (.agg #[.int .i64 z.v,.slice z.A z.n z.c]::cap).toArray w1 fun r w'=>r=.returned (.bool (p z))∧Below w1.heap.size w1 w'):
  Calls Tryz.prog 139 #[.slice A n c,.func (.func g) #[] cap.toArray] w fun r w'=>r=.returned (.bool (l.any p))∧Below w.heap.size w w':=by
 have hh:=Hp.start w;refine aj (N:=9) (l:=[.slice A n c,.func (.func g) #[] cap.toArray]) Tryz.func139 rfl rfl (by simp) ?_;refine sr (aB (aa (sr (mL ?_))));refine iJ ?_;refine aE (Dr A n c l g cap p _ (hS.ext hh.below) hn hg) au.out rfl V0 ?_;exact QD
theorem r8 (L:Option Addr) (n c:Nat) (ps:List PX) (k:Nat) (w:World) (hT:er w) (hL:Sl w L n 2 (aA PX.cells ps)) (hn:n≤1000000) (hf:∀g∈ps,g.at_ w) (hl:∀g∈ps,g.km k):
  Calls Tryz.prog 128 #[.slice L n c] w fun r w'=>r=.returned (.int .i64 (gC ps))∧Below w.heap.size w w':=by
 have hh:=Hp.start w;have hln:=hL.bE PX.len V0;refine aj (N:=26) (l:=[.slice L n c]) Tryz.func128 rfl rfl (by simp) ?_;refine sr ?_;refine bV hh [_] ?_;intro b1 w1 hh;refine aI (aa (ah (sr ?_)));refine bA hh 0 ?_;refine aF (mI (aa (aq ?_)));refine aW [2,4,5,8,9,10,11,12,13,14,15,16,17] 8
  (fun v w'=>∃i:Nat,i≤n∧v=.int .i64 i∧(ps.take i).any (fun g=>decide (g.e≠0))=false∧Hp w [.blk b1 119 [.slice L n c] (0,0)] w')
  (fun v _=>n-(intOf v).toNat) ?_ ?_
 ·exact ⟨0,V8 _,rfl,rfl,hh⟩
 ·clear hh;rintro ρ' v w' ⟨i,hi,rfl,hall,hh⟩;by_cases hlt:i<n
  ·obtain ⟨g,hx⟩:=al (l:=ps) (k:=i) VZ;have hmem:=Wb hx;have hc:=fun w1 hT1 hb=>nT g k w1 hT1 ((hf g hmem).ext hb) (hl g hmem);obtain ⟨ad,rfl,hr⟩:=hL.at_ VZ;by_cases he:g.e=0
   ·refine sr ?_;refine eb ?_;refine cA ?_;refine Km ?_;refine bJ hh ?_;intro b4 w4 hh;refine bL hh 0 [_,_] ?_;intro ws hh;replace hh:Hp _ (.blk _ _ [_,_] _::_) _:=hh;refine aa (sr ?_);refine bY hh 0 [_,_] ?_;refine bq hh (hc _ (hT.hp hh) hh.below) rfl ?_;intro w13 hh;refine aI (aa (sr (mI ?_)));refine cY (aa (cF (ao (bF (ai (ak ?_))))));refine bj (mI (az (ai ?_)));replace hh:=hh.sub (Wa _ (V7 _ Wx));refine ⟨⟨i+1,VZ,rfl,by rw [ay hx,YN,hall,YF,YS,WG VZ];rfl,hh⟩,by show n-(i+1)<n-i;omega, ?_⟩;exact dF
   ·refine sr ?_;refine eb ?_;refine cA ?_;refine Km ?_;refine bJ hh ?_;intro b4 w4 hh;refine bL hh 0 [_,_] ?_;intro ws hh;replace hh:Hp _ (.blk _ _ [_,_] _::_) _:=hh;refine aa (sr ?_);refine bY hh 0 [_,_] ?_;refine bq hh (hc _ (hT.hp hh) hh.below) rfl ?_;intro w13 hh;refine aI (aa (sr (mI ?_)));refine cY (aa (cT (sr (mI (aI (aa (av (cm (aK (aK (cm (aK ?_))))))))))));refine cW ?_;refine ⟨?_,hh.below⟩;unfold gC;rw [wg hall hx (Wr he)]
  ·rw [Wc VZ] at hall;have hlk:gC ps=if ps.length=0∨yf ps=true then 1 else 0:=by unfold gC;rw [jY hall]
   rw [hlk];by_cases h0:n=0
   ·refine sr ?_;refine KP ?_;refine bA hh 0 ?_;refine aF ?_;refine ct (mB ?_);refine gS (gS ?_);refine jg ?_;exact Py
   ·have hcell:w'.cell? ⟨b1,0,none⟩=some (.slice L n c):=hh.dO (i:=0) rfl rfl;have ho:=fun w1 hb=>tr L n c ps 172 [.pointer (some ⟨b1,0,none⟩)] (fun g=>decide (g.v≠(ps.map PX.v).headD 0)) w1 (hL.ext (hh.below.trans (hb.mono hh.below.size))) hn (fun z w2 hz hb2=>D7 L n c ps z ⟨b1,0,none⟩ w2 ((hL.ext (hh.below.trans (hb.mono hh.below.size))).ext hb2) (cO hb2 (cO hb hcell)) VZ)
    cases hod:yf ps with
    |true=>
     have hod2:ps.any (fun g=>decide (g.v≠(ps.map PX.v).headD 0))=true:=hod;rw [hod2] at ho;refine sr ?_;refine KP ?_;refine bA hh 0 ?_;refine aF ?_;refine ct (mB (gT ?_));refine bA hh 0 ?_;refine gT ?_;refine wh ?_;refine aH rfl rfl ?_;refine bq hh (ho _ (Below.refl _ _)) rfl ?_;intro w24 hh;exact Ot
    |false=>
     have hod2:ps.any (fun g=>decide (g.v≠(ps.map PX.v).headD 0))=false:=hod;rw [hod2] at ho;refine sr ?_;refine KP ?_;refine bA hh 0 ?_;refine aF ?_;refine ct (mB (gT ?_));refine bA hh 0 ?_;refine gT ?_;refine wh ?_;refine aH rfl rfl ?_;refine bq hh (ho _ (Below.refl _ _)) rfl ?_;intro w24 hh;refine dR ?_;refine EM ?_;refine cW ?_;refine ⟨?_,hh.below⟩;rw [V6];rintro (h|h)
     ·omega
     ·cases h
variable {p:List TR}
def mulM (a b:ByteArray):ByteArray:=str (mulL a.data.toList b.data.toList).1
def qW (a b:ByteArray):Int:=(mulL a.data.toList b.data.toList).2
def tj (x y:TR):TR:=⟨mulM x.m y.m,nR (x.c.d*y.c.d)⟩
def df (p q:List TR):List TR:=p.flatMap fun x=>q.map (tj x)
def wW (p q:List TR):List Int:=p.flatMap fun x=>q.map fun y=>qW x.m y.m
def fR (p q:List TR):Int:=if 65536<p.length*q.length then 3 else match (wW p q).find? fun e=>decide (e≠0) with|some e=>e|none=>if 4096<(aM (df p q)).length then 3 else 0
theorem zR {α β:Type}{f:α→List β}{k:Nat}:∀{l:List α},(∀x∈l,(f x).length=k)→(l.flatMap f).length=l.length*k
 |[],_=>by simp
 |x::l,h=>by
  rw [YB,We,h x Wj,zR fun y hy=>h y (Wl _ hy),WH,Xs,X6]
theorem rk (p q:List TR):(df p q).length=p.length*q.length:=zR fun x _=>Wi _
theorem q9 {γ:Type}{f:α→β→γ}{p:List α}{q:List β}{i:Nat}{x:α} (hx:p[i]?=some x):
  ((p.take (i+1)).flatMap fun x=>q.map (f x))=((p.take i).flatMap fun x=>q.map (f x))++(q.take q.length).map (f x):=by
 rw [ay hx,Yu,Wc (V9 _)];simp
theorem Dc {γ:Type}{f:α→β→γ}{p:List α}{q:List β}{i:Nat}{x:α}{y:β} (hx:p[i]?=some x) (hy:q[j]?=some y):
  ∃R,(p.flatMap fun x=>q.map (f x))=(((p.take i).flatMap fun x=>q.map (f x))++(q.take j).map (f x))++f x y::R:=by
 refine ⟨(q.drop (j+1)).map (f x)++(p.drop (i+1)).flatMap fun x=>q.map (f x), ?_⟩;have e1:p=p.take i++x::p.drop (i+1):=by rw [←ix hx,W9]
 have e2:q=q.take j++y::q.drop (j+1):=by rw [←ix hy,W9]
 have e3:q.map (f x)=(q.take j).map (f x)++f x y::(q.drop (j+1)).map (f x):=by
  rw [←Wv,←WX,←e2]
 calc (p.flatMap fun x=>q.map (f x))=(p.take i++x::p.drop (i+1)).flatMap fun x=>q.map (f x):=by rw [←e1]
  _=_:=by rw [Yu,YB,e3];simp
theorem uV {q:List TR} (hp:jG k p) (hq:jG j q) (h:k+j≤1000000):jG (k+j) (df p q):=fun t ht=>by
 obtain ⟨x,hx,ht⟩:=Yq.1 ht;obtain ⟨y,hy,rfl⟩:=Wo.1 ht;have hs:=(hp x hx).2.mul (hq y hy).2;exact ⟨hs.ok VZ,by show Sz _ (nR _).d;rw [cj];exact hs⟩
theorem GR (a b:ByteArray):(mulM a b).size≤b.size:=by
 unfold mulM;rw [jr];unfold mulL;split
 ·rename_i l hl;have:=(xE hl).2.2;have h4:l.length≤b.data.toList.length:=by rw [this.2,Zt,di,di];omega
  have h5:(Jv l).length≤l.length:=by unfold Jv;split<;>simp
  rw [eh];exact WK h5 h4
 ·exact V8 _
def rl (c:Dyadic) (t:TR):TR:=⟨t.m,nR (t.c.d*c)⟩
theorem dH {v:Int} (h:ko v ts=0):jo v=true∧ts.length≤4096∧(∀t∈ts,fY v t=true)∧Canon ts:=by
 unfold ko at h
 cases hf:jo v with
 |false=>rw [hf,V5 rfl] at h;omega
 |true=>
  rw [V6 (by rw [hf];decide)] at h;by_cases h4:4096<ts.length
  ·rw [V5 h4] at h;omega
  ·rw [V6 h4] at h;by_cases ho:okB v ts=true
   ·unfold okB at ho;rw [Wm] at ho;have hg:∀t∈ts,n9 v t=true:=Wq.1 ho.1;refine ⟨rfl,VZ,fun t ht=> ?_,tV.1 ho.2,fun t ht=> ?_,fun t ht=> ?_⟩
    ·exact (Yi.1 (hg t ht)).1
    ·exact CK (Yi.1 (Yi.1 (hg t ht)).2).1
    ·exact ((sA _).1 (Yi.1 (Yi.1 (hg t ht)).2).2).symm
   ·rw [V6 ho] at h;omega
theorem EL {v:Int} (hf:jo v=true) (h4:ts.length≤4096) (hm:∀t∈ts,fY v t=true) (hc:Canon ts):ko v ts=0:=by
 unfold ko;rw [V6 (by rw [hf];decide),V6 VZ,V5];unfold okB;rw [Wm];refine ⟨Wq.2 fun t ht=> ?_,tV.2 hc.sB⟩;show (fY v t && (y7 t && TZ t.c))=true;rw [hm t ht,(sA _).2 (hc.nf t ht).symm];unfold y7;rw [WG (hc.nz t ht)]
 rfl
theorem R3 {v:Int}{s t:TR} (h:s.m=t.m) (hs:fY v s=true):fY v t=true:=by unfold fY at hs ⊢;rwa [←h]
theorem CN {v:Int} (h:∀t∈l,fY v t=true):∀t∈aM l,fY v t=true:=fun t ht=>by
 obtain ⟨s,hs,e⟩:=iQ t ht;exact R3 e (h s hs)
theorem ku {v:Int} (hf:jo v=true) (h4:(aM l).length≤4096) (hm:∀t∈l,fY v t=true):ko v (aM l)=0:=EL hf h4 (CN hm) (fp l)
theorem Ic {v:Int}{x y:TR} (hx:fY v x=true) (h:qW x.m y.m=0):fY v (tj x y)=true:=by
 unfold fY at hx ⊢;rw [Wm,Wt] at hx;obtain ⟨_,_,h3,h4,h5⟩:=pZ h;rw [Wm,Wt];have h6:=Xm List.length h5;rw [di,Zt,di,di,h3,Nat.min_self] at h6;refine ⟨?_, ?_⟩
 ·show eS (mulM x.m y.m).data.toList=true;unfold mulM;rw [dV];exact h4
 ·show ((mulM x.m y.m).size:Int)=v;unfold mulM;rw [jr,h6,←eh];exact hx.2
theorem HL {v:Int}{q:List TR} (hp:∀t∈p,fY v t=true) (h:∀e∈wW p q,e=0):∀t∈df p q,fY v t=true:=fun t ht=>by
 obtain ⟨x,hx,ht⟩:=Yq.1 ht;obtain ⟨y,hy,rfl⟩:=Wo.1 ht;exact Ic (hp x hx) (h _ (Yq.2 ⟨x,hx,Wo.2 ⟨y,hy,rfl⟩⟩))
theorem pr {q:List TR} (h:fR p q=0):p.length*q.length≤65536∧(∀e∈wW p q,e=0)∧(aM (df p q)).length≤4096:=by
 unfold fR at h;by_cases h6:65536<p.length*q.length
 ·rw [V5 h6] at h;omega
 ·rw [V6 h6] at h;split at h
  ·rename_i e he;have:=List.find?_some he;rw [Wt] at this;exact absurd h this
  ·rename_i he;refine ⟨VZ,fun e hm=> ?_, ?_⟩
   ·have:=List.find?_eq_none.1 he e hm;simpa using this
   ·by_cases h4:4096<(aM (df p q)).length
    ·rw [V5 h4] at h;omega
    ·omega
def gm (ps:List PX):Int:=(ps.map PX.v).headD 0
def BT (ps:List PX):List TR:=ps.flatMap PX.ts
def Hq (ps:List PX):Int:=if gC ps=0 then im (BT ps) else gC ps
theorem xQ {ps:List PX} (h:gC ps=0):ps≠[]∧(∀g∈ps,g.e=0)∧∀g∈ps,g.v=gm ps:=by
 unfold gC at h;split at h
 ·rename_i f hf;have:=List.find?_some hf;simp at this;exact absurd h this
 ·rename_i hf;split at h
  ·cases h
  rename_i hno;refine ⟨fun e=>hno (.inl (by rw [e];rfl)),fun f hm=> ?_,fun f hm=> ?_⟩
  ·have:=List.find?_eq_none.1 hf f hm;simpa using this
  ·apply YD;intro hne;exact hno (.inr (Yb.2 ⟨f,hm,Wr hne⟩))
theorem yB {α β:Type}{f:α→List β}{B:Nat}:∀{l:List α},(∀x∈l,(f x).length≤B)→(l.flatMap f).length≤l.length*B
 |[],_=>by simp
 |x::l,h=>by
  rw [YB,We,WH,Xs];have h1:=h x Wj;have h2:=yB fun y hy=>h y (Wl _ hy);omega
theorem HF {f:α→List β}{l:List α}{i:Nat}{x:α} (h:l[i]?=some x):(l.take (i+1)).flatMap f=(l.take i).flatMap f++f x:=by
 rw [ay h,Yu];simp
theorem D5 {k:List TR} (h:aM l=aM k):im l=im k:=by unfold im;rw [h]
theorem m6 {ps:List PX}{g:PX} (h:ps[0]?=some g):gm ps=g.v:=by
 rcases ps with _|⟨f,l⟩
 ·cases h
 ·have:f=g:=by simpa using h
  rw [←this];rfl
theorem oU (L:Option Addr) (n c:Nat) (ps:List PX) (k:Nat) (w:World) (hT:er w) (hL:Sl w L n 2 (aA PX.cells ps)) (hn:n≤100) (hf:∀g∈ps,g.at_ w) (hl:∀g∈ps,g.km k) (hk:k≤2999000):
  Calls Tryz.prog 86 #[.slice L n c] w fun r w'=>∃g:PX,fL (Hq ps) (gm ps) (aM (BT ps)) g∧r=.returned (.tuple #[.agg #[.int .i64 g.v,.slice g.A g.n g.c],.int .i64 (Hq ps)])∧Hp w [g.row] w':=by
 have hh:=Hp.start w;have hln:=hL.bE PX.len V0;have hlk:=fun w1 hT1 hb=>r8 L n c ps k w1 hT1 (hL.ext hb) VZ (fun g hg=>(hf g hg).ext hb) hl;unfold Hq;by_cases h0:gC ps=0
 ·rw [V5 h0];rw [h0] at hlk;obtain ⟨hne,su,hvv⟩:=xQ h0;have hpos:=List.length_pos_iff.2 hne;obtain ⟨g0,h00⟩:=al (l:=ps) (k:=0) hpos;rw [m6 h00];have hfl:(BT ps).length≤ps.length*4096:=yB fun g hg=>(dH (su g hg)).2.1;obtain ⟨ad,rfl,hr⟩:=hL.at_ VZ;refine aj (N:=33) (l:=[.slice (some ad) n c]) Tryz.func86 rfl rfl (by simp) ?_;refine sr ?_;refine bJ hh ?_;intro b2 w2 hh;refine aI (aa (ah (sr (mL ?_))));refine bq hh (hlk _ (hT.hp hh) hh.below) rfl ?_;intro w9 hh;refine aI (aa (sr (mI ?_)));refine cY (aa (cF (ao (ai (sr (aL (aa (ah (sr (mL (aF (mI (aa (aq ?_))))))))))))));replace hh:=hh.cx 80 4;refine bz [5,7,16,17,18,19,20,21,22,23,24] 5 16
   (fun a x w'=>∃(i:Nat) (M:List TR) (A':Option Addr) (c':Nat),i≤n∧x=.int .i64 i∧a=.slice A' M.length c'∧MD (k+i) ((ps.take i).flatMap PX.ts) M∧Hp w [.row A' M.length c' 80 4 (aA TR.cells M),.blk b2 24 [.int .i64 0,.slice none 0 0] (0,0)] w')
   (fun _ x _=>n-(intOf x).toNat) ?_ ?_
  ·exact ⟨0,[],none,0,V8 _,rfl,rfl,MD.self Zq (fun t ht=>nomatch ht),hh⟩
  ·clear hh;rintro ρ' a_ x_ w' ⟨i,M,A',c',hi,rfl,rfl,hmd,hh⟩;have hfi:((ps.take i).flatMap PX.ts).length≤i*4096:=by
    have:=yB (f:=PX.ts) (B:=4096) (l:=ps.take i) fun g hg=>(dH (su g (Yd hg))).2.1;rwa [Ww,Xg VZ] at this
   have hML:=hmd.len;by_cases hlt:i<n
   ·obtain ⟨g,hx⟩:=al (l:=ps) (k:=i) VZ;have hmem:=Wb hx;have hgl:=hl g hmem;have hge:=dH (su g hmem);have hgc:=hgl.cap;have hgn:=hgl.n;refine sr ?_;refine eb ?_;refine cA ?_;refine Km ?_;refine bJ hh ?_;intro b7 w7 hh;refine bL hh 0 [_,_] ?_;intro ws hh;replace hh:Hp _ (.blk _ _ [_,_] _::_) _:=hh;refine aa (ak (mL (bC ?_)));refine bA hh 0 ?_;refine aE (pJ A' M.length c' M g.A g.n g.c g.ts (k+i) _ (hT.hp hh) (hh.aD (i:=1) rfl) ((hf g hmem).ext hh.below) (hh.eZ (i:=1) rfl) hgc VZ hgn VZ hmd.sB hge.2.2.2.sB hmd.ok (hgl.ok.mono VZ)) au.out rfl V0 ?_;rintro e_ w23 ⟨L2,A2,c2,hm2,rfl,h3⟩;refine ⟨_,rfl, ?_⟩;replace hh:=hh.join h3;simp only [Wf,Wd] at hh;refine lf ?_;refine bj (mI (az (ai ?_)));replace hh:=hh.sub (V7 _ (Wa _ (Wa _ (V7 _ Wx))));refine ⟨⟨i+1,L2,A2,c2,VZ,rfl,rfl, ?_,hh⟩,by show n-(i+1)<n-i;omega, ?_⟩
    ·rw [HF hx];exact hmd.KF (MD.self hge.2.2.2.sB (hgl.ok.mono VZ:jG (k+i) g.ts)) hm2 VZ
    ·exact dF
   ·obtain rfl:i=n:=VZ;rw [Wc VZ] at hmd hfi hML;have hgM:aM M=aM (BT ps):=yX hmd.co;have hgE:=D5 hgM;refine sr ?_;refine oE ?_;refine D9 ?_;refine s7 ?_;refine bX aJ.out rfl (cO hh.below ((hr.recAt PX.len h00) 0 _ rfl)) V0 ?_;refine mL ?_;refine aE (kB _ A' M.length c' M (k+i) _ hT hh rfl VZ VZ hmd.ok) au.out rfl V0 ?_;rintro e_ w30 ⟨g,og,rfl,hh⟩;refine ⟨_,rfl, ?_⟩;refine dE ?_;refine dE ?_;refine bL hh 1 [_,_] ?_;intro ws hh;replace hh:Hp _ (_::.blk _ _ [_,_] _::_) _:=hh;refine aI (aa (av ?_));refine Fj ?_;rw [←hgE,←hgM];exact Gd
 ·rw [V6 h0];generalize gC ps=e at*;refine aj (N:=33) (l:=[.slice L n c]) Tryz.func86 rfl rfl (by simp) ?_;refine sr ?_;refine bJ hh ?_;intro b2 w2 hh;refine aI (aa (ah (sr (mL ?_))));refine bq hh (hlk _ (hT.hp hh) hh.below) rfl ?_;intro w9 hh;exact MU
def oG (s:ByteArray) (i:Nat):Int:=match s.data.toList[i]? with|some c=>c.toNat|none=>0
def BU (l:List TR) (i:Nat):Int:=l.foldl (fun m t=>max m (oG t.m i)) 0
def mm (m:Nat) (l:List TR):List Int:=(List.range m).map (BU l)
def xG (v:Int) (ts:List TR):List Int:=if ko v ts=0 then mm v.toNat ts else []
theorem fC (m:Nat) (l:List TR):(mm m l).length=m:=by unfold mm;rw [Wi,Ye]
theorem sM (l:List TR) (h:j<m):(mm m l)[j]?=some (BU l j):=by
 unfold mm;rw [Wg,W8 h]
 rfl
theorem tX (l:List TR) (t:TR) (i:Nat):BU (l++[t]) i=max (BU l i) (oG t.m i):=by unfold BU;rw [Zk];rfl
theorem I9 {s:ByteArray}{i:Nat}{c:UInt8} (h:s.data.toList[i]?=some c):oG s i=c.toNat:=by unfold oG;rw [h]
theorem Nt {A B:List α}{y:α} (h:A.length=B.length) (hy:B[j]?=some y):(B.take j++A.drop j).set j y=B.take (j+1)++A.drop (j+1):=by
 have hj:=(Wk.1 hy).1;have hl:(B.take j).length=j:=by rw [Ww];omega
 obtain ⟨x,hx⟩:=al (l:=A) (k:=j) VZ;rw [ix hx,ay hy,Yf _ _ VZ,hl,Xc];simp
theorem LY {A B:List α}{x:α} (h:A.length=B.length) (hx:A[j]?=some x):(B.take j++A.drop j)[j]?=some x:=by
 have hj:=(Wk.1 hx).1;have hl:(B.take j).length=j:=by rw [Ww];omega
 rw [Xt VZ,hl,Xc,XY,XZ,hx]
theorem JB (m:Nat):eI m [.int .i64 0]=a7 (mm m []):=by
 have h1:∀n,eI n [.int .i64 0]=a7 (List.replicate n 0):=fun n=>by
  induction n with
  |zero=>rfl
  |succ n ih=>rw [eI,ih,Yp];rfl
 rw [h1];congr 1;apply XK;intro i;by_cases h:i<m
 ·rw [sM [] h,Zv,V5 h]
  rfl
 ·rw [WN (by rw [XD];omega),WN (by rw [fC];omega)]
theorem rZ (p:PX) (k:Nat) (w:World) (hT:er w) (hp:p.at_ w) (lp:p.km k):
  Calls Tryz.prog 35 #[.agg #[.int .i64 p.v,.slice p.A p.n p.c]] w fun r w'=>∃A c,r=.returned (.slice A (xG p.v p.ts).length c)∧Hp w [.row A (xG p.v p.ts).length c 3 1 (a7 (xG p.v p.ts))] w':=by
 have hh:=Hp.start w;have hck:=fun w1 hT1 hb=>nT p k w1 hT1 (hp.ext hb) lp;by_cases h0:p.e=0
 ·rw [show xG p.v p.ts=mm p.v.toNat p.ts from V5 h0,fC];rw [h0] at hck;obtain ⟨hf,h4,hmy,_⟩:=dH h0;have hpl:p.ts.length=p.n:=hp.ln;obtain ⟨pv,pA,pn,pc,ts⟩:=p;replace hf:=jy.1 hf;replace hmy:∀t∈ts,fY pv t=true:=hmy;replace hp:Sl w pA pn 4 (aA TR.cells ts):=hp;have hsz:∀t∈ts,t.m.size≤100000:=lp.sz;have hn:=lp.n;replace hn:pn≤1000000:=hn;replace hpl:ts.length=pn:=hpl;obtain ⟨m,rfl⟩:∃m:Nat,pv=(m:Int):=⟨pv.toNat,by show pv=_;have:0≤pv:=hf.1;omega⟩;replace hf:m≤12:=by have h9:(m:Int)≤12:=hf.2;omega
  show Calls _ _ _ _ fun r w'=>∃A c,r=.returned (.slice A m c)∧Hp w [.row A m c 3 1 (a7 (mm m ts))] w';refine aj (N:=42) (l:=[.agg #[.int .i64 m,.slice pA pn pc]]) Tryz.func35 rfl rfl (by simp) ?_;refine sr ?_;refine bV hh [_,_] ?_;intro b1 w1 hh;refine aL (aa (ah (sr ?_)));refine bY hh 0 [_,_] ?_;refine eQ ?_;intro w9 hh;refine cY (aa (cF (ao (ai (sr (bC ?_))))));refine bA hh 0 ?_;refine gB (n:=m) hh rfl rfl VZ VZ a9.out aJ.out rfl VZ VZ V0 ?_;intro b13 w13 hh;refine aL (aa (ah (sr (bC ?_))));refine bA hh 1 ?_;refine aF (mI (aa (aq ?_)));rw [JB] at hh;refine aW [5,6,7,17,18,19,20,21,22,23,24,25,26,27,28,29,30,31,32,33,34,35,36,37,38,39,40] 17
   (fun v w'=>∃i:Nat,i≤pn∧v=.int .i64 i∧Hp w [.row (some ⟨b13,0,none⟩) m m 3 1 (a7 (mm m (ts.take i))),.blk b1 24 [.int .i64 m,.slice pA pn pc] (0,0)] w')
   (fun v _=>pn-(intOf v).toNat) ?_ ?_
  ·exact ⟨0,V8 _,rfl,hh⟩
  ·clear hh;rintro ρ' v w' ⟨i,hi,rfl,hh⟩;by_cases hlt:i<pn
   ·obtain ⟨x,hx⟩:=al (l:=ts) (k:=i) VZ;obtain ⟨ad,rfl,hr⟩:=hp.at_ VZ;have hxm:=Wb hx;have hxs:=hsz x hxm;have hmx:=Yi.1 (hmy x hxm);have hxz:x.m.size=m:=by have:=XQ hmx.2;omega
    have hxl:x.m.data.toList.length=m:=by rw [←eh];exact hxz
    have hex:il x.m.data.toList=ints x.m.data.toList:=jS hmx.1;have hel:(il x.m.data.toList).length=m:=by rw [hex,di];exact hxl
    have hBl:(mm m (ts.take i)).length=(mm m (ts.take (i+1))).length:=by rw [fC,fC]
    refine sr ?_;refine eb ?_;refine cA ?_;refine r6 ?_;refine bJ hh ?_;intro b5 w5 hh;refine bL hh 0 [_,_,_,_] ?_;intro ws hh;replace hh:Hp _ (.blk _ _ [_,_,_,_] _::_) _:=hh;refine aa (sr (bC ?_));refine bA hh 0 ?_;refine aE (g8 x.m _ hxs) au.out rfl V0 ?_;rintro e_ w23 ⟨A23,c23,rfl,hown_,hb_⟩;refine ⟨_,rfl, ?_⟩;replace hh:=hh.aO (x:=.row _ _ _ _ _ _) hb_ hown_;rw [hel] at hh ⊢;refine aF (mI (aa (aq ?_)));refine aW [6,7,25,26,27,28,29,30,31,32,33,34,35,36,37,38,39] 25
     (fun v w'=>∃j:Nat,j≤m∧v=.int .i64 j∧Hp w [.row A23 m c23 3 1 (a7 (il x.m.data.toList)),.blk b5 80 [.string x.m,.bool x.c.neg,.string x.c.bk,.int .i64 x.c.e] (0,0),.row (some ⟨b13,0,none⟩) m m 3 1 (a7 ((mm m (ts.take (i+1))).take j++(mm m (ts.take i)).drop j)),.blk b1 24 [.int .i64 m,.slice (some ad) pn pc] (0,0)] w')
     (fun v _=>m-(intOf v).toNat) ?_ ?_
    ·exact ⟨0,V8 _,rfl,hh⟩
    ·clear hh;rintro ρ2 v w2 ⟨j,hj,rfl,hh⟩;by_cases hjn:j<m
     ·obtain ⟨e,he⟩:=al (l:=x.m.data.toList) (k:=j) VZ;have hee:(il x.m.data.toList)[j]?=some (e.toNat:Int):=by rw [hex];exact LW he
      have ho:=LY hBl (sM (ts.take i) hjn);have hset:=Nt hBl (sM (ts.take (i+1)) hjn);have hmx2:BU (ts.take (i+1)) j=max (BU (ts.take i) j) (e.toNat:Int):=by rw [ay hx,tX,I9 he]
      rw [hmx2] at hset;have hol:((mm m (ts.take (i+1))).take j++(mm m (ts.take i)).drop j).length=m:=by rw [We,Ww,Xu,fC,fC];omega
      generalize (mm m (ts.take (i+1))).take j++(mm m (ts.take i)).drop j=M at*;have hee2:=bR hee;have ho2:=bR ho;have hll:(a7 M).length=m:=by rw [bQ];exact hol
      obtain ⟨g,rfl⟩:=hh.bZ (i:=0) rfl VZ;refine sr ?_;refine dY ?_;refine rL ?_;refine ji ?_;refine aI (aI (aa (ak (mL (mI (mL (mI ?_)))))));refine rL ?_;refine Ce ?_;refine mI ?_;refine j0 rfl rfl V0 ?_;refine rH ?_;have hmv:(if (e.toNat:Int)>BU (ts.take i) j then (e.toNat:Int) else BU (ts.take i) j)=max (BU (ts.take i) j) (e.toNat:Int):=by split<;>omega
      refine cf hh (i:=2) (vs:=[_]) rfl rfl (cP rfl) rfl aJ.out rfl VZ rfl ?_;intro ws hh;simp only [Wh,WI] at hh;rw [hmv,rI _ (by rw [←bQ];omega),hset] at hh;refine fN ?_;refine bj (mI (az (ai ?_)));refine ⟨⟨j+1,VZ,rfl,hh⟩,by show m-(j+1)<m-j;omega, ?_⟩;exact dF
     ·obtain rfl:j=m:=VZ;rw [Wc (by rw [fC];omega),XX (by rw [fC];omega),WJ] at hh;refine sr ?_;refine Al ?_;refine bj (mI (az (ai ?_)));replace hh:=hh.sub (Wa _ (Wa _ (V7 _ (V7 _ Wx))));refine ⟨⟨i+1,VZ,rfl,hh⟩,by show pn-(i+1)<pn-i;omega, ?_⟩;exact dF
   ·obtain rfl:i=pn:=VZ;rw [Wc VZ] at hh;exact SY
 ·rw [show xG p.v p.ts=[] from V6 h0];refine aj (N:=42) (l:=[.agg #[.int .i64 p.v,.slice p.A p.n p.c]]) Tryz.func35 rfl rfl (by simp) ?_;refine sr ?_;refine bV hh [_,_] ?_;intro b1 w1 hh;refine aL (aa (ah (sr ?_)));refine bY hh 0 [_,_] ?_;refine eQ ?_;intro w9 hh;refine cY (aa (cT (sr (aL (aa (av (aK ?_)))))));refine cW ?_;exact ⟨none,0,rfl,(hh.sub (Xq _)).cx 3 1⟩
structure SR where
 lo:NR
 hi:NR
def SR.cells (s:SR):List Value:=[.bool s.lo.neg,.string s.lo.bk,.int .i64 s.lo.e,.bool s.hi.neg,.string s.hi.bk,.int .i64 s.hi.e]
theorem SR.len (s:SR):(SR.cells s).length=6:=rfl
def Sd (x y:Dyadic):Dyadic:=if y<x then y else x
def Sh (x y:Dyadic):Dyadic:=if x<y then y else x
theorem It (x y:Dyadic):iH (fun x y=>decide (x<y)) [x,y]=Sd x y:=by simp [iH,Sd]
theorem K1 (x y:Dyadic):iH (fun x y=>decide (y<x)) [x,y]=Sh x y:=by simp [iH,Sh]
def SR.L (s:SR):Dyadic:=Sd s.lo.d s.hi.d
def SR.H (s:SR):Dyadic:=Sh s.lo.d s.hi.d
def SR.f (s:SR):SR:=⟨nR s.L,nR s.H⟩
def SR.ok (s:SR):Prop:=s.lo.ok∧s.hi.ok
def SR.has (s:SR) (x:Dyadic):Bool:=decide (¬x<s.L∧¬s.H<x)
def SR.wid (s:SR):Dyadic:=s.H-s.L
def SR.VD (s:SR):Dyadic:=(s.lo.d+s.hi.d)*p5 (-1)
theorem Ro (x y:Dyadic):Sd x y=x∨Sd x y=y:=by unfold Sd;split<;>simp
theorem RO (x y:Dyadic):Sh x y=x∨Sh x y=y:=by unfold Sh;split<;>simp
structure S9 (k:Nat) (a:NR):Prop where
 ok:a.ok
 sz:Sz k a.d
def SR.fin (k:Nat) (s:SR):Prop:=S9 k s.lo∧S9 k s.hi
theorem SR.Mh {s:SR} (h:s.fin k):Sz k s.L:=by
 unfold SR.L
 rcases Ro s.lo.d s.hi.d with e|e<;>rw [e]
 ·exact h.1.sz
 ·exact h.2.sz
theorem SR.Sf {s:SR} (h:s.fin k):Sz k s.H:=by
 unfold SR.H
 rcases RO s.lo.d s.hi.d with e|e<;>rw [e]
 ·exact h.1.sz
 ·exact h.2.sz
theorem Dm (L:Option Addr) (n c:Nat) (l:List NR) (w:World) (hT:er w) (hS:Sl w L n 3 (aA NR.cells l)) (hl:∀a∈l,a.ok) (hn:n≤1000000):
  Calls Tryz.prog 159 #[.slice L n c] w fun r w'=>r=.returned (.agg (SR.cells ⟨nR (iH (fun x y=>decide (x<y)) (l.map NR.d)),nR (iH (fun x y=>decide (y<x)) (l.map NR.d))⟩).toArray)∧Below w.heap.size w w':=by
 have hh:=Hp.start w;refine aj (N:=8) (l:=[.slice L n c]) Tryz.func159 rfl rfl (by simp) ?_;refine sr ?_;refine bJ hh ?_;intro b2 w2 hh;refine aa (sr (mL ?_));refine bq hh (CZ L n c l _ (hT.hp hh) (hS.ext hh.below) hl hn) rfl ?_;intro w4 hh;refine mL ?_;refine bq hh (Db L n c l _ (hT.hp hh) (hS.ext hh.below) hl hn) rfl ?_;intro w6 hh;refine fe [_,_,_,_,_,_] ?_;exact Sy
theorem Cw (s:SR) (w:World) (hT:er w) (hs:s.ok):
  Calls Tryz.prog 114 #[.agg s.cells.toArray] w fun r w'=>r=.returned (.agg s.f.cells.toArray)∧Below w.heap.size w w':=by
 have hh:=Hp.start w;have hc:=fun L c w1 hT1 hS1=>Dm L 2 c [s.lo,s.hi] w1 hT1 hS1 (by simpa using show s.lo.ok∧s.hi.ok from hs) VZ;simp only [Wv,WV,It,K1] at hc;refine aj (N:=10) (l:=[.agg s.cells.toArray]) Tryz.func114 rfl rfl (by simp) ?_;refine sr ?_;refine bV hh [_,_,_,_,_,_] ?_;intro b1 w1 hh;refine bJ hh ?_;intro b2 w2 hh;refine aa (sr (bC ?_));refine bY hh 1 [_,_,_] (bC ?_);refine bY hh 1 [_,_,_] ?_;refine xI ?_;intro b7 w7 hh;refine bq hh (hc _ _ _ (hT.hp hh) (hh.aD (i:=0) rfl)) rfl ?_;intro w8 hh;refine fe [_,_,_,_,_,_] ?_;refine bL hh 1 [_,_,_,_,_,_] ?_;intro ws hh;replace hh:Hp _ (_::.blk _ _ [_,_,_,_,_,_] _::_) _:=hh;refine aa (av ?_);refine LO (dT rfl (dW (vs:=[_,_,_,_,_,_]) aJ.out (hh.bP (i:=1) (n:=6) rfl rfl) rfl) e8) ?_;exact ⟨rfl,hh.below⟩
theorem yd (s:SR) (w:World) (hT:er w) (hs:s.ok):
  Calls Tryz.prog 126 #[.agg s.cells.toArray] w fun r w'=>r=.returned (.agg s.f.cells.toArray)∧Below w.heap.size w w':=by
 have hh:=Hp.start w;refine aj (N:=6) (l:=[.agg s.cells.toArray]) Tryz.func126 rfl rfl (by simp) ?_;refine sr ?_;refine bV hh [_,_,_,_,_,_] ?_;intro b1 w1 hh;refine bJ hh ?_;intro b2 w2 hh;refine aa (sr ?_);refine bY hh 1 [_,_,_,_,_,_] ?_;refine bq hh (Cw s _ (hT.hp hh) hs) rfl ?_;intro w4 hh;refine LX fQ.out aJ.out rfl rfl V0 ?_;exact Sy
def nk (b:List SR):Int:=if b.any (fun s=> !decide (s.lo.d<s.hi.d)) then 5 else if b.length=0 then 1 else 0
theorem N2 (x y:Dyadic):(0≤k7 x y)↔¬x<y:=by
 rcases SM x y with h|h|h
 ·rw [DA h];exact ⟨fun h2=>by omega,fun h2=>absurd h h2⟩
 ·rw [h,GH];exact ⟨fun _=>by grind,fun _=>by omega⟩
 ·rw [DE h];exact ⟨fun _=>by grind,fun _=>by omega⟩
theorem pN (L:Option Addr) (n c:Nat) (b:List SR) (w:World) (hT:er w) (hS:Sl w L n 6 (aA SR.cells b)) (hb:∀s∈b,s.ok) (hn:n≤1000000):
  Calls Tryz.prog 80 #[.slice L n c] w fun r w'=>r=.returned (.int .i64 (nk b))∧Below w.heap.size w w':=by
 have hh:=Hp.start w;have hln:=hS.bE SR.len V0;refine aj (N:=21) (l:=[.slice L n c]) Tryz.func80 rfl rfl (by simp) ?_;refine Bq ?_;refine aW [2,4,7,8,9,10,11,12,13,14,15,16,17] 7
  (fun v w'=>∃i:Nat,i≤n∧v=.int .i64 i∧(b.take i).any (fun s=> !decide (s.lo.d<s.hi.d))=false∧Hp w [] w')
  (fun v _=>n-(intOf v).toNat) ?_ ?_
 ·exact ⟨0,V8 _,rfl,rfl,hh⟩
 ·clear hh;rintro ρ' v w' ⟨i,hi,rfl,hall,hh⟩;by_cases hlt:i<n
  ·obtain ⟨s,hs⟩:=al (l:=b) (k:=i) VZ;have ms:=Wb hs;obtain ⟨ad,rfl,hr⟩:=hS.at_ VZ;have hc:=fun w1 hT1=>oZ s.lo s.hi w1 hT1 (hb s ms).1 (hb s ms).2;have e:=N2 s.lo.d s.hi.d;generalize k7 s.lo.d s.hi.d=cc at*;by_cases g:0≤cc
   ·refine sr ?_;refine eb ?_;refine cA ?_;refine Ja ?_;refine bJ hh ?_;intro b4 w4 hh;refine bL hh 0 [_,_,_,_,_,_] ?_;intro ws hh;replace hh:Hp _ (.blk _ _ [_,_,_,_,_,_] _::_) _:=hh;refine aa (sr (bC ?_));refine bY hh 0 [_,_,_] (bC ?_);refine bY hh 0 [_,_,_] ?_;refine bq hh (hc _ (hT.hp hh)) rfl ?_;intro w15 hh;refine dP (aa (cT (sr (aI (aa (av (cm (aK (aK (cm (aK ?_)))))))))));refine cW ?_;have:b.any (fun s=> !decide (s.lo.d<s.hi.d))=true:=Yb.2 ⟨s,ms,by rw [WG (e.1 g)];rfl⟩;exact ⟨by rw [nk,V5 this],hh.below⟩
   ·refine sr ?_;refine eb ?_;refine cA ?_;refine Ja ?_;refine bJ hh ?_;intro b4 w4 hh;refine bL hh 0 [_,_,_,_,_,_] ?_;intro ws hh;replace hh:Hp _ (.blk _ _ [_,_,_,_,_,_] _::_) _:=hh;refine aa (sr (bC ?_));refine bY hh 0 [_,_,_] (bC ?_);refine bY hh 0 [_,_,_] ?_;refine bq hh (hc _ (hT.hp hh)) rfl ?_;intro w15 hh;refine dP (aa (cF (ao (bF (ai (ak ?_))))));refine bj (mI (az (ai ?_)));replace hh:=hh.sub (Wa _ Wx);refine ⟨⟨i+1,VZ,rfl, ?_,hh⟩,by show n-(i+1)<n-i;omega, ?_⟩
    ·rw [ay hs,YN,hall,W4,YF,YS,Bool.or_false,Wr (by have:¬¬s.lo.d<s.hi.d:=fun h=>g (e.2 h);exact Yg.1 this)]
     rfl
    ·exact dF
  ·rw [Wc VZ] at hall;by_cases h0:n=0
   ·refine sr ?_;refine a0 (aa (ah (cF (aZ (aC (aC (br (ai (ah (sr (mL (aF ?_))))))))))));refine Eo ?_;refine cW ?_;exact ⟨by rw [nk,hall,V6 (by simp),V5 VZ],hh.below⟩
   ·refine sr ?_;refine a0 (aa (ah (cF (aZ (aC (aC (br (ai (ah (sr (mL (aF ?_))))))))))));refine ct (aa (cF (ao (ai (sr (aI (aa (av ?_))))))));refine cW ?_;exact ⟨by rw [nk,hall,V6 (by simp),V6 VZ],hh.below⟩
theorem rR (L:Option Addr) (n c:Nat) (b:List SR) (w:World) (hT:er w) (hS:Sl w L n 6 (aA SR.cells b)) (hb:∀s∈b,s.ok) (hn:n≤1000000):
  Calls Tryz.prog 82 #[.slice L n c] w fun r w'=>∃A c',r=.returned (.slice A n c')∧w'.ownsRow w.heap.size 70 6 (.slice A n c') n (aA SR.cells (b.map SR.f))∧Below w.heap.size w w':=by
 have hh:=Hp.start w;have hln:=hS.bE SR.len V0;refine aj (N:=19) (l:=[.slice L n c]) Tryz.func82 rfl rfl (by simp) ?_;refine sr (aL (aa (sr (aL (aa (ah (sr (mL (aF (mI (aa (aq ?_))))))))))));replace hh:=hh.cx 70 6;refine bz [3,5,8,9,10,11,12,13,14,15,16,17] 3 8
  (fun v3 v w'=>∃(i c3:Nat) (A:Option Addr),i≤n∧v=.int .i64 i∧v3=.slice A i c3∧Hp w [.row A i c3 70 6 (aA SR.cells ((b.take i).map SR.f))] w')
  (fun _ v _=>n-(intOf v).toNat) ?_ ?_
 ·exact ⟨0,0,none,V8 _,rfl,rfl,hh⟩
 ·clear hh;rintro ρ' v3 v w' ⟨i,c3,A,hi,rfl,rfl,hh⟩;by_cases hlt:i<n
  ·obtain ⟨s,hs⟩:=al (l:=b) (k:=i) VZ;have ms:=Wb hs;obtain ⟨ad,rfl,hr⟩:=hS.at_ VZ;refine sr ?_;refine eb ?_;refine cA ?_;refine Ja ?_;refine bJ hh ?_;intro b5 w5 hh;refine bL hh 0 [_,_,_,_,_,_] ?_;intro ws hh;replace hh:Hp _ (.blk _ _ [_,_,_,_,_,_] _::_) _:=hh;refine aa (ak (mL ?_));refine bY hh 0 [_,_,_,_,_,_] ?_;refine bq hh (yd s _ (hT.hp hh) (hb s ms)) rfl ?_;intro w14 hh;refine Oq ?_;intro b15 w15 hh;refine Bb ?_;intro A16 c16 w16 hh;simp only [Wh,WI] at hh;replace hh:=hh.sub (WO _ _);refine lf ?_;refine bj (mI (az (ai ?_)));replace hh:=hh.sub (Wa _ (V7 _ Wx));refine ⟨⟨i+1,c16,A16,VZ,rfl,rfl, ?_⟩,by show n-(i+1)<n-i;omega, ?_⟩
   ·rw [ay hs,WX,bK];exact hh
   ·exact dF
  ·obtain rfl:i=n:=VZ;rw [Wc VZ] at hh;exact Rj
def hasB (b:List SR) (p:List NR):Bool:=decide (b.length=p.length) && (b.zip p).all fun x=>x.1.has x.2.d
def TY (a b:List SR):Bool:=decide (a.length=b.length) && (a.zip b).all fun x=>x.2.has x.1.lo.d && x.2.has x.1.hi.d
def DG (dg ds:List Int):Bool:=(dg.zip ds).any fun q=>decide (q.2<q.1∨127<q.2)
def sj (p:PX) (b:List SR) (ds:List Int):Int:=
 if p.e≠0 then p.e else if nk b≠0 then nk b else if (b.length:Int)≠p.v∨(ds.length:Int)≠p.v then 1 else if DG (xG p.v p.ts) ds=true then 1 else if eR 1 ds=0 then 3 else 0
theorem Ee {a:List α}{b:List β}{i:Nat}{x:α}{y:β} (hx:a[i]?=some x) (hy:b[i]?=some y):(a.zip b)[i]?=some (x,y):=by
 rw [List.getElem?_zip_eq_some];exact ⟨hx,hy⟩
theorem ud (p:PX) (L:Option Addr) (n c:Nat) (b:List SR) (M:Option Addr) (m mc:Nat) (ds:List Int) (k:Nat) (w:World) (hT:er w) (hp:p.at_ w) (lp:p.km k) (hB:Sl w L n 6 (aA SR.cells b)) (hb:∀s∈b,s.ok) (hn:n≤1000000) (hD:Sl w M m 1 (a7 ds)) (hm:m≤1000000):
  Calls Tryz.prog 43 #[.agg #[.int .i64 p.v,.slice p.A p.n p.c],.slice L n c,.slice M m mc] w fun r w'=>r=.returned (.int .i64 (sj p b ds))∧Below w.heap.size w w':=by
 have hh:=Hp.start w;have hck:=fun w1 hT1 hb=>nT p k w1 hT1 (hp.ext hb) lp;have hbk:=fun w1 hT1 hb1=>pN L n c b w1 hT1 (hB.ext hb1) hb hn;have hdg:=fun w1 hT1 hb=>rZ p k w1 hT1 (hp.ext hb) lp;have hbl:b.length=n:=hB.bE SR.len V0;have hdl:ds.length=m:=by have:=hD.1;rw [bQ] at this;omega
 unfold sj;by_cases h0:p.e≠0
 ·rw [V5 h0];generalize p.e=e at*;refine Bg ?_;refine sr ?_;refine bV hh [_,_] ?_;intro b3 w3 hh;refine aI (aa (ah (sr ?_)));refine bY hh 0 [_,_] ?_;refine eQ ?_;intro w12 hh;exact NL
 ·rw [V6 h0];have hpe:p.e=0:=VZ;rw [hpe] at hck;by_cases h1:nk b≠0
  ·rw [V5 h1];generalize nk b=e at*;refine Bg ?_;refine sr ?_;refine bV hh [_,_] ?_;intro b3 w3 hh;refine aI (aa (ah (sr ?_)));refine bY hh 0 [_,_] ?_;refine eQ ?_;intro w12 hh;refine aI (aa (sr (mI ?_)));refine ue ?_;refine bq hh (hbk _ (hT.hp hh) hh.below) rfl ?_;intro w17 hh;exact NL
  ·rw [V6 h1];rw [show nk b=0 by omega] at hbk;by_cases h2:(b.length:Int)≠p.v
   ·rw [V5 (.inl h2)];refine Bg ?_;refine sr ?_;refine bV hh [_,_] ?_;intro b3 w3 hh;refine aI (aa (ah (sr ?_)));refine bY hh 0 [_,_] ?_;refine eQ ?_;intro w12 hh;refine aI (aa (sr (mI ?_)));refine ue ?_;refine bq hh (hbk _ (hT.hp hh) hh.below) rfl ?_;intro w17 hh;refine aI (aa (sr (mI ?_)));refine rB ?_;refine bA hh 0 ?_;refine cY (mB ?_);refine gS (gS (gS (gS (gS ?_))));refine fi ?_;exact Ig
   ·by_cases h3:(ds.length:Int)≠p.v
    ·rw [V5 (.inr h3)];refine Bg ?_;refine sr ?_;refine bV hh [_,_] ?_;intro b3 w3 hh;refine aI (aa (ah (sr ?_)));refine bY hh 0 [_,_] ?_;refine eQ ?_;intro w12 hh;refine aI (aa (sr (mI ?_)));refine ue ?_;refine bq hh (hbk _ (hT.hp hh) hh.below) rfl ?_;intro w17 hh;refine aI (aa (sr (mI ?_)));refine rB ?_;refine bA hh 0 ?_;refine cY (mB (gT (mL (gT (aF (gT (bC (gT ?_))))))));refine bA hh 0 ?_;refine gT ?_;refine cY ?_;refine dR ?_;exact Ig
    ·rw [V6 (fun h=>h.elim h2 h3)];have hgl:(xG p.v p.ts).length=m:=by
      unfold xG;rw [V5 (show ko p.v p.ts=0 from hpe),fC];omega
     have hzl:((xG p.v p.ts).zip ds).length=m:=by rw [List.length_zip];omega
     have hbd:DG (xG p.v p.ts) ds=((xG p.v p.ts).zip ds).any fun q=>decide (q.2<q.1∨127<q.2):=rfl;generalize xG p.v p.ts=dg at*;rw [hgl] at hdg;refine Bg ?_;refine sr ?_;refine bV hh [_,_] ?_;intro b3 w3 hh;refine aI (aa (ah (sr ?_)));refine bY hh 0 [_,_] ?_;refine eQ ?_;intro w12 hh;refine aI (aa (sr (mI ?_)));refine ue ?_;refine bq hh (hbk _ (hT.hp hh) hh.below) rfl ?_;intro w17 hh;refine aI (aa (sr (mI ?_)));refine rB ?_;refine bA hh 0 ?_;refine cY (mB (gT (mL (gT (aF (gT (bC (gT ?_))))))));refine bA hh 0 ?_;refine gT ?_;refine cY ?_;refine dR ?_;refine aa (cF (ao (ai (ah (sr ?_)))));refine bY hh 0 [_,_] ?_;refine aE (hdg _ (hT.hp hh) hh.below) au.out rfl V0 ?_;rintro e_ w34 ⟨G,gc,rfl,h4⟩;refine ⟨_,rfl, ?_⟩;replace hh:=hh.join h4;simp only [Wf,Wd] at hh;refine aF (mI (aa (aq ?_)));refine aW [6,9,10,36,37,38,39,40,41,42,43,44,45,46,47,48,49,50,51,52,53,54] 36
      (fun v w'=>∃i:Nat,i≤m∧v=.int .i64 i∧((dg.zip ds).take i).any (fun q=>decide (q.2<q.1∨127<q.2))=false∧Hp w [.row G m gc 3 1 (a7 dg),.blk b3 24 [.int .i64 p.v,.slice p.A p.n p.c] (0,0)] w')
      (fun v _=>m-(intOf v).toNat) ?_ ?_
     ·exact ⟨0,V8 _,rfl,rfl,hh⟩
     ·clear hh;rintro ρ' v w' ⟨i,hi,rfl,hall,hh⟩;by_cases hlt:i<m
      ·obtain ⟨x,hx⟩:=al (l:=dg) (k:=i) VZ;obtain ⟨y,hy⟩:=al (l:=ds) (k:=i) VZ;have hz:=Ee hx hy;have hx2:=bR hx;have hy2:=bR hy;have hll:(a7 dg).length=m:=by rw [bQ];exact hgl
       obtain ⟨ad,rfl,hr⟩:=hD.at_ VZ;obtain ⟨g0,rfl⟩:=hh.bZ (i:=0) rfl VZ;by_cases hxy:y<x
       ·refine sr ?_;refine dY ?_;refine fP ?_;refine ji ?_;refine aI (aI (aa (sr (mL (mI ?_)))));refine cA ?_;refine Am ?_;refine mI ?_;refine a0 (mB ?_);refine gS (gS (gS (gS (gS ?_))));refine fi ?_;refine B2 ?_;refine cW ?_;rw [V5 (by rw [hbd];exact Yb.2 ⟨_,Wb hz,Wr (.inl hxy)⟩)];exact ⟨rfl,hh.below⟩
       ·by_cases hy7:127<y
        ·refine sr ?_;refine dY ?_;refine fP ?_;refine ji ?_;refine aI (aI (aa (sr (mL (mI ?_)))));refine cA ?_;refine Am ?_;refine mI ?_;refine a0 (mB (gT (mL (gT (mI (gT ?_))))));refine cA ?_;refine aH rfl rfl ?_;refine Am ?_;refine gT ?_;refine bH ?_;refine dR ?_;refine B2 ?_;refine cW ?_;rw [V5 (by rw [hbd];exact Yb.2 ⟨_,Wb hz,Wr (.inr hy7)⟩)];exact ⟨rfl,hh.below⟩
        ·refine sr ?_;refine dY ?_;refine fP ?_;refine ji ?_;refine aI (aI (aa (sr (mL (mI ?_)))));refine cA ?_;refine Am ?_;refine mI ?_;refine a0 (mB (gT (mL (gT (mI (gT ?_))))));refine cA ?_;refine aH rfl rfl ?_;refine Am ?_;refine gT ?_;refine bH ?_;refine dR ?_;refine BZ ?_;refine bj (mI (az (ai ?_)));refine ⟨⟨i+1,VZ,rfl,by rw [ay hz,YN,hall,YF,YS,WG (fun h=>h.elim hxy hy7)];rfl,hh⟩,by show m-(i+1)<m-i;omega, ?_⟩;exact dF
      ·rw [Wc VZ] at hall;rw [V6 (by rw [hbd,hall];decide)];have hcn:=fun w1 hb=>ef M m mc ds w1 (hD.ext hb) hm;refine sr ?_;refine a0 (aa (ah (cF (aZ (aC (aC (br (ai (ah (sr (mL ?_)))))))))));by_cases h9:eR 1 ds=0
       ·rw [V5 h9];rw [h9] at hcn;refine bq hh (hcn _ hh.below) rfl ?_;intro w56 hh;refine Eo ?_;refine cW ?_;exact ⟨rfl,hh.below⟩
       ·rw [V6 h9];generalize eR 1 ds=N at*;refine bq hh (hcn _ hh.below) rfl ?_;intro w56 hh;refine ct (aa (cF (ao (ai (sr (aI (aa (av ?_))))))));refine cW ?_;exact ⟨rfl,hh.below⟩
end Go.Proofs.YtolamocnngihpaaGreatDoor
