/- Lemmas for solveAll, part 6. -/
import Derived.RangeFuncFrom
import Derived.RangeFuncCalls
import Derived.RangeFuncLeaves
import Derived.Shelf.Abstract
import Derived.Test.YtbencocchdpikaaGreatDoorZ5
set_option linter.all false
set_option maxHeartbeats 0
namespace Go.Proofs.YtbencocchdpikaaGreatDoor
open Go.Proofs.Tryz
open Go.RowKit
def je(a b:List Nat):List Nat:=List.zipWith (· + ·) a b
def zQ{a b:List Nat}(h:a.length=b.length):(je a b).length=a.length:=by simp[je,h]
def SL{a b:List Nat}{i x y:Nat}(h1:a[i]?=some x)(h2:b[i]?=some y):(je a b)[i]?=some (x+y):=by
 unfold je;rw[L8,h1,h2]
def cN:∀(a b:List Nat),te a b=je a b
 |[],[]=>rfl
 |[],_::_=>rfl
 |_::_,[]=>rfl
 |x::a,y::b=>by rw[te,cN a b];rfl
def cw{a b:List Nat}(h:a.length=b.length):te a.reverse b.reverse=(je a b).reverse:=by
 rw[cN];exact(List.reverse_zipWith h).symm
variable {N:Nat}
def tP{L M:List (Nat×Dyadic)}(h:∀q∈M,q.2=0):ui N (L++M)=ui N L:=by
 unfold ui;refine y8 λp _=> ?_;rw[Xn,ko (l:=M) λq hq=>by rw[h q hq];split<;>rfl];grind
def XG(N:Nat):Qg N [.bool false,.string (ByteArray.mk #[]),.int .i64 0]=na NR.cells ((ui N []).map nR):=by
 rw[Kw,List.map_replicate]
 induction N with
 |zero=>rfl
 |succ n ih=>rw[B7,Fh,<-ih];rfl
variable {ds:List Nat}{xs:List Dyadic}
def Yy(ds es:List Nat)(xs ys:List Dyadic)(k:Nat):List (Nat×Dyadic):=(List.range k).flatMap λk=>(List.range (la ds)).map λi=>(Jd (te ds es) (te (Eb ds i) (Eb es k)),(xs[i]?).getD 0*(ys[k]?).getD 0)
def My(ds es:List Nat)(xs ys:List Dyadic)(k:Nat):Yy ds es xs ys (k+1)=Yy ds es xs ys k++(List.range (la ds)).map λi=>(Jd (te ds es) (te (Eb ds i) (Eb es k)),(xs[i]?).getD 0*(ys[k]?).getD 0):=by
 unfold Yy;rw[P8,q7,List.flatMap_singleton]
def fL(ds es:List Nat)(xs ys:List Dyadic)(k:Nat):(Yy ds es xs ys k).length=k*la ds:=by
 unfold Yy;rw[Fu (m:=la ds) _ _ λa _=>by simp,u9]
def ZJ{es:List Nat}{ys:List Dyadic}{k1 k2:Nat}(hx:∀x∈xs,Sz k1 x)(hy:∀y∈ys,Sz k2 y)(k:Nat):∀q∈Yy ds es xs ys k,Sz (k1+k2) q.2:=λq hq=>by
 unfold Yy at hq;obtain⟨j,_,hq⟩:=U7.1 hq;obtain⟨i,_,rfl⟩:=Z_.1 hq;refine Sz.mul ?_ ?_
 .cases h:xs[i]? with
  |none=>exact Sz.zero _
  |some x=>exact hx x (G' h)
 cases h:ys[j]? with
 |none=>exact Sz.zero _
 |some y=>exact hy y (G' h)
def ZD{ns ms:List Nat}(hl:ns.length=ms.length)(i k:Nat):Nj (je ns ms).reverse (te (Eb ns.reverse i) (Eb ms.reverse k)):=by
 rw[<-cw hl];exact RL (Lo _ _) (Lo _ _) (by rw[c_,c_,hl])
def nK(ns ms:List Nat)(xs ys:List Dyadic):List Dyadic:=ui (la (je ns ms)) (Yy ns.reverse ms.reverse xs ys (la ms))
def SC(F FC G GC:Option Addr)(n c1 c2 c3 c4:Nat)(ns ms:List Nat)(xs ys:List Dyadic)(k1 k2:Nat)(w:World)(hT:Sc w) (hF:Sl w F n 1 (jb (Ua ns)))(hFC:Sl w FC (la ns) 3 (na NR.cells (xs.map nR)))(hG:Sl w G n 1 (jb (Ua ms)))(hGC:Sl w GC (la ms) 3 (na NR.cells (ys.map nR))) (hn:n<=12)(hns:∀d∈ns,d<=127)(hms:∀d∈ms,d<=127)(hN:la (je ns ms)<=4096)(hM:la ms*la ns<=1000000)(hx:∀x∈xs,Sz k1 x)(hy:∀y∈ys,Sz k2 y)(hk:k1+k2<=100000):Calls prog 274 #[.agg #[.slice F n c1,.slice FC (la ns) c2],.agg #[.slice G n c3,.slice GC (la ms) c4]] w λr w'=>∃A a B b,r=.returned (.agg #[.slice A n a,.slice B (la (je ns ms)) b])/\Hp w [.row B (la (je ns ms)) b 30 3 (na NR.cells ((nK ns ms xs ys).map nR)),.row A n a 3 1 (jb (Ua (je ns ms)))] w':=by
 have hh:=Hp.start w;have hl1:ns.length=n:=by have:=hF.1;simpa[jb,Ua] using this
 have hl2:ms.length=n:=by have:=hG.1;simpa[jb,Ua] using this
 have hlx:xs.length=la ns:=by have:=hFC.Fa NR.len U';simpa using this
 have hly:ys.length=la ms:=by have:=hGC.Fa NR.len U';simpa using this
 have hpn:=Cc ns;have hpm:=Cc ms;have hMn:1*la ns<=la ms*la ns:=N9 _ hpm;have hMm:la ms*1<=la ms*la ns:=k_ _ hpn;obtain⟨a4,rfl,s4⟩:=hGC.at_ hpm;obtain⟨a5,rfl,s5⟩:=hFC.at_ hpn;have hla:(je ns ms).length=n:=by rw[zQ Z',hl1]
 have hadd:∀d∈je ns ms,d<=254:=λd hd=>(by obtain⟨i,hi⟩:=j_.1 hd;have hi2:=(X_.1 hi).1;obtain⟨x,hx1⟩:=ea (l:=ns) (k:=i) Z';obtain⟨y,hy1⟩:=ea (l:=ms) (k:=i) Z';rw[SL hx1 hy1] at hi;have:=hns x (G' hx1);have:=hms y (G' hy1);have:=L_ hi;omega);have hzr:Qg n [Value.int .i64 0]=jb (ie n):=by rw[Om];simp[jb,ie]
 refine da (N:=93) (l:=[.agg #[.slice F n c1,.slice (some a5) (la ns) c2],.agg #[.slice G n c3,.slice (some a4) (la ms) c4]]) func274 rfl rfl (by simp) ?_;refine Dm ?_;intro b2 w2 hh b3 w3 hh b4 w4 hh;refine vF ?_;intro b16 w16 hh;refine Sb ?_;intro b5 w5 hh ws hh;rw[hzr] at hh;refine Ba [6,21,22,23,24,25,26,27,28,29,30,31,32,33,34,35,36,37,38,39] 21 (λv w'=>∃i:Nat,i<=n/\v=.int .i64 i/\Hp w [.blk b5 78 [.slice (some ⟨b16,0,none⟩) n n,.slice none 0 0] (0,0),.row (some ⟨b16,0,none⟩) n n 3 1 (jb (Ua ((je ns ms).take i)++ie (n-i))),.blk b4 78 [.slice none 0 0,.slice none 0 0] (0,0),.blk b3 78 [.slice G n c3,.slice (some a4) (la ms) c4] (0,0),.blk b2 78 [.slice F n c1,.slice (some a5) (la ns) c2] (0,0)] w') (λv _=>n-(intOf v).toNat) ?_ ?_
 .exact⟨0,D' _,rfl,hh⟩
 clear hh;rintro ρ' v w' ⟨i,hi,rfl,hh⟩;by_cases hlt:i<n
 .obtain⟨x,hx1⟩:=ea (l:=ns) (k:=i) Z';obtain⟨y,hy1⟩:=ea (l:=ms) (k:=i) Z';have hgx:=Uc (He hx1);have hgy:=Uc (He hy1);have hxy:=SL hx1 hy1;have hx2:=hns x (G' hx1);have hy2:=hms y (G' hy1);have htl:(Ua ((je ns ms).take i)).length=i:=by rw[Ic,R_];omega
  have hil:(jb (Ua ((je ns ms).take i)++ie (n-i))).length=n:=by rw[Wb,Y_,htl,Nr];omega
  obtain⟨a1,rfl,s1⟩:=hF.at_ Z';obtain⟨a2,rfl,s2⟩:=hG.at_ Z';refine fa ?_;refine Ca 14 [[(5,none)],[(24,some 0)],[(6,none)],[(2,none)],[(27,some 3)],[(6,none)],[(28,some 4),(29,some 5)],[(30,some 6)],[(3,none)],[(32,some 8)],[(6,none)],[(33,some 9),(34,some 10)],[(35,some 11)],[(31,some 7),(36,some 12)]] [(13,37),(12,36),(11,35),(10,34),(9,33),(8,32),(7,31),(6,30),(5,29),(4,28),(3,27),(2,26),(1,25),(0,24)] hh mixed T' ?_;refine yd ?_;refine xe 0 ?_;refine cd ?_;refine yd ?_;refine xe 4 ?_;refine cd ?_;refine jj (i) ?_;refine Wa (i:=7) (λρ1 w1 hj hR=>Tg ya.out (show ρ1 30=Value.pointer _ from hR.1) ((s1.ext hj.hp.below).aw (by assumption))) ?_;refine yd ?_;refine xe 3 ?_;refine cd ?_;refine jj (i) ?_;refine Wa (i:=12) (λρ1 w1 hj hR=>Tg ya.out (show ρ1 35=Value.pointer _ from hR.1) ((s2.ext hj.hp.below).aw (by assumption))) ?_;refine xt ?_;refine xa ?_;intro f W hJ hV;have hb_5:=hJ.bl;obtain⟨v37,v36,v35,v34,v33,v32,v31,v30,v29,v28,v27,v26,v25,v24,_⟩:=hV;replace hh:=hJ.hp
  refine Da (Na (aa v37 (aa v36 (aa v35 (aa v34 (aa v33 (aa v32 (aa v31 (aa v30 (aa v29 (aa v28 (aa v27 (aa v26 (aa v25 (aa v24 Ea))))))))))))))) ?_;dsimp only[Bb];clear hJ;refine fa ?_;refine JS ?_;intro ws hh;simp only[U_,F_] at hh;rw[ek _ (by rw[<-Wb,hil];exact hlt)] at hh;have e5:(Ua ((je ns ms).take i)++ie (n-i)).set i ((x:Int)+(y:Int))=Ua ((je ns ms).take (i+1))++ie (n-(i+1)):=(by have hz:ie (n-i)=0::ie (n-(i+1)):=(by unfold ie;rw[show n-i=n-(i+1)+1 by omega,B7]);rw[hz,Ny _ _ _ _ _ htl,oa hxy];simp[Ua]);rw[e5] at hh;refine fa ?_;exact yx
 obtain rfl:i=n:=Z';rw[W_ Z',f_] at hh;replace hh:Hp w [.blk b5 78 [.slice (some ⟨b16,0,none⟩) i i,.slice none 0 0] (0,0),.row (some ⟨b16,0,none⟩) i i 3 1 (jb (Ua (je ns ms))),.blk b4 78 [.slice none 0 0,.slice none 0 0] (0,0),.blk b3 78 [.slice G i c3,.slice (some a4) (la ms) c4] (0,0),.blk b2 78 [.slice F i c1,.slice (some a5) (la ns) c2] (0,0)] w':=(by have:Ua (je ns ms)++ie 0=Ua (je ns ms):=o_ _;rw[this] at hh;exact hh);have hsz:=λw1 hS1=>WG (some ⟨b16,0,none⟩) i i (je ns ms) w1 hS1 Z' (λd hd=>by have:=hadd d hd;omega) Z';have hzr2:=XG (la (je ns ms));refine fa ?_;refine Oa hh (hsz _ (hh.ra (i:=1) rfl)) rfl ?_;intro w42 hh;refine Me (n:=(la (je ns ms))) hh rfl rfl Z' Z' lb.out ya.out rfl Z' Z' U' ?_;intro b43 w43 hh;refine Jb ?_;intro ws hh;rw[hzr2] at hh;clear hsz hzr2 hzr;have hpr0:ui (la (je ns ms)) []=ui (la (je ns ms)) (Yy ns.reverse ms.reverse xs ys 0):=rfl;rw[hpr0] at hh;unfold nK;have hk12:=hk;clear hk;refine Ba [7,8,9,10,11,12,48,49,50,51,52,53,54,55,56,57,58,59,60,61,62,63,64,65,66,67,68,69,70,71,72,73,74,75,76,77,78,79,80,81,82,83,84,85,86,87,88,89,90,91] 48 (λv w'=>∃k:Nat,k<=la ms/\v=.int .i64 k/\Hp w [.row (some ⟨b43,0,none⟩) (la (je ns ms)) (la (je ns ms)) 30 3 (na NR.cells ((ui (la (je ns ms)) (Yy ns.reverse ms.reverse xs ys k)).map nR)),.blk b5 78 [.slice (some ⟨b16,0,none⟩) i i,.slice (some ⟨b43,0,none⟩) (la (je ns ms)) (la (je ns ms))] (0,0),.row (some ⟨b16,0,none⟩) i i 3 1 (jb (Ua (je ns ms))),.blk b4 78 [.slice none 0 0,.slice none 0 0] (0,0),.blk b3 78 [.slice G i c3,.slice (some a4) (la ms) c4] (0,0),.blk b2 78 [.slice F i c1,.slice (some a5) (la ns) c2] (0,0)] w') (λv _=>la ms-(intOf v).toNat) ?_ ?_
 .exact⟨0,D' _,rfl,hh⟩
 clear hh hpr0;rintro ρ2 v w2 ⟨k,hk,rfl,hh⟩;by_cases hkm:k<la ms
 .obtain⟨yk,hyk⟩:=ea (l:=ys) (k:=k) Z';have hyn:(ys.map nR)[k]?=some (nR yk):=by rw[V_,hyk];rfl
  have zy:=hy yk (G' hyk);have hsg:=λw1=>Pc (nR yk) w1;rw[NR.sign,Za] at hsg;by_cases hy0:yk=0
  .subst hy0;rw[bo] at hsg;refine fa ?_;refine wb (vs:=[_,_,_]) ya.out rfl ((s4.ext hh.below).recAt NR.len hyn) rfl U' ?_;refine Sb ?_;intro b8 w8 hh ws hh;refine Oa hh (hsg _) rfl ?_;intro w54 hh;refine fa ?_;replace hh:=hh.sub (p' _ (I' _ (I' _ (I' _ (I' _ (I' _ (I' _ H_)))))));refine⟨⟨k+1,Z',rfl, ?_⟩,by show la ms-(k+1)<la ms-k;omega, ?_⟩
   .rw[My,tP λq hq=> ?_]
    .exact hh
    obtain⟨i,_,rfl⟩:=Z_.1 hq;show(xs[i]?).getD 0*(ys[k]?).getD 0=0;rw[hyk];show(xs[i]?).getD 0*0=0;grind
   exact Rc
  have hne:Vg yk 0≠0:=by
   obtain h|h|h:=ZU yk 0
   .rw[Ap h];decide
   .exact absurd h hy0
   rw[Jp h];decide
  generalize Vg yk 0=sg at*;refine fa ?_;refine wb (vs:=[_,_,_]) ya.out rfl ((s4.ext hh.below).recAt NR.len hyn) rfl U' ?_;refine Sb ?_;intro b8 w8 hh ws hh;refine Oa hh (hsg _) rfl ?_;intro w54 hh;refine fa ?_;refine qa (tx G i c3 ms k _ (hG.ext hh.below) Z' (λd hd=>by have:=hms d hd;omega) Z') ja.out rfl U' ?_;rintro e_ w59 ⟨A59,c59,rfl,hown_,hb_⟩;refine⟨_,rfl, ?_⟩;replace hh:=hh.Aa (x:=.row _ _ _ _ _ _) hb_ hown_;refine fa ?_;refine Ba [10,11,12,63,64,65,66,67,68,69,70,71,72,73,74,75,76,77,78,79,80,81,82,83,84,85,86,87,88,89,90] 63 (λv w'=>∃j:Nat,j<=la ns/\v=.int .i64 j/\Hp w [.row A59 i c59 3 1 (jb (Ua (Eb ms.reverse k).reverse)),.blk b8 30 [.bool (nR yk).neg,.string (nR yk).Qa,.int .i64 (nR yk).e] (0,0),.row (some ⟨b43,0,none⟩) (la (je ns ms)) (la (je ns ms)) 30 3 (na NR.cells ((ui (la (je ns ms)) (Yy ns.reverse ms.reverse xs ys k++(List.range j).map (λi=>(Jd (te ns.reverse ms.reverse) (te (Eb ns.reverse i) (Eb ms.reverse k)),(xs[i]?).getD 0*(ys[k]?).getD 0)))).map nR)),.blk b5 78 [.slice (some ⟨b16,0,none⟩) i i,.slice (some ⟨b43,0,none⟩) (la (je ns ms)) (la (je ns ms))] (0,0),.row (some ⟨b16,0,none⟩) i i 3 1 (jb (Ua (je ns ms))),.blk b4 78 [.slice none 0 0,.slice none 0 0] (0,0),.blk b3 78 [.slice G i c3,.slice (some a4) (la ms) c4] (0,0),.blk b2 78 [.slice F i c1,.slice (some a5) (la ns) c2] (0,0)] w') (λv _=>la ns-(intOf v).toNat) ?_ ?_
  .refine⟨0,D' _,rfl, ?_⟩;rw[List.range_zero,G9,o_];exact hh
  clear hh;rintro ρ3 v w3 ⟨j,hj,rfl,hh⟩;by_cases hjn:j<la ns
  .obtain⟨xj,hxj⟩:=ea (l:=xs) (k:=j) Z';have hxn:(xs.map nR)[j]?=some (nR xj):=by rw[V_,hxj];rfl
   have zx:=hx xj (G' hxj);have hpl:=λw1 h1 h2 h3=>aC F (some ⟨b16,0,none⟩) A59 i c1 i c59 ns (je ns ms) (Eb ms.reverse k).reverse j w1 h1 h2 h3 Z' (by rw[u6];exact ZD Z' _ _) Z' (λd hd=>by have:=hns d hd;omega) (λd hd=>by have:=hadd d hd;omega) Z';simp only[u6,<-cw (show ns.length=ms.length by omega)] at hpl;have hplt:Jd (te ns.reverse ms.reverse) (te (Eb ns.reverse j) (Eb ms.reverse k))<la (je ns ms):=(by have:=Vj (ZD (show ns.length=ms.length by omega) j k);rwa[Ud,<-cw (show ns.length=ms.length by omega)] at this);obtain⟨ju,hold⟩:=ea (l:=ui (la (je ns ms)) (Yy ns.reverse ms.reverse xs ys k++(List.range j).map (λi=>(Jd (te ns.reverse ms.reverse) (te (Eb ns.reverse i) (Eb ms.reverse k)),(xs[i]?).getD 0*(ys[k]?).getD 0)))) (by rw[mi];exact hplt);have hlen:(Yy ns.reverse ms.reverse xs ys k++(List.range j).map (λi=>(Jd (te ns.reverse ms.reverse) (te (Eb ns.reverse i) (Eb ms.reverse k)),(xs[i]?).getD 0*(ys[k]?).getD 0))).length<=1000000:=by
    rw[Y_,fL,i',u9,Ud];have:k*la ns+la ns<=la ms*la ns:=by rw[<-n9];exact N9 _ hkm
    omega
   have zold:Sz 1200000 ju:=by
    refine(PC (k:=k1+k2) (λq hq=> ?_) ju (G' hold)).mono Z';obtain hq|hq:=z_.1 hq
    .exact ZJ hx hy k q hq
    refine ZJ (ds:=ns.reverse) (es:=ms.reverse) hx hy (k+1) q ?_;rw[My];obtain⟨u,hu,rfl⟩:=Z_.1 hq;exact W8 _ (Z_.2 ⟨u,g_.2 (by have:=g_.1 hu;rw[Ud];omega),rfl⟩)
   have hon:((ui (la (je ns ms)) (Yy ns.reverse ms.reverse xs ys k++(List.range j).map (λi=>(Jd (te ns.reverse ms.reverse) (te (Eb ns.reverse i) (Eb ms.reverse k)),(xs[i]?).getD 0*(ys[k]?).getD 0)))).map nR)[Jd (te ns.reverse ms.reverse) (te (Eb ns.reverse j) (Eb ms.reverse k))]?=some (nR ju):=by rw[V_,hold];rfl
   have zxy:Sz 100000 (xj*yk):=(zx.mul zy).mono hk12;have hmul:=λA cc w1 hT1 hS1=>Ee A 2 cc [nR xj,nR yk] w1 hT1 hS1 (by simpa using⟨zx.ok Z',zy.ok Z'⟩) 100000 (by simpa[Za] using⟨zx.mono Z',zy.mono Z'⟩) Z' Z';rw[show Cf ([nR xj,nR yk].map NR.ma)=xj*yk by show 1*(nR xj).ma*(nR yk).ma=_;rw[Za,Za,W7]] at hmul;have hsum:=λA cc w1 hT1 hS1=>Kf A 2 cc [nR ju,nR (xj*yk)] w1 hT1 hS1 (by simpa using⟨zold.ok Z',zxy.ok Z'⟩) 1200000 (by simpa[Za] using⟨zold,zxy.mono Z'⟩) Z';rw[show rm ([nR ju,nR (xj*yk)].map NR.ma)=ju+xj*yk by simp only[q_,G9,Za,Rh]] at hsum;have hset:=nB (v:=xj*yk) hold;have hstep:Yy ns.reverse ms.reverse xs ys k++(List.range (j+1)).map (λi=>(Jd (te ns.reverse ms.reverse) (te (Eb ns.reverse i) (Eb ms.reverse k)),(xs[i]?).getD 0*(ys[k]?).getD 0))=Yy ns.reverse ms.reverse xs ys k++(List.range j).map (λi=>(Jd (te ns.reverse ms.reverse) (te (Eb ns.reverse i) (Eb ms.reverse k)),(xs[i]?).getD 0*(ys[k]?).getD 0))++[(Jd (te ns.reverse ms.reverse) (te (Eb ns.reverse j) (Eb ms.reverse k)),xj*yk)]:=(by rw[P8,n_,<-l_];simp only[q_,G9,hxj,hyk,l9]);have hfin:ui (la (je ns ms)) (Yy ns.reverse ms.reverse xs ys k++(List.range (j+1)).map (λi=>(Jd (te ns.reverse ms.reverse) (te (Eb ns.reverse i) (Eb ms.reverse k)),(xs[i]?).getD 0*(ys[k]?).getD 0)))=_:=(J_ _ hstep).trans hset.symm;clear hset hstep zold;have hll:((ui (la (je ns ms)) (Yy ns.reverse ms.reverse xs ys k++(List.range j).map (λi=>(Jd (te ns.reverse ms.reverse) (te (Eb ns.reverse i) (Eb ms.reverse k)),(xs[i]?).getD 0*(ys[k]?).getD 0)))).map nR).length=la (je ns ms):=by rw[i',mi]
   generalize Jd (te ns.reverse ms.reverse) (te (Eb ns.reverse j) (Eb ms.reverse k))=pl at*;generalize ui (la (je ns ms)) (Yy ns.reverse ms.reverse xs ys k++(List.range j).map (λi=>(Jd (te ns.reverse ms.reverse) (te (Eb ns.reverse i) (Eb ms.reverse k)),(xs[i]?).getD 0*(ys[k]?).getD 0)))=X at*;have hrl:=ve NR.len (X.map nR);refine fa ?_;refine wb (vs:=[_,_,_]) ya.out rfl ((s5.ext hh.below).recAt NR.len hxn) rfl U' ?_;refine Sb ?_;intro b11 w11 hh ws hh;refine Oa hh (hpl _ (hF.ext hh.below) (hh.ra (i:=5) rfl) (hh.ra (i:=1) rfl)) rfl ?_;intro w74 hh;refine fa ?_;refine Ca 14 [[(5,none)],[(75,some 0)],[(12,none)],[(5,none)],[(78,some 3)],[(12,none)],[(79,some 4),(80,some 5)],[(81,some 6)],[(11,none)],[(8,none)],[(83,some 8),(84,some 9)],[(85,some 10)],[(82,some 7),(86,some 11)],[(87,some 12)]] [(13,88),(12,87),(11,86),(10,85),(9,84),(8,83),(7,82),(6,81),(5,80),(4,79),(3,78),(2,77),(1,76),(0,75)] hh mixed T' ?_;refine yd ?_;refine xe 4 ?_;refine cd ?_;refine yd ?_;refine xe 4 ?_;refine cd ?_;refine Kt (pl) ?_
   refine Dn [_,_,_] (λ_ hj=>hj.hp.Gd (f:=NR.cells) (x:=nR ju) (l:=X.map nR) (i:=3) rfl NR.len U' hon) ?_;refine Vd 0 [_,_,_] ?_;refine Vd 2 [_,_,_] ?_;refine qq [_,_,_,_,_,_] ?_;refine Va (i:=11) (Is (.agg #[.bool (nR (xj*yk)).neg,.string (nR (xj*yk)).Qa,.int .i64 (nR (xj*yk)).e])) Is.ext ?_ ?_
   .intro ρ1 w1 hj hR;obtain⟨A85,c85,h85,s85⟩:=hR.1;exact Pb rfl (qb ja.out (Ga h85 Fb)) (hmul A85 c85 _ (hT.hp hj.hp) s85) (λ_ _ hq=>⟨_,hq.1,hq.2,rfl⟩)
   refine qq [_,_,_,_,_,_] ?_;refine Va (i:=13) (Is (.agg #[.bool (nR (ju+xj*yk)).neg,.string (nR (ju+xj*yk)).Qa,.int .i64 (nR (ju+xj*yk)).e])) Is.ext ?_ ?_
   .intro ρ1 w1 hj hR;obtain⟨A87,c87,h87,s87⟩:=hR.1;exact Pb rfl (qb ja.out (Ga h87 Fb)) (hsum A87 c87 _ (hT.hp hj.hp) s87) (λ_ _ hq=>⟨_,hq.1,hq.2,rfl⟩)
   refine xa ?_;intro f W hJ hV;have hb_17:=hJ.bl;obtain⟨v88,v87,v86,v85,v84,v83,v82,v81,v80,v79,v78,v77,v76,v75,_⟩:=hV;obtain⟨A85,c85,e85,f85⟩:Rows _ _ _ (f 10) W:=v85;obtain⟨A87,c87,e87,f87⟩:Rows _ _ _ (f 12) W:=v87;replace hh:=hJ.hp;refine Da (Na (aa v88 (aa e87 (aa v86 (aa e85 (aa v84 (aa v83 (aa v82 (aa v81 (aa v80 (aa v79 (aa v78 (aa v77 (aa v76 (aa v75 Ea))))))))))))))) ?_;dsimp only[Bb];clear e85 e87 hJ;refine fa ?_;refine QS ?_;intro ws hh;simp only[U_,F_] at hh;rw[show Hb (na NR.cells (X.map nR)) (pl*3) [.bool (nR (ju+xj*yk)).neg,.string (nR (ju+xj*yk)).Qa,.int .i64 (nR (ju+xj*yk)).e]=na NR.cells ((X.map nR).set pl (nR (ju+xj*yk))) from de NR.len Z',<-Z8] at hh;refine fa ?_;replace hh:=hh.sub (p' _ (I' _ (I' _ (I' _ (I' _ (I' _ (I' _ (I' _ (I' _ H_)))))))));refine⟨⟨j+1,Z',rfl,by rw[hfin];exact hh⟩,by show la ns-(j+1)<la ns-j;omega, ?_⟩;exact Rc
  obtain rfl:j=la ns:=Z';rw[show Yy ns.reverse ms.reverse xs ys k++(List.range (la ns)).map (λi=>(Jd (te ns.reverse ms.reverse) (te (Eb ns.reverse i) (Eb ms.reverse k)),(xs[i]?).getD 0*(ys[k]?).getD 0))=Yy ns.reverse ms.reverse xs ys (k+1) by rw[My,Ud]] at hh;refine fa ?_;replace hh:=hh.sub (p' _ (p' _ (I' _ (I' _ (I' _ (I' _ (I' _ (I' _ H_))))))));refine⟨⟨k+1,Z',rfl,hh⟩,by show la ms-(k+1)<la ms-k;omega, ?_⟩;exact Rc
 obtain rfl:k=la ms:=Z';refine Jb ?_;intro ws hh;replace hh:=hh.sub (I' _ (p' _ (I' _ (I' _ (p' _ (p' _ H_))))));refine dQ ?_;exact⟨_,_,_,_,rfl,hh.sub (I' _ (I' _ (R9 _)))⟩
structure FX where
 A:Option Addr
 n:Nat
 a:Nat
 B:Option Addr
 m:Nat
 b:Nat
 ds:List Int
 cs:List NR
def FX.cells(f:FX):List Value:=[.slice f.A f.n f.a,.slice f.B f.m f.b]
def FX.len(f:FX):(FX.cells f).length=2:=rfl
def FX.v(f:FX):Value:=.agg #[.slice f.A f.n f.a,.slice f.B f.m f.b]
variable {w:World}
structure FX.at_(f:FX)(w:World):Prop where
 dg:Sl w f.A f.n 1 (jb f.ds)
 nm:Sl w f.B f.m 3 (na NR.cells f.cs)
variable {w':World}
def FX.at_.ext{f:FX}(h:f.at_ w)(hb:Below w.heap.size w w'):f.at_ w':=⟨h.dg.ext hb,h.nm.ext hb⟩
structure FX.Zg(f:FX)(k:Nat):Prop where
 n20:f.n<=1000
 m60:f.m<=100000
 num:∀c∈f.cs,c.ok/\Sz k c.ma
def FX.e(f:FX):Int:=fE f.ds f.cs
def vm(f:FX)(k:Nat)(w:World)(hT:Sc w)(h:f.at_ w)(hl:f.Zg k):Calls prog 96 #[.agg #[.slice f.A f.n f.a,.slice f.B f.m f.b]] w λr w'=>r=.returned (.int .i64 f.e)/\Below w.heap.size w w':=
 uz f.A f.B f.n f.a f.m f.b f.ds f.cs w hT h.dg h.nm (by have:=hl.n20;omega) (by have:=hl.m60;omega) λa ha=>(hl.num a ha).1
def dO(fs:List FX):Bool:=fs.any λf=>decide (f.n≠(fs.map FX.n).headD 0)
def Mh(fs:List FX):Int:=match fs.find? (λf=>decide (f.e≠0)) with|some f=>f.e|none=>if fs.length=0\/dO fs=true then 1 else 0
def lJ(L:Option Addr)(n c:Nat)(fs:List FX)(f:FX)(p:Addr)(w:World)(hL:Sl w L n 2 (na FX.cells fs))(hp:w.cell? p=some (.slice L n c))(hn:0<n):Calls prog 272 #[.agg #[.slice f.A f.n f.a,.slice f.B f.m f.b],.pointer (some p)] w λr w'=>r=.returned (.bool (decide (f.n≠(fs.map FX.n).headD 0)))/\Below w.heap.size w w':=by
 have hh:=Hp.start w;have hln:=hL.Fa FX.len U';obtain⟨g,fs,rfl⟩:∃g l,fs=g::l:=by
  cases fs with
  |nil=>exact absurd hln (by show ¬0=n;omega)
  |cons g l=>exact⟨g,l,rfl⟩
 obtain⟨ad,rfl,hr⟩:=hL.at_ hn;have hd:(((g::fs).map FX.n).headD 0)=g.n:=rfl;rw[hd];have h0:(g::fs)[0]?=some g:=rfl;by_cases hg:f.n=g.n
 .refine da (N:=13) (l:=[.agg #[.slice f.A f.n f.a,.slice f.B f.m f.b],.pointer (some p)]) func272 rfl rfl (by simp) ?_;refine Jb ?_;intro b2 w2 hh;refine TZ ?_;refine yd ?_;refine xe 0 ?_;refine Vp ?_;refine oF ?_;refine Wa (i:=4) (λρ1 w1 hj hR=>Se lb.out ya.size (show ρ1 7=Value.slice _ _ _ from hR.1) rfl Z' Z') ?_;refine ru ?_;refine Ro (λ_ hj=>ic hj.hp.below (((hr.recAt FX.len h0)) 0 _ rfl)) ?_;refine Vp ?_;refine xa ?_;intro f W hJ hV;have hb_1:=hJ.bl;obtain⟨v11,v10,v9,v8,v7,v6,v5,v4,_⟩:=hV;replace hh:=hJ.hp;refine Da (Na (aa v11 (aa v10 (aa v9 (aa v8 (aa v7 (aa v6 (aa v5 (aa v4 Ea))))))))) ?_;dsimp only[Bb];clear hJ;exact aY
 refine da (N:=13) (l:=[.agg #[.slice f.A f.n f.a,.slice f.B f.m f.b],.pointer (some p)]) func272 rfl rfl (by simp) ?_;refine Jb ?_;intro b2 w2 hh;refine TZ ?_;refine yd ?_;refine xe 0 ?_;refine Vp ?_;refine oF ?_;refine Wa (i:=4) (λρ1 w1 hj hR=>Se lb.out ya.size (show ρ1 7=Value.slice _ _ _ from hR.1) rfl Z' Z') ?_;refine ru ?_;refine Ro (λ_ hj=>ic hj.hp.below (((hr.recAt FX.len h0)) 0 _ rfl)) ?_;refine Vp ?_;refine xa ?_;intro f W hJ hV;have hb_1:=hJ.bl;obtain⟨v11,v10,v9,v8,v7,v6,v5,v4,_⟩:=hV;replace hh:=hJ.hp;refine Da (Na (aa v11 (aa v10 (aa v9 (aa v8 (aa v7 (aa v6 (aa v5 (aa v4 Ea))))))))) ?_;dsimp only[Bb];clear hJ;exact PV
def fJ(A:Option Addr)(n c:Nat)(l:List FX)(g:FuncId)(cap:List Value)(p:FX->Bool)(w:World)(hS:Sl w A n 2 (na FX.cells l))(hn:n<=1000000)[ja prog g] (hg:∀(z:FX)(w1:World),z∈l->Below w.heap.size w w1->Calls prog g (.agg #[.slice z.A z.n z.a,.slice z.B z.m z.b]::cap).toArray w1 λr w'=>r=.returned (.bool (p z))/\Below w1.heap.size w1 w'):Calls prog 212 #[.slice A n c,.func (.func g) #[] cap.toArray] w λr w'=>∃v,r=.returned (.int .i64 v)/\(0<=v↔l.any p=true)/\Below w.heap.size w w':=by
 have hh:=Hp.start w;have hln:=hS.Fa FX.len U';refine da (N:=19) (l:=[.slice A n c,.func (.func g) #[] cap.toArray]) func212 rfl rfl (by simp) ?_;refine fa ?_;refine Ba [4,5,8,9,10,11,12,13,14,15,16,17,18] 8 (λv w'=>∃i:Nat,i<=n/\v=.int .i64 i/\(l.take i).any p=false/\Hp w [] w') (λv _=>n-(intOf v).toNat) ?_ ?_
 .exact⟨0,D' _,rfl,rfl,hh⟩
 clear hh;rintro ρ' v w' ⟨i,hi,rfl,hall,hh⟩;by_cases hlt:i<n
 .obtain⟨z,hz⟩:=ea (l:=l) (k:=i) Z';obtain⟨ad,rfl,hr⟩:=hS.at_ Z';have hc:=λw1=>hg z w1 (G' hz)
  cases gz:p z with
  |true=>
   rw[gz] at hc;refine fa ?_;refine wb (vs:=[_,_]) ya.out rfl ((hr.ext hh.below).recAt FX.len hz) rfl U' ?_;exact OV
  |false=>
   rw[gz] at hc;refine fa ?_;refine wb (vs:=[_,_]) ya.out rfl ((hr.ext hh.below).recAt FX.len hz) rfl U' ?_;exact Dw
 exact vQ
def Px(A:Option Addr)(n c:Nat)(l:List FX)(g:FuncId)(cap:List Value)(p:FX->Bool)(w:World)(hS:Sl w A n 2 (na FX.cells l))(hn:n<=1000000)[ja prog g] (hg:∀(z:FX)(w1:World),z∈l->Below w.heap.size w w1->Calls prog g (.agg #[.slice z.A z.n z.a,.slice z.B z.m z.b]::cap).toArray w1 λr w'=>r=.returned (.bool (p z))/\Below w1.heap.size w1 w'):Calls prog 137 #[.slice A n c,.func (.func g) #[] cap.toArray] w λr w'=>r=.returned (.bool (l.any p))/\Below w.heap.size w w':=by
 have hh:=Hp.start w;refine da (N:=9) (l:=[.slice A n c,.func (.func g) #[] cap.toArray]) func137 rfl rfl (by simp) ?_;refine fa ?_;refine qa (fJ A n c l g cap p _ (hS.ext hh.below) hn hg) ja.out rfl U' ?_;exact CR
def qH(L:Option Addr)(n c:Nat)(fs:List FX)(k:Nat)(w:World)(hT:Sc w)(hL:Sl w L n 2 (na FX.cells fs))(hn:n<=1000000)(hf:∀f∈fs,f.at_ w)(hl:∀f∈fs,f.Zg k):Calls prog 225 #[.slice L n c] w λr w'=>r=.returned (.int .i64 (Mh fs))/\Below w.heap.size w w':=by
 have hh:=Hp.start w;have hln:=hL.Fa FX.len U';refine da (N:=26) (l:=[.slice L n c]) func225 rfl rfl (by simp) ?_;refine Jb ?_;intro b1 w1 hh;refine Ba [2,4,5,8,9,10,11,12,13,14,15,16,17] 8 (λv w'=>∃i:Nat,i<=n/\v=.int .i64 i/\(fs.take i).any (λf=>decide (f.e≠0))=false/\Hp w [.blk b1 95 [.slice L n c] (0,0)] w') (λv _=>n-(intOf v).toNat) ?_ ?_
 .exact⟨0,D' _,rfl,rfl,hh⟩
 clear hh;rintro ρ' v w' ⟨i,hi,rfl,hall,hh⟩;by_cases hlt:i<n
 .obtain⟨f,hx⟩:=ea (l:=fs) (k:=i) Z';have hmem:=G' hx;have hc:=λw1 hT1 hb=>vm f k w1 hT1 ((hf f hmem).ext hb) (hl f hmem);obtain⟨ad,rfl,hr⟩:=hL.at_ Z';by_cases he:f.e=0
  .refine fa ?_;refine Wv ?_;exact aaD
  refine fa ?_;refine Wv ?_;refine Sb ?_;intro b4 w4 hh ws hh;refine vx ?_;intro w13 hh;refine fa ?_;refine⟨?_,hh.below⟩;unfold Mh;rw[Et hall hx (M_ he)]
 rw[W_ Z'] at hall;have hlk:Mh fs=if fs.length=0\/dO fs=true then 1 else 0:=by unfold Mh;rw[Gh hall]
 rw[hlk];by_cases h0:n=0
 .refine fa ?_;exact⟨by rw[J' (.inl Z')],hh.below⟩
 have hcell:w'.cell? ⟨b1,0,none⟩=some (.slice L n c):=hh.eg (i:=0) rfl rfl;have ho:=λw1 hb=>Px L n c fs 272 [.pointer (some ⟨b1,0,none⟩)] (λf=>decide (f.n≠(fs.map FX.n).headD 0)) w1 (hL.ext (hh.below.trans (hb.mono hh.below.size))) hn (λz w2 hz hb2=>lJ L n c fs z ⟨b1,0,none⟩ w2 ((hL.ext (hh.below.trans (hb.mono hh.below.size))).ext hb2) (ic hb2 (ic hb hcell)) Z')
 cases hod:dO fs with
 |true=>
  have hod2:fs.any (λf=>decide (f.n≠(fs.map FX.n).headD 0))=true:=hod;exact aeF
 |false=>
  have hod2:fs.any (λf=>decide (f.n≠(fs.map FX.n).headD 0))=false:=hod;exact aeE
open Go.ChangeShapes Go.WideShapes Go.ChangeAt Go.RowKit Go.ChangeMaps
variable {P:Program}{W:World}{b0 base:Nat}
set_option maxRecDepth 10000 in
def jO{H:Type}{enc:TypeId×Value->H}{t e:TypeId}{r:Reach}{sp:Nat->Bool}{held:Bool}{v:Value}{d:DataW H}{ps:List MemPlace}{k:IntKind}(ht:P.underlying t=some (.slice e))(he:P.underlying e=some (.int k))(hc:P.cellsOf e=1) (hval:Value.okWide P W r b0 t v)(hd:DataW.Trod enc P W base sp held t v d ps):∃(A:Option Addr)(n c:Nat)(xs:List Int),v=.slice A n c/\Sl W A n 1 (xs.map (Value.int k))/\n<=maxLen/\∀x∈xs,(Lit.int k x).wf=true:=by
 obtain⟨a,len,cap,rfl⟩:=okWide_slice ht hval;obtain⟨fuel,hf⟩:=hd;obtain⟨h1,_⟩|⟨ad,n,cp,zs,h1,_,h2,h3,h4,_,h5,h6⟩:=open_ints ht he hc hf
 .simp only[Value.cells,V5,Value.slice.injEq,and_true] at h1;obtain⟨rfl,rfl,rfl⟩:=h1;exact⟨none,0,0,[],rfl,Sl.nil W none 1,by simp,λ_ h=>by simp at h⟩
 simp only[Value.cells,V5,Value.slice.injEq,and_true] at h1;obtain⟨rfl,rfl,rfl⟩:=h1;have hzl:len<=zs.length:=by rw[h4];split<;>omega
 refine⟨some ad,len,cap,zs.take len,rfl,⟨by rw[i',R_];omega,λ_=>⟨ad,rfl,λj u hu=> ?_⟩⟩,Z',λx hx=>h6 x (N8 hx)⟩;simp only[V_,T8] at hu;obtain⟨x,hx,rfl⟩:=hu;rw[Z7] at hx;split at hx
 .obtain⟨h7,h8⟩:=X_.1 hx;have:=h5 j h7;rw[K9,hx] at this;exact this
 cases hx
def nV{H:Type}{enc:TypeId×Value->H}{t e:TypeId}{r:Reach}{sp:Nat->Bool}{held:Bool}{v:Value}{d:DataW H}{ps:List MemPlace}(ht:P.underlying t=some (.slice e))(he:P.underlying e=some (.int .u8))(hc:P.cellsOf e=1) (hval:Value.okWide P W r b0 t v)(hd:DataW.Trod enc P W base sp held t v d ps):∃A n c bs,v=.slice A n c/\Sl W A n 1 (ij bs)/\n<=maxLen:=by
 obtain⟨A,n,c,xs,h1,h2,h3,h4⟩:=jO ht he hc hval hd;refine⟨A,n,c,xs.map XB,h1, ?_,h3⟩;have:ij (xs.map XB)=xs.map (Value.int .u8):=by
  rw[ij,Z9];apply y8;intro x hx;have h5:=h4 x hx;have h6:0<=x/\x<=255:=by
   simp only[Lit.wf,Q_,K_] at h5;have e1:IntKind.u8.min=0:=by decide
   have e2:IntKind.u8.max=255:=by decide
   omega
  simp only[Function.comp,XB,j6];congr 1;omega
 rw[this];exact h2
set_option maxRecDepth 100000 in
def NI{H:Type}{enc:TypeId×Value->H}{r:Reach}{sp:Nat->Bool}{held:Bool}{v:Value}{d:DataW H}{ps:List MemPlace} (hval:Value.okWide prog W r b0 48 v)(hd:DataW.Trod enc prog W base sp held 48 v d ps):∃(A:Option Addr)(n c:Nat)(l:List Nat),v=.slice A n c/\Sl W A n 1 (Kg l)/\∀c∈l,c<256:=by
 obtain⟨A,n,c,bs,h1,h2,_⟩:=nV Tryz.underlying48 Tryz.underlying5 T' hval hd;refine⟨A,n,c,bs.map UInt8.toNat,h1, ?_,λc hc=> ?_⟩
 .rw[show Kg (bs.map UInt8.toNat)=ij bs by unfold Kg ij;rw[Z9];rfl];exact h2
 obtain⟨b,_,rfl⟩:=Z_.1 hc;exact b.toNat_lt
variable {K Y:Nat}
def aeQ{P v T:Nat}(hv:0<v)(hK:0<K)(hT:P/K=T)(hY:v*K<=Y):P/Y<=T/v:=by
 rw[<-hT,V8,G_ K v];exact Nat.div_le_div_left hY (H7 hv hK)
variable {q:Nat}
def lU{P:Nat}(hY:0<Y)(h:P/Y<=q)(hq:q*Y<=P):q=P/Y:=Nat.le_antisymm ((Nat.le_div_iff_mul_le hY).2 hq) h
def MZ{P:Nat}(hY:0<Y)(hq:P<q*Y):P/Y<=q-1:=by
 have:=(D9 hY).2 hq;omega
variable {rh y0 y1:Nat}
structure Qv(u c y1 y0 q rh:Nat):Prop where
 e:q*y1+rh=u
 le:(4294967296*u+c)/(4294967296*y1+y0)<=q
 sm:q<=4294967297
def vw{u c:Nat}(h1:2147483648<=y1)(h0:y0<4294967296)(hc:c<4294967296)(hu:u<4294967296*y1+y0):Qv u c y1 y0 (u/y1) (u % y1):=by
 have hd:=E9 u y1;refine⟨by rw[G_];exact hd, ?_, ?_⟩
 .refine aeQ (K:=4294967296) Z' U' (T:=u) ?_ Z';omega
 have:u/y1<4294967298:=(by rw[D9 Z'];omega);omega
def QO{u c:Nat}(h1:2147483648<=y1)(hu:u<4294967296*y1+y0)(hc:c<4294967296)(h:Qv u c y1 y0 q rh)(hb:4294967296<=q\/4294967296*rh+c<q*y0):1<=q/\Qv u c y1 y0 (q-1) (rh+y1):=by
 obtain⟨e,hle,hsm⟩:=h;have hq:1<=q:=by
  obtain hb|hb:=hb
  .omega
  obtain h0|h0:=x8 q
  .rw[h0,X6] at hb;omega
  exact h0
 obtain⟨p,rfl⟩:∃p,q=p+1:=⟨q-1,Z'⟩;rw[n9] at e;refine⟨hq,⟨by rw[Nat.add_sub_cancel];omega, ?_,Z'⟩⟩;have hY:0<4294967296*y1+y0:=Z';obtain hb|hb:=hb
 .have:(4294967296*u+c)/(4294967296*y1+y0)<4294967296:=(by rw[D9 hY];omega);omega
 refine MZ hY ?_;have e2:(p+1)*(4294967296*y1+y0)=4294967296*((p+1)*y1)+(p+1)*y0:=by rw[X9,G6]
 rw[e2,n9 p y1];omega
def OA{u c:Nat}(h1:2147483648<=y1)(h0:y0<4294967296)(h:Qv u c y1 y0 q rh)(hb:q*y0<=4294967296*rh+c):q=(4294967296*u+c)/(4294967296*y1+y0):=by
 obtain⟨e,hle,hsm⟩:=h;refine lU Z' hle ?_;have e2:q*(4294967296*y1+y0)=4294967296*(q*y1)+q*y0:=by rw[X9,G6]
 rw[e2];omega
def BJ{u c:Nat}(h1:2147483648<=y1)(h0:y0<4294967296)(h:Qv u c y1 y0 q rh)(hq:q<=4294967296)(hb:4294967296<=rh):q=(4294967296*u+c)/(4294967296*y1+y0):=by
 refine OA h1 h0 h ?_;have h2:q*y0<=4294967295*q:=by rw[G_ 4294967295];exact k_ q Z'
 omega
variable {m:Nat}
def eE{a c r:Nat}(h:a+c=m+r)(hr:r<18446744073709551616):((a % 18446744073709551616+c) % 18446744073709551616+18446744073709551616-m % 18446744073709551616) % 18446744073709551616=r:=by omega
def oI{hi c1 c0 y:Nat}(hy:0<y)(h1:c1<4294967296)(h0:c0<4294967296):4294967296*((4294967296*hi+c1)/y)+(4294967296*((4294967296*hi+c1) % y)+c0)/y=(18446744073709551616*hi+(4294967296*c1+c0))/y/\(4294967296*((4294967296*hi+c1) % y)+c0) % y=(18446744073709551616*hi+(4294967296*c1+c0)) % y:=by
 have hd:=E9 (4294967296*hi+c1) y;generalize (4294967296*hi+c1)/y=q at*;generalize (4294967296*hi+c1) % y=r at*;have e:18446744073709551616*hi+(4294967296*c1+c0)=y*(4294967296*q)+(4294967296*r+c0):=(by rw[G6];omega);rw[e,Nat.mul_add_div hy,Nat.mul_add_mod];exact⟨rfl,rfl⟩
variable {x0 x1:Nat}
def XI{xs:List Nat}{a:Nat}(h1:xs[a+m]?=some x0)(h2:xs[a+(m+1)]?=some x1):(xs.drop a).take (m+2)=(xs.drop a).take m++[x0,x1]:=by
 have e1:(xs.drop a)[m]?=some x0:=by rw[H8];exact h1
 have e2:(xs.drop a)[m+1]?=some x1:=by rw[H8];exact h2
 rw[oa e2,oa e1,l_];rfl
variable {B:Nat}
def mR{xs:List Nat}{a:Nat}(hx:Dg B xs)(hB:0<B)(h1:xs[a+m]?=some x0)(h2:xs[a+(m+1)]?=some x1):Ka B ((xs.drop a).take (m+2))/B^m=B*x1+x0:=by
 have hl:=(X_.1 h2).1;have hlen:((xs.drop a).take m).length=m:=by rw[R_,M9];omega
 have hlt:=Jf ((hx.drop a).take m);rw[hlen] at hlt;rw[XI h1 h2,Hc,hlen,Q8 _ _ (r_ hB),L9 hlt];show 0+(x0+B*(x1+B*0))=_;rw[N7,q9,C_,o8]
variable {ys:List Nat}
def gI{v:Nat}(h:ys[m]?=some v)(hl:ys.length=m+1):v*B^m<=Ka B ys:=by
 have e:ys=ys.take m++[v]:=by rw[<-oa h,W_ Z']
 rw[e,Hc,R_,C9 Z'];show v*B^m<=_+B^m*(v+B*0);rw[N7,q9,G_];exact Nat.le_add_left _ _
def YI(B x1 x0 v:Nat):Nat:=if x1<v then(B*x1+x0)/v else B-1
variable {n:Nat}
def ab1{xs:List Nat}{a v:Nat}(hx:Dg B xs)(hB:1<B)(h1:xs[a+m]?=some x0)(h2:xs[a+(m+1)]?=some x1)(hv:ys[m]?=some v)(hl:ys.length=m+1)(hv0:0<v)(hP:Ka B ((xs.drop a).take (m+2))/Ka B ys<B):Ka B ((xs.drop a).take (m+2))/Ka B ys<=YI B x1 x0 v/\YI B x1 x0 v<B:=by
 have h0:=hx.at_ h1;unfold YI;by_cases hlt:x1<v
 .rw[J' hlt];refine⟨aeQ hv0 (r_ (n:=m) Z') (mR hx Z' h1 h2) (gI hv hl), ?_⟩;rw[D9 hv0];have:B*(x1+1)<=B*v:=k_ B hlt;rw[O8] at this;omega
 rw[L' hlt];omega
def RQ{xs:List Nat}{a r:Nat}(ha:a+n<=xs.length)(hr:r<B^n):Ka B (xs.take a++Ib B n r++xs.drop (a+n))+B^a*Ka B ((xs.drop a).take n)=Ka B xs+B^a*r:=by
 have h1:xs=xs.take a++(xs.drop a).take n++xs.drop (a+n):=(by rw[l_,<-u7,P9,P9]);have hla:(xs.take a).length=a:=by rw[R_];omega
 have hln:((xs.drop a).take n).length=n:=by rw[R_,M9];omega
 have hlk:(Ib B n r).length=n:=Ja _ _;have e1:Ka B xs=Ka B (xs.take a)+B^a*(Ka B ((xs.drop a).take n)+B^n*Ka B (xs.drop (a+n))):=by
  conv=>lhs;rw[h1]
  rw[l_,Hc,Hc,hla,hln]
 rw[e1,l_,Hc,Hc,hla,hlk,Fc hr];simp only[X9];omega
variable {next:Rf->World->Prop}{ro:Mode}{Q:Kq}{ρ:Rf}
def Rv{c:Code}{id:Nat}(mods:List Nat)(s0:Nat)(J:Value->World->Prop)(hc:WC ro P N c (Zp id (re (λρ2 w2=>J (ρ2 s0) w2/\Jg mods ρ2 ρ) Q)) ρ w) (hn:∀ρ' v0 w',J v0 w'->next (sc (mask mods ρ' ρ) s0 v0) w'):WC ro P N c (Zp id (re next Q)) ρ w:=
 hc.mono λe ρ2 w2 hq=>by
  have key:J (ρ2 s0) w2/\Jg mods ρ2 ρ->next ρ2 w2:=λh=>(by have:=hn ρ2 (ρ2 s0) w2 h.1;rwa[Ug h.2,Le] at this)
  cases e with
  |normal=>exact key hq
  |exit i=>
   by_cases h:i=id
   .subst h;simp only[Zp,re,if_true] at hq |-;exact key hq
   simp only[Zp,re,L' h] at hq |-;exact hq
  |_=>exact hq
def Qs{a c:Code}(mods:List Nat)(J:World->Prop)(hc:WC ro P N a (re (λρ2 w2=>J w2/\Jg mods ρ2 ρ) Q) ρ w)(hn:∀ρ' w',J w'->WC ro P N c Q (mask mods ρ' ρ) w'):WC ro P N (.seq a c) Q ρ w:=
 mb (hc.mono λe ρ2 w2 hq=>by
  cases e with
  |normal=>
   have:=hn ρ2 w2 hq.1;rwa[Ug hq.2] at this
  |_=>exact hq)
def dE(hi lo y:Nat)(w:World)(hy:9223372036854775808<=y)(hy2:y<18446744073709551616)(hh1:hi<y)(hl:lo<18446744073709551616):Calls prog 320 #[.int .u64 hi,.int .u64 lo,.int .u64 y] w λr w'=>r=.returned (.tuple #[.int .u64 ((18446744073709551616*hi+lo)/y:Nat),.int .u64 ((18446744073709551616*hi+lo) % y:Nat)])/\Below w.heap.size w w':=by
 have hh:=Hp.start w;by_cases h0:hi=0
 .subst h0;rw[N7,C_];refine da (N:=135) (l:=[.int .u64 ((0:Nat):Int),.int .u64 lo,.int .u64 y]) func320 rfl rfl (by simp) ?_;refine fa ?_;refine Ca 7 [[(1,none)],[(2,none)],[(28,some 0),(29,some 1)],[(1,none)],[(2,none)],[(31,some 3),(32,some 4)],[(30,some 2)]] [(6,6),(5,33),(4,32),(3,31),(2,30),(1,29),(0,28)] hh mixed T' ?_;refine cd ?_;refine cd ?_;refine Wa (i:=2) (λρ1 w1 hj hR=>cW (show ρ1 28=Value.int _ _ from hR.1) (show ρ1 29=Value.int _ _ from hR.2.1) Z' (by first|assumption|omega)) ?_;refine cd ?_;refine cd ?_;refine Wa (i:=5) (λρ1 w1 hj hR=>aV (show ρ1 31=Value.int _ _ from hR.1) (show ρ1 32=Value.int _ _ from hR.2.1) Z') ?_;refine daI ?_;refine xa ?_;intro f W hJ hV;have hb_6:=hJ.bl;obtain⟨v6,v33,v32,v31,v30,v29,v28,_⟩:=hV;replace hh:=hJ.hp;refine Da (Na (aa v6 (aa v33 (aa v32 (aa v31 (aa v30 (aa v29 (aa v28 Ea)))))))) ?_;exact sS
 have hb:(64:Int)-(Sa y:Int)=((0:Nat):Int):=(by have:=oC (n:=y) (k:=64) hy2 hy;omega);have hlz:=λw1=>nq y w1 hy2;rw[hb] at hlz;refine da (N:=135) (l:=[.int .u64 hi,.int .u64 lo,.int .u64 y]) func320 rfl rfl (by simp) ?_;refine fa ?_;refine Oa hh (hlz _) rfl ?_;intro w35 hh;have em:∀z:Nat,z &&& 4294967295=z % 4294967296:=λz=>Nat.and_two_pow_sub_one_eq_mod z 32;have s0:∀z:Nat,z<18446744073709551616->z*2^((0:Nat):Int).toNat % 18446744073709551616=z:=λz hz=>(by show z*1 % _=z;rw[I_];exact h_ hz);have z64:lo/2^(((64+18446744073709551616-0) % 18446744073709551616:Nat):Int).toNat=0:=L9 hl;have z65:lo/2^(((64+18446744073709551616-0) % 18446744073709551616:Nat):Int).toNat<18446744073709551616:=by rw[z64];decide
 obtain⟨y1,hy1⟩:∃y1,y/4294967296=y1:=⟨_,rfl⟩;obtain⟨y0,hy0⟩:∃y0,y % 4294967296=y0:=⟨_,rfl⟩;obtain⟨c1,hc1⟩:∃c1,lo/4294967296=c1:=⟨_,rfl⟩;obtain⟨c0,hc0⟩:∃c0,lo % 4294967296=c0:=⟨_,rfl⟩;have hyy:y=4294967296*y1+y0:=Z';have hll:lo=4294967296*c1+c0:=Z';have b1:2147483648<=y1:=Z';have b0:y0<4294967296:=Z';have d1:c1<4294967296:=Z';have d0:c0<4294967296:=Z';refine Sk ?_;refine fa ?_;refine rJ rfl rfl Z' U' ?_;refine fa ?_;rw[s0 y hy2];refine fa ?_;refine lu ?_;refine fa ?_;refine mH ?_;refine fa ?_;refine rJ rfl rfl Z' U' ?_;refine fa ?_;refine Up (a:=64) rfl rfl Z' U' ?_;refine nw rfl rfl Z' U' ?_;refine GF ?_;refine fa ?_;refine rJ rfl rfl Z' U' ?_;refine fa ?_;rw[s0 hi Z',s0 lo hl,z64,Nat.or_zero,em y,hy1,hy0];refine fa ?_;refine lu ?_;refine fa ?_;refine mH ?_;refine fa ?_;rw[em lo,hc1,hc0];clear em s0 z64 z65 hb hlz;have hst:=vw (u:=hi) b1 b0 d1 Z';refine fa ?_;refine XH rfl rfl Z' (by first|assumption|omega) U' ?_;refine fa ?_;refine Df rfl rfl U' ?_;refine kA ?_;refine fa ?_
 have hrh:(hi+18446744073709551616-hi/y1*y1 % 18446744073709551616) % 18446744073709551616=hi % y1:=(by have h1:=E9 hi y1;rw[G_] at h1;omega);rw[hrh];clear hrh;refine Rv zL2 15 (λv w'=>v=.int .u64 ((4294967296*hi+c1)/y:Nat)/\Hp w [] w') ?_ ?_
 .refine Ra zL2 15 16 (λa b w'=>∃q rh:Nat,a=.int .u64 q/\b=.int .u64 rh/\Qv hi c1 y1 y0 q rh/\rh<4294967296/\Hp w [] w') (λa _ _=>(intOf a).toNat) ?_ ?_
  .exact⟨_,_,rfl,rfl,hst,by have:=B_ hi (show 0<y1 by omega);omega,hh⟩
  clear hh hst;rintro ρ' a_ b_ w' ⟨q,rh,rfl,rfl,hI,hr,hh⟩;have hsm:=hI.sm;have hqy:q<4294967296->q*y0<18446744073709551616:=λh=>(by have h2:q*y0<=q*4294967295:=k_ q Z';omega);by_cases hb:4294967296<=q\/4294967296*rh+c1<q*y0
  .exact SZ
  exact aaz
 skip;clear hh hst;rintro ρ' v w' ⟨rfl,hh⟩;obtain⟨t1,t2⟩:=oI (hi:=hi) (by omega:0<y) d1 d0;have hdm:=E9 (4294967296*hi+c1) y;have hr1:=B_ (4294967296*hi+c1) (by omega:0<y);have hqs:(4294967296*hi+c1)/y<4294967296:=(by rw[D9 Z'];omega);generalize (4294967296*hi+c1)/y=q1 at*;generalize (4294967296*hi+c1) % y=r1 at*;have hst:=vw (u:=r1) b1 b0 d0 Z';refine fa ?_;refine Df (b:=4294967296) rfl rfl U' ?_;refine mI ?_;refine Ye rfl rfl U' ?_;refine fa ?_;refine Df rfl rfl U' ?_;refine kA ?_;refine fa ?_;rw[eE (a:=hi*4294967296) (m:=q1*y) (r:=r1) (by rw[G_ hi,G_ q1];omega) Z'];refine fa ?_;refine XH rfl rfl Z' (by first|assumption|omega) U' ?_;refine fa ?_;refine Df rfl rfl U' ?_;refine kA ?_;refine fa ?_;have hrh:(r1+18446744073709551616-r1/y1*y1 % 18446744073709551616) % 18446744073709551616=r1 % y1:=(by have h1:=E9 r1 y1;rw[G_] at h1;omega);rw[hrh];clear hrh;refine Rv zL3 18 (λv w'=>v=.int .u64 ((4294967296*r1+c0)/y:Nat)/\Hp w [] w') ?_ ?_
 .refine Ra zL3 18 16 (λa b w'=>∃q rh:Nat,a=.int .u64 q/\b=.int .u64 rh/\Qv r1 c0 y1 y0 q rh/\rh<4294967296/\Hp w [] w') (λa _ _=>(intOf a).toNat) ?_ ?_
  .exact⟨_,_,rfl,rfl,hst,by have:=B_ r1 (show 0<y1 by omega);omega,hh⟩
  clear hh hst;rintro ρ' a_ b_ w' ⟨q,rh,rfl,rfl,hI,hr,hh⟩;have hsm:=hI.sm;have hqy:q<4294967296->q*y0<18446744073709551616:=λh=>(by have h2:q*y0<=q*4294967295:=k_ q Z';omega);by_cases hb:4294967296<=q\/4294967296*rh+c0<q*y0
  .exact SZ
  exact aaz
 skip;clear hh hst;rintro ρ' v w' ⟨rfl,hh⟩;have hdm2:=E9 (4294967296*r1+c0) y;have hr2:=B_ (4294967296*r1+c0) (by omega:0<y);have hq2:(4294967296*r1+c0)/y<4294967296:=(by rw[D9 Z'];omega);generalize (4294967296*r1+c0)/y=q2 at*;generalize (4294967296*r1+c0) % y=r2 at*;rw[<-hll] at t1 t2;have e1:(q1*4294967296 % 18446744073709551616+q2) % 18446744073709551616=(18446744073709551616*hi+lo)/y:=by rw[G_ q1];omega
 have e2:=eE (a:=r1*4294967296) (c:=c0) (m:=q2*y) (r:=r2) (by rw[G_ r1,G_ q2];omega) Z';have e3:r2/2^((0:Nat):Int).toNat=(18446744073709551616*hi+lo) % y:=(by show r2/1=_;rw[O7];exact t2);refine fa ?_;refine Df (b:=4294967296) rfl rfl U' ?_;refine mI ?_;refine Ye rfl rfl U' ?_;refine mI ?_;refine Df (b:=4294967296) rfl rfl U' ?_;refine mI ?_;refine Ye rfl rfl U' ?_;refine fa ?_;refine Df rfl rfl U' ?_;refine kA ?_;refine mI ?_;refine nw rfl rfl Z' U' ?_;refine fa ?_;rw[e1,e2,e3];exact⟨rfl,hh.below⟩
def Gs{a c:Code}(mods:List Nat)(s0:Nat)(J:Value->World->Prop)(hc:WC ro P N a (re (λρ2 w2=>J (ρ2 s0) w2/\Jg mods ρ2 ρ) Q) ρ w)(hn:∀ρ' v0 w',J v0 w'->WC ro P N c Q (sc (mask mods ρ' ρ) s0 v0) w'):WC ro P N (.seq a c) Q ρ w:=
 mb (hc.mono λe ρ2 w2 hq=>by
  cases e with
  |normal=>
   have:=hn ρ2 (ρ2 s0) w2 hq.1;rwa[Ug hq.2,Le] at this
  |_=>exact hq)
variable {b o:Nat}{lo:Operand}{pos:String}
def uT{d:Option Nat}{ty:TypeId}{af:Array Edge}{g:Option (Nat×Bool)}{t e:TypeId}{x hi:Operand}{c l h sz:Nat}{k k2:IntKind}{m m2:Int}(ht:P.underlying t=some (.slice e))(hsz:(P.info? e).map (·.size)=some sz)(hx:ev ρ x=.slice (some ⟨b,o,none⟩) n c)(hlo:ev ρ lo=.int k m)(hhi:ev ρ hi=.int k2 m2) (hm:m=(l:Int))(hm2:m2=(h:Int))(h1:l<=h)(h2:h<=c)(h3:l<c):(execOp (ev ρ) ⟨d,.slice t x (some lo) (some hi) none,ty,pos,af,g⟩).run P w=.ok (.value (.slice (some ⟨b,o+l*sz,none⟩) (h-l) (c-l))) w:=by
 rw[Ef (lo:=some lo) (hi:=some hi) (l:=l) (h:=h) ht hsz hx ⟨k,m,hlo,hm⟩ ⟨k2,m2,hhi,hm2⟩ h1 h2,L' Z'];simp only[M8,qe]
def sG{mods:List Nat}{ρ1:Rf}{d:Nat}{v:Value}(hd:mods.contains d=true)(h:Jg mods ρ1 ρ):Jg mods ρ1 (sc ρ d v):=λi hi=>by
 rw[Eh ρ (λe=>by rw[e,hd] at hi;cases hi)];exact h i hi
def ji(ys:List Nat)(q:Nat):List Nat:=Pg 18446744073709551616 (List.replicate (ys.length+1) 0) ys q 0
def Wt(ys:List Nat)(q:Nat):(ji ys q).length=ys.length+1:=by
 unfold ji;rw[Rl,H9]
def qw(ys:List Nat)(q:Nat):Dg 18446744073709551616 (ji ys q):=wy Z' _ _ _ _
def Zs(hy:Dg 18446744073709551616 ys)(hq:q<18446744073709551616):Ka 18446744073709551616 (ji ys q)=Ka 18446744073709551616 ys*q:=by
 have h1:=Jf hy;have h2:Ka 18446744073709551616 ys*q<18446744073709551616^(ys.length+1):=(by rw[i_];exact R5 h1 hq);unfold ji;rw[Ns Z' _ _ _ _ (by rw[Ai,H9];omega),Ai];omega
variable {C cy:Nat}
def iE(X Yb A:Option Addr)(N C n cy c q:Nat)(ys ps:List Nat)(w:World)(hY:Sl w Yb n 1 (nc ys))(hP:Sl w A (n+1) 1 (nc ps))(hyd:Dg 18446744073709551616 ys)(hpd:Dg 18446744073709551616 ps)(hkc:n+1<=c)(hn:n<=100000000)(hY0:0<Ka 18446744073709551616 ys)(hq:Ka 18446744073709551616 ps<q*Ka 18446744073709551616 ys)(hqw:q<18446744073709551616):Calls prog 321 #[.agg #[.slice X N C,.slice Yb n cy],.slice A (n+1) c,.int .u64 (q:Int)] w λe w'=>∃b,e=.returned (.tuple #[.int .u64 ((Ka 18446744073709551616 ps/Ka 18446744073709551616 ys:Nat):Int),.slice (some ⟨b,0,none⟩) (n+1) (n+1)])/\Hp w [.row (some ⟨b,0,none⟩) (n+1) (n+1) 223 1 (nc (ji ys (Ka 18446744073709551616 ps/Ka 18446744073709551616 ys)))] w':=by
 have hh:=Hp.start w;have hyl:ys.length=n:=by have:=hY.1;rw[Ma] at this;omega
 have hpl:ps.length=n+1:=by have:=hP.1;rw[Ma] at this;omega
 refine da (N:=28) (l:=[.agg #[.slice X N C,.slice Yb n cy],.slice A (n+1) c,.int .u64 (q:Int)]) func321 rfl rfl (by simp) ?_;refine Jb ?_;intro b3 w3 hh;refine Ba [2,6,7,8,9,10,11,12,13,14,15,16,17,18,19,20,21,22,23,24,25,26,27] 2 (λv w'=>∃q:Nat,v=.int .u64 q/\Ka 18446744073709551616 ps<q*Ka 18446744073709551616 ys/\q<18446744073709551616/\Hp w [.blk b3 311 [.slice X N C,.slice Yb n cy] (0,0)] w') (λv _=>(intOf v).toNat) ?_ ?_
 .exact⟨q,rfl,hq,hqw,hh⟩
 clear hh hq hqw;rintro ρ' v w' ⟨q,rfl,hq,hqw,hh⟩;have hq1:1<=q:=by
  obtain h|h:=x8 q
  .rw[h,X6] at hq;omega
  exact h
 have hqd:(q+18446744073709551616-1) % 18446744073709551616=q-1:=Z';have hbig:=MZ hY0 hq;refine fa ?_;refine Up (b:=1) rfl rfl Z' U' ?_;refine fa ?_;rw[hqd];have hmd:=Zs hyd (q:=q-1) Z';refine fa ?_;refine Me (n:=n+1) hh rfl rfl Z' Z' lb.out ya.out rfl Z' Z' U' ?_;intro b15 w15 hh;refine fa ?_;rw[zj] at hh;have hc:=Km (c':=n+1) (ny:=n) (cy:=cy) (m:=q-1) (Y:=Yb) [] (List.replicate (n+1) 0) [] ys _ (by rw[E',o_];exact hh) (λw1 cs h=>hY.ext h.below) (Dg.ie Z' _) hyd Z' (by rw[H9];omega) Z';have hmL:Pg 18446744073709551616 (List.replicate (n+1) 0) ys (q-1) 0=ji ys (q-1):=by unfold ji;rw[hyl]
 rw[E',o_,H9,hmL] at hc;have hml:=Wt ys (q-1);rw[hyl] at hml;have hmg:=qw ys (q-1);refine qa (hc) ja.out rfl U' ?_;rintro e_ w_ ⟨rfl,hh⟩;refine⟨_,rfl, ?_⟩;generalize hmu:ji ys (q-1)=muc at*;have hsl:=hh.ra (i:=0) rfl;have hcl:=ue muc;refine fa ?_;refine Oa hh (mf _ _ _ muc _ (hh.ra (i:=0) rfl) (j' _) Z') rfl ?_;intro w22 hh;refine mL ?_;refine Oa hh (Ep _ _ _ _ _ _ (Xd muc) ps _ (Sl.Qp (hh.ra (i:=0) rfl)) (hP.ext hh.below) hmg.cut hpd Z' hkc Z' Z') rfl ?_;intro w24 hh;rw[ai,hmd];rw[G_] at hmd |-;by_cases hfit:(q-1)*Ka 18446744073709551616 ys<=Ka 18446744073709551616 ps
 .have hqe:=lU hY0 hbig hfit;have hcmp:Qh ((q-1)*Ka 18446744073709551616 ys) (Ka 18446744073709551616 ps)<=0:=by
   unfold Qh;split
   .decide
   rw[L' Z'];decide
  generalize Qh ((q-1)*Ka 18446744073709551616 ys) (Ka 18446744073709551616 ps)=z at*;rw[<-hqe,hmu];refine fa ?_;exact⟨b15,rfl,hh.sub (.cons_cons _ (R9 _))⟩
 have hcmp:Qh ((q-1)*Ka 18446744073709551616 ys) (Ka 18446744073709551616 ps)=1:=vr Z';rw[hcmp];refine fa ?_;replace hh:=hh.sub (p' _ (I' _ H_));refine⟨⟨q-1,rfl,Z',Z',hh⟩,by show((q-1:Nat):Int).toNat<(q:Int).toNat;omega, ?_⟩;exact Rc
def Ec(xs:List Nat)(a n:Nat):List Nat:=(xs.drop a).take (n+1)
variable {H:List HE}{w0:World}
def dD{v:Nat}{Yb:Option Addr}(a:Nat)(xs ys:List Nat)(w:World)(hh:Hp w0 (.row (some ⟨b,0,none⟩) N C 223 1 (nc xs)::H) w) (hy:∀w1 cs,Hp w0 (.row (some ⟨b,0,none⟩) N C 223 1 cs::H) w1->Sl w1 Yb n 1 (nc ys))(hxd:Dg 18446744073709551616 xs)(hyd:Dg 18446744073709551616 ys)(hnm:n=m+1)(hv:ys[m]?=some v)(hv2:9223372036854775808<=v)(ha:a+n<N)(hN:N<=100000000)(hP:Ka 18446744073709551616 (Ec xs a n)/Ka 18446744073709551616 ys<18446744073709551616):Calls prog 304 #[.agg #[.slice (some ⟨b,0,none⟩) N C,.slice Yb n cy],.int .i64 (a:Int)] w λe w'=>e=.returned (.int .u64 ((Ka 18446744073709551616 (Ec xs a n)/Ka 18446744073709551616 ys:Nat):Int))/\Hp w0 (.row (some ⟨b,0,none⟩) N C 223 1 (nc (xs.take a++Ib 18446744073709551616 (n+1) (Ka 18446744073709551616 (Ec xs a n) % Ka 18446744073709551616 ys)++xs.drop (a+(n+1))))::H) w':=by
 have hyl:ys.length=n:=by have:=(hy _ _ hh).1;rw[Ma] at this;omega
 have hxl:xs.length=N:=by have:=(hh.ra (i:=0) rfl).1;rw[Ma] at this;omega
 have hcap:=hh.Ve (i:=0) rfl;obtain⟨x1,hx1⟩:=ea (l:=xs) (k:=a+n) Z';obtain⟨x0,hx0⟩:=ea (l:=xs) (k:=a+m) Z';have gx1:=Yd hx1;have gx0:=Yd hx0;have gv:=Yd hv;have bx1:=hxd.at_ hx1;have bx0:=hxd.at_ hx0;have bv:=hyd.at_ hv;obtain⟨e1,e2⟩:=ab1 (a:=a) (m:=m) hxd U' hx0 (by rw[<-hnm];exact hx1) hv Z' Z' (by unfold Ec at hP;rw[hnm] at hP;exact hP);rw[show(xs.drop a).take (m+2)=Ec xs a n by unfold Ec;rw[hnm]] at e1;obtain⟨adY,hYa,hYr⟩:=(hy _ _ hh).at_ Z';subst hYa;refine da (N:=79) (l:=[.agg #[.slice (some ⟨b,0,none⟩) N C,.slice (some adY) n cy],.int .i64 (a:Int)]) func304 rfl rfl (by simp) ?_;have hsub:∀(e:HE) w1,Hp w0 (e::.row (some ⟨b,0,none⟩) N C 223 1 (nc xs)::H) w1->Sl w1 (some adY) n 1 (nc ys):=λe w1 h=>hy w1 _ (h.sub (p' _ (A_ _)));refine sr ?_;refine YD hh [_,_] ?_;intro b2 w2 hh;refine aI (ua (sr (Hu ?_)));refine xm hh 0 ?_;refine Vq (aI (ua (sr (Hu ?_))));refine xm hh 0 ?_;refine mI (mI ?_);refine lj ?_;refine zd (k:=a+n) lb.out ya.size rfl rfl Z' Z' U' ?_;refine ub ya.out rfl ((hh.ra (i:=1) rfl).rD hx1) U' ?_;refine aI (ua (sr (aI (ua ?_))))
 refine Gs [7,20,21,22,23,24,25,26,27,28,29,30,31,32,33,34,35,36,37,38,39,40,41,42,43,44,45,46] 7 (λe w'=>e=.int .u64 (YI 18446744073709551616 x1 x0 v:Nat)/\Hp w0 (.blk b2 311 [.slice (some ⟨b,0,none⟩) N C,.slice (some adY) n cy] (0,0)::.row (some ⟨b,0,none⟩) N C 223 1 (nc xs)::H) w') ?_ ?_
 .by_cases hlt:x1<v
  .have hdv:=λw1=>dE x1 x0 v w1 hv2 bv hlt bx0;have hq:(18446744073709551616*x1+x0)/v=YI 18446744073709551616 x1 x0 v:=(J' hlt).symm;rw[hq] at hdv;refine sr (mI (Hu ?_));refine xm hh 0 ?_;refine mI ?_;refine Rp ?_;refine rV ?_;refine ub ya.out rfl ((hsub _ _ hh).rD hv) U' ?_;refine fa ?_;refine Ca 20 [[(6,none)],[(2,none)],[(30,some 1)],[(1,none)],[(5,none)],[(32,some 3),(33,some 4)],[(34,some 5)],[(31,some 2),(35,some 6)],[(36,some 7)],[(2,none)],[(38,some 9)],[(5,none)],[(40,some 11)],[(39,some 10),(41,some 12)],[(42,some 13)],[(29,some 0),(37,some 8),(43,some 14)],[(44,some 15)],[(28,some 16)],[(28,some 16)],[(45,some 17)]] [(19,7),(18,46),(17,45),(16,28),(15,44),(14,43),(13,42),(12,41),(11,40),(10,39),(9,38),(8,37),(7,36),(6,35),(5,34),(4,33),(3,32),(2,31),(1,30),(0,29)] hh mixed T' ?_;refine cd ?_;refine yd ?_;refine xe 0 ?_;refine cd ?_;refine cd ?_;refine xt ?_;refine Tu ?_;refine Va (i:=7) (Is (.pointer (some (Addr.add ⟨b,0,none⟩ ((a+m)*1))))) (Is.ext) ?_ ?_
   .intro ρ1 w1 hj hR;exact Od rfl (lg (k:=a+m) lb.out ya.size (show ρ1 31=Value.slice _ _ _ from hR.1) (show ρ1 35=Value.int _ _ from hR.2.1) Z' Z') ⟨Below.refl _ _,rfl⟩
   refine Ro (λ_ hj=>(hj.hp.ra (i:=1) rfl).rD hx0) ?_;refine yd ?_;refine xe 0 ?_;refine cd ?_;refine Tu ?_;refine Va (i:=13) (Is (.pointer (some (adY.add (m*1))))) (Is.ext) ?_ ?_
   .intro ρ1 w1 hj hR;exact Od rfl (lg (k:=m) lb.out ya.size (show ρ1 39=Value.slice _ _ _ from hR.1) (show ρ1 41=Value.int _ _ from hR.2.1) Z' Z') ⟨Below.refl _ _,rfl⟩
   refine Ro (λ_ hj=>(hsub _ _ hj.hp).rD hv) ?_;refine dC (λ_ hj=>hdv _) ?_;refine dmT ?_;refine dex ?_;refine dex ?_;refine daI ?_;refine xa ?_;intro f W hJ hV;have hb_5:=hJ.bl;obtain⟨v7,v46,v45,v28,v44,v43,v42,v41,v40,v39,v38,v37,v36,v35,v34,v33,v32,v31,v30,v29,_⟩:=hV;replace hh:=hJ.hp;refine Da (Na (aa v7 (aa v46 (aa v45 (aa v28 (aa v44 (aa v43 (aa v42 (aa v41 (aa v40 (aa v39 (aa v38 (aa v37 (aa v36 (aa v35 (aa v34 (aa v33 (aa v32 (aa v31 (aa v30 (aa v29 Ea))))))))))))))))))))) ?_;dsimp only[Bb];clear hJ;refine fa ?_;refine⟨⟨rfl,hh⟩, ?_⟩;repeat refine Wc rfl ?_
   exact sG rfl λ_ _=>rfl
  have hq:18446744073709551616-1=YI 18446744073709551616 x1 x0 v:=(L' hlt).symm;refine sr (mI (Hu ?_));refine xm hh 0 ?_;refine mI ?_;refine Rp ?_;refine rV ?_;refine ub ya.out rfl ((hsub _ _ hh).rD hv) U' ?_;refine fa ?_;refine⟨⟨?_,hh⟩, ?_⟩
  .rw[<-hq];rfl
  repeat refine Wc rfl ?_
  exact sG rfl λ_ _=>rfl
 skip;clear hh;rintro ρ' e_ w' ⟨rfl,hh⟩;generalize YI 18446744073709551616 x1 x0 v=q at*;have hqw:q<18446744073709551616:=Z';have hmd:=Zs hyd hqw;have hml:=Wt ys q;rw[hyl] at hml;have hmg:=qw ys q;have hmL:Pg 18446744073709551616 (List.replicate (n+1) 0) ys q 0=ji ys q:=by unfold ji;rw[hyl]
 have hpt:(Ec xs a n).length=n+1:=by unfold Ec;rw[R_,M9];omega
 have hpd:Dg 18446744073709551616 (Ec xs a n):=(hxd.drop a).take (n+1);have hY0:0<Ka 18446744073709551616 ys:=(by have h1:=gI (B:=18446744073709551616) hv Z';have h2:0<v*18446744073709551616^m:=H7 Z' (r_ U');omega);refine fa ?_;refine Ia rfl rfl U' (uT (l:=a) (h:=a+(n+1)) lb.out ya.size rfl rfl rfl rfl Z' Z' Z' Z') ?_;refine fa ?_;refine Me (n:=n+1) hh rfl rfl Z' Z' lb.out ya.out rfl Z' Z' U' ?_;intro b57 w57 hh;refine fa ?_;rw[zj] at hh;rw[show 0+a*1=a by omega,show a+(n+1)-a=n+1 by omega];have hps:∀w1,Sl w1 (some ⟨b,0,none⟩) N 1 (nc xs)->Sl w1 (some ⟨b,a,none⟩) (n+1) 1 (nc (Ec xs a n)):=λw1 h=>(by have h2:=(h.IQ (k:=a) Z').bR (k:=n+1) Z';rw[qe,C_,I_] at h2;exact h2);have hsp:xs.take a++Ec xs a n++xs.drop (a+(n+1))=xs:=by unfold Ec;rw[l_,<-u7,P9,P9]
 have htk:(xs.take a).length=a:=by rw[R_];omega
 have hdm:=E9 (Ka 18446744073709551616 (Ec xs a n)) (Ka 18446744073709551616 ys);have hml2:=B_ (Ka 18446744073709551616 (Ec xs a n)) hY0;have hmQ:=Zs hyd hP;have hlQ:=Wt ys (Ka 18446744073709551616 (Ec xs a n)/Ka 18446744073709551616 ys);rw[hyl] at hlQ;have hgQ:=qw ys (Ka 18446744073709551616 (Ec xs a n)/Ka 18446744073709551616 ys);have hsb:=FF (B:=18446744073709551616) Z' (Ec xs a n) (ji ys (Ka 18446744073709551616 (Ec xs a n)/Ka 18446744073709551616 ys)) 0 hpd hgQ Z' Z';have hsd:Yp 18446744073709551616 (Ec xs a n) (ji ys (Ka 18446744073709551616 (Ec xs a n)/Ka 18446744073709551616 ys)) 0=Ib 18446744073709551616 (n+1) (Ka 18446744073709551616 (Ec xs a n) % Ka 18446744073709551616 ys):=(by have h1:=Bq (wM (B:=18446744073709551616) Z' (Ec xs a n) (ji ys (Ka 18446744073709551616 (Ec xs a n)/Ka 18446744073709551616 ys)) 0);rw[xG,hpt] at h1;rw[<-h1];congr 1;omega);have hkey:∀T w1,Hp w0 (.row (some ⟨b,0,none⟩) N C 223 1 (nc xs)::T) w1->Hp w0 (.row (some ⟨b,0,none⟩) N C 223 1 (nc (xs.take a++Ec xs a n++xs.drop (a+(n+1))))::T) w1:=λT w1 h=>by rw[hsp];exact h
 have hc:=Km (c':=n+1) (ny:=n) (cy:=cy) (m:=q) (Y:=some adY) [] (List.replicate (n+1) 0) [] ys _ (by rw[E',o_];exact hh) (λw1 cs h=>hy w1 _ (h.sub (p' _ (p' _ (A_ _))))) (Dg.ie Z' _) hyd hqw (by rw[H9];omega) Z';rw[E',o_,H9,hmL] at hc;refine qa (hc) ja.out rfl U' ?_;rintro e_ w_ ⟨rfl,hh⟩;refine⟨_,rfl, ?_⟩;have hcl:=ue (ji ys q);refine fa ?_;refine Oa hh (mf _ _ _ (ji ys q) _ (hh.ra (i:=0) rfl) (j' _) Z') rfl ?_;intro w64 hh;refine mL ?_;refine Oa hh (Ep _ _ _ _ _ _ (Xd (ji ys q)) (Ec xs a n) _ (Sl.Qp (hh.ra (i:=0) rfl)) (hps _ (hh.ra (i:=2) rfl)) hmg.cut hpd Z' Z' Z' Z') rfl ?_;intro w66 hh;rw[ai,hmd];by_cases hfit:q*Ka 18446744073709551616 ys<=Ka 18446744073709551616 (Ec xs a n)
 .have hqe:=lU hY0 e1 hfit;have hcmp:Qh (Ka 18446744073709551616 ys*q) (Ka 18446744073709551616 (Ec xs a n))<=0:=by
   rw[G_];unfold Qh;split
   .decide
   rw[L' Z'];decide
  generalize Qh (Ka 18446744073709551616 ys*q) (Ka 18446744073709551616 (Ec xs a n))=z at*;subst hqe;refine fa ?_;replace hh:=hh.front 2 rfl;replace hh:=hkey _ _ hh;have htc:=Hn (c':=C-a) (ny:=n+1) (cy:=n+1) (Y:=some ⟨b57,0,none⟩) (xs.take a) (Ec xs a n) (xs.drop (a+(n+1))) (ji ys (Ka 18446744073709551616 (Ec xs a n)/Ka 18446744073709551616 ys)) _ hh (λw1 cs h=>h.ra (i:=1) rfl) hpd hgQ Z' Z' hsb.2;exact adB
 have hcmp:Qh (Ka 18446744073709551616 ys*q) (Ka 18446744073709551616 (Ec xs a n))=1:=vr (by rw[G_];omega);rw[hcmp];refine fa ?_;refine qa (iE (some ⟨b,0,none⟩) (some adY) (some ⟨b,a,none⟩) N C n cy (C-a) q ys (Ec xs a n) _ (hy _ _ (hh.sub (p' _ (p' _ (A_ _))))) (hps _ (hh.ra (i:=2) rfl)) hyd hpd Z' Z' hY0 Z' hqw) ja.out rfl U' ?_;rintro e_ w72 ⟨bm,rfl,h4⟩;refine⟨_,rfl, ?_⟩;replace hh:=hh.join h4;clear h4;simp only[C',E'] at hh;replace hh:=hh.sub (I' _ (p' _ (I' _ (I' _ (A_ _)))));refine fa ?_;replace hh:=hh.front 2 rfl;replace hh:=hkey _ _ hh;have htc:=Hn (c':=C-a) (ny:=n+1) (cy:=n+1) (Y:=some ⟨bm,0,none⟩) (xs.take a) (Ec xs a n) (xs.drop (a+(n+1))) (ji ys (Ka 18446744073709551616 (Ec xs a n)/Ka 18446744073709551616 ys)) _ hh (λw1 cs h=>h.ra (i:=1) rfl) hpd hgQ Z' Z' hsb.2;exact adB
variable {k:Nat}
def BK(k:Nat):18446744073709551616^k=2^(64*k):=by
 rw[show(18446744073709551616:Nat)=2^64 by decide,<-W9]
def NQ{d:Nat}(hb:b≠0)(hl:(Ha 18446744073709551616 b).length=m+1)(hd:(Ha 18446744073709551616 b)[m]?=some d):Sa d<=64/\(Ha 18446744073709551616 (b*2^(64-Sa d))).length=m+1/\∃v,(Ha 18446744073709551616 (b*2^(64-Sa d)))[m]?=some v/\9223372036854775808<=v:=by
 have hg:=Uf b;have hd64:d<18446744073709551616:=hg.at_ hd;have hbl:Sa d<=64:=Dc (by simpa using hd64);have e:Ha 18446744073709551616 b=(Ha 18446744073709551616 b).take m++[d]:=by rw[<-oa hd,W_ Z']
 have XD:d≠0:=λh=>(by have h1:=ke b;rw[e,h] at h1;have h2:(Ha 18446744073709551616 b).getLast?≠some 0:=(ae Z' b).2;rw[e,h] at h2;simp at h2);have hB:Sa b=64*m+Sa d:=(by have h1:=iH (B:=18446744073709551616) (b:=64) (m:=m) U' (hg.take m) (by rw[R_];omega) XD;rw[<-e,ke] at h1;exact h1);have h1:=Tb b;have h2:=uC hb;have h3:=En XD;have hup:b*2^(64-Sa d)<18446744073709551616^(m+1):=(by rw[BK,show 64*(m+1)=Sa b+(64-Sa d) by omega,D_];exact n8 h1 (r_ U'));have hdn:18446744073709551616^m*9223372036854775808<=b*2^(64-Sa d):=(by have h4:18446744073709551616^m*9223372036854775808=2^(Sa b-1)*2^(64-Sa d):=(by rw[BK,show(9223372036854775808:Nat)=2^63 by decide,<-D_,<-D_];congr 1;omega);rw[h4];exact N9 _ h2);generalize b*2^(64-Sa d)=B2 at*;have hWp:0<18446744073709551616^m:=r_ U';have hlen:(Ha 18446744073709551616 B2).length=m+1:=by
  have a1:=yf (B:=18446744073709551616) Z' hup;have a2:=Ll (B:=18446744073709551616) Z' B2;obtain h|h:=Y9 (Ha 18446744073709551616 B2).length (m+1)
  .have a3:18446744073709551616^(Ha 18446744073709551616 B2).length<=18446744073709551616^m:=m_ U' Z';omega
  omega
 refine⟨hbl,hlen,_,Py Z' Z', ?_⟩;have hv:B2/18446744073709551616^m<18446744073709551616:=(by rw[D9 hWp,G_,<-i_];exact hup);rw[h_ hv,Nat.le_div_iff_mul_le hWp,G_];exact hdn
structure YT(A Y N n k:Nat)(X O:List Nat):Prop where
 xd:Dg 18446744073709551616 X
 xl:X.length=N
 od:Dg 18446744073709551616 O
 ol:O.length=N-n
 oz:∀i,i<k->O[i]?=some 0
 e:Ka 18446744073709551616 O*Y+Ka 18446744073709551616 X=A
 r:Ka 18446744073709551616 (X.drop k)<Y
def sO{A:Nat}{X O:List Nat}(hy:Dg 18446744073709551616 ys)(hn:ys.length=n)(hk:k+1<=N-n)(hnN:n<=N)(h:YT A (Ka 18446744073709551616 ys) N n (k+1) X O):Ka 18446744073709551616 (Ec X k n)/Ka 18446744073709551616 ys<18446744073709551616/\YT A (Ka 18446744073709551616 ys) N n k (X.take k++Ib 18446744073709551616 (n+1) (Ka 18446744073709551616 (Ec X k n) % Ka 18446744073709551616 ys)++X.drop (k+(n+1))) (O.set k (Ka 18446744073709551616 (Ec X k n)/Ka 18446744073709551616 ys)):=by
 obtain⟨xd,xl,od,ol,oz,e,hr⟩:=h;obtain⟨x,hx⟩:=ea (l:=X) (k:=k) Z';have hxw:=xd.at_ hx;have hYl:=Jf hy;rw[hn] at hYl;have hR:=BU (B:=18446744073709551616) (xd.drop (k+1)) n (by rw[M9];omega);rw[h_ (show Ka 18446744073709551616 (X.drop (k+1))<18446744073709551616^n by omega)] at hR;have hP:Ka 18446744073709551616 (Ec X k n)=x+18446744073709551616*Ka 18446744073709551616 (X.drop (k+1)):=(by unfold Ec;rw[Ge hx,k7];show x+18446744073709551616*_=_;rw[hR]);have hz:Ka 18446744073709551616 (X.drop (k+(n+1)))=0:=(by rw[show k+(n+1)=(k+1)+n by omega,<-u7,pG (xd.drop (k+1)) n U',L9 Z']);have hY0:0<Ka 18446744073709551616 ys:=Z';have hq:Ka 18446744073709551616 (Ec X k n)/Ka 18446744073709551616 ys<18446744073709551616:=(by rw[D9 hY0,hP];have h1:18446744073709551616*(Ka 18446744073709551616 (X.drop (k+1))+1)<=18446744073709551616*Ka 18446744073709551616 ys:=k_ _ hr;rw[O8] at h1;omega);have hm:=B_ (Ka 18446744073709551616 (Ec X k n)) hY0;have hdm:=E9 (Ka 18446744073709551616 (Ec X k n)) (Ka 18446744073709551616 ys);have hmW:Ka 18446744073709551616 (Ec X k n) % Ka 18446744073709551616 ys<18446744073709551616^(n+1):=(by rw[i_];have:18446744073709551616^n*1<=18446744073709551616^n*18446744073709551616:=k_ _ U';omega);have hpp:=RQ (B:=18446744073709551616) (xs:=X) (a:=k) (n:=n+1) Z' hmW;have hso:=kN (B:=18446744073709551616) O k (Ka 18446744073709551616 (Ec X k n)/Ka 18446744073709551616 ys) (oz k Z');have hlt:(X.take k).length=k:=by rw[R_];omega
 have hpe:(X.drop k).take (n+1)=Ec X k n:=rfl;rw[hpe] at hpp;refine⟨hq, ?_, ?_,od.UW k hq,by rw[U9];exact ol,λi hi=> ?_, ?_, ?_⟩
 .exact((xd.take k).append (Lf U' _ _)).append (xd.drop _)
 .rw[Y_,Y_,hlt,Ja,M9];omega
 .rw[F9,L' Z'];exact oz i Z'
 .generalize Ka 18446744073709551616 (Ec X k n)/Ka 18446744073709551616 ys=q at*;generalize Ka 18446744073709551616 (Ec X k n) % Ka 18446744073709551616 ys=r at*;rw[N7,q9] at hso;rw[hso,T7];have h5:18446744073709551616^k*q*Ka 18446744073709551616 ys+18446744073709551616^k*r=18446744073709551616^k*Ka 18446744073709551616 (Ec X k n):=(by rw[<-hdm,X9,J9,G_ q]);omega
 rw[l_,List.drop_append,hlt,f_,B8 Z',E',j7,Hc,hz,N7,q9,Fc hmW];exact hm
def EN{A:Nat}{X:List Nat}(xd:Dg 18446744073709551616 X)(xl:X.length=N)(hA:Ka 18446744073709551616 X=A)(hn:1<=n)(hnN:n+1<=N)(hAN:A<18446744073709551616^(N-1))(hY:18446744073709551616^(n-1)<=Y):YT A Y N n (N-n) X (List.replicate (N-n) 0):=by
 refine⟨xd,xl,Dg.ie U' _,H9,λi hi=>by rw[K5,J' hi],by rw[Ai];omega, ?_⟩;rw[pG xd _ U',hA];refine T9 ?_ hY;rw[D9 (r_ U'),<-D_,show n-1+(N-n)=N-1 by omega];exact hAN
def IW{a s:Nat}{X O:List Nat}(hb:0<b)(hY:Y=b*2^s)(h:YT (a*2^s) Y N n 0 X O):Ka 18446744073709551616 O=a/b/\Ka 18446744073709551616 X/2^s=a % b:=by
 have hp:0<2^s:=r_ U';have he:=h.e;have hr:=h.r;rw[j7] at hr;subst hY;have h1:Ka 18446744073709551616 X % 2^s=0:=by
  have h2:(Ka 18446744073709551616 O*(b*2^s)+Ka 18446744073709551616 X) % 2^s=0:=by rw[he];exact Nat.mul_mod_left _ _
  rw[<-J9,Nat.mul_add_mod_self_right] at h2;exact h2
 have h2:=E9 (Ka 18446744073709551616 X) (2^s);rw[h1,q9] at h2;generalize Ka 18446744073709551616 X/2^s=r at*;rw[<-h2,G_ _ r] at he hr;have h3:Ka 18446744073709551616 O*b+r=a:=(by refine Nat.eq_of_mul_eq_mul_right hp ?_;rw[T7,J9];exact he);have h4:r<b:=Nat.lt_of_mul_lt_mul_right hr;have h5:=(Nat.div_mod_unique (a:=a) (b:=b) (c:=r) (d:=Ka 18446744073709551616 O) hb).2 ⟨by rw[G_ b];omega,h4⟩;exact⟨h5.1.symm,h5.2.symm⟩
def Sr(a b:ByteArray)(w:World)(ha:a.size<=100000000)(hb:b.size<=100000000)(hb0:bN b≠0):Calls prog 275 #[.string a,.string b] w λe w'=>e=.returned (.tuple #[.string (sN (bN a/bN b)),.string (sN (bN a % bN b)),.bool true])/\Below w.heap.size w w':=by
 have hh:=Hp.start w;have h1:=pf a;have h2:=pf b;have hyn:(Ha 18446744073709551616 (bN b)).length≠0:=λh=>hb0 ((Gr Z').1 (C8 h));by_cases hlt:bN a<bN b
 .refine da (N:=75) (l:=[.string a,.string b]) func275 rfl rfl (by simp) ?_;refine fa ?_;refine qa (vh a _ Z') ja.out rfl U' ?_;rintro e_ w14 ⟨A14,c14,rfl,hown_,hb_⟩;refine⟨_,rfl, ?_⟩;replace hh:=hh.Aa (x:=.row _ _ _ _ _ _) hb_ hown_;refine mS ?_;refine qa (vh b _ Z') ja.out rfl U' ?_;rintro e_ w16 ⟨A16,c16,rfl,hown_,hb_⟩;refine⟨_,rfl, ?_⟩;replace hh:=hh.Aa (x:=.row _ _ _ _ _ _) hb_ hown_;refine fa ?_;refine TF ?_;intro w24 hh;rw[ke,ke,Uj hlt];refine fa ?_;refine Oa hh (Te _ _ _ (Ha 18446744073709551616 (bN a)) _ (hh.ra (i:=1) rfl) (Uf _) (hh.Ve (i:=1) rfl) Z') rfl ?_;intro w27 hh;rw[ke];refine fa ?_;rw[L9 hlt,h_ hlt,Vh];exact⟨rfl,hh.below⟩
 have hc:¬Qh (bN a) (bN b)<0:=by unfold Qh;split<;>(try split)<;>omega
 obtain⟨m,hm⟩:∃m,(Ha 18446744073709551616 (bN b)).length=m+1:=⟨(Ha 18446744073709551616 (bN b)).length-1,Z'⟩;obtain⟨d,hd⟩:=ea (l:=Ha 18446744073709551616 (bN b)) (k:=m) Z';obtain⟨hbl,hlen,v,hv,hv2⟩:=NQ hb0 hm hd;have hlz:=λw1=>nq d w1 ((Uf _).at_ hd);obtain⟨s,hs⟩:∃s,s=64-Sa d:=⟨_,rfl⟩;rw[show(64:Int)-(Sa d:Int)=((64-Sa d:Nat):Int) by omega] at hlz;rw[<-hs] at hlz hlen hv;have hs64:s<=64:=Z';refine da (N:=75) (l:=[.string a,.string b]) func275 rfl rfl (by simp) ?_;refine fa ?_;refine qa (vh a _ Z') ja.out rfl U' ?_;rintro e_ w14 ⟨A14,c14,rfl,hown_,hb_⟩;refine⟨_,rfl, ?_⟩;replace hh:=hh.Aa (x:=.row _ _ _ _ _ _) hb_ hown_;refine mS ?_;refine qa (vh b _ Z') ja.out rfl U' ?_;rintro e_ w16 ⟨A16,c16,rfl,hown_,hb_⟩;refine⟨_,rfl, ?_⟩;replace hh:=hh.Aa (x:=.row _ _ _ _ _ _) hb_ hown_;refine fa ?_;refine TF ?_;intro w24 hh;rw[ke,ke];refine Bi (aB (ua (cF (Mc (Tv (wc (sr (mL (mL (Vq ?_))))))))));refine Rp ?_;refine rV ?_;refine ub ya.out rfl ((hh.ra (i:=0) rfl).rD hd) U' ?_;refine Oa hh (hlz _) rfl ?_;intro w34 hh;refine fa ?_
 refine qa (Ts _ _ _ s (Ha 18446744073709551616 (bN a)) _ (hh.ra (i:=1) rfl) (Uf _) Z' Z') ja.out rfl U' ?_;rintro e_ w37 ⟨A37,c37,rfl,hown_,hb_⟩;refine⟨_,rfl, ?_⟩;replace hh:=hh.Aa (x:=.row _ _ _ _ _ _) hb_ hown_;rw[ke] at hh |-;have hAN:bN a*2^s<18446744073709551616^((Ha 18446744073709551616 (bN a)).length+1):=(by have q1:=Ll (B:=18446744073709551616) Z' (bN a);have q2:2^s<=2^64:=m_ U' hs64;rw[i_];exact T9 (n8 q1 (r_ U')) (k_ _ q2));have hla:=yf (B:=18446744073709551616) Z' hAN;have hmono:=Ni (B:=18446744073709551616) Z' (k6 hlt);generalize hlx:(Ha 18446744073709551616 (bN a)).length=lx at*;refine fa ?_;refine qa (Gk _ _ _ (lx+2) (Ha 18446744073709551616 (bN a*2^s)) _ (hh.ra (i:=0) rfl) Z' Z') ja.out rfl U' ?_;rintro e_ w_ ⟨b41,rfl,hown_,hb_⟩;refine⟨_,rfl, ?_⟩;replace hh:=hh.Aa (x:=.row _ _ _ _ _ _) hb_ hown_;have e2:max (lx+2) (Ha 18446744073709551616 (bN a*2^s)).length=lx+2:=Z';rw[e2] at hh |-;refine fa ?_;refine qa (Ts _ _ _ s (Ha 18446744073709551616 (bN b)) _ (hh.ra (i:=2) rfl) (Uf _) Z' Z') ja.out rfl U' ?_;rintro e_ w44 ⟨A44,c44,rfl,hown_,hb_⟩;refine⟨_,rfl, ?_⟩;replace hh:=hh.Aa (x:=.row _ _ _ _ _ _) hb_ hown_;rw[ke] at hh |-;have hyw:=Uf (bN b*2^s);have hyv:=ke (bN b*2^s);generalize Ha 18446744073709551616 (bN b*2^s)=ys at*;rw[hlen] at hh |-;have hxw:Dg 18446744073709551616 (Ha 18446744073709551616 (bN a*2^s)++List.replicate (lx+2-(Ha 18446744073709551616 (bN a*2^s)).length) 0):=(Uf _).append (Dg.ie U' _)
 have hxv:Ka 18446744073709551616 (Ha 18446744073709551616 (bN a*2^s)++List.replicate (lx+2-(Ha 18446744073709551616 (bN a*2^s)).length) 0)=bN a*2^s:=by rw[Hc,Ai,ke,N7,q9]
 have hxl:(Ha 18446744073709551616 (bN a*2^s)++List.replicate (lx+2-(Ha 18446744073709551616 (bN a*2^s)).length) 0).length=lx+2:=by rw[Y_,H9];omega
 generalize Ha 18446744073709551616 (bN a*2^s)++List.replicate (lx+2-(Ha 18446744073709551616 (bN a*2^s)).length) 0=X0 at*;have hY1:18446744073709551616^m<=Ka 18446744073709551616 ys:=(by have q1:=gI (B:=18446744073709551616) hv hlen;have q2:1*18446744073709551616^m<=v*18446744073709551616^m:=N9 _ Z';omega);have hst:=EN (N:=lx+2) (n:=m+1) hxw hxl hxv Z' Z' hAN hY1;refine Sb ?_;intro b10 w10 hh ws hh;replace hh:=show Hp w (.blk b10 311 [.slice (some ⟨b41,0,none⟩) (lx+2) (lx+2),.slice A44 (m+1) c44] (0,0)::_) _ from hh;replace hh:=hh.sub (I' _ (I' _ (I' _ (p' _ (p' _ (p' _ H_))))));refine fa ?_;refine Me (n:=lx+2-(m+1)) hh rfl rfl Z' Z' lb.out ya.out rfl Z' Z' U' ?_;intro b53 w53 hh;refine fa ?_;rw[zj] at hh;have hK0:lx+2-(m+1)+(m+1)=lx+2:=Z';generalize hK:lx+2-(m+1)=K at*;replace hh:=hh.perm (P_ (l₁:=[_,_]));simp only[C',E'] at hh;replace hh:=hh.perm (P_ (l₁:=[_,_]));simp only[C',E'] at hh;replace hh:=hh.perm (P_ (l₁:=[_,_]));simp only[C',E'] at hh;replace hh:=hh.perm (P_ (l₁:=[_,_,_]));simp only[C',E'] at hh;refine Ba [12,57,58,59,60,61,62,63,64,65,66] 12 (λe w'=>∃(k:Nat)(X O:List Nat),k<=K/\e=.int .i64 ((k:Int)-1)/\YT (bN a*2^s) (Ka 18446744073709551616 ys) (lx+2) (m+1) k X O/\Hp w [.row (some ⟨b41,0,none⟩) (lx+2) (lx+2) 223 1 (nc X),.row (some ⟨b53,0,none⟩) K K 223 1 (nc O),.blk b10 311 [.slice (some ⟨b41,0,none⟩) (lx+2) (lx+2),.slice A44 (m+1) c44] (0,0),.row A44 (m+1) c44 223 1 (nc ys)] w') (λe _=>(intOf e+1).toNat) ?_ ?_
 .exact⟨K,X0,_,j' _,rfl,hst,hh⟩
 clear hh hst;rintro ρ' e_ w' ⟨k,X,O,hk,rfl,hD,hh⟩;by_cases hk0:0<k
 .obtain⟨k,rfl⟩:∃j,k=j+1:=⟨k-1,Z'⟩;obtain⟨hq,hD2⟩:=sO hyw hlen Z' Z' hD;have hdc:=dD (C:=lx+2) (cy:=c44) (Yb:=A44) k X ys _ hh (λw1 cs h=>h.ra (i:=3) rfl) hD.xd hyw rfl hv hv2 Z' Z' hq;have hOl:=hD.ol;rw[hK] at hOl;rw[show((k+1:Nat):Int)-1=(k:Int) by omega];generalize Ka 18446744073709551616 (Ec X k (m+1))/Ka 18446744073709551616 ys=q at*;generalize X.take k++Ib 18446744073709551616 (m+1+1) (Ka 18446744073709551616 (Ec X k (m+1)) % Ka 18446744073709551616 ys)++X.drop (k+(m+1+1))=X2 at*;refine fa ?_;refine qa (hdc) ja.out rfl U' ?_;rintro e_ w_ ⟨rfl,hh⟩;refine⟨_,rfl, ?_⟩;refine fa ?_;refine Ab hh (i:=1) (vs:=[_]) rfl rfl (Bc rfl) rfl ya.out rfl (by rw[Ma];omega) rfl ?_;intro ws hh;simp only[U_,F_] at hh;rw[I_,jc (by rw[Ma];omega),Vf] at hh;refine fa ?_;refine⟨⟨k,X2,O.set k q,Z',rfl,hD2,hh⟩,by show((k:Int)-1+1).toNat<((k:Int)+1).toNat;omega, ?_⟩;exact Rc
 obtain rfl:k=0:=Z';obtain⟨r1,r2⟩:=IW Z' hyv hD;refine fa ?_;have hdn:=λw1 h1=>Nu (some ⟨b41,0,none⟩) (Xd X).length (lx+2) s (Xd X) w1 (Sl.Qp (n:=lx+2) h1) hD.xd.cut (by have:=ue X;have:=hD.xl;omega) (by have:=ue X;have:=hD.xl;omega) Z';rw[ai,r2] at hdn;have htx:=λw1 h1=>Te (some ⟨b53,0,none⟩) K K O w1 h1 hD.od (j' _) Z';rw[r1] at htx;have htr:=λA c w1 h1 h2 h3=>Te A (Ha 18446744073709551616 (bN a % bN b)).length c (Ha 18446744073709551616 (bN a % bN b)) w1 h1 (Uf _) h2 h3;rw[ke] at htr;refine Ca 6 [[(11,none)],[(67,some 0)],[(10,none)],[(69,some 2)],[(70,some 3)],[(9,none)]] [(5,72),(4,71),(3,70),(2,69),(1,68),(0,67)] hh mixed T' ?_;refine De ?_;refine dC (λ_ hj=>htx _ (hj.hp.ra (i:=1) rfl)) ?_;refine yd ?_;refine xe 2 ?_;refine dC (λ_ hj=>mf _ _ _ X _ (hj.hp.ra (i:=0) rfl) (j' _) Z') ?_;refine cd ?_;refine xa ?_;intro f W hJ hV;have hb_13:=hJ.bl;obtain⟨v72,v71,v70,v69,v68,v67,_⟩:=hV;replace hh:=hJ.hp;refine Da (Na (aa v72 (aa v71 (aa v70 (aa v69 (aa v68 (aa v67 Ea))))))) ?_;dsimp only[Bb];clear hJ;refine qa (hdn _ (hh.ra (i:=0) rfl)) ja.out rfl U' ?_
 rintro e_ w73 ⟨A73,c73,rfl,hown_,hb_⟩;refine⟨_,rfl, ?_⟩;replace hh:=hh.Aa (x:=.row _ _ _ _ _ _) hb_ hown_;refine Oa hh (htr _ _ _ (hh.ra (i:=0) rfl) (hh.Ve (i:=0) rfl) (by have:=Ni (B:=18446744073709551616) Z' (Nat.le_of_lt (B_ (bN a) (Nat.pos_of_ne_zero hb0)));omega)) rfl ?_;intro w74 hh;refine fa ?_;exact⟨rfl,hh.below⟩
def ml(z:Int)(B:Nat)(q r:Int)(h:r+B*q=z)(h0:0<=r)(h1:r<B):z/B=q:=((Int.ediv_emod_unique Z').2 ⟨h,h0,h1⟩).1
def Jy(s:Bool)(a b:ByteArray)(w:World)(ha:a.size<=10000000)(hb:b.size<=10000000)(hb0:bN b≠0):Calls prog 227 #[.agg #[.bool s,.string a],.agg #[.bool false,.string b]] w λe w'=>∃x y,e=.returned (.tuple #[.agg #[.bool (iN (iv s a/bN b)),.string (iM (iv s a/bN b))],.agg #[.bool x,.string y],.bool true])/\Below w.heap.size w w':=by
 have hh:=Hp.start w;have hba:=Mf a;have hmod:bN a % bN b<bN b:=B_ _ Z';have hdm:bN b*(bN a/bN b)+bN a % bN b=bN a:=E9 _ _;have hdm':(bN b:Int)*((bN a/bN b:Nat):Int)+((bN a % bN b:Nat):Int)=(bN a:Int):=by rw[<-m9,<-F8,hdm]
 have hdv:=λw1=>Sr a b w1 Z' Z' hb0;generalize hq:bN a/bN b=q at*;generalize hr:bN a % bN b=r at*;have hqv:iv false (sN q)=(q:Int):=by unfold iv;rw[Ue,L' (by simp)]
 cases s with
 |false=>
  have e3:iv false a=(bN a:Int):=by unfold iv;rw[L' (by simp)]
  have q1:=ml (iv false a) (bN b) q r (by rw[e3,<-hdm'];omega) Z' Z';rw[q1];have hfm:=λw1=>Oe false (sN q) w1;rw[hqv] at hfm;refine da (N:=51) (l:=[.agg #[.bool false,.string a],.agg #[.bool false,.string b]]) func227 rfl rfl (by simp) ?_;refine SP ?_;intro b2 w2 hh b3 w3 hh b4 w4 hh b5 w5 hh;refine Oa hh (hdv _) rfl ?_;intro w14 hh;refine Sb ?_;intro ws hh ws hh;replace hh:=show Hp w (.blk b5 28 [.bool false,.string (sN r)] (0,0)::.blk b4 28 [.bool false,.string (sN q)] (0,0)::_) _ from hh;refine fa ?_;refine Gj lb.out rfl rfl U' ?_;refine fa ?_;exact zW3
 |true=>
  have e3:iv true a= -(bN a:Int):=by unfold iv;rw[J' rfl]
  by_cases hr0:r=0
  .have hemp:sN r=ByteArray.mk #[]:=by rw[hr0,Vh]
   have q1:=ml (iv true a) (bN b) (-(q:Int)) 0 (by rw[e3,<-hdm',hr0,m7];omega) Z' Z';rw[q1];have hng:=λw1=>Fg false (sN q) w1;have hfm:=λw1=>Oe (iN (-(q:Int))) (iM (-(q:Int))) w1;rw[hqv] at hng;rw[td] at hfm;refine da (N:=51) (l:=[.agg #[.bool true,.string a],.agg #[.bool false,.string b]]) func227 rfl rfl (by simp) ?_;refine SP ?_;intro b2 w2 hh b3 w3 hh b4 w4 hh b5 w5 hh;refine Oa hh (hdv _) rfl ?_;intro w14 hh;refine Sb ?_;intro ws hh ws hh;replace hh:=show Hp w (.blk b5 28 [.bool false,.string (sN r)] (0,0)::.blk b4 28 [.bool false,.string (sN q)] (0,0)::_) _ from hh;refine fa ?_
   (first|refine vf rfl rfl (by first|rfl|assumption|decide) U' ?_|refine uf rfl rfl (by first|assumption|decide) U' ?_)
   refine fa ?_;exact aaI
  have hemp:¬sN r=ByteArray.mk #[]:=λh=>hr0 (IB (h.trans Vh.symm));have q1:=ml (iv true a) (bN b) (-((q:Int)+1)) ((bN b:Int)-(r:Int)) (by rw[e3,<-hdm',m7,Int.mul_add];omega) Z' Z';rw[q1];have hqz:(sN q).size<=10000000:=by rw[lh,<-hq];have:=Dc (S9 (l8 (bN a) (bN b)) (Tb (bN a)));omega
  have hrz:(sN r).size<=10000000:=by rw[lh,<-hr];have:=Dc (S9 (Nat.mod_le (bN a) (bN b)) (Tb (bN a)));omega
  have e1:([IR.mk false (sN q),iR 1].map IR.v).sum=(q:Int)+1:=(by exact I0);have hof:=λw1=>sj 1 w1 U' U';have had:=λA w1 h1=>mm A 2 2 [IR.mk false (sN q),iR 1] w1 h1 U' (by intro x hx;obtain rfl|hx:=S_.1 hx;exact(show(sN q).size<=100000000 by omega);rw[T_.1 hx];exact(by decide+kernel));rw[e1] at had;have hsb:=λw1=>Kj false false b (sN r) w1 Z' Z';have hng:=λw1=>Fg (iN ((q:Int)+1)) (iM ((q:Int)+1)) w1;rw[td] at hng;have hfm:=λw1=>Oe (iN (-((q:Int)+1))) (iM (-((q:Int)+1))) w1;rw[td] at hfm;refine da (N:=51) (l:=[.agg #[.bool true,.string a],.agg #[.bool false,.string b]]) func227 rfl rfl (by simp) ?_;refine SP ?_;intro b2 w2 hh b3 w3 hh b4 w4 hh b5 w5 hh;refine Oa hh (hdv _) rfl ?_;intro w14 hh;refine Sb ?_;intro ws hh ws hh;replace hh:=show Hp w (.blk b5 28 [.bool false,.string (sN r)] (0,0)::.blk b4 28 [.bool false,.string (sN q)] (0,0)::_) _ from hh;refine fa ?_
  (first|refine vf rfl rfl (by first|rfl|assumption|decide) U' ?_|refine uf rfl rfl (by first|assumption|decide) U' ?_)
  refine fa ?_;refine Ca 2 [[(4,none)],[]] [(1,33),(0,32)] hh mixed T' ?_;refine Vd 1 [_,_] ?_;refine dC (λ_ hj=>hof _) ?_;refine xa ?_;intro f W hJ hV;have hb_6:=hJ.bl;obtain⟨v33,v32,_⟩:=hV;replace hh:=hJ.hp;refine Da (Na (aa v33 (aa v32 Ea))) ?_;dsimp only[Bb];clear hJ;refine jE ?_;intro b34 w34 hh;refine Oa hh (had _ _ (hh.ra (i:=0) rfl)) rfl ?_;intro w35 hh;refine Jb ?_;intro ws hh;refine Oa hh (hsb _) rfl ?_;intro w40 hh;refine Jb ?_;intro ws hh;refine Gj lb.out rfl rfl U' ?_;refine fa ?_;refine Oa hh (hng _) rfl ?_;intro w47 hh;refine Jb ?_;intro ws hh;exact zW9
def xD(a b:NR)(p:Int):Int:=if 0<=a.e-b.e+p then a.i*2^(a.e-b.e+p).toNat else a.i
def GB(a b:NR)(p:Int):Int:=if 0<=a.e-b.e+p then b.i else b.i*2^(-(a.e-b.e+p)).toNat
def TP(a b:NR)(p:Int):Int:=if GB a b p<0 then -xD a b p / -GB a b p else xD a b p/GB a b p
def gW(x y:Dyadic)(p:Int):Dyadic:=Dyadic.ofIntWithPrec (TP (nR x) (nR y) p) p
def ach(i j p:Int):Dyadic.ofIntWithPrec i p<=Dyadic.ofIntWithPrec j p↔i<=j:=by
 have h:=Tp j i p;constructor
 .intro h1;have:¬Dyadic.ofIntWithPrec j p<Dyadic.ofIntWithPrec i p:=by grind
  rw[h] at this;omega
 intro h1;have:¬Dyadic.ofIntWithPrec j p<Dyadic.ofIntWithPrec i p:=by rw[h];omega
 grind
def UN(x y:Dyadic)(p:Int):∃K:Int,x=Dyadic.ofIntWithPrec (xD (nR x) (nR y) p) (p+K)/\y=Dyadic.ofIntWithPrec (GB (nR x) (nR y) p) K:=by
 have hx:=Za x;have hy:=Za y;unfold NR.ma at hx hy;generalize nR x=a at*;generalize nR y=b at*;subst hx hy;unfold xD GB;by_cases h:0<=a.e-b.e+p
 .rw[J' h,J' h];exact⟨-b.e,Bg _ Z',rfl⟩
 rw[L' h,L' h];exact⟨-a.e-p,J_ _ Z',Bg _ Z'⟩
def hO{ro:Mode}{Q:Kq}{a c:Code}(mods:List Nat)(s0 s1:Nat)(J:Value->Value->World->Prop)(hc:WC ro P N a (re (λρ2 w2=>J (ρ2 s0) (ρ2 s1) w2/\Jg mods ρ2 ρ) Q) ρ w)(hn:∀ρ' v0 v1 w',J v0 v1 w'->WC ro P N c Q (sc (sc (mask mods ρ' ρ) s0 v0) s1 v1) w'):WC ro P N (.seq a c) Q ρ w:=
 mb (hc.mono λe ρ2 w2 hq=>by
  cases e with
  |normal=>
   have:=hn ρ2 (ρ2 s0) (ρ2 s1) w2 hq.1;rwa[Ug hq.2,Le,Le] at this
  |_=>exact hq)
def Mi(z:Int)(k:Nat):Sa (z*2^k).natAbs<=Sa z.natAbs+k:=by
 rw[U8,X7];exact Xg _ _
def AE(s:Bool)(a:ByteArray)(d:Nat)(h:a.size<=n):(iM (iv s a/(d:Int))).size<=n:=by
 have h1:=mh s a;have h3:Sa (iv s a/(d:Int)).natAbs<=Sa (iv s a).natAbs:=Dc (S9 (y7 _ _) (Tb _));rw[Lc];omega
def abq{x y:Dyadic}{p:Int}(h0:y≠0):GB (nR x) (nR y) p≠0:=λh=>by
 obtain⟨K,_,h2⟩:=UN x y p;rw[h,Zh] at h2;exact h0 h2
def Bu(x y:Dyadic)(p:Int)(w:World)(hT:Sc w)(hx:(nR x).ok)(hy:(nR y).ok)(h0:y≠0)(hp1: -1000<=p)(hp2:p<=1000):Calls prog 155 #[.agg #[.bool (nR x).neg,.string (nR x).Qa,.int .i64 (nR x).e],.agg #[.bool (nR y).neg,.string (nR y).Qa,.int .i64 (nR y).e],.int .i64 p] w λr w'=>r=.returned (.agg #[.bool (nR (gW x y p)).neg,.string (nR (gW x y p)).Qa,.int .i64 (nR (gW x y p)).e])/\Below w.heap.size w w':=by
 have hh:=Hp.start w;have hD0:=abq (x:=x) (p:=p) h0;unfold gW;have ba:=mh (nR x).neg (nR x).Qa;have bb:=mh (nR y).neg (nR y).Qa;obtain⟨a1,a2,a3⟩:=hx;obtain⟨c1,c2,c3⟩:=hy;generalize nR x=a at*;generalize nR y=b at*;obtain⟨n,hn⟩:∃n,n=a.e-b.e+p:=⟨_,rfl⟩;have hsa:=λw1 hT1=>ni a.neg a.Qa n w1 hT1 Z' Z' Z';have hsb:=λw1 hT1=>ni b.neg b.Qa (-n) w1 hT1 Z' Z' Z';refine da (N:=51) (l:=[.agg #[.bool a.neg,.string a.Qa,.int .i64 a.e],.agg #[.bool b.neg,.string b.Qa,.int .i64 b.e],.int .i64 p]) func155 rfl rfl (by simp) ?_;refine sr ?_;refine YD hh [_,_,_] ?_;intro b3 w3 hh;refine YD hh [_,_,_] ?_;intro b4 w4 hh;refine sw hh ?_;intro b6 w6 hh;refine ua (sr (Hu ?_));refine xm hh 2 ?_;refine Hu ?_;refine xm hh 1 ?_;refine Rp (mI ?_);refine lj (aI (ua ?_));rw[<-hn];refine hO [8,9,20,21,22,23] 8 9 (λu v w'=>∃b8 b9,u=.pointer (some ⟨b8,0,none⟩)/\v=.pointer (some ⟨b9,0,none⟩)/\Hp w [.blk b9 28 [.bool b.neg,.string b.Qa] (0,0),.blk b8 28 [.bool a.neg,.string a.Qa] (0,0),.blk b6 30 [.bool false,.string (ByteArray.mk #[]),.int .i64 0] (0,0)] w') ?_ ?_
 .refine cI [4,5] [2,3] [0,1,0,4,0,0,51,127] 6 [[(3,none)],[(20,some 0)],[(4,none)],[(22,some 2)],[],[]] [(5,9),(4,8),(3,23),(2,22),(1,21),(0,20)] [([],3,[(5,9),(4,8),(1,21),(0,20)]),([2],2,[(5,9),(4,8),(2,22),(1,21),(0,20)]),([2,3],1,[(5,9),(4,8),(3,23),(2,22),(1,21),(0,20)])] hh mixed T' T' U' (xi rfl ya.out (xi rfl ya.out Pd)) rfl ?_;refine yd ?_;refine Vd 2 [_,_] ?_;refine yd ?_;refine Vd 1 [_,_] ?_;refine Va (i:=4) (Gc _ 28 _) Gc.ext (λρ1 w1 hj hR=>Ui ya.out hj.bl (λv w2 h hb=>⟨hb,h⟩)) ?_;refine Va (i:=5) (Gc _ 28 _) Gc.ext (λρ1 w1 hj hR=>Ui ya.out hj.bl (λv w2 h hb=>⟨hb,h⟩)) ?_;refine xa ?_;intro p_ hp_;simp only[S_,O9,or_false] at hp_;obtain rfl|rfl|rfl:=hp_
  .intro f W hJ hV hD;have hb_2:=hJ.bl;obtain⟨v9,v8,v21,v20,_⟩:=hV;simp only[Hf];have e20:f 0=_:=v20;rw[e20];have e21:f 1=_:=v21;rw[e21];obtain⟨b8,e8,hl8,hc8⟩:Gc _ _ _ (f 4) W:=v8;obtain⟨b9,e9,hl9,hc9⟩:Gc _ _ _ (f 5) W:=v9;have hne:=tC (hD 4 U' 5 U' U' U' U') e8 e9;replace hh:=hJ.TD hh hl8 hc8 hl9 hc9 hne;clear hD hne;rw[e8,e9];clear e20 e21 e8 e9 hJ;refine rf hh 1 [_,_] ?_;intro ws hh;replace hh:Hp _ (_::.blk _ _ [_,_] _::_) _:=hh;refine Yc ?_;refine ze (i:=2) T' rfl ?_;refine Hu ?_;exact F0
  .intro f W hJ hV hD;have hb_2:=hJ.bl;obtain⟨v9,v8,v22,v21,v20,_⟩:=hV;simp only[Hf];have e20:f 0=_:=v20;rw[e20];have e21:f 1=_:=v21;rw[e21];have e22:f 2=_:=v22;rw[e22];obtain⟨b8,e8,hl8,hc8⟩:Gc _ _ _ (f 4) W:=v8;obtain⟨b9,e9,hl9,hc9⟩:Gc _ _ _ (f 5) W:=v9;have hne:=tC (hD 4 U' 5 U' U' U' U') e8 e9;replace hh:=hJ.TD hh hl8 hc8 hl9 hc9 hne;clear hD hne;rw[e8,e9];clear e20 e21 e22 e8 e9 hJ;refine rf hh 1 [_,_] ?_;intro ws hh;replace hh:Hp _ (_::.blk _ _ [_,_] _::_) _:=hh;exact F0
  intro f W hJ hV hD;have hb_2:=hJ.bl;obtain⟨v9,v8,v23,v22,v21,v20,_⟩:=hV;simp only[Hf];have e20:f 0=_:=v20;rw[e20];have e21:f 1=_:=v21;rw[e21];have e22:f 2=_:=v22;rw[e22];have e23:f 3=_:=v23;rw[e23];obtain⟨b8,e8,hl8,hc8⟩:Gc _ _ _ (f 4) W:=v8;obtain⟨b9,e9,hl9,hc9⟩:Gc _ _ _ (f 5) W:=v9;have hne:=tC (hD 4 U' 5 U' U' U' U') e8 e9;replace hh:=hJ.TD hh hl8 hc8 hl9 hc9 hne;clear hD hne;rw[e8,e9];clear e20 e21 e22 e23 e8 e9 hJ;refine rf hh 1 [_,_] ?_;intro ws hh;replace hh:Hp _ (_::.blk _ _ [_,_] _::_) _:=hh;exact adJ
 rintro ρ' _ _ w' ⟨b8,b9,rfl,rfl,hh⟩;refine Qs [24,25,26,27,28,29,30,31,32] (λw'=>∃s1 m1 s2 m2,Hp w [.blk b9 28 [.bool s2,.string m2] (0,0),.blk b8 28 [.bool s1,.string m1] (0,0),.blk b6 30 [.bool false,.string (ByteArray.mk #[]),.int .i64 0] (0,0)] w'/\iv s1 m1=xD a b p/\iv s2 m2=GB a b p/\m1.size<=9000000/\m2.size<=9000000) ?_ ?_
 .by_cases h0:0<=n
  .refine fa ?_;refine Oa hh (hsa _ (hT.ext hh.below)) rfl ?_;intro w28 hh;refine Jb ?_;intro ws hh;refine⟨⟨_,_,_,_,hh, ?_, ?_, ?_, ?_⟩, ?_⟩
   .rw[td];unfold xD Sy;rw[<-hn,J' h0,J' h0];rfl
   .unfold GB;rw[<-hn,J' h0];rfl
   .rw[Lc,Sy,J' h0];have:=Mi (iv a.neg a.Qa) n.toNat;omega
   .omega
   repeat refine Wc rfl ?_
   exact λ_ _=>rfl
  refine fa ?_;refine Oa hh (hsb _ (hT.ext hh.below)) rfl ?_;intro w32 hh;refine Jb ?_;intro ws hh;refine⟨⟨_,_,_,_,hh, ?_, ?_, ?_, ?_⟩, ?_⟩
  .unfold xD;rw[<-hn,L' h0];rfl
  .rw[td];unfold GB Sy;rw[<-hn,L' h0,J' Z'];rfl
  .omega
  .rw[Lc,Sy,J' Z'];have:=Mi (iv b.neg b.Qa) (-n).toNat;omega
  repeat refine Wc rfl ?_
  exact λ_ _=>rfl
 rintro ρ' w' ⟨s1,m1,s2,m2,hh,e1,e2,z1,z2⟩;rw[<-e2] at hD0;unfold TP;rw[<-e1,<-e2];refine Qs [33,34,35,36,37,38,39] (λw'=>∃s1' m1' m2',Hp w [.blk b9 28 [.bool false,.string m2'] (0,0),.blk b8 28 [.bool s1',.string m1'] (0,0),.blk b6 30 [.bool false,.string (ByteArray.mk #[]),.int .i64 0] (0,0)] w'/\(if iv s2 m2<0 then -iv s1 m1 / -iv s2 m2 else iv s1 m1/iv s2 m2)=iv s1' m1'/bN m2'/\bN m2'≠0/\m1'.size<=9000000/\m2'.size<=9000000) ?_ ?_
 .by_cases hD:iv s2 m2<0
  .have hs:(iv s2 m2).sign= -1:=E8 hD;have hng:=λw1=>Fg s1 m1 w1;have hng2:=λw1=>Fg s2 m2 w1;have ef:iN (-(iv s2 m2))=false:=by unfold iN;exact O_ Z'
   have eb:(bN (iM (-(iv s2 m2))):Int)= -(iv s2 m2):=(by have:=td (-(iv s2 m2));rw[ef] at this;exact this);rw[ef] at hng2;refine fa ?_;refine Oa hh (Ig s2 m2 _) rfl ?_;intro w34 hh;rw[hs];refine fa ?_;refine Ca 3 [[(8,none)],[(36,some 0)],[(9,none)]] [(2,38),(1,37),(0,36)] hh mixed T' ?_;refine Vd 1 [_,_] ?_;refine dC (λ_ hj=>hng _) ?_;refine Vd 0 [_,_] ?_;refine xa ?_;intro f W hJ hV;have hb_7:=hJ.bl;obtain⟨v38,v37,v36,_⟩:=hV;replace hh:=hJ.hp;refine Da (Na (aa v38 (aa v37 (aa v36 Ea)))) ?_;dsimp only[Bb];clear hJ;refine Oa hh (hng2 _) rfl ?_;intro w39 hh;refine Sb ?_;intro ws hh ws hh;refine⟨⟨_,_,_,hh, ?_, ?_, ?_, ?_⟩, ?_⟩
   .rw[J' hD,td,eb]
   .omega
   .exact N_ (fk _ _) z1
   .exact N_ (fk _ _) z2
   repeat refine Wc rfl ?_
   exact λ_ _=>rfl
  have hp:0<iv s2 m2:=Z';have hs:(iv s2 m2).sign=1:=G8 hp
  cases s2 with
  |true=>unfold iv at hp;rw[J' rfl] at hp;omega
  |false=>
   have eb:iv false m2=(bN m2:Int):=rfl;refine fa ?_;refine Oa hh (Ig false m2 _) rfl ?_;intro w34 hh;rw[hs];refine fa ?_;refine⟨⟨_,_,_,hh, ?_, ?_, ?_, ?_⟩, ?_⟩
   .rw[L' hD,eb]
   .omega
   .exact z1
   .exact z2
   repeat refine Wc rfl ?_
   exact λ_ _=>rfl
 rintro ρ' w' ⟨s3,m3,m4,hh,e3,hb0,z3,z4⟩;rw[e3];refine fa ?_;refine qa (Jy s3 m3 m4 _ Z' Z' hb0) ja.out rfl U' ?_;rintro e_ w43 ⟨x,y,rfl,hb_⟩;refine⟨_,rfl, ?_⟩;replace hh:=hh.ext hb_;refine SP ?_;intro b10 w10 hh b11 w11 hh ws hh ws hh;have hq:(iM (iv s3 m3/bN m4)).size<=9000000:=AE s3 m3 _ z3;refine Oa hh (Bf (iN (iv s3 m3/bN m4)) (iM (iv s3 m3/bN m4)) (-p) _ (hT.hp hh) Z' Z' Z') rfl ?_;intro w50 hh;refine Jb ?_;intro ws hh;refine jP (qd rfl (pd (vs:=[_,_,_]) ya.out (hh.pb (i:=4) (n:=3) rfl rfl) rfl) Be) ?_;exact⟨by rw[td,Y6],hh.below⟩
def KH(x y:Dyadic)(p:Int):SR:=⟨nR (gW x y p),nR (-gW (-x) y p)⟩
def RN(a b:NR)(p:Int)(w:World)(hT:Sc w)(ha:a.ok)(hb:b.ok)(hx:(nR a.ma).ok)(hx':(nR (-a.ma)).ok)(hy:(nR b.ma).ok)(h0:b.ma≠0)(hq:(nR (gW (-a.ma) b.ma p)).ok)(hp1: -1000<=p)(hp2:p<=1000):Calls prog 90 #[.agg #[.bool a.neg,.string a.Qa,.int .i64 a.e],.agg #[.bool b.neg,.string b.Qa,.int .i64 b.e],.int .i64 p] w λr w'=>r=.returned (.tuple #[.agg (SR.cells (KH a.ma b.ma p)).toArray,.int .i64 0])/\Below w.heap.size w w':=by
 have hh:=Hp.start w;obtain⟨a1,a2,a3⟩:=ha;obtain⟨c1,c2,c3⟩:=hb;have ht:=λw1 hT1=>Ed a w1 hT1 Z' Z' Z';have ht2:=λw1 hT1=>Ed b w1 hT1 Z' Z' Z';have hs0:¬(nR b.ma).i.sign=0:=λh=>(by rw[NR.sign,Za] at h;have h1:=(yv b.ma 0);have h2:=(Ev b.ma 0);rw[h] at h1 h2;have h3:¬b.ma<0:=λh=>absurd (h1.2 h) U';have h4:¬0<b.ma:=λh=>absurd (h2.2 h) U';exact h0 (by grind));have hn1:=λw1 hT1=>Hi (nR a.ma) w1 hT1 (by have:=hx.1;omega) (by have:=hx.2.1;omega) (by have:=hx.2.2;omega);have hn2:=λw1 hT1=>Hi (nR (gW (-a.ma) b.ma p)) w1 hT1 (by have:=hq.1;omega) (by have:=hq.2.1;omega) (by have:=hq.2.2;omega);rw[Za] at hn1 hn2;have hl1:=λw1 hT1=>Bu a.ma b.ma p w1 hT1 hx hy h0 hp1 hp2;have hl2:=λw1 hT1=>Bu (-a.ma) b.ma p w1 hT1 hx' hy h0 hp1 hp2;refine da (N:=27) (l:=[.agg #[.bool a.neg,.string a.Qa,.int .i64 a.e],.agg #[.bool b.neg,.string b.Qa,.int .i64 b.e],.int .i64 p]) func90 rfl rfl (by simp) ?_;refine Dm ?_;intro b3 w3 hh b4 w4 hh b6 w6 hh;refine Ca 3 [[(3,none)],[(8,some 0)],[(4,none)]] [(2,10),(1,9),(0,8)] hh mixed T' ?_;refine Vd 2 [_,_,_] ?_;refine dC (λ_ hj=>ht _ (hT.hp hj.hp)) ?_;refine Vd 1 [_,_,_] ?_;refine xa ?_;intro f W hJ hV;have hb_1:=hJ.bl;obtain⟨v10,v9,v8,_⟩:=hV;replace hh:=hJ.hp;refine Da (Na (aa v10 (aa v9 (aa v8 Ea)))) ?_;dsimp only[Bb];clear hJ;refine Oa hh (ht2 _ (hT.hp hh)) rfl ?_;intro w11 hh;refine Sb ?_;intro ws hh ws hh;refine Oa hh (Pc (nR b.ma) _) rfl ?_;intro w13 hh;refine fa ?_
 refine Ca 8 [[(3,none)],[(4,none)],[(2,none)],[(16,some 0),(17,some 1),(18,some 2)],[(3,none)],[(20,some 4)],[(4,none)],[(2,none)]] [(7,23),(6,22),(5,21),(4,20),(3,19),(2,18),(1,17),(0,16)] hh mixed T' ?_;refine Vd 2 [_,_,_] ?_;refine Vd 1 [_,_,_] ?_;refine cd ?_;refine dC (λ_ hj=>hl1 _ (hT.hp hj.hp)) ?_;refine Vd 2 [_,_,_] ?_;refine dC (λ_ hj=>hn1 _ (hT.hp hj.hp)) ?_;refine Vd 1 [_,_,_] ?_;refine cd ?_;refine xa ?_;intro f W hJ hV;have hb_4:=hJ.bl;obtain⟨v23,v22,v21,v20,v19,v18,v17,v16,_⟩:=hV;replace hh:=hJ.hp;refine Da (Na (aa v23 (aa v22 (aa v21 (aa v20 (aa v19 (aa v18 (aa v17 (aa v16 Ea))))))))) ?_;dsimp only[Bb];clear hJ;refine Oa hh (hl2 _ (hT.hp hh)) rfl ?_;intro w24 hh;refine Oa hh (hn2 _ (hT.hp hh)) rfl ?_;intro w25 hh;refine Jb ?_;intro ws hh;refine bV (qd rfl (pd (vs:=[_,_,_,_,_,_]) ya.out (hh.pb (i:=0) (n:=6) rfl rfl) rfl) (gh (ej rfl) Be)) ?_;exact⟨rfl,hh.below⟩
def J0(l:List SR):List NR:=l.flatMap λs=>[s.lo,s.hi]
def G0(l:List SR):SR:=⟨nR (vg (λx y=>decide (x<y)) ((J0 l).map NR.ma)),nR (vg (λx y=>decide (y<x)) ((J0 l).map NR.ma))⟩
def tw(out:Int):List Int->Int
 |[]=>out
 |s::r=>if out=2\/out=s then tw s r else 0
def Pj(l:List NR):Int:=tw 2 (l.map λa=>a.i.sign)
def VE(L:Option Addr)(n c:Nat)(l:List NR)(w:World)(hS:Sl w L n 3 (na NR.cells l))(hn:n<=1000000):Calls prog 154 #[.slice L n c] w λr w'=>r=.returned (.int .i64 (Pj l))/\Below w.heap.size w w':=by
 have hh:=Hp.start w;have hln:=hS.Fa NR.len U';refine da (N:=23) (l:=[.slice L n c]) func154 rfl rfl (by simp) ?_;refine fa ?_;refine Ra [2,3,5,6,9,10,11,12,13,14,15,16,17,18,19,20,21] 3 9 (λv3 v w'=>∃(i:Nat)(o:Int),i<=n/\v=.int .i64 i/\v3=.int .i64 o/\Pj l=tw o ((l.drop i).map λa=>a.i.sign)/\ -2<=o/\o<=2/\Hp w [] w') (λ_ v _=>n-(intOf v).toNat) ?_ ?_
 .exact⟨0,2,D' _,rfl,rfl,rfl,U',U',hh⟩
 clear hh;rintro ρ' v3 v w' ⟨i,o,hi,rfl,rfl,hs0,ho1,ho2,hh⟩;by_cases hlt:i<n
 .obtain⟨a,ha⟩:=ea (l:=l) (k:=i) Z';obtain⟨ad,rfl,hr⟩:=hS.at_ Z';rw[m8 Z',(X_.1 ha).2,q_,tw] at hs0;have hb:=nk a.i;by_cases h2:o=2
  .rw[J' (.inl h2)] at hs0;exact XZ
  by_cases h3:o=a.i.sign
  .rw[J' (.inr h3)] at hs0;exact XZ
  rw[L' Z'] at hs0;refine fa ?_;refine wb (vs:=[_,_,_]) ya.out rfl ((hr.ext hh.below).recAt NR.len ha) rfl U' ?_;refine Sb ?_;intro b5 w5 hh ws hh;refine Oa hh (Pc a _) rfl ?_;intro w14 hh;generalize a.i.sign=g at*;refine fa ?_;exact⟨by rw[hs0],hh.below⟩
 obtain rfl:i=n:=Z';rw[F5 Z'] at hs0;refine fa ?_;exact⟨by rw[hs0];rfl,hh.below⟩
def Gu(f:FX)(k:Nat)(w:World)(hT:Sc w)(h:f.at_ w)(hl:f.Zg k)(he:f.e=0):Calls prog 89 #[.agg #[.slice f.A f.n f.a,.slice f.B f.m f.b]] w λr w'=>r=.returned (.tuple #[.int .i64 (Pj f.cs),.int .i64 0])/\Below w.heap.size w w':=by
 have hh:=Hp.start w;have hc:=λw1 hT1 hb1=>vm f k w1 hT1 (h.ext hb1) hl;rw[he] at hc;refine da (N:=13) (l:=[.agg #[.slice f.A f.n f.a,.slice f.B f.m f.b]]) func89 rfl rfl (by simp) ?_;refine Jb ?_;intro b1 w1 hh;refine vx ?_;intro w6 hh;refine fa ?_;refine Oa hh (VE f.B f.m f.b f.cs _ (h.nm.ext hh.below) (by have:=hl.m60;omega)) rfl ?_;intro w12 hh;refine fa ?_;exact⟨rfl,hh.below⟩
def Lr(p:Int×Int):Bool:=decide (p.2<p.1\/127<p.2)
variable {es:List Int}
def NO(ds es:List Int):Int:=if es.length≠ds.length then 1 else if(ds.zip es).any Lr=true then 1 else if 4096<la (es.map Int.toNat) then 3 else 0
def Oh(a b:List Nat):List Nat:=List.zipWith (· - ·) a b
def UC(ns ts:List Nat)(xs:List Dyadic):List Dyadic:=nK ns (Oh ts ns) xs ((VD (Oh ts ns)).map nD)
def NB:∀{ns ts:List Nat},ns.length=ts.length->(∀(i n t:Nat),ns[i]?=some n->ts[i]?=some t->n<=t)->je ns (Oh ts ns)=ts
 |[],[],_,_=>rfl
 |[],_::_,h,_=>by simp at h
 |_::_,[],h,_=>by simp at h
 |n::ns,t::ts,h,h2=>(by have h0:=h2 0 n t rfl rfl;have ih:=NB (ns:=ns) (ts:=ts) (by simpa using h) λi a b ha hb=>h2 (i+1) a b ha hb;show(n+(t-n))::je ns (Oh ts ns)=_;rw[ih,show n+(t-n)=t by omega])
def jt:∀{a b:List Nat},a.length=b.length->(∀(i x y:Nat),a[i]?=some x->b[i]?=some y->x<=y)->la a<=la b
 |[],[],_,_=>j' _
 |[],_::_,h,_=>by simp at h
 |_::_,[],h,_=>by simp at h
 |x::a,y::b,h,h2=>(by have h0:=h2 0 x y rfl rfl;rw[la,la];exact o9 Z' (jt (by simpa using h) λi p q hp hq=>h2 (i+1) p q hp hq))
def nL{a b:List Nat}{i x y:Nat}(h1:a[i]?=some x)(h2:b[i]?=some y):(Oh a b)[i]?=some (x-y):=by
 unfold Oh;rw[L8,h1,h2]
def gH{a b:List Nat}(h:a.length=b.length):(Oh a b).length=a.length:=by simp[Oh,h]
def dif(es ds:List Int):List Int:=List.zipWith (· - ·) es ds
def acj{ds:List Int}{i:Nat}{x y:Int}(h1:es[i]?=some x)(h2:ds[i]?=some y):(dif es ds)[i]?=some (x-y):=by
 unfold dif;rw[L8,h1,h2]
def GL:∀{ts ns:List Nat},ns.length=ts.length->(∀(i n t:Nat),ns[i]?=some n->ts[i]?=some t->n<=t)->dif (Ua ts) (Ua ns)=Ua (Oh ts ns)
 |[],[],_,_=>rfl
 |[],_::_,h,_=>by simp at h
 |_::_,[],h,_=>by simp at h
 |t::ts,n::ns,h,h2=>(by have h0:=h2 0 n t rfl rfl;have ih:=GL (ns:=ns) (ts:=ts) (by simpa using h) λi a b ha hb=>h2 (i+1) a b ha hb;show((t:Int)-(n:Int))::dif (Ua ts) (Ua ns)=((t-n:Nat):Int)::Ua (Oh ts ns);rw[ih,show(t:Int)-(n:Int)=((t-n:Nat):Int) by omega])
def aba{ns:List Nat}(hl:es.length=(Ua ns).length)(hb:((Ua ns).zip es).any Lr=false):∃ts:List Nat,es=Ua ts/\ns.length=ts.length/\(∀(i n t:Nat),ns[i]?=some n->ts[i]?=some t->n<=t)/\∀t∈ts,t<=127:=by
 have key:∀(i:Nat)(d:Int),es[i]?=some d->∃n,ns[i]?=some n/\(n:Int)<=d/\d<=127:=λi d hd=>(by have hi:=(X_.1 hd).1;rw[hl,Ic] at hi;obtain⟨n,hn⟩:=ea hi;have hz:((n:Int),d)∈(Ua ns).zip es:=G' (i:=i) (by rw[V6];exact⟨He hn,hd⟩);have:=p9.1 hb _ hz;simp[Lr] at this;exact⟨n,hn,Z',Z'⟩);refine⟨es.map Int.toNat, ?_,by rw[i',hl,Ic],λi n t hn ht=> ?_,λt ht=> ?_⟩
 .unfold Ua;rw[Z9];refine(C6 es).symm.trans (y8 λd hd=> ?_);obtain⟨i,hi⟩:=j_.1 hd;obtain⟨n,_,h1,_⟩:=key i d hi;show d=((d.toNat:Nat):Int);omega
 .rw[V_] at ht
  cases hd:es[i]? with
  |none=>rw[hd] at ht;cases ht
  |some d=>
   rw[hd] at ht;obtain rfl:d.toNat=t:=by simpa using ht
   obtain⟨n',hn',h1,_⟩:=key i d hd;rw[hn] at hn';obtain rfl:=L_ hn';omega
 obtain⟨d,hd,rfl⟩:=Z_.1 ht;obtain⟨i,hi⟩:=j_.1 hd;obtain⟨n,_,h1,h2⟩:=key i d hi;omega
def Dh(ts:List Nat):(Ua ts).map Int.toNat=ts:=by
 unfold Ua;rw[Z9];exact C6 ts
def IU(e:Int):Ending:=.returned (.tuple #[.agg #[.slice none 0 0,.slice none 0 0],.int .i64 e])
def uD{ds:List Int}{i:Nat}{d e:Int}(h:((ds.take i).zip (es.take i)).any Lr=false)(hd:ds[i]?=some d)(he:es[i]?=some e)(hb:Lr (d,e)=false):((ds.take (i+1)).zip (es.take (i+1))).any Lr=false:=by
 rw[oa hd,oa he,List.zip_append (by have:=(X_.1 hd).1;have:=(X_.1 he).1;simp;omega),n7,h];show(false||([(d,e)].any Lr))=false;rw[x7,hb];rfl
def eC(f:FX)(E:Option Addr)(q cE:Nat)(es:List Int)(k:Nat)(w:World)(hT:Sc w)(hf:f.at_ w)(hl:f.Zg k)(hE:Sl w E q 1 (jb es))(hq:q<=1000)(hk:k<=90000) (hM:f.e=0->NO f.ds es=0->la (es.map Int.toNat)*la (f.ds.map Int.toNat)<=1000000):Calls prog 226 #[.agg #[.slice f.A f.n f.a,.slice f.B f.m f.b],.slice E q cE] w λr w'=>((f.e≠0/\r=IU f.e\/f.e=0/\NO f.ds es≠0/\r=IU (NO f.ds es))/\Below w.heap.size w w')\/(f.e=0/\NO f.ds es=0/\∃(A:Option Addr)(a:Nat)(B:Option Addr)(b:Nat),r=.returned (.tuple #[.agg #[.slice A q a,.slice B (la (es.map Int.toNat)) b],.int .i64 0])/\Hp w [.row B (la (es.map Int.toNat)) b 30 3 (na NR.cells ((UC (f.ds.map Int.toNat) (es.map Int.toNat) (f.cs.map NR.ma)).map nR)),.row A q a 3 1 (jb es)] w'):=by
 have hh:=Hp.start w;have hln:f.ds.length=f.n:=by have:=hf.dg.1;simpa[jb] using this
 have hlq:es.length=q:=by have:=hE.1;simpa[jb] using this
 have hlm:=hf.nm.Fa NR.len U';have hck:=λw1 hT1 hb=>vm f k w1 hT1 (hf.ext hb) hl;have hn20:=hl.n20;by_cases h0:f.e=0
 .by_cases h1:q=f.n
  .obtain⟨ns,xs,hv,hxs⟩:=aa2 h0;refine zU ?_;refine Sb ?_;intro b2 w2 hh b4 w4 hh;refine bh ?_;intro w11 hh;refine Sb ?_;intro b7 w7 hh ws hh;replace hh:=hh.Lb 3 1;refine Ba [5,8,9,26,27,28,29,30,31,32,33,34,35,36,37,38,39,40,41,42,43,44,45,46,47,48,49,50,51,52,53,54,55] 26 (λv w'=>∃(i c7:Nat)(A:Option Addr),i<=q/\v=.int .i64 i/\((f.ds.take i).zip (es.take i)).any Lr=false/\Hp w [.row A i c7 3 1 (jb ((dif es f.ds).take i)),.blk b7 78 [.slice A i c7,.slice none 0 0] (0,0),.blk b4 78 [.slice none 0 0,.slice none 0 0] (0,0),.blk b2 78 [.slice f.A f.n f.a,.slice f.B f.m f.b] (0,0)] w') (λv _=>q-(intOf v).toNat) ?_ ?_
   .exact⟨0,0,none,D' _,rfl,rfl,hh⟩
   clear hh;rintro ρ' v w' ⟨i,c7,A,hi,rfl,hall,hh⟩;by_cases hlt:i<q
   .obtain⟨d,hd⟩:=ea (l:=f.ds) (k:=i) Z';obtain⟨e,he⟩:=ea (l:=es) (k:=i) Z';have hgd:=Uc hd;have hge:=Uc he;have hde:=acj he hd;obtain⟨a1,hA1,s1⟩:=hf.dg.at_ Z';obtain⟨a2,rfl,s2⟩:=hE.at_ Z';have hdn:0<=d/\d<=127:=(by have hdeg:=hv.deg;rw[hdeg] at hd;have hlow:=hv.low;obtain⟨nn,hnn⟩:=ea (l:=ns) (k:=i) (by rw[<-Ic,<-hdeg,hln];omega);rw[He hnn] at hd;have:=hlow nn (G' hnn);have:=L_ hd;omega);have hbad:Lr (d,e)=true->NO f.ds es=1:=λhb=>(by unfold NO;rw[L' Z',J'];exact k9.2 ⟨(d,e),G' (i:=i) (by rw[V6];exact⟨hd,he⟩),hb⟩);rw[hA1] at hh;by_cases h2:e<d
    .have hr1:=hbad (by unfold Lr;rw[M_];exact .inl h2);exact adi
    by_cases h3:127<e
    .have hr1:=hbad (by unfold Lr;rw[M_];exact .inr h3);exact adi
    refine fa ?_;refine ub ya.out rfl ((s2.ext hh.below).aw (by assumption)) U' ?_;refine fa ?_;refine NF ?_;refine fa ?_;refine Ca 10 [[(7,none)],[(43,some 0)],[(9,none)],[(2,none)],[(46,some 3)],[(8,none)],[(47,some 4),(48,some 5)],[(49,some 6)],[(45,some 2),(50,some 7)],[(51,some 8)]] [(9,52),(8,51),(7,50),(6,49),(5,48),(4,47),(3,46),(2,45),(1,44),(0,43)] hh mixed T' ?_;refine yd ?_;refine xe 1 ?_;refine cd ?_;refine yd ?_;refine xe 3 ?_;refine cd ?_;refine jj (i) ?_;refine Wa (i:=7) (λρ1 w1 hj hR=>Tg ya.out (show ρ1 49=Value.pointer _ from hR.1) ((s1.ext hj.hp.below).aw (by assumption))) ?_;refine Tu ?_;refine qq [_] ?_;refine xa ?_;intro f W hJ hV;have hb_12:=hJ.bl;obtain⟨v52,v51,v50,v49,v48,v47,v46,v45,v44,v43,_⟩:=hV;obtain⟨A52,c52,e52,f52⟩:Rows _ _ _ (f 9) W:=v52;replace hh:=hJ.hp;refine Da (Na (aa e52 (aa v51 (aa v50 (aa v49 (aa v48 (aa v47 (aa v46 (aa v45 (aa v44 (aa v43 Ea))))))))))) ?_;dsimp only[Bb];clear e52 hJ;refine Gb hh (i:=0) rfl rfl rfl (f52) lb.out ya.out rfl U' (by first|rfl|exact Xb _|exact Nb _|exact Pa _|exact Ta NR.one _) Z' Z' U' ?_;intro A53 c53 w53 hh
    simp only[U_] at hh;refine Jb ?_;intro ws hh;rw[<-hA1] at hh;replace hh:=hh.sub (I' _ (I' _ (I' _ (I' _ H_))));refine⟨⟨i+1,c53,A53,Z',rfl,uD hall hd he (by unfold Lr;rw[O_];show ¬(e<d\/127<e);omega), ?_⟩,by show q-(i+1)<q-i;omega, ?_⟩
    .rw[oa hde,BE];exact hh
    exact Rc
   obtain rfl:i=q:=Z';rw[W_ Z',W_ Z'] at hall;have hdeg:=hv.deg;have hnum:=hv.num;have hlow:=hv.low;have hlen:=hv.len;have hfew:=hv.few;rw[hdeg] at hall hln;obtain⟨ts,rfl,hlt2,hle,ht127⟩:=aba (by rw[hln];omega) hall;have hnl:ns.length=f.n:=by rw[<-Ic];exact hln
   have htn:(Ua ts).map Int.toNat=ts:=Dh ts;have hnn:f.ds.map Int.toNat=ns:=by rw[hdeg];exact Dh ns
   have hrz:NO f.ds (Ua ts)=if 4096<la ts then 3 else 0:=(by unfold NO;rw[hdeg,L' (by rw[Ic,Ic];omega),L' (by rw[hall];decide),htn])
   rw[htn,hnn] at hM;rw[htn,hnn,hrz,<-hxs];rw[hrz] at hM;have hbig:=λw1 hS1=>vI E i cE ts w1 hS1 hq (λd hd=>by have:=ht127 d hd;omega);have hany:ts.any (λd=>decide (127<d))=false:=p9.2 λd hd=>by have:=ht127 d hd;simp;omega
   by_cases h4:4096<la ts
   .have hb1:pD ts=true:=by unfold pD;rw[M_ h4,Bool.or_true]
    rw[hb1] at hbig;rw[J' h4];refine fa ?_;refine Oa hh (hbig _ (hE.ext hh.below)) rfl ?_;intro w57 hh;refine Jb ?_;intro ws hh;refine Lk ?_;exact .inl ⟨.inr ⟨h0,U',rfl⟩,hh.below⟩
   have hb1:pD ts=false:=by unfold pD;rw[hany,O_ h4];rfl
   rw[hb1] at hbig;rw[L' h4] at hM;rw[L' h4];have hM2:=hM h0 rfl;have hsl:(Oh ts ns).length=i:=by rw[gH Z',<-Ic];exact hlq
   have hsub:∀d∈Oh ts ns,d<=127:=λd hd=>(by obtain⟨j,hj⟩:=j_.1 hd;have hj2:=(X_.1 hj).1;obtain⟨x,hx⟩:=ea (l:=ts) (k:=j) (by rw[Ic] at hlq;omega);obtain⟨y,hy⟩:=ea (l:=ns) (k:=j) Z';rw[nL hx hy] at hj;have:=ht127 x (G' hx);have:=L_ hj;omega);have hcs:la (Oh ts ns)<=la ts:=jt (by rw[hsl,<-Ic];exact hlq.symm) λj x y hx hy=>(by have hj2:=(X_.1 hx).1;obtain⟨z,hz⟩:=ea (l:=ns) (k:=j) Z';rw[nL hy hz] at hx;have:=L_ hx;omega);have hadd:je ns (Oh ts ns)=ts:=NB hlt2 hle;have hdif:dif (Ua ts) f.ds=Ua (Oh ts ns):=by rw[hdeg];exact GL hlt2 hle
   have hwn:xz (Oh ts ns)=((VD (Oh ts ns)).map nD).map nR:=by unfold xz;rw[Z9];rfl
   have hw12:(Oh ts ns).length<=12:=Z';have hwz:∀y∈(VD (Oh ts ns)).map nD,Sz 1600 y:=λy hy=>(by obtain⟨x,hx,rfl⟩:=Z_.1 hy;exact WK hx hw12 hsub);have hxz:∀x∈xs,Sz k x:=λx hx=>(by rw[hxs] at hx;obtain⟨c,hc,rfl⟩:=Z_.1 hx;exact(hl.num c hc).2);have hpair:la (Oh ts ns)*la ns<=la ts*la ns:=N9 _ hcs;have hfm:f.m=la ns:=by rw[<-hlm,hnum,i',hlen]
   have htm:=λw1 hT1 A B c3 c4 h1 h2 h3 h4'=>SC f.A f.B A B i f.a f.b c3 c4 ns (Oh ts ns) xs ((VD (Oh ts ns)).map nD) k 1600 w1 hT1 h1 h2 h3 h4' Z' hlow hsub (by rw[hadd];omega) Z' hxz hwz Z';rw[hadd] at htm;have hdg:=hf.dg;have hnm:=hf.nm;rw[hdeg] at hdg;rw[hnum,hfm] at hnm;rw[W_ (by rw[hdif,Ic];omega),hdif] at hh;rw[hfm] at hh;rw[show f.n=i by omega] at hh hdg;refine fa ?_;refine Oa hh (hbig _ (hE.ext hh.below)) rfl ?_;intro w57 hh;refine fa ?_;refine qa (On A i c7 (Oh ts ns) _ (hT.hp hh) (hh.ra (i:=0) rfl) hw12 hsub Z') ja.out rfl U' ?_;rintro e_ w61 ⟨A61,c61,rfl,hown_,hb_⟩;refine⟨_,rfl, ?_⟩;replace hh:=hh.Aa (x:=.row _ _ _ _ _ _) hb_ hown_;rw[hwn] at hh;refine Jb ?_;intro ws hh;refine qa (htm _ (hT.hp hh) _ _ _ _ (hdg.ext hh.below) (hnm.ext hh.below) (hh.ra (i:=1) rfl) (hh.ra (i:=0) rfl)) ja.out rfl U' ?_;rintro e_ w65 ⟨Ar,cr,Br,br,rfl,h2⟩;refine⟨_,rfl, ?_⟩;replace hh:=hh.join h2;clear h2;refine Jb ?_;intro ws hh;refine bV (qd rfl (pd (vs:=[_,_]) ya.out (hh.pb (i:=5) (n:=2) rfl rfl) rfl) (gh (ej rfl) Be)) ?_
   exact .inr ⟨h0,rfl,_,_,_,_,rfl,hh.sub (I' _ (I' _ (R9 _)))⟩
  have hrz:NO f.ds es=1:=by unfold NO;rw[J' Z']
  refine zU ?_;refine Sb ?_;intro b2 w2 hh b4 w4 hh;refine bh ?_;intro w11 hh;refine Jb ?_;intro ws hh;refine uu ?_;exact .inl ⟨.inr ⟨h0,by rw[hrz];decide,by rw[hrz];rfl⟩,hh.below⟩
 refine zU ?_;refine Sb ?_;intro b2 w2 hh b4 w4 hh;refine bh ?_;intro w11 hh;refine Jb ?_;intro ws hh;refine uu ?_;exact .inl ⟨.inl ⟨h0,rfl⟩,hh.below⟩
def FX.rg(f:FX):HE:=.row f.B f.m f.b 30 3 (na NR.cells f.cs)
def FX.fg(f:FX):HE:=.row f.A f.n f.a 3 1 (jb f.ds)
def Cj:List FX->List HE
 |[]=>[]
 |f::fs=>f.rg::f.fg::Cj fs
def OB(a b:List FX):Cj (a++b)=Cj a++Cj b:=by
 induction a with
 |nil=>rfl
 |cons f a ih=>rw[C',Cj,Cj,ih];rfl
def cO{f:FX}{fs:List FX}(h:f∈fs):f.rg∈Cj fs/\f.fg∈Cj fs:=by
 induction fs with
 |nil=>cases h
 |cons g fs ih=>
  obtain rfl|h:=S_.1 h
  .exact⟨q',F' _ q'⟩
  exact⟨F' _ (F' _ (ih h).1),F' _ (F' _ (ih h).2)⟩
def Hp.Hj(h:Hp w0 H w){f:FX}(h1:f.rg∈H)(h2:f.fg∈H):f.at_ w:=⟨jf (h.own _ h2),jf (h.own _ h1)⟩
def Ti(a b:List Nat):List Nat:=List.zipWith max a b
def maxD(fs:List FX):List Nat:=fs.foldl (λa f=>Ti a (f.ds.map Int.toNat)) ((fs.map λf=>f.ds.map Int.toNat).headD [])
def Mb(fs:List FX):Int:=if Mh fs≠0 then Mh fs else if 4096<la (maxD fs) then 3 else 0
def Zq{fs:List FX}(h:Mh fs=0):fs≠[]/\(∀f∈fs,f.e=0)/\∀f∈fs,f.n=(fs.map FX.n).headD 0:=by
 unfold Mh at h;exact aew
def Cn{a b:List Nat}(h:a.length=b.length):(Ti a b).length=a.length:=by simp[Ti,h]
def wC{a b:List Nat}{i x y:Nat}(h1:a[i]?=some x)(h2:b[i]?=some y):(Ti a b)[i]?=some (max x y):=by
 unfold Ti;rw[L8,h1,h2]
def TC:∀(ls:List (List Nat))(a:List Nat),(∀l∈ls,l.length=a.length)->(ls.foldl Ti a).length=a.length/\(∀(i x y:Nat),a[i]?=some x->(ls.foldl Ti a)[i]?=some y->x<=y)/\∀l∈ls,∀(i x y:Nat),l[i]?=some x->(ls.foldl Ti a)[i]?=some y->x<=y
 |[],a,_=>⟨rfl,λi x y h1 h2=>by have h3:a[i]?=some y:=h2;rw[h1] at h3;cases h3;exact j' _,λ_ h=>nomatch h⟩
 |l::ls,a,h=>by
  have hl:=h l q';have h2:=Cn hl.symm;obtain⟨h3,h4,h5⟩:=TC ls (Ti a l) λm hm=>by rw[h2];exact h m (F' _ hm)
  refine⟨by rw[F7,h3,h2],λi x y hx hy=> ?_,λm hm i x y hx hy=> ?_⟩
  .have hi:=(X_.1 hx).1;obtain⟨z,hz⟩:=ea (l:=l) (k:=i) Z';have:=h4 i (max x z) y (wC hx hz) hy;omega
  obtain rfl|hm:=S_.1 hm
  .have hi:=(X_.1 hx).1;obtain⟨z,hz⟩:=ea (l:=a) (k:=i) Z';have:=h4 i (max z x) y (wC hz hx) hy;omega
  exact h5 m hm i x y hx hy
def YB(B:Nat):∀(ls:List (List Nat))(a:List Nat),(∀x∈a,x<=B)->(∀l∈ls,∀x∈l,x<=B)->∀x∈ls.foldl Ti a,x<=B
 |[],_,h,_=>h
 |l::ls,a,h,h2=>YB B ls (Ti a l) (λx hx=>by
   obtain⟨i,hi⟩:=j_.1 hx;unfold Ti at hi;rw[L8] at hi
   cases h3:a[i]? with
   |none=>rw[h3] at hi;cases hi
   |some p=>
    cases h4:l[i]? with
    |none=>rw[h3,h4] at hi;cases hi
    |some q=>
     rw[h3,h4] at hi;have h5:max p q=x:=by simpa using hi
     have:=h p (G' h3);have:=h2 l q' q (G' h4);omega) λm hm=>h2 m (F' _ hm)
def FX.ns(f:FX):List Nat:=f.ds.map Int.toNat
def FX.fv{f:FX}(h:f.e=0):f.ds=Ua f.ns/\f.cs=(f.cs.map NR.ma).map nR/\f.ns.length<=12/\(∀d∈f.ns,d<=127)/\f.cs.length=la f.ns/\la f.ns<=4096:=by
 obtain⟨ns,xs,hv,hxs⟩:=aa2 h;obtain⟨h1,h2,h3,h4,h5,h6⟩:=hv;have e:f.ns=ns:=by unfold FX.ns;rw[h1];exact Dh ns
 subst hxs;rw[e];exact⟨h1,h2,h3,h4,by simpa using h5,h6⟩
structure oZ(D:List Nat)(ys:List Dyadic)(g:FX):Prop where
 ds:g.ds=Ua D
 cs:g.cs=ys.map nR
 n:g.n=D.length
 m:g.m=la D
def Oi(D:List Nat)(f:FX):List Dyadic:=UC f.ns D (f.cs.map NR.ma)
variable {j:Nat}
def Fw(a b:List Nat)(j:Nat):List Nat:=(Ti a b).take j++a.drop j
def BS{a b:List Nat}{x y:Nat}(h:a.length=b.length)(hx:a[j]?=some x)(hy:b[j]?=some y):(Ua (Fw a b j)).set j ((max x y:Nat):Int)=Ua (Fw a b (j+1)):=by
 have hj:=(X_.1 hx).1;unfold Fw;rw[Ge hx,oa (wC hx hy)];have hl:(Ua ((Ti a b).take j)).length=j:=by rw[Ic,R_,Cn h];omega
 have e1:Ua ((Ti a b).take j++x::a.drop (j+1))=Ua ((Ti a b).take j)++(x:Int)::Ua (a.drop (j+1)):=by simp[Ua]
 rw[e1,Ny _ _ _ _ _ hl];simp[Ua]
def kY{a b:List Nat}{x:Nat}(h:a.length=b.length)(hx:a[j]?=some x):(Fw a b j)[j]?=some x:=by
 have hj:=(X_.1 hx).1;have hl:((Ti a b).take j).length=j:=by rw[R_,Cn h];omega
 unfold Fw;exact ab9
def nS{a b:List Nat}(h:a.length=b.length)(hj:j<=a.length):(Fw a b j).length=a.length:=by
 unfold Fw;rw[Y_,R_,Cn h,M9];omega
def rz(L:Option Addr)(n c:Nat)(fs:List FX)(k:Nat)(w:World)(hT:Sc w)(hL:Sl w L n 2 (na FX.cells fs))(hn:n<=1000)(hf:∀f∈fs,f.at_ w)(hl:∀f∈fs,f.Zg k)(hm:∀f∈fs,f.m<=200)(hk:k<=90000):Calls prog 153 #[.slice L n c] w λr w'=>(Mb fs≠0/\r=.returned (.tuple #[.slice none 0 0,.int .i64 (Mb fs)])/\Below w.heap.size w w')\/(Mb fs=0/\∃(A:Option Addr)(a:Nat)(gs:List FX),r=.returned (.tuple #[.slice A n a,.int .i64 0])/\gs.length=n/\(∀(i:Nat)(f g:FX),fs[i]?=some f->gs[i]?=some g->oZ (maxD fs) (Oi (maxD fs) f) g)/\Hp w (.row A n a 78 2 (na FX.cells gs)::Cj gs.reverse) w'):=by
 have hh:=Hp.start w;have hln:=hL.Fa FX.len U';have hlk:=λw1 hT1 hb=>qH L n c fs k w1 hT1 (hL.ext hb) Z' (λf hm=>(hf f hm).ext hb) hl;unfold Mb;by_cases h0:Mh fs=0
 .obtain⟨hne,om,hnv⟩:=Zq h0;obtain⟨f0,h00⟩:=ea (l:=fs) (k:=0) (List.length_pos_iff.2 hne);have hm0:=G' h00;have hnn:∀f∈fs,f.n=f0.n:=λf hm=>by
   rw[hnv f hm];obtain _|⟨g,l⟩:=fs
   .cases h00
   have:g=f0:=by simpa using h00
   rw[<-this];rfl
  have hnsl:∀f∈fs,f.ns.length=f0.n:=λf hm=>(by have h1:=(hf f hm).dg.1;rw[Wb] at h1;have h2:=hnn f hm;unfold FX.ns;rw[i'];omega);have hlow:∀f∈fs,∀d∈f.ns,d<=127:=λf hm=>(FX.fv (om f hm)).2.2.2.1;have hdsn:∀f∈fs,f.ds=Ua f.ns:=λf hm=>(FX.fv (om f hm)).1;have h12:f0.n<=12:=by have:=(FX.fv (om f0 hm0)).2.2.1;rw[hnsl f0 hm0] at this;exact this
  have hDe:maxD fs=(fs.map FX.ns).foldl Ti f0.ns:=by
   unfold maxD;rw[List.foldl_map];congr 1;obtain _|⟨g,l⟩:=fs
   .cases h00
   have:g=f0:=by simpa using h00
   rw[<-this];rfl
  obtain⟨ad,rfl,hr⟩:=hL.at_ (by have:=(X_.1 h00).1;omega);have hn0:0<n:=by have:=(X_.1 h00).1;omega
  rw[L' Z'];have hA0:=hnsl f0 hm0;have hF:=λi=>TC ((fs.take i).map FX.ns) f0.ns λl hl=>(by obtain⟨f,hf2,rfl⟩:=Z_.1 hl;rw[hnsl f (N8 hf2),hA0]);refine da (N:=71) (l:=[.slice (some ad) n c]) func153 rfl rfl (by simp) ?_;refine fa ?_;refine QA ?_;intro w16 hh;refine fa ?_;refine ub ya.out rfl (ic hh.below ((hr.recAt FX.len h00) 0 _ rfl)) U' ?_;refine qa (kj f0.A f0.n f0.a f0.ds _ ((hf f0 hm0).dg.ext hh.below) (by have:=(hl f0 hm0).n20;omega)) ja.out rfl U' ?_;rintro e_ w24 ⟨A24,c24,rfl,hown_,hb_⟩;refine⟨_,rfl, ?_⟩;replace hh:=hh.Aa (x:=.row _ _ _ _ _ _) hb_ hown_;refine fa ?_;rw[hdsn f0 hm0] at hh;refine Ba [7,8,9,27,28,29,30,31,32,33,34,35,36,37,38,39,40,41,42,43,44,45,46,47,48,49] 27 (λv w'=>∃i:Nat,i<=n/\v=.int .i64 i/\Hp w [.row A24 f0.n c24 3 1 (jb (Ua (((fs.take i).map FX.ns).foldl Ti f0.ns)))] w') (λv _=>n-(intOf v).toNat) ?_ ?_
  .exact⟨0,D' _,rfl,hh⟩
  clear hh;rintro ρ' v w' ⟨i,hi,rfl,hh⟩;by_cases hlt:i<n
  .obtain⟨f,hx⟩:=ea (l:=fs) (k:=i) Z';have hmem:=G' hx;have hfold:((fs.take (i+1)).map FX.ns).foldl Ti f0.ns=Ti (((fs.take i).map FX.ns).foldl Ti f0.ns) f.ns:=by rw[oa hx,n_,V7];rfl
   have hal:=(hF i).1;generalize ((fs.take i).map FX.ns).foldl Ti f0.ns=a at*;have hab:a.length=f.ns.length:=by rw[hal,hA0,hnsl f hmem]
   have hfd:=hdsn f hmem;have hfn:=hnn f hmem;have hfl:=hnsl f hmem;refine fa ?_;refine Wv ?_;refine Sb ?_;intro b7 w7 hh ws hh;refine Ba [8,9,34,35,36,37,38,39,40,41,42,43,44,45,46,47,48] 34 (λv w'=>∃j:Nat,j<=f0.n/\v=.int .i64 j/\Hp w [.blk b7 78 [.slice f.A f.n f.a,.slice f.B f.m f.b] (0,0),.row A24 f0.n c24 3 1 (jb (Ua (Fw a f.ns j)))] w') (λv _=>f0.n-(intOf v).toNat) ?_ ?_
   .refine⟨0,D' _,rfl, ?_⟩;show Hp w [_,.row A24 f0.n c24 3 1 (jb (Ua (List.take 0 _++List.drop 0 a)))] _;rw[K8,E',j7];exact hh
   clear hh;rintro ρ2 v w2 ⟨j,hj,rfl,hh⟩;by_cases hjn:j<f0.n
   .obtain⟨x,hxa⟩:=ea (l:=a) (k:=j) Z';obtain⟨y,hyb⟩:=ea (l:=f.ns) (k:=j) Z';have hgx:=Uc (He (kY hab hxa));have hgy:(jb f.ds)[j]?=some (.int .i64 (y:Int)):=by rw[hfd];exact Uc (He hyb)
    have hml:(jb (Ua (Fw a f.ns j))).length=f0.n:=by rw[Wb,Ic,nS hab Z'];omega
    obtain⟨a2,hA2,s2⟩:=(hf f hmem).dg.at_ Z';have om:Value.slice f.A f.n f.a=.slice (some a2) f.n f.a:=by rw[hA2]
    obtain⟨gd,rfl⟩:=hh.Ob (i:=1) rfl Z';refine fa ?_;refine BL ?_;refine ub ya.out rfl (ic hh.below (s2.aw hgy)) U' ?_;refine fa ?_;refine ub ya.out rfl (hh.Zc (i:=1) rfl (by first|assumption|(simp only[I_];assumption))) U' ?_;refine fa ?_;have hmx:(if(y:Int)>(x:Int) then(y:Int) else(x:Int))=((max x y:Nat):Int):=by split<;>omega
    refine JS ?_;intro ws hh;simp only[U_,F_] at hh;rw[hmx,ek _ (by rw[<-Wb];omega),BS hab hxa hyb] at hh;refine fa ?_;refine⟨⟨j+1,Z',rfl,hh⟩,by show f0.n-(j+1)<f0.n-j;omega, ?_⟩;exact Rc
   obtain rfl:j=f0.n:=Z';have hmf:Fw a f.ns f0.n=Ti a f.ns:=(by unfold Fw;rw[W_ (by rw[Cn hab];omega),B8 Z',o_]);rw[hmf,<-hfold] at hh;refine fa ?_;replace hh:=hh.sub (p' _ (I' _ H_));exact yx
  obtain rfl:i=n:=Z';have hDl:=(hF i).1;have hDg:=λ(f:FX) (hm:f∈fs)=>(hF i).2.2 f.ns (Z_.2 ⟨f,by rw[W_ Z'];exact hm,rfl⟩);have hDb:=YB 127 ((fs.take i).map FX.ns) f0.ns (hlow f0 hm0) λl hl=>(by obtain⟨f,hf2,rfl⟩:=Z_.1 hl;exact hlow f (N8 hf2));rw[W_ Z',<-hDe] at hDl hDb hh;simp only[W_ (show fs.length<=i by omega),<-hDe] at hDg;clear hF hDe;generalize maxD fs=D at*;have hrz:∀f∈fs,NO f.ds (Ua D)=if 4096<la D then 3 else 0:=λf hm=>(by unfold NO;have e1:(f.ds.zip (Ua D)).any Lr=false:=p9.2 λp hp=>(by obtain⟨j,hj⟩:=j_.1 hp;rw[V6] at hj;obtain⟨j1,j2⟩:=hj;rw[hdsn f hm] at j1;unfold Ua at j1 j2;rw[V_] at j1 j2;obtain⟨x,hx,hx2⟩:=T8.1 j1;obtain⟨y,hy,hy2⟩:=T8.1 j2;have:=hDg f hm j x y hx hy;have:=hDb y (G' hy);unfold Lr;rw[K_];omega);rw[L' (by rw[Ic,hdsn f hm,Ic,hnsl f hm];omega),L' (by rw[e1];decide),Dh])
  refine fa ?_;replace hh:=hh.Lb 78 2;refine Ra [2,3,10,12,13,14,52,53,54,55,56,57,58,59,60,61,62,63,64,65,66,67,68,69] 10 52 (λv10 v w'=>∃(j c10:Nat)(A:Option Addr)(gs:List FX),j<=i/\v=.int .i64 j/\v10=.slice A j c10/\gs.length=j/\(0<j->¬4096<la D)/\(∀(t:Nat)(f g:FX),fs[t]?=some f->gs[t]?=some g->oZ D (Oi D f) g)/\Hp w (.row A j c10 78 2 (na FX.cells gs)::.row A24 f0.n c24 3 1 (jb (Ua D))::Cj gs.reverse) w') (λ_ v _=>i-(intOf v).toNat) ?_ ?_
  .exact⟨0,0,none,[],D' _,rfl,rfl,rfl,λh=>absurd h (Nat.lt_irrefl 0),λt f g _ h=>by simp at h,hh⟩
  clear hh;rintro ρ' v10 v w' ⟨j,c10,A,gs,hj,rfl,rfl,hgl,hno,hup,hh⟩;by_cases hlt:j<i
  .obtain⟨f,hx⟩:=ea (l:=fs) (k:=j) Z';have hmem:=G' hx;refine fa ?_;refine Wv ?_;refine Sb ?_;intro b12 w12 hh ws hh;have hrs:=λw1 hT1 hb hE=>eC f A24 f0.n c24 (Ua D) k w1 hT1 ((hf f hmem).ext hb) (hl f hmem) hE Z' hk;rw[hrz f hmem,Dh] at hrs;by_cases h4:4096<la D
   .rw[J' h4] at hrs;have hra:=λw1 hT1 hb hE=>(hrs w1 hT1 hb hE λ_ h=>nomatch h).mono λr w' h=>show r=IU 3/\Below w1.heap.size w1 w' from by
     obtain⟨h|h,hb2⟩|h:=h
     .exact absurd (om f hmem) h.1
     .exact⟨h.2.2,hb2⟩
     exact nomatch h.2.1
    refine Oa hh (hra _ (hT.hp hh) hh.below (hh.ra (i:=2) rfl)) rfl ?_;intro w59 hh;refine Sb ?_;intro b13 w13 hh ws hh;rw[J' h4];exact .inl ⟨U',rfl,hh.below⟩
   rw[L' h4] at hrs;have hnn2:f.ds.map Int.toNat=f.ns:=rfl;rw[hnn2] at hrs;have hfc:la f.ns<=200:=(by have h1:=(FX.fv (om f hmem)).2.2.2.2.1;have h2:=(hf f hmem).nm.Fa NR.len U';have h3:=hm f hmem;omega);have hmul:la D*la f.ns<=1000000:=N_ (o9 (k6 h4) hfc) U';have hra:=λw1 hT1 hb hE=>(hrs w1 hT1 hb hE λ_ _=>hmul).mono λr w' h=>show ∃g:FX,oZ D (Oi D f) g/\r=.returned (.tuple #[.agg #[.slice g.A g.n g.a,.slice g.B g.m g.b],.int .i64 0])/\Hp w1 [g.rg,g.fg] w' from by
    obtain⟨h|h,hb2⟩|⟨_,_,A1,a1,B1,b1,rfl,h2⟩:=h
    .exact absurd (om f hmem) h.1
    .exact absurd rfl h.2.1
    exact⟨⟨A1,f0.n,a1,B1,la D,b1,Ua D,_⟩,⟨rfl,rfl,by rw[<-hA0];exact hDl.symm,rfl⟩,rfl,h2⟩
   refine qa (hra _ (hT.hp hh) hh.below (hh.ra (i:=2) rfl)) ja.out rfl U' ?_;rintro e_ w59 ⟨g,hu,rfl,h2⟩;refine⟨_,rfl, ?_⟩;replace hh:=hh.join h2;clear h2;refine Sb ?_;intro b13 w13 hh ws hh;refine Sj ?_;intro b67 w67 hh;refine tN ?_;intro A68 c68 w68 hh;simp only[F_] at hh;replace hh:=hh.sub (s_ _ _);refine fa ?_;replace hh:=hh.sub (p' _ (I' _ (I' _ (p' _ (I' _ (I' _ (A_ _)))))));replace hh:=hh.perm (H':=.row A68 (j+1) c68 78 2 (na FX.cells (gs++[g]))::.row A24 f0.n c24 3 1 (jb (Ua D))::Cj (gs++[g]).reverse) (by
    rw[List.reverse_append,La];exact List.perm_append_comm_assoc [g.rg,g.fg] [_,_] _)
   refine⟨⟨j+1,c68,A68,gs++[g],Z',rfl,rfl,by rw[Y_,hgl];rfl,λ_=>h4,λt f' g' hf' hg'=> ?_,hh⟩,by show i-(j+1)<i-j;omega, ?_⟩
   .by_cases ht:t<j
    .rw[X8 Z'] at hg';exact hup t f' g' hf' hg'
    have htl:=(X_.1 hg').1;rw[Y_,hgl] at htl;obtain rfl:t=j:=by have:t<j+1:=htl;omega
    rw[I9 Z',hgl,f_] at hg';rw[hx] at hf';obtain rfl:=L_ hf';obtain rfl:g=g':=L_ hg';exact hu
   exact Rc
  obtain rfl:j=i:=Z';have h4:=hno Z';refine fa ?_;rw[L' h4];exact .inr ⟨rfl,A,c10,gs,rfl,hgl,hup,hh.sub (I' _ (s_ _ _))⟩
 rw[J' h0];refine da (N:=71) (l:=[.slice L n c]) func153 rfl rfl (by simp) ?_;refine fa ?_;refine QA ?_;intro w16 hh;refine fa ?_;exact .inl ⟨h0,rfl,hh.below⟩
def Ij(a b:List Dyadic):List Dyadic:=List.zipWith (· + ·) a b
def gU:List (List Dyadic)->List Dyadic
 |[]=>[]
 |x::l=>l.foldl Ij x
def Pm{a b:List Dyadic}(h:a.length=b.length):(Ij a b).length=a.length:=by simp[Ij,h]
def wX{a b:List Dyadic}{i:Nat}{x y:Dyadic}(h1:a[i]?=some x)(h2:b[i]?=some y):(Ij a b)[i]?=some (x+y):=by
 unfold Ij;rw[L8,h1,h2]
def Rt(a b:List Dyadic)(j:Nat):List Dyadic:=(Ij a b).take j++a.drop j
def oT{a b:List Dyadic}{x y:Dyadic}(h:a.length=b.length)(hx:a[j]?=some x)(hy:b[j]?=some y):(Rt a b j).set j (x+y)=Rt a b (j+1):=by
 have hj:=(X_.1 hx).1;unfold Rt;have hl:((Ij a b).take j).length=j:=by rw[R_,Pm h];omega
 rw[Ge hx,oa (wX hx hy),q8 _ _ Z',hl,f_];simp
def qY{a b:List Dyadic}{x:Dyadic}(h:a.length=b.length)(hx:a[j]?=some x):(Rt a b j)[j]?=some x:=by
 have hj:=(X_.1 hx).1;have hl:((Ij a b).take j).length=j:=by rw[R_,Pm h];omega
 unfold Rt;exact ab9
def mQ{a b:List Dyadic}(h:a.length=b.length)(hj:j<=a.length):(Rt a b j).length=a.length:=by
 unfold Rt;rw[Y_,R_,Pm h,M9];omega
def aO{a b:List Dyadic}(h:a.length=b.length)(hj:j=a.length):Rt a b j=Ij a b:=by
 unfold Rt;rw[W_ (by rw[Pm h];omega),B8 Z',o_]
def lG:∀{a b:List Nat},a.length=b.length->la (Oh a b)<=la a
 |[],[],_=>j' _
 |[],_::_,h=>by simp at h
 |_::_,[],h=>by simp at h
 |x::a,y::b,h=>o9 (show x-y+1<=x+1 by omega) (lG (by simpa using h))
def PB{k:Nat}:∀(ls:List (List Dyadic))(a:List Dyadic)(j:Nat),(∀x∈a,Sz (k+j) x)->(∀l∈ls,∀x∈l,Sz k x)->∀x∈ls.foldl Ij a,Sz (k+j+ls.length) x
 |[],_,_,h,_=>h
 |l::ls,a,j,h,h2=>λx hx=>by
  have:=PB (k:=k) ls (Ij a l) (j+1) (λy hy=>by
   obtain⟨i,hi⟩:=j_.1 hy;unfold Ij at hi;rw[L8] at hi
   cases h3:a[i]? with
   |none=>rw[h3] at hi;cases hi
   |some p=>
    cases h4:l[i]? with
    |none=>rw[h3,h4] at hi;cases hi
    |some q=>
     rw[h3,h4] at hi;have h5:p+q=y:=L_ hi;rw[<-h5];exact(h p (G' h3)).add ((h2 l q' q (G' h4)).mono Z')) (λm hm=>h2 m (F' _ hm)) x hx
  exact this.mono (by rw[E_];omega)
def Gw:∀(ls:List (List Dyadic))(a:List Dyadic),(∀l∈ls,l.length=a.length)->(ls.foldl Ij a).length=a.length
 |[],_,_=>rfl
 |l::ls,a,h=>(by have h1:=Pm (h l q').symm;rw[F7,Gw ls (Ij a l) λm hm=>by rw[h1];exact h m (F' _ hm),h1])
def GQ{f:FX}{D:List Nat}(hl:f.Zg k)(he:f.e=0)(hm:f.cs.length<=200)(hk:k<=90000)(hlen:D.length=f.ns.length)(hD:∀d∈D,d<=127)(hc:la D<=4096):∀x∈Oi D f,Sz 1000000 x:=λx hx=>by
 obtain⟨_,_,h12,_,hcl,_⟩:=FX.fv he;have hs:=lG hlen;have hmul:la (Oh D f.ns)*la f.ns<=4096*200:=o9 Z' Z';have:=PC (ZJ (ds:=f.ns.reverse) (es:=(Oh D f.ns).reverse) (xs:=f.cs.map NR.ma) (ys:=(VD (Oh D f.ns)).map nD) (k1:=k) (k2:=1600) (λy hy=>by
  obtain⟨c,hc2,rfl⟩:=Z_.1 hy;exact(hl.num c hc2).2) (λy hy=>by
  obtain⟨c,hc2,rfl⟩:=Z_.1 hy;refine WK hc2 (by rw[gH hlen];omega) λd hd=> ?_;obtain⟨i,hi⟩:=j_.1 hd;unfold Oh at hi;rw[L8] at hi
  cases h3:D[i]? with
  |none=>rw[h3] at hi;cases hi
  |some p=>
   cases h4:f.ns[i]? with
   |none=>rw[h3,h4] at hi;cases hi
   |some q=>
    rw[h3,h4] at hi;have h5:p-q=d:=L_ hi;have:=hD p (G' h3);omega) (la (Oh D f.ns))) x hx
 rw[fL,Ud] at this;exact this.mono Z'
def RM{f:FX}{D:List Nat}(hlen:D.length=f.ns.length)(hle:∀(i x y:Nat),f.ns[i]?=some x->D[i]?=some y->x<=y):(Oi D f).length=la D:=by
 unfold Oi UC nK;rw[mi,NB hlen.symm hle]
variable {fs:List FX}
def QD(h:Mh fs=0)(hln:∀f∈fs,f.ds.length=f.n):∀f∈fs,(maxD fs).length=f.ns.length/\(∀(i x y:Nat),f.ns[i]?=some x->(maxD fs)[i]?=some y->x<=y)/\∀d∈maxD fs,d<=127:=λf hm=>by
 obtain⟨hne,om,hnv⟩:=Zq h;obtain⟨f0,ft,rfl⟩:=M6 hne;have hns:∀g∈f0::ft,g.ns.length=f0.n:=λg hg=>(by unfold FX.ns;rw[i',hln g hg,hnv g hg];rfl);have hDe:maxD (f0::ft)=((f0::ft).map FX.ns).foldl Ti f0.ns:=(by unfold maxD;rw[List.foldl_map];rfl);have h0:=hns f0 q';obtain⟨h1,_,h3⟩:=TC ((f0::ft).map FX.ns) f0.ns λl hl=>(by obtain⟨g,hg,rfl⟩:=Z_.1 hl;rw[hns g hg,h0]);rw[hDe];refine⟨by rw[h1,h0,hns f hm],h3 f.ns (Z_.2 ⟨f,hm,rfl⟩),YB 127 _ _ (FX.fv (om f0 q')).2.2.2.1 λl hl=> ?_⟩;obtain⟨g,hg,rfl⟩:=Z_.1 hl;exact(FX.fv (om g hg)).2.2.2.1
def JH(L:Option Addr)(n c:Nat)(fs:List FX)(k:Nat)(w:World)(hT:Sc w)(hL:Sl w L n 2 (na FX.cells fs))(hn:n<=1000)(hf:∀f∈fs,f.at_ w)(hl:∀f∈fs,f.Zg k)(hm:∀f∈fs,f.m<=200)(hk:k<=90000):Calls prog 224 #[.slice L n c] w λr w'=>(Mb fs≠0/\r=IU (Mb fs)/\Below w.heap.size w w')\/(Mb fs=0/\∃g:FX,oZ (maxD fs) (gU (fs.map (Oi (maxD fs)))) g/\r=.returned (.tuple #[.agg #[.slice g.A g.n g.a,.slice g.B g.m g.b],.int .i64 0])/\Hp w [g.rg,g.fg] w'):=by
 have hh:=Hp.start w;have hln:=hL.Fa FX.len U';have hrs:=λw1 hT1 hb=>rz L n c fs k w1 hT1 (hL.ext hb) hn (λf hm=>(hf f hm).ext hb) hl hm hk;by_cases h0:Mb fs=0
 .have hlk:Mh fs=0:=by
   unfold Mb at h0;split at h0
   .rename_i h;exact absurd h0 h
   rename_i h;simpa using h
  obtain⟨hne,om,_⟩:=Zq hlk;obtain⟨f0,ft,rfl⟩:=M6 hne;have hD4:la (maxD (f0::ft))<=4096:=by
   unfold Mb at h0;rw[L' Z'] at h0;split at h0
   .cases h0
   omega
  have hDs:∀f∈f0::ft,f.cs.length<=200/\(maxD (f0::ft)).length=f.ns.length/\(∀d∈maxD (f0::ft),d<=127)/\(Oi (maxD (f0::ft)) f).length=la (maxD (f0::ft)):=λf hm2=>(by obtain⟨h1,h2,h3⟩:=QD hlk (λg hg=>by have:=(hf g hg).dg.1;rw[Wb] at this;omega) f hm2;have h4:=(hf f hm2).nm.Fa NR.len U';have h5:=hm f hm2;exact⟨Z',h1,h3,RM h1 h2⟩);have hsz:=λf hm=>GQ (hl f hm) (om f hm) (hDs f hm).1 hk (hDs f hm).2.1 (hDs f hm).2.2.1 hD4;have hxl:=λf hm=>(hDs f hm).2.2.2;clear hDs;rw[h0] at hrs;generalize maxD (f0::ft)=D at*;have hra:=λw1 hT1 hb=>(hrs w1 hT1 hb).mono λr w' h=>show ∃(A:Option Addr)(a n0 a0 go b0:Nat)(A0:Option Addr)(gs:List FX),r=.returned (.tuple #[.slice A n a,.int .i64 0])/\gs.length=ft.length/\n0=D.length/\(∀(i:Nat)(f g:FX),ft[i]?=some f->gs[i]?=some g->oZ D (Oi D f) g)/\
    Hp w1 (.row A n a 78 2 (na FX.cells (⟨A0,n0,a0,some ⟨go,0,none⟩,la D,b0,Ua D,(Oi D f0).map nR⟩::gs))::.row (some ⟨go,0,none⟩) (la D) b0 30 3 (na NR.cells ((Oi D f0).map nR))::.row A0 n0 a0 3 1 (jb (Ua D))::Cj gs.reverse) w' from by
   obtain h|⟨_,A,a,gs,h1,h2,h3,h4⟩:=h
   .exact absurd rfl h.1
   obtain⟨g0,gs,rfl⟩:=M6 (l:=gs) (by intro e;rw[e] at h2;rw[<-hln] at h2;cases h2);obtain⟨e1,e2,e3,e4⟩:=h3 0 f0 g0 rfl rfl;rw[D7,OB] at h4;have h5:=h4.perm (H':=.row A n a 78 2 (na FX.cells (g0::gs))::g0.rg::g0.fg::Cj gs.reverse) (.cons _ O6);obtain⟨A0,n0,a0,B0,m0,b0,ds0,cs0⟩:=g0
   cases e1;cases e2;cases e4
   obtain⟨go,rfl⟩:=h5.Ob (i:=1) rfl (Cc D);exact⟨A,a,n0,a0,go,b0,A0,gs,h1,by rw[<-hln] at h2;simpa using h2,e3,λi f g hf hg=>h3 (i+1) f g hf hg,h5⟩
  clear hrs;have hnp:ft.length+1=n:=hln;refine da (N:=53) (l:=[.slice L n c]) func224 rfl rfl (by simp) ?_;refine Jb ?_;intro b2 w2 hh;refine qa (hra _ (hT.hp hh) hh.below) ja.out rfl U' ?_;rintro e_ w13 ⟨A,a,n0,a0,go,b0,A0,gs,rfl,hgl,hn0,hup,h2⟩;refine⟨_,rfl, ?_⟩;replace hh:=(hh.join h2).perm O6;obtain⟨gq,rfl⟩:=hh.Ob (i:=1) rfl Z';have hca:=hh.me (i:=1) rfl;refine fa ?_;refine wb (vs:=[_,_]) ya.out rfl (hh.Gd (i:=1) rfl FX.len U' (show(_::gs)[0]?=some _ from rfl)) rfl U' ?_;refine Sb ?_;intro b6 w6 hh ws hh;refine tQ ?_;refine fa ?_;have hx0:=hxl f0 q';have hxi:∀(i:Nat),(((ft.take i).map (Oi D)).foldl Ij (Oi D f0)).length=la D:=λi=>(by rw[Gw _ _ λl hl=> ?_,hx0];obtain⟨f,hf2,rfl⟩:=Z_.1 hl;rw[hx0,hxl f (F' _ (N8 hf2))]);have hzi:∀(i:Nat),∀x∈((ft.take i).map (Oi D)).foldl Ij (Oi D f0),Sz 1001000 x:=λi x hx=>by
   refine(PB (k:=1000000) _ _ 0 (hsz f0 q') (λl hl=> ?_) x hx).mono ?_
   .obtain⟨f,hf2,rfl⟩:=Z_.1 hl;exact hsz f (F' _ (N8 hf2))
   rw[i',R_];omega
  refine Ba [8,9,10,26,27,28,29,30,31,32,33,34,35,36,37,38,39,40,41,42,43,44,45,46,47,48,49,50,51] 26 (λv w'=>∃i:Nat,i<=n-1/\v=.int .i64 i/\Hp w (.blk b6 78 [.slice A0 n0 a0,.slice (some ⟨go,0,none⟩) (la D) b0] (0,0)::.blk b2 78 [.slice none 0 0,.slice none 0 0] (0,0)::.row (some ⟨gq,0,none⟩) n a 78 2 (na FX.cells (⟨A0,n0,a0,some ⟨go,0,none⟩,la D,b0,Ua D,(Oi D f0).map nR⟩::gs))::.row (some ⟨go,0,none⟩) (la D) b0 30 3 (na NR.cells ((((ft.take i).map (Oi D)).foldl Ij (Oi D f0)).map nR))::.row A0 n0 a0 3 1 (jb (Ua D))::Cj gs.reverse) w') (λv _=>n-1-(intOf v).toNat) ?_ ?_
  .exact⟨0,D' _,rfl,hh⟩
  clear hh;rintro ρ' v w' ⟨i,hi,rfl,hh⟩;by_cases hlt:i<n-1
  .obtain⟨f,hx⟩:=ea (l:=ft) (k:=i) Z';obtain⟨g,hg⟩:=ea (l:=gs) (k:=i) Z';obtain⟨A1,n1,a1,B1,m1,b1,ds1,cs1⟩:=g;obtain⟨e1,e2,e3,e4⟩:=hup i f _ hx hg
   cases e1;cases e2;cases e4
   have hmem:=g8.2 (G' hg);have hbk:Sl w' (if a=1 then some ⟨gq,0,none⟩ else(some ⟨gq,0,none⟩:Option Addr).map (·.add (1*2))) (n-1) 2 (na FX.cells gs):=(hh.ra (i:=2) rfl).back Z' hca;obtain⟨ab,hAb,sb⟩:=hbk.at_ Z';have om:Value.slice (if a=1 then some ⟨gq,0,none⟩ else(some ⟨gq,0,none⟩:Option Addr).map (·.add (1*2))) (n-1) (a-1)=.slice (some ab) (n-1) (a-1):=by rw[hAb]
   have hfX:((ft.take (i+1)).map (Oi D)).foldl Ij (Oi D f0)=Ij (((ft.take i).map (Oi D)).foldl Ij (Oi D f0)) (Oi D f):=by rw[oa hx,n_,V7];rfl
   have hxa:=hxi i;have hza:=hzi i;have hzb:=hsz f (F' _ (G' hx));generalize ((ft.take i).map (Oi D)).foldl Ij (Oi D f0)=X at*;refine fa ?_;refine rS ?_;refine wb (vs:=[_,_]) ya.out rfl (show Rd _ _ [.slice A1 n1 a1,.slice B1 (la D) b1] from sb.recAt FX.len hg) rfl U' ?_;refine Sb ?_;intro b8 w8 hh ws hh;refine Ba [9,10,33,34,35,36,37,38,39,40,41,42,43,44,45,46,47,48,49,50] 33 (λv w'=>∃j:Nat,j<=la D/\v=.int .i64 j/\Hp w (.blk b8 78 [.slice A1 n1 a1,.slice B1 (la D) b1] (0,0)::.blk b6 78 [.slice A0 n0 a0,.slice (some ⟨go,0,none⟩) (la D) b0] (0,0)::.blk b2 78 [.slice none 0 0,.slice none 0 0] (0,0)::.row (some ⟨gq,0,none⟩) n a 78 2 (na FX.cells (⟨A0,n0,a0,some ⟨go,0,none⟩,la D,b0,Ua D,(Oi D f0).map nR⟩::gs))::.row (some ⟨go,0,none⟩) (la D) b0 30 3 (na NR.cells ((Rt X (Oi D f) j).map nR))::.row A0 n0 a0 3 1 (jb (Ua D))::Cj gs.reverse) w') (λv _=>la D-(intOf v).toNat) ?_ ?_
   .exact⟨0,D' _,rfl,hh⟩
   clear hh;rintro ρ2 v w2 ⟨j,hj,rfl,hh⟩;have hsB:=jf (hh.own _ (W8 [_,_,_,_,_,_] (cO hmem).1));have hyl:(Oi D f).length=la D:=(by have:=hsB.Fa NR.len U';simpa using this);by_cases hjn:j<la D
   .obtain⟨x,hx1⟩:=ea (l:=X) (k:=j) Z';obtain⟨y,hy1⟩:=ea (l:=Oi D f) (k:=j) Z';obtain⟨a9,hA9,s9⟩:=hsB.at_ (by show 0<la D;omega);have hev9:Value.slice B1 (la D) b1=.slice (some a9) (la D) b1:=by rw[show B1=some a9 from hA9]
    have zx:=hza x (G' hx1);have zy:=hzb y (G' hy1);have hon:((Rt X (Oi D f) j).map nR)[j]?=some (nR x):=by rw[V_,qY Z' hx1];rfl
    have hyn:((Oi D f).map nR)[j]?=some (nR y):=by rw[V_,hy1];rfl
    have hset:=oT (a:=X) (b:=Oi D f) Z' hx1 hy1;have hsum:=λA cc w1 hT1 hS1=>Kf A 2 cc [nR x,nR y] w1 hT1 hS1 (by simpa using⟨zx.ok Z',zy.ok Z'⟩) 1001000 (by simpa[Za] using⟨zx,zy.mono Z'⟩) Z';rw[show rm ([nR x,nR y].map NR.ma)=x+y by simp only[q_,G9,Za,Rh]] at hsum;have hll:((Rt X (Oi D f) j).map nR).length=la D:=by rw[i',mQ Z' Z',hxa]
    generalize Rt X (Oi D f) j=M at*;have hrl:=ve NR.len (M.map nR);refine fa ?_;refine zd (k:=j) lb.out ya.size hev9 rfl Z' Z' U' ?_;refine wb (vs:=[_,_,_]) ya.out rfl (s9.recAt NR.len hyn) rfl U' ?_;refine Sb ?_;intro b10 w10 hh ws hh;refine Ca 11 [[(6,none)],[(38,some 0)],[(9,none)],[(6,none)],[(41,some 3)],[(9,none)],[(42,some 4),(43,some 5)],[(44,some 6)],[(10,none)],[(45,some 7),(46,some 8)],[(47,some 9)]] [(10,48),(9,47),(8,46),(7,45),(6,44),(5,43),(4,42),(3,41),(2,40),(1,39),(0,38)] hh mixed T' ?_;refine yd ?_;refine xe 2 ?_;refine cd ?_;refine yd ?_;refine xe 2 ?_;refine cd ?_;refine Kt (j) ?_;refine Dn [_,_,_] (λ_ hj=>hj.hp.Gd (f:=NR.cells) (x:=nR x) (l:=M.map nR) (i:=5) rfl NR.len U' hon) ?_;refine Vd 0 [_,_,_] ?_;refine qq [_,_,_,_,_,_] ?_;refine Va (i:=10) (Is (.agg #[.bool (nR (x+y)).neg,.string (nR (x+y)).Qa,.int .i64 (nR (x+y)).e])) Is.ext ?_ ?_
    .intro ρ1 w1 hj hR;obtain⟨A47,c47,h47,s47⟩:=hR.1;exact Pb rfl (qb ja.out (Ga h47 Fb)) (hsum A47 c47 _ (hT.hp hj.hp) s47) (λ_ _ hq=>⟨_,hq.1,hq.2,rfl⟩)
    refine xa ?_;intro f W hJ hV;have hb_11:=hJ.bl;obtain⟨v48,v47,v46,v45,v44,v43,v42,v41,v40,v39,v38,_⟩:=hV;obtain⟨A47,c47,e47,f47⟩:Rows _ _ _ (f 9) W:=v47;replace hh:=hJ.hp;refine Da (Na (aa v48 (aa e47 (aa v46 (aa v45 (aa v44 (aa v43 (aa v42 (aa v41 (aa v40 (aa v39 (aa v38 Ea)))))))))))) ?_;dsimp only[Bb];clear e47 hJ;refine fa ?_;refine Ab hh (i:=5) (vs:=[_,_,_]) rfl rfl (Ld rfl) rfl ya.out rfl Z' rfl ?_;intro ws hh;simp only[U_,F_] at hh;rw[show Hb (na NR.cells (M.map nR)) (j*3) [.bool (nR (x+y)).neg,.string (nR (x+y)).Qa,.int .i64 (nR (x+y)).e]=na NR.cells ((M.map nR).set j (nR (x+y))) from de NR.len Z',<-Z8,hset] at hh;refine fa ?_;replace hh:=hh.sub (p' _ (I' _ (I' _ (I' _ (I' _ (I' _ (I' _ (A_ _))))))));refine⟨⟨j+1,Z',rfl,hh⟩,by show la D-(j+1)<la D-j;omega, ?_⟩;exact Rc
   obtain rfl:j=la D:=Z';rw[aO Z' Z',<-hfX] at hh;refine fa ?_;replace hh:=hh.sub (p' _ (I' _ (I' _ (I' _ (I' _ (I' _ (A_ _)))))));refine⟨⟨i+1,Z',rfl,hh⟩,by show n-1-(i+1)<n-1-i;omega, ?_⟩;exact Rc
  obtain rfl:i=n-1:=Z';rw[W_ Z'] at hh;refine Jb ?_;intro ws hh;refine BF ?_;exact .inr ⟨h0,⟨A0,n0,a0,some ⟨go,0,none⟩,la D,b0,Ua D,_⟩,⟨rfl,rfl,hn0,rfl⟩,rfl,hh.sub (.cons _ (.cons _ (.cons _ (P5 [_,_] _))))⟩
 have hra:=λw1 hT1 hb=>(hrs w1 hT1 hb).mono λr w' h=>show r=.returned (.tuple #[.slice none 0 0,.int .i64 (Mb fs)])/\Below w1.heap.size w1 w' from by
  obtain h|h:=h
  .exact h.2
  exact absurd h.1 h0
 generalize Mb fs=e at*;refine da (N:=53) (l:=[.slice L n c]) func224 rfl rfl (by simp) ?_;refine Jb ?_;intro b2 w2 hh;refine Oa hh (hra _ (hT.hp hh) hh.below) rfl ?_;intro w13 hh;exact aeh
def agI(f g:FX):Int:=if Mh [f,g]≠0 then Mh [f,g] else if pD (je f.ns g.ns)=true then 3 else 0
def ahN(a b:List Nat)(j:Nat):List Nat:=(je a b).take j++a.drop j
def yB(fx:FX)(c:NR)(k:Nat)(w:World)(hT:Sc w)(hf:fx.at_ w)(hlf:fx.Zg k)(hc:c.ok)(hcz:Sz k c.ma)(hk:k<=90000):Calls prog 223 #[.agg #[.slice fx.A fx.n fx.a,.slice fx.B fx.m fx.b],.agg #[.bool c.neg,.string c.Qa,.int .i64 c.e]] w λr w'=>
   (fx.e≠0/\r=IU fx.e/\Below w.heap.size w w')\/
   (fx.e=0/\∃p:FX,oZ fx.ns (fx.cs.map λx=>x.ma*c.ma) p/\r=.returned (.tuple #[.agg #[.slice p.A p.n p.a,.slice p.B p.m p.b],.int .i64 0])/\Hp w [p.rg,p.fg] w'):=by
 have hh:=Hp.start w;have hck:=λw1 hT1 hb=>vm fx k w1 hT1 (hf.ext hb) hlf;have hlnf:=hf.dg.1;rw[Wb] at hlnf;have hlmf:=hf.nm.Fa NR.len U';have hn20:=hlf.n20;have hm60:=hlf.m60;by_cases h0:fx.e=0
 .obtain⟨df,cf,hf12,hflow,hfc,_⟩:=FX.fv h0;refine aaA ?_;refine Dm ?_;intro b2 w2 hh b3 w3 hh b4 w4 hh;refine bh ?_;intro w11 hh;refine fa ?_;refine qa (kj fx.A fx.n fx.a fx.ds _ (hf.dg.ext hh.below) Z') ja.out rfl U' ?_;rintro e_ w18 ⟨A18,c18,rfl,hown_,hb_⟩;refine⟨_,rfl, ?_⟩;replace hh:=hh.Aa (x:=.row _ _ _ _ _ _) hb_ hown_;refine Sb ?_;intro b7 w7 hh ws hh;replace hh:=hh.Lb 30 3;refine Ba [9,23,24,25,26,27,28,29,30,31,32,33,34,35,36] 23 (λv w'=>∃(i c1:Nat)(A:Option Addr),i<=fx.m/\v=.int .i64 i/\Hp w [.row A i c1 30 3 (na NR.cells (((fx.cs.take i).map λx=>x.ma*c.ma).map nR)),.blk b7 78 [.slice A18 fx.n c18,.slice A i c1] (0,0),.row A18 fx.n c18 3 1 (jb fx.ds),.blk b4 78 [.slice none 0 0,.slice none 0 0] (0,0),.blk b3 30 [.bool c.neg,.string c.Qa,.int .i64 c.e] (0,0),.blk b2 78 [.slice fx.A fx.n fx.a,.slice fx.B fx.m fx.b] (0,0)] w') (λv _=>fx.m-(intOf v).toNat) ?_ ?_
  .exact⟨0,0,none,D' _,rfl,hh⟩
  clear hh;rintro ρ' v w' ⟨i,c1,A,hi,rfl,hh⟩;by_cases hlt:i<fx.m
  .obtain⟨x,hx⟩:=ea (l:=fx.cs) (k:=i) Z';obtain⟨hxo,hxz⟩:=hlf.num x (G' hx);obtain⟨a2,hA2,s2⟩:=hf.nm.at_ Z';have hev2:Value.slice fx.B fx.m fx.b=.slice (some a2) fx.m fx.b:=by rw[hA2]
   have hmul:=λA cc w1 hT1 hS1=>Ee A 2 cc [x,c] w1 hT1 hS1 (by simpa using⟨hxo,hc⟩) k (by simpa using⟨hxz,hcz⟩) Z' Z';rw[show Cf ([x,c].map NR.ma)=x.ma*c.ma by show 1*x.ma*c.ma=_;rw[W7]] at hmul;refine fa ?_;refine zd (k:=i) lb.out ya.size hev2 rfl Z' Z' U' ?_;refine wb (vs:=[_,_,_]) ya.out rfl ((s2.ext hh.below).recAt NR.len hx) rfl U' ?_;refine Sb ?_;intro b9 w9 hh ws hh;refine Ca 7 [[(7,none)],[(27,some 0)],[(9,none)],[(3,none)],[(29,some 2),(30,some 3)],[(31,some 4)],[(32,some 5)]] [(6,33),(5,32),(4,31),(3,30),(2,29),(1,28),(0,27)] hh mixed T' ?_;refine yd ?_;refine xe 2 ?_;refine Vd 0 [_,_,_] ?_;refine Vd 5 [_,_,_] ?_;refine qq [_,_,_,_,_,_] ?_;refine Va (i:=5) (Is (.agg #[.bool (nR (x.ma*c.ma)).neg,.string (nR (x.ma*c.ma)).Qa,.int .i64 (nR (x.ma*c.ma)).e])) Is.ext ?_ ?_
   .intro ρ1 w1 hj hR;obtain⟨A31,c31,h31,s31⟩:=hR.1;exact Pb rfl (qb ja.out (Ga h31 Fb)) (hmul A31 c31 _ (hT.hp hj.hp) s31) (λ_ _ hq=>⟨_,hq.1,hq.2,rfl⟩)
   refine qq [_,_,_] ?_;refine xa ?_;intro f W hJ hV;have hb_8:=hJ.bl;obtain⟨v33,v32,v31,v30,v29,v28,v27,_⟩:=hV;obtain⟨A31,c31,e31,f31⟩:Rows _ _ _ (f 4) W:=v31;obtain⟨A33,c33,e33,f33⟩:Rows _ _ _ (f 6) W:=v33;replace hh:=hJ.hp;refine Da (Na (aa e33 (aa v32 (aa e31 (aa v30 (aa v29 (aa v28 (aa v27 Ea)))))))) ?_;dsimp only[Bb];clear e31 e33 hJ;refine Gb hh (i:=1) rfl rfl rfl (f33) lb.out ya.out rfl U' (by first|rfl|exact Xb _|exact Nb _|exact Pa _|exact Ta NR.one _) Z' Z' U' ?_;intro A34 c34 w34 hh;simp only[U_,F_] at hh;refine Jb ?_;intro ws hh;replace hh:=hh.sub (p' _ (I' _ (I' _ (I' _ (I' _ (I' _ (I' _ H_)))))));refine⟨⟨i+1,c34,A34,Z',rfl, ?_⟩,by show fx.m-(i+1)<fx.m-i;omega, ?_⟩
   .rw[oa hx,n_,n_,La];exact hh
   exact Rc
  obtain rfl:i=fx.m:=Z';rw[W_ Z'] at hh;refine Jb ?_;intro ws hh;replace hh:=hh.sub (I' _ (p' _ (I' _ (I' _ (p' _ (p' _ H_))))));refine Lk ?_;exact .inr ⟨h0,⟨A18,fx.n,c18,A,fx.m,c1,fx.ds,_⟩,⟨df,rfl,by show fx.n=fx.ns.length;unfold FX.ns;rw[i'];omega,by show fx.m=la fx.ns;omega⟩,rfl,hh.sub (P5 [_,_] _)⟩
 refine aaA ?_;refine Dm ?_;intro b2 w2 hh b3 w3 hh b4 w4 hh;refine bh ?_;intro w11 hh;exact aeh
def chD(n:Nat)(k:Int):Dyadic:=if k<0\/(n:Int)<k then 0 else nD (bin n k.toNat)
def agM(ns:List Nat):List ByteArray:=(ab0 (Ua ns)).map fX
def prW(ds es:List Nat)(xs ys:List Dyadic)(i m:Nat):List (Nat×Dyadic):=(List.range m).map λk=>(Jd (te ds es) (te (Eb ds i) (Eb es k)),(xs[i]?).getD 0*(ys[k]?).getD 0)
def prI(ds es:List Nat)(xs ys:List Dyadic)(i:Nat):List (Nat×Dyadic):=(List.range i).flatMap λi=>prW ds es xs ys i (la es)
def bS(rs:List Nat):List UInt8:=(Ua rs).map XB
def bX(ns:List Nat)(a:Nat):List Nat:=ns.set a (ns.getD a 0+1)
def upY(ns:List Nat)(a:Nat)(xs:List Dyadic):List Dyadic:=(List.range (la (bX ns a))).map λp=>co ns.reverse xs (Eb (bX ns a).reverse p)+if 0<(Eb (bX ns a).reverse p).getD (ns.length-1-a) 0 then co ns.reverse xs (afZ (Eb (bX ns a).reverse p) (ns.length-1-a)) else 0
def Vl:∀(ds rs:List Nat),Nj ds rs↔rs.length=ds.length/\∀(i d r:Nat),ds[i]?=some d->rs[i]?=some r->r<=d
 |[],[]=>by simp[Nj]
 |[],_::_=>by simp[Nj]
 |_::_,[]=>by simp[Nj]
 |d::ds,r::rs=>by
  rw[Nj,Vl ds rs];constructor
  .rintro ⟨h1,h2,h3⟩;refine⟨by rw[E_,E_,h2],λi e s he hs=> ?_⟩
   cases i with
   |zero=>cases he;cases hs;exact h1
   |succ i=>exact h3 i e s he hs
  rintro ⟨h1,h2⟩;exact⟨h2 0 d r rfl rfl,by simpa using h1,λi e s he hs=>h2 (i+1) e s he hs⟩
def Mid(ns:List Nat)(xs:List Dyadic)(cs:List Nat)(zs:List Dyadic):Prop:=zs.length=la cs/\cs.length=ns.length/\(∀(i n c:Nat),ns[i]?=some n->cs[i]?=some c->n<=c)/\∀row:List Nat,row.length=ns.length->co cs.reverse zs row=upS (Oh cs ns).reverse (co ns.reverse xs) row
def agZ(w:World)(b i:Nat):Int:=match w.cell? ⟨b,0,none⟩ with
 |some (.slice (some a) _ _)=>match w.cell? (a.add (i*1)) with
  |some (.int _ z)=>z
  |_=>0
 |_=>0
structure RS(ns ts:List Nat)(xs:List Dyadic)(k n:Nat)(F FC:Option Addr)(c1 c2 i T:Nat)(cur:List Nat)(zs:List Dyadic)(A B:Option Addr)(ca cb:Nat)(R:List HE)(w:World):Prop where
 qh:Mid ns xs cur zs
 le:∀(j c t:Nat),cur[j]?=some c->ts[j]?=some t->c<=t
 eq:∀(j c t:Nat),j<i->cur[j]?=some c->ts[j]?=some t->c=t
 sz:∀x∈zs,Sz (k+T) x
 src:(A=F/\ca=c1/\B=FC/\cb=c2/\cur=ns/\zs=xs)\/R=[.row B (la cur) cb 30 3 (na NR.cells (zs.map nR)),.row A n ca 3 1 (jb (Ua cur))]
 rd:∀(H:List HE)(w':World),Hp w (H++R) w'->Sl w' A n 1 (jb (Ua cur))/\Sl w' B (la cur) 3 (na NR.cells (zs.map nR))
def FX.at_.ln{g:FX}(h:g.at_ w):g.ds.length=g.n/\g.cs.length=g.m:=⟨by have:=h.dg.1;rw[Wb] at this;omega,h.nm.Fa NR.len U'⟩
def Kept(fs:List FX)(R:List HE)(g:FX):Prop:=g∈fs\/(g.rg∈R/\g.fg∈R)
variable {E:Int}
def aeU(E:Int)(D:List Nat):List Int:=if E=0 then Ua D else[]
def adA(E:Int)(ys:List Dyadic):List NR:=if E=0 then ys.map nR else[]
structure Out(E:Int)(D:List Nat)(ys:List Dyadic)(g:FX):Prop where
 ds:g.ds=aeU E D
 cs:g.cs=adA E ys
 n:g.n<=100000
 m:g.m<=1000000
def FX.nil:FX:=⟨none,0,0,none,0,0,[],[]⟩
def Hp.DU(h:Hp w0 H w):Hp w0 (FX.nil.rg::FX.nil.fg::H) w:=(h.Lb 3 1).Lb 30 3
def Out.err{D:List Nat}{ys:List Dyadic}(h:E≠0):Out E D ys FX.nil:=⟨by unfold aeU;rw[L' h];rfl,by unfold adA;rw[L' h];rfl,D' _,D' _⟩
def oZ.out{D:List Nat}{ys:List Dyadic}{g:FX}(h:oZ D ys g)(h1:D.length<=1000)(h2:la D<=4096):Out 0 D ys g:=⟨h.ds,h.cs,by rw[h.n];omega,by rw[h.m];omega⟩
def Hz{fs:List FX}(h:Mb fs=0)(hln:∀f∈fs,f.ds.length=f.n):Mh fs=0/\(maxD fs).length<=1000/\la (maxD fs)<=4096:=by
 have hlk:Mh fs=0:=by
  unfold Mb at h;split at h
  .rename_i h2;exact absurd h h2
  rename_i h2;simpa using h2
 obtain⟨hne,om,_⟩:=Zq hlk;obtain⟨f0,ft,rfl⟩:=M6 hne;have h1:=(QD hlk hln f0 q').1;have h2:=(FX.fv (om f0 q')).2.2.1;refine⟨hlk,Z', ?_⟩;unfold Mb at h;rw[L' Z'] at h;split at h
 .cases h
 omega
def afp(f:FX)(es:List Int):Int:=if f.e≠0 then f.e else NO f.ds es
def PQ(f:FX)(c:NR)(k:Nat)(w:World)(hT:Sc w)(hf:f.at_ w)(hlf:f.Zg k)(hc:c.ok)(hcz:Sz k c.ma)(hk:k<=90000):Calls prog 223 #[.agg #[.slice f.A f.n f.a,.slice f.B f.m f.b],.agg #[.bool c.neg,.string c.Qa,.int .i64 c.e]] w λr w'=>∃g:FX,Out f.e f.ns (f.cs.map λx=>x.ma*c.ma) g/\r=.returned (.tuple #[.agg #[.slice g.A g.n g.a,.slice g.B g.m g.b],.int .i64 f.e])/\Hp w [g.rg,g.fg] w':=by
 refine(yB f c k w hT hf hlf hc hcz hk).mono λr w' h=> ?_;obtain⟨h,rfl,hb⟩|⟨h,p,hp,rfl,h2⟩:=h
 .exact⟨FX.nil,.err h,rfl,((Hp.start w).ext hb).DU⟩
 rw[h];obtain⟨_,_,h3,_,_,h4⟩:=FX.fv h;exact⟨p,hp.out Z' h4,rfl,h2⟩
def aa6(L:Option Addr)(n c:Nat)(fs:List FX)(k:Nat)(w:World)(hT:Sc w)(hL:Sl w L n 2 (na FX.cells fs))(hn:n<=1000)(hf:∀f∈fs,f.at_ w)(hl:∀f∈fs,f.Zg k)(hm:∀f∈fs,f.m<=200)(hk:k<=90000):Calls prog 224 #[.slice L n c] w λr w'=>∃g:FX,Out (Mb fs) (maxD fs) (gU (fs.map (Oi (maxD fs)))) g/\r=.returned (.tuple #[.agg #[.slice g.A g.n g.a,.slice g.B g.m g.b],.int .i64 (Mb fs)])/\Hp w [g.rg,g.fg] w':=by
 refine(JH L n c fs k w hT hL hn hf hl hm hk).mono λr w' h=> ?_;obtain⟨h,rfl,hb⟩|⟨h,p,hp,rfl,h2⟩:=h
 .exact⟨FX.nil,.err h,rfl,((Hp.start w).ext hb).DU⟩
 obtain⟨_,h3,h4⟩:=Hz h λf hm=>(hf f hm).ln.1;rw[h];exact⟨p,hp.out h3 h4,rfl,h2⟩
def FX.key(f:FX):List Int×List NR×Nat:=(f.ds,f.cs,f.n)
def pV:∀{fs gs:List FX},fs.map FX.key=gs.map FX.key->Mh fs=Mh gs/\Mb fs=Mb gs/\maxD fs=maxD gs/\∀D,fs.map (Oi D)=gs.map (Oi D):=λ{fs gs} h=>by
 have e1:∀(p:List Int×List NR×Nat->Bool)(l:List FX),l.any (λf=>p f.key)=(l.map FX.key).any p:=λp l=>by rw[List.any_map];rfl
 have hn:fs.map FX.n=gs.map FX.n:=(by have:=J_ (List.map (λx:List Int×List NR×Nat=>x.2.2)) h;rwa[Z9,Z9] at this);have hl:fs.length=gs.length:=by have:=J_ List.length h;simpa using this
 have hlike:Mh fs=Mh gs:=by
  have ho:dO fs=dO gs:=(by have a:=e1 (λx=>decide (x.2.2≠(fs.map FX.n).headD 0)) fs;have b:=e1 (λx=>decide (x.2.2≠(fs.map FX.n).headD 0)) gs;rw[h,<-b] at a;unfold dO;rw[<-hn];exact a);have hf:(fs.find? (λf=>decide (f.e≠0))).map FX.key=(gs.find? (λf=>decide (f.e≠0))).map FX.key:=by
   have a:∀l:List FX,(l.find? (λf=>decide (f.e≠0))).map FX.key=(l.map FX.key).find? (λx=>decide (fE x.1 x.2.1≠0)):=λl=>by rw[List.find?_map];rfl
   rw[a,a,h]
  unfold Mh;rw[ho,hl]
  cases h1:fs.find? (λf=>decide (f.e≠0)) with
  |none=>
   rw[h1] at hf
   cases h2:gs.find? (λf=>decide (f.e≠0)) with
   |none=>rfl
   |some g=>rw[h2] at hf;cases hf
  |some f=>
   rw[h1] at hf
   cases h2:gs.find? (λf=>decide (f.e≠0)) with
   |none=>rw[h2] at hf;cases hf
   |some g=>
    rw[h2] at hf;have hk:f.key=g.key:=L_ hf;unfold FX.key at hk;show fE f.ds f.cs=fE g.ds g.cs;injection hk with a b
    injection b with b c
    rw[a,b]
 have hmax:maxD fs=maxD gs:=by
  have a:∀l:List FX,maxD l=(l.map FX.key).foldl (λa x=>Ti a (x.1.map Int.toNat)) (((l.map FX.key).map λx=>x.1.map Int.toNat).headD []):=λl=>by unfold maxD;rw[List.foldl_map,Z9];rfl
  rw[a,a,h]
 refine⟨hlike,by unfold Mb;rw[hlike,hmax],hmax,λD=> ?_⟩;have a:∀l:List FX,l.map (Oi D)=(l.map FX.key).map λx=>UC (x.1.map Int.toNat) D (x.2.1.map NR.ma):=λl=>by rw[Z9];rfl
 rw[a,a,h]
def GG:∀{l:List Int}{o:Int},o≠2->(∀s∈l,s≠2)->tw o l≠0->tw o l=o/\∀s∈l,s=o
 |[],_,_,_,_=>⟨rfl,λ_ h=>absurd h O9⟩
 |x::r,o,h1,h2,h3=>by
  unfold tw at h3 |-;by_cases h:o=2\/o=x
  .rw[J' h] at h3 |-;obtain h|rfl:=h
   .exact absurd h h1
   obtain⟨h4,h5⟩:=GG h1 (λs hs=>h2 s (F' _ hs)) h3;exact⟨h4,λs hs=>by
    obtain rfl|hs:=S_.1 hs
    .rfl
    exact h5 s hs⟩
  rw[L' h] at h3;exact absurd rfl h3
def HW{l:List NR}(h:Pj l≠0):∀a∈l,a.i.sign=Pj l:=λa ha=>by
 have hb:∀s∈l.map (λa=>a.i.sign),s≠2:=λs hs=>(by obtain⟨a,_,rfl⟩:=Z_.1 hs;have:=nk a.i;omega);unfold Pj at h |-;have hm:a.i.sign∈l.map (λa=>a.i.sign):=Z_.2 ⟨a,ha,rfl⟩;generalize l.map (λa=>a.i.sign)=L at*
 cases L with
 |nil=>exact absurd hm O9
 |cons s r=>
  rw[tw,J' (.inl rfl)] at h |-;obtain⟨h4,h5⟩:=GG (hb s q') (λx hx=>hb x (F' _ hx)) h;rw[h4];obtain h|h:=S_.1 hm
  .exact h
  exact h5 _ h
def fK{x y:Dyadic}(p:Int)(hx:Sz K x)(hy:Sz K y)(h1: -1000<=p)(h2:p<=1000):Sz (4*K+2014) (gW x y p):=by
 obtain⟨a1,a2,a3⟩:=hx.nr;obtain⟨c1,c2,c3⟩:=hy.nr;have hb:=mh (nR x).neg (nR x).Qa;have hM:Sa (xD (nR x) (nR y) p).natAbs<=4*K+1007:=by
  unfold xD;split
  .have:=Mi (nR x).i ((nR x).e-(nR y).e+p).toNat;unfold NR.i at*;omega
  unfold NR.i;omega
 have hI:Sa (TP (nR x) (nR y) p).natAbs<=4*K+1007:=by
  unfold TP;split
  .refine N_ (Dc (S9 (y7 _ _) ?_)) hM;rw[Int.natAbs_neg];exact Tb _
  exact N_ (Dc (S9 (y7 _ _) (Tb _))) hM
 unfold gW;generalize TP (nR x) (nR y) p=q at*;have h3:=Sz.raw (a:=⟨iN q,iM q, -p⟩) (m:=4*K+1014) (E:=1000) (by show 8*(iM q).size<=_;rw[Lc];omega) (by show -((1000:Nat):Int)<= -p;omega) (by show -p<=((1000:Nat):Int);omega);have h4:(NR.mk (iN q) (iM q) (-p)).ma=Dyadic.ofIntWithPrec q p:=(by unfold NR.ma NR.i;rw[td,Y6]);rw[h4] at h3;exact h3.mono Z'
def vT(f g:FX):Int:=if Mb [f,g]=0 then(if Pj ((Oi (maxD [f,g]) g).map nR)=0 then 4 else 0) else Mb [f,g]
def SR0:SR:=⟨⟨false,ByteArray.mk #[],0⟩,⟨false,ByteArray.mk #[],0⟩⟩
def adr(X Y:List Dyadic)(p:Int):List SR:=List.zipWith (λx y=>KH x y p) X Y
def WJ(f g:FX)(p:Int):SR:=if vT f g=0 then G0 (adr (Oi (maxD [f,g]) f) (Oi (maxD [f,g]) g) p) else SR0
def om:List Dyadic->Dyadic->Dyadic
 |[],_=>0
 |c::cs,t=>c+t*om cs t
def dh:List Nat->List Dyadic->Dyadic
 |a::s,x::xs=>x^a*dh s xs
 |_,_=>1
def Zk(n:Nat):(1:Dyadic)^n=1:=by
 induction n with
 |zero=>grind
 |succ n ih=>grind
def abA(f:Dyadic->Dyadic):Prop:=∃l:List Dyadic,∀t,f t=om l t
def ad8:List Dyadic->List Dyadic->List Dyadic
 |[],b=>b
 |x::a,[]=>x::a
 |x::a,y::b=>(x+y)::ad8 a b
def afB:List Dyadic->List Dyadic->List Dyadic
 |[],_=>[]
 |x::a,b=>ad8 (b.map λy=>x*y) (0::afB a b)
def D1(F:Dyadic->Dyadic)(a b:Dyadic):Prop:=∃R,abA R/\∀h,F h=a+h*b+h*h*R h
def wg(d:Nat)(a b:Dyadic)(i k:Nat):Dyadic:=if k<i then 0 else nD (bin (d-i) (k-i))*a^i*b^(k-i)
def Hj(xs:List Dyadic)(i:Nat):Dyadic:=(xs[i]?).getD 0
def np(d:Nat)(M:Nat->Nat->Dyadic)(xs:List Dyadic):List Dyadic:=(List.range (d+1)).map λk=>sm (List.range (d+1)) λi=>Hj xs i*M i k
def Oj(d:Nat)(a b:Dyadic)(xs:List Dyadic)(i j:Nat):List Dyadic:=(List.range (d+1)).map λk=>sm (List.range i) (λm=>Hj xs m*wg d a b m k)+if i<=k/\k<i+j then Hj xs i*wg d a b i k else 0
def Wm(d:Nat)(a b:Dyadic)(xs:List Dyadic)(i j:Nat):(Oj d a b xs i j).length=d+1:=by simp[Oj]
def VJ(d:Nat)(a b:Dyadic)(xs:List Dyadic):Oj d a b xs 0 0=List.replicate (d+1) 0:=by
 unfold Oj;refine List.eq_replicate_iff.2 ⟨by simp,λx hx=> ?_⟩;obtain⟨k,_,rfl⟩:=Z_.1 hx;rw[L' Z',S7];rfl
def AB{d i:Nat}{a b:Dyadic}(h:k<=d):(Oj d a b xs i j)[k]?=some (sm (List.range i) (λm=>Hj xs m*wg d a b m k)+if i<=k/\k<i+j then Hj xs i*wg d a b i k else 0):=by
 unfold Oj;exact jV
def LQ{d i:Nat}{a b:Dyadic}{o:Dyadic}(h:i+j<=d)(ho:(Oj d a b xs i j)[i+j]?=some o):(Oj d a b xs i j).set (i+j) (o+Hj xs i*wg d a b i (i+j))=Oj d a b xs i (j+1):=by
 rw[AB h,L' Z',S7] at ho;have ho:=L_ ho;subst ho;refine V9 λk=> ?_;rw[F9,Wm];by_cases hk:k<=d
 .rw[AB hk,AB hk];by_cases e:i+j=k
  .subst e;rw[J' rfl,J' Z',J' Z']
  rw[L' e];by_cases h2:i<=k/\k<i+j
  .rw[J' h2,J' Z']
  rw[L' h2,L' Z']
 rw[L' Z',t_ (by rw[Wm];omega),t_ (by rw[Wm];omega)]
def LP{d i:Nat}{a b:Dyadic}(h:i<=d):Oj d a b xs i (d-i+1)=Oj d a b xs (i+1) 0:=by
 unfold Oj;refine y8 λk hk=> ?_;have hk:=g_.1 hk;rw[L' (show ¬(i+1<=k/\k<i+1+0) by omega),S7,P8,bk];by_cases h2:i<=k
 .rw[J' Z']
 rw[L' Z'];unfold wg;rw[J' (show k<i by omega),W5]
def rO(d:Nat)(a b:Dyadic)(xs:List Dyadic):Oj d a b xs (d+1) 0=np d (wg d a b) xs:=by
 unfold Oj np;refine y8 λk _=> ?_;rw[L' Z',S7]
def Sz.abt{a:Dyadic}(h:Sz q a){i d:Nat}(hi:i<=d):Sz (1+q*d) (a^i):=(Sz.pow h i).mono (by have:=k_ q hi;omega)
def yM{d i:Nat}{a b:Dyadic}(ha:Sz q a)(hb:Sz q b)(hd:d<=127)(hk:k<=d):Sz (130+2*(q*d)) (wg d a b i k):=by
 unfold wg;split
 .exact Sz.zero _
 refine(((uy (d-i) (k-i) Z').mul (ha.abt (show i<=d by omega))).mul (hb.abt (show k-i<=d by omega))).mono Z'
def bQ(h:∀x∈xs,Sz k x)(i:Nat):Sz k (Hj xs i):=by
 unfold Hj;exact o0
def EW{d i:Nat}{a b:Dyadic}(hx:∀x∈xs,Sz K x)(ha:Sz q a)(hb:Sz q b)(hd:d<=127)(hi:i<=d+1):∀x∈Oj d a b xs i j,Sz (K+130+2*(q*d)+130) x:=λx hx2=>by
 obtain⟨k,hk,rfl⟩:=Z_.1 hx2;have hk:=g_.1 hk;have h1:∀m,Sz (K+(130+2*(q*d))) (Hj xs m*wg d a b m k):=λm=>(bQ hx m).mul (yM ha hb hd Z');have h2:=aQ (l:=List.range i) (f:=λm=>Hj xs m*wg d a b m k) (k:=K+(130+2*(q*d))) λm _=>h1 m;rw[u9] at h2;refine(h2.add (y:=if i<=k/\k<i+j then Hj xs i*wg d a b i k else 0) ?_).mono Z';split
 .exact(h1 i).mono Z'
 exact Sz.zero _
section
variable (A:List Nat)(d:Nat)(φ:List Dyadic->List Dyadic)
def stS(X:List Dyadic)(q f i:Nat):List Dyadic:=(List.range X.length).map λp=>
 if p/la A/(d+1)=q/\(p % la A<f\/p % la A=f/\p/la A % (d+1)<i) then Hj (φ (Tf A d X (p % la A) q)) (p/la A % (d+1)) else Hj X p
def aiw(X:List Dyadic)(q:Nat):List Dyadic:=stS A d φ X q (la A) 0
end
variable {A:List Nat}{d:Nat}
def mv{f:Nat}(hf:f<la A)(hk:k<=d):ud A d f k q % la A=f/\ud A d f k q/la A % (d+1)=k/\ud A d f k q/la A/(d+1)=q:=by
 unfold ud;have hA:=Cc A;rw[R7,h_ hf,Q8 _ _ hA,L9 hf,C_,R7,h_ Z',Q8 _ _ Z',L9 Z',C_];exact⟨rfl,rfl,rfl⟩
def yC(p:Nat):ud A d (p % la A) (p/la A % (d+1)) (p/la A/(d+1))=p:=by
 unfold ud;rw[P6,P6]
def FE{l:List Dyadic}(h:k<l.length):l[k]?=some (Hj l k):=by
 unfold Hj;rw[D8 h];rfl
def alS(A:List Nat)(d:Nat)(B:List Nat)(M:Nat->Nat->Dyadic)(xs:List Dyadic)(j:Nat):List Dyadic:=(List.range xs.length).map λp=>if p/la A/(d+1)<j then Hj (Ci (A++d::B) A.length M xs) p else Hj xs p
variable {F:Nat}
section
variable (A:List Nat)(d L:Nat)(φ:List Dyadic->List Dyadic)
def Bk(p:Nat):Nat:=ud A d (p % la A) 0 (p/la A/(d+1))
def pj(X:List Dyadic)(F i:Nat):List Dyadic:=(List.range X.length).map λp=>
 if p/la A % (d+1)<L/\(Bk A d p<F\/Bk A d p=F/\p/la A % (d+1)<i) then Hj (φ (Tf A d X (p % la A) (p/la A/(d+1)))) (p/la A % (d+1)) else Hj X p
end
variable {L:Nat}{φ:List Dyadic->List Dyadic}{X:List Dyadic}
def Th(F i:Nat):(pj A d L φ X F i).length=X.length:=by simp[pj]
def Un{i p:Nat}(h:p<X.length):(pj A d L φ X F i)[p]?=some (if p/la A % (d+1)<L/\(Bk A d p<F\/Bk A d p=F/\p/la A % (d+1)<i) then Hj (φ (Tf A d X (p % la A) (p/la A/(d+1)))) (p/la A % (d+1)) else Hj X p):=by
 unfold pj;rw[V_,z9 h];rfl
def KF{i G:Nat}(h:∀p,p<X.length->p/la A % (d+1)<L->((Bk A d p<F\/Bk A d p=F/\p/la A % (d+1)<i)↔(Bk A d p<G\/Bk A d p=G/\p/la A % (d+1)<j))):pj A d L φ X F i=pj A d L φ X G j:=by
 refine V9 λp=> ?_;by_cases hp:p<X.length
 .rw[Un hp,Un hp];congr 1;by_cases hL:p/la A % (d+1)<L
  .by_cases h1:Bk A d p<F\/Bk A d p=F/\p/la A % (d+1)<i
   .rw[J' ⟨hL,h1⟩,J' ⟨hL,(h p hp hL).1 h1⟩]
   rw[L' (λh=>h1 h.2),L' (λh2=>h1 ((h p hp hL).2 h2.2))]
  rw[L' (λh=>hL h.1),L' (λh=>hL h.1)]
 rw[t_ (by rw[Th];omega),t_ (by rw[Th];omega)]
def nP:pj A d L φ X 0 0=X:=by
 refine V9 λp=> ?_;by_cases h:p<X.length
 .rw[Un h,L' Z',FE h]
 rw[t_ (by rw[Th];omega),t_ Z']
def xI{f:Nat}(hf:f<la A):ud A d f 0 q % la A=f/\ud A d f 0 q/la A % (d+1)=0/\ud A d f 0 q/la A/(d+1)=q:=mv hf (D' _)
def kP{f:Nat}(hf:f<la A)(hk:k<=d):Bk A d (ud A d f k q)=ud A d f 0 q:=by
 obtain⟨h1,_,h3⟩:=mv (q:=q) hf hk;unfold Bk;rw[h1,h3]
def JP(h:F/la A % (d+1)≠0):pj A d L φ X F 0=pj A d L φ X (F+1) 0:=KF λp _ _=>by
 have hne:Bk A d p≠F:=λe=>(by have:=(xI (d:=d) (q:=p/la A/(d+1)) (B_ p (Cc A))).2.1;unfold Bk at e;rw[e] at this;exact h this);omega
def yO{i:Nat}(h:L<=i):pj A d L φ X F i=pj A d L φ X (F+1) 0:=KF λp _ hL=>by omega
def zR{f i:Nat}(hf:f<la A)(hiL:i<L)(hi:i<=d):(pj A d L φ X (ud A d f 0 q) i).set (ud A d f i q) (Hj (φ (Tf A d X f q)) i)=pj A d L φ X (ud A d f 0 q) (i+1):=by
 obtain⟨h1,h2,h3⟩:=mv (q:=q) hf hi;refine V9 λp=> ?_;rw[F9,Th];by_cases hp:p<X.length
 .rw[Un hp,Un hp];by_cases e:ud A d f i q=p
  .subst e;rw[J' rfl,J' hp,h1,h2,h3,kP hf hi,J' ⟨hiL,.inr ⟨rfl,Nat.lt_succ_self i⟩⟩]
  rw[L' e];have hne:¬(Bk A d p=ud A d f 0 q/\p/la A % (d+1)=i):=λ⟨a,b⟩=>(by have e1:=xI (d:=d) (q:=p/la A/(d+1)) (B_ p (Cc A));have e2:=xI (d:=d) (q:=q) hf;unfold Bk at a;rw[a] at e1;have:=yC (A:=A) (d:=d) p;rw[b,<-e1.1,<-e1.2.2,e2.1,e2.2.2] at this;exact e this);congr 1;by_cases hL:p/la A % (d+1)<L/\(Bk A d p<ud A d f 0 q\/Bk A d p=ud A d f 0 q/\p/la A % (d+1)<i)
  .rw[J' hL,J' ⟨hL.1,Z'⟩]
  rw[L' hL,L' (λh=>hL ⟨h.1,Z'⟩)]
 rw[t_ (by rw[Th];omega)];by_cases e:ud A d f i q=p
 .rw[J' e,e,L' hp,t_ (by rw[Th];omega)]
 rw[L' e,t_ (by rw[Th];omega)]
def EP{B:List Nat}{p:Nat}(hX:X.length=la (A++d::B))(hp:p<X.length):(pj A d L φ X X.length 0)[p]?=some (if p/la A % (d+1)<L then Hj (φ (Tf A d X (p % la A) (p/la A/(d+1)))) (p/la A % (d+1)) else Hj X p):=by
 rw[Un hp];have hlt:Bk A d p<X.length:=by
  have h1:=yC (A:=A) (d:=d) p;have h2:Bk A d p<=p:=by
   conv=>rhs;rw[<-h1]
   unfold Bk ud;have:=k_ (la A) (show 0+(d+1)*(p/la A/(d+1))<=p/la A % (d+1)+(d+1)*(p/la A/(d+1)) by omega);omega
  omega
 congr 1;by_cases h:p/la A % (d+1)<L
 .rw[J' ⟨h,.inl hlt⟩,J' h]
 rw[L' (λh2=>h h2.1),L' h]
def aa8{B:List Nat}{M:Nat->Nat->Dyadic}(hX:X.length=la (A++d::B)):pj A d (d+1) (np d M) X X.length 0=Ci (A++d::B) A.length M X:=by
 refine V9 λp=> ?_;by_cases hp:p<X.length
 .obtain⟨f,k,q,hf,hk,hq,rfl⟩:=MI (A:=A) (d:=d) (B:=B) (by rw[<-hX];exact hp);obtain⟨h1,h2,h3⟩:=mv (q:=q) hf hk;rw[EP hX hp,h1,h2,h3,J' Z'];have e1:(np d M (Tf A d X f q))[k]?=some (sm (List.range (d+1)) λi=>Hj (Tf A d X f q) i*M i k):=(by unfold np;exact jV);rw[XP M X hf hk hq];congr 1;show((np d M (Tf A d X f q))[k]?).getD 0=_;rw[e1];refine md λi hi=> ?_;have hi:=g_.1 hi;show((Tf A d X f q)[i]?).getD 0*_=_;unfold Tf;rw[V_,z9 hi];rfl
 rw[t_ (by rw[Th];omega),t_ (by rw[Ww,<-hX];omega)]
abbrev iK(D:Nat):Deferred:={ target:=.collected D,args:= #[] }
abbrev agr(M:List Nat):List HE:=M.map λD=>.ob D (.deferred (some []))
abbrev Kd:=Exit->List Nat->Rf->World->Prop
structure WD(P:Program)(N:Nat)(c:Code)(Q:Kd)(ρ:Rf)(w:World):Prop where
 out:∀(M:List Nat) a,Sf N (M.map iK) a ρ->∀n,c.wpIn Fence.wide n P (λe a' w'=>∃M' ρ',Sf N ((M'++M).map iK) a' ρ'/\Q e M' ρ' w') a w
def ahw(next:List Nat->Rf->World->Prop)(Q:Kd):Kd
 |.normal,M,ρ,w=>next M ρ w
 |e,M,ρ,w=>Q e M ρ w
def agW(M:List Nat)(Q:Kd):Kd:=λe M2 ρ w=>Q e (M2++M) ρ w
def aix(id:Nat)(Q:Kd):Kd
 |.exit id',M,ρ,w=>if id'=id then Q .normal M ρ w else Q (.exit id') M ρ w
 |e,M,ρ,w=>Q e M ρ w
def aic(Q:Kd):Kq:=λe ρ w=>Q e [] ρ w
def ahb{α:Type}(Kp:World->World->Prop)(I:List α->World->Prop)(pre:List α)(x:α)(W:World):Kq
 |.normal,_,W'=>KeepsOthers W W'/\Kp W W'/\I (pre++[x]) W'
 |_,_,_=>False
def ahy:Kq:=λ_ _ _=>False
def ah6(P:Program)(fn:Func)(R:Ending->World->Prop):Kd:=λe M ρ w=>
 (e=.normal\/e=.ret)/\∀tmps:Array Value,(∀i,tmps.getD i undef=ρ i)->∀n,LeavesInM Fence.wide n P fn tmps R (M.map iK) .returning w
def HE.cel:HE->Bool
 |.ob _ _=>false
 |_=>true
def af6(base:Nat)(ids:List Nat)(w:World)(k:Nat):Option HE:=if base<=k/\ids.contains k=false then(w.heap[k]?).map λo=>.ob k o else none
def ahp(base:Nat)(ids:List Nat)(w:World):List HE:=(List.range w.heap.size).filterMap (af6 base ids w)
variable {ad:Addr}
def ab4{d:Option Nat}{ty:TypeId}{af:Array Edge}{g:Option (Nat×Bool)}{t e:TypeId}{x hi mx:Operand}{c l h sz:Nat}{k1 k2 k3:IntKind}{m1 m2 m3:Int} (ht:P.underlying t=some (.slice e))(hsz:(P.info? e).map (·.size)=some sz)(hx:ev ρ x=.slice (some ad) n c)(hlo:ev ρ lo=.int k1 m1)(hhi:ev ρ hi=.int k2 m2)(hmx:ev ρ mx=.int k3 m3)(e1:m1=(l:Int))(e2:m2=(h:Int))(e3:m3=(q:Int)) (h1:l<=h)(h2:h<=q)(h3:q<=c)(h4:l<q):(execOp (ev ρ) ⟨d,.slice t x (some lo) (some hi) (some mx),ty,pos,af,g⟩).run P w=.ok (.value (.slice (some (ad.add (l*sz))) (h-l) (q-l))) w:=by
 obtain⟨i,hi1,hi2⟩:=T8.1 hsz;subst e1 e2 e3 hi2;have a1:(l:Int)<=h:=Z';have a2:(h:Int)<=q:=Z';have a3:(q:Int)<=c:=Z';have a4:¬q=l:=Z';have a5:¬q-l=0:=Z';simp[execOp,hx,Instr.sliceAt,Instr.slice,run_underlying ht,Instr.sliceBounds,Instr.sliceBound,asIntOf,hlo,hhi,hmx,h1,h2,h3,a4,a5,sizeOf,typeInfo,hi1]
def agL(b2 b3:Nat)(W W':World):Prop:=W'.cell? ⟨b2,0,none⟩=W.cell? ⟨b2,0,none⟩/\W'.cell? ⟨b3,0,none⟩=W.cell? ⟨b3,0,none⟩
def Rz(N:Nat):Qg N [.bool false,.string (ByteArray.mk #[]),.int .i64 0]=na NR.cells ((List.replicate N (0:Dyadic)).map nR):=by
 rw[XG,Kw]
structure Val(q:Nat)(s:NR)(x:Dyadic):Prop where
 ok:s.ok
 Qa:s.Qa.size<=2001
 ma:s.ma=x
 sz:Sz q x
def ah0(l:List Dyadic)(i:Nat):List Dyadic:=(List.range l.length).map λk=>if k<i\/l.length<=k+i then Hj l (l.length-1-k) else Hj l k
variable {w1:World}
def RG(base:Nat)(E:Int)(D:List Nat)(ys:List Dyadic):VP:=λv W=>∃(g:FX)(w1:World),v=.agg #[.slice g.A g.n g.a,.slice g.B g.m g.b]/\Out E D ys g/\base<=w1.heap.size/\Hp w1 [g.rg,g.fg] W
def RG.ext{D:List Nat}{ys:List Dyadic}(v:Value)(w w':World)(h:RG base E D ys v w)(hb:Below w.heap.size w w'):RG base E D ys v w':=let⟨g,w1,h1,h2,h3,h4⟩:=h;⟨g,w1,h1,h2,h3,h4.ext hb⟩
def HI(base:Nat)(E:Int)(D:List Nat)(ys:List Dyadic):VP:=λv W=>∃(g:FX)(w1:World),v=.tuple #[.agg #[.slice g.A g.n g.a,.slice g.B g.m g.b],.int .i64 E]/\Out E D ys g/\base<=w1.heap.size/\Hp w1 [g.rg,g.fg] W
def HI.ext{D:List Nat}{ys:List Dyadic}(v:Value)(w w':World)(h:HI base E D ys v w)(hb:Below w.heap.size w w'):HI base E D ys v w':=let⟨g,w1,h1,h2,h3,h4⟩:=h;⟨g,w1,h1,h2,h3,h4.ext hb⟩
variable {fz:Nat×Nat}
def FX.ne{g:FX}{t:TypeId}{cs:Array Value}(h:Hp w1 [g.rg,g.fg] W)(h3:W.heap[b]?=some (.cells cs t fz))(h1:30≠t)(h2:3≠t):∀x∈[g.rg,g.fg],x.id≠some b:=λx hx=>by
 have hx2:=h.own x hx;obtain rfl|hx:=S_.1 hx
 .exact II hx2 h3 h1
 obtain rfl:=T_.1 hx;exact II hx2 h3 h2
instance:ya prog 199 1 false 8 [.nilFunc]:={}
def ag2(n m:Nat)(ds:List Int)(cs:List NR):VP:=λv W=>∃A a B b,v=.agg #[.slice A n a,.slice B m b]/\n<=a/\Sl W A n 1 (jb ds)/\Sl W B m 3 (na NR.cells cs)
instance:ya prog 199 1 false 8 [.nilFunc]:={}
def abH(up:Bool)(s:Dyadic)(ns:List Nat)(a:Nat)(xs:List Dyadic):List Dyadic:=Ci ns.reverse (ns.length-1-a) (if up then acU (ns.getD a 0) s else aea (ns.getD a 0) s) xs
def Xm(fx:FX)(ax:Int):Int:=if fx.e≠0 then fx.e else if ax<0\/(fx.n:Int)<=ax then 1 else 0
def ahu(e:Int):Ending:=.returned (.tuple #[.agg #[.slice none 0 0,.slice none 0 0],.agg #[.slice none 0 0,.slice none 0 0],.int .i64 e])
def bZ(n:Nat)(h:Int):Bool:=decide (h<0\/(n:Int)<=h.tdiv 2)
def aeg(ns:List Nat)(xs:List Dyadic)(h:Int):List Dyadic:=abH (decide (h % 2=1)) (Ie (-1)) ns (h/2).toNat xs
def ahc(ns:List Nat)(xs:List Dyadic)(hs:List Int):List Dyadic:=hs.foldl (aeg ns) xs
def aej(A B:List Nat)(d t:Nat):List Nat:=(List.range (la B)).flatMap λq=>(List.range (la A)).map λf=>ud A d f t q
def ag0(A B:List Nat)(d t:Nat)(xs:List Dyadic):List Dyadic:=(aej A B d t).map λp=>(xs[p]?).getD 0
def ahW(A:List Nat)(d:Nat)(B:List Nat)(X:List Dyadic)(ta tb:List Dyadic)(r:Nat):Dyadic:=sR (A++B) λrow=>co (A++d::B) X (row.take A.length++r::row.drop A.length)*Az (A++B) row (ta++tb)
def aac:List Nat->List Nat->List Nat
 |[],_=>[]
 |_::_,[]=>[]
 |d::ds,k::ks=>d*k::aac ds ks
def afu(a:Int):IntKind.i64.wrap (BitVec.ofInt IntKind.i64.bits a &&& BitVec.ofInt IntKind.i64.bits 1).toNat=a % 2:=by
 have h1:(BitVec.ofInt IntKind.i64.bits a &&& BitVec.ofInt IntKind.i64.bits 1).toNat=(a % 2).toNat:=(by show(BitVec.ofInt 64 a &&& BitVec.ofInt 64 1).toNat=_;rw[BitVec.toNat_and,show(BitVec.ofInt 64 1).toNat=2^1-1 by decide,Nat.and_two_pow_sub_one_eq_mod,BitVec.toNat_ofInt];omega);rw[h1,yj Z' Z'];omega
variable {ops:Array Oper}{rest:List Oper}{ty:Nat}{af:Array Edge}
def iS{t u:Nat}{x y:Operand}{a:Int}(hx:ev ρ x=.int .i64 a)(hy:ev ρ y=.int .i64 1)(hN:d<N)(kk:WL .plain P N ops Q rest (sc ρ d (.int .i64 (a % 2))) w):WL .plain P N ops Q (⟨some d,.binOp .and t x y u,ty,pos,af,none⟩::rest) ρ w:=
 Ia rfl rfl hN (by rw[aaq hx hy,afu]) kk
def cnE(fx:FX)(bits:Int):Int:=if fx.e≠0 then fx.e else if bits<0\/((2^fx.n:Nat):Int)<=bits then 1 else 0
def afD(k i:Nat):Nat:=k/2^i % 2
def adl(n k:Nat):List Nat:=(List.range n).map (afD k)
def cnP(ns:List Nat)(k:Nat):Nat:=Jd ns.reverse (aac ns (adl ns.length k)).reverse
def cnV(fx:FX)(bits:Int):NR:=if cnE fx bits=0 then(fx.cs[cnP fx.ns bits.toNat]?).getD (nR 0) else nR 0
def Dj(x:Dyadic):Dyadic:=if x<0 then -x else x
def PZ(g:FX)(eps:Dyadic):Option Nat:=(List.range (2^g.n)).find? λk:Nat=>decide (Dj (cnV g (k:Int)).ma<eps)
def adW(g:FX)(eps:Dyadic):Int:=if g.e≠0 then g.e else if(PZ g eps).isSome=true then 0 else 4
def ad3(g:FX)(eps:Dyadic):Nat:=if g.e≠0 then 0 else(PZ g eps).getD 0
def Sz.Dj{k:Nat}{x:Dyadic}(h:Sz k x):Sz k (Dj x):=by
 unfold Go.Proofs.YtbencocchdpikaaGreatDoor.Dj;split
 .exact h.neg
 exact h
def Fk(b:List SR):Int:=if b.any (λs=> !decide (s.lo.ma<s.hi.ma)) then 5 else if b.length=0 then 1 else 0
def RY(x y:Dyadic):(0<=Vg x y)↔¬x<y:=by
 obtain h|h|h:=ZU x y
 .rw[Ap h];exact⟨λh2=>by omega,λh2=>absurd h h2⟩
 .rw[h,bo];exact⟨λ_=>by grind,λ_=>by omega⟩
 rw[Jp h];exact⟨λ_=>by grind,λ_=>by omega⟩
def Jr(L:Option Addr)(n c:Nat)(b:List SR)(w:World)(hT:Sc w)(hS:Sl w L n 6 (na SR.cells b))(hb:∀s∈b,s.ok)(hn:n<=1000000):Calls prog 16 #[.slice L n c] w λr w'=>r=.returned (.int .i64 (Fk b))/\Below w.heap.size w w':=by
 have hh:=Hp.start w;have hln:=hS.Fa SR.len U';refine da (N:=21) (l:=[.slice L n c]) func16 rfl rfl (by simp) ?_;refine fa ?_;refine Ba [2,4,7,8,9,10,11,12,13,14,15,16,17] 7 (λv w'=>∃i:Nat,i<=n/\v=.int .i64 i/\(b.take i).any (λs=> !decide (s.lo.ma<s.hi.ma))=false/\Hp w [] w') (λv _=>n-(intOf v).toNat) ?_ ?_
 .exact⟨0,D' _,rfl,rfl,hh⟩
 clear hh;rintro ρ' v w' ⟨i,hi,rfl,hall,hh⟩;by_cases hlt:i<n
 .obtain⟨s,hs⟩:=ea (l:=b) (k:=i) Z';have ms:=G' hs;obtain⟨ad,rfl,hr⟩:=hS.at_ Z';have hc:=λw1 hT1=>xh s.lo s.hi w1 hT1 (hb s ms).1 (hb s ms).2;have e:=RY s.lo.ma s.hi.ma;generalize Vg s.lo.ma s.hi.ma=cc at*;by_cases g:0<=cc
  .refine fa ?_;refine Zt ?_;refine Sb ?_;intro b4 w4 hh ws hh;refine Oa hh (hc _ (hT.hp hh)) rfl ?_;intro w15 hh;refine fa ?_;have:b.any (λs=> !decide (s.lo.ma<s.hi.ma))=true:=k9.2 ⟨s,ms,by rw[O_ (e.1 g)];rfl⟩;exact⟨by rw[Fk,J' this],hh.below⟩
  refine fa ?_;refine Zt ?_;refine Sb ?_;intro b4 w4 hh ws hh;refine Oa hh (hc _ (hT.hp hh)) rfl ?_;intro w15 hh;refine fa ?_;replace hh:=hh.sub (p' _ H_);refine⟨⟨i+1,Z',rfl, ?_,hh⟩,by show n-(i+1)<n-i;omega, ?_⟩
  .rw[oa hs,n7,hall,d_,x7,T6,Bool.or_false,M_ (by have:¬¬s.lo.ma<s.hi.ma:=λh=>g (e.2 h);exact P7.1 this)];rfl
  exact Rc
 rw[W_ Z'] at hall;by_cases h0:n=0
 .refine fa ?_;exact⟨by rw[Fk,hall,L' (by simp),J' Z'],hh.below⟩
 refine fa ?_;exact⟨by rw[Fk,hall,L' (by simp),L' Z'],hh.below⟩
def dk(L:Option Addr)(n c:Nat)(b:List SR)(w:World)(hT:Sc w)(hS:Sl w L n 6 (na SR.cells b))(hb:∀s∈b,s.ok)(hn:n<=1000000):Calls prog 72 #[.slice L n c] w λr w'=>∃A c',r=.returned (.slice A n c')/\w'.ownsRow w.heap.size 36 6 (.slice A n c') n (na SR.cells (b.map SR.f))/\Below w.heap.size w w':=by
 have hh:=Hp.start w;have hln:=hS.Fa SR.len U';refine da (N:=19) (l:=[.slice L n c]) func72 rfl rfl (by simp) ?_;refine fa ?_;replace hh:=hh.Lb 36 6;refine Ra [3,5,8,9,10,11,12,13,14,15,16,17] 3 8 (λv3 v w'=>∃(i c3:Nat)(A:Option Addr),i<=n/\v=.int .i64 i/\v3=.slice A i c3/\Hp w [.row A i c3 36 6 (na SR.cells ((b.take i).map SR.f))] w') (λ_ v _=>n-(intOf v).toNat) ?_ ?_
 .exact⟨0,0,none,D' _,rfl,rfl,hh⟩
 clear hh;rintro ρ' v3 v w' ⟨i,c3,A,hi,rfl,rfl,hh⟩;by_cases hlt:i<n
 .obtain⟨s,hs⟩:=ea (l:=b) (k:=i) Z';have ms:=G' hs;obtain⟨ad,rfl,hr⟩:=hS.at_ Z';refine fa ?_;refine Zt ?_;refine Sb ?_;intro b5 w5 hh ws hh;refine Oa hh (pC s _ (hT.hp hh) (hb s ms)) rfl ?_;intro w14 hh;refine iL ?_;intro b15 w15 hh;refine Gx ?_;intro A16 c16 w16 hh;simp only[U_,F_] at hh;replace hh:=hh.sub (s_ _ _);refine fa ?_;replace hh:=hh.sub (p' _ (I' _ H_));refine⟨⟨i+1,c16,A16,Z',rfl,rfl, ?_⟩,by show n-(i+1)<n-i;omega, ?_⟩
  .rw[oa hs,n_,La];exact hh
  exact Rc
 obtain rfl:i=n:=Z';rw[W_ Z'] at hh;exact SB
def hasB(b:List SR)(p:List NR):Bool:=decide (b.length=p.length) && (b.zip p).all λx=>x.1.has x.2.ma
def kI(L:Option Addr)(n c:Nat)(b:List SR)(M:Option Addr)(m c2:Nat)(p:List NR)(k:Nat)(w:World)(hT:Sc w)(hS:Sl w L n 6 (na SR.cells b))(hS2:Sl w M m 3 (na NR.cells p))(hb:∀s∈b,s.fin k)(hp:∀a∈p,a.ok)(hn:n<=1000000)(hm:m<=1000000)(hk:k<=3000000):Calls prog 22 #[.slice L n c,.slice M m c2] w λr w'=>r=.returned (.bool (hasB b p))/\Below w.heap.size w w':=by
 have hh:=Hp.start w;have hln:=hS.Fa SR.len U';have hlm:=hS2.Fa NR.len U';unfold hasB;by_cases hnm:n=m
 .subst hnm;rw[M_ Z',Bool.true_and];refine da (N:=27) (l:=[.slice L n c,.slice M n c2]) func22 rfl rfl (by simp) ?_;refine fa ?_;refine Ba [4,5,6,14,15,16,17,18,19,20,21,22,23,24,25,26] 14 (λv w'=>∃i:Nat,i<=n/\v=.int .i64 i/\((b.take i).zip (p.take i)).all (λx=>x.1.has x.2.ma)=true/\Hp w [] w') (λv _=>n-(intOf v).toNat) ?_ ?_
  .exact⟨0,D' _,rfl,rfl,hh⟩
  clear hh;rintro ρ' v w' ⟨i,hi,rfl,hall,hh⟩;by_cases hlt:i<n
  .obtain⟨s,hs⟩:=ea (l:=b) (k:=i) Z';obtain⟨a,ha⟩:=ea (l:=p) (k:=i) Z';obtain⟨ad,rfl,hr⟩:=hS.at_ Z';obtain⟨ad2,rfl,hr2⟩:=hS2.at_ Z';have hc:=λw1 hT1=>SE s a k w1 hT1 (hb s (G' hs)) (hp a (G' ha)) hk;have hz:(b.take (i+1)).zip (p.take (i+1))=(b.take i).zip (p.take i)++[(s,a)]:=(by rw[oa hs,oa ha,List.zip_append (by simp;omega)];rfl);have hzm:(s,a)∈b.zip p:=G' (i:=i) (by rw[V6];exact⟨hs,ha⟩)
   cases g:s.has a.ma with
   |true=>
    rw[g] at hc;refine fa ?_;refine Zt ?_;refine Sb ?_;intro b6 w6 hh ws hh;refine yZ ?_;refine Vd 0 [_,_,_,_,_,_] ?_;refine De ?_;refine cd ?_;refine jj (i) ?_;refine Dn [_,_,_] (λ_ hj=>(hr2.ext hj.hp.below).recAt NR.len ha) ?_;refine xa ?_;intro f W hJ hV;have hb_6:=hJ.bl;obtain⟨v23,v22,v21,v20,v19,_⟩:=hV;replace hh:=hJ.hp;refine Da (Na (aa v23 (aa v22 (aa v21 (aa v20 (aa v19 Ea)))))) ?_;dsimp only[Bb];clear hJ;refine Oa hh (hc _ (hT.hp hh)) rfl ?_;intro w24 hh;refine fa ?_;replace hh:=hh.sub (p' _ H_);refine⟨⟨i+1,Z',rfl,by rw[hz,Z5,hall];simp[g],hh⟩,by show n-(i+1)<n-i;omega, ?_⟩;exact Rc
   |false=>
    rw[g] at hc;refine fa ?_;refine Zt ?_;refine Sb ?_;intro b6 w6 hh ws hh;refine yZ ?_;refine Vd 0 [_,_,_,_,_,_] ?_;refine De ?_;refine cd ?_;refine jj (i) ?_;refine Dn [_,_,_] (λ_ hj=>(hr2.ext hj.hp.below).recAt NR.len ha) ?_;refine xa ?_;intro f W hJ hV;have hb_6:=hJ.bl;obtain⟨v23,v22,v21,v20,v19,_⟩:=hV;replace hh:=hJ.hp;refine Da (Na (aa v23 (aa v22 (aa v21 (aa v20 (aa v19 Ea)))))) ?_;dsimp only[Bb];clear hJ;refine Oa hh (hc _ (hT.hp hh)) rfl ?_;intro w24 hh;refine fa ?_;have:(b.zip p).all (λx=>x.1.has x.2.ma)=false:=List.all_eq_false.2 ⟨(s,a),hzm,by simp[g]⟩;exact⟨by rw[this],hh.below⟩
  rw[W_ Z',W_ Z'] at hall;refine fa ?_;exact⟨by rw[hall],hh.below⟩
 rw[O_ Z',Bool.false_and];refine da (N:=27) (l:=[.slice L n c,.slice M m c2]) func22 rfl rfl (by simp) ?_;refine fa ?_;exact⟨rfl,hh.below⟩
def ae6(a b:List SR):Bool:=decide (a.length=b.length) && (a.zip b).all λx=>x.2.has x.1.lo.ma && x.2.has x.1.hi.ma
def SR.szw{s:SR}(h:s.fin k):Sz (k+1) s.wid:=(SR.szH h).sub (SR.szL h)
def ahA(b:List SR):Dyadic:=Cf (b.map SR.wid)
def Cm(b:List SR)(v:Int):Prop:=(b=[]/\v= -1)\/∃(m:Nat)(s:SR),b[m]?=some s/\v=m/\(∀(j:Nat)(t:SR),b[j]?=some t->¬s.wid<t.wid)/\∀(j:Nat)(t:SR),j<m->b[j]?=some t->t.wid<s.wid
def dw{b:List SR}(s:SR):Cm (List.take 0 b++[s]) 0:=by
 refine .inr ⟨0,s,rfl,rfl,λj t h=> ?_,λj t h=>absurd h (Nat.not_lt_zero _)⟩
 match j,h with
 |0,h=>cases h;grind
def ME{l:List SR}{u s:SR}(h1:∀(j:Nat)(t:SR),l[j]?=some t->¬u.wid<t.wid)(g:u.wid<s.wid):Cm (l++[s]) (l.length:Nat):=by
 have h3:∀(j:Nat)(t:SR),j<l.length->(l++[s])[j]?=some t->t.wid<s.wid:=λj t hj h=>(by rw[X8 hj] at h;have:=h1 j t h;grind);refine .inr ⟨l.length,s,by simp,rfl,λj t h=> ?_,h3⟩;by_cases hj:j<l.length
 .have:=h3 j t hj h;grind
 rw[I9 Z'] at h
 match j-l.length,h with
 |0,h=>cases h;grind
def yE{l:List SR}{u s:SR}(hu:l[j]?=some u)(h1:∀(j:Nat)(t:SR),l[j]?=some t->¬u.wid<t.wid)(h2:∀(i:Nat)(t:SR),i<j->l[i]?=some t->t.wid<u.wid)(g:¬u.wid<s.wid):Cm (l++[s]) (j:Nat):=by
 have hj:=(X_.1 hu).1;refine .inr ⟨j,u,by rw[X8 hj];exact hu,rfl,λi t h=> ?_,λi t hi h=>h2 i t hi (by rwa[X8 Z'] at h)⟩;by_cases hi:i<l.length
 .exact h1 i t (by rwa[X8 hi] at h)
 rw[I9 Z'] at h
 match i-l.length,h with
 |0,h=>cases h;exact g
def ez(L:Option Addr)(n c:Nat)(b:List SR)(k:Nat)(w:World)(hT:Sc w)(hS:Sl w L n 6 (na SR.cells b))(hb:∀s∈b,s.fin k)(hn:n<=1000000)(hk:k<=3000000):Calls prog 74 #[.slice L n c] w λr w'=>(∃v,r=.returned (.int .i64 v)/\Cm b v)/\Below w.heap.size w w':=by
 have hh:=Hp.start w;have hln:=hS.Fa SR.len U';refine da (N:=29) (l:=[.slice L n c]) func74 rfl rfl (by simp) ?_;refine fa ?_;refine Ra [3,4,5,8,9,10,11,12,13,14,15,16,17,18,19,20,21,22,23,24,25,26,27] 3 8 (λv3 v w'=>∃(i:Nat)(m:Int),i<=n/\v=.int .i64 i/\v3=.int .i64 m/\Cm (b.take i) m/\Hp w [] w') (λ_ v _=>n-(intOf v).toNat) ?_ ?_
 .exact⟨0, -1,D' _,rfl,rfl,.inl ⟨rfl,rfl⟩,hh⟩
 clear hh;rintro ρ' v3 v w' ⟨i,m,hi,rfl,rfl,hW,hh⟩;by_cases hlt:i<n
 .obtain⟨s,hs⟩:=ea (l:=b) (k:=i) Z';have ms:=G' hs;obtain⟨ad,rfl,hr⟩:=hS.at_ Z';obtain⟨h0,rfl⟩|⟨j,u,hu,rfl,hW1,hW2⟩:=hW
  .have hi0:i=0:=(by have:=J_ List.length h0;rw[R_,g7] at this;omega);subst hi0;refine fa ?_;refine Zt ?_;refine Sb ?_;intro b5 w5 hh ws hh;refine GS ?_;refine cd ?_;refine rB ?_;refine Qr ?_;refine dS (dS (dS (dS ?_)));refine Vn (i:=7) rfl (λρ1 w1 hj hR=>(show ρ1 15=Value.bool _ from hR.2.2.1)) U' ?_;refine dS ?_;refine xa ?_;intro f W hJ hV;have hb_5:=hJ.bl;obtain⟨v21,v20,v19,v18,v17,v16,v15,v14,v13,_⟩:=hV;replace hh:=hJ.hp;refine FQ ?_;dsimp only[Bb];clear hJ;refine fa ?_;replace hh:=hh.sub (p' _ H_);refine⟨⟨0+1,0,Z',rfl,rfl, ?_,hh⟩,by show n-(0+1)<n-0;omega, ?_⟩
   .rw[oa hs];exact dw s
   exact Rc
  have hji:j<i:=(by have:=X_.1 hu;obtain⟨h,_⟩:=this;rw[R_] at h;omega);have hub:b[j]?=some u:=by rw[<-hu,List.getElem?_take_of_lt hji]
  have hc1:=λw1 hT1=>uk s k w1 hT1 (hb s ms) hk;have hc2:=λw1 hT1=>uk u k w1 hT1 (hb u (G' hub)) hk;have hc3:=λw1 hT1=>xh (nR s.wid) (nR u.wid) w1 hT1 ((SR.szw (hb s ms)).ok Z') ((SR.szw (hb u (G' hub))).ok Z');simp only[Za] at hc3;have e:=Ev s.wid u.wid;generalize Vg s.wid u.wid=cc at*;by_cases g:0<cc
  .refine fa ?_;refine Zt ?_;refine Sb ?_;intro b5 w5 hh ws hh;refine GS ?_;refine cd ?_;refine rB ?_;refine Qr ?_;refine dG (Vd 0 [_,_,_,_,_,_] ?_);refine OZ ?_;refine dG (De ?_);refine dG (cd ?_);refine dG (jj (j) ?_);refine dG (Dn [_,_,_,_,_,_] (λ_ hj=>(hr.ext hj.hp.below).recAt SR.len hub) ?_);refine xa ?_;intro f W hJ hV;have hb_5:=hJ.bl;obtain⟨v21,v20,v19,v18,v17,v16,v15,v14,v13,_⟩:=hV;replace hh:=hJ.hp;refine FQ ?_;dsimp only[Bb];clear hJ;refine fa ?_;refine Oa hh (hc2 _ (hT.hp hh)) rfl ?_;intro w22 hh;refine fa ?_;refine Oa hh (hc3 _ (hT.hp hh)) rfl ?_;intro w23 hh;refine fa ?_;replace hh:=hh.sub (p' _ H_);refine⟨⟨i+1,i,Z',rfl,rfl, ?_,hh⟩,by show n-(i+1)<n-i;omega, ?_⟩
   .have:=ME (s:=s) hW1 (e.1 g);rwa[R_,C9 Z',<-oa hs] at this
   exact Rc
  refine fa ?_;refine Zt ?_;refine Sb ?_;intro b5 w5 hh ws hh;refine GS ?_;refine cd ?_;refine rB ?_;refine Qr ?_;refine dG (Vd 0 [_,_,_,_,_,_] ?_);refine OZ ?_;refine dG (De ?_);refine dG (cd ?_);refine dG (jj (j) ?_);refine dG (Dn [_,_,_,_,_,_] (λ_ hj=>(hr.ext hj.hp.below).recAt SR.len hub) ?_);refine xa ?_;intro f W hJ hV;have hb_5:=hJ.bl;obtain⟨v21,v20,v19,v18,v17,v16,v15,v14,v13,_⟩:=hV;replace hh:=hJ.hp;refine FQ ?_;dsimp only[Bb];clear hJ;refine fa ?_;refine Oa hh (hc2 _ (hT.hp hh)) rfl ?_;intro w22 hh;refine fa ?_;refine Oa hh (hc3 _ (hT.hp hh)) rfl ?_;intro w23 hh;refine fa ?_;replace hh:=hh.sub (p' _ H_);refine⟨⟨i+1,j,Z',rfl,rfl, ?_,hh⟩,by show n-(i+1)<n-i;omega, ?_⟩
  .rw[oa hs];exact yE hu hW1 hW2 λh=>g (e.2 h)
  exact Rc
 obtain rfl:i=n:=Z';rw[W_ Z'] at hW;refine fa ?_;exact⟨⟨_,rfl,hW⟩,hh.below⟩
def mu(L:Option Addr)(n c:Nat)(b:List SR)(g:FuncId)(cap:List Value)(G:Nat->SR->NR)(w:World)(hT:Sc w)(hS:Sl w L n 6 (na SR.cells b))(hb:∀s∈b,s.ok)(hn:n<=1000000)[ja prog g] (hg:∀(i:Nat)(s:SR)(w1:World),i<n->b[i]?=some s->Below w.heap.size w w1->Sc w1->Calls prog g (.int .i64 i::.agg s.f.cells.toArray::cap).toArray w1 λr w'=>r=.returned (.agg #[.bool (G i s).neg,.string (G i s).Qa,.int .i64 (G i s).e])/\Below w1.heap.size w1 w'):Calls prog 61 #[.slice L n c,.func (.func g) #[] cap.toArray] w λr w'=>∃A c',r=.returned (.slice A n c')/\w'.ownsRow w.heap.size 30 3 (.slice A n c') n (na NR.cells (b.mapIdx G))/\Below w.heap.size w w':=by
 have hh:=Hp.start w;have hln:=hS.Fa SR.len U';refine da (N:=25) (l:=[.slice L n c,.func (.func g) #[] cap.toArray]) func61 rfl rfl (by simp) ?_;refine fa ?_;refine qa (dk L n c b _ (hT.hp hh) (hS.ext hh.below) hb hn) ja.out rfl U' ?_;rintro e_ w9 ⟨A9,c9,rfl,hown_,hb_⟩;refine⟨_,rfl, ?_⟩;replace hh:=hh.Aa (x:=.row _ _ _ _ _ _) hb_ hown_;refine fa ?_;replace hh:=hh.Lb 30 3;refine Ra [5,6,7,11,12,13,14,15,16,17,18,19,20,21,22,23] 5 11 (λv3 v w'=>∃(i c3:Nat)(A:Option Addr),i<=n/\v=.int .i64 i/\v3=.slice A i c3/\Hp w [.row A i c3 30 3 (na NR.cells ((b.take i).mapIdx G)),.row A9 n c9 36 6 (na SR.cells (b.map SR.f))] w') (λ_ v _=>n-(intOf v).toNat) ?_ ?_
 .exact⟨0,0,none,D' _,rfl,rfl,hh⟩
 clear hh;rintro ρ' v3 v w' ⟨i,c3,A,hi,rfl,rfl,hh⟩;by_cases hlt:i<n
 .obtain⟨s,hs⟩:=ea (l:=b) (k:=i) Z';have ms:=G' hs;have hfs:(b.map SR.f)[i]?=some s.f:=by rw[V_,hs];rfl
  obtain⟨g9,rfl⟩:=hh.Ob (i:=1) rfl Z';refine fa ?_;refine wb (vs:=[_,_,_,_,_,_]) ya.out rfl (hh.Gd (f:=SR.cells) (x:=s.f) (l:=b.map SR.f) (i:=1) rfl SR.len U' hfs) rfl U' ?_;refine Sb ?_;intro b7 w7 hh ws hh;refine qi (hg i s _ hlt hs hh.below (hT.hp hh)) ja.out rfl rfl U' ?_;rintro e_ w20 ⟨rfl,hb_⟩;refine⟨_,rfl, ?_⟩;replace hh:=hh.ext hb_;refine Nm ?_;intro b21 w21 hh;refine Gx ?_;intro A22 c22 w22 hh;simp only[U_,F_] at hh;replace hh:=hh.sub (s_ _ _);refine fa ?_;replace hh:=hh.sub (p' _ (I' _ (I' _ H_)));refine⟨⟨i+1,c22,A22,Z',rfl,rfl, ?_⟩,by show n-(i+1)<n-i;omega, ?_⟩
  .rw[oa hs,List.mapIdx_concat,R_,C9 Z',La];exact hh
  exact Rc
 obtain rfl:i=n:=Z';rw[W_ Z'] at hh;exact SB
def wE(i:Int)(s:SR)(k:Nat)(w:World)(hT:Sc w)(hs:s.fin k)(hk:k<=3000000):Calls prog 218 #[.int .i64 i,.agg s.cells.toArray] w λr w'=>r=.returned (.agg #[.bool (nR s.qh).neg,.string (nR s.qh).Qa,.int .i64 (nR s.qh).e])/\Below w.heap.size w w':=by
 have hh:=Hp.start w;refine da (N:=7) (l:=[.int .i64 i,.agg s.cells.toArray]) func218 rfl rfl (by simp) ?_;refine Sb ?_;intro b3 w3 hh b4 w4 hh;refine Oa hh (Du s k _ (hT.hp hh) hs hk) rfl ?_;intro w6 hh;exact lH
def eK(L:Option Addr)(n c:Nat)(b:List SR)(k:Nat)(w:World)(hT:Sc w)(hS:Sl w L n 6 (na SR.cells b))(hb:∀s∈b,s.fin k)(hn:n<=1000000)(hk:k<=3000000):Calls prog 142 #[.slice L n c] w λr w'=>∃A c',r=.returned (.slice A n c')/\w'.ownsRow w.heap.size 30 3 (.slice A n c') n (na NR.cells (b.mapIdx λ_ s=>nR s.f.qh))/\Below w.heap.size w w':=by
 have hh:=Hp.start w;refine da (N:=5) (l:=[.slice L n c]) func142 rfl rfl (by simp) ?_;refine fa ?_;refine qa (mu L n c b 218 [] (λ_ s=>nR s.f.qh) _ (hT.hp hh) (hS.ext hh.below) (λs h=>⟨(hb s h).1.ok,(hb s h).2.ok⟩) hn (λi s w1 hi hs _ hT1=>wE i s.f k w1 hT1 (SR.Yo (hb s (G' hs)) hk) hk)) ja.out rfl U' ?_;rintro e_ w4 ⟨A4,c4,rfl,hown_,hb_⟩;refine⟨_,rfl, ?_⟩;replace hh:=hh.Aa (x:=.row _ _ _ _ _ _) hb_ hown_;exact SB
def SR.half(s:SR)(m:NR)(u:Bool):SR:=if u then⟨m,s.hi⟩ else⟨s.lo,m⟩
def au(s:SR)(m:NR)(u:Bool)(w:World):Calls prog 148 #[.agg #[.bool s.lo.neg,.string s.lo.Qa,.int .i64 s.lo.e,.bool s.hi.neg,.string s.hi.Qa,.int .i64 s.hi.e,.bool m.neg,.string m.Qa,.int .i64 m.e],.bool u] w λr w'=>r=.returned (.agg (s.half m u).cells.toArray)/\Below w.heap.size w w':=by
 have hh:=Hp.start w
 cases u with
 |true=>
  refine da (N:=18) (l:=[.agg #[.bool s.lo.neg,.string s.lo.Qa,.int .i64 s.lo.e,.bool s.hi.neg,.string s.hi.Qa,.int .i64 s.hi.e,.bool m.neg,.string m.Qa,.int .i64 m.e],.bool true]) func148 rfl rfl (by simp) ?_;refine Dm ?_;intro b2 w2 hh b4 w4 hh ws hh;exact IY
 |false=>
  refine da (N:=18) (l:=[.agg #[.bool s.lo.neg,.string s.lo.Qa,.int .i64 s.lo.e,.bool s.hi.neg,.string s.hi.Qa,.int .i64 s.hi.e,.bool m.neg,.string m.Qa,.int .i64 m.e],.bool false]) func148 rfl rfl (by simp) ?_;refine Dm ?_;intro b2 w2 hh b4 w4 hh ws hh;exact IY
def yu(L:Option Addr)(n c a:Nat)(b:List SR)(s:SR)(w:World)(hS:Sl w L n 6 (na SR.cells b))(hn:n<=1000000)(ha:a<n):Calls prog 147 #[.slice L n c,.int .i64 a,.agg s.cells.toArray] w λr w'=>∃A c',r=.returned (.slice A n c')/\w'.ownsRow w.heap.size 36 6 (.slice A n c') n (na SR.cells (b.set a s))/\Below w.heap.size w w':=by
 have hh:=Hp.start w;have hln:=hS.Fa SR.len U';have hrl:=ve SR.len b;refine da (N:=19) (l:=[.slice L n c,.int .i64 a,.agg s.cells.toArray]) func147 rfl rfl (by simp) ?_;refine Jb ?_;intro b5 w5 hh;refine vF ?_;intro b10 w10 hh;refine fa ?_;refine YL hh (i:=0) (o:=0) rfl rfl rfl (hS.ext hh.below) lb.out ya.out (by rw[Zi,Nat.min_self];show 0+n*6<=n*6;omega) (Ta SR.one _) U' ?_;intro w13 hh;skip;have e1:∀xs:List Value,xs.length=n*6->Hb xs 0 ((na SR.cells b).take (min n n*6))=na SR.cells b:=λxs hx=>(by rw[Nat.min_self,W_ Z',Hb,K8,E',B8 Z',o_]);rw[U_,e1 _ (by rw[Zi];rfl)] at hh;refine fa ?_;refine Ab hh (i:=0) (vs:=[_,_,_,_,_,_]) rfl rfl (Ld rfl) rfl ya.out rfl Z' rfl ?_;intro ws hh;simp only[U_] at hh;rw[show Hb (na SR.cells b) (a*6) [.bool s.lo.neg,.string s.lo.Qa,.int .i64 s.lo.e,.bool s.hi.neg,.string s.hi.Qa,.int .i64 s.hi.e]=na SR.cells (b.set a s) from de SR.len Z'] at hh;exact SB
def ade(k:Int)(i:Nat):Bool:=decide (0<k) && (decide (i<62) && decide (k.fdiv (2^i) % 2=1))
def zD(L:Option Addr)(n c:Nat)(b:List SR)(a:Nat)(s:SR)(k:Nat)(w:World)(hT:Sc w)(hS:Sl w L n 6 (na SR.cells b))(hb:∀s∈b,s.fin k)(hn:n<=1000000)(hk:k<=3000000)(hs:b[a]?=some s):Calls prog 77 #[.slice L n c,.int .i64 a] w λr w'=>∃A c1 B c2,r=.returned (.tuple #[.slice A n c1,.slice B n c2,.int .i64 0])/\Hp w [.row B n c2 36 6 (na SR.cells ((b.map SR.f).set a (s.f.half (nR s.f.qh) true))),.row A n c1 36 6 (na SR.cells ((b.map SR.f).set a (s.f.half (nR s.f.qh) false)))] w':=by
 have hh:=Hp.start w;have hln:=hS.Fa SR.len U';have han:a<n:=by have:=(X_.1 hs).1;omega
 have hfs:(b.map SR.f)[a]?=some s.f:=by rw[V_,hs];rfl
 have hmd:=λw1 hT1=>Du s.f k w1 hT1 (SR.Yo (hb s (G' hs)) hk) hk;refine da (N:=38) (l:=[.slice L n c,.int .i64 a]) func77 rfl rfl (by simp) ?_;refine fa ?_;refine qa (dk L n c b _ (hT.hp hh) (hS.ext hh.below) (λs h=>⟨(hb s h).1.ok,(hb s h).2.ok⟩) hn) ja.out rfl U' ?_;rintro e_ w17 ⟨A17,c17,rfl,hown_,hb_⟩;refine⟨_,rfl, ?_⟩;replace hh:=hh.Aa (x:=.row _ _ _ _ _ _) hb_ hown_;obtain⟨g17,rfl⟩:=hh.Ob (i:=0) rfl Z';refine fa ?_;refine Ca 11 [[(0,none)],[(1,none)],[(18,some 0),(19,some 1)],[(20,some 2)],[(0,none)],[(1,none)],[(22,some 4),(23,some 5)],[(24,some 6)],[(25,some 7)],[(21,some 3),(26,some 8)],[]] [(10,7),(9,27),(8,26),(7,25),(6,24),(5,23),(4,22),(3,21),(2,20),(1,19),(0,18)] hh mixed T' ?_;refine De ?_;refine cd ?_;refine Kt (a) ?_;refine Dn [_,_,_,_,_,_] (λ_ hj=>hj.hp.Gd (f:=SR.cells) (x:=s.f) (l:=b.map SR.f) (i:=0) rfl SR.len U' hfs) ?_;refine De ?_;refine cd ?_;refine Kt (a) ?_;refine Dn [_,_,_,_,_,_] (λ_ hj=>hj.hp.Gd (f:=SR.cells) (x:=s.f) (l:=b.map SR.f) (i:=0) rfl SR.len U' hfs) ?_;refine dC (λ_ hj=>hmd _ (hT.hp hj.hp)) ?_
 refine dB [_,_,_,_,_,_,_,_,_] ?_;refine Va (i:=10) (Gc _ 180 _) Gc.ext (λρ1 w1 hj hR=>Ui ya.out hj.bl (λv w2 h hb=>⟨hb,h⟩)) ?_;refine xa ?_;intro f W hJ hV;have hb_4:=hJ.bl;obtain⟨v7,v27,v26,v25,v24,v23,v22,v21,v20,v19,v18,_⟩:=hV;obtain⟨b7,e7,hl7,hc7⟩:Gc _ _ _ (f 10) W:=v7;replace hh:=hJ.newVar hh hl7 hc7;refine Da (Na (aa e7 (aa v27 (aa v26 (aa v25 (aa v24 (aa v23 (aa v22 (aa v21 (aa v20 (aa v19 (aa v18 Ea)))))))))))) ?_;dsimp only[Bb];clear e7 hJ;refine Jb ?_;intro ws hh;refine Ca 9 [[(0,none)],[(1,none)],[(7,none)],[(30,some 2)],[(28,some 0),(29,some 1),(31,some 3)],[(0,none)],[(1,none)],[(7,none)],[(35,some 7)]] [(8,36),(7,35),(6,34),(5,33),(4,32),(3,31),(2,30),(1,29),(0,28)] hh mixed T' ?_;refine De ?_;refine cd ?_;refine Vd 0 [_,_,_,_,_,_,_,_,_] ?_;refine dC (λ_ hj=>au s.f (nR s.f.qh) false _) ?_;refine Va (i:=4) (OC ws.heap.size 36 n 6 (na SR.cells ((b.map SR.f).set a (s.f.half (nR s.f.qh) false)))) (OC.ext) ?_ ?_
 .intro ρ1 w1 hj hR;exact Pb rfl (qb ja.out (Ga hR.1 (Ga hR.2.1 (Ga hR.2.2.1 Fb)))) (yu (some ⟨g17,0,none⟩) n c17 a (b.map SR.f) _ w1 (hj.hp.ra (i:=1) rfl) hn han) (λ_ _ ⟨A,c,hq,ho,hb⟩=>⟨_,hq,hb,A,c,rfl,cq ho hj.bl.size⟩)
 refine De ?_;refine cd ?_;refine Vd 0 [_,_,_,_,_,_,_,_,_] ?_;refine dC (λ_ hj=>au s.f (nR s.f.qh) true _) ?_;refine xa ?_;intro f W hJ hV;have hb_5:=hJ.bl;obtain⟨v36,v35,v34,v33,v32,v31,v30,v29,v28,_⟩:=hV;obtain⟨A32,c32,e32,o32⟩:OC _ _ _ _ _ (f 4) W:=v32;replace hh:=JJ.AU hh hJ.hp o32;clear o32;refine Da (Na (aa v36 (aa v35 (aa v34 (aa v33 (aa e32 (aa v31 (aa v30 (aa v29 (aa v28 Ea)))))))))) ?_;dsimp only[Bb];clear e32 hJ;refine qa (yu (some ⟨g17,0,none⟩) n c17 a (b.map SR.f) _ _ (hh.ra (i:=2) rfl) hn han) ja.out rfl U' ?_;rintro e_ w37 ⟨A37,c37,rfl,hown_,hb_⟩;refine⟨_,rfl, ?_⟩;replace hh:=hh.Aa (x:=.row _ _ _ _ _ _) hb_ hown_;refine aL (aL (aI (ua (Bn ?_))));replace hh:=hh.sub (I' _ (I' _ (p' _ (p' _ H_))));refine qa3 ?_;exact⟨_,_,_,_,rfl,hh⟩
def MP(D:List Nat)(X:List Dyadic):FX:=⟨none,D.length,0,none,X.length,0,Ua D,X.map nR⟩
structure CV where
 b:List SR
 D:List Nat
 X:List Dyadic
 Y:List Dyadic
def CV.f(c:CV):FX:=MP c.D c.X
def CV.g(c:CV):FX:=MP c.D c.Y
def CV.half(c:CV)(a:Nat)(s:SR)(u:Bool):CV:=⟨(c.b.map SR.f).set a (s.f.half (nR s.f.qh) u),c.D,abH u (Ie (-1)) c.D a c.X,abH u (Ie (-1)) c.D a c.Y⟩
structure CV.ok(c:CV):Prop where
 bx:∀s∈c.b,s.fin 1000
 b20:c.b.length<=20
 d12:c.D.length<=12
 d127:∀d∈c.D,d<=127
 CP:la c.D<=200
 lx:c.X.length=la c.D
 ly:c.Y.length=la c.D
 zx:∀x∈c.X,Sz 90000 x
 zy:∀x∈c.Y,Sz 90000 x
 up:Mb [c.f,c.g]=0->(∀x∈Oi (maxD [c.f,c.g]) c.f,Sz 250000 x)/\∀x∈Oi (maxD [c.f,c.g]) c.g,Sz 250000 x
structure CX where
 ye:Option Addr
 n:Nat
 c:Nat
 f:FX
 g:FX
 v:CV
def CX.cells(x:CX):List Value:=[.slice x.ye x.n x.c,.slice x.f.A x.f.n x.f.a,.slice x.f.B x.f.m x.f.b,.slice x.g.A x.g.n x.g.a,.slice x.g.B x.g.m x.g.b]
def CX.rows(x:CX):List HE:=[.row x.ye x.n x.c 36 6 (na SR.cells x.v.b),x.f.rg,x.f.fg,x.g.rg,x.g.fg]
structure FX.is(f:FX)(D:List Nat)(X:List Dyadic):Prop where
 ds:f.ds=Ua D
 cs:f.cs=X.map nR
structure CX.fit(x:CX):Prop where
 f:x.f.is x.v.D x.v.X
 g:x.g.is x.v.D x.v.Y
structure FX.held(f:FX)(w:World):Prop where
 at_:f.at_ w
 cap:f.n<=f.a
structure CX.at_(x:CX)(w:World):Prop where
 b:Sl w x.ye x.n 6 (na SR.cells x.v.b)
 f:x.f.held w
 g:x.g.held w
def FX.is.key{f:FX}{D:List Nat}{X:List Dyadic}(h:f.is D X)(ha:f.at_ w):f.n=D.length/\f.m=X.length:=by
 obtain⟨h1,h2⟩:=ha.ln;rw[h.ds,Ic] at h1;rw[h.cs,i'] at h2;exact⟨h1.symm,h2.symm⟩
def FX.is.e{f:FX}{D:List Nat}{X:List Dyadic}(h:f.is D X)(h12:D.length<=12)(hlow:∀d∈D,d<=127)(hx:X.length=la D)(hc:la D<=4096):f.e=0:=by
 unfold FX.e;rw[h.ds,h.cs];exact(FV.mk rfl rfl h12 hlow hx hc:FV (Ua D) (X.map nR) D X).ok
def FX.is.Zg{f:FX}{D:List Nat}{X:List Dyadic}(h:f.is D X)(ha:f.at_ w)(h12:D.length<=12)(hx:X.length=la D)(hc:la D<=4096)(hz:∀x∈X,Sz k x)(hk:k<=3000000):f.Zg k:=by
 obtain⟨h1,h2⟩:=h.key ha;refine⟨Z',Z',λc hc=> ?_⟩;rw[h.cs] at hc;obtain⟨d,hd,rfl⟩:=Z_.1 hc;rw[Za];exact⟨(hz d hd).ok Z',hz d hd⟩
def mulM(a b:ByteArray):ByteArray:=str (mulL a.data.toList b.data.toList).1
def jn(a b:ByteArray):Int:=(mulL a.data.toList b.data.toList).2
def Ss(x y:TR):TR:=⟨mulM x.m y.m,nR (x.c.ma*y.c.ma)⟩
variable {p:List TR}
def Zb(p q:List TR):List TR:=p.flatMap λx=>q.map (Ss x)
def Ru(p q:List TR):List Int:=p.flatMap λx=>q.map λy=>jn x.m y.m
def Ff(p q:List TR):Int:=if 65536<p.length*q.length then 3 else match(Ru p q).find? λe=>decide (e≠0) with|some e=>e|none=>if 4096<(sa (Zb p q)).length then 3 else 0
variable {α β:Type}
def UG{α β:Type}{f:α->List β}{k:Nat}:∀{l:List α},(∀x∈l,(f x).length=k)->(l.flatMap f).length=l.length*k
 |[],_=>by simp
 |x::l,h=>(by rw[G7,Y_,h x q',UG λy hy=>h y (F' _ hy),E_,n9,o8])
def rj(p q:List TR):(Zb p q).length=p.length*q.length:=UG λx _=>i' _
def Us{γ:Type}{f:α->β->γ}{p:List α}{q:List β}{i:Nat}{x:α}(hx:p[i]?=some x):((p.take (i+1)).flatMap λx=>q.map (f x))=((p.take i).flatMap λx=>q.map (f x))++(q.take q.length).map (f x):=by
 rw[oa hx,q7,W_ (j' _)];simp
def kJ{γ:Type}{f:α->β->γ}{p:List α}{q:List β}{i:Nat}{x:α}{y:β}(hx:p[i]?=some x)(hy:q[j]?=some y):
  ∃R,(p.flatMap λx=>q.map (f x))=(((p.take i).flatMap λx=>q.map (f x))++(q.take j).map (f x))++f x y::R:=by
 refine⟨(q.drop (j+1)).map (f x)++(p.drop (i+1)).flatMap λx=>q.map (f x), ?_⟩;have e1:p=p.take i++x::p.drop (i+1):=by rw[<-Ge hx,P9]
 have e2:q=q.take j++y::q.drop (j+1):=by rw[<-Ge hy,P9]
 have e3:q.map (f x)=(q.take j).map (f x)++f x y::(q.drop (j+1)).map (f x):=(by rw[<-q_,<-n_,<-e2])
 calc (p.flatMap λx=>q.map (f x))=(p.take i++x::p.drop (i+1)).flatMap λx=>q.map (f x):=by rw[<-e1]
  _=_:=by rw[q7,G7,e3];simp
def Rr{q:List TR}(hp:xg k p)(hq:xg j q)(h:k+j<=1000000):xg (k+j) (Zb p q):=λt ht=>by
 obtain⟨x,hx,ht⟩:=U7.1 ht;obtain⟨y,hy,rfl⟩:=Z_.1 ht;have hs:=(hp x hx).2.mul (hq y hy).2;exact⟨hs.ok Z',by show Sz _ (nR _).ma;rw[Za];exact hs⟩
def pO(a b:ByteArray):(mulM a b).size<=b.size:=by
 unfold mulM;rw[yg];unfold mulL;split
 .rename_i l hl;have:=(qB hl).2.2;have h4:l.length<=b.data.toList.length:=by rw[this.2,a7,jd,jd];omega
  have h5:(eW l).length<=l.length:=by unfold eW;split<;>simp
  rw[Tc];exact N_ h5 h4
 exact D' _
def sU(c:Dyadic)(f:ByteArray->Dyadic)(l:List TR):wS (λm=>c*f m) l=c*wS f l:=by
 induction l with
 |nil=>exact(W5 _).symm
 |cons t l ih=>rw[wS,wS,ih];grind
def fQ(f:ByteArray->Dyadic)(x:TR)(q:List TR):wS f (q.map (Ss x))=x.c.ma*wS (λb=>f (mulM x.m b)) q:=by
 induction q with
 |nil=>exact(W5 _).symm
 |cons t q ih=>
  rw[q_,wS,ih,wS];show(nR _).ma*f (mulM x.m t.m)+_=_;rw[Za];grind
def fG(f:ByteArray->Dyadic)(q:List TR):∀p:List TR,wS f (Zb p q)=wS (λa=>wS (λb=>f (mulM a b)) q) p
 |[]=>rfl
 |t::p=>(by show wS f (q.map (Ss t)++Zb p q)=_;rw[Zn,fQ,fG f q p,wS])
def Fp(c:Dyadic)(t:TR):TR:=⟨t.m,nR (t.c.ma*c)⟩
variable {ts:List TR}
def Ub{v:Int}(h:Gf v ts=0):Wg v=true/\ts.length<=4096/\(∀t∈ts,pe v t=true)/\Canon ts:=by
 unfold Gf at h
 cases hf:Wg v with
 |false=>rw[hf,J' rfl] at h;omega
 |true=>
  rw[L' (by rw[hf];decide)] at h;by_cases h4:4096<ts.length
  .rw[J' h4] at h;omega
  rw[L' h4] at h;by_cases ho:okB v ts=true
  .unfold okB at ho;rw[Q_] at ho;have hg:∀t∈ts,fp v t=true:=u_.1 ho.1;refine⟨rfl,Z',λt ht=> ?_,xq.1 ho.2,λt ht=> ?_,λt ht=> ?_⟩
   .exact(I8.1 (hg t ht)).1
   .exact GI (I8.1 (I8.1 (hg t ht)).2).1
   exact((wv _).1 (I8.1 (I8.1 (hg t ht)).2).2).symm
  rw[L' ho] at h;omega
def FK{v:Int}(hf:Wg v=true)(h4:ts.length<=4096)(hm:∀t∈ts,pe v t=true)(hc:Canon ts):Gf v ts=0:=by
 unfold Gf;rw[L' (by rw[hf];decide),L' Z',J'];unfold okB;rw[Q_];refine⟨u_.2 λt ht=> ?_,xq.2 hc.Eu⟩;show(pe v t && (Cp t && nfB t.c))=true;rw[hm t ht,(wv _).2 (hc.nf t ht).symm];unfold Cp;rw[O_ (hc.nz t ht)];rfl
def acg{v:Int}{s t:TR}(h:s.m=t.m)(hs:pe v s=true):pe v t=true:=by unfold pe at hs |-;rwa[<-h]
def Hl{v:Int}{l:List TR}(h:∀t∈l,pe v t=true):∀t∈sa l,pe v t=true:=λt ht=>by
 obtain⟨s,hs,e⟩:=Pf t ht;exact acg e (h s hs)
def We{v:Int}{l:List TR}(hf:Wg v=true)(h4:(sa l).length<=4096)(hm:∀t∈l,pe v t=true):Gf v (sa l)=0:=FK hf h4 (Hl hm) (Nf l)
def eT{v:Int}{x y:TR}(hx:pe v x=true)(h:jn x.m y.m=0):pe v (Ss x y)=true:=by
 unfold pe at hx |-;rw[Q_,K_] at hx;obtain⟨_,_,h3,h4,h5⟩:=Wn h;rw[Q_,K_];have h6:=J_ List.length h5;rw[jd,a7,jd,jd,h3,Nat.min_self] at h6;refine⟨?_, ?_⟩
 .show Ae (mulM x.m y.m).data.toList=true;unfold mulM;rw[Oc];exact h4
 show((mulM x.m y.m).size:Int)=v;unfold mulM;rw[yg,h6,<-Tc];exact hx.2
def Yn{v:Int}{q:List TR}(hp:∀t∈p,pe v t=true)(h:∀e∈Ru p q,e=0):∀t∈Zb p q,pe v t=true:=λt ht=>by
 obtain⟨x,hx,ht⟩:=U7.1 ht;obtain⟨y,hy,rfl⟩:=Z_.1 ht;exact eT (hp x hx) (h _ (U7.2 ⟨x,hx,Z_.2 ⟨y,hy,rfl⟩⟩))
def pk{q:List TR}(h:Ff p q=0):p.length*q.length<=65536/\(∀e∈Ru p q,e=0)/\(sa (Zb p q)).length<=4096:=by
 unfold Ff at h;by_cases h6:65536<p.length*q.length
 .rw[J' h6] at h;omega
 rw[L' h6] at h;split at h
 .rename_i e he;have:=B6 he;rw[K_] at this;exact absurd h this
 rename_i he;refine⟨Z',λe hm=> ?_, ?_⟩
 .have:=L7.1 he e hm;simpa using this
 by_cases h4:4096<(sa (Zb p q)).length
 .rw[J' h4] at h;omega
 omega
variable {ps:List PX}
def ff(ps:List PX):Int:=(ps.map PX.v).headD 0
def Mr(ps:List PX):List TR:=ps.flatMap PX.ts
def Ez(ps:List PX):Int:=if bg ps=0 then Qf (Mr ps) else bg ps
def yD(h:bg ps=0):ps≠[]/\(∀g∈ps,g.e=0)/\∀g∈ps,g.v=ff ps:=by
 unfold bg at h;exact aew
def DB{α β:Type}{f:α->List β}{B:Nat}:∀{l:List α},(∀x∈l,(f x).length<=B)->(l.flatMap f).length<=l.length*B
 |[],_=>by simp
 |x::l,h=>(by rw[G7,Y_,E_,n9];have h1:=h x q';have h2:=DB λy hy=>h y (F' _ hy);omega)
def SN{f:α->List β}{l:List α}{i:Nat}{x:α}(h:l[i]?=some x):(l.take (i+1)).flatMap f=(l.take i).flatMap f++f x:=by
 rw[oa h,q7];simp
def pI{l k:List TR}(h:sa l=sa k):Qf l=Qf k:=by unfold Qf;rw[h]
def ll{g:PX}(h:ps[0]?=some g):ff ps=g.v:=by
 obtain _|⟨f,l⟩:=ps
 .cases h
 have:f=g:=by simpa using h
 rw[<-this];rfl
def bq(L:Option Addr)(n c:Nat)(ps:List PX)(k:Nat)(w:World)(hT:Sc w)(hL:Sl w L n 2 (na PX.cells ps))(hn:n<=100)(hf:∀g∈ps,g.at_ w)(hl:∀g∈ps,g.Zg k)(hk:k<=2999000):Calls prog 70 #[.slice L n c] w λr w'=>∃g:PX,mg (Ez ps) (ff ps) (sa (Mr ps)) g/\r=.returned (.tuple #[.agg #[.int .i64 g.v,.slice g.A g.n g.c],.int .i64 (Ez ps)])/\Hp w [g.row] w':=by
 have hh:=Hp.start w;have hln:=hL.Fa PX.len U';have hlk:=λw1 hT1 hb=>Yt L n c ps k w1 hT1 (hL.ext hb) Z' (λg hg=>(hf g hg).ext hb) hl;unfold Ez;by_cases h0:bg ps=0
 .rw[J' h0];rw[h0] at hlk;obtain⟨hne,om,hvv⟩:=yD h0;have hpos:=List.length_pos_iff.2 hne;obtain⟨g0,h00⟩:=ea (l:=ps) (k:=0) hpos;rw[ll h00];have hfl:(Mr ps).length<=ps.length*4096:=DB λg hg=>(Ub (om g hg)).2.1;obtain⟨ad,rfl,hr⟩:=hL.at_ Z';refine da (N:=33) (l:=[.slice (some ad) n c]) func70 rfl rfl (by simp) ?_;refine Jb ?_;intro b2 w2 hh;refine QA ?_;intro w9 hh;refine fa ?_;replace hh:=hh.Lb 72 4;refine Ra [5,7,16,17,18,19,20,21,22,23,24] 5 16 (λa x w'=>∃(i:Nat)(M:List TR)(A':Option Addr)(c':Nat),i<=n/\x=.int .i64 i/\a=.slice A' M.length c'/\MD (k+i) ((ps.take i).flatMap PX.ts) M/\Hp w [.row A' M.length c' 72 4 (na TR.cells M),.blk b2 24 [.int .i64 0,.slice none 0 0] (0,0)] w') (λ_ x _=>n-(intOf x).toNat) ?_ ?_
  .exact⟨0,[],none,0,D' _,rfl,rfl,MD.self S5 (λt ht=>nomatch ht),hh⟩
  clear hh;rintro ρ' a_ x_ w' ⟨i,M,A',c',hi,rfl,rfl,hmd,hh⟩;have hfi:((ps.take i).flatMap PX.ts).length<=i*4096:=(by have:=DB (f:=PX.ts) (B:=4096) (l:=ps.take i) λg hg=>(Ub (om g (N8 hg))).2.1;rwa[R_,C9 Z'] at this);have hML:=hmd.len;by_cases hlt:i<n
  .obtain⟨g,hx⟩:=ea (l:=ps) (k:=i) Z';have hmem:=G' hx;have hgl:=hl g hmem;have hge:=Ub (om g hmem);have hgc:=hgl.cap;have hgn:=hgl.n;refine fa ?_;refine uE ?_;refine Sb ?_;intro b7 w7 hh ws hh;refine qa (wq A' M.length c' M g.A g.n g.c g.ts (k+i) _ (hT.hp hh) (hh.ra (i:=1) rfl) ((hf g hmem).ext hh.below) (hh.me (i:=1) rfl) hgc Z' hgn Z' hmd.Eu hge.2.2.2.Eu hmd.ok (hgl.ok.mono Z')) ja.out rfl U' ?_;rintro e_ w23 ⟨L2,A2,c2,hm2,rfl,h3⟩;refine⟨_,rfl, ?_⟩;replace hh:=hh.join h3;simp only[C',E'] at hh;refine fa ?_;replace hh:=hh.sub (I' _ (p' _ (p' _ (I' _ H_))));refine⟨⟨i+1,L2,A2,c2,Z',rfl,rfl, ?_,hh⟩,by show n-(i+1)<n-i;omega, ?_⟩
   .rw[SN hx];exact hmd.EV (MD.self hge.2.2.2.Eu (hgl.ok.mono Z':xg (k+i) g.ts)) hm2 Z'
   exact Rc
  obtain rfl:i=n:=Z';rw[W_ Z'] at hmd hfi hML;have hgM:sa M=sa (Mr ps):=xB hmd.co;have hgE:=pI hgM;refine fa ?_;refine ub ya.out rfl (ic hh.below ((hr.recAt PX.len h00) 0 _ rfl)) U' ?_;refine mL ?_;refine qa (Tj _ A' M.length c' M (k+i) _ hT hh rfl Z' Z' hmd.ok) ja.out rfl U' ?_;rintro e_ w30 ⟨g,og,rfl,hh⟩;refine⟨_,rfl, ?_⟩;refine Jb ?_;intro ws hh;refine BF ?_;rw[<-hgE,<-hgM];exact XX
 rw[L' h0];generalize bg ps=e at*;refine da (N:=33) (l:=[.slice L n c]) func70 rfl rfl (by simp) ?_;refine Jb ?_;intro b2 w2 hh;refine QA ?_;intro w9 hh;exact kT
end Go.Proofs.YtbencocchdpikaaGreatDoor
