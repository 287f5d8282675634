/- Lemmas for ratioEncloses, part 11. -/
import Derived.Test.YtbencocchdpikaaGreatDoorZ101
set_option linter.all false
set_option maxHeartbeats 0
namespace Go.Proofs.YtbencocchdpikaaGreatDoor
open Go.Proofs.Tryz
open Go.RowKit
def Rr{l:List Dyadic}{m:Dyadic}(h1:m∈l)(h2:∀x∈l,m<=x):xc (λx y=>decide (x<y)) l=m:=by
 have G:=PD m h1;have z:=h2 _ (Nj (f:=λx y=>decide (x<y)) (l:=l) λh=>by rw[h] at h1;exact absurd h1 i_);grind
def Hs{l:List Dyadic}{m:Dyadic}(h1:m∈l)(h2:∀x∈l,x<=m):xc (λx y=>decide (y<x)) l=m:=by
 have G:=ID m h1;have z:=h2 _ (Nj (f:=λx y=>decide (y<x)) (l:=l) λh=>by rw[h] at h1;exact absurd h1 i_);grind
def jK(l:List SR)(s:SR):(Jg (l++[s])).map NR.fa=(Jg l).map NR.fa++[s.lo.fa,s.hi.fa]:=by
 unfold Jg;rw[r8,q_];rfl
def CC{l:List SR}(Q:l≠[])(s):Se [Se l,s]=Se (l++[s]):=by
 have E:(Jg l).map NR.fa≠[]:=λh=>by
  cases l with
  |nil=>exact Q rfl
  |cons a r=>cases h
 have e:(Jg [Se l,s]).map NR.fa=[xc (λx y=>decide (x<y)) ((Jg l).map NR.fa),xc (λx y=>decide (y<x)) ((Jg l).map NR.fa),s.lo.fa,s.hi.fa]:=(by show[(Se l).lo.fa,(Se l).hi.fa,s.lo.fa,s.hi.fa]=_;unfold Se;rw[Ta,Ta]);unfold Se;rw[jK];unfold Se at e;rw[e];generalize (Jg l).map NR.fa=L at*;have b:=Nj (f:=λx y=>decide (x<y)) E;have N:=Nj (f:=λx y=>decide (y<x)) E;have G:=PD (l:=L);have T:=ID (l:=L);generalize xc (λx y=>decide (x<y)) L=lo at*;generalize xc (λx y=>decide (y<x)) L=hi at*;have X:=G _ N;have M:xc (λx y=>decide (x<y)) (L++[s.lo.fa,s.hi.fa])=xc (λx y=>decide (x<y)) [lo,hi,s.lo.fa,s.hi.fa]:=by
  have k1:=PD (l:=[lo,hi,s.lo.fa,s.hi.fa]);have k2:=Nj (f:=λx y=>decide (x<y)) (l:=[lo,hi,s.lo.fa,s.hi.fa]) (by simp);generalize xc (λx y=>decide (x<y)) [lo,hi,s.lo.fa,s.hi.fa]=m at*;refine Rr ?_ λx C=> ?_
  .exact aed
  obtain C|C:=A_.1 C
  .have:=G x C;have:=k1 lo (by simp);grind
  exact KZ
 have c:xc (λx y=>decide (y<x)) (L++[s.lo.fa,s.hi.fa])=xc (λx y=>decide (y<x)) [lo,hi,s.lo.fa,s.hi.fa]:=by
  have k1:=ID (l:=[lo,hi,s.lo.fa,s.hi.fa]);have k2:=Nj (f:=λx y=>decide (y<x)) (l:=[lo,hi,s.lo.fa,s.hi.fa]) (by simp);generalize xc (λx y=>decide (y<x)) [lo,hi,s.lo.fa,s.hi.fa]=m at*;refine Hs ?_ λx C=> ?_
  .exact aed
  obtain C|C:=A_.1 C
  .have:=T x C;have:=k1 hi (by simp);grind
  exact KZ
 rw[M,c]
def abi{x y:Dyadic}(p:Int)(hy:y≠0):gu x y p<= -gu (-x) y p:=by
 rcases(show 0<y\/y<0 by grind) with h|h
 .have h1:=UM (x:=x) p h;have h2:=UM (x:= -x) p h;generalize gu x y p=u at*;generalize gu (-x) y p=v at*;rcases(show u<= -v\/0<u+v by grind) with G|G
  .exact G
  have z:=Lean.Grind.OrderedRing.mul_pos G h;grind
 have h1:=nM (x:=x) p h;have h2:=nM (x:= -x) p h;generalize gu x y p=u at*;generalize gu (-x) y p=v at*;rcases(show u<= -v\/0<u+v by grind) with G|G
 .exact G
 have z:=Lean.Grind.OrderedRing.mul_pos G (show 0< -y by grind);grind
def sU{x y:Dyadic}(p:Int)(hy:y≠0):Se [dr x y p]=dr x y p:=by
 have h:=abi (x:=x) p hy;unfold Se dr;have e:(Jg [(⟨nR (gu x y p),nR (-gu (-x) y p)⟩:SR)]).map NR.fa=[gu x y p, -gu (-x) y p]:=(by show[(nR _).fa,(nR _).fa]=_;rw[Ta,Ta]);rw[e,Rr (m:=gu x y p) (by simp) (λz o=>by
  simp only[y',i_,or_false] at o;obtain rfl|rfl:=o<;>grind),Hs (m:= -gu (-x) y p) (by simp) (λz o=>by
  simp only[y',i_,or_false] at o;obtain rfl|rfl:=o<;>grind)]
def AE(f g:FX)(k:Nat)(p:Int)(w:World)(hf:f.at_ w)(hg:g.at_ w)(hlf:f.qf k)(hlg:g.qf k)(hk:k<=90000)(hz:Nb [f,g]=0->(∀x∈kj (maxD [f,g]) f,Sz 250000 x)/\∀x∈kj (maxD [f,g]) g,Sz 250000 x)(hp1: -1000<=p)(hp2:p<=1000):Zc 47 #[.agg #[.slice f.A f.n f.a,.slice f.B f.m f.b],.agg #[.slice g.A g.n g.a,.slice g.B g.m g.b],.int .i64 p] w (.tuple #[.agg (SR.cells (De f g p)).toArray,.int .i64 (Zf f g)]):=by
 have I:=Hp.start w;have hra:=λA cc Z (F:Below w.heap.size w Z) hS=>GA A 2 cc [f,g] k Z hS Z' (by simpa using⟨hf.ext F,hg.ext F⟩) (by simpa using⟨hlf,hlg⟩) hk;have L:∀x∈[f,g],x.ds.length=x.n:=by simpa using⟨hf.ln.1,hg.ln.1⟩
 unfold De Zf;by_cases N:Nb [f,g]=0
 .obtain⟨hX,hY⟩:=hz N;obtain⟨hlk,_,hc⟩:=Nk N (by simpa using⟨hf.ln.1,hg.ln.1⟩);obtain⟨a1,a2,a3⟩:=yh hlk L f (by simp);obtain⟨c1,c2, -⟩:=yh hlk L g (by simp);have lx:=Ak a1 a2;have ly:=Ak c1 c2;have hrb:=λA cc Z F hS=>(hra A cc Z F hS).mono λr V h=>show ∃(A:Option Addr)(a:Nat)(Q P:FX)(R:List HE),(Q.cs=(kj (maxD [f,g]) f).map nR/\Q.m=da (maxD [f,g]))/\(P.cs=(kj (maxD [f,g]) g).map nR/\P.m=da (maxD [f,g]))/\Kept [f,g] R Q/\Kept [f,g] R P/\r=.returned (.tuple #[.slice A 2 a,.int .i64 0])/\Hp Z (.row A 2 a 78 2 (la FX.cells [Q,P])::R) V from by
   obtain h|⟨_,A,a,gs,R,h5,h6,h7,h8,h9⟩:=h
   .exact absurd N h.1
   obtain⟨Q,P,rfl⟩:∃x y,gs=[x,y]:=by
    match gs,h6 with
    |[x,y],_=>exact⟨x,y,rfl⟩
   exact⟨A,a,Q,P,R,⟨(h7 0 f Q rfl rfl).cs,(h7 0 f Q rfl rfl).m⟩,⟨(h7 1 g P rfl rfl).cs,(h7 1 g P rfl rfl).m⟩,h8 Q (by simp),h8 P (by simp),h5,h9⟩
  clear hra hz;rw[Q' N];have T:∀z∈[f,g],z.at_ w:=by simpa using⟨hf,hg⟩
  generalize kj (maxD [f,g]) f=X at*;generalize kj (maxD [f,g]) g=Y at*;have hpos:=Wb (maxD [f,g]);generalize da (maxD [f,g])=m at*;refine Ga func47 ?_;refine Ii ?_;intro b3 w3 I b4 w4 I b6 w6 I;refine ym ?_;intro b15 w15 I;refine Vg (hrb _ _ _ I.below (I.ka (i:=0) rfl)) ?_;rintro e_ w16 ⟨A3,a3',Q,P,R3,⟨m0,n0⟩,⟨m1,n1⟩,kp0,kp1,rfl,h2⟩;refine⟨_,rfl, ?_⟩;replace I:=I.join h2;clear h2;replace I:=I.perm e8;simp only[I',J'] at I;obtain⟨g3,rfl⟩:=I.ib (i:=4) rfl Z';have hl0:[Q,P][0]?=some Q:=rfl;have hl1:[Q,P][1]?=some P:=rfl;have G:(la FX.cells [Q,P])[0*2+1]?=some (Value.slice Q.B Q.m Q.b):=rfl;have hc1:(la FX.cells [Q,P])[1*2+1]?=some (Value.slice P.B P.m P.b):=rfl;have Dl:=kp1.at_ T (λx C=>by simp[C]) I;have at0:=kp0.at_ T (λx C=>by simp[C]) I;have bnd:m<=1000000:=Z';have hokY:∀a∈P.cs,a.Ra.size<=10000000:=λa ha=>(by rw[m1] at ha;obtain⟨y,hy,rfl⟩:=x'.1 ha;have:=(hY y hy).nr.1;omega);refine ea ?_;refine sv (Ua (vs:=[_,_]) pa.out rfl (I.Wc (f:=FX.cells) (x:=P) (l:=[Q,P]) (i:=4) rfl FX.len V' hl1) rfl) ?_;refine Gd I (LH P _ Dl Z' Z' hokY) rfl ?_;intro w26 I;rw[m1];by_cases K:Gr (Y.map nR)=0
  .rw[Q' K,R' V'];exact aey
  rw[R' K,Q' rfl];have hY0:=wM K;generalize Gr (Y.map nR)=sg at*;have M:∀(i:Nat)(x y:Dyadic),X[i]?=some x->Y[i]?=some y->∀Z,Zc 114 #[.agg #[.bool (nR x).neg,.string (nR x).Ra,.int .i64 (nR x).e],.agg #[.bool (nR y).neg,.string (nR y).Ra,.int .i64 (nR y).e],.int .i64 p] Z (.agg (SR.cells (dr x y p)).toArray):=λi x y C hy Z=>(by have zx:=hX x (O' C);have zy:=hY y (O' hy);have:=PK (nR x) (nR y) p 250000 Z (zx.ok V') (zy.ok V') (by rw[Ta];exact zx) (by rw[Ta];exact zy) V' (by rw[Ta];exact hY0 y (O' hy)) hp1 hp2;rw[Ta,Ta] at this;exact this);obtain⟨x0,hx0⟩:=aa (l:=X) (k:=0) Z';obtain⟨y0,J⟩:=aa (l:=Y) (k:=0) Z';have gx0:Q.cs[0]?=some (nR x0):=by rw[m0,C',hx0];rfl
  have gy0:P.cs[0]?=some (nR y0):=by rw[m1,C',J];rfl
  have hq0:=M 0 x0 y0 hx0 J;have q:=kp1.at_ T (λx C=>by simp[C]) I;have t:=kp0.at_ T (λx C=>by simp[C]) I;obtain⟨u,S,hr0⟩:=t.nm.at_ Z';obtain⟨H,hB1,hr1⟩:=q.nm.at_ Z';have he0:Value.slice Q.B Q.m Q.b=.slice (some u) Q.m Q.b:=by rw[S]
  have he1:Value.slice P.B P.m P.b=.slice (some H) P.m P.b:=by rw[hB1]
  refine ea ?_;refine gz [14] [] 15 I ?_;refine OA ?_;refine Ku (0) ?_;refine XJ ?_;refine Ym (λ_ hj=>hj.hp.Pd (i:=4) rfl G) ?_;refine ua (i:=4) (Is (.pointer (some (u.add (0*3))))) (Is.ext) ?_ ?_
  .intro U Z hj hR;exact ic rfl (Eb (k:=0) Qa.out pa.size ((show U 32=Value.slice _ _ _ from hR.1).trans he0) rfl rfl Z') ⟨Below.refl _ _,rfl⟩
  refine fk [_,_,_] (λ_ hj=>(hr0.ext hj.bl).recAt NR.len gx0) ?_;refine OA ?_;refine Ku (1) ?_;refine XJ ?_;refine Ym (λ_ hj=>hj.hp.Pd (i:=4) rfl hc1) ?_;refine ua (i:=10) (Is (.pointer (some (H.add (0*3))))) (Is.ext) ?_ ?_
  .intro U Z hj hR;exact ic rfl (Eb (k:=0) Qa.out pa.size ((show U 38=Value.slice _ _ _ from hR.1).trans he1) rfl rfl Z') ⟨Below.refl _ _,rfl⟩
  refine fk [_,_,_] (λ_ hj=>(hr1.ext hj.bl).recAt NR.len gy0) ?_;refine Gv ?_;refine dC (λ_ hj=>hq0 _) ?_;refine ua (i:=14) (Sa _ 36 _) Sa.ext (λU Z hj hR=>Xc pa.out hj.bl (λv w2 h F=>⟨F,h⟩)) ?_;refine xa ?_;intro f W hJ hV _;obtain⟨v10,v42,v41,v40,v39,v38,v37,v36,v35,v34,v33,v32,v31,v30,v29,_⟩:=hV;obtain⟨b10,e10,hl10,hc10⟩:Sa _ _ _ (f 14) W:=v10;replace I:=hJ.newVar I hl10 hc10;refine Be ?_;clear e10 hJ;refine Gb ?_;intro ws I;replace I:=I.sub (P' _ (L' _ (P' _ (L' _ (L' _ (P' _ (u_ _)))))));have hql:=Dq (p:=p) (show X.length=Y.length by omega);have hne:∀i:Nat,1<=i->(Vj X Y p).take i≠[]:=λi h h2=>by
   have h3:min i (Vj X Y p).length=0:=by rw[<-q',h2];rfl
   rw[hql,lx] at h3;omega
  have hfin:∀(i:Nat),1<=i->∀(x y:Dyadic),X[i]?=some x->Y[i]?=some y->∀s∈[Se ((Vj X Y p).take i),dr x y p],s.fin 3000000:=λi D x y C hy=>by
   have hz:∀(x y:Dyadic),x∈X->y∈Y->Sz 3000000 (gu x y p)/\Sz 3000000 (-gu (-x) y p):=λx y C hy=>
    ⟨(Ss p (hX x C) (hY y hy) hp1 hp2).mono V',(Ss p (hX x C).neg (hY y hy) hp1 hp2).neg.mono V'⟩
   have hq:∀s∈(Vj X Y p).take i,Sz 3000000 s.lo.fa/\Sz 3000000 s.hi.fa:=λs K=>(by obtain⟨j,hj⟩:=r_.1 (Z8 K);have hj2:=(z'.1 hj).1;rw[hql] at hj2;obtain⟨a,ha⟩:=aa hj2;obtain⟨b,F⟩:=aa (l:=Y) (k:=j) Z';rw[Km ha F] at hj;rw[<-P_ hj];unfold dr;rw[Ta,Ta];exact hz a b (O' ha) (O' F));intro s K;obtain rfl|K:=y'.1 K
   .exact Ox (hne i D) hq V'
   rw[k'.1 K];have:=hz x y (O' C) (O' hy);exact⟨ql.of this.1 V',ql.of this.2 V'⟩
  have e1:Se ((Vj X Y p).take 1)=dr x0 y0 p:=(by rw[show(1:Nat)=0+1 from rfl,ja (Km hx0 J)];exact sU p (hY0 y0 (O' J)));rw[<-e1] at I;refine rf 11 (λv V=>∃i:Nat,1<=i/\i<=m/\v=.int .i64 i/\Hp w (.blk b10 36 (SR.cells (Se ((Vj X Y p).take i))) (0,0)::.row (some ⟨g3,0,none⟩) 2 a3' 78 2 (la FX.cells [Q,P])::.blk b6 36 [.bool false,.string (ByteArray.mk #[]),.int .i64 0,.bool false,.string (ByteArray.mk #[]),.int .i64 0] (0,0)::R3) V) (λv _=>m-(intOf v).toNat) ?_ ?_
  .exact⟨1,F' _,hpos,rfl,I.perm (.cons _ (.swap _ _ _))⟩
  clear I;rintro ρ' v V ⟨i,D,hi,rfl,I⟩;by_cases hlt:i<m
  .obtain⟨x,C⟩:=aa (l:=X) (k:=i) Z';obtain⟨y,hy⟩:=aa (l:=Y) (k:=i) Z';have gx:Q.cs[i]?=some (nR x):=by rw[m0,C',C];rfl
   have gy:P.cs[i]?=some (nR y):=by rw[m1,C',hy];rfl
   have hq:=M i x y C hy;have q:=kp1.at_ T (λx C=>by simp[C]) I;have t:=kp0.at_ T (λx C=>by simp[C]) I;obtain⟨u,S,hr0⟩:=t.nm.at_ Z';obtain⟨H,hB1,hr1⟩:=q.nm.at_ Z';have he0:Value.slice Q.B Q.m Q.b=.slice (some u) Q.m Q.b:=by rw[S]
   have he1:Value.slice P.B P.m P.b=.slice (some H) P.m P.b:=by rw[hB1]
   refine ea ?_;refine sv (Ma pa.out rfl (I.Pd (i:=1) rfl G)) ?_;have hw:=λA c Z (hS1:Sl Z A 2 6 (la SR.cells [Se ((Vj X Y p).take i),dr x y p]))=>vw A 2 c _ 3000000 Z hS1 (hfin i D x y C hy) V' V';generalize hV:Se ((Vj X Y p).take i)=o at*;replace I:Hp _ (.blk _ _ [_,_,_,_,_,_] _::_) _:=I;refine ea ?_;refine gz [] [] 17 I ?_;refine ub ?_;refine Ku (0) ?_;refine XJ ?_;refine Ym (λ_ hj=>hj.hp.Pd (i:=1) rfl G) ?_;refine Gv ?_;refine ua (i:=6) (Is (.pointer (some (u.add (i*3))))) (Is.ext) ?_ ?_
   .intro U Z hj hR;exact ic rfl (Eb (k:=i) Qa.out pa.size ((show U 56=Value.slice _ _ _ from hR.1).trans he0) (show U 57=_ from hR.2.1) rfl Z') ⟨Below.refl _ _,rfl⟩
   refine fk [_,_,_] (λ_ hj=>(hr0.ext hj.bl).recAt NR.len gx) ?_;refine OA ?_;refine Ku (1) ?_;refine XJ ?_;refine Ym (λ_ hj=>hj.hp.Pd (i:=1) rfl hc1) ?_;refine Gv ?_;refine ua (i:=13) (Is (.pointer (some (H.add (i*3))))) (Is.ext) ?_ ?_
   .intro U Z hj hR;exact ic rfl (Eb (k:=i) Qa.out pa.size ((show U 63=Value.slice _ _ _ from hR.1).trans he1) (show U 64=_ from hR.2.1) rfl Z') ⟨Below.refl _ _,rfl⟩
   refine fk [_,_,_] (λ_ hj=>(hr1.ext hj.bl).recAt NR.len gy) ?_;refine Gv ?_;refine dC (λ_ hj=>hq _) ?_;refine dn2 ?_;intro W I;refine VS ?_;intro b69 w69 I;refine cd I (hw _ _ _ (I.ka (i:=0) rfl)) ?_;intro w70 I;refine Gb ?_;intro ws I;replace I:=I.sub (L' _ (P' _ (P' _ (P' _ (u_ _)))));refine⟨⟨i+1,Z',Z',rfl, ?_⟩,by show m-(i+1)<m-i;omega, ?_⟩
   .rw[ja (Km C hy),<-CC (hne i D),hV];exact I
   exact Sb
  obtain rfl:i=m:=Z';rw[G' Z'] at I;refine ea ?_;refine sv (Ma pa.out rfl (I.Pd (i:=1) rfl G)) ?_;refine Gb ?_;intro ws I;refine kB (jb rfl (kb (vs:=[_,_,_,_,_,_]) pa.out (I.wa (i:=2) (n:=6) rfl rfl) rfl) (Dc (Sc rfl) Ub)) ?_;exact⟨rfl,I.below⟩
 have hrb:=λA cc Z F hS=>(hra A cc Z F hS).mono λr V h=>show r=.returned (.tuple #[.slice none 0 0,.int .i64 (Nb [f,g])])/\Below Z.heap.size Z V from by
  obtain h|h:=h
  .exact h.2
  exact absurd h.1 N
 rw[R' N,R' N];generalize Nb [f,g]=E at*;refine Ga func47 ?_;refine Ii ?_;intro b3 w3 I b4 w4 I b6 w6 I;refine ym ?_;intro b15 w15 I;refine cd I (hrb _ _ _ I.below (I.ka (i:=0) rfl)) ?_;intro w16 I;exact aey
def VA(p:PX)(c:NR)(k:Nat)(w)(hp:p.at_ w)(b:p.qf k)(E:c.ok/\Sz k c.fa)(hk:k<=400000):Calls prog 181 #[p.V,c.V] w λr V=>∃g:PX,se (iz p c.fa) p.v (oa (p.ts.map (Fo c.fa))) g/\r=.returned (.tuple #[g.V,.int .i64 (iz p c.fa)])/\Hp w [g.row] V:=by
 have I:=Hp.start w;have K:=λZ L=>Lp p k Z (hp.ext L) b;unfold iz;by_cases J:p.e=0
 .rw[Q' J];rw[J] at K;obtain⟨_,h4,_,_⟩:=Kb J;have S:p.ts.length=p.n:=hp.ln;have hpn:=b.n;refine Ga func181 ?_;refine Ii ?_;intro T w2 I q w3 I D w4 I;refine cd I (K _ I.below) ?_;intro G I;refine ea ?_;replace I:=I.yb 72 4;refine Jh 7 8 (λa v V=>∃(i:Nat)(M:List TR)(A:Option Addr)(B:Nat),i<=p.n/\v=.int .i64 i/\M=(p.ts.take i).map (Fo c.fa)/\a=.slice A M.length B/\Hp w [.row A M.length B 72 4 (la TR.cells M),.blk D 24 [.int .i64 0,.slice none 0 0] (0,0),.blk q 30 [.bool c.neg,.string c.Ra,.int .i64 c.e] (0,0),.blk T 24 [.int .i64 p.v,.slice p.A p.n p.c] (0,0)] V) (λ_ v _=>p.n-(intOf v).toNat) ?_ ?_
  .exact⟨0,[],none,0,N' _,rfl,rfl,rfl,I⟩
  clear I;rintro ρ' a_ v V ⟨i,M,A,B,hi,rfl,s,rfl,I⟩;have z:M.length<=i:=by rw[s,B',q'];omega
  by_cases R:i<p.n
  .obtain⟨x,C⟩:=aa (l:=p.ts) (k:=i) Z';obtain⟨ad,o,H⟩:=hp.at_ Z';have u:=b.ok x (O' C);have h:=λZ=>Ln x.c c Z (by have:=u.1.1;omega) (by have:=E.1.1;omega) (by have:=u.1.2.1;omega) (by have:=u.1.2.2;omega) (by have:=E.1.2.1;omega) (by have:=E.1.2.2;omega);rw[o] at I;refine ea ?_;refine Od 17 I ?_;refine Wi (i) ?_;refine px ?_;refine Ym (λ_ hj=>((H.ext hj.hp.below).recAt TR.len C).cell (i:=0) rfl) ?_;refine ub ?_;refine Wi (i) ?_;refine px ?_;refine fk [_,_,_] (λ_ hj=>((H.ext hj.hp.below).recAt TR.len C).drop 1) ?_;refine ub ?_;refine dC (λ_ hj=>h _) ?_;refine ub ?_;refine Nw [_,_,_,_] ?_;refine xa ?_;intro f W Q F;obtain⟨j,v37,v36,v35,v34,v33,v32,v31,v30,v29,v28,v27,v26,v25,v24,v23,v22,_⟩:=F;obtain⟨t,P,Y,f38⟩:Rows _ _ _ (f 16) W:=j;replace I:=Q.hp;refine Be ?_;refine pb I (i:=0) rfl rfl rfl (f38) Qa.out pa.out rfl V' (by first|rfl|exact kc _|exact Mb _|exact Ja _|exact Pa NR.one _) Z' Z' V' ?_;intro N X w39 I;simp only[l'] at I;refine ea ?_;rw[<-o] at I
   refine⟨⟨i+1,M++[⟨x.m,nR (x.c.fa*c.fa)⟩],N,X,Z',rfl,by rw[ja C,q_,s];rfl,by rw[D'];rfl,by rw[D',Na,Tj];exact I⟩,by show p.n-(i+1)<p.n-i;omega, ?_⟩;exact Sb
  obtain rfl:i=p.n:=Z';rw[G' Z'] at s;rw[<-s];refine ea ?_;refine Hi (Tg p.v A M.length B M (k+k) _ (I.ka (i:=0) rfl) Z' (by rw[s];exact gF b.ok E.2 Z') Z') rfl ?_;rintro e_ w43 ⟨g,og,rfl,y⟩;refine⟨_,rfl, ?_⟩;replace I:=I.join y;simp only[I',J'] at I;refine rS ?_;intro ws I;exact Fu
 rw[R' J];refine Ga func181 ?_;refine Ii ?_;intro T w2 I q w3 I D w4 I;refine cd I (K _ I.below) ?_;intro G I;refine gJ ?_;exact OU
def Aw(L)(n c:Nat)(X)(k:Nat)(w)(q:Sl w L n 2 (la PX.cells X))(hn:n<=20)(Y:∀g∈X,g.at_ w)(Q:∀g∈X,g.qf k)(hk:k<=2999000):Calls prog 183 #[.slice L n c] w λr V=>∃g:PX,se (iB X) (Ff X) (oa (ez X)) g/\r=.returned (.tuple #[g.V,.int .i64 (iB X)])/\Hp w [g.row] V:=by
 have I:=Hp.start w;have hln:=q.Aa PX.len V';have j:=λZ G=>Ct L n c X k Z (q.ext G) Z' (λg h=>(Y g h).ext G) Q;unfold iB;by_cases J:Te X=0
 .rw[Q' J];rw[J] at j;obtain⟨E,Ij,hvv⟩:=Hu J;have o:=E7.2 E;obtain⟨R,N⟩:=aa (l:=X) (k:=0) o;rw[aj N];have d:∀i,i<=n->((X.take i).flatMap PX.ts).length<=i*4096:=λi hi=>(by have:=Dx (f:=PX.ts) (B:=4096) (l:=X.take i) λg h=>(Kb (Ij g (Z8 h))).2.1;rwa[q',T9 Z'] at this);obtain⟨K,rfl,H⟩:=q.at_ Z';refine Ga (l:=[.slice (some K) n c]) func183 ?_;refine Gb ?_;intro F w2 I;refine cd I (j _ I.below) ?_;intro w8 I;refine ea ?_;replace I:=I.yb 72 4;refine Jh 5 6 (λa x V=>∃(i:Nat)(M:List TR)(T:Option Addr)(c':Nat),i<=n/\x=.int .i64 i/\a=.slice T M.length c'/\M=(X.take i).flatMap PX.ts/\Hp w [.row T M.length c' 72 4 (la TR.cells M),.blk F 24 [.int .i64 0,.slice none 0 0] (0,0)] V) (λ_ x _=>n-(intOf x).toNat) ?_ ?_
  .exact⟨0,[],none,0,N' _,rfl,rfl,rfl,I⟩
  clear I;rintro ρ' a_ x_ V ⟨i,M,T,c',hi,rfl,rfl,s,I⟩;have u:=d i hi;rw[<-s] at u;by_cases hlt:i<n
  .obtain⟨g,D⟩:=aa (l:=X) (k:=i) Z';have b:=O' D;have W:=(Q g b).n;have m:=(Y g b).ln;have oc1:=Pa TR.one g.ts;refine ea ?_;refine sv (Ma pa.out rfl (((H.ext I.below).recAt PX.len D).cell (i:=1) rfl)) ?_;refine pb I (i:=0) rfl rfl rfl ((Y g b).ext I.below) Qa.out pa.out rfl V' ?one16 Z' Z' V' ?kk16
   case one16=>first|rfl|assumption|exact Ja _|exact oneCells_u8s _
   intro p y w25 I;simp only[l'] at I;refine ea ?_;refine⟨⟨i+1,M++g.ts,p,y,Z',rfl,by rw[D',m];rfl,by rw[NB D,s],by rw[D',m,Na];exact I⟩,by show n-(i+1)<n-i;omega, ?_⟩;exact Sb
  obtain rfl:i=n:=Z';rw[G' Z'] at s;have z:M=ez X:=s;rw[<-z];refine ea ?_;refine sv (Ma pa.out rfl (((H.ext I.below).recAt PX.len N).cell (i:=0) rfl)) ?_;refine mL ?_;have C:Gh k M:=λt S=>(by rw[s] at S;obtain⟨g,h,S⟩:=k9.1 S;exact(Q g h).ok t S);refine Hi (Tg R.v T M.length c' M k _ (I.ka (i:=0) rfl) Z' C Z') rfl ?_;rintro e_ w31 ⟨g,og,rfl,P⟩;refine⟨_,rfl, ?_⟩;replace I:=I.join P;simp only[I',J'] at I;refine rS ?_;intro ws I;exact Fu
 rw[R' J];generalize Te X=e at*;refine Ga func183 ?_;refine Gb ?_;intro F w2 I;refine cd I (j _ I.below) ?_;intro w8 I;refine gJ ?_;exact OU
def gY(v:Nat)(c):oa [⟨Sd v,c⟩]=Mp v c.fa:=
 Oz (Me _) (Me _) λm=>(by unfold Mp;rw[Pl,Pl,Ue,Ue];show(if Sd v=m then c.fa else 0)+_=(if Sd v=m then(nR c.fa).fa else 0)+_;rw[Ta])
variable {b:List SR}{k:Nat}
def eL{os:List PX}{R:List HE}(w:FA ((Ca b).map λg=>⟨g.v,none,g.ts.length,0,g.ts⟩) os R)(a:os.length=b.length)(m:b.length<=12)(F:∀s∈b,s.fin k)(u:k<=1000):os.map PX.norm=(Ca b).map PX.norm/\∀o∈os,o.qf (k+k+10)/\o.ts.length<=2:=by
 have A:os.length=((Ca b).map λg=>(⟨g.v,none,g.ts.length,0,g.ts⟩:PX)).length:=by rw[B',Vh];omega
 have G:=w.key A;rw[E_] at G;refine⟨G,λo W=> ?_⟩;obtain⟨j,hj⟩:=r_.1 W;have f:j<os.length:=(z'.1 hj).1;obtain⟨s,K⟩:=aa (l:=b) (k:=j) Z';have C:=Ve K;obtain⟨e,pl⟩:=Cj (v:=b.length) (i:=j) Z' (F s (O' K)) Z';generalize yg b.length j s=Q at C e pl;obtain⟨N,L,X⟩:=w.eq j ⟨b.length,none,Q.length,0,Q⟩ o (by rw[C',C];rfl) hj;replace L:o.ts=Q:=L;replace X:o.n=Q.length:=X;exact⟨⟨Z',(w.my o W).2,by rw[L];exact e.ok,by rw[L];exact e.sz⟩,by rw[L];exact pl⟩
def DD(L)(n c:Nat)(b)(k:Nat)(w)(hB:Sl w L n 6 (la SR.cells b))(hb:∀s∈b,s.fin k)(hbx:lj b=0)(C:n<=12)(hk:k<=1000):Calls prog 104 #[.slice L n c] w λr V=>∃(A:Option Addr)(q:Nat)(os:List PX)(R:List HE),r=.returned (.slice A n q)/\os.length=n/\FA ((Ca b).map λg=>⟨g.v,none,g.ts.length,0,g.ts⟩) os R/\Hp w (.row A n q 24 2 (la PX.cells os)::R) V:=by
 have I:=Hp.start w;have hbl:b.length=n:=hB.Aa SR.len V';refine Ga func104 ?_;refine ea ?_;replace I:=I.yb 24 2;refine Jh 3 4 (λa v V=>∃(i q:Nat)(A:Option Addr)(os:List PX)(R:List HE),i<=n/\v=.int .i64 i/\a=.slice A i q/\os.length=i/\FA ((Ca b).map λg=>⟨g.v,none,g.ts.length,0,g.ts⟩) os R/\Hp w (.row A i q 24 2 (la PX.cells os)::R) V) (λ_ v _=>n-(intOf v).toNat) ?_ ?_
 .exact K0
 clear I;rintro ρ' a_ v V ⟨i,q,A,os,R,hi,rfl,rfl,B,H,I⟩;by_cases hlt:i<n
 .obtain⟨s,S⟩:=aa (l:=b) (k:=i) Z';have hsm:=O' S;have Q:=hb s hsm;obtain⟨c1,c2⟩:=aeZ hbx hsm;have zL:Sz k s.lo.fa:=Q.1.sz;have zH:Sz k s.hi.fa:=Q.2.sz;have zW:=zH.sub zL;obtain⟨po,pl⟩:=Cj (v:=n) (i:=i) C Q Z';have vo:=nE (i:=i) C;have fo:=TE (i:=i) C zW Z';have co:=xF C zL Z';have D:=λZ=>WG (n:Int) (i:Int) Z;rw[AZ C hlt] at D;have hsu:=λZ=>Kr s.hi s.lo Z Q.2.ok Q.1.ok (zL.ok Z');have G:=λZ=>ur (n:Int) s.lo k Z ⟨Q.1.ok,zL⟩ Z';rw[sZ C,gY] at G;rw[z9] at D;have hV:oa [⟨yk n i,nR ((1:Int):Dyadic)⟩]=Xu n i:=rfl;have hF:oa ((Xu n i).map (Fo (s.hi.fa-s.lo.fa)))=Ur n i (s.hi.fa-s.lo.fa):=rfl;have hP:oa (Mp n s.lo.fa++Ur n i (s.hi.fa-s.lo.fa))=yg n i s:=by unfold yg;rw[c1,c2]
  have tl1:(Xu n i).length<=1:=Zb _;have ul1:(Mp n s.lo.fa).length<=1:=Zb _;have fl1:(Ur n i (s.hi.fa-s.lo.fa)).length<=1:=p' (Zb _) (by rw[B'];exact Zb _);have M:=Ve S;rw[hbl] at M;rw[hV] at D;generalize Xu n i=P at*;generalize Mp n s.lo.fa=X at*;generalize Ur n i (s.hi.fa-s.lo.fa)=y at*;generalize yg n i s=PL at*;obtain⟨ad,rfl,hr⟩:=hB.at_ Z';refine ea ?_;refine sv (Ua (vs:=[_,_,_]) pa.out rfl (((((hr.ext I.below).recAt SR.len S).drop 0).take 3)) rfl) ?_;refine Vg (G _) ?_;rintro e_ w27 ⟨u,ou,rfl,m⟩;refine⟨_,rfl, ?_⟩;have huc:u.n<=u.c:=m.Ae (i:=0) rfl;replace I:=I.join m;simp only[I',J'] at I;obtain⟨uv,uA,un,uc,ut⟩:=u;replace I:=show Hp w (.row uA un uc 72 4 (la TR.cells ut)::_) _ from I;have T:X=ut:=ou.t0.symm;have Y:uv=(n:Int):=ou.v0;subst T Y;have uln:X.length=un:=(I.ka (i:=0) rfl).Aa TR.len V';refine Ib ?_;intro b5 w5 I ws I;refine Vg (D _) ?_;rintro e_ w34 ⟨t,ot,rfl,m⟩;refine⟨_,rfl, ?_⟩;have htc:t.n<=t.c:=m.Ae (i:=0) rfl;replace I:=I.join m;simp only[I',J'] at I
  obtain⟨tv,tA,tn,tc,tt⟩:=t;replace I:=show Hp w (.row tA tn tc 72 4 (la TR.cells tt)::_) _ from I;have T:P=tt:=ot.t0.symm;have Y:tv=(n:Int):=ot.v0;subst T Y;have tln:P.length=tn:=(I.ka (i:=0) rfl).Aa TR.len V';have p:=λZ ha=>VA ⟨n,tA,tn,tc,P⟩ (nR (s.hi.fa-s.lo.fa)) (k+3) Z ha ⟨by show tn<=1000000;omega,htc,vo.ok.mono Z',vo.sz⟩ ⟨zW.ok Z',by rw[Ta];exact zW.mono Z'⟩ Z';have hse:iz ⟨n,tA,tn,tc,P⟩ (s.hi.fa-s.lo.fa)=0:=(by unfold iz PX.e;rw[vo.e,Q' rfl];exact zj (by rw[B'];show P.length<=4096;omega));rw[Ta,hse] at p;dsimp only at p;rw[hF] at p;refine Ib ?_;intro b7 w7 I ws I;refine lW [16] [15] 17 I ?_;refine Wi (i) ?_;refine px ?_;refine fk [_,_,_] (λ_ hj=>((((hr.ext hj.hp.below).recAt SR.len S).drop 3).take 3)) ?_;refine ub ?_;refine Wi (i) ?_;refine px ?_;refine fk [_,_,_] (λ_ hj=>((((hr.ext hj.hp.below).recAt SR.len S).drop 0).take 3)) ?_;refine dC (λ_ hj=>hsu _) ?_;refine ua (i:=12) (Ng I.sz 0 n y) (Ng.ext) ?_ ?_
  .intro U Z hj hR;exact rb rfl (Ha fi (na (show U 38=Value.agg (List.toArray _) from hR.1) (na (show U 49=Value.agg (List.toArray _) from hR.2.1) Oa))) (p Z (hj.hp.ka (i:=1) rfl)) (λ_ _ ⟨g,og,hq,h3⟩=>⟨_,hq,h3.below,g,Z,rfl,og,hj.bl.size,h3⟩)
  refine ua (i:=13) (Ng I.sz 0 n y) (Ng.ext) ?_ ?_
  .intro U Z hj hR;exact let⟨g,u,N,e2⟩:=hR.1;ic rfl (Yd N) ⟨Below.refl _ _,g,u,rfl,e2⟩
  refine ua (i:=14) (Sh I.sz 0 n y) (Sh.ext) ?_ ?_
  .intro U Z hj hR;exact let⟨g,u,N,e2⟩:=hR.1;ic rfl (bc (vs:=[_,_]) N rfl) ⟨Below.refl _ _,g,u,rfl,e2⟩
  refine ua (i:=15) (Is (.int .i64 0)) (Is.ext) ?_ ?_
  .intro U Z hj hR;exact let⟨g,u,N,e2⟩:=hR.1;ic rfl (bc (vs:=[_,_]) N rfl) ⟨Below.refl _ _,rfl⟩
  refine ua (i:=16) (Sa _ 24 _) Sa.ext (λU Z hj hR=>Xc pa.out hj.bl (λv w2 h hb=>⟨hb,h⟩)) ?_;refine xa ?_;intro f W hJ hV _;obtain⟨v9,v52,v51,v37,v50,v49,v48,v47,v46,v45,v44,v43,v42,v41,v40,v39,v38,_⟩:=hV;obtain⟨g50,u50,e50, -⟩:=v50;obtain⟨g37,u37,e37, -⟩:=v37;obtain⟨g51,u51,e51,o51,q51,E⟩:=v51;obtain⟨b9,e9,hl9,F⟩:Sa _ _ _ (f 16) W:=v9;replace I:=hJ.xh I hl9 F q51 E (PX.ne E F V');refine Be ?_;simp only[I',J'] at I;obtain⟨fv,fA,fn,fc,ft⟩:=g51;replace I:=show Hp w (_::.row fA fn fc 72 4 (la TR.cells ft)::_) W from I;have T:y=ft:=o51.t0.symm;have Y:fv=(n:Int):=o51.v0;subst T Y;have fln:y.length=fn:=(I.ka (i:=1) rfl).Aa TR.len V';have fcc:fn<=fc:=I.Ae (i:=1) rfl;refine Gb ?_;intro ws I;refine ym ?_;intro b56 w56 I;have hlp:Te [⟨n,uA,un,uc,X⟩,⟨n,fA,fn,fc,y⟩]=0:=Ro co.e fo.e rfl;have J:=λA3 Z hS1 s1 s2=>Aw A3 2 2 [⟨n,uA,un,uc,X⟩,⟨n,fA,fn,fc,y⟩] (k+k+10) Z hS1 V' (λg x=>by
   obtain rfl|x:=y'.1 x
   .exact s1
   .rw[k'.1 x];exact s2) (λg x=>by
   obtain rfl|x:=y'.1 x
   .exact⟨by show un<=1000000;omega,huc,co.ok.mono Z',co.sz⟩
   rw[k'.1 x];exact⟨by show fn<=1000000;omega,fcc,fo.ok.mono Z',fo.sz⟩) Z'
  unfold iB at J;rw[Q' hlp,YL] at J;dsimp only at J;rw[hP] at J;rw[zj (l:=X++y) (by rw[D'];omega)] at J;refine Vg (J _ _ (I.ka (i:=0) rfl) (I.ka (i:=6) rfl) (I.ka (i:=2) rfl)) ?_;rintro e_ w57 ⟨z,oz,rfl,m⟩;refine⟨_,rfl, ?_⟩;have hzc:z.n<=z.c:=m.Ae (i:=0) rfl;replace I:=I.join m;refine aaC ?_;intro I zln;refine Ib ?_;intro b11 w11 I ws I;refine SN ?_;intro b62 w62 I;refine pb I (i:=10) rfl rfl rfl (I.ka (i:=0) rfl) Qa.out pa.out rfl V' (by first|rfl|exact kc _|exact Mb _|exact Ja _|exact Pa NR.one _) Z' Z' V' ?_;intro A63 c63 w63 I;refine jB ?_;intro I;replace I:=I.sub (L' _ (P' _ (L' _ (L' _ (L' _ (L' _ (L' _ (L' _ (L' _ (P' _ (u_ _)))))))))));refine ab8 ?_;intro I;have K:=H.add (g:=⟨n,none,PL.length,0,PL⟩) (o:=z) (by rw[B,C',M];rfl) ⟨oz.v0,oz.t0,by rw[<-zln,oz.t0]⟩ hzc
  refine⟨⟨i+1,c63,A63,os++[z],z.row::R,Z',rfl,rfl,by rw[D',B];rfl,K,by rw[Na,Tj];exact I⟩,by show n-(i+1)<n-i;omega, ?_⟩;exact Sb
 obtain rfl:i=n:=Z';refine ea ?_;exact⟨A,q,os,R,rfl,B,H,I⟩
variable {j m:Nat}
def SP{p:List TR}{i:Nat}{x:TR}(h:p[i]?=some x):Ia (p.take (i+1)) j m=Ia (p.take i) j m++if wg j x=m then[x] else[]:=by
 unfold Ia;rw[ja h,K7];by_cases C:wg j x=m
 .rw[Q' C,List.filter_cons_of_pos (by simpa using C)];rfl
 rw[R' C,o6 (by simpa using C)];rfl
def XF(p)(j m:Nat):(Ia p j m).length<=p.length:=a6 _ _
def CI(p)(A)(n c j m:Nat)(v:Int)(w)(J:Sl w A n 4 (la TR.cells p))(N:cJ v j p)(hj:(j:Int)<v)(u:n<=100000):Calls prog 244 #[.slice A n c,.int .i64 j,.int .i64 m] w λr V=>∃(B:Option Addr)(b:Nat),r=.returned (.slice B (Ia p j m).length b)/\Hp w [.row B (Ia p j m).length b 72 4 (la TR.cells (Ia p j m))] V:=by
 have I:=Hp.start w;have h:=J.Aa TR.len V';refine Ga func244 ?_;refine ea ?_;replace I:=I.yb 72 4;refine Jh 7 8 (λa x V=>∃(i:Nat)(M:List TR)(B:Option Addr)(b:Nat),i<=n/\x=.int .i64 i/\a=.slice B M.length b/\M=Ia (p.take i) j m/\Hp w [.row B M.length b 72 4 (la TR.cells M)] V) (λ_ x _=>n-(intOf x).toNat) ?_ ?_
 .exact⟨0,[],none,0,N' _,rfl,rfl,rfl,I⟩
 clear I;rintro ρ' o y V ⟨i,M,B,b,hi,rfl,rfl,s,I⟩;have f:M.length<=i:=by rw[s];exact p' (XF _ _ _) (by rw[q'];omega)
 by_cases D:i<n
 .obtain⟨x,C⟩:=aa (l:=p) (k:=i) Z';obtain⟨e,hex,Q,t⟩:=N.get hj (O' C);obtain⟨q,rfl,H⟩:=J.at_ Z';have X:=SP (j:=j) (m:=m) C;rw[<-s,Q] at X;by_cases g:e.toNat=m
  .rw[Q' g] at X;refine JB ?_;refine ea ?_;refine ZV ?_;refine LB ?_;intro E P I;refine Yl ?_;intro d G L I;refine jB ?_;intro I;refine⟨⟨i+1,M++[x],d,G,Z',rfl,by rw[D'];rfl,X.symm,by rw[D',Na,Tj];exact I⟩,by show n-(i+1)<n-i;omega, ?_⟩;exact Sb
  rw[R' g,I_] at X;refine JB ?_;refine ea ?_;refine⟨⟨i+1,M,B,b,Z',rfl,rfl,X.symm,I⟩,by show n-(i+1)<n-i;omega, ?_⟩;exact Sb
 obtain rfl:i=n:=Z';rw[G' Z'] at s;rw[<-s];refine ea ?_;exact⟨_,_,rfl,I⟩
def yK(lA:Option Addr)(lc K T c0:Nat)(v:Int)(ls:List PX)(hv:gh v=true)(hl12:ls.length<=12)(hls:∀g∈ls,mj v K g.ts/\g.v=v/\g.qf K/\g.ts.length<=T)(hc0:K+4096*T+8192<=c0)(hc1:c0<=440000):
  ∀(Q:List PX)(j:Nat)(p:List TR)(A:Option Addr)(n c:Nat)(ds:List Nat)(k:Nat)(w:World),ls.drop j=Q->j<=ls.length->Sl w lA ls.length 2 (la PX.cells ls)->(∀g∈ls,g.at_ w)->Sl w A n 4 (la TR.cells p)->cJ ls.length j p->Gh k p->n<=4096->ds.length=Q.length->(∀(i d:Nat),ds[i]?=some d->d<=127/\∀t∈p,wg (j+i) t<=d)->Ge c0 ds (k+1)<=440000->
  Calls prog 177 #[.slice A n c,.int .i64 j,.slice lA ls.length lc,.int .i64 v] w λr V=>∃g:PX,se (Ud v (Q.map PX.ts) j p).1 v (Ud v (Q.map PX.ts) j p).2 g/\r=.returned (.tuple #[.agg #[.int .i64 g.v,.slice g.A g.n g.c],.int .i64 (Ud v (Q.map PX.ts) j p).1])/\Hp w [g.row] V:=by
 intro Q;have hK:K<=440000:=Z';have hco:Er v=0:=R' (by rw[hv];decide)
 induction Q with
 |nil=>
  intro j p A n c ds k w hq hj hL hat hS hsr N hn F hD hB;have I:=Hp.start w;have hln:=hS.Aa TR.len V';obtain rfl:j=ls.length:=(by exact UZ);obtain rfl:ds=[]:=n8.1 F;rw[Jq] at hB;have hcn:=λc hc Z=>ur v c k Z hc Z';rw[hco] at hcn
  cases p with
  |nil=>
   obtain rfl:n=0:=by simpa using hln.symm
   show Calls _ _ _ _ λr V=>∃g:PX,se 0 v (oa [⟨Sd v,nR 0⟩]) g/\r=.returned (.tuple #[.agg #[.int .i64 g.v,.slice g.A g.n g.c],.int .i64 0])/\Hp w [g.row] V;rw[Cw];refine Ga (l:=[.slice A 0 c,.int .i64 ls.length,.slice lA ls.length lc,.int .i64 v]) func177 ?_;refine sr ?_;refine ik I ?_;intro b8 w8 I;refine aI (ia (sr (mI ?_)));refine qm [_,_] ?_;refine ik I ?_;intro z w10 I;refine pd I 0 [_,_] ?_;intro ws I;replace I:Hp _ (.blk _ _ [_,_] _::_) _:=I;refine ia (qa (sr (mI (mL (Df ?_)))));refine zl (ia (cT (qa (sr (aI (ia (Pc ?_)))))));refine rf 11 (λx V=>x=.int .i64 0/\Hp w [.blk z 24 [.int .i64 v,.slice none 0 0] (0,0),.blk b8 24 [.int .i64 0,.slice none 0 0] (0,0)] V) (λ_ _=>0) ?_ ?_
   .exact⟨rfl,I⟩
   clear I;rintro ρ' x_ V ⟨rfl,I⟩;refine qa (sr (mI (mL (Df ?_))));refine Ji (ia (cF (Oh (Mf (Mf (gk (Va (sr ?_))))))));refine vf I 0 [_,_] ?_;refine pd I 1 [_,_] ?_;intro ws I;replace I:Hp _ (_::.blk _ _ [_,_] _::_) _:=I;refine aI (ia (je (Ad ?_)));refine Jy ?_;exact⟨⟨v,none,0,0,[]⟩,⟨rfl,rfl⟩,rfl,(I.sub (N_ _)).Qw⟩
  |cons t p=>
   have hn1:p.length+1=n:=by simpa using hln
   have ht:=N t E';obtain⟨ad,rfl,hr⟩:=hS.at_ Z';show Calls _ _ _ _ λr V=>∃g:PX,se 0 v (oa [⟨Sd v,t.c⟩]) g/\r=.returned (.tuple #[.agg #[.int .i64 g.v,.slice g.A g.n g.c],.int .i64 0])/\Hp w [g.row] V;refine Ga (l:=[.slice (some ad) n c,.int .i64 ls.length,.slice lA ls.length lc,.int .i64 v]) func177 ?_;refine sr ?_;refine ik I ?_;intro b8 w8 I;refine aI (ia (sr (mI ?_)));refine qm [_,_] ?_;refine ik I ?_;intro z w10 I;refine pd I 0 [_,_] ?_;intro ws I;replace I:Hp _ (.blk _ _ [_,_] _::_) _:=I;refine ia (qa (sr (mI (mL (Df ?_)))));refine zl (ia (cT (qa (sr (aI (ia (Pc ?_)))))));refine rf 11 (λx V=>x=.int .i64 0/\Hp w [.blk z 24 [.int .i64 v,.slice none 0 0] (0,0),.blk b8 24 [.int .i64 0,.slice none 0 0] (0,0)] V) (λ_ _=>0) ?_ ?_
   .exact⟨rfl,I⟩
   clear I;rintro ρ' x_ V ⟨rfl,I⟩;refine qa (sr (mI (mL (Df ?_))));refine Ji (ia (cT (db (Va (qa (Pc (sr (mI (mL (mI ?_))))))))));refine sv (Eb (k:=0) Qa.out pa.size rfl rfl Z' Z') ?_;refine sv (Zi ae.out rfl) ?_;refine sv (Ua (vs:=[_,_,_]) pa.out rfl (((hr.ext I.below).recAt TR.len (show(t::p)[0]?=some t from rfl)).drop 1) rfl) ?_;refine Vg (hcn t.c ht _) ?_;rintro e_ w35 ⟨g,og,rfl,h3⟩;refine⟨_,rfl, ?_⟩;replace I:=I.join h3;simp only[I',J'] at I;refine ui ?_;refine ui ?_;refine pd I 2 [_,_] ?_;intro ws I;replace I:Hp _ (_::_::.blk _ _ [_,_] _::_) _:=I;refine aI (ia (je (bk (Ad (Ad (bk (Ad (Ad ?_))))))));exact U1
 |cons q Q ih=>
  intro j p A n c ds k w hq hj hL hat hS hsr N hn F hD hB;have I:=Hp.start w;have hln:=hS.Aa TR.len V'
  cases ds with
  |nil=>cases F
  |cons d ds=>
   have hd:=hD 0 d rfl;have hjl:j<ls.length:=(by exact G1);have hqj:ls[j]?=some q:=by rw[<-List.head?_drop,hq];rfl
   have hqs:ls.drop (j+1)=Q:=by rw[<-List.tail_drop,hq];rfl
   obtain⟨hqk,hqv,S,hqT⟩:=hls q (O' hqj);rw[En] at hB;have hB1:Ge c0 ds (k+1)<=440000:=Z';rw[T_];show Calls _ _ _ _ λr V=>∃g:PX,se (Ya q.ts (Ud v (Q.map PX.ts) (j+1)) p j 128).1 v (Ya q.ts (Ud v (Q.map PX.ts) (j+1)) p j 128).2 g/\r=.returned (.tuple #[.agg #[.int .i64 g.v,.slice g.A g.n g.c],.int .i64 (Ya q.ts (Ud v (Q.map PX.ts) (j+1)) p j 128).1])/\Hp w [g.row] V;have hDs:∀n (i e:Nat),ds[i]?=some e->e<=127/\∀t∈Ia p j n,wg (j+1+i) t<=e:=λn i e he=>(by have h2:=hD (i+1) e (by simpa using he);refine⟨h2.1,λt ht=> ?_⟩;have h3:=h2.2 t (Pg t ht);rwa[show j+1+i=j+(i+1) by omega]);have hrec:∀(m:Nat)(B:Option Addr)(b:Nat)(Z:World),Below w.heap.size w Z->Sl Z B (Ia p j m).length 4 (la TR.cells (Ia p j m))->Calls prog 177 #[.slice B (Ia p j m).length b,.int .i64 ((j:Int)+1),.slice lA ls.length lc,.int .i64 v] Z λr V=>∃g:PX,se (Ud v (Q.map PX.ts) (j+1) (Ia p j m)).1 v (Ud v (Q.map PX.ts) (j+1) (Ia p j m)).2 g/\r=.returned (.tuple #[.agg #[.int .i64 g.v,.slice g.A g.n g.c],.int .i64 (Ud v (Q.map PX.ts) (j+1) (Ia p j m)).1])/\Hp Z [g.row] V:=λm B b Z hb hs=>(by have hwl:=XF p j m;exact ih (j+1) (Ia p j m) _ _ b ds k Z hqs Z' (hL.ext hb) (λg s=>(hat g s).ext hb) hs (hsr.with Z') (λt ht=>N t (Pg t ht)) Z' (by simpa using F) (hDs m) hB1);have G:∀m,(Ud v (Q.map PX.ts) (j+1) (Ia p j m)).1=0->mj v (Ge c0 ds (k+1)) (Ud v (Q.map PX.ts) (j+1) (Ia p j m)).2:=λm hm=>(by refine AD hv hc0 (Q.map PX.ts) (j+1) (Ia p j m) ds k (λr hr=> ?_) (λt ht=>N t (Pg t ht)) (by rw[B'];simpa using F) (hDs m) Z' hm;exact aa9);generalize Ud v (Q.map PX.ts) (j+1)=sub at hrec G |-;have hlim:=ct (sub:=sub) (p:=p) (j:=j) hv hqk hqT hd.2 hd.1 G hc0 Z';have hlim2:∀i,i<=128->(Ya q.ts sub p j i).1=0->mj v 440000 (Ya q.ts sub p j i).2:=λi hi h0=>(hlim i hi h0).mono (by
    have:(i+d-128)*c0<=d*c0:=n_ _ Z';omega)
   obtain⟨lad,rfl,hlr⟩:=hL.at_ Z';have hsd:=dD (q:=q.ts) (sub:=sub) (p:=p) (j:=j);refine Ga (l:=[.slice A n c,.int .i64 j,.slice (some lad) ls.length lc,.int .i64 v]) func177 ?_;refine sr ?_;refine ik I ?_;intro b8 w8 I;refine aI (ia (sr (mI ?_)));refine qm [_,_] ?_;refine ik I ?_;intro z w10 I;refine pd I 0 [_,_] ?_;intro ws I;replace I:Hp _ (.blk _ _ [_,_] _::_) _:=I;refine ia (qa (sr (mI (mL (Df ?_)))));refine zl (ia (cF (db (Va (qa (sr (aI (ia (Pc ?_)))))))));replace I:=(I.yb 72 4);replace I:=show Hp w (.row none 0 0 72 4 (la TR.cells [])::.blk z 24 [.int .i64 v,.slice none 0 0] (0,0)::_) _ from I;replace I:=I.perm (U_ (l₁:=[_]));simp only[I',J'] at I;refine rf 12 (λnv V=>∃(i:Nat)(oA:Option Addr)(on P:Nat)(os:List TR),i<=128/\nv=.int .i64 (127-(i:Int))/\Ya q.ts sub p j i=(0,os)/\Hp w [.blk z 24 [.int .i64 v,.slice oA on P] (0,0),.row oA on P 72 4 (la TR.cells os),.blk b8 24 [.int .i64 0,.slice none 0 0] (0,0)] V) (λnv _=>(intOf nv+1).toNat) ?_ ?_
   .exact⟨0,none,0,0,[],N' _,rfl,rfl,I⟩
   clear I;rintro ρ' nv_ V ⟨i,oA,on,P,os,hi,rfl,R,I⟩;by_cases hi8:i<128
   .obtain⟨m,hm⟩:∃m,m=127-i:=⟨_,rfl⟩;rw[show(127-(i:Int))=(m:Int) by omega];have a:Ya q.ts sub p j (i+1)=Lg q.ts sub p j m (0,os):=by rw[ji,R,hm]
    have X:=hlim2 i Z' (by rw[R]);rw[R] at X;replace X:mj v 440000 os:=X;unfold Lg at a;rw[R' (λh=>h rfl)] at a;have hmi2:(127-((i+1:Nat):Int))=(m:Int)-1:=Z';have hoc:on<=P:=I.Ae (i:=1) rfl;have hon:os.length=on:=(I.ka (i:=1) rfl).Aa TR.len V';have hol:=X.len;dsimp only at a;refine qa (sr (mI ?_));refine Sy (ia (cT (db (Va (qa (Pc (sr (mL (mI (mI ?_))))))))));refine Hi (CI p A n c j m ls.length _ (hS.ext I.below) hsr Z' Z') rfl ?_;rintro e_ w46 ⟨B,b,rfl,h3⟩;refine⟨_,rfl, ?_⟩;replace I:=I.join h3;simp only[I',J'] at I;refine aL (ia ?_);by_cases hsk:os.length=0/\(Ia p j m).length=0
    .rw[Q' hsk] at a;obtain⟨h1,h2⟩:=hsk;obtain rfl:on=0:=Z';generalize (Ia p j m).length=wl at*;subst h2;refine qa (sr (Sk ?_));refine im I 1 ?_;refine Df ?_;refine zl (mB ?_);first|refine gS ?_|(refine gT ?_;refine mL ?_)|refine gV ?_
     first|refine gS ?_|(refine gT ?_;refine Df ?_)|refine gV ?_
     first|refine gS ?_|(refine gT ?_;refine zl ?_)|refine gV ?_
     first|refine lB ?_|refine VC ?_
     refine ia (cT (Oh (Mf (gk (Va (mb (mI ?_)))))));refine su (aI (Ti (Va ?_)));replace I:=I.sub (L' _ (P' _ (P' _ (P' _ j'))));refine⟨⟨i+1,oA,0,P,os,Z',by rw[hmi2];rfl,a,I⟩,by show((m:Int)-1+1).toNat<((m:Int)+1).toNat;omega, ?_⟩;exact Sb
    rw[R' hsk] at a;have htm:=λZ (hp1:PX.at_ ⟨v,oA,on,P,os⟩ Z) hb=>uB ⟨v,oA,on,P,os⟩ q 440000 440000 Z hp1 ((hat q (O' hqj)).ext hb) ⟨by show on<=1000000;omega,hoc,X.ok,X.sz⟩ ⟨S.n,S.cap,S.ok.mono hK,S.sz⟩ V';refine vq [47,48,49,50,51,52,53,54,55] (λV=>Hp w [.row B (Ia p j m).length b 72 4 (la TR.cells (Ia p j m)),.blk z 24 [.int .i64 v,.slice oA on P] (0,0),.row oA on P 72 4 (la TR.cells os),.blk b8 24 [.int .i64 0,.slice none 0 0] (0,0)] V) ?_ ?_
    .by_cases h0:on=0
     .subst h0;have hne:(Ia p j m).length≠0:=λh=>hsk ⟨hon,h⟩;exact aaX
     exact aaX
    skip;clear I;rintro ρ' V I;refine qa ?_;refine gz [9] [8] 10 I ?_;refine ub ?_;refine Wi (j) ?_;refine fk [_,_] (λ_ hj=>(hlr.ext hj.hp.below).recAt PX.len hqj) ?_;refine ua (i:=5) (Ng I.sz (Ce os q.ts) v (oa (Cb os q.ts))) (Ng.ext) ?_ ?_
    .intro U Z hj hR;exact rb rfl (Ha fi (na (show U 57=Value.agg (List.toArray _) from hR.1) (na (show U 61=Value.agg (List.toArray _) from hR.2.1) Oa))) (htm Z (hj.hp.ka (i:=2) rfl) hj.hp.below) (λ_ _ ⟨g,og,hq,h3⟩=>⟨_,hq,h3.below,g,Z,rfl,og,hj.bl.size,h3⟩)
    refine ua (i:=6) (Ng I.sz (Ce os q.ts) v (oa (Cb os q.ts))) (Ng.ext) ?_ ?_
    .exact abM
    refine ua (i:=7) (Sh I.sz (Ce os q.ts) v (oa (Cb os q.ts))) (Sh.ext) ?_ ?_
    .exact ab3
    refine ua (i:=8) (Is (.int .i64 (Ce os q.ts))) (Is.ext) ?_ ?_
    .exact acb
    refine ua (i:=9) (Sa _ 24 _) Sa.ext (λU Z hj hR=>Xc pa.out hj.bl (λv w2 h hb=>⟨hb,h⟩)) ?_;refine xa ?_;intro f W hJ hV _;obtain⟨v14,v64,v63,v56,v62,v61,v60,v59,v58,v57,_⟩:=hV;obtain⟨g62,u62,e62, -⟩:=v62;obtain⟨g56,u56,e56, -⟩:=v56;obtain⟨g63,u63,e63,o63,q63,h63⟩:=v63;obtain⟨b14,e14,hl14,hc14⟩:Sa _ _ _ (f 9) W:=v14;replace I:=hJ.xh I hl14 hc14 q63 h63 (PX.ne h63 hc14 V');refine Be ?_;clear e62 e56 e63 e14 hJ;simp only[I',J'] at I;obtain⟨gv,gA,gn,gc,gts⟩:=g63;replace I:=show Hp w (_::.row gA gn gc 72 4 (la TR.cells gts)::_) W from I;by_cases o:Ce os q.ts=0
    .rw[R' (by rw[o];decide)] at a;rw[o] at o63;obtain rfl:v=gv:=o63.v.symm;obtain rfl:oa (Cb os q.ts)=gts:=o63.ts.symm;have hgc:gn<=gc:=I.Ae (i:=1) rfl;have hgl:(oa (Cb os q.ts)).length=gn:=(I.ka (i:=1) rfl).Aa TR.len V';have M:=sE X hqk hqT o Z';have hwi:=I.ka (i:=2) rfl;refine pd I 0 [_,_] ?_;intro ws I;replace I:Hp _ (.blk _ _ [_,_] _::_) _:=I;refine aI (ia (qa (sr (mI ?_))));refine Bk (ia (cF (db (Va (sr (mL (mI ?_)))))));refine al (mL (mI ?_));refine Vg (hrec m B b _ I.below (I.ka (i:=2) rfl)) ?_;rintro e_ w75 ⟨g2,og2,rfl,h4⟩;refine⟨_,rfl, ?_⟩;replace I:=I.join h4;simp only[I',J'] at I;have hs2:=G m;obtain⟨hv2,H,D,y,ht2⟩:=g2;replace I:=show Hp w (.row H D y 72 4 (la TR.cells ht2)::_) _ from I;by_cases C:(sub (Ia p j m)).1=0
     .rw[R' (by rw[C];decide)] at a;rw[C] at og2;obtain rfl:v=hv2:=og2.v.symm;obtain rfl:(sub (Ia p j m)).2=ht2:=og2.ts.symm;have L:=hs2 C;have hc2c:D<=y:=I.Ae (i:=0) rfl;have hl2:((sub (Ia p j m)).2).length=D:=(I.ka (i:=0) rfl).Aa TR.len V';generalize (sub (Ia p j m)).2=us at*;rw[C];refine mT ?_;refine ui ?_;refine ui ?_;refine ik I ?_;intro b16 w16 I;refine pd I 0 [_,_] ?_;intro ws I;replace I:Hp _ (.blk _ _ [_,_] _::_) _:=I;refine aI (ia (qa (sr (mI ?_))));refine wz ?_;refine vf I 2 [_,_] ?_;refine vf I 0 [_,_] ?_;refine ym ?_;intro b85 w85 I;have hlp2:Te [⟨v,gA,gn,gc,oa (Cb os q.ts)⟩,⟨v,H,D,y,us⟩]=0:=Ro M.e L.e rfl;have J:=λA3 Z (hT1:Sl Z A3 2 2 (la PX.cells [⟨v,gA,gn,gc,oa (Cb os q.ts)⟩,⟨v,H,D,y,us⟩])) s1 s2=>Aw A3 2 2 [⟨v,gA,gn,gc,oa (Cb os q.ts)⟩,⟨v,H,D,y,us⟩] 2000000 Z hT1 V' (λg s=>by
       obtain rfl|s:=y'.1 s
       .exact s1
       .rw[k'.1 s];exact s2) (λg s=>by
       obtain rfl|s:=y'.1 s
       .exact⟨by have:=M.len;show gn<=1000000;omega,hgc,M.ok.mono Z',M.sz⟩
       rw[k'.1 s];exact⟨by have:=L.len;show D<=1000000;omega,hc2c,L.ok.mono Z',L.sz⟩) V'
      unfold iB at J;rw[Q' hlp2,YL] at J;dsimp only at J;refine Vg (J _ _ (I.ka (i:=0) rfl) (I.ka (i:=4) rfl) (I.ka (i:=2) rfl)) ?_;rintro e_ w86 ⟨g3,og3,rfl,h5⟩;refine⟨_,rfl, ?_⟩;replace I:=I.join h5;simp only[I',J'] at I;obtain⟨hv3,hA3,hn3,hc3,ht3⟩:=g3;replace I:=show Hp w (.row hA3 hn3 hc3 72 4 (la TR.cells ht3)::_) _ from I;by_cases s:Qf (oa (Cb os q.ts)++us)≠0
      .rw[Q' s] at a;have Y:Ya q.ts sub p j 128=(Qf (oa (Cb os q.ts)++us),[]):=by rw[vh (by rw[a];exact s) (show i+1<=128 by omega),a]
       rw[Y];generalize Qf (oa (Cb os q.ts)++us)=E at*;refine mT ?_;refine ui ?_;refine ui ?_;refine pd I 7 [_,_] ?_;intro ws I;replace I:Hp _ (_::_::_::_::_::_::_::.blk _ _ [_,_] _::_) _:=I;refine aI (ia (sr (mI ?_)));refine Bk (ia (cT (sr ?_)));refine qm [_,_] (mI ?_);refine pd I 9 [_,_] ?_;intro ws I;replace I:Hp _ (_::_::_::_::_::_::_::_::_::.blk _ _ [_,_] _::_) _:=I;refine aI (ia (je (bk (Ad (Ad (bk (Ad ?_)))))));refine kB (jb rfl (kb (vs:=[_,_]) pa.out (I.wa (i:=9) (n:=2) rfl rfl) rfl) (Dc (Sc rfl) Ub)) ?_;exact⟨PX.nil,se.err s,rfl,(I.sub (N_ _)).Qw⟩
      rw[R' s] at a;have hg0:Qf (oa (Cb os q.ts)++us)=0:=Z';rw[hg0] at og3;obtain rfl:hv3=v:=og3.v;obtain rfl:oa (oa (Cb os q.ts)++us)=ht3:=og3.ts.symm;rw[hg0];refine mT ?_;refine ui ?_;refine ui ?_;refine pd I 7 [_,_] ?_;intro ws I;replace I:Hp _ (_::_::_::_::_::_::_::.blk _ _ [_,_] _::_) _:=I;refine aI (ia (sr (mI ?_)));refine Bk (ia (cF (db (Dp (Va (mb (mI ?_)))))));refine su (aI (Ti (Va ?_)));replace I:=I.sub (P' _ (L' _ (L' _ (L' _ (L' _ (L' _ (L' _ (P' _ (L' _ (P' _ j'))))))))));replace I:=I.perm (U_ (l₁:=[_]));simp only[I',J'] at I;try dsimp only at I
      refine⟨⟨i+1,hA3,hn3,hc3,_,Z',by rw[hmi2];rfl,a,I⟩,by show((m:Int)-1+1).toNat<((m:Int)+1).toNat;omega, ?_⟩;exact Sb
     rw[Q' C] at a;have Y:Ya q.ts sub p j 128=((sub (Ia p j m)).1,[]):=by rw[vh (by rw[a];exact C) (show i+1<=128 by omega),a]
     rw[Y];generalize (sub (Ia p j m)).1=E at*;refine mT ?_;refine ui ?_;refine ui ?_;refine ik I ?_;intro b16 w16 I;refine pd I 0 [_,_] ?_;intro ws I;replace I:Hp _ (.blk _ _ [_,_] _::_) _:=I;refine aI (ia (qa (sr (mI ?_))));refine Bk (ia (cT (sr ?_)));refine qm [_,_] (mI ?_);refine pd I 7 [_,_] ?_;intro ws I;replace I:Hp _ (_::_::_::_::_::_::_::.blk _ _ [_,_] _::_) _:=I;refine aI (ia (je (Ad (bk (Ad (Ad (bk (Ad ?_))))))));refine kB (jb rfl (kb (vs:=[_,_]) pa.out (I.wa (i:=7) (n:=2) rfl rfl) rfl) (Dc (Sc rfl) Ub)) ?_;exact⟨PX.nil,se.err C,rfl,(I.sub (N_ _)).Qw⟩
    rw[Q' o] at a;have Y:Ya q.ts sub p j 128=(Ce os q.ts,[]):=by rw[vh (by rw[a];exact o) (show i+1<=128 by omega),a]
    rw[Y];generalize Ce os q.ts=E at*;refine pd I 0 [_,_] ?_;intro ws I;replace I:Hp _ (.blk _ _ [_,_] _::_) _:=I;refine aI (ia (qa (sr (mI ?_))));refine Bk (ia (cT (sr ?_)));refine qm [_,_] (mI ?_);refine pd I 5 [_,_] ?_;intro ws I;replace I:Hp _ (_::_::_::_::_::.blk _ _ [_,_] _::_) _:=I;refine aI (ia (je (Ad (bk (Ad (Ad (bk (Ad ?_))))))));refine fU ?_;exact⟨PX.nil,se.err o,rfl,(I.sub (N_ _)).Qw⟩
   obtain rfl:i=128:=Z';rw[R];refine qa (sr (mI ?_));refine Sy (ia (cF (Oh (Mf (Mf (gk (Va (sr ?_))))))));refine vf I 0 [_,_] ?_;refine pd I 2 [_,_] ?_;intro ws I;replace I:Hp _ (_::_::.blk _ _ [_,_] _::_) _:=I;refine aI (ia (je ?_));refine Jw ?_;exact⟨⟨v,oA,on,P,os⟩,⟨rfl,rfl⟩,rfl,I.sub (.cons _ (P' _ (N_ _)))⟩
def XE(p:PX)(H:Option Addr)(lc:Nat)(ls:List PX)(k K T c0:Nat)(ds:List Nat)(w:World)(hp:p.at_ w)(lp:p.qf k)(hL:Sl w H ls.length 2 (la PX.cells ls))(M:∀g∈ls,g.at_ w)(hl4:ls.length<=1000)(Y:Fit p ls k K T c0 ds):Calls prog 103 #[.agg #[.int .i64 p.v,.slice p.A p.n p.c],.slice H ls.length lc] w λr V=>∃g:PX,se (Qb p ls).1 (Ff ls) (Qb p ls).2 g/\r=.returned (.tuple #[.agg #[.int .i64 g.v,.slice g.A g.n g.c],.int .i64 (Qb p ls).1])/\Hp w [g.row] V:=by
 have I:=Hp.start w;have a:=λZ F=>Lp p k Z (hp.ext F) lp;have j:=λZ F=>Ct H ls.length lc ls K Z (hL.ext F) Z' (λg s=>(M g s).ext F) Y.qf;unfold Qb;by_cases h0:p.e≠0
 .rw[Q' h0];generalize p.e=e at*;refine Ga func103 ?_;refine Ib ?_;intro B L I G P I;refine cd I (a _ I.below) ?_;intro Q I;exact aeM
 rw[R' h0];have m:p.e=0:=Z';rw[m] at a;by_cases h1:(ls.length:Int)≠p.v
 .rw[Q' h1];refine Ga func103 ?_;refine Ib ?_;intro B L I G P I;refine cd I (a _ I.below) ?_;intro Q I;refine Gb ?_;intro ws I;exact M0
 rw[R' h1];obtain⟨q,h4,hmy,hca⟩:=Kb m;replace q:=Yc.1 q;have y:ls.length<=12:=Z';have hpl:=hp.ln;have hsr:=yz m;have D:=λ(v:Int) (hv:gh v=true) (hz:∀g∈ls,Ye v g.ts=0) (b:∀g∈ls,g.v=v) Z F=>yK H lc K T c0 v ls hv y (λg s=>⟨⟨hz g s,(Y.qf g s).ok,(Y.qf g s).sz⟩,b g s,Y.qf g s,Y.VT g s⟩) Y.step Y.top ls 0 p.ts p.A p.n p.c ds k Z rfl (N' _) (hL.ext F) (λg s=>(M g s).ext F) (hp.ext F) (by rw[show((ls.length:Nat):Int)=p.v by omega];exact hsr) lp.ok Z' Y.len (λi d h=>by rw[i'];exact Y.ae9 i d h) Y.grow;by_cases hn:ls=[]
 .subst hn;rw[R' (λh=>h.1 rfl)];have C:=D 0 rfl (λg s=>by cases s) (λg s=>by cases s);refine Ga (l:=[.agg #[.int .i64 p.v,.slice p.A p.n p.c],.slice H 0 lc]) func103 ?_;refine Ib ?_;intro B L I G P I;refine cd I (a _ I.below) ?_;intro Q I;refine ea ?_;refine Vg (C _ I.below) ?_;rintro e_ w26 ⟨g,og,rfl,J⟩;refine⟨_,rfl, ?_⟩;replace I:=I.join J;simp only[I',J'] at I;refine Gb ?_;intro ws I;refine Jy ?_;exact Fu
 have o:0<ls.length:=E7.2 hn;obtain⟨z,rfl,hlr⟩:=hL.at_ o;by_cases S:Te ls=0
 .rw[R' (λh=>h.2 S)];rw[S] at j;obtain⟨R,N⟩:=aa (l:=ls) (k:=0) o;have x:=aj N;obtain⟨_,Ij,b⟩:=Hu S;have t:=Ij R (O' N);unfold PX.e at t;have C:=D (Ff ls) (by rw[x];exact(Kb t).1) (λg s=>by rw[<-b g s];exact Ij g s) b;rw[x] at C |-;generalize Ud R.v (ls.map PX.ts) 0 p.ts=E at*;refine Ga (l:=[.agg #[.int .i64 p.v,.slice p.A p.n p.c],.slice (some z) ls.length lc]) func103 ?_;refine Ib ?_;intro B L I G P I;refine cd I (a _ I.below) ?_;intro Q I;refine ea ?_;refine cd I (j _ I.below) ?_;intro w30 I;refine ea ?_;refine qh 10 I ?_;refine ub ?_;refine Wi (0) ?_;refine px ?_;refine Ym (λ_ hj=>((hlr.ext hj.hp.below).recAt PX.len N).cell (i:=0) rfl) ?_;refine ua (i:=7) (Ng I.sz E.1 R.v E.2) (Ng.ext) ?_ ?_
  .intro U Z hj hR;exact rb rfl (Ha fi (na (show U 36=Value.slice _ _ _ from hR.1) (na rfl (na (show U 37=Value.slice _ _ _ from hR.2.1) (na (show U 41=Value.int _ _ from hR.2.2.1) Oa))))) (C Z hj.hp.below) (λ_ _ ⟨g,og,hq,J⟩=>⟨_,hq,J.below,g,Z,rfl,og,hj.bl.size,J⟩)
  refine ua (i:=8) (Gn I.sz E.1 R.v E.2) (Gn.ext) ?_ ?_
  .intro U Z hj hR;exact let⟨g,u,X,e2⟩:=hR.1;ic rfl (bc (vs:=[_,_]) X rfl) ⟨Below.refl _ _,g,u,rfl,e2⟩
  refine ua (i:=9) (Is (.int .i64 E.1)) (Is.ext) ?_ ?_
  .intro U Z hj hR;exact let⟨g,u,X,e2⟩:=hR.1;ic rfl (bc (vs:=[_,_]) X rfl) ⟨Below.refl _ _,rfl⟩
  refine xa ?_;intro f W hJ hV;obtain⟨v44,v43,v42,v41,v40,v39,v38,v37,v36,v35,_⟩:=hV;obtain⟨g42,u42,e42, -⟩:=v42;obtain⟨g43,u43,e43,o43,q43,h43⟩:=v43;replace I:=JJ.nN hJ I q43 h43;refine Be ?_;clear e42 e43 hJ;simp only[I',J'] at I;refine Gb ?_;intro ws I;refine Jy ?_;exact⟨_,o43,rfl,I.sub (P' _ (N_ _))⟩
 rw[Q' ⟨Z',S⟩];generalize Te ls=E at*;refine Ga (l:=[.agg #[.int .i64 p.v,.slice p.A p.n p.c],.slice (some z) ls.length lc]) func103 ?_;refine Ib ?_;intro B L I G P I;refine cd I (a _ I.below) ?_;intro Q I;refine ea ?_;refine cd I (j _ I.below) ?_;intro w30 I;refine Gb ?_;intro ws I;refine Vk ?_;exact⟨PX.nil,se.err S,rfl,(I.sub (N_ _)).Qw⟩
variable {r:Nat}
def JW{d e:Nat}(h1:e<=d)(h2:r<=d):QA (d-e) ((r:Int)-(e:Int))=We d 1 1 e r:=by
 unfold QA We;by_cases h:r<e
 .rw[Q' Z',Q' h]
 rw[R' Z',R' h,Fi,Fi,show((r:Int)-(e:Int)).toNat=r-e by omega];grind
variable {es rs:List Nat}
def RW{ns:List Nat}{a d e:Nat}(h1:ns[a]?=some d)(h2:es[a]?=some e)(G:rs[a]?=some r):wK 0 (ns.take (a+1)).reverse (es.take (a+1)).reverse (rs.take (a+1)).reverse=We d 1 1 e r*wK 0 (ns.take a).reverse (es.take a).reverse (rs.take a).reverse:=by
 rw[ja h1,ja h2,ja G,l8,l8,l8];rfl
def XR{ns:List Nat}(h:∀d∈ns,d<=127)(E:4096<da ns):El (sa ns)=4097:=by
 have N:(sa ns).any (λd=> !Tb d)=false:=P9.2 λd T=>(by unfold sa at T;obtain⟨x,C,rfl⟩:=x'.1 T;have:=h x C;simp[Tb];omega);unfold El;rw[N,R' V'];have h2:=Ko ns 1 V' V';have G:Ww 1 (sa ns)=((min (1*da ns) 4097:Nat):Int):=h2;rw[G];omega
variable {n:Nat}{cs:List Value}{w:World}
def GX{g:Nat}{v:Value}(h:Sl w (some ⟨g,0,none⟩) n 1 cs)(B:0<n)(C:cs[k]?=some v):w.cell? ⟨g,k*1,none⟩=some v:=by
 obtain⟨b,e,H⟩:=h.at_ B
 cases e
 have h2:=H.Dl C;by_cases J:k=0
 .subst J;exact h2
 rw[W_] at*;unfold Addr.add at h2;rw[R' J] at h2;simpa using h2
variable {p:PX}
def tO{D:List Int}(m:p.e=0)(u:(D.length:Int)=p.v)(h:rm (Pj p.v p.ts) D=false):D=sa (D.map Int.toNat)/\∀d∈D.map Int.toNat,d<=127:=by
 obtain⟨f1,_,_,_⟩:=Kb m;have f2:=Yc.1 f1;obtain⟨M,a,Y⟩:=Mi m;have r:∀(i:Nat)(y:Int),D[i]?=some y->0<=y/\y<=127:=λi y hy=>by
  have hi:=(z'.1 hy).1;obtain⟨d,T⟩:=aa (l:=wb p.v p.ts) (k:=i) Z';have s:(Pj p.v p.ts)[i]?=some (d:Int):=by rw[M];exact jc T
  have:=P9.1 h _ (O' (Ax s hy));rw[Y_] at this;exact⟨by show 0<=y;omega,by show y<=127;omega⟩
 constructor
 .unfold sa;rw[E_];refine(m7 _).symm.trans (J9 λy hy=> ?_);obtain⟨i,hi⟩:=r_.1 hy;have:=r i y hi;show y=((y.toNat:Nat):Int);omega
 intro d T;obtain⟨y,hy,rfl⟩:=x'.1 T;obtain⟨i,hi⟩:=r_.1 hy;have:=r i y hi;omega
variable {base:Nat}
def ZH(base n:Nat)(b:List SR):VP:=λx W=>∃(g:Option Addr×Nat×List PX×List HE)(Z:World),x=.slice g.1 n g.2.1/\g.2.2.1.length=n/\FA ((Ca b).map λg=>⟨g.v,none,g.ts.length,0,g.ts⟩) g.2.2.1 g.2.2.2/\base<=Z.heap.size/\Hp Z (.row g.1 n g.2.1 24 2 (la PX.cells g.2.2.1)::g.2.2.2) W
def ZH.ext(x:Value)(w V)(h:ZH base n b x w)(F:Below w.heap.size w V):ZH base n b x V:=let⟨g,Z,h1,h2,G,z,P⟩:=h;⟨g,Z,h1,h2,G,z,P.ext F⟩
set_option maxRecDepth 10000 in
def Dr(p:PX)(L:Option Addr)(n c:Nat)(b:List SR)(M:Option Addr)(m mc:Nat)(ds:List Int)(k:Nat)(w:World)(hp:p.at_ w)(lp:p.qf k)(hB:Sl w L n 6 (la SR.cells b))(hb:∀s∈b,s.fin k)(hn:n<=1000000)(hD:Sl w M m 1 (Fa ds))(hm:m<=1000000)(hk:k<=1000) (hgr:Cg p b (Xj p ds)=0->Ge (k+k+16394) (wb p.v p.ts) (k+1)<=440000):Calls prog 43 #[.agg #[.int .i64 p.v,.slice p.A p.n p.c],.slice L n c,.slice M m mc] w λr V=>∃g:FX,Out (sf p b ds) (nW p ds) (Aj (nW p ds) (Qb p (Ca b)).2) g/\r=.returned (.tuple #[.agg #[.slice g.A g.n g.a,.slice g.B g.m g.b],.int .i64 (sf p b ds)])/\Hp w [g.mh,g.gg] V:=by
 have I:=Hp.start w;have hbl:b.length=n:=hB.Aa SR.len V';have hdl:ds.length=m:=by have:=hD.1;rw[Hb] at this;omega
 have Y:Xj p ds=if m=0 then Pj p.v p.ts else ds:=by unfold Xj;rw[hdl]
 have hoN:nW p ds=(Xj p ds).map Int.toNat:=rfl;have hoE:sf p b ds=if Cg p b (Xj p ds)≠0 then Cg p b (Xj p ds) else(Qb p (Ca b)).1:=rfl
 rw[hoN,hoE];clear hoN hoE;generalize Xj p ds=D at*;have hdg:=λZ hb=>rF p k Z (hp.ext hb) lp;have hck:=λZ hb=>Lp p k Z (hp.ext hb) lp;have hbk:=λZ hb1=>XA L n c b k Z (hB.ext hb1) hb hn Z';have hl4:(Pj p.v p.ts).length<=1000000:=(by exact HZ);have hgl:p.e=0->((Pj p.v p.ts).length:Int)=p.v:=λh=>(by have h9:Ye p.v p.ts=0:=h;have:=Yc.1 (Kb h9).1;unfold Pj;rw[Q' h9,zf];omega);refine Ga func43 ?_;refine sr ?_;refine ar I [_,_] ?_;intro b3 w3 I;refine ik I ?_;intro b6 w6 I;refine aI (ia (sr ?_));refine vf I 1 [_,_] ?_;refine Vg (hdg _ I.below) ?_;rintro e_ w23 ⟨G,gc,rfl,h4⟩;refine⟨_,rfl, ?_⟩;replace I:=I.join h4;clear h4;simp only[I',J'] at I;refine aL (ia ?_);refine rv [2,24,25,26,27] 2 (λv V=>∃(M2:Option Addr)(N mc2:Nat),v=.slice M2 N mc2/\N<=1000000/\D.length=N/\(∀(H:List HE)(Z:World),Hp w (H++[.row G (Pj p.v p.ts).length gc 3 1 (Fa (Pj p.v p.ts))]) Z->Sl Z M2 N 1 (Fa D))/\Hp w [.blk b6 78 [.slice none 0 0,.slice none 0 0] (0,0),.blk b3 24 [.int .i64 p.v,.slice p.A p.n p.c] (0,0),.row G (Pj p.v p.ts).length gc 3 1 (Fa (Pj p.v p.ts))] V) ?_ ?_
 .by_cases hm0:m=0
  .subst hm0;rw[Q' rfl] at Y;refine sr (mL (Df ?_));refine zl (ia (cT (mb (mL (aL (ia ?_))))));replace I:=I.perm (U_ (l₁:=[_,_]));simp only[I',J'] at I;replace I:=I.perm (U_ (l₁:=[_,_]));simp only[I',J'] at I;refine⟨⟨G,_,gc,rfl,hl4,by rw[Y],λH Z h1=>by rw[Y];exact xg (h1.own (.row G _ gc 3 1 (Fa (Pj p.v p.ts))) (H_ _ E')),I⟩, ?_⟩;exact bL
  rw[R' hm0] at Y;refine sr (mL (Df ?_));refine zl (ia (cF (db (Va ?_))));replace I:=I.perm (U_ (l₁:=[_,_]));simp only[I',J'] at I;replace I:=I.perm (U_ (l₁:=[_,_]));simp only[I',J'] at I;refine⟨⟨M,m,mc,rfl,hm,by rw[Y];exact hdl,λH Z h1=>by rw[Y];exact hD.ext h1.below,I⟩, ?_⟩;exact bL
 skip;clear I Y hdl hD hm;rintro ρ' v V ⟨M2,N,mc2,rfl,hm2,hDl,hrd,I⟩;have hEe:p.e≠0->Cg p b D=p.e:=λh=>by unfold Cg;rw[Q' h]
 by_cases h0:p.e≠0
 .rw[hEe h0,Q' h0];clear hEe hgr;generalize p.e=E at*;refine qa (sr ?_);refine vf I 1 [_,_] ?_;refine cd I (hck _ I.below) ?_;intro w29 I;refine aI (ia (sr (mI ?_)));refine Bk (ia (cT (sr ?_)));refine qm [_,_] (mI ?_);refine pd I 0 [_,_] ?_;intro ws I;replace I:Hp _ (.blk _ _ [_,_] _::_) _:=I;refine aI (ia (je (Ad ?_)));refine Vk ?_;exact⟨FX.nil,Out.err h0,rfl,(I.sub (N_ _)).JF⟩
 replace h0:p.e=0:=Z';rw[h0] at hck;by_cases h1:lj b≠0
 .rw[show Cg p b D=lj b by unfold Cg;rw[R' (λc=>c h0),Q' h1],Q' h1];clear hEe hgr;generalize lj b=E at*;refine qa (sr ?_);refine vf I 1 [_,_] ?_;refine cd I (hck _ I.below) ?_;intro w29 I;refine aI (ia (sr (mI ?_)));refine Bk (ia (cF (db (Va (qa (sr (mL ?_)))))));refine cd I (hbk _ I.below) ?_;intro w35 I;refine aI (ia (sr (mI ?_)));refine Bk (ia (cT (sr ?_)));refine qm [_,_] (mI ?_);refine pd I 0 [_,_] ?_;intro ws I;replace I:Hp _ (.blk _ _ [_,_] _::_) _:=I;refine aI (ia (je (Ad ?_)));refine Vk ?_;exact⟨FX.nil,Out.err h1,rfl,(I.sub (N_ _)).JF⟩
 replace h1:lj b=0:=Z';rw[h1] at hbk;by_cases h2:(b.length:Int)≠p.v
 .rw[show Cg p b D=1 by unfold Cg;rw[R' (λc=>c h0),R' (λc=>c h1),Q' (.inl h2)],Q' V'];exact zW8
 by_cases h3:(D.length:Int)≠p.v
 .rw[show Cg p b D=1 by unfold Cg;rw[R' (λc=>c h0),R' (λc=>c h1),Q' (.inr h3)],Q' V'];exact zW8
 have hfs:rm (Pj p.v p.ts) D=true->Cg p b D=1:=λh=>by unfold Cg;rw[R' (λc=>c h0),R' (λc=>c h1),R' (λh=>h.elim h2 h3),Q' h]
 have hft:rm (Pj p.v p.ts) D=false->Lf 1 D=0->Cg p b D=3:=λh h9=>by unfold Cg;rw[R' (λc=>c h0),R' (λc=>c h1),R' (λh=>h.elim h2 h3),h,R' V',Q' h9]
 have hfo:rm (Pj p.v p.ts) D=false->Lf 1 D≠0->Cg p b D=0:=λh h9=>by unfold Cg;rw[R' (λc=>c h0),R' (λc=>c h1),R' (λh=>h.elim h2 h3),h,R' V',R' h9]
 have hgl2:=hgl h0;have hzl:((Pj p.v p.ts).zip D).length=N:=by rw[List.length_zip];omega
 have hbd:rm (Pj p.v p.ts) D=((Pj p.v p.ts).zip D).any λq=>decide (q.2<q.1\/127<q.2):=rfl;refine qa (sr ?_);refine vf I 1 [_,_] ?_;refine cd I (hck _ I.below) ?_;intro w29 I;refine aI (ia (sr (mI ?_)));refine Bk (ia (cF (db (Va (qa (sr (mL ?_)))))));refine cd I (hbk _ I.below) ?_;intro w35 I;refine aI (ia (sr (mI ?_)));refine Bk (ia (cF (db (Va (qa (sr (mL (Df (Sk ?_)))))))));refine im I 1 ?_;refine Bk (mB ?_);first|refine gS ?_|(refine gT ?_;refine mL ?_)|refine gV ?_
 first|refine gS ?_|(refine gT ?_;refine Df ?_)|refine gV ?_
 first|refine gS ?_|(refine gT ?_;refine Sk ?_)|refine gV ?_
 first|refine gS ?_|(refine gT ?_;refine im I 1 ?_)|refine gV ?_
 first|refine gS ?_|(refine gT ?_;refine Bk ?_)|refine gV ?_
 first|refine lB ?_|refine VC ?_
 refine ia (cF (db (Va (qa (sr (aI (ia (Pc ?_))))))));refine rf 11 (λv V=>∃i:Nat,i<=N/\v=.int .i64 i/\(((Pj p.v p.ts).zip D).take i).any (λq=>decide (q.2<q.1\/127<q.2))=false/\Hp w [.blk b6 78 [.slice none 0 0,.slice none 0 0] (0,0),.blk b3 24 [.int .i64 p.v,.slice p.A p.n p.c] (0,0),.row G (Pj p.v p.ts).length gc 3 1 (Fa (Pj p.v p.ts))] V) (λv _=>N-(intOf v).toNat) ?_ ?_
 .exact⟨0,N' _,rfl,rfl,I⟩
 clear I;rintro ρ' v V ⟨i,hi,rfl,X,I⟩;by_cases hlt:i<N
 .obtain⟨x,hx⟩:=aa (l:=Pj p.v p.ts) (k:=i) Z';obtain⟨y,hy⟩:=aa (l:=D) (k:=i) Z';have hz:=Ax hx hy;have hx2:=Db hx;have hy2:=Db hy;obtain⟨ad,rfl,hr⟩:=(hrd [_,_] _ I).at_ Z';obtain⟨g0,rfl⟩:=I.ib (i:=2) rfl Z';by_cases hxy:y<x
  .refine qa (sr (mI (mL (Df ?_))));refine Ji (ia (cT (db (Va (qa (Pc (qa ?_)))))));refine qh 12 I ?_;refine ub ?_;refine RR ?_;refine Ym (λ_ hj=>(hr.ext hj.bl).Dl hy2) ?_;refine ub ?_;refine Ku (i) ?_;refine wR ?_;refine lY ?_;refine dmB ?_;first|refine dS ?_|refine dU ?_|refine dG (OA ?_)
   first|refine dS ?_|refine dU ?_|refine dG (Gv ?_)
   refine xa ?_;intro f W hJ hV;have K:=hJ.bl;obtain⟨v70,v69,v68,v67,v66,v65,v64,v63,v62,v61,v60,v59,_⟩:=hV;replace I:=hJ.hp;refine Be ?_;clear hJ;first|refine gS ?_|(refine gT ?_;refine sv (Vb Qa.out pa.size rfl rfl Z' Z') ?_)|refine gV ?_
   first|(refine Hh V' rfl rfl V' ?_)|(refine Ip V' rfl rfl ?_)
   first|refine gS ?_|(refine gT ?_;refine Jr ?_)|refine gV ?_
   first|refine lB ?_|refine VC ?_
   refine ia (cT (sr ?_));refine qm [_,_] ?_;refine pd I 0 [_,_] ?_;intro ws I;replace I:Hp _ (.blk _ _ [_,_] _::_) _:=I;refine aI (ia (je (bk (Ad (Ad (bk (Ad ?_)))))));refine Vk ?_;rw[hfs (by rw[hbd];exact E9.2 ⟨_,O' hz,w' (.inl hxy)⟩),Q' V'];exact abE
  by_cases hy7:127<y
  .refine qa (sr (mI (mL (Df ?_))));refine Ji (ia (cT (db (Va (qa (Pc (qa ?_)))))));refine qh 12 I ?_;refine ub ?_;refine RR ?_;refine Ym (λ_ hj=>(hr.ext hj.bl).Dl hy2) ?_;refine ub ?_;refine Ku (i) ?_;refine wR ?_;refine lY ?_;refine dmB ?_;first|refine dS ?_|refine dU ?_|refine dG (OA ?_)
   first|refine dS ?_|refine dU ?_|refine dG (Gv ?_)
   refine xa ?_;intro f W hJ hV;have K:=hJ.bl;obtain⟨v70,v69,v68,v67,v66,v65,v64,v63,v62,v61,v60,v59,_⟩:=hV;replace I:=hJ.hp;refine Be ?_;clear hJ;first|refine gS ?_|(refine gT ?_;refine sv (Vb Qa.out pa.size rfl rfl Z' Z') ?_)|refine gV ?_
   refine Fc rfl rfl ?_;refine sv (Ma pa.out rfl ((hr.ext K).Dl hy2)) ?_;first|refine gS ?_|(refine gT ?_;refine Jr ?_)|refine gV ?_
   first|refine lB ?_|refine VC ?_
   refine ia (cT (sr ?_));refine qm [_,_] ?_;refine pd I 0 [_,_] ?_;intro ws I;replace I:Hp _ (.blk _ _ [_,_] _::_) _:=I;refine aI (ia (je (bk (Ad (Ad (bk (Ad ?_)))))));refine Vk ?_;rw[hfs (by rw[hbd];exact E9.2 ⟨_,O' hz,w' (.inr hy7)⟩),Q' V'];exact abE
  refine qa (sr (mI (mL (Df ?_))));refine Ji (ia (cT (db (Va (qa (Pc (qa ?_)))))));refine qh 12 I ?_;refine ub ?_;refine RR ?_;refine Ym (λ_ hj=>(hr.ext hj.bl).Dl hy2) ?_;refine ub ?_;refine Ku (i) ?_;refine wR ?_;refine lY ?_;refine dmB ?_;first|refine dS ?_|refine dU ?_|refine dG (OA ?_)
  first|refine dS ?_|refine dU ?_|refine dG (Gv ?_)
  refine xa ?_;intro f W hJ hV;have K:=hJ.bl;obtain⟨v70,v69,v68,v67,v66,v65,v64,v63,v62,v61,v60,v59,_⟩:=hV;replace I:=hJ.hp;refine Be ?_;clear hJ;first|refine gS ?_|(refine gT ?_;refine sv (Vb Qa.out pa.size rfl rfl Z' Z') ?_)|refine gV ?_
  refine Fc rfl rfl ?_;refine sv (Ma pa.out rfl ((hr.ext K).Dl hy2)) ?_;first|refine gS ?_|(refine gT ?_;refine Jr ?_)|refine gV ?_
  first|refine lB ?_|refine VC ?_
  refine ia (cF (db (Dp (Va (mb (mI ?_))))));refine al (aI (Ti (Va ?_)));refine⟨⟨i+1,Z',rfl,by rw[ja hz,S8,X,Q8,M8,m' (λh=>h.elim hxy hy7)];rfl,I⟩,by show N-(i+1)<N-i;omega, ?_⟩;exact Sb
 rw[G' Z'] at X;rw[<-hbd] at X;by_cases h9:Lf 1 D=0
 .obtain⟨T,t⟩:=tO h0 Z' X;have hcd:El D=4097:=by
   have h8:=Ih (D.map Int.toNat) 1 (F' _) V' t;rw[<-T,R8] at h8;rw[show Lf 1 D=Lf ((1:Nat):Int) D from rfl,h8] at h9;have hp:=Wb (D.map Int.toNat);by_cases hc:da (D.map Int.toNat)<=4096
   .rw[Q' hc] at h9;omega
   have h10:=XR t Z';rw[<-T] at h10;exact h10
  rw[hft X h9,Q' V'];have hct:=λZ hs=>Lj M2 N mc2 D Z hs hm2;rw[hcd] at hct;refine qa (sr (mI (mL (Df ?_))));refine Ji (ia (cF (Oh (Mf (Mf (gk (Va (qa (sr (mL ?_))))))))));refine cd I (hct _ (hrd [_,_] _ I)) ?_;intro w77 I;refine Jr (ia (cT (sr ?_)));refine qm [_,_] ?_;refine pd I 0 [_,_] ?_;intro ws I;replace I:Hp _ (.blk _ _ [_,_] _::_) _:=I;refine aI (ia (je (Ad ?_)));refine Vk ?_;exact abE
 have hE0:=hfo X h9;clear hfs hft hfo hbd hzl;obtain⟨T,hF⟩:=Ms hE0;rw[hE0,R' V'];have hpe:=hF.e;have hn0:=hF.pos;have hn12:=hF.jn;have hnl:=hF.nl;have t:=hF.low;have hmost:=hF.most;have hgr2:=hgr hE0;have hsp:=Yq hF lp.ok hb hk hgr2;obtain⟨_,o2,o3⟩:=Mi hpe;have hhv:Ff (Ca b)=n:=(by obtain⟨s,hs⟩:=aa (l:=b) (k:=0) Z';rw[aj (Ve hs),hbl]);have hpl:=λZ hb1=>DD L n c b k Z (hB.ext hb1) hb hF.box Z' hk;have hsu:∀(A:Option Addr)(c3:Nat)(os:List PX)(R:List HE)(w0 Z:World),Below w.heap.size w Z->os.length=n->FA ((Ca b).map λg=>⟨g.v,none,g.ts.length,0,g.ts⟩) os R->Hp w0 (.row A n c3 24 2 (la PX.cells os)::R) Z->Calls prog 103 #[.agg #[.int .i64 p.v,.slice p.A p.n p.c],.slice A n c3] Z λr V=>∃g:PX,se (Qb p (Ca b)).1 n (Qb p (Ca b)).2 g/\r=.returned (.tuple #[.agg #[.int .i64 g.v,.slice g.A g.n g.c],.int .i64 (Qb p (Ca b)).1])/\Hp Z [g.row] V:=(by intro A c3 os R w0 Z hb1 hol hcp h1;obtain⟨hkey,hlim⟩:=eL hcp Z' hn12 hb hk;obtain⟨ks,kh⟩:=kN (o:=p) (p:=p) rfl rfl hkey;have hfit:Fit p os k (k+k+10) 2 (k+k+16394) (wb p.v p.ts):=⟨by rw[hF.Ek];omega,λi d hd=>⟨(o3 i d hd).1,(o3 i d hd).2.1⟩,hgr2,Z',Z',λg hg=>(hlim g hg).1,λg hg=>(hlim g hg).2⟩;have h2:=XE p A c3 os k (k+k+10) 2 (k+k+16394) (wb p.v p.ts) Z (hp.ext hb1) lp (by rw[hol];exact h1.ka (i:=0) rfl) (λz hz=>rM h1 (u' _ (hcp.my z hz).1)) Z' hfit;rw[ks,kh,hhv,hol] at h2;exact h2);have hct:=λZ hs=>Lj M2 N mc2 D Z hs hm2;rw[show El D=da (D.map Int.toNat) by have h8:=LP t hmost;rw[<-T] at h8;exact h8] at hct;clear o2 o3 hhv hgr hgr2;have hm2n:N=n:=by rw[<-hDl,<-hbl,<-hnl,B']
 generalize hns:D.map Int.toNat=ns at*;generalize (Qb p (Ca b)).1=E at*;generalize (Qb p (Ca b)).2=S at*;have hN0:=Wb ns;refine qa (sr (mI (mL (Df ?_))));refine Ji (ia (cF (Oh (Mf (Mf (gk (Va (qa (sr (mL ?_))))))))));refine cd I (hct _ (hrd [_,_] _ I)) ?_;intro w77 I;refine Jr (ia (cF (db (Va (qa ?_)))));refine gz [7] [6] 8 I ?_;refine ub ?_;refine ua (i:=2) (ZH I.sz n b) (ZH.ext) ?_ ?_
 .intro U Z hj hR;exact rb rfl (Ha fi (na (show U 82=Value.slice _ _ _ from hR.1) Oa)) (hpl Z hj.hp.below) (λ_ _ ⟨A,c3,os,R,hq,hol,hcp,h3⟩=>⟨_,hq,h3.below,(A,c3,os,R),Z,rfl,hol,hcp,hj.bl.size,h3⟩)
 refine ua (i:=3) (Ng I.sz E n S) (Ng.ext) ?_ ?_
 .intro U Z hj hR;exact let⟨g,u,e1,e2,e3,e4,e5⟩:=hR.2.1;rb rfl (Ha fi (na (show U 81=Value.agg (List.toArray _) from hR.1) (na e1 Oa))) (hsu g.1 g.2.1 g.2.2.1 g.2.2.2 u Z hj.hp.below e2 e3 e5) (λ_ _ ⟨g,og,hq,h3⟩=>⟨_,hq,h3.below,g,Z,rfl,og,hj.bl.size,h3⟩)
 refine ua (i:=4) (Ng I.sz E n S) (Ng.ext) ?_ ?_
 .exact abM
 refine ua (i:=5) (Sh I.sz E n S) (Sh.ext) ?_ ?_
 .exact ab3
 refine ua (i:=6) (Is (.int .i64 E)) (Is.ext) ?_ ?_
 .exact acb
 refine ua (i:=7) (Sa _ 24 _) Sa.ext (λU Z hj hR=>Xc pa.out hj.bl (λv w2 h hb=>⟨hb,h⟩)) ?_;refine xa ?_;intro f W hJ hV _;obtain⟨v12,v86,v85,v80,v84,v83,v82,v81,_⟩:=hV;obtain⟨g83,u83,e83, -⟩:=v83;obtain⟨g84,u84,e84, -⟩:=v84;obtain⟨g80,u80,e80, -⟩:=v80;obtain⟨J,u85,e85,o85,q85,h85⟩:=v85;obtain⟨b12,e12,hl12,hc12⟩:Sa _ _ _ (f 7) W:=v12;replace I:=hJ.xh I hl12 hc12 q85 h85 (PX.ne h85 hc12 V');refine Be ?_;clear e83 e84 e80 e85 e12 hJ;simp only[I',J'] at I;replace I:=show Hp w (_::.row J.A J.n J.c 72 4 (la TR.cells J.ts)::_) W from I;by_cases hE2:E≠0
 .refine pd I 0 [_,_] ?_;intro ws I;replace I:Hp _ (.blk _ _ [_,_] _::_) _:=I;refine aI (ia (qa (sr (mI ?_))));refine Bk (ia (cT (sr ?_)));refine qm [_,_] (mI ?_);refine pd I 2 [_,_] ?_;intro ws I;replace I:Hp _ (_::_::.blk _ _ [_,_] _::_) _:=I;refine aI (ia (je (Ad ?_)));exact ad1
 obtain rfl:E=0:=Z';obtain⟨hso,hsr⟩:=hsp rfl;have et:J.ts=S:=o85.t0;rw[et] at I;have hqv:J.v=n:=o85.v0;rw[hqv] at*;clear o85 et hsu hpl;generalize J.A=qA at*;generalize J.n=qn at*;generalize J.c=qc at*;have hSl:S.length=qn:=(I.ka (i:=1) rfl).Aa TR.len V';have hSn:=hso.len;obtain⟨_,_,hSm,hSc⟩:=Kb hso.e;subst T;have hone2:=Ja (sa ns);have hrw:=λZ hs=>Kt M2 N mc2 ns Z hs Z' t Z';refine pd I 0 [_,_] ?_;intro ws I;replace I:Hp _ (.blk _ _ [_,_] _::_) _:=I;refine aI (ia (qa (sr (mI ?_))));refine wz ?_;refine du ?_;intro b91 w91 I;refine mL ?_;refine uE rfl rfl (hrd [_,_,_,_,_] _ I) Qa.out pa.out rfl V' hone2 (by unfold maxLen;omega) Z' V' ?_ ?_
 .intro h;omega
 intro P Q w93 h0_ hb_ ho;replace I:=I.Ed (x:=.row _ _ _ _ _ _) hb_ ho;refine qm [_,_] ?_;refine ik I ?_;intro b14 w14 I;refine pd I 0 [_,_] ?_;intro ws I;replace I:Hp _ (.blk _ _ [_,_] _::_) _:=I;refine ia (sr (mL ?_));refine cr I (hrw _ (hrd [_,_,_,_,_,_,_] _ I)) ?_;intro A96 c96 w96 I;replace I:=show Hp w (_::.blk b14 78 [.slice P N Q,.slice none 0 0] (0,0)::_) _ from I;replace I:=I.sub (P' _ (P' _ (P' _ (L' _ (P' _ (P' _ (P' _ (P' _ (P' _ j')))))))));obtain⟨g96,rfl⟩:=I.ib (i:=0) rfl Z';replace I:=I.yb 30 3;replace I:=I.perm (U_ (l₁:=[_,_]));simp only[I',J'] at I;refine aL (ia (qa (sr (aI (ia (Pc ?_))))));refine rf 16 (λv V=>∃(i cC:Nat)(C:Option Addr),i<=da ns/\v=.int .i64 i/\Hp w (.blk b14 78 [.slice P N Q,.slice C i cC] (0,0)::.row C i cC 30 3 (la NR.cells (((Aj ns S).take i).map nR))::.row (some ⟨g96,0,none⟩) (da ns) c96 9 1 (xk (pr ns))::.row P N Q 3 1 (Fa (sa ns))::.blk b12 24 [.int .i64 n,.slice qA qn qc] (0,0)::.row qA qn qc 72 4 (la TR.cells S)::.blk b6 78 [.slice none 0 0,.slice none 0 0] (0,0)::.blk b3 24 [.int .i64 p.v,.slice p.A p.n p.c] (0,0)::[.row G (Pj p.v p.ts).length gc 3 1 (Fa (Pj p.v p.ts))]) V) (λv _=>da ns-(intOf v).toNat) ?_ ?_
 .exact⟨0,0,none,N' _,rfl,I⟩
 clear I;rintro ρ2 v w2 ⟨i,cC,C,hi,rfl,I⟩;by_cases hlt2:i<da ns
 .have hat:(Aj ns S)[i]?=some (wS (λm=>wK 0 ns.reverse (Xb m).reverse (Xa ns.reverse i)) S):=(by unfold Aj;rw[C',y_ (by rw[qb];exact hlt2)];rfl);have hrp:=Gu (ZG hlt2);have hrr:=VK (Vf ns.reverse i);have hrl:(Xa ns.reverse i).reverse.length=n:=by rw[r',cf,r'];omega
  have hrv:(Xa ns.reverse i)=(Xa ns.reverse i).reverse.reverse:=(I8 _).symm;generalize (Xa ns.reverse i).reverse=F at*;rw[hrv] at hat;clear hrv;refine qa (sr (mI (mL (Df ?_))));refine Ji (ia (cT (db (Va (qa (Pc (sr ?_)))))));refine qm [_,_,_] ?_;refine ik I ?_;intro b17 w17 I;refine pd I 0 [_,_,_] ?_;intro ws I;replace I:Hp _ (.blk _ _ [_,_,_] _::_) _:=I;refine ia (qa (sr (aI (ia (Pc ?_)))));refine rf 18 (λv V=>∃j:Nat,j<=qn/\v=.int .i64 j/\Sz (442000+j) (wS (λm=>wK 0 ns.reverse (Xb m).reverse F.reverse) (S.take j))/\Hp w (.blk b17 30 [.bool (nR (wS (λm=>wK 0 ns.reverse (Xb m).reverse F.reverse) (S.take j))).neg,.string (nR (wS (λm=>wK 0 ns.reverse (Xb m).reverse F.reverse) (S.take j))).Ra,.int .i64 (nR (wS (λm=>wK 0 ns.reverse (Xb m).reverse F.reverse) (S.take j))).e] (0,0)::.blk b14 78 [.slice P N Q,.slice C i cC] (0,0)::.row C i cC 30 3 (la NR.cells (((Aj ns S).take i).map nR))::.row (some ⟨g96,0,none⟩) (da ns) c96 9 1 (xk (pr ns))::.row P N Q 3 1 (Fa (sa ns))::.blk b12 24 [.int .i64 n,.slice qA qn qc] (0,0)::.row qA qn qc 72 4 (la TR.cells S)::.blk b6 78 [.slice none 0 0,.slice none 0 0] (0,0)::.blk b3 24 [.int .i64 p.v,.slice p.A p.n p.c] (0,0)::[.row G (Pj p.v p.ts).length gc 3 1 (Fa (Pj p.v p.ts))]) V) (λv _=>qn-(intOf v).toNat) ?_ ?_
  .exact⟨0,N' _,rfl,Sz.zero _,I⟩
  clear I;rintro ρ3 v w3 ⟨j,hj,rfl,hz,I⟩;by_cases hlt3:j<qn
  .obtain⟨x,hx⟩:=aa (l:=S) (k:=j) Z';have hxm:=O' hx;have hxo:=hsr x hxm;have hx2:=hSm x hxm;unfold yf at hx2;rw[Z_,Y_] at hx2;have hxz:=hso.sz x hxm;have hxc:x.c=nR x.c.fa:=hSc.nf x hxm;have hesl:(Xb x.m).length=n:=by rw[Fp];omega
   have zx:Sz 440000 x.c.fa:=(hso.ok x hxm).2;have hokat:∀(a d e:Nat),ns[a]?=some d->(Xb x.m)[a]?=some e->e<=d:=λa d e hd he=>VK (rs:=(Xb x.m).reverse) hxo a d e hd (by rw[I8];exact he);have hws:wS (λm=>wK 0 ns.reverse (Xb m).reverse F.reverse) (S.take (j+1))=wS (λm=>wK 0 ns.reverse (Xb m).reverse F.reverse) (S.take j)+x.c.fa*wK 0 ns.reverse (Xb x.m).reverse F.reverse:=(by rw[ja hx,Bm];congr 1;exact z8 _);generalize wS (λm=>wK 0 ns.reverse (Xb m).reverse F.reverse) (S.take j)=y at*;obtain⟨gq,rfl⟩:=I.ib (i:=6) rfl Z';refine qa (sr (mI (Sk ?_)));refine im I 5 ?_;refine Df ?_;refine Ji (ia (cT (db (Va (qa (Pc (sr (Sk ?_))))))));refine im I 5 ?_;refine mI ?_;refine sv (Kc (k:=j) Qa.out pa.size rfl rfl Z' Z') ?_;refine Sk ?_;refine sv (Ua (vs:=[_,_,_]) pa.out rfl ((I.Wc (f:=TR.cells) (x:=x) (l:=S) (i:=6) rfl TR.len V' hx).drop 1) rfl) ?_;refine ik I ?_;intro b19 w19 I;refine pd I 0 [_,_,_] ?_;intro ws I;replace I:Hp _ (.blk _ _ [_,_,_] _::_) _:=I;refine ia (qa (sr (aI (ia (Pc ?_)))));rw[hxc] at I;replace I:=show Hp w (.blk b19 30 [.bool (nR x.c.fa).neg,.string (nR x.c.fa).Ra,.int .i64 (nR x.c.fa).e] (0,0)::_) _ from I;refine rf 20 (λv V=>∃a:Nat,a<=n/\v=.int .i64 a/\Sz (440000+130*a) (x.c.fa*wK 0 (ns.take a).reverse ((Xb x.m).take a).reverse (F.take a).reverse)/\Hp w (.blk b19 30 [.bool (nR (x.c.fa*wK 0 (ns.take a).reverse ((Xb x.m).take a).reverse (F.take a).reverse)).neg,.string (nR (x.c.fa*wK 0 (ns.take a).reverse ((Xb x.m).take a).reverse (F.take a).reverse)).Ra,.int .i64 (nR (x.c.fa*wK 0 (ns.take a).reverse ((Xb x.m).take a).reverse (F.take a).reverse)).e] (0,0)::.blk b17 30 [.bool (nR (y)).neg,.string (nR (y)).Ra,.int .i64 (nR (y)).e] (0,0)::.blk b14 78 [.slice P N Q,.slice C i cC] (0,0)::.row C i cC 30 3 (la NR.cells (((Aj ns S).take i).map nR))::.row (some ⟨g96,0,none⟩) (da ns) c96 9 1 (xk (pr ns))::.row P N Q 3 1 (Fa (sa ns))::.blk b12 24 [.int .i64 n,.slice (some ⟨gq,0,none⟩) qn qc] (0,0)::.row (some ⟨gq,0,none⟩) qn qc 72 4 (la TR.cells S)::.blk b6 78 [.slice none 0 0,.slice none 0 0] (0,0)::.blk b3 24 [.int .i64 p.v,.slice p.A p.n p.c] (0,0)::[.row G (Pj p.v p.ts).length gc 3 1 (Fa (Pj p.v p.ts))]) V) (λv _=>n-(intOf v).toNat) ?_ ?_
   .have e0:x.c.fa*wK 0 (ns.take 0).reverse ((Xb x.m).take 0).reverse (F.take 0).reverse=x.c.fa:=(by show x.c.fa*1=x.c.fa;grind);refine⟨0,N' _,rfl, ?_, ?_⟩
    .rw[e0];exact zx
    rw[e0];exact I
   clear I;rintro ρ4 v w4 ⟨a,ha,rfl,hz2,I⟩;by_cases hlt4:a<n
   .obtain⟨d,hd⟩:=aa (l:=ns) (k:=a) Z';obtain⟨ch,hch⟩:=aa (l:=x.m.data.toList) (k:=(a:Int).toNat) (by have h8:=Fp x.m;unfold Xb at h8 hesl;rw[B'] at h8 hesl;omega);have he:(Xb x.m)[a]?=some ch.toNat:=(by unfold Xb;rw[C',show x.m.data.toList[a]?=some ch from hch];rfl);obtain⟨r,hr⟩:=aa (l:=F) (k:=a) Z';have hrd2:=hrr a d r hd hr;have hd7:=t d (O' hd);obtain⟨c2,hc2,hcr⟩:=E0 hr Z';subst hcr;have hc3:(fX (sa F)).data.toList[(a:Int).toNat]?=some c2:=hc2;have hed:=hokat a d _ hd he;have hgD:=Db (jc hd);have hwk:=RW hd he hr;have hst:x.c.fa*wK 0 (ns.take a).reverse ((Xb x.m).take a).reverse (F.take a).reverse*QA (d-ch.toNat) ((c2.toNat:Int)-(ch.toNat:Int))=x.c.fa*wK 0 (ns.take (a+1)).reverse ((Xb x.m).take (a+1)).reverse (F.take (a+1)).reverse:=(by rw[hwk,JW hed hrd2];grind);have zc:=FK (n:=d-ch.toNat) ((c2.toNat:Int)-(ch.toNat:Int)) Z';have hcho:=λZ=>Qx (d-ch.toNat) ((d:Int)-(ch.toNat:Int)) ((c2.toNat:Int)-(ch.toNat:Int)) Z Z' Z' Z' Z';have hz3:Sz (440000+130*(a+1)) (x.c.fa*wK 0 (ns.take (a+1)).reverse ((Xb x.m).take (a+1)).reverse (F.take (a+1)).reverse):=(by rw[<-hst];exact(hz2.mul zc).mono Z');generalize QA (d-ch.toNat) ((c2.toNat:Int)-(ch.toNat:Int))=z2 at*;have okz:=hz2.ok Z';have okc:=zc.ok Z';have hmul:=λZ=>Ln (nR (x.c.fa*wK 0 (ns.take a).reverse ((Xb x.m).take a).reverse (F.take a).reverse)) (nR z2) Z (by have:=okz.1;omega) (by have:=okc.1;omega) (by have:=okz.2;omega) (by have:=okz.2;omega) (by have:=okc.2;omega) (by have:=okc.2;omega);rw[Ta,Ta,hst] at hmul;have I0:=I;obtain⟨ad,rfl,hsr2⟩:=(hrd [_,_,_,_,_,_,_,_,_,_] _ I).at_ Z';replace I:=I0;refine qa (sr (mI (mL (Df ?_))));refine Ji (ia (cT (db (Va (qa (Pc (sr (Sk ?_))))))));refine im I 6 ?_;refine mI ?_;refine sv (Kc (k:=j) Qa.out pa.size rfl rfl Z' Z') ?_;refine Sk ?_;refine sv (Ma pa.out rfl ((I.Wc (f:=TR.cells) (x:=x) (l:=S) (i:=7) rfl TR.len V' hx).cell (i:=0) rfl)) ?_;refine mI ?_;refine sv (ng Qa.out rfl rfl Z' (by assumption)) ?_;refine sv (jh Qa.out Qa.out rfl Z' Z') ?_;refine aI (ia ?_);refine qh 17 I ?_;refine ub ?_;refine Ba (i:=3) (λU Z hj hR=>Vb Qa.out pa.size (show U 133=Value.slice _ _ _ from hR.1) (show U 134=Value.int _ _ from hR.2.1) Z' Z') ?_;refine Ym (λ_ hj=>(hsr2.ext hj.bl).Dl hgD) ?_;refine ub ?_
    refine Ku (i) ?_;refine Ba (i:=10) (λU Z hj hR=>Ma pa.out (show U 141=Value.pointer _ from hR.1) (hj.hp.Pd (i:=4) rfl (by first|assumption|(simp only[W_];assumption)))) ?_;refine Gv ?_;refine Ba (i:=12) (λU Z hj hR=>ng Qa.out (show U 142=Value.string _ from hR.1) (show U 143=Value.int _ _ from hR.2.1) Z' (by assumption)) ?_;refine Ba (i:=13) (λU Z hj hR=>jh Qa.out Qa.out (show U 144=Value.int _ _ from hR.1) Z' Z') ?_;refine ub ?_;refine dC (λ_ hj=>hcho _) ?_;refine dn ?_;intro W I;refine cd I (hmul _) ?_;intro w149 I;refine pd I 0 [_,_,_] ?_;intro ws I;replace I:Hp _ (.blk _ _ [_,_,_] _::_) _:=I;refine Ti (Dp (Va (mb (mI ?_))));refine al (aI (Ti (Va ?_)));refine⟨⟨a+1,Z',rfl,hz3,I⟩,by show n-(a+1)<n-a;omega, ?_⟩;exact Sb
   obtain rfl:a=n:=Z';rw[G' Z',G' Z',G' Z'] at I hz2;have hz3:=hz.add (hz2.mono (show 440000+130*a<=442000+j by omega));have hplu:=λZ=>nh (nR y) (nR (x.c.fa*wK 0 ns.reverse (Xb x.m).reverse F.reverse)) Z (hz.ok Z') (hz2.ok Z');rw[Ta,Ta,<-hws] at hplu;rw[<-hws] at hz3;refine qa (sr (mI (mL (Df ?_))));refine Ji (ia (cF (Oh (Mf (Mf (gk (Va (mb ?_))))))));refine vf I 1 [_,_,_] ?_;refine vf I 0 [_,_,_] ?_;refine cd I (hplu _) ?_;intro w152 I;refine pd I 1 [_,_,_] ?_;intro ws I;replace I:Hp _ (_::.blk _ _ [_,_,_] _::_) _:=I;refine Ti (Dp (Va (mb (mI ?_))));refine al (aI (Ti (Va ?_)));replace I:=I.sub (L' _ (P' _ (P' _ (P' _ (P' _ (P' _ (P' _ (P' _ (P' _ (P' _ (P' _ j')))))))))));refine⟨⟨j+1,Z',rfl,hz3,I⟩,by show qn-(j+1)<qn-j;omega, ?_⟩;exact Sb
  obtain rfl:j=qn:=Z';rw[G' Z'] at I;refine qa (sr (mI (Sk ?_)));refine im I 5 ?_;refine Df ?_;refine Ji (ia (cF (Oh (Mf (Mf (gk (Va (mb (Sk ?_)))))))));refine im I 1 ?_;refine vf I 0 [_,_,_] ?_;refine Nm ?_;intro b156 w156 I;refine MH ?_;intro A157 c157 w157 I;simp only[l',Z9] at I;replace I:=I.sub (d_ _ _);refine Sk ?_;refine pd I 1 [_] ?_;intro ws I;replace I:Hp _ (_::.blk _ _ [_,_] _::_) _:=I;refine Ti (Dp (Va (mb (mI ?_))));refine al (aI (Ti (Va ?_)));replace I:=I.sub (L' _ (P' _ (P' _ (P' _ (P' _ (P' _ (P' _ (P' _ (P' _ (P' _ j'))))))))));refine⟨⟨i+1,c157,A157,Z',rfl,by rw[ja hat,q_,Na];exact I⟩,by show da ns-(i+1)<da ns-i;omega, ?_⟩;exact Sb
 obtain rfl:i=da ns:=Z';have hfl:=Wt ns S;rw[G' Z'] at I;refine qa (sr (mI (mL (Df ?_))));refine Ji (ia (cF (Oh (Mf (Mf (gk (Va (sr ?_))))))));refine vf I 0 [_,_] ?_;refine pd I 6 [_,_] ?_;intro ws I;replace I:Hp _ (_::_::_::_::_::_::.blk _ _ [_,_] _::_) _:=I;refine aI (ia (je ?_));refine kB (jb rfl (kb (vs:=[_,_]) pa.out (I.wa (i:=6) (n:=2) rfl rfl) rfl) (Dc (Sc rfl) Ub)) ?_;exact⟨⟨P,N,Q,C,da ns,cC,sa ns,(Aj ns S).map nR⟩,⟨rfl,rfl,by show N<=100000;omega,by show da ns<=1000000;omega⟩,rfl,I.sub (.cons _ (.cons_cons _ (.cons _ (.cons_cons _ (N_ _)))))⟩
end Go.Proofs.YtbencocchdpikaaGreatDoor
