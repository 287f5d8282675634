/- Lemmas for ratioEncloses, part 8. -/
import Derived.Test.YtbencocchdpikaaGreatDoorZ8
set_option linter.all false
set_option maxHeartbeats 0
namespace Go.Proofs.YtbencocchdpikaaGreatDoor
open Go.Proofs.Tryz
open Go.RowKit
variable {M:Nat->Nat->Dyadic}{k:Nat}{xs:List Dyadic}
variable {P:Program}{N d ty:Nat}{ops:Array Oper}{Q:Kq}{O:Rf}{w:World}{rest:List Oper}{pos:String}{af:Array Edge}
variable {n:Nat}
variable {b:List SR}
variable {j:Nat}
variable {K:Value->World->Prop}{o:Nat}
variable {G:List HE}{by':Nat}{ag:Bool}{cs vs zc:List Value}{fz:Nat×Nat}{w0:World}
variable {X:List Dyadic}
variable {α β:Type}
variable {ts:List TR}
variable {m:Nat}
def eF(p q:PX)(k k2:Nat)(w:World)(hT:Nd w)(hp:p.at_ w)(hq:q.at_ w)(lp:p.qf k)(lq:q.qf k2)(hk:k+k2<=900000):Calls prog 322 #[.agg #[.int .i64 p.v,.slice p.A p.n p.c],.agg #[.int .i64 q.v,.slice q.A q.n q.c]] w λr V=>∃g:PX,se (Ce p.ts q.ts) p.v (oa (Cb p.ts q.ts)) g/\r=.returned (.tuple #[.agg #[.int .i64 g.v,.slice g.A g.n g.c],.int .i64 (Ce p.ts q.ts)])/\Hp w [g.row] V:=by
 have I:=Hp.start w;obtain⟨pv,pA,E,pc,X⟩:=p;obtain⟨qv,qA,J,qc,Q⟩:=q;have B:X.length=E:=hp.ln;have D:Q.length=J:=hq.ln;have hpn:E<=1000000:=lp.n;have hqn:J<=1000000:=lq.n;have Y:Gh k X:=lp.ok;have okq:Gh k2 Q:=lq.ok;have szp:∀t∈X,t.m.size<=100000:=lp.sz;have szq:∀t∈Q,t.m.size<=100000:=lq.sz;replace hp:Sl w pA E 4 (la TR.cells X):=hp;replace hq:Sl w qA J 4 (la TR.cells Q):=hq;clear lp lq;show Calls _ _ _ _ λr V=>∃g:PX,se (Ce X Q) pv (oa (Cb X Q)) g/\r=.returned (.tuple #[.agg #[.int .i64 g.v,.slice g.A g.n g.c],.int .i64 (Ce X Q)])/\Hp w [g.row] V;have hmm:E*J<=1000000*1000000:=O9 hpn hqn;obtain⟨m,hm⟩:∃m,m=E*J:=⟨_,rfl⟩;have hmi:(E:Int)*(J:Int)=(m:Int):=by rw[hm];exact(m_ _ _).symm
 by_cases h6:65536<m
 .rw[EG (by rw[B,D,<-hm];exact h6)];refine Ga (l:=[.agg #[.int .i64 pv,.slice pA E pc],.agg #[.int .i64 qv,.slice qA J qc]]) func322 ?_;refine Kx ?_;intro b2 w2 I b3 w3 I b4 w4 I ws I;exact M0
 have P:¬65536<X.length*Q.length:=by rw[B,D,<-hm];exact h6
 refine Ga (l:=[.agg #[.int .i64 pv,.slice pA E pc],.agg #[.int .i64 qv,.slice qA J qc]]) func322 ?_;refine Ii ?_;intro b2 w2 I b3 w3 I b4 w4 I;replace I:=I.yb 72 4;have o:∀i,((X.take i).flatMap λx=>Q.map (yp x)).length<=65536:=λi=>(by exact adP);refine Jh 6 25 (λa x V=>∃(i:Nat)(M:List TR)(T:Option Addr)(c':Nat),i<=E/\x=.int .i64 i/\a=.slice T M.length c'/\M=((X.take i).flatMap λx=>Q.map (yp x))/\(∀e∈((X.take i).flatMap λx=>Q.map λy=>Gl x.m y.m),e=0)/\Hp w [.row T M.length c' 72 4 (la TR.cells M),.blk b4 24 [.int .i64 0,.slice none 0 0] (0,0),.blk b3 24 [.int .i64 qv,.slice qA J qc] (0,0),.blk b2 24 [.int .i64 pv,.slice pA E pc] (0,0)] V) (λ_ x _=>E-(intOf x).toNat) ?_ ?_
 .exact⟨0,[],none,0,N' _,rfl,rfl,rfl,λe he=>(nomatch he),I⟩
 clear I;rintro ρ' a_ x_ V ⟨i,M,T,c',hi,rfl,rfl,s,hz,I⟩;have hMl:=o i;rw[<-s] at hMl;by_cases hlt:i<E
 .obtain⟨x,C⟩:=aa (l:=X) (k:=i) Z';obtain⟨ad,rfl,hr⟩:=hp.at_ Z';have H:=O' C;have K:=Y x H;have hxs:=szp x H;refine ea ?_;refine fS ?_;refine Ib ?_;intro b8 w8 I ws I;replace I:=I.perm (U_ (l₁:=[_]));simp only[I',J'] at I;refine Jh 6 32 (λa z V=>∃(j:Nat)(N:List TR)(T:Option Addr)(c':Nat),j<=J/\z=.int .i64 j/\a=.slice T N.length c'/\N=M++(Q.take j).map (yp x)/\(∀e∈(Q.take j).map (λy=>Gl x.m y.m),e=0)/\Hp w [.row T N.length c' 72 4 (la TR.cells N),.blk b8 72 [.string x.m,.bool x.c.neg,.string x.c.Ra,.int .i64 x.c.e] (0,0),.blk b4 24 [.int .i64 0,.slice none 0 0] (0,0),.blk b3 24 [.int .i64 qv,.slice qA J qc] (0,0),.blk b2 24 [.int .i64 pv,.slice (some ad) E pc] (0,0)] V) (λ_ z _=>J-(intOf z).toNat) ?_ ?_
  .refine⟨0,M,T,c',N' _,rfl,rfl,by simp,λe he=>(nomatch he),I⟩
  clear I;rintro ρ2 a2 x2 w2 ⟨j,N,A2,c2,hj,rfl,rfl,hN,b,I⟩;by_cases hjn:j<J
  .obtain⟨y,hy⟩:=aa (l:=Q) (k:=j) Z';obtain⟨ad2,rfl,G⟩:=hq.at_ Z';have L:=O' hy;have S:=okq y L;have hys:=szq y L;have hmul:∀Z,Zc 326 #[.string x.m,.string y.m] Z (.tuple #[.string (mulM x.m y.m),.int .i64 (Gl x.m y.m)]):=λZ=>UP x.m y.m Z hxs hys;have F:=λA cc Z hT1 hS1=>Rh A 2 cc [x.c,y.c] Z hT1 hS1 (by simpa using⟨K.1,S.1⟩) (k+k2) (by simpa using⟨K.2.mono Z',S.2.mono Z'⟩) Z' V';rw[show pj ([x.c,y.c].map NR.fa)=x.c.fa*y.c.fa by show 1*x.c.fa*y.c.fa=_;rw[R7]] at F;refine aae ?_;intro R hR hzz;have hNl:N.length<65536:=(by have h1:=o (i+1);rw[Rm C,D',<-s] at h1;rw[hN,D'];simp at h1 |-;omega);by_cases he:Gl x.m y.m=0
   .refine ea ?_;refine sv (Ua (vs:=[_,_,_,_]) pa.out rfl ((G.ext I.below).recAt TR.len hy) rfl) ?_;refine Ib ?_;intro b10 w10 I ws I;refine cd I (hmul _) ?_;intro w41 I;refine ea ?_;refine bw ?_;intro b54 w54 I;refine cd I (F _ _ _ (hT.hp I) (I.ka (i:=0) rfl)) ?_;intro w55 I;refine ea ?_;refine LB ?_;intro b57 w57 I;refine MH ?_;intro A58 c58 w58 I;refine jB ?_;intro I;have e1:la TR.cells N++[.string (mulM x.m y.m),.bool (nR (x.c.fa*y.c.fa)).neg,.string (nR (x.c.fa*y.c.fa)).Ra,.int .i64 (nR (x.c.fa*y.c.fa)).e]=la TR.cells (N++[yp x y]):=by rw[Na,Tj];rfl
    replace I:=show Hp w (_::_::.row A58 (N.length+1) c58 72 4 (la TR.cells N++[.string (mulM x.m y.m),.bool (nR (x.c.fa*y.c.fa)).neg,.string (nR (x.c.fa*y.c.fa)).Ra,.int .i64 (nR (x.c.fa*y.c.fa)).e])::_) w58 from I;rw[e1] at I;replace I:=I.sub (L' _ (L' _ (P' _ (P' _ (P' _ (P' _ (P' _ j')))))));exact kZ
   rw[kM P hR hzz he];generalize Gl x.m y.m=e at*;refine ea ?_;refine sv (Ua (vs:=[_,_,_,_]) pa.out rfl ((G.ext I.below).recAt TR.len hy) rfl) ?_;refine Ib ?_;intro b10 w10 I ws I;refine cd I (hmul _) ?_;intro w41 I;refine Gb ?_;intro ws I;refine kB (jb rfl (kb (vs:=[_,_]) pa.out (I.wa (i:=3) (n:=2) rfl rfl) rfl) (Dc (Sc rfl) Ub)) ?_;exact YW
  obtain rfl:j=J:=Z';rw[G' Z'] at b hN;refine ea ?_;replace I:=I.sub (P' _ (L' _ (P' _ (P' _ (P' _ j')))));refine⟨⟨i+1,N,A2,c2,Z',rfl,rfl,by rw[Rm C,<-s,G' Z'];exact hN,λe h=> ?_,I⟩,by show E-(i+1)<E-i;omega, ?_⟩
  .exact aeX
  exact Sb
 obtain rfl:i=E:=Z';rw[G' Z'] at hz s;have u:M=Cb X Q:=s;rw[vy P hz,<-u];have W:=Tp Y okq Z';rw[<-u] at W;refine ea ?_;refine Hi (Kl pv T M.length c' M (k+k2) _ hT I rfl Z' Z' W) rfl ?_;rintro e_ w64 ⟨g,og,rfl,I⟩;refine⟨_,rfl, ?_⟩;refine Gb ?_;refine abo ?_;intro ws I;exact Fu
variable {E:Int}{W Z:World}{base:Nat}
def Sh(base:Nat)(E v:Int)(ts:List TR):VP:=λx W=>∃(g:PX)(Z:World),x=.agg #[.int .i64 g.v,.slice g.A g.n g.c]/\se E v ts g/\base<=Z.heap.size/\Hp Z [g.row] W
def Sh.ext{v:Int}(x:Value)(w V)(h:Sh base E v ts x w)(F:Below w.heap.size w V):Sh base E v ts x V:=let⟨g,Z,h1,h2,G,z⟩:=h;⟨g,Z,h1,h2,G,z.ext F⟩
def Ng(base:Nat)(E v:Int)(ts:List TR):VP:=λx W=>∃(g:PX)(Z:World),x=.tuple #[.agg #[.int .i64 g.v,.slice g.A g.n g.c],.int .i64 E]/\se E v ts g/\base<=Z.heap.size/\Hp Z [g.row] W
def Ng.ext{v:Int}(x:Value)(w V)(h:Ng base E v ts x w)(F:Below w.heap.size w V):Ng base E v ts x V:=let⟨g,Z,h1,h2,G,z⟩:=h;⟨g,Z,h1,h2,G,z.ext F⟩
def VF(base:Nat)(v:Int)(ts:List TR):VP:=λx W=>∃(g:PX)(Z:World),x=.slice g.A g.n g.c/\se 0 v ts g/\base<=Z.heap.size/\Hp Z [g.row] W
def VF.ext{v:Int}(x:Value)(w V)(h:VF base v ts x w)(F:Below w.heap.size w V):VF base v ts x V:=let⟨g,Z,h1,h2,G,z⟩:=h;⟨g,Z,h1,h2,G,z.ext F⟩
def PX.ne{g:PX}{b:Nat}{t:TypeId}{cs:Array Value}(h:Hp Z [g.row] W)(G:W.heap[b]?=some (.cells cs t fz))(h1:72≠t):∀x∈[g.row],x.id≠some b:=λx C=>by
 have Q:=h.own x C;obtain rfl:=k'.1 C;exact Rv Q G h1
def Zj(a:List TR×Int)(g:PX):List TR×Int:=if a.2=0 then(oa (Cb a.1 g.ts),Ce a.1 g.ts) else a
def adz(X:List PX):List TR×Int:=match X with|[]=>([],0)|g::l=>l.foldl Zj (g.ts,0)
def NM(X:List PX):Int:=if Te X=0 then(adz X).2 else Te X
def wH{a:List TR×Int}(h:a.2≠0):∀l:List PX,l.foldl Zj a=a
 |[]=>rfl
 |g::l=>(by rw[Y7,show Zj a g=a by unfold Zj;rw[R' h]];exact wH h l)
def gQ{l:List PX}{a:List TR×Int}{i:Nat}{g:PX}(C:l[i]?=some g)(J:((l.take i).foldl Zj a).2=0)(h:Ce ((l.take i).foldl Zj a).1 g.ts≠0):(l.foldl Zj a).2=Ce ((l.take i).foldl Zj a).1 g.ts:=by
 have e:l=l.take i++g::l.drop (i+1):=by rw[<-Wf C,Y9]
 have L:l.foldl Zj a=(l.drop (i+1)).foldl Zj (Zj ((l.take i).foldl Zj a) g):=by
  conv=>lhs;rw[e]
  rw[u7,Y7]
 rw[L];have X:Zj ((l.take i).foldl Zj a) g=(oa (Cb ((l.take i).foldl Zj a).1 g.ts),Ce ((l.take i).foldl Zj a).1 g.ts):=Q' J;rw[X,wH h]
def dQ{l:List PX}{a:List TR×Int}{i:Nat}{g:PX}(C:l[i]?=some g)(J:((l.take i).foldl Zj a).2=0):(l.take (i+1)).foldl Zj a=(oa (Cb ((l.take i).foldl Zj a).1 g.ts),Ce ((l.take i).foldl Zj a).1 g.ts):=by
 rw[ja C,u7,Y7,List.foldl_nil];exact Q' J
def lN{p q:List TR}(hp:Gh k p)(R:Gh j q)(sq:∀t∈q,t.m.size<=100000)(h:Ce p q=0)(u:k+j<=900000):Gh (k+j+65536) (oa (Cb p q))/\∀t∈oa (Cb p q),t.m.size<=100000:=by
 obtain⟨L,_,z⟩:=Vl h;have W:=Tp hp R Z';have o:=Pq λt S=>(W t S).2;rw[Pk] at o;refine⟨λt S=> ?_,λt S=> ?_⟩
 .have:Sz (k+j+65536) t.c.fa:=(o t S).mono Z';refine⟨?_,this⟩;rw[(Me _).nf t S];exact this.ok Z'
 obtain⟨s,K,e⟩:=ll t S;obtain⟨x,C,K⟩:=k9.1 K;obtain⟨y,hy,rfl⟩:=x'.1 K;rw[<-e];exact p' (yP _ _) (sq y hy)
def wG(L:Option Addr)(n c:Nat)(X:List PX)(k s:Nat)(w:World)(hT:Nd w)(hL:Sl w L n 2 (la PX.cells X))(hcn:n<=c)(hn:n<=8)(hf:∀g∈X,g.at_ w)(hl:∀g∈X,g.qf k)(hs:k+65536<=s)(hk:k+k+(n-2)*s<=900000):Calls prog 306 #[.slice L n c] w λr V=>∃g:PX,se (NM X) (Ff X) (adz X).1 g/\r=.returned (.tuple #[.agg #[.int .i64 g.v,.slice g.A g.n g.c],.int .i64 (NM X)])/\Hp w [g.row] V:=by
 have I:=Hp.start w;have hln:=hL.Aa PX.len V';have j:=λZ hT1 F=>yw L n c X k Z hT1 (hL.ext F) Z' (λg hg=>(hf g hg).ext F) hl;unfold NM;by_cases J:Te X=0
 .rw[Q' J];rw[J] at j;obtain⟨hne,Ij,hvv⟩:=Hu J;obtain⟨R,N,rfl⟩:=g6 hne;rw[aj (g:=R) rfl];have hnp:N.length+1=n:=hln;obtain⟨y,rfl,hr⟩:=hL.at_ Z';have G:R∈R::N:=E';have p:=hl R G;have B:(R::N)[0]?=some R:=rfl;show Calls _ _ _ _ λr V=>∃g:PX,se (N.foldl Zj (R.ts,0)).2 R.v (N.foldl Zj (R.ts,0)).1 g/\r=.returned (.tuple #[.agg #[.int .i64 g.v,.slice g.A g.n g.c],.int .i64 (N.foldl Zj (R.ts,0)).2])/\Hp w [g.row] V;refine Ga (l:=[.slice (some y) n c]) func306 ?_;refine Gb ?_;intro b2 w2 I;refine cd I (j _ (hT.hp I) I.below) ?_;intro t I;refine ea ?_;refine qh 11 I ?_;refine OA ?_;refine Wi (0) ?_;refine px ?_;refine Ym (λ_ hj=>Ab hj.hp.below ((hr.recAt PX.len B) 0 _ rfl)) ?_;refine OA ?_;refine Wi (0) ?_;refine px ?_;refine Ym (λ_ hj=>Ab hj.hp.below ((hr.recAt PX.len B) 1 _ rfl)) ?_;refine ua (i:=8) (VF t.heap.size R.v R.ts) (VF.ext) ?_ ?_
  .intro U Z hj hR;exact rb rfl (Ha fi (na (show U 23=Value.slice _ _ _ from hR.1) Oa)) (kn R.A R.n R.c R.ts Z ((hf R G).ext hj.hp.below) p.n) (λ_ _ ⟨A,c,hq,ho,F⟩=>⟨_,hq,F,⟨R.v,A,R.n,c,R.ts⟩,Z,rfl,⟨rfl,rfl⟩,hj.bl.size,(Hp.start Z).Ed (x:=.row _ _ _ _ _ _) F ho⟩)
  refine ua (i:=9) (Sh t.heap.size 0 R.v R.ts) (Sh.ext) ?_ ?_
  .intro U Z hj hR;exact let⟨g,u,e,o,q,h⟩:=hR.2.1;ic rfl (Hn (cs:=[_,_]) pa.out nj.out (Bb (show U 19=Value.int _ _ from hR.1) (Bb e Ld)) rfl) ⟨Below.refl _ _,g,u,by rw[show g.v=R.v from o.v],o,q,h⟩
  refine ua (i:=10) (Sa _ 24 _) Sa.ext (λU Z hj hR=>Xc pa.out hj.bl (λv w2 h F=>⟨F,h⟩)) ?_;refine xa ?_;intro f W hJ hV;obtain⟨v5,v25,v24,v23,v22,v21,v20,v19,v18,v17,v16,_⟩:=hV;obtain⟨g24,u24,e24, -⟩:=v24;obtain⟨g25,u25,e25,Y,q25,C⟩:=v25;obtain⟨b5,e5,hl5,E⟩:Sa _ _ _ (f 10) W:=v5;replace I:=hJ.xh I hl5 E q25 C (PX.ne C E V');refine Be ?_;clear e24 e25 e5 hJ;simp only[I',J'] at I;obtain⟨gv,gA,z,gc,gts⟩:=g25;obtain rfl:R.v=gv:=Y.v.symm;obtain rfl:R.ts=gts:=Y.ts.symm;replace I:=show Hp w (_::.row gA z gc 72 4 (la TR.cells R.ts)::_) W from I;have hgn:R.ts.length=z:=(I.ka (i:=1) rfl).Aa TR.len V';have hgc:z<=gc:=I.Ae (i:=1) rfl;refine Gb ?_;intro ws I;refine aeN ?_;replace I:=I.perm (U_ (l₁:=[_]));simp only[I',J'] at I;refine rf 29 (λv V=>∃(i:Nat)(g:PX),i<=n-1/\v=.int .i64 i/\((N.take i).foldl Zj (R.ts,0)).2=0/\g.v=R.v/\g.ts=((N.take i).foldl Zj (R.ts,0)).1/\g.qf (k+i*s)/\Hp w [.row g.A g.n g.c 72 4 (la TR.cells g.ts),.blk b5 24 [.int .i64 g.v,.slice g.A g.n g.c] (0,0),.blk b2 24 [.int .i64 0,.slice none 0 0] (0,0)] V) (λv _=>n-1-(intOf v).toNat) ?_ ?_
  .exact⟨0,⟨R.v,gA,z,gc,R.ts⟩,N' _,rfl,rfl,rfl,rfl,⟨by show z<=1000000;have:=p.n;have h9:=(hf R G).ln;omega,hgc,p.ok.mono (by rw[W7];omega),p.sz⟩,I⟩
  clear I;rintro ρ' v V ⟨i,g,hi,rfl,hz,P,m,H,I⟩;by_cases hlt:i<n-1
  .obtain⟨f,hx⟩:=aa (l:=N) (k:=i) Z';have M:f∈R::N:=u' _ (O' hx);have his:i*s<=(n-2)*s:=n_ _ Z';have his1:=U9 i s;have hbk:Sl w (if c=1 then some y else(some y:Option Addr).map (·.add (1*2))) (n-1) 2 (la PX.cells N):=hL.back Z' hcn;obtain⟨ab,hAb,sb⟩:=hbk.at_ Z';have Ij:Value.slice (if c=1 then some y else(some y:Option Addr).map (·.add (1*2))) (n-1) (c-1)=.slice (some ab) (n-1) (c-1):=by rw[hAb]
   have K:=hl f M;have d:=dQ (a:=(R.ts,0)) hx hz;have Q:=gQ (a:=(R.ts,0)) hx hz;rw[<-m] at d Q;refine ea ?_;refine sv (Eb (k:=i) Qa.out pa.size Ij rfl Z' Z') ?_;refine sv (Ua (vs:=[_,_]) pa.out rfl (show Rd _ _ [.int .i64 f.v,.slice f.A f.n f.c] from(sb.ext I.below).recAt PX.len hx) rfl) ?_;refine Ib ?_;intro b7 w7 I ws I;refine Hi (eF g f (k+i*s) k _ (hT.hp I) (I.ka (i:=1) rfl) ((hf f M).ext I.below) H K Z') rfl ?_;rintro e_ w36 ⟨h,oh,rfl,h3⟩;refine⟨_,rfl, ?_⟩;refine ET ?_;intro I;by_cases he:Ce g.ts f.ts=0
   .obtain⟨hv,hA,D,b,T⟩:=h;rw[he] at oh;obtain rfl:g.v=hv:=oh.v.symm;obtain rfl:oa (Cb g.ts f.ts)=T:=oh.ts.symm;replace I:=show Hp w (.row hA D b 72 4 (la TR.cells (oa (Cb g.ts f.ts)))::_) w36 from I;have hhn:(oa (Cb g.ts f.ts)).length=D:=(I.ka (i:=0) rfl).Aa TR.len V';have hhc:D<=b:=I.Ae (i:=0) rfl;have h4:=(Vl he).2.2;have S:=lN H.ok K.ok K.sz he Z';refine Ii ?_;intro b8 w8 I ws I ws I;replace I:=I.sub (L' _ (P' _ (L' _ (L' _ (P' _ (P' _ j'))))));refine⟨⟨i+1,⟨g.v,hA,D,b,oa (Cb g.ts f.ts)⟩,Z',rfl,by rw[d];exact he,P,by rw[d],⟨by show D<=1000000;omega,hhc,S.1.mono (by rw[U9];omega),S.2⟩,I⟩,by show n-1-(i+1)<n-1-i;omega, ?_⟩;exact Sb
   rw[Q he];refine Ii ?_;intro b8 w8 I ws I ws I;refine fU ?_;exact YW
  obtain rfl:i=n-1:=Z';rw[G' Z'] at hz m;refine Gb ?_;refine qX ?_;intro ws I;rw[hz];exact⟨g,⟨P,m⟩,rfl,I.sub (P' _ (N_ _))⟩
 rw[R' J];generalize Te X=e at*;refine Ga func306 ?_;refine Gb ?_;intro b2 w2 I;refine cd I (j _ (hT.hp I) I.below) ?_;intro t I;refine Gb ?_;refine rn5 ?_;exact OU
theorem bB(v:Int)(A:Option Addr)(n c:Nat)(ts:List TR)(w:World)(hS:Sl w A n 4 (la TR.cells ts))(hn:n<=1000000)(ho:∀t∈ts,t.c.ok/\t.m.size<=100000):Zc 100 #[.agg #[.int .i64 v,.slice A n c]] w (.int .i64 (Ye v ts)):=by
 have I:=Hp.start w;have hln:=hS.Aa TR.len V'
 cases Y:gh v with
 |false=>
  have hbv:¬(0<=v/\v<=12):=λh=>by rw[Yc.2 h] at Y;cases Y
  rw[show Ye v ts=1 by unfold Ye;rw[Q' Y]];by_cases h0:v<0
  .exact acQ
  exact acQ
 |true=>
  obtain⟨hv0,hv12⟩:=Yc.1 Y;by_cases h4:4096<n
  .rw[show Ye v ts=3 by unfold Ye;rw[R' (by rw[Y];decide),Q' Z']];exact acQ
  have M:=λh=>bI (v:=v) (ts:=ts) Y Z' h;refine Ga func100 ?_;refine Gb ?_;intro b1 Z I;refine rf 3 (λx V=>∃i:Nat,i<=n/\x=.int .i64 i/\(ts.take i).all (Rj v)=true/\Du (ts.take i)=true/\Hp w [.blk b1 24 [.int .i64 v,.slice A n c] (0,0)] V) (λx _=>n-(intOf x).toNat) ?_ ?_
  .exact⟨0,N' _,rfl,rfl,rfl,I⟩
  clear I;rintro ρ' x_ V ⟨i,hi,rfl,X,g,I⟩;by_cases hlt:i<n
  .obtain⟨x,C⟩:=aa (l:=ts) (k:=i) Z';obtain⟨ad,rfl,H⟩:=hS.at_ Z';obtain⟨u,hxm⟩:=ho x (O' C);have K:=λZ=>Mn x.m v Z Z';have z:=λZ=>Hc x.c Z (by have:=u.1;omega);have r:=λZ=>ue x.c Z (by have:=u.1;omega) (by have:=u.2.1;omega) (by have:=u.2.2;omega);have B:x.c.i.sign=0↔x.c.fa=0:=(by exact tY)
   cases hm:Le x.m.data.toList && decide ((x.m.size:Int)=v) with
   |false=>
    rw[hm] at K;rw[M (jq C (by unfold Rj;rw[hm];rfl))];refine ea ?_;refine ZV ?_;refine Ib ?_;intro b4 w4 I ws I;refine gz [] [] 18 I ?_;refine ub ?_;refine dC (λ_ hj=>K _) ?_;refine ub ?_;exact aeP
   |true=>
    rw[hm] at K;by_cases y:x.c.fa=0
    .have hs:=B.2 y;rw[M (jq C (by unfold Rj Gq;rw[hm,w' y];rfl))];refine ac3 ?_;(unhygienic intros)
     exact aeP
    have hs:¬x.c.i.sign=0:=λh=>y (B.1 h);by_cases s:nR x.c.fa=x.c
    .have o:Rj v x=true:=by unfold Rj Gq;rw[hm,m' y,(Hq x.c).2 s];rfl
     have T:(ts.take (i+1)).all (Rj v)=true:=by rw[ja C,z6,X];simp[o]
     refine ac3 ?_;(unhygienic intros)
     refine aab ?_;refine xa ?_;intro f W Q a _;have j:=Q.bl;obtain⟨v46,v45,v44,v43,v42,v41,v40,v39,R,S,P,J,L,G,F,E,v30,D,_⟩:=a;replace I:=Q.hp;refine Be ?_;clear Q;refine gT ?_
     (first|refine Xt rfl rfl (by first|assumption|rfl) V' ?_|refine dx rfl rfl (by assumption) V' ?_)
     refine ea ?_;by_cases h0:i=0
     .refine gz [] [] 12 I ?_;refine ub ?_;refine xa ?_;intro f W Q a _;have e:=Q.bl;obtain⟨v60,v59,v58,v57,v56,v55,v54,v53,v52,v51,v50,v49,_⟩:=a;replace I:=Q.hp;refine Be ?_;clear Q;refine aaH ?_;(unhygienic intros)
      exact Sb
     obtain⟨q,hq⟩:∃q,i=q+1:=⟨i-1,Z'⟩;obtain⟨p,hp⟩:=aa (l:=ts) (k:=q) Z'
     cases b:Nh p.m x.m with
     |false=>
      rw[M (gG hp (hq ▸ C) b)];have N:(!(Op.bytesLess p.m.toList x.m.toList))=true:=by rw[dk,b];rfl
      refine gz [] [] 12 I ?_;refine ub ?_;refine dG (Wi (q) ?_);refine ub ?_;refine dG (Ym (λ_ hj=>((H.ext hj.hp.below).recAt TR.len hp).cell (i:=0) rfl) ?_);refine ub ?_;refine xa ?_;intro f W Q a _;have e:=Q.bl;obtain⟨v60,v59,v58,v57,v56,v55,v54,v53,v52,v51,v50,v49,_⟩:=a;replace I:=Q.hp;refine Be ?_;clear Q;refine gT ?_;refine sv (Nq rfl rfl) ?_;refine ea ?_;rw[N];refine ea ?_;exact⟨rfl,I.below⟩
     |true=>
      have N:(!(Op.bytesLess p.m.toList x.m.toList))=false:=by rw[dk,b];rfl
      refine gz [] [] 12 I ?_;refine ub ?_;refine dG (Wi (q) ?_);refine ub ?_;refine dG (Ym (λ_ hj=>((H.ext hj.hp.below).recAt TR.len hp).cell (i:=0) rfl) ?_);refine ub ?_;refine dn2 ?_;intro W I;refine gT ?_;refine sv (Nq rfl rfl) ?_;refine ea ?_;rw[N];refine YZ ?_;intro I;exact Sb
    rw[M (jq C (by unfold Rj Gq;rw[hm,m' y,Q7.2 (λh=>s ((Hq x.c).1 h))];rfl))];refine ac3 ?_;(unhygienic intros)
    refine aab ?_;refine dn2 ?_;intro W I;refine gT ?_
    (first|refine Xt rfl rfl (by first|assumption|rfl) V' ?_|refine dx rfl rfl (by assumption) V' ?_)
    refine ea ?_;exact⟨rfl,I.below⟩
  rw[G' Z'] at X g;rw[show Ye v ts=0 by unfold Ye okB;rw[R' (by rw[Y];decide),R' Z',X,g];rfl];refine ea ?_;exact⟨rfl,I.below⟩
def Fv{x:TR}(b):∀{a:List TR},(∀t∈a,Nh t.m x.m=true)->di (a++b) x=a++di b x
 |[],_=>rfl
 |t::a,h=>(by rw[I',di,Q' (h t E'),Fv b λs K=>h s (u' _ K)];rfl)
def ES{x:TR}{l:List TR}(h:∀t∈l,Nh t.m x.m=true):di l x=l++[⟨x.m,nR x.c.fa⟩]:=by
 have:=Fv [] h;rwa[I_] at this
def KY{x t:TR}{l:List TR}{i:Nat}(C:l[i]?=some t)(h:∀s∈l.take i,Nh s.m x.m=true)(h1:Nh t.m x.m=false):di l x=if t.m=x.m then l.take i++⟨x.m,nR (t.c.fa+x.c.fa)⟩::l.drop (i+1) else l.take i++⟨x.m,nR x.c.fa⟩::l.drop i:=by
 have e:l=l.take i++t::l.drop (i+1):=by rw[<-Wf C,Y9]
 have L:di l x=l.take i++di (t::l.drop (i+1)) x:=by
  conv=>lhs;rw[e]
  exact Fv _ h
 rw[L,di,R' (by rw[h1];decide),Wf C];by_cases he:t.m=x.m
 .rw[Q' he,R' (by rw[he,ph];decide)]
 rw[R' he,Q']
 cases h2:Nh x.m t.m with
 |true=>rfl
 |false=>exact absurd (Vq h1 h2) he
theorem fK(A:Option Addr)(n c:Nat)(l:List TR)(x:TR)(w:World)(J:Sl w A n 4 (la TR.cells l))(y:n<=c)(hn:n<=1000000)(ho:∀t∈l,t.c.ok)(C:x.c.ok):Calls prog 232 #[.slice A n c,.agg #[.string x.m,.bool x.c.neg,.string x.c.Ra,.int .i64 x.c.e]] w λr V=>∃A' c',r=.returned (.slice A' (di l x).length c')/\Hp w [.row A' (di l x).length c' 72 4 (la TR.cells (di l x))] V:=by
 have I:=Hp.start w;have hln:=J.Aa TR.len V';have o:=λZ=>ue x.c Z (by have:=C.1;omega) (by have:=C.2.1;omega) (by have:=C.2.2;omega);refine Ga func232 ?_;refine Gb ?_;intro b3 w3 I;refine rf 5 (λv V=>∃i:Nat,i<=n/\v=.int .i64 i/\(∀t∈l.take i,Nh t.m x.m=true)/\Hp w [.blk b3 72 [.string x.m,.bool x.c.neg,.string x.c.Ra,.int .i64 x.c.e] (0,0)] V) (λv _=>n-(intOf v).toNat) ?_ ?_
 .exact⟨0,N' _,rfl,λt S=>(nomatch S),I⟩
 clear I;rintro ρ' v V ⟨i,hi,rfl,X,I⟩;by_cases hlt:i<n
 .obtain⟨t,S⟩:=aa (l:=l) (k:=i) Z';obtain⟨ad,rfl,H⟩:=J.at_ Z';have hto:=ho t (O' S)
  cases p:Nh t.m x.m with
  |true=>
   have Y:Op.bytesLess t.m.toList x.m.toList=true:=by rw[dk,p]
   refine ea ?_;refine pW ?_;(unhygienic intros)
   have j:=Q.bl;obtain⟨v18,v17,v16,v15,v14,v13,v12,v11,v10,v9,v8,v7,_⟩:=a;replace I:=Q.hp;refine Be ?_;clear Q;refine gT ?_;refine sv (jv rfl rfl) ?_;refine ea ?_;rw[Y];refine ea ?_;refine⟨⟨i+1,Z',rfl,λs K=> ?_,I⟩,by show n-(i+1)<n-i;omega, ?_⟩
   .rw[ja S] at K;obtain K|K:=A_.1 K
    .exact X s K
    rw[k'.1 K];exact p
   exact Sb
  |false=>
   have Y:Op.bytesLess t.m.toList x.m.toList=false:=by rw[dk,p]
   have D:=KY S X p;have N:=J.front (m:=i) Z';rw[show(la TR.cells l).take (i*4)=la TR.cells (l.take i) from wi TR.len l i] at N;have o1:=Pa TR.one (l.take i);refine ea ?_;refine pW ?_;(unhygienic intros)
   have j:=Q.bl;obtain⟨v18,v17,v16,v15,v14,v13,v12,v11,v10,v9,v8,v7,_⟩:=a;replace I:=Q.hp;refine Be ?_;clear Q;refine gT ?_;refine sv (jv rfl rfl) ?_;refine ea ?_;rw[Y];refine ea ?_;refine du ?_;intro G w23 I;refine ea ?_;refine sv (cj (h:=i) Qa.out pa.size rfl rfl Z' Z') ?_;refine pb I (i:=0) rfl rfl rfl (N.ext I.below) Qa.out pa.out rfl V' ?one11 Z' Z' V' ?kk11
   case one11=>first|rfl|assumption|exact Ja _|exact oneCells_u8s _
   intro q M w27 I;simp only[l'] at I;refine ea ?_;have hpl:=λZ=>nh t.c x.c Z hto C;by_cases he:t.m=x.m
   .rw[Q' he] at D;have z:=J.back (l:=i+1) Z' y;rw[show(la TR.cells l).drop ((i+1)*4)=la TR.cells (l.drop (i+1)) from Ai TR.len l (i+1)] at z;have o2:=Pa TR.one (l.drop (i+1));refine pW ?_;(unhygienic intros)
    have R:=Q.bl;obtain⟨v39,v38,v37,v36,v35,v34,v33,v32,v31,v30,v29,v28,_⟩:=a;replace I:=Q.hp;refine Be ?_;clear Q;refine gT ?_
    (first|refine sv (yi rfl rfl (by first|rfl|assumption|decide)) ?_|refine sv (ti rfl rfl (by first|assumption|decide)) ?_)
    refine ea ?_;refine qh 13 I ?_;refine ub ?_;refine Wi (i) ?_;refine px ?_;refine fk [_,_,_] (λ_ hj=>((H.ext hj.hp.below).recAt TR.len S).drop 1) ?_;refine ub ?_;refine dC (λ_ hj=>hpl _) ?_;refine ub ?_;refine Nw [_,_,_,_] ?_;refine xa ?_;intro f W Q a;obtain⟨v54,v53,v52,v51,v50,v49,v48,v47,v46,v45,v44,v43,v42,_⟩:=a;obtain⟨A54,c54,e54,f54⟩:Rows _ _ _ (f 12) W:=v54;replace I:=Q.hp;refine Be ?_;clear e54 Q;refine pb I (i:=0) rfl rfl rfl (f54) Qa.out pa.out rfl V' (by first|rfl|exact kc _|exact Mb _|exact Ja _|exact Pa NR.one _) Z' Z' V' ?_;intro A55 c55 w55 I;simp only[l'] at I;refine ea ?_;refine Jb rfl rfl V' (Bg Qa.out pa.size rfl rfl (l:=i+1) Z' Z' Z') ?_;refine pb I (i:=0) rfl rfl rfl (z.ext I.below) Qa.out pa.out rfl V' ?one12 Z' Z' V' ?kk12
    case one12=>first|rfl|assumption|exact Ja _|exact oneCells_u8s _
    intro A61 c61 w61 I;simp only[l'] at I;refine ea ?_;have b:(di l x).length=0+i+1+(n-(i+1)):=by rw[D,D',V_,q',Q9];omega
    have L:la TR.cells (di l x)=[]++la TR.cells (l.take i)++[.string x.m,.bool (nR (t.c.fa+x.c.fa)).neg,.string (nR (t.c.fa+x.c.fa)).Ra,.int .i64 (nR (t.c.fa+x.c.fa)).e]++la TR.cells (l.drop (i+1)):=by rw[D,Na,ri,J',J_];rfl
    exact OZ
   rw[R' he] at D;have z:=J.back (l:=i) Z' y;rw[show(la TR.cells l).drop (i*4)=la TR.cells (l.drop i) from Ai TR.len l i] at z;have o2:=Pa TR.one (l.drop i);refine pW ?_;(unhygienic intros)
   have R:=Q.bl;obtain⟨v39,v38,v37,v36,v35,v34,v33,v32,v31,v30,v29,v28,_⟩:=a;replace I:=Q.hp;refine Be ?_;clear Q;refine gT ?_
   (first|refine sv (yi rfl rfl (by first|rfl|assumption|decide)) ?_|refine sv (ti rfl rfl (by first|assumption|decide)) ?_)
   refine ea ?_;refine qh 8 I ?_;refine ub ?_;refine dC (λ_ hj=>o _) ?_;refine ub ?_;refine Nw [_,_,_,_] ?_;refine xa ?_;intro f W Q a;have hb_8:=Q.bl;obtain⟨B,v68,v67,v66,v65,v64,v63,v62,_⟩:=a;obtain⟨E,P,g,f69⟩:Rows _ _ _ (f 7) W:=B;replace I:=Q.hp;refine Be ?_;clear g Q;refine T2 ?_;intro u T w70 I;simp only[l'] at I;refine ea ?_;refine Jb rfl rfl V' (Bg Qa.out pa.size rfl rfl (l:=i) Z' Z' Z') ?_;refine pb I (i:=0) rfl rfl rfl (z.ext I.below) Qa.out pa.out rfl V' ?one13 Z' Z' V' ?kk13
   case one13=>first|rfl|assumption|exact Ja _|exact oneCells_u8s _
   intro F c75 w75 I;simp only[l'] at I;refine ea ?_;have b:(di l x).length=0+i+1+(n-i):=by rw[D,D',V_,q',Q9];omega
   exact aeH
 obtain rfl:i=n:=Z';have D:=ES (x:=x) (l:=l) (by rwa[G' Z'] at X);rw[show l++[⟨x.m,nR x.c.fa⟩]=l.take i++⟨x.m,nR x.c.fa⟩::l.drop i by rw[G' Z',T8 Z']] at D;have N:=J.front (m:=i) Z';rw[show(la TR.cells l).take (i*4)=la TR.cells (l.take i) from wi TR.len l i] at N;have o1:=Pa TR.one (l.take i);have z:=J.back (l:=i) Z' y;rw[show(la TR.cells l).drop (i*4)=la TR.cells (l.drop i) from Ai TR.len l i] at z;have o2:=Pa TR.one (l.drop i);refine ea ?_;refine qh 12 I ?_;refine ub ?_;refine dn ?_;intro W I;refine ea ?_;refine du ?_;intro G w23 I;refine ea ?_;refine sv (cj (h:=i) Qa.out pa.size rfl rfl Z' Z') ?_;refine pb I (i:=0) rfl rfl rfl (N.ext I.below) Qa.out pa.out rfl V' ?one14 Z' Z' V' ?kk14
 case one14=>first|rfl|assumption|exact Ja _|exact oneCells_u8s _
 intro q M w27 I;simp only[l'] at I;refine ea ?_;refine qh 12 I ?_;refine ub ?_;refine dn ?_;intro W I;refine ea ?_;refine qh 8 I ?_;refine ub ?_;refine dC (λ_ hj=>o _) ?_;refine ub ?_;refine Nw [_,_,_,_] ?_;refine xa ?_;intro f W Q a;obtain⟨B,v68,v67,v66,v65,v64,v63,v62,_⟩:=a;obtain⟨E,P,g,f69⟩:Rows _ _ _ (f 7) W:=B;replace I:=Q.hp;refine Be ?_;clear g Q;refine T2 ?_;intro u T w70 I;simp only[l'] at I;refine ea ?_;refine Jb rfl rfl V' (Bg Qa.out pa.size rfl rfl (l:=i) Z' Z' Z') ?_;refine pb I (i:=0) rfl rfl rfl (z.ext I.below) Qa.out pa.out rfl V' ?one15 Z' Z' V' ?kk15
 case one15=>first|rfl|assumption|exact Ja _|exact oneCells_u8s _
 intro F c75 w75 I;simp only[l'] at I;refine ea ?_;have b:(di l x).length=0+i+1+(i-i):=by rw[D,D',V_,q',Q9];omega
 exact aeH
def QB{l:List TR}(W:Gh k l)(u:k+l.length<=3999980):Gh (k+l.length) (vi l):=λt S=>by
 have h:=TG l (λt S=>(W t S).2) t S;exact⟨by rw[VI l t S];exact h.ok Z',h⟩
def Tg(v:Int)(A)(n c:Nat)(l)(k:Nat)(w)(J:Sl w A n 4 (la TR.cells l))(hn:n<=100000)(W:Gh k l)(hk:k+n<=3999980):Calls prog 160 #[.int .i64 v,.slice A n c] w λr V=>∃g:PX,se (Qf l) v (oa l) g/\r=.returned (.tuple #[g.V,.int .i64 (Qf l)])/\Hp w [g.row] V:=by
 have I:=Hp.start w;have P:=J.Aa TR.len V';refine Ga func160 ?_;refine Gb ?_;intro D w4 I;replace I:=I.yb 72 4;refine Jh 6 7 (λa x V=>∃(i:Nat)(T:Option Addr)(c':Nat),i<=n/\x=.int .i64 i/\a=.slice T (vi (l.take i)).length c'/\Hp w [.row T (vi (l.take i)).length c' 72 4 (la TR.cells (vi (l.take i))),.blk D 24 [.int .i64 0,.slice none 0 0] (0,0)] V) (λ_ x _=>n-(intOf x).toNat) ?_ ?_
 .exact⟨0,none,0,N' _,rfl,rfl,I⟩
 clear I;rintro ρ' a_ x_ V ⟨i,T,c',hi,rfl,rfl,I⟩;have e:=GB (l.take i);rw[q'] at e;by_cases R:i<n
 .obtain⟨x,C⟩:=aa (l:=l) (k:=i) Z';obtain⟨ad,rfl,hr⟩:=J.at_ Z';have M:=QB (l:=l.take i) (k:=k) (λt S=>W t (Z8 S)) (by rw[q'];omega);refine MM ?_;refine Hi (fK T (vi (l.take i)).length c' (vi (l.take i)) x _ (I.ka (i:=0) rfl) (I.Ae (i:=0) rfl) Z' (λt S=>(M t S).1) (W x (O' C)).1) rfl ?_;rintro e_ w21 ⟨u,Y,rfl,y⟩;refine⟨_,rfl, ?_⟩;replace I:=I.join y;simp only[I',J'] at I;rw[<-ni,<-ja C] at I |-;refine ea ?_;replace I:=I.sub (P' _ (L' _ (P' _ j')));refine⟨⟨i+1,u,Y,Z',rfl,rfl,I⟩,by show n-(i+1)<n-i;omega, ?_⟩;exact Sb
 obtain rfl:i=n:=Z';rw[G' Z'] at I e |-;have M:=QB W Z';have p:oa l=(vi l).filter Gq:=rfl;unfold Qf;rw[p];generalize vi l=G at*;obtain⟨m,hm⟩:∃m,m=G.length:=⟨_,rfl⟩;rw[<-hm] at I |-;refine ea ?_;replace I:=I.yb 72 4;refine Jh 8 9 (λa x V=>∃(j:Nat)(B:Option Addr)(d:Nat),j<=m/\x=.int .i64 j/\a=.slice B ((G.take j).filter Gq).length d/\Hp w [.row B ((G.take j).filter Gq).length d 72 4 (la TR.cells ((G.take j).filter Gq)),.row T m c' 72 4 (la TR.cells G),.blk D 24 [.int .i64 0,.slice none 0 0] (0,0)] V) (λ_ x _=>m-(intOf x).toNat) ?_ ?_
 .exact⟨0,none,0,N' _,rfl,rfl,I⟩
 clear I;rintro ρ2 a2 x2 w2 ⟨j,B,d,hj,rfl,rfl,I⟩;have K:((G.take j).filter Gq).length<=j:=p' (a6 _ _) (by rw[q'];omega);by_cases H:j<m
 .obtain⟨t,S⟩:=aa (l:=G) (k:=j) Z';have q:=M t (O' S);have z:=λZ=>Hc t.c Z (by have:=q.1.1;omega);have b:t.c.i.sign=0↔t.c.fa=0:=(by exact tY);obtain⟨g0,rfl⟩:=I.ib (i:=1) rfl Z';by_cases o:t.c.fa=0
  .have hs:=b.2 o;have L:(G.take (j+1)).filter Gq=(G.take j).filter Gq:=(by rw[ja S,K7,List.filter_cons,R' (by unfold Gq;rw[w' o];decide)];simp);refine aan ?_;intro Q I;refine⟨⟨j+1,B,d,Z',rfl,by rw[L];rfl,by rw[L];exact I⟩,by show m-(j+1)<m-j;omega, ?_⟩;exact Sb
  have hs:¬t.c.i.sign=0:=λh=>o (b.1 h);have L:(G.take (j+1)).filter Gq=(G.take j).filter Gq++[t]:=(by rw[ja S,K7,List.filter_cons,Q' (by unfold Gq;rw[m' o];rfl)];simp);refine aan ?_;intro Q I;refine sv (Ua (vs:=[_,_,_,_]) pa.out rfl (I.Wc (f:=TR.cells) (x:=t) (l:=G) (i:=1) rfl TR.len V' S) rfl) ?_;refine LB ?_;intro X w40 I;refine Yl ?_;intro E N w41 I;refine jB ?_;intro I;refine⟨⟨j+1,E,N,Z',rfl,by rw[L,D'];rfl,by rw[L,D',Na,Tj];exact I⟩,by show m-(j+1)<m-j;omega, ?_⟩;exact Sb
 obtain rfl:j=m:=Z';rw[G' Z'] at I K |-;generalize G.filter Gq=F at*;by_cases s:4096<F.length
 .rw[Q' s];refine rS ?_;intro ws I;exact dZ
 rw[R' s];refine rS ?_;intro ws I;exact⟨⟨v,B,F.length,d,F⟩,⟨rfl,rfl⟩,rfl,I.sub (P' _ (N_ _))⟩
def Lp(g:PX)(k:Nat)(w)(h:g.at_ w)(Q:g.qf k):Zc 100 #[g.V] w (.int .i64 g.e):=
 bB g.v g.A g.n g.c g.ts w h Q.n λt S=>⟨(Q.ok t S).1,Q.sz t S⟩
def Ct(L)(n c:Nat)(a)(k:Nat)(w)(b:Sl w L n 2 (la PX.cells a))(hn:n<=1000000)(Y:∀g∈a,g.at_ w)(q:∀g∈a,g.qf k):Zc 178 #[.slice L n c] w (.int .i64 (Te a)):=by
 have I:=Hp.start w;have r:=b.Aa PX.len V';refine Ga func178 ?_;refine ea ?_;refine rf 3 (λv V=>∃i:Nat,i<=n/\v=.int .i64 i/\(a.take i).any (λg=>decide (g.e≠0))=false/\Hp w [] V) (λv _=>n-(intOf v).toNat) ?_ ?_
 .exact⟨0,N' _,rfl,rfl,I⟩
 clear I;rintro ρ' v V ⟨i,hi,rfl,X,I⟩;by_cases D:i<n
 .obtain⟨g,C⟩:=aa (l:=a) (k:=i) Z';have M:=O' C;have E:=λZ F=>Lp g k Z ((Y g M).ext F) (q g M);obtain⟨o,rfl,H⟩:=b.at_ Z';by_cases he:g.e=0
  .refine LM ?_;refine cd I (E _ I.below) ?_;intro m I;refine ea ?_;exact kS
  refine LM ?_;refine cd I (E _ I.below) ?_;intro m I;refine ea ?_;refine⟨?_,I.below⟩;unfold Te;rw[Pm X C (w' he)]
 rw[G' Z'] at X;have d:Te a=if a.length=0\/Pw a=true then 1 else 0:=by unfold Te;rw[Sg X]
 rw[d];refine ea ?_;refine rf 5 (λv V=>∃i:Nat,i<=n/\v=.int .i64 i/\(a.take i).any (λg=>decide (g.v≠(a.map PX.v).headD 0))=false/\Hp w [] V) (λv _=>n-(intOf v).toNat) ?_ ?_
 .exact⟨0,N' _,rfl,rfl,I⟩
 clear I;rintro S v w2 ⟨j,hj,rfl,X,I⟩;by_cases x:j<n
 .obtain⟨go,C⟩:=aa (l:=a) (k:=j) Z';obtain⟨R,N⟩:=aa (l:=a) (k:=0) Z';obtain⟨o,rfl,H⟩:=b.at_ Z';have t:(a.map PX.v).headD 0=R.v:=by
   obtain _|⟨g,l⟩:=a
   .cases N
   have:g=R:=by simpa using N
   rw[<-this];rfl
  by_cases ho:go.v=R.v
  .refine aaY ?_;refine xa ?_;intro f W Q p;have P:=Q.bl;obtain⟨K,J,G,B,v30,y,u,s,z,_⟩:=p;refine J2 ?_;intro I;exact Sb
  refine aaY ?_;refine dn ?_;intro W I;refine ea ?_;exact⟨by rw[Q' (.inr (E9.2 ⟨go,O' C,w' Z'⟩))],I.below⟩
 rw[G' Z'] at X;have A:Pw a=false:=X;by_cases T:n=0
 .exact hU
 refine ea ?_;refine⟨?_,I.below⟩;rw[R'];rintro (h|h)
 .omega
 rw[A] at h
 cases h
def uB(p q:PX)(k k2:Nat)(w:World)(hp:p.at_ w)(hq:q.at_ w)(lp:p.qf k)(lq:q.qf k2)(hk:k+k2<=900000):Calls prog 245 #[.agg #[.int .i64 p.v,.slice p.A p.n p.c],.agg #[.int .i64 q.v,.slice q.A q.n q.c]] w λr V=>∃g:PX,se (Ce p.ts q.ts) p.v (oa (Cb p.ts q.ts)) g/\r=.returned (.tuple #[.agg #[.int .i64 g.v,.slice g.A g.n g.c],.int .i64 (Ce p.ts q.ts)])/\Hp w [g.row] V:=by
 have I:=Hp.start w;obtain⟨pv,pA,E,pc,X⟩:=p;obtain⟨qv,qA,J,qc,Q⟩:=q;have H:X.length=E:=hp.ln;have L:Q.length=J:=hq.ln;have hpn:E<=1000000:=lp.n;have hqn:J<=1000000:=lq.n;have okp:Gh k X:=lp.ok;have okq:Gh k2 Q:=lq.ok;have szp:∀t∈X,t.m.size<=100000:=lp.sz;have szq:∀t∈Q,t.m.size<=100000:=lq.sz;replace hp:Sl w pA E 4 (la TR.cells X):=hp;replace hq:Sl w qA J 4 (la TR.cells Q):=hq;clear lp lq;show Calls _ _ _ _ λr V=>∃g:PX,se (Ce X Q) pv (oa (Cb X Q)) g/\r=.returned (.tuple #[.agg #[.int .i64 g.v,.slice g.A g.n g.c],.int .i64 (Ce X Q)])/\Hp w [g.row] V;have hmm:E*J<=1000000*1000000:=O9 hpn hqn;obtain⟨m,hm⟩:∃m,m=E*J:=⟨_,rfl⟩;have hmi:(E:Int)*(J:Int)=(m:Int):=by rw[hm];exact(m_ _ _).symm
 by_cases h6:65536<m
 .rw[EG (by rw[H,L,<-hm];exact h6)];refine Ga (l:=[.agg #[.int .i64 pv,.slice pA E pc],.agg #[.int .i64 qv,.slice qA J qc]]) func245 ?_;refine Kx ?_;intro b2 w2 I b3 w3 I b4 w4 I ws I;exact M0
 have P:¬65536<X.length*Q.length:=by rw[H,L,<-hm];exact h6
 refine Ga (l:=[.agg #[.int .i64 pv,.slice pA E pc],.agg #[.int .i64 qv,.slice qA J qc]]) func245 ?_;refine Ii ?_;intro b2 w2 I b3 w3 I b4 w4 I;replace I:=I.yb 72 4;have o:∀i,((X.take i).flatMap λx=>Q.map (yp x)).length<=65536:=λi=>(by exact adP);refine Jh 6 7 (λa x V=>∃(i:Nat)(M:List TR)(T:Option Addr)(c':Nat),i<=E/\x=.int .i64 i/\a=.slice T M.length c'/\M=((X.take i).flatMap λx=>Q.map (yp x))/\(∀e∈((X.take i).flatMap λx=>Q.map λy=>Gl x.m y.m),e=0)/\Hp w [.row T M.length c' 72 4 (la TR.cells M),.blk b4 24 [.int .i64 0,.slice none 0 0] (0,0),.blk b3 24 [.int .i64 qv,.slice qA J qc] (0,0),.blk b2 24 [.int .i64 pv,.slice pA E pc] (0,0)] V) (λ_ x _=>E-(intOf x).toNat) ?_ ?_
 .exact⟨0,[],none,0,N' _,rfl,rfl,rfl,λe he=>(nomatch he),I⟩
 clear I;rintro ρ' a_ x_ V ⟨i,M,T,c',hi,rfl,rfl,D,hz,I⟩;have hMl:=o i;rw[<-D] at hMl;by_cases hlt:i<E
 .obtain⟨x,C⟩:=aa (l:=X) (k:=i) Z';obtain⟨ad,rfl,hr⟩:=hp.at_ Z';have S:=O' C;have u:=okp x S;have hxs:=szp x S;refine ea ?_;refine Jh 6 8 (λa z V=>∃(j:Nat)(N:List TR)(T:Option Addr)(c':Nat),j<=J/\z=.int .i64 j/\a=.slice T N.length c'/\N=M++(Q.take j).map (yp x)/\(∀e∈(Q.take j).map (λy=>Gl x.m y.m),e=0)/\Hp w [.row T N.length c' 72 4 (la TR.cells N),.blk b4 24 [.int .i64 0,.slice none 0 0] (0,0),.blk b3 24 [.int .i64 qv,.slice qA J qc] (0,0),.blk b2 24 [.int .i64 pv,.slice (some ad) E pc] (0,0)] V) (λ_ z _=>J-(intOf z).toNat) ?_ ?_
  .exact⟨0,M,T,c',N' _,rfl,rfl,by simp,λe he=>(nomatch he),I⟩
  clear I;rintro ρ2 a2 x2 w2 ⟨j,N,A2,c2,hj,rfl,rfl,hN,b,I⟩;by_cases hjn:j<J
  .obtain⟨y,hy⟩:=aa (l:=Q) (k:=j) Z';obtain⟨ad2,rfl,G⟩:=hq.at_ Z';have Y:=O' hy;have s:=okq y Y;have hys:=szq y Y;have hmul:∀Z,Zc 284 #[.string x.m,.string y.m] Z (.tuple #[.string (mulM x.m y.m),.int .i64 (Gl x.m y.m)]):=λZ=>qJ x.m y.m Z hxs hys;have htm:=λZ=>Ln x.c y.c Z (by have:=u.1.1;omega) (by have:=s.1.1;omega) (by have:=u.1.2.1;omega) (by have:=u.1.2.2;omega) (by have:=s.1.2.1;omega) (by have:=s.1.2.2;omega);refine aae ?_;intro R hR hzz;have hNl:N.length<65536:=(by have h1:=o (i+1);rw[Rm C,D',<-D] at h1;rw[hN,D'];simp at h1 |-;omega);by_cases he:Gl x.m y.m=0
   .refine yZ ?_;refine xa ?_;intro f W B hV;have hb_10:=B.bl;obtain⟨v9,v49,v48,v34,v47,v46,v45,v44,v43,v42,v41,v40,v39,v38,v37,v36,v35,_⟩:=hV;replace I:=B.hp;refine Be ?_;clear B;refine ea ?_;refine qh 17 I ?_;refine ub ?_;refine Wi (i) ?_;refine px ?_;refine fk [_,_,_] (λ_ hj=>((hr.ext hj.hp.below).recAt TR.len C).drop 1) ?_;refine ub ?_;refine Wi (j) ?_;refine px ?_;refine fk [_,_,_] (λ_ hj=>((G.ext hj.hp.below).recAt TR.len hy).drop 1) ?_;refine dC (λ_ hj=>htm _) ?_;refine ub ?_;refine Nw [_,_,_,_] ?_;refine xa ?_;intro f W B hV;obtain⟨v70,v69,v68,v67,v66,v65,v64,v63,v62,v61,v60,v59,v58,v57,v56,v55,v54,_⟩:=hV;obtain⟨A70,c70,e70,f70⟩:Rows _ _ _ (f 16) W:=v70;replace I:=B.hp;refine Be ?_;clear e70 B;refine pb I (i:=0) rfl rfl rfl (f70) Qa.out pa.out rfl V' (by first|rfl|exact kc _|exact Mb _|exact Ja _|exact Pa NR.one _) Z' Z' V' ?_;intro A71 c71 w71 I;simp only[l'] at I;refine ea ?_
    have e1:la TR.cells N++[.string (mulM x.m y.m),.bool (nR (x.c.fa*y.c.fa)).neg,.string (nR (x.c.fa*y.c.fa)).Ra,.int .i64 (nR (x.c.fa*y.c.fa)).e]=la TR.cells (N++[yp x y]):=by rw[Na,Tj];rfl
    rw[e1] at I;exact kZ
   rw[kM P hR hzz he];generalize Gl x.m y.m=e at*;refine yZ ?_;refine dn ?_;intro W I;refine Gb ?_;refine abo ?_;intro ws I;exact YW
  obtain rfl:j=J:=Z';rw[G' Z'] at b hN;refine ea ?_;refine⟨⟨i+1,N,A2,c2,Z',rfl,rfl,by rw[Rm C,<-D,G' Z'];exact hN,λe h=> ?_,I⟩,by show E-(i+1)<E-i;omega, ?_⟩
  .exact aeX
  exact Sb
 obtain rfl:i=E:=Z';rw[G' Z'] at hz D;have F:M=Cb X Q:=D;rw[vy P hz,<-F];have K:=Tp okp okq Z';rw[<-F] at K;refine ea ?_;refine Hi (Tg pv T M.length c' M (k+k2) _ (I.ka (i:=0) rfl) Z' K Z') rfl ?_;rintro e_ w75 ⟨g,og,rfl,h3⟩;refine⟨_,rfl, ?_⟩;refine ET ?_;intro I;refine Gb ?_;refine qX ?_;intro ws I;exact Fu
def Sd(v:Int):ByteArray:=⟨(List.replicate v.toNat 0).toArray⟩
def sn{v:Int}(h:0<=v):((Sd v).size:Int)=v:=by
 have:(Sd v).size=v.toNat:=by unfold Sd;show(List.replicate v.toNat (0:UInt8)).toArray.size=_;rw[B7,M9]
 omega
def mv(v:Int):Le (Sd v).data.toList=true:=by
 unfold Le Sd;rw[M_];intro c E;have:(⟨(List.replicate v.toNat (0:UInt8)).toArray⟩:ByteArray).data.toList=List.replicate v.toNat 0:=rfl;rw[this] at E;rw[(List.mem_replicate.1 E).2];decide
def qz{l:List TR}(h:l.length<=4096):Qf l=0:=by
 unfold Qf;have:=Zb l;rw[R' Z']
def eG{v:Int}{t:TR}(Y:gh v=true)(h:yf v t=true):Fl v [t]=0:=by
 unfold Fl;rw[R' (by rw[Y];simp[h]),R' (by simp),qz (by simp)]
def Er(v:Int):Int:=if gh v=false then 1 else 0
def An(v:Int)(c:NR)(k:Nat)(w)(hT:Nd w)(hc:c.ok/\Sz k c.fa)(hk:k<=2999980):Calls prog 68 #[.int .i64 v,c.V] w λr V=>∃g:PX,se (Er v) v (oa [⟨Sd v,c⟩]) g/\r=.returned (.tuple #[g.V,.int .i64 (Er v)])/\Hp w [g.row] V:=by
 have I:=Hp.start w;have u:=λZ=>pq v Z
 cases Y:gh v with
 |false=>
  rw[Y] at u;rw[show Er v=1 by unfold Er;rw[Q' Y]];refine Ga func68 ?_;refine Ib ?_;intro B w3 I D w4 I;refine cd I (u _) ?_;intro w7 I;refine gJ ?_;intro ws I;exact dZ
 |true=>
  rw[Y] at u;obtain⟨x,R⟩:=Yc.1 Y;have hm:Fl v [⟨Sd v,c⟩]=0:=eG Y (by unfold yf;rw[mv,w' (sn x)];rfl);have C:=λA G Z P N=>Yv v A 1 G [⟨Sd v,c⟩] k Z P N V' Z' (λt S=>by rw[k'.1 S];exact hc) (λt S=>by rw[k'.1 S];have:=sn x;show(Sd v).size<=_;omega);rw[hm] at C;rw[show Er v=0 by unfold Er;rw[R' (by rw[Y];decide)]];refine Ga func68 ?_;refine Ib ?_;intro B w3 I D w4 I;refine cd I (u _) ?_;intro w7 I;refine ea ?_;refine wh [] [0,0,2,6,0,30,62,127,255,255,1023,2047] 7 [[(0,none)],[(0,none)],[(11,some 1)],[(12,some 2)],[(3,none)],[(13,some 3),(14,some 4)],[(15,some 5)]] [(6,16),(5,15),(4,14),(3,13),(2,12),(1,11),(0,10)] [([],4,[(6,16),(5,15),(4,14),(3,13),(2,12),(1,11),(0,10)])] I mixed U' U' V' ?_;refine Gv ?_;refine Gv ?_;refine ua (i:=2) (rj v.toNat 1 (jj (List.replicate v.toNat 0))) (rj.ext) ?_ ?_
  .intro U Z hj hR;exact Tr v.toNat ▸ XN (n:=v.toNat) (show U 11=Value.int _ _ from hR.1) (show U 11=Value.int _ _ from hR.1) Z' Z' Qa.out pa.out rfl Z' Z' (λ_ _ h1 h2=>⟨h2,h1⟩)
  refine ua (i:=3) (Is (.string (Sd v))) (Is.ext) ?_ ?_
  .intro U Z hj hR;obtain⟨s,X,L⟩:=hR.1;exact aeg
  refine Ee 1 [_,_,_] ?_;refine ZN ?_;intro p_ z;obtain rfl:=z
  intro f W Q hV;have F:=Q.bl;obtain⟨p,j,K,b,h,v11,v10,_⟩:=hV;simp only[Yf];have M:f 0=_:=v10;rw[M];have H:f 1=_:=v11;rw[H];obtain⟨s,X,L⟩:rj v.toNat 1 (jj (List.replicate v.toNat 0)) (f 2) W:=h;rw[X];have J:f 3=_:=b;rw[J];have a:f 4=_:=K;rw[a];have q:f 5=_:=j;rw[q];obtain⟨y,E,m,f16⟩:Rows _ _ _ (f 6) W:=p;rw[m];replace I:=Q.hp;refine Lc (C _ _ _ (hT.hp I) f16) fi rfl V' ?_;rintro e_ w17 ⟨g,og,rfl,T⟩;refine⟨_,rfl, ?_⟩;replace I:=I.join T;refine Bd ?_;exact y3
def yk(v:Int)(x:Nat):ByteArray:=⟨((List.replicate v.toNat (0:UInt8)).set x 1).toArray⟩
def lv{v:Int}{x:Nat}(h:0<=v):((yk v x).size:Int)=v:=by
 have:(yk v x).size=v.toNat:=by unfold yk;show((List.replicate v.toNat (0:UInt8)).set x 1).toArray.size=_;rw[B7,I9,M9]
 omega
def MF(v:Int)(x:Nat):Le (yk v x).data.toList=true:=by
 unfold Le;rw[M_];intro c E;have:(yk v x).data.toList=(List.replicate v.toNat 0).set x 1:=rfl;rw[this] at E;obtain h|rfl:=Z5 E
 .rw[(List.mem_replicate.1 h).2];decide
 decide
def dP{l:List UInt8}{i:Nat}{c:UInt8}(h:i<l.length):xb (jj l) (i*1) [.int .u8 c.toNat]=jj (l.set i c):=by
 unfold xb jj;rw[W_,J6,Q' h,q_,T_,List.map_take,z7,J_];rfl
def mm(v x:Int):Int:=if gh v=false\/x<0\/v<=x then 1 else 0
def TK(v x:Int)(w)(L:Nd w):Calls prog 233 #[.int .i64 v,.int .i64 x] w λr V=>∃g:PX,se (mm v x) v (oa [⟨yk v x.toNat,nR ((1:Int):Dyadic)⟩]) g/\r=.returned (.tuple #[g.V,.int .i64 (mm v x)])/\Hp w [g.row] V:=by
 have I:=Hp.start w;have u:=λZ=>pq v Z
 cases Y:gh v with
 |false=>
  rw[Y] at u;rw[show mm v x=1 by unfold mm;rw[Q' (.inl Y)]];exact QT
 |true=>
  rw[Y] at u;obtain⟨G,h12⟩:=Yc.1 Y;by_cases a:x<0
  .rw[show mm v x=1 by unfold mm;rw[Q' (.inr (.inl a))]];exact QT
  by_cases F:v<=x
  .rw[show mm v x=1 by unfold mm;rw[Q' (.inr (.inr F))]];exact QT
  rw[show mm v x=0 by unfold mm;rw[R' (by rintro (h|h|h);exact absurd (Y.symm.trans h) V';omega;omega)]];have hm:Fl v [⟨yk v x.toNat,nR ((1:Int):Dyadic)⟩]=0:=eG Y (by unfold yf;rw[MF,w' (lv G)];rfl);have X:Sz 24 ((1:Int):Dyadic):=ac2 (m:=1) (e:=0) V' V' V';have C:=λA cc Z P N=>Yv v A 1 cc [⟨yk v x.toNat,nR ((1:Int):Dyadic)⟩] 24 Z P N V' Z' (λt S=>by rw[k'.1 S];exact⟨X.ok V',by show Sz 24 (nR _).fa;rw[Ta];exact X⟩) (λt S=>by rw[k'.1 S];have:=lv (x:=x.toNat) G;show(yk v x.toNat).size<=_;omega);rw[hm] at C;refine EZ ?_;intro D B I E I;refine ea ?_;refine Jf (n:=(v.toNat)) I rfl rfl Z' Z' Qa.out pa.out rfl Z' Z' V' ?_;intro b21 w21 I;refine adH ?_;intro o ws I;refine wh [] [0,0,2,0,14,30,63,127,127,511,1023] 6 [[(0,none)],[(6,none)],[(26,some 1)],[],[(27,some 2),(28,some 3)],[(29,some 4)]] [(5,30),(4,29),(3,28),(2,27),(1,26),(0,25)] [([],4,[(5,30),(4,29),(3,28),(2,27),(1,26),(0,25)])] I mixed U' U' V' ?_;refine Gv ?_;refine OA ?_
  refine ua (i:=2) (Is (.string ⟨(((List.replicate v.toNat 0).set x.toNat 1)).toArray⟩)) Is.ext ?_ ?_
  .intro U Z hj hR;exact ic rfl (Pe (l:=((List.replicate v.toNat 0).set x.toNat 1)) Qa.out Qa.out Qa.out (show U 26=Value.slice _ _ _ from hR.1) (hj.hp.ka (i:=0) rfl)) ⟨Below.refl _ _,rfl⟩
  refine dC (λ_ hj=>Sm 1 _ (L.hp hj.hp) V' V') ?_;refine ZN ?_;intro p_ z;obtain rfl:=z
  intro f W Q hV;have M:=Q.bl;obtain⟨v30,y,H,s,b,K,_⟩:=hV;simp only[Yf];have T:f 0=_:=K;rw[T];have p:f 1=_:=b;rw[p];have j:f 2=_:=s;rw[j];have R:f 3=_:=H;rw[R];have J:f 4=_:=y;rw[J];obtain⟨A30,c30,q,f30⟩:Rows _ _ _ (f 5) W:=v30;rw[q];replace I:=Q.hp;refine Lc (C _ _ _ (L.hp I) f30) fi rfl V' ?_;rintro e_ w31 ⟨g,og,rfl,h3⟩;refine⟨_,rfl, ?_⟩;replace I:=I.join h3;refine Bd ?_;exact X1
def lE(v:Int)(A)(n c:Nat)(l)(k:Nat)(w)(J:Sl w A n 4 (la TR.cells l))(B:n<=100000)(W:Gh k l)(u:k+n<=3999980)(o:∀t∈l,t.m.size<=100000):Calls prog 93 #[.int .i64 v,.slice A n c] w λr V=>∃g:PX,se (Fl v l) v (oa l) g/\r=.returned (.tuple #[g.V,.int .i64 (Fl v l)])/\Hp w [g.row] V:=by
 have I:=Hp.start w;have a:=J.Aa TR.len V'
 cases Y:gh v with
 |false=>
  have e:¬(0<=v/\v<=12):=λh=>by rw[Yc.2 h] at Y;cases Y
  rw[show Fl v l=1 by unfold Fl;rw[Q' (.inl Y)]];by_cases z:v<0
  .refine Ga func93 ?_;refine acr ?_;intro D y I ws I;exact dZ
  refine Ga func93 ?_;refine acr ?_;intro D y I ws I;exact dZ
 |true=>
  obtain⟨M,s⟩:=Yc.1 Y;refine Ga func93 ?_;refine Gb ?_;intro D y I;refine rf 6 (λx V=>∃i:Nat,i<=n/\x=.int .i64 i/\(l.take i).any (λt=> !yf v t)=false/\Hp w [.blk D 24 [.int .i64 0,.slice none 0 0] (0,0)] V) (λx _=>n-(intOf x).toNat) ?_ ?_
  .exact⟨0,N' _,rfl,rfl,I⟩
  clear I;rintro ρ' Q V ⟨i,hi,rfl,X,I⟩;by_cases b:i<n
  .obtain⟨x,C⟩:=aa (l:=l) (k:=i) Z';obtain⟨p,rfl,H⟩:=J.at_ Z';have d:=o x (O' C);have K:∀Z,Zc 159 #[.string x.m,.int .i64 v] Z (.bool (yf v x)):=λZ=>Mn x.m v Z Z'
   cases hm:yf v x with
   |false=>
    rw[hm] at K;rw[show Fl v l=1 by unfold Fl;rw[Q' (.inr (E9.2 ⟨x,O' C,by rw[hm];rfl⟩))]];refine JB ?_;refine mI ?_;refine cd I (K _) ?_;intro T I;refine gJ ?_;intro ws I;exact dZ
   |true=>
    rw[hm] at K;refine JB ?_;refine mI ?_;refine cd I (K _) ?_;intro T I;refine ea ?_;refine⟨⟨i+1,Z',rfl,by rw[ja C,S8,X,Q8,M8,hm];rfl,I⟩,by show n-(i+1)<n-i;omega, ?_⟩;exact Sb
  rw[G' Z'] at X;have N:Fl v l=if 65536<l.length then 3 else Qf l:=by unfold Fl;rw[R' (by rw[Y,X];decide)]
  by_cases L:65536<n
  .rw[N,Q' Z'];refine gJ ?_;intro ws I;exact dZ
  rw[N,R' Z'];refine ea ?_;refine Vg (Tg v A n c l k _ (J.ext I.below) B W u) ?_;rintro q j ⟨g,f,rfl,G⟩;refine rn9 ?_;intro I;refine GU ?_;intro ws I;exact⟨g,f,rfl,I.sub (P' _ (N_ _))⟩
def ur(v:Int)(c:NR)(k:Nat)(w)(hc:c.ok/\Sz k c.fa)(hk:k<=2999980):Calls prog 179 #[.int .i64 v,c.V] w λr V=>∃g:PX,se (Er v) v (oa [⟨Sd v,c⟩]) g/\r=.returned (.tuple #[g.V,.int .i64 (Er v)])/\Hp w [g.row] V:=by
 have I:=Hp.start w
 cases Y:gh v with
 |false=>
  have hbv:¬(0<=v/\v<=12):=λh=>by rw[Yc.2 h] at Y;cases Y
  rw[show Er v=1 by unfold Er;rw[Q' Y]];by_cases h0:v<0
  .refine Ga func179 ?_;refine Ii ?_;intro x B I D H I ws I;exact M0
  refine Ga func179 ?_;refine Ii ?_;intro x B I D H I ws I;exact M0
 |true=>
  obtain⟨h0,h12⟩:=Yc.1 Y;have y:=λA T Z N=>Tg v A 1 T [⟨Sd v,c⟩] k Z N V' (λt ht=>by rw[k'.1 ht];exact hc) Z';rw[qz (by simp)] at y;rw[show Er v=0 by unfold Er;rw[R' (by rw[Y];decide)]];generalize oa [⟨Sd v,c⟩]=G at*;refine Ga func179 ?_;refine Ib ?_;intro x B I D H I;refine wh [] [0,0,2,6,0,30,62,127,255,255,1023,2047] 7 [[(0,none)],[(0,none)],[(14,some 1)],[(15,some 2)],[(3,none)],[(16,some 3),(17,some 4)],[(18,some 5)]] [(6,19),(5,18),(4,17),(3,16),(2,15),(1,14),(0,13)] [([],4,[(6,19),(5,18),(4,17),(3,16),(2,15),(1,14),(0,13)])] I mixed U' U' V' ?_;refine Gv ?_;refine Gv ?_;refine ua (i:=2) (rj v.toNat 1 (jj (List.replicate v.toNat 0))) (rj.ext) ?_ ?_
  .intro U Z hj hR;exact Tr v.toNat ▸ XN (n:=v.toNat) (show U 14=Value.int _ _ from hR.1) (show U 14=Value.int _ _ from hR.1) Z' Z' Qa.out pa.out rfl Z' Z' (λ_ _ h1 h2=>⟨h2,h1⟩)
  refine ua (i:=3) (Is (.string (Sd v))) (Is.ext) ?_ ?_
  .intro U Z hj hR;obtain⟨L,q,P⟩:=hR.1;exact aeg
  refine Ee 1 [_,_,_] ?_;refine ZN ?_;intro p_ z;obtain rfl:=z
  intro f W Q hV;have F:=Q.bl;obtain⟨u,s,X,M,p,K,j,_⟩:=hV;simp only[Yf];have J:f 0=_:=j;rw[J];have a:f 1=_:=K;rw[a];obtain⟨L,q,P⟩:rj v.toNat 1 (jj (List.replicate v.toNat 0)) (f 2) W:=p;rw[q];have m:f 3=_:=M;rw[m];have b:f 4=_:=X;rw[b];have E:f 5=_:=s;rw[E];obtain⟨R,S,C,f19⟩:Rows _ _ _ (f 6) W:=u;rw[C];replace I:=Q.hp;refine Lc (y _ _ _ f19) fi rfl V' ?_;rintro e_ w20 ⟨g,og,rfl,h3⟩;refine⟨_,rfl, ?_⟩;replace I:=I.join h3;refine Bd ?_;exact y3
def WG(v x:Int)(w):Calls prog 180 #[.int .i64 v,.int .i64 x] w λr V=>∃g:PX,se (mm v x) v (oa [⟨yk v x.toNat,nR ((1:Int):Dyadic)⟩]) g/\r=.returned (.tuple #[g.V,.int .i64 (mm v x)])/\Hp w [g.row] V:=by
 have I:=Hp.start w;by_cases hv0:v<0
 .exact u1
 by_cases hv1:12<v
 .exact u1
 have Y:gh v=true:=Yc.2 ⟨Z',Z'⟩;by_cases S:x<0
 .rw[show mm v x=1 by unfold mm;rw[Q' (.inr (.inl S))]];exact uR
 by_cases F:v<=x
 .rw[show mm v x=1 by unfold mm;rw[Q' (.inr (.inr F))]];exact uR
 rw[show mm v x=0 by unfold mm;rw[R' (by rintro (h|h|h);exact absurd (Y.symm.trans h) V';omega;omega)]];have X:Sz 24 ((1:Int):Dyadic):=ac2 (m:=1) (e:=0) V' V' V';have E:=λA P Z N=>Tg v A 1 P [⟨yk v x.toNat,nR ((1:Int):Dyadic)⟩] 24 Z N V' (λt ht=>by rw[k'.1 ht];exact⟨X.ok V',by show Sz 24 (nR _).fa;rw[Ta];exact X⟩) Z';rw[qz (by simp)] at E;generalize oa [⟨yk v x.toNat,nR ((1:Int):Dyadic)⟩]=G at*;refine Ga func180 ?_;refine Gb ?_;intro D y I;refine Jf (n:=(v.toNat)) I rfl rfl Z' Z' Qa.out pa.out rfl Z' Z' V' ?_;intro L w24 I;refine adH ?_;intro o ws I;refine wh [] [0,0,2,0,14,30,63,127,127,511,1023] 6 [[(0,none)],[(6,none)],[(29,some 1)],[],[(30,some 2),(31,some 3)],[(32,some 4)]] [(5,33),(4,32),(3,31),(2,30),(1,29),(0,28)] [([],4,[(5,33),(4,32),(3,31),(2,30),(1,29),(0,28)])] I mixed U' U' V' ?_;refine Gv ?_;refine OA ?_;refine ua (i:=2) (Is (.string ⟨(((List.replicate v.toNat 0).set x.toNat 1)).toArray⟩)) Is.ext ?_ ?_
 .intro U Z hj hR;exact ic rfl (Pe (l:=((List.replicate v.toNat 0).set x.toNat 1)) Qa.out Qa.out Qa.out (show U 29=Value.slice _ _ _ from hR.1) (hj.hp.ka (i:=0) rfl)) ⟨Below.refl _ _,rfl⟩
 refine dC (λ_ hj=>Ov 1 _ V' V') ?_;refine ZN ?_;intro p_ z;obtain rfl:=z
 intro f W Q hV;have B:=Q.bl;obtain⟨C,u,s,v30,b,H,_⟩:=hV;simp only[Yf];have R:f 0=_:=H;rw[R];have J:f 1=_:=b;rw[J];have q:f 2=_:=v30;rw[q];have a:f 3=_:=s;rw[a];have p:f 4=_:=u;rw[p];obtain⟨K,M,j,f33⟩:Rows _ _ _ (f 5) W:=C;rw[j];replace I:=Q.hp;refine Lc (E _ _ _ f33) fi rfl V' ?_;rintro e_ w34 ⟨g,og,rfl,T⟩;refine⟨_,rfl, ?_⟩;replace I:=I.join T;refine Bd ?_;exact X1
def af3(p:PX)(n:Nat):List TR×Int:=(List.replicate n p).foldl Zj (oa [⟨Sd p.v,nR ((1:Int):Dyadic)⟩],0)
def ahf(p:PX)(n:Int):Int:=if p.e=0 then(if n<0\/127<n then 1 else(af3 p n.toNat).2) else p.e
def agW(X:List PX)(R:List HE)(g:PX):Prop:=(g∈X/\R=[])\/R=[g.row]
def jP(k:Nat)(l:List TR):Gj (k+1) l=Gj k l++[cw l k]:=by unfold Gj;rw[J8,q_];rfl
def rF(p:PX)(k:Nat)(w:World)(hp:p.at_ w)(f:p.qf k):Calls prog 99 #[.agg #[.int .i64 p.v,.slice p.A p.n p.c]] w λr V=>∃A c,r=.returned (.slice A (Pj p.v p.ts).length c)/\Hp w [.row A (Pj p.v p.ts).length c 3 1 (Fa (Pj p.v p.ts))] V:=by
 have I:=Hp.start w;have K:=λZ F=>Lp p k Z (hp.ext F) f;by_cases J:p.e=0
 .rw[show Pj p.v p.ts=Gj p.v.toNat p.ts from Q' J,zf];rw[J] at K;obtain⟨Y,h4,L,_⟩:=Kb J;have s:p.ts.length=p.n:=hp.ln;obtain⟨pv,o,E,B,ts⟩:=p;replace Y:=Yc.1 Y;replace L:∀t∈ts,yf pv t=true:=L;replace hp:Sl w o E 4 (la TR.cells ts):=hp;have b:=f.n;replace b:E<=1000000:=b;replace s:ts.length=E:=s;obtain⟨m,rfl⟩:∃m:Nat,pv=(m:Int):=⟨pv.toNat,by show pv=_;have:0<=pv:=Y.1;omega⟩;replace Y:m<=12:=by have h9:(m:Int)<=12:=Y.2;omega
  show Calls _ _ _ _ λr V=>∃A c,r=.returned (.slice A m c)/\Hp w [.row A m c 3 1 (Fa (Gj m ts))] V;refine Ga (l:=[.agg #[.int .i64 m,.slice o E B]]) func99 ?_;refine Gb ?_;intro G Z I;refine cd I (K _ I.below) ?_;intro Q I;refine ea ?_;replace I:=I.yb 3 1;refine Jh 3 4 (λa v V=>∃(q:Nat)(T:Option Addr)(c':Nat),q<=m/\v=.int .i64 q/\a=.slice T q c'/\Hp w [.row T q c' 3 1 (Fa (Gj q ts)),.blk G 24 [.int .i64 m,.slice o E B] (0,0)] V) (λ_ v _=>m-(intOf v).toNat) ?_ ?_
  .exact⟨0,none,0,N' _,rfl,rfl,I⟩
  clear I;rintro ρ' a_ v V ⟨q,T,c',hq,rfl,rfl,I⟩;by_cases D:q<m
  .refine ea ?_;refine Jh 5 6 (λd v V=>∃i:Nat,i<=E/\v=.int .i64 i/\d=.int .i64 (cw (ts.take i) q)/\Hp w [.row T q c' 3 1 (Fa (Gj q ts)),.blk G 24 [.int .i64 m,.slice o E B] (0,0)] V) (λ_ v _=>E-(intOf v).toNat) ?_ ?_
   .exact⟨0,N' _,rfl,rfl,I⟩
   clear I;rintro R d v w2 ⟨i,hi,rfl,rfl,I⟩;by_cases z:i<E
   .obtain⟨x,C⟩:=aa (l:=ts) (k:=i) Z';obtain⟨ad,rfl,H⟩:=hp.at_ Z';have W:=O8.1 (L x (O' C));have X:x.m.size=m:=by have:=j9 W.2;omega
    obtain⟨e,he⟩:=aa (l:=x.m.data.toList) (k:=q) (by rw[<-td];omega);have h:e.toNat<256:=e.toNat_lt;have u:cw (ts.take (i+1)) q=max (cw (ts.take i) q) (e.toNat:Int):=by rw[ja C,uu,JG he]
    have y:(if(e.toNat:Int)>cw (ts.take i) q then(e.toNat:Int) else cw (ts.take i) q)=cw (ts.take (i+1)) q:=by rw[u];split<;>omega
    generalize cw (ts.take i) q=d0 at*;refine JB ?_;refine ea ?_;refine⟨⟨i+1,Z',rfl,C_ (Value.int .i64) y,I⟩,by show E-(i+1)<E-i;omega, ?_⟩;exact Sb
   obtain rfl:i=E:=Z';rw[G' Z'];refine ea ?_;refine xr ?_;intro j M I;refine Yl ?_;intro P g S I;refine jB ?_;intro I;have N:Fa (Gj q ts)++[.int .i64 (cw ts q)]=Fa (Gj (q+1) ts):=by rw[jP,Qp];rfl
   rw[N] at I;refine⟨⟨q+1,_,_,Z',rfl,rfl,I⟩,by show m-(q+1)<m-q;omega, ?_⟩;exact Sb
  obtain rfl:q=m:=Z';exact abK
 rw[show Pj p.v p.ts=[] from R' J];refine Ga func99 ?_;refine Gb ?_;intro G Z I;refine cd I (K _ I.below) ?_;intro Q I;refine ea ?_;exact⟨none,0,rfl,(I.sub (N_ _)).yb 3 1⟩
def WI(g:PX)(w)(s:g.at_ w)(B:g.n<=1000000):Calls prog 9 #[g.V] w λr V=>∃h:PX,(h.v=g.v/\h.ts=g.ts/\h.n=g.n)/\r=.returned h.V/\Hp w [h.row] V:=by
 have I:=Hp.start w;have k:=s.ln;have x:=Pa TR.one g.ts;refine Ga func9 ?_;refine Ib ?_;intro G Z I T q I;refine wh [] [0,1,0,0,8,28,63,127] 6 [[(1,none)],[(3,some 0)],[],[(1,none)],[(6,some 3)],[(5,some 2),(7,some 4)]] [(5,8),(4,7),(3,6),(2,5),(1,4),(0,3)] [([],1,[(5,8),(4,7),(3,6),(2,5),(1,4),(0,3)])] I mixed U' U' V' ?_;refine XJ ?_;refine QM 1 ?_;refine ZO (i:=2) Qa.out pa.out (λZ hj=>hj.bl.size) ?_;refine XJ ?_;refine QM 1 ?_;refine QK (i:=5) (λU Z hj hR=>hR.1) (λU Z hj hR=>⟨_,_,(show U 7=Value.slice _ _ _ from hR.2.1),s.ext hj.hp.below⟩) Qa.out pa.out rfl V' (by first|rfl|assumption) (by unfold maxLen;omega) Z' (λZ hj=>hj.bl.size) ?_;refine xa ?_;intro l z;simp only[y',i_,or_false] at z;obtain rfl:=z
 intro f W Q d;have a:=Q.bl;obtain⟨Y,o,v6,u,v4,y,_⟩:=d;simp only[Yf];have X:f 0=_:=y;rw[X];have E:f 1=_:=v4;rw[E];obtain⟨D,H,_⟩:aH _ _ _ (f 2) W:=u;rw[H];have R:f 3=_:=v6;rw[R];have j:f 4=_:=o;rw[j];obtain⟨e,K,L,b⟩:Vr _ _ _ _ _ (f 5) W:=Y;rw[L];replace I:=JJ.UE I Q.hp b;refine qm [_,_] ?_;refine Bd ?_;refine QR ?_;refine abB ?_;intro ws I;exact⟨⟨g.v,e,g.n,K,g.ts⟩,⟨rfl,rfl,rfl⟩,rfl,I.sub (P' _ (N_ _))⟩
def dY(n:Nat)(m p)(s s':Bool)(a a')(e e':Int)(w:World):(Op.equalIn (n+4) 72 (.agg #[.string m,.bool s,.string a,.int .i64 e]) (.agg #[.string p,.bool s',.string a',.int .i64 e'])).run prog w=.ok (m==p && ((s==s' && a==a') && e==e')) w:=by
 have h1:=λ(u:ByteArray) (x:Bool) (y:ByteArray) (z:Int)=>ZM (P:=prog) (cs:= #[.string u,.bool x,.string y,.int .i64 z]) (off:=0) (pa.out (P:=prog) (t:=9)) rfl;have h2:=λ(u:ByteArray) (x:Bool) (y:ByteArray) (z:Int)=>pN (P:=prog) (cs:= #[.string u,.bool x,.string y,.int .i64 z]) (vs:= #[.bool x,.string y,.int .i64 z]) (off:=1) (pa.out (P:=prog) (t:=30)) rfl;rw[Op.equalIn];simp[run_underlying Tryz.underlying72,h1,h2,aeK,vK]
 cases h:m==p<;>cases S:((s==s' && a==a') && e==e')<;>simp_all
def sI{x y:TR}:(x.m==y.m && ((x.c.neg==y.c.neg && x.c.Ra==y.c.Ra) && x.c.e==y.c.e))=true↔x=y:=by
 obtain⟨m,s,a,e⟩:=x;obtain⟨p,s',a',e'⟩:=y;rw[Z_,Il,DR,TR.mk.injEq]
variable {d:Option Nat}{ty u:TypeId}{g:Option (Nat×Bool)}{x y:Operand}{s t:TR}
def RZ{r:Bool}(C:ev O x=.agg s.cells.toArray)(hy:ev O y=.agg t.cells.toArray)(H:(s.m==t.m && ((s.c.neg==t.c.neg && s.c.Ra==t.c.Ra) && s.c.e==t.c.e))=r):(execOp (ev O) ⟨d,.binOp .neq 72 x y u,ty,pos,af,g⟩).run prog w=.ok (.value (.bool !r)) w:=by
 have h1:(Op.equal 72 (.agg s.cells.toArray) (.agg t.cells.toArray)).run prog w=.ok r w:=by rw[<-H];exact dY 9996 s.m t.m s.c.neg t.c.neg s.c.Ra t.c.Ra s.c.e t.c.e w
 simp only[execOp,C,hy];simp[eqGuard,binOp,h1]
def QX(C:ev O x=.agg s.cells.toArray)(hy:ev O y=.agg t.cells.toArray)(h:s=t):(execOp (ev O) ⟨d,.binOp .neq 72 x y u,ty,pos,af,g⟩).run prog w=.ok (.value (.bool false)) w:=RZ C hy (sI.2 h)
def gZ(C:ev O x=.agg s.cells.toArray)(hy:ev O y=.agg t.cells.toArray)(h:¬s=t):(execOp (ev O) ⟨d,.binOp .neq 72 x y u,ty,pos,af,g⟩).run prog w=.ok (.value (.bool true)) w:=RZ C hy (r:=false) (Q7.2 λh1=>h (sI.1 h1))
def xY{a b:List α}{i:Nat}(M:a.length<=i)(F:b.length<=i)(h:a.take i=b.take i):a=b:=by
 rwa[G' M,G' F] at h
def rE(A)(n c:Nat)(a)(B)(m d:Nat)(b)(w)(J:Sl w A n 4 (la TR.cells a))(z:Sl w B m 4 (la TR.cells b))(F:n<=1000000)(hm:m<=1000000):Calls prog 54 #[.slice A n c,.slice B m d] w λr V=>∃v,r=.returned (.bool v)/\(v=true↔a=b)/\Below w.heap.size w V:=by
 have I:=Hp.start w;have x:=J.Aa TR.len V';have L:=z.Aa TR.len V';by_cases y:n=m
 .subst y;refine Ga (l:=[.slice A n c,.slice B n d]) func54 ?_;refine ea ?_;refine rf 5 (λv V=>∃i:Nat,i<=n/\v=.int .i64 i/\a.take i=b.take i/\Hp w [] V) (λv _=>n-(intOf v).toNat) ?_ ?_
  .exact⟨0,N' _,rfl,rfl,I⟩
  clear I;rintro ρ' v V ⟨i,hi,rfl,he,I⟩;by_cases D:i<n
  .obtain⟨s,K⟩:=aa (l:=a) (k:=i) Z';obtain⟨t,S⟩:=aa (l:=b) (k:=i) Z';obtain⟨u,rfl,H⟩:=J.at_ Z';obtain⟨q,rfl,G⟩:=z.at_ Z';by_cases e:s=t
   .refine mZ ?_;refine xa ?_;intro f W Q g;have C:=Q.bl;obtain⟨M,E,o,j,v20,p,Y,X,_⟩:=g;replace I:=Q.hp;refine Be ?_;refine Jb rfl rfl V' (QX (s:=s) (t:=t) rfl rfl e) ?_;skip;refine ea ?_;refine⟨⟨i+1,Z',rfl,by rw[ja K,ja S,he,e],I⟩,by show n-(i+1)<n-i;omega, ?_⟩;exact Sb
   refine mZ ?_;refine dn ?_;intro W I;refine Jb rfl rfl V' (gZ (s:=s) (t:=t) rfl rfl e) ?_;skip;refine ea ?_;refine⟨_,rfl,⟨λh=>(nomatch h),λh=>absurd ?_ e⟩,I.below⟩;rw[h,S] at K;exact(P_ K).symm
  refine ea ?_;exact⟨_,rfl,⟨λ_=>xY Z' Z' he,λ_=>rfl⟩,I.below⟩
 refine Ga func54 ?_;refine ea ?_;exact⟨_,rfl,⟨λh=>(nomatch h),λh=>absurd (by rw[<-x,<-L,h]) y⟩,I.below⟩
def LG(p q:PX)(w)(hp:p.at_ w)(R:q.at_ w)(B:p.n<=1000000)(hm:q.n<=1000000):Calls prog 13 #[p.V,q.V] w λr V=>∃v,r=.returned (.bool v)/\(v=true↔p.v=q.v/\p.ts=q.ts)/\Below w.heap.size w V:=by
 have I:=Hp.start w;have S:=λZ F=>rE p.A p.n p.c p.ts q.A q.n q.c q.ts Z (hp.ext F) (R.ext F) B hm;by_cases b:p.v=q.v
 .refine Ga func13 ?_;refine Ib ?_;intro T e I j g I;refine Vg (S _ I.below) ?_;rintro H f ⟨d,rfl,a,M⟩;refine Ps ?_;intro I;refine ea ?_;exact⟨d,rfl,a.trans ⟨λh=>⟨b,h⟩,λh=>h.2⟩,I.below⟩
 refine Ga func13 ?_;refine Ib ?_;intro T e I j g I;exact⟨_,rfl,⟨λh=>(nomatch h),λh=>absurd h.1 b⟩,I.below⟩
def ahx(a:NR):Bool:=decide ((24:Int)<a.Ra.size\/a.e< -300\/300<a.e)
structure SmT(ts:List TR):Prop where
 n:ts.length<=12
 ok:Gh 492 ts
 sz:∀t∈ts,t.m.size<=50
def PX.norm(g:PX):PX:=⟨g.v,none,0,0,g.ts⟩
def UC(X:List PX):Te (X.map PX.norm)=Te X:=by
 have h1:(X.map PX.norm).find? (λg=>decide (g.e≠0))=(X.find? λg=>decide (g.e≠0)).map PX.norm:=List.find?_map ..;have h2:Pw (X.map PX.norm)=Pw X:=(by unfold Pw;rw[List.any_map,E_];rfl);unfold Te;rw[h1,h2,B']
 cases X.find? (λg=>decide (g.e≠0))<;>rfl
def fy(X:List PX):Ff (X.map PX.norm)=Ff X:=by unfold Ff;rw[E_];rfl
structure FA(ps os:List PX)(R:List HE):Prop where
 eq:∀(j:Nat)(g o:PX),ps[j]?=some g->os[j]?=some o->o.v=g.v/\o.ts=g.ts/\o.n=g.n
 my:∀o∈os,o.row∈R/\o.n<=o.c
def FA.add{X os:List PX}{R:List HE}{g o:PX}(h:FA X os R)(C:X[os.length]?=some g)(he:o.v=g.v/\o.ts=g.ts/\o.n=g.n)(E:o.n<=o.c):FA X (os++[o]) (o.row::R):=by
 refine⟨λj b a h1 h2=> ?_,λa h2=> ?_⟩
 .by_cases hj:j<os.length
  .rw[o9 hj] at h2;exact h.eq j b a h1 h2
  by_cases W:j=os.length
  .subst W;rw[R9 (F' _),t_] at h2;rw[C] at h1
   cases h1;cases h2
   exact he
  rw[X_ (by rw[D'];simp;omega)] at h2
  cases h2
 obtain h2|h2:=A_.1 h2
 .exact⟨u' _ (h.my a h2).1,(h.my a h2).2⟩
 rw[k'.1 h2];exact⟨E',E⟩
def FA.key{X os:List PX}{R:List HE}(h:FA X os R)(Q:os.length=X.length):os.map PX.norm=X.map PX.norm:=by
 apply s_;intro j;rw[C',C'];by_cases hj:j<os.length
 .obtain⟨o,W⟩:=aa hj;obtain⟨g,s⟩:=aa (l:=X) (k:=j) Z';obtain⟨N,L,_⟩:=h.eq j g o s W;rw[W,s];show some (PX.norm o)=some (PX.norm g);unfold PX.norm;rw[N,L]
 exact sS
def rM{V:World}{H:List HE}{g:PX}(I:Hp w H V)(h:g.row∈H):g.at_ V:=xg (I.own g.row h)
def iz(p:PX)(c:Dyadic):Int:=if p.e=0 then Qf (p.ts.map (Fo c)) else p.e
def SO{l X:List TR}{c:Dyadic}{i:Nat}{z:TR}(o:l[i]?=some z)(t:X=(l.take i).map (Fo c)++l.drop i):X[i]?=some z/\X.set i ⟨z.m,nR (z.c.fa*c)⟩=(l.take (i+1)).map (Fo c)++l.drop (i+1):=by
 obtain⟨h1,h2⟩:=z'.1 o;have Q:((l.take i).map (Fo c)).length=i:=by rw[B',q'];omega
 refine⟨?_, ?_⟩
 .rw[t,R9 Z',Q,t_,U8];exact o
 rw[ja o,q_,t,q8 _ _ Z',Q,t_,J_,Wf o];rfl
def gF{l:List TR}{c:Dyadic}(W:Gh k l)(E:Sz j c)(u:k+j<=1000000):Gh (k+j) (l.map (Fo c)):=λt S=>by
 obtain⟨z,o,rfl⟩:=x'.1 S;have K:=(W z o).2.mul E;exact⟨K.ok Z',by show Sz _ (nR _).fa;rw[Ta];exact K⟩
def SD(p:PX)(c:NR)(k:Nat)(w)(S:Nd w)(hp:p.at_ w)(h:p.qf k)(E:c.ok/\Sz k c.fa)(hk:k<=400000):Calls prog 234 #[p.V,c.V] w λr V=>∃g:PX,se (iz p c.fa) p.v (oa (p.ts.map (Fo c.fa))) g/\r=.returned (.tuple #[g.V,.int .i64 (iz p c.fa)])/\Hp w [g.row] V:=by
 have I:=Hp.start w;have K:=λZ P hb=>Fq p k Z P (hp.ext hb) h;unfold iz;by_cases J:p.e=0
 .rw[Q' J];rw[J] at K;obtain⟨_,h4,_,_⟩:=Kb J;have hpl:p.ts.length=p.n:=hp.ln;refine Ga func234 ?_;refine Ii ?_;intro T w2 I D w3 I H w4 I;refine cd I (K _ (S.hp I) I.below) ?_;intro B I;refine ea ?_;refine cr I (kn p.A p.n p.c p.ts _ (hp.ext I.below) h.n) ?_;intro Y m w17 I;refine ea ?_;refine rf 20 (λv V=>∃(i:Nat)(X:List TR),i<=p.n/\v=.int .i64 i/\X=(p.ts.take i).map (Fo c.fa)++p.ts.drop i/\Hp w [.row Y p.n m 72 4 (la TR.cells X),.blk H 24 [.int .i64 0,.slice none 0 0] (0,0),.blk D 30 [.bool c.neg,.string c.Ra,.int .i64 c.e] (0,0),.blk T 24 [.int .i64 p.v,.slice p.A p.n p.c] (0,0)] V) (λv _=>p.n-(intOf v).toNat) ?_ ?_
  .exact⟨0,p.ts,N' _,rfl,rfl,I⟩
  clear I;rintro ρ' v V ⟨i,X,hi,rfl,t,I⟩;have y:X.length=p.n:=by rw[t,D',B',q',Q9];omega
  by_cases hlt:i<p.n
  .obtain⟨z,M⟩:=aa (l:=p.ts) (k:=i) Z';obtain⟨a,q⟩:=SO M t;have C:=h.ok z (O' M);have F:=λA cc Z P N=>Rh A 2 cc [z.c,c] Z P N (by simpa using⟨C.1,E.1⟩) k (by simpa using⟨C.2,E.2⟩) Z' V';rw[show pj ([z.c,c].map NR.fa)=z.c.fa*c.fa by show 1*z.c.fa*c.fa=_;rw[R7]] at F;have hrl:=ee TR.len X;obtain⟨g0,rfl⟩:=I.ib (i:=0) rfl Z';refine ea ?_;refine Od 10 I ?_;refine Ku (i) ?_;refine XJ ?_;refine fk [_,_,_] (λ_ hj=>(hj.hp.Wc (f:=TR.cells) (x:=z) (l:=X) (i:=0) rfl TR.len V' a).drop 1) ?_;refine ub ?_;refine Nw [_,_,_,_,_,_] ?_;refine ua (i:=9) (Is (.agg #[.bool (nR (z.c.fa*c.fa)).neg,.string (nR (z.c.fa*c.fa)).Ra,.int .i64 (nR (z.c.fa*c.fa)).e])) Is.ext ?_ ?_
   .intro U Z hj hR;obtain⟨s,G,o,L⟩:=hR.1;exact rb rfl (Ha fi (na o Oa)) (F s G _ (S.hp hj.hp) L) (λ_ _ R=>⟨_,R.1,R.2,rfl⟩)
   refine xa ?_;intro f W Q hV;obtain⟨v32,u,v30,v29,v28,v27,v26,v25,v24,v23,_⟩:=hV;obtain⟨s,G,j,f31⟩:Rows _ _ _ (f 8) W:=u;replace I:=Q.hp;refine Be ?_;refine ea ?_;refine uO ?_;intro ws I;rw[vC a,q] at I;refine ea ?_;replace I:=I.sub (P' _ (P' _ (P' _ (P' _ j'))));refine⟨⟨i+1,_,Z',rfl,rfl,I⟩,by show p.n-(i+1)<p.n-i;omega, ?_⟩;exact Sb
  obtain rfl:i=p.n:=Z';rw[G' Z',T8 Z',I_] at t;have b:=gF h.ok E.2 Z';rw[<-t] at b |-;refine ea ?_;refine Hi (Kl p.v Y p.n m X (k+k) _ S I y Z' Z' b) rfl ?_;rintro e_ w39 ⟨g,og,rfl,I⟩;refine⟨_,rfl, ?_⟩;refine GU ?_;intro ws I;exact Fu
 rw[R' J];refine Ga func234 ?_;refine Ii ?_;intro T w2 I D w3 I H w4 I;refine cd I (K _ (S.hp I) I.below) ?_;intro B I;refine gJ ?_;exact OU
end Go.Proofs.YtbencocchdpikaaGreatDoor
