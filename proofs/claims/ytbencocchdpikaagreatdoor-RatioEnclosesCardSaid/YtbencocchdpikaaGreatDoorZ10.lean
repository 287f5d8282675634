/- Lemmas for ratioEncloses, part 10. -/
import Derived.OrdersIn
import Derived.Test.YtbencocchdpikaaGreatDoorZ91
set_option linter.all false
set_option maxHeartbeats 0
namespace Go.Proofs.YtbencocchdpikaaGreatDoor
open Go.Proofs.Tryz
open Go.RowKit
variable {P:Program}{N:Nat}{Q:Kq}{O:Rf}{w:World}{ro:Option Nat}{D:List Deferred}
structure WR(ro:Option Nat)(D:List Deferred)(P:Program)(N:Nat)(ops:Array Oper)(Q:Kq)(fuel:Nat)(L:Array Bool)(O:Rf)(w:World):Prop where
 out:∀a,Bf N D a O->∀n,wpAnyIn (FW ro) n P .any ops (Ze N D Q) fuel L a w
instance:pa prog 211 1 false 8 [.nilFunc]:={}
variable {ms:List Nat}{xs ys:List Dyadic}
def KO{ns:List Nat}(xs)(ys)(ts:List Dyadic)(h:ns.length=ms.length):Ug (me ns ms).reverse (Eu ns ms xs ys) ts=Ug ns.reverse xs ts*Ug ms.reverse ys ts:=by
 have:=HS (ds:=ns.reverse) (es:=ms.reverse) (xs:=xs) (ys:=ys) (ts:=ts) (by rw[r',r',h]);rw[So h,qb] at this;rw[<-this];unfold Eu ax au;rw[qb ms]
def val_one(ds:List Nat)(ts:List Dyadic)(h:ts.length=ds.length):Ug ds.reverse ((zw ds).map nD) ts=1:=by
 rw[<-LN ds.reverse ts (by rw[r',h])];unfold Ug;refine Ea λp hp=> ?_;have hp:=S_.1 hp;congr 1;unfold zw;rw[C',C',y_ hp];rfl
def oO{ns D:List Nat}{ts:List Dyadic}(Q:ns.length=D.length)(h:∀(i n t:Nat),ns[i]?=some n->D[i]?=some t->n<=t)(S:ts.length=D.length):Ug D.reverse (Xi ns D xs) ts=Ug ns.reverse xs ts:=by
 have K:(xe D ns).length=D.length:=ij Q.symm;have:=KO (ns:=ns) (ms:=xe D ns) xs ((zw (xe D ns)).map nD) ts (by rw[K,Q]);rw[rn Q h,val_one _ _ (by rw[K,S])] at this;unfold Xi;rw[this];grind
variable {k1 k2:Nat}
def DT{ns:List Nat}(C:∀x∈xs,Sz k1 x)(hy:∀y∈ys,Sz k2 y):∀x∈Eu ns ms xs ys,Sz (k1+k2+da ms*da ns) x:=λx h=>by
 have:=bE (N:=da (me ns ms)) (AK (ds:=ns.reverse) (es:=ms.reverse) C hy (da ms)) x h;rwa[DN,qb] at this
variable {k:Nat}
def jD{ns D:List Nat}(C:∀x∈xs,Sz k x)(Q:ns.length=D.length)(m:D.length<=12)(r:∀d∈D,d<=127):∀x∈Xi ns D xs,Sz (k+1600+da (xe D ns)*da ns) x:=λx h=>by
 have K:(xe D ns).length=D.length:=ij Q.symm;have o:∀d∈xe D ns,d<=127:=λd T=>(by obtain⟨i,hi⟩:=r_.1 T;have v:=(z'.1 hi).1;obtain⟨a,M⟩:=aa (l:=D) (k:=i) Z';obtain⟨b,F⟩:=aa (l:=ns) (k:=i) Z';rw[Nt M F] at hi;have:=r a (O' M);have:=P_ hi;omega);exact DT C (λy hy=>by
  obtain⟨z,c,rfl⟩:=x'.1 hy;exact OR c Z' o) x h
def acL(a:NR):Bool:=decide ((8:Int)<a.Ra.size\/a.e< -60\/60<a.e)
def EY{a:NR}(h:acL a=false):a.ok/\Sz 124 a.fa:=by
 refine aeT ?_;intro S h1 h2 G;exact⟨⟨Z',Z',Z'⟩,Sz.raw (m:=64) (E:=60) Z' h2 G⟩
def FX.small(f:FX):Prop:=f.qf 124/\f.m<=60/\f.n<=20
abbrev fxL(l:List Int)(A:Option Addr)(a:Nat)(B:Option Addr)(b:Nat):FX:=⟨A,1,a,B,l.length,b,[(l.length:Int)-1],l.map λz:Int=>nR (z:Dyadic)⟩
def agX(ds:List Int)(cs:List NR):VP:=λv W=>∃g:FX,v=.agg #[.slice g.A g.n g.a,.slice g.B g.m g.b]/\g.ds=ds/\g.cs=cs/\g.at_ W
def JQ{f g:FX}{B:Nat}(Y:∀d∈f.ns,d<=B)(s:∀d∈g.ns,d<=B):∀d∈maxD [f,g],d<=B:=λd T=>by
 have e:maxD [f,g]=ig (ig f.ns f.ns) g.ns:=rfl;rw[e] at T;unfold ig at T;obtain⟨i,hi⟩:=r_.1 T;rw[A8,A8] at hi
 cases M:f.ns[i]? with
 |none=>simp[M] at hi
 |some a=>
  cases F:g.ns[i]? with
  |none=>simp[M,F] at hi
  |some b=>
   simp[M,F] at hi;have:=Y a (O' M);have:=s b (O' F);omega
def atB(t:List Nat)(i:Nat):Dyadic:=Dyadic.ofIntWithPrec ((t[i]?).getD 0:Nat) 8
def af6(s:SR)(a b:Dyadic):Prop:=(0<b/\s.lo.fa*b<=a/\a<=s.hi.fa*b)\/(b<0/\a<=s.lo.fa*b/\s.hi.fa*b<=a)
def jM:∀(r:List Dyadic)(a:Dyadic),r.foldl (λout a=>if decide (a<out)=true then a else out) a<=a/\∀x∈r,r.foldl (λout a=>if decide (a<out)=true then a else out) a<=x
 |[],a=>⟨by show a<=a;grind,λ_ h=>absurd h i_⟩
 |y::r,a=>by
  obtain⟨h1,h2⟩:=jM r (if decide (y<a)=true then y else a);rw[Y7];have G:(if decide (y<a)=true then y else a)<=a/\(if decide (y<a)=true then y else a)<=y:=by
   by_cases h:y<a
   .rw[Q' (w' h)];grind
   rw[R' (by simpa using h)];grind
  exact wZ
def eN:∀(r:List Dyadic)(a:Dyadic),a<=r.foldl (λout a=>if decide (out<a)=true then a else out) a/\∀x∈r,x<=r.foldl (λout a=>if decide (out<a)=true then a else out) a
 |[],a=>⟨by show a<=a;grind,λ_ h=>absurd h i_⟩
 |y::r,a=>by
  obtain⟨h1,h2⟩:=eN r (if decide (a<y)=true then y else a);rw[Y7];have G:a<=(if decide (a<y)=true then y else a)/\y<=(if decide (a<y)=true then y else a):=by
   by_cases h:a<y
   .rw[Q' (w' h)];grind
   rw[R' (by simpa using h)];grind
  exact wZ
def RG(f:Dyadic->Dyadic->Bool):∀(r:List Dyadic)(a:Dyadic),r.foldl (λout a=>if f a out then a else out) a∈a::r
 |[],a=>E'
 |y::r,a=>by
  rw[Y7];have h:=RG f r (if f y a then y else a);obtain h|h:=y'.1 h
  .rw[h];by_cases h2:f y a
   .rw[Q' h2];exact u' _ E'
   rw[R' h2];exact E'
  exact u' _ (u' _ h)
def PD{l:List Dyadic}:∀x∈l,xc (λx y=>decide (x<y)) l<=x:=λx C=>by
 cases l with
 |nil=>exact absurd C i_
 |cons a r=>
  obtain⟨h1,h2⟩:=jM r a;obtain rfl|C:=y'.1 C
  .exact h1
  exact h2 x C
def ID{l:List Dyadic}:∀x∈l,x<=xc (λx y=>decide (y<x)) l:=λx C=>by
 cases l with
 |nil=>exact absurd C i_
 |cons a r=>
  obtain⟨h1,h2⟩:=eN r a;obtain rfl|C:=y'.1 C
  .exact h1
  exact h2 x C
def Nj{f:Dyadic->Dyadic->Bool}{l:List Dyadic}(h:l≠[]):xc f l∈l:=by
 cases l with
 |nil=>exact absurd rfl h
 |cons a r=>exact RG f r a
def Ox{l:List SR}(J:l≠[])(h:∀s∈l,Sz k s.lo.fa/\Sz k s.hi.fa)(u:k<=3000000):(Se l).fin k:=by
 have E:(Jg l).map NR.fa≠[]:=by
  cases l with
  |nil=>exact absurd rfl J
  |cons s r=>simp[Jg]
 have hm:∀x∈(Jg l).map NR.fa,Sz k x:=λx C=>by
  obtain⟨a,M,rfl⟩:=x'.1 C;obtain⟨s,K,M⟩:=k9.1 M;obtain rfl|M:=y'.1 M
  .exact(h s K).1
  rw[k'.1 M];exact(h s K).2
 exact⟨ql.of (hm _ (Nj E)) u,ql.of (hm _ (Nj E)) u⟩
def gaX(ds:List Nat)(X:List Dyadic):Nat->List Dyadic
 |0=>X
 |k+1=>re ds (ds.length-1-k) (We (ds.getD (ds.length-1-k) 0) 1 (-1)) (gaX ds X k)
def afd(b:List SR)(i:Nat):Dyadic:=match b[i]? with|some s=>s.Zg-s.pe|none=>0
def wP(b:List SR)(ns es:List Nat):Nat->Dyadic
 |0=>1
 |i+1=>wP b ns es i*afd b i^(ns.getD i 0-es.getD i 0)
def aen(ns:List Nat)(p:Nat):List Nat:=(Xa ns.reverse p).reverse
def afL(b:List SR)(ns:List Nat)(C:List Dyadic)(p:Nat):TR:=⟨fX (sa (aen ns p)),nR (Hg C p*wP b ns (aen ns p) b.length)⟩
def af7(b:List SR)(ns:List Nat)(C:List Dyadic):List TR:=(List.range (da ns)).map (afL b ns C)
def ad8(v i:Nat)(s:SR):List TR:=oa (Xu v i++Mp v (-s.pe))
def ae4(b:List SR):List PX:=b.mapIdx λi s=>⟨b.length,none,0,0,ad8 b.length i s⟩
def af5(b:List SR)(ns:List Nat)(C:List Dyadic):PX:=⟨(ns.length:Int),none,0,0,oa (af7 b ns C)⟩
def agk(L:FX):List Dyadic:=gaX L.ns.reverse (L.cs.map NR.fa) L.ns.length
def ad6(L:FX)(b:List SR):Int×List TR:=Qb (af5 b L.ns (agk L)) (ae4 b)
def af1(L:FX)(b:List SR):Int:=if L.e≠0 then L.e else if lj b≠0 then lj b else if b.length≠L.n then 1 else(ad6 L b).1
def aia(n k G:Nat)(ns:List Nat):Nat:=k+520*n+(1+n+(G+1)*ns.sum)
def agw(d:Nat)(xs:List Dyadic)(i:Nat):Dyadic:=Hg xs (i+1)*(((i:Int)+1:Int):Dyadic)-Hg xs i*(((d:Int)-(i:Int):Int):Dyadic)
def adv(d:Nat)(xs:List Dyadic):List Dyadic:=(List.range d).map (agw d xs)
abbrev ahg:=GG
def aej(q:Nat->Bool)(xs:List Dyadic)(i:Nat):List Dyadic:=((List.range i).filter q).map λp=>(xs[p]?).getD 0
def adg(ap d:Nat)(p:Nat):Bool:=decide (p/ap % (d+1)<d)
def aeO(ns:List Nat)(a:Nat):List Nat:=ns.set a (ns.getD a 0-1)
def af8(ns:List Nat)(a:Nat)(xs:List Dyadic):List Dyadic:=if ns.getD a 0=0 then List.replicate xs.length 0 else aej (adg (da (ns.drop (a+1))) (ns.getD a 0)) (nk (ns.drop (a+1)).reverse (ns.getD a 0) (ns.getD a 0) (adv (ns.getD a 0)) xs xs.length 0) xs.length
def Tz:∀(N:Nat)(l:List Nat),l.Nodup->(∀x∈l,x<N)->l.length<=N
 |0,l,_,h=>by
  cases l with
  |nil=>exact F' _
  |cons x l=>exact absurd (h x E') Z'
 |N+1,l,T,h=>by
  by_cases hm:N∈l
  .have h1:=Tz N (l.erase N) (T.erase N) λx C=>(by have:=(T.mem_erase_iff).1 C;have:=h x this.2;omega);rw[List.length_erase_of_mem hm] at h1;omega
  have:=Tz N l T λx C=>(by have:=h x C;have:x≠N:=λe=>hm (e ▸ C);omega);omega
def XX{l:List TR}{ds:List Nat}(H:xx l)(h:∀t∈l,Ah ds (Xb t.m)):l.length<=da ds:=by
 have h1:=Tz (da ds) (l.map λt=>Ec ds (Xb t.m)) (by
  unfold List.Nodup;rw[List.pairwise_map];refine List.Pairwise.imp_of_mem (λ{a b} M F Q e=> ?_) H;have L:Xb a.m=Xb b.m:=by rw[<-Cf (h a M),e,Cf (h b F)]
  rw[uG L,ph] at Q
  cases Q) (λx C=>by
  obtain⟨t,S,rfl⟩:=x'.1 C;exact Xg (h t S))
 rwa[B'] at h1
def abP{v:Nat}{l:List TR}{B:Nat->Nat}(K:∀t∈l,t.m.size=v)(h:Zm B l):∀t∈l,Ah ((List.range v).map B) (Xb t.m):=λt S=>by
 rw[Ag];refine⟨by rw[Fp,K t S,B',g8],λi d r T H=> ?_⟩;have hi:=(z'.1 T).1;rw[B',g8] at hi;rw[C',y_ hi] at T;have:=h t S i;rw[SL,H] at this;rw[<-P_ T];exact this
variable {ts:List TR}
def kt{v:Nat}{B:Nat->Nat}(h:Ye (v:Int) ts=0)(F:Zm B ts):ts.length<=da ((List.range v).map B):=by
 obtain⟨_,_,G,z⟩:=Kb h;refine XX z.nw (abP (λt S=> ?_) F);have:=G t S;unfold yf at this;rw[Z_,Y_] at this;omega
def kD{v:Int}{q p:List TR}{sub:List TR->Int×List TR}{j D K T B c N:Nat}(A:gh v=true)(R:mj v K q)(F:q.length<=T)(r:∀t∈p,wg j t<=D)(G:∀n,(sub (Ia p j n)).1=0->mj v B (sub (Ia p j n)).2/\(sub (Ia p j n)).2.length<=N) (L:∀i,i<=128->(Ya q sub p j i).1=0->(Ya q sub p j i).2.length<=N)(hc:K+N*T+(N*T+N)<=c)(Q:B+D*c+N<=500000)(o:c<=100000)(f:N<=4096):
  ∀i,i<=128->(Ya q sub p j i).1=0->mj v (B+(i+D-128)*c+N) (Ya q sub p j i).2
 |0,_,_=>mj.nil A
 |i+1,hi,J=>by
  by_cases h1:i+1+D<=127
  .rw[Wh r _ h1];exact mj.nil A
  have h2:(Ya q sub p j i).1=0:=(by refine N8 λc=> ?_;rw[vh c (Nat.le_succ i)] at J;exact c J);have hle:(i+1+D-128)*c<=D*c:=n_ _ Z';have W:=kD A R F r G L hc Q o f i Z' h2;have l:=L i Z' h2;have w:i+D<=127->Ya q sub p j i=(0,[]):=Wh r i;have hmul:¬i+D<=127->(i+1+D-128)*c=(i+D-128)*c+c:=λh=>by rw[show i+1+D-128=(i+D-128)+1 by omega,U9]
  have M:(i+D-128)*c<=(i+1+D-128)*c:=n_ _ Z';rw[ji] at J |-;unfold Lg at J |-;rw[R' (λh=>h h2)] at J |-;by_cases X:(Ya q sub p j i).2.length=0/\(Ia p j (127-i)).length=0
  .rw[Q' X];exact W.mono Z'
  rw[R' X] at J |-;by_cases Y:Ce (Ya q sub p j i).2 q≠0
  .rw[Q' Y] at J;exact absurd J Y
  rw[R' Y] at J |-;by_cases d:(sub (Ia p j (127-i))).1≠0
  .rw[Q' d] at J;exact absurd J d
  rw[R' d] at J |-;by_cases H:Qf (oa (Cb (Ya q sub p j i).2 q)++(sub (Ia p j (127-i))).2)≠0
  .rw[Q' H] at J;exact absurd J H
  rw[R' H];obtain⟨m,u⟩:=G (127-i) Z';obtain⟨f1,f2,f3,f4⟩:=Kb W.e;obtain⟨g1,g2,x,g4⟩:=Kb m.e;by_cases g:i+D<=127
  .rw[w g];have hl:(oa (Cb [] q)++(sub (Ia p j (127-i))).2).length<=N:=u;refine(Rn (k:=B) (n:=N) A (λt S=>x t S) (λt S=>m.ok t S) (λt S=>m.sz t S) hl Z' Z').mono Z'
  have S:=(Vl (p:=(Ya q sub p j i).2) (q:=q) Z');have hpl:(Cb (Ya q sub p j i).2 q).length<=N*T:=by rw[Pk];exact O9 l F
  have hm:=hmul g;rw[hm] at hle |-;generalize (i+D-128)*c=y at*;generalize D*c=z at*;have s:=Tp W.ok R.ok Z';have C:=bo (k:=B+y+N+K) (j:=B+y+N+K+N*T) s Z' Z';have hg2:=Zb (Cb (Ya q sub p j i).2 q);have E:∀{P:TR->Prop},(∀t∈oa (Cb (Ya q sub p j i).2 q),P t)->(∀t∈(sub (Ia p j (127-i))).2,P t)->∀t∈oa (Cb (Ya q sub p j i).2 q)++(sub (Ia p j (127-i))).2,P t:=λa b t S=>(A_.1 S).elim (a t) (b t);refine⟨pg A (vx Z') (E (Jn (Up f3 S.2.1)) x),bo (k:=B+y+N+K+N*T) (E C (m.ok.mono Z')) (by rw[D'];omega) Z',Ks (E (mH W.ok R.ok R.sz Z' Z').2 m.sz)⟩
def MT{v K T c:Nat}(A:v<=12)(D:Nat->Nat)(hN:da ((List.range v).map D)<=N)(hc:K+N*T+(N*T+N)<=c)(hc2:c<=100000)(W:N<=4096):∀(Q:List (List TR))(j:Nat)(p:List TR)(ds:List Nat)(k:Nat),(∀(i:Nat)(q:List TR),Q[i]?=some q->mj v K q/\q.length<=T/\Zm (λx=>if x=j+i then 1 else 0) q)->Gh k p->ds.length=Q.length->(∀(i d:Nat),ds[i]?=some d->D (j+i)=d)->(∀t∈p,∀i,i<Q.length->wg (j+i) t<=D (j+i))->k+1+(ds.sum+ds.length)*c<=400000->(Ud v Q j p).1=0->mj v (k+1+(ds.sum+ds.length)*c) (Ud v Q j p).2/\(Ud v Q j p).2.length<=N:=by
 intro Q
 induction Q with
 |nil=>
  intro j p ds k _ y F _ _ L _;obtain rfl:ds=[]:=n8.1 F;have h1:mj v (k+1) (Ud v [] j p).2:=(by refine Av (Wg A) ?_ Z';exact MZ);refine⟨h1.mono (Nat.le_add_right _ _),p' (kt h1.e (B:=λ_=>0) (uy v _).oa) (p' ?_ hN)⟩;have e:∀(f:Nat->Nat)(l:List Nat),da (l.map λ_=>0)<=da (l.map f):=λf l=>by
   induction l with
   |nil=>exact F' _
   |cons x l ih=>exact O9 (Nat.succ_le_succ (N' _)) ih
  exact e D _
 |cons q Q ih=>
  intro j p ds k hq y F b hp L J
  cases ds with
  |nil=>cases F
  |cons d ds=>
   have u:D j=d:=b 0 d rfl;obtain⟨hq1,hq2,z⟩:=hq 0 q rfl;rw[N9] at z;rw[l7,V_] at L |-;have R:(d+ds.sum+(ds.length+1))*c=(ds.sum+ds.length)*c+d*c+c:=by rw[show d+ds.sum+(ds.length+1)=(ds.sum+ds.length)+d+1 by omega,K8,K8,R8]
   rw[R] at L |-;have hNc:N<=c:=Z';have w:∀n,∀t∈Ia p j n,∀i,i<Q.length->wg (j+1+i) t<=D (j+1+i):=λn t S i hi=>(by exact K2);have g:∀n,(Ud v Q (j+1) (Ia p j n)).1=0->mj v (k+1+(ds.sum+ds.length)*c) (Ud v Q (j+1) (Ia p j n)).2/\(Ud v Q (j+1) (Ia p j n)).2.length<=N:=λn hn=>by
    refine ih (j+1) (Ia p j n) ds k (λi r hr=> ?_) (λt S=>y t (Pg t S)) (by simpa using F) (λi e he=> ?_) (w n) Z' hn
    .have:=hq (i+1) r (by simpa using hr);rwa[show j+1+i=j+(i+1) by omega]
    have:=b (i+1) e (by simpa using he);rwa[show j+1+i=j+(i+1) by omega]
   have a:∀n,(Ud v Q (j+1) (Ia p j n)).1=0->Zm (λx=>if j+1<=x/\x<j+1+Q.length then D x else 0) (Ud v Q (j+1) (Ia p j n)).2:=λn hn=>CE Q (j+1) (Ia p j n) D (λi r hr=>by
    have:=(hq (i+1) r (by simpa using hr)).2.2;rwa[show j+1+i=j+(i+1) by omega]) (w n) hn
   have s:∀t∈p,wg j t<=d:=λt S=>by rw[<-u];exact hp t S 0 (by rw[V_];omega)
   rw[Iv] at J |-;generalize Ud v Q (j+1)=sub at g a J |-;have P:∀i,i<=128->(Ya q sub p j i).1=0->Ye (v:Int) (Ya q sub p j i).2=0:=λi hi o=>by
    induction i with
    |zero=>exact(mj.nil (k:=0) (Wg A)).e
    |succ i ihi=>
     have h2:(Ya q sub p j i).1=0:=(by refine N8 λc=> ?_;rw[vh c (Nat.le_succ i)] at o;exact c o);have e0:=ihi Z' h2;rw[ji] at o |-;unfold Lg at o |-;rw[R' (λh=>h h2)] at o |-;by_cases c1:(Ya q sub p j i).2.length=0/\(Ia p j (127-i)).length=0
     .rw[Q' c1];exact e0
     rw[R' c1] at o |-;by_cases Y:Ce (Ya q sub p j i).2 q≠0
     .rw[Q' Y] at o;exact absurd o Y
     rw[R' Y] at o |-;by_cases G:(sub (Ia p j (127-i))).1≠0
     .rw[Q' G] at o;exact absurd o G
     rw[R' G] at o |-;by_cases H:Qf (oa (Cb (Ya q sub p j i).2 q)++(sub (Ia p j (127-i))).2)≠0
     .rw[Q' H] at o;exact absurd o H
     rw[R' H];refine pg (Wg A) (vx Z') λt S=>(A_.1 S).elim (Jn (Up (Kb e0).2.2.1 (Vl Z').2.1) t) ((Kb (g _ Z').1.e).2.2.1 t)
   have X:=Ft z s (E:=λx=>if j+1<=x/\x<j+1+Q.length then D x else 0) (by rw[R' Z']) a;have M:∀i,i<=128->(Ya q sub p j i).1=0->(Ya q sub p j i).2.length<=N:=λi hi o=>by
    refine p' (kt (P i hi o) ((X i hi o).mono (C:=D) λx=> ?_)) hN;by_cases hx:x=j
    .rw[Q' hx,hx,u];omega
    rw[R' hx];split
    .exact F' _
    exact N' _
   have e:∀m,m=128->(Ya q sub p j m).1=0->mj v (k+1+((ds.sum+ds.length)*c+d*c+c)) (Ya q sub p j m).2/\(Ya q sub p j m).2.length<=N:=λm hm o=>(by have h3:=kD (Wg A) hq1 hq2 s g M hc Z' hc2 W m Z' o;rw[show m+d-128=d by omega] at h3;exact⟨h3.mono Z',M m Z' o⟩);exact e 128 rfl J
def uJ{d a:Nat}(t)(h:a<=d):sm (List.range (d+1)) (λr=>We d 1 1 a r*vg d r t)=t^a:=by
 have S:(λr=>We d 1 1 a r*vg d r t)=λk=>if k<a then 0 else(λj=>nD (bin (d-a) j)*vg d (j+a) t) (k-a):=funext λk=>by
  unfold We;by_cases u:k<a
  .rw[Q' u,Q' u,F6]
  rw[R' u,R' u,Fi,Fi];show nD (bin (d-a) (k-a))*1*1*vg d k t=nD (bin (d-a) (k-a))*vg d (k-a+a) t;rw[Nat.sub_add_cancel Z'];grind
 have F:=HH (d-a) t (1-t);rw[show t+(1-t)=1 by grind,Fi] at F;rw[S,ZU d a h λj=>nD (bin (d-a) j)*vg d (j+a) t];have N:∀j,j∈List.range (d-a+1)->nD (bin (d-a) j)*vg d (j+a) t=t^a*(nD (bin (d-a) j)*t^j*(1-t)^(d-a-j)):=λj hj=>(by have:=S_.1 hj;unfold vg;rw[show d-(j+a)=d-a-j by omega,xj];grind);rw[Ea N,cg,F];grind
variable {p:PX}
def bR:∀(ds s:List Nat)(ts:List Dyadic),Ah ds s->ts.length=ds.length->sm (List.range (da ds)) (λp=>wK 0 ds s (Xa ds p)*dj ds (Xa ds p) ts)=fj s ts
 |[],[],[],_,_=>by show(1:Dyadic)*1+0=1;grind
 |[],_::_,_,h,_=>by cases h
 |_::_,[],_,h,_=>by cases h
 |[],[],_::_,_,h=>by cases h
 |_::_,_::_,[],_,h=>by cases h
 |d::ds,a::s,t::ts,h1,h2=>(by have W:=bR ds s ts h1.2 (by simpa using h2);rw[St,fj,<-W,<-uJ t h1.1,<-cg];refine Ea λq _=> ?_;rw[<-Ui];refine Ea λr H=> ?_;have G:=S_.1 H;rw[Xa,V8,G_ G,B9 _ _ Z',k_ G,i',dj];show We d 1 1 a r*wK 0 ds s (Xa ds q)*_=_;grind)
variable {b:List SR}
def QC:∀(s:List Nat)(ts:List Dyadic)(a:Nat)(t:Dyadic),s.length=ts.length->fj (s++[a]) (ts++[t])=fj s ts*t^a
 |[],[],a,t,_=>by show t^a*1=1*t^a;grind
 |[],_::_,_,_,h=>by cases h
 |_::_,[],_,_,h=>by cases h
 |b::s,u::ts,a,t,h=>(by show u^b*fj (s++[a]) (ts++[t])=u^b*fj s ts*t^a;rw[QC s ts a t (by simpa using h)];grind)
def HF:∀(s:List Nat)(ts:List Dyadic),s.length=ts.length->fj s.reverse ts.reverse=fj s ts
 |[],[],_=>rfl
 |[],_::_,h=>by cases h
 |_::_,[],h=>by cases h
 |b::s,u::ts,h=>(by rw[Y8,Y8,QC _ _ _ _ (by simpa using h),HF s ts (by simpa using h),fj];grind)
def ace{ns:List Nat}{S:List TR}{ts:List Dyadic}(J:∀t∈S,Ah ns.reverse (Xb t.m).reverse)(a:ts.length=ns.length):Ug ns.reverse (Aj ns S) ts=uo ts.reverse S:=by
 unfold Ug;have N:sm (List.range (da ns.reverse)) (λp=>((Aj ns S)[p]?).getD 0*dj ns.reverse (Xa ns.reverse p) ts)=sm (List.range (da ns.reverse)) λp=>sm S λt=>t.c.fa*(wK 0 ns.reverse (Xb t.m).reverse (Xa ns.reverse p)*dj ns.reverse (Xa ns.reverse p) ts):=Ea λp hp=>(by unfold Aj;rw[C',y_ (S_.1 hp)];show wS _ S*_=_;rw[AN,<-Ui];exact Ea λt _=>by grind);rw[N,qk];unfold uo;rw[AN];refine Ea λt h=> ?_;rw[cg,bR _ _ _ (J t h) (by rw[r'];exact a)];have Q:=Cq (J t h);rw[r',r'] at Q;have:=HF (Xb t.m).reverse ts (by rw[r',Q,a]);rw[I8] at this;rw[this]
def ZX(f:ByteArray->Dyadic)(c)(l:List TR):wS f (l.map (Fo c))=wS f l*c:=by
 induction l with
 |nil=>exact(F6 _).symm
 |cons t l W=>
  rw[T_,wS,wS,W];show(nR (t.c.fa*c)).fa*f t.m+_=_;rw[Ta];grind
def vH:∀(v i:Nat)(xs:List Dyadic),xs.length=v->i<v->fj (((List.replicate v 0).set i 1)) xs=(xs[i]?).getD 0
 |0,_,_,_,h=>absurd h (A7 _)
 |v+1,i,[],h,_=>by cases h
 |v+1,0,x::xs,h,_=>(by show x^1*fj (List.replicate v 0) xs=x;rw[Yp];grind)
 |v+1,i+1,x::xs,h,hi=>(by show x^0*fj ((List.replicate v 0).set i 1) xs=(xs[i]?).getD 0;rw[vH v i xs (by simpa using h) Z',s7];grind)
def uT(v i:Nat):Xb (yk v i)=(List.replicate v 0).set i 1:=by
 unfold Xb yk;show((((List.replicate (v:Int).toNat (0:UInt8)).set i 1).toArray).toList).map UInt8.toNat=_;rw[List.toList_toArray,c9,List.map_replicate];rfl
def lP(v:Nat):Xb (Sd v)=List.replicate v 0:=by
 unfold Xb Sd;show(((List.replicate (v:Int).toNat (0:UInt8)).toArray).toList).map UInt8.toNat=_;rw[List.toList_toArray,List.map_replicate];rfl
variable {C:Nat}
def LV{v i:Nat}{s:SR}(C:xs.length=v)(hi:i<v):uo xs (yg v i s)=s.pe+(s.Zg-s.pe)*(xs[i]?).getD 0:=by
 unfold yg Mp Ur Xu;rw[qj,xy,qj,qj];have N:uo xs [⟨Sd v,nR s.pe⟩]=s.pe:=(by show(nR s.pe).fa*fj (Xb (Sd v)) xs+0=_;rw[Ta,lP,Yp];grind);have a:uo xs ((oa [⟨yk v i,nR ((1:Int):Dyadic)⟩]).map (Fo (s.Zg-s.pe)))=(xs[i]?).getD 0*(s.Zg-s.pe):=(by unfold uo;rw[ZX,Wu];show((nR ((1:Int):Dyadic)).fa*fj (Xb (yk v i)) xs+0)*_=_;rw[Ta,uT,vH v i xs C hi,show(((1:Int):Dyadic))=1 from rfl];grind);rw[N,a];grind
def UT(b:List SR)(xs:List Dyadic):List Dyadic:=b.mapIdx λi s=>s.pe+(s.Zg-s.pe)*(xs[i]?).getD 0
def mO(C:xs.length=b.length):(Ca b).map (λg=>uo xs g.ts)=UT b xs:=by
 refine s_ λi=> ?_;unfold UT;rw[C',Y6]
 cases K:b[i]? with
 |none=>
  rw[X_ (by rw[Vh];exact List.getElem?_eq_none_iff.1 K)];rfl
 |some s=>
  rw[Ve K];show some (uo xs (yg b.length i s))=some _;rw[LV C (z'.1 K).1]
def WX(J:(Qb p (Ca b)).1=0)(C:xs.length=b.length):uo xs (Qb p (Ca b)).2=uo (UT b xs) p.ts:=by
 rw[acB J,mO C]
def XP{ns:List Nat}{s:Nat}(h:Ri p b ns)(W:Gh k p.ts)(F:∀z∈b,z.fin k)(C:k<=1000)(L:da (wb p.v p.ts)<=N)(y:N<=1000)(D:(wb p.v p.ts).sum<=s)(E:k+1+(s+12)*(k+k+10+5*N)<=400000)(J:(Qb p (Ca b)).1=0):
  mj b.length (k+1+(s+12)*(k+k+10+5*N)) (Qb p (Ca b)).2/\(Qb p (Ca b)).2.length<=N:=by
 have Q:=h.jn;have A:=h.pos;have m:=Vh b;obtain⟨_,G,Y⟩:=Mi h.e;have r:=h.Ek;have n:Ff (Ca b)=b.length:=(by obtain⟨z,o⟩:=aa (l:=b) (k:=0) Z';rw[aj (Ve o)]);unfold Qb at J |-;rw[R' (λc=>c h.e),R' (by rw[m,h.v];exact λc=>c rfl)] at J |-;by_cases j:(Ca b).length≠0/\Te (Ca b)≠0
 .rw[Q' j] at J;exact absurd J j.2
 rw[R' j,n] at J |-;have x:(List.range b.length).map (λi=>((wb p.v p.ts)[i]?).getD 0)=wb p.v p.ts:=by
  refine s_ λi=> ?_;rw[C'];by_cases hi:i<b.length
  .obtain⟨d,a⟩:=aa (l:=wb p.v p.ts) (k:=i) Z';rw[y_ hi,a];show some (((wb p.v p.ts)[i]?).getD 0)=some d;rw[a];rfl
  exact aa0
 have B:((wb p.v p.ts).sum+(wb p.v p.ts).length)*(k+k+10+5*N)<=(s+12)*(k+k+10+5*N):=n_ _ Z';have h1:=MT (K:=k+k+10) (T:=2) (c:=k+k+10+5*N) (N:=N) Q (λi=>((wb p.v p.ts)[i]?).getD 0) (by rw[x];exact L) Z' Z' Z' ((Ca b).map PX.ts) 0 p.ts (wb p.v p.ts) k (λi q R=> ?_) W (by rw[B',m,r]) (λi d a=>by rw[i',a];rfl) (λt S i hi=> ?_) Z' J
 .exact⟨h1.1.mono Z',h1.2⟩
 .rw[C'] at R;obtain⟨g,f,rfl⟩:=y9.1 R;obtain⟨z,o⟩:=aa (l:=b) (k:=i) (by have:=(z'.1 f).1;rwa[m] at this);rw[Ve o] at f;rw[<-P_ f,i'];obtain⟨u,w⟩:=Cj (v:=b.length) (i:=i) Q (F z (O' o)) Z';exact⟨u,w,zv _ i z⟩
 rw[B',m] at hi;rw[i'];obtain⟨d,a⟩:=aa (l:=wb p.v p.ts) (k:=i) Z';rw[a];exact(Y i d a).2.1 t S
def fN:∀(ds:List Nat),(∀d∈ds,d<=5)->2^ds.sum<=da ds*da ds
 |[],_=>F' _
 |d::ds,h=>by
  have h1:=fN ds λx C=>h x (u' _ C);have h2:=h d E';have G:2^d<=(d+1)*(d+1):=by
   match d,h2 with
   |0,_=>decide
   |1,_=>decide
   |2,_=>decide
   |3,_=>decide
   |4,_=>decide
   |5,_=>decide
  rw[l7,Q_,da];have:=O9 G h1
  calc 2^d*2^ds.sum<=(d+1)*(d+1)*(da ds*da ds):=this
   _=(d+1)*da ds*((d+1)*da ds):=by rw[Nat.mul_mul_mul_comm]
def cV{ds:List Nat}{s:Nat}(h:∀d∈ds,d<=5)(E:da ds<=C)(K:C*C<2^(s+1)):ds.sum<=s:=by
 have h1:=fN ds h;have h2:=O9 E E;have G:2^ds.sum<2^(s+1):=Z';have:=(V5 (by decide:1<2)).1 G;omega
def kv(c k:Nat):∀ds:List Nat,Ge c ds k=k+ds.sum*c+ds.length*8192
 |[]=>by rw[Jq];simp
 |d::ds=>(by rw[En,kv c k ds,l7,V_,K8,U9];omega)
def SZ{ns:List Nat}{S:List TR}(J:∀t∈S,Ah ns.reverse (Xb t.m).reverse)(u:Gh k S)(T:∀d∈ns,d<=127):∀x∈Aj ns S,Sz (k+S.length+520*ns.length) x:=by
 rw[<-lH J];exact EJ (U0 u) (λd h=>T d (s8.1 h)) ns.length
def CP{v:Int}{a b:TR}(M:yf v a=true)(F:yf v b=true)(h:∀i,wg i a+wg i b<=127):Gl a.m b.m=0:=by
 unfold yf at M F;rw[Z_,Y_] at M F;have Q:b.m.data.toList.length=a.m.data.toList.length:=by rw[<-td,<-td];omega
 unfold Gl;rw[gO M.1 F.1 Q];rw[M_];intro z o;obtain⟨i,hi⟩:=r_.1 o;rw[A8] at hi
 cases C:(ints a.m.data.toList)[i]? with
 |none=>rw[C] at hi;cases hi
 |some x=>
  cases hy:(ints b.m.data.toList)[i]? with
  |none=>rw[C,hy] at hi;cases hi
  |some y=>
   rw[C,hy] at hi;have e:x+y=z:=P_ hi;unfold ints at C hy;rw[C'] at C hy;obtain⟨c,E,rfl⟩:=y9.1 C;obtain⟨d,T,rfl⟩:=y9.1 hy;have:=h i;rw[Kp E,Kp T] at this;unfold Tb;rw[<-e,Z_,Y_,Y_];omega
def lC{v:Nat}{q p:List TR}{sub:List TR->Int×List TR}{j d N T:Nat}{E:Nat->Nat}(A:v<=12)(R:Ye v q=0)(h:q.length<=T)(l:Zm (λx=>if x=j then 1 else 0) q)(b:∀t∈p,wg j t<=d)(u:E j=0)(z:d<=127)(a:∀x,E x<=127) (K:∀n,(sub (Ia p j n)).1=0/\Ye v (sub (Ia p j n)).2=0/\Zm E (sub (Ia p j n)).2)(L:da ((List.range v).map λx=>if x=j then d else E x)<=N)(f:N*T+N<=4096):
  ∀i,i<=128->(Ya q sub p j i).1=0/\Ye v (Ya q sub p j i).2=0
 |0,_=>⟨rfl,(mj.nil (k:=0) (Wg A)).e⟩
 |i+1,hi=>by
  obtain⟨h1,h2⟩:=lC A R h l b u z a K L f i Z';have s:=Ft l b u (λn _=>(K n).2.2) i Z' h1;have Q:(Ya q sub p j i).2.length<=N:=p' (kt h2 (s.mono λx=>by
   by_cases C:x=j
   .rw[Q' C,Q' C];omega
   rw[R' C,R' C];exact F' _)) L
  have F:∀n,(sub (Ia p j n)).2.length<=N:=λn=>p' (kt (K n).2.1 ((K n).2.2.mono λx=>by
   by_cases C:x=j
   .rw[Q' C,C,u];exact N' _
   rw[R' C];exact F' _)) L
  obtain⟨f1,f2,f3,f4⟩:=Kb h2;obtain⟨P,W,G,q4⟩:=Kb R;have D:(Cb (Ya q sub p j i).2 q).length<=N*T:=by rw[Pk];exact O9 Q h
  have m:∀e∈Kw (Ya q sub p j i).2 q,e=0:=λe he=>by
   by_cases g:i+d<=127
   .rw[Wh b i g] at he
    cases he
   obtain⟨x,C,he⟩:=k9.1 he;obtain⟨y,hy,rfl⟩:=x'.1 he;refine CP (f3 x C) (G y hy) λr=> ?_;have J:=s x C r;have o:=l y hy r;have M:=a r;by_cases H:r=j
   .simp only[Q' H] at J o;omega
   simp only[R' H] at J o;omega
  have Y:Ce (Ya q sub p j i).2 q=0:=(by rw[vy (by rw[<-Pk];omega) m,zj Z']);obtain⟨s1,s2,s3⟩:=K (127-i);have B:=Zb (Cb (Ya q sub p j i).2 q);have w:Qf (oa (Cb (Ya q sub p j i).2 q)++(sub (Ia p j (127-i))).2)=0:=zj (by rw[D'];have:=F (127-i);omega);rw[ji];unfold Lg;rw[R' (λc=>c h1)];by_cases X:(Ya q sub p j i).2.length=0/\(Ia p j (127-i)).length=0
  .rw[Q' X];exact⟨h1,h2⟩
  rw[R' X,R' (λc=>c Y),R' (λc=>c s1),R' (λc=>c w)];refine⟨rfl,pg (Wg A) (vx w) λt S=>(A_.1 S).elim (Jn (Up f3 m) t) ((Kb s2).2.2.1 t)⟩
def yS{f g:Nat->Nat}(l:List Nat)(h:∀x,f x<=g x):da (l.map f)<=da (l.map g):=by
 induction l with
 |nil=>exact F' _
 |cons x l W=>exact O9 (Nat.succ_le_succ (h x)) W
def FF{v N T:Nat}(A:v<=12)(D:Nat->Nat)(c:∀x,D x<=127)(L:da ((List.range v).map D)<=N)(a:N*T+N<=4096):∀(Q:List (List TR))(j:Nat)(p:List TR),(∀(i:Nat)(q:List TR),Q[i]?=some q->Ye v q=0/\q.length<=T/\Zm (λx=>if x=j+i then 1 else 0) q)->(∀t∈p,∀i,i<Q.length->wg (j+i) t<=D (j+i))->(Ud v Q j p).1=0/\Ye v (Ud v Q j p).2=0
 |[],j,p,_,_=>⟨rfl,pg (Wg A) (p' (Zb _) (by show 1<=4096;decide)) λt S=>by
   rw[k'.1 S];unfold yf;rw[Z_,Y_];exact⟨mv v,sn Z'⟩⟩
 |q::Q,j,p,R,hp=>by
  obtain⟨k,f,e⟩:=R 0 q rfl;rw[N9] at e;have w:∀n,∀t∈Ia p j n,∀i,i<Q.length->wg (j+1+i) t<=D (j+1+i):=λn t S i hi=>(by have:=hp t (Pg t S) (i+1) (by rw[V_];omega);rwa[show j+1+i=j+(i+1) by omega]);have C:∀(i:Nat)(r:List TR),Q[i]?=some r->Ye v r=0/\r.length<=T/\Zm (λx=>if x=j+1+i then 1 else 0) r:=λi r H=>(by have:=R (i+1) r (by simpa using H);rwa[show j+1+i=j+(i+1) by omega]);have K:∀n,(Ud v Q (j+1) (Ia p j n)).1=0/\Ye v (Ud v Q (j+1) (Ia p j n)).2=0/\Zm (λx=>if j+1<=x/\x<j+1+Q.length then D x else 0) (Ud v Q (j+1) (Ia p j n)).2:=λn=>(by obtain⟨J,o⟩:=FF A D c L a Q (j+1) (Ia p j n) C (w n);exact⟨J,o,CE Q (j+1) (Ia p j n) D (λi r H=>(C i r H).2.2) (w n) J⟩);rw[Iv];exact lC (d:=D j) (E:=λx=>if j+1<=x/\x<j+1+Q.length then D x else 0) A k f e (λt S=>hp t S 0 (by rw[V_];omega)) (by rw[R' Z']) (c j) (λx=>by
   split
   .exact c x
   .exact N' _) K (p' (yS _ λx=>by
   by_cases b:x=j
   .rw[Q' b,b];exact F' _
   rw[R' b];split
   .exact F' _
   exact N' _) L) a 128 (F' _)
variable {ls:List PX}
def ZP{ds:List Nat}{v T:Nat}(A:v<=12)(J:p.e=0)(u:p.v=(ls.length:Int))(B:0<ls.length)(Q:ds.length=v)(r:ls.length=v)(F:∀(i:Nat)(g:PX),ls[i]?=some g->g.v=(v:Int)/\Ye v g.ts=0/\g.ts.length<=T/\Zm (λx=>if x=i then 1 else 0) g.ts) (n:∀(i d:Nat),ds[i]?=some d->d<=127/\∀t∈p.ts,wg i t<=d)(L:da ds<=N)(a:N*T+N<=4096):(Qb p ls).1=0/\Ye v (Qb p ls).2=0:=by
 have E:ls≠[]:=λe=>by rw[e] at B;exact absurd B V'
 have M:∀g∈ls,g.v=(v:Int)/\Ye v g.ts=0:=λg s=>(by obtain⟨i,hi⟩:=r_.1 s;exact⟨(F i g hi).1,(F i g hi).2.1⟩);have j:Te ls=0:=kP (v:=v) E (λg s=>by unfold PX.e;rw[(M g s).1];exact(M g s).2) λg s=>(M g s).1;have f:Ff ls=v:=(by obtain⟨g,s⟩:=aa (l:=ls) (k:=0) B;rw[aj s];exact(F 0 g s).1);unfold Qb;rw[R' (λc=>c J),R' Z',R' (λc=>c.2 j),f];have m:∀i,ds.getD i 0<=127:=λi=>by
  rw[o_]
  cases h:ds[i]? with
  |none=>exact N' _
  |some d=>exact(n i d h).1
 have o:(List.range v).map (λi=>ds.getD i 0)=ds:=by
  refine s_ λi=> ?_;rw[C'];by_cases hi:i<v
  .obtain⟨d,b⟩:=aa (l:=ds) (k:=i) Z';rw[y_ hi,b];show some (ds.getD i 0)=some d;rw[o_,b];rfl
  exact aa0
 refine FF A (λi=>ds.getD i 0) m (by rw[o];exact L) a (ls.map PX.ts) 0 p.ts (λi q R=> ?_) λt S i hi=> ?_
 .rw[C'] at R;obtain⟨g,s,rfl⟩:=y9.1 R;rw[i'];exact(F i g s).2
 rw[B'] at hi;rw[i'];obtain⟨d,b⟩:=aa (l:=ds) (k:=i) Z';rw[o_,b];exact(n i d b).2 t S
def SV{ns:List Nat}(h:Ri p b ns)(F:∀z∈b,z.fin k)(u:k<=1000)(L:da (wb p.v p.ts)<=N)(a:N*2+N<=4096):(Qb p (Ca b)).1=0:=by
 have Q:=h.jn;have A:=h.pos;have m:=Vh b;obtain⟨_,j,Y⟩:=Mi h.e;have n:=h.Ek;refine(ZP (v:=b.length) (ds:=wb p.v p.ts) (T:=2) Q h.e (by rw[m];exact h.v) Z' n m (λi g s=> ?_) (λi d c=>⟨(Y i d c).1,(Y i d c).2.1⟩) L a).1;obtain⟨z,o⟩:=aa (l:=b) (k:=i) (by have:=(z'.1 s).1;rwa[m] at this);rw[Ve o] at s;obtain⟨J,f⟩:=Cj (v:=b.length) (i:=i) Q (F z (O' o)) Z';have C:=zv b.length i z;rw[<-P_ s];exact⟨rfl,J.e,f,C⟩
def ov{ds:List Int}(h:sf p b ds=0):Cg p b (Xj p ds)=0/\(Qb p (Ca b)).1=0:=by
 unfold sf at h;by_cases J:Cg p b (Xj p ds)≠0
 .rw[Q' J] at h;exact absurd h J
 rw[R' J] at h;exact⟨C9.1 J,h⟩
def TJ(ns):(sa ns).map Int.toNat=ns:=xf ns
def HI{t:TR}{B:Nat}(h:∀c∈t.m.data.toList,c.toNat<=B)(i:Nat):xo t.m i<=B:=by
 unfold xo
 cases he:t.m.data.toList[i]? with
 |none=>exact Int.natCast_nonneg B
 |some e=>have:=h e (O' he);show((e.toNat:Nat):Int)<=B;omega
def eA{v:Int}{B:Nat}(h:Ye v ts=0)(F:∀t∈ts,∀c∈t.m.data.toList,c.toNat<=B):∀d∈wb v ts,d<=B:=λd T=>by
 obtain⟨i,hi⟩:=r_.1 T;have h1:=((Mi h).2.2 i d hi).2.2;have h2:=(oM (l:=ts) (i:=i) (B:=(B:Int)) (Int.natCast_nonneg B) λt S=>HI (F t S) i).2;omega
structure oB(p:PX)(b:List SR)(C s:Nat):Prop where
 n:p.ts.length<=8
 ok:Gh 124 p.ts
 sz:∀t∈p.ts,t.m.size<=20
 ex:∀t∈p.ts,∀c∈t.m.data.toList,c.toNat<=4
 box:∀z∈b,z.fin 124
 NA:p.e=0->da (wb p.v p.ts)<=C
 VT:C*C<2^(s+1)
def oB.sum{s:Nat}(h:oB p b C s)(he:p.e=0):(wb p.v p.ts).sum<=s:=cV (λd T=>by have:=eA he h.ex d T;omega) (h.NA he) h.VT
def oB.grow{s:Nat}(h:oB p b C s)(K:s<=14)(he:p.e=0):Ge (124+124+16394) (wb p.v p.ts) (124+1)<=440000:=by
 have h1:=h.sum he;have h2:=(Mi he).2.1;have G:=(Yc.1 (Kb he).1).2;rw[kv];have z:(wb p.v p.ts).sum*(124+124+16394)<=14*(124+124+16394):=n_ _ Z';have P:(wb p.v p.ts).length*8192<=12*8192:=n_ _ Z';omega
def oB.qf{s:Nat}(h:oB p b C s)(hp:p.at_ w)(E:p.n<=p.c):p.qf 124:=⟨by have:=hp.ln;have:=h.n;omega,E,h.ok,λt S=>p' (h.sz t S) V'⟩
def oB.small{s:Nat}{ns:List Nat}(h:oB p b C s)(K:s<=14)(M:C<=200)(P:Ri p b ns)(J:(Qb p (Ca b)).1=0):(Gh 40000 (Qb p (Ca b)).2/\∀t∈(Qb p (Ca b)).2,Ah ns.reverse (Xb t.m).reverse)/\∀x∈Aj ns (Qb p (Ca b)).2,Sz 47000 x:=by
 obtain⟨h1,h2⟩:=XP P h.ok h.box V' (p' (h.NA P.e) M) V' (p' (h.sum P.e) K) V' J;have G:=(Yq P h.ok h.box V' (h.grow K P.e) J).2;have z:=h1.ok.mono (show 124+1+(14+12)*(124+124+10+5*200)<=40000 by decide);refine⟨⟨z,G⟩,λx a=>(SZ G z P.low x a).mono ?_⟩;have c:=P.nl;have L:=P.jn;omega
def ahM(a:NR):Bool:=decide ((8:Int)<a.Ra.size\/a.e< -60\/60<a.e)
structure SmQ(ts:List TR):Prop where
 n:ts.length<=10
 ok:Gh 124 ts
 sz:∀t∈ts,t.m.size<=20
 ex:∀t∈ts,∀c∈t.m.data.toList,c.toNat<=6
structure wC(v:Int)(k n D:Nat)(ts:List TR):Prop where
 e:Ye v ts=0
 ok:Gh k ts
 sz:∀t∈ts,t.m.size<=100000
 len:ts.length<=n
 ex:∀t∈ts,∀c∈t.m.data.toList,c.toNat<=D
def Dv{v:Int}{ns:List Nat}(h:Ye v ts=0)(Q:(wb v ts).length=ns.length)(C:∀(i d:Nat),ns[i]?=some d->∀t∈ts,wg i t<=d):∀(i x y:Nat),(wb v ts)[i]?=some x->ns[i]?=some y->x<=y:=λi x y h1 h2=>by
 have G:=((Mi h).2.2 i x h1).2.2;have z:=(oM (l:=ts) (i:=i) (B:=(y:Int)) (Int.natCast_nonneg y) λt S=>by rw[<-NH];have:=C i y h2 t S;omega).2;omega
def abh{s:PX}{ns:List Nat}(he:s.e=0)(a:lj b=0)(A:s.v=b.length)(w:ns.length=b.length)(g:∀d∈ns,d<=127)(hm:da ns<=4096)(C:∀(i d:Nat),ns[i]?=some d->∀t∈s.ts,wg i t<=d):Cg s b (sa ns)=0:=by
 obtain⟨M,f,Y⟩:=Mi he;have B:=Ih ns 1 (F' _) V' g;rw[R8,Q' hm] at B;replace B:Lf 1 (sa ns)=((da ns:Nat):Int):=B;have hp:=Wb ns;have l:rm (Pj s.v s.ts) (sa ns)=false:=(by unfold rm;rw[P9];intro q R;obtain⟨i,hi⟩:=r_.1 R;obtain⟨h1,h2⟩:=p7.1 hi;rw[M] at h1;unfold sa at h1 h2;rw[C'] at h1 h2;obtain⟨x,F,N⟩:=y9.1 h1;obtain⟨y,W,L⟩:=y9.1 h2;have G:=Dv he Z' C i x y F W;have z:=g y (O' W);rw[Y_,<-N,<-L];omega);unfold Cg;rw[R' (λc=>c he),R' (λc=>c a),R' (by rw[Za];omega),l,R' V',B,R' Z']
def abY{s:PX}{ns:List Nat}(he:s.e=0)(a:lj b=0)(A:0<b.length)(f:s.v=b.length)(w:ns.length=b.length)(g:∀d∈ns,d<=127)(hm:da ns<=1000)(C:∀(i d:Nat),ns[i]?=some d->∀t∈s.ts,wg i t<=d)(F:∀z∈b,z.fin k)(u:k<=1000):
  sf s b (sa ns)=0/\Ri s b ns/\(Qb s (Ca b)).1=0:=by
 have h1:=abh he a f w g Z' C;have P:=(Ms h1).2;rw[TJ] at P;have h2:=SV (N:=1000) P F u (p' (qi (by rw[P.Ek,w]) (Dv he (by rw[P.Ek,w]) C)) hm) V';have r:Xj s (sa ns)=sa ns:=R' (by rw[Za];omega);refine⟨?_,P,h2⟩;unfold sf;rw[r,R' (λc=>c h1),h2]
def oC{v:Int}(h:Ye v ts=0)(hex:∀t∈ts,∀c∈t.m.data.toList,c.toNat<=4)(E:da (wb v ts)<=100)(u:k<=1000):Ge (k+k+16394) (wb v ts) (k+1)<=440000:=by
 have h1:(wb v ts).sum<=13:=cV (λd T=>by have:=eA h hex d T;omega) E V';have h2:=(Mi h).2.1;have G:=(Yc.1 (Kb h).1).2;rw[kv];have z:(wb v ts).sum*(k+k+16394)<=13*(1000+1000+16394):=O9 h1 Z';have P:(wb v ts).length*8192<=12*8192:=n_ _ Z';omega
def abG{ns:List Nat}{ts:List Dyadic}(P:Ri p b ns)(J:(Qb p (Ca b)).1=0)(G:∀t∈(Qb p (Ca b)).2,Ah ns.reverse (Xb t.m).reverse)(S:ts.length=ns.length):Ug ns.reverse (Aj ns (Qb p (Ca b)).2) ts=uo (UT b ts.reverse) p.ts:=by
 rw[ace G S,WX J (by rw[r',S,P.nl])]
structure ahu(p:PX):Prop where
 n:p.ts.length<=8
 ok:Gh 124 p.ts
 ex:∀t∈p.ts,t.m.size<=20/\∀c∈t.m.data.toList,c.toNat<=4
def Ri.OX{ns:List Nat}(h:Ri p b ns)(E:da ns<=C):da (wb p.v p.ts)<=C:=
 p' (qi (by rw[h.Ek,h.nl]) (Dv h.e (by rw[h.Ek,h.nl]) h.own)) E
structure CQ(p:PX)(b:List SR)(ns:List Nat):Prop where
 vl:∀ts:List Dyadic,ts.length=ns.length->Ug ns.reverse (Aj ns (Qb p (Ca b)).2) ts=uo (UT b ts.reverse) p.ts
 sz:∀x∈Aj ns (Qb p (Ca b)).2,Sz 460000 x
def iF{ns:List Nat}(P:Ri p b ns)(J:(Qb p (Ca b)).1=0)(W:Gh k p.ts)(F:∀s∈b,s.fin k)(u:k<=1000)(T:Ge (k+k+16394) (wb p.v p.ts) (k+1)<=440000):CQ p b ns:=by
 obtain⟨h1,h2⟩:=Yq P W F u T J;refine⟨λts S=>abG P J h2 S,λx C=>(SZ h2 h1.ok P.low x C).mono ?_⟩;have G:=(Kb h1.e).2.1;have z:=P.nl;have a:=P.jn;omega
structure ahw(p q s o:PX)(b:List SR)(ns:List Nat)(c:Dyadic):Prop where
 fit:Ri p b ns
 NA:da ns<=100
 es:sf s b (sa ns)=0
 eo:sf o b (sa ns)=0
 gs:wC s.v 140 16 4 s.ts
 go:wC o.v 125 1 0 o.ts
 ws:Ge (140+140+16394) (wb s.v s.ts) (140+1)<=440000
 wo:Ge (140+140+16394) (wb o.v o.ts) (140+1)<=440000
 sum:Aj ns (Qb s (Ca b)).2=abl (Aj ns (Qb p (Ca b)).2) (Aj ns (Qb q (Ca b)).2)
 con:Aj ns (Qb o (Ca b)).2=((zw ns).map nD).map λy=>c*y
 zp:∀x∈Aj ns (Qb p (Ca b)).2,Sz 460000 x
 zq:∀x∈Aj ns (Qb q (Ca b)).2,Sz 460000 x
def ah1(A:List Nat)(e:Nat)(X:List Dyadic):List Dyadic:=aej (adg (da A) (e+1)) (nk A (e+1) (e+1) (adv (e+1)) X X.length 0) X.length
def phR:List (Nat->Dyadic)->List Nat->Dyadic
 |f::fs,r::rs=>f r*phR fs rs
 |_,_=>1
def vG(ds:List Nat)(X:List Dyadic)(fs:List (Nat->Dyadic)):Dyadic:=sR ds λrow=>co ds X row*phR fs row
def adG(ds:List Nat)(ts:List Dyadic):List (Nat->Dyadic):=List.zipWith (λd t r=>vg d r t) ds ts
def pwF(ts:List Dyadic):List (Nat->Dyadic):=ts.map λt r=>t^r
def aic(ds:List Nat)(ts:List Dyadic)(k:Nat):List (Nat->Dyadic):=(adG ds ts).take (ds.length-k)++(pwF ts).drop (ds.length-k)
def wT(b:List SR)(ns:List Nat):Nat->Dyadic
 |0=>1
 |i+1=>wT b ns i*afd b i^(ns.getD i 0)
def aK{s:SR}(h:lj b=0)(K:s∈b):s.lo.fa<s.hi.fa:=by
 unfold lj at h;by_cases h1:b.any (λs=> !decide (s.lo.fa<s.hi.fa))=true
 .rw[Q' h1] at h;omega
 rw[Bool.not_eq_true,P9] at h1;have:=h1 s K;simpa using this
def aeZ{s:SR}(h:lj b=0)(K:s∈b):s.pe=s.lo.fa/\s.Zg=s.hi.fa:=by
 have h1:=aK h K;have h2:¬s.hi.fa<s.lo.fa:=by grind
 unfold SR.pe SR.Zg aJ bJ;rw[R' h2,Q' h1];exact⟨rfl,rfl⟩
structure agY(p:PX)(b:List SR)(fx:FX)(ns:List Nat):Prop where
 e:af1 fx b=0
 q:(ad6 fx b).2=oa (p.ts.map (Fo (wT b ns b.length)))
 s:iz p (wT b ns b.length)=0
 n:(oa (p.ts.map (Fo (wT b ns b.length)))).length<=8
def shX(up:Bool)(d:Nat)(s:Dyadic):Nat->Nat->Dyadic:=if up then sB d s else vB d s
def shS(ns t:List Nat)(a:Nat)(xs:List Dyadic)(M:Nat->Nat->Dyadic)(r i:Nat):Dyadic:=sm (List.range i) λj=>co ns.reverse xs (t.set a j)*M j r
def aht(a:NR):Bool:=decide ((8:Int)<a.Ra.size\/a.e< -60\/60<a.e)
def FX.agC(f:FX):Prop:=f.qf 124/\f.m<=120/\f.n<=20/\∀d∈f.ds,d<=6\/128<=d
abbrev fxC(l:List Int)(A:Option Addr)(a:Nat)(B:Option Addr)(b:Nat):FX:=⟨A,1,a,B,l.length,b,[(l.length:Int)-1],l.map λz:Int=>nR ((z:Dyadic)*Ic (-2))⟩
abbrev xsC(l:List Int):List Dyadic:=l.map λz:Int=>(z:Dyadic)*Ic (-2)
def agp(l:List Int):VP:=λv W=>∃g:FX,v=.agg #[.slice g.A g.n g.a,.slice g.B g.m g.b]/\g.ds=[(l.length:Int)-1]/\g.cs=(l.map λz:Int=>nR ((z:Dyadic)*Ic (-2)))/\g.at_ W
def afS(base:Nat)(E:Int)(D:List Nat)(ys:List Dyadic):VP:=λv W=>∃g:FX,v=.agg #[.slice g.A g.n g.a,.slice g.B g.m g.b]/\Out E D ys g/\∃q:World,base<=q.heap.size/\Hp q [g.mh,g.gg] W
def agZ(base:Nat)(E:Int)(D:List Nat)(ys c:List Dyadic):VP:=λv W=>∃g h:FX,v=.tuple #[.agg #[.slice g.A g.n g.a,.slice g.B g.m g.b],.agg #[.slice h.A h.n h.a,.slice h.B h.m h.b],.int .i64 E]/\Out E D ys g/\Out E D c h/\∃q:World,base<=q.heap.size/\Hp q [h.mh,h.gg,g.gg,g.mh] W
def ahV(ap d t:Nat)(xs:List Dyadic)(i:Nat):List Dyadic:=((List.range i).filter λp=>decide (p/ap % (d+1)=t)).map λp=>(xs[p]?).getD 0
variable {α:Type}
def FD(l:List α){a:Nat}(h:a<l.length)(x:α):(l.set a x).reverse=l.reverse.set (l.length-1-a) x:=by
 refine s_ λi=> ?_;by_cases hi:i<l.length
 .rw[l_ (by rw[I9];exact hi),g_,g_,I9,r',l_ hi];by_cases e:a=l.length-1-i
  .rw[Q' e,Q' Z',Q' Z',Q' Z']
  rw[R' e,R' Z']
 exact abJ
def TP{ns:List Nat}{a:Nat}(M:a<ns.length)(s t)(xs)(ts:List Dyadic)(Q:ts.length=ns.length):
  Ug ns.reverse (jk false s ns a xs) (ts.set a t).reverse=Ug ns.reverse xs (ts.set a (s*t)).reverse/\
  Ug ns.reverse (jk true s ns a xs) (ts.set a t).reverse=Ug ns.reverse xs (ts.set a (s+(1-s)*t)).reverse:=by
 have b:ns.reverse.getD (ns.length-1-a) 0=ns.getD a 0:=(by rw[o_,o_,l_ Z'];congr 2;omega);rw[FD _ Z',FD _ Z',FD _ Z',Q];unfold jk;simp only[D7,if_false,if_true];have c:ns.length-1-a<ns.reverse.length:=by rw[r'];omega
 have d:ts.reverse.length=ns.reverse.length:=by rw[r',r',Q]
 exact⟨rD c d λi hi=>by rw[b] at hi |-;exact IW s t hi,rD c d λi hi=>by rw[b] at hi |-;exact eX s t hi⟩
def Zu(b:List SR)(h:Int):Option (List SR):=
 if h.fdiv 2<0 then none else(b[(h.fdiv 2).toNat]?).map λs=>(b.map SR.f).set (h.fdiv 2).toNat (s.f.half (nR s.f.ai) (decide (h % 2=1)))
def ahe(b:List SR)(K:List Int):Option (List SR):=K.foldl (λo h=>o.bind (Zu · h)) (some b)
def Sz.ai{x y:Dyadic}(C:Sz k x)(hy:Sz k y):Sz (k+2) ((x+y)*Ic (-1)):=((C.add hy).mul (show Sz 1 (Ic (-1)) from⟨1,by decide+kernel,V'⟩)).mono Z'
def ql.up{l:Nat}{a:NR}(h:ql k a)(Q:k<=l):ql l a:=⟨h.ok,h.sz.mono Q⟩
def mK{d:List SR}{h:Int}(F:∀s∈b,s.fin k)(a:k+2<=3000000)(e:Zu b h=some d):(∀s∈d,s.fin (k+2))/\d.length=b.length:=by
 unfold Zu at e;split at e
 .cases e
 rcases K:b[(h.fdiv 2).toNat]? with _|s
 .rw[K] at e;cases e
 rw[K] at e
 cases e
 refine⟨λt S=> ?_,by rw[I9,B']⟩;have Y:=SR.Bw (F s (O' K)) Z';obtain S|rfl:=Z5 S
 .obtain⟨u,hu,rfl⟩:=x'.1 S;have:=SR.Bw (F u hu) Z';exact⟨this.1.up Z',this.2.up Z'⟩
 have hm:ql (k+2) (nR s.f.ai):=ql.of (Sz.ai Y.1.sz Y.2.sz) a;unfold SR.half;split
 .exact⟨hm,Y.2.up Z'⟩
 exact⟨Y.1.up Z',hm⟩
def SR.at_(s:SR)(x:Dyadic):Dyadic:=s.lo.fa+x*s.wid
def agf(t:List NR)(i:Nat)(s:SR):NR:=match t[i]? with|none=>s.lo|some x=>nR (s.at_ x.fa)
def YV(a b)(k:Nat)(M:ql k a)(F:ql k b)(u:k<=3000000)(w):Zc 118 #[a.V,b.V] w (.int .i64 (uf a.fa b.fa)):=
 yn a b w M.ok F.ok (F.sz.ok Z') (by have:=((M.sz.sub F.sz).ok Z').1;omega)
def adi(a b)(k:Nat)(M:ql k a)(F:ql k b)(u:k<=3000000)(w):Zc 182 #[a.V,b.V] w (.agg #[.bool (nR (a.fa-b.fa)).neg,.string (nR (a.fa-b.fa)).Ra,.int .i64 (nR (a.fa-b.fa)).e]):=
 Kr a b w M.ok F.ok (F.sz.ok Z')
def Oi(s:SR)(k:Nat)(w:World)(K:s.fin k)(u:k<=3000000):Zc 112 #[.agg s.cells.toArray] w (.agg s.f.cells.toArray):=by
 have I:=Hp.start w;have E:=λZ=>YV s.lo s.hi k K.1 K.2 u Z;have M:=K.1.ok;have v:=K.2.ok;have j:=λZ=>ue s.lo Z (by have:=M.1;omega) (by have:=M.2;omega) (by have:=M.2;omega);have t:=λZ=>ue s.hi Z (by have:=v.1;omega) (by have:=v.2;omega) (by have:=v.2;omega);obtain h|h|h:=FN s.lo.fa s.hi.fa
 .rw[sj h] at E;have N:s.pe=s.lo.fa:=by unfold SR.pe aJ;rw[R' (by grind)]
  have a:s.Zg=s.hi.fa:=by unfold SR.Zg bJ;rw[Q' h]
  exact O0
 .rw[h,Pv] at E;have N:s.pe=s.lo.fa:=by unfold SR.pe aJ;rw[R' (by grind)]
  have a:s.Zg=s.hi.fa:=by unfold SR.Zg bJ;rw[R' (by grind)];exact h
  exact O0
 rw[Yn h] at E;have N:s.pe=s.hi.fa:=by unfold SR.pe aJ;rw[Q' h]
 have a:s.Zg=s.lo.fa:=by unfold SR.Zg bJ;rw[R' (by grind)]
 unfold SR.f;rw[N,a];refine Ga func112 ?_;refine sr ?_;refine ar I [_,_,_,_,_,_] ?_;intro G Z I;refine ik I ?_;intro T q I;refine ia (qa (sr (Sk ?_)));refine vf I 1 [_,_,_] (Sk ?_);refine vf I 1 [_,_,_] ?_;refine cd I (E _) ?_;intro e I;refine Jr (ia (cT (mb (Sk ?_))));refine vf I 1 [_,_,_] (Sk ?_);refine vf I 1 [_,_,_] (Sk ?_);refine pd I 1 [_,_,_] ?_;intro ws I;replace I:Hp _ (_::.blk _ _ [_,_,_,_,_,_] _::_) _:=I;refine Sk ?_;refine pd I 1 [_,_,_] ?_;intro ws I;replace I:Hp _ (_::.blk _ _ [_,_,_,_,_,_] _::_) _:=I;refine ia (qa ?_);refine qh 5 I ?_;refine ub ?_;refine dC (λ_ hj=>t _) ?_;refine ub ?_;refine dn ?_;intro W I;refine cd I (j _) ?_;intro g I;refine Gb ?_;intro ws I;exact rW
def yr(s:SR)(k:Nat)(w)(K:s.fin k)(u:k<=3000000):Zc 120 #[.agg s.cells.toArray] w (.agg #[.bool (nR s.wid).neg,.string (nR s.wid).Ra,.int .i64 (nR s.wid).e]):=by
 have I:=Hp.start w;have Y:=SR.Bw K u;have E:=λZ=>adi (nR s.Zg) (nR s.pe) k Y.2 Y.1 u Z;simp only[Ta] at E;refine Ga func120 ?_;refine sr ?_;refine ar I [_,_,_,_,_,_] ?_;intro G Z I;refine ik I ?_;intro T q I;refine ia (sr ?_);refine vf I 1 [_,_,_,_,_,_] ?_;refine cd I (Oi s k _ K u) ?_;intro y I;refine pd I 1 [_,_,_,_,_,_] ?_;intro ws I;replace I:Hp _ (_::.blk _ _ [_,_,_,_,_,_] _::_) _:=I;refine ia (sr (Sk ?_));refine vf I 1 [_,_,_] (Sk ?_);refine vf I 1 [_,_,_] ?_;refine cd I (E _) ?_;exact xV
def Iw(s:SR)(k:Nat)(w)(K:s.fin k)(u:k<=3000000):Zc 121 #[.agg s.cells.toArray] w (.agg #[.bool (nR s.ai).neg,.string (nR s.ai).Ra,.int .i64 (nR s.ai).e]):=by
 have I:=Hp.start w;have E:=λZ=>nh s.lo s.hi Z K.1.ok K.2.ok;have W:=(K.1.sz.add K.2.sz).ok Z';have l:=λZ=>Fk (nR (s.lo.fa+s.hi.fa)) (-1) Z (by have:=W.1;omega) (by have:=W.2;omega) (by have:=W.2;omega) Z' Z';rw[Ta] at l;refine Ga func121 ?_;refine Ib ?_;intro G Z I T q I;refine cd I (E _) ?_;intro a I;refine cd I (l _) ?_;exact vY
def XA(L:Option Addr)(n c:Nat)(b:List SR)(k:Nat)(w:World)(J:Sl w L n 6 (la SR.cells b))(F:∀s∈b,s.fin k)(z:n<=1000000)(u:k<=3000000):Zc 101 #[.slice L n c] w (.int .i64 (lj b)):=by
 have I:=Hp.start w;have m:=J.Aa SR.len V';by_cases y:n=0
 .refine Ga func101 ?_;refine ea ?_;obtain rfl:b=[]:=s9 Z';exact⟨rfl,I.below⟩
 refine Ga func101 ?_;refine ea ?_;refine rf 3 (λv V=>∃i:Nat,i<=n/\v=.int .i64 i/\(b.take i).any (λs=> !decide (s.lo.fa<s.hi.fa))=false/\Hp w [] V) (λv _=>n-(intOf v).toNat) ?_ ?_
 .exact⟨0,N' _,rfl,rfl,I⟩
 clear I;rintro ρ' v V ⟨i,hi,rfl,X,I⟩;by_cases D:i<n
 .obtain⟨s,K⟩:=aa (l:=b) (k:=i) Z';have ms:=O' K;obtain⟨x,rfl,H⟩:=J.at_ Z';have E:=λZ=>YV s.lo s.hi k (F s ms).1 (F s ms).2 u Z;have e:=sF s.lo.fa s.hi.fa;generalize uf s.lo.fa s.hi.fa=B at*;by_cases g:0<=B
  .refine xZ ?_;refine xa ?_;intro f W Q a;have C:=Q.bl;obtain⟨G,t,v20,p,Y,o,M,A,j,r,_⟩:=a;replace I:=Q.hp;refine Be ?_;clear Q;refine cd I (E _) ?_;intro q I;exact adf
  refine xZ ?_;refine dn ?_;intro W I;refine cd I (E _) ?_;intro q I;refine ea ?_;exact A0
 rw[G' Z'] at X;refine ea ?_;exact⟨by rw[lj,X,R' (by simp),R' Z'],I.below⟩
def Bn(L)(n c:Nat)(b)(k:Nat)(w)(J:Sl w L n 6 (la SR.cells b))(F:∀s∈b,s.fin k)(B:n<=1000000)(u:k<=3000000):Calls prog 46 #[.slice L n c] w λr V=>∃A c',r=.returned (.slice A n c')/\V.ownsRow w.heap.size 36 6 (.slice A n c') n (la SR.cells (b.map SR.f))/\Below w.heap.size w V:=by
 refine SI ?_;intro I m;refine Ga func46 ?_;refine ea ?_;replace I:=I.yb 36 6;refine Jh 3 4 (λy v V=>∃(i e:Nat)(A:Option Addr),i<=n/\v=.int .i64 i/\y=.slice A i e/\Hp w [.row A i e 36 6 (la SR.cells ((b.take i).map SR.f))] V) (λ_ v _=>n-(intOf v).toNat) ?_ ?_
 .exact⟨0,0,none,N' _,rfl,rfl,I⟩
 clear I;rintro ρ' y v V ⟨i,e,A,hi,rfl,rfl,I⟩;by_cases D:i<n
 .obtain⟨s,K⟩:=aa (l:=b) (k:=i) Z';obtain⟨j,rfl,H⟩:=J.at_ Z';refine Vt ?_;refine cd I (Oi s k _ (F s (O' K)) u) ?_;intro a I;refine yC ?_;intro P d I;refine Yl ?_;intro h z g I;refine jB ?_;intro I;replace I:=I.sub (P' _ j');refine⟨⟨i+1,z,h,Z',rfl,rfl, ?_⟩,by show n-(i+1)<n-i;omega, ?_⟩
  .rw[ja K,q_,Na];exact I
  exact Sb
 exact VW
def tN:∀{b:List SR},b≠[]->∃x∈b,∀u∈b,¬x.wid<u.wid
 |[],h=>absurd rfl h
 |[s],_=>⟨s,List.mem_singleton_self s,λu hu h=>by rw[k'.1 hu] at h;grind⟩
 |s::t::l,_=>by
  obtain⟨x,C,hm⟩:=tN (b:=t::l) (List.cons_ne_nil _ _);by_cases g:x.wid<s.wid
  .refine⟨s,E',λu hu h=> ?_⟩;obtain rfl|hu:=y'.1 hu
   .grind
   have:=hm u hu;grind
  refine⟨x,u' _ C,λu hu h=> ?_⟩;obtain rfl|hu:=y'.1 hu
  .exact g h
  exact hm u hu h
def Vy(L:Option Addr)(n c:Nat)(b:List SR)(k:Nat)(w:World)(hS:Sl w L n 6 (la SR.cells b))(F:∀s∈b,s.fin k)(hn:n<=1000000)(hk:k<=1000000):Calls prog 51 #[.slice L n c] w λr V=>(∃v,r=.returned (.int .i64 v)/\((b=[]/\v= -1)\/∃(m:Nat)(s:SR),b[m]?=some s/\v=m/\(∀u∈b,¬s.wid<u.wid)/\∀(j:Nat)(t:SR),j<m->b[j]?=some t->∃u∈b,t.wid<u.wid))/\Below w.heap.size w V:=by
 have I:=Hp.start w;have hln:=hS.Aa SR.len V';refine Ga func51 ?_;refine ea ?_;refine rf 3 (λv V=>∃i:Nat,i<=n/\v=.int .i64 i/\(∀(j:Nat)(t:SR),j<i->b[j]?=some t->∃u∈b,t.wid<u.wid)/\Hp w [] V) (λv _=>n-(intOf v).toNat) ?_ ?_
 .exact⟨0,N' _,rfl,λ_ _ h=>absurd h (A7 _),I⟩
 clear I;rintro ρ' v V ⟨i,hi,rfl,X,I⟩;by_cases D:i<n
 .obtain⟨s,K⟩:=aa (l:=b) (k:=i) Z';have ms:=O' K;obtain⟨ad,rfl,H⟩:=hS.at_ Z';refine ea ?_;refine Jh 4 5 (λv4 v5 V=>∃(j:Nat)(q:Bool),j<=n/\v5=.int .i64 j/\v4=.bool q/\(q=true↔∀u∈b.take j,¬s.wid<u.wid)/\Hp w [] V) (λ_ v _=>n-(intOf v).toNat) ?_ ?_
  .exact⟨0,true,N' _,rfl,rfl,⟨λ_ u hu=>(nomatch hu),λ_=>rfl⟩,I⟩
  clear I;rintro ρ2 v4 v5 w2 ⟨j,q,hj,rfl,rfl,R,I⟩;by_cases hjn:j<n
  .obtain⟨u,hu⟩:=aa (l:=b) (k:=j) Z';have mu:=O' hu
   cases q with
   |false=>
    have a:¬∀u∈b.take j,¬s.wid<u.wid:=λh=>by cases R.2 h
    refine ea ?_;refine qh 11 I ?_;refine ub ?_;refine xa ?_;intro f W Q o;have N:=Q.bl;obtain⟨v28,v27,v26,P,M,J,G,B,v20,A,Y,_⟩:=o;replace I:=Q.hp;refine Be ?_;clear Q;refine ea ?_;refine⟨⟨j+1,false,Z',rfl,rfl,⟨λh=>(by cases h),λh=>absurd (λx C=>h x (by rw[ja hu];exact q9 _ C)) a⟩,I⟩,by show n-(j+1)<n-j;omega, ?_⟩;exact Sb
   |true=>
    have T:=R.1 rfl;have d:=λZ=>yr s k Z (F s ms) Z';have y:=λZ=>yr u k Z (F u mu) Z';have E:=λZ=>YV (nR s.wid) (nR u.wid) (k+1) (ql.of (SR.szw (F s ms)) Z') (ql.of (SR.szw (F u mu)) Z') Z' Z;rw[Ta,Ta] at E;have e:=sF s.wid u.wid;generalize uf s.wid u.wid=cc at*;by_cases g:0<=cc
    .refine Z2 ?_;refine xa ?_;intro f W Q o;have N:=Q.bl;obtain⟨v28,v27,v26,P,M,J,G,B,v20,A,Y,_⟩:=o;replace I:=Q.hp;refine Be ?_;clear Q;refine ea ?_;refine cd I (y _) ?_;intro w29 I;refine ea ?_;refine cd I (E _) ?_;intro w30 I;refine ea ?_;refine⟨⟨j+1,true,Z',rfl,rfl,⟨λ_ x C=> ?_,λ_=>rfl⟩,I⟩,by show n-(j+1)<n-j;omega, ?_⟩
     .rw[ja hu,A_,k'] at C;obtain C|rfl:=C
      .exact T x C
      exact e.1 g
     exact Sb
    refine Z2 ?_;refine dn ?_;intro W I;refine ea ?_;refine cd I (y _) ?_;intro w29 I;refine ea ?_;refine cd I (E _) ?_;intro w30 I;refine ea ?_;refine⟨⟨j+1,false,Z',rfl,rfl,⟨λh=>(by cases h),λh=>absurd (e.2 (h u (by rw[ja hu];exact H_ _ E'))) g⟩,I⟩,by show n-(j+1)<n-j;omega, ?_⟩;exact Sb
  rw[G' Z'] at R
  cases q with
  |true=>
   refine ea ?_;exact⟨⟨i,rfl,.inr ⟨i,s,K,rfl,R.1 rfl,X⟩⟩,I.below⟩
  |false=>
   refine ea ?_;refine⟨⟨i+1,Z',rfl,λj t hj S=> ?_,I⟩,by show n-(i+1)<n-i;omega, ?_⟩
   .by_cases z:j=i
    .subst z;rw[K] at S
     cases S
     apply N8;intro a;have:false=true:=R.2 λu hu D=>a ⟨u,hu,D⟩
     cases this
    exact X j t Z' S
   exact Sb
 obtain rfl:i=n:=Z';refine ea ?_;refine⟨⟨-1,rfl,.inl ⟨?_,rfl⟩⟩,I.below⟩;rcases p:b with _|⟨s0,b0⟩
 .rfl
 exfalso;obtain⟨x,C,hm⟩:=tN (b:=b) (by rw[p];exact List.cons_ne_nil _ _);obtain⟨j,hj⟩:=r_.1 C;obtain⟨u,hu,D⟩:=X j x (by have:=(z'.1 hj).1;omega) hj;exact hm u hu D
variable {o:Nat}
def Az(L)(n c:Nat)(b)(k:Int)(q:Nat)(w)(J:Sl w L n 6 (la SR.cells b))(F:∀s∈b,s.fin q)(hn:n<=1000000)(R:q<=3000000)(o: -9223372036854775808<=k)(Q:k<=9223372036854775807):Calls prog 50 #[.slice L n c,.int .i64 k] w λr V=>∃A c',r=.returned (.slice A n c')/\V.ownsRow w.heap.size 30 3 (.slice A n c') n (la NR.cells (b.mapIdx λi s=>cond (il k i) s.f.hi s.f.lo))/\Below w.heap.size w V:=by
 have I:=Hp.start w;have S:=J.Aa SR.len V';refine Ga func50 ?_;refine ea ?_;replace I:=I.yb 30 3;refine Wk [1,5,6,7,8,9,10,11,12,13,14,15,16,17,18,19,20,21,22,23,24,25,26,27,28,29,30,31,32,33,34,35,36,37,38,39,40,41] 1 5 6 (λv1 C v V=>∃(i m:Nat)(A:Option Addr)(z:Int),i<=n/\v=.int .i64 i/\C=.slice A i m/\v1=.int .i64 z/\(0<k/\z=k/2^i\/k<=0/\ -9223372036854775808<=z/\z<=0)/\Hp w [.row A i m 30 3 (la NR.cells ((b.take i).mapIdx λi s=>cond (il k i) s.f.hi s.f.lo))] V) (λ_ _ v _=>n-(intOf v).toNat) ?_ ?_
 .refine⟨0,0,none,k,N' _,rfl,rfl,rfl, ?_,I⟩;by_cases h:0<k
  .exact .inl ⟨h,by simp⟩
  exact .inr ⟨Z',o,Z'⟩
 clear I;rintro ρ' v1 C v V ⟨i,m,A,z,hi,rfl,rfl,rfl,p,I⟩;by_cases T:i<n
 .obtain⟨s,K⟩:=aa (l:=b) (k:=i) Z';obtain⟨ad,rfl,H⟩:=J.at_ Z';have hzb: -9223372036854775808<=z/\z<=9223372036854775807:=by
   obtain⟨h,rfl⟩|⟨h,h1,h2⟩:=p
   .have G:k/2^i<=k:=Int.ediv_le_self _ Z';have B:0<=k/2^i:=K6 Z' (y7 (o8 V'));omega
   omega
  have Y:0<=z->z.tdiv 2=z/2:=λh=>V6 h;have ht2:z<=0->z.tdiv 2= -((-z)/2):=λh=>(by have:=V6 (a:= -z) (b:=2) Z';rw[Int.neg_tdiv] at this;omega);have x:IntKind.i64.wrap (z.tdiv 2)=z.tdiv 2:=ck Z' Z';have d:0<k/\z.tdiv 2=k/2^(i+1)\/k<=0/\ -9223372036854775808<=z.tdiv 2/\z.tdiv 2<=0:=by
   obtain⟨h,rfl⟩|⟨h,h1,h2⟩:=p
   .refine .inl ⟨h, ?_⟩;rw[V6 (K6 Z' (y7 (o8 V'))),Int.pow_succ,Int.ediv_ediv_of_nonneg (y7 (o8 V'))]
   exact .inr ⟨h,Z',Z'⟩
  have j:il k i=(decide (0<z) && (decide (i<62) && decide (z.tmod 2=1))):=by
   unfold il;obtain⟨h,rfl⟩|⟨h,h1,h2⟩:=p
   .have B:0<=k/2^i:=K6 Z' (y7 (o8 V'));rw[w' h,U5 _ (y7 (o8 V')),Int.tmod_eq_emod_of_nonneg B];by_cases P:0<k/2^i
    .rw[w' P]
    rw[show k/2^i=0 by omega];simp
   rw[m' (show ¬0<k by omega),m' (show ¬0<z by omega),k7,k7]
  by_cases h1:0<z
  .by_cases h2:i<62
   .by_cases G:z.tmod 2=1
    .rw[w' h1,w' h2,w' G] at j;refine Vt ?_;refine u0 ?_;intro g I t y I ws I;refine Nm ?_;intro D w33 I;refine EC ?_;intro M E w34 I;exact RU
    rw[w' h1,w' h2,m' G] at j;refine Vt ?_;refine u0 ?_;intro g I t y I ws I;refine ac1 ?_;intro u e I N X W I;exact RU
   rw[w' h1,m' h2] at j;refine Vt ?_;refine cd I (Oi s q _ (F s (O' K)) R) ?_;intro g I;refine Ib ?_;intro t y I ws I;refine ac1 ?_;intro u e I N X W I;exact RU
  rw[m' h1] at j;refine Vt ?_;refine cd I (Oi s q _ (F s (O' K)) R) ?_;intro g I;refine Ib ?_;intro t y I ws I;refine ac1 ?_;intro u e I N X W I;refine jB ?_;intro I;refine afe ?_;intro I;exact Sb
 exact VW
variable {cs vs:List Value}{off:Nat}
def aQ{sz:Nat}(h1:o+sz<=cs.length)(h2:off+vs.length<=sz):xb cs (o+off) vs=xb cs o (xb ((cs.drop o).take sz) off vs):=by
 obtain⟨A,B,C,rfl,R,E⟩:∃A B C:List Value,cs=A++(B++C)/\A.length=o/\B.length=sz:=⟨cs.take o,(cs.drop o).take sz,(cs.drop o).drop sz,by rw[Y9,Y9],by simp;omega,by simp;omega⟩;subst R E;rw[List.drop_left' rfl,List.take_left' rfl];unfold xb;rw[List.take_length_add_append,W5 Z',List.take_left' rfl];have N:(A++(B++C)).drop (A.length+off+vs.length)=B.drop (off+vs.length)++C:=(by rw[P7,List.drop_length_add_append,List.drop_append_of_le_length Z']);have L:(A++(B++C)).drop (A.length+(B.take off++vs++B.drop (off+vs.length)).length)=C:=(by rw[List.drop_length_add_append,List.drop_left'];simp;omega);rw[N,L];simp
def Ap{f:α->List Value}{sz:Nat}(Y:∀x,(f x).length=sz){l:List α}{x y:α}(h:l[k]?=some x)(W:off+vs.length<=sz)(he:xb (f x) off vs=f y):xb (la f l) (k*sz+off) vs=la f (l.set k y):=by
 have u:=(z'.1 h).1;have:k*sz+sz<=l.length*sz:=by rw[<-U9];exact n_ _ u
 rw[aQ (sz:=sz) (by rw[ee Y];exact this) W,eu Y h,he,ve Y u]
def SR.adD(s:SR):s.f.ai=s.ai:=by
 unfold SR.ai;have:s.f.lo.fa+s.f.hi.fa=s.lo.fa+s.hi.fa:=by
  show(nR s.pe).fa+(nR s.Zg).fa=_;rw[Ta,Ta];unfold SR.pe SR.Zg aJ bJ;obtain h|h|h:=FN s.lo.fa s.hi.fa
  .rw[R' (by grind),Q' h]
  .rw[h];simp
  rw[Q' h,R' (by grind),Dyadic.add_comm]
 rw[this]
def gE(L)(n c:Nat)(b)(a:Nat)(u:Bool)(s:SR)(k:Nat)(w)(J:Sl w L n 6 (la SR.cells b))(F:∀s∈b,s.fin k)(B:n<=1000000)(e:k<=3000000)(K:b[a]?=some s):Calls prog 52 #[.slice L n c,.int .i64 a,.bool u] w λr V=>∃A c',r=.returned (.slice A n c')/\V.ownsRow w.heap.size 36 6 (.slice A n c') n (la SR.cells ((b.map SR.f).set a (s.f.half (nR s.f.ai) u)))/\Below w.heap.size w V:=by
 refine SI ?_;intro I m;have E:a<n:=by have:=(z'.1 K).1;omega
 have d:(b.map SR.f)[a]?=some s.f:=by rw[C',K];rfl
 obtain⟨g,rfl,H⟩:=J.at_ Z';rw[SR.adD];have j:(la SR.cells (b.map SR.f)).length=n*6:=by rw[ee SR.len,B',m]
 cases u with
 |true=>
  refine Ga (l:=[.slice (some g) n c,.int .i64 a,.bool true]) func52 ?_;refine ea ?_;refine cr I (Bn _ n c b k _ (J.ext I.below) F B e) ?_;intro C X z I;obtain⟨h,rfl⟩:=I.ib (i:=0) rfl Z';refine Vt ?_;refine cd I (Iw s k _ (F s (O' K)) e) ?_;intro D I;refine ea ?_;refine uO ?_;intro ws I;rw[N9,<-N9 (a*6),Ap (y:=s.f.half (nR s.ai) true) SR.len d (by simp) rfl] at I;exact cz
 |false=>
  refine Ga (l:=[.slice (some g) n c,.int .i64 a,.bool false]) func52 ?_;refine ea ?_;refine cr I (Bn _ n c b k _ (J.ext I.below) F B e) ?_;intro C X z I;obtain⟨h,rfl⟩:=I.ib (i:=0) rfl Z';refine Vt ?_;refine cd I (Iw s k _ (F s (O' K)) e) ?_;intro T I;refine ea ?_;refine uO ?_;intro ws I;rw[Ap (y:=s.f.half (nR s.ai) false) SR.len d (by simp) rfl] at I;exact cz
end Go.Proofs.YtbencocchdpikaaGreatDoor
