/- Lemmas for ratioEncloses, part 9. -/
import Derived.Test.YtbencocchdpikaaGreatDoorZ81
set_option linter.all false
set_option maxHeartbeats 0
namespace Go.Proofs.YtbencocchdpikaaGreatDoor
open Go.Proofs.Tryz
open Go.RowKit
abbrev ZT:=List (List UInt8×Int)
def zT(L:ZT):List TR:=L.map λx=>⟨str x.1,nR ((x.2:Int):Dyadic)⟩
def zS(L:ZT)(b:List UInt8):Int:=match L with|[]=>0|x::L=>(if x.1=b then x.2 else 0)+zS L b
def qY(a b:Int):((a+b:Int):Dyadic)=(a:Dyadic)+(b:Dyadic):=(qu a b 0).symm
def UX{a:Int}(h:(a:Dyadic)=0):a=0:=pw (p:=0) h
def SE(m:ByteArray):∀L:ZT,Ph (zT L) m=(zS L m.data.toList:Int)
 |[]=>rfl
 |x::L=>by
  show Ph (⟨str x.1,nR ((x.2:Int):Dyadic)⟩::zT L) m=((if x.1=m.data.toList then x.2 else 0)+zS L m.data.toList:Int);rw[Ue,SE m L,qY];congr 1;by_cases h:x.1=m.data.toList
  .rw[Q' h,Q' (by rw[h];exact eR m)];exact Ta _
  rw[R' h,R' (λe=>h (by rw[<-e];exact(ed _).symm))];rfl
def zC:ZT->Bool
 |[]=>true
 |[x]=> !decide (x.2=0)
 |x::y::L=> !decide (x.2=0) && (Op.bytesLess x.1 y.1 && zC (y::L))
def FU:∀{L:ZT},zC L=true->Canon (zT L):=λ{L} h=>by
 have h1:∀{L:ZT},zC L=true->Du (zT L)=true/\∀x∈L,x.2≠0:=λ{L}=>by
  induction L with
  |nil=>exact λ_=>⟨rfl,λx C=>nomatch C⟩
  |cons x L W=>
   intro h
   cases L with
   |nil=>exact⟨rfl,λy hy=>by rw[k'.1 hy];simpa[zC] using h⟩
   |cons y L=>
    simp only[zC,Z_,o7,W6] at h;obtain⟨i1,i2⟩:=W h.2.2;refine⟨?_,λz o=> ?_⟩
    .show(Nh (str x.1) (str y.1) && Du (zT (y::L)))=true;rw[i1,show Nh (str x.1) (str y.1)=true by unfold Nh;rw[ed,ed];exact h.2.1];rfl
    obtain rfl|o:=y'.1 o
    .exact h.1
    exact i2 z o
 obtain⟨i1,i2⟩:=h1 h;refine⟨Et.1 i1,λt S=> ?_,λt S=> ?_⟩
 .obtain⟨x,C,rfl⟩:=x'.1 S;show(nR _).fa≠0;rw[Ta];exact λe=>i2 x C (UX e)
 obtain⟨x,C,rfl⟩:=x'.1 S;show nR _=nR (nR _).fa;rw[Ta]
def zE(L K:ZT):Bool:=(L++K).all λx=>decide (zS L x.1=zS K x.1)
def VN{L:ZT}{b:List UInt8}(h:∀x∈L,x.1≠b):zS L b=0:=by
 induction L with
 |nil=>rfl
 |cons x L W=>rw[zS,R' (h x E'),W λy hy=>h y (u' _ hy)];rfl
def ade{L K:ZT}(h:zE L K=true)(b:List UInt8):zS L b=zS K b:=by
 by_cases F:∃x∈L++K,x.1=b
 .obtain⟨x,C,rfl⟩:=F;exact j9 (M_.1 h x C)
 rw[VN λx C e=>F ⟨x,q9 _ C,e⟩,VN λx C e=>F ⟨x,H_ _ C,e⟩]
def VO{L K:ZT}(h:(zC K && zE K L)=true):oa (zT L)=zT K:=by
 rw[Z_] at h;exact(Tu (FU h.1) λm=>by rw[SE,SE,ade h.2]).symm
def zP(P Q:ZT):ZT:=P.flatMap λx=>Q.map λy=>((mulL x.1 y.1).1,x.2*y.2)
def zPE(P Q:ZT):List Int:=P.flatMap λx=>Q.map λy=>(mulL x.1 y.1).2
def US(L:ZT):(zT L).length=L.length:=B' _
def zM(v:Int)(L:ZT):Bool:=L.all λx=>Le x.1 && decide ((x.1.length:Int)=v)
def abA{v:Int}{L:ZT}(h:zM v L=true):∀t∈zT L,yf v t=true:=λt S=>by
 obtain⟨x,C,rfl⟩:=x'.1 S;have:=M_.1 h x C;unfold yf;show(Le (str x.1).data.toList && decide (((str x.1).size:Int)=v))=true;rw[ed,eh];exact this
def HX{v:Int}{L:ZT}(Y:gh v=true)(h:zM v L=true)(B:L.length<=4096):Fl v (zT L)=0:=by
 unfold Fl;rw[R',R' (by rw[US];omega)]
 .unfold Qf;rw[R'];have:=Zb (zT L);rw[US] at this;omega
 rintro (h1|h1)
 .rw[Y] at h1;cases h1
 obtain⟨t,S,h2⟩:=E9.1 h1;rw[abA h t S] at h2
 cases h2
def zB(L:ZT):Bool:=L.all λx=>decide (x.2.natAbs<256) && decide (x.1.length<=50)
def vM{L:ZT}(h:zB L=true):Gh 24 (zT L)/\∀t∈zT L,t.m.size<=50:=by
 refine⟨λt S=> ?_,λt S=> ?_⟩
 .obtain⟨x,C,rfl⟩:=x'.1 S;have:=O8.1 (M_.1 h x C);have z:Sz 24 ((x.2:Int):Dyadic):=ac2 (m:=x.2) (e:=0) (j9 this.1) V' V';exact⟨z.ok V',by show Sz 24 (nR _).fa;rw[Ta];exact z⟩
 obtain⟨x,C,rfl⟩:=x'.1 S;have:=O8.1 (M_.1 h x C);show(str x.1).size<=50;rw[eh];exact j9 this.2
variable {n:Nat}
def PS{v:Int}{A:Option Addr}{c:Nat}{L:ZT}(h:zB L=true)(B:n<=1000000)(E:n<=c):(⟨v,A,n,c,zT L⟩:PX).qf 24:=⟨B,E,(vM h).1,λt S=>p' ((vM h).2 t S) V'⟩
def ahp(n:Int):ZT:=[([0,1],n),([1,0],1)]
def Ro{g h:PX}(h1:g.e=0)(h2:h.e=0)(G:h.v=g.v):Te [g,h]=0:=by
 have e:[g,h].find? (λg=>decide (g.e≠0))=none:=Sg (P9.2 λx C=>by
  obtain rfl|C:=y'.1 C
  .simp[h1]
  rw[k'.1 C];simp[h2])
 unfold Te;rw[e];show(if 2=0\/Pw [g,h]=true then(1:Int) else 0)=0;rw[R'];rintro (J|J)
 .cases J
 obtain⟨x,C,Q⟩:=E9.1 J;have a:x.v≠g.v:=j9 Q;obtain rfl|C:=y'.1 C
 .exact a rfl
 rw[k'.1 C] at a;exact a G
def afz(ds:List Int):VP:=λv W=>∃g:Option Addr×Nat,v=.slice g.1 ds.length g.2/\Sl W g.1 ds.length 1 (Fa ds)
def Ew{g h:PX}(w)(s:g.at_ w)(I:h.at_ w)(e:g.v=h.v/\g.ts=h.ts)(B:g.n<=1000000)(hm:h.n<=1000000):Zc 13 #[g.V,h.V] w (.bool true):=(LG g h w s I B hm).mono λr V ⟨v,H,a,F⟩=>⟨by rw[H,a.2 e],F⟩
structure ah8(E:Int)(g:PX):Prop where
 bad:E≠0->g.v=0/\g.ts=[]
 ok:E=0->g.e=0/\Gh 100000 g.ts/\∀t∈g.ts,t.m.size<=100000
def vx{l:List TR}(h:Qf l=0):(oa l).length<=4096:=by
 unfold Qf at h;by_cases z:4096<(oa l).length
 .rw[Q' z] at h;omega
 omega
variable {j k:Nat}
def bo{l:List TR}(h:Gh k l)(u:k+l.length<=j)(hj:j<=3999990):Gh j (oa l):=λt S=>by
 have G:Sz j t.c.fa:=(Pq (λt S=>(h t S).2) t S).mono u;exact⟨by rw[(Me l).nf t S];exact G.ok hj,G⟩
def Ks{l:List TR}(h:∀t∈l,t.m.size<=100000):∀t∈oa l,t.m.size<=100000:=λt S=>by
 obtain⟨s,K,e⟩:=ll t S;rw[<-e];exact h s K
def kP{X:List PX}{v:Int}(J:X≠[])(he:∀g∈X,g.e=0)(A:∀g∈X,g.v=v):Te X=0:=by
 unfold Te;rw[Sg (P9.2 λx C=>by simp[he x C])];show(if X.length=0\/Pw X=true then(1:Int) else 0)=0;rw[R'];rintro (h|h)
 .exact J (s9 h)
 obtain⟨x,C,Q⟩:=E9.1 h;have a:x.v≠Ff X:=j9 Q;obtain⟨g,l,rfl⟩:=g6 J;exact a ((A x C).trans (A g E').symm)
def zj{l:List TR}(h:l.length<=4096):Qf l=0:=by
 unfold Qf;have:=Zb l;rw[R' Z']
variable {ts:List TR}
def se.v0{v:Int}{g:PX}(o:se 0 v ts g):g.v=v:=o.v
def se.t0{v:Int}{g:PX}(o:se 0 v ts g):g.ts=ts:=o.ts
def YL(p:PX)(q):ez [p,q]=p.ts++q.ts:=by show p.ts++(q.ts++[])=_;rw[I_]
def wg(j:Nat)(t:TR):Nat:=match t.m.data.toList[j]? with|some e=>e.toNat|none=>0
def Kp{t:TR}{e:UInt8}(h:t.m.data.toList[j]?=some e):wg j t=e.toNat:=by unfold wg;rw[h]
def Ia(p:List TR)(j n:Nat):List TR:=p.filter λt=>decide (wg j t=n)
def Lg(q:List TR)(sub:List TR->Int×List TR)(p:List TR)(j n:Nat)(a:Int×List TR):Int×List TR:=
 if a.1≠0 then a else if a.2.length=0/\(Ia p j n).length=0 then a else
 if Ce a.2 q≠0 then(Ce a.2 q,[]) else if(sub (Ia p j n)).1≠0 then((sub (Ia p j n)).1,[]) else
 if Qf (oa (Cb a.2 q)++(sub (Ia p j n)).2)≠0 then(Qf (oa (Cb a.2 q)++(sub (Ia p j n)).2),[]) else(0,oa (oa (Cb a.2 q)++(sub (Ia p j n)).2))
def Ya(q:List TR)(sub:List TR->Int×List TR)(p:List TR)(j:Nat):Nat->Int×List TR
 |0=>(0,[])
 |i+1=>Lg q sub p j (127-i) (Ya q sub p j i)
def ji(q)(sub:List TR->Int×List TR)(p)(j i:Nat):Ya q sub p j (i+1)=Lg q sub p j (127-i) (Ya q sub p j i):=rfl
def Ud(v:Int):List (List TR)->Nat->List TR->Int×List TR
 |[],_,p=>(0,oa [⟨Sd v,(p.map TR.c).headD (nR 0)⟩])
 |q::Q,j,p=>Ya q (Ud v Q (j+1)) p j 128
def vh{q:List TR}{sub:List TR->Int×List TR}{p:List TR}{i:Nat}(h:(Ya q sub p j i).1≠0)(u:i<=k):Ya q sub p j k=Ya q sub p j i:=by
 induction k with
 |zero=>
  obtain rfl:i=0:=Z';rfl
 |succ k W=>
  by_cases e:i=k+1
  .rw[e]
  have:=W Z';show Lg q sub p j (127-k) (Ya q sub p j k)=_;rw[this];unfold Lg;rw[Q' h]
def mH{p q:List TR}(hp:Gh k p)(R:Gh j q)(sq:∀t∈q,t.m.size<=100000)(h:Ce p q=0)(u:k+j<=900000):Gh (k+j+p.length*q.length) (oa (Cb p q))/\∀t∈oa (Cb p q),t.m.size<=100000:=by
 obtain⟨L,_,z⟩:=Vl h;have W:=Tp hp R Z';have o:=Pq λt S=>(W t S).2;rw[Pk] at o;refine⟨λt S=> ?_,(lN hp R sq h u).2⟩;have:Sz (k+j+p.length*q.length) t.c.fa:=o t S;refine⟨?_,this⟩;rw[(Me _).nf t S];exact this.ok Z'
structure mj(v:Int)(k:Nat)(l:List TR):Prop where
 e:Ye v l=0
 ok:Gh k l
 sz:∀t∈l,t.m.size<=100000
def mj.mono{v:Int}{l:List TR}(h:mj v k l)(u:k<=j):mj v j l:=⟨h.e,h.ok.mono u,h.sz⟩
def mj.nil{v:Int}(A:gh v=true):mj v k []:=⟨qM A (N' _) (λ_ h=>nomatch h) ⟨.nil,(λ_ h=>nomatch h),(λ_ h=>nomatch h)⟩,(λ_ h=>nomatch h),(λ_ h=>nomatch h)⟩
def mj.len{v:Int}{l:List TR}(h:mj v k l):l.length<=4096:=(Kb h.e).2.1
def sE{v:Int}{p q:List TR}{T:Nat}(hp:mj v k p)(R:mj v j q)(S:q.length<=T)(h:Ce p q=0)(u:k+j<=900000):mj v (k+j+4096*T) (oa (Cb p q)):=by
 obtain⟨L,P,z⟩:=Vl h;obtain⟨f1,f2,f3,f4⟩:=Kb hp.e;have:=mH hp.ok R.ok R.sz h u;have hm:p.length*q.length<=4096*T:=O9 hp.len S;exact⟨pg f1 z (Up f3 P),this.1.mono Z',this.2⟩
def mN{v:Int}{a b:List TR}(M:mj v k a)(F:mj v k b)(h:Qf (a++b)=0)(u:k<=3000000):mj v (k+8192) (oa (a++b)):=by
 obtain⟨f1,f2,f3,f4⟩:=Kb M.e;obtain⟨T,j,K,X⟩:=Kb F.e;have Q:(a++b).length<=8192:=by rw[D'];omega
 refine⟨pg f1 (vx h) λt S=> ?_,bo (λt S=> ?_) (show k+(a++b).length<=k+8192 by omega) Z',Ks λt S=> ?_⟩
 .obtain h|h:=A_.1 S
  .exact f3 t h
  exact K t h
 .obtain h|h:=A_.1 S
  .exact M.ok t h
  exact F.ok t h
 obtain h|h:=A_.1 S
 .exact M.sz t h
 exact F.sz t h
def rR{v:Int}{q p:List TR}{sub:List TR->Int×List TR}{a:Int×List TR}{S K T B b:Nat}(M:mj v S a.2)(R:mj v K q)(c:q.length<=T)(F:(sub (Ia p j n)).1=0->mj v B (sub (Ia p j n)).2)(h1:S+K+4096*T+8192<=b)(h2:B+8192<=b)(J:b<=900000) (h:(Lg q sub p j n a).1=0):mj v b (Lg q sub p j n a).2:=by
 unfold Lg at h |-;by_cases L:a.1≠0
 .rw[Q' L] at h;exact absurd h L
 rw[R' L] at h |-;by_cases X:a.2.length=0/\(Ia p j n).length=0
 .rw[Q' X];exact M.mono Z'
 rw[R' X] at h |-;by_cases Y:Ce a.2 q≠0
 .rw[Q' Y] at h;exact absurd h Y
 rw[R' Y] at h |-;by_cases e:(sub (Ia p j n)).1≠0
 .rw[Q' e] at h;exact absurd h e
 rw[R' e] at h |-;by_cases H:Qf (oa (Cb a.2 q)++(sub (Ia p j n)).2)≠0
 .rw[Q' H] at h;exact absurd h H
 rw[R' H];exact(mN ((sE M R c Z' Z').mono (show _<=b-8192 by omega)) ((F Z').mono Z') Z' Z').mono Z'
def nU{q p:List TR}{sub:List TR->Int×List TR}{a:Int×List TR}(M:a.1≠0->a.2=[])(h:(Lg q sub p j n a).1≠0):(Lg q sub p j n a).2=[]:=by
 unfold Lg at h |-;by_cases L:a.1≠0
 .rw[Q' L];exact M L
 rw[R' L] at h |-;by_cases X:a.2.length=0/\(Ia p j n).length=0
 .rw[Q' X] at h;exact absurd h L
 rw[R' X] at h |-;by_cases Y:Ce a.2 q≠0
 .rw[Q' Y]
 rw[R' Y] at h |-;by_cases e:(sub (Ia p j n)).1≠0
 .rw[Q' e]
 rw[R' e] at h |-;by_cases H:Qf (oa (Cb a.2 q)++(sub (Ia p j n)).2)≠0
 .rw[Q' H]
 rw[R' H] at h;exact absurd rfl h
def dD{q p:List TR}{sub:List TR->Int×List TR}{j:Nat}:∀i,(Ya q sub p j i).1≠0->(Ya q sub p j i).2=[]
 |0=>λ_=>rfl
 |i+1=>nU (dD i)
def mQ{p:List TR}(h:∀t∈p,wg j t<n):Ia p j n=[]:=List.filter_eq_nil_iff.2 λt S=>by
 have:=h t S;simp only[Y_];omega
def Pg{p:List TR}:∀t∈Ia p j n,t∈p:=λt S=>(A9.1 S).1
def Wh{q p:List TR}{sub:List TR->Int×List TR}{j D:Nat}(h:∀t∈p,wg j t<=D):∀i,i+D<=127->Ya q sub p j i=(0,[])
 |0,_=>rfl
 |i+1,hi=>by
  show Lg q sub p j (127-i) (Ya q sub p j i)=_;rw[Wh h i Z',show Lg q sub p j (127-i) (0,[])=(0,[]) by
   unfold Lg;rw[R' V',Q' ⟨rfl,by rw[mQ λt S=>by have:=h t S;omega];rfl⟩]]
def Ge(c:Nat):List Nat->Nat->Nat
 |[],k=>k
 |d::ds,k=>Ge c ds k+d*c+8192
def Jq(c k:Nat):Ge c [] k=k:=rfl
def En(c d k:Nat)(ds):Ge c (d::ds) k=Ge c ds k+d*c+8192:=rfl
def ct{v:Int}{q p:List TR}{sub:List TR->Int×List TR}{j D K T B c:Nat}(A:gh v=true)(a:mj v K q)(S:q.length<=T)(r:∀t∈p,wg j t<=D)(R:D<=127)(F:∀n,(sub (Ia p j n)).1=0->mj v B (sub (Ia p j n)).2)(E:K+4096*T+8192<=c)(d:B+D*c+8192<=900000):
  ∀i,i<=128->(Ya q sub p j i).1=0->mj v (B+(i+D-128)*c+8192) (Ya q sub p j i).2
 |0,_,_=>mj.nil A
 |i+1,hi,J=>by
  by_cases h1:i+1+D<=127
  .rw[Wh r _ h1];exact mj.nil A
  have h2:(Ya q sub p j i).1=0:=(by refine N8 λc=> ?_;rw[vh c (Nat.le_succ i)] at J;exact c J);have hle:(i+1+D-128)*c<=D*c:=n_ _ Z';by_cases G:i+D<=127
  .have b:=Wh (q:=q) (sub:=sub) r i G;show mj v _ (Lg q sub p j (127-i) (Ya q sub p j i)).2;have P:(Lg q sub p j (127-i) (Ya q sub p j i)).1=0:=J;rw[b] at P |-;rw[show i+1+D-128=0 by omega,W7];unfold Lg at P |-;rw[R' V'] at P |-;by_cases X:((0:Int),([]:List TR)).2.length=0/\(Ia p j (127-i)).length=0
   .rw[Q' X];exact mj.nil A
   rw[R' X] at P |-;by_cases Y:Ce [] q≠0
   .rw[Q' Y] at P;exact absurd P Y
   rw[R' Y] at P |-;by_cases e:(sub (Ia p j (127-i))).1≠0
   .rw[Q' e] at P;exact absurd P e
   rw[R' e] at P |-;by_cases H:Qf (oa (Cb [] q)++(sub (Ia p j (127-i))).2)≠0
   .rw[Q' H] at P;exact absurd P H
   rw[R' H];have f:mj v B (oa (Cb [] q)):=mj.nil A;exact(mN f (F _ Z') Z' Z').mono Z'
  have W:=ct A a S r R F E d i Z' h2;have N:(i+1+D-128)*c=(i+D-128)*c+c:=by rw[show i+1+D-128=(i+D-128)+1 by omega,U9]
  rw[N] at hle |-;generalize (i+D-128)*c=y at*;generalize D*c=z at*;exact rR W a S (F _) Z' Z' Z' J
def Av{v:Int}{x:NR}(A:gh v=true)(C:Sz k x.fa)(u:k<=900000):mj v (k+1) (oa [⟨Sd v,x⟩]):=by
 have h1:=Yc.1 A;have h2:=sn h1.1;refine⟨pg A (p' (Zb _) (show 1<=4096 by decide)) λt S=> ?_,λt S=> ?_,λt S=> ?_⟩
 .rw[k'.1 S];unfold yf;rw[Z_,Y_];exact⟨mv v,h2⟩
 .have h1:Sz (k+1) t.c.fa:=Pq (k:=k) (l:=[⟨Sd v,x⟩]) (λs K=>by rw[k'.1 K];exact C) t S;exact⟨by rw[(Me _).nf t S];exact h1.ok Z',h1⟩
 obtain⟨s,K,e⟩:=ll t S;rw[<-e,k'.1 K];show(Sd v).size<=100000;omega
def AD{v:Int}{K T L:Nat}(A:gh v=true)(a:K+4096*T+8192<=L):∀(Q:List (List TR))(j:Nat)(p:List TR)(ds:List Nat)(k:Nat),(∀q∈Q,mj v K q/\q.length<=T)->Gh k p->ds.length=Q.length->(∀(i d:Nat),ds[i]?=some d->d<=127/\∀t∈p,wg (j+i) t<=d)->Ge L ds (k+1)<=900000->(Ud v Q j p).1=0->mj v (Ge L ds (k+1)) (Ud v Q j p).2:=by
 intro Q
 induction Q with
 |nil=>
  intro j p ds k _ y F _ E _;obtain rfl:ds=[]:=n8.1 F;rw[Jq] at E |-;refine Av A ?_ Z';exact MZ
 |cons q Q W=>
  intro j p ds k R y F b E J
  cases ds with
  |nil=>cases F
  |cons d ds=>
   have c:=b 0 d rfl;rw[En] at E |-;have l:Ge L ds (k+1)<=900000:=Z';have g:∀n,(Ud v Q (j+1) (Ia p j n)).1=0->mj v (Ge L ds (k+1)) (Ud v Q (j+1) (Ia p j n)).2:=λn B=>(by refine W (j+1) (Ia p j n) ds k (λr H=>R r (u' _ H)) (λt S=>y t (Pg t S)) (by simpa using F) (λi e he=> ?_) l B;have h2:=b (i+1) e (by simpa using he);refine⟨h2.1,λt S=> ?_⟩;have G:=h2.2 t (Pg t S);rwa[show j+1+i=j+(i+1) by omega]);have h1:=ct (sub:=Ud v Q (j+1)) (p:=p) (j:=j) A (R q E').1 (R q E').2 c.2 c.1 g a E 128 (F' _) J;rw[show 128+d-128=d by omega] at h1;exact h1
def tG:∀{a b:List UInt8}{j:Nat}{x y:UInt8},Op.bytesLess a b=true->a.take j=b.take j->a[j]?=some x->b[j]?=some y->x.toNat<=y.toNat
 |[],_,j,x,y,_,_,C,_=>by simp at C
 |_,[],j,x,y,_,_,_,hy=>by simp at hy
 |c::a,d::b,0,x,y,h,_,C,hy=>by
  simp only[q7,E8] at C hy;subst C;subst hy;simp only[Op.bytesLess,Z7,Z_,Y_,W8] at h;obtain h|⟨h,_⟩:=h
  .exact O6 (UInt8.lt_iff_toNat_lt.1 h)
  rw[h];exact F' _
 |c::a,d::b,j+1,x,y,h,S,C,hy=>(by simp only[J7,U6] at S;obtain⟨rfl,S⟩:=S;simp only[n7] at C hy;refine tG (a:=a) (b:=b) ?_ S C hy;simpa[Op.bytesLess] using h)
structure cJ(v:Int)(j:Nat)(p:List TR):Prop where
 nw:xx p
 may:∀t∈p,yf v t=true
 pre:∀a∈p,∀b∈p,a.m.data.toList.take j=b.m.data.toList.take j
def cJ.size{v:Int}{p:List TR}(h:cJ v j p):∀t∈p,(t.m.data.toList.length:Int)=v:=λt S=>by
 rw[<-td];exact j9 (O8.1 (h.may t S)).2
def cJ.get{v:Int}{p:List TR}(h:cJ v j p)(hj:(j:Int)<v){t:TR}(S:t∈p):∃e:UInt8,t.m.data.toList[j]?=some e/\wg j t=e.toNat/\e.toNat<128:=by
 obtain⟨e,he⟩:=aa (l:=t.m.data.toList) (k:=j) (by have:=h.size t S;omega);exact⟨e,he,Kp he,kq (O8.1 (h.may t S)).1 he⟩
def cJ.mono{v:Int}{p:List TR}(h:cJ v j p)(hj:(j:Int)<v):p.Pairwise λa b=>wg j a<=wg j b:=by
 refine List.Pairwise.imp_of_mem (λ{a b} M F Q=> ?_) h.nw;obtain⟨x,C,ex,_⟩:=h.get hj M;obtain⟨y,hy,c,_⟩:=h.get hj F;rw[ex,c];exact tG Q (h.pre a M b F) C hy
def cJ.with{v:Int}{p:List TR}(h:cJ v j p)(hj:(j:Int)<v):cJ v (j+1) (Ia p j n):=by
 refine⟨h.nw.filter _,λt S=>h.may t (Pg t S),λa M b F=> ?_⟩;obtain⟨J,E⟩:=A9.1 M;obtain⟨c,R⟩:=A9.1 F;obtain⟨x,C,ex,_⟩:=h.get hj J;obtain⟨y,hy,e,_⟩:=h.get hj c;have d:x=y:=g7.1 (by rw[<-ex,<-e,j9 E,j9 R]);rw[ja C,ja hy,h.pre a J b c,d]
variable {Y:Nat}{α:Type}
def jR{p:List α}{z:Nat}(h:Y<=z):p.drop Y=(p.drop Y).take (z-Y)++p.drop z:=by
 have:p.drop z=(p.drop Y).drop (z-Y):=by rw[U7];congr 1;omega
 rw[this,Y9]
def TF{p:List TR}{z:Nat}(i:Y<=z)(h1:∀t∈p.take Y,wg j t<n)(h2:∀t∈(p.drop Y).take (z-Y),wg j t=n)(G:∀t∈p.drop z,n<wg j t):Ia p j n=(p.drop Y).take (z-Y):=by
 have e:p=p.take Y++((p.drop Y).take (z-Y)++p.drop z):=by
  have:p.drop z=(p.drop Y).drop (z-Y):=by rw[U7];congr 1;omega
  rw[this,Y9,Y9]
 unfold Ia
 conv=>lhs;rw[e]
 rw[K7,K7,List.filter_eq_nil_iff.2,List.filter_eq_self.2,List.filter_eq_nil_iff.2,J',I_]
 .intro t S;have:=G t S;simp only[Y_];omega
 .intro t S;have:=h2 t S;simpa using this
 intro t S;have:=h1 t S;simp only[Y_];omega
def qO{p:List TR}{x:TR}(h:p.Pairwise λa b=>wg j a<=wg j b)(C:p[Y]?=some x)(B:wg j x<n):∀t∈p.take (Y+1),wg j t<n:=λt S=>by
 rw[ja C] at S;obtain S|S:=A_.1 S
 .have e:p=p.take Y++x::p.drop (Y+1):=by rw[<-Wf C,Y9]
  rw[e,List.pairwise_append] at h;have:=h.2.2 t S x E';omega
 obtain rfl:=k'.1 S;exact B
def ahA(p:PX)(i:Int):Int:=if p.e=0 then(if i<0\/p.v<=i then 1 else 0) else p.e
def agx(i:Nat)(t:TR):Option TR:=match t.m.data.toList[i]? with|some e=>if e.toNat=0 then none else some ⟨str (t.m.data.toList.set i (e-1)),nR (t.c.fa*((e.toNat:Int):Dyadic))⟩|none=>none
def ahS(i:Nat)(l:List TR):List TR:=l.filterMap (agx i)
variable {W Z w w0:World}
def JJ.nN{H L:List HE}(Q:JJ w0 H w W)(K:Hp w0 H w)(F:w.heap.size<=Z.heap.size)(a:Hp Z L W):Hp w0 (L++H) W:=
 K.join (⟨Q.bl,λx C=>dp (a.own x C) F,a.nd⟩:Hp w L W)
variable {E:Int}{base:Nat}
def Gn(base:Nat)(E v:Int)(ts:List TR):VP:=Sh base E v ts
def Gn.ext{v:Int}(x:Value)(w V)(h:Gn base E v ts x w)(F:Below w.heap.size w V):Gn base E v ts x V:=Sh.ext x w V h F
def Cw(v:Int):oa [⟨Sd v,nR 0⟩]=[]:=by
 unfold oa vi Gq;rfl
def BK(lA:Option Addr)(lc K T c0:Nat)(v:Int)(ls:List PX)(hv:gh v=true)(hlc:ls.length<=lc)(hl12:ls.length<=12)(hls:∀g∈ls,mj v K g.ts/\g.v=v/\g.qf K/\g.ts.length<=T)(hc0:K+4096*T+8192<=c0)(hc1:c0<=440000):
  ∀(Q:List PX)(j:Nat)(p:List TR)(A:Option Addr)(n c:Nat)(ds:List Nat)(k:Nat)(w:World),ls.drop j=Q->j<=ls.length->Nd w->Sl w lA ls.length 2 (la PX.cells ls)->(∀g∈ls,g.at_ w)->Sl w A n 4 (la TR.cells p)->n<=c->cJ ls.length j p->Gh k p->n<=4096->ds.length=Q.length->(∀(i d:Nat),ds[i]?=some d->d<=127/\∀t∈p,wg (j+i) t<=d)->Ge c0 ds (k+1)<=440000->
  Calls prog 280 #[.slice A n c,.int .i64 j,.slice lA ls.length lc,.int .i64 v] w λr V=>∃g:PX,se (Ud v (Q.map PX.ts) j p).1 v (Ud v (Q.map PX.ts) j p).2 g/\r=.returned (.tuple #[.agg #[.int .i64 g.v,.slice g.A g.n g.c],.int .i64 (Ud v (Q.map PX.ts) j p).1])/\Hp w [g.row] V:=by
 intro Q;have hK:K<=440000:=Z';have hco:Er v=0:=R' (by rw[hv];decide)
 induction Q with
 |nil=>
  intro j p A n c ds k w hq hj hT hL hat hS hnc hsr hok hn H hD hB;have I:=Hp.start w;have hln:=hS.Aa TR.len V';obtain rfl:j=ls.length:=(by exact UZ);obtain rfl:ds=[]:=n8.1 H;rw[Jq] at hB;have y:=λc hc Z B=>An v c k Z B hc Z';rw[hco] at y
  cases p with
  |nil=>
   refine aeV ?_;refine Ga (l:=[.slice A 0 c,.int .i64 ls.length,.slice lA ls.length lc,.int .i64 v]) func280 ?_;refine Gb ?_;intro b8 w8 I;refine Hi (y (nR 0) ⟨(Sz.zero k).ok Z',by rw[Ta];exact Sz.zero k⟩ _ (hT.hp I)) rfl ?_;rintro e_ w25 ⟨g,og,rfl,h3⟩;refine⟨_,rfl, ?_⟩;replace I:=I.join h3;refine WZ ?_;intro ws I;exact Fu
  |cons t p=>
   have hn1:p.length+1=n:=by simpa using hln
   have S:=hok t E';obtain⟨ad,rfl,hr⟩:=hS.at_ Z';show Calls _ _ _ _ λr V=>∃g:PX,se 0 v (oa [⟨Sd v,t.c⟩]) g/\r=.returned (.tuple #[.agg #[.int .i64 g.v,.slice g.A g.n g.c],.int .i64 0])/\Hp w [g.row] V;refine Ga (l:=[.slice (some ad) n c,.int .i64 ls.length,.slice lA ls.length lc,.int .i64 v]) func280 ?_;refine Gb ?_;intro b8 w8 I;refine sv (Ua (vs:=[_,_,_]) pa.out rfl (((hr.ext I.below).recAt TR.len (show(t::p)[0]?=some t from rfl)).drop 1) rfl) ?_;refine Vg (y t.c S _ (hT.hp I)) ?_;rintro e_ w33 ⟨g,og,rfl,h3⟩;refine⟨_,rfl, ?_⟩;replace I:=I.join h3;refine WZ ?_;intro ws I;exact Fu
 |cons q Q ih=>
  intro j p A n c ds k w hq hj hT hL hat hS hnc hsr hok hn H hD hB;have I:=Hp.start w;have hln:=hS.Aa TR.len V'
  cases ds with
  |nil=>cases H
  |cons d ds=>
   have hd:=hD 0 d rfl;have hjl:j<ls.length:=(by exact G1);have hqj:ls[j]?=some q:=by rw[<-List.head?_drop,hq];rfl
   have hqs:ls.drop (j+1)=Q:=by rw[<-List.tail_drop,hq];rfl
   obtain⟨hqk,hqv,hql,hqT⟩:=hls q (O' hqj);rw[En] at hB;have hB1:Ge c0 ds (k+1)<=440000:=Z';have hmono:=hsr.mono Z';refine adY ?_;have hDs:∀n (i e:Nat),ds[i]?=some e->e<=127/\∀t∈Ia p j n,wg (j+1+i) t<=e:=λn i e he=>(by have h2:=hD (i+1) e (by simpa using he);refine⟨h2.1,λt S=> ?_⟩;have h3:=h2.2 t (Pg t S);rwa[show j+1+i=j+(i+1) by omega]);have hrec:∀(m Y z:Nat)(Z:World),Nd Z->Below w.heap.size w Z->Y<=z->z<=n->Ia p j m=(p.drop Y).take (z-Y)->Calls prog 280 #[.slice (if c=Y then A else A.map (·.add (Y*4))) (z-Y) (c-Y),.int .i64 ((j:Int)+1),.slice lA ls.length lc,.int .i64 v] Z λr V=>∃g:PX,se (Ud v (Q.map PX.ts) (j+1) (Ia p j m)).1 v (Ud v (Q.map PX.ts) (j+1) (Ia p j m)).2 g/\r=.returned (.tuple #[.agg #[.int .i64 g.v,.slice g.A g.n g.c],.int .i64 (Ud v (Q.map PX.ts) (j+1) (Ia p j m)).1])/\Hp Z [g.row] V:=λm Y z Z B hb h1 h2 hw=>(by have hcut:=(hS.ext hb).cut h1 h2 hnc;rw[Ai TR.len,wi TR.len,<-hw] at hcut;exact ih (j+1) (Ia p j m) _ (z-Y) (c-Y) ds k Z hqs Z' B (hL.ext hb) (λg s=>(hat g s).ext hb) hcut Z' (hsr.with Z') (λt S=>hok t (Pg t S)) Z' (by simpa using H) (hDs m) hB1);have hsub:∀m,(Ud v (Q.map PX.ts) (j+1) (Ia p j m)).1=0->mj v (Ge c0 ds (k+1)) (Ud v (Q.map PX.ts) (j+1) (Ia p j m)).2:=λm hm=>(by refine AD hv hc0 (Q.map PX.ts) (j+1) (Ia p j m) ds k (λr hr=> ?_) (λt S=>hok t (Pg t S)) (by rw[B'];simpa using H) (hDs m) Z' hm;exact aa9);generalize Ud v (Q.map PX.ts) (j+1)=sub at hrec hsub |-;have hlim:=ct (sub:=sub) (p:=p) (j:=j) hv hqk hqT hd.2 hd.1 hsub hc0 Z';have hlim2:∀i,i<=128->(Ya q.ts sub p j i).1=0->mj v 440000 (Ya q.ts sub p j i).2:=λi hi h0=>(hlim i hi h0).mono (by
    have:(i+d-128)*c0<=d*c0:=n_ _ Z';omega)
   have y:=λZ B=>An v (nR 0) 0 Z B ⟨(Sz.zero 0).ok V',by rw[Ta];exact Sz.zero 0⟩ V';rw[hco,Cw] at y;refine Ga func280 ?_;refine Gb ?_;intro b8 w8 I;refine Vg (y _ (hT.hp I)) ?_;rintro e_ w39 ⟨g,og,rfl,h3⟩;refine⟨_,rfl, ?_⟩;replace I:=I.join h3;simp only[I',J'] at I;refine Ib ?_;intro b10 w10 I ws I;refine Wk [11,12,13,14,15,44,45,46,47,48,49,50,51,52,53,54,55,56,57,58,59,60,61,62,63,64,65,66,67,68,69,70,71,72,73,74,75,76,77,78,79,80,81,82,83,84,85,86,87,88,89,90,91,92,93,94,95,96,97,98,99,100,101,102,103,104,105,106,107,108,109,110,111,112] 11 12 13 (λe z nv V=>∃(i F:Nat)(e_ M:Int)(R:Option Addr)(on P:Nat)(os:List TR),i<=128/\nv=.int .i64 (127-(i:Int))/\z=.int .i64 F/\e=.int .i64 e_/\e_=(Ya q.ts sub p j i).1/\F<=n/\(e_=0->M=v/\os=(Ya q.ts sub p j i).2/\(∀t∈p.take F,wg j t<128-i)/\(∀t∈p.drop F,128-i<=wg j t))/\Hp w [.blk b10 24 [.int .i64 M,.slice R on P] (0,0),.row R on P 72 4 (la TR.cells os),.blk b8 24 [.int .i64 0,.slice none 0 0] (0,0)] V) (λ_ _ nv _=>(intOf nv+1).toNat) ?_ ?_
   .refine⟨0,n,0,g.v,g.A,g.n,g.c,g.ts,N' _,rfl,rfl,rfl,rfl,F' _,λ_=>⟨og.v,og.ts,λt S=> ?_,λt S=> ?_⟩,I⟩
    .obtain⟨x,_,hx,h8⟩:=hsr.get Z' (Z8 S);rw[hx];exact h8
    rw[T8 Z'] at S
    cases S
   clear I og h3;rintro ρ' e_ F nv_ V ⟨i,z,e,M,R,on,P,os,hi,rfl,rfl,rfl,he,hen,E,I⟩;by_cases y:i<128/\e=0
   .obtain⟨hi8,rfl⟩:=y;obtain⟨rfl,rfl,hlo,hhi⟩:=E rfl;clear E;obtain⟨m,hm⟩:∃m,m=127-i:=⟨_,rfl⟩;rw[show(127-(i:Int))=(m:Int) by omega];refine ea ?_;refine az [14,53,54,55,56,57,58,59,60,61,62,63,64,65,66,67,68,69] 14 (λf V=>∃Y:Nat,Y<=z/\f=.int .i64 Y/\Ia p j m=(p.drop Y).take (z-Y)/\(∀t∈p.take Y,wg j t<m)/\Hp w [.blk b10 24 [.int .i64 M,.slice R on P] (0,0),.row R on P 72 4 (la TR.cells (Ya q.ts sub p j i).2),.blk b8 24 [.int .i64 0,.slice none 0 0] (0,0)] V) ?_ ?_
    .refine rf 14 (λf V=>∃Y:Nat,Y<=z/\f=.int .i64 Y/\(∀t∈(p.drop Y).take (z-Y),wg j t=m)/\Hp w [.blk b10 24 [.int .i64 M,.slice R on P] (0,0),.row R on P 72 4 (la TR.cells (Ya q.ts sub p j i).2),.blk b8 24 [.int .i64 0,.slice none 0 0] (0,0)] V) (λf _=>(intOf f).toNat) ?_ ?_
     .exact⟨z,F' _,rfl,(λt S=>by rw[t_] at S;cases S),I⟩
     clear I;rintro ρ' f V ⟨Y,o,rfl,L,I⟩;by_cases h0:0<Y
     .obtain⟨Y,rfl⟩:∃g,Y=g+1:=⟨Y-1,Z'⟩;obtain⟨x,hx⟩:=aa (l:=p) (k:=Y) Z';obtain⟨ad,rfl,hr⟩:=hS.at_ Z';obtain⟨e,hex,hxe,h8⟩:=hsr.get Z' (O' hx);by_cases hem:e.toNat=m
      .refine L1 ?_;refine⟨⟨Y,Z',by show Value.int .i64 (((Y+1:Nat):Int)-1)=_;congr 1;omega,λt S=> ?_,I⟩,by show(((Y+1:Nat):Int)-1).toNat<((Y+1:Nat):Int).toNat;omega, ?_⟩
       .rw[Wf hx,show z-Y=(z-(Y+1))+1 by omega,J7] at S;obtain rfl|S:=y'.1 S
        .rw[hxe,hem]
        exact L t S
       exact Sb
      have hlt:e.toNat<m:=(by have:=hlo x (by rw[show z=(Y+1)+(z-(Y+1)) by omega,List.take_add];exact q9 _ (by rw[ja hx];exact H_ _ E'));omega);have hall:=qO hmono hx (n:=m) (by rw[hxe];exact hlt);refine L1 ?_;refine⟨⟨Y+1,o,rfl,TF o hall L (λt S=>by have:=hhi t S;omega),hall,I⟩, ?_⟩;exact Sb
     obtain rfl:Y=0:=Z';refine ea ?_;refine⟨⟨0,o,rfl,TF o (λt S=>by cases S) L (λt S=>by have:=hhi t S;omega),(λt S=>by cases S),I⟩, ?_⟩;exact Sb
    skip;clear I;rintro ρ' f V ⟨Y,o,rfl,hwi,hbl,I⟩;have a:Ya q.ts sub p j (i+1)=Lg q.ts sub p j m (Ya q.ts sub p j i):=by rw[ji,hm]
    have N:=hlim2 i Z' he.symm;unfold Lg at a;rw[R' (by rw[<-he];decide)] at a;have hmi:m=128-(i+1):=Z';have C:(127-((i+1:Nat):Int))=(m:Int)-1:=Z';have hdf:∀t∈p.drop Y,m<=wg j t:=λt S=>by
     rw[jR o] at S;obtain S|S:=A_.1 S
     .rw[<-hwi] at S;have:=j9 (A9.1 S).2;omega
     have:=hhi t S;omega
    have hst:(Ya q.ts sub p j i)=(0,(Ya q.ts sub p j i).2):=by rw[he]
    generalize (Ya q.ts sub p j i).2=os at*;have hoc:on<=P:=I.Ae (i:=1) rfl;have hon:os.length=on:=(I.ka (i:=1) rfl).Aa TR.len V';have hwl:(Ia p j m).length=z-Y:=by rw[hwi,q',Q9];omega
    by_cases hsk:os.length=0/\(Ia p j m).length=0
    .rw[Q' hsk] at a;obtain⟨h1,h2⟩:=hsk;obtain rfl:on=0:=Z';obtain rfl:Y=z:=Z';refine ea ?_;refine⟨⟨i+1,Y,0,M,R,0,P,os,Z',by rw[C];rfl,rfl,rfl,by rw[a];exact he,hen,λ_=>⟨rfl,by rw[a,hst],λt S=>by rw[<-hmi];exact hbl t S,λt S=>by rw[<-hmi];exact hdf t S⟩,I⟩,by show((m:Int)-1+1).toNat<((m:Int)+1).toNat;omega, ?_⟩;exact Sb
    rw[R' hsk] at a;refine vq [70,71,72,73,74,75,76,77,78] (λV=>Hp w [.blk b10 24 [.int .i64 M,.slice R on P] (0,0),.row R on P 72 4 (la TR.cells os),.blk b8 24 [.int .i64 0,.slice none 0 0] (0,0)] V) ?_ ?_
    .by_cases h0:on=0
     .subst h0;have hne:Y≠z:=λh=>hsk ⟨hon,Z'⟩;refine ea ?_;refine⟨I, ?_⟩;exact bL
     refine ea ?_;refine⟨I, ?_⟩;exact bL
    skip;clear I;rintro ρ' V I;obtain⟨lad,rfl,hlr⟩:=hL.at_ Z';have hlp:Te [⟨M,R,on,P,os⟩,q]=0:=Ro N.e (by unfold PX.e;rw[hqv];exact hqk.e) hqv;have hmu:∀(A2:Option Addr)(Z:World),Nd Z->Sl Z A2 2 2 (la PX.cells [⟨M,R,on,P,os⟩,q])->Sl Z R on 4 (la TR.cells os)->Below w.heap.size w Z->Calls prog 306 #[.slice A2 2 2] Z λr V=>∃g:PX,se (Ce os q.ts) M (oa (Cb os q.ts)) g/\r=.returned (.tuple #[.agg #[.int .i64 g.v,.slice g.A g.n g.c],.int .i64 (Ce os q.ts)])/\Hp Z [g.row] V:=λA2 Z B s1 s2 hb=>by
     have h1:=wG A2 2 2 [⟨M,R,on,P,os⟩,q] 440000 505536 Z B s1 V' V' (λg s=>by
      obtain rfl|s:=y'.1 s
      .exact s2
      .rw[k'.1 s];exact(hat q (O' hqj)).ext hb) (λg s=>by
      obtain rfl|s:=y'.1 s
      .exact⟨by have:=N.len;show on<=1000000;omega,hoc,N.ok,N.sz⟩
      rw[k'.1 s];exact⟨hql.n,hql.cap,hql.ok.mono hK,hql.sz⟩) V' V'
     unfold NM at h1;rw[Q' hlp] at h1;exact h1
    refine Gb ?_;intro b15 w15 I;refine gz [] [9] 10 I ?_;refine ub ?_;refine Wi (j) ?_;refine fk [_,_] (λ_ hj=>(hlr.ext hj.hp.below).recAt PX.len hqj) ?_;refine ua (i:=5) (rj 2 2 (la PX.cells [⟨M,R,on,P,os⟩,q])) (rj.ext) ?_ ?_
    .intro U Z hj hR;exact vm (sz:=2) Qa.out pa.out (show ZI U [(0,.tmp 80),(1,.tmp 84)]=[(0,.agg #[.int .i64 M,.slice R on P]),(1,.agg #[.int .i64 q.v,.slice q.A q.n q.c])] from Bb (show U 80=_ from hR.1) (Bb (show U 84=_ from hR.2.1) Ld)) rfl rfl V' V' rfl λv w2 h hb=>⟨hb,h⟩
    refine ua (i:=6) (Ng I.sz (Ce os q.ts) M (oa (Cb os q.ts))) (Ng.ext) ?_ ?_
    .intro U Z hj hR;obtain⟨g85,e85,o85⟩:=hR.1;exact let⟨b,e1,s1⟩:=hR.1;rb rfl (Ha fi (na e1 Oa)) (hmu _ Z (hT.hp hj.hp) s1 (hj.hp.ka (i:=2) rfl) hj.hp.below) (λ_ _ ⟨g,og,hq,h3⟩=>⟨_,hq,h3.below,g,Z,rfl,og,hj.bl.size,h3⟩)
    refine ua (i:=7) (Ng I.sz (Ce os q.ts) M (oa (Cb os q.ts))) (Ng.ext) ?_ ?_
    .exact abM
    refine ua (i:=8) (Gn I.sz (Ce os q.ts) M (oa (Cb os q.ts))) (Gn.ext) ?_ ?_
    .exact ab3
    refine ua (i:=9) (Is (.int .i64 (Ce os q.ts))) (Is.ext) ?_ ?_
    .exact acb
    refine xa ?_;intro f W hJ hV _;obtain⟨v88,v87,v79,v86,v85,v84,v83,v82,v81,v80,_⟩:=hV;obtain⟨g85,e85,o85⟩:rj 2 2 (la PX.cells [⟨M,R,on,P,os⟩,q]) (f 5) W:=v85;obtain⟨g86,u86,e86, -⟩:=v86;obtain⟨g79,u79,e79, -⟩:=v79;obtain⟨g87,u87,e87,o87,q87,h87⟩:=v87;replace I:=JJ.nN hJ I q87 h87;refine Be ?_;clear e85 e86 e79 e87 hJ;simp only[I',J'] at I;obtain⟨gv,gA,gn,gc,gts⟩:=g87;replace I:=show Hp w (.row gA gn gc 72 4 (la TR.cells gts)::_) W from I;by_cases hte:Ce os q.ts=0
    .rw[R' (by rw[hte];decide)] at a;rw[hte] at o87;obtain rfl:M=gv:=o87.v.symm;obtain rfl:oa (Cb os q.ts)=gts:=o87.ts.symm;have hgc:gn<=gc:=I.Ae (i:=0) rfl;have hgl:(oa (Cb os q.ts)).length=gn:=(I.ka (i:=0) rfl).Aa TR.len V';have hgo:=sE N hqk hqT hte Z';refine aei ?_;intro ws I;refine aI (ia (sr (mI ?_)));refine zl (ia (cT (mb (mL (mI (mI ?_))))));dsimp only at I;refine Jb rfl rfl V' (Th (lo:=some (.tmp 93)) (hi:=some (.tmp 94)) (l:=Y) (h:=z) Qa.out pa.size rfl ⟨_,_,rfl,rfl⟩ ⟨_,_,rfl,rfl⟩ o Z') ?_;refine ea ?_;refine Vg (hrec m Y z _ (hT.hp I) I.below o hen hwi) ?_;rintro e_ w100 ⟨g2,og2,rfl,h4⟩;refine⟨_,rfl, ?_⟩;replace I:=I.join h4;simp only[I',J'] at I;have hs2:=hsub m;obtain⟨hv2,hA2,D,hc2,ht2⟩:=g2;replace I:=show Hp w (.row hA2 D hc2 72 4 (la TR.cells ht2)::_) _ from I;by_cases G:(sub (Ia p j m)).1=0
     .rw[R' (by rw[G];decide)] at a;rw[G] at og2;obtain rfl:M=hv2:=og2.v.symm;obtain rfl:(sub (Ia p j m)).2=ht2:=og2.ts.symm;have ho2:=hs2 G;have hc2c:D<=hc2:=I.Ae (i:=0) rfl;have hl2:((sub (Ia p j m)).2).length=D:=(I.ka (i:=0) rfl).Aa TR.len V';generalize (sub (Ia p j m)).2=us at*;refine l3 ?_;refine aei ?_;intro ws I;refine aI (ia (qa (sr (mI ?_))));refine zl (ia (cT (mb ?_)));refine vf I 3 [_,_] ?_;refine vf I 2 [_,_] ?_;refine ym ?_;intro b108 w108 I;dsimp only at I;have hlp2:Te [⟨M,gA,gn,gc,oa (Cb os q.ts)⟩,⟨M,hA2,D,hc2,us⟩]=0:=Ro hgo.e ho2.e rfl;have had:=EA (some ⟨b108,0,none⟩) 2 2 [⟨M,gA,gn,gc,oa (Cb os q.ts)⟩,⟨M,hA2,D,hc2,us⟩] 2000000 _ (hT.hp I) (I.ka (i:=0) rfl) V' (λg s=>by
       obtain rfl|s:=y'.1 s
       .exact I.ka (i:=2) rfl
       .rw[k'.1 s];exact I.ka (i:=1) rfl) (λg s=>by
       obtain rfl|s:=y'.1 s
       .exact⟨by have:=hgo.len;show gn<=1000000;omega,hgc,hgo.ok.mono Z',hgo.sz⟩
       rw[k'.1 s];exact⟨by have:=ho2.len;show D<=1000000;omega,hc2c,ho2.ok.mono Z',ho2.sz⟩) V'
      unfold iB at had;rw[Q' hlp2,YL] at had;dsimp only at had;refine Vg (had) ?_;rintro e_ w109 ⟨g3,og3,rfl,h5⟩;refine⟨_,rfl, ?_⟩;replace I:=I.join h5;simp only[I',J'] at I;obtain⟨hv3,hA3,hn3,hc3,ht3⟩:=g3;replace I:=show Hp w (.row hA3 hn3 hc3 72 4 (la TR.cells ht3)::_) _ from I;refine Gb ?_;intro ws I;replace I:=I.sub (P' _ (L' _ (L' _ (L' _ (L' _ (P' _ (L' _ (P' _ j'))))))));replace I:=I.perm (U_ (l₁:=[_]));simp only[I',J'] at I;try dsimp only at I
      refine⟨⟨i+1,Y,Qf (oa (Cb os q.ts)++us),hv3,hA3,hn3,hc3,ht3,Z',by rw[C];rfl,rfl,rfl, ?_,Z',λh=>⟨?_, ?_,λt S=>by rw[<-hmi];exact hbl t S,λt S=>by rw[<-hmi];exact hdf t S⟩,I⟩,by show((m:Int)-1+1).toNat<((m:Int)+1).toNat;omega, ?_⟩
      .rw[a];by_cases s:Qf (oa (Cb os q.ts)++us)≠0
       .rw[Q' s]
       rw[R' s];omega
      .have:=og3.v;rw[Q' h] at this;exact this
      .rw[a,R' (by rw[h];decide)];have:=og3.ts;rw[Q' h] at this;exact this
      exact Sb
     rw[Q' G] at a;refine Gb ?_;intro ws I;replace I:=I.sub (L' _ (P' _ (L' _ (P' _ (L' _ (P' _ j'))))));replace I:=I.perm (U_ (l₁:=[_]));simp only[I',J'] at I;refine⟨⟨i+1,Y,_,M,gA,gn,gc,oa (Cb os q.ts),Z',by rw[C];rfl,rfl,rfl,by rw[a],Z',λh=>absurd h G,I⟩,by show((m:Int)-1+1).toNat<((m:Int)+1).toNat;omega, ?_⟩;exact Sb
    rw[Q' hte] at a;refine Gb ?_;intro ws I;replace I:=I.sub (P' _ (L' _ (P' _ (L' _ (P' _ j')))));replace I:=I.perm (U_ (l₁:=[_]));simp only[I',J'] at I;refine⟨⟨i+1,Y,Ce os q.ts,gv,gA,gn,gc,gts,Z',by rw[C];rfl,rfl,rfl,by rw[a],Z',λh=>absurd h hte,I⟩,by show((m:Int)-1+1).toNat<((m:Int)+1).toNat;omega, ?_⟩;exact Sb
   have J:Ya q.ts sub p j 128=Ya q.ts sub p j i:=by
    by_cases h8:i=128
    .rw[h8]
    exact vh Z' hi
   rw[J];by_cases he0:e=0
   .subst he0;obtain⟨rfl,rfl, -, -⟩:=E rfl;clear E J;generalize Ya q.ts sub p j i=X at*;obtain rfl:i=128:=Z';rw[<-he];refine Gb ?_;refine qX ?_;intro ws I;exact⟨⟨M,R,on,P,_⟩,⟨rfl,rfl⟩,rfl,I.sub (.cons _ (P' _ (N_ _)))⟩
   rw[<-he];clear E J;generalize Ya q.ts sub p j i=X at*;by_cases h8:i=128
   .subst h8;exact NZ
   exact NZ
def Qb(p:PX)(ls:List PX):Int×List TR:=
 if p.e≠0 then(p.e,[]) else if(ls.length:Int)≠p.v then(1,[]) else if ls.length≠0/\Te ls≠0 then(Te ls,[]) else Ud (Ff ls) (ls.map PX.ts) 0 p.ts
def HJ(f:PX)(p:Addr)(x:Int)(w:World)(hp:w.cell? p=some (.int .i64 x)):Zc 279 #[f.V,.pointer (some p)] w (.bool (decide (f.v≠x))):=by
 have I:=Hp.start w;by_cases s:f.v=x
 .refine Ga func279 ?_;refine Gb ?_;intro T q I;refine cI ?_;exact qR
 refine Ga func279 ?_;refine Gb ?_;intro T q I;refine cI ?_;exact JU
structure Fit(p:PX)(ls:List PX)(k K T c0:Nat)(ds:List Nat):Prop where
 len:ds.length=ls.length
 ae9:∀(i d:Nat),ds[i]?=some d->d<=127/\∀t∈p.ts,wg i t<=d
 grow:Ge c0 ds (k+1)<=440000
 step:K+4096*T+8192<=c0
 top:c0<=440000
 qf:∀g∈ls,g.qf K
 VT:∀g∈ls,g.ts.length<=T
def yz{v:Int}(h:Ye v ts=0):cJ v 0 ts:=by
 obtain⟨_,_,G,z⟩:=Kb h;exact⟨z.nw,G,λa _ b _=>by rw[x9,x9]⟩
def qE(p:PX)(lA:Option Addr)(lc:Nat)(ls:List PX)(k K T c0:Nat)(ds:List Nat)(w:World)(S:Nd w)(hp:p.at_ w)(lp:p.qf k)(hL:Sl w lA ls.length 2 (la PX.cells ls))(B:∀g∈ls,g.at_ w)(hlc:ls.length<=lc)(Y:Fit p ls k K T c0 ds):Calls prog 235 #[.agg #[.int .i64 p.v,.slice p.A p.n p.c],.slice lA ls.length lc] w λr V=>∃g:PX,se (Qb p ls).1 (Ff ls) (Qb p ls).2 g/\r=.returned (.tuple #[.agg #[.int .i64 g.v,.slice g.A g.n g.c],.int .i64 (Qb p ls).1])/\Hp w [g.row] V:=by
 have I:=Hp.start w;have a:=λZ P F=>Fq p k Z P (hp.ext F) lp;unfold Qb;by_cases h0:p.e≠0
 .rw[Q' h0];generalize p.e=e at*;refine Ga func235 ?_;refine Ib ?_;intro b2 w2 I b4 w4 I;refine cd I (a _ (S.hp I) I.below) ?_;intro W I;exact aeM
 rw[R' h0];have y:p.e=0:=Z';rw[y] at a;by_cases h1:(ls.length:Int)≠p.v
 .rw[Q' h1];refine Ga func235 ?_;refine Ib ?_;intro b2 w2 I b4 w4 I;refine cd I (a _ (S.hp I) I.below) ?_;intro W I;refine Gb ?_;intro ws I;exact M0
 rw[R' h1];obtain⟨E,h4,hmy,hca⟩:=Kb y;replace E:=Yc.1 E;have hl12:ls.length<=12:=Z';have hpl:=hp.ln;have hsr:=yz y;have D:=λ(v:Int) (hv:gh v=true) (hz:∀g∈ls,Ye v g.ts=0) (q:∀g∈ls,g.v=v) Z P F=>BK lA lc K T c0 v ls hv hlc hl12 (λg s=>⟨⟨hz g s,(Y.qf g s).ok,(Y.qf g s).sz⟩,q g s,Y.qf g s,Y.VT g s⟩) Y.step Y.top ls 0 p.ts p.A p.n p.c ds k Z rfl (N' _) P (hL.ext F) (λg s=>(B g s).ext F) (hp.ext F) lp.cap (by rw[show((ls.length:Nat):Int)=p.v by omega];exact hsr) lp.ok Z' Y.len (λi d h=>by rw[i'];exact Y.ae9 i d h) Y.grow;by_cases hn:ls=[]
 .subst hn;rw[R' (λh=>h.1 rfl)];have C:=D 0 rfl (λg s=>by cases s) (λg s=>by cases s);refine Ga (l:=[.agg #[.int .i64 p.v,.slice p.A p.n p.c],.slice lA 0 lc]) func235 ?_;refine Ib ?_;intro b2 w2 I b4 w4 I;refine cd I (a _ (S.hp I) I.below) ?_;intro W I;refine Ib ?_;intro t w7 I ws I;replace I:=show Hp w (.blk t 3 [.int .i64 0] (0,0)::_) _ from I;exact V2
 have o:0<ls.length:=E7.2 hn;obtain⟨lad,rfl,u⟩:=hL.at_ o;refine Ga (l:=[.agg #[.int .i64 p.v,.slice p.A p.n p.c],.slice (some lad) ls.length lc]) func235 ?_;refine Ib ?_;intro b2 w2 I b4 w4 I;refine cd I (a _ (S.hp I) I.below) ?_;intro W I;refine Ib ?_;intro t w7 I ws I;replace I:=show Hp w (.blk t 3 [.int .i64 0] (0,0)::_) _ from I;refine rf 28 (λv V=>∃i:Nat,i<=ls.length/\v=.int .i64 i/\(ls.take i).any (λg=>decide (g.e≠0))=false/\Hp w [.blk t 3 [.int .i64 0] (0,0),.blk b4 24 [.int .i64 0,.slice none 0 0] (0,0),.blk b2 24 [.int .i64 p.v,.slice p.A p.n p.c] (0,0)] V) (λv _=>ls.length-(intOf v).toNat) ?_ ?_
 .exact⟨0,N' _,rfl,rfl,I⟩
 clear I;rintro ρ' v V ⟨i,hi,rfl,X,I⟩;by_cases hlt:i<ls.length
 .obtain⟨g,hx⟩:=aa (l:=ls) (k:=i) hlt;have M:=O' hx;have hc:=λZ P F=>Fq g K Z P ((B g M).ext F) (Y.qf g M);by_cases he:g.e=0
  .refine ea ?_;refine sv (Ua (vs:=[_,_]) pa.out rfl ((u.ext I.below).recAt PX.len hx) rfl) ?_;refine Ib ?_;intro b9 w9 I ws I;refine cd I (hc _ (S.hp I) I.below) ?_;intro w33 I;refine ea ?_;replace I:=I.sub (L' _ (P' _ (P' _ (P' _ j'))));refine⟨⟨i+1,Z',rfl,by rw[ja hx,S8,X,Q8,M8,m' Z'];rfl,I⟩,by show ls.length-(i+1)<ls.length-i;omega, ?_⟩;exact Sb
  have j:Te ls=g.e:=by unfold Te;rw[Pm X hx (w' he)]
  rw[Q' ⟨Z',by rw[j];exact he⟩,j];refine ea ?_;refine sv (Ua (vs:=[_,_]) pa.out rfl ((u.ext I.below).recAt PX.len hx) rfl) ?_;refine Ib ?_;intro b9 w9 I ws I;refine cd I (hc _ (S.hp I) I.below) ?_;intro w33 I;refine Gb ?_;intro ws I;refine Jw ?_;exact YW
 rw[G' Z'] at X;have j:Te ls=if ls.length=0\/Pw ls=true then 1 else 0:=by unfold Te;rw[Sg X]
 obtain⟨g0,N⟩:=aa (l:=ls) (k:=0) o;have H:Ff ls=g0.v:=by
  cases ls with
  |nil=>cases o
  |cons x l=>cases N;rfl
 have Q:∀g∈ls,g.e=0:=λg s=>(by have:=P9.1 X g s;simpa using this);refine ea ?_;refine sv (Ma pa.out rfl (((u.ext I.below).recAt PX.len N).cell (i:=0) rfl)) ?_;refine Gb ?_;intro ws I;refine JI ?_;replace I:=show Hp w (.blk t 3 [.int .i64 g0.v] (0,0)::_) _ from I;rw[<-H] at I;have L:World.cell? _ ⟨t,0,none⟩=some (.int .i64 (Ff ls)):=I.Dd (i:=0) rfl rfl;have f:=λZ F=>Xz (some lad) ls.length lc ls 279 [.pointer (some ⟨t,0,none⟩)] (λg=>decide (g.v≠Ff ls)) Z (hL.ext (I.below.trans (F.mono I.below.size))) Z' (λz w2 hz hb2=>HJ z ⟨t,0,none⟩ (Ff ls) w2 (Ab hb2 (Ab F L)))
 cases m:Pw ls with
 |true=>
  have b:ls.any (λg=>decide (g.v≠Ff ls))=true:=m;rw[b] at f;have R:Te ls=1:=by rw[j,Q' (.inr m)]
  rw[Q' ⟨Z',by rw[R];decide⟩,R];refine cd I (f _ (Below.refl _ _)) ?_;intro w45 I;refine Gb ?_;intro ws I;refine Jy ?_;exact dZ
 |false=>
  have b:ls.any (λg=>decide (g.v≠Ff ls))=false:=m;rw[b] at f;have J:Te ls=0:=(by rw[j,R' (λh=>h.elim (λh=>by omega) λh=>by rw[m] at h;cases h)]);rw[R' (λh=>h.2 J)];have q:=(Hu J).2.2;have G:=Q g0 (O' N);unfold PX.e at G;have C:=D (Ff ls) (by rw[H];exact(Kb G).1) (λg s=>by rw[<-q g s];exact Q g s) q;refine cd I (f _ (Below.refl _ _)) ?_;intro w45 I;refine ea ?_;exact V2
variable {ls:List PX}{p:PX}
def kN{o:PX}{os:List PX}(A:o.v=p.v)(S:o.ts=p.ts)(h:os.map PX.norm=ls.map PX.norm):Qb o os=Qb p ls/\Ff os=Ff ls:=by
 have h1:Te os=Te ls:=by rw[<-UC,h,UC]
 have h2:Ff os=Ff ls:=by rw[<-fy,h,fy]
 have G:os.length=ls.length:=by have:=C_ List.length h;rwa[B',B'] at this
 have z:os.map PX.ts=ls.map PX.ts:=(by have:=C_ (List.map PX.ts) h;rw[E_,E_] at this;exact this);refine⟨?_,h2⟩;unfold Qb PX.e;rw[A,S,h1,h2,G,z]
def Rn{v:Int}{l:List TR}(A:gh v=true)(hm:∀t∈l,yf v t=true)(W:Gh k l)(o:∀t∈l,t.m.size<=100000)(Q:l.length<=n)(B:n<=4096)(u:k+n<=3999990):mj v (k+n) (oa l):=
 ⟨pg A (p' (Zb _) Z') hm,bo W Z' Z',Ks o⟩
def Xu(v i:Nat):List TR:=oa [⟨yk v i,nR ((1:Int):Dyadic)⟩]
def Mp(v:Nat)(x:Dyadic):List TR:=oa [⟨Sd v,nR x⟩]
def Ur(v i:Nat)(x:Dyadic):List TR:=oa ((Xu v i).map (Fo x))
def yg(v i:Nat)(s:SR):List TR:=oa (Mp v s.pe++Ur v i (s.Zg-s.pe))
variable {b:List SR}
def Ca(b:List SR):List PX:=b.mapIdx λi s=>⟨b.length,none,0,0,yg b.length i s⟩
def Wg{v:Nat}(h:v<=12):gh (v:Int)=true:=Yc.2 ⟨Z',Z'⟩
def nE{v i:Nat}(h:v<=12):mj (v:Int) 3 (Xu v i):=by
 have K:((yk v i).size:Int)=v:=lv Z';refine Rn (k:=2) (n:=1) (Wg h) (λt S=> ?_) (λt S=> ?_) (λt S=> ?_) (F' _) V' V'
 .rw[k'.1 S];unfold yf;rw[Z_,Y_];exact⟨MF v i,K⟩
 .rw[k'.1 S];exact⟨Sz.one.ok V',by show Sz 2 (nR _).fa;rw[Ta];exact Sz.one.mono V'⟩
 rw[k'.1 S];show(yk v i).size<=100000;omega
def xF{v:Nat}{x:Dyadic}(h:v<=12)(C:Sz k x)(u:k<=900000):mj (v:Int) (k+1) (Mp v x):=Av (Wg h) (by show Sz k (nR x).fa;rw[Ta];exact C) u
def TE{v i:Nat}{x:Dyadic}(h:v<=12)(C:Sz k x)(u:k<=400000):mj (v:Int) (k+k+4) (Ur v i x):=by
 have A:=nE (i:=i) h;have Q:((Xu v i).map (Fo x)).length<=1:=by rw[B'];exact Zb _
 refine(Rn (k:=3+k) (n:=1) (Wg h) (λt S=> ?_) (gF A.ok C Z') (λt S=> ?_) Q V' Z').mono (by
  by_cases J:k=0
  .omega
  omega)
 .obtain⟨s,K,rfl⟩:=x'.1 S;exact(Kb A.e).2.2.1 s K
 obtain⟨s,K,rfl⟩:=x'.1 S;exact A.sz s K
def Cj{v i:Nat}{s:SR}(h:v<=12)(K:s.fin k)(u:k<=100000):mj (v:Int) (k+k+10) (yg v i s)/\(yg v i s).length<=2:=by
 have h1:=xF h (SR.szL K) Z';have h2:=TE (i:=i) h ((SR.szH K).sub (SR.szL K)) Z';have Q:(Mp v s.pe++Ur v i (s.Zg-s.pe)).length<=2:=(by rw[D'];have J:(Mp v s.pe).length<=1:=Zb _;have o:(Ur v i (s.Zg-s.pe)).length<=1:=p' (Zb _) (by rw[B'];exact Zb _);omega);have hm:∀{P:TR->Prop},(∀t∈Mp v s.pe,P t)->(∀t∈Ur v i (s.Zg-s.pe),P t)->∀t∈Mp v s.pe++Ur v i (s.Zg-s.pe),P t:=λa b t S=>(A_.1 S).elim (a t) (b t);refine⟨(Rn (k:=k+1+(k+1)+4) (n:=2) (Wg h) (hm (Kb h1.e).2.2.1 (Kb h2.e).2.2.1) (hm (h1.ok.mono Z') h2.ok) (hm h1.sz h2.sz) Q V' Z').mono Z',p' (Zb _) Q⟩
def Ve{i:Nat}{s:SR}(h:b[i]?=some s):(Ca b)[i]?=some ⟨b.length,none,0,0,yg b.length i s⟩:=by
 unfold Ca;rw[Y6,h];rfl
def Vh(b):(Ca b).length=b.length:=by unfold Ca;rw[List.length_mapIdx]
def OK{g:PX}(h:g∈Ca b):∃i s,b[i]?=some s/\g=⟨b.length,none,0,0,yg b.length i s⟩:=by
 obtain⟨i,hi⟩:=r_.1 h;obtain⟨s,K⟩:=aa (l:=b) (k:=i) (by have:=(z'.1 hi).1;rwa[Vh] at this);rw[Ve K] at hi;exact⟨i,s,K,(P_ hi).symm⟩
def AZ{i:Nat}(h:n<=12)(hi:i<n):mm n i=0:=R' (by rw[Wg h];rintro (a|a|a)<;>first|cases a|omega)
def sZ(h:n<=12):Er n=0:=R' (by rw[Wg h];decide)
def VD(p:PX)(L:Option Addr)(n c:Nat)(b:List SR)(k:Nat)(ds:List Nat)(w:World)(Q:Nd w)(hp:p.at_ w)(lp:p.qf k)(hB:Sl w L n 6 (la SR.cells b))(hb:∀s∈b,s.fin k)(hv:p.v=n)(hn0:0<n)(hn:n<=12)(hk:k<=1000) (hds:ds.length=n)(hex:∀(i d:Nat),ds[i]?=some d->d<=127/\∀t∈p.ts,wg i t<=d)(hgr:Ge (k+k+16394) ds (k+1)<=440000):Calls prog 163 #[.agg #[.int .i64 p.v,.slice p.A p.n p.c],.slice L n c] w λr V=>∃g:PX,se (Qb p (Ca b)).1 n (Qb p (Ca b)).2 g/\r=.returned (.tuple #[.agg #[.int .i64 g.v,.slice g.A g.n g.c],.int .i64 (Qb p (Ca b)).1])/\Hp w [g.row] V:=by
 have I:=Hp.start w;have hbl:b.length=n:=hB.Aa SR.len V';have hok:∀s∈b,s.ok:=λs K=>⟨(hb s K).1.ok,(hb s K).2.ok⟩;have hfo:=λZ P hb1=>Ol L n c b Z P (hB.ext hb1) hok Z';have hhv:Ff (Ca b)=n:=(by obtain⟨s,K⟩:=aa (l:=b) (k:=0) Z';rw[aj (Ve K),hbl]);refine Ga func163 ?_;refine Ib ?_;intro b2 w2 I b4 w4 I;refine cr I (hfo _ (Q.hp I) I.below) ?_;intro A18 c18 w18 I;refine ea ?_;replace I:=I.yb 24 2;refine Jh 6 20 (λa v V=>∃(i c3:Nat)(A:Option Addr)(os:List PX)(R:List HE),i<=n/\v=.int .i64 i/\a=.slice A i c3/\os.length=i/\FA ((Ca b).map λg=>⟨g.v,none,g.ts.length,0,g.ts⟩) os R/\Hp w (.row A i c3 24 2 (la PX.cells os)::.row A18 n c18 36 6 (la SR.cells (b.map SR.f))::.blk b4 24 [.int .i64 0,.slice none 0 0] (0,0)::.blk b2 24 [.int .i64 p.v,.slice p.A p.n p.c] (0,0)::R) V) (λ_ v _=>n-(intOf v).toNat) ?_ ?_
 .exact K0
 clear I;rintro ρ' a_ v V ⟨i,c3,A,os,R,hi,rfl,rfl,hol,q,I⟩;by_cases hlt:i<n
 .obtain⟨s,K⟩:=aa (l:=b) (k:=i) Z';have hsf:=hb s (O' K);have hsn:(b.map SR.f)[i]?=some s.f:=by rw[C',K];rfl
  have zL:=SR.szL hsf;have zH:=SR.szH hsf;have zW:=zH.sub zL;obtain⟨po,pl⟩:=Cj (v:=n) (i:=i) hn hsf Z';have vo:=nE (i:=i) hn;have fo:=TE (i:=i) hn zW Z';have co:=xF hn zL Z';have F:=λZ P=>TK (n:Int) (i:Int) Z P;rw[AZ hn hlt] at F;have B:=λZ P=>Pr (nR s.Zg) (nR s.pe) Z P (zH.ok Z') (zL.ok Z') k (by rw[Ta];exact zH) (by rw[Ta];exact zL) Z';rw[Ta,Ta] at B;have T:=λZ P=>An (n:Int) (nR s.pe) k Z P ⟨zL.ok Z',by rw[Ta];exact zL⟩ Z';rw[sZ hn] at T;rw[z9] at F;have hV:oa [⟨yk n i,nR ((1:Int):Dyadic)⟩]=Xu n i:=rfl;have hC:oa [⟨Sd n,nR s.pe⟩]=Mp n s.pe:=rfl;have hF:oa ((Xu n i).map (Fo (s.Zg-s.pe)))=Ur n i (s.Zg-s.pe):=rfl;have hP:oa (Mp n s.pe++Ur n i (s.Zg-s.pe))=yg n i s:=rfl;have tl1:(Xu n i).length<=1:=Zb _;have ul1:(Mp n s.pe).length<=1:=Zb _;have fl1:(Ur n i (s.Zg-s.pe)).length<=1:=p' (Zb _) (by rw[B'];exact Zb _);have hps:=Ve K;rw[hbl] at hps;rw[hV] at F;rw[hC] at T;clear hV hC;generalize Xu n i=VL at*;generalize Mp n s.pe=CL at*;generalize Ur n i (s.Zg-s.pe)=M at*;generalize yg n i s=PL at*
  obtain⟨gf,rfl⟩:=I.ib (i:=1) rfl Z';refine ea ?_;refine sv (Ua (vs:=[_,_,_,_,_,_]) pa.out rfl (I.Wc (f:=SR.cells) (x:=s.f) (l:=b.map SR.f) (i:=1) rfl SR.len V' hsn) rfl) ?_;refine Ib ?_;intro b8 w8 I ws I;replace I:=show Hp w (.blk b8 36 [.bool (nR s.pe).neg,.string (nR s.pe).Ra,.int .i64 (nR s.pe).e,.bool (nR s.Zg).neg,.string (nR s.Zg).Ra,.int .i64 (nR s.Zg).e] (0,0)::_) _ from I;refine Vg (F _ (Q.hp I)) ?_;rintro e_ w29 ⟨t,ot,rfl,m⟩;refine⟨_,rfl, ?_⟩;have htc:t.n<=t.c:=m.Ae (i:=0) rfl;replace I:=I.join m;clear m;simp only[I',J'] at I;obtain⟨tv,tA,tn,tc,tt⟩:=t;replace I:=show Hp w (.row tA tn tc 72 4 (la TR.cells tt)::_) _ from I;have et:VL=tt:=ot.t0.symm;have Y:tv=(n:Int):=ot.v0;subst et Y;have tln:VL.length=tn:=(I.ka (i:=0) rfl).Aa TR.len V';have D:=λZ P ha=>SD ⟨n,tA,tn,tc,VL⟩ (nR (s.Zg-s.pe)) (k+3) Z P ha ⟨by show tn<=1000000;omega,htc,vo.ok.mono Z',vo.sz⟩ ⟨zW.ok Z',by rw[Ta];exact zW.mono Z'⟩ Z';have hse:iz ⟨n,tA,tn,tc,VL⟩ (s.Zg-s.pe)=0:=(by unfold iz PX.e;rw[vo.e,Q' rfl];exact zj (by rw[B'];show VL.length<=4096;omega));rw[Ta,hse] at D;dsimp only at D;rw[hF] at D;refine Ib ?_;intro b9 w9 I ws I;refine gz [10] [9] 11 I ?_;refine ub ?_;refine dC (λ_ hj=>B _ (Q.hp hj.hp)) ?_;refine ua (i:=6) (Ng I.sz 0 n M) (Ng.ext) ?_ ?_
  .intro U Z hj hR;exact rb rfl (Ha fi (na (show U 33=Value.agg (List.toArray _) from hR.1) (na (show U 38=Value.agg (List.toArray _) from hR.2.1) Oa))) (D Z (Q.hp hj.hp) (hj.hp.ka (i:=1) rfl)) (λ_ _ ⟨g,og,hq,h3⟩=>⟨_,hq,h3.below,g,Z,rfl,og,hj.bl.size,h3⟩)
  refine ua (i:=7) (Ng I.sz 0 n M) (Ng.ext) ?_ ?_
  .intro U Z hj hR;exact let⟨g,u,e1,C⟩:=hR.1;ic rfl (Yd e1) ⟨Below.refl _ _,g,u,rfl,C⟩
  refine ua (i:=8) (Sh I.sz 0 n M) (Sh.ext) ?_ ?_
  .intro U Z hj hR;exact let⟨g,u,e1,C⟩:=hR.1;ic rfl (bc (vs:=[_,_]) e1 rfl) ⟨Below.refl _ _,g,u,rfl,C⟩
  refine ua (i:=9) (Is (.int .i64 0)) (Is.ext) ?_ ?_
  .intro U Z hj hR;exact let⟨g,u,e1,C⟩:=hR.1;ic rfl (bc (vs:=[_,_]) e1 rfl) ⟨Below.refl _ _,rfl⟩
  refine ua (i:=10) (Sa _ 24 _) Sa.ext (λU Z hj hR=>Xc pa.out hj.bl (λv w2 h hb=>⟨hb,h⟩)) ?_;refine xa ?_;intro f W hJ hV _;obtain⟨v11,v41,v40,v32,v39,v38,v37,v36,v35,v34,v33,_⟩:=hV;obtain⟨g39,u39,e39, -⟩:=v39;obtain⟨g32,u32,e32, -⟩:=v32;obtain⟨g40,u40,e40,o40,q40,h40⟩:=v40;obtain⟨b11,e11,hl11,N⟩:Sa _ _ _ (f 10) W:=v11;replace I:=hJ.xh I hl11 N q40 h40 (PX.ne h40 N V');refine Be ?_;clear e39 e32 e40 e11 hJ;simp only[I',J'] at I;obtain⟨fv,fA,fn,fc,ft⟩:=g40;replace I:=show Hp w (_::.row fA fn fc 72 4 (la TR.cells ft)::_) W from I;have et:M=ft:=o40.t0.symm;have Y:fv=(n:Int):=o40.v0;subst et Y;have fln:M.length=fn:=(I.ka (i:=1) rfl).Aa TR.len V';have fcc:fn<=fc:=I.Ae (i:=1) rfl;refine Gb ?_;intro ws I;refine Vg (T _ (Q.hp I)) ?_;rintro e_ w47 ⟨u,ou,rfl,m⟩;refine⟨_,rfl, ?_⟩;have huc:u.n<=u.c:=m.Ae (i:=0) rfl;replace I:=I.join m;clear m;simp only[I',J'] at I;obtain⟨uv,uA,un,uc,ut⟩:=u;replace I:=show Hp w (.row uA un uc 72 4 (la TR.cells ut)::_) _ from I;have et:CL=ut:=ou.t0.symm
  have Y:uv=(n:Int):=ou.v0;subst et Y;have uln:CL.length=un:=(I.ka (i:=0) rfl).Aa TR.len V';refine Ib ?_;intro b13 w13 I ws I;refine ym ?_;intro b53 w53 I;have hlp:Te [⟨n,uA,un,uc,CL⟩,⟨n,fA,fn,fc,M⟩]=0:=Ro co.e fo.e rfl;have J:=λA3 Z P hS1 s1 s2=>EA A3 2 2 [⟨n,uA,un,uc,CL⟩,⟨n,fA,fn,fc,M⟩] (k+k+10) Z P hS1 V' (λg y=>by
   obtain rfl|y:=y'.1 y
   .exact s1
   .rw[k'.1 y];exact s2) (λg y=>by
   obtain rfl|y:=y'.1 y
   .exact⟨by show un<=1000000;omega,huc,co.ok.mono Z',co.sz⟩
   rw[k'.1 y];exact⟨by show fn<=1000000;omega,fcc,fo.ok.mono Z',fo.sz⟩) Z'
  unfold iB at J;rw[Q' hlp,YL] at J;dsimp only at J;rw[hP] at J;rw[zj (l:=CL++M) (by rw[D'];omega)] at J;refine Vg (J _ _ (Q.hp I) (I.ka (i:=0) rfl) (I.ka (i:=2) rfl) (I.ka (i:=4) rfl)) ?_;rintro e_ w54 ⟨z,oz,rfl,m⟩;refine⟨_,rfl, ?_⟩;have hzc:z.n<=z.c:=m.Ae (i:=0) rfl;replace I:=I.join m;clear m;refine aaC ?_;intro I zln;refine Ib ?_;intro b15 w15 I ws I;refine SN ?_;intro b59 w59 I;refine pb I (i:=11) rfl rfl rfl (I.ka (i:=0) rfl) Qa.out pa.out rfl V' (by first|rfl|exact kc _|exact Mb _|exact Ja _|exact Pa NR.one _) Z' Z' V' ?_;intro A60 c60 w60 I;refine jB ?_;intro I;replace I:=I.sub (L' _ (P' _ (L' _ (L' _ (L' _ (L' _ (L' _ (L' _ (L' _ (L' _ (P' _ (P' _ (P' _ (P' _ (u_ _)))))))))))))));replace I:=I.perm (U_ (l₁:=[_,_,_,_]));refine YQ ?_;intro I;replace I:=I.perm (U_ (l₁:=[_,_,_,_]));refine YQ ?_;intro I
  have hcp2:=q.add (g:=⟨n,none,PL.length,0,PL⟩) (o:=z) (by rw[hol,C',hps];rfl) ⟨oz.v0,oz.t0,by rw[<-zln,oz.t0]⟩ hzc;refine⟨⟨i+1,c60,A60,os++[z],z.row::R,Z',rfl,rfl,by rw[D',hol];rfl,hcp2,by rw[Na,Tj];exact I⟩,by show n-(i+1)<n-i;omega, ?_⟩;exact Sb
 obtain rfl:i=n:=Z';have hol2:os.length=((Ca b).map λg=>(⟨g.v,none,g.ts.length,0,g.ts⟩:PX)).length:=by rw[B',Vh];omega
 have G:=q.key hol2;rw[E_] at G;replace G:os.map PX.norm=(Ca b).map PX.norm:=G;obtain⟨ks,kh⟩:=kN (o:=p) (p:=p) rfl rfl G;have X:∀o∈os,o.qf (k+k+10)/\o.ts.length<=2:=λo ho=>(by obtain⟨j,hj⟩:=r_.1 ho;have hjn:j<os.length:=(z'.1 hj).1;obtain⟨s,K⟩:=aa (l:=b) (k:=j) Z';obtain⟨e1,C,e3⟩:=q.eq j ⟨b.length,none,(yg b.length j s).length,0,yg b.length j s⟩ o (by rw[C',Ve K];rfl) hj;obtain⟨po,pl⟩:=Cj (v:=b.length) (i:=j) Z' (hb s (O' K)) Z';replace C:o.ts=yg b.length j s:=C;replace e3:o.n=(yg b.length j s).length:=e3;exact⟨⟨Z',(q.my o ho).2,by rw[C];exact po.ok,by rw[C];exact po.sz⟩,by rw[C];exact pl⟩);have hfit:Fit p os k (k+k+10) 2 (k+k+16394) ds:=⟨Z',hex,hgr,Z',Z',λg y=>(X g y).1,λg y=>(X g y).2⟩;have B:=λZ P ha K hm hc=>qE p A c3 os k (k+k+10) 2 (k+k+16394) ds Z P ha lp K hm hc hfit;rw[ks,kh,hhv,hol] at B;generalize (Qb p (Ca b)).1=E at*;generalize (Qb p (Ca b)).2=S at*;refine ea ?_;refine Vg (B _ (Q.hp I) (hp.ext I.below) (I.ka (i:=0) rfl) (λz hz=>rM I (u' _ (u' _ (u' _ (u' _ (q.my z hz).1))))) (I.Ae (i:=0) rfl)) ?_;rintro e_ w64 ⟨g,og,rfl,m⟩;refine⟨_,rfl, ?_⟩;replace I:=I.join m;clear m;simp only[I',J'] at I;refine aaF ?_;intro ws I;exact Fu
def dM(i:Nat)(f:ByteArray->Dyadic)(m:ByteArray):Dyadic:=
 match m.data.toList[i]? with|some e=>((e.toNat:Int):Dyadic)*f (str (m.data.toList.set i (e-1)))|none=>0
def l0{f g:ByteArray->Dyadic}{l:List TR}(h:∀t∈l,f t.m=g t.m):wS f l=wS g l:=by
 induction l with
 |nil=>rfl
 |cons t l W=>rw[wS,wS,h t E',W λs K=>h s (u' _ K)]
def gO{a b:List UInt8}(M:Le a=true)(F:Le b=true)(Q:b.length=a.length)(h:(List.zipWith (· + ·) (ints a) (ints b)).all Tb=true):mulL a b=((List.zipWith (· + ·) (ints a) (ints b)).map Wq,0):=by
 unfold mulL;rw[mY M F Q];show(RT _,cW _)=_;rw[(iu h).1,(iu h).2]
def QQ{a b:List UInt8}(h:(mulL a b).2=0):(List.zipWith (· + ·) (ints a) (ints b)).all Tb=true:=by
 obtain⟨_,_,_,z,P⟩:=Bq h;rw[<-P];exact sY z
def RY{a b:ByteArray}{i:Nat}{x y:UInt8}(h:Gl a b=0)(C:a.data.toList[i]?=some x)(hy:b.data.toList[i]?=some y):(mulM a b).data.toList[i]?=some (Wq ((x.toNat:Int)+y.toNat))/\(Wq ((x.toNat:Int)+y.toNat)).toNat=x.toNat+y.toNat:=by
 obtain⟨h1,h2,G,_,_⟩:=Bq h;have X:=QQ h;have d:(ints b.data.toList)[i]?=some (y.toNat:Int):=by unfold ints;rw[C',hy];rfl
 have n:(ints a.data.toList)[i]?=some (x.toNat:Int):=by unfold ints;rw[C',C];rfl
 have A:=qL (f:=λ(x y:Int)=>x+y) n d;have g:Tb ((x.toNat:Int)+y.toNat)=true:=M_.1 X _ (O' A);have N:=rq g;injection N with _ N
 refine⟨?_,Z'⟩;unfold mulM;rw[ed,gO h1 h2 G X,C',A];rfl
def Zm(B:Nat->Nat)(l:List TR):Prop:=∀t∈l,∀i,wg i t<=B i
def Zm.mono{B C:Nat->Nat}{l:List TR}(h:Zm B l)(F:∀i,B i<=C i):Zm C l:=λt S i=>p' (h t S i) (F i)
def adZ{s t:TR}(h:s.m=t.m)(i:Nat):wg i s=wg i t:=by unfold wg;rw[h]
def Zm.oa{B:Nat->Nat}{l:List TR}(h:Zm B l):Zm B (oa l):=λt S i=>by
 obtain⟨s,K,e⟩:=ll t S;rw[<-adZ e i];exact h s K i
def Zm.append{B:Nat->Nat}{l k:List TR}(h:Zm B l)(h2:Zm B k):Zm B (l++k):=λt S=>(A_.1 S).elim (h t) (h2 t)
def Zm.prod{B C:Nat->Nat}{p q:List TR}(hp:Zm B p)(R:Zm C q)(h:∀e∈Kw p q,e=0):Zm (λi=>B i+C i) (Cb p q):=λt S i=>by
 obtain⟨x,d,S⟩:=k9.1 S;obtain⟨y,hy,rfl⟩:=x'.1 S;have o:Gl x.m y.m=0:=h _ (k9.2 ⟨x,d,x'.2 ⟨y,hy,rfl⟩⟩)
 cases M:x.m.data.toList[i]? with
 |none=>
  have Q:=gK o;have c:=List.getElem?_eq_none_iff.1 M;have e:(yp x y).m.data.toList[i]?=none:=(by show(str _).data.toList[i]?=none;rw[ed];exact X_ (by rw[Q];exact c));unfold wg;rw[e];exact N' _
 |some a=>
  obtain⟨_,_,G,_,_⟩:=Bq o;have D:=(z'.1 M).1;obtain⟨b,F⟩:=aa (l:=y.m.data.toList) (k:=i) Z';obtain⟨N,L⟩:=RY o M F;rw[Kp (t:=yp x y) N,L];have h1:=hp x d i;have h2:=R y hy i;rw[Kp M] at h1;rw[Kp F] at h2;show a.toNat+b.toNat<=B i+C i;omega
def Ft{q p:List TR}{sub:List TR->Int×List TR}{j D:Nat}{E:Nat->Nat}(R:Zm (λx=>if x=j then 1 else 0) q)(r:∀t∈p,wg j t<=D)(u:E j=0)(K:∀n,(sub (Ia p j n)).1=0->Zm E (sub (Ia p j n)).2):
  ∀i,i<=128->(Ya q sub p j i).1=0->Zm (λx=>if x=j then i+D-128 else E x) (Ya q sub p j i).2
 |0,_,_=>λt S=>(nomatch S)
 |i+1,hi,J=>by
  have h1:(Ya q sub p j i).1=0:=(by refine N8 λc=> ?_;rw[vh c (Nat.le_succ i)] at J;exact c J);have W:=Ft R r u K i Z' h1;have o:∀n,(sub (Ia p j n)).1=0->Zm (λx=>if x=j then i+1+D-128 else E x) (sub (Ia p j n)).2:=λn B=>(K n B).mono λx=>by
   by_cases C:x=j
   .rw[Q' C,C,u];exact N' _
   rw[R' C];exact F' _
  have F:Ce (Ya q sub p j i).2 q=0->Zm (λx=>if x=j then i+1+D-128 else E x) (oa (Cb (Ya q sub p j i).2 q)):=λS=>by
   by_cases g:i+D<=127
   .rw[Wh r i g];exact λt S=>(nomatch S)
   refine((W.prod R (Vl S).2.1).mono λx=> ?_).oa;by_cases C:x=j
   .rw[Q' C,Q' C,Q' C];omega
   rw[R' C,R' C,R' C];omega
  rw[ji] at J |-;unfold Lg at J |-;rw[R' (λh=>h h1)] at J |-;by_cases X:(Ya q sub p j i).2.length=0/\(Ia p j (127-i)).length=0
  .rw[Q' X,n8.1 X.1];exact λt S=>(nomatch S)
  rw[R' X] at J |-;by_cases Y:Ce (Ya q sub p j i).2 q≠0
  .rw[Q' Y] at J;exact absurd J Y
  rw[R' Y] at J |-;by_cases e:(sub (Ia p j (127-i))).1≠0
  .rw[Q' e] at J;exact absurd J e
  rw[R' e] at J |-;by_cases H:Qf (oa (Cb (Ya q sub p j i).2 q)++(sub (Ia p j (127-i))).2)≠0
  .rw[Q' H] at J;exact absurd J H
  rw[R' H];exact((F Z').append (o _ Z')).oa
def uy(v:Int)(c):Zm (λ_=>0) [⟨Sd v,c⟩]:=λt S i=>by
 rw[k'.1 S]
 cases he:(⟨Sd v,c⟩:TR).m.data.toList[i]? with
 |none=>unfold wg;rw[he];exact F' _
 |some e=>
  rw[Kp he];have hm:=O' he;replace hm:e∈(List.replicate v.toNat (0:UInt8)):=by simpa[Sd] using hm
  rw[(List.mem_replicate.1 hm).2];exact F' _
def CE{v:Int}:∀(Q:List (List TR))(j:Nat)(p:List TR)(D:Nat->Nat),(∀(i:Nat)(q:List TR),Q[i]?=some q->Zm (λx=>if x=j+i then 1 else 0) q)->(∀t∈p,∀i,i<Q.length->wg (j+i) t<=D (j+i))->(Ud v Q j p).1=0->Zm (λx=>if j<=x/\x<j+Q.length then D x else 0) (Ud v Q j p).2:=by
 intro Q
 induction Q with
 |nil=>
  intro j p D _ _ _;exact(uy v _).oa.mono λx=>N' _
 |cons q Q W=>
  intro j p D R hp J;have g:∀n,(Ud v Q (j+1) (Ia p j n)).1=0->Zm (λx=>if j+1<=x/\x<j+1+Q.length then D x else 0) (Ud v Q (j+1) (Ia p j n)).2:=λn B=>by
   refine W (j+1) (Ia p j n) D (λi r H=> ?_) (λt S i hi=> ?_) B
   .have:=R (i+1) r (by simpa using H);rwa[show j+1+i=j+(i+1) by omega]
   exact K2
  have b:Zm (λx=>if x=j then 1 else 0) q:=R 0 q rfl;have c:∀t∈p,wg j t<=D j:=λt S=>hp t S 0 (by rw[V_];omega);generalize a:Ud v Q (j+1)=sub at g;have e:∀m,m=128->(Ya q sub p j m).1=0->Zm (λx=>if j<=x/\x<j+(q::Q).length then D x else 0) (Ya q sub p j m).2:=λm hm h=>by
   refine(Ft b c (E:=λx=>if j+1<=x/\x<j+1+Q.length then D x else 0) (by rw[R' Z']) g m Z' h).mono λx=> ?_;rw[V_];by_cases C:x=j
   .rw[Q' C,Q' Z',C];omega
   rw[R' C];by_cases h2:j+1<=x/\x<j+1+Q.length
   .rw[Q' h2,Q' Z'];exact F' _
   rw[R' h2];exact N' _
  have L:Ud v (q::Q) j p=Ya q sub p j 128:=by rw[<-a];rfl
  rw[L] at J |-;exact e 128 rfl J
def ae8{l:List TR}{i:Nat}{t:TR}(h:t∈l):xo t.m i<=cw l i:=by
 induction l using Yj with
 |J=>cases h
 |K l x W=>
  rw[uu];obtain h|h:=A_.1 h
  .have:=W h;omega
  rw[k'.1 h];omega
def oM{l:List TR}{i:Nat}{B:Int}(E:0<=B)(h:∀t∈l,xo t.m i<=B):0<=cw l i/\cw l i<=B:=by
 induction l using Yj with
 |J=>exact⟨Int.le_refl _,E⟩
 |K l x W=>
  rw[uu];have h1:=W λt S=>h t (q9 _ S);have h2:=h x (H_ _ E');omega
def NH(t:TR)(i:Nat):(wg i t:Int)=xo t.m i:=by
 unfold wg xo
 cases t.m.data.toList[i]?<;>rfl
def wb(v:Int)(ts:List TR):List Nat:=(Pj v ts).map Int.toNat
def Mi{v:Int}(h:Ye v ts=0):Pj v ts=sa (wb v ts)/\(wb v ts).length=v.toNat/\∀(i d:Nat),(wb v ts)[i]?=some d->d<=127/\(∀t∈ts,wg i t<=d)/\((d:Int)=cw ts i):=by
 obtain⟨_,_,hm,_⟩:=Kb h;have T:Pj v ts=Gj v.toNat ts:=Q' h;have F:∀t∈ts,∀i,xo t.m i<=127:=λt S i=>by
  have h1:=hm t S;unfold yf at h1;rw[Z_] at h1;unfold xo
  cases he:t.m.data.toList[i]? with
  |none=>decide
  |some e=>have:=kq h1.1 he;show((e.toNat:Nat):Int)<=127;omega
 refine⟨?_,by unfold wb;rw[B',T,zf],λi d hi=> ?_⟩
 .unfold wb sa;rw[E_];refine(m7 _).symm.trans (J9 λx C=> ?_);rw[T] at C;obtain⟨i,_,rfl⟩:=x'.1 C;have:=(oM (B:=127) V' λt S=>F t S i).1;show cw ts i=((cw ts i).toNat:Int);omega
 unfold wb at hi;rw[T,C'] at hi;have D:i<v.toNat:=by
  refine N8 λE=> ?_;rw[X_ (by rw[zf];omega)] at hi
  cases hi
 rw[cx ts D] at hi;have h1:=oM (l:=ts) (i:=i) (B:=127) V' λt S=>F t S i;have h2:(cw ts i).toNat=d:=P_ hi;refine⟨Z',λt S=> ?_,Z'⟩;have G:=ae8 (i:=i) S;have z:=NH t i;omega
def Xb(m:ByteArray):List Nat:=m.data.toList.map UInt8.toNat
def Fp(m):(Xb m).length=m.size:=by rw[td];exact B' _
def uG{a b:ByteArray}(h:Xb a=Xb b):a=b:=Uu (List.map_inj_right (λ_ _=>g7.1)|>.1 h)
def Mq(m:ByteArray):ints m.data.toList=sa (Xb m):=by unfold ints sa Xb;rw[E_];rfl
def uS{a b:List Nat}(h:sa a=sa b):a=b:=(List.map_inj_right λ(x y:Nat) (e:(x:Int)=y)=>Int.ofNat.inj e).1 h
variable {xs:List Dyadic}
def uo(xs:List Dyadic)(l:List TR):Dyadic:=wS (λm=>fj (Xb m) xs) l
def AN(f:ByteArray->Dyadic)(l:List TR):wS f l=sm l λt=>t.c.fa*f t.m:=by
 induction l with
 |nil=>rfl
 |cons t l W=>rw[wS,sm,W]
def qj(xs)(l):uo xs (oa l)=uo xs l:=Wu _ _
def xy(xs)(l:List TR)(k):uo xs (l++k)=uo xs l+uo xs k:=Bm _ _ _
def lI:∀(a b:List Nat)(xs:List Dyadic),a.length=b.length->fj (List.zipWith (· + ·) a b) xs=fj a xs*fj b xs
 |[],[],xs,_=>by show(1:Dyadic)=1*1;grind
 |[],_::_,_,h=>by cases h
 |_::_,[],_,h=>by cases h
 |x::a,y::b,[],_=>by show(1:Dyadic)=1*1;grind
 |x::a,y::b,t::xs,h=>(by rw[List.zipWith_cons_cons,fj,fj,fj,lI a b xs (by simpa using h),xj];grind)
def Yp:∀(n:Nat)(xs:List Dyadic),fj (List.replicate n 0) xs=1
 |0,xs=>by cases xs<;>rfl
 |n+1,[]=>rfl
 |n+1,x::xs=>(by rw[a8,fj,Yp n xs,s7];grind)
def rV{a b:ByteArray}(h:Gl a b=0):Xb (mulM a b)=List.zipWith (· + ·) (Xb a) (Xb b)/\(Xb a).length=(Xb b).length:=by
 obtain⟨_,_,G,_,P⟩:=Bq h;refine⟨uS ?_,by unfold Xb;rw[B',B',G]⟩;rw[<-Mq,mulM,ed,P,Mq,Mq];unfold sa;rw[List.zipWith_map,List.map_zipWith];exact C_ (λf=>List.zipWith f (Xb a) (Xb b)) (funext λx=>funext λy=>(G9 x y).symm)
end Go.Proofs.YtbencocchdpikaaGreatDoor
