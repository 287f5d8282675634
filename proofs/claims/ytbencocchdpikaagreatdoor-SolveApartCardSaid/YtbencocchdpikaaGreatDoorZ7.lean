/- Lemmas for solveApart, part 7. -/
import Derived.OrdersIn
import Derived.Test.YtbencocchdpikaaGreatDoorZ6
set_option linter.all false
set_option maxHeartbeats 0
namespace Go.Proofs.YtbencocchdpikaaGreatDoor
open Go.Proofs.Tryz
open Go.RowKit
def ahb(n:Int):ZT:=[([0,1],n),([1,0],1)]
def Tw{g h:PX}(h1:g.e=0)(h2:h.e=0)(G:h.v=g.v):Qf [g,h]=0:=by
 have e:[g,h].find? (λg=>decide (g.e≠0))=none:=zh (E9.2 λx C=>by
  obtain rfl|C:=u'.1 C
  .simp[h1]
  rw[q'.1 C];simp[h2])
 unfold Qf;rw[e];show(if 2=0\/Oy [g,h]=true then(1:Int) else 0)=0;rw[Q'];rintro (J|J)
 .cases J
 obtain⟨x,C,Q⟩:=W9.1 J;have a:x.v≠g.v:=O9 Q;obtain rfl|C:=u'.1 C
 .exact a rfl
 rw[q'.1 C] at a;exact a G
def afK(ds:List Int):VP:=λv W=>∃g:Option Addr×Nat,v=.slice g.1 ds.length g.2/\Sl W g.1 ds.length 1 (Pa ds)
structure ahV(E:Int)(g:PX):Prop where
 bad:E≠0->g.v=0/\g.ts=[]
 ok:E=0->g.e=0/\ug 100000 g.ts/\∀t∈g.ts,t.m.size<=100000
def Kr{l:List TR}(h:Bf l=0):(oa l).length<=4096:=by
 unfold Bf at h;by_cases z:4096<(oa l).length
 .rw[P' z] at h;omega
 omega
def nW{v:Int}{l:List TR}(h:wi v l=0):Tg v=true/\(∀t∈l,Qd v t=true)/\(oa l).length<=4096:=by
 unfold wi at h;by_cases h1:Tg v=false\/(l.any λt=> !Qd v t)=true
 .rw[P' h1] at h;omega
 rw[Q' h1] at h;by_cases h2:65536<l.length
 .rw[P' h2] at h;omega
 rw[Q' h2] at h;refine⟨by cases Y:Tg v with|true=>rfl|false=>exact absurd (.inl Y) h1,λt S=> ?_,Kr h⟩
 cases hm:Qd v t with
 |true=>rfl
 |false=>exact absurd (.inr (W9.2 ⟨t,S,by rw[hm];rfl⟩)) h1
variable {j k:Nat}
def Cj{l:List TR}(h:ug k l)(u:k+l.length<=j)(hj:j<=3999990):ug j (oa l):=λt S=>by
 have G:Sz j t.c.da:=(Vn (λt S=>(h t S).2) t S).mono u;exact⟨by rw[(tf l).nf t S];exact G.ok hj,G⟩
def Nl{l:List TR}(h:∀t∈l,t.m.size<=100000):∀t∈oa l,t.m.size<=100000:=λt S=>by
 obtain⟨s,K,e⟩:=Ci t S;rw[<-e];exact h s K
def HN{X:List PX}{v:Int}(J:X≠[])(he:∀g∈X,g.e=0)(A:∀g∈X,g.v=v):Qf X=0:=by
 unfold Qf;rw[zh (E9.2 λx C=>by simp[he x C])];show(if X.length=0\/Oy X=true then(1:Int) else 0)=0;rw[Q'];rintro (h|h)
 .exact J (Q8 h)
 obtain⟨x,C,Q⟩:=W9.1 h;have a:x.v≠Uf X:=O9 Q;obtain⟨g,l,rfl⟩:=j7 J;exact a ((A x C).trans (A g I').symm)
def fm{l:List TR}(h:l.length<=4096):Bf l=0:=by
 unfold Bf;have:=Vb l;rw[Q' Z']
variable {ts:List TR}
def Gf.v0{v:Int}{g:PX}(o:Gf 0 v ts g):g.v=v:=o.v
def Gf.t0{v:Int}{g:PX}(o:Gf 0 v ts g):g.ts=ts:=o.ts
def S0(p:PX)(q):IG [p,q]=p.ts++q.ts:=by show p.ts++(q.ts++[])=_;rw[M_]
def fg(j:Nat)(t:TR):Nat:=match t.m.data.toList[j]? with|some e=>e.toNat|none=>0
def Km{t:TR}{e:UInt8}(h:t.m.data.toList[j]?=some e):fg j t=e.toNat:=by unfold fg;rw[h]
variable {n:Nat}{p:List TR}
def Oa(p:List TR)(j n:Nat):List TR:=p.filter λt=>decide (fg j t=n)
def wh(q:List TR)(sub:List TR->Int×List TR)(p:List TR)(j n:Nat)(a:Int×List TR):Int×List TR:=
 if a.1≠0 then a else if a.2.length=0/\(Oa p j n).length=0 then a else
 if Ef a.2 q≠0 then(Ef a.2 q,[]) else if(sub (Oa p j n)).1≠0 then((sub (Oa p j n)).1,[]) else
 if Bf (oa (Jb a.2 q)++(sub (Oa p j n)).2)≠0 then(Bf (oa (Jb a.2 q)++(sub (Oa p j n)).2),[]) else(0,oa (oa (Jb a.2 q)++(sub (Oa p j n)).2))
def Ta(q:List TR)(sub:List TR->Int×List TR)(p:List TR)(j:Nat):Nat->Int×List TR
 |0=>(0,[])
 |i+1=>wh q sub p j (127-i) (Ta q sub p j i)
def zi(q)(sub:List TR->Int×List TR)(p)(j i:Nat):Ta q sub p j (i+1)=wh q sub p j (127-i) (Ta q sub p j i):=rfl
def ye(v:Int):List (List TR)->Nat->List TR->Int×List TR
 |[],_,p=>(0,oa [⟨we v,(p.map TR.c).headD (nR 0)⟩])
 |q::Q,j,p=>Ta q (ye v Q (j+1)) p j 128
def nj{q:List TR}{sub:List TR->Int×List TR}{i:Nat}(h:(Ta q sub p j i).1≠0)(u:i<=k):Ta q sub p j k=Ta q sub p j i:=by
 induction k with
 |zero=>
  obtain rfl:i=0:=Z';rfl
 |succ k W=>
  by_cases e:i=k+1
  .rw[e]
  have:=W Z';show wh q sub p j (127-k) (Ta q sub p j k)=_;rw[this];unfold wh;rw[P' h]
def gE{q:List TR}(hp:ug k p)(R:ug j q)(sq:∀t∈q,t.m.size<=100000)(h:Ef p q=0)(u:k+j<=900000):ug (k+j+p.length*q.length) (oa (Jb p q))/\∀t∈oa (Jb p q),t.m.size<=100000:=by
 obtain⟨L,_,z⟩:=Uj h;have W:=Nq hp R Z';have o:=Vn λt S=>(W t S).2;rw[ij] at o;refine⟨λt S=> ?_,(pM hp R sq h u).2⟩;have:Sz (k+j+p.length*q.length) t.c.da:=o t S;refine⟨?_,this⟩;rw[(tf _).nf t S];exact this.ok Z'
structure Oi(v:Int)(k:Nat)(l:List TR):Prop where
 e:vf v l=0
 ok:ug k l
 sz:∀t∈l,t.m.size<=100000
def Oi.mono{v:Int}{l:List TR}(h:Oi v k l)(u:k<=j):Oi v j l:=⟨h.e,h.ok.mono u,h.sz⟩
def Oi.nil{v:Int}(A:Tg v=true):Oi v k []:=⟨TK A (J' _) (λ_ h=>nomatch h) ⟨.nil,(λ_ h=>nomatch h),(λ_ h=>nomatch h)⟩,(λ_ h=>nomatch h),(λ_ h=>nomatch h)⟩
def Oi.len{v:Int}{l:List TR}(h:Oi v k l):l.length<=4096:=(Gb h.e).2.1
def wL{v:Int}{q:List TR}{T:Nat}(hp:Oi v k p)(R:Oi v j q)(S:q.length<=T)(h:Ef p q=0)(u:k+j<=900000):Oi v (k+j+4096*T) (oa (Jb p q)):=by
 obtain⟨L,P,z⟩:=Uj h;obtain⟨f1,f2,f3,f4⟩:=Gb hp.e;have:=gE hp.ok R.ok R.sz h u;have hm:p.length*q.length<=4096*T:=G9 hp.len S;exact⟨Ce f1 z (Qn f3 P),this.1.mono Z',this.2⟩
variable {K:Nat}
def HK{v:Int}{a b:List TR}(M:Oi v k a)(F:Oi v k b)(h:Bf (a++b)=0)(u:k<=3000000):Oi v (k+8192) (oa (a++b)):=by
 obtain⟨f1,f2,f3,f4⟩:=Gb M.e;obtain⟨T,j,K,X⟩:=Gb F.e;have Q:(a++b).length<=8192:=by rw[y'];omega
 refine⟨Ce f1 (Kr h) λt S=> ?_,Cj (λt S=> ?_) (show k+(a++b).length<=k+8192 by omega) Z',Nl λt S=> ?_⟩
 .obtain h|h:=O_.1 S
  .exact f3 t h
  exact K t h
 .obtain h|h:=O_.1 S
  .exact M.ok t h
  exact F.ok t h
 obtain h|h:=O_.1 S
 .exact M.sz t h
 exact F.sz t h
def tQ{v:Int}{q:List TR}{sub:List TR->Int×List TR}{a:Int×List TR}{S T B b:Nat}(M:Oi v S a.2)(R:Oi v K q)(c:q.length<=T)(F:(sub (Oa p j n)).1=0->Oi v B (sub (Oa p j n)).2)(h1:S+K+4096*T+8192<=b)(h2:B+8192<=b)(J:b<=900000) (h:(wh q sub p j n a).1=0):Oi v b (wh q sub p j n a).2:=by
 unfold wh at h |-;by_cases L:a.1≠0
 .rw[P' L] at h;exact absurd h L
 rw[Q' L] at h |-;by_cases X:a.2.length=0/\(Oa p j n).length=0
 .rw[P' X];exact M.mono Z'
 rw[Q' X] at h |-;by_cases Y:Ef a.2 q≠0
 .rw[P' Y] at h;exact absurd h Y
 rw[Q' Y] at h |-;by_cases e:(sub (Oa p j n)).1≠0
 .rw[P' e] at h;exact absurd h e
 rw[Q' e] at h |-;by_cases H:Bf (oa (Jb a.2 q)++(sub (Oa p j n)).2)≠0
 .rw[P' H] at h;exact absurd h H
 rw[Q' H];exact(HK ((wL M R c Z' Z').mono (show _<=b-8192 by omega)) ((F Z').mono Z') Z' Z').mono Z'
def VN(h:∀t∈p,fg j t<n):Oa p j n=[]:=j6.2 λt S=>by
 have:=h t S;simp only[h'];omega
def Ih:∀t∈Oa p j n,t∈p:=λt S=>(D9.1 S).1
def jh{q p:List TR}{sub:List TR->Int×List TR}{j D:Nat}(h:∀t∈p,fg j t<=D):∀i,i+D<=127->Ta q sub p j i=(0,[])
 |0,_=>rfl
 |i+1,hi=>by
  show wh q sub p j (127-i) (Ta q sub p j i)=_;rw[jh h i Z',show wh q sub p j (127-i) (0,[])=(0,[]) by
   unfold wh;rw[Q' V',P' ⟨rfl,by rw[VN λt S=>by have:=h t S;omega];rfl⟩]]
def He(c:Nat):List Nat->Nat->Nat
 |[],k=>k
 |d::ds,k=>He c ds k+d*c+8192
def Ts(c k:Nat):He c [] k=k:=rfl
def Cp(c d k:Nat)(ds):He c (d::ds) k=He c ds k+d*c+8192:=rfl
def pw{v:Int}{q p:List TR}{sub:List TR->Int×List TR}{j D K T B c:Nat}(A:Tg v=true)(a:Oi v K q)(S:q.length<=T)(r:∀t∈p,fg j t<=D)(R:D<=127)(F:∀n,(sub (Oa p j n)).1=0->Oi v B (sub (Oa p j n)).2)(E:K+4096*T+8192<=c)(d:B+D*c+8192<=900000):
  ∀i,i<=128->(Ta q sub p j i).1=0->Oi v (B+(i+D-128)*c+8192) (Ta q sub p j i).2
 |0,_,_=>Oi.nil A
 |i+1,hi,J=>by
  by_cases h1:i+1+D<=127
  .rw[jh r _ h1];exact Oi.nil A
  have h2:(Ta q sub p j i).1=0:=(by refine L8 λc=> ?_;rw[nj c (Nat.le_succ i)] at J;exact c J);have hle:(i+1+D-128)*c<=D*c:=c_ _ Z';by_cases G:i+D<=127
  .have b:=jh (q:=q) (sub:=sub) r i G;show Oi v _ (wh q sub p j (127-i) (Ta q sub p j i)).2;have P:(wh q sub p j (127-i) (Ta q sub p j i)).1=0:=J;rw[b] at P |-;rw[show i+1+D-128=0 by omega,C7];unfold wh at P |-;rw[Q' V'] at P |-;by_cases X:((0:Int),([]:List TR)).2.length=0/\(Oa p j (127-i)).length=0
   .rw[P' X];exact Oi.nil A
   rw[Q' X] at P |-;by_cases Y:Ef [] q≠0
   .rw[P' Y] at P;exact absurd P Y
   rw[Q' Y] at P |-;by_cases e:(sub (Oa p j (127-i))).1≠0
   .rw[P' e] at P;exact absurd P e
   rw[Q' e] at P |-;by_cases H:Bf (oa (Jb [] q)++(sub (Oa p j (127-i))).2)≠0
   .rw[P' H] at P;exact absurd P H
   rw[Q' H];have f:Oi v B (oa (Jb [] q)):=Oi.nil A;exact(HK f (F _ Z') Z' Z').mono Z'
  have W:=pw A a S r R F E d i Z' h2;have N:(i+1+D-128)*c=(i+D-128)*c+c:=by rw[show i+1+D-128=(i+D-128)+1 by omega,H9]
  rw[N] at hle |-;generalize (i+D-128)*c=y at*;generalize D*c=z at*;exact tQ W a S (F _) Z' Z' Z' J
def kt{v:Int}{x:NR}(A:Tg v=true)(C:Sz k x.da)(u:k<=900000):Oi v (k+1) (oa [⟨we v,x⟩]):=by
 have h1:=Xe.1 A;have h2:=Yk h1.1;refine⟨Ce A (d' (Vb _) (show 1<=4096 by decide)) λt S=> ?_,λt S=> ?_,λt S=> ?_⟩
 .rw[q'.1 S];unfold Qd;rw[l',h'];exact⟨Mt v,h2⟩
 .have h1:Sz (k+1) t.c.da:=Vn (k:=k) (l:=[⟨we v,x⟩]) (λs K=>by rw[q'.1 K];exact C) t S;exact⟨by rw[(tf _).nf t S];exact h1.ok Z',h1⟩
 obtain⟨s,K,e⟩:=Ci t S;rw[<-e,q'.1 K];show(we v).size<=100000;omega
def UJ{v:Int}{T L:Nat}(A:Tg v=true)(a:K+4096*T+8192<=L):∀(Q:List (List TR))(j:Nat)(p:List TR)(ds:List Nat)(k:Nat),(∀q∈Q,Oi v K q/\q.length<=T)->ug k p->ds.length=Q.length->(∀(i d:Nat),ds[i]?=some d->d<=127/\∀t∈p,fg (j+i) t<=d)->He L ds (k+1)<=900000->(ye v Q j p).1=0->Oi v (He L ds (k+1)) (ye v Q j p).2:=by
 intro Q
 induction Q with
 |nil=>
  intro j p ds k _ y F _ E _;obtain rfl:ds=[]:=I7.1 F;rw[Ts] at E |-;refine kt A ?_ Z';exact acx
 |cons q Q W=>
  intro j p ds k R y F b E J
  cases ds with
  |nil=>cases F
  |cons d ds=>
   have c:=b 0 d rfl;rw[Cp] at E |-;have l:He L ds (k+1)<=900000:=Z';have g:∀n,(ye v Q (j+1) (Oa p j n)).1=0->Oi v (He L ds (k+1)) (ye v Q (j+1) (Oa p j n)).2:=λn B=>(by refine W (j+1) (Oa p j n) ds k (λr H=>R r (L' _ H)) (λt S=>y t (Ih t S)) (by simpa using F) (λi e he=> ?_) l B;have h2:=b (i+1) e (by simpa using he);refine⟨h2.1,λt S=> ?_⟩;have G:=h2.2 t (Ih t S);rwa[show j+1+i=j+(i+1) by omega]);have h1:=pw (sub:=ye v Q (j+1)) (p:=p) (j:=j) A (R q I').1 (R q I').2 c.2 c.1 g a E 128 (E' _) J;rw[show 128+d-128=d by omega] at h1;exact h1
def YD:∀{a b:List UInt8}{j:Nat}{x y:UInt8},Op.bytesLess a b=true->a.take j=b.take j->a[j]?=some x->b[j]?=some y->x.toNat<=y.toNat
 |[],_,j,x,y,_,_,C,_=>by simp at C
 |_,[],j,x,y,_,_,_,hy=>by simp at hy
 |c::a,d::b,0,x,y,h,_,C,hy=>by
  simp only[q7,g9] at C hy;subst C;subst hy;simp only[Op.bytesLess,V7,l',h',k9] at h;obtain h|⟨h,_⟩:=h
  .exact Nat.le_of_lt (UInt8.lt_iff_toNat_lt.1 h)
  rw[h];exact E' _
 |c::a,d::b,j+1,x,y,h,S,C,hy=>(by simp only[X7,R6] at S;obtain⟨rfl,S⟩:=S;simp only[p7] at C hy;refine YD (a:=a) (b:=b) ?_ S C hy;simpa[Op.bytesLess] using h)
structure LJ(v:Int)(j:Nat)(p:List TR):Prop where
 au:xv p
 may:∀t∈p,Qd v t=true
 pre:∀a∈p,∀b∈p,a.m.data.toList.take j=b.m.data.toList.take j
def LJ.size{v:Int}(h:LJ v j p):∀t∈p,(t.m.data.toList.length:Int)=v:=λt S=>by
 rw[<-Hc];exact O9 (j9.1 (h.may t S)).2
def LJ.get{v:Int}(h:LJ v j p)(hj:(j:Int)<v){t:TR}(S:t∈p):∃e:UInt8,t.m.data.toList[j]?=some e/\fg j t=e.toNat/\e.toNat<128:=by
 obtain⟨e,he⟩:=aa (l:=t.m.data.toList) (k:=j) (by have:=h.size t S;omega);exact⟨e,he,Km he,Nn (j9.1 (h.may t S)).1 he⟩
def LJ.mono{v:Int}(h:LJ v j p)(hj:(j:Int)<v):p.Pairwise λa b=>fg j a<=fg j b:=by
 refine List.Pairwise.imp_of_mem (λ{a b} M F Q=> ?_) h.au;obtain⟨x,C,ex,_⟩:=h.get hj M;obtain⟨y,hy,c,_⟩:=h.get hj F;rw[ex,c];exact YD Q (h.pre a M b F) C hy
def LJ.with{v:Int}(h:LJ v j p)(hj:(j:Int)<v):LJ v (j+1) (Oa p j n):=by
 refine⟨h.au.filter _,λt S=>h.may t (Ih t S),λa M b F=> ?_⟩;obtain⟨J,E⟩:=D9.1 M;obtain⟨c,R⟩:=D9.1 F;obtain⟨x,C,ex,_⟩:=h.get hj J;obtain⟨y,hy,e,_⟩:=h.get hj c;have d:x=y:=Q6.1 (by rw[<-ex,<-e,O9 E,O9 R]);rw[ja C,ja hy,h.pre a J b c,d]
variable {Y:Nat}{α:Type}
def XP{p:List α}{z:Nat}(h:Y<=z):p.drop Y=(p.drop Y).take (z-Y)++p.drop z:=by
 have:p.drop z=(p.drop Y).drop (z-Y):=by rw[F7];congr 1;omega
 rw[this,q_]
def oG{z:Nat}(i:Y<=z)(h1:∀t∈p.take Y,fg j t<n)(h2:∀t∈(p.drop Y).take (z-Y),fg j t=n)(G:∀t∈p.drop z,n<fg j t):Oa p j n=(p.drop Y).take (z-Y):=by
 have e:p=p.take Y++((p.drop Y).take (z-Y)++p.drop z):=by
  have:p.drop z=(p.drop Y).drop (z-Y):=by rw[F7];congr 1;omega
  rw[this,q_,q_]
 unfold Oa
 conv=>lhs;rw[e]
 rw[P7,P7,j6.2,y6.2,j6.2,F',M_]
 .intro t S;have:=G t S;simp only[h'];omega
 .intro t S;have:=h2 t S;simpa using this
 intro t S;have:=h1 t S;simp only[h'];omega
def UM{x:TR}(h:p.Pairwise λa b=>fg j a<=fg j b)(C:p[Y]?=some x)(B:fg j x<n):∀t∈p.take (Y+1),fg j t<n:=λt S=>by
 rw[ja C] at S;obtain S|S:=O_.1 S
 .have e:p=p.take Y++x::p.drop (Y+1):=by rw[<-de C,q_]
  rw[e,n6] at h;have:=h.2.2 t S x I';omega
 obtain rfl:=q'.1 S;exact B
def Zy(p:PX)(i:Int):Int:=if p.e=0 then(if i<0\/p.v<=i then 1 else 0) else p.e
variable {w:World}
def hO(p:PX)(i:Int)(k:Nat)(w)(S:Gc w)(hp:p.at_ w)(d:p.Ug k):Zc 266 #[p.V,.int .i64 i] w (.int .i64 (Zy p i)):=by
 have I:=Hp.start w;have K:=λZ P F=>Zj p k Z P (hp.ext F) d;unfold Zy;by_cases J:p.e=0
 .rw[P' J];rw[J] at K;by_cases h1:i<0
  .rw[P' (.inl h1)];exact EX
  by_cases h2:p.v<=i
  .rw[P' (.inr h2)];exact EX
  rw[Q' Z'];exact EX
 rw[Q' J];exact EX
variable {fz:Nat×Nat}{w0:World}
def Hp.aW{H:List HE}(h:Hp w0 H w){i b:Nat}{t:TypeId}{l:List UInt8}{ex:List Value}(hi:H[i]?=some (.blk b t (bj l++ex) fz))(Q:l.length=n):Sl w (some ⟨b,0,none⟩) n 1 (bj l):=by
 refine⟨by rw[qi,Q,X_],λ_=>⟨_,rfl,λj u hu=> ?_⟩⟩;refine h.fC hi j u ?_;rw[m9 (x'.1 hu).1];exact hu
def SC(i:Nat)(t:TR):Option TR:=match t.m.data.toList[i]? with|some e=>if e.toNat=0 then none else some ⟨str (t.m.data.toList.set i (e-1)),nR (t.c.da*((e.toNat:Int):Dyadic))⟩|none=>none
def xm(i:Nat)(l:List TR):List TR:=l.filterMap (SC i)
def FO{i:Nat}{l:List TR}{x:TR}(h:l[j]?=some x):xm i (l.take (j+1))=xm i (l.take j)++(SC i x).toList:=by
 unfold xm;rw[ja h,l6];congr 1
def cX{p:PX}{i:Int}(h:Zy p i=0):p.e=0/\0<=i/\i<p.v:=by
 unfold Zy at h;by_cases J:p.e=0
 .rw[P' J] at h;by_cases h1:i<0\/p.v<=i
  .rw[P' h1] at h;cases h
  exact⟨J,Z',Z'⟩
 rw[Q' J] at h;exact absurd h J
def QW{l:List UInt8}{ex:List Value}{i:Nat}{e:UInt8}(h:i<l.length)(he:e.toNat≠0):db (bj l++ex) (i*1) [.int .u8 (((e.toNat+256-1) % 256:Nat):Int)]=bj (l.set i (e-1))++ex:=by
 have Q:i<(bj l).length:=by rw[qi];exact h
 have h1:(1:UInt8)<=e:=by rw[UInt8.le_iff_toNat_le];show 1<=e.toNat;omega
 have h2:e.toNat<256:=e.toNat_lt;have G:(e-1).toNat=(e.toNat+256-1) % 256:=(by rw[UInt8.toNat_sub_of_le _ _ h1];show e.toNat-1=_;omega);rw[X_,Qb (by rw[y'];omega),List.set_append_left _ _ Q];congr 1;unfold bj;rw[B9,G]
def Mw{l:List UInt8}:ke l=true↔∀c∈l,c.toNat<128:=by
 unfold ke;rw[L_];exact⟨λh c E=>O9 (h c E),λh c E=>m' (h c E)⟩
def Ss{i:Nat}{t s:TR}(h:SC i t=some s):∃e,t.m.data.toList[i]?=some e/\e.toNat≠0/\s=⟨str (t.m.data.toList.set i (e-1)),nR (t.c.da*((e.toNat:Int):Dyadic))⟩:=by
 unfold SC at h;split at h
 .rename_i e he;by_cases J:e.toNat=0
  .rw[P' J] at h;cases h
  rw[Q' J] at h;exact⟨e,he,J,(i' h).symm⟩
 cases h
def kU{v:Int}{i:Nat}{t s:TR}(h:SC i t=some s)(S:Qd v t=true):Qd v s=true:=by
 obtain⟨e,he,J,rfl⟩:=Ss h;unfold Qd at S |-;rw[l',h'] at S;rw[l',h'];refine⟨?_, ?_⟩
 .show ke (str _).data.toList=true;rw[vc,Mw];intro c E;obtain E|rfl:=R8 E
  .exact Mw.1 S.1 c E
  have h1:(1:UInt8)<=e:=by rw[UInt8.le_iff_toNat_le];show 1<=e.toNat;omega
  rw[UInt8.toNat_sub_of_le _ _ h1];have:=Mw.1 S.1 e (N' he);omega
 show((str _).size:Int)=v;rw[yg,d_,<-Hc];exact S.2
def UL{i:Nat}{t s:TR}(h:SC i t=some s)(S:Sz k t.c.da)(u:k<=1000000):s.c.ok/\Sz (k+24) s.c.da/\s.m.size=t.m.size:=by
 obtain⟨e,he,J,rfl⟩:=Ss h;have g:e.toNat<256:=e.toNat_lt;have zn:Sz 24 ((e.toNat:Int):Dyadic):=SW (m:=(e.toNat:Int)) (e:=0) Z' V' V';have K:=S.mul zn;exact⟨K.ok Z',by show Sz _ (nR _).da;rw[Ga];exact K,by show(str _).size=_;rw[yg,d_,<-Hc]⟩
def IM{v:Int}{i:Nat}(h:vf v ts=0)(W:ug k ts)(o:∀t∈ts,t.m.size<=100000)(u:k<=100000):wi v (xm i ts)=0/\ug (k+24) (xm i ts)/\∀t∈xm i ts,t.m.size<=100000:=by
 obtain⟨h1,h2,G,_⟩:=Gb h;have Q:(xm i ts).length<=4096:=d' (List.length_filterMap_le _ _) h2;have hm:∀s∈xm i ts,∃t∈ts,SC i t=some s:=λs K=>Z8.1 K;refine⟨?_,λs K=> ?_,λs K=> ?_⟩
 .unfold wi;rw[Q',Q' Z']
  .unfold Bf;have:=Vb (xm i ts);rw[Q' Z']
  rintro (P|P)
  .rw[h1] at P;cases P
  obtain⟨s,K,L⟩:=W9.1 P;obtain⟨t,S,N⟩:=hm s K;rw[kU N (G t S)] at L
  cases L
 .obtain⟨t,S,N⟩:=hm s K;have:=UL N (W t S).2 Z';exact⟨this.1,this.2.1⟩
 obtain⟨t,S,N⟩:=hm s K;rw[(UL N (W t S).2 Z').2.2];exact o t S
def Gy(p:PX)(h:Int)(k:Nat)(w:World)(S:Gc w)(hp:p.at_ w)(lp:p.Ug k)(hk:k<=100000):Calls prog 217 #[.agg #[.int .i64 p.v,.slice p.A p.n p.c],.int .i64 h] w λr V=>∃g:PX,Gf (Zy p h) p.v (oa (xm h.toNat p.ts)) g/\r=.returned (.tuple #[.agg #[.int .i64 g.v,.slice g.A g.n g.c],.int .i64 (Zy p h)])/\Hp w [g.row] V:=by
 have I:=Hp.start w;have K:=λZ P hb=>hO p h k Z P (hp.ext hb) lp;by_cases h0:Zy p h=0
 .obtain⟨D,hi0,H⟩:=cX h0;rw[h0] at K |-;obtain⟨R,h4,L,_⟩:=Gb D;replace R:=Xe.1 R;obtain⟨pv,pA,E,pc,ts⟩:=p;replace hpl:ts.length=E:=hp.ln;replace hp:Sl w pA E 4 (ia TR.cells ts):=hp;have Q:ug k ts:=lp.ok;have szp:∀t∈ts,t.m.size<=100000:=lp.sz;replace L:∀t∈ts,Qd pv t=true:=L;replace h4:ts.length<=4096:=h4;replace R:0<=pv/\pv<=12:=R;replace H:h<pv:=H;obtain⟨j,rfl⟩:∃j:Nat,h=(j:Int):=⟨h.toNat,Z'⟩;rw[show((j:Int)).toNat=j from rfl];show Calls _ _ _ _ λr V=>∃g:PX,Gf 0 pv (oa (xm j ts)) g/\r=.returned (.tuple #[.agg #[.int .i64 g.v,.slice g.A g.n g.c],.int .i64 0])/\Hp w [g.row] V;refine Ca (l:=[.agg #[.int .i64 pv,.slice pA E pc],.int .i64 j]) func217 ?_;refine yb ?_;intro b2 w2 I b4 w4 I;refine cd I (K _ (S.hp I) I.below) ?_;intro w14 I;refine fa ?_;replace I:=I.rb 72 4;refine Fi 7 22 (λa v V=>∃(i:Nat)(M:List TR)(A:Option Addr)(c:Nat),i<=E/\v=.int .i64 i/\M=xm j (ts.take i)/\a=.slice A M.length c/\Hp w [.row A M.length c 72 4 (ia TR.cells M),.blk b4 24 [.int .i64 0,.slice none 0 0] (0,0),.blk b2 24 [.int .i64 pv,.slice pA E pc] (0,0)] V) (λ_ v _=>E-(intOf v).toNat) ?_ ?_
  .exact⟨0,[],none,0,J' _,rfl,rfl,rfl,I⟩
  clear I;rintro ρ' a_ v V ⟨i,M,A,c,hi,rfl,s,rfl,I⟩;have hMl:M.length<=i:=by rw[s];exact d' (List.length_filterMap_le _ _) (by rw[p'];omega)
  by_cases hlt:i<E
  .obtain⟨x,T⟩:=aa (l:=ts) (k:=i) Z';obtain⟨ad,rfl,hr⟩:=hp.at_ Z';have J:=Q x (N' T);have hmx:=j9.1 (L x (N' T));have hxz:(x.m.size:Int)=pv:=O9 hmx.2;obtain⟨e,he⟩:=aa (l:=x.m.data.toList) (k:=j) (by rw[<-Hc];omega);have he8:e.toNat<256:=e.toNat_lt;have Y:j<x.m.data.toList.length:=(x'.1 he).1;have z:SC j x=if e.toNat=0 then none else some ⟨str (x.m.data.toList.set j (e-1)),nR (x.c.da*((e.toNat:Int):Dyadic))⟩:=by unfold SC;rw[he]
   have X:=FO (i:=j) T;rw[<-s] at X;refine fa ?_;refine sv (Ka (vs:=[_,_,_,_]) pa.out rfl ((hr.ext I.below).recAt TR.len T) rfl) ?_;refine yb ?_;intro b9 w9 I ws I;refine JB I Qa.out Qa.out Qa.out rfl V' ?_;intro g28 c28 y w28 I;have hcl:(bj x.m.data.toList++y)[j]?=some (.int .u8 (e.toNat:Int)):=by rw[m9 (by rw[qi];exact Y)];unfold bj;rw[z',he];rfl
   generalize (((bj x.m.data.toList++y).length,(bj x.m.data.toList++y).length+1):Nat×Nat)=fz at I;by_cases o:e.toNat=0
   .rw[z,P' o] at X;refine fa ?_;refine LU ?_;replace I:=I.sub (G' _ (G' _ (O' _ (O' _ (O' _ Z_)))));refine⟨⟨i+1,M,A,c,Z',rfl,by rw[X];simp,rfl,I⟩,by show E-(i+1)<E-i;omega, ?_⟩;exact Wb
   rw[z,Q' o] at X;refine fa ?_;refine LU ?_;refine LU ?_;refine sv (Ba pa.out rfl (I.se (i:=0) rfl (by first|assumption|(simp only[X_];assumption)))) ?_;refine YY ?_;refine Tx I (i:=0) (vs:=[_]) rfl rfl (Xb rfl) rfl pa.out rfl (by rw[y',qi];omega) rfl ?_;intro ws I;simp only[j'] at I;rw[QW Y o] at I;have u:(x.m.data.toList.set j (e-1)).length=x.m.size:=by rw[d_,<-Hc]
   have zn:Sz 24 ((e.toNat:Int):Dyadic):=SW (m:=(e.toNat:Int)) (e:=0) Z' V' V';have F:=λA cc Z P N=>Td A 2 cc [x.c,nR ((e.toNat:Int):Dyadic)] Z P N (by simpa using⟨J.1,zn.ok V'⟩) (k+24) (by simpa[Ga] using⟨J.2.mono Z',zn.mono Z'⟩) Z' V';rw[show Re ([x.c,nR ((e.toNat:Int):Dyadic)].map NR.da)=x.c.da*((e.toNat:Int):Dyadic) by show 1*x.c.da*(nR _).da=_;rw[Ga,x8]] at F;refine fa ?_;refine Ak 11 I ?_;refine wb ?_;refine Ja (i:=2) (Is (.string ⟨((x.m.data.toList.set j (e-1))).toArray⟩)) Is.ext ?_ ?_
   .intro U Z hj hR;exact wc rfl (Li (l:=(x.m.data.toList.set j (e-1))) Qa.out Qa.out Qa.out (show U 46=Value.slice _ _ _ from hR.1) (hj.hp.aW (i:=0) rfl u)) ⟨Below.refl _ _,rfl⟩
   refine wb ?_;refine dC (λ_ hj=>ej (e.toNat:Int) _ (S.hp hj.hp) Z' Z') ?_;refine Wp [_,_,_,_,_,_] ?_;refine Ja (i:=8) (Is (.agg #[.bool (nR (x.c.da*((e.toNat:Int):Dyadic))).neg,.string (nR (x.c.da*((e.toNat:Int):Dyadic))).Va,.int .i64 (nR (x.c.da*((e.toNat:Int):Dyadic))).e])) Is.ext ?_ ?_
   .intro U Z hj hR;obtain⟨G,q,h52,s52⟩:=hR.1;exact ib rfl (La fi (qa h52 Wa)) (F G q _ (S.hp hj.hp) s52) (λ_ _ hq=>⟨_,hq.1,hq.2,rfl⟩)
   refine wb ?_;refine Wp [_,_,_,_] ?_;refine Fa ?_;intro f W hJ hV;obtain⟨v55,v54,v53,v52,v51,v50,v49,v48,v47,v46,v45,_⟩:=hV;obtain⟨G,q,e52,f52⟩:Rows _ _ _ (f 7) W:=v52;obtain⟨A55,c55,e55,f55⟩:Rows _ _ _ (f 10) W:=v55;replace I:=hJ.hp;refine lg ?_;clear e52 e55 hJ;refine mb I (i:=2) rfl rfl rfl (f55) Qa.out pa.out rfl V' (by first|rfl|exact Nb _|exact xb _|exact Da _|exact Ia NR.one _) Z' Z' V' ?_;intro A56 c56 w56 I;simp only[j',t_] at I;refine fa ?_;replace I:=I.sub (G' _ (G' _ (O' _ (O' _ (O' _ Z_)))));refine⟨⟨i+1,M++[⟨str (x.m.data.toList.set j (e-1)),nR (x.c.da*((e.toNat:Int):Dyadic))⟩],A56,c56,Z',rfl,by rw[X];rfl,by rw[y'];rfl,by rw[y',Aa,Jj];exact I⟩,by show E-(i+1)<E-i;omega, ?_⟩;exact Wb
  obtain rfl:i=E:=Z';rw[w' Z'] at s;have C:wi pv M=0/\ug (k+24) M/\∀t∈M,t.m.size<=100000:=(by rw[s];exact IM D Q szp hk);have B:=λA c Z P N=>mn pv A M.length c M (k+24) Z P N Z' Z' C.2.1 C.2.2;rw[C.1] at B;refine fa ?_;refine Wi (B _ _ _ (S.hp I) (I.ma (i:=0) rfl)) ?_;rintro e_ w61 ⟨g,og,rfl,h3⟩;refine⟨_,rfl, ?_⟩;refine RT ?_;intro I;refine Bb ?_;refine mV ?_;intro ws I;rw[s] at og;exact yR
 generalize Zy p h=e at*;refine Ca func217 ?_;refine yb ?_;intro b2 w2 I b4 w4 I;refine cd I (K _ (S.hp I) I.below) ?_;intro w14 I;refine Bb ?_;refine rn5 ?_;intro ws I;exact⟨PX.nil,Gf.err h0,rfl,(I.sub (m_ _)).FI⟩
variable {W Z:World}
def JJ.VW{H L:List HE}(Q:JJ w0 H w W)(K:Hp w0 H w)(F:w.heap.size<=Z.heap.size)(a:Hp Z L W):Hp w0 (L++H) W:=
 K.join (⟨Q.bl,λx C=>pn (a.own x C) F,a.nd⟩:Hp w L W)
variable {E:Int}{base:Nat}
def er(base:Nat)(E v:Int)(ts:List TR):VP:=Bl base E v ts
def er.ext{v:Int}(x:Value)(w V)(h:er base E v ts x w)(F:Below w.heap.size w V):er base E v ts x V:=Bl.ext x w V h F
def FF(v:Int):oa [⟨we v,nR 0⟩]=[]:=by
 unfold oa xh Ap;rfl
def LH(lA:Option Addr)(lc K T c0:Nat)(v:Int)(ls:List PX)(hv:Tg v=true)(hlc:ls.length<=lc)(hl12:ls.length<=12)(hls:∀g∈ls,Oi v K g.ts/\g.v=v/\g.Ug K/\g.ts.length<=T)(hc0:K+4096*T+8192<=c0)(hc1:c0<=440000):
  ∀(Q:List PX)(j:Nat)(p:List TR)(A:Option Addr)(n c:Nat)(ds:List Nat)(k:Nat)(w:World),ls.drop j=Q->j<=ls.length->Gc w->Sl w lA ls.length 2 (ia PX.cells ls)->(∀g∈ls,g.at_ w)->Sl w A n 4 (ia TR.cells p)->n<=c->LJ ls.length j p->ug k p->n<=4096->ds.length=Q.length->(∀(i d:Nat),ds[i]?=some d->d<=127/\∀t∈p,fg (j+i) t<=d)->He c0 ds (k+1)<=440000->
  Calls prog 280 #[.slice A n c,.int .i64 j,.slice lA ls.length lc,.int .i64 v] w λr V=>∃g:PX,Gf (ye v (Q.map PX.ts) j p).1 v (ye v (Q.map PX.ts) j p).2 g/\r=.returned (.tuple #[.agg #[.int .i64 g.v,.slice g.A g.n g.c],.int .i64 (ye v (Q.map PX.ts) j p).1])/\Hp w [g.row] V:=by
 intro Q;have hK:K<=440000:=Z';have hco:PG v=0:=Q' (by rw[hv];decide)
 induction Q with
 |nil=>
  intro j p A n c ds k w hq hj hT hL hat hS hnc hsr hok hn H hD hB;have I:=Hp.start w;have hln:=hS.sa TR.len V';obtain rfl:j=ls.length:=(by have:=Y_ List.length hq;rw[j_] at this;simp only[B7] at this;omega);obtain rfl:ds=[]:=I7.1 H;rw[Ts] at hB;have y:=λc hc Z B=>Fl v c k Z B hc Z';rw[hco] at y
  cases p with
  |nil=>
   refine adG ?_;refine Ca (l:=[.slice A 0 c,.int .i64 ls.length,.slice lA ls.length lc,.int .i64 v]) func280 ?_;refine Bb ?_;intro b8 w8 I;refine te (y (nR 0) ⟨(Sz.zero k).ok Z',by rw[Ga];exact Sz.zero k⟩ _ (hT.hp I)) rfl ?_;rintro e_ w25 ⟨g,og,rfl,h3⟩;refine⟨_,rfl, ?_⟩;replace I:=I.join h3;refine HZ ?_;intro ws I;exact yR
  |cons t p=>
   have hn1:p.length+1=n:=by simpa using hln
   have S:=hok t I';obtain⟨ad,rfl,hr⟩:=hS.at_ Z';show Calls _ _ _ _ λr V=>∃g:PX,Gf 0 v (oa [⟨we v,t.c⟩]) g/\r=.returned (.tuple #[.agg #[.int .i64 g.v,.slice g.A g.n g.c],.int .i64 0])/\Hp w [g.row] V;refine Ca (l:=[.slice (some ad) n c,.int .i64 ls.length,.slice lA ls.length lc,.int .i64 v]) func280 ?_;refine Bb ?_;intro b8 w8 I;refine sv (Ka (vs:=[_,_,_]) pa.out rfl (((hr.ext I.below).recAt TR.len (show(t::p)[0]?=some t from rfl)).drop 1) rfl) ?_;refine Wi (y t.c S _ (hT.hp I)) ?_;rintro e_ w33 ⟨g,og,rfl,h3⟩;refine⟨_,rfl, ?_⟩;replace I:=I.join h3;refine HZ ?_;intro ws I;exact yR
 |cons q Q ih=>
  intro j p A n c ds k w hq hj hT hL hat hS hnc hsr hok hn H hD hB;have I:=Hp.start w;have hln:=hS.sa TR.len V'
  cases ds with
  |nil=>cases H
  |cons d ds=>
   have hd:=hD 0 d rfl;have hjl:j<ls.length:=by
    obtain h|h:=o_ j ls.length
    .exact h
    rw[P8 h] at hq;cases hq
   have hqj:ls[j]?=some q:=by rw[<-List.head?_drop,hq];rfl
   have hqs:ls.drop (j+1)=Q:=by rw[<-List.tail_drop,hq];rfl
   obtain⟨hqk,hqv,hql,hqT⟩:=hls q (N' hqj);rw[Cp] at hB;have hB1:He c0 ds (k+1)<=440000:=Z';have hmono:=hsr.mono Z';refine adk ?_;have hDs:∀n (i e:Nat),ds[i]?=some e->e<=127/\∀t∈Oa p j n,fg (j+1+i) t<=e:=λn i e he=>(by have h2:=hD (i+1) e (by simpa using he);refine⟨h2.1,λt S=> ?_⟩;have h3:=h2.2 t (Ih t S);rwa[show j+1+i=j+(i+1) by omega]);have hrec:∀(m Y z:Nat)(Z:World),Gc Z->Below w.heap.size w Z->Y<=z->z<=n->Oa p j m=(p.drop Y).take (z-Y)->Calls prog 280 #[.slice (if c=Y then A else A.map (·.add (Y*4))) (z-Y) (c-Y),.int .i64 ((j:Int)+1),.slice lA ls.length lc,.int .i64 v] Z λr V=>∃g:PX,Gf (ye v (Q.map PX.ts) (j+1) (Oa p j m)).1 v (ye v (Q.map PX.ts) (j+1) (Oa p j m)).2 g/\r=.returned (.tuple #[.agg #[.int .i64 g.v,.slice g.A g.n g.c],.int .i64 (ye v (Q.map PX.ts) (j+1) (Oa p j m)).1])/\Hp Z [g.row] V:=λm Y z Z B hb h1 h2 hw=>(by have hcut:=(hS.ext hb).cut h1 h2 hnc;rw[Yf TR.len,qh TR.len,<-hw] at hcut;exact ih (j+1) (Oa p j m) _ (z-Y) (c-Y) ds k Z hqs Z' B (hL.ext hb) (λg s=>(hat g s).ext hb) hcut Z' (hsr.with Z') (λt S=>hok t (Ih t S)) Z' (by simpa using H) (hDs m) hB1);have hsub:∀m,(ye v (Q.map PX.ts) (j+1) (Oa p j m)).1=0->Oi v (He c0 ds (k+1)) (ye v (Q.map PX.ts) (j+1) (Oa p j m)).2:=λm hm=>(by refine UJ hv hc0 (Q.map PX.ts) (j+1) (Oa p j m) ds k (λr hr=> ?_) (λt S=>hok t (Ih t S)) (by rw[D'];simpa using H) (hDs m) Z' hm;obtain⟨g,s,rfl⟩:=B'.1 hr;have:=hls g (J6 (by rw[hqs];exact s));exact⟨this.1,this.2.2.2⟩);generalize ye v (Q.map PX.ts) (j+1)=sub at hrec hsub |-;have hlim:=pw (sub:=sub) (p:=p) (j:=j) hv hqk hqT hd.2 hd.1 hsub hc0 Z';have hlim2:∀i,i<=128->(Ta q.ts sub p j i).1=0->Oi v 440000 (Ta q.ts sub p j i).2:=λi hi h0=>(hlim i hi h0).mono (by
    have:(i+d-128)*c0<=d*c0:=c_ _ Z';omega)
   have y:=λZ B=>Fl v (nR 0) 0 Z B ⟨(Sz.zero 0).ok V',by rw[Ga];exact Sz.zero 0⟩ V';rw[hco,FF] at y;refine Ca func280 ?_;refine Bb ?_;intro b8 w8 I;refine Wi (y _ (hT.hp I)) ?_;rintro e_ w39 ⟨g,og,rfl,h3⟩;refine⟨_,rfl, ?_⟩;replace I:=I.join h3;simp only[C',F'] at I;refine yb ?_;intro b10 w10 I ws I;refine Hw [11,12,13,14,15,44,45,46,47,48,49,50,51,52,53,54,55,56,57,58,59,60,61,62,63,64,65,66,67,68,69,70,71,72,73,74,75,76,77,78,79,80,81,82,83,84,85,86,87,88,89,90,91,92,93,94,95,96,97,98,99,100,101,102,103,104,105,106,107,108,109,110,111,112] 11 12 13 (λe z nv V=>∃(i F:Nat)(e_ M:Int)(R:Option Addr)(on P:Nat)(os:List TR),i<=128/\nv=.int .i64 (127-(i:Int))/\z=.int .i64 F/\e=.int .i64 e_/\e_=(Ta q.ts sub p j i).1/\F<=n/\(e_=0->M=v/\os=(Ta q.ts sub p j i).2/\(∀t∈p.take F,fg j t<128-i)/\(∀t∈p.drop F,128-i<=fg j t))/\Hp w [.blk b10 24 [.int .i64 M,.slice R on P] (0,0),.row R on P 72 4 (ia TR.cells os),.blk b8 24 [.int .i64 0,.slice none 0 0] (0,0)] V) (λ_ _ nv _=>(intOf nv+1).toNat) ?_ ?_
   .refine⟨0,n,0,g.v,g.A,g.n,g.c,g.ts,J' _,rfl,rfl,rfl,rfl,E' _,λ_=>⟨og.v,og.ts,λt S=> ?_,λt S=> ?_⟩,I⟩
    .obtain⟨x,_,hx,h8⟩:=hsr.get Z' (x9 S);rw[hx];exact h8
    rw[P8 Z'] at S
    cases S
   clear I og h3;rintro ρ' e_ F nv_ V ⟨i,z,e,M,R,on,P,os,hi,rfl,rfl,rfl,he,hen,E,I⟩;by_cases y:i<128/\e=0
   .obtain⟨hi8,rfl⟩:=y;obtain⟨rfl,rfl,hlo,hhi⟩:=E rfl;clear E;obtain⟨m,hm⟩:∃m,m=127-i:=⟨_,rfl⟩;rw[show(127-(i:Int))=(m:Int) by omega];refine fa ?_;refine Gq [14,53,54,55,56,57,58,59,60,61,62,63,64,65,66,67,68,69] 14 (λf V=>∃Y:Nat,Y<=z/\f=.int .i64 Y/\Oa p j m=(p.drop Y).take (z-Y)/\(∀t∈p.take Y,fg j t<m)/\Hp w [.blk b10 24 [.int .i64 M,.slice R on P] (0,0),.row R on P 72 4 (ia TR.cells (Ta q.ts sub p j i).2),.blk b8 24 [.int .i64 0,.slice none 0 0] (0,0)] V) ?_ ?_
    .refine bf 14 (λf V=>∃Y:Nat,Y<=z/\f=.int .i64 Y/\(∀t∈(p.drop Y).take (z-Y),fg j t=m)/\Hp w [.blk b10 24 [.int .i64 M,.slice R on P] (0,0),.row R on P 72 4 (ia TR.cells (Ta q.ts sub p j i).2),.blk b8 24 [.int .i64 0,.slice none 0 0] (0,0)] V) (λf _=>(intOf f).toNat) ?_ ?_
     .exact⟨z,E' _,rfl,(λt S=>by rw[u_] at S;cases S),I⟩
     clear I;rintro ρ' f V ⟨Y,o,rfl,L,I⟩;by_cases h0:0<Y
     .obtain⟨Y,rfl⟩:∃g,Y=g+1:=⟨Y-1,Z'⟩;obtain⟨x,hx⟩:=aa (l:=p) (k:=Y) Z';obtain⟨ad,rfl,hr⟩:=hS.at_ Z';obtain⟨e,hex,hxe,h8⟩:=hsr.get Z' (N' hx);by_cases hem:e.toNat=m
      .refine xY ?_;refine⟨⟨Y,Z',by show Value.int .i64 (((Y+1:Nat):Int)-1)=_;congr 1;omega,λt S=> ?_,I⟩,by show(((Y+1:Nat):Int)-1).toNat<((Y+1:Nat):Int).toNat;omega, ?_⟩
       .rw[de hx,show z-Y=(z-(Y+1))+1 by omega,X7] at S;obtain rfl|S:=u'.1 S
        .rw[hxe,hem]
        exact L t S
       exact Wb
      have hlt:e.toNat<m:=(by have:=hlo x (by rw[show z=(Y+1)+(z-(Y+1)) by omega,List.take_add];exact M9 _ (by rw[ja hx];exact u9 _ I'));omega);have hall:=UM hmono hx (n:=m) (by rw[hxe];exact hlt);refine xY ?_;refine⟨⟨Y+1,o,rfl,oG o hall L (λt S=>by have:=hhi t S;omega),hall,I⟩, ?_⟩;exact Wb
     obtain rfl:Y=0:=Z';refine fa ?_;refine⟨⟨0,o,rfl,oG o (λt S=>by cases S) L (λt S=>by have:=hhi t S;omega),(λt S=>by cases S),I⟩, ?_⟩;exact Wb
    skip;clear I;rintro ρ' f V ⟨Y,o,rfl,hwi,hbl,I⟩;have a:Ta q.ts sub p j (i+1)=wh q.ts sub p j m (Ta q.ts sub p j i):=by rw[zi,hm]
    have N:=hlim2 i Z' he.symm;unfold wh at a;rw[Q' (by rw[<-he];decide)] at a;have hmi:m=128-(i+1):=Z';have C:(127-((i+1:Nat):Int))=(m:Int)-1:=Z';have hdf:∀t∈p.drop Y,m<=fg j t:=λt S=>by
     rw[XP o] at S;obtain S|S:=O_.1 S
     .rw[<-hwi] at S;have:=O9 (D9.1 S).2;omega
     have:=hhi t S;omega
    have hst:(Ta q.ts sub p j i)=(0,(Ta q.ts sub p j i).2):=by rw[he]
    generalize (Ta q.ts sub p j i).2=os at*;have hoc:on<=P:=I.me (i:=1) rfl;have hon:os.length=on:=(I.ma (i:=1) rfl).sa TR.len V';have hwl:(Oa p j m).length=z-Y:=by rw[hwi,p',j_];omega
    by_cases hsk:os.length=0/\(Oa p j m).length=0
    .rw[P' hsk] at a;obtain⟨h1,h2⟩:=hsk;obtain rfl:on=0:=Z';obtain rfl:Y=z:=Z';refine fa ?_;refine⟨⟨i+1,Y,0,M,R,0,P,os,Z',by rw[C];rfl,rfl,rfl,by rw[a];exact he,hen,λ_=>⟨rfl,by rw[a,hst],λt S=>by rw[<-hmi];exact hbl t S,λt S=>by rw[<-hmi];exact hdf t S⟩,I⟩,by show((m:Int)-1+1).toNat<((m:Int)+1).toNat;omega, ?_⟩;exact Wb
    rw[Q' hsk] at a;refine ko [70,71,72,73,74,75,76,77,78] (λV=>Hp w [.blk b10 24 [.int .i64 M,.slice R on P] (0,0),.row R on P 72 4 (ia TR.cells os),.blk b8 24 [.int .i64 0,.slice none 0 0] (0,0)] V) ?_ ?_
    .by_cases h0:on=0
     .subst h0;have hne:Y≠z:=λh=>hsk ⟨hon,Z'⟩;refine fa ?_;refine⟨I, ?_⟩;exact GP
     refine fa ?_;refine⟨I, ?_⟩;exact GP
    skip;clear I;rintro ρ' V I;obtain⟨lad,rfl,hlr⟩:=hL.at_ Z';have hlp:Qf [⟨M,R,on,P,os⟩,q]=0:=Tw N.e (by unfold PX.e;rw[hqv];exact hqk.e) hqv;have hmu:∀(A2:Option Addr)(Z:World),Gc Z->Sl Z A2 2 2 (ia PX.cells [⟨M,R,on,P,os⟩,q])->Sl Z R on 4 (ia TR.cells os)->Below w.heap.size w Z->Calls prog 306 #[.slice A2 2 2] Z λr V=>∃g:PX,Gf (Ef os q.ts) M (oa (Jb os q.ts)) g/\r=.returned (.tuple #[.agg #[.int .i64 g.v,.slice g.A g.n g.c],.int .i64 (Ef os q.ts)])/\Hp Z [g.row] V:=λA2 Z B s1 s2 hb=>by
     have h1:=QF A2 2 2 [⟨M,R,on,P,os⟩,q] 440000 505536 Z B s1 V' V' (λg s=>by
      obtain rfl|s:=u'.1 s
      .exact s2
      .rw[q'.1 s];exact(hat q (N' hqj)).ext hb) (λg s=>by
      obtain rfl|s:=u'.1 s
      .exact⟨by have:=N.len;show on<=1000000;omega,hoc,N.ok,N.sz⟩
      rw[q'.1 s];exact⟨hql.n,hql.cap,hql.ok.mono hK,hql.sz⟩) V' V'
     unfold dL at h1;rw[P' hlp] at h1;exact h1
    refine Bb ?_;intro b15 w15 I;refine jR [] [9] 10 I ?_;refine wb ?_;refine Ui (j) ?_;refine Fj [_,_] (λ_ hj=>(hlr.ext hj.hp.below).recAt PX.len hqj) ?_;refine Ja (i:=5) (vk 2 2 (ia PX.cells [⟨M,R,on,P,os⟩,q])) (vk.ext) ?_ ?_
    .intro U Z hj hR;exact Wo (sz:=2) Qa.out pa.out (show gF U [(0,.tmp 80),(1,.tmp 84)]=[(0,.agg #[.int .i64 M,.slice R on P]),(1,.agg #[.int .i64 q.v,.slice q.A q.n q.c])] from Eb (show U 80=_ from hR.1) (Eb (show U 84=_ from hR.2.1) ae)) rfl rfl V' V' rfl λv w2 h hb=>⟨hb,h⟩
    refine Ja (i:=6) (en I.sz (Ef os q.ts) M (oa (Jb os q.ts))) (en.ext) ?_ ?_
    .intro U Z hj hR;obtain⟨g85,e85,o85⟩:=hR.1;exact let⟨b,e1,s1⟩:=hR.1;ib rfl (La fi (qa e1 Wa)) (hmu _ Z (hT.hp hj.hp) s1 (hj.hp.ma (i:=2) rfl) hj.hp.below) (λ_ _ ⟨g,og,hq,h3⟩=>⟨_,hq,h3.below,g,Z,rfl,og,hj.bl.size,h3⟩)
    refine Ja (i:=7) (en I.sz (Ef os q.ts) M (oa (Jb os q.ts))) (en.ext) ?_ ?_
    .intro U Z hj hR;exact let⟨g,u,e1,e2⟩:=hR.1;wc rfl (Ib e1) ⟨Below.refl _ _,g,u,rfl,e2⟩
    refine Ja (i:=8) (er I.sz (Ef os q.ts) M (oa (Jb os q.ts))) (er.ext) ?_ ?_
    .intro U Z hj hR;exact let⟨g,u,e1,e2⟩:=hR.1;wc rfl (vd (vs:=[_,_]) e1 rfl) ⟨Below.refl _ _,g,u,rfl,e2⟩
    refine Ja (i:=9) (Is (.int .i64 (Ef os q.ts))) (Is.ext) ?_ ?_
    .intro U Z hj hR;exact let⟨g,u,e1,e2⟩:=hR.1;wc rfl (vd (vs:=[_,_]) e1 rfl) ⟨Below.refl _ _,rfl⟩
    refine Fa ?_;intro f W hJ hV _;obtain⟨v88,v87,v79,v86,v85,v84,v83,v82,v81,v80,_⟩:=hV;obtain⟨g85,e85,o85⟩:vk 2 2 (ia PX.cells [⟨M,R,on,P,os⟩,q]) (f 5) W:=v85;obtain⟨g86,u86,e86, -⟩:=v86;obtain⟨g79,u79,e79, -⟩:=v79;obtain⟨g87,u87,e87,o87,q87,h87⟩:=v87;replace I:=JJ.VW hJ I q87 h87;refine lg ?_;clear e85 e86 e79 e87 hJ;simp only[C',F'] at I;obtain⟨gv,gA,gn,gc,gts⟩:=g87;replace I:=show Hp w (.row gA gn gc 72 4 (ia TR.cells gts)::_) W from I;by_cases hte:Ef os q.ts=0
    .rw[Q' (by rw[hte];decide)] at a;rw[hte] at o87;obtain rfl:M=gv:=o87.v.symm;obtain rfl:oa (Jb os q.ts)=gts:=o87.ts.symm;have hgc:gn<=gc:=I.me (i:=0) rfl;have hgl:(oa (Jb os q.ts)).length=gn:=(I.ma (i:=0) rfl).sa TR.len V';have hgo:=wL N hqk hqT hte Z';refine adB ?_;intro ws I;refine aI (na (sr (mI ?_)));refine Ct (na (cT (Hb (mL (mI (mI ?_))))));dsimp only at I;refine ub rfl rfl V' (xf (lo:=some (.tmp 93)) (hi:=some (.tmp 94)) (l:=Y) (h:=z) Qa.out pa.size rfl ⟨_,_,rfl,rfl⟩ ⟨_,_,rfl,rfl⟩ o Z') ?_;refine fa ?_;refine Wi (hrec m Y z _ (hT.hp I) I.below o hen hwi) ?_;rintro e_ w100 ⟨g2,og2,rfl,h4⟩;refine⟨_,rfl, ?_⟩;replace I:=I.join h4;simp only[C',F'] at I;have hs2:=hsub m;obtain⟨hv2,hA2,D,hc2,ht2⟩:=g2;replace I:=show Hp w (.row hA2 D hc2 72 4 (ia TR.cells ht2)::_) _ from I;by_cases G:(sub (Oa p j m)).1=0
     .rw[Q' (by rw[G];decide)] at a;rw[G] at og2;obtain rfl:M=hv2:=og2.v.symm;obtain rfl:(sub (Oa p j m)).2=ht2:=og2.ts.symm;have ho2:=hs2 G;have hc2c:D<=hc2:=I.me (i:=0) rfl;have hl2:((sub (Oa p j m)).2).length=D:=(I.ma (i:=0) rfl).sa TR.len V';generalize (sub (Oa p j m)).2=us at*;refine wZ ?_;refine adB ?_;intro ws I;refine aI (na (xa (sr (mI ?_))));refine Ct (na (cT (Hb ?_)));refine rk I 3 [_,_] ?_;refine rk I 2 [_,_] ?_;refine RD ?_;intro b108 w108 I;dsimp only at I;have hlp2:Qf [⟨M,gA,gn,gc,oa (Jb os q.ts)⟩,⟨M,hA2,D,hc2,us⟩]=0:=Tw hgo.e ho2.e rfl;have had:=nx (some ⟨b108,0,none⟩) 2 2 [⟨M,gA,gn,gc,oa (Jb os q.ts)⟩,⟨M,hA2,D,hc2,us⟩] 2000000 _ (hT.hp I) (I.ma (i:=0) rfl) V' (λg s=>by
       obtain rfl|s:=u'.1 s
       .exact I.ma (i:=2) rfl
       .rw[q'.1 s];exact I.ma (i:=1) rfl) (λg s=>by
       obtain rfl|s:=u'.1 s
       .exact⟨by have:=hgo.len;show gn<=1000000;omega,hgc,hgo.ok.mono Z',hgo.sz⟩
       rw[q'.1 s];exact⟨by have:=ho2.len;show D<=1000000;omega,hc2c,ho2.ok.mono Z',ho2.sz⟩) V'
      unfold cU at had;rw[P' hlp2,S0] at had;dsimp only at had;refine Wi (had) ?_;rintro e_ w109 ⟨g3,og3,rfl,h5⟩;refine⟨_,rfl, ?_⟩;replace I:=I.join h5;simp only[C',F'] at I;obtain⟨hv3,hA3,hn3,hc3,ht3⟩:=g3;replace I:=show Hp w (.row hA3 hn3 hc3 72 4 (ia TR.cells ht3)::_) _ from I;refine Bb ?_;intro ws I;replace I:=I.sub (O' _ (G' _ (G' _ (G' _ (G' _ (O' _ (G' _ (O' _ Z_))))))));replace I:=I.perm (W_ (l₁:=[_]));simp only[C',F'] at I;try dsimp only at I
      refine⟨⟨i+1,Y,Bf (oa (Jb os q.ts)++us),hv3,hA3,hn3,hc3,ht3,Z',by rw[C];rfl,rfl,rfl, ?_,Z',λh=>⟨?_, ?_,λt S=>by rw[<-hmi];exact hbl t S,λt S=>by rw[<-hmi];exact hdf t S⟩,I⟩,by show((m:Int)-1+1).toNat<((m:Int)+1).toNat;omega, ?_⟩
      .rw[a];by_cases s:Bf (oa (Jb os q.ts)++us)≠0
       .rw[P' s]
       rw[Q' s];omega
      .have:=og3.v;rw[P' h] at this;exact this
      .rw[a,Q' (by rw[h];decide)];have:=og3.ts;rw[P' h] at this;exact this
      exact Wb
     rw[P' G] at a;refine Bb ?_;intro ws I;replace I:=I.sub (G' _ (O' _ (G' _ (O' _ (G' _ (O' _ Z_))))));replace I:=I.perm (W_ (l₁:=[_]));simp only[C',F'] at I;refine⟨⟨i+1,Y,_,M,gA,gn,gc,oa (Jb os q.ts),Z',by rw[C];rfl,rfl,rfl,by rw[a],Z',λh=>absurd h G,I⟩,by show((m:Int)-1+1).toNat<((m:Int)+1).toNat;omega, ?_⟩;exact Wb
    rw[P' hte] at a;refine Bb ?_;intro ws I;replace I:=I.sub (O' _ (G' _ (O' _ (G' _ (O' _ Z_)))));replace I:=I.perm (W_ (l₁:=[_]));simp only[C',F'] at I;refine⟨⟨i+1,Y,Ef os q.ts,gv,gA,gn,gc,gts,Z',by rw[C];rfl,rfl,rfl,by rw[a],Z',λh=>absurd h hte,I⟩,by show((m:Int)-1+1).toNat<((m:Int)+1).toNat;omega, ?_⟩;exact Wb
   have J:Ta q.ts sub p j 128=Ta q.ts sub p j i:=by
    by_cases h8:i=128
    .rw[h8]
    exact nj Z' hi
   rw[J];by_cases he0:e=0
   .subst he0;obtain⟨rfl,rfl, -, -⟩:=E rfl;clear E J;generalize Ta q.ts sub p j i=X at*;obtain rfl:i=128:=Z';rw[<-he];refine Bb ?_;refine mV ?_;intro ws I;exact⟨⟨M,R,on,P,_⟩,⟨rfl,rfl⟩,rfl,I.sub (.cons _ (O' _ (m_ _)))⟩
   rw[<-he];clear E J;generalize Ta q.ts sub p j i=X at*;by_cases h8:i=128
   .subst h8;exact acD
   exact acD
def Sc(p:PX)(ls:List PX):Int×List TR:=
 if p.e≠0 then(p.e,[]) else if(ls.length:Int)≠p.v then(1,[]) else if ls.length≠0/\Qf ls≠0 then(Qf ls,[]) else ye (Uf ls) (ls.map PX.ts) 0 p.ts
def RI(f:PX)(p:Addr)(x:Int)(w:World)(hp:w.cell? p=some (.int .i64 x)):Zc 279 #[f.V,.pointer (some p)] w (.bool (decide (f.v≠x))):=by
 have I:=Hp.start w;by_cases s:f.v=x
 .refine Ca func279 ?_;refine Bb ?_;intro T q I;refine Vz ?_;exact gW
 refine Ca func279 ?_;refine Bb ?_;intro T q I;refine Vz ?_;exact bT
structure Fit(p:PX)(ls:List PX)(k K T c0:Nat)(ds:List Nat):Prop where
 len:ds.length=ls.length
 afz:∀(i d:Nat),ds[i]?=some d->d<=127/\∀t∈p.ts,fg i t<=d
 grow:He c0 ds (k+1)<=440000
 step:K+4096*T+8192<=c0
 top:c0<=440000
 Ug:∀g∈ls,g.Ug K
 uZ:∀g∈ls,g.ts.length<=T
def yF{v:Int}(h:vf v ts=0):LJ v 0 ts:=by
 obtain⟨_,_,G,z⟩:=Gb h;exact⟨z.au,G,λa _ b _=>by rw[Y8,Y8]⟩
def oD(p:PX)(lA:Option Addr)(lc:Nat)(ls:List PX)(k K T c0:Nat)(ds:List Nat)(w:World)(S:Gc w)(hp:p.at_ w)(lp:p.Ug k)(hL:Sl w lA ls.length 2 (ia PX.cells ls))(B:∀g∈ls,g.at_ w)(hlc:ls.length<=lc)(Y:Fit p ls k K T c0 ds):Calls prog 235 #[.agg #[.int .i64 p.v,.slice p.A p.n p.c],.slice lA ls.length lc] w λr V=>∃g:PX,Gf (Sc p ls).1 (Uf ls) (Sc p ls).2 g/\r=.returned (.tuple #[.agg #[.int .i64 g.v,.slice g.A g.n g.c],.int .i64 (Sc p ls).1])/\Hp w [g.row] V:=by
 have I:=Hp.start w;have a:=λZ P F=>Zj p k Z P (hp.ext F) lp;unfold Sc;by_cases h0:p.e≠0
 .rw[P' h0];generalize p.e=e at*;refine Ca func235 ?_;refine yb ?_;intro b2 w2 I b4 w4 I;refine cd I (a _ (S.hp I) I.below) ?_;intro W I;refine Bb ?_;intro ws I;refine Yt ?_;exact⟨PX.nil,Gf.err h0,rfl,(I.sub (m_ _)).FI⟩
 rw[Q' h0];have y:p.e=0:=Z';rw[y] at a;by_cases h1:(ls.length:Int)≠p.v
 .rw[P' h1];refine Ca func235 ?_;refine yb ?_;intro b2 w2 I b4 w4 I;refine cd I (a _ (S.hp I) I.below) ?_;intro W I;refine Bb ?_;intro ws I;exact tM
 rw[Q' h1];obtain⟨E,h4,hmy,hca⟩:=Gb y;replace E:=Xe.1 E;have hl12:ls.length<=12:=Z';have hpl:=hp.ln;have hsr:=yF y;have D:=λ(v:Int) (hv:Tg v=true) (hz:∀g∈ls,vf v g.ts=0) (q:∀g∈ls,g.v=v) Z P F=>LH lA lc K T c0 v ls hv hlc hl12 (λg s=>⟨⟨hz g s,(Y.Ug g s).ok,(Y.Ug g s).sz⟩,q g s,Y.Ug g s,Y.uZ g s⟩) Y.step Y.top ls 0 p.ts p.A p.n p.c ds k Z rfl (J' _) P (hL.ext F) (λg s=>(B g s).ext F) (hp.ext F) lp.cap (by rw[show((ls.length:Nat):Int)=p.v by omega];exact hsr) lp.ok Z' Y.len (λi d h=>by rw[U_];exact Y.afz i d h) Y.grow;by_cases hn:ls=[]
 .subst hn;rw[Q' (λh=>h.1 rfl)];have C:=D 0 rfl (λg s=>by cases s) (λg s=>by cases s);refine Ca (l:=[.agg #[.int .i64 p.v,.slice p.A p.n p.c],.slice lA 0 lc]) func235 ?_;refine yb ?_;intro b2 w2 I b4 w4 I;refine cd I (a _ (S.hp I) I.below) ?_;intro W I;refine yb ?_;intro t w7 I ws I;replace I:=show Hp w (.blk t 3 [.int .i64 0] (0,0)::_) _ from I;exact OY
 have o:0<ls.length:=List.length_pos_iff.2 hn;obtain⟨lad,rfl,u⟩:=hL.at_ o;refine Ca (l:=[.agg #[.int .i64 p.v,.slice p.A p.n p.c],.slice (some lad) ls.length lc]) func235 ?_;refine yb ?_;intro b2 w2 I b4 w4 I;refine cd I (a _ (S.hp I) I.below) ?_;intro W I;refine yb ?_;intro t w7 I ws I;replace I:=show Hp w (.blk t 3 [.int .i64 0] (0,0)::_) _ from I;refine bf 28 (λv V=>∃i:Nat,i<=ls.length/\v=.int .i64 i/\(ls.take i).any (λg=>decide (g.e≠0))=false/\Hp w [.blk t 3 [.int .i64 0] (0,0),.blk b4 24 [.int .i64 0,.slice none 0 0] (0,0),.blk b2 24 [.int .i64 p.v,.slice p.A p.n p.c] (0,0)] V) (λv _=>ls.length-(intOf v).toNat) ?_ ?_
 .exact⟨0,J' _,rfl,rfl,I⟩
 clear I;rintro ρ' v V ⟨i,hi,rfl,X,I⟩;by_cases hlt:i<ls.length
 .obtain⟨g,hx⟩:=aa (l:=ls) (k:=i) hlt;have M:=N' hx;have hc:=λZ P F=>Zj g K Z P ((B g M).ext F) (Y.Ug g M);by_cases he:g.e=0
  .refine fa ?_;refine sv (Ka (vs:=[_,_]) pa.out rfl ((u.ext I.below).recAt PX.len hx) rfl) ?_;refine yb ?_;intro b9 w9 I ws I;refine cd I (hc _ (S.hp I) I.below) ?_;intro w33 I;refine fa ?_;replace I:=I.sub (G' _ (O' _ (O' _ (O' _ Z_))));refine⟨⟨i+1,Z',rfl,by rw[ja hx,B8,X,k8,O7,k' Z'];rfl,I⟩,by show ls.length-(i+1)<ls.length-i;omega, ?_⟩;exact Wb
  have j:Qf ls=g.e:=by unfold Qf;rw[Ks X hx (m' he)]
  rw[P' ⟨Z',by rw[j];exact he⟩,j];refine fa ?_;refine sv (Ka (vs:=[_,_]) pa.out rfl ((u.ext I.below).recAt PX.len hx) rfl) ?_;refine yb ?_;intro b9 w9 I ws I;refine cd I (hc _ (S.hp I) I.below) ?_;intro w33 I;refine Bb ?_;intro ws I;refine Cr ?_;exact abW
 rw[w' Z'] at X;have j:Qf ls=if ls.length=0\/Oy ls=true then 1 else 0:=by unfold Qf;rw[zh X]
 obtain⟨g0,N⟩:=aa (l:=ls) (k:=0) o;have H:Uf ls=g0.v:=by
  cases ls with
  |nil=>cases o
  |cons x l=>cases N;rfl
 have Q:∀g∈ls,g.e=0:=λg s=>(by have:=E9.1 X g s;simpa using this);refine fa ?_;refine sv (Ba pa.out rfl (((u.ext I.below).recAt PX.len N).cell (i:=0) rfl)) ?_;refine Bb ?_;intro ws I;refine Bu ?_;replace I:=show Hp w (.blk t 3 [.int .i64 g0.v] (0,0)::_) _ from I;rw[<-H] at I;have L:World.cell? _ ⟨t,0,none⟩=some (.int .i64 (Uf ls)):=I.se (i:=0) rfl rfl;have f:=λZ F=>Bv (some lad) ls.length lc ls 279 [.pointer (some ⟨t,0,none⟩)] (λg=>decide (g.v≠Uf ls)) Z (hL.ext (I.below.trans (F.mono I.below.size))) Z' (λz w2 hz hb2=>RI z ⟨t,0,none⟩ (Uf ls) w2 (Kb hb2 (Kb F L)))
 cases m:Oy ls with
 |true=>
  have b:ls.any (λg=>decide (g.v≠Uf ls))=true:=m;rw[b] at f;have R:Qf ls=1:=by rw[j,P' (.inr m)]
  rw[P' ⟨Z',by rw[R];decide⟩,R];refine cd I (f _ (Below.refl _ _)) ?_;intro w45 I;refine Bb ?_;intro ws I;refine yL ?_;exact NX
 |false=>
  have b:ls.any (λg=>decide (g.v≠Uf ls))=false:=m;rw[b] at f;have J:Qf ls=0:=(by rw[j,Q' (λh=>h.elim (λh=>by omega) λh=>by rw[m] at h;cases h)]);rw[Q' (λh=>h.2 J)];have q:=(XC J).2.2;have G:=Q g0 (N' N);unfold PX.e at G;have C:=D (Uf ls) (by rw[H];exact(Gb G).1) (λg s=>by rw[<-q g s];exact Q g s) q;refine cd I (f _ (Below.refl _ _)) ?_;intro w45 I;refine fa ?_;exact OY
variable {ls:List PX}
def yV{o p:PX}{os:List PX}(A:o.v=p.v)(S:o.ts=p.ts)(h:os.map PX.norm=ls.map PX.norm):Sc o os=Sc p ls/\Uf os=Uf ls:=by
 have h1:Qf os=Qf ls:=by rw[<-ez,h,ez]
 have h2:Uf os=Uf ls:=by rw[<-Ax,h,Ax]
 have G:os.length=ls.length:=by have:=Y_ List.length h;rwa[D',D'] at this
 have z:os.map PX.ts=ls.map PX.ts:=(by have:=Y_ (List.map PX.ts) h;rw[A_,A_] at this;exact this);refine⟨?_,h2⟩;unfold Sc PX.e;rw[A,S,h1,h2,G,z]
def Gl{v:Int}{l:List TR}(A:Tg v=true)(hm:∀t∈l,Qd v t=true)(W:ug k l)(o:∀t∈l,t.m.size<=100000)(Q:l.length<=n)(B:n<=4096)(u:k+n<=3999990):Oi v (k+n) (oa l):=
 ⟨Ce A (d' (Vb _) Z') hm,Cj W Z' Z',Nl o⟩
def QC(v i:Nat):List TR:=oa [⟨Rk v i,nR ((1:Int):Dyadic)⟩]
def Nt(v:Nat)(x:Dyadic):List TR:=oa [⟨we v,nR x⟩]
def Wx(v i:Nat)(x:Dyadic):List TR:=oa ((QC v i).map (vp x))
def lh(v i:Nat)(s:SR):List TR:=oa (Nt v s.Tf++Wx v i (s.Vi-s.Tf))
variable {b:List SR}
def Na(b:List SR):List PX:=b.mapIdx λi s=>⟨b.length,none,0,0,lh b.length i s⟩
def jg{v:Nat}(h:v<=12):Tg (v:Int)=true:=Xe.2 ⟨Z',Z'⟩
def VK{v i:Nat}(h:v<=12):Oi (v:Int) 3 (QC v i):=by
 have K:((Rk v i).size:Int)=v:=ct Z';refine Gl (k:=2) (n:=1) (jg h) (λt S=> ?_) (λt S=> ?_) (λt S=> ?_) (E' _) V' V'
 .rw[q'.1 S];unfold Qd;rw[l',h'];exact⟨xE v i,K⟩
 .rw[q'.1 S];exact⟨Sz.one.ok V',by show Sz 2 (nR _).da;rw[Ga];exact Sz.one.mono V'⟩
 rw[q'.1 S];show(Rk v i).size<=100000;omega
def uM{v:Nat}{x:Dyadic}(h:v<=12)(C:Sz k x)(u:k<=900000):Oi (v:Int) (k+1) (Nt v x):=kt (jg h) (by show Sz k (nR x).da;rw[Ga];exact C) u
def EL{v i:Nat}{x:Dyadic}(h:v<=12)(C:Sz k x)(u:k<=400000):Oi (v:Int) (k+k+4) (Wx v i x):=by
 have A:=VK (i:=i) h;have Q:((QC v i).map (vp x)).length<=1:=by rw[D'];exact Vb _
 refine(Gl (k:=3+k) (n:=1) (jg h) (λt S=> ?_) (kM A.ok C Z') (λt S=> ?_) Q V' Z').mono (by
  by_cases J:k=0
  .omega
  omega)
 .obtain⟨s,K,rfl⟩:=B'.1 S;exact(Gb A.e).2.2.1 s K
 obtain⟨s,K,rfl⟩:=B'.1 S;exact A.sz s K
def Lk{v i:Nat}{s:SR}(h:v<=12)(K:s.fin k)(u:k<=100000):Oi (v:Int) (k+k+10) (lh v i s)/\(lh v i s).length<=2:=by
 have h1:=uM h (SR.szL K) Z';have h2:=EL (i:=i) h ((SR.szH K).sub (SR.szL K)) Z';have Q:(Nt v s.Tf++Wx v i (s.Vi-s.Tf)).length<=2:=(by rw[y'];have J:(Nt v s.Tf).length<=1:=Vb _;have o:(Wx v i (s.Vi-s.Tf)).length<=1:=d' (Vb _) (by rw[D'];exact Vb _);omega);have hm:∀{P:TR->Prop},(∀t∈Nt v s.Tf,P t)->(∀t∈Wx v i (s.Vi-s.Tf),P t)->∀t∈Nt v s.Tf++Wx v i (s.Vi-s.Tf),P t:=λa b t S=>(O_.1 S).elim (a t) (b t);refine⟨(Gl (k:=k+1+(k+1)+4) (n:=2) (jg h) (hm (Gb h1.e).2.2.1 (Gb h2.e).2.2.1) (hm (h1.ok.mono Z') h2.ok) (hm h1.sz h2.sz) Q V' Z').mono Z',d' (Vb _) Q⟩
def cg{i:Nat}{s:SR}(h:b[i]?=some s):(Na b)[i]?=some ⟨b.length,none,0,0,lh b.length i s⟩:=by
 unfold Na;rw[Y9,h];rfl
def ri(b):(Na b).length=b.length:=by unfold Na;rw[q8]
def kJ{g:PX}(h:g∈Na b):∃i s,b[i]?=some s/\g=⟨b.length,none,0,0,lh b.length i s⟩:=by
 obtain⟨i,hi⟩:=C_.1 h;obtain⟨s,K⟩:=aa (l:=b) (k:=i) (by have:=(x'.1 hi).1;rwa[ri] at this);rw[cg K] at hi;exact⟨i,s,K,(i' hi).symm⟩
def acG{i:Nat}(h:n<=12)(hi:i<n):Uv n i=0:=Q' (by rw[jg h];rintro (a|a|a)<;>first|cases a|omega)
def ad7(h:n<=12):PG n=0:=Q' (by rw[jg h];decide)
def UB(p:PX)(L:Option Addr)(n c:Nat)(b:List SR)(k:Nat)(ds:List Nat)(w:World)(Q:Gc w)(hp:p.at_ w)(lp:p.Ug k)(hB:Sl w L n 6 (ia SR.cells b))(hb:∀s∈b,s.fin k)(hv:p.v=n)(hn0:0<n)(hn:n<=12)(hk:k<=1000) (hds:ds.length=n)(hex:∀(i d:Nat),ds[i]?=some d->d<=127/\∀t∈p.ts,fg i t<=d)(hgr:He (k+k+16394) ds (k+1)<=440000):Calls prog 163 #[.agg #[.int .i64 p.v,.slice p.A p.n p.c],.slice L n c] w λr V=>∃g:PX,Gf (Sc p (Na b)).1 n (Sc p (Na b)).2 g/\r=.returned (.tuple #[.agg #[.int .i64 g.v,.slice g.A g.n g.c],.int .i64 (Sc p (Na b)).1])/\Hp w [g.row] V:=by
 have I:=Hp.start w;have hbl:b.length=n:=hB.sa SR.len V';have hok:∀s∈b,s.ok:=λs K=>⟨(hb s K).1.ok,(hb s K).2.ok⟩;have hfo:=λZ P hb1=>Wj L n c b Z P (hB.ext hb1) hok Z';have hhv:Uf (Na b)=n:=(by obtain⟨s,K⟩:=aa (l:=b) (k:=0) Z';rw[Tk (cg K),hbl]);refine Ca func163 ?_;refine yb ?_;intro b2 w2 I b4 w4 I;refine cr I (hfo _ (Q.hp I) I.below) ?_;intro A18 c18 w18 I;refine fa ?_;replace I:=I.rb 24 2;refine Fi 6 20 (λa v V=>∃(i c3:Nat)(A:Option Addr)(os:List PX)(R:List HE),i<=n/\v=.int .i64 i/\a=.slice A i c3/\os.length=i/\oN ((Na b).map λg=>⟨g.v,none,g.ts.length,0,g.ts⟩) os R/\Hp w (.row A i c3 24 2 (ia PX.cells os)::.row A18 n c18 36 6 (ia SR.cells (b.map SR.f))::.blk b4 24 [.int .i64 0,.slice none 0 0] (0,0)::.blk b2 24 [.int .i64 p.v,.slice p.A p.n p.c] (0,0)::R) V) (λ_ v _=>n-(intOf v).toNat) ?_ ?_
 .exact⟨0,0,none,[],[],J' _,rfl,rfl,rfl,⟨λj g o _ h=>(nomatch h),λo h=>(nomatch h)⟩,I⟩
 clear I;rintro ρ' a_ v V ⟨i,c3,A,os,R,hi,rfl,rfl,hol,q,I⟩;by_cases hlt:i<n
 .obtain⟨s,K⟩:=aa (l:=b) (k:=i) Z';have hsf:=hb s (N' K);have hsn:(b.map SR.f)[i]?=some s.f:=by rw[z',K];rfl
  have zL:=SR.szL hsf;have zH:=SR.szH hsf;have zW:=zH.sub zL;obtain⟨po,pl⟩:=Lk (v:=n) (i:=i) hn hsf Z';have vo:=VK (i:=i) hn;have fo:=EL (i:=i) hn zW Z';have co:=uM hn zL Z';have F:=λZ P=>rH (n:Int) (i:Int) Z P;rw[acG hn hlt] at F;have B:=λZ P=>Lj (nR s.Vi) (nR s.Tf) Z P (zH.ok Z') (zL.ok Z') k (by rw[Ga];exact zH) (by rw[Ga];exact zL) Z';rw[Ga,Ga] at B;have T:=λZ P=>Fl (n:Int) (nR s.Tf) k Z P ⟨zL.ok Z',by rw[Ga];exact zL⟩ Z';rw[ad7 hn] at T;rw[M8] at F;have hV:oa [⟨Rk n i,nR ((1:Int):Dyadic)⟩]=QC n i:=rfl;have hC:oa [⟨we n,nR s.Tf⟩]=Nt n s.Tf:=rfl;have hF:oa ((QC n i).map (vp (s.Vi-s.Tf)))=Wx n i (s.Vi-s.Tf):=rfl;have hP:oa (Nt n s.Tf++Wx n i (s.Vi-s.Tf))=lh n i s:=rfl;have tl1:(QC n i).length<=1:=Vb _;have ul1:(Nt n s.Tf).length<=1:=Vb _;have fl1:(Wx n i (s.Vi-s.Tf)).length<=1:=d' (Vb _) (by rw[D'];exact Vb _);have hps:=cg K;rw[hbl] at hps;rw[hV] at F;rw[hC] at T;clear hV hC;generalize QC n i=VL at*;generalize Nt n s.Tf=CL at*;generalize Wx n i (s.Vi-s.Tf)=M at*;generalize lh n i s=PL at*
  obtain⟨gf,rfl⟩:=I.kb (i:=1) rfl Z';refine fa ?_;refine sv (Ka (vs:=[_,_,_,_,_,_]) pa.out rfl (I.Wc (f:=SR.cells) (x:=s.f) (l:=b.map SR.f) (i:=1) rfl SR.len V' hsn) rfl) ?_;refine yb ?_;intro b8 w8 I ws I;replace I:=show Hp w (.blk b8 36 [.bool (nR s.Tf).neg,.string (nR s.Tf).Va,.int .i64 (nR s.Tf).e,.bool (nR s.Vi).neg,.string (nR s.Vi).Va,.int .i64 (nR s.Vi).e] (0,0)::_) _ from I;refine Wi (F _ (Q.hp I)) ?_;rintro e_ w29 ⟨t,ot,rfl,m⟩;refine⟨_,rfl, ?_⟩;have htc:t.n<=t.c:=m.me (i:=0) rfl;replace I:=I.join m;clear m;simp only[C',F'] at I;obtain⟨tv,tA,tn,tc,tt⟩:=t;replace I:=show Hp w (.row tA tn tc 72 4 (ia TR.cells tt)::_) _ from I;have et:VL=tt:=ot.t0.symm;have Y:tv=(n:Int):=ot.v0;subst et Y;have tln:VL.length=tn:=(I.ma (i:=0) rfl).sa TR.len V';have D:=λZ P ha=>lB ⟨n,tA,tn,tc,VL⟩ (nR (s.Vi-s.Tf)) (k+3) Z P ha ⟨by show tn<=1000000;omega,htc,vo.ok.mono Z',vo.sz⟩ ⟨zW.ok Z',by rw[Ga];exact zW.mono Z'⟩ Z';have hse:uO ⟨n,tA,tn,tc,VL⟩ (s.Vi-s.Tf)=0:=(by unfold uO PX.e;rw[vo.e,P' rfl];exact fm (by rw[D'];show VL.length<=4096;omega));rw[Ga,hse] at D;dsimp only at D;rw[hF] at D;refine yb ?_;intro b9 w9 I ws I;refine jR [10] [9] 11 I ?_;refine wb ?_;refine dC (λ_ hj=>B _ (Q.hp hj.hp)) ?_;refine Ja (i:=6) (en I.sz 0 n M) (en.ext) ?_ ?_
  .intro U Z hj hR;exact ib rfl (La fi (qa (show U 33=Value.agg (List.toArray _) from hR.1) (qa (show U 38=Value.agg (List.toArray _) from hR.2.1) Wa))) (D Z (Q.hp hj.hp) (hj.hp.ma (i:=1) rfl)) (λ_ _ ⟨g,og,hq,h3⟩=>⟨_,hq,h3.below,g,Z,rfl,og,hj.bl.size,h3⟩)
  refine Ja (i:=7) (en I.sz 0 n M) (en.ext) ?_ ?_
  .intro U Z hj hR;exact let⟨g,u,e1,C⟩:=hR.1;wc rfl (Ib e1) ⟨Below.refl _ _,g,u,rfl,C⟩
  refine Ja (i:=8) (Bl I.sz 0 n M) (Bl.ext) ?_ ?_
  .intro U Z hj hR;exact let⟨g,u,e1,C⟩:=hR.1;wc rfl (vd (vs:=[_,_]) e1 rfl) ⟨Below.refl _ _,g,u,rfl,C⟩
  refine Ja (i:=9) (Is (.int .i64 0)) (Is.ext) ?_ ?_
  .intro U Z hj hR;exact let⟨g,u,e1,C⟩:=hR.1;wc rfl (vd (vs:=[_,_]) e1 rfl) ⟨Below.refl _ _,rfl⟩
  refine Ja (i:=10) (Ob _ 24 _) Ob.ext (λU Z hj hR=>Pg pa.out hj.bl (λv w2 h hb=>⟨hb,h⟩)) ?_;refine Fa ?_;intro f W hJ hV _;obtain⟨v11,v41,v40,v32,v39,v38,v37,v36,v35,v34,v33,_⟩:=hV;obtain⟨g39,u39,e39, -⟩:=v39;obtain⟨g32,u32,e32, -⟩:=v32;obtain⟨g40,u40,e40,o40,q40,h40⟩:=v40;obtain⟨b11,e11,hl11,N⟩:Ob _ _ _ (f 10) W:=v11;replace I:=hJ.Ls I hl11 N q40 h40 (PX.ne h40 N V');refine lg ?_;clear e39 e32 e40 e11 hJ;simp only[C',F'] at I;obtain⟨fv,fA,fn,fc,ft⟩:=g40;replace I:=show Hp w (_::.row fA fn fc 72 4 (ia TR.cells ft)::_) W from I;have et:M=ft:=o40.t0.symm;have Y:fv=(n:Int):=o40.v0;subst et Y;have fln:M.length=fn:=(I.ma (i:=1) rfl).sa TR.len V';have fcc:fn<=fc:=I.me (i:=1) rfl;refine Bb ?_;intro ws I;refine Wi (T _ (Q.hp I)) ?_;rintro e_ w47 ⟨u,ou,rfl,m⟩;refine⟨_,rfl, ?_⟩;have huc:u.n<=u.c:=m.me (i:=0) rfl;replace I:=I.join m;clear m;simp only[C',F'] at I;obtain⟨uv,uA,un,uc,ut⟩:=u;replace I:=show Hp w (.row uA un uc 72 4 (ia TR.cells ut)::_) _ from I;have et:CL=ut:=ou.t0.symm
  have Y:uv=(n:Int):=ou.v0;subst et Y;have uln:CL.length=un:=(I.ma (i:=0) rfl).sa TR.len V';refine yb ?_;intro b13 w13 I ws I;refine RD ?_;intro b53 w53 I;have hlp:Qf [⟨n,uA,un,uc,CL⟩,⟨n,fA,fn,fc,M⟩]=0:=Tw co.e fo.e rfl;have J:=λA3 Z P hS1 s1 s2=>nx A3 2 2 [⟨n,uA,un,uc,CL⟩,⟨n,fA,fn,fc,M⟩] (k+k+10) Z P hS1 V' (λg y=>by
   obtain rfl|y:=u'.1 y
   .exact s1
   .rw[q'.1 y];exact s2) (λg y=>by
   obtain rfl|y:=u'.1 y
   .exact⟨by show un<=1000000;omega,huc,co.ok.mono Z',co.sz⟩
   rw[q'.1 y];exact⟨by show fn<=1000000;omega,fcc,fo.ok.mono Z',fo.sz⟩) Z'
  unfold cU at J;rw[P' hlp,S0] at J;dsimp only at J;rw[hP] at J;rw[fm (l:=CL++M) (by rw[y'];omega)] at J;refine Wi (J _ _ (Q.hp I) (I.ma (i:=0) rfl) (I.ma (i:=2) rfl) (I.ma (i:=4) rfl)) ?_;rintro e_ w54 ⟨z,oz,rfl,m⟩;refine⟨_,rfl, ?_⟩;have hzc:z.n<=z.c:=m.me (i:=0) rfl;replace I:=I.join m;clear m;refine adb ?_;intro I zln;refine yb ?_;intro b15 w15 I ws I;refine Dk ?_;intro b59 w59 I;refine mb I (i:=11) rfl rfl rfl (I.ma (i:=0) rfl) Qa.out pa.out rfl V' (by first|rfl|exact Nb _|exact xb _|exact Da _|exact Ia NR.one _) Z' Z' V' ?_;intro A60 c60 w60 I;refine XO ?_;intro I;replace I:=I.sub (G' _ (O' _ (G' _ (G' _ (G' _ (G' _ (G' _ (G' _ (G' _ (G' _ (O' _ (O' _ (O' _ (O' _ (P_ _)))))))))))))));replace I:=I.perm (W_ (l₁:=[_,_,_,_]));refine SY ?_;intro I;replace I:=I.perm (W_ (l₁:=[_,_,_,_]));refine SY ?_;intro I
  have hcp2:=q.add (g:=⟨n,none,PL.length,0,PL⟩) (o:=z) (by rw[hol,z',hps];rfl) ⟨oz.v0,oz.t0,by rw[<-zln,oz.t0]⟩ hzc;refine⟨⟨i+1,c60,A60,os++[z],z.row::R,Z',rfl,rfl,by rw[y',hol];rfl,hcp2,by rw[Aa,Jj];exact I⟩,by show n-(i+1)<n-i;omega, ?_⟩;exact Wb
 obtain rfl:i=n:=Z';have hol2:os.length=((Na b).map λg=>(⟨g.v,none,g.ts.length,0,g.ts⟩:PX)).length:=by rw[D',ri];omega
 have G:=q.key hol2;rw[A_] at G;replace G:os.map PX.norm=(Na b).map PX.norm:=G;obtain⟨ks,kh⟩:=yV (o:=p) (p:=p) rfl rfl G;have X:∀o∈os,o.Ug (k+k+10)/\o.ts.length<=2:=λo ho=>(by obtain⟨j,hj⟩:=C_.1 ho;have hjn:j<os.length:=(x'.1 hj).1;obtain⟨s,K⟩:=aa (l:=b) (k:=j) Z';obtain⟨e1,C,e3⟩:=q.eq j ⟨b.length,none,(lh b.length j s).length,0,lh b.length j s⟩ o (by rw[z',cg K];rfl) hj;obtain⟨po,pl⟩:=Lk (v:=b.length) (i:=j) Z' (hb s (N' K)) Z';replace C:o.ts=lh b.length j s:=C;replace e3:o.n=(lh b.length j s).length:=e3;exact⟨⟨Z',(q.my o ho).2,by rw[C];exact po.ok,by rw[C];exact po.sz⟩,by rw[C];exact pl⟩);have hfit:Fit p os k (k+k+10) 2 (k+k+16394) ds:=⟨Z',hex,hgr,Z',Z',λg y=>(X g y).1,λg y=>(X g y).2⟩;have B:=λZ P ha K hm hc=>oD p A c3 os k (k+k+10) 2 (k+k+16394) ds Z P ha lp K hm hc hfit;rw[ks,kh,hhv,hol] at B;generalize (Sc p (Na b)).1=E at*;generalize (Sc p (Na b)).2=S at*;refine fa ?_;refine Wi (B _ (Q.hp I) (hp.ext I.below) (I.ma (i:=0) rfl) (λz hz=>OX I (L' _ (L' _ (L' _ (L' _ (q.my z hz).1))))) (I.me (i:=0) rfl)) ?_;rintro e_ w64 ⟨g,og,rfl,m⟩;refine⟨_,rfl, ?_⟩;replace I:=I.join m;clear m;simp only[C',F'] at I;refine X1 ?_;intro ws I;exact yR
def dM(i:Nat)(f:ByteArray->Dyadic)(m:ByteArray):Dyadic:=
 match m.data.toList[i]? with|some e=>((e.toNat:Int):Dyadic)*f (str (m.data.toList.set i (e-1)))|none=>0
def M1{f g:ByteArray->Dyadic}{l:List TR}(h:∀t∈l,f t.m=g t.m):wS f l=wS g l:=by
 induction l with
 |nil=>rfl
 |cons t l W=>rw[wS,wS,h t I',W λs K=>h s (L' _ K)]
def YJ{a b:List UInt8}(M:ke a=true)(F:ke b=true)(Q:b.length=a.length)(h:(List.zipWith (· + ·) (ints a) (ints b)).all zd=true):mulL a b=((List.zipWith (· + ·) (ints a) (ints b)).map PA,0):=by
 unfold mulL;rw[zV M F Q];show(YU _,sX _)=_;rw[(Uu h).1,(Uu h).2]
def MP{a b:List UInt8}(h:(mulL a b).2=0):(List.zipWith (· + ·) (ints a) (ints b)).all zd=true:=by
 obtain⟨_,_,_,z,P⟩:=Pn h;rw[<-P];exact PW z
def RW{a b:ByteArray}{i:Nat}{x y:UInt8}(h:kn a b=0)(C:a.data.toList[i]?=some x)(hy:b.data.toList[i]?=some y):(mulM a b).data.toList[i]?=some (PA ((x.toNat:Int)+y.toNat))/\(PA ((x.toNat:Int)+y.toNat)).toNat=x.toNat+y.toNat:=by
 obtain⟨h1,h2,G,_,_⟩:=Pn h;have X:=MP h;have d:(ints b.data.toList)[i]?=some (y.toNat:Int):=by unfold ints;rw[z',hy];rfl
 have n:(ints a.data.toList)[i]?=some (x.toNat:Int):=by unfold ints;rw[z',C];rfl
 have A:=eT (f:=λ(x y:Int)=>x+y) n d;have g:zd ((x.toNat:Int)+y.toNat)=true:=L_.1 X _ (N' A);have N:=Xu g;injection N with _ N
 refine⟨?_,Z'⟩;unfold mulM;rw[vc,YJ h1 h2 G X,z',A];rfl
def Uk(B:Nat->Nat)(l:List TR):Prop:=∀t∈l,∀i,fg i t<=B i
def Uk.mono{B C:Nat->Nat}{l:List TR}(h:Uk B l)(F:∀i,B i<=C i):Uk C l:=λt S i=>d' (h t S i) (F i)
def ad6{s t:TR}(h:s.m=t.m)(i:Nat):fg i s=fg i t:=by unfold fg;rw[h]
def Uk.oa{B:Nat->Nat}{l:List TR}(h:Uk B l):Uk B (oa l):=λt S i=>by
 obtain⟨s,K,e⟩:=Ci t S;rw[<-ad6 e i];exact h s K i
def Uk.append{B:Nat->Nat}{l k:List TR}(h:Uk B l)(h2:Uk B k):Uk B (l++k):=λt S=>(O_.1 S).elim (h t) (h2 t)
def Uk.prod{B C:Nat->Nat}{q:List TR}(hp:Uk B p)(R:Uk C q)(h:∀e∈Qt p q,e=0):Uk (λi=>B i+C i) (Jb p q):=λt S i=>by
 obtain⟨x,d,S⟩:=E8.1 S;obtain⟨y,hy,rfl⟩:=B'.1 S;have o:kn x.m y.m=0:=h _ (E8.2 ⟨x,d,B'.2 ⟨y,hy,rfl⟩⟩)
 cases M:x.m.data.toList[i]? with
 |none=>
  have Q:=pH o;have c:=Y5.1 M;have e:(Zs x y).m.data.toList[i]?=none:=(by show(str _).data.toList[i]?=none;rw[vc];exact K_ (by rw[Q];exact c));unfold fg;rw[e];exact J' _
 |some a=>
  obtain⟨_,_,G,_,_⟩:=Pn o;have D:=(x'.1 M).1;obtain⟨b,F⟩:=aa (l:=y.m.data.toList) (k:=i) Z';obtain⟨N,L⟩:=RW o M F;rw[Km (t:=Zs x y) N,L];have h1:=hp x d i;have h2:=R y hy i;rw[Km M] at h1;rw[Km F] at h2;show a.toNat+b.toNat<=B i+C i;omega
def Dr{q p:List TR}{sub:List TR->Int×List TR}{j D:Nat}{E:Nat->Nat}(R:Uk (λx=>if x=j then 1 else 0) q)(r:∀t∈p,fg j t<=D)(u:E j=0)(K:∀n,(sub (Oa p j n)).1=0->Uk E (sub (Oa p j n)).2):
  ∀i,i<=128->(Ta q sub p j i).1=0->Uk (λx=>if x=j then i+D-128 else E x) (Ta q sub p j i).2
 |0,_,_=>λt S=>(nomatch S)
 |i+1,hi,J=>by
  have h1:(Ta q sub p j i).1=0:=(by refine L8 λc=> ?_;rw[nj c (Nat.le_succ i)] at J;exact c J);have W:=Dr R r u K i Z' h1;have o:∀n,(sub (Oa p j n)).1=0->Uk (λx=>if x=j then i+1+D-128 else E x) (sub (Oa p j n)).2:=λn B=>(K n B).mono λx=>by
   by_cases C:x=j
   .rw[P' C,C,u];exact J' _
   rw[Q' C];exact E' _
  have F:Ef (Ta q sub p j i).2 q=0->Uk (λx=>if x=j then i+1+D-128 else E x) (oa (Jb (Ta q sub p j i).2 q)):=λS=>by
   by_cases g:i+D<=127
   .rw[jh r i g];exact λt S=>(nomatch S)
   refine((W.prod R (Uj S).2.1).mono λx=> ?_).oa;by_cases C:x=j
   .rw[P' C,P' C,P' C];omega
   rw[Q' C,Q' C,Q' C];omega
  rw[zi] at J |-;unfold wh at J |-;rw[Q' (λh=>h h1)] at J |-;by_cases X:(Ta q sub p j i).2.length=0/\(Oa p j (127-i)).length=0
  .rw[P' X,I7.1 X.1];exact λt S=>(nomatch S)
  rw[Q' X] at J |-;by_cases Y:Ef (Ta q sub p j i).2 q≠0
  .rw[P' Y] at J;exact absurd J Y
  rw[Q' Y] at J |-;by_cases e:(sub (Oa p j (127-i))).1≠0
  .rw[P' e] at J;exact absurd J e
  rw[Q' e] at J |-;by_cases H:Bf (oa (Jb (Ta q sub p j i).2 q)++(sub (Oa p j (127-i))).2)≠0
  .rw[P' H] at J;exact absurd J H
  rw[Q' H];exact((F Z').append (o _ Z')).oa
def Iw(v:Int)(c):Uk (λ_=>0) [⟨we v,c⟩]:=λt S i=>by
 rw[q'.1 S]
 cases he:(⟨we v,c⟩:TR).m.data.toList[i]? with
 |none=>unfold fg;rw[he];exact E' _
 |some e=>
  rw[Km he];have hm:=N' he;replace hm:e∈(List.replicate v.toNat (0:UInt8)):=by simpa[we] using hm
  rw[(List.mem_replicate.1 hm).2];exact E' _
def qB{v:Int}:∀(Q:List (List TR))(j:Nat)(p:List TR)(D:Nat->Nat),(∀(i:Nat)(q:List TR),Q[i]?=some q->Uk (λx=>if x=j+i then 1 else 0) q)->(∀t∈p,∀i,i<Q.length->fg (j+i) t<=D (j+i))->(ye v Q j p).1=0->Uk (λx=>if j<=x/\x<j+Q.length then D x else 0) (ye v Q j p).2:=by
 intro Q
 induction Q with
 |nil=>
  intro j p D _ _ _;exact(Iw v _).oa.mono λx=>J' _
 |cons q Q W=>
  intro j p D R hp J;have g:∀n,(ye v Q (j+1) (Oa p j n)).1=0->Uk (λx=>if j+1<=x/\x<j+1+Q.length then D x else 0) (ye v Q (j+1) (Oa p j n)).2:=λn B=>by
   refine W (j+1) (Oa p j n) D (λi r H=> ?_) (λt S i hi=> ?_) B
   .have:=R (i+1) r (by simpa using H);rwa[show j+1+i=j+(i+1) by omega]
   exact aec
  have b:Uk (λx=>if x=j then 1 else 0) q:=R 0 q rfl;have c:∀t∈p,fg j t<=D j:=λt S=>hp t S 0 (by rw[T_];omega);generalize a:ye v Q (j+1)=sub at g;have e:∀m,m=128->(Ta q sub p j m).1=0->Uk (λx=>if j<=x/\x<j+(q::Q).length then D x else 0) (Ta q sub p j m).2:=λm hm h=>by
   refine(Dr b c (E:=λx=>if j+1<=x/\x<j+1+Q.length then D x else 0) (by rw[Q' Z']) g m Z' h).mono λx=> ?_;rw[T_];by_cases C:x=j
   .rw[P' C,P' Z',C];omega
   rw[Q' C];by_cases h2:j+1<=x/\x<j+1+Q.length
   .rw[P' h2,P' Z'];exact E' _
   rw[Q' h2];exact J' _
  have L:ye v (q::Q) j p=Ta q sub p j 128:=by rw[<-a];rfl
  rw[L] at J |-;exact e 128 rfl J
def adP{l:List TR}{i:Nat}{t:TR}(h:t∈l):im t.m i<=UF l i:=by
 induction l using Ji with
 |J=>cases h
 |K l x W=>
  rw[sw];obtain h|h:=O_.1 h
  .have:=W h;omega
  rw[q'.1 h];omega
def WK{l:List TR}{i:Nat}{B:Int}(E:0<=B)(h:∀t∈l,im t.m i<=B):0<=UF l i/\UF l i<=B:=by
 induction l using Ji with
 |J=>exact⟨A7 _,E⟩
 |K l x W=>
  rw[sw];have h1:=W λt S=>h t (M9 _ S);have h2:=h x (u9 _ I');omega
def ZD(t:TR)(i:Nat):(fg i t:Int)=im t.m i:=by
 unfold fg im
 cases t.m.data.toList[i]?<;>rfl
def Tb(v:Int)(ts:List TR):List Nat:=(Jy v ts).map Int.toNat
def Xi{v:Int}(h:vf v ts=0):Jy v ts=Ha (Tb v ts)/\(Tb v ts).length=v.toNat/\∀(i d:Nat),(Tb v ts)[i]?=some d->d<=127/\(∀t∈ts,fg i t<=d)/\((d:Int)=UF ts i):=by
 obtain⟨_,_,hm,_⟩:=Gb h;have T:Jy v ts=vm v.toNat ts:=P' h;have F:∀t∈ts,∀i,im t.m i<=127:=λt S i=>by
  have h1:=hm t S;unfold Qd at h1;rw[l'] at h1;unfold im
  cases he:t.m.data.toList[i]? with
  |none=>decide
  |some e=>have:=Nn h1.1 he;show((e.toNat:Nat):Int)<=127;omega
 refine⟨?_,by unfold Tb;rw[D',T,Mf],λi d hi=> ?_⟩
 .unfold Tb Ha;rw[A_];refine(L6 _).symm.trans (z9 λx C=> ?_);rw[T] at C;obtain⟨i,_,rfl⟩:=B'.1 C;have:=(WK (B:=127) V' λt S=>F t S i).1;show UF ts i=((UF ts i).toNat:Int);omega
 unfold Tb at hi;rw[T,z'] at hi;have D:i<v.toNat:=by
  refine L8 λE=> ?_;rw[K_ (by rw[Mf];omega)] at hi
  cases hi
 rw[vv ts D] at hi;have h1:=WK (l:=ts) (i:=i) (B:=127) V' λt S=>F t S i;have h2:(UF ts i).toNat=d:=i' hi;refine⟨Z',λt S=> ?_,Z'⟩;have G:=adP (i:=i) S;have z:=ZD t i;omega
def Ac(m:ByteArray):List Nat:=m.data.toList.map UInt8.toNat
def Vm(m):(Ac m).length=m.size:=by rw[Hc];exact D' _
def wD{a b:ByteArray}(h:Ac a=Ac b):a=b:=Ew (List.map_inj_right (λ_ _=>Q6.1)|>.1 h)
def Fo(m:ByteArray):ints m.data.toList=Ha (Ac m):=by unfold ints Ha Ac;rw[A_];rfl
def KU{a b:List Nat}(h:Ha a=Ha b):a=b:=(List.map_inj_right λ(x y:Nat) (e:(x:Int)=y)=>Int.ofNat.inj e).1 h
variable {xs:List Dyadic}
def di(xs:List Dyadic)(l:List TR):Dyadic:=wS (λm=>Og (Ac m) xs) l
def nL(f:ByteArray->Dyadic)(l:List TR):wS f l=sm l λt=>t.c.da*f t.m:=by
 induction l with
 |nil=>rfl
 |cons t l W=>rw[wS,sm,W]
def Bi(xs)(l):di xs (oa l)=di xs l:=Ht _ _
def xp(xs)(l:List TR)(k):di xs (l++k)=di xs l+di xs k:=Xn _ _ _
def jF:∀(a b:List Nat)(xs:List Dyadic),a.length=b.length->Og (List.zipWith (· + ·) a b) xs=Og a xs*Og b xs
 |[],[],xs,_=>by show(1:Dyadic)=1*1;grind
 |[],_::_,_,h=>by cases h
 |_::_,[],_,h=>by cases h
 |x::a,y::b,[],_=>by show(1:Dyadic)=1*1;grind
 |x::a,y::b,t::xs,h=>(by rw[List.zipWith_cons_cons,Og,Og,Og,jF a b xs (by simpa using h),jo];grind)
def Sn:∀(n:Nat)(xs:List Dyadic),Og (List.replicate n 0) xs=1
 |0,xs=>by cases xs<;>rfl
 |n+1,[]=>rfl
 |n+1,x::xs=>(by rw[S7,Og,Sn n xs,D7];grind)
def VT{a b:ByteArray}(h:kn a b=0):Ac (mulM a b)=List.zipWith (· + ·) (Ac a) (Ac b)/\(Ac a).length=(Ac b).length:=by
 obtain⟨_,_,G,_,P⟩:=Pn h;refine⟨KU ?_,by unfold Ac;rw[D',D',G]⟩;rw[<-Fo,mulM,vc,P,Fo,Fo];unfold Ha;rw[List.zipWith_map,List.map_zipWith];exact Y_ (λf=>List.zipWith f (Ac a) (Ac b)) (funext λx=>funext λy=>(V8 x y).symm)
def rR{q:List TR}(h:∀e∈Qt p q,e=0):di xs (Jb p q)=di xs p*di xs q:=by
 have hm:∀a∈p,∀b∈q,kn a.m b.m=0:=λa M b F=>h _ (E8.2 ⟨a,M,B'.2 ⟨b,F,rfl⟩⟩);unfold di;rw[AF,Dyadic.mul_comm,<-sI];refine M1 λa M=> ?_;rw[Dyadic.mul_comm,<-sI];refine M1 λb F=> ?_;obtain⟨N,L⟩:=VT (hm a M b F);rw[N,jF _ _ _ L]
def oK(j:Nat)(t:TR):fg j t=((Ac t.m)[j]?).getD 0:=by
 unfold fg Ac;rw[z']
 cases t.m.data.toList[j]?<;>rfl
def vR(g:TR->Dyadic)(Q):sm p (λt=>if n<=fg j t then g t*Q^(fg j t-n) else 0)=sm p (λt=>if n+1<=fg j t then g t*Q^(fg j t-(n+1)) else 0)*Q+sm (Oa p j n) g:=by
 have N:sm (Oa p j n) g=sm p λt=>if fg j t=n then g t else 0:=(by unfold Oa;rw[<-WM p (λt=>decide (fg j t=n)) (λt=>if fg j t=n then g t else 0) (λt _ h=>Q' (by simpa using h))];exact Ua λt S=>(P' (by simpa using(D9.1 S).2)).symm)
 rw[N,<-ik,<-bJ];refine Ua λt _=> ?_;by_cases h1:fg j t=n
 .rw[P' Z',Q' Z',P' h1,h1,u_,D7];grind
 rw[Q' h1];by_cases h2:n+1<=fg j t
 .rw[P' Z',P' h2,show fg j t-n=(fg j t-(n+1))+1 by omega,u7];grind
 rw[Q' Z',Q' h2];grind
def eK{xs:List Dyadic}{q p:List TR}{sub:List TR->Int×List TR}{j:Nat}(g:TR->Dyadic)(hp:∀t∈p,fg j t<=127)(K:∀n,(sub (Oa p j n)).1=0->di xs (sub (Oa p j n)).2=sm (Oa p j n) g):
  ∀i,i<=128->(Ta q sub p j i).1=0->di xs (Ta q sub p j i).2=sm p λt=>if 128-i<=fg j t then g t*di xs q^(fg j t-(128-i)) else 0
 |0,_,_=>(rq λt S=>Q' (by have:=hp t S;omega)).symm
 |i+1,hi,J=>by
  have h1:(Ta q sub p j i).1=0:=(by refine L8 λc=> ?_;rw[nj c (Nat.le_succ i)] at J;exact c J);have W:=eK g hp K i Z' h1;have N:=vR (p:=p) (j:=j) (n:=127-i) g (di xs q);rw[show 128-(i+1)=127-i by omega,N,show 127-i+1=128-i by omega,<-W];rw[zi] at J |-;unfold wh at J |-;rw[Q' (λh=>h h1)] at J |-;by_cases X:(Ta q sub p j i).2.length=0/\(Oa p j (127-i)).length=0
  .rw[P' X,I7.1 X.1,I7.1 X.2];show(0:Dyadic)=0*_+0;grind
  rw[Q' X] at J |-;by_cases Y:Ef (Ta q sub p j i).2 q≠0
  .rw[P' Y] at J;exact absurd J Y
  rw[Q' Y] at J |-;by_cases e:(sub (Oa p j (127-i))).1≠0
  .rw[P' e] at J;exact absurd J e
  rw[Q' e] at J |-;by_cases H:Bf (oa (Jb (Ta q sub p j i).2 q)++(sub (Oa p j (127-i))).2)≠0
  .rw[P' H] at J;exact absurd J H
  rw[Q' H];show di xs (oa _)=_;rw[Bi,xp,Bi,rR (Uj Z').2.1,K _ Z']
def JX(h:xv p)(he:∀a∈p,∀b∈p,a.m=b.m):p.length<=1:=by
 match p,h,he with
 |[],_,_=>exact J' _
 |[_],_,_=>exact E' _
 |a::b::p,h,he=>
  have h1:=(C9.1 h).1 b I';rw[he a I' b (L' _ I'),xg] at h1
  cases h1
def LJ.one{v:Int}(h:LJ v j p)(hj:v<=j):p.length<=1:=JX h.au λa M b F=>Ew (by
 have e:=h.pre a M b F;have P:=h.size a M;have n:=h.size b F;rwa[w' Z',w' Z'] at e)
def zt(v:Int)(q:List TR)(Q:List (List TR))(j:Nat)(p:List TR):ye v (q::Q) j p=Ta q (ye v Q (j+1)) p j 128:=rfl
def abE{v w:Int}(Q:List (List TR)):∀(j:Nat)(p:List TR),LJ w j p->w=((j+Q.length:Nat):Int)->(ye v Q j p).1=0->di xs (ye v Q j p).2=sm p λt=>t.c.da*Og ((Ac t.m).drop j) (Q.map (di xs)):=by
 induction Q with
 |nil=>
  intro j p K hw _;have h1:=K.one (by rw[hw];exact A7 _);show di xs (oa _)=_;rw[Bi];have o:Ac (we v)=List.replicate v.toNat 0:=by unfold Ac we;simp
  match p,h1 with
  |[],_=>
   show(nR 0).da*_+0=0;rw[Ga];grind
  |[t],_=>
   show t.c.da*Og (Ac (we v)) xs+0=t.c.da*Og _ []+0;rw[o,Sn]
   cases(Ac t.m).drop j<;>rfl
 |cons q Q W=>
  intro j p K hw J;have hj:(j:Int)<w:=by rw[hw,T_];omega
  have C:∀t∈p,fg j t<=127:=λt S=>(by obtain⟨e,_,h2,G⟩:=K.get hj S;omega);rw[zt] at J |-;have g:=λn B=>W (j+1) (Oa p j n) (K.with hj) (by rw[hw,T_];omega) B;generalize ye v Q (j+1)=sub at g J |-;have h1:=λi hi o=>eK (xs:=xs) (q:=q) (sub:=sub) (p:=p) (j:=j) (λt=>t.c.da*Og ((Ac t.m).drop (j+1)) (Q.map (di xs))) C g i hi o;obtain⟨m,hm⟩:∃m,m=128:=⟨_,rfl⟩;rw[<-hm] at J |-;rw[h1 m Z' J];refine Ua λt S=> ?_;rw[P' Z',show fg j t-(128-m)=fg j t by omega];obtain⟨e,h2,G,_⟩:=K.get hj S;have T:(Ac t.m).drop j=fg j t::(Ac t.m).drop (j+1):=(by refine de ?_;rw[G];unfold Ac;rw[z',h2];rfl);rw[T,I_,Og];grind
def ab0{p:PX}(h:(Sc p ls).1=0):di xs (Sc p ls).2=di (ls.map λg=>di xs g.ts) p.ts:=by
 unfold Sc at h |-;by_cases h1:p.e≠0
 .rw[P' h1] at h;exact absurd h h1
 rw[Q' h1] at h |-;by_cases h2:(ls.length:Int)≠p.v
 .rw[P' h2] at h;exact absurd h V'
 rw[Q' h2] at h |-;by_cases G:ls.length≠0/\Qf ls≠0
 .rw[P' G] at h;exact absurd h G.2
 rw[Q' G] at h |-;rw[abE (w:=p.v) (ls.map PX.ts) 0 p.ts (yF (by unfold PX.e at h1;omega)) (by rw[D',U_];omega) h,A_];unfold di;rw[nL];rfl
def wK:Nat->List Nat->List Nat->List Nat->Dyadic
 |m+1,_::ds,a::s,r::rs=>(if a=r then 1 else 0)*wK m ds s rs
 |0,d::ds,a::s,r::rs=>mg d 1 1 a r*wK 0 ds s rs
 |_,_,_,_=>1
def nM:∀(j:Nat)(ds s rs:List Nat),j<ds.length->ph ds s->ph ds rs->sm (List.range (ds.getD j 0+1)) (λi=>wK (j+1) ds s (rs.set j i)*mg (ds.getD j 0) 1 1 i (rs.getD j 0))=wK j ds s rs
 |_,[],_,_,h,_,_=>by cases h
 |_,_::_,[],_,_,h,_=>by cases h
 |_,_::_,_::_,[],_,_,h=>by cases h
 |0,d::ds,a::s,r::rs,_,h1,_=>by
  show sm (List.range (d+1)) (λi=>(if a=i then 1 else 0)*wK 0 ds s rs*mg d 1 1 i r)=mg d 1 1 a r*wK 0 ds s rs;have e:sm (List.range (d+1)) (λi=>(if a=i then 1 else 0)*wK 0 ds s rs*mg d 1 1 i r)=sm (List.range (d+1)) λi=>if i=a then mg d 1 1 a r*wK 0 ds s rs else 0:=Ua λi _=>by
   by_cases h:a=i
   .rw[P' h,P' h.symm,h];grind
   rw[Q' h,Q' (λe=>h e.symm)];grind
  rw[e,cm,P' (by have:=h1.1;omega)]
 |j+1,d::ds,a::s,r::rs,hj,h1,h2=>(by show sm (List.range (ds.getD j 0+1)) (λi=>(if a=r then 1 else 0)*wK (j+1) ds s (rs.set j i)*mg (ds.getD j 0) 1 1 i (rs.getD j 0))=(if a=r then 1 else 0)*wK j ds s rs;rw[<-nM j ds s rs (by simpa using hj) h1.2 h2.2,<-Vh];exact Ua λi _=>by grind)
def OU:∀(ds s rs:List Nat),ph ds s->ph ds rs->wK ds.length ds s rs=if s=rs then 1 else 0
 |[],[],[],_,_=>by rw[P' rfl];rfl
 |[],_::_,_,h,_=>by cases h
 |[],[],_::_,_,h=>by cases h
 |_::_,[],_,h,_=>by cases h
 |_::_,_::_,[],_,h=>by cases h
 |d::ds,a::s,r::rs,h1,h2=>by
  show(if a=r then 1 else 0)*wK ds.length ds s rs=_;rw[OU ds s rs h1.2 h2.2];by_cases N:a=r
  .by_cases L:s=rs
   .rw[P' N,P' L,P' (by rw[N,L])];grind
   rw[P' N,Q' L,Q' λe=>L (List.cons.inj e).2];grind
  rw[Q' N,Q' λe=>N (List.cons.inj e).1];grind
abbrev QL:=List (List Nat×Dyadic)
def X0(ds:List Nat)(L:QL):List Dyadic:=gh (ea ds) (L.map λq=>(Jc ds q.1,q.2))
def Pq(ds:List Nat)(L:QL):Nat->List Dyadic
 |0=>X0 ds L
 |k+1=>ui ds (ds.length-1-k) (mg (ds.getD (ds.length-1-k) 0) 1 1) (Pq ds L k)
def Us(ds)(L:QL)(k:Nat):Pq ds L (k+1)=ui ds (ds.length-1-k) (mg (ds.getD (ds.length-1-k) 0) 1 1) (Pq ds L k):=rfl
def ED(ds)(L:QL)(k:Nat):(Pq ds L k).length=ea ds:=by
 cases k with
 |zero=>exact ai _ _
 |succ k=>rw[Us,Lw]
def iT{ds:List Nat}{L:QL}(a:∀q∈L,ph ds q.1):∀k,k<=ds.length->∀row,ph ds row->co ds (Pq ds L k) row=sm L λq=>q.2*wK (ds.length-k) ds q.1 row
 |0,_,row,H=>by
  have hp:=Th H;rw[mA H];show((X0 ds L)[Jc ds row]?).getD 0=_;unfold X0;rw[al _ hp,J9,Kt];refine Ua λq R=> ?_;rw[Nat.sub_zero,OU ds q.1 row (a q R) H];by_cases h:q.1=row
  .rw[P' h,P' (by rw[h])];grind
  rw[Q' h,Q' λe=>h (by rw[<-Vg (a q R),<-Vg H];exact Y_ (Ya ds) e)];grind
 |k+1,u,row,H=>by
  obtain⟨j,hj⟩:∃j,j=ds.length-1-k:=⟨_,rfl⟩;rw[Us,<-hj,MN _ _ _ H,show ds.length-(k+1)=j by omega];have N:∀i,i<ds.getD j 0+1->co ds (Pq ds L k) (row.set j i)=sm L λq=>q.2*wK (j+1) ds q.1 (row.set j i):=λi hi=>(by rw[iT a k Z' (row.set j i) (CK H Z'),show ds.length-k=j+1 by omega]);rw[Ua λi hi=>show co ds (Pq ds L k) (row.set j i)*mg (ds.getD j 0) 1 1 i (row.getD j 0)=sm L λq=>q.2*(wK (j+1) ds q.1 (row.set j i)*mg (ds.getD j 0) 1 1 i (row.getD j 0)) by
   rw[N i (S_.1 hi),<-ik];exact Ua λq _=>by grind,Tq]
  refine Ua λq R=> ?_;rw[<-nM j ds q.1 row Z' (a q R) H,<-Vh]
def An(ns:List Nat)(l:List TR):List Dyadic:=(List.range (ea ns.reverse)).map λp=>wS (λm=>wK 0 ns.reverse (Ac m).reverse (Ya ns.reverse p)) l
def IB(ns)(l):(An ns l).length=ea ns:=by unfold An;rw[D',V9,Cc]
def Gu(l:List TR):QL:=l.map λt=>((Ac t.m).reverse,t.c.da)
def lE{ns:List Nat}{l:List TR}(Q:∀t∈l,ph ns.reverse (Ac t.m).reverse):Pq ns.reverse (Gu l) ns.length=An ns l:=by
 have a:∀q∈Gu l,ph ns.reverse q.1:=λq R=>(by obtain⟨t,S,rfl⟩:=B'.1 R;exact Q t S);refine abL (ds:=ns.reverse) (ED _ _ _) (by rw[IB,Cc]) λrow H=> ?_;have hp:=Th H;rw[iT a ns.length (by rw[F_];exact E' _) row H,mA H,show ns.reverse.length-ns.length=0 by rw[F_,u_]];unfold An Gu;rw[z',f_ hp,Kt];show _=wS _ l;rw[nL,Vg H]
def CF:∀{ds rs:List Nat} (a:Nat),ph ds rs->rs.getD a 0<=ds.getD a 0
 |[],[],_,_=>by simp
 |[],_::_,_,h=>by cases h
 |_::_,[],_,h=>by cases h
 |_::_,_::_,0,h=>h.1
 |_::ds,_::rs,a+1,h=>CF (ds:=ds) (rs:=rs) a h.2
def rN{ds:List Nat}{a d:Nat}{X:List Dyadic}(C:∀x∈X,Sz k x)(T:ds.getD a 0=d)(A:d<=127):∀x∈ui ds a (mg d 1 1) X,Sz (k+520) x:=λx h=>by
 obtain⟨p,_,rfl⟩:=B'.1 h;have H:(Ya ds p).getD a 0<=d:=by rw[<-T];exact CF a (Xg ds p)
 have h2:=fU (l:=List.range (ds.getD a 0+1)) (f:=λi=>co ds X ((Ya ds p).set a i)*mg d 1 1 i ((Ya ds p).getD a 0)) (k:=k+(130+2*(1*d))) λi _=>by
  refine Sz.mul ?_ (BM Sz.one Sz.one A H);unfold co;split
  .cases h:X[Jc ds ((Ya ds p).set a i)]? with
   |none=>exact Sz.zero k
   |some y=>exact C y (N' h)
  exact Sz.zero k
 rw[V9,T] at h2;rw[T];exact h2.mono Z'
def PR{ds:List Nat}{B:Nat}(h:∀d∈ds,d<=B)(a:Nat):ds.getD a 0<=B:=by
 rw[X9]
 cases M:ds[a]? with
 |none=>exact J' _
 |some d=>exact h d (N' M)
def kI{ds:List Nat}{L:QL}{k:Nat}(h:∀x∈X0 ds L,Sz k x)(T:∀d∈ds,d<=127):∀i,∀x∈Pq ds L i,Sz (k+520*i) x
 |0=>h
 |i+1=>λx C=>(rN (kI h T i) rfl (PR T _) x C).mono Z'
def aaa{ds:List Nat}{l:List TR}(h:ug k l):∀x∈X0 ds (Gu l),Sz (k+l.length) x:=λx C=>by
 have:=pB (N:=ea ds) (L:=(Gu l).map λ(q:List Nat×Dyadic)=>(Jc ds q.1,q.2)) (k:=k) (λa M=>by
  obtain⟨q,R,rfl⟩:=B'.1 M;obtain⟨t,S,rfl⟩:=B'.1 R;exact(h t S).2) x C
 unfold Gu at this;rwa[D',D'] at this
structure bt(p:PX)(b:List SR)(ns:List Nat):Prop where
 e:p.e=0
 box:Ok b=0
 pos:0<b.length
 Kp:b.length<=12
 v:p.v=b.length
 nl:ns.length=b.length
 low:∀d∈ns,d<=127
 most:ea ns<=4096
 own:∀(i d:Nat),ns[i]?=some d->∀t∈p.ts,fg i t<=d
def uC{p:PX}{D:List Int}(h:Il p b D=0):D=Ha (D.map Int.toNat)/\bt p b (D.map Int.toNat):=by
 unfold Il at h;by_cases J:p.e≠0
 .rw[P' J] at h;exact absurd h J
 rw[Q' J] at h;by_cases h1:Ok b≠0
 .rw[P' h1] at h;exact absurd h h1
 rw[Q' h1] at h;by_cases h2:(b.length:Int)≠p.v\/(D.length:Int)≠p.v
 .rw[P' h2] at h;exact absurd h V'
 rw[Q' h2] at h;by_cases G:dw (Jy p.v p.ts) D=true
 .rw[P' G] at h;exact absurd h V'
 rw[Q' G] at h;by_cases z:Ng 1 D=0
 .rw[P' z] at h;exact absurd h V'
 have m:p.e=0:=Z7.1 J;obtain⟨f1,_,_,_⟩:=Gb m;have f2:=Xe.1 f1;obtain⟨M,j,Y⟩:=Xi m;have f:(b.length:Int)=p.v:=Z7.1 λc=>h2 (.inl c);have u:(D.length:Int)=p.v:=Z7.1 λc=>h2 (.inr c);have r:∀(i:Nat)(y:Int),D[i]?=some y->∃d:Nat,(Tb p.v p.ts)[i]?=some d/\(d:Int)<=y/\y<=127:=λi y hy=>by
  have hi:=(x'.1 hy).1;obtain⟨d,T⟩:=aa (l:=Tb p.v p.ts) (k:=i) Z';have s:(Jy p.v p.ts)[i]?=some (d:Int):=by rw[M];exact ue T
  have:=E9.1 ((Bool.not_eq_true _).mp G) _ (N' (dK s hy));rw[h'] at this;exact⟨d,T,by show(d:Int)<=y;omega,by show y<=127;omega⟩
 have a:D=Ha (D.map Int.toNat):=(by unfold Ha;rw[A_];refine(L6 _).symm.trans (z9 λy hy=> ?_);obtain⟨i,hi⟩:=C_.1 hy;obtain⟨d,_,P,_⟩:=r i y hi;show y=((y.toNat:Nat):Int);omega);have g:∀d∈D.map Int.toNat,d<=127:=λd T=>(by obtain⟨y,hy,rfl⟩:=B'.1 T;obtain⟨i,hi⟩:=C_.1 hy;obtain⟨_,_,_,L⟩:=r i y hi;omega);refine⟨a,m,Z7.1 h1, ?_,Z',f.symm,by rw[D'];omega,g, ?_,λi d T t S=> ?_⟩
 .obtain c|c:=G8 b.length
  .have X:=Z7.1 h1;unfold Ok at X;rw[I7.1 c] at X;exact absurd X V'
  exact c
 .have B:=Ti (D.map Int.toNat) 1 (E' _) V' g;rw[<-a,C8] at B;rw[show Ng 1 D=Ng ((1:Nat):Int) D from rfl,B] at z;exact Z7.1 λc=>z (Q' c)
 rw[z'] at T;obtain⟨y,hy,Q⟩:=y9.1 T;obtain⟨d2,N,B,X⟩:=r i y hy;have:=(Y i d2 N).2.1 t S;omega
def bt.dm{p:PX}{ns:List Nat}(h:bt p b ns):(Tb p.v p.ts).length=b.length:=by
 rw[(Xi h.e).2.1,h.v];exact M8 _
def NW(v i:Nat)(c):Uk (λx=>if x=i then 1 else 0) [⟨Rk v i,c⟩]:=λt S j=>by
 rw[q'.1 S]
 cases he:(⟨Rk v i,c⟩:TR).m.data.toList[j]? with
 |none=>unfold fg;rw[he];exact J' _
 |some e=>
  rw[Km he];show e.toNat<=if j=i then 1 else 0
  have N:((List.replicate v (0:UInt8)).set i 1)[j]?=some e:=by simpa[Rk] using he
  rw[L9] at N;by_cases hj:i=j
  .rw[P' hj] at N;rw[P' hj.symm];split at N
   .rw[<-i' N];decide
   cases N
  rw[Q' hj] at N;rw[(List.mem_replicate.1 (N' N)).2];exact J' _
def Ns(v i:Nat)(s):Uk (λx=>if x=i then 1 else 0) (lh v i s):=by
 refine Uk.oa (Uk.append ((Iw v _).oa.mono λx=>J' _) (Uk.oa λt S j=> ?_));obtain⟨z,o,rfl⟩:=B'.1 S;rw[show fg j (vp (s.Vi-s.Tf) z)=fg j z from rfl];exact(NW v i _).oa z o j
def qt{p:PX}{ns:List Nat}(h:bt p b ns)(W:ug k p.ts)(F:∀s∈b,s.fin k)(w:k<=1000)(n:He (k+k+16394) (Tb p.v p.ts) (k+1)<=440000)(J:(Sc p (Na b)).1=0):
  Oi b.length 440000 (Sc p (Na b)).2/\∀t∈(Sc p (Na b)).2,ph ns.reverse (Ac t.m).reverse:=by
 have Q:=h.Kp;have A:=h.pos;have a:=ri b;obtain⟨_,x,Y⟩:=Xi h.e;have u:=h.dm;have o:Uf (Na b)=b.length:=(by obtain⟨s,K⟩:=aa (l:=b) (k:=0) Z';rw[Tk (cg K)]);unfold Sc at J |-;rw[Q' (λc=>c h.e),Q' (by rw[a,h.v];exact λc=>c rfl)] at J |-;by_cases j:(Na b).length≠0/\Qf (Na b)≠0
 .rw[P' j] at J;exact absurd J j.2
 rw[Q' j,o] at J |-;have R:∀q∈(Na b).map PX.ts,Oi b.length (k+k+10) q/\q.length<=2:=λq R=>(by obtain⟨g,f,rfl⟩:=B'.1 R;obtain⟨i,s,K,rfl⟩:=kJ f;exact Lk Q (F s (N' K)) Z');have h1:=UJ (jg Q) (show k+k+10+4096*2+8192<=k+k+16394 by omega) ((Na b).map PX.ts) 0 p.ts (Tb p.v p.ts) k R W (by rw[D',a,u]) (λi d T=>⟨(Y i d T).1,λt S=>by rw[U_];exact(Y i d T).2.1 t S⟩) Z' J;refine⟨h1.mono n, ?_⟩;have h2:=qB ((Na b).map PX.ts) 0 p.ts (λi=>(ns[i]?).getD 0) (λi q hi=> ?_) (λt S i hi=> ?_) J
 .intro t S;have hm:=(Gb h1.e).2.2.1 t S;unfold Qd at hm;rw[l',h'] at hm;have M:(Ac t.m).length=b.length:=by rw[Vm];omega
  rw[Vk];refine⟨by rw[F_,F_,M,h.nl],λi d r T H=> ?_⟩;have hi:=(x'.1 T).1;rw[F_] at hi;rw[z8 hi] at T;rw[z8 (by rw[M,<-h.nl];exact hi),M,<-h.nl] at H;have G:=h2 t S (ns.length-1-i);dsimp only at G;rw[D',a,P' ⟨J' _,by have:=h.nl;omega⟩,T,oK,H] at G;exact G
 .rw[z'] at hi;obtain⟨g,f,rfl⟩:=y9.1 hi;obtain⟨s,K⟩:=aa (l:=b) (k:=i) (by have:=(x'.1 f).1;rwa[a] at this);rw[cg K] at f;rw[<-i' f,U_];exact Ns _ i s
 rw[D',a] at hi;rw[U_];obtain⟨d,T⟩:=aa (l:=ns) (k:=i) (by rw[h.nl];exact hi);rw[T];exact h.own i d T t S
def vC(L)(n c d:Nat)(xs:List Dyadic)(k:Nat)(w)(J:Gc w)(hS:Sl w L n 3 (ia NR.cells (xs.map nR)))(T:n=d+1)(hd:d<=127)(hx:∀x∈xs,Sz k x)(hk:k<=500000):Calls prog 169 #[.slice L n c] w λr V=>∃A c',r=.returned (.slice A n c')/\Hp w [.row A n c' 30 3 (ia NR.cells ((bp d (mg d 1 1) xs).map nR))] V:=by
 have I:=Hp.start w;have hln:xs.length=n:=by have:=hS.sa NR.len V';simpa using this
 have ha:Sz 1 1:=Sz.one;obtain⟨ad,rfl,hr⟩:=hS.at_ Z';refine Ca (l:=[.slice (some ad) n c]) func169 ?_;refine fa ?_;refine qG ?_;intro z w14 I;refine fa ?_;rw[dz,T,<-yH d 1 1 xs,<-T] at I;refine bf 17 (λv V=>∃i:Nat,i<=n/\v=.int .i64 i/\Hp w [.row (some ⟨z,0,none⟩) n n 30 3 (ia NR.cells ((Nj d 1 1 xs i 0).map nR))] V) (λv _=>n-(intOf v).toNat) ?_ ?_
 .exact⟨0,J' _,rfl,I⟩
 clear I;rintro ρ' v V ⟨i,hi,rfl,I⟩;by_cases hlt:i<n
 .obtain⟨x,a⟩:=aa (l:=xs) (k:=i) Z';have hxn:(xs.map nR)[i]?=some (nR x):=by rw[z',a];rfl
  have M:Bj xs i=x:=by unfold Bj;rw[a];rfl
  have zx:=hx x (N' a);have D:=λZ P=>cp (d-i) Z P Z';refine fa ?_;refine sv (Ka (vs:=[_,_,_]) pa.out rfl ((hr.ext I.below).recAt NR.len hxn) rfl) ?_;refine yb ?_;intro b6 w6 I ws I;have C:(n:Int)-1-(i:Int)=((d-i:Nat):Int):=Z';rw[<-C] at D;refine cr I (D _ (J.hp I)) ?_;intro m q w25 I;refine fa ?_;replace I:=I.sub (O' _ (O' _ (O' _ Z_)));refine bf 27 (λv V=>∃j:Nat,j<=d-i+1/\v=.int .i64 j/\Hp w [.row m (d-i+1) q 30 3 (ia NR.cells (tm (d-i))),.blk b6 30 [.bool (nR x).neg,.string (nR x).Va,.int .i64 (nR x).e] (0,0),.row (some ⟨z,0,none⟩) n n 30 3 (ia NR.cells ((Nj d 1 1 xs i j).map nR))] V) (λv _=>d-i+1-(intOf v).toNat) ?_ ?_
  .exact⟨0,J' _,rfl,I⟩
  clear I;rintro ρ2 v w2 ⟨j,hj,rfl,I⟩;by_cases hjn:j<d-i+1
  .have Q:(tm (d-i))[j]?=some (nR (nD (bin (d-i) j))):=Rl Z';have zb:=Cw (d-i) j Z';obtain⟨o,X⟩:=aa (l:=Nj d 1 1 xs i j) (k:=i+j) (by rw[Hm];omega);have hon:((Nj d 1 1 xs i j).map nR)[i+j]?=some (nR o):=by rw[z',X];rfl
   have zo:=pV (j:=j) hx ha ha hd (show i<=d+1 by omega) o (N' X);have zy:=zx.mul zb;have K:=λA B Z P N=>Td A 2 B [nR x,nR (nD (bin (d-i) j))] Z P N (by simpa using⟨zx.ok Z',zb.ok Z'⟩) 600000 (by simpa[Ga] using⟨zx.mono Z',zb.mono Z'⟩) Z' Z';rw[show Re ([nR x,nR (nD (bin (d-i) j))].map NR.da)=x*nD (bin (d-i) j) by simp only[I_,R9,Ga];show 1*x*_=_;rw[x8]] at K;have p:=qP (show i+j<=d by omega) X;have s:Bj xs i*mg d 1 1 i (i+j)=x*nD (bin (d-i) j):=(by unfold mg;rw[M,Q' Z',show i+j-i=j by omega,mi,mi];generalize nD (bin (d-i) j)=u;grind);rw[s] at p;generalize x*nD (bin (d-i) j)=y at*;have g:=λA B Z P N=>zf A 2 B [nR o,nR y] Z P N (by simpa using⟨zo.ok Z',zy.ok Z'⟩) 2000000 (by simpa[Ga] using⟨zo.mono Z',zy.mono Z'⟩) Z';rw[show Vl ([nR o,nR y].map NR.da)=o+y by simp only[I_,R9,Ga,Sh]] at g;have hll:((Nj d 1 1 xs i j).map nR).length=n:=by rw[D',Hm];omega
   generalize Nj d 1 1 xs i j=S at*;have hrl:=Wd NR.len (S.map nR);obtain⟨gw,rfl⟩:=I.kb (i:=0) rfl Z';refine fa ?_;refine sv (Ka (vs:=[_,_,_]) pa.out rfl (I.Wc (f:=NR.cells) (x:=nR (nD (bin (d-i) j))) (l:=tm (d-i)) (i:=0) rfl NR.len V' Q) rfl) ?_;refine yb ?_;intro b8 w8 I ws I;refine ud 16 I ?_;refine Xr ((i+j)) ?_;refine Fj [_,_,_] (λ_ hj=>hj.hp.Wc (f:=NR.cells) (x:=nR o) (l:=S.map nR) (i:=3) rfl NR.len V' hon) ?_;refine wb ?_;refine Wp [_,_,_,_,_,_] ?_;refine Ja (i:=13) (Is (nR y).V) Is.ext ?_ ?_
   .intro U Z hj hR;obtain⟨b,t,H,s44⟩:=hR.1;exact ib rfl (La fi (qa H Wa)) (K b t _ (J.hp hj.hp) s44) (λ_ _ R=>⟨_,R.1,R.2,rfl⟩)
   refine Wp [_,_,_,_,_,_] ?_;refine Ja (i:=15) (Is (.agg #[.bool (nR (o+y)).neg,.string (nR (o+y)).Va,.int .i64 (nR (o+y)).e])) Is.ext ?_ ?_
   .intro U Z hj hR;obtain⟨h,F,Y,s46⟩:=hR.1;exact ib rfl (La fi (qa Y Wa)) (g h F _ (J.hp hj.hp) s46) (λ_ _ R=>⟨_,R.1,R.2,rfl⟩)
   refine Fa ?_;intro f W hJ hV;obtain⟨v47,v46,v45,v44,v43,v42,v41,v40,v39,v38,v37,v36,v35,v34,v33,v32,_⟩:=hV;obtain⟨b,t,E,f44⟩:Rows _ _ _ (f 12) W:=v44;obtain⟨h,F,G,f46⟩:Rows _ _ _ (f 14) W:=v46;refine adL ?_;intro ws I;replace I:=I.sub (G' _ (O' _ (O' _ (O' _ Z_))));refine⟨⟨j+1,Z',rfl,I⟩,by show d-i+1-(j+1)<d-i+1-j;omega, ?_⟩;exact Wb
  obtain rfl:j=d-i+1:=Z';rw[wO Z'] at I;refine fa ?_;replace I:=I.sub (G' _ (G' _ (O' _ Z_)));exact UG
 obtain rfl:i=n:=Z';rw[show Nj d 1 1 xs i 0=bp d (mg d 1 1) xs by rw[T,KN]] at I;refine fa ?_;exact⟨_,_,rfl,I⟩
def agU(L:FX)(K:List Int):Int:=if L.e≠0 then L.e else if K.any (EW L.n)=true then 1 else 0
def ahL(R:List HE)(g:FX):Prop:=R=[g.gg,g.Kf]\/g.m=0/\R=[g.Kf]
variable {G:List HE}
def Yz(g n c a:Nat)(ds)(w)(I:Hp w0 (.row (some ⟨g,0,none⟩) n c 3 1 (Pa ds)::G) w)(Q:ds.length=n)(M:a<n)(B:n<=1000):Calls prog 196 #[.slice (some ⟨g,0,none⟩) n c,.int .i64 a,.int .i64 ((a:Int)+1)] w λr V=>r=.returned (.slice (some ⟨g,0,none⟩) (n-1) c)/\Hp w0 (.row (some ⟨g,0,none⟩) (n-1) c 3 1 (Pa (ds.eraseIdx a))::G) V:=by
 have E:=I.me (i:=0) rfl;refine Ca func196 ?_;have d:=λ(Z:World) (H1:Hp w0 (.row (some ⟨g,0,none⟩) n c 3 1 (Pa ds)::G) Z)=>H1.ma (i:=0) rfl;have k:Pa (ds.take a)++Pa (ds.drop (a+1))=Pa (ds.eraseIdx a):=(by rw[List.eraseIdx_eq_take_drop_succ];simp[Pa]);refine afV ?_;intro W I t;obtain⟨b,J⟩:∃b,(if c=a+1 then some (⟨g,0,none⟩:Addr) else(some (⟨g,0,none⟩:Addr)).map (·.add ((a+1)*1)))=some b:=(by split<;>exact⟨_,rfl⟩);rw[J] at t |-;have F:(Pa ds).drop ((a+1)*1)=Pa (ds.drop (a+1)):=by rw[X_];unfold Pa;rw[<-V6]
 have f:(Pa ds).take (a*1)=Pa (ds.take a):=by rw[X_];unfold Pa;rw[<-List.map_take]
 rw[F] at t;have s:∀j u,(Pa (ds.drop (a+1)))[j]?=some u->W.cell? (b.add j)=some u:=λj u hu=>(by have hj:=(x'.1 hu).1;rw[Cb,j_] at hj;obtain⟨x,e,r⟩:=t.2 Z';obtain rfl:b=x:=i' e;exact r j u hu);refine To I (i:=0) (a:=b) (p:=a) (m:=n-(a+1)) rfl rfl rfl Z' Z' t.1 s (Da _) Qa.out pa.out V' ?_;intro T I;simp only[j'] at I;rw[f,k,show a+(n-(a+1))=n-1 by omega] at I;rw[show a+(n-(a+1))=n-1 by omega];have y:(if c=n-1 then some (⟨g,0,none⟩:Addr) else(some (⟨g,0,none⟩:Addr)).map (·.add ((n-1)*1)))=some ⟨g,n-1,none⟩:=(by rw[Q' Z'];show some ((⟨g,0,none⟩:Addr).add ((n-1)*1))=_;rw[Zd,U_,X_]);refine acg ?_;refine kl I (i:=0) (o:=n-1) (m:=1) rfl rfl Z' Z' V' Qa.out pa.out rfl rfl ?_;intro v I;refine fa ?_;exact⟨rfl,I⟩
def Pv(L:FX)(N:Int)(k:Nat)(w)(S:Gc w)(Y:L.at_ w)(Q:L.Ug k):Zc 195 #[L.V,.int .i64 N] w (.int .i64 (Sm L N)):=by
 have I:=Hp.start w;have K:=λZ P F=>ml L k Z P (Y.ext F) Q;by_cases J:L.e=0
 .by_cases h1:N<0
  .rw[show Sm L N=1 by unfold Sm;rw[Q' Z',P' (.inl h1)]];exact lV
  by_cases h2:(L.n:Int)<=N
  .rw[show Sm L N=1 by unfold Sm;rw[Q' Z',P' (.inr h2)]];exact lV
  rw[show Sm L N=0 by unfold Sm;rw[Q' Z',Q' Z']];exact lV
 rw[show Sm L N=L.e by unfold Sm;rw[P' J]];exact lV
def Ir(A)(n c a d:Nat)(ns)(w)(J:Sl w A n 1 (Pa (Ha ns)))(X:n<=c)(B:n<=1000)(T:ns[a]?=some d)(g:∀x∈ns,x<=127)(o:ea ns<=4096):Zc 167 #[.slice A n c,.int .i64 a] w (.agg #[.int .i64 ((d:Int)+1),.int .i64 (ea (ns.drop (a+1)):Nat)]):=by
 have I:=Hp.start w;have m:ns.length=n:=by have:=J.1;simpa[Pa,Ha] using this
 have M:=(x'.1 T).1;have Y:=g d (N' T);have j:=Ic (ue T);have t:=J.back (l:=a+1) (c:=c) Z' X;have F:(Pa (Ha ns)).drop ((a+1)*1)=Pa (Ha (ns.drop (a+1))):=(by rw[X_];unfold Pa Ha;rw[<-V6,<-V6]);rw[F] at t;have P:Ng 1 (Ha (ns.drop (a+1)))=(ea (ns.drop (a+1)):Nat):=by
  have h1:=Ti (ns.drop (a+1)) 1 V' V' (λx C=>g x (J6 C));have h2:ea (ns.drop (a+1))<=ea ns:=by
   have G:ea ns=ea (ns.take (a+1))*ea (ns.drop (a+1)):=by rw[<-Qc,q_]
   rw[G];exact Nat.le_mul_of_pos_left _ (Pb _)
  rw[C8,P' Z'] at h1;exact h1
 have D:=λZ N=>uf (if c=a+1 then A else A.map (·.add ((a+1)*1))) (n-(a+1)) (c-(a+1)) (Ha (ns.drop (a+1))) Z N Z';rw[P] at D;obtain⟨b,rfl,e⟩:=J.at_ Z';refine Ca (l:=[.slice (some b) n c,.int .i64 a]) func167 ?_;refine Bb ?_;intro f y I;refine ud 10 I ?_;refine Ui (a) ?_;refine uo (λ_ hj=>(e.ext hj.hp.below).Yr j) ?_;refine wb ?_;refine Ma (i:=8) (λU Z hj hR=>Nf (l:=(a+1)) Qa.out pa.size (show U 10=Value.slice _ _ _ from hR.1) (show U 12=Value.int _ _ from hR.2.1) Z' Z' Z') ?_;refine dC (λ_ hj=>D _ (t.ext hj.hp.below)) ?_;refine dn ?_;intro W I;refine dq ?_;intro ws I;exact⟨rfl,I.below⟩
def EN(A)(d f i q:Nat):ic A d f i q=ic A d f 0 q+i*ea A:=by
 unfold ic;rw[n_,n_,A8,V_ i];omega
def YF(g:FuncId)[la prog g](A:List Nat)(B)(d L:Nat)(φ:List Dyadic->List Dyadic)(C)(n c k:Nat)(X:List Dyadic)(w)(hT:Gc w)(hS:Sl w C n 3 (ia NR.cells (X.map nR)))(hn:n=ea (A++d::B))(hmax:n<=4096)(hL:L<=d+1)(hd:d<=127)(hx:∀x∈X,Sz k x) (hg:∀(Y:List Dyadic)(D:Option Addr)(dc:Nat)(Z:World),Gc Z->(∀y∈Y,Sz k y)->Sl Z D (d+1) 3 (ia NR.cells (Y.map nR))->Calls prog g #[.slice D (d+1) dc] Z λr V=>∃E G,r=.returned (.slice E L G)/\Hp Z [.row E L G 30 3 (ia NR.cells ((φ Y).map nR))] V) (hφ:∀Y:List Dyadic,Y.length=d+1->(φ Y).length=L):Calls prog 168 #[.agg #[.int .i64 ((d:Int)+1),.int .i64 (ea A:Nat)],.slice C n c,.func (.func g) #[] #[]] w λr V=>∃E G,r=.returned (.slice E n G)/\Hp w [.row E n G 30 3 (ia NR.cells ((dj A d L φ X n 0).map nR))] V:=by
 have I:=Hp.start w;have hXl:X.length=n:=by have:=hS.sa NR.len V';simpa using this
 have K:=Pb A;have hap2:ea A<=n:=(by rw[hn,Qc];exact a6 _ (Pb _));have z:=λZ hb=>Pr C n c (X.map nR) Z (hS.ext hb) Z';refine Ca func168 ?_;refine Bb ?_;intro b3 w3 I;refine Tc (z _ I.below) la.out rfl V' ?_;rintro e_ w14 ⟨h,Q,rfl,t,hb_⟩;refine⟨_,rfl, ?_⟩;replace I:=I.pd (x:=.row _ _ _ _ _ _) hb_ t;rw[show X.map nR=(dj A d L φ X 0 0).map nR by rw[RN]] at I;refine fa ?_;refine bf 17 (λv V=>∃F:Nat,F<=n/\v=.int .i64 F/\Hp w [.row h n Q 30 3 (ia NR.cells ((dj A d L φ X F 0).map nR)),.blk b3 196 [.int .i64 ((d:Int)+1),.int .i64 (ea A:Nat)] (0,0)] V) (λv _=>n-(intOf v).toNat) ?_ ?_
 .exact⟨0,J' _,rfl,I⟩
 clear I;rintro ρ' v V ⟨F,hF,rfl,I⟩;by_cases J:F<n
 .have hcast:((F:Int)/((ea A:Nat):Int)) % ((d:Int)+1)=((F/ea A % (d+1):Nat):Int):=by norm_cast
  have hq0:(0:Int)<=(F:Int)/((ea A:Nat):Int):=Int.ediv_nonneg Z' Z';by_cases h0:F/ea A % (d+1)=0
  .obtain⟨b,H⟩:∃b,b=F % ea A:=⟨_,rfl⟩;obtain⟨q,N⟩:∃q,q=F/ea A/(d+1):=⟨_,rfl⟩;have hf:b<ea A:=by rw[H];exact Q_ _ K
   have u:F=ic A d b 0 q:=by rw[H,N,<-h0,QB]
   have hq:q<ea B:=by
    rw[N,l9,N9 (Q7 K Z')];rw[hn,Qc,ea] at J
    calc F<ea A*((d+1)*ea B):=J
     _=ea B*(ea A*(d+1)):=by rw[<-Z9,V_]
   have s:∀i,i<=d->ic A d b i q<n:=λi hi=>by rw[hn];exact yx hf hi hq
   have M:∀i,ic A d b i q=F+i*ea A:=λi=>by rw[u];exact EN A d b i q
   have hxl:(Jf A d X b q).length=d+1:=by simp[Jf]
   have hxz:∀y∈Jf A d X b q,Sz k y:=λy hy=>(by obtain⟨i,hi,rfl⟩:=B'.1 hy;exact YS hx _);obtain⟨ad,hCA,hr⟩:=hS.at_ Z';rw[hCA] at*;refine tZ ?_;refine Fa ?_;intro f W hJ hV;have hb_5:=hJ.bl;obtain⟨v25,v24,v23,v22,v21,v20,_⟩:=hV;replace I:=hJ.hp;refine lg ?_;refine fa ?_;replace I:=I.rb 30 3;refine Fi 9 30 (λa v V=>∃(i:Nat)(T:Option Addr)(c':Nat),i<=d+1/\v=.int .i64 i/\a=.slice T i c'/\Hp w [.row T i c' 30 3 (ia NR.cells (((Jf A d X b q).take i).map nR)),.row h n Q 30 3 (ia NR.cells ((dj A d L φ X F 0).map nR)),.blk b3 196 [.int .i64 ((d:Int)+1),.int .i64 (ea A:Nat)] (0,0)] V) (λ_ v _=>d+1-(intOf v).toNat) ?_ ?_
   .exact⟨0,none,0,J' _,rfl,rfl,I⟩
   clear I;rintro ρ2 a_ v w2 ⟨i,T,c',hi,rfl,rfl,I⟩;by_cases hil:i<d+1
   .obtain⟨y,hy⟩:=aa (l:=Jf A d X b q) (k:=i) Z';have hyx:(X.map nR)[ic A d b i q]?=some (nR y):=(by have h1:=s i Z';unfold Jf at hy;rw[z',f_ hil] at hy;have h2:(X[ic A d b i q]?).getD 0=y:=i' hy;rw[z',TF (show ic A d b i q<X.length by omega)];show some (nR (Bj X _))=_;unfold Bj;rw[h2]);have hpn:=s i Z';have o:=M i;obtain⟨m,hm⟩:∃m,m=i*ea A:=⟨_,rfl⟩;have hmi:(i:Int)*((ea A:Nat):Int)=(m:Int):=by rw[hm];exact(F9 _ _).symm
    rw[<-hm] at o;refine vL ?_;refine Hb (mL (mL (mI (mI (Bm ?_)))));refine pj I 2 ?_;refine mulC ?_;refine Gi ?_;refine sv (pb (k:=(ic A d b i q)) Qa.out pa.size rfl rfl Z' Z') ?_;refine sv (Ka (vs:=[_,_,_]) pa.out rfl ((hr.ext I.below).recAt NR.len hyx) rfl) ?_;refine Nm ?_;intro b43 w43 I;refine Er ?_;intro R c44 w44 I;refine XO ?_;intro I;have e1:ia NR.cells (((Jf A d X b q).take i).map nR)++[.bool (nR y).neg,.string (nR y).Va,.int .i64 (nR y).e]=ia NR.cells (((Jf A d X b q).take (i+1)).map nR):=by rw[ja hy,G_,Aa,I_,R9,Jj];rfl
    rw[e1] at I;refine⟨⟨i+1,R,c44,Z',rfl,rfl,I⟩,by show d+1-(i+1)<d+1-i;omega, ?_⟩;exact Wb
   obtain rfl:i=d+1:=Z';rw[w' Z'] at I;refine fa ?_;refine Hh (hg (Jf A d X b q) T c' _ (hT.hp I) hxz (I.ma (i:=0) rfl)) la.out rfl rfl V' ?_;rintro e_ w48 ⟨E,G,rfl,h4⟩;refine FE ?_;intro I;replace I:=I.sub (O' _ (G' _ (O' _ (O' _ Z_))));have hφl:=hφ (Jf A d X b q) hxl;refine fa ?_;refine bf 50 (λv V=>∃j:Nat,j<=L/\v=.int .i64 j/\Hp w [.row E L G 30 3 (ia NR.cells ((φ (Jf A d X b q)).map nR)),.row h n Q 30 3 (ia NR.cells ((dj A d L φ X F j).map nR)),.blk b3 196 [.int .i64 ((d:Int)+1),.int .i64 (ea A:Nat)] (0,0)] V) (λv _=>L-(intOf v).toNat) ?_ ?_
   .exact⟨0,J' _,rfl,I⟩
   clear I;rintro ρ3 v w3 ⟨j,hj,rfl,I⟩;by_cases hjl:j<L
   .obtain⟨y,hy⟩:=aa (l:=φ (Jf A d X b q)) (k:=j) Z';have hyn:((φ (Jf A d X b q)).map nR)[j]?=some (nR y):=by rw[z',hy];rfl
    have hpn:=s j Z';have o:=M j;have p:=HS (φ:=φ) (X:=X) (q:=q) hf hjl (show j<=d by omega);rw[<-u,show Bj (φ (Jf A d X b q)) j=y by unfold Bj;rw[hy];rfl] at p;obtain⟨m,hm⟩:∃m,m=j*ea A:=⟨_,rfl⟩;have hmi:(j:Int)*((ea A:Nat):Int)=(m:Int):=by rw[hm];exact(F9 _ _).symm
    rw[<-hm] at o;have hll:((dj A d L φ X F j).map nR).length=n:=by rw[D',Fh];exact hXl
    generalize dj A d L φ X F j=S at*;generalize ic A d b j q=P at*;have hrl:=Wd NR.len (S.map nR);obtain⟨gr,rfl⟩:=I.kb (i:=0) rfl Z';obtain⟨go,rfl⟩:=I.kb (i:=1) rfl Z';refine fa ?_;refine sv (Ka (vs:=[_,_,_]) pa.out rfl (I.Wc (f:=NR.cells) (x:=nR y) (l:=(φ (Jf A d X b q)).map nR) (i:=0) rfl NR.len V' hyn) rfl) ?_;refine dv I ?_;intro b12 w12 I;refine aI ?_;refine adZ ?_;intro ws I;refine na (Hb (mL (mI (mI (Bm ?_)))));refine pj I 3 ?_;refine mulC ?_;refine Gi ?_;refine rk I 0 [_,_,_] ?_;refine sv (Lc (k:=P) Qa.out pa.size rfl rfl Z' Z') ?_;refine Xa I (i:=2) (vs:=[_,_,_]) rfl rfl (Hd rfl) rfl pa.out rfl Z' rfl ?_;refine Nr ?_;intro ws I;rw[show db (ia NR.cells (S.map nR)) (P*3) [.bool (nR y).neg,.string (nR y).Va,.int .i64 (nR y).e]=ia NR.cells ((S.map nR).set P (nR y)) from Jd NR.len Z',<-B9,p] at I;refine AZ ?_;intro I;refine⟨⟨j+1,Z',rfl,I⟩,by show L-(j+1)<L-j;omega, ?_⟩;exact Wb
   rw[QM (show L<=j by omega)] at I;refine P0 ?_;intro I;refine⟨⟨F+1,Z',rfl,I⟩,by show n-(F+1)<n-F;omega, ?_⟩;exact Wb
  rw[lN h0] at I;refine tZ ?_;refine dn ?_;intro W I;refine fa ?_;refine⟨⟨F+1,Z',rfl,I⟩,by show n-(F+1)<n-F;omega, ?_⟩;exact Wb
 obtain rfl:F=n:=Z';refine fa ?_;exact⟨_,_,rfl,I.sub (O' _ (m_ _))⟩
def Ml(p:PX)(ds:List Int):List Int:=if ds.length=0 then Jy p.v p.ts else ds
def ofN(p:PX)(ds:List Int):List Nat:=(Ml p ds).map Int.toNat
def eg(p:PX)(b:List SR)(ds:List Int):Int:=if Il p b (Ml p ds)≠0 then Il p b (Ml p ds) else(Sc p (Na b)).1
def aX{ns:List Nat}{i d:Nat}(h:ns[i]?=some d):ns.reverse=(ns.drop (i+1)).reverse++d::(ns.take i).reverse:=by
 exact acS
def aaU(ds):X0 ds (Gu [])=List.replicate (ea ds) 0:=Hx _
def rW{ds:List Nat}{l:List TR}{i:Nat}{t:TR}(Q:∀t∈l,ph ds (Ac t.m).reverse)(H:xv l)(S:l[i]?=some t):(X0 ds (Gu (l.take i))).set (Jc ds (Ac t.m).reverse) t.c.da=X0 ds (Gu (l.take (i+1))):=by
 have y:=Q t (N' S);have hp:=Th y;have J:(X0 ds (Gu (l.take i)))[Jc ds (Ac t.m).reverse]?=some 0:=by
  unfold X0;rw[al _ hp];congr 1;unfold Gu;rw[A_,Kt];refine rq λs K=>Q' λe=> ?_;replace e:Jc ds (Ac s.m).reverse=Jc ds (Ac t.m).reverse:=e;have L:(Ac s.m).reverse=(Ac t.m).reverse:=by rw[<-Vg (Q s (x9 K)),e,Vg y]
  have X:s.m=t.m:=wD (List.reverse_inj.1 L);obtain⟨j,hj⟩:=C_.1 K;have z:j<i:=by have:=(x'.1 hj).1;rw[p'] at this;omega
  rw[List.getElem?_take_of_lt z] at hj;have h1:=(x'.1 hj);have h2:=(x'.1 S);have G:=List.pairwise_iff_getElem.1 H j i h1.1 h2.1 z;rw[h1.2,h2.2,X,xg] at G
  cases G
 have h1:=MA (v:=t.c.da) (show(gh (ea ds) ((Gu (l.take i)).map λ(q:List Nat×Dyadic)=>(Jc ds q.1,q.2)))[Jc ds (Ac t.m).reverse]?=some 0 from J);rw[g8] at h1;show(gh (ea ds) ((Gu (l.take i)).map λ(q:List Nat×Dyadic)=>(Jc ds q.1,q.2))).set _ _=_;rw[h1,ja S];unfold X0 Gu;rw[G_,G_];rfl
set_option maxRecDepth 10000 in
def tN(p:PX)(L)(n c:Nat)(b)(M)(m mc:Nat)(ds)(k:Nat)(w)(hT:Gc w)(hp:p.at_ w)(lp:p.Ug k)(hB:Sl w L n 6 (ia SR.cells b))(hb:∀s∈b,s.fin k)(hn:n<=1000000)(hD:Sl w M m 1 (Pa ds))(hm:m<=1000000)(hmc:m<=mc)(hk:k<=1000) (hgr:Il p b (Ml p ds)=0->He (k+k+16394) (Tb p.v p.ts) (k+1)<=440000):Calls prog 94 #[p.V,.slice L n c,.slice M m mc] w λr V=>∃g:FX,Out (eg p b ds) (ofN p ds) (An (ofN p ds) (Sc p (Na b)).2) g/\r=.returned (.tuple #[g.V,.int .i64 (eg p b ds)])/\Hp w [g.gg,g.Kf] V:=by
 have I:=Hp.start w;have hbl:b.length=n:=hB.sa SR.len V';have hdl:ds.length=m:=by have:=hD.1;rw[Cb] at this;omega
 have hok:∀s∈b,s.ok:=λs hs=>⟨(hb s hs).1.ok,(hb s hs).2.ok⟩;have C:Ml p ds=if m=0 then Jy p.v p.ts else ds:=by unfold Ml;rw[hdl]
 have hoN:ofN p ds=(Ml p ds).map Int.toNat:=rfl;have hoE:eg p b ds=if Il p b (Ml p ds)≠0 then Il p b (Ml p ds) else(Sc p (Na b)).1:=rfl
 rw[hoN,hoE];generalize Ml p ds=D at*;refine Ca func94 ?_;refine sr ?_;refine jC I [_,_] ?_;intro b3 w3 I;refine dv I ?_;intro b6 w6 I;refine aI (na ?_);refine Ot [2,18,19,20,21,22] 2 (λv V=>∃(M2:Option Addr)(N o:Nat)(R:List HE),v=.slice M2 N o/\N<=o/\N<=1000000/\D.length=N/\(∀(H:List HE)(Z:World),Hp w (H++R) Z->Sl Z M2 N 1 (Pa D))/\Hp w (.blk b6 78 [.slice none 0 0,.slice none 0 0] (0,0)::.blk b3 24 [.int .i64 p.v,.slice p.A p.n p.c] (0,0)::R) V) ?_ ?_
 .by_cases hm0:m=0
  .subst hm0;rw[P' rfl] at C;have hdg:=λZ P hb=>Rt p k Z P (hp.ext hb) lp;rw[<-C] at hdg;have hl4:D.length<=1000000:=by
    rw[C];unfold Jy;split
    .rename_i hpe;have:=Xe.1 (Gb hpe).1;rw[Mf];omega
    exact J' _
   refine fa ?_;refine Wi (hdg _ (hT.hp I) I.below) ?_;rintro e_ w22 ⟨G,gc,rfl,h4⟩;refine⟨_,rfl, ?_⟩;have hgc:D.length<=gc:=h4.me (i:=0) rfl;replace I:=I.join h4;simp only[C',F'] at I;refine fa ?_;refine XV ?_;intro I;refine XV ?_;intro I;refine⟨⟨G,D.length,gc,_,rfl,hgc,hl4,rfl,λH Z h1=>ee (h1.own (.row G D.length gc 3 1 (Pa D)) (u9 _ I')),I⟩, ?_⟩;exact GP
  rw[Q' hm0] at C;refine fa ?_;refine⟨⟨M,m,mc,[],rfl,hmc,hm,by rw[C];exact hdl,λH Z h1=>by rw[C];exact hD.ext h1.below,I⟩, ?_⟩;exact GP
 skip;rintro ρ' v V ⟨M2,N,o,R,rfl,hmc2,hm2,hDl,hrd,I⟩;have K:=λZ P t T=>Ox p L n c b M2 N o D k Z P (hp.ext t) lp (hB.ext t) hok hn T hm2;by_cases hE:Il p b D≠0
 .rw[P' hE];generalize Il p b D=E at*;refine fa ?_;refine cd I (K _ (hT.hp I) I.below (hrd [_,_] _ I)) ?_;intro w26 I;refine CR ?_;intro ws I;exact⟨FX.nil,Out.err hE,rfl,(I.sub (m_ _)).yQ⟩
 rw[Q' hE];have Q:Il p b D=0:=Z';obtain⟨J,hF⟩:=uC Q;rw[Q] at K;have hpe:=hF.e;have hn0:=hF.pos;have hn12:=hF.Kp;have hnl:=hF.nl;have h:=hF.low;have F:=hF.most;have hgr2:=hgr Q;obtain⟨_,o2,o3⟩:=Xi hpe;have hwi:=λZ P t=>UB p L n c b k (Tb p.v p.ts) Z P (hp.ext t) lp (hB.ext t) hb (by rw[hF.v,hbl]) Z' Z' hk (by rw[hF.dm];exact hbl) (λi d T=>⟨(o3 i d T).1,(o3 i d T).2.1⟩) hgr2;have hsp:=qt hF lp.ok hb hk hgr2;have K:=λZ P t T=>Ox p L n c b M2 N o D k Z P (hp.ext t) lp (hB.ext t) hok hn T hm2;rw[Q] at K;have hcnt:Ng 1 D=((ea (D.map Int.toNat):Nat):Int):=(by have h8:=Ti (D.map Int.toNat) 1 (E' _) V' h;rw[<-J,C8,P' F] at h8;exact h8);have hco:=λZ T=>uf M2 N o D Z T hm2;rw[hcnt] at hco;have hcl:=λZ T=>il M2 N o D Z T hm2;have hm2n:N=n:=by rw[<-hDl,<-hbl,<-hnl,D']
 generalize hns:D.map Int.toNat=ns at*;generalize (Sc p (Na b)).1=E at*;generalize (Sc p (Na b)).2=S at*;have hN0:=Pb ns;refine fa ?_;refine cd I (K _ (hT.hp I) I.below (hrd [_,_] _ I)) ?_;intro w26 I;refine fa ?_;refine Wi (hwi _ (hT.hp I) I.below) ?_;rintro e_ w34 ⟨q,oq,rfl,h4⟩;refine FE ?_;intro I;replace I:=show Hp w (.row q.A q.n q.c 72 4 (ia TR.cells q.ts)::_) _ from I;by_cases hE2:E≠0
 .refine Am ?_;intro b9 w9 I ws I ws I;refine Cr ?_;exact⟨FX.nil,Out.err hE2,rfl,(I.sub (m_ _)).yQ⟩
 have Q:E=0:=Z';subst Q;obtain⟨hso,hsr⟩:=hsp rfl;have et:q.ts=S:=oq.t0;rw[et] at I;generalize q.v=qv at*;generalize q.A=qA at*;generalize q.n=qn at*;generalize q.c=qc at*;have hSl:S.length=qn:=(I.ma (i:=0) rfl).sa TR.len V';have hSn:=hso.len;obtain⟨_,_,hSm,hSc⟩:=Gb hso.e;refine yb ?_;intro b9 w9 I ws I;refine cr I (hcl _ (hrd [_,_,_,_] _ I)) ?_;intro u y w42 I;refine mL ?_;refine cd I (hco _ (hrd [_,_,_,_,_] _ I)) ?_;intro w44 I;refine Ee (n:=(ea ns)) I rfl rfl Z' Z' Qa.out pa.out rfl Z' Z' V' ?_;intro b45 w45 I;refine yb ?_;intro b11 w11 I ws I;rw[dz,<-Cc ns,<-aaU ns.reverse,Cc] at I;refine bf 50 (λv V=>∃i:Nat,i<=qn/\v=.int .i64 i/\Hp w (.blk b11 78 [.slice u N y,.slice (some ⟨b45,0,none⟩) (ea ns) (ea ns)] (0,0)::.row (some ⟨b45,0,none⟩) (ea ns) (ea ns) 30 3 (ia NR.cells ((X0 ns.reverse (Gu (S.take i))).map nR))::.row u N y 3 1 (Pa D)::.blk b9 24 [.int .i64 qv,.slice qA qn qc] (0,0)::.row qA qn qc 72 4 (ia TR.cells S)::.blk b6 78 [.slice none 0 0,.slice none 0 0] (0,0)::.blk b3 24 [.int .i64 p.v,.slice p.A p.n p.c] (0,0)::R) V) (λv _=>qn-(intOf v).toNat) ?_ ?_
 .exact⟨0,J' _,rfl,I⟩
 clear I;rintro ρ2 v w2 ⟨i,hi,rfl,I⟩;by_cases hlt:i<qn
 .obtain⟨x,hx⟩:=aa (l:=S) (k:=i) Z';have hxm:=N' hx;have hxo:=hsr x hxm;have hx2:=hSm x hxm;unfold Qd at hx2;rw[l',h'] at hx2;have hxs:x.m.size=n:=Z';have hxz:=hso.sz x hxm;have hxc:x.c=nR x.c.da:=hSc.nf x hxm;have hex:Si x.m.data.toList=Ha (Ac x.m):=by rw[Ek hx2.1,Fo]
  have hesl:(Ac x.m).length=n:=by rw[Vm];exact hxs
  have hel:(Si x.m.data.toList).length=n:=by rw[hex,Ub];exact hesl
  have hset:=rW hsr hSc.au hx;have hX0l:((X0 ns.reverse (Gu (S.take i))).map nR).length=ea ns:=by rw[D'];unfold X0;rw[ai,Cc]
  have hcell:ia TR.cells S=ia TR.cells S:=rfl;have hokat:∀(j d r:Nat),ns[j]?=some d->(Ac x.m)[j]?=some r->r<=d:=λj d r T hr=>by
   have hj:=(x'.1 T).1;refine((Vk _ _).1 hxo).2 (n-1-j) d r ?_ ?_
   .rw[z8 Z',show ns.length-1-(n-1-j)=j by omega];exact T
   rw[z8 Z',show(Ac x.m).length-1-(n-1-j)=j by omega];exact hr
  obtain⟨gq,rfl⟩:=I.kb (i:=4) rfl Z';refine fa ?_;refine sv (Ka (vs:=[_,_,_,_]) pa.out rfl (I.Wc (f:=TR.cells) (x:=x) (l:=S) (i:=4) rfl TR.len V' hx) rfl) ?_;refine yb ?_;intro b13 w13 I ws I;refine cr I (yi x.m _ hxz) ?_;intro A56 c56 w56 I;rw[hel,hex] at I;rw[hel];refine fa ?_;refine Fi 14 58 (λa v V=>∃(j z:Nat),j<=n/\v=.int .i64 j/\a=.int .i64 z/\z=Jc (ns.take j).reverse ((Ac x.m).take j).reverse/\z<ea (ns.take j)/\Hp w (.row A56 n c56 3 1 (Pa (Ha (Ac x.m)))::.blk b13 72 [.string x.m,.bool x.c.neg,.string x.c.Va,.int .i64 x.c.e] (0,0)::.blk b11 78 [.slice u N y,.slice (some ⟨b45,0,none⟩) (ea ns) (ea ns)] (0,0)::.row (some ⟨b45,0,none⟩) (ea ns) (ea ns) 30 3 (ia NR.cells ((X0 ns.reverse (Gu (S.take i))).map nR))::.row u N y 3 1 (Pa D)::.blk b9 24 [.int .i64 qv,.slice (some ⟨gq,0,none⟩) qn qc] (0,0)::.row (some ⟨gq,0,none⟩) qn qc 72 4 (ia TR.cells S)::.blk b6 78 [.slice none 0 0,.slice none 0 0] (0,0)::.blk b3 24 [.int .i64 p.v,.slice p.A p.n p.c] (0,0)::R) V) (λ_ v _=>n-(intOf v).toNat) ?_ ?_
  .exact⟨0,0,J' _,rfl,rfl,rfl,Nat.one_pos,I⟩
  clear I;rintro ρ3 a_ v w3 ⟨j,z,hj,rfl,rfl,hz,hz2,I⟩;by_cases hjn:j<n
  .obtain⟨d,T⟩:=aa (l:=ns) (k:=j) Z';obtain⟨r,hr⟩:=aa (l:=Ac x.m) (k:=j) Z';have hrd2:=hokat j d r T hr;have hd7:=h d (N' T);have hgD:(Pa D)[j]?=some (.int .i64 (d:Int)):=by rw[J];exact Ic (ue T)
   have hgE:=Ic (ue hr);have hst:=JQ T hr;have hcs:=lS T;rw[Cc,Cc] at hcs;rw[<-hz] at hst;have hct:=tg ns (j+1);have hnew:r+(d+1)*z<(d+1)*ea (ns.take j):=(by have:(d+1)*(z+1)<=(d+1)*ea (ns.take j):=D_ _ hz2;rw[o9] at this;omega);have hpr:(z:Int)*((d:Int)+1)=(((d+1)*z:Nat):Int):=by rw[V_,F9,V8];rfl
   have hDs:=hrd [_,_,_,_,_,_,_,_,_] _ I;obtain⟨ad,hMe,hsr2⟩:=hDs.at_ Z';have Qk:Value.slice M2 N o=.slice (some ad) N o:=by rw[hMe]
   have hel2:(Pa (Ha (Ac x.m))).length=n:=by rw[Cb,Ub];exact hesl
   obtain⟨gx,rfl⟩:=I.kb (i:=0) rfl Z';refine fa ?_;refine pI ?_;refine bK ?_;refine sv (Ba pa.out rfl (hsr2.Yr hgD)) ?_;refine fa ?_;rw[hpr];refine⟨⟨j+1,r+(d+1)*z,Z',rfl, ?_,hst.symm,Z',I⟩,by show n-(j+1)<n-j;omega, ?_⟩
   .show Value.int IntKind.i64 ((((d+1)*z:Nat):Int)+(r:Int))=_;rw[show(((d+1)*z:Nat):Int)+(r:Int)=((r+(d+1)*z:Nat):Int) by omega]
   exact Wb
  obtain rfl:j=n:=Z';rw[w' Z',w' Z'] at hz;rw[w' Z'] at hz2;rw[<-hz] at hset;generalize X0 ns.reverse (Gu (S.take i))=X at*;have hrl:=Wd NR.len (X.map nR);refine fa ?_;refine ZS ?_;refine Nr ?_;intro ws I;rw[hxc,show db (ia NR.cells (X.map nR)) (z*3) [.bool (nR x.c.da).neg,.string (nR x.c.da).Va,.int .i64 (nR x.c.da).e]=ia NR.cells ((X.map nR).set z (nR x.c.da)) from Jd NR.len Z',<-B9,hset] at I;refine fa ?_;replace I:=I.sub (G' _ (G' _ (O' _ (O' _ (O' _ (O' _ (O' _ (O' _ (O' _ (P_ _))))))))));refine⟨⟨i+1,Z',rfl,I⟩,by show qn-(i+1)<qn-i;omega, ?_⟩;exact Wb
 obtain rfl:i=qn:=Z';rw[w' Z',show X0 ns.reverse (Gu S)=Pq ns.reverse (Gu S) 0 from rfl] at I;have hoff:=lE hsr;have hXz:=kI (aaa (ds:=ns.reverse) hso.ok) (λd T=>h d (y8.1 T));have hnr:ns.reverse.length=n:=by rw[F_];omega
 refine fa ?_;replace I:=I.sub (O' _ (O' _ (O' _ (G' _ (G' _ (O' _ (O' _ (P_ _))))))));refine bf 82 (λv V=>∃(j:Nat)(A:Option Addr)(ac:Nat),j<=n/\v=.int .i64 j/\Hp w (.blk b11 78 [.slice u N y,.slice A (ea ns) ac] (0,0)::.row A (ea ns) ac 30 3 (ia NR.cells ((Pq ns.reverse (Gu S) j).map nR))::.row u N y 3 1 (Pa D)::.blk b6 78 [.slice none 0 0,.slice none 0 0] (0,0)::.blk b3 24 [.int .i64 p.v,.slice p.A p.n p.c] (0,0)::R) V) (λv _=>n-(intOf v).toNat) ?_ ?_
 .exact⟨0,_,_,J' _,rfl,I⟩
 clear I;rintro ρ4 v w4 ⟨j,A,ac,hj,rfl,I⟩;by_cases hjn:j<n
 .obtain⟨d,T⟩:=aa (l:=ns) (k:=j) Z';have hd7:=h d (N' T);have hrm:=aX T;have hol:(Pq ns.reverse (Gu S) j).length=ea ns:=by rw[ED,Cc]
  have hof:=λZ hs=>Ir M2 N o j d ns Z (by rw[<-J];exact hs) hmc2 Z' T h F;have hcn:ea ns=ea ((ns.drop (j+1)).reverse++d::(ns.take j).reverse):=by rw[<-hrm,Cc]
  have hli:=λZ P hS1=>YF 169 (ns.drop (j+1)).reverse (ns.take j).reverse d (d+1) (bp d (mg d 1 1)) A (ea ns) ac (440000+S.length+520*j) (Pq ns.reverse (Gu S) j) Z P hS1 hcn F (E' _) hd7 (hXz j) (λY E ec w2 hT2 hy hs=>vC E (d+1) ec d Y _ w2 hT2 hs rfl hd7 hy Z') (λY _=>by simp[bp]);have hM:=aba (M:=mg d 1 1) (A:=(ns.drop (j+1)).reverse) (B:=(ns.take j).reverse) (X:=Pq ns.reverse (Gu S) j) (hol.trans hcn);have hsu:=Us ns.reverse (Gu S) j;have hgd:ns.reverse.getD (ns.reverse.length-1-j) 0=d:=(by rw[X9,z8 Z',show ns.length-1-(ns.reverse.length-1-j)=j by omega,T];rfl);rw[hgd,show ns.reverse.length-1-j=(ns.drop (j+1)).reverse.length by rw[F_,F_,j_];omega] at hsu;rw[hol,<-hrm,<-hsu] at hM;rw[hM,Cc] at hli;refine fa ?_;refine ud 5 I ?_;refine dC (λ_ hj=>hof _ (hrd [_,_,_,_,_] _ hj.hp)) ?_;refine wb ?_;refine dn ?_;intro W I;refine Wi (hli _ (hT.hp I) (I.ma (i:=1) rfl)) ?_;rintro e_ w90 ⟨E,ec,rfl,h4⟩;refine FE ?_;intro I;refine Bb ?_;intro ws I;replace I:=I.sub (O' _ (O' _ (G' _ (O' _ (O' _ (O' _ (P_ _)))))));refine abe ?_;intro I;refine⟨⟨j+1,E,ec,Z',rfl,I⟩,by show n-(j+1)<n-j;omega, ?_⟩;exact Wb
 obtain rfl:j=n:=Z';rw[hnl,hbl] at hoff;rw[hoff] at I;refine X1 ?_;intro ws I;exact⟨⟨u,N,y,A,ea ns,ac,D,(An ns S).map nR⟩,⟨J,rfl,by show N<=100000;omega,by show ea ns<=1000000;omega⟩,rfl,I.sub (.cons _ (.cons_cons _ (.cons_cons _ (m_ _))))⟩
def aib(rest:List Value)(base:Nat)(t:TypeId)(n sz:Nat)(cs:List Value):VP:=λv W=>∃A c,v=.agg (.slice A n c::rest).toArray/\W.ownsRow base t sz (.slice A n c) n cs
def eP(p:PX)(b:List SR):FX:=Oo (Tb p.v p.ts) (An (Tb p.v p.ts) (Sc p (Na b)).2)
structure afN(D:List Nat)(X:List Dyadic):Prop where
 d12:D.length<=12
 d127:∀d∈D,d<=127
 nK:ea D<=200
 lx:X.length=ea D
 zx:∀x∈X,Sz 90000 x
def aaB(p q:PX)(b:List SR):CV:=⟨b.map SR.f,maxD [eP p b,eP q b],gi (maxD [eP p b,eP q b]) (eP p b),gi (maxD [eP p b,eP q b]) (eP q b)⟩
def qS(p q:PX)(b:List SR):Int:=if eg p b []≠0 then eg p b [] else if eg q b []≠0 then eg q b [] else qb [eP p b,eP q b]
def FX.is.afm{f:FX}{D:List Nat}{X:List Dyadic}(h:f.is D X)(M:f.at_ w):f.key=(Oo D X).key:=by
 unfold FX.key Oo;rw[h.ds,h.cs,(h.key M).1]
structure RV where
 k:Int
 s:SR
 at_:List NR
def RV0:RV:=⟨0,SR0,[]⟩
def RV.cells(R:RV)(A:Option Addr)(m c:Nat):List Value:=.int .i64 R.k::(SR.cells R.s++[.slice A m c])
def aeD(b:List SR)(k:Int):List NR:=b.mapIdx λi s=>cond (yh k i) s.f.hi s.f.lo
def Enc(eps:Dyadic)(p bu:Int):Nat->Nat->List CV->List SR->RV->Int->Int->Prop
 |_,_,[],_,R,k,e=>R=RV0/\k=0/\e=3
 |0,_,_::_,_,_,_,_=>False
 |f+1,n,c::st,l,R,k,e=>if bu<n then R=RV0/\k=0/\e=3 else c.ok/\
   if AP c.f c.g=0 then(lH c.f c.g p).ok/\
    if st=[] then R=⟨1,AY (l++[lH c.f c.g p]),[]⟩/\k=n/\e=0 else Enc eps p bu f (n+1) st (l++[lH c.f c.g p]) R k e
   else if acV c.g eps=0 then R=⟨2,SR0,aeD c.b (adU c.g eps)⟩/\k=n/\e=0
   else ∃(a:Nat)(s:SR),(∀v,qm c.b v->v=(a:Int))/\c.b[a]?=some s/\a<c.D.length/\Enc eps p bu f (n+1) (c.half a s false::c.half a s true::st) l R k e
def ahJ(p q:PX)(b:List SR)(eps:NR)(grid bu:Int)(f:Nat)(R:RV)(k e:Int):Prop:=
 if qS p q b≠0 then R=RV0/\k=0/\e=qS p q b else if eps.i.sign<=0 then R=RV0/\k=0/\e=1 else Enc eps.da grid bu f 1 [aaB p q b] [] R k e
def Gt(b:List SR)(h:Int):Option (List SR):=
 if h.fdiv 2<0 then none else(b[(h.fdiv 2).toNat]?).map λs=>(b.map SR.f).set (h.fdiv 2).toNat (s.f.half (nR s.f.lj) (decide (h % 2=1)))
def agF(b:List SR)(K:List Int):Option (List SR):=K.foldl (λo h=>o.bind (Gt · h)) (some b)
def Sz.lj{x y:Dyadic}(C:Sz k x)(hy:Sz k y):Sz (k+2) ((x+y)*ti (-1)):=((C.add hy).mul (show Sz 1 (ti (-1)) from⟨1,by decide+kernel,V'⟩)).mono Z'
def Kl.up{l:Nat}{a:NR}(h:Kl k a)(Q:k<=l):Kl l a:=⟨h.ok,h.sz.mono Q⟩
def aJ{d:List SR}{h:Int}(F:∀s∈b,s.fin k)(a:k+2<=3000000)(e:Gt b h=some d):(∀s∈d,s.fin (k+2))/\d.length=b.length:=by
 unfold Gt at e;split at e
 .cases e
 rcases K:b[(h.fdiv 2).toNat]? with _|s
 .rw[K] at e;cases e
 rw[K] at e
 cases e
 refine⟨λt S=> ?_,by rw[d_,D']⟩;have Y:=SR.Im (F s (N' K)) Z';obtain S|rfl:=R8 S
 .obtain⟨u,hu,rfl⟩:=B'.1 S;have:=SR.Im (F u hu) Z';exact⟨this.1.up Z',this.2.up Z'⟩
 have hm:Kl (k+2) (nR s.f.lj):=Kl.of (Sz.lj Y.1.sz Y.2.sz) a;unfold SR.half;split
 .exact⟨hm,Y.2.up Z'⟩
 exact⟨Y.1.up Z',hm⟩
def SR.at_(s:SR)(x:Dyadic):Dyadic:=s.lo.da+x*s.wid
def LF(i:Nat)(s:SR)(p:Addr)(M)(m c:Nat)(w:World)(E:m<=i)(hp:w.cell? p=some (.slice M m c)):Zc 62 #[.int .i64 i,.agg s.cells.toArray,.pointer (some p)] w s.lo.V:=by
 have I:=Hp.start w;refine Ca func62 ?_;exact abM
def Qy(i:Nat)(s:SR)(p:Addr)(M)(m c k:Nat)(t)(x:NR)(w)(S:Gc w)(K:s.fin k)(C:x.ok/\Sz k x.da)(hk:k<=1000000)(hm:m<=1000000)(J:Sl w M m 3 (ia NR.cells t))(G:t[i]?=some x)(hp:w.cell? p=some (.slice M m c)):Zc 62 #[.int .i64 i,.agg s.cells.toArray,.pointer (some p)] w (.agg #[.bool (nR (s.at_ x.da)).neg,.string (nR (s.at_ x.da)).Va,.int .i64 (nR (s.at_ x.da)).e]):=by
 have I:=Hp.start w;have q:=J.sa NR.len V';have E:i<m:=by have:=(x'.1 G).1;omega
 obtain⟨ad,rfl,H⟩:=J.at_ Z';have hw:=λZ P=>gk s k Z P K Z';have hmul:=λA B Z P N=>Td A 2 B [x,nR s.wid] Z P N (by simpa using⟨C.1,(SR.szw K).ok Z'⟩) (k+1) (by simpa[Ga] using⟨C.2.mono Z',SR.szw K⟩) Z' Z';have F:Re ([x,nR s.wid].map NR.da)=x.da*s.wid:=(by show 1*x.da*(nR s.wid).da=_;rw[Ga,x8]);rw[F] at hmul;have T:Sz (2*k+1) (x.da*s.wid):=(C.2.mul (SR.szw K)).mono Z';have a:=λA B Z P N=>zf A 2 B [s.lo,nR (x.da*s.wid)] Z P N (by simpa using⟨K.1.ok,T.ok Z'⟩) (2*k+1) (by simpa[Ga] using⟨K.1.sz.mono Z',T⟩) Z';have D:Vl ([s.lo,nR (x.da*s.wid)].map NR.da)=s.at_ x.da:=(by simp only[I_,R9,Ga,Sh];rfl);rw[D] at a;refine Ca func62 ?_;refine yb ?_;intro b4 w4 I b5 w5 I;refine Vz ?_;refine fa ?_;refine ud 10 I ?_;refine uo (λ_ hj=>(hj.hp.below.cell (Wl hp)).trans hp) ?_;refine nN ?_;refine Ma (i:=4) (λU Z hj hR=>vg Qa.out pa.size (show U 14=Value.slice _ _ _ from hR.1) (show U 15=Value.int _ _ from hR.2.1) Z' Z') ?_;refine Fj [_,_,_] (λ_ hj=>(H.ext hj.hp.below).recAt NR.len G) ?_;refine wb ?_;refine dC (λ_ hj=>hw _ (S.hp hj.hp)) ?_;refine Wp [_,_,_,_,_,_] ?_;refine Ja (i:=9) (Is (.agg #[.bool (nR (x.da*s.wid)).neg,.string (nR (x.da*s.wid)).Va,.int .i64 (nR (x.da*s.wid)).e])) Is.ext ?_ ?_
 .intro U Z hj hR;obtain⟨h,o,r,g⟩:=hR.1;exact ib rfl (La fi (qa r Wa)) (hmul h o _ (S.hp hj.hp) g) (λ_ _ R=>⟨_,R.1,R.2,rfl⟩)
 refine Fa ?_;intro f W Q l;obtain⟨v21,v20,v19,Y,X,L,z,y,v,u,_⟩:=l;obtain⟨h,o,b,f20⟩:Rows _ _ _ (f 8) W:=v20;replace I:=Q.hp;refine lg ?_;refine jr ?_;intro j w22 I;refine cd I (a _ _ _ (S.hp I) (I.ma (i:=0) rfl)) ?_;intro w23 I;refine oQ ?_;intro ws I;exact⟨rfl,I.below⟩
def ch(t:List NR)(i:Nat)(s:SR):NR:=match t[i]? with|none=>s.lo|some x=>nR (s.at_ x.da)
def FB(L)(n c:Nat)(b)(M)(m Y:Nat)(t)(k:Nat)(w)(S:Gc w)(J:Sl w L n 6 (ia SR.cells b))(F:∀s∈b,s.fin k)(z:Sl w M m 3 (ia NR.cells t))(o:∀x∈t,x.ok/\Sz k x.da)(B:n<=1000000)(hm:m<=1000000)(u:k<=1000000):Calls prog 18 #[.slice L n c,.slice M m Y] w λr V=>∃A c',r=.returned (.slice A n c')/\V.ownsRow w.heap.size 30 3 (.slice A n c') n (ia NR.cells (b.mapIdx λi s=>ch t i s.f))/\Below w.heap.size w V:=by
 have I:=Hp.start w;have l:=z.sa NR.len V';refine Ca func18 ?_;refine Bb ?_;intro j p I;refine Bu ?_;have q:p.cell? ⟨j,0,none⟩=some (.slice M m Y):=I.se (i:=0) rfl rfl;have g:∀(i:Nat)(s:SR)(Z:World),i<n->b[i]?=some s->Below p.heap.size p Z->Gc Z->Zc 62 #[.int .i64 i,.agg s.f.cells.toArray,.pointer (some ⟨j,0,none⟩)] Z (.agg #[.bool (ch t i s.f).neg,.string (ch t i s.f).Va,.int .i64 (ch t i s.f).e]):=λi s Z hi K a P=>by
  have hp:=(a.cell (Wl q)).trans q;unfold ch;rcases C:t[i]? with _|x
  .rw[Y5] at C;exact LF i s.f ⟨j,0,none⟩ M m Y Z Z' hp
  exact Qy i s.f ⟨j,0,none⟩ M m Y k t x Z P (SR.Im (F s (N' K)) Z') (o x (N' C)) u hm ((z.ext I.below).ext a) C hp
 refine cr I (Fm L n c b 62 [.pointer (some ⟨j,0,none⟩)] (λi s=>ch t i s.f) _ (S.hp I) (J.ext I.below) (λs h=>⟨(F s h).1.ok,(F s h).2.ok⟩) B g) ?_;intro v H y I;exact jE
def GW(n:Nat)(s1 D s2 a:Bool)(J b o c)(N d L e:Int)(w:World):(Op.equalIn (n+4) 36 (.agg #[.bool s1,.string J,.int .i64 N,.bool s2,.string o,.int .i64 L]) (.agg #[.bool D,.string b,.int .i64 d,.bool a,.string c,.int .i64 e])).run prog w=.ok (((s1==D && J==b) && N==d) && ((s2==a && o==c) && L==e)) w:=by
 have h1:=λ(x f:Bool) (y g:ByteArray) (z i:Int)=>tT (P:=prog) (cs:= #[.bool x,.string y,.int .i64 z,.bool f,.string g,.int .i64 i]) (vs:= #[.bool x,.string y,.int .i64 z]) (off:=0) (pa.out (P:=prog) (t:=30)) rfl;have h2:=λ(x f:Bool) (y g:ByteArray) (z i:Int)=>tT (P:=prog) (cs:= #[.bool x,.string y,.int .i64 z,.bool f,.string g,.int .i64 i]) (vs:= #[.bool f,.string g,.int .i64 i]) (off:=3) (pa.out (P:=prog) (t:=30)) rfl;rw[Op.equalIn];simp[run_underlying Tryz.underlying36,h1,h2,rT]
 cases h:((s1==D && J==b) && N==d)<;>cases S:((s2==a && o==c) && L==e)<;>simp_all
variable {O:Rf}{d:Option Nat}{ty u:TypeId}{pos:String}{af:Array Edge}{x y:Operand}{s:SR}
def DV{g:Option (Nat×Bool)}(C:ev O x=.agg s.cells.toArray)(hy:ev O y=.agg s.cells.toArray):(execOp (ev O) ⟨d,.binOp .neq 36 x y u,ty,pos,af,g⟩).run prog w=.ok (.value (.bool false)) w:=by
 refine adN ?_;intro J h1;simp[eqGuard,binOp,h1]
theorem xC(L)(n c:Nat)(b)(M)(Y:Nat)(w)(J:Sl w L n 6 (ia SR.cells b))(z:Sl w M n 6 (ia SR.cells b))(B:n<=1000000):Zc 79 #[.slice L n c,.slice M n Y] w (.bool true):=by
 refine XL ?_;(unhygienic intros)
 refine Ca func79 ?_;refine acp ?_;clear I;rintro ρ' v V ⟨i,hi,rfl,I⟩;by_cases D:i<n
 .obtain⟨s,K⟩:=aa (l:=b) (k:=i) Z';obtain⟨a,rfl,H⟩:=J.at_ Z';obtain⟨q,rfl,G⟩:=z.at_ Z';refine fa ?_;refine ud 8 I ?_;refine Ui (i) ?_;refine Fj [_,_,_,_,_,_] (λ_ hj=>(H.ext hj.hp.below).recAt SR.len K) ?_;refine wb ?_;refine Ui (i) ?_;refine Fj [_,_,_,_,_,_] (λ_ hj=>(G.ext hj.hp.below).recAt SR.len K) ?_;refine dn ?_;intro W I;refine ub rfl rfl V' (DV (s:=s) rfl rfl) ?_;skip;refine dY ?_;exact Wb
 refine fa ?_;exact⟨rfl,I.below⟩
def pZ(K:ZT):PX:=⟨1,none,0,0,zT K⟩
def pE:List SR:=[⟨⟨false,ByteArray.mk #[],0⟩,nR ((1:Int):Dyadic)⟩]
abbrev P1:ZT:=[([0],1)]
abbrev Q1:ZT:=[([0],1),([1],1)]
abbrev Q2:ZT:=[([1],1)]
abbrev Q3:ZT:=[([0], -1),([1],2)]
def rY:Dyadic:=((1:Int):Dyadic)*ti (-1)
def ahm:NR:=nR (((1:Int):Dyadic)*ti (-2))
def uG(l:List Int):List Dyadic:=l.map λz:Int=>(z:Dyadic)
def cA:CV:=⟨pE.map SR.f,[1],uG [1,1],uG [1,2]⟩
def cB:CV:=⟨pE.map SR.f,[1],uG [1,1],uG [0,1]⟩
def cC:CV:=⟨pE.map SR.f,[1],uG [1,1],uG [-1,1]⟩
def aac:SR:=⟨nR 0,nR ((1:Int):Dyadic)⟩
def cD:CV:=⟨[aac.f.half (nR aac.f.lj) false],[1],uG [1,1],uG [-1,0]⟩
def RA:RV:=⟨1,⟨nR rY,nR ((1:Int):Dyadic)⟩,[]⟩
def RB:RV:=⟨2,SR0,[nR ((0:Int):Dyadic)]⟩
def RC:RV:=⟨2,SR0,[nR rY]⟩
def lU{s:SR}{v:Int}(h:qm [s] v):v=((0:Nat):Int):=by
 obtain⟨h,_⟩|⟨m,t,h,A,_⟩:=h
 .cases h
 match m,h with
 |0,_=>exact A
structure Eg(P:ZT):Prop where
 b:zB P=true
 g:He (24+24+16394) (Tb 1 (zT P)) (24+1)<=440000
 f:afN (eP (pZ P) pE).ns ((eP (pZ P) pE).cs.map NR.da)
def agm(K:ZT):VP:=λv W=>∃p:PX,v=.agg #[.int .i64 p.v,.slice p.A p.n p.c]/\p.v=1/\p.ts=zT K/\p.at_ W/\p.n<=p.c/\p.n<=1000
def aeJ(R:RV):VP:=λv W=>∃g:Option Addr×Nat,v=.agg (R.cells g.1 1 g.2).toArray/\Sl W g.1 1 3 (ia NR.cells R.at_)
def afj(base:Nat)(R:RV)(k:Int):VP:=λx W=>∃(g:Option Addr×Nat×Nat)(Z:World),x=.tuple #[.agg (R.cells g.1 g.2.1 g.2.2).toArray,.int .i64 k,.int .i64 0]/\True/\base<=Z.heap.size/\Hp Z [.row g.1 g.2.1 g.2.2 30 3 (ia NR.cells R.at_)] W
def aeO(base:Nat)(R:RV):VP:=λx W=>∃(g:Option Addr×Nat×Nat)(Z:World),x=.agg (R.cells g.1 g.2.1 g.2.2).toArray/\True/\base<=Z.heap.size/\Hp Z [.row g.1 g.2.1 g.2.2 30 3 (ia NR.cells R.at_)] W
def lnX(A:Option Addr)(c:Nat)(B:Option Addr)(d:Nat)(a b:Int):FX:=⟨A,1,c,B,2,d,[1],[nR (a:Dyadic),nR (b:Dyadic)]⟩
def ahr(a:NR):Bool:=decide ((8:Int)<a.Va.size\/a.e< -60\/60<a.e)
def FX.small(f:FX):Prop:=f.Ug 124/\f.m<=60/\f.n<=20
abbrev fxL(l:List Int)(A:Option Addr)(a:Nat)(B:Option Addr)(b:Nat):FX:=⟨A,1,a,B,l.length,b,[(l.length:Int)-1],l.map λz:Int=>nR (z:Dyadic)⟩
def agy(ds:List Int)(cs:List NR):VP:=λv W=>∃g:FX,v=.agg #[.slice g.A g.n g.a,.slice g.B g.m g.b]/\g.ds=ds/\g.cs=cs/\g.at_ W
def aR(z:Int):NR:=nR (z:Dyadic)
def ad1(l:List Int):List SR:=l.map λz=>⟨nR 0,aR z⟩
def NU{ns:List Nat}{i d:Nat}(h:ns[i]?=some d):ns.reverse=(ns.drop (i+1)).reverse++d::(ns.take i).reverse:=by
 exact acS
def agc(d:Nat)(xs:List Dyadic)(i:Nat):Dyadic:=Bj xs (i+1)*(((i:Int)+1:Int):Dyadic)-Bj xs i*(((d:Int)-(i:Int):Int):Dyadic)
def ac6(d:Nat)(xs:List Dyadic):List Dyadic:=(List.range d).map (agc d xs)
abbrev aia:=afl
def ado(q:Nat->Bool)(xs:List Dyadic)(i:Nat):List Dyadic:=((List.range i).filter q).map λp=>(xs[p]?).getD 0
def adq(ap d:Nat)(p:Nat):Bool:=decide (p/ap % (d+1)<d)
def acU(ns:List Nat)(a:Nat):List Nat:=ns.set a (ns.getD a 0-1)
def afa(ns:List Nat)(a:Nat)(xs:List Dyadic):List Dyadic:=if ns.getD a 0=0 then List.replicate xs.length 0 else ado (adq (ea (ns.drop (a+1))) (ns.getD a 0)) (dj (ns.drop (a+1)).reverse (ns.getD a 0) (ns.getD a 0) (ac6 (ns.getD a 0)) xs xs.length 0) xs.length
def gaX(ds:List Nat)(X:List Dyadic):Nat->List Dyadic
 |0=>X
 |k+1=>ui ds (ds.length-1-k) (mg (ds.getD (ds.length-1-k) 0) 1 (-1)) (gaX ds X k)
def aeH(b:List SR)(i:Nat):Dyadic:=match b[i]? with|some s=>s.Vi-s.Tf|none=>0
def wP(b:List SR)(ns es:List Nat):Nat->Dyadic
 |0=>1
 |i+1=>wP b ns es i*aeH b i^(ns.getD i 0-es.getD i 0)
def aco(ns:List Nat)(p:Nat):List Nat:=(Ya ns.reverse p).reverse
def afX(b:List SR)(ns:List Nat)(C:List Dyadic)(p:Nat):TR:=⟨fX (Ha (aco ns p)),nR (Bj C p*wP b ns (aco ns p) b.length)⟩
def afI(b:List SR)(ns:List Nat)(C:List Dyadic):List TR:=(List.range (ea ns)).map (afX b ns C)
def acj(v i:Nat)(s:SR):List TR:=oa (QC v i++Nt v (-s.Tf))
def adf(b:List SR):List PX:=b.mapIdx λi s=>⟨b.length,none,0,0,acj b.length i s⟩
def afM(b:List SR)(ns:List Nat)(C:List Dyadic):PX:=⟨(ns.length:Int),none,0,0,oa (afI b ns C)⟩
def afe(L:FX):List Dyadic:=gaX L.ns.reverse (L.cs.map NR.da) L.ns.length
def acu(L:FX)(b:List SR):Int×List TR:=Sc (afM b L.ns (afe L)) (adf b)
def afH(L:FX)(b:List SR):Int:=if L.e≠0 then L.e else if Ok b≠0 then Ok b else if b.length≠L.n then 1 else(acu L b).1
def ahz(n k G:Nat)(ns:List Nat):Nat:=k+520*n+(1+n+(G+1)*ns.sum)
structure Marks(w0:World)(M:List Nat)(w:World):Prop where
 at_:∀D∈M,w0.heap.size<=D/\w.heap[D]?=some (.deferred (some []))
 nd:M.Nodup
def air(d:Nat)(t:Dyadic)(xs:List Dyadic)(i:Nat):Dyadic:=sm (List.range i) λr=>Bj xs r*Mi d r t
def afr(K q:Nat)(X:List Dyadic):List Dyadic:=(X.drop (q*K)).take K
def evE(L:FX)(m:Nat):Int:=if L.e≠0 then L.e else if m≠L.n then 1 else 0
def evV(L:FX)(C:List NR):Dyadic:=if evE L C.length=0 then sf L.ns.reverse (L.cs.map NR.da) (C.map NR.da).reverse else 0
variable {P:Program}{N:Nat}{Q:Kq}{ro:Option Nat}{D:List Deferred}
structure WR(ro:Option Nat)(D:List Deferred)(P:Program)(N:Nat)(ops:Array Oper)(Q:Kq)(fuel:Nat)(L:Array Bool)(O:Rf)(w:World):Prop where
 out:∀a,kg N D a O->∀n,wpAnyIn (FW ro) n P .any ops (Lf N D Q) fuel L a w
instance:pa prog 211 1 false 8 [.nilFunc]:={}
def afx(es:List UInt8)(z:Int):VP:=λv W=>∃g:Option Addr×Nat,v=.agg #[.int .i64 es.length,.slice g.1 1 g.2]/\1<=g.2/\Sl W g.1 1 4 (ia TR.cells [⟨str es,aR z⟩])
def smI(l:List Int):Bool:=l.all λz=>decide (z.natAbs<256)
def abF(es:List UInt8)(z:Int):PX:=⟨es.length,none,0,0,[⟨str es,aR z⟩]⟩
def isB(z:Int)(es:List UInt8)(bl ds l:List Int):Bool:=decide (z.natAbs<256/\es.length<=12/\eg (abF es z) (ad1 bl) ds=0/\An (ofN (abF es z) ds) (Sc (abF es z) (Na (ad1 bl))).2=l.map (λz:Int=>(z:Dyadic))/\He (124+124+16394) (Tb es.length [⟨str es,aR z⟩]) (124+1)<=440000) && smI bl && smI l
abbrev fZ(A:Option Addr)(a:Nat)(B:Option Addr)(b:Nat):FX:=⟨A,1,a,B,3,b,[2],[0,0,4].map aR⟩
def XU(a:NR):Bool:=decide (3<(a.Va.size:Int)\/a.e< -12\/12<a.e)
def wj(a b:SR):Dyadic:=Re [a.lo.da,b.hi.da]
def Ip(a b:SR):Int:=We (wj a b) (wj b a)
def tu(a:SR):Bool:=decide (a.lo.Va=ByteArray.mk #[])
def Mv{a:SR}(h:tu a=true):a.lo.da=0:=by
 have h1:a.lo.Va=ByteArray.mk #[]:=O9 h;unfold NR.da NR.i;rw[h1,show iv a.lo.neg (ByteArray.mk #[])=0 by cases a.lo.neg<;>rfl];simp
def eN{a b:SR}(M:tu a=true)(F:tu b=true):Ip a b=0:=by
 have e:∀x:Dyadic,Re [0,x]=0:=λx=>by show(1:Dyadic)*0*x=0;grind
 unfold Ip wj;rw[Mv M,Mv F,e,e,Jo]
def lu(a)(w):Zc 317 #[.agg (SR.cells a).toArray] w (.bool (tu a)):=by
 have I:=Hp.start w;by_cases h:a.lo.Va=ByteArray.mk #[]
 .refine Ca func317 ?_;refine Bb ?_;intro G Z I;refine SL ?_;refine fa ?_;exact⟨by unfold tu;rw[m' h],I.below⟩
 refine Ca func317 ?_;refine Bb ?_;intro G Z I;refine YL ?_;refine fa ?_;exact⟨by unfold tu;rw[k' h],I.below⟩
def vq(a:SR)(q:NR)(k:Nat)(w)(S:Gc w)(M:a.lo.ok)(R:q.ok)(Q:Sz k a.lo.da)(zq:Sz k q.da)(u:k<=1000000):Zc 318 #[.agg (SR.cells a).toArray,q.V] w (.agg (NR.cells (nR (Re [a.lo.da,q.da]))).toArray):=by
 have I:=Hp.start w;have hm:=λA B Z P N=>Td A 2 B [a.lo,q] Z P N (by simpa using⟨M,R⟩) k (by simpa using⟨Q,zq⟩) Z' Z';refine Ca func318 ?_;refine Am ?_;intro T b I j p I D y I;refine jr ?_;intro c o I;refine cd I (hm _ _ _ (S.hp I) (I.ma (i:=0) rfl)) ?_;exact aaD
structure Ux(k:Nat)(a:SR):Prop where
 n:a.lo.ok
 w:a.hi.ok
 zn:Sz k a.lo.da
 zw:Sz k a.hi.da
def aA{a b:SR}(M:Ux k a)(F:Ux k b):Sz (1+k*2) (wj a b):=Sz.prod (k:=k) (l:=[a.lo.da,b.hi.da]) (by simpa using⟨M.zn,F.zw⟩)
def cJ(a b)(k:Nat)(w)(S:Gc w)(M:Ux k a)(F:Ux k b)(u:k<=1000000):Zc 298 #[.agg (SR.cells a).toArray,.agg (SR.cells b).toArray] w (.int .i64 (Ip a b)):=by
 have I:=Hp.start w;have h1:=λZ P=>vq a b.hi k Z P M.n F.w M.zn F.zw u;have h2:=λZ P=>vq b a.hi k Z P F.n M.w F.zn M.zw u;have h:=(aA M F).ok Z';have v:=(aA F M).ok Z';have E:=λZ P=>Sd (nR (wj a b)) (nR (wj b a)) Z P h v;rw[Ga,Ga] at E;have o:=λx y=>eN (a:=a) (b:=b) x y;unfold Ip at o |-;rw[show Re [a.lo.da,b.hi.da]=wj a b from rfl] at h1;rw[show Re [b.lo.da,a.hi.da]=wj b a from rfl] at h2;have l:=λZ=>lu a Z;have r:=λZ=>lu b Z;generalize wj a b=x at*;generalize wj b a=y at*;refine Ca func298 ?_;refine yb ?_;intro q t I s z I;refine cd I (l _) ?_;intro B I
 cases T:tu a with
 |false=>
  refine fa ?_;refine ud 7 I ?_;refine dC (λ_ hj=>h1 _ (S.hp hj.hp)) ?_;refine wb ?_;refine Fa ?_;intro f W Q e;have c:=Q.bl;obtain⟨X,p,A,K,m,i,v11,_⟩:=e;replace I:=Q.hp;refine lg ?_;exact ad4
 |true=>
  refine fa ?_;refine cd I (r _) ?_;intro C I
  cases j:tu b with
  |false=>
   refine fa ?_;refine ud 7 I ?_;refine dC (λ_ hj=>h1 _ (S.hp hj.hp)) ?_;refine wb ?_;refine dn ?_;intro W I;exact ad4
  |true=>
   refine fa ?_;exact⟨by rw[o T j],I.below⟩
end Go.Proofs.YtbencocchdpikaaGreatDoor
