/- More lemmas. -/
import Derived.Test.YtbencocchdpikaaGreatDoorCards
import Derived.Test.YtbencocchdpikaaGreatDoorTie
import Derived.SevenTiedAt
import Derived.Test.YtbencocchdpikaaGreatDoorZ9
set_option linter.all false
set_option maxHeartbeats 0
namespace Go.Proofs.YtbencocchdpikaaGreatDoor
open Go.Proofs.Tryz
open Go.RowKit
def Nx(X:List PX)(tol:Dyadic)(g bu:Int):Nat->Nat->List SR->List ZV->Option (List ZV×Nat×Int)
 |_,n,[],l=>some (l,n,0)
 |0,_,_::_,_=>none
 |f+1,n,s::st,l=>if bu<(n+1:Nat) then some ([],0,3)
   else if Gk (Mj X [s])=true then Nx X tol g bu f (n+1) st l
   else if Le X [s]=true then Nx X tol g bu f (n+1) st (l++[⟨1,[s],Ph g (Mj X [s])⟩])
   else if s.hi.da-s.lo.da<tol then Nx X tol g bu f (n+1) st (l++[⟨2,[s],Ph g (Mj X [s])⟩])
   else Nx X tol g bu f (n+1) (s.f.half (nR s.f.lj) false::s.f.half (nR s.f.lj) true::st) l
variable {k:Nat}
def Fq{X:List PX}{b0:List SR}{tol:Dyadic}{g bu:Int}(h:Ow X b0)(G:X.length<=3)(sp:∀p∈X,NH p)(r:bu<=40):∀(f n:Nat)(st:List SR)(l R:List ZV)(k:Nat)(e:Int),Nx X tol g bu f n st l=some (R,k,e)->(∀s∈st,Zw X n [s])->Ro X tol g bu f n (st.map λs=>[s]) l R k e
 |f,n,[],l,R,k,e,o,_=>by
  have:some (l,n,(0:Int))=some (R,k,e):=by cases f<;>exact o
  simp only[g9,Prod.mk.injEq] at this;obtain⟨rfl,rfl,rfl⟩:=this
  cases f<;>exact⟨rfl,rfl,rfl⟩
 |0,n,s::st,l,R,k,e,o,_=>by cases o
 |f+1,n,s::st,l,R,k,e,o,F=>by
  rw[Nx] at o;rw[I_,Ro];by_cases h1:bu<(n+1:Nat)
  .rw[P' h1] at o |-;simp only[g9,Prod.mk.injEq] at o;obtain⟨rfl,rfl,rfl⟩:=o;exact⟨rfl,rfl,rfl⟩
  rw[Q' h1] at o |-;have i:=F s I';have b:∀c∈st,Zw X (n+1) [c]:=λc E=>(F c (L' _ E)).mono Z';refine⟨aab h G i Z' sp, ?_⟩;by_cases h2:Gk (Mj X [s])=true
  .rw[P' h2] at o |-;exact Fq h G sp r f _ _ _ _ _ _ o b
  rw[Q' h2] at o |-;by_cases z:Le X [s]=true
  .rw[P' z] at o |-;exact Fq h G sp r f _ _ _ _ _ _ o b
  rw[Q' z] at o |-;refine⟨0,s,λv A=>lU A,rfl, ?_⟩;by_cases P:s.hi.da-s.lo.da<tol
  .rw[P' P] at o |-;exact Fq h G sp r f _ _ _ _ _ _ o b
  rw[Q' P] at o |-;refine Fq h G sp r f _ (s.f.half (nR s.f.lj) false::s.f.half (nR s.f.lj) true::st) _ _ _ _ o λc E=> ?_;obtain rfl|E:=u'.1 E
  .exact i.half (a:=0) Z' rfl false
  obtain rfl|E:=u'.1 E
  .exact i.half (a:=0) Z' rfl true
  exact b c E
def nrB(a b:NR):Bool:=decide (a.neg=b.neg) && decide (a.Va=b.Va) && decide (a.e=b.e)
def DS{a b:NR}(h:nrB a b=true):a=b:=by
 obtain⟨n,m,e⟩:=a;obtain⟨r,N,L⟩:=b;unfold nrB at h;simp only[l',h'] at h;obtain⟨⟨rfl,rfl⟩,rfl⟩:=h;rfl
def srB(a b:SR):Bool:=nrB a.lo b.lo && nrB a.hi b.hi
def aan{a b:SR}(h:srB a b=true):a=b:=by
 obtain⟨l,u⟩:=a;obtain⟨n,A⟩:=b;unfold srB at h;rw[l'] at h;have h1:l=n:=DS h.1;have h2:u=A:=DS h.2;rw[h1,h2]
def fQ{α:Type}(f:α->α->Bool):List α->List α->Bool
 |[],[]=>true
 |a::l,b::m=>f a b && fQ f l m
 |_,_=>false
def BC{α:Type}{f:α->α->Bool}(Y:∀{a b},f a b=true->a=b):∀{l m:List α},fQ f l m=true->l=m
 |[],[],_=>rfl
 |a::l,b::m,h=>(by rw[fQ,l'] at h;rw[Y h.1,BC Y h.2])
def zvB(a b:ZV):Bool:=decide (a.k=b.k) && fQ srB a.b b.b && decide (a.r=b.r)
def aar{a b:ZV}(h:zvB a b=true):a=b:=by
 obtain⟨k,x,r⟩:=a;obtain⟨k2,n,c⟩:=b;unfold zvB at h;simp only[l',h'] at h;obtain⟨⟨rfl,h2⟩,rfl⟩:=h;rw[BC aan h2]
def tJ(o:Option (List ZV×Nat×Int))(R:List ZV)(k:Nat)(e:Int):Bool:=match o with
 |some x=>fQ zvB x.1 R && decide (x.2.1=k) && decide (x.2.2=e)
 |none=>false
def AX{o:Option (List ZV×Nat×Int)}{R:List ZV}{e:Int}(h:tJ o R k e=true):o=some (R,k,e):=by
 cases o with
 |none=>cases h
 |some x=>
  obtain⟨l,n,i⟩:=x;unfold tJ at h;simp only[l',h'] at h;obtain⟨⟨h1,rfl⟩,rfl⟩:=h;rw[BC aar h1]
def LG(K:ZT):PX:=⟨1,none,0,0,zT K⟩
def K1:ZT:=[([0], -1),([1],2)]
def K2:ZT:=[([0],1),([2],1)]
def K3:ZT:=[([2],1)]
def RE1:List ZV:=[⟨1,lF 0 2,bd 24⟩]
def RE3:List ZV:=[⟨2,[⟨nR (bd (-1)),nR (bd 0)⟩],bd 2⟩,⟨2,[⟨nR (bd 0),nR (bd 1)⟩],bd 2⟩]
def ev1:tJ (Nx [LG K1] (bd 2) 2 9 40 0 ((lF 0 2).map SR.f) []) RE1 1 0=true:=by decide+kernel
def ev2:tJ (Nx [LG K2] (bd 2) 2 9 40 0 ((lF 0 2).map SR.f) []) [] 1 0=true:=by decide+kernel
def ev3:tJ (Nx [LG K3] (bd 2) 2 20 40 0 ((lF (-1) 1).map SR.f) []) RE3 15 0=true:=by decide+kernel
def ev4:tJ (Nx [LG K3] (bd 2) 2 14 40 0 ((lF (-1) 1).map SR.f) []) [] 0 3=true:=by decide+kernel
def smK(K:ZT):Bool:=decide (K.length<=8) && zB K && K.all λx=>decide (x.1.length<=3) && x.1.all λc=>decide (c.toNat<=2)
def UU{K:ZT}(h:smK K=true)(p:PX)(hp:p.ts=zT K):NH p:=by
 unfold smK at h;simp only[l',h'] at h;obtain⟨⟨h1,h2⟩,G⟩:=h;have hm:∀t∈p.ts,t.m.size<=3/\∀c∈t.m.data.toList,c.toNat<=2:=λt S=>(by rw[hp] at S;obtain⟨x,C,rfl⟩:=B'.1 S;have z:=L_.1 G x C;simp only[l',h'] at z;refine⟨by show(str x.1).size<=3;rw[yg];exact z.1,λc E=> ?_⟩;replace E:c∈(str x.1).data.toList:=E;rw[vc] at E;simpa using L_.1 z.2 c E);refine⟨by rw[hp,zJ];exact h1,by rw[hp];exact(jz h2).1.mono V',λt S=>(hm t S).1,λt S=>(hm t S).2⟩
variable {b:List SR}{n:Nat}
def iB(a b:Int)(h: -100<=a/\a<=100/\ -100<=b/\b<=100):∀s∈lF a b,s.fin 36:=λs K=>by
 have e:∀n:Int, -100<=n/\n<=100->Kl 36 (nR (n:Dyadic)):=λn B=>(by have o:=(show Sz 24 ((n:Int):Dyadic) from Ga (n:Dyadic) ▸ ((jz (L:=[([],n)]) (by unfold zB;simp;omega)).1 ⟨str [],nR (n:Dyadic)⟩ I').2);exact Kl.of (o.mono V') V');rw[q'.1 K];exact⟨e a ⟨h.1,h.2.1⟩,e b h.2.2⟩
variable {m:Nat}{ts:List TR}
def qC{v:Int}{A B:Option Addr}{c d:Nat}(b:List SR):vt [(⟨v,A,n,c,ts⟩:PX)] b=vt [(⟨v,B,m,d,ts⟩:PX)] b:=by
 have e:eg (⟨v,A,n,c,ts⟩:PX) b []=eg (⟨v,B,m,d,ts⟩:PX) b []:=rfl;unfold vt;by_cases h:eg (⟨v,B,m,d,ts⟩:PX) b []=0
 .rw[show[(⟨v,A,n,c,ts⟩:PX)].find? (λp=>decide (eg p b []≠0))=none by simp[List.find?,e,h],show[(⟨v,B,m,d,ts⟩:PX)].find? (λp=>decide (eg p b []≠0))=none by simp[List.find?,h]];rfl
 rw[show[(⟨v,A,n,c,ts⟩:PX)].find? (λp=>decide (eg p b []≠0))=some ⟨v,A,n,c,ts⟩ by simp[List.find?,e,h],show[(⟨v,B,m,d,ts⟩:PX)].find? (λp=>decide (eg p b []≠0))=some ⟨v,B,m,d,ts⟩ by simp[List.find?,h]];exact e
variable {bu:Int}{tol:NR}
def Dq{v:Int}{ts:List TR}{A B:Option Addr}{n c m d:Nat}{tol:Dyadic}{g bu:Int}:∀(f i:Nat)(st:List (List SR))(l R:List ZV)(k e:Int),Ro [(⟨v,A,n,c,ts⟩:PX)] tol g bu f i st l R k e->Ro [(⟨v,B,m,d,ts⟩:PX)] tol g bu f i st l R k e
 |f,i,[],l,R,k,e,h=>by cases f<;>exact h
 |0,i,b::st,l,R,k,e,h=>h
 |f+1,i,b::st,l,R,k,e,h=>by
  rw[Ro] at h |-;have Y:Mj [(⟨v,B,m,d,ts⟩:PX)] b=Mj [(⟨v,A,n,c,ts⟩:PX)] b:=rfl;have C:Le [(⟨v,B,m,d,ts⟩:PX)] b=Le [(⟨v,A,n,c,ts⟩:PX)] b:=rfl;rw[Y,C];by_cases h1:bu<(i+1:Nat)
  .rw[P' h1] at h |-;exact h
  rw[Q' h1] at h |-;obtain⟨E,h⟩:=h;refine⟨⟨by rw[<-E.sq];exact qC b,λp hp=> ?_,E.bx,E.fd,E.sl,E.ln⟩, ?_⟩
  .rw[q'.1 hp];have P:=E.gr ⟨v,A,n,c,ts⟩ I';exact P
  by_cases h2:Gk (Mj [(⟨v,A,n,c,ts⟩:PX)] b)=true
  .rw[P' h2] at h |-;exact Dq f _ _ _ _ _ _ h
  rw[Q' h2] at h |-;by_cases G:Le [(⟨v,A,n,c,ts⟩:PX)] b=true
  .rw[P' G] at h |-;exact Dq f _ _ _ _ _ _ h
  rw[Q' G] at h |-;obtain⟨a,s,j,o,h⟩:=h;refine⟨a,s,j,o, ?_⟩;by_cases z:s.hi.da-s.lo.da<tol
  .rw[P' z] at h |-;exact Dq f _ _ _ _ _ _ h
  rw[Q' z] at h |-;exact Dq f _ _ _ _ _ _ h
def qU{v:Int}{A B:Option Addr}{c d:Nat}{g:Int}{f:Nat}{R:List ZV}{k e:Int}(h:Nk [(⟨v,A,n,c,ts⟩:PX)] b tol g bu f R k e):Nk [(⟨v,B,m,d,ts⟩:PX)] b tol g bu f R k e:=by
 unfold Nk at*;rw[qC (B:=A) (m:=n) (d:=c) b];by_cases h1:vt [(⟨v,A,n,c,ts⟩:PX)] b≠0
 .rw[P' h1] at h |-;exact h
 rw[Q' h1] at h |-;by_cases h2:tol.i.sign<=0
 .rw[P' h2] at h |-;exact h
 rw[Q' h2] at h |-;exact Dq _ _ _ _ _ _ _ h
structure EgZ(K:ZT)(a b:Int):Prop where
 sm:smK K=true
 iv: -100<=a/\a<=100/\ -100<=b/\b<=100
 sq:vt [LG K] (lF a b)=0
 gr:He (400+400+16394) (Tb 1 (zT K)) (400+1)<=440000
def eg1:EgZ K1 0 2:=⟨by decide+kernel,V',by decide+kernel,by decide+kernel⟩
def eg2:EgZ K2 0 2:=⟨by decide+kernel,V',by decide+kernel,by decide+kernel⟩
def eg3:EgZ K3 (-1) 1:=⟨by decide+kernel,V',by decide+kernel,by decide+kernel⟩
structure IsZ(K:ZT)(a b t bu:Int)(R:List ZV)(k e:Int):Prop where
 o:Nk [LG K] (lF a b) (nR (bd t)) 2 bu 40 R k e
def YA{K:ZT}{a b t:Int}{R:List ZV}{e:Int}(E:EgZ K a b)(S:0<(nR (bd t)).i.sign)(r:bu<=40)(h:tJ (Nx [LG K] (bd t) 2 bu 40 0 ((lF a b).map SR.f) []) R k e=true):IsZ K a b t bu R k e:=by
 refine⟨?_⟩;unfold Nk;rw[Q' (by rw[E.sq];decide),Q' Z',Ga];have c:=yp E.sq;have sp:∀p∈[LG K],NH p:=λp hp=>UU E.sm p (by rw[q'.1 hp];rfl);exact Fq c (by show 1<=3;decide) sp r 40 0 _ _ _ _ _ (AX h) λs g=>(by have h1:=Zw.first c (iB a b E.iv);obtain rfl:=q'.1 g;exact h1)
def Fx{K:ZT}{a b t:Int}{R:List ZV}{k:Int}{e:Int}(E:EgZ K a b)(D:IsZ K a b t bu R k e)(S: -100<=t/\t<=100)(F: -1000<=bu/\bu<=40)(p:PX)(L)(c:Nat)(B)(d:Nat)(w)(C:Gc w)(h:p.v=1)(M:p.ts=zT K)(hp:p.at_ w)(J:p.n<=p.c)(y:Sl w L 1 2 (ia PX.cells [p]))(u:Sl w B 1 6 (ia SR.cells (lF a b))):Calls prog 21 #[.slice L 1 c,.slice B 1 d,.agg #[.bool (nR (bd t)).neg,.string (nR (bd t)).Va,.int .i64 (nR (bd t)).e],.int .i64 2,.int .i64 bu] w λr V=>∃(G:Option Addr)(c':Nat)(xs:List ZX),r=.returned (.tuple #[.slice G xs.length c',.int .i64 k,.int .i64 e])/\xs.map ZX.v=R/\Sl V G xs.length 5 (ia ZX.cells xs)/\(∀x∈xs,Sl V x.x.A x.x.n 6 (ia SR.cells x.x.b))/\Below w.heap.size w V:=by
 have Q:=(show Sz 24 ((t:Int):Dyadic) from Ga (t:Dyadic) ▸ ((jz (L:=[([],t)]) (by unfold zB;simp;omega)).1 ⟨str [],nR (t:Dyadic)⟩ I').2);have T:Sz 27 (bd t):=(Q.mul (l:=3) (show Sz 3 (ti (-3)) from⟨1,by decide+kernel,V'⟩)).mono V';obtain⟨v,A,n,j,ts⟩:=p;replace h:v=1:=h;replace M:ts=zT K:=M;subst h M;have N:Ow [(⟨1,A,n,j,zT K⟩:PX)] (lF a b):=yp ((qC (lF a b)).trans E.sq);have sp:=UU E.sm ⟨1,A,n,j,zT K⟩ rfl;have m:=hp.ln;have f:=sp.n;refine(Tt L 1 c [⟨1,A,n,j,zT K⟩] B 1 d (lF a b) (nR (bd t)) 2 bu 40 2 R k e w C y V' (λp H=> ?_) (λ_ p H=> ?_) u V' (λs g=>⟨(iB a b E.iv s g).1.mono V',(iB a b E.iv s g).2.mono V'⟩) (λp H _=> ?_) (T.ok V') V' V' Z' Z' (qU D.o)).mono λr V ⟨G,c',xs,Y,h1,h2,q,z⟩=> ?_
 .rw[q'.1 H];exact⟨hp,by show n<=1000000;have:(zT K).length=n:=m;have:(zT K).length<=8:=f;omega,J,sp.ok,λt S=>d' (sp.sz t S) V'⟩
 .rw[q'.1 H];exact⟨rfl,sp.BT (N.fit _ I').e 100 V'⟩
 .rw[q'.1 H];exact E.gr
 refine⟨G,c',xs,h1,h2,z.ma (i:=0) rfl,λx P=> ?_,z.below⟩;exact ee (z.own _ (L' _ (q x P)))
def lnF(a b:Int):FX:=Oo [1] [(a:Dyadic),(b:Dyadic)]
def zR(a b:Int)(r:Bool)(A)(c:Nat)(B)(d:Nat)(L)(lc:Nat)(w)(S:Gc w)(R:Sl w A 1 1 (Pa [1]))(E:Sl w B 2 3 (ia NR.cells [nR (a:Dyadic),nR (b:Dyadic)]))(m:1<=c)(l:Sl w L 1 2 [.slice A 1 c,.slice B 2 d])(h1: -100<=a/\a<=100)(h2: -100<=b/\b<=100)(H:Nh [lnF a b]=r):Calls prog 59 #[.slice L 1 lc] w λq V=>q=.returned (.bool r)/\Below w.heap.size w V:=by
 have o:∀n:Int, -100<=n/\n<=100->Sz 24 ((n:Int):Dyadic):=λn p=>(show Sz 24 ((n:Int):Dyadic) from Ga (n:Dyadic) ▸ ((jz (L:=[([],n)]) (by unfold zB;simp;omega)).1 ⟨str [],nR (n:Dyadic)⟩ I').2);have h:=lk L 1 lc [⟨A,1,c,B,2,d,[1],[nR (a:Dyadic),nR (b:Dyadic)]⟩] 24 w S l V' (λf Y=>by
  rw[q'.1 Y];refine⟨⟨R,E⟩,⟨by show 1<=1000;decide,by show 2<=100000;decide,λx C=> ?_⟩,m⟩;obtain rfl|C:=u'.1 C
  .exact⟨(o a h1).ok V',by rw[Ga];exact o a h1⟩
  rw[q'.1 C];exact⟨(o b h2).ok V',by rw[Ga];exact o b h2⟩) V'
 have e:Nh [(⟨A,1,c,B,2,d,[1],[nR (a:Dyadic),nR (b:Dyadic)]⟩:FX)]=Nh [lnF a b]:=Tz rfl λi g k N j=>by
  cases i with
  |zero=>
   obtain rfl:=i' N;obtain rfl:=i' j;exact⟨rfl,rfl,rfl,rfl⟩
  |succ i=>cases N
 rw[e,H] at h;exact h
variable {Z:World}
def Dj{q p:World}(h:Below Z.heap.size Z q)(h2:Below q.heap.size q p):Below Z.heap.size Z p:=h.trans (h2.mono h.size)
def zr1:IsZ K1 0 2 2 9 RE1 (1:Nat) 0:=YA (k:=1) eg1 (by decide+kernel) V' ev1
def zr2:IsZ K2 0 2 2 9 [] (1:Nat) 0:=YA (k:=1) eg2 (by decide+kernel) V' ev2
def zr3:IsZ K3 (-1) 1 2 20 RE3 (15:Nat) 0:=YA (k:=15) eg3 (by decide+kernel) V' ev3
def zr4:IsZ K3 (-1) 1 2 14 [] (0:Nat) 3:=YA (k:=0) eg3 (by decide+kernel) V' ev4
def zr5:IsZ K3 (-1) 1 0 14 [] (0:Nat) 1:=⟨by
 unfold Nk;rw[Q' (by rw[eg3.sq];decide),P' (by decide+kernel)];exact⟨rfl,rfl,rfl⟩⟩
def JW:∀z∈RE1,z.b.length<=1000000:=by decide
def sV:∀z∈RE3,z.b.length<=1000000:=by decide
def pQ{xs:List ZX}{R:List ZV}(h:xs.map ZX.v=R)(hR:∀z∈R,z.b.length<=1000000):∀x∈xs,x.x.b.length<=1000000:=λx C=>hR x.v (by rw[<-h];exact W6 C)
variable {α:Type}
def oU{P:α->Prop}{a b:α}(M:P a)(F:P b):∀x∈[a,b],P x:=λx C=>by
 obtain rfl|C:=u'.1 C
 .exact M
 rw[q'.1 C];exact F
set_option maxRecDepth 100000 in
def jl(w)(S:Gc w):Zc 17 #[] w (.bool true):=by
 have I:=Hp.start w;refine Ca func17 ?_;refine fa ?_;refine te (Jl (-1) 2 0 K1 _ V' V' V' (by decide+kernel)) rfl ?_;rintro H w18 ⟨p1,A,a,rfl,G⟩;refine⟨_,rfl, ?_⟩;replace I:=I.join G;simp only[C',F'] at I;refine Dk ?_;intro b19 w19 I;refine te (th (0) 2 _ V' V') rfl ?_;rintro H w20 ⟨g1,rfl,G⟩;refine⟨_,rfl, ?_⟩;replace I:=I.join G;simp only[C',F'] at I;refine qz ?_;intro w21 I;refine te (Fx eg1 zr1 V' V' p1 _ _ _ _ _ (S.hp I) A a (I.ma (i:=2) rfl) (I.me (i:=2) rfl) (I.ma (i:=1) rfl) (I.ma (i:=0) rfl)) rfl ?_;rintro H h ⟨G1,c1,n,rfl,F,N,l,M⟩;refine⟨_,rfl, ?_⟩;have v:=Below.refl w.heap.size w;replace I:=I.ext M;replace S:=S.hp I;replace v:=Dj v I.below;replace I:=Hp.start h;refine fa ?_;refine te (Jl (1) 0 1 K2 _ V' V' V' (by decide+kernel)) rfl ?_;rintro H w27 ⟨p2,A,a,rfl,G⟩;refine⟨_,rfl, ?_⟩;replace I:=I.join G;simp only[C',F'] at I;refine Dk ?_;intro b28 w28 I;refine te (th (0) 2 _ V' V') rfl ?_;rintro H w29 ⟨g2,rfl,G⟩;refine⟨_,rfl, ?_⟩;replace I:=I.join G;simp only[C',F'] at I;refine qz ?_;intro w30 I
 refine te (Fx eg2 zr2 V' V' p2 _ _ _ _ _ (S.hp I) A a (I.ma (i:=2) rfl) (I.me (i:=2) rfl) (I.ma (i:=1) rfl) (I.ma (i:=0) rfl)) rfl ?_;rintro H L ⟨G2,c2,xs2,rfl,Q,hS2,hB2,M⟩;refine⟨_,rfl, ?_⟩;replace I:=I.ext M;replace S:=S.hp I;replace v:=Dj v I.below;replace N:=N.ext I.below;replace l:=λx C=>(l x C).ext I.below;skip;replace I:=Hp.start L;refine fa ?_;obtain rfl:=List.map_eq_nil_iff.1 Q;refine wU ?_;rintro H w36 ⟨p3,A,a,rfl,G⟩;refine⟨_,rfl, ?_⟩;replace I:=I.join G;simp only[C',F'] at I;refine Dk ?_;intro b37 w37 I;refine te (th ((-1)) 1 _ V' V') rfl ?_;rintro H w38 ⟨g3,rfl,G⟩;refine⟨_,rfl, ?_⟩;replace I:=I.join G;simp only[C',F'] at I;refine qz ?_;intro w39 I;refine te (Fx eg3 zr3 V' V' p3 _ _ _ _ _ (S.hp I) A a (I.ma (i:=2) rfl) (I.me (i:=2) rfl) (I.ma (i:=1) rfl) (I.ma (i:=0) rfl)) rfl ?_;rintro H j ⟨G3,c3,q,rfl,b,o,B,M⟩;refine⟨_,rfl, ?_⟩;replace I:=I.ext M;replace S:=S.hp I;replace v:=Dj v I.below;replace N:=N.ext I.below;replace l:=λx C=>(l x C).ext I.below;skip;replace I:=Hp.start j;refine fa ?_;refine wU ?_
 rintro H w45 ⟨p4,A,a,rfl,G⟩;refine⟨_,rfl, ?_⟩;replace I:=I.join G;simp only[C',F'] at I;refine Dk ?_;intro b46 w46 I;refine te (th ((-1)) 1 _ V' V') rfl ?_;rintro H w47 ⟨g4,rfl,G⟩;refine⟨_,rfl, ?_⟩;replace I:=I.join G;simp only[C',F'] at I;refine qz ?_;intro w48 I;refine te (Fx eg3 zr4 V' V' p4 _ _ _ _ _ (S.hp I) A a (I.ma (i:=2) rfl) (I.me (i:=2) rfl) (I.ma (i:=1) rfl) (I.ma (i:=0) rfl)) rfl ?_;rintro H k ⟨G4,c4,xs4,rfl,hx4,hS4,hB4,M⟩;refine⟨_,rfl, ?_⟩;replace I:=I.ext M;replace S:=S.hp I;replace v:=Dj v I.below;replace N:=N.ext I.below;replace l:=λx C=>(l x C).ext I.below;replace o:=o.ext I.below;replace B:=λx C=>(B x C).ext I.below;replace I:=Hp.start k;refine fa ?_;refine wU ?_;rintro H w54 ⟨p5,A,a,rfl,G⟩;refine⟨_,rfl, ?_⟩;replace I:=I.join G;simp only[C',F'] at I;refine Dk ?_;intro b55 w55 I;refine te (th ((-1)) 1 _ V' V') rfl ?_;rintro H w56 ⟨g5,rfl,G⟩;refine⟨_,rfl, ?_⟩;replace I:=I.join G;simp only[C',F'] at I;refine qd I (ng 0 _ V' V') rfl ?_;intro w57 I
 refine te (Fx eg3 zr5 V' V' p5 _ _ _ _ _ (S.hp I) A a (I.ma (i:=2) rfl) (I.me (i:=2) rfl) (I.ma (i:=1) rfl) (I.ma (i:=0) rfl)) rfl ?_;rintro H T ⟨G5,c5,xs5,rfl,hx5,hS5,hB5,M⟩;refine⟨_,rfl, ?_⟩;replace I:=I.ext M;replace S:=S.hp I;replace v:=Dj v I.below;replace N:=N.ext I.below;replace l:=λx C=>(l x C).ext I.below;replace o:=o.ext I.below;replace B:=λx C=>(B x C).ext I.below;replace I:=Hp.start T;refine fa ?_;have u:n.length=1:=by have:=Y_ List.length F;simpa[RE1] using this
 have d:q.length=2:=by have:=Y_ List.length b;simpa[RE3] using this
 rw[u] at N;rw[d] at o;refine qd I (ng (-1) _ V' V') rfl ?_;intro w62 I;refine qd I (ng 0 _ V' V') rfl ?_;intro w63 I;refine fa ?_;refine SK ?_;intro m w65 I;refine qz ?_;intro w66 I;refine fa ?_;refine qd I (ng 0 _ V' V') rfl ?_;intro w68 I;refine qd I (ng 1 _ V' V') rfl ?_;intro w69 I;refine fa ?_;refine SK ?_;intro t w71 I;refine qz ?_;intro w72 I;refine fa ?_;refine Sb I (cs:=[_,_,_,_,_,_,_,_,_,_]) Qa.out pa.out (Eb (Hd rfl) (Eb (Hd rfl) ae)) rfl rfl V' V' V' rfl V' ?_;intro r w74 I;refine fa ?_;refine te (th 0 2 _ V' V') rfl ?_;rintro H w76 ⟨g,rfl,G⟩;refine⟨_,rfl, ?_⟩;replace I:=I.join G;simp only[C',F'] at I;refine qd I (ng 24 _ V' V') rfl ?_;intro w77 I;refine fa ?_;refine DP ?_;intro R w79 I;rw[u,d]
 replace I:=show Hp T (.row (some ⟨R,0,none⟩) 1 1 60 5 (ia ZX.cells [⟨1,⟨some ⟨g,0,none⟩,1,1,lF 0 2⟩,bd 24⟩])::.row (some ⟨g,0,none⟩) 1 1 36 6 (ia SR.cells (lF 0 2))::.row (some ⟨r,0,none⟩) 2 2 60 5 (ia ZX.cells [⟨2,⟨some ⟨m,0,none⟩,1,1,[⟨nR (bd (-1)),nR (bd 0)⟩]⟩,bd 2⟩,⟨2,⟨some ⟨t,0,none⟩,1,1,[⟨nR (bd 0),nR (bd 1)⟩]⟩,bd 2⟩])::.row (some ⟨t,0,none⟩) 1 1 36 6 (ia SR.cells [⟨nR (bd 0),nR (bd 1)⟩])::.row (some ⟨m,0,none⟩) 1 1 36 6 (ia SR.cells [⟨nR (bd (-1)),nR (bd 0)⟩])::_) _ from I;refine qd I (Ul G1 (some ⟨R,0,none⟩) 1 c1 1 n [⟨1,⟨some ⟨g,0,none⟩,1,1,lF 0 2⟩,bd 24⟩] _ (N.ext I.below) (I.ma (i:=0) rfl) (F.trans rfl) (λx C=>(l x C).ext I.below) (λx C=>by rw[q'.1 C];exact I.ma (i:=1) rfl) (pQ F JW) V') rfl ?_;intro w80 I;refine fa ?_;refine qd I (Ul G3 (some ⟨r,0,none⟩) 2 c3 2 q [⟨2,⟨some ⟨m,0,none⟩,1,1,[⟨nR (bd (-1)),nR (bd 0)⟩]⟩,bd 2⟩,⟨2,⟨some ⟨t,0,none⟩,1,1,[⟨nR (bd 0),nR (bd 1)⟩]⟩,bd 2⟩] _ (o.ext I.below) (I.ma (i:=2) rfl) (b.trans rfl) (λx C=>(B x C).ext I.below) (oU (I.ma (i:=4) rfl) (I.ma (i:=3) rfl)) (pQ b sV) V') rfl ?_;intro p I;refine fa ?_
 refine te (uu (-1) 1 _ V' V') rfl ?_;rintro H s ⟨W,d1,Y,e1,rfl,G⟩;refine⟨_,rfl, ?_⟩;replace I:=I.join G;simp only[C',F'] at I;refine fa ?_;refine Dk ?_;intro c z I;refine fa ?_;refine qd I (zR (-1) 1 true W d1 Y e1 (some ⟨c,0,none⟩) 1 _ (S.hp I) (I.ma (i:=2) rfl) (I.ma (i:=1) rfl) (I.me (i:=2) rfl) (I.ma (i:=0) rfl) V' V' (by decide+kernel)) rfl ?_;intro D I;refine fa ?_;refine te (uu 1 1 _ V' V') rfl ?_;rintro H E ⟨X,d2,B2,e2,rfl,G⟩;refine⟨_,rfl, ?_⟩;replace I:=I.join G;simp only[C',F'] at I;refine fa ?_;refine Dk ?_;intro e J I;refine fa ?_;refine qd I (zR 1 1 false X d2 B2 e2 (some ⟨e,0,none⟩) 1 _ (S.hp I) (I.ma (i:=2) rfl) (I.ma (i:=1) rfl) (I.me (i:=2) rfl) (I.ma (i:=0) rfl) V' V' (by decide+kernel)) rfl ?_;intro K I;refine fa ?_;have y:=λZ=>lk none 0 0 [] 24 Z;refine fa ?_;refine qd I (y _ (S.hp I) (Sl.nil _ _ _) V' (λf hf=>absurd hf h_) V') rfl ?_;intro P I;refine fa ?_;exact⟨rfl,Dj v I.below⟩
def UD(x:SR×SR):Bool:=decide (x.1.hi.da<=x.2.lo.da)||decide (x.2.hi.da<=x.1.lo.da)
def apB(a b:List SR):Bool:=(a.zip b).any UD
def aaY{a:List SR}(h:Apart a b):apB a b=true:=by
 obtain⟨i,s,t,h1,h2,G⟩:=h;refine W9.2 ⟨(s,t),N' (i:=i) (by rw[T7];exact⟨h1,h2⟩), ?_⟩;simpa[UD] using G
def Cs{x y:Dyadic}(h:x<=y):¬y<x:=Dyadic.not_le.2 h
def Kz{x y:Dyadic}(h:¬x<=y):y<x:=Dyadic.not_lt.1 h
def oM{α β:Type}:∀{a:List α}{b:List β}{i:Nat},b.length<=i->(a.take i).zip b=a.zip b
 |[],_,_,_=>by simp
 |_::_,[],_,_=>by simp
 |_::_,_::_,0,h=>by simp at h
 |x::a,y::b,i+1,h=>by simp only[X7,List.zip_cons_cons];rw[oM (by simpa using h)]
def RE{α β:Type}:∀{a:List α}{b:List β}{i:Nat},a.length<=i->a.zip (b.take i)=a.zip b
 |[],_,_,_=>by simp
 |_::_,[],_,_=>by simp
 |_::_,_::_,0,h=>by simp at h
 |x::a,y::b,i+1,h=>by simp only[X7,List.zip_cons_cons];rw[RE (by simpa using h)]
def BD(L)(n c:Nat)(a)(M)(m c2:Nat)(b)(w)(e:Gc w)(hS:Sl w L n 6 (ia SR.cells a))(z:Sl w M m 6 (ia SR.cells b))(hn:n<=1000000)(hm:m<=1000000)(ha:∀s∈a,s.lo.ok/\s.hi.ok)(hb:∀s∈b,s.lo.ok/\s.hi.ok):Zc 25 #[.slice L n c,.slice M m c2] w (.bool (apB a b)):=by
 have I:=Hp.start w;have hln:=hS.sa SR.len V';have hlm:=z.sa SR.len V';unfold apB;refine Ca func25 ?_;refine fa ?_;refine bf 5 (λv V=>∃i:Nat,i<=n/\i<=m/\v=.int .i64 i/\((a.take i).zip (b.take i)).any UD=false/\Hp w [] V) (λv _=>n-(intOf v).toNat) ?_ ?_
 .exact⟨0,J' _,J' _,rfl,rfl,I⟩
 clear I;rintro ρ' v V ⟨i,hi,hi2,rfl,X,I⟩;by_cases hlt:i<n
 .by_cases hlt2:i<m
  .obtain⟨s,K⟩:=aa (l:=a) (k:=i) Z';obtain⟨t,S⟩:=aa (l:=b) (k:=i) Z';obtain⟨ad,rfl,H⟩:=hS.at_ Z';obtain⟨ad2,rfl,G⟩:=z.at_ Z';have hz:(a.take (i+1)).zip (b.take (i+1))=(a.take i).zip (b.take i)++[(s,t)]:=(by rw[ja K,ja S,List.zip_append (by simp;omega)];rfl);have T:(s,t)∈a.zip b:=N' (i:=i) (by rw[T7];exact⟨K,S⟩);obtain⟨s1,s2⟩:=ha s (N' K);obtain⟨t1,t2⟩:=hb t (N' S);have q:=λZ P=>Sd s.hi t.lo Z P s2 t1;have o:=λZ P=>Sd t.hi s.lo Z P t2 s1;by_cases j:s.hi.da<=t.lo.da
   .have y:We s.hi.da t.lo.da<=0:=(qp _ _).2 (Cs j);refine fa ?_;refine ud 23 I ?_;refine Ui (i) ?_;refine Wy ?_;refine nS ?_;refine wb ?_;refine Ui (i) ?_;refine Wy ?_;refine BP ?_;refine dC (λ_ hj=>q _ (e.hp hj.hp)) ?_;refine wb ?_;refine Fa ?_;intro f W Q r;have g:=Q.bl;obtain⟨v40,v39,v38,v37,v36,v35,v34,v33,v32,v31,v30,R,N,J,F,D,C,E,B,A,v20,x,Y,_⟩:=r;replace I:=Q.hp;refine lg ?_;refine fa ?_;have:(a.zip b).any UD=true:=W9.2 ⟨(s,t),T,by unfold UD;simp only[j,decide_true,Bool.true_or,Bool.or_true]⟩;exact⟨by rw[this],I.below⟩
   have y:¬We s.hi.da t.lo.da<=0:=λh=>(qp _ _).1 h (Kz j);by_cases p:t.hi.da<=s.lo.da
   .have u:We t.hi.da s.lo.da<=0:=(qp _ _).2 (Cs p);refine fa ?_;refine ud 23 I ?_;refine Ui (i) ?_;refine Wy ?_;refine nS ?_;refine wb ?_;refine Ui (i) ?_;refine Wy ?_;refine BP ?_;refine dC (λ_ hj=>q _ (e.hp hj.hp)) ?_;refine wb ?_;refine dG (Ui (i) ?_);refine wb ?_;refine dG (Fj [_,_,_] (λ_ hj=>((((G.ext hj.hp.below).recAt SR.len S).drop 3).take 3)) ?_);refine wb ?_;refine dG (Ui (i) ?_);refine wb ?_;refine dG (Fj [_,_,_] (λ_ hj=>((((H.ext hj.hp.below).recAt SR.len K).drop 0).take 3)) ?_);refine Fa ?_;intro f W Q r;have g:=Q.bl;obtain⟨v40,v39,v38,v37,v36,v35,v34,v33,v32,v31,v30,R,N,J,F,D,C,E,B,A,v20,x,Y,_⟩:=r;replace I:=Q.hp;refine lg ?_;refine fa ?_;refine cd I (o _ (e.hp I)) ?_;intro w41 I;refine fa ?_;have:(a.zip b).any UD=true:=W9.2 ⟨(s,t),T,by unfold UD;simp only[p,decide_true,Bool.true_or,Bool.or_true]⟩;exact⟨by rw[this],I.below⟩
   have u:¬We t.hi.da s.lo.da<=0:=λh=>(qp _ _).1 h (Kz p);refine fa ?_;refine ud 23 I ?_;refine Ui (i) ?_;refine Wy ?_;refine nS ?_;refine wb ?_;refine Ui (i) ?_;refine Wy ?_;refine BP ?_;refine dC (λ_ hj=>q _ (e.hp hj.hp)) ?_;refine wb ?_;refine dG (Ui (i) ?_);refine wb ?_;refine dG (Fj [_,_,_] (λ_ hj=>((((G.ext hj.hp.below).recAt SR.len S).drop 3).take 3)) ?_);refine wb ?_;refine dG (Ui (i) ?_);refine wb ?_;refine dG (Fj [_,_,_] (λ_ hj=>((((H.ext hj.hp.below).recAt SR.len K).drop 0).take 3)) ?_);refine dn ?_;intro W I;refine fa ?_;refine cd I (o _ (e.hp I)) ?_;intro w41 I;refine fa ?_;replace I:=I.sub Z_;refine⟨⟨i+1,Z',Z',rfl,by rw[hz,B8,X];simp[UD,j,p],I⟩,by show n-(i+1)<n-i;omega, ?_⟩;exact Wb
  rw[w' (l:=b) Z',oM Z'] at X;refine fa ?_;exact⟨by rw[X],I.below⟩
 rw[w' (l:=a) Z',RE Z'] at X;refine fa ?_;exact⟨by rw[X],I.below⟩
def HL{q:Nat}:∀(es:List Nat)(xs:List Dyadic),(∀x∈xs,Sz q x)->(∀e∈es,e<=2)->Sz (1+(1+q*2)*es.length) (Og es xs)
 |[],xs,_,_=>by cases xs<;>exact Sz.one.mono Z'
 |e::es,[],_,_=>Sz.one.mono Z'
 |e::es,x::xs,C,he=>((Sz.aam (C x I') (he e I')).mul (HL es xs (λy hy=>C y (L' _ hy)) λy hy=>he y (L' _ hy))).mono (by simp only[T_,n_];omega)
def sM{k q m:Nat}(xs)(C:∀x∈xs,Sz q x):∀(l:List TR),(∀t∈l,Sz k t.c.da)->(∀t∈l,t.m.size<=m/\∀c∈t.m.data.toList,c.toNat<=2)->Sz (k+(1+(1+q*2)*m)+l.length) (di xs l)
 |[],_,_=>Sz.zero _
 |t::l,u,hm=>by
  obtain⟨h1,h2⟩:=hm t I';have M:=HL (Ac t.m) xs C (λe he=>by
   unfold Ac at he;obtain⟨c,E,rfl⟩:=B'.1 he;exact h2 c E)
  have Q:(Ac t.m).length<=m:=by unfold Ac;rw[D'];exact h1
  have:=D_ (1+q*2) Q;exact(((u t I').mul M).mono (l:=k+(1+(1+q*2)*m)+l.length) Z').add (sM xs C l (λy hy=>u y (L' _ hy)) λy hy=>hm y (L' _ hy))
def afL(p:PX)(xs:List Dyadic):List TR:=oa (p.ts++Nt p.v.toNat (-(di xs p.ts)))
structure SmF(p:PX):Prop where
 n:p.ts.length<=5
 ok:ug 36 p.ts
 m:∀t∈p.ts,t.m.size<=3/\∀c∈t.m.data.toList,c.toNat<=2
def ahe(fs:List PX)(xs:List NR)(os:List PX):Prop:=∀(j:Nat)(o:PX),os[j]?=some o->∃p,fs[j]?=some p/\p.e=0/\p.v=(xs.length:Int)/\o.v=p.v/\o.ts=afL p (xs.map NR.da)
def GV{X:List PX}{g:Int}(G:X.length<=3)(sp:∀p∈X,NH p)(F:∀s∈b,s.fin 36)(r:bu<=35):∃R k e,Nk X b tol g bu 40 R k e:=by
 unfold Nk;by_cases h1:vt X b≠0
 .exact⟨[],0,vt X b,by rw[P' h1];exact⟨rfl,rfl,rfl⟩⟩
 by_cases h2:tol.i.sign<=0
 .exact⟨[],0,1,by rw[Q' h1,P' h2];exact⟨rfl,rfl,rfl⟩⟩
 have K:Ow X b:=yp (by simpa using h1);obtain⟨R,k,e,h⟩:=Rv (tol:=tol.da) (g:=g) (bu:=bu) K G sp Z' 40 0 [b.map SR.f] [] (λx C=>by rw[q'.1 C];exact Zw.first K F) Z' Z' Z';exact⟨R,k,e,by rw[Q' h1,Q' h2];exact h⟩
def OT{X:List PX}{g k e:Int}{R:List ZV}(h:Nk X b tol g bu 40 R k e)(he:e≠0):R=[]/\k=0:=by
 unfold Nk at h;split at h
 .exact⟨h.1,h.2.1⟩
 split at h
 .exact⟨h.1,h.2.1⟩
 exact Uq _ _ _ _ _ _ _ he h
def KJ{X:List PX}{g k:Int}{R:List ZV}(h:Nk X b tol g bu 40 R k 0):vt X b=0/\¬tol.i.sign<=0/\Ro X tol.da g bu 40 0 [b.map SR.f] [] R k 0:=by
 unfold Nk at h;by_cases h1:vt X b≠0
 .rw[P' h1] at h;exact absurd h.2.2.symm h1
 rw[Q' h1] at h;by_cases h2:tol.i.sign<=0
 .rw[P' h2] at h;exact absurd h.2.2 V'
 rw[Q' h2] at h;exact⟨by simpa using h1,h2,h⟩
def QQ{p:PX}(Q:b.length<=3)(sp:NH p)(h:Il p b (Ml p [])=0):He (400+400+16394) (Tb p.v p.ts) (400+1)<=440000:=by
 obtain⟨_,P⟩:=uC h;exact jA P.e (λt S c E=>d' (sp.ex t S c E) V') (d' (AL P.e sp.sz sp.ex) V') V'
def RQ{s:SR}{l:Nat}(h:s.fin k)(Q:k<=l):s.fin l:=⟨h.1.mono Q,h.2.mono Q⟩
def sT(b):nT b b:=⟨rfl,λi s z h1 h2=>by rw[h1] at h2;obtain rfl:=i' h2;constructor<;>grind⟩
def qq{X:List PX}{tol:Dyadic}{g bu:Int}:∀(f n:Nat)(st:List (List SR))(l R:List ZV)(k e:Int),Ro X tol g bu f n st l R k e->R.length<=l.length+f
 |f,n,[],l,R,k,e,h=>by
  have:R=l:=by cases f<;>exact h.1
  rw[this];omega
 |0,n,b::st,l,R,k,e,h=>absurd h id
 |f+1,n,b::st,l,R,k,e,h=>by
  rw[Ro] at h;by_cases F:bu<(n+1:Nat)
  .rw[P' F] at h;rw[h.1];exact J' _
  rw[Q' F] at h;replace h:=h.2;by_cases B:Gk (Mj X b)=true
  .rw[P' B] at h;have:=qq f _ _ _ _ _ _ h;omega
  rw[Q' B] at h;by_cases C:Le X b=true
  .rw[P' C] at h;have:=qq f _ _ _ _ _ _ h;rw[y',List.length_singleton] at this;omega
  rw[Q' C] at h;obtain⟨a,s,h1,h2,h⟩:=h;split at h
  .have:=qq f _ _ _ _ _ _ h;rw[y',List.length_singleton] at this;omega
  have:=qq f _ _ _ _ _ _ h;omega
def dQ{X:List PX}{g k e:Int}{R:List ZV}(h:Nk X b tol g bu 40 R k e):R.length<=40:=by
 unfold Nk at h;split at h
 .rw[h.1];exact J' _
 split at h
 .rw[h.1];exact J' _
 have:=qq _ _ _ _ _ _ _ h;simpa using this
def sL{g:Int}(C: -1000<=g)(D:g<=1000):∀(ds:List FD)(o:Dyadic),Sz 1002014 o->(∀d∈ds,Vt 47000 d)->Sz 1002014 (ds.foldl (So g) o)
 |[],_,W,_=>W
 |d::ds,o,W,h=>by
  rw[S8];refine sL C D ds _ ?_ λx a=>h x (L' _ a);have q:=h d I';have Y:=Jz (f:=Oo d.1 d.2) (k:=47000) (p:=g) ⟨⟨rfl,rfl⟩,q.d12,q.d127,q.lx,by have:=q.nK;omega,q.zx⟩ V' V' C D;have X:=Sz.Fe Y.1.sz;have r:=Sz.Fe Y.2.sz;unfold So;have:=ML (f:=λx y=>decide (y<x)) (l:=[o,Fe (ki d.2 d.1 g).lo.da,Fe (ki d.2 d.1 g).hi.da]) (by simp);obtain h|h:=u'.1 this
  .rw[h];exact W
  obtain h|h:=u'.1 h
  .rw[h];exact X
  rw[q'.1 h];exact r
def aau{a:List SR}(up:∀s∈a,s.lo.da<s.hi.da)(h:nT (b.map SR.f) a):Eo a b=true:=by
 have Q:a.length=b.length:=by rw[h.ln,D']
 unfold Eo;rw[l',h',L_];refine⟨Q,λx C=> ?_⟩;obtain⟨i,hi⟩:=C_.1 C;rw[T7] at hi;obtain⟨K,S⟩:=hi;obtain⟨h1,h2⟩:=h.inb i x.1 x.2.f K (by rw[z',S];rfl);have N:x.2.f.lo.da=x.2.Tf:=Ga _;have c:x.2.f.hi.da=x.2.Vi:=Ga _;rw[N] at h1;rw[c] at h2;have G:=up x.1 (N' K);rw[l'];unfold SR.has;exact⟨m' (by constructor<;>grind),m' (by constructor<;>grind)⟩
structure gU(fs:List PX)(b:List SR)(tol:Dyadic)(z:ZV):Prop where
 up:∀s∈z.b,s.lo.da<s.hi.da
 fin:∀s∈z.b,s.fin 140
 ln:z.b.length=fs.length
 wt:Eo z.b b=true
 kd:z.k=1\/z.k=2
 nw:z.k=2->∀s∈z.b,s.hi.da-s.lo.da<tol
 sz:Sz 1002014 z.r
 rs:∀pt,UZ pt z.b->∀p∈fs,Fe (di pt p.ts)<=z.r
 cr:∀p,fs=[p]->z.k=1->(nR (di (Vy z.b [nD 0]) p.ts)).i.sign*(nR (di (Vy z.b [nD 1]) p.ts)).i.sign= -1
def aV{fs:List PX}{tol:Dyadic}{g:Int}{z:ZV}(K:Ow fs b)(sp:∀p∈fs,NH p)(C: -1000<=g)(D:g<=1000)(h:iL fs (b.map SR.f) tol g z):gU fs b tol z:=by
 have w:=λp hp=>onP K h.ok V' hp (sp p hp);refine⟨h.ok.up,λs K=>RQ (h.ok.bx s K) V',h.ok.ln,aau h.ok.up h.wt,h.kd.imp And.left And.left,λh2=> ?_, ?_,λN hi p hp=> ?_,λp hp h1=> ?_⟩
 .obtain⟨k1,_⟩|⟨_,k2⟩:=h.kd
  .rw[k1] at h2;exact absurd h2 V'
  exact k2
 .rw[h.rs];refine sL C D _ _ (Sz.zero _) λd T=> ?_;obtain⟨p,hp,rfl⟩:=B'.1 T;exact(w p hp).z
 .rw[h.rs];exact rV hp (w p hp) hi
 subst hp;obtain⟨_,k1⟩|⟨k2,_⟩:=h.kd
 .exact XN (w p I') h.ok.ln k1
 rw[k2] at h1;exact absurd h1 V'
def aa1{X:List PX}{tol:Dyadic}{g k:Int}{R:List ZV}(h:Ro X tol g bu 40 0 [b] [] R k 0)(h2:k<=bu\/k=(0:Nat)):k<=bu:=by
 obtain h2|rfl:=h2
 .exact h2
 rw[Ro] at h;by_cases F:bu<(0+1:Nat)
 .rw[P' F] at h;exact absurd h.2.2 V'
 omega
def UN{X:List PX}{g k:Int}{R:List ZV}(h:Nk X b tol g bu 40 R k 0):Nk X b tol g (bu+3) 40 R k 0:=by
 obtain⟨h1,h2,G⟩:=KJ h;unfold Nk;rw[Q' (by simpa using h1),Q' h2];exact Ln (m:=3) 40 0 _ _ _ _ G
def TN{t:List NR}(F:∀s∈b,s.fin 140)(S:∀x∈t,Sz 8 x.da)(Q:t.length=b.length):∀y∈b.mapIdx (λi s=>ch t i s.f),y.ok/\Sz 150 y.da:=λy hy=>by
 obtain⟨i,hi⟩:=C_.1 hy;rw[Y9] at hi
 cases K:b[i]? with
 |none=>rw[K] at hi;cases hi
 |some s=>
  have c:=(x'.1 K).1;obtain⟨x,C⟩:=aa (l:=t) (k:=i) Z';rw[K] at hi;replace hi:ch t i s.f=y:=i' hi;unfold ch at hi;rw[C] at hi;replace hi:nR (s.f.at_ x.da)=y:=hi;have Y:=F s (N' K);have zx:=S x (N' C);have z:Sz 150 (s.f.at_ x.da):=(by unfold SR.at_ SR.wid;rw[SR.f_L,SR.f_H,show s.f.lo.da=s.Tf from Ga _];have X:Sz 149 (x.da*(s.Vi-s.Tf)):=zx.mul ((SR.szH Y).sub (SR.szL Y));exact((SR.szL Y).mono (show 140<=149 by decide)).add X);rw[<-hi,Ga];exact⟨z.ok V',z⟩
def YE(F:∀s∈b,s.fin 140)(k:Int):∀y∈b.mapIdx (λi s=>cond (yh k i) s.f.hi s.f.lo),y.ok/\Sz 150 y.da:=λy hy=>by
 obtain⟨i,hi⟩:=C_.1 hy;rw[Y9] at hi
 cases K:b[i]? with
 |none=>rw[K] at hi;cases hi
 |some s=>
  rw[K] at hi;replace hi:cond (yh k i) s.f.hi s.f.lo=y:=i' hi;have Y:=SR.Im (F s (N' K)) V';rw[<-hi]
  cases yh k i
  .exact⟨Y.1.ok,Y.1.sz.mono V'⟩
  exact⟨Y.2.ok,Y.2.sz.mono V'⟩
def YQ{p:PX}{ys:List NR}(e:p.e=0)(v:p.v=(ys.length:Int))(B:p.ts.length<=5)(u:ug 36 p.ts)(hm:∀t∈p.ts,t.m.size<=3/\∀c∈t.m.data.toList,c.toNat<=2)(hy:∀y∈ys,y.ok/\Sz 150 y.da):Mq p ys.length=0/\Tm p ys=nR (di (ys.map NR.da) p.ts)/\Sz 945 (di (ys.map NR.da) p.ts):=by
 obtain⟨h1,h2⟩:=PU e v;exact⟨h1,h2,(sM (k:=36) (q:=150) (m:=3) _ (λx C=>by obtain⟨y,a,rfl⟩:=B'.1 C;exact(hy y a).2) p.ts (λt S=>(u t S).2) hm).mono Z'⟩
variable {j:Nat}
def acv{R:α->α->Prop}{l:List α}{i:Nat}{x y:α}(h:l.Pairwise R)(hi:l[i]?=some x)(hj:l[j]?=some y)(D:i<j):R x y:=by
 obtain⟨h1,N⟩:=x'.1 hi;obtain⟨h2,L⟩:=x'.1 hj;rw[<-N,<-L];exact List.pairwise_iff_getElem.1 h i j h1 h2 D
def aaZ{a b:NR}(h:a.i.sign*b.i.sign= -1):(a.i.sign=1/\b.i.sign= -1)\/(a.i.sign= -1/\b.i.sign=1):=by
 have M:a.i.sign= -1\/a.i.sign=0\/a.i.sign=1:=by have:=Int.sign_trichotomy a.i;omega
 have F:b.i.sign= -1\/b.i.sign=0\/b.i.sign=1:=by have:=Int.sign_trichotomy b.i;omega
 obtain M|M|M:=M<;>obtain F|F|F:=F<;>rw[M,F] at h<;>first|(exact absurd h V')|omega
variable {cs:List Value}
def cj(n:Nat)(cs:List Value):VP:=λv W=>∃g:Option Addr×Nat,v=.slice g.1 n g.2/\Sl W g.1 n 3 cs
def cj.ext(v:Value)(w V)(h:cj n cs v w)(F:Below w.heap.size w V):cj n cs v V:=let⟨g,h1,h2⟩:=h;⟨g,h1,h2.ext F⟩
def Gs(L)(n c:Nat)(fs)(B)(m cb:Nat)(b)(tol:NR)(g bu:Int)(T)(mt d:Nat)(t)(w)(S:Gc w)(hL:Sl w L n 2 (ia PX.cells fs))(hf:∀p∈fs,p.at_ w/\p.n<=p.c)(hB:Sl w B m 6 (ia SR.cells b))(hg1: -9223372036854775808<=g)(hg2:g<=9223372036854775807)(a: -9223372036854775808<=bu)(hb2:bu<=9223372036854775807)(hS:Sl w T mt 1 (ig t))(ht:∀c∈t,c<256):Zc 5 #[.slice L n c,.slice B m cb,tol.V,.int .i64 g,.int .i64 bu,.slice T mt d] w (.bool true):=by
 have I:=Hp.start w;have hlb:b.length=m:=hB.sa SR.len V';have hln:fs.length=n:=hL.sa PX.len V';refine Ca func5 ?_;refine sr ?_;refine jC I [_,_,_] ?_;intro b8 w8 I;refine aB (na (xa (sr (mL ?_))));refine Wi (OC L n c fs _ (hL.ext I.below) (λp h=>(hf p h).1.ext I.below)) ?_;rintro e_ w32 ⟨v1,rfl,hv1,hb_⟩;refine⟨_,rfl, ?_⟩;replace I:=I.ext hb_
 cases v1 with
 |true=>
  refine mB ?_;refine gS (gS (gS (gS ?_)));refine qk V' rfl rfl V' ?_;refine gP ?_;exact acC
 |false=>
  obtain⟨hn3,D⟩:=hv1 rfl;refine mB (gT (mL (gT ?_)));refine rk I 0 [_,_,_] ?_;refine gT (mI (gT (mI ?_)));refine Oe rfl rfl ?_;refine Wi (oF B m cb b tol g bu _ (hB.ext I.below)) ?_;rintro e_ w38 ⟨v2,rfl,hv2,hb_⟩;refine⟨_,rfl, ?_⟩;replace I:=I.ext hb_
  cases v2 with
  |true=>
   refine FH ?_;exact acC
  |false=>
   obtain⟨hm3,hfin,tok,tsz,g1,g2,u2⟩:=hv2 rfl;have sp:∀p∈fs,NH p:=λp h=>⟨by have:=(D p h).1;omega,(D p h).2.1.mono V',λt ht=>((D p h).2.2 t ht).1,λt ht=>((D p h).2.2 t ht).2⟩;obtain⟨ZR,k,e,hZ⟩:=GV (tol:=tol) (g:=g) (bu:=bu) Z' sp hfin Z';have hzl:=dQ hZ;have Y:∀p∈fs,p.Ug 400:=λp h=>⟨by have:=(hf p h).1.ln;have:=(sp p h).n;omega,(hf p h).2,(sp p h).ok,λt ht=>d' ((sp p h).sz t ht) V'⟩;have hzc:=λbu2 (hb3: -9223372036854775808<=bu2) (hb4:bu2<=10000) k e (hZ:Nk fs b tol g bu2 40 ZR k e) Z P (hw:Below w.heap.size w Z)=>Tt L n c fs B m cb b tol g bu2 40 2 ZR k e Z P (hL.ext hw) hn3 (λp h=>⟨(hf p h).1.ext hw,Y p h⟩) (λhs o h=>⟨by rw[((yp hs).fit o h).v,(yp hs).ln,hln],(sp o h).BT ((yp hs).fit o h).e 100 V'⟩) (hB.ext hw) Z' (λs h=>RQ (hfin s h) V') (λo h h0=>QQ Z' (sp o h) h0) tok Z' Z' hb3 hb4 hZ;refine FH ?_;refine na (cF (Fb (Za (sr (mL (mL ?_))))));refine rk I 0 [_,_,_] (mI (mI ?_));refine te (hzc bu a Z' k e hZ _ (S.hp I) I.below) rfl ?_;rintro e_ w47 ⟨G,gc,xs,HR,rfl,J,hrx,h3⟩;refine⟨_,rfl, ?_⟩
   replace I:=(I.join h3).perm (.cons _ y7);simp only[C',F'] at I;have hxl:xs.length<=40:=by rw[<-J,D'] at hzl;exact hzl
   by_cases he:e=0
   .subst he;refine mT ?_;refine Jv ?_;refine Jv ?_;refine Jv ?_;refine aL (aI (aI (na (xa (sr (mI ?_))))));refine ZC (na (cF (Fb (Za (sr (mL (mL ?_)))))));refine rk I 1 [_,_,_] (mI (mI ?_));refine Gi ?_;refine te (hzc (bu+3) Z' Z' k 0 (UN hZ) _ (S.hp I) I.below) rfl ?_;rintro e_ E ⟨G2,gc2,ys,HR2,rfl,hys,hry,h3⟩;refine⟨_,rfl, ?_⟩;replace I:=(I.join h3).perm (.cons _ y7);simp only[C',F'] at I;have hyl:ys.length=xs.length:=by rw[<-D',hys,<-J,D']
    have hSA:=I.ma (i:=1) rfl;have hSY:=I.ma (i:=0) rfl;have r8:=I.fC (i:=2) rfl;have hSb:∀x∈xs,Sl _ x.x.A x.x.n 6 (ia SR.cells x.x.b):=λx h=>ee (I.own _ (show x.x.row∈_ by simp[hrx x h]));have hSc:∀x∈ys,Sl _ x.x.A x.x.n 6 (ia SR.cells x.x.b):=λx h=>ee (I.own _ (show x.x.row∈_ by simp[hry x h]));replace S:=S.hp I;have hbw:=I.below;replace hL:=hL.ext hbw;replace hB:=hB.ext hbw;replace hS:=hS.ext hbw;replace hf:=λp h=>(hf p h).1.ext hbw;replace I:=Hp.start E;obtain⟨hsq,hts,hzz⟩:=KJ hZ;have F:=yp hsq;obtain⟨hgo,hap, -,hkb⟩:=Bn (b0:=b.map SR.f) Z' 40 0 _ _ _ _ hzz (λx hx=>by rw[q'.1 hx];exact⟨Zw.first F hfin,sT _⟩) (λz h=>(nomatch h)) (by simp);replace hgo:=λz h=>aV F sp Z' Z' (hgo z h);replace hkb:=aa1 hzz hkb;have hsame:∀Z,Below E.heap.size E Z->Zc 23 #[.slice G xs.length gc,.slice G2 ys.length gc2] Z (.bool true):=λZ M=>(by rw[hyl] at hSY |-;exact Ul G G2 xs.length gc gc2 xs ys Z (hSA.ext M) (hSY.ext M) (J.trans hys.symm) (λx h=>(hSb x h).ext M) (λx h=>(hSc x h).ext M) (λx h=>by have h2:x.x.b.length=fs.length:=(hgo x.v (J ▸ W6 h)).ln;omega) Z');refine mT ?_;refine Jv ?_;refine Jv ?_;refine Jv ?_;refine aL (aI (aI (na (xa (sr (mI ?_))))));refine ZC (mB (gT (mI (gT (mI (gT ?_))))));refine ZC ?_;refine FH ?_;refine mB (gT (mI (gT (mI (gT ?_)))));refine Fu ?_;refine FH ?_;refine mB (gT (mL (gT (mL ?_))));refine Oe rfl rfl ?_;refine cd I (hsame _ I.below) ?_;intro w89 I;refine gT ?_;refine DC ?_;refine FH ?_;refine na (cF (Fb (Za (xa (sr (aI (na (td ?_))))))));refine bf 19 (λv V=>∃i:Nat,i<=xs.length/\v=.int .i64 i/\Hp E [] V) (λv _=>xs.length-(intOf v).toNat) ?_ ?_
    .exact⟨0,J' _,rfl,I⟩
    clear I;rintro ρ' v V ⟨i,hi,rfl,I⟩;by_cases hlt:i<xs.length
    .obtain⟨x,hxi⟩:=aa (l:=xs) (k:=i) hlt;obtain⟨ad,rfl,hr⟩:=hSA.at_ Z';have hxm:=N' hxi;have R:=hgo x.v (J ▸ W6 hxm);have u:=hSb x hxm;have hpw:∀(j:Nat)(y:ZX),xs[j]?=some y->j<i->apB x.x.b y.x.b=true:=λj y hy hj=>aaY (acv (j:=i) (y:=x.x.b) hap (by rw[<-J,z',z',hy];rfl) (by rw[<-J,z',z',hxi];rfl) hj).symm;obtain⟨k0,⟨xA,K,xc,N⟩,r⟩:=x;replace R:=show gU fs b tol.da ⟨k0,N,r⟩ from R;replace u:Sl E xA K 6 (ia SR.cells N):=u;replace hpw:∀(j:Nat)(y:ZX),xs[j]?=some y->j<i->apB N y.x.b=true:=hpw;have hxn:N.length=K:=u.sa SR.len V';have hx3:N.length=fs.length:=R.ln;have hxok:∀s∈N,s.lo.ok/\s.hi.ok:=λs h=>⟨(R.fin s h).1.ok,(R.fin s h).2.ok⟩;have hwi:=λZ P a=>Cy xA K xc N B m cb b 36 Z P (u.ext a) (hB.ext a) hxok hfin Z' Z' V';rw[show Eo N b=true from R.wt] at hwi;refine xa (sr (mI (mL (xi ?_))));refine Wg (na (cT (Fb (Za (xa (td (sr (mL (mI ?_)))))))));refine sv (pb (k:=i) Qa.out pa.size rfl rfl Z' Z') ?_
     refine sv (Ka (vs:=[_,_,_,_,_]) pa.out rfl ((hr.ext I.below).recAt ZX.len hxi) rfl) ?_;refine dv I ?_;intro yW w20 I;refine Ze I 0 [_,_,_,_,_] ?_;intro ws I;replace I:Hp _ (.blk _ _ [_,_,_,_,_] _::_) _:=I;refine na ?_;refine ko [12,102,103,104,105,106,107,108,109,110,111,112,113,114,115,116] (λV=>Hp E [.blk yW 60 [.int .i64 k0,.slice xA K xc,.bool (nR r).neg,.string (nR r).Va,.int .i64 (nR r).e] (0,0)] V) ?_ ?_
     .refine sr (Bm ?_);refine pj I 0 ?_;refine mL ?_;refine cd I (hwi _ (S.hp I) I.below) ?_;intro w105 I;rcases(show k0=1\/k0=2 from R.kd) with rfl|rfl
      .refine DC ?_;refine mB (gT (Bm (gT ?_)));refine pj I 0 ?_;refine gT ?_;refine ZC (gT (mB ?_));refine gV (gV (gV (gT ?_)));exact GY
      refine DC ?_;refine mB (gT (Bm (gT ?_)));refine pj I 0 ?_;refine gT ?_;refine ZC (gT (mB (gT (Bm (gT ?_)))));refine pj I 0 ?_;refine gT ?_;refine ZC (gT ?_);exact GY
     skip;rintro ρ' V I;refine xa (sr (aI (na (td ?_))));refine bf 21 (λv V=>∃j:Nat,j<=i/\v=.int .i64 j/\Hp E [.blk yW 60 [.int .i64 k0,.slice xA K xc,.bool (nR r).neg,.string (nR r).Va,.int .i64 (nR r).e] (0,0)] V) (λv _=>i-(intOf v).toNat) ?_ ?_
     .exact⟨0,J' _,rfl,I⟩
     clear I;rintro ρ' v V ⟨j,hj1,rfl,I⟩;by_cases hjl:j<i
     .obtain⟨y,hy⟩:=aa (l:=xs) (k:=j) Z';have hym:=N' hy;have Ry:=hgo y.v (J ▸ W6 hym);have hyn:y.x.b.length=y.x.n:=(hSb y hym).sa SR.len V';have hy3:y.x.b.length=fs.length:=Ry.ln;have hapc:=λZ P a=>BD xA K xc N y.x.A y.x.n y.x.c y.x.b Z P (u.ext a) ((hSb y hym).ext a) Z' Z' hxok (λs h=>⟨(Ry.fin s h).1.ok,(Ry.fin s h).2.ok⟩);rw[hpw j y hy hjl] at hapc;refine xa (sr (mI (mI ?_)));refine Wg (na (cT (Fb (Za (xa (td (xa ?_)))))));refine ud 7 I ?_;refine Ui (j) ?_;refine Wy ?_;refine uo (λ_ hj=>((hr.ext hj.hp.below).recAt ZX.len hy).cell (i:=1) (v:=.slice y.x.A y.x.n y.x.c) rfl) ?_;refine dn ?_;intro W I;refine cd I (hapc _ (S.hp I) I.below) ?_;intro w129 I;refine DC ?_;refine HM ?_;refine Gi (aI (Zi (Za ?_)));replace I:=I.sub (O' _ Z_);refine⟨⟨j+1,Z',rfl,I⟩,by show i-(j+1)<i-j;omega, ?_⟩;exact Wb
     refine xa (sr (mI (mI ?_)));refine Wg (na (cF (Xh (Ie (Ie (Ej (Za (xa (sr (aI (na (td ?_))))))))))));refine Gq [12,22,131,132,133,134,135,136,137,138,139,140,141,142,143,144,145,146,147,148,149,150,151,152,153,154,155,156,157,158] 22 (λ_ V=>Hp E [.blk yW 60 [.int .i64 k0,.slice xA K xc,.bool (nR r).neg,.string (nR r).Va,.int .i64 (nR r).e] (0,0)] V) ?_ ?_
     .refine bf 22 (λv V=>∃j:Nat,j<=K/\v=.int .i64 j/\Hp E [.blk yW 60 [.int .i64 k0,.slice xA K xc,.bool (nR r).neg,.string (nR r).Va,.int .i64 (nR r).e] (0,0)] V) (λv _=>K-(intOf v).toNat) ?_ ?_
      .exact⟨0,J' _,rfl,I⟩
      clear I;rintro ρ' v V ⟨q,hq,rfl,I⟩;by_cases hql:q<K
      .rcases(show k0=1\/k0=2 from R.kd) with rfl|rfl
       .refine xa (sr (mI (Bm ?_)));refine pj I 0 ?_;refine xi ?_;refine Wg (mB (gT (Bm (gT ?_))));refine pj I 0 ?_;refine gT ?_;refine Ct ?_;refine gP ?_;refine na (cF (Xh (Ie (Ie (Ej (Za ?_))))));refine⟨I, ?_⟩;exact Wb
       obtain⟨s,hs⟩:=aa (l:=N) (k:=q) Z';obtain⟨adx,rfl,hrx⟩:=u.at_ Z';have D:=N' hs;have hf1:=R.fin s D;have hnw:s.hi.da-s.lo.da<tol.da:=R.nw rfl s D;have hsu:=λZ P=>Lj s.hi s.lo Z P hf1.2.ok hf1.1.ok 140 hf1.2.sz hf1.1.sz V';have zs:Sz 141 (s.hi.da-s.lo.da):=hf1.2.sz.sub hf1.1.sz;have hcm:=λZ P=>Sd (nR (s.hi.da-s.lo.da)) tol Z P (zs.ok V') tok;rw[Ga,Zl hnw] at hcm;refine xa (sr (mI (Bm ?_)));refine pj I 0 ?_;refine xi ?_;refine Wg (mB (gT (Bm (gT ?_))));refine pj I 0 ?_;refine gT ?_;refine Ct ?_;refine gP ?_;refine na (cT (Fb (Za (xa (td (xa ?_))))));refine ud 14 I ?_;refine Ui (q) ?_;refine Wy ?_;refine Fj [_,_,_] (λ_ hj=>((((hrx.ext hj.hp.below).recAt SR.len hs).drop 3).take 3)) ?_;refine wb ?_;refine Ui (q) ?_;refine Wy ?_;refine Fj [_,_,_] (λ_ hj=>((((hrx.ext hj.hp.below).recAt SR.len hs).drop 0).take 3)) ?_;refine dC (λ_ hj=>hsu _ (S.hp hj.hp)) ?_;refine Fj [_,_,_] (λ_ hj=>(r8.ext hj.hp.below)) ?_;refine dn ?_;intro W I;refine cd I (hcm _ (S.hp I)) ?_;intro w157 I;refine Ny (na (cF (Fb (Ep (Za (Hb (mI ?_)))))));refine Gi (aI (Zi (Za ?_)))
       refine⟨⟨q+1,Z',rfl,I⟩,by show K-(q+1)<K-q;omega, ?_⟩;exact Wb
      refine xa (sr (mI (Bm ?_)));refine pj I 0 ?_;refine xi ?_;refine Wg (mB ?_);refine gS (gS (gS ?_));refine FH ?_;refine na (cF (Xh (Ie (Ie (Ej (Za ?_))))));refine⟨I, ?_⟩;exact Wb
     skip;rintro ρ' _ V I;have hpp:∀x∈(List.range K).map λi=>nR (EA t i),x.ok/\Sz 140 x.da:=λx hx=>(by obtain⟨i,hi,rfl⟩:=B'.1 hx;have hz:=(KB t ht i).1.mono (l:=140) V';exact⟨hz.ok V',by rw[Ga];exact hz⟩);have hps:=TN R.fin (t:=(List.range K).map λi=>nR (EA t i)) (λx hx=>by
      obtain⟨i,hi,rfl⟩:=B'.1 hx;rw[Ga];exact(KB t ht i).1) (by rw[D',V9];exact hxn.symm)
     have hpl:(N.mapIdx λi s=>ch ((List.range K).map λi=>nR (EA t i)) i s.f).length=K:=by rw[q8];exact hxn
     have hpv:=eU (b:=N) (t:=(List.range K).map λi=>nR (EA t i)) (by rw[D',V9];exact hxn.symm);have hT8:∀y∈((List.range K).map λi=>nR (EA t i)).map NR.da,0<=y/\y<1:=λy hy=>(by obtain⟨z,hz,rfl⟩:=B'.1 hy;obtain⟨i,hi,rfl⟩:=B'.1 hz;rw[Ga];exact(KB t ht i).2);have hin:UZ ((N.mapIdx λi s=>ch ((List.range K).map λi=>nR (EA t i)) i s.f).map NR.da) N:=⟨_,by rw[D',D',V9];exact hxn.symm,hT8,hpv.symm⟩;have hpc:=λA c2 Z P a Q=>FB xA K xc N A K c2 ((List.range K).map λi=>nR (EA t i)) 140 Z P (u.ext a) R.fin Q hpp Z' Z' V';generalize (N.mapIdx λi s=>ch ((List.range K).map λi=>nR (EA t i)) i s.f)=X at*;refine xa ?_;refine ud 7 I ?_;refine Ja (i:=6) (Iu V.heap.size 30 K 3 (ia NR.cells ((List.range K).map λi=>nR (EA t i)))) (Iu.ext) ?_ ?_
     .intro U Z hj hR;exact ib rfl (La fi (qa (show U 161=Value.slice _ _ _ from hR.1) (qa (show U 164=Value.int _ _ from hR.2.1) Wa))) (yO T mt d K t Z (S.hp hj.hp) (hS.ext hj.hp.below) ht Z') (λ_ _ ⟨A,c,hq,h3⟩=>⟨_,hq,h3.below,A,c,rfl,El (h3.own _ I') hj.bl.size⟩)
     refine Fa ?_;intro f W hJ hV;obtain⟨v165,v164,v163,v162,v161,v160,v159,_⟩:=hV;obtain⟨A165,c165,e165,o165⟩:Iu _ _ _ _ _ (f 6) W:=v165;replace I:=JJ.XI I hJ.hp o165;refine lg ?_;refine cr I (hpc A165 c165 _ (S.hp I) I.below (I.ma (i:=0) rfl)) ?_;intro A166 c166 w166 I;refine aL (na (xa (sr (aI (na (td ?_))))));replace I:=I.sub (O' _ (G' _ (O' _ Z_)));refine bf 24 (λv V=>∃j:Nat,j<=n/\v=.int .i64 j/\Hp E [.row A166 K c166 30 3 (ia NR.cells X),.blk yW 60 [.int .i64 k0,.slice xA K xc,.bool (nR r).neg,.string (nR r).Va,.int .i64 (nR r).e] (0,0)] V) (λv _=>n-(intOf v).toNat) ?_ ?_
     .exact⟨0,J' _,rfl,I⟩
     clear I;rintro ρ' v V ⟨j,hj1,rfl,I⟩;by_cases hjl:j<n
     .obtain⟨p,hp⟩:=aa (l:=fs) (k:=j) Z';obtain⟨adl,rfl,hrl⟩:=hL.at_ Z';have H:=N' hp;have hpv:p.v=(b.length:Int):=(F.fit p H).v;have hbf:=F.ln;obtain⟨E1,E2,E3⟩:=YQ (p:=p) (ys:=X) (F.fit p H).e Z' (D p H).1 (D p H).2.1 (D p H).2.2 hps;have hrs:=R.rs _ hin p H;have Qk:=λZ P a Q=>Oj p X A166 K c166 150 Z P ((hf p H).ext a) ⟨(Y p H).n,(Y p H).cap,(D p H).2.1.mono V',(Y p H).sz⟩ Q hpl hps V';rw[hpl] at E1;rw[E1,E2] at Qk;replace hrs:Fe (di (X.map NR.da) p.ts)<=r:=hrs;generalize di (X.map NR.da) p.ts=C at*;have zA:=Sz.Fe E3;have hok:=E3.ok (show 945<=3999990 by decide);have hab:=λZ P=>Fp (nR C) Z P (by have:=hok.1;omega) (by have:=hok.2.1;omega) (by have:=hok.2.2;omega);rw[Ga] at hab;rw[show(if C<0 then -C else C)=Fe C from rfl] at hab;have hcm:=λZ P=>Sd (nR (Fe C)) (nR r) Z P (zA.ok V') (R.sz.ok V');rw[Ga,Ga] at hcm;have hle:=(qp _ _).2 (Cs hrs);generalize We (Fe C) r=cv at*;refine xa (sr (mI (mL (xi ?_))));refine Wg (na (cT (Fb (Za (xa (td (sr (mL (mI ?_)))))))));refine sv (pb (k:=j) Qa.out pa.size rfl rfl Z' Z') ?_
      refine sv (Ka (vs:=[_,_]) pa.out rfl ((hrl.ext I.below).recAt PX.len hp) rfl) ?_;refine mL ?_;refine cd I (Qk _ (S.hp I) I.below (I.ma (i:=0) rfl)) ?_;intro w179 I;refine mT ?_;refine Jv ?_;refine Jv ?_;refine dv I ?_;intro b25 w25 I;refine Ze I 0 [_,_,_] ?_;intro ws I;replace I:Hp _ (.blk _ _ [_,_,_] _::_) _:=I;refine aI (na (xa ?_));refine ud 7 I ?_;refine Zh (i:=4) rfl (λU Z hj hR=>(show U 184=Value.bool _ from hR.2.1)) (λU Z hj hR=>La fi (qa (show U 185=Value.agg (List.toArray _) from hR.1) Wa)) (λZ hj=>hab _ (S.hp hj.hp)) ?_;refine wb ?_;refine dn ?_;intro W I;refine Oe rfl rfl ?_;refine cd I (hcm _ (S.hp I)) ?_;intro w189 I;refine gT ?_;refine Fu ?_;refine FH ?_;refine HM ?_;refine Gi (aI (Zi (Za ?_)));replace I:=I.sub (G' _ (O' _ (O' _ Z_)));refine⟨⟨j+1,Z',rfl,I⟩,by show n-(j+1)<n-j;omega, ?_⟩;exact Wb
     by_cases hn1:n=1
     .rcases(show k0=1\/k0=2 from R.kd) with rfl|rfl
      .subst hn1;obtain⟨p,rfl⟩:=List.length_eq_one_iff.1 hln;have H:p∈[p]:=I';have h0:[p][0]?=some p:=rfl;have hcr:=R.cr p rfl rfl;have hx1:N.length=1:=hx3;obtain⟨adl,rfl,hrl⟩:=hL.at_ Z';have hpv:p.v=(b.length:Int):=(F.fit p H).v;have hbf:b.length=1:=F.ln;have c0:=HJ (b:=N) (k:=0) Z';have c1:=HJ (b:=N) (k:=1) Z';rw[hx1] at c0 c1;replace c0:_=Vy N [nD 0]:=c0;replace c1:_=Vy N [nD 1]:=c1;have z0:=YE R.fin 0;have z1:=YE R.fin 1;have hc0:=λZ P a=>ep xA K xc N 0 Z P (u.ext a) hxok Z';have hc1:=λZ P a=>ep xA K xc N 1 Z P (u.ext a) hxok Z';have l0:(N.mapIdx λi s=>cond (yh 0 i) s.f.hi s.f.lo).length=K:=by rw[q8];exact hxn
       have l1:(N.mapIdx λi s=>cond (yh 1 i) s.f.hi s.f.lo).length=K:=by rw[q8];exact hxn
       replace c0:(N.mapIdx λi s=>cond (yh 0 i) s.f.hi s.f.lo).map NR.da=Vy N [nD 0]:=c0;replace c1:(N.mapIdx λi s=>cond (yh 1 i) s.f.hi s.f.lo).map NR.da=Vy N [nD 1]:=c1;rw[<-c0,<-c1] at hcr;generalize (N.mapIdx λi s=>cond (yh 0 i) s.f.hi s.f.lo)=Y0 at*;generalize (N.mapIdx λi s=>cond (yh 1 i) s.f.hi s.f.lo)=Y1 at*;have lp:p.Ug 150:=⟨(Y p H).n,(Y p H).cap,(D p H).2.1.mono V',(Y p H).sz⟩;obtain⟨E1,E2, -⟩:=YQ (p:=p) (ys:=Y0) (F.fit p H).e Z' (D p H).1 (D p H).2.1 (D p H).2.2 z0;obtain⟨E3,E4, -⟩:=YQ (p:=p) (ys:=Y1) (F.fit p H).e Z' (D p H).1 (D p H).2.1 (D p H).2.2 z1;rw[l0] at E1;rw[l1] at E3;have hv0:=λA c Z P a Q=>Oj p Y0 A K c 150 Z P ((hf p H).ext a) lp Q l0 z0 V';have hv1:=λA c Z P a Q=>Oj p Y1 A K c 150 Z P ((hf p H).ext a) lp Q l1 z1 V';rw[E1,E2] at hv0;rw[E3,E4] at hv1;generalize di (Y0.map NR.da) p.ts=V0 at*;generalize di (Y1.map NR.da) p.ts=V1 at*;have hs0:=λZ=>jc (nR V0) Z;have hs1:=λZ=>jc (nR V1) Z;refine xa (sr (mI (mL (xi ?_))));refine QU ?_;refine Ct (mB (gT (Bm (gT ?_))));refine pj I 1 ?_;refine gT ?_;refine Ct ?_;refine gP ?_;refine na (cT (xa ?_))
       refine jR [10] [9] 11 I ?_;refine eI ?_;refine Ui (0) ?_;refine Fj [_,_] (λ_ hj=>(hrl.ext hj.hp.below).recAt PX.len h0) ?_;refine wb ?_;refine Ja (i:=5) (cj K (ia NR.cells Y0)) (cj.ext) ?_ ?_
       .intro U Z hj hR;exact ib rfl (La fi (qa (show U 205=Value.slice _ _ _ from hR.1) (qa rfl Wa))) (hc0 Z (S.hp hj.hp) hj.hp.below) (λ_ _ ⟨A,c,hq,ho,M⟩=>⟨_,hq,M,(A,c),rfl,ee ho⟩)
       refine Ja (i:=6) (Is (.tuple #[(nR V0).V,.int .i64 0])) (Is.ext) ?_ ?_
       .intro U Z hj hR;obtain⟨g206,e206,o206⟩:=hR.2.1;exact let⟨c,e1,ho⟩:=hR.2.1;ib rfl (La fi (qa (show U 203=Value.agg (List.toArray _) from hR.1) (qa e1 Wa))) (hv0 c.1 c.2 Z (S.hp hj.hp) hj.hp.below ho) (λ_ _ ⟨hq,M⟩=>⟨_,hq,M,rfl⟩)
       refine wb ?_;refine Ja (i:=10) (Ob _ 30 _) Ob.ext (λU Z hj hR=>Pg pa.out hj.bl (λv w2 h M=>⟨M,h⟩)) ?_;refine Fa ?_;intro f W hJ hV _;obtain⟨v27,v209,v208,v200,v207,v206,v205,v204,v203,v202,v201,_⟩:=hV;obtain⟨g206,e206,o206⟩:cj K (ia NR.cells Y0) (f 5) W:=v206;obtain⟨b27,e27,hl27,hc27⟩:Ob _ _ _ (f 10) W:=v27;replace I:=hJ.newVar I hl27 hc27;refine lg ?_;refine Ze I 0 [_,_,_] ?_;intro ws I;replace I:Hp _ (.blk _ _ [_,_,_] _::_) _:=I;refine aI (na (xa ?_));refine jR [10] [9] 11 I ?_;refine eI ?_;refine Ui (0) ?_;refine Fj [_,_] (λ_ hj=>(hrl.ext hj.hp.below).recAt PX.len h0) ?_;refine wb ?_;refine Ja (i:=5) (cj K (ia NR.cells Y1)) (cj.ext) ?_ ?_
       .intro U Z hj hR;exact ib rfl (La fi (qa (show U 215=Value.slice _ _ _ from hR.1) (qa rfl Wa))) (hc1 Z (S.hp hj.hp) hj.hp.below) (λ_ _ ⟨A,c,hq,ho,M⟩=>⟨_,hq,M,(A,c),rfl,ee ho⟩)
       refine Ja (i:=6) (Is (.tuple #[(nR V1).V,.int .i64 0])) (Is.ext) ?_ ?_
       .intro U Z hj hR;obtain⟨g216,e216,o216⟩:=hR.2.1;exact let⟨c,e1,ho⟩:=hR.2.1;ib rfl (La fi (qa (show U 213=Value.agg (List.toArray _) from hR.1) (qa e1 Wa))) (hv1 c.1 c.2 Z (S.hp hj.hp) hj.hp.below ho) (λ_ _ ⟨hq,M⟩=>⟨_,hq,M,rfl⟩)
       refine wb ?_;refine Ja (i:=10) (Ob _ 30 _) Ob.ext (λU Z hj hR=>Pg pa.out hj.bl (λv w2 h M=>⟨M,h⟩)) ?_;refine Fa ?_;intro f W hJ hV _;obtain⟨v29,v219,v218,v210,v217,v216,v215,v214,v213,v212,v211,_⟩:=hV;obtain⟨g216,e216,o216⟩:cj K (ia NR.cells Y1) (f 5) W:=v216;obtain⟨b29,e29,hl29,hc29⟩:Ob _ _ _ (f 10) W:=v29;replace I:=hJ.newVar I hl29 hc29;refine lg ?_;refine Ze I 0 [_,_,_] ?_;intro ws I;replace I:Hp _ (.blk _ _ [_,_,_] _::_) _:=I;refine aI (na (xa ?_));obtain⟨s0,s1⟩|⟨s0,s1⟩:=aaZ hcr
       .rw[s0] at hs0;rw[s1] at hs1;refine ud 10 I ?_;refine XY ?_;refine wb ?_;refine Fa ?_;intro f W hJ hV;have hb_35:=hJ.bl;obtain⟨v229,v228,v227,v226,v225,v224,v223,v222,v221,v220,_⟩:=hV;replace I:=hJ.hp;refine lg ?_;exact O1
       rw[s0] at hs0;rw[s1] at hs1;refine ud 10 I ?_;refine XY ?_;refine wb ?_;refine dn ?_;intro W I;exact O1
      refine xa (sr (mI (mL (xi ?_))));refine QU ?_;refine Ct (mB (gT (Bm (gT ?_))));refine pj I 1 ?_;refine gT ?_;refine Ct ?_;refine gP ?_;exact tY
     refine xa (sr (mI (mL (xi ?_))));refine QU ?_;refine Ct (mB ?_);refine gS (gS (gS ?_));refine FH ?_;exact tY
    refine xa (sr (mI (mL (xi ?_))));refine Wg (na (cF (Xh (Ie (Ie (Ej (Za (sr ?_))))))));refine cd I (jl _ (S.hp I)) ?_;intro w234 I;refine aB (na (Gj ?_));refine qa1 ?_;exact⟨rfl,Dj hbw I.below⟩
   obtain⟨rfl,rfl⟩:=OT hZ he;obtain rfl:xs=[]:=List.map_eq_nil_iff.1 J;refine mT ?_;refine Jv ?_;refine Jv ?_;refine Jv ?_;refine aL (aI (aI (na (xa (sr (mI ?_))))));refine ZC (na (cT (sr (mL (xi ?_)))));refine Ct (mB (gT (mI (gT ?_))));refine Ct ?_;refine gP ?_;refine mB ?_;refine Oe rfl rfl ?_;refine cd I (jl _ (S.hp I)) ?_;intro w61 I;refine gP ?_;refine aB (na (Gj (Ut ?_)));refine qa1 ?_;exact⟨rfl,I.below⟩
end Go.Proofs.YtbencocchdpikaaGreatDoor
