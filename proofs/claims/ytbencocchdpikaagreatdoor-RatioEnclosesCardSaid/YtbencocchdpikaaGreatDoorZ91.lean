/- Lemmas for ratioEncloses, part 9. -/
import Derived.Test.YtbencocchdpikaaGreatDoorZ9
set_option linter.all false
set_option maxHeartbeats 0
namespace Go.Proofs.YtbencocchdpikaaGreatDoor
open Go.Proofs.Tryz
open Go.RowKit
variable {n:Nat}
variable {j k:Nat}
variable {ts:List TR}
variable {Y:Nat}{α:Type}
variable {W Z w w0:World}
variable {E:Int}{base:Nat}
variable {ls:List PX}{p:PX}
variable {b:List SR}
variable {xs:List Dyadic}
def NS{p q:List TR}(h:∀e∈Kw p q,e=0):uo xs (Cb p q)=uo xs p*uo xs q:=by
 have hm:∀a∈p,∀b∈q,Gl a.m b.m=0:=λa M b F=>h _ (k9.2 ⟨a,M,x'.2 ⟨b,F,rfl⟩⟩);unfold uo;rw[FI,Dyadic.mul_comm,<-NJ];refine l0 λa M=> ?_;rw[Dyadic.mul_comm,<-NJ];refine l0 λb F=> ?_;obtain⟨N,L⟩:=rV (hm a M b F);rw[N,lI _ _ _ L]
def SL(j:Nat)(t:TR):wg j t=((Xb t.m)[j]?).getD 0:=by
 unfold wg Xb;rw[C']
 cases t.m.data.toList[j]?<;>rfl
def BT{p:List TR}(g:TR->Dyadic)(Q):sm p (λt=>if n<=wg j t then g t*Q^(wg j t-n) else 0)=sm p (λt=>if n+1<=wg j t then g t*Q^(wg j t-(n+1)) else 0)*Q+sm (Ia p j n) g:=by
 have N:sm (Ia p j n) g=sm p λt=>if wg j t=n then g t else 0:=(by unfold Ia;rw[<-gP p (λt=>decide (wg j t=n)) (λt=>if wg j t=n then g t else 0) (λt _ h=>R' (by simpa using h))];exact Ea λt S=>(Q' (by simpa using(A9.1 S).2)).symm)
 rw[N,<-Ui,<-Ev];refine Ea λt _=> ?_;by_cases h1:wg j t=n
 .rw[Q' Z',R' Z',Q' h1,h1,t_,s7];grind
 rw[R' h1];by_cases h2:n+1<=wg j t
 .rw[Q' Z',Q' h2,show wg j t-n=(wg j t-(n+1))+1 by omega,Dyadic.pow_succ];grind
 rw[R' Z',R' h2];grind
def QN{xs:List Dyadic}{q p:List TR}{sub:List TR->Int×List TR}{j:Nat}(g:TR->Dyadic)(hp:∀t∈p,wg j t<=127)(K:∀n,(sub (Ia p j n)).1=0->uo xs (sub (Ia p j n)).2=sm (Ia p j n) g):
  ∀i,i<=128->(Ya q sub p j i).1=0->uo xs (Ya q sub p j i).2=sm p λt=>if 128-i<=wg j t then g t*uo xs q^(wg j t-(128-i)) else 0
 |0,_,_=>(sk λt S=>R' (by have:=hp t S;omega)).symm
 |i+1,hi,J=>by
  have h1:(Ya q sub p j i).1=0:=(by refine N8 λc=> ?_;rw[vh c (Nat.le_succ i)] at J;exact c J);have W:=QN g hp K i Z' h1;have N:=BT (p:=p) (j:=j) (n:=127-i) g (uo xs q);rw[show 128-(i+1)=127-i by omega,N,show 127-i+1=128-i by omega,<-W];rw[ji] at J |-;unfold Lg at J |-;rw[R' (λh=>h h1)] at J |-;by_cases X:(Ya q sub p j i).2.length=0/\(Ia p j (127-i)).length=0
  .rw[Q' X,n8.1 X.1,n8.1 X.2];show(0:Dyadic)=0*_+0;grind
  rw[R' X] at J |-;by_cases Y:Ce (Ya q sub p j i).2 q≠0
  .rw[Q' Y] at J;exact absurd J Y
  rw[R' Y] at J |-;by_cases e:(sub (Ia p j (127-i))).1≠0
  .rw[Q' e] at J;exact absurd J e
  rw[R' e] at J |-;by_cases H:Qf (oa (Cb (Ya q sub p j i).2 q)++(sub (Ia p j (127-i))).2)≠0
  .rw[Q' H] at J;exact absurd J H
  rw[R' H];show uo xs (oa _)=_;rw[qj,xy,qj,NS (Vl Z').2.1,K _ Z']
def eZ{p:List TR}(h:xx p)(he:∀a∈p,∀b∈p,a.m=b.m):p.length<=1:=by
 match p,h,he with
 |[],_,_=>exact N' _
 |[_],_,_=>exact F' _
 |a::b::p,h,he=>
  have h1:=(l9.1 h).1 b E';rw[he a E' b (u' _ E'),ph] at h1
  cases h1
def cJ.one{v:Int}{p:List TR}(h:cJ v j p)(hj:v<=j):p.length<=1:=eZ h.nw λa M b F=>Uu (by
 have e:=h.pre a M b F;have P:=h.size a M;have n:=h.size b F;rwa[G' Z',G' Z'] at e)
def Iv(v:Int)(q:List TR)(Q:List (List TR))(j:Nat)(p:List TR):Ud v (q::Q) j p=Ya q (Ud v Q (j+1)) p j 128:=rfl
def ab6{v w:Int}(Q:List (List TR)):∀(j:Nat)(p:List TR),cJ w j p->w=((j+Q.length:Nat):Int)->(Ud v Q j p).1=0->uo xs (Ud v Q j p).2=sm p λt=>t.c.fa*fj ((Xb t.m).drop j) (Q.map (uo xs)):=by
 induction Q with
 |nil=>
  intro j p K hw _;have h1:=K.one (by rw[hw];exact Int.le_refl _);show uo xs (oa _)=_;rw[qj];have o:Xb (Sd v)=List.replicate v.toNat 0:=by unfold Xb Sd;simp
  match p,h1 with
  |[],_=>
   show(nR 0).fa*_+0=0;rw[Ta];grind
  |[t],_=>
   show t.c.fa*fj (Xb (Sd v)) xs+0=t.c.fa*fj _ []+0;rw[o,Yp]
   cases(Xb t.m).drop j<;>rfl
 |cons q Q W=>
  intro j p K hw J;have hj:(j:Int)<w:=by rw[hw,V_];omega
  have C:∀t∈p,wg j t<=127:=λt S=>(by obtain⟨e,_,h2,G⟩:=K.get hj S;omega);rw[Iv] at J |-;have g:=λn B=>W (j+1) (Ia p j n) (K.with hj) (by rw[hw,V_];omega) B;generalize Ud v Q (j+1)=sub at g J |-;have h1:=λi hi o=>QN (xs:=xs) (q:=q) (sub:=sub) (p:=p) (j:=j) (λt=>t.c.fa*fj ((Xb t.m).drop (j+1)) (Q.map (uo xs))) C g i hi o;obtain⟨m,hm⟩:∃m,m=128:=⟨_,rfl⟩;rw[<-hm] at J |-;rw[h1 m Z' J];refine Ea λt S=> ?_;rw[Q' Z',show wg j t-(128-m)=wg j t by omega];obtain⟨e,h2,G,_⟩:=K.get hj S;have T:(Xb t.m).drop j=wg j t::(Xb t.m).drop (j+1):=(by refine Wf ?_;rw[G];unfold Xb;rw[C',h2];rfl);rw[T,T_,fj];grind
def acB(h:(Qb p ls).1=0):uo xs (Qb p ls).2=uo (ls.map λg=>uo xs g.ts) p.ts:=by
 unfold Qb at h |-;by_cases h1:p.e≠0
 .rw[Q' h1] at h;exact absurd h h1
 rw[R' h1] at h |-;by_cases h2:(ls.length:Int)≠p.v
 .rw[Q' h2] at h;exact absurd h V'
 rw[R' h2] at h |-;by_cases G:ls.length≠0/\Te ls≠0
 .rw[Q' G] at h;exact absurd h G.2
 rw[R' G] at h |-;rw[ab6 (w:=p.v) (ls.map PX.ts) 0 p.ts (yz (by unfold PX.e at h1;omega)) (by rw[B',i'];omega) h,E_];unfold uo;rw[AN];rfl
def wK:Nat->List Nat->List Nat->List Nat->Dyadic
 |m+1,_::ds,a::s,r::rs=>(if a=r then 1 else 0)*wK m ds s rs
 |0,d::ds,a::s,r::rs=>We d 1 1 a r*wK 0 ds s rs
 |_,_,_,_=>1
def RN:∀(j:Nat)(ds s rs:List Nat),j<ds.length->Ah ds s->Ah ds rs->sm (List.range (ds.getD j 0+1)) (λi=>wK (j+1) ds s (rs.set j i)*We (ds.getD j 0) 1 1 i (rs.getD j 0))=wK j ds s rs
 |_,[],_,_,h,_,_=>by cases h
 |_,_::_,[],_,_,h,_=>by cases h
 |_,_::_,_::_,[],_,_,h=>by cases h
 |0,d::ds,a::s,r::rs,_,h1,_=>by
  show sm (List.range (d+1)) (λi=>(if a=i then 1 else 0)*wK 0 ds s rs*We d 1 1 i r)=We d 1 1 a r*wK 0 ds s rs;have e:sm (List.range (d+1)) (λi=>(if a=i then 1 else 0)*wK 0 ds s rs*We d 1 1 i r)=sm (List.range (d+1)) λi=>if i=a then We d 1 1 a r*wK 0 ds s rs else 0:=Ea λi _=>by
   by_cases h:a=i
   .rw[Q' h,Q' h.symm,h];grind
   rw[R' h,R' (λe=>h e.symm)];grind
  rw[e,Gk,Q' (by have:=h1.1;omega)]
 |j+1,d::ds,a::s,r::rs,hj,h1,h2=>(by show sm (List.range (ds.getD j 0+1)) (λi=>(if a=r then 1 else 0)*wK (j+1) ds s (rs.set j i)*We (ds.getD j 0) 1 1 i (rs.getD j 0))=(if a=r then 1 else 0)*wK j ds s rs;rw[<-RN j ds s rs (by simpa using hj) h1.2 h2.2,<-cg];exact Ea λi _=>by grind)
def kR:∀(ds s rs:List Nat),Ah ds s->Ah ds rs->wK ds.length ds s rs=if s=rs then 1 else 0
 |[],[],[],_,_=>by rw[Q' rfl];rfl
 |[],_::_,_,h,_=>by cases h
 |[],[],_::_,_,h=>by cases h
 |_::_,[],_,h,_=>by cases h
 |_::_,_::_,[],_,h=>by cases h
 |d::ds,a::s,r::rs,h1,h2=>by
  show(if a=r then 1 else 0)*wK ds.length ds s rs=_;rw[kR ds s rs h1.2 h2.2];by_cases N:a=r
  .by_cases L:s=rs
   .rw[Q' N,Q' L,Q' (by rw[N,L])];grind
   rw[Q' N,R' L,R' λe=>L (List.cons.inj e).2];grind
  rw[R' N,R' λe=>N (List.cons.inj e).1];grind
abbrev QL:=List (List Nat×Dyadic)
def X0(ds:List Nat)(L:QL):List Dyadic:=Qh (da ds) (L.map λq=>(Ec ds q.1,q.2))
def Iu(ds:List Nat)(L:QL):Nat->List Dyadic
 |0=>X0 ds L
 |k+1=>re ds (ds.length-1-k) (We (ds.getD (ds.length-1-k) 0) 1 1) (Iu ds L k)
def Bv(ds)(L:QL)(k:Nat):Iu ds L (k+1)=re ds (ds.length-1-k) (We (ds.getD (ds.length-1-k) 0) 1 1) (Iu ds L k):=rfl
def CG(ds)(L:QL)(k:Nat):(Iu ds L k).length=da ds:=by
 cases k with
 |zero=>exact Kh _ _
 |succ k=>rw[Bv,Fj]
def nS{ds:List Nat}{L:QL}(a:∀q∈L,Ah ds q.1):∀k,k<=ds.length->∀row,Ah ds row->co ds (Iu ds L k) row=sm L λq=>q.2*wK (ds.length-k) ds q.1 row
 |0,_,row,H=>by
  have hp:=Xg H;rw[Iy H];show((X0 ds L)[Ec ds row]?).getD 0=_;unfold X0;rw[Zl _ hp,F9,Po];refine Ea λq R=> ?_;rw[Nat.sub_zero,kR ds q.1 row (a q R) H];by_cases h:q.1=row
  .rw[Q' h,Q' (by rw[h])];grind
  rw[R' h,R' λe=>h (by rw[<-Cf (a q R),<-Cf H];exact C_ (Xa ds) e)];grind
 |k+1,u,row,H=>by
  obtain⟨j,hj⟩:∃j,j=ds.length-1-k:=⟨_,rfl⟩;rw[Bv,<-hj,bC _ _ _ H,show ds.length-(k+1)=j by omega];have N:∀i,i<ds.getD j 0+1->co ds (Iu ds L k) (row.set j i)=sm L λq=>q.2*wK (j+1) ds q.1 (row.set j i):=λi hi=>(by rw[nS a k Z' (row.set j i) (bO H Z'),show ds.length-k=j+1 by omega]);rw[Ea λi hi=>show co ds (Iu ds L k) (row.set j i)*We (ds.getD j 0) 1 1 i (row.getD j 0)=sm L λq=>q.2*(wK (j+1) ds q.1 (row.set j i)*We (ds.getD j 0) 1 1 i (row.getD j 0)) by
   rw[N i (S_.1 hi),<-Ui];exact Ea λq _=>by grind,qk]
  refine Ea λq R=> ?_;rw[<-RN j ds q.1 row Z' (a q R) H,<-cg]
def Aj(ns:List Nat)(l:List TR):List Dyadic:=(List.range (da ns.reverse)).map λp=>wS (λm=>wK 0 ns.reverse (Xb m).reverse (Xa ns.reverse p)) l
def Wt(ns)(l):(Aj ns l).length=da ns:=by unfold Aj;rw[B',g8,qb]
def Sw(l:List TR):QL:=l.map λt=>((Xb t.m).reverse,t.c.fa)
def lH{ns:List Nat}{l:List TR}(Q:∀t∈l,Ah ns.reverse (Xb t.m).reverse):Iu ns.reverse (Sw l) ns.length=Aj ns l:=by
 have a:∀q∈Sw l,Ah ns.reverse q.1:=λq R=>(by obtain⟨t,S,rfl⟩:=x'.1 R;exact Q t S);refine TV (ds:=ns.reverse) (CG _ _ _) (by rw[Wt,qb]) λrow H=> ?_;have hp:=Xg H;rw[nS a ns.length (by rw[r'];exact F' _) row H,Iy H,show ns.reverse.length-ns.length=0 by rw[r',t_]];unfold Aj Sw;rw[C',y_ hp,Po];show _=wS _ l;rw[AN,Cf H]
def BH:∀{ds rs:List Nat} (a:Nat),Ah ds rs->rs.getD a 0<=ds.getD a 0
 |[],[],_,_=>by simp
 |[],_::_,_,h=>by cases h
 |_::_,[],_,h=>by cases h
 |_::_,_::_,0,h=>h.1
 |_::ds,_::rs,a+1,h=>BH (ds:=ds) (rs:=rs) a h.2
variable {X:List Dyadic}
def YO{ds:List Nat}{a d:Nat}(C:∀x∈X,Sz k x)(T:ds.getD a 0=d)(A:d<=127):∀x∈re ds a (We d 1 1) X,Sz (k+520) x:=λx h=>by
 obtain⟨p,_,rfl⟩:=x'.1 h;have H:(Xa ds p).getD a 0<=d:=by rw[<-T];exact BH a (Vf ds p)
 have h2:=yR (l:=List.range (ds.getD a 0+1)) (f:=λi=>co ds X ((Xa ds p).set a i)*We d 1 1 i ((Xa ds p).getD a 0)) (k:=k+(130+2*(1*d))) λi _=>by
  refine Sz.mul ?_ (oN Sz.one Sz.one A H);unfold co;split
  .cases h:X[Ec ds ((Xa ds p).set a i)]? with
   |none=>exact Sz.zero k
   |some y=>exact C y (O' h)
  exact Sz.zero k
 rw[g8,T] at h2;rw[T];exact h2.mono Z'
def QV{ds:List Nat}{B:Nat}(h:∀d∈ds,d<=B)(a:Nat):ds.getD a 0<=B:=by
 rw[o_]
 cases M:ds[a]? with
 |none=>exact N' _
 |some d=>exact h d (O' M)
def EJ{ds:List Nat}{L:QL}{k:Nat}(h:∀x∈X0 ds L,Sz k x)(T:∀d∈ds,d<=127):∀i,∀x∈Iu ds L i,Sz (k+520*i) x
 |0=>h
 |i+1=>λx C=>(YO (EJ h T i) rfl (QV T _) x C).mono Z'
def U0{ds:List Nat}{l:List TR}(h:Gh k l):∀x∈X0 ds (Sw l),Sz (k+l.length) x:=λx C=>by
 have:=bE (N:=da ds) (L:=(Sw l).map λ(q:List Nat×Dyadic)=>(Ec ds q.1,q.2)) (k:=k) (λa M=>by
  obtain⟨q,R,rfl⟩:=x'.1 M;obtain⟨t,S,rfl⟩:=x'.1 R;exact(h t S).2) x C
 unfold Sw at this;rwa[B',B'] at this
structure Ri(p:PX)(b:List SR)(ns:List Nat):Prop where
 e:p.e=0
 box:lj b=0
 pos:0<b.length
 jn:b.length<=12
 v:p.v=b.length
 nl:ns.length=b.length
 low:∀d∈ns,d<=127
 most:da ns<=4096
 own:∀(i d:Nat),ns[i]?=some d->∀t∈p.ts,wg i t<=d
def Ms{D:List Int}(h:Cg p b D=0):D=sa (D.map Int.toNat)/\Ri p b (D.map Int.toNat):=by
 unfold Cg at h;by_cases J:p.e≠0
 .rw[Q' J] at h;exact absurd h J
 rw[R' J] at h;by_cases h1:lj b≠0
 .rw[Q' h1] at h;exact absurd h h1
 rw[R' h1] at h;by_cases h2:(b.length:Int)≠p.v\/(D.length:Int)≠p.v
 .rw[Q' h2] at h;exact absurd h V'
 rw[R' h2] at h;by_cases G:rm (Pj p.v p.ts) D=true
 .rw[Q' G] at h;exact absurd h V'
 rw[R' G] at h;by_cases z:Lf 1 D=0
 .rw[Q' z] at h;exact absurd h V'
 have m:p.e=0:=C9.1 J;obtain⟨f1,_,_,_⟩:=Kb m;have f2:=Yc.1 f1;obtain⟨M,j,Y⟩:=Mi m;have f:(b.length:Int)=p.v:=C9.1 λc=>h2 (.inl c);have u:(D.length:Int)=p.v:=C9.1 λc=>h2 (.inr c);have r:∀(i:Nat)(y:Int),D[i]?=some y->∃d:Nat,(wb p.v p.ts)[i]?=some d/\(d:Int)<=y/\y<=127:=λi y hy=>by
  have hi:=(z'.1 hy).1;obtain⟨d,T⟩:=aa (l:=wb p.v p.ts) (k:=i) Z';have s:(Pj p.v p.ts)[i]?=some (d:Int):=by rw[M];exact jc T
  have:=P9.1 ((Bool.not_eq_true _).mp G) _ (O' (Ax s hy));rw[Y_] at this;exact⟨d,T,by show(d:Int)<=y;omega,by show y<=127;omega⟩
 have a:D=sa (D.map Int.toNat):=(by unfold sa;rw[E_];refine(m7 _).symm.trans (J9 λy hy=> ?_);obtain⟨i,hi⟩:=r_.1 hy;obtain⟨d,_,P,_⟩:=r i y hi;show y=((y.toNat:Nat):Int);omega);have g:∀d∈D.map Int.toNat,d<=127:=λd T=>(by obtain⟨y,hy,rfl⟩:=x'.1 T;obtain⟨i,hi⟩:=r_.1 hy;obtain⟨_,_,_,L⟩:=r i y hi;omega);refine⟨a,m,C9.1 h1, ?_,Z',f.symm,by rw[B'];omega,g, ?_,λi d T t S=> ?_⟩
 .obtain c|c:=a9 b.length
  .have X:=C9.1 h1;unfold lj at X;rw[n8.1 c] at X;exact absurd X V'
  exact c
 .have B:=Ih (D.map Int.toNat) 1 (F' _) V' g;rw[<-a,R8] at B;rw[show Lf 1 D=Lf ((1:Nat):Int) D from rfl,B] at z;exact C9.1 λc=>z (R' c)
 rw[C'] at T;obtain⟨y,hy,Q⟩:=y9.1 T;obtain⟨d2,N,B,X⟩:=r i y hy;have:=(Y i d2 N).2.1 t S;omega
def Ri.Ek{ns:List Nat}(h:Ri p b ns):(wb p.v p.ts).length=b.length:=by
 rw[(Mi h.e).2.1,h.v];exact z9 _
def NW(v i:Nat)(c):Zm (λx=>if x=i then 1 else 0) [⟨yk v i,c⟩]:=λt S j=>by
 rw[k'.1 S]
 cases he:(⟨yk v i,c⟩:TR).m.data.toList[j]? with
 |none=>unfold wg;rw[he];exact N' _
 |some e=>
  rw[Kp he];show e.toNat<=if j=i then 1 else 0
  have N:((List.replicate v (0:UInt8)).set i 1)[j]?=some e:=by simpa[yk] using he
  rw[g_] at N;by_cases hj:i=j
  .rw[Q' hj] at N;rw[Q' hj.symm];split at N
   .rw[<-P_ N];decide
   cases N
  rw[R' hj] at N;rw[(List.mem_replicate.1 (O' N)).2];exact N' _
def zv(v i:Nat)(s):Zm (λx=>if x=i then 1 else 0) (yg v i s):=by
 refine Zm.oa (Zm.append ((uy v _).oa.mono λx=>N' _) (Zm.oa λt S j=> ?_));obtain⟨z,o,rfl⟩:=x'.1 S;rw[show wg j (Fo (s.Zg-s.pe) z)=wg j z from rfl];exact(NW v i _).oa z o j
def Yq{ns:List Nat}(h:Ri p b ns)(W:Gh k p.ts)(F:∀s∈b,s.fin k)(w:k<=1000)(n:Ge (k+k+16394) (wb p.v p.ts) (k+1)<=440000)(J:(Qb p (Ca b)).1=0):
  mj b.length 440000 (Qb p (Ca b)).2/\∀t∈(Qb p (Ca b)).2,Ah ns.reverse (Xb t.m).reverse:=by
 have Q:=h.jn;have A:=h.pos;have a:=Vh b;obtain⟨_,x,Y⟩:=Mi h.e;have u:=h.Ek;have o:Ff (Ca b)=b.length:=(by obtain⟨s,K⟩:=aa (l:=b) (k:=0) Z';rw[aj (Ve K)]);unfold Qb at J |-;rw[R' (λc=>c h.e),R' (by rw[a,h.v];exact λc=>c rfl)] at J |-;by_cases j:(Ca b).length≠0/\Te (Ca b)≠0
 .rw[Q' j] at J;exact absurd J j.2
 rw[R' j,o] at J |-;have R:∀q∈(Ca b).map PX.ts,mj b.length (k+k+10) q/\q.length<=2:=λq R=>(by obtain⟨g,f,rfl⟩:=x'.1 R;obtain⟨i,s,K,rfl⟩:=OK f;exact Cj Q (F s (O' K)) Z');have h1:=AD (Wg Q) (show k+k+10+4096*2+8192<=k+k+16394 by omega) ((Ca b).map PX.ts) 0 p.ts (wb p.v p.ts) k R W (by rw[B',a,u]) (λi d T=>⟨(Y i d T).1,λt S=>by rw[i'];exact(Y i d T).2.1 t S⟩) Z' J;refine⟨h1.mono n, ?_⟩;have h2:=CE ((Ca b).map PX.ts) 0 p.ts (λi=>(ns[i]?).getD 0) (λi q hi=> ?_) (λt S i hi=> ?_) J
 .intro t S;have hm:=(Kb h1.e).2.2.1 t S;unfold yf at hm;rw[Z_,Y_] at hm;have M:(Xb t.m).length=b.length:=by rw[Fp];omega
  rw[Ag];refine⟨by rw[r',r',M,h.nl],λi d r T H=> ?_⟩;have hi:=(z'.1 T).1;rw[r'] at hi;rw[l_ hi] at T;rw[l_ (by rw[M,<-h.nl];exact hi),M,<-h.nl] at H;have G:=h2 t S (ns.length-1-i);dsimp only at G;rw[B',a,Q' ⟨N' _,by have:=h.nl;omega⟩,T,SL,H] at G;exact G
 .rw[C'] at hi;obtain⟨g,f,rfl⟩:=y9.1 hi;obtain⟨s,K⟩:=aa (l:=b) (k:=i) (by have:=(z'.1 f).1;rwa[a] at this);rw[Ve K] at f;rw[<-P_ f,i'];exact zv _ i s
 rw[B',a] at hi;rw[i'];obtain⟨d,T⟩:=aa (l:=ns) (k:=i) (by rw[h.nl];exact hi);rw[T];exact h.own i d T t S
def TD(L)(n c d:Nat)(xs:List Dyadic)(k:Nat)(w)(J:Nd w)(hS:Sl w L n 3 (la NR.cells (xs.map nR)))(T:n=d+1)(hd:d<=127)(hx:∀x∈xs,Sz k x)(hk:k<=500000):Calls prog 169 #[.slice L n c] w λr V=>∃A c',r=.returned (.slice A n c')/\Hp w [.row A n c' 30 3 (la NR.cells ((Md d (We d 1 1) xs).map nR))] V:=by
 have I:=Hp.start w;have hln:xs.length=n:=by have:=hS.Aa NR.len V';simpa using this
 have ha:Sz 1 1:=Sz.one;obtain⟨ad,rfl,hr⟩:=hS.at_ Z';refine Ga (l:=[.slice (some ad) n c]) func169 ?_;refine ea ?_;refine ZB ?_;intro z w14 I;refine ea ?_;rw[Yu,T,<-Ky d 1 1 xs,<-T] at I;refine rf 17 (λv V=>∃i:Nat,i<=n/\v=.int .i64 i/\Hp w [.row (some ⟨z,0,none⟩) n n 30 3 (la NR.cells ((bj d 1 1 xs i 0).map nR))] V) (λv _=>n-(intOf v).toNat) ?_ ?_
 .exact⟨0,N' _,rfl,I⟩
 clear I;rintro ρ' v V ⟨i,hi,rfl,I⟩;by_cases hlt:i<n
 .obtain⟨x,a⟩:=aa (l:=xs) (k:=i) Z';have hxn:(xs.map nR)[i]?=some (nR x):=by rw[C',a];rfl
  have M:Hg xs i=x:=by unfold Hg;rw[a];rfl
  have zx:=hx x (O' a);have D:=λZ P=>vr (d-i) Z P Z';refine ea ?_;refine sv (Ua (vs:=[_,_,_]) pa.out rfl ((hr.ext I.below).recAt NR.len hxn) rfl) ?_;refine Ib ?_;intro b6 w6 I ws I;have C:(n:Int)-1-(i:Int)=((d-i:Nat):Int):=Z';rw[<-C] at D;refine cr I (D _ (J.hp I)) ?_;intro m q w25 I;refine ea ?_;replace I:=I.sub (P' _ (P' _ (P' _ j')));refine rf 27 (λv V=>∃j:Nat,j<=d-i+1/\v=.int .i64 j/\Hp w [.row m (d-i+1) q 30 3 (la NR.cells (Ho (d-i))),.blk b6 30 [.bool (nR x).neg,.string (nR x).Ra,.int .i64 (nR x).e] (0,0),.row (some ⟨z,0,none⟩) n n 30 3 (la NR.cells ((bj d 1 1 xs i j).map nR))] V) (λv _=>d-i+1-(intOf v).toNat) ?_ ?_
  .exact⟨0,N' _,rfl,I⟩
  clear I;rintro ρ2 v w2 ⟨j,hj,rfl,I⟩;by_cases hjn:j<d-i+1
  .have Q:(Ho (d-i))[j]?=some (nR (nD (bin (d-i) j))):=On Z';have zb:=Nv (d-i) j Z';obtain⟨o,X⟩:=aa (l:=bj d 1 1 xs i j) (k:=i+j) (by rw[Al];omega);have hon:((bj d 1 1 xs i j).map nR)[i+j]?=some (nR o):=by rw[C',X];rfl
   have zo:=yx (j:=j) hx ha ha hd (show i<=d+1 by omega) o (O' X);have zy:=zx.mul zb;have K:=λA B Z P N=>Rh A 2 B [nR x,nR (nD (bin (d-i) j))] Z P N (by simpa using⟨zx.ok Z',zb.ok Z'⟩) 600000 (by simpa[Ta] using⟨zx.mono Z',zb.mono Z'⟩) Z' Z';rw[show pj ([nR x,nR (nD (bin (d-i) j))].map NR.fa)=x*nD (bin (d-i) j) by simp only[T_,f_,Ta];show 1*x*_=_;rw[R7]] at K;have p:=hH (show i+j<=d by omega) X;have s:Hg xs i*We d 1 1 i (i+j)=x*nD (bin (d-i) j):=(by unfold We;rw[M,R' Z',show i+j-i=j by omega,Fi,Fi];generalize nD (bin (d-i) j)=u;grind);rw[s] at p;generalize x*nD (bin (d-i) j)=y at*;have g:=λA B Z P N=>Uh A 2 B [nR o,nR y] Z P N (by simpa using⟨zo.ok Z',zy.ok Z'⟩) 2000000 (by simpa[Ta] using⟨zo.mono Z',zy.mono Z'⟩) Z';rw[show Mo ([nR o,nR y].map NR.fa)=o+y by simp only[T_,f_,Ta,Zk]] at g;have hll:((bj d 1 1 xs i j).map nR).length=n:=by rw[B',Al];omega
   generalize bj d 1 1 xs i j=S at*;have hrl:=ee NR.len (S.map nR);obtain⟨gw,rfl⟩:=I.ib (i:=0) rfl Z';refine ea ?_;refine sv (Ua (vs:=[_,_,_]) pa.out rfl (I.Wc (f:=NR.cells) (x:=nR (nD (bin (d-i) j))) (l:=Ho (d-i)) (i:=0) rfl NR.len V' Q) rfl) ?_;refine Ib ?_;intro b8 w8 I ws I;refine Od 16 I ?_;refine Ku ((i+j)) ?_;refine fk [_,_,_] (λ_ hj=>hj.hp.Wc (f:=NR.cells) (x:=nR o) (l:=S.map nR) (i:=3) rfl NR.len V' hon) ?_;refine ub ?_;refine Nw [_,_,_,_,_,_] ?_;refine ua (i:=13) (Is (nR y).V) Is.ext ?_ ?_
   .intro U Z hj hR;obtain⟨b,t,H,s44⟩:=hR.1;exact rb rfl (Ha fi (na H Oa)) (K b t _ (J.hp hj.hp) s44) (λ_ _ R=>⟨_,R.1,R.2,rfl⟩)
   refine Nw [_,_,_,_,_,_] ?_;refine ua (i:=15) (Is (.agg #[.bool (nR (o+y)).neg,.string (nR (o+y)).Ra,.int .i64 (nR (o+y)).e])) Is.ext ?_ ?_
   .intro U Z hj hR;obtain⟨h,F,Y,s46⟩:=hR.1;exact rb rfl (Ha fi (na Y Oa)) (g h F _ (J.hp hj.hp) s46) (λ_ _ R=>⟨_,R.1,R.2,rfl⟩)
   refine xa ?_;intro f W hJ hV;obtain⟨v47,v46,v45,v44,v43,v42,v41,v40,v39,v38,v37,v36,v35,v34,v33,v32,_⟩:=hV;obtain⟨b,t,E,f44⟩:Rows _ _ _ (f 12) W:=v44;obtain⟨h,F,G,f46⟩:Rows _ _ _ (f 14) W:=v46;refine aaP ?_;intro ws I;replace I:=I.sub (L' _ (P' _ (P' _ (P' _ j'))));exact O1
  obtain rfl:j=d-i+1:=Z';rw[OC Z'] at I;refine ea ?_;replace I:=I.sub (L' _ (L' _ (P' _ j')));exact aC
 obtain rfl:i=n:=Z';rw[show bj d 1 1 xs i 0=Md d (We d 1 1) xs by rw[T,dq]] at I;refine ea ?_;exact⟨_,_,rfl,I⟩
def agL(L:FX)(K:List Int):Int:=if L.e≠0 then L.e else if K.any (XW L.n)=true then 1 else 0
def ags(R:List HE)(g:FX):Prop:=R=[g.mh,g.gg]\/g.m=0/\R=[g.gg]
def wF(A)(n c a d:Nat)(ns)(w)(J:Sl w A n 1 (Fa (sa ns)))(X:n<=c)(B:n<=1000)(T:ns[a]?=some d)(g:∀x∈ns,x<=127)(o:da ns<=4096):Zc 167 #[.slice A n c,.int .i64 a] w (.agg #[.int .i64 ((d:Int)+1),.int .i64 (da (ns.drop (a+1)):Nat)]):=by
 have I:=Hp.start w;have m:ns.length=n:=by have:=J.1;simpa[Fa,sa] using this
 have M:=(z'.1 T).1;have Y:=g d (O' T);have j:=Db (jc T);have t:=J.back (l:=a+1) (c:=c) Z' X;have F:(Fa (sa ns)).drop ((a+1)*1)=Fa (sa (ns.drop (a+1))):=(by rw[W_];unfold Fa sa;rw[<-z7,<-z7]);rw[F] at t;have P:Lf 1 (sa (ns.drop (a+1)))=(da (ns.drop (a+1)):Nat):=by
  have h1:=Ih (ns.drop (a+1)) 1 V' V' (λx C=>g x (j6 C));have h2:da (ns.drop (a+1))<=da ns:=by
   have G:da ns=da (ns.take (a+1))*da (ns.drop (a+1)):=by rw[<-zd,Y9]
   rw[G];exact j7 _ (Wb _)
  rw[R8,Q' Z'] at h1;exact h1
 have D:=λZ N=>tg (if c=a+1 then A else A.map (·.add ((a+1)*1))) (n-(a+1)) (c-(a+1)) (sa (ns.drop (a+1))) Z N Z';rw[P] at D;obtain⟨b,rfl,e⟩:=J.at_ Z';refine Ga (l:=[.slice (some b) n c,.int .i64 a]) func167 ?_;refine Gb ?_;intro f y I;refine Od 10 I ?_;refine Wi (a) ?_;refine Ym (λ_ hj=>(e.ext hj.hp.below).Dl j) ?_;refine ub ?_;refine Ba (i:=8) (λU Z hj hR=>Bg (l:=(a+1)) Qa.out pa.size (show U 10=Value.slice _ _ _ from hR.1) (show U 12=Value.int _ _ from hR.2.1) Z' Z' Z') ?_;refine dC (λ_ hj=>D _ (t.ext hj.hp.below)) ?_;refine dn ?_;intro W I;refine Su ?_;intro ws I;exact⟨rfl,I.below⟩
def nP(A)(d f i q:Nat):Ob A d f i q=Ob A d f 0 q+i*da A:=by
 unfold Ob;rw[j_,j_,x8,d' i];omega
def KI(g:FuncId)[ma prog g](A:List Nat)(B)(d L:Nat)(φ:List Dyadic->List Dyadic)(C)(n c k:Nat)(X:List Dyadic)(w)(hT:Nd w)(hS:Sl w C n 3 (la NR.cells (X.map nR)))(hn:n=da (A++d::B))(hmax:n<=4096)(hL:L<=d+1)(hd:d<=127)(hx:∀x∈X,Sz k x) (hg:∀(Y:List Dyadic)(D:Option Addr)(dc:Nat)(Z:World),Nd Z->(∀y∈Y,Sz k y)->Sl Z D (d+1) 3 (la NR.cells (Y.map nR))->Calls prog g #[.slice D (d+1) dc] Z λr V=>∃E G,r=.returned (.slice E L G)/\Hp Z [.row E L G 30 3 (la NR.cells ((φ Y).map nR))] V) (hφ:∀Y:List Dyadic,Y.length=d+1->(φ Y).length=L):Calls prog 168 #[.agg #[.int .i64 ((d:Int)+1),.int .i64 (da A:Nat)],.slice C n c,.func (.func g) #[] #[]] w λr V=>∃E G,r=.returned (.slice E n G)/\Hp w [.row E n G 30 3 (la NR.cells ((nk A d L φ X n 0).map nR))] V:=by
 have I:=Hp.start w;have hXl:X.length=n:=by have:=hS.Aa NR.len V';simpa using this
 have K:=Wb A;have hap2:da A<=n:=(by rw[hn,zd];exact Y5 _ (Wb _));have z:=λZ hb=>jo C n c (X.map nR) Z (hS.ext hb) Z';refine Ga func168 ?_;refine Gb ?_;intro b3 w3 I;refine Lc (z _ I.below) ma.out rfl V' ?_;rintro e_ w14 ⟨h,Q,rfl,t,hb_⟩;refine⟨_,rfl, ?_⟩;replace I:=I.Ed (x:=.row _ _ _ _ _ _) hb_ t;rw[show X.map nR=(nk A d L φ X 0 0).map nR by rw[sP]] at I;refine ea ?_;refine rf 17 (λv V=>∃F:Nat,F<=n/\v=.int .i64 F/\Hp w [.row h n Q 30 3 (la NR.cells ((nk A d L φ X F 0).map nR)),.blk b3 196 [.int .i64 ((d:Int)+1),.int .i64 (da A:Nat)] (0,0)] V) (λv _=>n-(intOf v).toNat) ?_ ?_
 .exact⟨0,N' _,rfl,I⟩
 clear I;rintro ρ' v V ⟨F,hF,rfl,I⟩;by_cases J:F<n
 .have hcast:((F:Int)/((da A:Nat):Int)) % ((d:Int)+1)=((F/da A % (d+1):Nat):Int):=by norm_cast
  have hq0:(0:Int)<=(F:Int)/((da A:Nat):Int):=K6 Z' Z';by_cases h0:F/da A % (d+1)=0
  .obtain⟨b,H⟩:∃b,b=F % da A:=⟨_,rfl⟩;obtain⟨q,N⟩:∃q,q=F/da A/(d+1):=⟨_,rfl⟩;have hf:b<da A:=by rw[H];exact R_ _ K
   have u:F=Ob A d b 0 q:=by rw[H,N,<-h0,kx]
   have hq:q<da B:=by
    rw[N,u9,S9 (H7 K Z')];rw[hn,zd,da] at J
    calc F<da A*((d+1)*da B):=J
     _=da B*(da A*(d+1)):=by rw[<-V9,d']
   have s:∀i,i<=d->Ob A d b i q<n:=λi hi=>by rw[hn];exact Yo hf hi hq
   have M:∀i,Ob A d b i q=F+i*da A:=λi=>by rw[u];exact nP A d b i q
   have hxl:(nc A d X b q).length=d+1:=by simp[nc]
   have hxz:∀y∈nc A d X b q,Sz k y:=λy hy=>(by obtain⟨i,hi,rfl⟩:=x'.1 hy;exact bs hx _);obtain⟨ad,hCA,hr⟩:=hS.at_ Z';rw[hCA] at*;refine Y1 ?_;refine xa ?_;intro f W hJ hV;have hb_5:=hJ.bl;obtain⟨v25,v24,v23,v22,v21,v20,_⟩:=hV;replace I:=hJ.hp;refine Be ?_;refine ea ?_;replace I:=I.yb 30 3;refine Jh 9 30 (λa v V=>∃(i:Nat)(T:Option Addr)(c':Nat),i<=d+1/\v=.int .i64 i/\a=.slice T i c'/\Hp w [.row T i c' 30 3 (la NR.cells (((nc A d X b q).take i).map nR)),.row h n Q 30 3 (la NR.cells ((nk A d L φ X F 0).map nR)),.blk b3 196 [.int .i64 ((d:Int)+1),.int .i64 (da A:Nat)] (0,0)] V) (λ_ v _=>d+1-(intOf v).toNat) ?_ ?_
   .exact⟨0,none,0,N' _,rfl,rfl,I⟩
   clear I;rintro ρ2 a_ v w2 ⟨i,T,c',hi,rfl,rfl,I⟩;by_cases hil:i<d+1
   .obtain⟨y,hy⟩:=aa (l:=nc A d X b q) (k:=i) Z';have hyx:(X.map nR)[Ob A d b i q]?=some (nR y):=(by have h1:=s i Z';unfold nc at hy;rw[C',y_ hil] at hy;have h2:(X[Ob A d b i q]?).getD 0=y:=P_ hy;rw[C',Im (show Ob A d b i q<X.length by omega)];show some (nR (Hg X _))=_;unfold Hg;rw[h2]);have hpn:=s i Z';have o:=M i;obtain⟨m,hm⟩:∃m,m=i*da A:=⟨_,rfl⟩;have hmi:(i:Int)*((da A:Nat):Int)=(m:Int):=by rw[hm];exact(m_ _ _).symm
    rw[<-hm] at o;refine TM ?_;refine mb (mL (mL (mI (mI (Sk ?_)))));refine im I 2 ?_;refine mulC ?_;refine al ?_;refine sv (Eb (k:=(Ob A d b i q)) Qa.out pa.size rfl rfl Z' Z') ?_;refine sv (Ua (vs:=[_,_,_]) pa.out rfl ((hr.ext I.below).recAt NR.len hyx) rfl) ?_;refine Nm ?_;intro b43 w43 I;refine Yl ?_;intro R c44 w44 I;refine jB ?_;intro I;have e1:la NR.cells (((nc A d X b q).take i).map nR)++[.bool (nR y).neg,.string (nR y).Ra,.int .i64 (nR y).e]=la NR.cells (((nc A d X b q).take (i+1)).map nR):=by rw[ja hy,q_,Na,T_,f_,Tj];rfl
    rw[e1] at I;refine⟨⟨i+1,R,c44,Z',rfl,rfl,I⟩,by show d+1-(i+1)<d+1-i;omega, ?_⟩;exact Sb
   obtain rfl:i=d+1:=Z';rw[G' Z'] at I;refine ea ?_;refine Mh (hg (nc A d X b q) T c' _ (hT.hp I) hxz (I.ka (i:=0) rfl)) ma.out rfl rfl V' ?_;rintro e_ w48 ⟨E,G,rfl,h4⟩;refine qG ?_;intro I;replace I:=I.sub (P' _ (L' _ (P' _ (P' _ j'))));have hφl:=hφ (nc A d X b q) hxl;refine ea ?_;refine rf 50 (λv V=>∃j:Nat,j<=L/\v=.int .i64 j/\Hp w [.row E L G 30 3 (la NR.cells ((φ (nc A d X b q)).map nR)),.row h n Q 30 3 (la NR.cells ((nk A d L φ X F j).map nR)),.blk b3 196 [.int .i64 ((d:Int)+1),.int .i64 (da A:Nat)] (0,0)] V) (λv _=>L-(intOf v).toNat) ?_ ?_
   .exact⟨0,N' _,rfl,I⟩
   clear I;rintro ρ3 v w3 ⟨j,hj,rfl,I⟩;by_cases hjl:j<L
   .obtain⟨y,hy⟩:=aa (l:=φ (nc A d X b q)) (k:=j) Z';have hyn:((φ (nc A d X b q)).map nR)[j]?=some (nR y):=by rw[C',hy];rfl
    have hpn:=s j Z';have o:=M j;have p:=YU (φ:=φ) (X:=X) (q:=q) hf hjl (show j<=d by omega);rw[<-u,show Hg (φ (nc A d X b q)) j=y by unfold Hg;rw[hy];rfl] at p;obtain⟨m,hm⟩:∃m,m=j*da A:=⟨_,rfl⟩;have hmi:(j:Int)*((da A:Nat):Int)=(m:Int):=by rw[hm];exact(m_ _ _).symm
    rw[<-hm] at o;have hll:((nk A d L φ X F j).map nR).length=n:=by rw[B',Li];exact hXl
    generalize nk A d L φ X F j=S at*;generalize Ob A d b j q=P at*;have hrl:=ee NR.len (S.map nR);obtain⟨gr,rfl⟩:=I.ib (i:=0) rfl Z';obtain⟨go,rfl⟩:=I.ib (i:=1) rfl Z';refine ea ?_;refine sv (Ua (vs:=[_,_,_]) pa.out rfl (I.Wc (f:=NR.cells) (x:=nR y) (l:=(φ (nc A d X b q)).map nR) (i:=0) rfl NR.len V' hyn) rfl) ?_;refine ik I ?_;intro b12 w12 I;refine aI ?_;refine aaN ?_;intro ws I;refine ia (mb (mL (mI (mI (Sk ?_)))));refine im I 3 ?_;refine mulC ?_;refine al ?_;refine vf I 0 [_,_,_] ?_;refine sv (Kc (k:=P) Qa.out pa.size rfl rfl Z' Z') ?_;refine Lb I (i:=2) (vs:=[_,_,_]) rfl rfl (Xe rfl) rfl pa.out rfl Z' rfl ?_;refine Uv ?_;intro ws I;rw[show xb (la NR.cells (S.map nR)) (P*3) [.bool (nR y).neg,.string (nR y).Ra,.int .i64 (nR y).e]=la NR.cells ((S.map nR).set P (nR y)) from ve NR.len Z',<-c9,p] at I;refine aep ?_;intro I;refine⟨⟨j+1,Z',rfl,I⟩,by show L-(j+1)<L-j;omega, ?_⟩;exact Sb
   rw[OP (show L<=j by omega)] at I;refine AV ?_;intro I;refine⟨⟨F+1,Z',rfl,I⟩,by show n-(F+1)<n-F;omega, ?_⟩;exact Sb
  rw[EP h0] at I;refine Y1 ?_;refine dn ?_;intro W I;refine ea ?_;refine⟨⟨F+1,Z',rfl,I⟩,by show n-(F+1)<n-F;omega, ?_⟩;exact Sb
 obtain rfl:F=n:=Z';exact abK
def Xj(p:PX)(ds:List Int):List Int:=if ds.length=0 then Pj p.v p.ts else ds
def nW(p:PX)(ds:List Int):List Nat:=(Xj p ds).map Int.toNat
def sf(p:PX)(b:List SR)(ds:List Int):Int:=if Cg p b (Xj p ds)≠0 then Cg p b (Xj p ds) else(Qb p (Ca b)).1
def rX{ns:List Nat}{i d:Nat}(h:ns[i]?=some d):ns.reverse=(ns.drop (i+1)).reverse++d::(ns.take i).reverse:=by
 have e:ns=ns.take i++d::ns.drop (i+1):=by rw[<-Wf h,Y9]
 conv=>lhs;rw[e]
 rw[l8,Y8,J_];rfl
def abH(ds):X0 ds (Sw [])=List.replicate (da ds) 0:=Oy _
def TW{ds:List Nat}{l:List TR}{i:Nat}{t:TR}(Q:∀t∈l,Ah ds (Xb t.m).reverse)(H:xx l)(S:l[i]?=some t):(X0 ds (Sw (l.take i))).set (Ec ds (Xb t.m).reverse) t.c.fa=X0 ds (Sw (l.take (i+1))):=by
 have y:=Q t (O' S);have hp:=Xg y;have J:(X0 ds (Sw (l.take i)))[Ec ds (Xb t.m).reverse]?=some 0:=by
  unfold X0;rw[Zl _ hp];congr 1;unfold Sw;rw[E_,Po];refine sk λs K=>R' λe=> ?_;replace e:Ec ds (Xb s.m).reverse=Ec ds (Xb t.m).reverse:=e;have L:(Xb s.m).reverse=(Xb t.m).reverse:=by rw[<-Cf (Q s (Z8 K)),e,Cf y]
  have X:s.m=t.m:=uG (List.reverse_inj.1 L);obtain⟨j,hj⟩:=r_.1 K;have z:j<i:=by have:=(z'.1 hj).1;rw[q'] at this;omega
  rw[List.getElem?_take_of_lt z] at hj;have h1:=(z'.1 hj);have h2:=(z'.1 S);have G:=List.pairwise_iff_getElem.1 H j i h1.1 h2.1 z;rw[h1.2,h2.2,X,ph] at G
  cases G
 have h1:=UB (v:=t.c.fa) (show(Qh (da ds) ((Sw (l.take i)).map λ(q:List Nat×Dyadic)=>(Ec ds q.1,q.2)))[Ec ds (Xb t.m).reverse]?=some 0 from J);rw[k8] at h1;show(Qh (da ds) ((Sw (l.take i)).map λ(q:List Nat×Dyadic)=>(Ec ds q.1,q.2))).set _ _=_;rw[h1,ja S];unfold X0 Sw;rw[q_,q_];rfl
set_option maxRecDepth 10000 in
def XB(p:PX)(L)(n c:Nat)(b)(M)(m mc:Nat)(ds)(k:Nat)(w)(hT:Nd w)(hp:p.at_ w)(lp:p.qf k)(hB:Sl w L n 6 (la SR.cells b))(hb:∀s∈b,s.fin k)(hn:n<=1000000)(hD:Sl w M m 1 (Fa ds))(hm:m<=1000000)(hmc:m<=mc)(hk:k<=1000) (hgr:Cg p b (Xj p ds)=0->Ge (k+k+16394) (wb p.v p.ts) (k+1)<=440000):Calls prog 94 #[p.V,.slice L n c,.slice M m mc] w λr V=>∃g:FX,Out (sf p b ds) (nW p ds) (Aj (nW p ds) (Qb p (Ca b)).2) g/\r=.returned (.tuple #[g.V,.int .i64 (sf p b ds)])/\Hp w [g.mh,g.gg] V:=by
 have I:=Hp.start w;have hbl:b.length=n:=hB.Aa SR.len V';have hdl:ds.length=m:=by have:=hD.1;rw[Hb] at this;omega
 have hok:∀s∈b,s.ok:=λs hs=>⟨(hb s hs).1.ok,(hb s hs).2.ok⟩;have C:Xj p ds=if m=0 then Pj p.v p.ts else ds:=by unfold Xj;rw[hdl]
 have hoN:nW p ds=(Xj p ds).map Int.toNat:=rfl;have hoE:sf p b ds=if Cg p b (Xj p ds)≠0 then Cg p b (Xj p ds) else(Qb p (Ca b)).1:=rfl
 rw[hoN,hoE];generalize Xj p ds=D at*;refine Ga func94 ?_;refine sr ?_;refine ar I [_,_] ?_;intro b3 w3 I;refine ik I ?_;intro b6 w6 I;refine aI (ia ?_);refine rv [2,18,19,20,21,22] 2 (λv V=>∃(M2:Option Addr)(N o:Nat)(R:List HE),v=.slice M2 N o/\N<=o/\N<=1000000/\D.length=N/\(∀(H:List HE)(Z:World),Hp w (H++R) Z->Sl Z M2 N 1 (Fa D))/\Hp w (.blk b6 78 [.slice none 0 0,.slice none 0 0] (0,0)::.blk b3 24 [.int .i64 p.v,.slice p.A p.n p.c] (0,0)::R) V) ?_ ?_
 .by_cases hm0:m=0
  .subst hm0;rw[Q' rfl] at C;have hdg:=λZ P hb=>Zv p k Z P (hp.ext hb) lp;rw[<-C] at hdg;have hl4:D.length<=1000000:=(by rw[C];exact HZ);refine ea ?_;refine Vg (hdg _ (hT.hp I) I.below) ?_;rintro e_ w22 ⟨G,gc,rfl,h4⟩;refine⟨_,rfl, ?_⟩;have hgc:D.length<=gc:=h4.Ae (i:=0) rfl;replace I:=I.join h4;simp only[I',J'] at I;refine ea ?_;refine adM ?_;intro I;refine adM ?_;intro I;refine⟨⟨G,D.length,gc,_,rfl,hgc,hl4,rfl,λH Z h1=>xg (h1.own (.row G D.length gc 3 1 (Fa D)) (H_ _ E')),I⟩, ?_⟩;exact bL
  rw[R' hm0] at C;refine ea ?_;refine⟨⟨M,m,mc,[],rfl,hmc,hm,by rw[C];exact hdl,λH Z h1=>by rw[C];exact hD.ext h1.below,I⟩, ?_⟩;exact bL
 skip;rintro ρ' v V ⟨M2,N,o,R,rfl,hmc2,hm2,hDl,hrd,I⟩;have K:=λZ P t T=>mz p L n c b M2 N o D k Z P (hp.ext t) lp (hB.ext t) hok hn T hm2;by_cases hE:Cg p b D≠0
 .rw[Q' hE];generalize Cg p b D=E at*;refine ea ?_;refine cd I (K _ (hT.hp I) I.below (hrd [_,_] _ I)) ?_;intro w26 I;refine gJ ?_;intro ws I;exact⟨FX.nil,Out.err hE,rfl,(I.sub (N_ _)).JF⟩
 rw[R' hE];have Q:Cg p b D=0:=Z';obtain⟨J,hF⟩:=Ms Q;rw[Q] at K;have hpe:=hF.e;have hn0:=hF.pos;have hn12:=hF.jn;have hnl:=hF.nl;have h:=hF.low;have F:=hF.most;have hgr2:=hgr Q;obtain⟨_,o2,o3⟩:=Mi hpe;have hwi:=λZ P t=>VD p L n c b k (wb p.v p.ts) Z P (hp.ext t) lp (hB.ext t) hb (by rw[hF.v,hbl]) Z' Z' hk (by rw[hF.Ek];exact hbl) (λi d T=>⟨(o3 i d T).1,(o3 i d T).2.1⟩) hgr2;have hsp:=Yq hF lp.ok hb hk hgr2;have K:=λZ P t T=>mz p L n c b M2 N o D k Z P (hp.ext t) lp (hB.ext t) hok hn T hm2;rw[Q] at K;have hcnt:Lf 1 D=((da (D.map Int.toNat):Nat):Int):=(by have h8:=Ih (D.map Int.toNat) 1 (F' _) V' h;rw[<-J,R8,Q' F] at h8;exact h8);have hco:=λZ T=>tg M2 N o D Z T hm2;rw[hcnt] at hco;have hcl:=λZ T=>Zn M2 N o D Z T hm2;have hm2n:N=n:=by rw[<-hDl,<-hbl,<-hnl,B']
 generalize hns:D.map Int.toNat=ns at*;generalize (Qb p (Ca b)).1=E at*;generalize (Qb p (Ca b)).2=S at*;have hN0:=Wb ns;refine ea ?_;refine cd I (K _ (hT.hp I) I.below (hrd [_,_] _ I)) ?_;intro w26 I;refine ea ?_;refine Vg (hwi _ (hT.hp I) I.below) ?_;rintro e_ w34 ⟨q,oq,rfl,h4⟩;refine qG ?_;intro I;replace I:=show Hp w (.row q.A q.n q.c 72 4 (la TR.cells q.ts)::_) _ from I;by_cases hE2:E≠0
 .refine Ii ?_;intro b9 w9 I ws I ws I;exact ad1
 have Q:E=0:=Z';subst Q;obtain⟨hso,hsr⟩:=hsp rfl;have et:q.ts=S:=oq.t0;rw[et] at I;generalize q.v=qv at*;generalize q.A=qA at*;generalize q.n=qn at*;generalize q.c=qc at*;have hSl:S.length=qn:=(I.ka (i:=0) rfl).Aa TR.len V';have hSn:=hso.len;obtain⟨_,_,hSm,hSc⟩:=Kb hso.e;refine Ib ?_;intro b9 w9 I ws I;refine cr I (hcl _ (hrd [_,_,_,_] _ I)) ?_;intro u y w42 I;refine mL ?_;refine cd I (hco _ (hrd [_,_,_,_,_] _ I)) ?_;intro w44 I;refine Jf (n:=(da ns)) I rfl rfl Z' Z' Qa.out pa.out rfl Z' Z' V' ?_;intro b45 w45 I;refine Ib ?_;intro b11 w11 I ws I;rw[Yu,<-qb ns,<-abH ns.reverse,qb] at I;refine rf 50 (λv V=>∃i:Nat,i<=qn/\v=.int .i64 i/\Hp w (.blk b11 78 [.slice u N y,.slice (some ⟨b45,0,none⟩) (da ns) (da ns)] (0,0)::.row (some ⟨b45,0,none⟩) (da ns) (da ns) 30 3 (la NR.cells ((X0 ns.reverse (Sw (S.take i))).map nR))::.row u N y 3 1 (Fa D)::.blk b9 24 [.int .i64 qv,.slice qA qn qc] (0,0)::.row qA qn qc 72 4 (la TR.cells S)::.blk b6 78 [.slice none 0 0,.slice none 0 0] (0,0)::.blk b3 24 [.int .i64 p.v,.slice p.A p.n p.c] (0,0)::R) V) (λv _=>qn-(intOf v).toNat) ?_ ?_
 .exact⟨0,N' _,rfl,I⟩
 clear I;rintro ρ2 v w2 ⟨i,hi,rfl,I⟩;by_cases hlt:i<qn
 .obtain⟨x,hx⟩:=aa (l:=S) (k:=i) Z';have hxm:=O' hx;have hxo:=hsr x hxm;have hx2:=hSm x hxm;unfold yf at hx2;rw[Z_,Y_] at hx2;have hxs:x.m.size=n:=Z';have hxz:=hso.sz x hxm;have hxc:x.c=nR x.c.fa:=hSc.nf x hxm;have hex:Qj x.m.data.toList=sa (Xb x.m):=by rw[Wm hx2.1,Mq]
  have hesl:(Xb x.m).length=n:=by rw[Fp];exact hxs
  have hel:(Qj x.m.data.toList).length=n:=by rw[hex,Za];exact hesl
  have hset:=TW hsr hSc.nw hx;have hX0l:((X0 ns.reverse (Sw (S.take i))).map nR).length=da ns:=by rw[B'];unfold X0;rw[Kh,qb]
  have hcell:la TR.cells S=la TR.cells S:=rfl;have hokat:∀(j d r:Nat),ns[j]?=some d->(Xb x.m)[j]?=some r->r<=d:=λj d r T hr=>by
   have hj:=(z'.1 T).1;refine((Ag _ _).1 hxo).2 (n-1-j) d r ?_ ?_
   .rw[l_ Z',show ns.length-1-(n-1-j)=j by omega];exact T
   rw[l_ Z',show(Xb x.m).length-1-(n-1-j)=j by omega];exact hr
  obtain⟨gq,rfl⟩:=I.ib (i:=4) rfl Z';refine ea ?_;refine sv (Ua (vs:=[_,_,_,_]) pa.out rfl (I.Wc (f:=TR.cells) (x:=x) (l:=S) (i:=4) rfl TR.len V' hx) rfl) ?_;refine Ib ?_;intro b13 w13 I ws I;refine cr I (Bj x.m _ hxz) ?_;intro A56 c56 w56 I;rw[hel,hex] at I;rw[hel];refine ea ?_;refine Jh 14 58 (λa v V=>∃(j z:Nat),j<=n/\v=.int .i64 j/\a=.int .i64 z/\z=Ec (ns.take j).reverse ((Xb x.m).take j).reverse/\z<da (ns.take j)/\Hp w (.row A56 n c56 3 1 (Fa (sa (Xb x.m)))::.blk b13 72 [.string x.m,.bool x.c.neg,.string x.c.Ra,.int .i64 x.c.e] (0,0)::.blk b11 78 [.slice u N y,.slice (some ⟨b45,0,none⟩) (da ns) (da ns)] (0,0)::.row (some ⟨b45,0,none⟩) (da ns) (da ns) 30 3 (la NR.cells ((X0 ns.reverse (Sw (S.take i))).map nR))::.row u N y 3 1 (Fa D)::.blk b9 24 [.int .i64 qv,.slice (some ⟨gq,0,none⟩) qn qc] (0,0)::.row (some ⟨gq,0,none⟩) qn qc 72 4 (la TR.cells S)::.blk b6 78 [.slice none 0 0,.slice none 0 0] (0,0)::.blk b3 24 [.int .i64 p.v,.slice p.A p.n p.c] (0,0)::R) V) (λ_ v _=>n-(intOf v).toNat) ?_ ?_
  .exact yU
  clear I;rintro ρ3 a_ v w3 ⟨j,z,hj,rfl,rfl,hz,hz2,I⟩;by_cases hjn:j<n
  .obtain⟨d,T⟩:=aa (l:=ns) (k:=j) Z';obtain⟨r,hr⟩:=aa (l:=Xb x.m) (k:=j) Z';have hrd2:=hokat j d r T hr;have hd7:=h d (O' T);have hgD:(Fa D)[j]?=some (.int .i64 (d:Int)):=by rw[J];exact Db (jc T)
   have hgE:=Db (jc hr);have hst:=My T hr;have hcs:=dz T;rw[qb,qb] at hcs;rw[<-hz] at hst;have hct:=we ns (j+1);have hnew:r+(d+1)*z<(d+1)*da (ns.take j):=(by have:(d+1)*(z+1)<=(d+1)*da (ns.take j):=O_ _ hz2;rw[p9] at this;omega);have hpr:(z:Int)*((d:Int)+1)=(((d+1)*z:Nat):Int):=by rw[d',m_,G9];rfl
   have hDs:=hrd [_,_,_,_,_,_,_,_,_] _ I;obtain⟨ad,hMe,hsr2⟩:=hDs.at_ Z';have Ij:Value.slice M2 N o=.slice (some ad) N o:=by rw[hMe]
   have hel2:(Fa (sa (Xb x.m))).length=n:=by rw[Hb,Za];exact hesl
   obtain⟨gx,rfl⟩:=I.ib (i:=0) rfl Z';refine ea ?_;refine tJ ?_;refine sv (Eb (k:=j) Qa.out pa.size Ij rfl Z' Z') ?_;refine sv (Ma pa.out rfl (hsr2.Dl hgD)) ?_;refine ea ?_;rw[hpr];refine⟨⟨j+1,r+(d+1)*z,Z',rfl, ?_,hst.symm,Z',I⟩,by show n-(j+1)<n-j;omega, ?_⟩
   .show Value.int IntKind.i64 ((((d+1)*z:Nat):Int)+(r:Int))=_;rw[show(((d+1)*z:Nat):Int)+(r:Int)=((r+(d+1)*z:Nat):Int) by omega]
   exact Sb
  obtain rfl:j=n:=Z';rw[G' Z',G' Z'] at hz;rw[G' Z'] at hz2;rw[<-hz] at hset;generalize X0 ns.reverse (Sw (S.take i))=X at*;have hrl:=ee NR.len (X.map nR);refine ea ?_;refine tT ?_;refine Uv ?_;intro ws I;rw[hxc,show xb (la NR.cells (X.map nR)) (z*3) [.bool (nR x.c.fa).neg,.string (nR x.c.fa).Ra,.int .i64 (nR x.c.fa).e]=la NR.cells ((X.map nR).set z (nR x.c.fa)) from ve NR.len Z',<-c9,hset] at I;refine ea ?_;replace I:=I.sub (L' _ (L' _ (P' _ (P' _ (P' _ (P' _ (P' _ (P' _ (P' _ (u_ _))))))))));refine⟨⟨i+1,Z',rfl,I⟩,by show qn-(i+1)<qn-i;omega, ?_⟩;exact Sb
 obtain rfl:i=qn:=Z';rw[G' Z',show X0 ns.reverse (Sw S)=Iu ns.reverse (Sw S) 0 from rfl] at I;have hoff:=lH hsr;have hXz:=EJ (U0 (ds:=ns.reverse) hso.ok) (λd T=>h d (s8.1 T));have hnr:ns.reverse.length=n:=by rw[r'];omega
 refine ea ?_;replace I:=I.sub (P' _ (P' _ (P' _ (L' _ (L' _ (P' _ (P' _ (u_ _))))))));refine rf 82 (λv V=>∃(j:Nat)(A:Option Addr)(ac:Nat),j<=n/\v=.int .i64 j/\Hp w (.blk b11 78 [.slice u N y,.slice A (da ns) ac] (0,0)::.row A (da ns) ac 30 3 (la NR.cells ((Iu ns.reverse (Sw S) j).map nR))::.row u N y 3 1 (Fa D)::.blk b6 78 [.slice none 0 0,.slice none 0 0] (0,0)::.blk b3 24 [.int .i64 p.v,.slice p.A p.n p.c] (0,0)::R) V) (λv _=>n-(intOf v).toNat) ?_ ?_
 .exact⟨0,_,_,N' _,rfl,I⟩
 clear I;rintro ρ4 v w4 ⟨j,A,ac,hj,rfl,I⟩;by_cases hjn:j<n
 .obtain⟨d,T⟩:=aa (l:=ns) (k:=j) Z';have hd7:=h d (O' T);have hrm:=rX T;have hol:(Iu ns.reverse (Sw S) j).length=da ns:=by rw[CG,qb]
  have hof:=λZ hs=>wF M2 N o j d ns Z (by rw[<-J];exact hs) hmc2 Z' T h F;have hcn:da ns=da ((ns.drop (j+1)).reverse++d::(ns.take j).reverse):=by rw[<-hrm,qb]
  have hli:=λZ P hS1=>KI 169 (ns.drop (j+1)).reverse (ns.take j).reverse d (d+1) (Md d (We d 1 1)) A (da ns) ac (440000+S.length+520*j) (Iu ns.reverse (Sw S) j) Z P hS1 hcn F (F' _) hd7 (hXz j) (λY E ec w2 hT2 hy hs=>TD E (d+1) ec d Y _ w2 hT2 hs rfl hd7 hy Z') (λY _=>by simp[Md]);have hM:=ab5 (M:=We d 1 1) (A:=(ns.drop (j+1)).reverse) (B:=(ns.take j).reverse) (X:=Iu ns.reverse (Sw S) j) (hol.trans hcn);have hsu:=Bv ns.reverse (Sw S) j;have hgd:ns.reverse.getD (ns.reverse.length-1-j) 0=d:=(by rw[o_,l_ Z',show ns.length-1-(ns.reverse.length-1-j)=j by omega,T];rfl);rw[hgd,show ns.reverse.length-1-j=(ns.drop (j+1)).reverse.length by rw[r',r',Q9];omega] at hsu;rw[hol,<-hrm,<-hsu] at hM;rw[hM,qb] at hli;refine ea ?_;refine Od 5 I ?_;refine dC (λ_ hj=>hof _ (hrd [_,_,_,_,_] _ hj.hp)) ?_;refine ub ?_;refine dn ?_;intro W I;refine Vg (hli _ (hT.hp I) (I.ka (i:=1) rfl)) ?_;rintro e_ w90 ⟨E,ec,rfl,h4⟩;refine qG ?_;intro I;refine Gb ?_;intro ws I;replace I:=I.sub (P' _ (P' _ (L' _ (P' _ (P' _ (P' _ (u_ _)))))));refine ab8 ?_;intro I;refine⟨⟨j+1,E,ec,Z',rfl,I⟩,by show n-(j+1)<n-j;omega, ?_⟩;exact Sb
 obtain rfl:j=n:=Z';rw[hnl,hbl] at hoff;rw[hoff] at I;refine aaF ?_;intro ws I;exact⟨⟨u,N,y,A,da ns,ac,D,(Aj ns S).map nR⟩,⟨J,rfl,by show N<=100000;omega,by show da ns<=1000000;omega⟩,rfl,I.sub (.cons _ (.cons_cons _ (.cons_cons _ (N_ _))))⟩
variable {cs:List Value}
def HP(rest:List Value)(base:Nat)(t:TypeId)(n sz:Nat)(cs:List Value):VP:=λv W=>∃A c,v=.agg (.slice A n c::rest).toArray/\W.ownsRow base t sz (.slice A n c) n cs
def HP.ext{rest:List Value}{t:TypeId}{sz:Nat}(v:Value)(w V)(h:HP rest base t n sz cs v w)(F:Below w.heap.size w V):HP rest base t n sz cs v V:=let⟨A,c,h1,h2⟩:=h;⟨A,c,h1,wj h2 F⟩
def ie(p:PX)(b:List SR):FX:=xn (wb p.v p.ts) (Aj (wb p.v p.ts) (Qb p (Ca b)).2)
structure NI(D:List Nat)(X:List Dyadic):Prop where
 d12:D.length<=12
 d127:∀d∈D,d<=127
 NA:da D<=200
 lx:X.length=da D
 zx:∀x∈X,Sz 90000 x
def Zh(p q:PX)(b:List SR):CV:=⟨b.map SR.f,maxD [ie p b,ie q b],kj (maxD [ie p b,ie q b]) (ie p b),kj (maxD [ie p b,ie q b]) (ie q b)⟩
def Hj(p q:PX)(b:List SR):Int:=if sf p b []≠0 then sf p b [] else if sf q b []≠0 then sf q b [] else Nb [ie p b,ie q b]
def FX.is.nB{f:FX}{D:List Nat}(h:f.is D X)(M:f.at_ w):f.key=(xn D X).key:=by
 unfold FX.key xn;rw[h.ds,h.cs,(h.key M).1]
def To{f g s L:FX}(h1:f.key=s.key)(h2:g.key=L.key):Nb [f,g]=Nb [s,L]/\maxD [f,g]=maxD [s,L]/\∀D,kj D f=kj D s/\kj D g=kj D L:=by
 obtain⟨_,o,n,Q⟩:=LU (fs:=[f,g]) (gs:=[s,L]) (by simp[h1,h2]);refine⟨o,n,λD=> ?_⟩;have:=Q D;simp only[T_,f_,U6,and_true] at this;exact this
def qH(p q:PX)(L:Option Addr)(n c:Nat)(b:List SR)(k:Nat)(w:World)(M:Nd w)(hp:p.at_ w)(lp:p.qf k)(hq:q.at_ w)(lq:q.qf k)(hB:Sl w L n 6 (la SR.cells b))(N:∀s∈b,s.fin k)(hn:n<=1000000)(hk:k<=1000) (hgp:Cg p b (Xj p [])=0->Ge (k+k+16394) (wb p.v p.ts) (k+1)<=440000)(hgq:Cg q b (Xj q [])=0->Ge (k+k+16394) (wb q.v q.ts) (k+1)<=440000) (u:sf p b []=0->NI (ie p b).ns ((ie p b).cs.map NR.fa))(F:sf q b []=0->NI (ie q b).ns ((ie q b).cs.map NR.fa)):Calls prog 39 #[.agg #[.int .i64 p.v,.slice p.A p.n p.c],.agg #[.int .i64 q.v,.slice q.A q.n q.c],.slice L n c] w λr V=>∃(x:CX)(R:List HE),r=.returned (.tuple #[.agg x.cells.toArray,.int .i64 (Hj p q b)])/\(Hj p q b=0->x.v=Zh p q b/\x.fit/\∀y∈x.rows,y∈R)/\Hp w R V:=by
 have I:=Hp.start w;have e:=λZ P t=>XB p L n c b none 0 0 [] k Z P (hp.ext t) lp (hB.ext t) N hn (Sl.nil _ _ _) V' (F' _) hk hgp;replace e:∀Z,Nd Z->Below w.heap.size w Z->Calls prog 94 #[.agg #[.int .i64 p.v,.slice p.A p.n p.c],.slice L n c,.slice none 0 0] Z λr V=>∃g:FX,Out (sf p b []) (wb p.v p.ts) (Aj (wb p.v p.ts) (Qb p (Ca b)).2) g/\r=.returned (.tuple #[.agg #[.slice g.A g.n g.a,.slice g.B g.m g.b],.int .i64 (sf p b [])])/\Hp Z [g.mh,g.gg] V:=e;have j:=λZ P t=>XB q L n c b none 0 0 [] k Z P (hq.ext t) lq (hB.ext t) N hn (Sl.nil _ _ _) V' (F' _) hk hgq;replace j:∀Z,Nd Z->Below w.heap.size w Z->Calls prog 94 #[.agg #[.int .i64 q.v,.slice q.A q.n q.c],.slice L n c,.slice none 0 0] Z λr V=>∃g:FX,Out (sf q b []) (wb q.v q.ts) (Aj (wb q.v q.ts) (Qb q (Ca b)).2) g/\r=.returned (.tuple #[.agg #[.slice g.A g.n g.a,.slice g.B g.m g.b],.int .i64 (sf q b [])])/\Hp Z [g.mh,g.gg] V:=j;have hok:∀s∈b,s.ok:=λs hs=>⟨(N s hs).1.ok,(N s hs).2.ok⟩;have hfo:=λZ P t=>Ol L n c b Z P (hB.ext t) hok hn;have nsp:(ie p b).ns=wb p.v p.ts:=Yg _
 have nsq:(ie q b).ns=wb q.v q.ts:=Yg _;have T:(ie p b).cs.map NR.fa=Aj (wb p.v p.ts) (Qb p (Ca b)).2:=by unfold ie xn;rw[E_];exact(J9 λy _=>Ta y).trans (p8 _)
 have csq:(ie q b).cs.map NR.fa=Aj (wb q.v q.ts) (Qb q (Ca b)).2:=by unfold ie xn;rw[E_];exact(J9 λy _=>Ta y).trans (p8 _)
 rw[nsp,T] at u;rw[nsq,csq] at F;clear nsp nsq T csq;have eP:ie p b=xn (wb p.v p.ts) (Aj (wb p.v p.ts) (Qb p (Ca b)).2):=rfl;have eQ:ie q b=xn (wb q.v q.ts) (Aj (wb q.v q.ts) (Qb q (Ca b)).2):=rfl;unfold Zh Hj;rw[eP,eQ];clear eP eQ;generalize Aj (wb p.v p.ts) (Qb p (Ca b)).2=X at*;generalize Aj (wb q.v q.ts) (Qb q (Ca b)).2=Y at*;generalize wb p.v p.ts=DP at*;generalize wb q.v q.ts=DQ at*;generalize sf p b []=E1 at*;generalize sf q b []=E2 at*;by_cases o:E1≠0
 .rw[Q' o];refine Ga func39 ?_;refine Ii ?_;intro b3 w3 I b4 w4 I b6 w6 I;refine Vg (e _ (M.hp I) I.below) ?_;rintro e_ w16 ⟨f,Q,rfl,G⟩;refine⟨_,rfl, ?_⟩;replace I:=I.join G;simp only[I',J'] at I;clear G;refine Ii ?_;intro b8 w8 I ws I ws I;refine kB (jb rfl (kb (vs:=[_,_,_,_,_]) pa.out (I.wa (i:=3) (n:=5) rfl rfl) rfl) (Dc (Sc rfl) Ub)) ?_;exact⟨⟨none,0,0,FX.nil,FX.nil,⟨[],[],[],[]⟩⟩,_,rfl,λh=>absurd h o,I⟩
 rw[R' o];obtain rfl:E1=0:=C9.1 o;by_cases C:E2≠0
 .rw[Q' C];refine Ga func39 ?_;refine Ii ?_;intro b3 w3 I b4 w4 I b6 w6 I;refine Vg (e _ (M.hp I) I.below) ?_;rintro e_ w16 ⟨f,Q,rfl,G⟩;refine⟨_,rfl, ?_⟩;replace I:=I.join G;simp only[I',J'] at I;clear G;refine Ib ?_;intro b8 w8 I ws I;refine Vg (j _ (M.hp I) I.below) ?_;rintro e_ w26 ⟨g,o2,rfl,G⟩;refine⟨_,rfl, ?_⟩;replace I:=I.join G;simp only[I',J'] at I;clear G;refine Ii ?_;intro b10 w10 I ws I ws I;refine kB (jb rfl (kb (vs:=[_,_,_,_,_]) pa.out (I.wa (i:=6) (n:=5) rfl rfl) rfl) (Dc (Sc rfl) Ub)) ?_;exact⟨⟨none,0,0,FX.nil,FX.nil,⟨[],[],[],[]⟩⟩,_,rfl,λh=>absurd h C,I⟩
 rw[R' C];obtain rfl:E2=0:=C9.1 C;replace u:=u rfl;replace F:=F rfl;refine Ga func39 ?_;refine Ii ?_;intro b3 w3 I b4 w4 I b6 w6 I;refine Vg (e _ (M.hp I) I.below) ?_;rintro e_ w16 ⟨f,Q,rfl,G⟩;refine⟨_,rfl, ?_⟩;replace I:=I.join G;simp only[I',J'] at I;clear G;refine Ib ?_;intro b8 w8 I ws I;refine Vg (j _ (M.hp I) I.below) ?_;rintro e_ w26 ⟨g,o2,rfl,G⟩;refine⟨_,rfl, ?_⟩;replace I:=I.join G;simp only[I',J'] at I;clear G;have J:=(FX.at_.mk (I.ka (i:=4) rfl) (I.ka (i:=3) rfl):f.at_ _);have K:=(FX.at_.mk (I.ka (i:=1) rfl) (I.ka (i:=0) rfl):g.at_ _);have S:f.is DP X:=⟨Q.ds,Q.cs⟩;have H:g.is DQ Y:=⟨o2.ds,o2.cs⟩;have hp1:=u.NA;have hq1:=F.NA;have hp2:=u.lx;have hq2:=F.lx;have flim:=S.qf J u.d12 u.lx Z' u.zx V';have glim:=H.qf K F.d12 F.lx Z' F.zx V';have fm:=(S.key J).2;have gm:=(H.key K).2;have l:=λZ P (h1:f.at_ Z) (h2:g.at_ Z)=>PN f g 90000 Z P h1 h2 flim glim Z' Z' V';obtain⟨k1,k2,k3⟩:=To (S.nB J) (H.nB K);rw[k1,k2,(k3 _).1,(k3 _).2] at l;generalize Nb [xn DP X,xn DQ Y]=E at*
 generalize maxD [xn DP X,xn DQ Y]=D at*;generalize kj D (xn DP X)=X2 at*;generalize kj D (xn DQ Y)=Y2 at*;refine Ib ?_;intro b10 w10 I ws I;refine Vg (l _ (M.hp I) ⟨I.ka (i:=5) rfl,I.ka (i:=4) rfl⟩ ⟨I.ka (i:=2) rfl,I.ka (i:=1) rfl⟩) ?_;rintro e_ w36 ⟨x,y,ox,oy,rfl,G⟩;refine⟨_,rfl, ?_⟩;replace I:=I.join G;simp only[I',J'] at I;clear G;refine Kx ?_;intro b11 w11 I b12 w12 I ws I ws I;refine gz [] [5] 6 I ?_;refine OA ?_;refine ua (i:=1) (Vr ws.heap.size 36 n 6 (la SR.cells (b.map SR.f))) (Vr.ext) ?_ ?_
 .intro U Z hj hR;exact rb rfl (Ha fi (na hR.1 Oa)) (hfo Z (M.hp hj.hp) hj.hp.below) (λ_ _ ⟨A,c,hq,ho,N⟩=>⟨_,hq,N,A,c,rfl,bh ho hj.bl.size⟩)
 refine ub ?_;refine ua (i:=4) (HP [.slice x.A x.n x.a,.slice x.B x.m x.b,.slice y.A y.n y.a,.slice y.B y.m y.b] ws.heap.size 36 n 6 (la SR.cells (b.map SR.f))) (HP.ext) ?_ ?_
 .intro U Z hj hR;exact let⟨A,c,e1,Q⟩:=hR.1;ic rfl (Hn (cs:=[_,_,_,_,_]) pa.out nj.out (Bb e1 (Bb hR.2.1 (Bb hR.2.2.1 Ld))) rfl) ⟨Below.refl _ _,A,c,rfl,Q⟩
 refine Gv ?_;refine xa ?_;intro f W hJ hV _;obtain⟨v45,v44,v43,v42,v41,v40,_⟩:=hV;obtain⟨A44,c44,e44,o44⟩:HP _ _ _ _ _ _ (f 4) W:=v44;replace I:=JJ.UE I hJ.hp o44;clear o44;refine Be ?_;clear e44 hJ;refine Gb ?_;intro ws I;refine kB (jb rfl (kb (vs:=[_,_,_,_,_]) pa.out (I.wa (i:=13) (n:=5) rfl rfl) rfl) (Dc (Sc rfl) Ub)) ?_;refine⟨⟨A44,n,c44,x,y,⟨b.map SR.f,D,X2,Y2⟩⟩,_,rfl,λh=> ?_,I⟩;subst h;refine⟨rfl,⟨⟨ox.ds,ox.cs⟩,oy.ds,oy.cs⟩,λz hz=> ?_⟩;simp only[CX.rows,y',i_,or_false] at hz |-;obtain rfl|rfl|rfl|rfl|rfl:=hz<;>simp
def LC{f g s L:FX}(h1:f.key=s.key)(h2:g.key=L.key)(p:Int):Zf f g=Zf s L/\De f g p=De s L p:=by
 obtain⟨J,o,n⟩:=To h1 h2;unfold De Zf;rw[J,o,(n _).1,(n _).2];exact⟨rfl,rfl⟩
def WH{g L:FX}(h:g.key=L.key)(eps:Dyadic):Gm g eps=Gm L eps/\gl g eps=gl L eps:=by
 obtain⟨A,n,a,B,m,b,ds,cs⟩:=g;obtain⟨T,q,a',c,p,d,e,j⟩:=L;unfold FX.key at h;simp only[Prod.mk.injEq] at h;obtain⟨rfl,rfl,rfl⟩:=h;exact⟨rfl,rfl⟩
def Au(x:CX)(p:Int)(w)(S:Nd w)(C:x.at_ w)(Y:x.fit)(W:x.v.ok)(L: -1000<=p)(H:p<=1000):Zc 33 #[x.f.V,x.g.V,.int .i64 p] w (.tuple #[.agg (SR.cells (De x.v.f x.v.g p)).toArray,.int .i64 (Zf x.v.f x.v.g)]):=by
 have lx:=W.lx;have ly:=W.ly;have E:=W.NA;have k1:=Y.f.nB C.f.at_;have k2:=Y.g.nB C.g.at_;obtain⟨G,T⟩:=LC k1 k2 p;obtain⟨J,o,c⟩:=To k1 k2;have h:=OI x.f x.g 90000 p w S C.f.at_ C.g.at_ (Y.f.qf C.f.at_ W.d12 W.lx Z' W.zx V') (Y.g.qf C.g.at_ W.d12 W.ly Z' W.zy V') (by rw[(Y.f.key C.f.at_).2];omega) (by rw[(Y.g.key C.g.at_).2];omega) V' (by rw[J,o,(c _).1,(c _).2];exact W.up) L H;rw[G,T] at h;exact h
def SH(x:CX)(eps:NR)(w)(S:Nd w)(C:x.at_ w)(Y:x.fit)(W:x.v.ok)(he:eps.ok):Zc 41 #[x.g.V,eps.V] w (.tuple #[.int .i64 (gl x.v.g eps.fa:Nat),.int .i64 (Gm x.v.g eps.fa)]):=by
 have E:=W.NA;obtain⟨G,T⟩:=WH (Y.g.nB C.g.at_) eps.fa;have h:=pL x.g eps 90000 w S C.g.at_ (Y.g.qf C.g.at_ W.d12 W.ly Z' W.zy V') he V';rw[G,T] at h;exact h
structure RV where
 k:Int
 s:SR
 at_:List NR
def dW:RV:=⟨0,CK,[]⟩
def RV.cells(R:RV)(A:Option Addr)(m c:Nat):List Value:=.int .i64 R.k::(SR.cells R.s++[.slice A m c])
def TT(b:List SR)(k:Int):List NR:=b.mapIdx λi s=>cond (il k i) s.f.hi s.f.lo
def Enc(eps:Dyadic)(p bu:Int):Nat->Nat->List CV->List SR->RV->Int->Int->Prop
 |_,_,[],_,R,k,e=>R=dW/\k=0/\e=3
 |0,_,_::_,_,_,_,_=>False
 |f+1,n,c::st,l,R,k,e=>if bu<n then R=dW/\k=0/\e=3 else c.ok/\
   if Zf c.f c.g=0 then(De c.f c.g p).ok/\
    if st=[] then R=⟨1,Se (l++[De c.f c.g p]),[]⟩/\k=n/\e=0 else Enc eps p bu f (n+1) st (l++[De c.f c.g p]) R k e
   else if Gm c.g eps=0 then R=⟨2,CK,TT c.b (gl c.g eps)⟩/\k=n/\e=0
   else ∃(a:Nat)(s:SR),(∀v,Cm c.b v->v=(a:Int))/\c.b[a]?=some s/\a<c.D.length/\Enc eps p bu f (n+1) (c.half a s false::c.half a s true::st) l R k e
def Fm(p q:PX)(b:List SR)(eps:NR)(grid bu:Int)(f:Nat)(R:RV)(k e:Int):Prop:=
 if Hj p q b≠0 then R=dW/\k=0/\e=Hj p q b else if eps.i.sign<=0 then R=dW/\k=0/\e=1 else Enc eps.fa grid bu f 1 [Zh p q b] [] R k e
def jr(p q:PX)(L:Option Addr)(n c:Nat)(b:List SR)(eps:NR)(grid bu:Int)(f:Nat)(R:RV)(k e:Int)(u:Nat)(w:World)(S:Nd w)(hp:p.at_ w)(lp:p.qf u)(hq:q.at_ w)(lq:q.qf u)(hB:Sl w L n 6 (la SR.cells b))(hb:∀s∈b,s.fin u)(hn:n<=1000000)(hk0:u<=1000) (hgp:Cg p b (Xj p [])=0->Ge (u+u+16394) (wb p.v p.ts) (u+1)<=440000)(hgq:Cg q b (Xj q [])=0->Ge (u+u+16394) (wb q.v q.ts) (u+1)<=440000) (fp:sf p b []=0->NI (ie p b).ns ((ie p b).cs.map NR.fa))(fq:sf q b []=0->NI (ie q b).ns ((ie q b).cs.map NR.fa))(he:eps.ok)(hg1: -1000<=grid)(hg2:grid<=1000)(t: -9223372036854775808<=bu)(hb2:bu<=10000)(hR:Fm p q b eps grid bu f R k e):Calls prog 10 #[.agg #[.int .i64 p.v,.slice p.A p.n p.c],.agg #[.int .i64 q.v,.slice q.A q.n q.c],.slice L n c,.agg #[.bool eps.neg,.string eps.Ra,.int .i64 eps.e],.int .i64 grid,.int .i64 bu] w λr V=>∃A m c',r=.returned (.tuple #[.agg (R.cells A m c').toArray,.int .i64 k,.int .i64 e])/\Hp w [.row A m c' 30 3 (la NR.cells R.at_)] V:=by
 have I:=Hp.start w;have X:=λZ P t=>qH p q L n c b u Z P (hp.ext t) lp (hq.ext t) lq (hB.ext t) hb hn hk0 hgp hgq fp fq;unfold Fm at hR;generalize Hj p q b=E at*;by_cases hE:E≠0
 .rw[Q' hE] at hR;obtain⟨rfl,rfl,rfl⟩:=hR;refine Ga func10 ?_;refine Kx ?_;intro b6 w6 I b7 w7 I b9 w9 I Q w12 I;refine Vg (X _ (S.hp I) I.below) ?_;rintro H w31 ⟨x0,R0,rfl,hx0,G⟩;refine⟨_,rfl, ?_⟩;replace I:=I.join G;clear G;replace I:=I.perm e8;simp only[I',J'] at I;refine Ii ?_;intro b15 w15 I ws I ws I;exact lV
 rw[R' hE] at hR;obtain rfl:E=0:=C9.1 hE;by_cases K:eps.i.sign<=0
 .rw[Q' K] at hR;obtain⟨rfl,rfl,rfl⟩:=hR;refine Ga func10 ?_;refine Kx ?_;intro b6 w6 I b7 w7 I b9 w9 I Q w12 I;refine Vg (X _ (S.hp I) I.below) ?_;rintro H w31 ⟨x0,R0,rfl,hx0,G⟩;refine⟨_,rfl, ?_⟩;replace I:=I.join G;clear G;replace I:=I.perm e8;simp only[I',J'] at I;refine Ib ?_;intro b15 w15 I ws I;refine Vg (Jd eps _) ?_;rintro H w39 ⟨rfl,M⟩;refine⟨_,rfl, ?_⟩;replace I:=I.ext M;generalize eps.i.sign=g at*;refine Gb ?_;intro ws I;exact lV
 rw[R' K] at hR;have hsb:=Yi eps.i;refine Ga func10 ?_;refine Kx ?_;intro b6 w6 I b7 w7 I b9 w9 I Q w12 I;refine Vg (X _ (S.hp I) I.below) ?_;rintro H w31 ⟨x0,R0,rfl,hx0,G⟩;refine⟨_,rfl, ?_⟩;replace I:=I.join G;clear G;replace I:=I.perm e8;simp only[I',J'] at I;refine Ib ?_;intro b15 w15 I ws I;obtain⟨hv0,hf0,hm0⟩:=hx0 rfl;refine Vg (Jd eps _) ?_;rintro H w39 ⟨rfl,M⟩;refine⟨_,rfl, ?_⟩;replace I:=I.ext M;generalize eps.i.sign=g at*;refine ea ?_;refine vc I (cs:=[_,_,_,_,_]) Qa.out pa.out (Bb (Xe rfl) Ld) rfl rfl V' V' V' rfl V' ?_;intro b43 w43 I;refine ea ?_;replace I:=I.yb 36 6;rw[<-hv0] at hR;replace I:=I.sub (P' _ (P' _ (L' _ (P' _ (P' _ (L' _ (L' _ (u_ _))))))))
 refine Wk [13,14,17,18,19,20,21,22,23,24,25,26,44,45,46,47,48,49,50,51,52,53,54,55,56,57,58,59,60,61,62,63,64,65,66,67,68,69,70,71,72,73,74,75,76,77,78,79,80,81,82,83,84,85,86,87,88,89,90,91,92,93,94,95,96,97,98,99,100,101,102,103,104,105,106,107,108,109,110] 17 18 19 (λv17 v18 v V=>∃(i W:Nat)(xs:List CX)(l:List SR)(A1:Option Addr)(N c1:Nat)(T:Option Addr)(m c2:Nat)(Rw:List HE),v=.int .i64 i/\v17=.slice A1 N c1/\l.length=N/\v18=.slice T m c2/\xs.length=m/\Enc eps.fa grid bu W i (xs.map CX.v) l R k e/\(∀x∈xs,x.fit/\∀y∈x.rows,y∈Rw)/\(∀s∈l,s.ok)/\N<i/\(i:Int)<=max bu 0+1/\m<=2*i/\Hp w (.row A1 N c1 36 6 (la SR.cells l)::.row T m c2 84 5 (la CX.cells xs.reverse)::.blk Q 40 [.int .i64 0,.bool false,.string (ByteArray.mk #[]),.int .i64 0,.bool false,.string (ByteArray.mk #[]),.int .i64 0,.slice none 0 0] (0,0)::.blk b9 30 [.bool eps.neg,.string eps.Ra,.int .i64 eps.e] (0,0)::Rw) V) (λ_ _ v _=>(max bu 0+2).toNat-(intOf v).toNat) ?_ ?_
 .exact⟨1,f,[x0],[],none,0,0,_,1,_,R0,rfl,rfl,rfl,rfl,rfl,hR,λx hx=>by obtain rfl:=k'.1 hx;exact⟨hf0,hm0⟩,λs K=>absurd K i_,V',Z',V',I⟩
 clear I;rintro ρ' v17 v18 v V ⟨i,W,xs,l,A1,N,c1,T,m,c2,Rw,rfl,rfl,hq1,rfl,hm,C,J,hl,hli,hib,hxl,I⟩
 cases xs with
 |nil=>
  obtain rfl:m=0:=hm.symm;obtain⟨rfl,rfl,rfl⟩:R=dW/\k=0/\e=3:=by cases W<;>exact C
  exact G0
 |cons x r=>
  obtain rfl:m=r.length+1:=hm.symm
  cases W with
  |zero=>exact absurd C id
  |succ W=>
   rw[T_,Enc] at C;by_cases hbu:bu<i
   .rw[Q' hbu] at C;obtain⟨rfl,rfl,rfl⟩:=C;exact G0
   rw[R' hbu] at C;obtain⟨o,C⟩:=C;obtain⟨Y,hmx⟩:=J x E';have hget:(x::r).reverse[r.length]?=some x:=by rw[Y8,R9 (by simp),r',t_];rfl
   obtain⟨gT,rfl⟩:=I.ib (i:=1) rfl Z';refine qa (sr (mL (Df ?_)));refine Jr (ia (cT (db (Va (qa (Pc (qa (sr (mI (mI ?_))))))))));refine Jr (ia (cF (db (Va (sr (mL (mL (Df ?_))))))));refine su ?_;refine sv (Kc (k:=r.length) Qa.out pa.size rfl rfl Z' Z') ?_;refine sv (Ua (vs:=[_,_,_,_,_]) pa.out rfl (I.Wc (f:=CX.cells) (x:=x) (l:=(x::r).reverse) (i:=1) rfl CX.len V' hget) rfl) ?_;have hcap:=I.Ae (i:=1) rfl;refine Ib ?_;intro KX w20 I ws I;refine sv (cj (h:=r.length) Qa.out pa.size rfl rfl Z' Z') ?_;refine ea ?_;replace I:=I.perm (U_ (l₁:=[_,_]));simp only[I',J'] at I;replace I:=I.AF (k:=r.length) Z';rw[wi CX.len,show(x::r).reverse.take r.length=r.reverse by simp] at I;have hbd:=λZ P hx1=>Au x grid Z P hx1 Y o hg1 hg2;generalize De x.v.f x.v.g grid=j at*;generalize Zf x.v.f x.v.g=BE at*;refine Vg (hbd _ (S.hp I) (.of I λy hy=>H_ [_,_,_,_,_] (hmx y hy))) ?_;rintro H w70 ⟨rfl,M⟩;refine⟨_,rfl, ?_⟩;replace I:=I.ext M;by_cases hB0:BE=0
   .subst hB0;rw[Q' rfl] at C;obtain⟨hVo,C⟩:=C;have hlo:∀s∈l++[j],s.ok:=List.forall_mem_append.2 ⟨hl,λs K=>by obtain rfl:=k'.1 K;exact hVo⟩;have hhull:=λA c Z P hS1=>Iz A (N+1) c (l++[j]) Z P hS1 hlo Z'
    cases r with
    |nil=>
     rw[f_,Q' rfl] at C;obtain⟨rfl,rfl,rfl⟩:=C;refine Ib ?_;intro b21 w21 I ws I;refine yC ?_;intro b77 w77 I;refine zR ?_;intro A78 c78 w78 I;simp only[l',Z9] at I;replace I:=I.sub (d_ _ _);refine ea ?_;refine Vg (hhull _ _ _ (S.hp I) (show Sl _ _ _ _ (la SR.cells (l++[j])) from by rw[Na];exact I.ka (i:=3) rfl)) ?_;rintro H w83 ⟨rfl,M⟩;refine⟨_,rfl, ?_⟩;replace I:=I.ext M;refine Gb ?_;intro ws I;refine YH (jb rfl (kb (vs:=[_,_,_,_,_,_,_,_]) pa.out (I.wa (i:=4) (n:=8) rfl rfl) rfl) (Dc (Sc rfl) (Dc (Sc rfl) Ub))) ?_;exact yQ
    |cons y r=>
     rw[T_,R' (by simp)] at C;refine Ib ?_;intro b21 w21 I ws I;refine yC ?_;intro b77 w77 I;refine zR ?_;intro A78 c78 w78 I;simp only[l',Z9] at I;replace I:=I.sub (d_ _ _);refine ea ?_;replace I:=I.perm (U_ (l₁:=[_]));simp only[I',J'] at I;replace I:=I.perm (U_ (l₁:=[_,_,_]));simp only[I',J'] at I;replace I:=I.sub (P' _ (P' _ (L' _ (L' _ (P' _ (P' _ (u_ _)))))));refine⟨⟨i+1,W,y::r,l++[j],A78,N+1,c78,_,_,c2,Rw,rfl,rfl,by rw[D',hq1];rfl,rfl,rfl,C,λz F=>J z (u' _ F),hlo,Z',Z', ?_, ?_⟩, ?_, ?_⟩
     .omega
     .rw[Na];exact I
     .exact yY
     exact Sb
   rw[R' hB0] at C;have hnr:=λZ P hx1=>SH x eps Z P hx1 Y o he;have B:∀Z,x.at_ Z->x.n<=20:=λZ h1=>(by have:=h1.b.Aa SR.len V';have:=o.KX;omega);generalize Gm x.v.g eps.fa=NE at*;generalize gl x.v.g eps.fa=NK at*;refine Ib ?_;intro b21 w21 I ws I;have D:=CX.at_.of (x:=x) I λy hy=>H_ [_,_,_,_,_,_] (hmx y hy);replace B:=B _ D;refine Vg (hnr _ (S.hp I) D) ?_;rintro H w90 ⟨rfl,M⟩;refine⟨_,rfl, ?_⟩;replace I:=I.ext M;replace D:=D.ext M;by_cases hN0:NE=0
   .subst hN0;rw[Q' rfl] at C;obtain⟨rfl,rfl,rfl⟩:=C;refine ea ?_;refine vU I (fB x.pe x.n x.c x.v.b (NK:Int) _ (S.hp I) D.b (λs K=>⟨(o.bx s K).1.ok,(o.bx s K).2.ok⟩) Z') rfl ?_;intro A98 c98 w98 I;refine Gb ?_;intro ws I;refine YH (jb rfl (kb (vs:=[_,_,_,_,_,_,_,_]) pa.out (I.wa (i:=5) (n:=8) rfl rfl) rfl) (Dc (Sc rfl) (Dc (Sc rfl) Ub))) ?_;exact⟨A98,x.n,c98,rfl,I.sub (.cons_cons _ (N_ _))⟩
   rw[R' hN0] at C;obtain⟨a,s,hW,K,had,C⟩:=C;refine ea ?_;have D:=CX.at_.of (x:=x) I λy hy=>H_ [_,_,_,_,_,_] (hmx y hy);refine Vg (oE x a s _ (S.hp I) D Y o hW K had) ?_;rintro H w103 ⟨lo,up,R2,rfl,e1,e2,hfl,hfu,hm2,G⟩;refine⟨_,rfl, ?_⟩;replace I:=I.join G;clear G;replace I:=I.perm e8;simp only[I',J'] at I;rw[<-e1,<-e2] at C;refine Kx ?_;intro b25 w25 I b26 w26 I ws I ws I;refine vc I (cs:=[_,_,_,_,_,_,_,_,_,_]) Qa.out pa.out (Bb (Xe rfl) (Bb (Xe rfl) Ld)) rfl rfl V' V' V' rfl V' ?_;intro b109 w109 I;refine zR ?_;intro A110 c110 w110 I;simp only[l',Z9] at I;replace I:=I.sub (d_ _ _);refine ea ?_;replace I:=I.perm (U_ (l₁:=[_,_,_]));simp only[I',J'] at I;replace I:=I.perm (U_ (l₁:=[_,_,_,_,_]));simp only[I',J'] at I
   replace I:=I.sub (P' _ (P' _ (L' _ (L' _ (L' _ (L' _ (P' _ (P' _ (u_ _)))))))));refine⟨⟨i+1,W,lo::up::r,l,A1,N,c1,A110,_,c110,Rw++R2,rfl,rfl,hq1,rfl,rfl,C,λz F=> ?_,hl,Z',Z', ?_, ?_⟩, ?_, ?_⟩
   .obtain rfl|F:=y'.1 F
    .exact⟨hfl,λy hy=>H_ _ (hm2 y (q9 _ hy))⟩
    obtain rfl|F:=y'.1 F
    .exact⟨hfu,λy hy=>H_ _ (hm2 y (H_ _ hy))⟩
    exact⟨(J z (u' _ F)).1,λy hy=>q9 _ ((J z (u' _ F)).2 y hy)⟩
   .show r.length+2<=_;omega
   .rw[show(lo::up::r).reverse=r.reverse++[up,lo] by simp,Na];exact I
   .exact yY
   exact Sb
structure Marks(w0:World)(M:List Nat)(w:World):Prop where
 at_:∀D∈M,w0.heap.size<=D/\w.heap[D]?=some (.deferred (some []))
 nd:M.Nodup
def ahh(d:Nat)(t:Dyadic)(xs:List Dyadic)(i:Nat):Dyadic:=sm (List.range i) λr=>Hg xs r*vg d r t
def agv(K q:Nat)(X:List Dyadic):List Dyadic:=(X.drop (q*K)).take K
def evE(L:FX)(m:Nat):Int:=if L.e≠0 then L.e else if m≠L.n then 1 else 0
def evV(L:FX)(C:List NR):Dyadic:=if evE L C.length=0 then Ug L.ns.reverse (L.cs.map NR.fa) (C.map NR.fa).reverse else 0
end Go.Proofs.YtbencocchdpikaaGreatDoor
