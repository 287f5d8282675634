/- The row and the card of SolveAll. -/
import Derived.Scope
import Derived.Test.YtbencocchdpikaaGreatDoorCards
import Derived.Test.YtbencocchdpikaaGreatDoorTie
import Derived.SevenTiedAt
import Derived.Test.YtbencocchdpikaaGreatDoorZ8
set_option linter.all false
set_option maxHeartbeats 0
namespace Go.Proofs.YtbencocchdpikaaGreatDoor
open Go.Proofs.Tryz
open Go.RowKit
variable {k:Nat}
def WI{d a:Nat}(t:Dyadic)(h:a<=d):sm (List.range (d+1)) (λr=>wg d 1 1 a r*Mt d r t)=t^a:=by
 have e0:(λr=>wg d 1 1 a r*Mt d r t)=λk=>if k<a then 0 else(λj=>nD (bin (d-a) j)*Mt d (j+a) t) (k-a):=funext λk=>by
  unfold wg;by_cases hk:k<a
  .rw[J' hk,J' hk,Dyadic.zero_mul]
  rw[L' hk,L' hk,Zk,Zk];show nD (bin (d-a) (k-a))*1*1*Mt d k t=nD (bin (d-a) (k-a))*Mt d (k-a+a) t;rw[Nat.sub_add_cancel Z'];grind
 have hb:=aem (d-a) t (1-t);rw[show t+(1-t)=1 by grind,Zk] at hb;rw[e0,adu d a h λj=>nD (bin (d-a) j)*Mt d (j+a) t];have e1:∀j,j∈List.range (d-a+1)->nD (bin (d-a) j)*Mt d (j+a) t=t^a*(nD (bin (d-a) j)*t^j*(1-t)^(d-a-j)):=λj hj=>(by have:=g_.1 hj;unfold Mt;rw[show d-(j+a)=d-a-j by omega,jA];grind);rw[md e1,Vk,hb];grind
variable {ds:List Nat}
def eR:∀(ds s:List Nat)(ts:List Dyadic),Nj ds s->ts.length=ds.length->sm (List.range (la ds)) (λp=>wK 0 ds s (Eb ds p)*Az ds (Eb ds p) ts)=dh s ts
 |[],[],[],_,_=>by show(1:Dyadic)*1+0=1;grind
 |[],_::_,_,h,_=>by cases h
 |_::_,[],_,h,_=>by cases h
 |[],[],_::_,_,h=>by cases h
 |_::_,_::_,[],_,h=>by cases h
 |d::ds,a::s,t::ts,h1,h2=>(by have ih:=eR ds s ts h1.2 (by simpa using h2);rw[QW,dh,<-ih,<-WI t h1.1,<-Vk];refine md λq _=> ?_;rw[<-Ht];refine md λr hr=> ?_;have hr2:=g_.1 hr;rw[Eb,R7,h_ hr2,Q8 _ _ Z',L9 hr2,C_,Az];show wg d 1 1 a r*wK 0 ds s (Eb ds q)*_=_;grind)
def Ks:∀(s:List Nat)(ts:List Dyadic)(a:Nat)(t:Dyadic),s.length=ts.length->dh (s++[a]) (ts++[t])=dh s ts*t^a
 |[],[],a,t,_=>by show t^a*1=1*t^a;grind
 |[],_::_,_,_,h=>by cases h
 |_::_,[],_,_,h=>by cases h
 |b::s,u::ts,a,t,h=>(by show u^b*dh (s++[a]) (ts++[t])=u^b*dh s ts*t^a;rw[Ks s ts a t (by simpa using h)];grind)
def TG:∀(s:List Nat)(ts:List Dyadic),s.length=ts.length->dh s.reverse ts.reverse=dh s ts
 |[],[],_=>rfl
 |[],_::_,h=>by cases h
 |_::_,[],h=>by cases h
 |b::s,u::ts,h=>(by rw[D7,D7,Ks _ _ _ _ (by simpa using h),TG s ts (by simpa using h),dh];grind)
def acJ{ns:List Nat}{S:List TR}{ts:List Dyadic}(hS:∀t∈S,Nj ns.reverse (Kc t.m).reverse)(ht:ts.length=ns.length):jq ns.reverse (Uo ns S) ts=ti ts.reverse S:=by
 unfold jq;have e1:sm (List.range (la ns.reverse)) (λp=>((Uo ns S)[p]?).getD 0*Az ns.reverse (Eb ns.reverse p) ts)=sm (List.range (la ns.reverse)) λp=>sm S λt=>t.c.ma*(wK 0 ns.reverse (Kc t.m).reverse (Eb ns.reverse p)*Az ns.reverse (Eb ns.reverse p) ts):=md λp hp=>(by unfold Uo;rw[V_,z9 (g_.1 hp)];show wS _ S*_=_;rw[YK,<-Ht];exact md λt _=>by grind);rw[e1,rN];unfold ti;rw[YK];refine md λt h=> ?_;rw[Vk,eR _ _ _ (hS t h) (by rw[c_];exact ht)];have hl:=UL (hS t h);rw[c_,c_] at hl;have:=TG (Kc t.m).reverse ts (by rw[c_,hl,ht]);rw[u6] at this;rw[this]
def aX(f:ByteArray->Dyadic)(c:Dyadic)(l:List TR):wS f (l.map (Fp c))=wS f l*c:=by
 induction l with
 |nil=>exact(Dyadic.zero_mul _).symm
 |cons t l ih=>
  rw[q_,wS,wS,ih];show(nR (t.c.ma*c)).ma*f t.m+_=_;rw[Za];grind
variable {xs:List Dyadic}
def KG:∀(v i:Nat)(xs:List Dyadic),xs.length=v->i<v->dh (((List.replicate v 0).set i 1)) xs=(xs[i]?).getD 0
 |0,_,_,_,h=>absurd h (Nat.not_lt_zero _)
 |v+1,i,[],h,_=>by cases h
 |v+1,0,x::xs,h,_=>(by show x^1*dh (List.replicate v 0) xs=x;rw[Rk];grind)
 |v+1,i+1,x::xs,h,hi=>(by show x^0*dh ((List.replicate v 0).set i 1) xs=(xs[i]?).getD 0;rw[KG v i xs (by simpa using h) Z',p7];grind)
def PR(v i:Nat):Kc (Mk v i)=(List.replicate v 0).set i 1:=by
 unfold Kc Mk;show((((List.replicate (v:Int).toNat (0:UInt8)).set i 1).toArray).toList).map UInt8.toNat=_;rw[List.toList_toArray,Z8,List.map_replicate];rfl
def jo(v:Nat):Kc (Hd v)=List.replicate v 0:=by
 unfold Kc Hd;show(((List.replicate (v:Int).toNat (0:UInt8)).toArray).toList).map UInt8.toNat=_;rw[List.toList_toArray,List.map_replicate];rfl
def YU{v i:Nat}{s:SR}(hx:xs.length=v)(hi:i<v):ti xs (th v i s)=s.ye+(s.jh-s.ye)*(xs[i]?).getD 0:=by
 unfold th gl Pv nC;rw[zg,Tl,zg,zg];have e1:ti xs [⟨Hd v,nR s.ye⟩]=s.ye:=(by show(nR s.ye).ma*dh (Kc (Hd v)) xs+0=_;rw[Za,jo,Rk];grind);have e2:ti xs ((sa [⟨Mk v i,nR ((1:Int):Dyadic)⟩]).map (Fp (s.jh-s.ye)))=(xs[i]?).getD 0*(s.jh-s.ye):=(by unfold ti;rw[aX,Vs];show((nR ((1:Int):Dyadic)).ma*dh (Kc (Mk v i)) xs+0)*_=_;rw[Za,PR,KG v i xs hx hi,show(((1:Int):Dyadic))=1 from rfl];grind);rw[e1,e2];grind
def zz(b:List SR)(xs:List Dyadic):List Dyadic:=b.mapIdx λi s=>s.ye+(s.jh-s.ye)*(xs[i]?).getD 0
def cP{b:List SR}(hx:xs.length=b.length):(db b).map (λg=>ti xs g.ts)=zz b xs:=by
 refine V9 λi=> ?_;unfold zz;rw[V_,Q9]
 cases hs:b[i]? with
 |none=>
  rw[t_ (by rw[Ki];exact J5.1 hs)];rfl
 |some s=>
  rw[gg hs];show some (ti xs (th b.length i s))=some _;rw[YU hx (X_.1 hs).1]
def lX{p:PX}{b:List SR}(h0:(vd p (db b)).1=0)(hx:xs.length=b.length):ti xs (vd p (db b)).2=ti (zz b xs) p.ts:=by
 rw[acf h0,cP hx]
variable {N:Nat}
def xO{p:PX}{b:List SR}{ns:List Nat}{s:Nat}(h:Vt p b ns)(ho:xg k p.ts)(hb:∀z∈b,z.fin k)(hk:k<=1000)(hN:la (Ac p.v p.ts)<=N)(hN2:N<=1000)(hs:(Ac p.v p.ts).sum<=s)(hB:k+1+(s+12)*(k+k+10+5*N)<=400000)(h0:(vd p (db b)).1=0):
  bj b.length (k+1+(s+12)*(k+k+10+5*N)) (vd p (db b)).2/\(vd p (db b)).2.length<=N:=by
 have hl:=h.kq;have hpos:=h.pos;have hln:=Ki b;obtain⟨_,o2,o3⟩:=fj h.e;have hol:=h.Xl;have hhv:ff (db b)=b.length:=(by obtain⟨z,hz⟩:=ea (l:=b) (k:=0) Z';rw[ll (gg hz)]);unfold vd at h0 |-;rw[L' (λc=>c h.e),L' (by rw[hln,h.v];exact λc=>c rfl)] at h0 |-;by_cases hlk:(db b).length≠0/\bg (db b)≠0
 .rw[J' hlk] at h0;exact absurd h0 hlk.2
 rw[L' hlk,hhv] at h0 |-;have hD:(List.range b.length).map (λi=>((Ac p.v p.ts)[i]?).getD 0)=Ac p.v p.ts:=by
  refine V9 λi=> ?_;rw[V_];by_cases hi:i<b.length
  .obtain⟨d,hd⟩:=ea (l:=Ac p.v p.ts) (k:=i) Z';rw[z9 hi,hd];show some (((Ac p.v p.ts)[i]?).getD 0)=some d;rw[hd];rfl
  exact aaL
 have hsl:((Ac p.v p.ts).sum+(Ac p.v p.ts).length)*(k+k+10+5*N)<=(s+12)*(k+k+10+5*N):=N9 _ Z';have h1:=iU (K:=k+k+10) (T:=2) (c:=k+k+10+5*N) (N:=N) hl (λi=>((Ac p.v p.ts)[i]?).getD 0) (by rw[hD];exact hN) Z' Z' Z' ((db b).map PX.ts) 0 p.ts (Ac p.v p.ts) k (λi q hq=> ?_) ho (by rw[i',hln,hol]) (λi d hd=>by rw[C_,hd];rfl) (λt ht i hi=> ?_) Z' h0
 .exact⟨h1.1.mono Z',h1.2⟩
 .rw[V_] at hq;obtain⟨g,hg,rfl⟩:=T8.1 hq;obtain⟨z,hz⟩:=ea (l:=b) (k:=i) (by have:=(X_.1 hg).1;rwa[hln] at this);rw[gg hz] at hg;rw[<-L_ hg,C_];obtain⟨a1,a2⟩:=ql (v:=b.length) (i:=i) hl (hb z (G' hz)) Z';exact⟨a1,a2,zt _ i z⟩
 rw[i',hln] at hi;rw[C_];obtain⟨d,hd⟩:=ea (l:=Ac p.v p.ts) (k:=i) Z';rw[hd];exact(o3 i d hd).2.1 t ht
def gM:∀(ds:List Nat),(∀d∈ds,d<=5)->2^ds.sum<=la ds*la ds
 |[],_=>j' _
 |d::ds,h=>by
  have h1:=gM ds λx hx=>h x (F' _ hx);have h2:=h d q';have h3:2^d<=(d+1)*(d+1):=by
   match d,h2 with
   |0,_=>decide
   |1,_=>decide
   |2,_=>decide
   |3,_=>decide
   |4,_=>decide
   |5,_=>decide
  rw[x6,D_,la];have:=o9 h3 h1
  calc 2^d*2^ds.sum<=(d+1)*(d+1)*(la ds*la ds):=this
   _=(d+1)*la ds*((d+1)*la ds):=by rw[Nat.mul_mul_mul_comm]
variable {C:Nat}
def UQ{s:Nat}(h:∀d∈ds,d<=5)(hc:la ds<=C)(hs:C*C<2^(s+1)):ds.sum<=s:=by
 have h1:=gM ds h;have h2:=o9 hc hc;have h3:2^ds.sum<2^(s+1):=Z';have:=(Nat.pow_lt_pow_iff_right (by decide:1<2)).1 h3;omega
def oB(c k:Nat):∀ds:List Nat,Qe c ds k=k+ds.sum*c+ds.length*8192
 |[]=>by rw[Rs];simp
 |d::ds=>(by rw[Wp,oB c k ds,x6,E_,T7,n9];omega)
def lZ{ns:List Nat}{S:List TR}(hS:∀t∈S,Nj ns.reverse (Kc t.m).reverse)(hk:xg k S)(hd:∀d∈ns,d<=127):∀x∈Uo ns S,Sz (k+S.length+520*ns.length) x:=by
 rw[<-LF hS];exact dI (aal hk) (λd h=>hd d (g8.1 h)) ns.length
def XO{v:Int}{a b:TR}(ha:pe v a=true)(hb:pe v b=true)(h:∀i,qg i a+qg i b<=127):jn a.m b.m=0:=by
 unfold pe at ha hb;rw[Q_,K_] at ha hb;have hl:b.m.data.toList.length=a.m.data.toList.length:=by rw[<-Tc,<-Tc];omega
 unfold jn;rw[NK ha.1 hb.1 hl];rw[u_];intro z hz;obtain⟨i,hi⟩:=j_.1 hz;rw[L8] at hi
 cases hx:(ints a.m.data.toList)[i]? with
 |none=>rw[hx] at hi;cases hi
 |some x=>
  cases hy:(ints b.m.data.toList)[i]? with
  |none=>rw[hx,hy] at hi;cases hi
  |some y=>
   rw[hx,hy] at hi;have e:x+y=z:=L_ hi;unfold ints at hx hy;rw[V_] at hx hy;obtain⟨c,hc,rfl⟩:=T8.1 hx;obtain⟨d,hd,rfl⟩:=T8.1 hy;have:=h i;rw[Rn hc,Rn hd] at this;unfold Td;rw[<-e,Q_,K_,K_];omega
def vA{v:Nat}{q p:List TR}{sub:List TR->Int×List TR}{j d N T:Nat}{E:Nat->Nat}(hv:v<=12)(hq:Gf v q=0)(hqT:q.length<=T)(hqB:Al (λx=>if x=j then 1 else 0) q)(hD:∀t∈p,qg j t<=d)(hE:E j=0)(hd:d<=127)(hE2:∀x,E x<=127) (hs:∀n,(sub (Ya p j n)).1=0/\Gf v (sub (Ya p j n)).2=0/\Al E (sub (Ya p j n)).2)(hN:la ((List.range v).map λx=>if x=j then d else E x)<=N)(hNT:N*T+N<=4096):
  ∀i,i<=128->(rb q sub p j i).1=0/\Gf v (rb q sub p j i).2=0
 |0,_=>⟨rfl,(bj.nil (k:=0) (ug hv)).e⟩
 |i+1,hi=>by
  obtain⟨h1,h2⟩:=vA hv hq hqT hqB hD hE hd hE2 hs hN hNT i Z';have hb:=Cs hqB hD hE (λn _=>(hs n).2.2) i Z' h1;have hl:(rb q sub p j i).2.length<=N:=N_ (ar h2 (hb.mono λx=>by
   by_cases hx:x=j
   .rw[J' hx,J' hx];omega
   rw[L' hx,L' hx];exact j' _)) hN
  have hls:∀n,(sub (Ya p j n)).2.length<=N:=λn=>N_ (ar (hs n).2.1 ((hs n).2.2.mono λx=>by
   by_cases hx:x=j
   .rw[J' hx,hx,hE];exact D' _
   rw[L' hx];exact j' _)) hN
  obtain⟨f1,f2,f3,f4⟩:=Ub h2;obtain⟨q1,q2,q3,q4⟩:=Ub hq;have hpl:(Zb (rb q sub p j i).2 q).length<=N*T:=by rw[rj];exact o9 hl hqT
  have hpe:∀e∈Ru (rb q sub p j i).2 q,e=0:=λe he=>by
   by_cases hlow:i+d<=127
   .rw[wh hD i hlow] at he
    cases he
   obtain⟨x,hx,he⟩:=U7.1 he;obtain⟨y,hy,rfl⟩:=Z_.1 he;refine XO (f3 x hx) (q3 y hy) λr=> ?_;have a1:=hb x hx r;have a2:=hqB y hy r;have a3:=hE2 r;by_cases hr:r=j
   .simp only[J' hr] at a1 a2;omega
   simp only[L' hr] at a1 a2;omega
  have htm:Ff (rb q sub p j i).2 q=0:=(by rw[tH (by rw[<-rj];omega) hpe,wm Z']);obtain⟨s1,s2,s3⟩:=hs (127-i);have hgl:=Vb (Zb (rb q sub p j i).2 q);have hg:Qf (sa (Zb (rb q sub p j i).2 q)++(sub (Ya p j (127-i))).2)=0:=wm (by rw[Y_];have:=hls (127-i);omega);rw[Ji];unfold Ch;rw[L' (λc=>c h1)];by_cases c1:(rb q sub p j i).2.length=0/\(Ya p j (127-i)).length=0
  .rw[J' c1];exact⟨h1,h2⟩
  rw[L' c1,L' (λc=>c htm),L' (λc=>c s1),L' (λc=>c hg)];refine⟨rfl,We (ug hv) (Er hg) λt ht=>(z_.1 ht).elim (Hl (Yn f3 hpe) t) ((Ub s2).2.2.1 t)⟩
def fR{f g:Nat->Nat}(l:List Nat)(h:∀x,f x<=g x):la (l.map f)<=la (l.map g):=by
 induction l with
 |nil=>exact j' _
 |cons x l ih=>exact o9 (Nat.succ_le_succ (h x)) ih
def AF{v N T:Nat}(hv:v<=12)(D:Nat->Nat)(hD7:∀x,D x<=127)(hN:la ((List.range v).map D)<=N)(hNT:N*T+N<=4096):∀(qs:List (List TR))(j:Nat)(p:List TR),(∀(i:Nat)(q:List TR),qs[i]?=some q->Gf v q=0/\q.length<=T/\Al (λx=>if x=j+i then 1 else 0) q)->(∀t∈p,∀i,i<qs.length->qg (j+i) t<=D (j+i))->(Je v qs j p).1=0/\Gf v (Je v qs j p).2=0
 |[],j,p,_,_=>⟨rfl,We (ug hv) (N_ (Vb _) (by show 1<=4096;decide)) λt ht=>by
   rw[T_.1 ht];unfold pe;rw[Q_,K_];exact⟨Ot v,Ej Z'⟩⟩
 |q::qs,j,p,hq,hp=>by
  obtain⟨q1,q2,q3⟩:=hq 0 q rfl;rw[q9] at q3;have hpw:∀n,∀t∈Ya p j n,∀i,i<qs.length->qg (j+1+i) t<=D (j+1+i):=λn t ht i hi=>(by have:=hp t (Wi t ht) (i+1) (by rw[E_];omega);rwa[show j+1+i=j+(i+1) by omega]);have hqs:∀(i:Nat)(r:List TR),qs[i]?=some r->Gf v r=0/\r.length<=T/\Al (λx=>if x=j+1+i then 1 else 0) r:=λi r hr=>(by have:=hq (i+1) r (by simpa using hr);rwa[show j+1+i=j+(i+1) by omega]);have hs:∀n,(Je v qs (j+1) (Ya p j n)).1=0/\Gf v (Je v qs (j+1) (Ya p j n)).2=0/\Al (λx=>if j+1<=x/\x<j+1+qs.length then D x else 0) (Je v qs (j+1) (Ya p j n)).2:=λn=>(by obtain⟨a1,a2⟩:=AF hv D hD7 hN hNT qs (j+1) (Ya p j n) hqs (hpw n);exact⟨a1,a2,LB qs (j+1) (Ya p j n) D (λi r hr=>(hqs i r hr).2.2) (hpw n) a1⟩);rw[kt];exact vA (d:=D j) (E:=λx=>if j+1<=x/\x<j+1+qs.length then D x else 0) hv q1 q2 q3 (λt ht=>hp t ht 0 (by rw[E_];omega)) (by rw[L' Z']) (hD7 j) (λx=>by
   split
   .exact hD7 x
   .exact D' _) hs (N_ (fR _ λx=>by
   by_cases hx:x=j
   .rw[J' hx,hx];exact j' _
   rw[L' hx];split
   .exact j' _
   exact D' _) hN) hNT 128 (j' _)
variable {ls:List PX}
def FN{p:PX}{v T:Nat}(hv:v<=12)(h0:p.e=0)(hpv:p.v=(ls.length:Int))(hn:0<ls.length)(hl:ds.length=v)(hlv:ls.length=v)(hls:∀(i:Nat)(g:PX),ls[i]?=some g->g.v=(v:Int)/\Gf v g.ts=0/\g.ts.length<=T/\Al (λx=>if x=i then 1 else 0) g.ts) (hd:∀(i d:Nat),ds[i]?=some d->d<=127/\∀t∈p.ts,qg i t<=d)(hN:la ds<=N)(hNT:N*T+N<=4096):(vd p ls).1=0/\Gf v (vd p ls).2=0:=by
 have hne:ls≠[]:=λe=>by rw[e] at hn;exact absurd hn U'
 have hmem:∀g∈ls,g.v=(v:Int)/\Gf v g.ts=0:=λg hg=>(by obtain⟨i,hi⟩:=j_.1 hg;exact⟨(hls i g hi).1,(hls i g hi).2.1⟩);have hlk:bg ls=0:=eO (v:=v) hne (λg hg=>by unfold PX.e;rw[(hmem g hg).1];exact(hmem g hg).2) λg hg=>(hmem g hg).1;have hhv:ff ls=v:=(by obtain⟨g,hg⟩:=ea (l:=ls) (k:=0) hn;rw[ll hg];exact(hls 0 g hg).1);unfold vd;rw[L' (λc=>c h0),L' Z',L' (λc=>c.2 hlk),hhv];have hDD:∀i,ds.getD i 0<=127:=λi=>by
  rw[K9]
  cases h:ds[i]? with
  |none=>exact D' _
  |some d=>exact(hd i d h).1
 have hDm:(List.range v).map (λi=>ds.getD i 0)=ds:=by
  refine V9 λi=> ?_;rw[V_];by_cases hi:i<v
  .obtain⟨d,hdd⟩:=ea (l:=ds) (k:=i) Z';rw[z9 hi,hdd];show some (ds.getD i 0)=some d;rw[K9,hdd];rfl
  exact aaL
 refine AF hv (λi=>ds.getD i 0) hDD (by rw[hDm];exact hN) hNT (ls.map PX.ts) 0 p.ts (λi q hq=> ?_) λt ht i hi=> ?_
 .rw[V_] at hq;obtain⟨g,hg,rfl⟩:=T8.1 hq;rw[C_];exact(hls i g hg).2
 rw[i'] at hi;rw[C_];obtain⟨d,hdd⟩:=ea (l:=ds) (k:=i) Z';rw[K9,hdd];exact(hd i d hdd).2 t ht
def TT{p:PX}{b:List SR}{ns:List Nat}(h:Vt p b ns)(hb:∀z∈b,z.fin k)(hk:k<=1000)(hN:la (Ac p.v p.ts)<=N)(hNT:N*2+N<=4096):(vd p (db b)).1=0:=by
 have hl:=h.kq;have hpos:=h.pos;have hln:=Ki b;obtain⟨_,o2,o3⟩:=fj h.e;have hol:=h.Xl;refine(FN (v:=b.length) (ds:=Ac p.v p.ts) (T:=2) hl h.e (by rw[hln];exact h.v) Z' hol hln (λi g hg=> ?_) (λi d hd=>⟨(o3 i d hd).1,(o3 i d hd).2.1⟩) hN hNT).1;obtain⟨z,hz⟩:=ea (l:=b) (k:=i) (by have:=(X_.1 hg).1;rwa[hln] at this);rw[gg hz] at hg;obtain⟨a1,a2⟩:=ql (v:=b.length) (i:=i) hl (hb z (G' hz)) Z';have hx:=zt b.length i z;rw[<-L_ hg];exact⟨rfl,a1.e,a2,hx⟩
def Iw(ns:List Nat):(Ua ns).map Int.toNat=ns:=Dh ns
def IF{t:TR}{B:Nat}(h:∀c∈t.m.data.toList,c.toNat<=B)(i:Nat):ym t.m i<=B:=by
 unfold ym
 cases he:t.m.data.toList[i]? with
 |none=>exact l7 B
 |some e=>have:=h e (G' he);show((e.toNat:Nat):Int)<=B;omega
variable {ts:List TR}
def SD{v:Int}{B:Nat}(h:Gf v ts=0)(hb:∀t∈ts,∀c∈t.m.data.toList,c.toNat<=B):∀d∈Ac v ts,d<=B:=λd hd=>by
 obtain⟨i,hi⟩:=j_.1 hd;have h1:=((fj h).2.2 i d hi).2.2;have h2:=(wL (l:=ts) (i:=i) (B:=(B:Int)) (l7 B) λt ht=>IF (hb t ht) i).2;omega
structure SmB(p:PX)(b:List SR)(C s:Nat):Prop where
 n:p.ts.length<=8
 ok:xg 124 p.ts
 sz:∀t∈p.ts,t.m.size<=20
 ex:∀t∈p.ts,∀c∈t.m.data.toList,c.toNat<=4
 box:∀z∈b,z.fin 124
 CP:p.e=0->la (Ac p.v p.ts)<=C
 few:C*C<2^(s+1)
def KA{v:Int}{ns:List Nat}(h:Gf v ts=0)(hl:(Ac v ts).length=ns.length)(hx:∀(i d:Nat),ns[i]?=some d->∀t∈ts,qg i t<=d):∀(i x y:Nat),(Ac v ts)[i]?=some x->ns[i]?=some y->x<=y:=λi x y h1 h2=>by
 have h3:=((fj h).2.2 i x h1).2.2;have h4:=(wL (l:=ts) (i:=i) (B:=(y:Int)) (l7 y) λt ht=>by rw[<-CF];have:=hx i y h2 t ht;omega).2;omega
def ab6{s:PX}{b:List SR}{ns:List Nat}(he:s.e=0)(hbx:Fk b=0)(hv:s.v=b.length)(hnl:ns.length=b.length)(hlow:∀d∈ns,d<=127)(hm:la ns<=4096)(hx:∀(i d:Nat),ns[i]?=some d->∀t∈s.ts,qg i t<=d):Ql s b (Ua ns)=0:=by
 obtain⟨o1,o2,o3⟩:=fj he;have h8:=Ri ns 1 (j' _) U' hlow;rw[Y7,J' hm] at h8;replace h8:eh 1 (Ua ns)=((la ns:Nat):Int):=h8;have hp:=Cc ns;have hsh:qy (iz s.v s.ts) (Ua ns)=false:=(by unfold qy;rw[p9];intro q hq;obtain⟨i,hi⟩:=j_.1 hq;obtain⟨h1,h2⟩:=V6.1 hi;rw[o1] at h1;unfold Ua at h1 h2;rw[V_] at h1 h2;obtain⟨x,hx1,e1⟩:=T8.1 h1;obtain⟨y,hy1,e2⟩:=T8.1 h2;have h3:=KA he Z' hx i x y hx1 hy1;have h4:=hlow y (G' hy1);rw[K_,<-e1,<-e2];omega);unfold Ql;rw[L' (λc=>c he),L' (λc=>c hbx),L' (by rw[Ic];omega),hsh,L' U',h8,L' Z']
def abJ{s:PX}{b:List SR}{ns:List Nat}(he:s.e=0)(hbx:Fk b=0)(hpos:0<b.length)(hv:s.v=b.length)(hnl:ns.length=b.length)(hlow:∀d∈ns,d<=127)(hm:la ns<=1000)(hx:∀(i d:Nat),ns[i]?=some d->∀t∈s.ts,qg i t<=d)(hb:∀z∈b,z.fin k)(hk:k<=1000):
  pg s b (Ua ns)=0/\Vt s b ns/\(vd s (db b)).1=0:=by
 have h1:=ab6 he hbx hv hnl hlow Z' hx;have hF:=(BB h1).2;rw[Iw] at hF;have h2:=TT (N:=1000) hF hb hk (N_ (jt (by rw[hF.Xl,hnl]) (KA he (by rw[hF.Xl,hnl]) hx)) hm) U';have hD:gm s (Ua ns)=Ua ns:=L' (by rw[Ic];omega);refine⟨?_,hF,h2⟩;unfold pg;rw[hD,L' (λc=>c h1),h2]
def GA{v:Int}(h:Gf v ts=0)(hex:∀t∈ts,∀c∈t.m.data.toList,c.toNat<=4)(hc:la (Ac v ts)<=100)(hk:k<=1000):Qe (k+k+16394) (Ac v ts) (k+1)<=440000:=by
 have h1:(Ac v ts).sum<=13:=UQ (λd hd=>by have:=SD h hex d hd;omega) hc U';have h2:=(fj h).2.1;have h3:=(Pe.1 (Ub h).1).2;rw[oB];have h4:(Ac v ts).sum*(k+k+16394)<=13*(1000+1000+16394):=o9 h1 Z';have h5:(Ac v ts).length*8192<=12*8192:=N9 _ Z';omega
def ab7{p:PX}{b:List SR}{ns:List Nat}{ts:List Dyadic}(hF:Vt p b ns)(h0:(vd p (db b)).1=0)(h3:∀t∈(vd p (db b)).2,Nj ns.reverse (Kc t.m).reverse)(ht:ts.length=ns.length):jq ns.reverse (Uo ns (vd p (db b)).2) ts=ti (zz b ts.reverse) p.ts:=by
 rw[acJ h3 ht,lX h0 (by rw[c_,ht,hF.nl])]
structure aiy(p:PX):Prop where
 n:p.ts.length<=8
 ok:xg 124 p.ts
 ex:∀t∈p.ts,t.m.size<=20/\∀c∈t.m.data.toList,c.toNat<=4
structure iQ(p:PX)(b:List SR)(ns:List Nat):Prop where
 vl:∀ts:List Dyadic,ts.length=ns.length->jq ns.reverse (Uo ns (vd p (db b)).2) ts=ti (zz b ts.reverse) p.ts
 sz:∀x∈Uo ns (vd p (db b)).2,Sz 460000 x
def VY{p:PX}{b:List SR}{ns:List Nat}(hF:Vt p b ns)(h0:(vd p (db b)).1=0)(ho:xg k p.ts)(hb:∀s∈b,s.fin k)(hk:k<=1000)(hgr:Qe (k+k+16394) (Ac p.v p.ts) (k+1)<=440000):iQ p b ns:=by
 obtain⟨h1,h2⟩:=Fs hF ho hb hk hgr h0;refine⟨λts ht=>ab7 hF h0 h2 ht,λx hx=>(lZ h2 h1.ok hF.low x hx).mono ?_⟩;have h3:=(Ub h1.e).2.1;have h4:=hF.nl;have h5:=hF.kq;omega
structure aie(p q s o:PX)(b:List SR)(ns:List Nat)(c:Dyadic):Prop where
 fit:Vt p b ns
 CP:la ns<=100
 es:pg s b (Ua ns)=0
 eo:pg o b (Ua ns)=0
 gs:Em s.v 140 16 4 s.ts
 go:Em o.v 125 1 0 o.ts
 ws:Qe (140+140+16394) (Ac s.v s.ts) (140+1)<=440000
 wo:Qe (140+140+16394) (Ac o.v o.ts) (140+1)<=440000
 sum:Uo ns (vd s (db b)).2=Ij (Uo ns (vd p (db b)).2) (Uo ns (vd q (db b)).2)
 con:Uo ns (vd o (db b)).2=((VD ns).map nD).map λy=>c*y
 zp:∀x∈Uo ns (vd p (db b)).2,Sz 460000 x
 zq:∀x∈Uo ns (vd q (db b)).2,Sz 460000 x
def ahL(A:List Nat)(e:Nat)(X:List Dyadic):List Dyadic:=aez (adj (la A) (e+1)) (pj A (e+1) (e+1) (adv (e+1)) X X.length 0) X.length
def An(ap d t:Nat)(xs:List Dyadic)(i:Nat):List Dyadic:=((List.range i).filter λp=>decide (p/ap % (d+1)=t)).map λp=>(xs[p]?).getD 0
def Tz(ap d t:Nat)(xs:List Dyadic)(i:Nat):An ap d t xs (i+1)=An ap d t xs i++if i/ap % (d+1)=t then[(xs[i]?).getD 0] else[]:=by
 unfold An;rw[P8,K7,n_];congr 1;by_cases h:i/ap % (d+1)=t
 .rw[J' h,List.filter_cons_of_pos (by rw[M_ h])];rfl
 rw[L' h,C5 (by rw[O_ h];decide)];rfl
def tJ(fx:FX)(a d:Nat)(sd:Nat)(k:Nat)(w:World)(hT:Sc w)(hf:fx.at_ w)(hl:fx.Zg k)(hcap:fx.n<=fx.a)(h0:fx.e=0)(hd:fx.ns[a]?=some d)(hsd:sd=0\/sd=1):Calls prog 122 #[.agg #[.slice fx.A fx.n fx.a,.slice fx.B fx.m fx.b],.int .i64 a,.int .i64 sd] w λr w'=>∃g:FX,g.ds=fx.ds.eraseIdx a/\g.cs=(An (la (fx.ns.drop (a+1))) d (d*sd) (fx.cs.map NR.ma) fx.m).map nR/\g.n<=100000/\g.m<=1000000/\r=.returned (.tuple #[.agg #[.slice g.A g.n g.a,.slice g.B g.m g.b],.int .i64 0])/\Hp w [g.rg,g.fg] w':=by
 have hh:=Hp.start w;obtain⟨hdeg,hnum,h12,hlow,hcnt,hmax⟩:=FX.fv h0;have hln:=hf.ln.1;have hlm:=hf.ln.2;have hnl:fx.ns.length=fx.n:=by unfold FX.ns;rw[i'];exact hln
 have ha:=(X_.1 hd).1;have hd127:=hlow d (G' hd);have hE:Xm fx (a:Int)=0:=by unfold Xm;rw[L' Z',L' Z']
 have hhas:=λw1 hT1 hb=>Ax fx (a:Int) k w1 hT1 (hf.ext hb) hl;rw[hE] at hhas;have hdg:Sl w fx.A fx.n 1 (jb (Ua fx.ns)):=by rw[<-hdeg];exact hf.dg
 have hof:=λw1 hb=>Wr fx.A fx.n fx.a a d fx.ns w1 (hdg.ext hb) hcap Z' hd hlow hmax;have hap:0<la (fx.ns.drop (a+1)):=Cc _;have hgd:(jb fx.ds)[a]?=some (.int .i64 (d:Int)):=by rw[hdeg];exact Uc (He hd)
 obtain⟨ad0,hAD,sD⟩:=hf.dg.at_ Z';have om:Value.slice fx.A fx.n fx.a=.slice (some ad0) fx.n fx.a:=by rw[hAD]
 have hprod:(d:Int)*(sd:Int)=((d*sd:Nat):Int):=by rw[m9]
 have hpb:d*sd<=127:=by obtain rfl|rfl:=hsd<;>omega
 have hap2:la (fx.ns.drop (a+1))<=4096:=by
  have h3:la fx.ns=la (fx.ns.take (a+1))*la (fx.ns.drop (a+1)):=by rw[<-Sd,P9]
  have:=Nat.le_mul_of_pos_left (la (fx.ns.drop (a+1))) (Cc (fx.ns.take (a+1)));omega
 generalize la (fx.ns.drop (a+1))=ap at*;refine da (N:=70) (l:=[.agg #[.slice fx.A fx.n fx.a,.slice fx.B fx.m fx.b],.int .i64 a,.int .i64 sd]) func122 rfl rfl (by simp) ?_;refine Sb ?_;intro b3 w3 hh b6 w6 hh;refine Oa hh (hhas _ (hT.hp hh) hh.below) rfl ?_;intro w15 hh;obtain hs0|hs0:=hsd
 .exact aar
 exact aar
def Jj(fx:FX)(ax sd:Int):Int:=if Xm fx ax≠0 then Xm fx ax else if sd=0\/sd=1 then 0 else 1
def oV(fx:FX)(ax sd:Int)(k:Nat)(w:World)(hT:Sc w)(hf:fx.at_ w)(hl:fx.Zg k)(hE:Jj fx ax sd≠0):Calls prog 122 #[.agg #[.slice fx.A fx.n fx.a,.slice fx.B fx.m fx.b],.int .i64 ax,.int .i64 sd] w λr w'=>r=.returned (.tuple #[.agg #[.slice none 0 0,.slice none 0 0],.int .i64 (Jj fx ax sd)])/\Below w.heap.size w w':=by
 have hh:=Hp.start w;have hhas:=λw1 hT1 hb=>Ax fx ax k w1 hT1 (hf.ext hb) hl;unfold Jj at hE |-;generalize Xm fx ax=C at*;refine da (N:=70) (l:=[.agg #[.slice fx.A fx.n fx.a,.slice fx.B fx.m fx.b],.int .i64 ax,.int .i64 sd]) func122 rfl rfl (by simp) ?_;refine Sb ?_;intro b3 w3 hh b6 w6 hh;refine Oa hh (hhas _ (hT.hp hh) hh.below) rfl ?_;intro w15 hh;by_cases hC:C=0
 .subst hC;rw[L' (λc=>c rfl)] at hE |-;by_cases hs:sd=0\/sd=1
  .rw[J' hs] at hE;exact absurd rfl hE
  rw[L' hs];have h1:sd≠0:=λc=>hs (.inl c);have h2:sd≠1:=λc=>hs (.inr c);exact adU
 rw[J' hC];exact adU
variable {w:World}
def RK(k:Nat)(S:World->World->Prop)(i:Nat)(w w':World):Prop:=if i=k then S w w' else Below w.heap.size w w'
def agb:List Nat->(Nat->VP)->Nat->VP
 |[],V=>V
 |x::r,V=>se (agb r V) x λ_ _=>True
def afQ(m k:Nat)(X Y M:List Nat)(src:List (List (Nat×Option Nat))):Bool:=
 decide (k<m) && ((List.range m).all λi=>(src.getD i []).all λp=>match p.2 with|some j=> !X.contains j||i==k||(M.getD k 0).testBit i|none=>true) &&
 (List.range m).all λj=>X.contains j||Y.contains j||j==k||(M.getD j 0).testBit k
variable {P:Program}{ρ:Rf}
def DOK(P:Program)(ops:Array Oper)(J:World->Prop)(V:Nat->Value->World->Prop)(R:Nat->World->World->Prop)(ρ:Rf):Nat->List Oper->List (List (Nat×Option Nat))->Prop
 |i,o::os,s::ss=>((∀v w w',V i v w->Below w.heap.size w w'->V i v w')/\∀ρ1 w1,J w1->Xc V ρ ρ1 w1 s->OG P ops o ρ1 w1 λv w2=>R i w1 w2/\V i v w2)/\DOK P ops J V R ρ (i+1) os ss
 |_,[],[]=>True
 |_,_,_=>False
variable {D:List Deferred}
structure DIK(D:List Deferred)(fr:List Nat)(N:Nat)(ops:Array Oper)(m k0:Nat)(X:List Nat)(ρ:Rf)(J:World->Prop)(V:Nat->Value->World->Prop)(L:Array Bool)(a:Act)(w:World):Prop where
 nd:a.defers=D
 sz:a.tmps.size=N
 j:J w
 ls:L.size=ops.size
 cl:fq ops L
 tl:∀k,m<=k->L.getD k false=false
 vs:∀i d,i<m->L.getD i false=true->(ops[i]?).bind (·.dst)=some d->(i∈X->L.getD k0 false=false)->V i (a.tmps.getD d undef) w
 ju:∀s,(∀i,i<m->L.getD i false=true->(ops[i]?).bind (·.dst)≠some s)->a.tmps.getD s undef=ρ s
 fb:∀i∈fr,L.getD i false=true->∀d,(ops[i]?).bind (·.dst)=some d->∃b,a.tmps.getD d undef=.pointer (some ⟨b,0,none⟩)/\b<w.heap.size
 fd:∀i∈fr,∀j∈fr,i≠j->L.getD i false=true->L.getD j false=true->∀d e,(ops[i]?).bind (·.dst)=some d->(ops[j]?).bind (·.dst)=some e->a.tmps.getD d undef≠a.tmps.getD e undef
def DXK(P:Program)(ops:Array Oper)(J:World->Prop)(R:Nat->World->World->Prop)(ρ:Rf)(T:(Nat->VP)->Prop):Nat->(Nat->VP)->List Oper->List (List (Nat×Option Nat))->Prop
 |i,pv,o::os,s::ss=>∃V:VP,(∀v w w',V v w->Below w.heap.size w w'->V v w')/\(∀ρ1 w1,J w1->Xc pv ρ ρ1 w1 s->OG P ops o ρ1 w1 λv w2=>R i w1 w2/\V v w2)/\DXK P ops J R ρ T (i+1) (se pv i V) os ss
 |_,pv,[],[]=>T pv
 |_,_,_,_=>False
structure Ext(b:Nat)(e:TypeId)(w w':World):Prop where
 bl:Below b w w'
 sz:w.heap.size<=w'.heap.size
 rest:∀g,g<w.heap.size->w'.heap[g]?=w.heap[g]?\/∃xs xs',w.heap[g]?=some (.cells xs e (0,0))/\w'.heap[g]?=some (.cells xs' e (0,0))/\xs'.size=xs.size
def adL(S:World->World->Prop)(pv:Nat->VP):List Nat->Prop
 |[]=>True
 |j::r=>(∀v w w',pv j v w->S w w'->pv j v w')/\adL S pv r
def afj(w:World)(t:TypeId)(n:Nat):VP:=λv W=>∃(b:Nat)(cs:List Value),v=.pointer (some ⟨b,0,none⟩)/\w.heap.size<=b/\cs.length=n/\W.heap[b]?=some (.cells cs.toArray t (0,0))
def ahl(base:Nat)(t:TypeId)(n sz:Nat)(cs:List Value):VP:=λv W=>∃A c,v=.agg #[.slice A n c,.slice none 0 0]/\W.ownsRow base t sz (.slice A n c) n cs
def phR:List (Nat->Dyadic)->List Nat->Dyadic
 |f::fs,r::rs=>f r*phR fs rs
 |_,_=>1
def vG(ds:List Nat)(X:List Dyadic)(fs:List (Nat->Dyadic)):Dyadic:=sR ds λrow=>co ds X row*phR fs row
def acQ(ds:List Nat)(ts:List Dyadic):List (Nat->Dyadic):=List.zipWith (λd t r=>Mt d r t) ds ts
def pwF(ts:List Dyadic):List (Nat->Dyadic):=ts.map λt r=>t^r
def ahJ(ds:List Nat)(ts:List Dyadic)(k:Nat):List (Nat->Dyadic):=(acQ ds ts).take (ds.length-k)++(pwF ts).drop (ds.length-k)
def wT(b:List SR)(ns:List Nat):Nat->Dyadic
 |0=>1
 |i+1=>wT b ns i*adD b i^(ns.getD i 0)
def BR{b:List SR}{s:SR}(h:Fk b=0)(hs:s∈b):s.lo.ma<s.hi.ma:=by
 unfold Fk at h;by_cases h1:b.any (λs=> !decide (s.lo.ma<s.hi.ma))=true
 .rw[J' h1] at h;omega
 rw[Bool.not_eq_true,p9] at h1;have:=h1 s hs;simpa using this
structure agO(p:PX)(b:List SR)(fx:FX)(ns:List Nat):Prop where
 e:afs fx b=0
 q:(aed fx b).2=sa (p.ts.map (Fp (wT b ns b.length)))
 s:PN p (wT b ns b.length)=0
 n:(sa (p.ts.map (Fp (wT b ns b.length)))).length<=8
structure afO(p q:PX)(b:List SR)(ns:List Nat)(a:Nat)(X:List Dyadic):Prop where
 nU:Em q.v 300 8 4 q.ts
 e:pg q b (Ua (aeo ns a))=0
 grow:Qe (300+300+16394) (Ac q.v q.ts) (300+1)<=440000
 x:Uo (aeo ns a) (vd q (db b)).2=afM ns a X
def af5(ds:List Int):Bool:=decide (ds.length<=12) && decide (eh 1 ds≠0)
structure ady(fx:FX)(ax sd:Int)(g:FX):Prop where
 ds:g.ds=if Jj fx ax sd=0 then fx.ds.eraseIdx ax.toNat else[]
 cs:g.cs=if Jj fx ax sd=0 then(An (la (fx.ns.drop (ax.toNat+1))) (fx.ns.getD ax.toNat 0) (fx.ns.getD ax.toNat 0*sd.toNat) (fx.cs.map NR.ma) fx.m).map nR else[]
 n:g.n<=100000
 m:g.m<=1000000
def cX{fx:FX}{ax:Int}(h:Xm fx ax=0)(hln:fx.ds.length=fx.n):fx.e=0/\∃a d:Nat,ax=a/\fx.ns[a]?=some d:=by
 unfold Xm at h;by_cases h0:fx.e=0
 .rw[L' (λc=>c h0)] at h;by_cases h1:ax<0\/(fx.n:Int)<=ax
  .rw[J' h1] at h;cases h
  obtain⟨d,hd⟩:=ea (l:=fx.ns) (k:=ax.toNat) (by unfold FX.ns;rw[i'];omega);exact⟨h0,ax.toNat,d,Z',hd⟩
 rw[J' h0] at h;exact absurd h h0
def HT{fx:FX}{ax sd:Int}(h:Jj fx ax sd=0)(hln:fx.ds.length=fx.n):fx.e=0/\∃a d s:Nat,ax=a/\sd=s/\(s=0\/s=1)/\fx.ns[a]?=some d:=by
 unfold Jj at h;by_cases h0:Xm fx ax=0
 .rw[L' (λc=>c h0)] at h;by_cases h1:sd=0\/sd=1
  .obtain⟨a1,a,d,a2,a3⟩:=cX h0 hln;exact⟨a1,a,d,sd.toNat,a2,Z',Z',a3⟩
  rw[L' h1] at h;cases h
 rw[J' h0] at h;exact absurd h h0
def xU(fx:FX)(ax sd:Int)(k:Nat)(w:World)(hT:Sc w)(hf:fx.at_ w)(hl:fx.Zg k)(hcap:fx.n<=fx.a):Calls prog 122 #[.agg #[.slice fx.A fx.n fx.a,.slice fx.B fx.m fx.b],.int .i64 ax,.int .i64 sd] w λr w'=>∃g:FX,ady fx ax sd g/\r=.returned (.tuple #[.agg #[.slice g.A g.n g.a,.slice g.B g.m g.b],.int .i64 (Jj fx ax sd)])/\Hp w [g.rg,g.fg] w':=by
 by_cases hE:Jj fx ax sd=0
 .obtain⟨h0,a,d,s,rfl,rfl,hs,hd⟩:=HT hE hf.ln.1;have hg:fx.ns.getD a 0=d:=by rw[K9,hd];rfl
  refine(tJ fx a d s k w hT hf hl hcap h0 hd hs).mono λr w' ⟨g,h1,h2,h3,h4,h5,h6⟩=>⟨g,⟨?_, ?_,h3,h4⟩,by rw[hE];exact h5,h6⟩
  .rw[J' hE,p8];exact h1
  rw[J' hE,p8,p8,hg];exact h2
 exact(oV fx ax sd k w hT hf hl hE).mono λr w' ⟨hr,hb⟩=>⟨FX.nil,⟨(L' hE).symm,(L' hE).symm,U',U'⟩,hr,((Hp.start w).ext hb).DU⟩
def wgN(ds:List Int):List NR:=if af5 ds=true then xz (ds.map Int.toNat) else[]
def DL:∀(l:List Int)(o:Int), -2<=o->o<=2->(∀s∈l, -1<=s/\s<=1)-> -2<=tw o l/\tw o l<=2
 |[],o,h1,h2,_=>⟨h1,h2⟩
 |s::l,o,h1,h2,h=>by
  have h3:=h s q';rw[tw];split
  .exact DL l s Z' Z' λx hx=>h x (F' _ hx)
  omega
def xY(l:List NR): -2<=Pj l/\Pj l<=2:=DL _ 2 U' U' λs hs=>by
 obtain⟨a,_,rfl⟩:=Z_.1 hs;exact nk a.i
def MC(ds:List Int)(cs:List NR):Int:=if fE ds cs=0 then Pj cs else 0
def tL(ds:List Int)(cs:List NR): -2<=MC ds cs/\MC ds cs<=2:=by
 unfold MC;split
 .exact xY cs
 decide
def iB(f:FX)(k:Nat)(w:World)(hT:Sc w)(h:f.at_ w)(hl:f.Zg k):Calls prog 89 #[.agg #[.slice f.A f.n f.a,.slice f.B f.m f.b]] w λr w'=>r=.returned (.tuple #[.int .i64 (MC f.ds f.cs),.int .i64 f.e])/\Below w.heap.size w w':=by
 by_cases h0:f.e=0
 .have:=Gu f k w hT h hl h0;rw[show MC f.ds f.cs=if f.e=0 then Pj f.cs else 0 from rfl,J' h0,h0];exact this
 rw[show MC f.ds f.cs=if f.e=0 then Pj f.cs else 0 from rfl,L' h0];have hh:=Hp.start w;have hc:=λw1 hT1 hb1=>vm f k w1 hT1 (h.ext hb1) hl;refine da (N:=13) (l:=[.agg #[.slice f.A f.n f.a,.slice f.B f.m f.b]]) func89 rfl rfl (by simp) ?_;refine Jb ?_;intro b1 w1 hh;refine vx ?_;intro w6 hh;refine fa ?_;exact⟨rfl,hh.below⟩
def rL{ap d t k:Nat}{xs:List Dyadic}(h:∀x∈xs,Sz k x):∀i,∀y∈An ap d t xs i,Sz k y
 |0=>λy hy=>absurd hy O9
 |i+1=>λy hy=>by
  rw[Tz] at hy;obtain hy|hy:=z_.1 hy
  .exact rL h i y hy
  split at hy
  .rw[T_.1 hy];exact o0
  exact absurd hy O9
def uP(f:FX)(ax sd:Int):List Int:=if Jj f ax sd=0 then f.ds.eraseIdx ax.toNat else[]
def VN(f:FX)(ax sd:Int):List NR:=if Jj f ax sd=0 then(An (la (f.ns.drop (ax.toNat+1))) (f.ns.getD ax.toNat 0) (f.ns.getD ax.toNat 0*sd.toNat) (f.cs.map NR.ma) f.m).map nR else[]
def abi(f:FX)(ax sd:Int):Int:=MC (uP f ax sd) (VN f ax sd)
variable {n:Nat}
def Pt(f:FX)(i n:Nat):Bool:=decide (Jj f i 0=0/\f.n=n/\abi f i 0*abi f i 1= -1)
variable {fs:List FX}
def Zm(fs:List FX)(i:Nat):Bool:=match fs[i]? with|some f=>Pt f i fs.length|none=>true
def gj(fs:List FX):Bool:=(List.range fs.length).all (Zm fs) && decide (0<fs.length)
def PO{i:Nat}{f:FX}(h:fs[i]?=some f)(hc:Pt f i fs.length=false):gj fs=false:=by
 unfold gj;rw[M5];refine .inl (List.all_eq_false.2 ⟨i,g_.2 (X_.1 h).1, ?_⟩);unfold Zm;rw[h];simpa using hc
def vk(A:Option Addr)(n c:Nat)(fs:List FX)(k:Nat)(w:World)(hT:Sc w)(hL:Sl w A n 2 (na FX.cells fs))(hn:n<=1000)(hf:∀f∈fs,f.at_ w/\f.Zg k/\f.n<=f.a)(hk:k<=3000000):Calls prog 59 #[.slice A n c] w λr w'=>r=.returned (.bool (gj fs))/\Below w.heap.size w w':=by
 have hh:=Hp.start w;have hln:fs.length=n:=hL.Fa FX.len U';refine da (N:=60) (l:=[.slice A n c]) func59 rfl rfl (by simp) ?_;refine fa ?_;refine Ba [2,3,4,5,6,7,8,9,10,11,12,15,16,17,18,19,20,21,22,23,24,25,26,27,28,29,30,31,32,33,34,35,36,37,38,39,40,41,42,43,44,45,46,47,48,49,50,51,52,53,54,55,56] 15 (λv w'=>∃i:Nat,i<=n/\v=.int .i64 i/\(List.range i).all (Zm fs)=true/\Hp w [] w') (λv _=>n-(intOf v).toNat) ?_ ?_
 .exact⟨0,D' _,rfl,rfl,hh⟩
 clear hh;rintro ρ' v w' ⟨i,hi,rfl,hall,hh⟩;by_cases hlt:i<n
 .obtain⟨f,hx⟩:=ea (l:=fs) (k:=i) Z';obtain⟨f1,f2,f3⟩:=hf f (G' hx);obtain⟨ad,rfl,hr⟩:=hL.at_ Z';have hfn:=f2.n20;have hfa:∀sd:Int,∀w1,Sc w1->Below w.heap.size w w1->Calls prog 122 #[.agg #[.slice f.A f.n f.a,.slice f.B f.m f.b],.int .i64 (i:Int),.int .i64 sd] w1 λr w'=>∃g:FX,(g.ds=uP f i sd/\g.cs=VN f i sd/\g.Zg k)/\r=.returned (.tuple #[.agg #[.slice g.A g.n g.a,.slice g.B g.m g.b],.int .i64 (Jj f i sd)])/\Hp w1 [g.rg,g.fg] w':=λsd w1 hT1 hb1=>by
   refine(xU f i sd k w1 hT1 (f1.ext hb1) f2 f3).mono λr w' ⟨g,o,hr,h3⟩=>⟨g,⟨o.ds,o.cs, ?_⟩,hr,h3⟩;obtain⟨l1,l2⟩:=(h3.Hj (f:=g) q' (F' _ q')).ln;obtain⟨l3,l4⟩:=f1.ln;have hds:g.ds.length<=f.ds.length:=by
    rw[o.ds];split
    .rw[List.length_eraseIdx];split<;>omega
    exact D' _
   have hcs:g.cs.length<=f.m:=by
    rw[o.cs];split
    .rw[i'];exact adb
    exact D' _
   refine⟨by have:=f2.n20;omega,by have:=f2.m60;omega,λc hc=> ?_⟩;rw[o.cs] at hc;split at hc
   .obtain⟨x,hx2,rfl⟩:=Z_.1 hc;have hz:=rL (k:=k) (xs:=f.cs.map NR.ma) (λy hy=>by
     obtain⟨z,hz,rfl⟩:=Z_.1 hy;exact(f2.num z hz).2) _ x hx2
    exact⟨hz.ok Z',by rw[Za];exact hz⟩
   exact absurd hc O9
  have hbad:=λh=>PO hx h;have hgood:Pt f i fs.length=true->(List.range (i+1)).all (Zm fs)=true:=λh=>(by rw[P8,Z5,hall];simp[Zm,hx,h]);unfold Pt at hbad hgood;rw[hln] at hbad hgood;have hS0:=tL (uP f i 0) (VN f i 0);have hS1:=tL (uP f i 1) (VN f i 1);have hfa0:=hfa 0;have hfa1:=hfa 1;unfold abi at hbad hgood;generalize uP f i 0=D0 at*;generalize VN f i 0=C0 at*;generalize uP f i 1=D1 at*;generalize VN f i 1=C1 at*;generalize Jj f i 0=e0 at*;generalize Jj f i 1=e1 at*;clear hfa;refine fa ?_;refine Wv ?_;refine Sb ?_;intro b4 w4 hh ws hh;refine qa (hfa0 _ (hT.hp hh) hh.below) ja.out rfl U' ?_;rintro e_ w23 ⟨g,⟨g1,g2,g3⟩,rfl,h3⟩;refine⟨_,rfl, ?_⟩;replace hh:=hh.join h3;clear h3;simp only[C',E'] at hh;refine Sb ?_;intro b5 w5 hh ws hh;refine qa (hfa1 _ (hT.hp hh) hh.below) ja.out rfl U' ?_;rintro e_ w29 ⟨g',⟨g1',g2',g3'⟩,rfl,h3⟩;refine⟨_,rfl, ?_⟩;replace hh:=hh.join h3;clear h3;simp only[C',E'] at hh;by_cases h0:e0=0
  .by_cases h1:f.n=n
   .subst h0;refine Sb ?_;intro b7 w7 hh ws hh;have hs0:=iB g k _ (hT.hp hh) (hh.Hj (G' (i:=4) rfl) (G' (i:=5) rfl)) g3;rw[g1,g2] at hs0;refine Oa hh (hs0) rfl ?_;intro w44 hh;have hs1:=λw1 hT1 h1=>iB g' k w1 hT1 h1 g3';rw[g1',g2'] at hs1;generalize MC D0 C0=s0 at*;generalize MC D1 C1=s1 at*;have hm: -4<=s0*s1/\s0*s1<=4:=(by have:s0= -2\/s0= -1\/s0=0\/s0=1\/s0=2:=Z';obtain rfl|rfl|rfl|rfl|rfl:=this<;>omega);refine fa ?_;refine Oa hh (hs1 _ (hT.hp hh) (hh.Hj (G' (i:=1) rfl) (G' (i:=2) rfl))) rfl ?_;intro w49 hh;by_cases hc:s0*s1= -1
    .refine fa ?_;refine⟨⟨i+1,Z',rfl,hgood (M_ ⟨rfl,h1,hc⟩),hh.sub (R9 _)⟩,by show n-(i+1)<n-i;omega, ?_⟩;exact Rc
    refine fa ?_;exact⟨by rw[hbad (O_ λh=>hc h.2.2)],hh.below⟩
   subst h0;refine Sb ?_;intro b7 w7 hh ws hh;exact⟨by rw[hbad (O_ λh=>h1 h.2.1)],hh.below⟩
  refine Sb ?_;intro b7 w7 hh ws hh;exact⟨by rw[hbad (O_ λh=>h0 h.1)],hh.below⟩
 obtain rfl:n=i:=Z';unfold gj;rw[hln,hall];by_cases h0:n=0
 .refine fa ?_;exact⟨by rw[O_ Z'];rfl,hh.below⟩
 refine fa ?_;exact⟨by rw[M_ Z'];rfl,hh.below⟩
structure sV(d:FD):Prop where
 d12:d.1.length<=12
 d127:∀x∈d.1,x<=127
 lx:d.2.length=la d.1
 CP:la d.1<=4096
 zx:∀x∈d.2,Sz 1002000 x
def abk(D:List Nat)(X:List Dyadic):(MP D X).ns=D:=Dh D
variable {q:Nat}
def abh{ds:List FD}{l:List NR}(h:Mb (kf ds l)=0)(hz:∀d∈ds,iw k d)(hn:ds.length<=100)(hl:∀a∈l,Sz q a.ma)(hk:k+q<=90000):sV (Pw ds l):=by
 have hmem:∀f∈kf ds l,∃d∈ds,∃Y:List Dyadic,f=MP d.1 Y/\Y.length=la d.1/\∀x∈Y,Sz 90000 x:=λf hf=>by
  unfold kf at hf;obtain⟨i,hi⟩:=j_.1 hf;rw[L8] at hi
  cases h1:ds[i]? with
  |none=>rw[h1] at hi;cases hi
  |some d=>
   cases h2:l[i]? with
   |none=>rw[h1,h2] at hi;cases hi
   |some a=>
    rw[h1,h2] at hi;have hd:=G' h1;refine⟨d,hd,_,(L_ hi).symm,by rw[i'];exact(hz d hd).lx,λx hx=> ?_⟩;obtain⟨y,hy,rfl⟩:=Z_.1 hx;exact(((hz d hd).zx y hy).mul (hl a (G' h2))).mono hk
 have hln:∀f∈kf ds l,f.ds.length=f.n:=λf hf=>(by obtain⟨d,_,Y,rfl,_,_⟩:=hmem f hf;exact Ic _);obtain⟨hlk,_,h4⟩:=Hz h hln;obtain⟨hne,om,_⟩:=Zq hlk;have hmx:=QD hlk hln;have hup:∀f∈kf ds l,(Oi (maxD (kf ds l)) f).length=la (maxD (kf ds l))/\∀x∈Oi (maxD (kf ds l)) f,Sz 1000000 x:=λf hf=>by
  obtain⟨h1,h2,h3⟩:=hmx f hf;refine⟨RM h1 h2, ?_⟩;have he:=om f hf;obtain⟨d,hd,Y,rfl,hY,hYz⟩:=hmem f hf;have g:=hz d hd;have hc:(MP d.1 Y).cs.length<=200:=(by show(Y.map nR).length<=200;rw[i',hY];exact g.CP);refine GQ (k:=90000) ⟨?_, ?_,λc hc2=> ?_⟩ he hc U' h1 h3 h4
  .show d.1.length<=1000;have:=g.d12;omega
  .show Y.length<=100000;have:=g.CP;omega
  obtain⟨x,hx,rfl⟩:=Z_.1 hc2;exact⟨(hYz x hx).ok U',by rw[Za];exact hYz x hx⟩
 unfold Pw;have hml:(kf ds l).length<=100:=(by unfold kf;rw[a7];omega);generalize maxD (kf ds l)=D at*;obtain⟨f0,ft,e⟩:=M6 hne;rw[e] at hup hmx hmem hml |-;obtain⟨d,hd,Y,hf0,_,_⟩:=hmem f0 q';obtain⟨h1,_,h3⟩:=hmx f0 q';have hD12:D.length<=12:=(by rw[h1,hf0,abk];exact(hz d hd).d12);obtain⟨u1,u2⟩:=hup f0 q';refine⟨hD12,h3, ?_,h4,λx hx=> ?_⟩
 .show(((ft.map (Oi D)).foldl Ij (Oi D f0))).length=_;rw[Gw _ _ λy hy=>by
   obtain⟨f,hf,rfl⟩:=Z_.1 hy;rw[(hup f (F' _ hf)).1,u1]]
  exact u1
 have:=PB (k:=1000000) (ft.map (Oi D)) (Oi D f0) 0 u2 (λy hy z hz2=>by
  obtain⟨f,hf,rfl⟩:=Z_.1 hy;exact(hup f (F' _ hf)).2 z hz2) x hx
 refine this.mono ?_;rw[i'];rw[E_] at hml;omega
variable {rs:List (List NR)}
def HP{ds:List FD}(h:Iu ds rs=0):∀r∈rs,Mb (kf ds r)=0:=λr hr=>by
 unfold Iu at h
 cases hf:rs.find? (λr=>decide (Mb (kf ds r)≠0)) with
 |some q=>
  rw[hf] at h;have:=B6 hf;exact absurd h (B9 this)
 |none=>
  have:=L7.1 hf r hr;simpa using this
def aco{L:List (List NR)}(hl:L.length=n)(hn:n<=3)(hr:∀l∈L,l.length=n)(hz:∀l∈L,∀a∈l,Sz q a.ma):∀l∈fy L n,∀a∈l,Sz (16*q+32) a.ma:=λl hl2 a ha=>by
 unfold fy iP at hl2;obtain⟨i,hi,rfl⟩:=Z_.1 hl2;obtain⟨j,hj,rfl⟩:=Z_.1 ha;rw[Za];exact(wI hl hn hr hz (g_.1 hi) (g_.1 hj)).2
variable {ps:List PX}
def RU{b:List SR}{ds:List FD}(h:uq ps b ds=0)(hz:∀d∈ds,iw k d)(hn:ds.length<=100)(hp:ps.length<=3)(hb:b.length=ps.length)(hs:∀l∈Jm ps b,∀a∈l,Sz q a.ma)(hk:k+(16*q+32)<=90000):∀d∈lr ps b ds,sV d:=λd hd=>by
 unfold lr at hd;obtain⟨r,hr,rfl⟩:=Z_.1 hd;unfold uq at h;split at h
 .cases h
 refine abh (HP h r hr) hz hn (aco (by unfold Jm;rw[i']) hp (λl hl=> ?_) hs r hr) hk;unfold Jm Ak at hl;obtain⟨p,_,rfl⟩:=Z_.1 hl;rw[i',u9];unfold iq;rw[Q7];exact hb
structure Ord{α:Type}(lt:α->α->Bool):Prop where
 irr:∀a,lt a a=false
 tr:∀a b c,lt b a=false->lt c b=false->lt c a=false
 asy:∀a b,lt a b=true->lt b a=false
def Kid(i k:Nat):Prop:=k=2*i+1\/k=2*i+2
variable {α:Type}{lt:α->α->Bool}
def aht(lt:α->α->Bool)(s:Nat)(L:List α):Prop:=∀i k a b,s<=i->Kid i k->L[i]?=some a->L[k]?=some b->lt b a=false
def swp(L:List α)(i k:Nat):List α:=match L[i]?,L[k]? with
 |some a,some b=>(L.set i b).set k a
 |_,_=>L
structure agY(lt:α->α->Bool)(s at_:Nat)(L:List α):Prop where
 ge:s<=at_
 h1:∀i k a b,s<=i->Kid i k->i≠at_->L[i]?=some a->L[k]?=some b->lt b a=false
 h2:∀p k a b,s<=p->Kid p at_->Kid at_ k->L[p]?=some a->L[k]?=some b->lt b a=false
structure agq(lt:α->α->Bool)(at_:Nat)(L:List α):Prop where
 h1:∀i k a b,Kid i k->k≠at_->L[i]?=some a->L[k]?=some b->lt b a=false
 h2:∀p k a b,Kid p at_->Kid at_ k->L[p]?=some a->L[k]?=some b->lt b a=false
def ZC(Q:Kq):Kq
 |.goto _,_,_=>False
 |e,ρ,w=>Q e ρ w
variable {Q:Kq}
def xS{c:Code}(h:WC .plain P N c (ZC Q) ρ w):WC .plain P N (.scope c) Q ρ w:=
 WC.mn λa hf=>wp_scope_straight (wp_mono (h.out a hf) λe a' w' ⟨ρ',hf',hq⟩=>by
  cases e with
  |goto l=>exact hq.elim
  |_=>exact⟨ρ',hf',hq⟩)
def yX(h:Q .normal ρ w):ZC Q .normal ρ w:=h
def aa5(h:Q .ret ρ w):ZC Q .ret ρ w:=h
def EX{id:Nat}(h:Q (.exit id) ρ w):ZC Q (.exit id) ρ w:=h
structure Ent(α:Type) where
 k:NR
 t:Int
 x:α
def EI.cells(e:Ent Int):List Value:=[.bool e.k.neg,.string e.k.Qa,.int .i64 e.k.e,.int .i64 e.t,.int .i64 e.x]
def ES.cells(e:Ent ByteArray):List Value:=[.bool e.k.neg,.string e.k.Qa,.int .i64 e.k.e,.int .i64 e.t,.string e.x]
def ah{α:Type}(a b:Ent α):Bool:=decide (a.k.ma<b.k.ma\/a.k.ma=b.k.ma/\a.t<b.t)
def ck(ps:List PX)(b:List SR):List FD:=ps.map λp=>(Ac p.v p.ts,Uo (Ac p.v p.ts) (vd p (db b)).2)
def lk(ds:List FD):Bool:=ds.any λd=>decide (Pj (d.2.map nR)≠0)
def ng(ps:List PX)(b:List SR):Bool:=decide (uq ps b (ck ps b)=0) && gj ((lr ps b (ck ps b)).map λd=>MP d.1 d.2)
def Fi(b:List SR)(a:Nat)(s:SR)(u:Bool):List SR:=(b.map SR.f).set a (s.f.half (nR s.f.qh) u)
structure ZB where
 A:Option Addr
 n:Nat
 c:Nat
 b:List SR
def ZB.cells(x:ZB):List Value:=[.slice x.A x.n x.c]
def ZB.len:∀x:ZB,x.cells.length=1:=λ_=>rfl
def ZB.row(x:ZB):HE:=.row x.A x.n x.c 36 6 (na SR.cells x.b)
structure ZV where
 k:Int
 b:List SR
 r:Dyadic
structure ZX where
 k:Int
 x:ZB
 r:Dyadic
def ZX.v(z:ZX):ZV:=⟨z.k,z.x.b,z.r⟩
def ZX.cells(z:ZX):List Value:=.int .i64 z.k::.slice z.x.A z.x.n z.x.c::NR.cells (nR z.r)
def ZX.len:∀x:ZX,x.cells.length=5:=λ_=>rfl
structure XF(ps:List PX)(b:List SR):Prop where
 sq:Qt ps b=0
 gr:∀p∈ps,Ql p b (gm p [])=0->Qe (400+400+16394) (Ac p.v p.ts) (400+1)<=440000
 bx:∀s∈b,s.fin 400
 fd:∀d∈ck ps b,iw 47000 d
 sl:∀l∈Jm ps b,∀a∈l,a.ok/\Sz 2600 a.ma
 ln:b.length=ps.length
def Bt(ps:List PX)(tol:Dyadic)(p bu:Int):Nat->Nat->List (List SR)->List ZV->List ZV->Int->Int->Prop
 |_,n,[],l,R,k,e=>R=l/\k=n/\e=0
 |0,_,_::_,_,_,_,_=>False
 |f+1,n,b::st,l,R,k,e=>if bu<(n+1:Nat) then R=[]/\k=0/\e=3 else XF ps b/\
   if lk (ck ps b)=true then Bt ps tol p bu f (n+1) st l R k e
   else if ng ps b=true then Bt ps tol p bu f (n+1) st (l++[⟨1,b,wi p (ck ps b)⟩]) R k e
   else ∃(a:Nat)(s:SR),(∀v,Cm b v->v=(a:Int))/\b[a]?=some s/\
    if s.hi.ma-s.lo.ma<tol then Bt ps tol p bu f (n+1) st (l++[⟨2,b,wi p (ck ps b)⟩]) R k e
    else Bt ps tol p bu f (n+1) (Fi b a s false::Fi b a s true::st) l R k e
def Vo(ps:List PX)(b:List SR)(tol:NR)(p bu:Int)(f:Nat)(R:List ZV)(k e:Int):Prop:=
 if Qt ps b≠0 then R=[]/\k=0/\e=Qt ps b else if tol.i.sign<=0 then R=[]/\k=0/\e=1 else Bt ps tol.ma p bu f 0 [b.map SR.f] [] R k e
def rP{g h:FX}(h1:g.ds=h.ds)(h2:g.cs=h.cs)(h3:g.n=h.n)(h4:g.m=h.m)(i n:Nat):Pt g i n=Pt h i n:=by
 obtain⟨A,n1,a,B,m,b,ds,cs⟩:=g;obtain⟨A',n',a',B',m',b',ds',cs'⟩:=h;obtain rfl:ds=ds':=h1;obtain rfl:cs=cs':=h2;obtain rfl:n1=n':=h3;obtain rfl:m=m':=h4;rfl
def EA{gs hs:List FX}(hl:gs.length=hs.length)(h:∀(i:Nat)(g k:FX),gs[i]?=some g->hs[i]?=some k->g.ds=k.ds/\g.cs=k.cs/\g.n=k.n/\g.m=k.m):gj gs=gj hs:=by
 have hu:Zm gs=Zm hs:=by
  funext i;unfold Zm;rw[hl];by_cases hi:i<hs.length
  .obtain⟨k,hk⟩:=ea (l:=hs) (k:=i) hi;obtain⟨g,hg⟩:=ea (l:=gs) (k:=i) Z';rw[hk,hg];obtain⟨a,b,c,d⟩:=h i g k hg hk;exact rP a b c d _ _
  rw[t_ Z',t_ Z']
 unfold gj;rw[hl,hu]
def bP(ps:List PX)(b:List SR)(ds:List FD):(lr ps b ds).length=ps.length:=by
 unfold lr fy;rw[i',i',u9]
def ad1(L:Option Addr)(n c:Nat)(ps:List PX)(x:ZB)(hT:Sc w)(hL:Sl w L n 2 (na PX.cells ps))(hn:n<=3)(hp:∀p∈ps,p.at_ w/\p.Zg 400)(hB:Sl w x.A x.n 6 (na SR.cells x.b))(hz:XF ps x.b):Calls prog 71 #[.slice L n c,.slice x.A x.n x.c] w λr w'=>∃(A:Option Addr)(a:Nat)(fs:List FX)(R:List HE),r=.returned (.tuple #[.slice A n a,.int .i64 0])/\fs.length=n/\(∀(i:Nat)(f:FX)(d:FD),fs[i]?=some f->(ck ps x.b)[i]?=some d->f.is d.1 d.2)/\(∀f∈fs,f.rg∈R/\f.fg∈R)/\Hp w (.row A n a 78 2 (na FX.cells fs)::R) w':=by
 have hln:ps.length=n:=hL.Fa PX.len U';have hbl:x.b.length=x.n:=hB.Fa SR.len U';have hxl:=hz.ln;refine(Pq L n c ps x.A x.n x.c x.b 400 w hT hL Z' (λp h=>⟨(hp p h).1,(hp p h).2,hz.gr p h⟩) hB hz.bx Z' U').mono λr w' h=> ?_;obtain⟨h,_⟩|⟨_,A,a,fs,R,h1,h2,h3,h4,h5⟩:=h
 .exact absurd hz.sq h
 refine⟨A,a,fs,R,h1,h2,λi f d e1 e2=> ?_,h4,h5⟩;unfold ck at e2;rw[V_] at e2
 cases hpi:ps[i]? with
 |none=>rw[hpi] at e2;cases e2
 |some p=>
  rw[hpi] at e2;obtain rfl:=L_ e2;exact h3 i p f hpi e1
def vu(L:Option Addr)(n c:Nat)(ps:List PX)(B:Option Addr)(m cb:Nat)(b:List SR)(tol:NR)(p bu:Int)(f D:Nat)(R:List ZV)(k e:Int)(w:World)(hT:Sc w)(hL:Sl w L n 2 (na PX.cells ps))(hn:n<=3)(hp:∀p∈ps,p.at_ w/\p.Zg 400)(hg:Qt ps b=0->∀p∈ps,p.v=n/\Em p.v 400 100 D p.ts)(hB:Sl w B m 6 (na SR.cells b))(hm:m<=1000000)(hb:∀s∈b,s.fin 400)(hgr:∀p∈ps,Ql p b (gm p [])=0->Qe (400+400+16394) (Ac p.v p.ts) (400+1)<=440000)(ht:tol.ok)(hp1: -1000<=p)(hp2:p<=1000)(hb1: -9223372036854775808<=bu)(hb2:bu<=10000)(hR:Vo ps b tol p bu f R k e):Calls prog 21 #[.slice L n c,.slice B m cb,.agg #[.bool tol.neg,.string tol.Qa,.int .i64 tol.e],.int .i64 p,.int .i64 bu] w λr w'=>∃(G:Option Addr)(c':Nat)(xs:List ZX)(HR:List HE),r=.returned (.tuple #[.slice G xs.length c',.int .i64 k,.int .i64 e])/\xs.map ZX.v=R/\(∀x∈xs,x.x.row∈HR)/\Hp w (.row G xs.length c' 60 5 (na ZX.cells xs)::HR) w':=by
 have hh:=Hp.start w;have hln:ps.length=n:=hL.Fa PX.len U';have hsq:=λw1 hT1 hb1=>Pq L n c ps B m cb b 400 w1 hT1 (hL.ext hb1) Z' (λp h=>⟨(hp p h).1.ext hb1,(hp p h).2,hgr p h⟩) (hB.ext hb1) hb hm U';unfold Vo at hR;by_cases hE:Qt ps b≠0
 .rw[J' hE] at hR;obtain⟨rfl,rfl,rfl⟩:=hR;replace hsq:=λw1 hT1 hb1=>(hsq w1 hT1 hb1).mono λr w' h=>h.elim (λh=>h.2) λh=>absurd h.1 hE;refine kU ?_;refine Jb ?_;intro b7 w7 hh;refine qa (hsq _ (hT.hp hh) hh.below) ja.out rfl U' ?_;rintro e_ w32 ⟨rfl,hb_⟩;refine⟨_,rfl, ?_⟩;replace hh:=hh.ext hb_;generalize Qt ps b=E at*;exact acv
 rw[L' hE] at hR;replace hE:Qt ps b=0:=P7.1 hE;replace hsq:∀w1,Sc w1->Below w.heap.size w w1->Calls prog 71 #[.slice L n c,.slice B m cb] w1 λr w'=>∃(A:Option Addr)(a:Nat),r=.returned (.tuple #[.slice A n a,.int .i64 0])/\Below w1.heap.size w1 w':=λw1 hT1 hb1=>(hsq w1 hT1 hb1).mono λr w' h=>h.elim (λh=>absurd hE h.1) λ⟨_,A,a,_,_,h1,_,_,_,h5⟩=>⟨A,a,h1,h5.below⟩;by_cases hs:tol.i.sign<=0
 .rw[J' hs] at hR;obtain⟨rfl,rfl,rfl⟩:=hR;have hsb:=nk tol.i;have hsg:=λw1=>Pc tol w1;generalize tol.i.sign=sg at*;refine kU ?_;refine Jb ?_;intro b7 w7 hh;refine qa (hsq _ (hT.hp hh) hh.below) ja.out rfl U' ?_;rintro e_ w32 ⟨Aq,aq,rfl,hb_⟩;refine⟨_,rfl, ?_⟩;replace hh:=hh.ext hb_;refine fa ?_;refine qa (hsg _) ja.out rfl U' ?_;rintro e_ w39 ⟨rfl,hb_⟩;refine⟨_,rfl, ?_⟩;replace hh:=hh.ext hb_;exact acv
 rw[L' hs] at hR;have hsb:=nk tol.i;have hsg:=λw1=>Pc tol w1;generalize tol.i.sign=sg at*;refine kU ?_;refine Jb ?_;intro b7 w7 hh;refine qa (hsq _ (hT.hp hh) hh.below) ja.out rfl U' ?_;rintro e_ w32 ⟨Aq,aq,rfl,hb_⟩;refine⟨_,rfl, ?_⟩;replace hh:=hh.ext hb_;refine fa ?_;refine qa (hsg _) ja.out rfl U' ?_;rintro e_ w39 ⟨rfl,hb_⟩;refine⟨_,rfl, ?_⟩;replace hh:=hh.ext hb_;refine fa ?_;refine qa (dk B m cb b _ (hT.hp hh) (hB.ext hh.below) (λs h=>⟨(hb s h).1.ok,(hb s h).2.ok⟩) hm) ja.out rfl U' ?_;rintro e_ w42 ⟨A42,c42,rfl,hown_,hb_⟩;refine⟨_,rfl, ?_⟩;replace hh:=hh.Aa (x:=.row _ _ _ _ _ _) hb_ hown_;refine QG ?_;intro b43 w43 hh;refine fa ?_;replace hh:=hh.Lb 60 5;replace hh:=hh.perm (P_ (l₁:=[_,_,_]));simp only[C',E'] at hh;replace hh:=hh.perm (P_ (l₁:=[_,_]));simp only[C',E'] at hh;replace hh:=hh.perm (P_ (l₁:=[_,_]));simp only[C',E'] at hh;have hgd:=hg hE;have hnb:∀x:ZB,XF ps x.b->0<x.b.length:=λx hz=>by
  have h1:=hz.sq;have h2:=hz.ln;rw[h2];refine Nat.pos_of_ne_zero λh=> ?_;unfold Qt at h1;split at h1
  .rename_i q hq;have:=B6 hq;exact B9 this h1
  rw[J' (.inl h)] at h1;cases h1
 refine ay [10,11,12,15,16,17,18,19,20,21,22,23,24,25,26,27,28,44,45,46,47,48,49,50,51,52,53,54,55,56,57,58,59,60,61,62,63,64,65,66,67,68,69,70,71,72,73,74,75,76,77,78,79,80,81,82,83,84,85,86,87,88,89,90,91,92,93,94,95,96,97,98,99,100,101,102,103,104,105,106,107,108,109,110,111,112,113,114,115,116,117,118,119,120,121,122,123,124,125,126,127,128,129,130,131,132,133,134] 15 16 17 (λv15 v16 v17 w'=>∃(i fu:Nat)(xs:List ZB)(ls:List ZX)(A1:Option Addr)(c1:Nat)(T:Option Addr)(tn c2:Nat)(Rw:List HE),v15=.slice A1 ls.length c1/\v16=.int .i64 i/\v17=.slice T tn c2/\xs.length=tn/\Bt ps tol.ma p bu fu i (xs.map ZB.b) (ls.map ZX.v) R k e/\(∀x∈xs,x.row∈Rw/\x.n=x.b.length)/\(∀x∈ls,x.x.row∈Rw)/\ls.length<=i/\(i:Int)<=max bu 0/\tn<=i+1/\Hp w (.row A1 ls.length c1 60 5 (na ZX.cells ls)::.row T tn c2 26 1 (na ZB.cells xs.reverse)::.blk b7 30 [.bool tol.neg,.string tol.Qa,.int .i64 tol.e] (0,0)::Rw) w') (λ_ v _ _=>(max bu 0+1).toNat-(intOf v).toNat) ?_ ?_
 .have hml:m=(b.map SR.f).length:=by rw[i'];exact(hB.Fa SR.len U').symm
  exact⟨0,f,[⟨A42,m,c42,b.map SR.f⟩],[],none,0,_,1,_,_,rfl,rfl,rfl,rfl,hR,λx hx=>by rw[T_.1 hx];exact⟨q',hml⟩,λx h=>absurd h O9,j' _,Z',Z',hh⟩
 clear hh;rintro ρ' v15 v16 v17 w' ⟨i,fu,xs,ls,A1,c1,T,tn,c2,Rw,rfl,rfl,rfl,htn,hE2,hxs,hls,hli,hib,hxl,hh⟩
 cases xs with
 |nil=>
  obtain rfl:tn=0:=htn.symm;obtain⟨rfl,rfl,rfl⟩:R=ls.map ZX.v/\k=i/\e=0:=by cases fu<;>exact hE2
  refine fa ?_;exact⟨A1,c1,ls,Rw,rfl,rfl,hls,hh.sub (.cons_cons _ (.cons _ (.cons _ (A_ _))))⟩
 |cons x r=>
  obtain rfl:tn=r.length+1:=htn.symm
  cases fu with
  |zero=>exact absurd hE2 id
  |succ fu=>
   rw[q_,Bt] at hE2;by_cases hbu:bu<(i+1:Nat)
   .rw[J' hbu] at hE2;obtain⟨rfl,rfl,rfl⟩:=hE2;exact acv
   rw[L' hbu] at hE2;obtain⟨hz,hE2⟩:=hE2;have hn0:=hnb x hz;obtain⟨hmx,hxn⟩:=hxs x q';obtain⟨ix,hix⟩:=j_.1 hmx;obtain⟨xA,xn,xc,xb⟩:=x;replace hxn:xn=xb.length:=hxn;replace hz:XF ps xb:=hz;replace hn0:0<xb.length:=hn0;obtain⟨gx,rfl⟩:=hh.Ob (i:=ix+3) (show(_::_::_::Rw)[ix+3]?=some (.row xA xn xc 36 6 (na SR.cells xb)) from hix) Z';clear hix;have hzl:=hz.ln;obtain rfl:xn=n:=Z';have hget:(⟨some ⟨gx,0,none⟩,xn,xc,xb⟩::r:List ZB).reverse[r.length]?=some ⟨some ⟨gx,0,none⟩,xn,xc,xb⟩:=by rw[D7,I9 (by simp),c_,f_];rfl
   obtain⟨gTd,rfl⟩:=hh.Ob (i:=1) rfl Z';refine mb (sr (mL (Vq ?_)));refine qx (ua (cT (Mc (wc (cg (mb (sr (mI ?_))))))));refine lj (aI (ua (sr (mI (mI ?_)))));refine qx (ua (cF (Mc (wc (sr (mL (mL (Vq ?_))))))));refine Rp ?_;refine Nd (k:=r.length) lb.out ya.size rfl rfl Z' Z' U' ?_;refine ub ya.out rfl (hh.Gd (f:=ZB.cells) (x:=⟨some ⟨gx,0,none⟩,xn,xc,xb⟩) (l:=(⟨some ⟨gx,0,none⟩,xn,xc,xb⟩::r:List ZB).reverse) (i:=1) rfl ZB.len U' hget 0 _ rfl) U' ?_;have hcap:=hh.me (i:=1) rfl;refine fa ?_;refine Pn (h:=r.length) lb.out ya.size rfl rfl Z' Z' U' ?_;refine fa ?_;replace hh:=hh.perm (P_ (l₁:=[_]));simp only[C',E'] at hh;replace hh:=hh.oD (k:=r.length) Z';rw[Ih ZB.len,show(⟨some ⟨gx,0,none⟩,xn,xc,xb⟩::r:List ZB).reverse.take r.length=r.reverse by simp] at hh;have hmh:∀H1:List HE,(∀y∈Rw,y∈H1)->(⟨some ⟨gx,0,none⟩,xn,xc,xb⟩:ZB).row∈H1:=λH1 h=>h _ hmx
   refine qa (ad1 L xn c ps ⟨some ⟨gx,0,none⟩,xn,xc,xb⟩ (hT.hp hh) (hL.ext hh.below) hn (λp h=>⟨(hp p h).1.ext hh.below,(hp p h).2⟩) (jf (hh.own _ (F' _ (F' _ (F' _ hmx))))) hz) ja.out rfl U' ?_;rintro e_ w66 ⟨Af,af,fs,Rf,rfl,hfl,hfs,hRf,h3⟩;refine⟨_,rfl, ?_⟩;replace hh:=hh.join h3;clear h3;replace hh:=hh.perm O6;simp only[C',E'] at hh;have hfd:(ck ps xb).length=xn:=by unfold ck;rw[i'];omega
   have hF:∀(w1:World)(H1:List HE),Hp w H1 w1->(∀y∈Rw++.row Af xn af 78 2 (na FX.cells fs)::Rf,y∈H1)->Sl w1 (some ⟨gx,0,none⟩) xn 6 (na SR.cells xb)/\Sl w1 Af xn 2 (na FX.cells fs)/\∀f∈fs,f.at_ w1:=λw1 H1 h hm=>⟨jf (h.own _ (hm _ (x9 _ hmx))),jf (h.own _ (hm _ (W8 _ q'))),λf hf=>h.Hj (hm _ (W8 _ (F' _ (hRf f hf).1))) (hm _ (W8 _ (F' _ (hRf f hf).2)))⟩;have hfg:∀f∈fs,∃d:FD,f.is d.1 d.2/\iw 47000 d:=λf hf=>(by obtain⟨j,hj⟩:=j_.1 hf;obtain⟨d,hd⟩:=ea (l:=ck ps xb) (k:=j) (by have:=(X_.1 hj).1;omega);exact⟨d,hfs j f d hj hd,hz.fd d (G' hd)⟩);have hno:=λw1 hT1 hS1 ha1=>oE Af xn af fs 47000 w1 hT1 hS1 Z' ha1 (λf hf=>by
    obtain⟨d,h1,h2⟩:=hfg f hf;exact h1.Zg (ha1 f hf) h2.d12 h2.lx (by have:=h2.CP;omega) h2.zx U') λf hf=>by
    obtain⟨d,h1,h2⟩:=hfg f hf;exact h1.e h2.d12 h2.d127 h2.lx (by have:=h2.CP;omega)
   have hcs:fs.map FX.cs=(ck ps xb).map λd=>d.2.map nR:=by
    refine V9 λj=> ?_;rw[V_,V_];by_cases hj:j<xn
    .obtain⟨f,hf⟩:=ea (l:=fs) (k:=j) Z';obtain⟨d,hd⟩:=ea (l:=ck ps xb) (k:=j) Z';rw[hf,hd];exact J_ some (hfs j f d hf hd).cs
    rw[t_ Z',t_ Z'];rfl
   rw[show(fs.any λf=>decide (Pj f.cs≠0))=lk (ck ps xb) by
    unfold lk;have:=J_ (λl=>l.any λc=>decide (Pj c≠0)) hcs;rw[List.any_map,List.any_map] at this;exact this] at hno
   refine fa ?_;obtain⟨f1,f2,f3⟩:=hF _ _ hh λy hy=>F' _ (F' _ (F' _ hy));refine qa (hno _ (hT.hp hh) f2 f3) ja.out rfl U' ?_;rintro e_ w75 ⟨rfl,hb_⟩;refine⟨_,rfl, ?_⟩;replace hh:=hh.ext hb_;clear f1 f2 f3;by_cases hnn:lk (ck ps xb)=true
   .rw[J' hnn] at hE2;rw[hnn];refine fa ?_;replace hh:=hh.perm (P_ (l₁:=[_,_]));simp only[C',E'] at hh;replace hh:=hh.perm (P_ (l₁:=[_]));simp only[C',E'] at hh;replace hh:=hh.perm (P_ (l₁:=[_,_]));simp only[C',E'] at hh;refine⟨⟨i+1,fu,r,ls,A1,c1,_,r.length,c2,_,rfl,rfl,rfl,rfl,hE2,λy hy=>⟨x9 _ (hxs y (F' _ hy)).1,(hxs y (F' _ hy)).2⟩,λy hy=>x9 _ (hls y hy),Z',Z',Z',hh⟩,by show(max bu 0+1).toNat-(i+1)<(max bu 0+1).toNat-i;omega, ?_⟩;exact Rc
   rw[L' hnn] at hE2;rw[Bool.not_eq_true] at hnn;rw[hnn];have hrs:=λw1 hT1 hS1 ha1=>LH Af xn af fs (ck ps xb) p 47000 w1 hT1 hS1 Z' ha1 hfd (λj f d h1 h2=>by
    have g:=hz.fd d (G' h2);exact⟨hfs j f d h1 h2,g.d12,g.d127,g.lx,by have:=g.CP;omega,g.zx⟩) U' U' hp1 hp2
   have htu:=λw1 hT1 hb1 hS1 hS2 ha1=>kC L xn c ps (some ⟨gx,0,none⟩) xc xb Af af fs (ck ps xb) 47000 2600 400 D w1 hT1 (hL.ext hb1) hn (λp h=>⟨(hp p h).1.ext hb1,(hp p h).2,(hgd p h).1,(hgd p h).2⟩) hS1 hz.bx U' hS2 ha1 hfd hfs hz.fd hz.sl U';generalize hrd:wi p (ck ps xb)=rd at*;refine fa ?_;obtain⟨f1,f2,f3⟩:=hF _ _ hh λy hy=>F' _ (F' _ (F' _ hy));refine qa (ez (some ⟨gx,0,none⟩) xn xc xb 400 _ (hT.hp hh) f1 hz.bx Z' U') ja.out rfl U' ?_;rintro e_ w77 ⟨⟨wa,rfl,hwa⟩,hb_⟩;refine⟨_,rfl, ?_⟩;replace hh:=hh.ext hb_;refine fa ?_;clear f1 f2 f3;obtain⟨f1,f2,f3⟩:=hF _ _ hh λy hy=>F' _ (F' _ (F' _ hy));refine qa (hrs _ (hT.hp hh) f2 f3) ja.out rfl U' ?_;rintro e_ w81 ⟨rfl,hb_⟩;refine⟨_,rfl, ?_⟩;replace hh:=hh.ext hb_;refine Sb ?_;intro b22 w22 hh ws hh;clear f1 f2 f3;obtain⟨f1,f2,f3⟩:=hF _ _ hh λy hy=>F' _ (F' _ (F' _ (F' _ hy)));by_cases hte:uq ps xb (ck ps xb)=0
   .replace htu:=(htu _ (hT.hp hh) hh.below f1 f2 f3).mono λr w' h=>h.elim (λh=>absurd hte h.1) λh=>h.2;have htx:=RU hte hz.fd Z' Z' hzl (λl hl a ha=>(hz.sl l hl a ha).2) U';have htl:=bP ps xb (ck ps xb);refine qa (htu) ja.out rfl U' ?_;rintro e_ w88 ⟨Ag,ag,gs,Rg,rfl,hgl,hgs,hRg,h3⟩;refine⟨_,rfl, ?_⟩;have hgd2:∀(j:Nat)(g:FX),gs[j]?=some g->∃d,(lr ps xb (ck ps xb))[j]?=some d/\g.is d.1 d.2/\sV d:=λj g h1=>(by obtain⟨d,hd⟩:=ea (l:=lr ps xb (ck ps xb)) (k:=j) (by have:=(X_.1 h1).1;omega);exact⟨d,hd,hgs j g d h1 hd,htx d (G' hd)⟩);have hct:ng ps xb=gj gs:=(by unfold ng;rw[hte];refine(Bool.true_and _).trans (EA (by rw[i'];omega) λj g k h1 h2=> ?_).symm;obtain⟨d,hd,hi,_⟩:=hgd2 j g h1;rw[V_,hd] at h2;obtain rfl:=L_ h2;have ha:=h3.Hj (f:=g) (F' _ (hRg g (G' h1)).1) (F' _ (hRg g (G' h1)).2);exact⟨hi.ds,hi.cs,(hi.key ha).1,(hi.key ha).2⟩);have hcc:=λw1 (hb1:Below w88.heap.size w88 w1) hT1=>vk Ag xn ag gs 1002000 w1 hT1 (Sl.ext (h3.ra (i:=0) rfl) hb1) Z' (λg hg=>by
     obtain⟨m1,m2⟩:=hRg g hg;obtain⟨j,hj⟩:=j_.1 hg;obtain⟨d,_,hi,gd⟩:=hgd2 j g hj;obtain⟨i1,hi1⟩:=j_.1 m2;have ha:=h3.Hj (f:=g) (F' _ m1) (F' _ m2);exact⟨ha.ext hb1,hi.Zg ha gd.d12 gd.lx gd.CP gd.zx U',h3.me (i:=i1+1) hi1⟩) U'
    rw[<-hct] at hcc;have h88:=h3.below;replace hh:=hh.ext h3.below;clear h3 f1 f2 f3 hgd2 hgs hRg
    cases hcr:ng ps xb with
    |true=>
     rw[J' hcr] at hE2;rw[hcr] at hcc;refine fa ?_;refine qa (hcc _ (Below.refl _ _) (hT.hp hh)) ja.out rfl U' ?_;rintro e_ w95 ⟨rfl,hb_⟩;refine⟨_,rfl, ?_⟩;replace hh:=hh.ext hb_;refine fa ?_;refine VT ?_;intro b101 w101 hh;refine tF ?_;intro A102 c102 w102 hh;simp only[U_,F_] at hh;replace hh:=hh.sub (s_ _ _);refine fa ?_;replace hh:=hh.perm (P_ (l₁:=[_,_,_]));simp only[C',E'] at hh;replace hh:=hh.perm (P_ (l₁:=[_,_]));simp only[C',E'] at hh;replace hh:=hh.perm (P_ (l₁:=[_,_,_]));simp only[C',E'] at hh;replace hh:=hh.sub (I' _ (I' _ (I' _ (p' _ (A_ _)))))
     refine⟨⟨i+1,fu,r,ls++[⟨1,⟨some ⟨gx,0,none⟩,xn,xc,xb⟩,rd⟩],_,_,_,r.length,c2,_,by rw[Y_];rfl,rfl,rfl,rfl,by rw[n_];exact hE2,λy hy=>⟨x9 _ (hxs y (F' _ hy)).1,(hxs y (F' _ hy)).2⟩,λy hy=> ?_,by rw[Y_];show ls.length+1<=i+1;omega,Z',Z',by rw[Y_,La];exact hh⟩,by show(max bu 0+1).toNat-(i+1)<(max bu 0+1).toNat-i;omega, ?_⟩
     .exact aeL
     exact Rc
    |false=>
     rw[L' (by rw[hcr];decide)] at hE2;rw[hcr] at hcc;refine fa ?_;refine qa (hcc _ (Below.refl _ _) (hT.hp hh)) ja.out rfl U' ?_;rintro e_ w95 ⟨rfl,hb_⟩;refine⟨_,rfl, ?_⟩;replace hh:=hh.ext hb_;exact aae
   replace htu:=(htu _ (hT.hp hh) hh.below f1 f2 f3).mono λr w' h=>h.elim (λh=>h.2) λh=>absurd h.1 hte;have hct:ng ps xb=false:=by unfold ng;rw[O_ hte];rfl
   rw[L' (by rw[hct];decide)] at hE2;generalize uq ps xb (ck ps xb)=tE at*;refine qa (htu) ja.out rfl U' ?_;rintro e_ w88 ⟨rfl,hb_⟩;refine⟨_,rfl, ?_⟩;replace hh:=hh.ext hb_;clear f1 f2 f3;exact aae
def Sq{a:NR}(h:dW a=false):cm 36 a:=by
 have h':=of_decide_eq_false h;exact⟨⟨Z',Z',Z'⟩,Sz.raw (m:=24) (E:=12) Z' Z' Z'⟩
def qm(a:NR)(w:World):Calls prog 55 #[.agg #[.bool a.neg,.string a.Qa,.int .i64 a.e]] w λr w'=>r=.returned (.bool (dW a))/\Below w.heap.size w w':=by
 have hh:=Hp.start w;by_cases h1:(3:Int)<a.Qa.size
 .refine eL ?_;refine Jb ?_;intro b1 w1 hh;refine⟨?_,hh.below⟩;unfold dW;rw[M_ (.inl h1)]
 by_cases h2:a.e< -12
 .refine eL ?_;refine Jb ?_;intro b1 w1 hh;refine⟨?_,hh.below⟩;unfold dW;rw[M_ (.inr (.inl h2))]
 by_cases h3:12<a.e
 .refine eL ?_;refine Jb ?_;intro b1 w1 hh;refine⟨?_,hh.below⟩;unfold dW;rw[M_ (.inr (.inr h3))]
 refine eL ?_;refine Jb ?_;intro b1 w1 hh;refine⟨?_,hh.below⟩;unfold dW;rw[O_ Z']
def fH(B:Option Addr)(m d:Nat)(b:List SR)(eps:NR)(g bu:Int)(w:World)(hB:Sl w B m 6 (na SR.cells b)):Calls prog 15 #[.slice B m d,.agg #[.bool eps.neg,.string eps.Qa,.int .i64 eps.e],.int .i64 g,.int .i64 bu] w λr w'=>∃v:Bool,r=.returned (.bool v)/\(v=false->m<=3/\(∀s∈b,s.fin 36)/\eps.ok/\Sz 36 eps.ma/\ -40<=g/\g<=40/\bu<=30)/\Below w.heap.size w w':=by
 have hh:=Hp.start w;have hlb:b.length=m:=hB.Fa SR.len U';by_cases h1:3<m
 .refine IZ ?_;refine Jb ?_;intro b5 w5 hh;exact⟨_,rfl,λh=>(by cases h),hh.below⟩
 refine IZ ?_;refine Jb ?_;intro b5 w5 hh;refine Oa hh (qm eps _) rfl ?_;intro w15 hh
 cases he:dW eps with
 |true=>
  exact xx
 |false=>
  by_cases h2:g< -40
  .exact xx
  by_cases h3:40<g
  .exact xx
  by_cases h4:30<bu
  .exact xx
  refine fa ?_;refine Ba [8,9,29,30,31,32,33,34,35,36,37,38,39,40,41,42,43,44,45,46,47,48] 9 (λx w'=>∃i:Nat,i<=m/\x=.int .i64 i/\(∀s∈b.take i,s.fin 36)/\Hp w [] w') (λv _=>m-(intOf v).toNat) ?_ ?_
  .exact⟨0,D' _,rfl,λt ht=>(nomatch ht),hh.sub (R9 _)⟩
  clear hh;rintro ρ' x_ w' ⟨j,hj,rfl,hbx,hh⟩;by_cases hlt2:j<m
  .obtain⟨s,hs⟩:=ea (l:=b) (k:=j) Z';obtain⟨ad,rfl,hr⟩:=hB.at_ Z';have hf1:=λw1=>qm s.lo w1;have hf2:=λw1=>qm s.hi w1;refine fa ?_;refine wb (vs:=[_,_,_]) ya.out rfl (((((hr.ext hh.below).recAt SR.len hs).drop 0).take 3)) rfl U' ?_
   cases hg1:dW s.lo with
   |true=>
    rw[hg1] at hf1;refine Oa hh (hf1 _) rfl ?_;intro w40 hh;exact xx
   |false=>
    rw[hg1] at hf1;refine Oa hh (hf1 _) rfl ?_;intro w40 hh;refine fa ?_;refine wb (vs:=[_,_,_]) ya.out rfl (((((hr.ext hh.below).recAt SR.len hs).drop 3).take 3)) rfl U' ?_
    cases hg2:dW s.hi with
    |true=>
     rw[hg2] at hf2;refine fa ?_;refine Oa hh (hf2 _) rfl ?_;intro w47 hh;exact xx
    |false=>
     rw[hg2] at hf2;refine fa ?_;refine Oa hh (hf2 _) rfl ?_;intro w47 hh;refine fa ?_;refine⟨⟨j+1,Z',rfl,λt ht=> ?_,hh⟩,by show m-(j+1)<m-j;omega, ?_⟩
     .rw[oa hs] at ht;obtain ht|ht:=z_.1 ht
      .exact hbx t ht
      rw[T_.1 ht];obtain⟨a1,a2⟩:=Sq hg1;obtain⟨a3,a4⟩:=Sq hg2;exact⟨⟨a1,a2⟩,⟨a3,a4⟩⟩
     exact Rc
  rw[W_ Z'] at hbx;obtain⟨a1,a2⟩:=Sq he;refine fa ?_;exact⟨_,rfl,λ_=>⟨Z',hbx,a1,a2,Z',Z',Z'⟩,hh.below⟩
def AN(L:Option Addr)(m c n:Nat)(t:List Nat)(w:World)(hT:Sc w)(hS:Sl w L m 1 (Kg t))(ht:∀c∈t,c<256)(hn:n<=1000):Calls prog 19 #[.slice L m c,.int .i64 n] w λr w'=>∃A c',r=.returned (.slice A n c')/\Hp w [.row A n c' 30 3 (na NR.cells ((List.range n).map λi=>nR (BG t i)))] w':=by
 have hh:=Hp.start w;have hln:t.length=m:=by have:=hS.1;simpa[Kg] using this
 refine da (N:=29) (l:=[.slice L m c,.int .i64 n]) func19 rfl rfl (by simp) ?_;refine fa ?_;replace hh:=hh.Lb 30 3;refine Ra [5,6,7,8,9,10,11,12,13,14,15,16,17,18,19,20,21,22,23,24,25,26,27] 5 6 (λv5 v w'=>∃(i c3:Nat)(A:Option Addr),i<=n/\v=.int .i64 i/\v5=.slice A i c3/\Hp w [.row A i c3 30 3 (na NR.cells ((List.range i).map λi=>nR (BG t i)))] w') (λ_ v _=>n-(intOf v).toNat) ?_ ?_
 .exact⟨0,0,none,D' _,rfl,rfl,hh⟩
 clear hh;rintro ρ' v5 v w' ⟨i,c3,A,hi,rfl,rfl,hh⟩;by_cases hlt:i<n
 .have hz:=DC t ht i;have he:(List.range (i+1)).map (λi=>nR (BG t i))=(List.range i).map (λi=>nR (BG t i))++[nR (BG t i)]:=by rw[P8,n_];rfl
  have hc:=λc w1 hT1=>Tk (c:Nat) w1 hT1;have hs:=λ(c:Nat) (h:c<256) w1 hT1=>Xr (nR ((c:Int):Dyadic)) (-8) w1 hT1 (by have:=(Sz.ofNat c h).nr;omega) (by have:=(Sz.ofNat c h).nr;omega) (by have:=(Sz.ofNat c h).nr;omega) U' U';simp only[Za] at hs;have hv:∀c:Nat,(t[i]?).getD 0=c->((c:Int):Dyadic)*Ie (-8)=BG t i:=λc h=>(by unfold BG;rw[h];exact(ED (c:Int) 0 (-8)).symm);by_cases him:i<m
  .obtain⟨b,hb⟩:=ea (l:=t) (k:=i) Z';have hb2:=yp hb;have hb3:=ht b (G' hb);obtain⟨ad,rfl,hr⟩:=hS.at_ Z';replace hs:=hs b hb3;have hg:(t[i]?).getD 0=b:=by rw[hb];rfl
   refine fa ?_;refine Tm ?_;refine fa ?_;rw[hv _ hg] at hs;refine Oa hh (hc b _ (hT.hp hh) Z' Z') rfl ?_;exact aa3
  replace hs:=hs 0 U';have hg:(t[i]?).getD 0=0:=by rw[t_ Z'];rfl
  refine fa ?_;rw[hv _ hg] at hs;refine Oa hh (hc 0 _ (hT.hp hh) Z' Z') rfl ?_;exact aa3
 obtain rfl:i=n:=Z';refine fa ?_;exact⟨A,c3,rfl,hh⟩
def DD(L:Option Addr)(n c:Nat)(ps:List PX)(w:World)(hL:Sl w L n 2 (na PX.cells ps))(hp:∀p∈ps,p.at_ w):Calls prog 14 #[.slice L n c] w λr w'=>∃b:Bool,r=.returned (.bool b)/\(b=false->n<=3/\∀p∈ps,p.ts.length<=5/\xg 36 p.ts/\∀t∈p.ts,t.m.size<=3/\∀c∈t.m.data.toList,c.toNat<=2)/\Below w.heap.size w w':=by
 have hh:=Hp.start w;have hln:ps.length=n:=hL.Fa PX.len U';by_cases h1:3<n
 .refine da (N:=67) (l:=[.slice L n c]) func14 rfl rfl (by simp) ?_;exact xx
 refine da (N:=67) (l:=[.slice L n c]) func14 rfl rfl (by simp) ?_;refine fa ?_;refine Ba [2,3,4,5,6,10,11,12,13,14,15,16,17,18,19,20,21,22,23,24,25,26,27,28,29,30,31,32,33,34,35,36,37,38,39,40,41,42,43,44,45,46,47,48,49,50,51,52,53,54,55,56,57,58,59,60,61,62,63,64,65,66] 3 (λx w'=>∃i:Nat,i<=n/\x=.int .i64 i/\(∀p∈ps.take i,p.ts.length<=5/\xg 36 p.ts/\∀t∈p.ts,t.m.size<=3/\∀c∈t.m.data.toList,c.toNat<=2)/\Hp w [] w') (λv _=>n-(intOf v).toNat) ?_ ?_
 .exact DV
 clear hh;rintro ρ' x_ w' ⟨i,hi,rfl,hall,hh⟩;by_cases hlt:i<n
 .obtain⟨p,hpi⟩:=ea (l:=ps) (k:=i) Z';have hpa:=hp p (G' hpi);have hpl:=hpa.ln;obtain⟨v,A,pn,pc,ts⟩:=p;replace hpl:ts.length=pn:=hpl;obtain⟨ad,rfl,hr⟩:=hL.at_ Z';by_cases h5:5<pn
  .skip;refine fa ?_;refine rR ?_;exact xx
  skip;refine fa ?_;refine rR ?_;refine fa ?_;refine Ba [2,4,5,6,23,24,25,26,27,28,29,30,31,32,33,34,35,36,37,38,39,40,41,42,43,44,45,46,47,48,49,50,51,52,53,54,55,56,57,58,59,60,61,62,63,64,65,66] 4 (λx w'=>∃j:Nat,j<=pn/\x=.int .i64 j/\xg 36 (ts.take j)/\(∀t∈ts.take j,t.m.size<=3/\∀c∈t.m.data.toList,c.toNat<=2)/\Hp w [] w') (λv _=>pn-(intOf v).toNat) ?_ ?_
  .exact⟨0,D' _,rfl,λt ht=>(nomatch ht),λt ht=>(nomatch ht),hh⟩
  clear hh;rintro ρ2 x_ w2 ⟨j,hj,rfl,hok,hsz,hh⟩;by_cases hjl:j<pn
  .obtain⟨x,hx⟩:=ea (l:=ts) (k:=j) Z';obtain⟨at2,rfl,hrt⟩:=Sl.at_ hpa (by show 0<pn;omega);have hfa:=λw1=>qm x.c w1;have hbm:=Tc x.m;refine fa ?_;refine NU ?_;refine fa ?_;refine NU ?_;refine fa ?_;refine ub ya.out rfl (((hrt.ext hh.below).recAt TR.len hx).cell (i:=0) rfl) U' ?_;refine fa ?_;refine NU ?_;refine fa ?_;refine wb (vs:=[_,_,_]) ya.out rfl (((hrt.ext hh.below).recAt TR.len hx).drop 1) rfl U' ?_;refine Oa hh (hfa _) rfl ?_;intro w51 hh
   cases hf:dW x.c with
   |true=>
    exact xx
   |false=>
    by_cases h6:3<x.m.size
    .exact xx
    refine fa ?_;refine Ba [2,6,57,58,59,60,61,62,63,64,65,66] 6 (λy w'=>∃q:Nat,q<=x.m.size/\y=.int .i64 q/\(∀c∈x.m.data.toList.take q,c.toNat<=2)/\Hp w [] w') (λv _=>x.m.size-(intOf v).toNat) ?_ ?_
    .exact DV
    clear hh;rintro ρ3 y_ w3 ⟨q,hq,rfl,hex,hh⟩;by_cases hlq:q<x.m.size
    .obtain⟨e,he⟩:=ea (l:=x.m.data.toList) (k:=q) Z';have he8:e.toNat<256:=e.toNat_lt;by_cases h7:2<e.toNat
     .exact xx
     refine fa ?_;refine⟨⟨q+1,Z',rfl,λt ht=> ?_,hh⟩,by show x.m.size-(q+1)<x.m.size-q;omega, ?_⟩
     .rw[oa he] at ht;obtain ht|ht:=z_.1 ht
      .exact hex t ht
      rw[T_.1 ht];omega
     exact Rc
    rw[W_ Z'] at hex;refine fa ?_;refine⟨⟨j+1,hjl,rfl,λt ht=> ?_,λt ht=> ?_,hh⟩,by show pn-(j+1)<pn-j;omega, ?_⟩
    .replace ht:t∈ts.take (j+1):=ht;rw[oa hx] at ht;obtain ht|ht:=z_.1 ht
     .exact hok t ht
     rw[T_.1 ht];exact⟨(Sq hf).1,(Sq hf).2⟩
    .replace ht:t∈ts.take (j+1):=ht;rw[oa hx] at ht;obtain ht|ht:=z_.1 ht
     .exact hsz t ht
     rw[T_.1 ht];exact⟨Z',hex⟩
    exact Rc
  rw[W_ Z'] at hok hsz;refine fa ?_;refine rR ?_;refine fa ?_;refine⟨⟨i+1,Z',rfl,λt ht=> ?_,hh⟩,by show n-(i+1)<n-i;omega, ?_⟩
  .rw[oa hpi] at ht;obtain ht|ht:=z_.1 ht
   .exact hall t ht
   rw[T_.1 ht];exact⟨by show ts.length<=5;omega,hok,hsz⟩
  exact Rc
 rw[W_ Z'] at hall;refine fa ?_;exact⟨_,rfl,λ_=>⟨Z',hall⟩,hh.below⟩
def Ad(n:Int):Dyadic:=(n:Dyadic)*Ie (-3)
def Hg(n:Int)(w:World)(h1: -100<=n)(h2:n<=100):Calls prog 58 #[.int .i64 n] w λr w'=>r=.returned (.agg #[.bool (nR (Ad n)).neg,.string (nR (Ad n)).Qa,.int .i64 (nR (Ad n)).e])/\Below w.heap.size w w':=by
 have hh:=Hp.start w;have hz:=(show Sz 24 ((n:Int):Dyadic) from Za (n:Dyadic) ▸ ((SA (L:=[([],n)]) (by unfold zB;simp;omega)).1 ⟨str [],nR (n:Dyadic)⟩ q').2).nr;have hsh:=λw1=>RD (nR ((n:Int):Dyadic)) (-3) w1 Z' Z' Z' U' U';rw[Za,show((n:Int):Dyadic)*Ie (-3)=Ad n from rfl] at hsh;refine da (N:=6) (l:=[.int .i64 n]) func58 rfl rfl (by simp) ?_;refine Jb ?_;intro b2 w2 hh;refine Oa hh (Kh n _ Z' Z') rfl ?_;intro w4 hh;refine Oa hh (hsh _) rfl ?_;intro w5 hh;exact lH
def bF(a b:Int):List SR:=[⟨nR (a:Dyadic),nR (b:Dyadic)⟩]
def Wj(a b:Int)(w:World)(h1: -100<=a/\a<=100)(h2: -100<=b/\b<=100):Calls prog 57 #[.int .i64 a,.int .i64 b] w λr w'=>∃g:Nat,r=.returned (.slice (some ⟨g,0,none⟩) 1 1)/\Hp w [.row (some ⟨g,0,none⟩) 1 1 36 6 (na SR.cells (bF a b))] w':=by
 have hh:=Hp.start w;refine da (N:=11) (l:=[.int .i64 a,.int .i64 b]) func57 rfl rfl (by simp) ?_;refine fa ?_;refine Oa hh (Kh a _ Z' Z') rfl ?_;intro w6 hh;refine mI ?_;refine Oa hh (Kh b _ Z' Z') rfl ?_;intro w8 hh;refine fa ?_;refine iL ?_;intro b10 w10 hh;refine fa ?_;exact⟨_,rfl,hh⟩
def xu(a b:Int)(w:World)(h1: -100<=a/\a<=100)(h2: -100<=b/\b<=100):Calls prog 60 #[.int .i64 a,.int .i64 b] w λr w'=>∃(A:Option Addr)(c:Nat)(B:Option Addr)(d:Nat),r=.returned (.agg #[.slice A 1 c,.slice B 2 d])/\Hp w [.row B 2 d 30 3 (na NR.cells [nR (a:Dyadic),nR (b:Dyadic)]),.row A 1 c 3 1 (jb [1])] w':=by
 have hh:=Hp.start w;refine da (N:=12) (l:=[.int .i64 a,.int .i64 b]) func60 rfl rfl (by simp) ?_;refine Jb ?_;intro b4 w4 hh;refine vc hh (cs:=[_]) lb.out ya.out (Rb rfl oe) rfl rfl U' U' U' rfl U' ?_;intro b5 w5 hh;refine mI ?_;refine Oa hh (Kh a _ Z' Z') rfl ?_;intro w7 hh;refine mI ?_;refine Oa hh (Kh b _ Z' Z') rfl ?_;intro w9 hh;refine Rq ?_;intro b10 w10 hh;refine Jb ?_;intro ws hh;refine dQ ?_;exact⟨_,_,_,_,rfl,hh.sub (.cons_cons _ (.cons_cons _ (R9 _)))⟩
def Il(c a b:Int)(K:ZT)(w:World)(h1: -100<=c/\c<=100)(h2: -100<=a/\a<=100)(h3: -100<=b/\b<=100)(hK:(zC K && zE K [([0],c),([1],a),([2],b)])=true):Calls prog 56 #[.int .i64 c,.int .i64 a,.int .i64 b] w λr w'=>∃p:PX,p.v=1/\p.ts=zT K/\r=.returned (.agg #[.int .i64 p.v,.slice p.A p.n p.c])/\Hp w [p.row] w':=by
 have hh:=Hp.start w;refine da (N:=24) (l:=[.int .i64 c,.int .i64 a,.int .i64 b]) func56 rfl rfl (by simp) ?_;refine Jb ?_;intro b6 w6 hh;refine Oa hh (Kh c _ Z' Z') rfl ?_;intro w11 hh;refine fa ?_;refine Oa hh (Kh a _ Z' Z') rfl ?_;intro w14 hh;refine fa ?_;refine Oa hh (Kh b _ Z' Z') rfl ?_;intro w17 hh;refine fa ?_;refine vc hh (cs:=[_,_,_,_,_,_,_,_,_,_,_,_]) lb.out ya.out (Rb (Ld rfl) (Rb (Ld rfl) (Rb (Ld rfl) oe))) rfl rfl U' U' U' rfl U' ?_;intro b19 w19 hh;have hz:=SA (L:=[([0],c),([1],a),([2],b)]) (by unfold zB;simp;omega);have hmk:=λw1 hS1=>qC 1 (some ⟨b19,0,none⟩) 3 3 (zT [([0],c),([1],a),([2],b)]) 24 w1 hS1 U' hz.1 U' (λt ht=>N_ (hz.2 t ht) U');rw[qP hK,uW U' (by rfl) (by simp)] at hmk;replace hh:=show Hp w (.row (some ⟨b19,0,none⟩) 3 3 72 4 (na TR.cells (zT [([0],c),([1],a),([2],b)]))::.blk b6 24 [.int .i64 0,.slice none 0 0] (0,0)::_) _ from hh;refine qa (hmk _ (hh.ra (i:=0) rfl)) ja.out rfl U' ?_;rintro e_ w20 ⟨p,hp,rfl,h3⟩;refine⟨_,rfl, ?_⟩;replace hh:=hh.join h3;simp only[C',E'] at hh;clear h3;refine Dm ?_;intro b7 w7 hh ws hh ws hh
 refine jP (qd rfl (pd (vs:=[_,_]) ya.out (hh.pb (i:=3) (n:=2) rfl rfl) rfl) Be) ?_;exact⟨p,hp.v,hp.ts,rfl,hh.sub (.cons _ (.cons_cons _ (R9 _)))⟩
def ur(A B:Option Addr)(n c d:Nat)(xs ys:List ZX)(w:World)(hA:Sl w A n 5 (na ZX.cells xs))(hB:Sl w B n 5 (na ZX.cells ys))(he:xs.map ZX.v=ys.map ZX.v)(hx:∀x∈xs,Sl w x.x.A x.x.n 6 (na SR.cells x.x.b))(hy:∀x∈ys,Sl w x.x.A x.x.n 6 (na SR.cells x.x.b))(hl:∀x∈xs,x.x.b.length<=1000000)(hn:n<=1000000):Calls prog 23 #[.slice A n c,.slice B n d] w λr w'=>r=.returned (.bool true)/\Below w.heap.size w w':=by
 have hh:=Hp.start w;have hln:xs.length=n:=hA.Fa ZX.len U';have hlm:ys.length=n:=hB.Fa ZX.len U';refine da (N:=55) (l:=[.slice A n c,.slice B n d]) func23 rfl rfl (by simp) ?_;refine fa ?_;refine Ba [4,5,11,12,13,14,15,16,17,18,19,20,21,22,23,24,25,26,27,28,29,30,31,32,33,34,35,36,37,38,39,40,41,42,43,44,45,46,47,48,49,50,51,52,53,54] 5 (λv w'=>∃i:Nat,i<=n/\v=.int .i64 i/\Hp w [] w') (λv _=>n-(intOf v).toNat) ?_ ?_
 .exact⟨0,D' _,rfl,hh⟩
 clear hh;rintro ρ' v w' ⟨i,hi,rfl,hh⟩;by_cases hlt:i<n
 .obtain⟨x,hxi⟩:=ea (l:=xs) (k:=i) Z';obtain⟨y,hyi⟩:=ea (l:=ys) (k:=i) Z';have hv:x.v=y.v:=(by have:=J_ (·[i]?) he;simp only[V_,hxi,hyi] at this;exact L_ this);have hxs:=hx x (G' hxi);have hys:=hy y (G' hyi);have hxn:x.x.n<=1000000:=by rw[<-hxs.Fa SR.len U'];exact hl x (G' hxi)
  obtain⟨k,⟨xA,xn,xc,xb⟩,r⟩:=x;obtain⟨k2,⟨yA,yn,yc,yb⟩,r2⟩:=y;unfold ZX.v at hv;simp only[ZV.mk.injEq] at hv;obtain⟨rfl,rfl,rfl⟩:=hv;have hnn:xn=yn:=(hxs.Fa SR.len U').symm.trans (hys.Fa SR.len U');subst hnn;obtain⟨ad,rfl,hr⟩:=hA.at_ Z';obtain⟨ad2,rfl,hr2⟩:=hB.at_ Z';have hbs:=λw1 hb1=>bD xA xn xc xb yA yc w1 (hxs.ext hb1) (hys.ext hb1) hxn;refine fa ?_
  refine Ca 35 [[(0,none)],[(5,none)],[(17,some 0),(18,some 1)],[(19,some 2)],[(20,some 3)],[(1,none)],[(5,none)],[(22,some 5),(23,some 6)],[(24,some 7)],[(25,some 8)],[(21,some 4),(26,some 9)],[(27,some 10)],[(0,none),(28,some 11)],[(5,none),(28,some 11)],[(29,some 12),(30,some 13),(28,some 11)],[(31,some 14),(28,some 11)],[(32,some 15),(28,some 11)],[(1,none),(28,some 11)],[(5,none),(28,some 11)],[(34,some 17),(35,some 18),(28,some 11)],[(36,some 19),(28,some 11)],[(37,some 20),(28,some 11)],[(33,some 16),(38,some 21),(28,some 11)],[(28,some 11),(39,some 22)],[(40,some 23)],[(0,none),(41,some 24)],[(5,none),(41,some 24)],[(42,some 25),(43,some 26),(41,some 24)],[(44,some 27),(41,some 24)],[(45,some 28),(41,some 24)],[(1,none),(41,some 24)],[(5,none),(41,some 24)],[(47,some 30),(48,some 31),(41,some 24)],[(49,some 32),(41,some 24)],[(50,some 33),(41,some 24)]] [(34,51),(33,50),(32,49),(31,48),(30,47),(29,46),(28,45),(27,44),(26,43),(25,42),(24,41),(23,40),(22,39),(21,38),(20,37),(19,36),(18,35),(17,34),(16,33),(15,32),(14,31),(13,30),(12,29),(11,28),(10,27),(9,26),(8,25),(7,24),(6,23),(5,22),(4,21),(3,20),(2,19),(1,18),(0,17)] hh mixed T' ?_
  refine De ?_;refine cd ?_;refine jj (i) ?_;refine ru ?_;refine Ro (λ_ hj=>((hr.ext hj.hp.below).recAt ZX.len hxi).cell (i:=0) (v:=.int .i64 k) rfl) ?_;refine De ?_;refine cd ?_;refine jj (i) ?_;refine ru ?_;refine Ro (λ_ hj=>((hr2.ext hj.hp.below).recAt ZX.len hyi).cell (i:=0) (v:=.int .i64 k) rfl) ?_;refine afC ?_;refine Qr ?_;refine dG (De ?_);refine dG (cd ?_);refine dG (jj (i) ?_);refine dG (ru ?_);refine dG (Dn [_,_,_] (λ_ hj=>(((hr.ext hj.hp.below).recAt ZX.len hxi).drop 2)) ?_);refine dG (De ?_);refine dG (cd ?_);refine dG (jj (i) ?_);refine dG (ru ?_);refine dG (Dn [_,_,_] (λ_ hj=>(((hr2.ext hj.hp.below).recAt ZX.len hyi).drop 2)) ?_);refine kD (i:=22) rfl (λρ1 w1 hj hR=>(show ρ1 28=Value.bool _ from hR.2.2.1)) (λρ1 w1 hj hR=>QC (show ρ1 33=Value.agg (List.toArray _) from hR.1) (show ρ1 38=Value.agg (List.toArray _) from hR.2.1) (by first|assumption|rfl)) ?_;refine iW ?_;refine Qr ?_;refine dG (De ?_);refine dG (cd ?_);refine dG (jj (i) ?_);refine dG (ru ?_);refine dG (Ro (λ_ hj=>((hr.ext hj.hp.below).recAt ZX.len hxi).cell (i:=1) (v:=.slice xA xn xc) rfl) ?_);refine dG (De ?_);refine dG (cd ?_)
  refine dG (jj (i) ?_);refine dG (ru ?_);refine dG (Ro (λ_ hj=>((hr2.ext hj.hp.below).recAt ZX.len hyi).cell (i:=1) (v:=.slice yA xn yc) rfl) ?_);refine xa ?_;intro f W hJ hV;have hb_6:=hJ.bl;obtain⟨v51,v50,v49,v48,v47,v46,v45,v44,v43,v42,v41,v40,v39,v38,v37,v36,v35,v34,v33,v32,v31,v30,v29,v28,v27,v26,v25,v24,v23,v22,v21,v20,v19,v18,v17,_⟩:=hV;replace hh:=hJ.hp;refine Da (Na (aa v51 (aa v50 (aa v49 (aa v48 (aa v47 (aa v46 (aa v45 (aa v44 (aa v43 (aa v42 (aa v41 (aa v40 (aa v39 (aa v38 (aa v37 (aa v36 (aa v35 (aa v34 (aa v33 (aa v32 (aa v31 (aa v30 (aa v29 (aa v28 (aa v27 (aa v26 (aa v25 (aa v24 (aa v23 (aa v22 (aa v21 (aa v20 (aa v19 (aa v18 (aa v17 Ea)))))))))))))))))))))))))))))))))))) ?_;dsimp only[Bb];clear hJ;refine fa ?_;refine Oa hh (hbs _ hh.below) rfl ?_;intro w52 hh;refine fa ?_;exact yx
 refine fa ?_;exact⟨rfl,hh.below⟩
def shX(up:Bool)(d:Nat)(s:Dyadic):Nat->Nat->Dyadic:=if up then acU d s else aea d s
def shS(ns rr:List Nat)(a:Nat)(xs:List Dyadic)(M:Nat->Nat->Dyadic)(r i:Nat):Dyadic:=sm (List.range i) λj=>co ns.reverse xs (rr.set a j)*M j r
def ahM(a:NR):Bool:=decide ((8:Int)<a.Qa.size\/a.e< -60\/60<a.e)
def FX.af7(f:FX):Prop:=f.Zg 124/\f.m<=120/\f.n<=20/\∀d∈f.ds,d<=6\/128<=d
abbrev fxC(l:List Int)(A:Option Addr)(a:Nat)(B:Option Addr)(b:Nat):FX:=⟨A,1,a,B,l.length,b,[(l.length:Int)-1],l.map λz:Int=>nR ((z:Dyadic)*Ie (-2))⟩
abbrev xsC(l:List Int):List Dyadic:=l.map λz:Int=>(z:Dyadic)*Ie (-2)
def agf(l:List Int):VP:=λv W=>∃g:FX,v=.agg #[.slice g.A g.n g.a,.slice g.B g.m g.b]/\g.ds=[(l.length:Int)-1]/\g.cs=(l.map λz:Int=>nR ((z:Dyadic)*Ie (-2)))/\g.at_ W
def age(base:Nat)(E:Int)(D:List Nat)(ys:List Dyadic):VP:=λv W=>∃g:FX,v=.agg #[.slice g.A g.n g.a,.slice g.B g.m g.b]/\Out E D ys g/\∃w2:World,base<=w2.heap.size/\Hp w2 [g.rg,g.fg] W
def agS(base:Nat)(E:Int)(D:List Nat)(ys zs:List Dyadic):VP:=λv W=>∃g h:FX,v=.tuple #[.agg #[.slice g.A g.n g.a,.slice g.B g.m g.b],.agg #[.slice h.A h.n h.a,.slice h.B h.m h.b],.int .i64 E]/\Out E D ys g/\Out E D zs h/\∃w2:World,base<=w2.heap.size/\Hp w2 [h.rg,h.fg,g.fg,g.rg] W
def sp(p:Int×Int):SR:=⟨nR (Go.Proofs.YtbencocchdpikaaGreatDoor.D p.1 0),nR (Go.Proofs.YtbencocchdpikaaGreatDoor.D p.2 0)⟩
def PI(p:Int×Int):List Value:=[.int .i64 p.1,.int .i64 p.2]
def abl(a:NR):Bool:=decide ((30:Int)<a.Qa.size\/a.e< -200\/200<a.e)
def afY(s:SR):Bool:=abl s.lo||abl s.hi
def ags(b:List SR)(p:List NR):Bool:=(decide (8<b.length)||decide (8<p.length))||(b.any afY||p.any abl)
def exB:List SR:=[sp (0,4),sp (0,2)]
def SR.le(s:SR):¬s.jh<s.ye:=uU _ _
def SR.f_L(s:SR):s.f.ye=s.ye:=by
 have h:=s.le;show OU (nR s.ye).ma (nR s.jh).ma=s.ye;rw[Za,Za,OU,L' h]
def SR.f_H(s:SR):s.f.jh=s.jh:=by
 have h:=s.le;show tR (nR s.ye).ma (nR s.jh).ma=s.jh;rw[Za,Za,tR];split
 .rfl
 rename_i g;grind
def agG(b:List SR)(a:Nat)(s:SR)(u:Bool):List SR:=(b.map SR.f).set a (s.f.half (nR s.f.qh) u)
def SH{s:SR}(h:s.lo.ma<s.hi.ma):s.ye=s.lo.ma/\s.jh=s.hi.ma:=by
 have h2:¬s.hi.ma<s.lo.ma:=by grind
 unfold SR.ye SR.jh OU tR;rw[L' h2,J' h];exact⟨rfl,rfl⟩
def Wq:Ie (-1)+Ie (-1)=1:=by decide+kernel
structure OnB(l:List TR)(ns:List Nat)(b:List SR)(X:List Dyadic):Prop where
 len:X.length=la ns
 bl:b.length=ns.length
 up:∀s∈b,s.lo.ma<s.hi.ma
 vl:∀ts:List Dyadic,ts.length=ns.length->jq ns.reverse X ts=ti (zz b ts.reverse) l
def jw(b:List SR)(a:Nat)(s:SR)(u:Bool):List SR:=(b.map SR.f).set a (s.f.half (nR s.f.qh) u)
def sn{s:SR}(h:s.lo.ma<s.hi.ma):∃m,(nR s.f.qh).ma=m/\m+m=s.ye+s.jh/\s.f.lo.ma=s.ye/\s.f.hi.ma=s.jh/\s.ye<m/\m<s.jh:=by
 obtain⟨c1,c2⟩:=SH h;have e1:s.f.lo.ma=s.ye:=Za _;have e2:s.f.hi.ma=s.jh:=Za _;refine⟨s.f.qh,Za _, ?_,e1,e2, ?_⟩
 .unfold SR.qh;rw[e1,e2];have:=Wq;grind
 have e3:s.f.qh+s.f.qh=s.ye+s.jh:=(by unfold SR.qh;rw[e1,e2];have:=Wq;grind);rw[<-c1,<-c2] at h;constructor<;>grind
def CW{b:List SR}{a:Nat}{s:SR}{u:Bool}(hb:∀s∈b,s.lo.ma<s.hi.ma)(hs:b[a]?=some s):∀z∈jw b a s u,z.lo.ma<z.hi.ma:=λz hz=>by
 have hsm:=G' hs;obtain⟨m,e0,e1,e2,e3,e4,e5⟩:=sn (hb s hsm);obtain h|rfl:=J8 hz
 .obtain⟨y,hy,rfl⟩:=Z_.1 h;obtain⟨m2,f0,f1,f2,f3,f4,f5⟩:=sn (hb y hy);rw[f2,f3];grind
 cases u with
 |false=>show s.f.lo.ma<(nR s.f.qh).ma;rw[e0,e2];exact e4
 |true=>show(nR s.f.qh).ma<s.f.hi.ma;rw[e0,e3];exact e5
def dX{b:List SR}{a:Nat}{s:SR}{u:Bool}{us:List Dyadic}{t:Dyadic}(hb:∀s∈b,s.lo.ma<s.hi.ma)(hs:b[a]?=some s)(hu:us[a]?=some t):zz (jw b a s u) us=zz b (us.set a (if u then Ie (-1)+(1-Ie (-1))*t else Ie (-1)*t)):=by
 have hsm:=G' hs;have ha:=(X_.1 hs).1;have hau:=(X_.1 hu).1;obtain⟨m,e0,e1,e2,e3,e4,e5⟩:=sn (hb s hsm);refine V9 λi=> ?_;unfold zz jw;rw[Q9,Q9,F9,F9];by_cases hi:a=i
 .subst hi;rw[J' rfl,J' rfl,J' (by rw[i'];exact ha),J' hau,hs,hu];show some _=some _;congr 1;have h2:=Wq
  cases u with
  |false=>
   have hup:(s.f.half (nR s.f.qh) false).lo.ma<(s.f.half (nR s.f.qh) false).hi.ma:=by show s.f.lo.ma<(nR s.f.qh).ma;rw[e0,e2];exact e4
   obtain⟨k1,k2⟩:=SH hup;show(s.f.half (nR s.f.qh) false).ye+((s.f.half (nR s.f.qh) false).jh-(s.f.half (nR s.f.qh) false).ye)*t=s.ye+(s.jh-s.ye)*(Ie (-1)*t);rw[k1,k2];show s.f.lo.ma+((nR s.f.qh).ma-s.f.lo.ma)*t=s.ye+(s.jh-s.ye)*(Ie (-1)*t);rw[e0,e2];have:m-s.ye=(s.jh-s.ye)*Ie (-1):=by grind
   rw[this];grind
  |true=>
   have hup:(s.f.half (nR s.f.qh) true).lo.ma<(s.f.half (nR s.f.qh) true).hi.ma:=by show(nR s.f.qh).ma<s.f.hi.ma;rw[e0,e3];exact e5
   obtain⟨k1,k2⟩:=SH hup;show(s.f.half (nR s.f.qh) true).ye+((s.f.half (nR s.f.qh) true).jh-(s.f.half (nR s.f.qh) true).ye)*t=s.ye+(s.jh-s.ye)*(Ie (-1)+(1-Ie (-1))*t);rw[k1,k2];show(nR s.f.qh).ma+(s.f.hi.ma-(nR s.f.qh).ma)*t=s.ye+(s.jh-s.ye)*(Ie (-1)+(1-Ie (-1))*t);rw[e0,e3];have g1:m=s.ye+(s.jh-s.ye)*Ie (-1):=by grind
   have g2:s.jh-m=(s.jh-s.ye)*(1-Ie (-1)):=by grind
   rw[g2]
   conv=>lhs;rw[g1]
   grind
 rw[L' hi,L' hi,V_]
 cases hy:b[i]? with
 |none=>rfl
 |some y=>
  show some (y.f.ye+(y.f.jh-y.f.ye)*_)=some (y.ye+(y.jh-y.ye)*_);rw[SR.f_L,SR.f_H]
def sQ{b:List SR}{h:Int}(hb:bZ b.length h=false):∃s,b[(h/2).toNat]?=some s/\Ws b h=some (jw b (h/2).toNat s (decide (h % 2=1))):=by
 unfold bZ at hb;have h1:=of_decide_eq_false hb;have h0:0<=h:=Z';have e1:h.fdiv 2=h/2:=Int.fdiv_eq_ediv_of_nonneg _ U';have e2:h.tdiv 2=h/2:=Int.tdiv_eq_ediv_of_nonneg h0;rw[e2] at h1;obtain⟨s,hs⟩:=ea (l:=b) (k:=(h/2).toNat) Z';refine⟨s,hs, ?_⟩;unfold Ws;rw[e1,L' Z',hs];rfl
def kR{b:List SR}{a:Nat}{s:SR}{u:Bool}(hb:∀z∈b,z.fin k)(hk:k+2<=3000000)(hs:b[a]?=some s):∀z∈jw b a s u,z.fin (k+2):=by
 have ha:=(X_.1 hs).1;have h1:Ws b (2*(a:Int)+if u then 1 else 0)=some (jw b a s u):=by
  obtain⟨s2,h2,h3⟩:=sQ (b:=b) (h:=2*(a:Int)+if u then 1 else 0) (by
   unfold bZ;refine O_ ?_;rw[Int.tdiv_eq_ediv_of_nonneg (by split<;>omega)];split<;>omega)
  have e1:((2*(a:Int)+if u then 1 else 0)/2).toNat=a:=by split<;>omega
  have e2:decide ((2*(a:Int)+if u then 1 else 0) % 2=1)=u:=by
   cases u with
   |true=>exact M_ (by show(2*(a:Int)+1) % 2=1;omega)
   |false=>exact O_ (by show ¬(2*(a:Int)+0) % 2=1;omega)
  rw[e1] at h2;rw[hs] at h2;rw[h3,e1,e2,L_ h2]
 exact(FI hb hk h1).1
def abL{b:List SR}(h0:b.length≠0)(h:∀s∈b,s.lo.ma<s.hi.ma):Fk b=0:=by
 unfold Fk;rw[L',L' h0];rw[Bool.not_eq_true,p9];intro s hs;have:=h s hs;simpa using this
structure agT(p:PX)(b:List SR)(ns:List Nat)(X:List Dyadic):Prop where
 e:pg p b (Ua ns)=0
 x:Uo ns (vd p (db b)).2=X
def aeK{p:PX}{b:List SR}{ns:List Nat}(hF:Vt p b ns)(h:iQ p b ns):OnB p.ts ns b (Uo ns (vd p (db b)).2):=⟨OD _ _,hF.nl.symm,λs hs=>BR hF.box hs,h.vl⟩
def XL{c:Dyadic}{xs:List NR}{m:ByteArray}(hm:m.size=xs.length):∀k,k<=xs.length->xC c xs m k=c*dh ((Kc m).take k) ((xs.map NR.ma).take k)
 |0,_=>(by show c=c*1;exact(Dyadic.mul_one c).symm)
 |k+1,hk=>by
  have hl:=Jk m;obtain⟨x,hx⟩:=ea (l:=xs) (k:=k) Z';obtain⟨e,he⟩:=ea (l:=m.data.toList) (k:=k) (by rw[<-Tc];omega);have h1:(Kc m)[k]?=some e.toNat:=by unfold Kc;rw[V_,he];rfl
  have h2:(xs.map NR.ma)[k]?=some x.ma:=by rw[V_,hx];rfl
  have hf:gE xs m k=x.ma^e.toNat:=by unfold gE;rw[hx,he]
  rw[xC,hf,XL hm k Z',oa h1,oa h2,Ks _ _ _ _ (by simp;omega)];grind
def qS{xs:List NR}{ts:List TR}(h:∀t∈ts,t.m.size=xs.length):∀i,i<=ts.length->Es xs ts i=ti (xs.map NR.ma) (ts.take i)
 |0,_=>rfl
 |i+1,hi=>(by obtain⟨t,ht⟩:=ea (l:=ts) (k:=i) Z';have hm:=h t (G' ht);have hl:=Jk t.m;rw[Es,ht,qS h i Z',oa ht,Tl];show ti _ _+xC t.c.ma xs t.m xs.length=ti _ _+(t.c.ma*dh (Kc t.m) (xs.map NR.ma)+0);rw[XL hm xs.length (j' _),W_ (l:=Kc t.m) Z',W_ (l:=xs.map NR.ma) (by rw[i'];exact j' _)];grind)
def CT{p:PX}{ys:List NR}(hp:p.e=0)(hv:p.v=(ys.length:Int)):vn p ys.length=0/\Am p ys=nR (ti (ys.map NR.ma) p.ts):=by
 have h0:vn p ys.length=0:=by unfold vn;rw[J' hp,J' hv.symm]
 refine⟨h0, ?_⟩;unfold Am;rw[J' h0,qS (λt ht=> ?_) _ (j' _),z6];have:=(Ub hp).2.2.1 t ht;unfold pe at this;rw[Q_,K_] at this;omega
def tT{b:List SR}{t:List NR}(ht:t.length=b.length):(b.mapIdx λi s=>Xh t i s.f).map NR.ma=zz b (t.map NR.ma):=by
 refine V9 λi=> ?_;unfold zz;rw[V_,Q9,Q9,V_]
 cases hs:b[i]? with
 |none=>rfl
 |some s=>
  have hi:=(X_.1 hs).1;obtain⟨x,hx⟩:=ea (l:=t) (k:=i) Z';rw[hx];show some (Xh t i s.f).ma=some (s.ye+(s.jh-s.ye)*x.ma);unfold Xh;rw[hx];show some (nR (s.f.at_ x.ma)).ma=_;rw[Za];unfold SR.at_ SR.wid;rw[SR.f_L,SR.f_H,show s.f.lo.ma=s.ye from Za _];congr 1;grind
structure OnC(p q:List TR)(b0:List SR)(c:CV):Prop where
 p:OnB p c.D c.b c.X
 q:OnB q c.D c.b c.Y
 inb:∀(i:Nat)(s z:SR),c.b[i]?=some s->b0[i]?=some z->z.ye<=s.lo.ma/\s.hi.ma<=z.jh
 len:c.b.length=b0.length
def InC(pt:List Dyadic)(c:CV):Prop:=∃us:List Dyadic,us.length=c.D.length/\(∀t∈us,0<=t/\t<1)/\zz c.b us=pt
structure agk(q:List TR)(b0:List SR)(eps:Dyadic)(A:List NR):Prop where
 len:A.length=b0.length
 has:hasB b0 A=true
 aia:Dj (ti (A.map NR.ma) q)<eps
 num:∀y∈A,y.ok/\Sz 1000 y.ma
def ahf(p q:List TR)(b0:List SR)(eps:Dyadic)(pt:List Dyadic)(R:RV):Prop:=(R.k=1/\R.at_=[]/\af4 R.s (ti pt p) (ti pt q)/\R.s.fin 1002014)\/(R.k=2/\R.s=SR0/\agk q b0 eps R.at_)
def UB:∀(n:Nat)(b:List SR),b.length=n+1->∃(a:Nat),Cm b (a:Int)/\a<b.length
 |0,b,h=>by
  match b,h with
  |[s],_=>exact⟨0,dw (b:=[]) s,Nat.zero_lt_one⟩
 |n+1,b,h=>by
  obtain⟨l,s,rfl⟩:∃l s,b=l++[s]:=⟨b.dropLast,b.getLast (by intro h1;rw[h1] at h;cases h),(List.dropLast_concat_getLast _).symm⟩;have hl:l.length=n+1:=by rw[Y_] at h;simpa using h
  obtain⟨a,ha,hal⟩:=UB n l hl;obtain⟨h1,_⟩|⟨m,u,hu,hm,g1,g2⟩:=ha
  .rw[h1] at hl;cases hl
  obtain rfl:a=m:=Z';by_cases hw:u.wid<s.wid
  .exact⟨l.length,ME g1 hw,by rw[Y_];exact Nat.lt_succ_self _⟩
  exact⟨a,yE hu g1 g2 hw,by rw[Y_];omega⟩
def IK{b:List SR}{v w:Int}(h:Cm b v)(h':Cm b w):v=w:=by
 obtain⟨h1,h2⟩|⟨m,u,hu,hm,g1,g2⟩:=h
 .obtain⟨_,h3⟩|⟨m',u',hu',_⟩:=h'
  .omega
  rw[h1] at hu';cases hu'
 obtain⟨h1,_⟩|⟨m',u',hu',hm',g1',g2'⟩:=h'
 .rw[h1] at hu;cases hu
 obtain hlt|rfl|hlt:=Nat.lt_trichotomy m m'
 .exact absurd (g2' m u hlt hu) (g1 m' u' hu')
 .omega
 exact absurd (g2 m' u' hlt hu') (g1' m u hu)
def Nw{B:Nat}:∀D:List Nat,(∀d∈D,d<=B)->la D<=(B+1)^D.length
 |[],_=>j' _
 |d::D,h=>(by rw[la,E_,i_,G_];exact o9 (Nw D λx hx=>h x (F' _ hx)) (by have:=h d q';omega))
structure ahd(p q:List TR)(b0:List SR)(n:Nat)(c:CV):Prop where
 on:OnC p q b0 c
 fin:∀s∈c.b,s.fin (124+2*n)
 d3:c.D.length<=3
 d0:c.D.length≠0
 d2:∀d∈c.D,d<=2
 zx:∀x∈c.X,Sz (50000+300*n) x
 zy:∀x∈c.Y,Sz (50000+300*n) x
def OL{v:Int}(h:Gf v ts=0)(hs:∀t∈ts,t.m.size<=3)(hx:∀t∈ts,∀c∈t.m.data.toList,c.toNat<=2):la (Ac v ts)<=27:=by
 have hl:=(fj h).2.1
 cases ts with
 |nil=>
  have h1:=Nw (B:=0) (Ac v []) (SD h λt ht=>absurd ht O9);rw[Nat.one_pow] at h1;omega
 |cons t ts=>
  have h1:=Nw (B:=2) _ (SD h hx);have h2:=(Ub h).2.2.1 t q';unfold pe at h2;rw[Q_,K_] at h2;have h3:=hs t q';exact N_ h1 (N_ (m_ U' (show(Ac v (t::ts)).length<=3 by omega)) U')
def ac8(b:List SR)(xs:List Dyadic):zz (b.map SR.f) xs=zz b xs:=by
 unfold zz;refine V9 λi=> ?_;rw[Q9,Q9,V_]
 cases b[i]? with
 |none=>rfl
 |some s=>
  show some (s.f.ye+(s.f.jh-s.f.ye)*_)=some _;rw[SR.f_L,SR.f_H]
structure lF(p:PX):Prop where
 n:p.ts.length<=8
 ok:xg 400 p.ts
 sz:∀t∈p.ts,t.m.size<=3
 ex:∀t∈p.ts,∀c∈t.m.data.toList,c.toNat<=2
structure Cx(ps:List PX)(b:List SR):Prop where
 ln:b.length=ps.length
 pos:0<ps.length
 fit:∀p∈ps,Vt p b (Ac p.v p.ts)
def WM{p:PX}(h:p.e=0)(h0:0<p.v):gm p []=Ua (Ac p.v p.ts)/\Ua (Ac p.v p.ts)≠[]:=by
 obtain⟨o1,o2,_⟩:=fj h;refine⟨by unfold gm;rw[J' g7];exact o1,λe=> ?_⟩;have:=J_ List.length e;rw[Ic,o2] at this;have:p.v.toNat=0:=this;omega
def dq{b:List SR}(h:Qt ps b=0):Cx ps b:=by
 unfold Qt at h;split at h
 .rename_i p hp;have h3:=B6 hp;exact absurd h (B9 h3)
 rename_i hp;have h2:¬(ps.length=0\/ps.length≠b.length\/8<ps.length):=λc=>by rw[J' c] at h;cases h
 refine⟨Z',Z',λp hpm=> ?_⟩;have h3:pg p b []=0:=by simpa using L7.1 hp p hpm
 unfold pg at h3;by_cases h4:Ql p b (gm p [])=0
 .obtain⟨_,hF⟩:=BB h4;have hv:=hF.v;have hp:=hF.pos;rwa[(WM hF.e Z').1,Iw] at hF
 rw[J' h4] at h3;exact absurd h3 h4
structure Xu(ps:List PX)(n:Nat)(b:List SR):Prop where
 ln:b.length=ps.length
 up:∀s∈b,s.lo.ma<s.hi.ma
 bx:∀s∈b,s.fin (40+2*n)
def cm.mono{l:Nat}{a:NR}(h:cm k a)(hl:k<=l):cm l a:=⟨h.1,h.2.mono hl⟩
variable {m:Nat}
def Xu.mono{b:List SR}(h:Xu ps n b)(hm:n<=m):Xu ps m b:=⟨h.ln,h.up,λs hs=>⟨(h.bx s hs).1.mono Z',(h.bx s hs).2.mono Z'⟩⟩
def Xu.half{a:Nat}{b:List SR}{s:SR}(h:Xu ps n b)(hn:n<=1000)(hs:b[a]?=some s)(u:Bool):Xu ps (n+1) (Fi b a s u):=
 ⟨by unfold Fi;rw[U9,i'];exact h.ln,CW h.up hs,λz hz=>kR (k:=40+2*n) h.bx Z' hs z hz⟩
def Xu.first{b:List SR}(h:Cx ps b)(hb:∀s∈b,s.fin 36):Xu ps 0 (b.map SR.f):=by
 have hup:∀s∈b,s.lo.ma<s.hi.ma:=(by obtain⟨p,hp⟩:=List.exists_mem_of_length_pos h.pos;exact λs hs=>BR (h.fit p hp).box hs);refine⟨by rw[i'];exact h.ln,λz hz=> ?_,λz hz=> ?_⟩
 .obtain⟨s,hs,rfl⟩:=Z_.1 hz;obtain⟨m2,f0,f1,f2,f3,f4,f5⟩:=sn (hup s hs);rw[f2,f3];grind
 obtain⟨s,hs,rfl⟩:=Z_.1 hz;have:=SR.Yo (hb s hs) U';exact⟨this.1.mono Z',this.2.mono Z'⟩
structure OnP(p:PX)(b:List SR):Prop where
 e:pg p b []=0
 f:Vt p b (Ac p.v p.ts)
 s:(vd p (db b)).1=0
 c:la (Ac p.v p.ts)<=27
 g:Qe (400+400+16394) (Ac p.v p.ts) (400+1)<=440000
 o:OnB p.ts (Ac p.v p.ts) b (Uo (Ac p.v p.ts) (vd p (db b)).2)
 z:iw 47000 (Ac p.v p.ts,Uo (Ac p.v p.ts) (vd p (db b)).2)
def onP{b0 b:List SR}{p:PX}(h:Cx ps b0)(hb:Xu ps n b)(hn:n<=50)(hp:p∈ps)(sp:lF p):OnP p b:=by
 have hF:=h.fit p hp;have hl:=hb.ln;have hl0:=h.ln;have hv:=hF.v;have hpos:=h.pos;have hc:=OL hF.e sp.sz sp.ex;have hb4:∀z∈b,z.fin 400:=λz hz=>⟨(hb.bx z hz).1.mono Z',(hb.bx z hz).2.mono Z'⟩;have hnl:(Ac p.v p.ts).length=b.length:=by rw[hF.Xl];omega
 obtain⟨b1,b2,b3⟩:=abJ (k:=400) hF.e (abL Z' hb.up) Z' Z' hnl hF.low Z' hF.own hb4 U';have hex:∀t∈p.ts,∀c∈t.m.data.toList,c.toNat<=4:=λt ht c hc=>N_ (sp.ex t ht c hc) U';have hg:=GA (k:=400) hF.e hex Z' U';have vp:=VY b2 b3 sp.ok hb4 U' hg;have hd2:=SD hF.e sp.ex;have hsum:(Ac p.v p.ts).sum<=9:=UQ (λd hd=>by have:=hd2 d hd;omega) hc U';obtain⟨s1,_⟩:=xO b2 sp.ok hb4 U' hc U' hsum U' b3;have s2:=(Fs b2 sp.ok hb4 U' hg b3).2;refine⟨?_,b2,b3,hc,hg,aeK b2 vp,⟨by rw[hnl];exact b2.kq,b2.low,OD _ _,N_ hc U',λx hx=> ?_⟩⟩
 .rw[<-b1];obtain⟨d1,d2⟩:=WM hF.e Z';unfold pg;rw[d1,show gm p (Ua (Ac p.v p.ts))=Ua (Ac p.v p.ts) from L' λe=>d2 (Z6.1 e)]
 refine(lZ s2 s1.ok b2.low x hx).mono ?_;have:=b2.kq;have:=(Ub s1.e).2.1;rw[hnl];omega
def VK{xs:List NR}{m:ByteArray}{c:Dyadic}{q k0:Nat}(hc:Sz k0 c)(hx:∀x∈xs,Sz q x.ma)(hm:∀e∈m.data.toList,e.toNat<=2):∀k,Sz (k0+(1+2*q)*k) (xC c xs m k)
 |0=>hc
 |k+1=>by
  refine((VK hc hx hm k).mul (l:=1+2*q) ?_).mono (by rw[O8];omega);unfold gE;split
  .rename_i x e h1 h2;have he:=hm e (G' h2);exact((hx x (G' h1)).pow e.toNat).mono (by have:=k_ q he;omega)
  exact Sz.one.mono Z'
def qU{xs:List NR}{ts:List TR}{q k0:Nat}(hx:∀x∈xs,Sz q x.ma)(ht:xg k0 ts)(hm:∀t∈ts,∀e∈t.m.data.toList,e.toNat<=2):∀i,Sz (k0+(1+2*q)*xs.length+i) (Es xs ts i)
 |0=>Sz.zero _
 |i+1=>by
  show Sz (k0+(1+2*q)*xs.length+i+1) (Es xs ts i+_);refine(qU hx ht hm i).add ?_;split
  .rename_i t h;have hm2:=G' h;exact(VK (ht t hm2).2 hx (hm t hm2) xs.length).mono Z'
  exact Sz.zero _
def lF.nU{p:PX}(h:lF p)(he:p.e=0)(n:Nat)(hn:8<=n):Em p.v 400 n 2 p.ts:=⟨he,h.ok,λt ht=>N_ (h.sz t ht) U',N_ h.n hn,h.ex⟩
def qR{p:PX}{b:List SR}(sp:lF p)(he:p.e=0)(hb:∀s∈b,s.fin 140)(hl:b.length<=3):∀a∈Ak (iq b) p,a.ok/\Sz 2600 a.ma:=λa ha=>by
 unfold Ak at ha;obtain⟨i,hi,rfl⟩:=Z_.1 ha;have key:Sz 2600 (Ek p (iq b) i).ma/\∃x,Ek p (iq b) i=nR x:=by
  unfold Ek Am;split
  .rw[Za];refine⟨?_,_,rfl⟩;have g:=WE i (sp.nU he 8 (j' _)) U' U';have hx:∀x∈iq b,Sz 142 x.ma:=λy hy=>(by unfold iq at hy;obtain⟨j,hj,rfl⟩:=List.mem_mapIdx.1 hy;have h1:=SR.Yo (hb _ (List.getElem_mem hj)) U';rw[Za];exact Sz.qh h1.1.sz h1.2.sz);have hml:(iq b).length<=3:=by unfold iq;rw[Q7];exact hl
   have h3:=g.len;refine(qU hx g.ok g.ex _).mono ?_;show _+(sa (Im i p.ts)).length<=_;omega
  rw[Za];exact⟨Sz.zero _,_,rfl⟩
 obtain⟨h1,x,h2⟩:=key;rw[h2,Za] at h1;rw[h2,Za];exact⟨h1.ok U',h1⟩
def adf{b0 b:List SR}(h:Cx ps b0)(h3:ps.length<=3)(hb:Xu ps n b)(hn:n<=50)(sp:∀p∈ps,lF p):Qt ps b=0:=by
 have hl:=hb.ln;have hp:=h.pos;rw[sK λp hp=>(onP h hb hn hp (sp p hp)).e,L' Z']
def aaS{b0 b:List SR}(h:Cx ps b0)(h3:ps.length<=3)(hb:Xu ps n b)(hn:n<=50)(sp:∀p∈ps,lF p):XF ps b:=by
 have hl:=hb.ln;refine⟨adf h h3 hb hn sp,λp hp _=>(onP h hb hn hp (sp p hp)).g,λs hs=>⟨(hb.bx s hs).1.mono Z',(hb.bx s hs).2.mono Z'⟩,λd hd=> ?_,λl hl2=> ?_,hl⟩
 .unfold ck at hd;obtain⟨p,hp,rfl⟩:=Z_.1 hd;exact(onP h hb hn hp (sp p hp)).z
 unfold Jm at hl2;obtain⟨p,hp,rfl⟩:=Z_.1 hl2;exact qR (sp p hp) (h.fit p hp).e (λs hs=>⟨(hb.bx s hs).1.mono Z',(hb.bx s hs).2.mono Z'⟩) Z'
def fw{ps:List PX}{b0:List SR}{tol:Dyadic}{g bu:Int}(h:Cx ps b0)(h3:ps.length<=3)(sp:∀p∈ps,lF p)(hbu:bu<=40):∀(f n:Nat)(st:List (List SR))(l:List ZV),(∀b∈st,Xu ps n b)->bu+1<(n:Int)+f->((n:Int)<=bu\/0<f)->n<=45->∃R k e,Bt ps tol g bu f n st l R k e
 |f,n,[],l,_,_,_,_=>⟨l,n,0,by cases f<;>exact⟨rfl,rfl,rfl⟩⟩
 |0,n,b::st,l,_,h1,h2,_=>by omega
 |f+1,n,b::st,l,hst,h1,h2,h4=>by
  by_cases hb:bu<(n+1:Nat)
  .exact⟨[],0,3,by rw[Bt,J' hb];exact⟨rfl,rfl,rfl⟩⟩
  have hbo:=hst b q';have hc:=aaS h h3 hbo Z' sp;have hst':∀c∈st,Xu ps (n+1) c:=λc hc=>(hst c (F' _ hc)).mono Z';by_cases hn:lk (ck ps b)=true
  .obtain⟨R,k,e,hE⟩:=fw (tol:=tol) (g:=g) (bu:=bu) h h3 sp hbu f (n+1) st l hst' Z' Z' Z';exact⟨R,k,e,by rw[Bt,L' hb,J' hn];exact⟨hc,hE⟩⟩
  by_cases hx:ng ps b=true
  .obtain⟨R,k,e,hE⟩:=fw (tol:=tol) (g:=g) (bu:=bu) h h3 sp hbu f (n+1) st (l++[⟨1,b,wi g (ck ps b)⟩]) hst' Z' Z' Z';exact⟨R,k,e,by rw[Bt,L' hb,L' hn,J' hx];exact⟨hc,hE⟩⟩
  have hl:=hbo.ln;have hp:=h.pos;obtain⟨a,ha,hal⟩:=UB (b.length-1) b Z';obtain⟨s,hs⟩:=ea hal;by_cases ht:s.hi.ma-s.lo.ma<tol
  .obtain⟨R,k,e,hE⟩:=fw (tol:=tol) (g:=g) (bu:=bu) h h3 sp hbu f (n+1) st (l++[⟨2,b,wi g (ck ps b)⟩]) hst' Z' Z' Z';exact⟨R,k,e,by rw[Bt,L' hb,L' hn,L' hx];exact⟨hc,a,s,λv hv=>IK hv ha,hs,by rw[J' ht];exact hE⟩⟩
  obtain⟨R,k,e,hE⟩:=fw (tol:=tol) (g:=g) (bu:=bu) h h3 sp hbu f (n+1) (Fi b a s false::Fi b a s true::st) l (λc hc=>by
   obtain rfl|hc:=S_.1 hc
   .exact hbo.half Z' hs false
   obtain rfl|hc:=S_.1 hc
   .exact hbo.half Z' hs true
   exact hst' c hc) Z' Z' Z'
  exact⟨R,k,e,by rw[Bt,L' hb,L' hn,L' hx];exact⟨hc,a,s,λv hv=>IK hv ha,hs,by rw[L' ht];exact hE⟩⟩
def Jq{ps:List PX}{tol:Dyadic}{g bu:Int}:∀(f n:Nat)(st:List (List SR))(l R:List ZV)(k e:Int),e≠0->Bt ps tol g bu f n st l R k e->R=[]/\k=0
 |f,n,[],l,R,k,e,he,h=>absurd (by cases f<;>exact h.2.2) he
 |0,n,b::st,l,R,k,e,he,h=>absurd h id
 |f+1,n,b::st,l,R,k,e,he,h=>by
  rw[Bt] at h;by_cases hb:bu<(n+1:Nat)
  .rw[J' hb] at h;exact⟨h.1,h.2.1⟩
  rw[L' hb] at h;replace h:=h.2;by_cases hn:lk (ck ps b)=true
  .rw[J' hn] at h;exact Jq f _ _ _ _ _ _ he h
  rw[L' hn] at h;by_cases hx:ng ps b=true
  .rw[J' hx] at h;exact Jq f _ _ _ _ _ _ he h
  rw[L' hx] at h;obtain⟨a,s,h1,h2,h⟩:=h;split at h
  .exact Jq f _ _ _ _ _ _ he h
  exact Jq f _ _ _ _ _ _ he h
def wW{Y ts:List Dyadic}(ht:∀t∈ts,0<=t/\t<1)(hy:Y.length=la ds)(h:Pj (Y.map nR)≠0):jq ds Y ts≠0:=by
 have hsg:∀y∈Y,Vg y 0=Pj (Y.map nR):=λy hy=>(by have:=HW h (nR y) (Z_.2 ⟨y,hy,rfl⟩);rw[<-this,NR.sign,Za]);have hat:∀q,q<la ds->∃y,Y[q]?=some y/\y∈Y:=λq hq=>(by obtain⟨y,h2⟩:=ea (l:=Y) (k:=q) Z';exact⟨y,h2,G' h2⟩);generalize Pj (Y.map nR)=S at*;obtain⟨y0,_,hy0⟩:=hat 0 (Cc ds);have hSb:=EM y0 0;rw[hsg y0 hy0] at hSb;by_cases h1:S=1
 .have:=CQ (ds:=ds) (Y:=Y) ht λq hq=>(by obtain⟨y,e,hm⟩:=hat q hq;rw[e];exact(Ev y 0).1 (by rw[hsg y hm];omega));intro e;rw[e] at this;exact absurd this (by grind)
 have:=abO (ds:=ds) (Y:=Y) ht λq hq=>(by obtain⟨y,e,hm⟩:=hat q hq;rw[e];exact(yv y 0).1 (by rw[hsg y hm];omega));intro e;rw[e] at this;exact absurd this (by grind)
def EO(pt:List Dyadic)(b:List SR):Prop:=∃us:List Dyadic,us.length=b.length/\(∀t∈us,0<=t/\t<1)/\zz b us=pt
def EO.half{b:List SR}{a:Nat}{s:SR}{pt:List Dyadic}(up:∀s∈b,s.lo.ma<s.hi.ma)(hs:b[a]?=some s)(hi:EO pt b):EO pt (Fi b a s false)\/EO pt (Fi b a s true):=by
 obtain⟨us,h1,h2,h3⟩:=hi;have ha:=(X_.1 hs).1;obtain⟨t,ht⟩:=ea (l:=us) (k:=a) Z';have h2t:=h2 t (G' ht);have hh:=Wq;have key:∀(u:Bool)(v:Dyadic),0<=v/\v<1->(if u then Ie (-1)+(1-Ie (-1))*v else Ie (-1)*v)=t->EO pt (Fi b a s u):=λu v hv he=>by
  refine⟨us.set a v,by unfold Fi;rw[U9,U9,i'];exact h1,λx hx=> ?_, ?_⟩
  .obtain hx|rfl:=J8 hx
   .exact h2 x hx
   exact hv
  have h4:=dX (u:=u) (us:=us.set a v) (t:=v) up hs (by rw[F9,J' rfl,J' Z']);show zz (jw b a s u) _=_;rw[h4,he,List.set_set,Jn ht];exact h3
 by_cases hlt:t<Ie (-1)
 .exact .inl (key false (t+t) (by constructor<;>grind) (by show Ie (-1)*(t+t)=t;grind))
 exact .inr (key true (t+t-1) (by constructor<;>grind) (by show Ie (-1)+(1-Ie (-1))*(t+t-1)=t;grind))
def VX{b0 b:List SR}{pt:List Dyadic}(h:Cx ps b0)(hb:Xu ps n b)(hn:n<=50)(sp:∀p∈ps,lF p)(hz:∀p∈ps,ti pt p.ts=0)(hi:EO pt b):lk (ck ps b)=false:=by
 unfold lk;rw[p9];intro d hd;unfold ck at hd;obtain⟨p,hp,rfl⟩:=Z_.1 hd;rw[K_];intro hs;obtain⟨us,h1,h2,h3⟩:=hi;have o:=(onP h hb hn hp (sp p hp)).o;have hbl:=o.bl;have hv:=o.vl us.reverse (by rw[c_];omega);rw[u6,h3,hz p hp] at hv;exact wW (λt ht=>h2 t (g8.1 ht)) (by rw[Ud];exact o.len) hs hv
def Pk{ps:List PX}{b0:List SR}{tol:Dyadic}{g bu:Int}{pt:List Dyadic}(h:Cx ps b0)(sp:∀p∈ps,lF p)(hbu:bu<=40)(hz:∀p∈ps,ti pt p.ts=0):∀(f n:Nat)(st:List (List SR))(l R:List ZV)(k:Int),Bt ps tol g bu f n st l R k 0->(∀b∈st,Xu ps n b)->((∃b∈st,EO pt b)\/∃z∈l,EO pt z.b)->∃z∈R,EO pt z.b
 |f,n,[],l,R,k,hE,_,hi=>by
  have hR:R=l:=by cases f<;>exact hE.1
  rw[hR];obtain⟨b,hb,_⟩|hi:=hi
  .exact absurd hb O9
  exact hi
 |0,n,b::st,l,R,k,hE,_,_=>absurd hE id
 |f+1,n,b::st,l,R,k,hE,hst,hi=>by
  rw[Bt] at hE;by_cases hb:bu<(n+1:Nat)
  .rw[J' hb] at hE;exact absurd hE.2.2 U'
  rw[L' hb] at hE;replace hE:=hE.2;have hbo:=hst b q';have hst':∀c∈st,Xu ps (n+1) c:=λc hc=>(hst c (F' _ hc)).mono Z';by_cases hn:lk (ck ps b)=true
  .rw[J' hn] at hE;refine Pk h sp hbu hz f (n+1) st l R k hE hst' ?_;obtain⟨c,hc,hi⟩|hi:=hi
   .obtain rfl|hc:=S_.1 hc
    .rw[VX h hbo Z' sp hz hi] at hn
     cases hn
    exact .inl ⟨c,hc,hi⟩
   exact .inr hi
  rw[L' hn] at hE;have hput:∀q:Int,((∃c∈st,EO pt c)\/∃z∈l++[⟨q,b,wi g (ck ps b)⟩],EO pt z.b):=λq=>by
   obtain⟨c,hc,hi⟩|⟨z,hz,hi⟩:=hi
   .obtain rfl|hc:=S_.1 hc
    .exact .inr ⟨_,W8 _ q',hi⟩
    exact .inl ⟨c,hc,hi⟩
   exact .inr ⟨z,x9 _ hz,hi⟩
  by_cases hx:ng ps b=true
  .rw[J' hx] at hE;exact Pk h sp hbu hz f (n+1) st _ R k hE hst' (hput 1)
  rw[L' hx] at hE;obtain⟨a,s,_,hs,hE⟩:=hE;split at hE
  .exact Pk h sp hbu hz f (n+1) st _ R k hE hst' (hput 2)
  refine Pk h sp hbu hz f (n+1) _ l R k hE (λc hc=> ?_) ?_
  .obtain rfl|hc:=S_.1 hc
   .exact hbo.half Z' hs false
   obtain rfl|hc:=S_.1 hc
   .exact hbo.half Z' hs true
   exact hst' c hc
  obtain⟨c,hc,hi⟩|hi:=hi
  .obtain rfl|hc:=S_.1 hc
   .obtain hi|hi:=hi.half hbo.up hs
    .exact .inl ⟨_,q',hi⟩
    exact .inl ⟨_,F' _ q',hi⟩
   exact .inl ⟨c,F' _ (F' _ hc),hi⟩
  exact .inr hi
structure fW(b0 b:List SR):Prop where
 ln:b.length=b0.length
 inb:∀(i:Nat)(s z:SR),b[i]?=some s->b0[i]?=some z->z.lo.ma<=s.lo.ma/\s.hi.ma<=z.hi.ma
def jy{b:List SR}{a:Nat}{s:SR}(up:∀s∈b,s.lo.ma<s.hi.ma)(hs:b[a]?=some s)(u:Bool):fW b (Fi b a s u):=by
 have ha:=(X_.1 hs).1;refine⟨by unfold Fi;rw[U9,i'],λi x z hx hz=> ?_⟩;unfold Fi at hx;rw[F9] at hx;obtain⟨m,e0,e1,e2,e3,e4,e5⟩:=sn (up z (G' hz));obtain⟨g1,g2⟩:=SH (up z (G' hz));by_cases hi:a=i
 .subst hi;rw[hs] at hz;obtain rfl:=L_ hz;rw[J' rfl,J' (by rw[i'];exact ha)] at hx;rw[<-L_ hx]
  cases u with
  |false=>
   show s.lo.ma<=s.f.lo.ma/\(nR s.f.qh).ma<=s.hi.ma;rw[e0,e2];constructor<;>grind
  |true=>
   show s.lo.ma<=(nR s.f.qh).ma/\s.f.hi.ma<=s.hi.ma;rw[e0,e3];constructor<;>grind
 rw[L' hi,V_,hz] at hx;have hx:z.f=x:=L_ hx;rw[<-hx,e2,e3];constructor<;>grind
def fW.trans{a b c:List SR}(h1:fW a b)(h2:fW b c):fW a c:=by
 refine⟨h2.ln.trans h1.ln,λi s z hs hz=> ?_⟩;obtain⟨y,hy⟩:=ea (l:=b) (k:=i) (by rw[h1.ln];exact(X_.1 hz).1);obtain⟨a1,a2⟩:=h1.inb i y z hy hz;obtain⟨b1,b2⟩:=h2.inb i s y hs hy;constructor<;>grind
def ep(a b:List SR):Prop:=∃(i:Nat)(s t:SR),a[i]?=some s/\b[i]?=some t/\(s.hi.ma<=t.lo.ma\/t.hi.ma<=s.lo.ma)
def ep.symm{a b:List SR}(h:ep a b):ep b a:=let⟨i,s,t,h1,h2,h3⟩:=h;⟨i,t,s,h2,h1,h3.symm⟩
def ep.wth{a b c:List SR}(h:ep a b)(hw:fW a c):ep c b:=by
 obtain⟨i,s,t,h1,h2,h3⟩:=h;obtain⟨y,hy⟩:=ea (l:=c) (k:=i) (by rw[hw.ln];exact(X_.1 h1).1);obtain⟨a1,a2⟩:=hw.inb i y s hy h1;exact⟨i,y,t,hy,h2,h3.imp (λh=>by grind) λh=>by grind⟩
def CB{b:List SR}{a:Nat}{s:SR}(hs:b[a]?=some s):ep (Fi b a s false) (Fi b a s true):=by
 have ha:=(X_.1 hs).1;have e:∀u,(Fi b a s u)[a]?=some (s.f.half (nR s.f.qh) u):=λu=>(by unfold Fi;rw[F9,J' rfl,J' (by rw[i'];exact ha)]);exact⟨a,_,_,e false,e true,.inl (by show(nR s.f.qh).ma<=(nR s.f.qh).ma;grind)⟩
def tU{R:α->α->Prop}{l st:List α}{b c d:α}(h:(l++b::st).Pairwise R)(hc:∀x,R x b->R x c)(hd:∀x,R x b->R x d)(hc':∀x,R b x->R c x)(hd':∀x,R b x->R d x)(hcd:R c d):(l++c::d::st).Pairwise R:=by
 rw[I5] at h |-;obtain⟨h1,h2,h3⟩:=h;rw[Y8] at h2;refine⟨h1, ?_,λx hx y hy=> ?_⟩
 .rw[Y8,Y8];refine⟨λy hy=> ?_,λy hy=>hd' y (h2.1 y hy),h2.2⟩;obtain rfl|hy:=S_.1 hy
  .exact hcd
  exact hc' y (h2.1 y hy)
 obtain rfl|hy:=S_.1 hy
 .exact hc x (h3 x hx b q')
 obtain rfl|hy:=S_.1 hy
 .exact hd x (h3 x hx b q')
 exact h3 x hx y (F' _ hy)
structure KR(ps:List PX)(b0:List SR)(tol:Dyadic)(g:Int)(z:ZV):Prop where
 ok:Xu ps 50 z.b
 wt:fW b0 z.b
 rs:z.r=wi g (ck ps z.b)
 kd:(z.k=1/\ng ps z.b=true)\/(z.k=2/\∀s∈z.b,s.hi.ma-s.lo.ma<tol)
def lR{b:List SR}{a:Nat}{s:SR}(up:∀s∈b,s.lo.ma<s.hi.ma)(h:∀v,Cm b v->v=(a:Int))(hs:b[a]?=some s):∀t∈b,t.hi.ma-t.lo.ma<=s.hi.ma-s.lo.ma:=λt ht=>by
 have ha:=(X_.1 hs).1;obtain⟨v,hv,_⟩:=UB (b.length-1) b Z';have hva:=h _ hv;obtain⟨hb,_⟩|⟨m,s',h1,h2,h3,_⟩:=hv
 .rw[hb] at ht;exact absurd ht O9
 obtain rfl:m=a:=Z';rw[hs] at h1;obtain rfl:=L_ h1;obtain⟨j,hj⟩:=j_.1 ht;have h4:=h3 j t hj;obtain⟨g1,g2⟩:=SH (up t ht);obtain⟨g3,g4⟩:=SH (up s (G' hs));have e1:t.wid=t.jh-t.ye:=rfl;have e2:s.wid=s.jh-s.ye:=rfl;rw[e1,e2] at h4;grind
def Kn{ps:List PX}{b0:List SR}{tol:Dyadic}{g bu:Int}(hbu:bu<=40):∀(f n:Nat)(st:List (List SR))(l R:List ZV)(k:Int),Bt ps tol g bu f n st l R k 0->(∀b∈st,Xu ps n b/\fW b0 b)->(∀z∈l,KR ps b0 tol g z)->(l.map ZV.b++st).Pairwise ep->(∀z∈R,KR ps b0 tol g z)/\(R.map ZV.b).Pairwise ep/\(n:Int)<=k/\(k<=bu\/k=n)
 |f,n,[],l,R,k,hE,_,hl,hp=>by
  have hR:R=l/\k=n:=by cases f<;>exact⟨hE.1,hE.2.1⟩
  rw[hR.1,hR.2];rw[o_] at hp;exact⟨hl,hp,W6 _,.inr rfl⟩
 |0,n,b::st,l,R,k,hE,_,_,_=>absurd hE id
 |f+1,n,b::st,l,R,k,hE,hst,hl,hp=>by
  rw[Bt] at hE;by_cases hb:bu<(n+1:Nat)
  .rw[J' hb] at hE;exact absurd hE.2.2 U'
  rw[L' hb] at hE;replace hE:=hE.2;obtain⟨hbo,hbw⟩:=hst b q';have hst':∀c∈st,Xu ps (n+1) c/\fW b0 c:=λc hc=>⟨(hst c (F' _ hc)).1.mono Z',(hst c (F' _ hc)).2⟩;have fin:∀{P Q:Prop},P/\Q/\((n+1:Nat):Int)<=k/\(k<=bu\/k=(n+1:Nat))->P/\Q/\(n:Int)<=k/\(k<=bu\/k=n):=λ{P Q} h=>⟨h.1,h.2.1,by have:=h.2.2.1;omega,.inl (by have:=h.2.2.1;have:=h.2.2.2;omega)⟩;by_cases hn:lk (ck ps b)=true
  .rw[J' hn] at hE;refine fin (Kn hbu f (n+1) st l R k hE hst' hl (hp.sublist ?_));exact List.Sublist.append (A_ _) (s_ _ _)
  rw[L' hn] at hE;have hput:∀q:Int,((q=1/\ng ps b=true)\/(q=2/\∀s∈b,s.hi.ma-s.lo.ma<tol))->(∀z∈l++[⟨q,b,wi g (ck ps b)⟩],KR ps b0 tol g z)/\((l++[(⟨q,b,wi g (ck ps b)⟩:ZV)]).map ZV.b++st).Pairwise ep:=λq hq=>by
   refine⟨λz hz=> ?_,by rw[n_,l_];exact hp⟩;obtain hz|hz:=z_.1 hz
   .exact hl z hz
   rw[T_.1 hz];exact⟨hbo.mono Z',hbw,rfl,hq⟩
  by_cases hx:ng ps b=true
  .rw[J' hx] at hE;obtain⟨a1,a2⟩:=hput 1 (.inl ⟨rfl,hx⟩);exact fin (Kn hbu f (n+1) st _ R k hE hst' a1 a2)
  rw[L' hx] at hE;obtain⟨a,s,hW,hs,hE⟩:=hE;split at hE
  .rename_i ht;obtain⟨a1,a2⟩:=hput 2 (.inr ⟨rfl,λt ht2=>by have:=lR hbo.up hW hs t ht2;grind⟩);exact fin (Kn hbu f (n+1) st _ R k hE hst' a1 a2)
  refine fin (Kn hbu f (n+1) _ l R k hE (λc hc=> ?_) hl ?_)
  .obtain rfl|hc:=S_.1 hc
   .exact⟨hbo.half Z' hs false,hbw.trans (jy hbo.up hs false)⟩
   obtain rfl|hc:=S_.1 hc
   .exact⟨hbo.half Z' hs true,hbw.trans (jy hbo.up hs true)⟩
   exact hst' c hc
  have w:=jy hbo.up hs;exact tU hp (λx h=>(h.symm.wth (w false)).symm) (λx h=>(h.symm.wth (w true)).symm) (λx h=>h.wth (w false)) (λx h=>h.wth (w true)) (CB hs)
def yw(ps:List PX)(tol:Dyadic)(g bu:Int):Nat->Nat->List SR->List ZV->Option (List ZV×Nat×Int)
 |_,n,[],l=>some (l,n,0)
 |0,_,_::_,_=>none
 |f+1,n,s::st,l=>if bu<(n+1:Nat) then some ([],0,3)
   else if lk (ck ps [s])=true then yw ps tol g bu f (n+1) st l
   else if ng ps [s]=true then yw ps tol g bu f (n+1) st (l++[⟨1,[s],wi g (ck ps [s])⟩])
   else if s.hi.ma-s.lo.ma<tol then yw ps tol g bu f (n+1) st (l++[⟨2,[s],wi g (ck ps [s])⟩])
   else yw ps tol g bu f (n+1) (s.f.half (nR s.f.qh) false::s.f.half (nR s.f.qh) true::st) l
def Yq{ps:List PX}{b0:List SR}{tol:Dyadic}{g bu:Int}(h:Cx ps b0)(h3:ps.length<=3)(sp:∀p∈ps,lF p)(hbu:bu<=40):∀(f n:Nat)(st:List SR)(l R:List ZV)(k:Nat)(e:Int),yw ps tol g bu f n st l=some (R,k,e)->(∀s∈st,Xu ps n [s])->Bt ps tol g bu f n (st.map λs=>[s]) l R k e
 |f,n,[],l,R,k,e,hz,_=>by
  have:some (l,n,(0:Int))=some (R,k,e):=by cases f<;>exact hz
  simp only[S8,Prod.mk.injEq] at this;obtain⟨rfl,rfl,rfl⟩:=this
  cases f<;>exact⟨rfl,rfl,rfl⟩
 |0,n,s::st,l,R,k,e,hz,_=>by cases hz
 |f+1,n,s::st,l,R,k,e,hz,hb=>by
  rw[yw] at hz;rw[q_,Bt];by_cases h1:bu<(n+1:Nat)
  .rw[J' h1] at hz |-;simp only[S8,Prod.mk.injEq] at hz;obtain⟨rfl,rfl,rfl⟩:=hz;exact⟨rfl,rfl,rfl⟩
  rw[L' h1] at hz |-;have hbo:=hb s q';have hst:∀c∈st,Xu ps (n+1) [c]:=λc hc=>(hb c (F' _ hc)).mono Z';refine⟨aaS h h3 hbo Z' sp, ?_⟩;by_cases h2:lk (ck ps [s])=true
  .rw[J' h2] at hz |-;exact Yq h h3 sp hbu f _ _ _ _ _ _ hz hst
  rw[L' h2] at hz |-;by_cases h4:ng ps [s]=true
  .rw[J' h4] at hz |-;exact Yq h h3 sp hbu f _ _ _ _ _ _ hz hst
  rw[L' h4] at hz |-;refine⟨0,s,λv hv=>FR hv,rfl, ?_⟩;by_cases h5:s.hi.ma-s.lo.ma<tol
  .rw[J' h5] at hz |-;exact Yq h h3 sp hbu f _ _ _ _ _ _ hz hst
  rw[L' h5] at hz |-;refine Yq h h3 sp hbu f _ (s.f.half (nR s.f.qh) false::s.f.half (nR s.f.qh) true::st) _ _ _ _ hz λc hc=> ?_;obtain rfl|hc:=S_.1 hc
  .exact hbo.half (a:=0) Z' rfl false
  obtain rfl|hc:=S_.1 hc
  .exact hbo.half (a:=0) Z' rfl true
  exact hst c hc
def nrB(a b:NR):Bool:=decide (a.neg=b.neg) && decide (a.Qa=b.Qa) && decide (a.e=b.e)
def NV{a b:NR}(h:nrB a b=true):a=b:=by
 obtain⟨n,m,e⟩:=a;obtain⟨n2,m2,e2⟩:=b;unfold nrB at h;simp only[Q_,K_] at h;obtain⟨⟨rfl,rfl⟩,rfl⟩:=h;rfl
def srB(a b:SR):Bool:=nrB a.lo b.lo && nrB a.hi b.hi
def abC{a b:SR}(h:srB a b=true):a=b:=by
 obtain⟨l,u⟩:=a;obtain⟨l2,u2⟩:=b;unfold srB at h;rw[Q_] at h;have h1:l=l2:=NV h.1;have h2:u=u2:=NV h.2;rw[h1,h2]
def eS{α:Type}(f:α->α->Bool):List α->List α->Bool
 |[],[]=>true
 |a::l,b::m=>f a b && eS f l m
 |_,_=>false
def ID{α:Type}{f:α->α->Bool}(hf:∀{a b},f a b=true->a=b):∀{l m:List α},eS f l m=true->l=m
 |[],[],_=>rfl
 |a::l,b::m,h=>(by rw[eS,Q_] at h;rw[hf h.1,ID hf h.2])
def zvB(a b:ZV):Bool:=decide (a.k=b.k) && eS srB a.b b.b && decide (a.r=b.r)
def abW{a b:ZV}(h:zvB a b=true):a=b:=by
 obtain⟨k,x,r⟩:=a;obtain⟨k2,x2,r2⟩:=b;unfold zvB at h;simp only[Q_,K_] at h;obtain⟨⟨rfl,h2⟩,rfl⟩:=h;rw[ID abC h2]
def dJ(o:Option (List ZV×Nat×Int))(R:List ZV)(k:Nat)(e:Int):Bool:=match o with
 |some x=>eS zvB x.1 R && decide (x.2.1=k) && decide (x.2.2=e)
 |none=>false
def xW{o:Option (List ZV×Nat×Int)}{R:List ZV}{e:Int}(h:dJ o R k e=true):o=some (R,k,e):=by
 cases o with
 |none=>cases h
 |some x=>
  obtain⟨l,n,i⟩:=x;unfold dJ at h;simp only[Q_,K_] at h;obtain⟨⟨h1,rfl⟩,rfl⟩:=h;rw[ID abW h1]
def nE(K:ZT):PX:=⟨1,none,0,0,zT K⟩
def K1:ZT:=[([0], -1),([1],2)]
def K2:ZT:=[([0],1),([2],1)]
def K3:ZT:=[([2],1)]
def RE1:List ZV:=[⟨1,bF 0 2,Ad 24⟩]
def RE3:List ZV:=[⟨2,[⟨nR (Ad (-1)),nR (Ad 0)⟩],Ad 2⟩,⟨2,[⟨nR (Ad 0),nR (Ad 1)⟩],Ad 2⟩]
def ev1:dJ (yw [nE K1] (Ad 2) 2 9 40 0 ((bF 0 2).map SR.f) []) RE1 1 0=true:=by decide+kernel
def ev2:dJ (yw [nE K2] (Ad 2) 2 9 40 0 ((bF 0 2).map SR.f) []) [] 1 0=true:=by decide+kernel
def ev3:dJ (yw [nE K3] (Ad 2) 2 20 40 0 ((bF (-1) 1).map SR.f) []) RE3 15 0=true:=by decide+kernel
def ev4:dJ (yw [nE K3] (Ad 2) 2 14 40 0 ((bF (-1) 1).map SR.f) []) [] 0 3=true:=by decide+kernel
def smK(K:ZT):Bool:=decide (K.length<=8) && zB K && K.all λx=>decide (x.1.length<=3) && x.1.all λc=>decide (c.toNat<=2)
def NT{K:ZT}(h:smK K=true)(p:PX)(hp:p.ts=zT K):lF p:=by
 unfold smK at h;simp only[Q_,K_] at h;obtain⟨⟨h1,h2⟩,h3⟩:=h;have hm:∀t∈p.ts,t.m.size<=3/\∀c∈t.m.data.toList,c.toNat<=2:=λt ht=>(by rw[hp] at ht;obtain⟨x,hx,rfl⟩:=Z_.1 ht;have h4:=u_.1 h3 x hx;simp only[Q_,K_] at h4;refine⟨by show(str x.1).size<=3;rw[yg];exact h4.1,λc hc=> ?_⟩;replace hc:c∈(str x.1).data.toList:=hc;rw[Oc] at hc;simpa using u_.1 h4.2 c hc);refine⟨by rw[hp,HJ];exact h1,by rw[hp];exact(SA h2).1.mono U',λt ht=>(hm t ht).1,λt ht=>(hm t ht).2⟩
def EC(a b:Int)(h: -100<=a/\a<=100/\ -100<=b/\b<=100):∀s∈bF a b,s.fin 36:=λs hs=>by
 have e:∀n:Int, -100<=n/\n<=100->cm 36 (nR (n:Dyadic)):=λn hn=>(by have hz:=(show Sz 24 ((n:Int):Dyadic) from Za (n:Dyadic) ▸ ((SA (L:=[([],n)]) (by unfold zB;simp;omega)).1 ⟨str [],nR (n:Dyadic)⟩ q').2);exact cm.of (hz.mono U') U');rw[T_.1 hs];exact⟨e a ⟨h.1,h.2.1⟩,e b h.2.2⟩
def FB{v:Int}{A B:Option Addr}{c d:Nat}(b:List SR):Qt [(⟨v,A,n,c,ts⟩:PX)] b=Qt [(⟨v,B,m,d,ts⟩:PX)] b:=by
 have e:pg (⟨v,A,n,c,ts⟩:PX) b []=pg (⟨v,B,m,d,ts⟩:PX) b []:=rfl;unfold Qt;by_cases h:pg (⟨v,B,m,d,ts⟩:PX) b []=0
 .rw[show[(⟨v,A,n,c,ts⟩:PX)].find? (λp=>decide (pg p b []≠0))=none by simp[List.find?,e,h],show[(⟨v,B,m,d,ts⟩:PX)].find? (λp=>decide (pg p b []≠0))=none by simp[List.find?,h]];rfl
 rw[show[(⟨v,A,n,c,ts⟩:PX)].find? (λp=>decide (pg p b []≠0))=some ⟨v,A,n,c,ts⟩ by simp[List.find?,e,h],show[(⟨v,B,m,d,ts⟩:PX)].find? (λp=>decide (pg p b []≠0))=some ⟨v,B,m,d,ts⟩ by simp[List.find?,h]];exact e
variable {bu:Int}{tol:NR}
def Uq{v:Int}{ts:List TR}{A B:Option Addr}{n c m d:Nat}{tol:Dyadic}{g bu:Int}:∀(f i:Nat)(st:List (List SR))(l R:List ZV)(k e:Int),Bt [(⟨v,A,n,c,ts⟩:PX)] tol g bu f i st l R k e->Bt [(⟨v,B,m,d,ts⟩:PX)] tol g bu f i st l R k e
 |f,i,[],l,R,k,e,h=>by cases f<;>exact h
 |0,i,b::st,l,R,k,e,h=>h
 |f+1,i,b::st,l,R,k,e,h=>by
  rw[Bt] at h |-;have hf:ck [(⟨v,B,m,d,ts⟩:PX)] b=ck [(⟨v,A,n,c,ts⟩:PX)] b:=rfl;have hx:ng [(⟨v,B,m,d,ts⟩:PX)] b=ng [(⟨v,A,n,c,ts⟩:PX)] b:=rfl;rw[hf,hx];by_cases h1:bu<(i+1:Nat)
  .rw[J' h1] at h |-;exact h
  rw[L' h1] at h |-;obtain⟨hc,h⟩:=h;refine⟨⟨by rw[<-hc.sq];exact FB b,λp hp=> ?_,hc.bx,hc.fd,hc.sl,hc.ln⟩, ?_⟩
  .rw[T_.1 hp];have h5:=hc.gr ⟨v,A,n,c,ts⟩ q';exact h5
  by_cases h2:lk (ck [(⟨v,A,n,c,ts⟩:PX)] b)=true
  .rw[J' h2] at h |-;exact Uq f _ _ _ _ _ _ h
  rw[L' h2] at h |-;by_cases h3:ng [(⟨v,A,n,c,ts⟩:PX)] b=true
  .rw[J' h3] at h |-;exact Uq f _ _ _ _ _ _ h
  rw[L' h3] at h |-;obtain⟨a,s,q1,q2,h⟩:=h;refine⟨a,s,q1,q2, ?_⟩;by_cases h4:s.hi.ma-s.lo.ma<tol
  .rw[J' h4] at h |-;exact Uq f _ _ _ _ _ _ h
  rw[L' h4] at h |-;exact Uq f _ _ _ _ _ _ h
def vU{v:Int}{A B:Option Addr}{c d:Nat}{b:List SR}{g:Int}{f:Nat}{R:List ZV}{k e:Int}(h:Vo [(⟨v,A,n,c,ts⟩:PX)] b tol g bu f R k e):Vo [(⟨v,B,m,d,ts⟩:PX)] b tol g bu f R k e:=by
 unfold Vo at*;rw[FB (B:=A) (m:=n) (d:=c) b];by_cases h1:Qt [(⟨v,A,n,c,ts⟩:PX)] b≠0
 .rw[J' h1] at h |-;exact h
 rw[L' h1] at h |-;by_cases h2:tol.i.sign<=0
 .rw[J' h2] at h |-;exact h
 rw[L' h2] at h |-;exact Uq _ _ _ _ _ _ _ h
structure EgZ(K:ZT)(a b:Int):Prop where
 sm:smK K=true
 iv: -100<=a/\a<=100/\ -100<=b/\b<=100
 sq:Qt [nE K] (bF a b)=0
 gr:Qe (400+400+16394) (Ac 1 (zT K)) (400+1)<=440000
def eg1:EgZ K1 0 2:=⟨by decide+kernel,U',by decide+kernel,by decide+kernel⟩
def eg2:EgZ K2 0 2:=⟨by decide+kernel,U',by decide+kernel,by decide+kernel⟩
def eg3:EgZ K3 (-1) 1:=⟨by decide+kernel,U',by decide+kernel,by decide+kernel⟩
structure IsZ(K:ZT)(a b t bu:Int)(R:List ZV)(k e:Int):Prop where
 o:Vo [nE K] (bF a b) (nR (Ad t)) 2 bu 40 R k e
def JD{K:ZT}{a b t:Int}{R:List ZV}{e:Int}(E:EgZ K a b)(ht:0<(nR (Ad t)).i.sign)(hbu:bu<=40)(h:dJ (yw [nE K] (Ad t) 2 bu 40 0 ((bF a b).map SR.f) []) R k e=true):IsZ K a b t bu R k e:=by
 refine⟨?_⟩;unfold Vo;rw[L' (by rw[E.sq];decide),L' Z',Za];have hs:=dq E.sq;have sp:∀p∈[nE K],lF p:=λp hp=>NT E.sm p (by rw[T_.1 hp];rfl);exact Yq hs (by show 1<=3;decide) sp hbu 40 0 _ _ _ _ _ (xW h) λs hs2=>(by have h1:=Xu.first hs (EC a b E.iv);obtain rfl:=T_.1 hs2;exact h1)
def Dx{K:ZT}{a b t:Int}{R:List ZV}{k:Int}{e:Int}(E:EgZ K a b)(hZ:IsZ K a b t bu R k e)(ht: -100<=t/\t<=100)(hbu: -1000<=bu/\bu<=40)(p:PX)(L:Option Addr)(c:Nat)(B:Option Addr)(d:Nat)(w:World)(hT:Sc w)(hv:p.v=1)(hts:p.ts=zT K)(hp:p.at_ w)(hc:p.n<=p.c)(hL:Sl w L 1 2 (na PX.cells [p]))(hB:Sl w B 1 6 (na SR.cells (bF a b))):Calls prog 21 #[.slice L 1 c,.slice B 1 d,.agg #[.bool (nR (Ad t)).neg,.string (nR (Ad t)).Qa,.int .i64 (nR (Ad t)).e],.int .i64 2,.int .i64 bu] w λr w'=>∃(G:Option Addr)(c':Nat)(xs:List ZX),r=.returned (.tuple #[.slice G xs.length c',.int .i64 k,.int .i64 e])/\xs.map ZX.v=R/\Sl w' G xs.length 5 (na ZX.cells xs)/\(∀x∈xs,Sl w' x.x.A x.x.n 6 (na SR.cells x.x.b))/\Below w.heap.size w w':=by
 have hz:=(show Sz 24 ((t:Int):Dyadic) from Za (t:Dyadic) ▸ ((SA (L:=[([],t)]) (by unfold zB;simp;omega)).1 ⟨str [],nR (t:Dyadic)⟩ q').2);have hpz:Sz 27 (Ad t):=(hz.mul (l:=3) (show Sz 3 (Ie (-3)) from⟨1,by decide+kernel,U'⟩)).mono U';obtain⟨v,A,n,pc,ts⟩:=p;replace hv:v=1:=hv;replace hts:ts=zT K:=hts;subst hv hts;have hs:Cx [(⟨1,A,n,pc,zT K⟩:PX)] (bF a b):=dq ((FB (bF a b)).trans E.sq);have sp:=NT E.sm ⟨1,A,n,pc,zT K⟩ rfl;have hln:=hp.ln;have hn8:=sp.n;refine(vu L 1 c [⟨1,A,n,pc,zT K⟩] B 1 d (bF a b) (nR (Ad t)) 2 bu 40 2 R k e w hT hL U' (λp hp2=> ?_) (λ_ p hp2=> ?_) hB U' (λs hs2=>⟨(EC a b E.iv s hs2).1.mono U',(EC a b E.iv s hs2).2.mono U'⟩) (λp hp2 _=> ?_) (hpz.ok U') U' U' Z' Z' (vU hZ.o)).mono λr w' ⟨G,c',xs,HR,h1,h2,h3,h4⟩=> ?_
 .rw[T_.1 hp2];exact⟨hp,by show n<=1000000;have:(zT K).length=n:=hln;have:(zT K).length<=8:=hn8;omega,hc,sp.ok,λt ht=>N_ (sp.sz t ht) U'⟩
 .rw[T_.1 hp2];exact⟨rfl,sp.nU (hs.fit _ q').e 100 U'⟩
 .rw[T_.1 hp2];exact E.gr
 refine⟨G,c',xs,h1,h2,h4.ra (i:=0) rfl,λx hx=> ?_,h4.below⟩;exact jf (h4.own _ (F' _ (h3 x hx)))
def lnF(a b:Int):FX:=MP [1] [(a:Dyadic),(b:Dyadic)]
def AV(a b:Int)(r:Bool)(A:Option Addr)(c:Nat)(B:Option Addr)(d:Nat)(L:Option Addr)(lc:Nat)(w:World)(hT:Sc w)(hA:Sl w A 1 1 (jb [1]))(hB:Sl w B 2 3 (na NR.cells [nR (a:Dyadic),nR (b:Dyadic)]))(hc:1<=c)(hL:Sl w L 1 2 [.slice A 1 c,.slice B 2 d])(h1: -100<=a/\a<=100)(h2: -100<=b/\b<=100)(hr:gj [lnF a b]=r):Calls prog 59 #[.slice L 1 lc] w λr' w'=>r'=.returned (.bool r)/\Below w.heap.size w w':=by
 have hz:∀n:Int, -100<=n/\n<=100->Sz 24 ((n:Int):Dyadic):=λn hn=>(show Sz 24 ((n:Int):Dyadic) from Za (n:Dyadic) ▸ ((SA (L:=[([],n)]) (by unfold zB;simp;omega)).1 ⟨str [],nR (n:Dyadic)⟩ q').2);have h:=vk L 1 lc [⟨A,1,c,B,2,d,[1],[nR (a:Dyadic),nR (b:Dyadic)]⟩] 24 w hT hL U' (λf hf=>by
  rw[T_.1 hf];refine⟨⟨hA,hB⟩,⟨by show 1<=1000;decide,by show 2<=100000;decide,λx hx=> ?_⟩,hc⟩;obtain rfl|hx:=S_.1 hx
  .exact⟨(hz a h1).ok U',by rw[Za];exact hz a h1⟩
  rw[T_.1 hx];exact⟨(hz b h2).ok U',by rw[Za];exact hz b h2⟩) U'
 have e:gj [(⟨A,1,c,B,2,d,[1],[nR (a:Dyadic),nR (b:Dyadic)]⟩:FX)]=gj [lnF a b]:=EA rfl λi g k e1 e2=>by
  cases i with
  |zero=>
   obtain rfl:=L_ e1;obtain rfl:=L_ e2;exact⟨rfl,rfl,rfl,rfl⟩
  |succ i=>cases e1
 rw[e,hr] at h;exact h
variable {w1:World}
def Vi{w2 w3:World}(h:Below w1.heap.size w1 w2)(h2:Below w2.heap.size w2 w3):Below w1.heap.size w1 w3:=h.trans (h2.mono h.size)
def zr1:IsZ K1 0 2 2 9 RE1 (1:Nat) 0:=JD (k:=1) eg1 (by decide+kernel) U' ev1
def zr2:IsZ K2 0 2 2 9 [] (1:Nat) 0:=JD (k:=1) eg2 (by decide+kernel) U' ev2
def zr3:IsZ K3 (-1) 1 2 20 RE3 (15:Nat) 0:=JD (k:=15) eg3 (by decide+kernel) U' ev3
def zr4:IsZ K3 (-1) 1 2 14 [] (0:Nat) 3:=JD (k:=0) eg3 (by decide+kernel) U' ev4
def zr5:IsZ K3 (-1) 1 0 14 [] (0:Nat) 1:=⟨by
 unfold Vo;rw[L' (by rw[eg3.sq];decide),J' (by decide+kernel)];exact⟨rfl,rfl,rfl⟩⟩
def MX:∀z∈RE1,z.b.length<=1000000:=by decide
def UX:∀z∈RE3,z.b.length<=1000000:=by decide
def xQ{xs:List ZX}{R:List ZV}(h:xs.map ZX.v=R)(hR:∀z∈R,z.b.length<=1000000):∀x∈xs,x.x.b.length<=1000000:=λx hx=>hR x.v (by rw[<-h];exact a6 hx)
def Rx{P:α->Prop}{a b:α}(ha:P a)(hb:P b):∀x∈[a,b],P x:=λx hx=>by
 obtain rfl|hx:=S_.1 hx
 .exact ha
 rw[T_.1 hx];exact hb
set_option maxRecDepth 100000 in
def mj(w:World)(hT:Sc w):Calls prog 17 #[] w λr w'=>r=.returned (.bool true)/\Below w.heap.size w w':=by
 have hh:=Hp.start w;refine da (N:=138) (l:=[]) func17 rfl rfl (by simp) ?_;refine fa ?_;refine qa (Il (-1) 2 0 K1 _ U' U' U' (by decide+kernel)) ja.out rfl U' ?_;rintro e_ w18 ⟨p1,hv,ht,rfl,h3⟩;refine⟨_,rfl, ?_⟩;replace hh:=hh.join h3;clear h3;simp only[C',E'] at hh;refine Sj ?_;intro b19 w19 hh;refine qa (Wj (0) 2 _ U' U') ja.out rfl U' ?_;rintro e_ w20 ⟨g1,rfl,h3⟩;refine⟨_,rfl, ?_⟩;replace hh:=hh.join h3;clear h3;simp only[C',E'] at hh;refine PA ?_;intro w21 hh;refine qa (Dx eg1 zr1 U' U' p1 _ _ _ _ _ (hT.hp hh) hv ht (hh.ra (i:=2) rfl) (hh.me (i:=2) rfl) (hh.ra (i:=1) rfl) (hh.ra (i:=0) rfl)) ja.out rfl U' ?_;rintro e_ w22 ⟨G1,c1,xs1,rfl,hx1,hS1,hB1,hb_⟩;refine⟨_,rfl, ?_⟩;have hbw:=Below.refl w.heap.size w;replace hh:=hh.ext hb_;replace hT:=hT.hp hh;replace hbw:=Vi hbw hh.below;replace hh:=Hp.start w22;refine fa ?_;refine qa (Il (1) 0 1 K2 _ U' U' U' (by decide+kernel)) ja.out rfl U' ?_;rintro e_ w27 ⟨p2,hv,ht,rfl,h3⟩;refine⟨_,rfl, ?_⟩;replace hh:=hh.join h3;clear h3;simp only[C',E'] at hh;refine Sj ?_;intro b28 w28 hh
 refine qa (Wj (0) 2 _ U' U') ja.out rfl U' ?_;rintro e_ w29 ⟨g2,rfl,h3⟩;refine⟨_,rfl, ?_⟩;replace hh:=hh.join h3;clear h3;simp only[C',E'] at hh;refine PA ?_;intro w30 hh;refine qa (Dx eg2 zr2 U' U' p2 _ _ _ _ _ (hT.hp hh) hv ht (hh.ra (i:=2) rfl) (hh.me (i:=2) rfl) (hh.ra (i:=1) rfl) (hh.ra (i:=0) rfl)) ja.out rfl U' ?_;rintro e_ w31 ⟨G2,c2,xs2,rfl,hx2,hS2,hB2,hb_⟩;refine⟨_,rfl, ?_⟩;replace hh:=hh.ext hb_;replace hT:=hT.hp hh;replace hbw:=Vi hbw hh.below;replace hS1:=hS1.ext hh.below;replace hB1:=λx hx=>(hB1 x hx).ext hh.below;skip;replace hh:=Hp.start w31;refine fa ?_;obtain rfl:=List.map_eq_nil_iff.1 hx2;refine qT ?_;rintro e_ w36 ⟨p3,hv,ht,rfl,h3⟩;refine⟨_,rfl, ?_⟩;replace hh:=hh.join h3;clear h3;simp only[C',E'] at hh;refine Sj ?_;intro b37 w37 hh;refine oS ?_;rintro e_ w38 ⟨g3,rfl,h3⟩;refine⟨_,rfl, ?_⟩;replace hh:=hh.join h3;clear h3;simp only[C',E'] at hh;refine PA ?_;intro w39 hh
 refine qa (Dx eg3 zr3 U' U' p3 _ _ _ _ _ (hT.hp hh) hv ht (hh.ra (i:=2) rfl) (hh.me (i:=2) rfl) (hh.ra (i:=1) rfl) (hh.ra (i:=0) rfl)) ja.out rfl U' ?_;rintro e_ w40 ⟨G3,c3,xs3,rfl,hx3,hS3,hB3,hb_⟩;refine⟨_,rfl, ?_⟩;replace hh:=hh.ext hb_;replace hT:=hT.hp hh;replace hbw:=Vi hbw hh.below;replace hS1:=hS1.ext hh.below;replace hB1:=λx hx=>(hB1 x hx).ext hh.below;skip;replace hh:=Hp.start w40;refine fa ?_;refine qT ?_;rintro e_ w45 ⟨p4,hv,ht,rfl,h3⟩;refine⟨_,rfl, ?_⟩;replace hh:=hh.join h3;clear h3;simp only[C',E'] at hh;refine Sj ?_;intro b46 w46 hh;refine oS ?_;rintro e_ w47 ⟨g4,rfl,h3⟩;refine⟨_,rfl, ?_⟩;replace hh:=hh.join h3;clear h3;simp only[C',E'] at hh;refine PA ?_;intro w48 hh;refine qa (Dx eg3 zr4 U' U' p4 _ _ _ _ _ (hT.hp hh) hv ht (hh.ra (i:=2) rfl) (hh.me (i:=2) rfl) (hh.ra (i:=1) rfl) (hh.ra (i:=0) rfl)) ja.out rfl U' ?_;rintro e_ w49 ⟨G4,c4,xs4,rfl,hx4,hS4,hB4,hb_⟩;refine⟨_,rfl, ?_⟩;replace hh:=hh.ext hb_;replace hT:=hT.hp hh;replace hbw:=Vi hbw hh.below;replace hS1:=hS1.ext hh.below;replace hB1:=λx hx=>(hB1 x hx).ext hh.below
 replace hS3:=hS3.ext hh.below;replace hB3:=λx hx=>(hB3 x hx).ext hh.below;replace hh:=Hp.start w49;refine fa ?_;refine qT ?_;rintro e_ w54 ⟨p5,hv,ht,rfl,h3⟩;refine⟨_,rfl, ?_⟩;replace hh:=hh.join h3;clear h3;simp only[C',E'] at hh;refine Sj ?_;intro b55 w55 hh;refine oS ?_;rintro e_ w56 ⟨g5,rfl,h3⟩;refine⟨_,rfl, ?_⟩;replace hh:=hh.join h3;clear h3;simp only[C',E'] at hh;refine Oa hh (Hg 0 _ U' U') rfl ?_;intro w57 hh;refine qa (Dx eg3 zr5 U' U' p5 _ _ _ _ _ (hT.hp hh) hv ht (hh.ra (i:=2) rfl) (hh.me (i:=2) rfl) (hh.ra (i:=1) rfl) (hh.ra (i:=0) rfl)) ja.out rfl U' ?_;rintro e_ w58 ⟨G5,c5,xs5,rfl,hx5,hS5,hB5,hb_⟩;refine⟨_,rfl, ?_⟩;replace hh:=hh.ext hb_;replace hT:=hT.hp hh;replace hbw:=Vi hbw hh.below;replace hS1:=hS1.ext hh.below;replace hB1:=λx hx=>(hB1 x hx).ext hh.below;replace hS3:=hS3.ext hh.below;replace hB3:=λx hx=>(hB3 x hx).ext hh.below;replace hh:=Hp.start w58;refine fa ?_;have hl1:xs1.length=1:=by have:=J_ List.length hx1;simpa[RE1] using this
 have hl3:xs3.length=2:=by have:=J_ List.length hx3;simpa[RE3] using this
 rw[hl1] at hS1;rw[hl3] at hS3;refine Oa hh (Hg (-1) _ U' U') rfl ?_;intro w62 hh;refine Oa hh (Hg 0 _ U' U') rfl ?_;intro w63 hh;refine fa ?_;refine iL ?_;intro b65 w65 hh;refine PA ?_;intro w66 hh;refine fa ?_;refine Oa hh (Hg 0 _ U' U') rfl ?_;intro w68 hh;refine Oa hh (Hg 1 _ U' U') rfl ?_;intro w69 hh;refine fa ?_;refine iL ?_;intro b71 w71 hh;refine PA ?_;intro w72 hh;refine fa ?_;refine vc hh (cs:=[_,_,_,_,_,_,_,_,_,_]) lb.out ya.out (Rb (Ld rfl) (Rb (Ld rfl) oe)) rfl rfl U' U' U' rfl U' ?_;intro b74 w74 hh;refine fa ?_;refine qa (Wj 0 2 _ U' U') ja.out rfl U' ?_;rintro e_ w76 ⟨g6,rfl,h3⟩;refine⟨_,rfl, ?_⟩;replace hh:=hh.join h3;clear h3;simp only[C',E'] at hh;refine Oa hh (Hg 24 _ U' U') rfl ?_;intro w77 hh;refine fa ?_;refine VT ?_;intro b79 w79 hh;rw[hl1,hl3]
 replace hh:=show Hp w58 (.row (some ⟨b79,0,none⟩) 1 1 60 5 (na ZX.cells [⟨1,⟨some ⟨g6,0,none⟩,1,1,bF 0 2⟩,Ad 24⟩])::.row (some ⟨g6,0,none⟩) 1 1 36 6 (na SR.cells (bF 0 2))::.row (some ⟨b74,0,none⟩) 2 2 60 5 (na ZX.cells [⟨2,⟨some ⟨b65,0,none⟩,1,1,[⟨nR (Ad (-1)),nR (Ad 0)⟩]⟩,Ad 2⟩,⟨2,⟨some ⟨b71,0,none⟩,1,1,[⟨nR (Ad 0),nR (Ad 1)⟩]⟩,Ad 2⟩])::.row (some ⟨b71,0,none⟩) 1 1 36 6 (na SR.cells [⟨nR (Ad 0),nR (Ad 1)⟩])::.row (some ⟨b65,0,none⟩) 1 1 36 6 (na SR.cells [⟨nR (Ad (-1)),nR (Ad 0)⟩])::_) _ from hh;refine Oa hh (ur G1 (some ⟨b79,0,none⟩) 1 c1 1 xs1 [⟨1,⟨some ⟨g6,0,none⟩,1,1,bF 0 2⟩,Ad 24⟩] _ (hS1.ext hh.below) (hh.ra (i:=0) rfl) (hx1.trans rfl) (λx hx=>(hB1 x hx).ext hh.below) (λx hx=>by rw[T_.1 hx];exact hh.ra (i:=1) rfl) (xQ hx1 MX) U') rfl ?_;intro w80 hh;refine fa ?_
 refine Oa hh (ur G3 (some ⟨b74,0,none⟩) 2 c3 2 xs3 [⟨2,⟨some ⟨b65,0,none⟩,1,1,[⟨nR (Ad (-1)),nR (Ad 0)⟩]⟩,Ad 2⟩,⟨2,⟨some ⟨b71,0,none⟩,1,1,[⟨nR (Ad 0),nR (Ad 1)⟩]⟩,Ad 2⟩] _ (hS3.ext hh.below) (hh.ra (i:=2) rfl) (hx3.trans rfl) (λx hx=>(hB3 x hx).ext hh.below) (Rx (hh.ra (i:=4) rfl) (hh.ra (i:=3) rfl)) (xQ hx3 UX) U') rfl ?_;intro w105 hh;refine fa ?_;refine qa (xu (-1) 1 _ U' U') ja.out rfl U' ?_;rintro e_ w124 ⟨A1,d1,B1,e1,rfl,h3⟩;refine⟨_,rfl, ?_⟩;replace hh:=hh.join h3;clear h3;simp only[C',E'] at hh;refine fa ?_;refine Sj ?_;intro b125 w125 hh;refine fa ?_;refine Oa hh (AV (-1) 1 true A1 d1 B1 e1 (some ⟨b125,0,none⟩) 1 _ (hT.hp hh) (hh.ra (i:=2) rfl) (hh.ra (i:=1) rfl) (hh.me (i:=2) rfl) (hh.ra (i:=0) rfl) U' U' (by decide+kernel)) rfl ?_;intro w126 hh;refine fa ?_;refine qa (xu 1 1 _ U' U') ja.out rfl U' ?_;rintro e_ w129 ⟨A2,d2,B2,e2,rfl,h3⟩;refine⟨_,rfl, ?_⟩;replace hh:=hh.join h3;clear h3;simp only[C',E'] at hh;refine fa ?_;refine Sj ?_;intro b130 w130 hh;refine fa ?_
 refine Oa hh (AV 1 1 false A2 d2 B2 e2 (some ⟨b130,0,none⟩) 1 _ (hT.hp hh) (hh.ra (i:=2) rfl) (hh.ra (i:=1) rfl) (hh.me (i:=2) rfl) (hh.ra (i:=0) rfl) U' U' (by decide+kernel)) rfl ?_;intro w131 hh;refine fa ?_;have hcn:=λw1=>vk none 0 0 [] 24 w1;refine fa ?_;refine Oa hh (hcn _ (hT.hp hh) (Sl.nil _ _ _) U' (λf hf=>absurd hf O9) U') rfl ?_;intro w135 hh;refine fa ?_;exact⟨rfl,Vi hbw hh.below⟩
def agc(x:SR×SR):Bool:=decide (x.1.hi.ma<=x.2.lo.ma)||decide (x.2.hi.ma<=x.1.lo.ma)
def apB(a b:List SR):Bool:=(a.zip b).any agc
def LK{q:Nat}:∀(es:List Nat)(xs:List Dyadic),(∀x∈xs,Sz q x)->(∀e∈es,e<=2)->Sz (1+(1+q*2)*es.length) (dh es xs)
 |[],xs,_,_=>by cases xs<;>exact Sz.one.mono Z'
 |e::es,[],_,_=>Sz.one.mono Z'
 |e::es,x::xs,hx,he=>((Sz.abt (hx x q') (he e q')).mul (LK es xs (λy hy=>hx y (F' _ hy)) λy hy=>he y (F' _ hy))).mono (by simp only[E_,X9];omega)
def BD{k q m:Nat}(xs:List Dyadic)(hx:∀x∈xs,Sz q x):∀(l:List TR),(∀t∈l,Sz k t.c.ma)->(∀t∈l,t.m.size<=m/\∀c∈t.m.data.toList,c.toNat<=2)->Sz (k+(1+(1+q*2)*m)+l.length) (ti xs l)
 |[],_,_=>Sz.zero _
 |t::l,hk,hm=>by
  obtain⟨h1,h2⟩:=hm t q';have ha:=LK (Kc t.m) xs hx (λe he=>by
   unfold Kc at he;obtain⟨c,hc,rfl⟩:=Z_.1 he;exact h2 c hc)
  have hl:(Kc t.m).length<=m:=by unfold Kc;rw[i'];exact h1
  have:=k_ (1+q*2) hl;exact(((hk t q').mul ha).mono (l:=k+(1+(1+q*2)*m)+l.length) Z').add (BD xs hx l (λy hy=>hk y (F' _ hy)) λy hy=>hm y (F' _ hy))
def LJ(p:PX)(xs:List Dyadic):List TR:=sa (p.ts++gl p.v.toNat (-(ti xs p.ts)))
def OY(v:Nat)(x:Dyadic)(xs:List Dyadic):ti xs (gl v x)=x:=by
 unfold gl;rw[zg];show(nR x).ma*dh (Kc (Hd v)) xs+0=x;rw[jo,Rk,Za,Dyadic.mul_one,S7]
def AQ(p:PX)(xs:List Dyadic):ti xs (LJ p xs)=0:=by
 unfold LJ;rw[zg,Tl,OY];grind
def abN{p g:PX}(hn:p.ts.length<=5)(hk:xg 36 p.ts)(hm:∀t∈p.ts,t.m.size<=3/\∀c∈t.m.data.toList,c.toNat<=2)(hv:p.v.toNat<=3)(hx:∀x∈xs,Sz 50 x)(hg:g.ts=LJ p xs):lF g:=by
 have hc:∀t∈gl p.v.toNat (-(ti xs p.ts)),t.m=Hd p.v.toNat/\t.c.ok/\Sz 390 t.c.ma:=λt ht=>(by have h1:Sz (36+(1+(1+50*2)*3)+p.ts.length) (ti xs p.ts):=BD xs hx p.ts (λt ht=>(hk t ht).2) hm;have h2:xg 389 [(⟨Hd p.v.toNat,nR (-(ti xs p.ts))⟩:TR)]:=λt ht=>(by rw[T_.1 ht];have h3:Sz 389 (-(ti xs p.ts)):=(Sz.neg h1).mono Z';exact⟨h3.ok U',by rw[Za];exact h3⟩);obtain⟨s,hs,e⟩:=Pf t ht;rw[T_.1 hs] at e;exact⟨e.symm,Cg h2 (j:=390) (by simp) U' t ht⟩);have hl:(gl p.v.toNat (-(ti xs p.ts))).length<=1:=Vb _;have hall:∀t∈p.ts++gl p.v.toNat (-(ti xs p.ts)),(t.c.ok/\Sz 390 t.c.ma)/\t.m.size<=3/\∀c∈t.m.data.toList,c.toNat<=2:=λt ht=>by
  obtain h|h:=z_.1 ht
  .exact⟨⟨(hk t h).1,(hk t h).2.mono U'⟩,hm t h⟩
  obtain⟨e,h2⟩:=hc t h;refine⟨h2,by rw[e,<-Jk,jo,H9];exact hv,λc hc=> ?_⟩;have:c.toNat∈Kc t.m:=a6 hc;rw[e,jo] at this;rw[(Y5.1 this).2];decide
 have hlen:(p.ts++gl p.v.toNat (-(ti xs p.ts))).length<=6:=by rw[Y_];omega
 have hmem:∀t∈g.ts,t.m.size<=3/\∀c∈t.m.data.toList,c.toNat<=2:=λt ht=>(by rw[hg] at ht;obtain⟨s,hs,e⟩:=Pf t ht;rw[<-e];exact(hall s hs).2);exact⟨by rw[hg];exact N_ (Vb _) Z',by rw[hg];exact Cg (λt ht=>(hall t ht).1) Z' U',λt ht=>(hmem t ht).1,λt ht=>(hmem t ht).2⟩
def uN{b:List SR}{t:List NR}(hb:∀s∈b,s.fin 36)(ht:∀x∈t,Sz 8 x.ma)(hl:t.length=b.length):∀y∈b.mapIdx (λi s=>Xh t i s.f),y.ok/\Sz 50 y.ma:=λy hy=>by
 obtain⟨i,hi⟩:=j_.1 hy;rw[Q9] at hi
 cases hs:b[i]? with
 |none=>rw[hs] at hi;cases hi
 |some s=>
  have hil:=(X_.1 hs).1;obtain⟨x,hx⟩:=ea (l:=t) (k:=i) Z';rw[hs] at hi;replace hi:Xh t i s.f=y:=L_ hi;unfold Xh at hi;rw[hx] at hi;replace hi:nR (s.f.at_ x.ma)=y:=hi;have hf:=hb s (G' hs);have zx:=ht x (G' hx);have z:Sz 50 (s.f.at_ x.ma):=(by unfold SR.at_ SR.wid;rw[SR.f_L,SR.f_H,show s.f.lo.ma=s.ye from Za _];have z1:Sz 45 (x.ma*(s.jh-s.ye)):=zx.mul ((SR.szH hf).sub (SR.szL hf));exact(((SR.szL hf).mono (show 36<=45 by decide)).add z1).mono U');rw[<-hi,Za];exact⟨z.ok U',z⟩
structure SmF(p:PX):Prop where
 n:p.ts.length<=5
 ok:xg 36 p.ts
 m:∀t∈p.ts,t.m.size<=3/\∀c∈t.m.data.toList,c.toNat<=2
def SmF.val{p:PX}(h:SmF p)(xs:List NR)(hx:∀x∈xs,Sz 50 x.ma):∃V:Dyadic,Am p xs=nR V/\Sz 389 V/\(p.e=0->p.v=(xs.length:Int)->V=ti (xs.map NR.ma) p.ts):=by
 by_cases he:p.e=0/\p.v=(xs.length:Int)
 .obtain⟨e1,e2⟩:=CT he.1 he.2;have:=h.n;exact⟨_,e2,(BD _ (λx hx'=>by obtain⟨y,hy,rfl⟩:=Z_.1 hx';exact hx y hy) p.ts (λt ht=>(h.ok t ht).2) h.m).mono Z',λ_ _=>rfl⟩
 refine⟨0, ?_,Sz.zero _,λh1 h2=>absurd ⟨h1,h2⟩ he⟩;unfold Am vn;rw[L'];split
 .rename_i h1;rw[L' λh2=>he ⟨h1,h2.symm⟩];decide
 assumption
def JY{v:Int}{V:Dyadic}{g:PX}(o:mg (To v) v (sa [⟨Hd v,nR V⟩]) g)(hV:Sz 389 V)(hl:g.ts.length=g.n)(hc:g.n<=g.c):g.Zg 400:=by
 have ht:=o.ts;by_cases h:To v=0
 .rw[J' h] at ht;have hf:Wg v=true:=by
   unfold To at h;by_cases hb:Wg v=false
   .rw[J' hb] at h;exact absurd h U'
   simpa using hb
  obtain⟨h1,h2⟩:=Pe.1 hf;have hz:=Ej h1;have hlen:g.ts.length<=1:=by rw[ht];exact Vb _
  refine⟨Z',hc, ?_,λt hm=> ?_⟩
  .rw[ht];exact Cg (k:=389) (λt hm=>by rw[T_.1 hm];exact⟨hV.ok U',by rw[Za];exact hV⟩) (by simp) U'
  rw[ht] at hm;obtain⟨s,hs,e⟩:=Pf t hm;rw[T_.1 hs] at e;rw[<-e];show(Hd v).size<=_;omega
 rw[L' h] at ht;rw[ht] at hl;refine⟨by rw[<-hl];decide,hc, ?_,λt hm=> ?_⟩
 .rw[ht];exact λt hm=>absurd hm O9
 rw[ht] at hm;exact absurd hm O9
def CN(fs:List PX)(xs:List NR)(os:List PX):Prop:=∀(j:Nat)(o:PX),os[j]?=some o->∃p,fs[j]?=some p/\p.e=0/\p.v=(xs.length:Int)/\o.v=p.v/\o.ts=LJ p (xs.map NR.ma)
def HV{fs os:List PX}{xs:List NR}{p o:PX}(h:CN fs xs os)(hp:fs[os.length]?=some p)(e:p.e=0)(v:p.v=(xs.length:Int))(ov:o.v=p.v)(ot:o.ts=LJ p (xs.map NR.ma)):CN fs xs (os++[o]):=λj y hy=>by
 by_cases hj:j<os.length
 .rw[X8 hj] at hy;exact h j y hy
 have hl:=(X_.1 hy).1;rw[Y_,List.length_singleton] at hl;obtain rfl:j=os.length:=Z';rw[I9 (j' _),f_] at hy;obtain rfl:o=y:=by simpa using hy
 exact⟨p,hp,e,v,ov,ot⟩
def ab5{p:PX}{xs:List NR}{V:Dyadic}{ct:List TR}(hv:p.v=(xs.length:Int))(hV:V=ti (xs.map NR.ma) p.ts)(hc:ct=sa [⟨Hd p.v,nR (-V)⟩]):sa (p.ts++ct)=LJ p (xs.map NR.ma):=by
 unfold LJ gl;rw[hc,hV,hv];rfl
def dz(L:Option Addr)(n c:Nat)(fs:List PX)(xA:Option Addr)(xn xc:Nat)(xs:List NR)(w:World)(hT:Sc w)(hL:Sl w L n 2 (na PX.cells fs))(hn:n<=3)(hf:∀p∈fs,p.at_ w/\SmF p/\p.n<=p.c)(hS:Sl w xA xn 3 (na NR.cells xs))(hl:xs.length=xn)(hx:∀x∈xs,x.ok/\Sz 50 x.ma):Calls prog 20 #[.slice L n c,.slice xA xn xc] w λr w'=>(r=.returned (.tuple #[.slice none 0 0,.bool false])/\Below w.heap.size w w')\/∃(G:Option Addr)(c':Nat)(os:List PX)(R:List HE),r=.returned (.tuple #[.slice G n c',.bool true])/\os.length=n/\(∀o∈os,o.row∈R)/\CN fs xs os/\Hp w (.row G n c' 24 2 (na PX.cells os)::R) w':=by
 have hh:=Hp.start w;have hln:=hL.Fa PX.len U';refine da (N:=65) (l:=[.slice L n c,.slice xA xn xc]) func20 rfl rfl (by simp) ?_;refine fa ?_;replace hh:=hh.Lb 24 2;refine Ra [4,5,6,7,8,9,10,11,12,13,14,15,16,17,18,19,20,21,22,23,24,25,26,27,28,29,30,31,32,33,34,35,36,37,38,39,40,41,42,43,44,45,46,47,48,49,50,51,52,53,54,55,56,57,58,59,60,61,62,63] 6 7 (λa v w'=>∃(i c3:Nat)(A:Option Addr)(os:List PX)(R:List HE),i<=n/\v=.int .i64 i/\a=.slice A i c3/\os.length=i/\(∀o∈os,o.row∈R)/\CN fs xs os/\Hp w (.row A i c3 24 2 (na PX.cells os)::R) w') (λ_ v _=>n-(intOf v).toNat) ?_ ?_
 .exact⟨0,0,none,[],[],D' _,rfl,rfl,rfl,λo h=>absurd h O9,λj o h=>(nomatch h),hh⟩
 clear hh;rintro ρ' a_ v w' ⟨i,c3,A,os,R,hi,rfl,rfl,hol,hrs,hzd,hh⟩;by_cases hlt:i<n
 .obtain⟨p,hp⟩:=ea (l:=fs) (k:=i) Z';obtain⟨hpa,hps,hpc⟩:=hf p (G' hp);obtain⟨V,hV,zV,hVe⟩:=hps.val xs λx h=>(hx x h).2;obtain⟨ad,rfl,hr⟩:=hL.at_ Z';have lp:p.Zg 50:=⟨by have:=hpa.ln;have:=hps.n;omega,hpc,hps.ok.mono U',λt ht=>N_ (hps.m t ht).1 U'⟩;have om:=λw1 hT1 h1 h2=>Qu p xs xA xn xc 50 w1 hT1 h1 lp h2 hl hx U';rw[hV] at om;have hne:=λw1 hT1=>Hi (nR V) w1 hT1 (N_ (zV.ok U').1 U') (by have:=(zV.ok U').2.1;omega) (by have:=(zV.ok U').2.2;omega);rw[Za] at hne;have hcn:=λw1 hT1=>nj p.v (nR (-V)) 390 w1 hT1 ⟨((zV.neg).mono (l:=390) U').ok U',by rw[Za];exact(zV.neg).mono U'⟩ U';refine fa ?_;refine wb (vs:=[_,_]) ya.out rfl ((hr.ext hh.below).recAt PX.len hp) rfl U' ?_;refine mL ?_;refine Oa hh (om _ (hT.hp hh) (hpa.ext hh.below) (hS.ext hh.below)) rfl ?_;intro w26 hh;refine Sb ?_;intro b8 w8 hh ws hh;replace hh:=show Hp w (.blk b8 30 [.bool (nR V).neg,.string (nR V).Qa,.int .i64 (nR V).e] (0,0)::_) _ from hh
  refine Cd [11] [10] [0,0,3,7,15,0,32,127,255,511,511,0,3071,8191] 12 [[(0,none)],[(7,none)],[(30,some 0),(31,some 1)],[(32,some 2)],[(33,some 3)],[(8,none)],[(35,some 5)],[(34,some 4),(36,some 6)],[(37,some 7)],[(29,some 8)],[(29,some 8)],[]] [(11,10),(10,39),(9,38),(8,29),(7,37),(6,36),(5,35),(4,34),(3,33),(2,32),(1,31),(0,30)] hh mixed T' (xi rfl ya.out Pd) rfl (by repeat (first|exact Cb|refine Xa ?_|refine Db ?_)) ?_;refine De ?_;refine cd ?_;refine jj (i) ?_;refine ru ?_;refine Ro (λ_ hj=>((hr.ext hj.hp.below).recAt PX.len hp).cell (i:=0) rfl) ?_;refine Vd 0 [_,_,_] ?_;refine dC (λ_ hj=>hne _ (hT.hp hj.hp)) ?_;refine Va (i:=7) (si hh.sz (To p.v) p.v (sa [⟨Hd p.v,nR (-V)⟩])) (si.ext) ?_ ?_
  .intro ρ1 w1 hj hR;exact Pb rfl (qb ja.out (Ga (show ρ1 34=Value.int _ _ from hR.1) (Ga (show ρ1 36=Value.agg (List.toArray _) from hR.2.1) Fb))) (hcn w1 (hT.hp hj.hp)) (λ_ _ ⟨g,og,hq,h3⟩=>⟨_,hq,h3.below,g,w1,rfl,og,hj.bl.size,h3⟩)
  refine Va (i:=8) (si hh.sz (To p.v) p.v (sa [⟨Hd p.v,nR (-V)⟩])) (si.ext) ?_ ?_
  .exact DR
  refine Va (i:=9) (Ei hh.sz (To p.v) p.v (sa [⟨Hd p.v,nR (-V)⟩])) (Ei.ext) ?_ ?_
  .exact yS
  refine Va (i:=10) (Is (.int .i64 (To p.v))) (Is.ext) ?_ ?_
  .exact UR
  refine Va (i:=11) (Gc _ 24 _) Gc.ext (λρ1 w1 hj hR=>Ui ya.out hj.bl (λv w2 h hb=>⟨hb,h⟩)) ?_;refine xa ?_;intro f W hJ hV _;have hb_6:=hJ.bl;obtain⟨v10,v39,v38,v29,v37,v36,v35,v34,v33,v32,v31,v30,_⟩:=hV;obtain⟨g37,u37,e37, -⟩:=v37;obtain⟨g29,u29,e29, -⟩:=v29;obtain⟨g38,u38,e38,o38,q38,h38⟩:=v38;obtain⟨b10,e10,hl10,hc10⟩:Gc _ _ _ (f 11) W:=v10;replace hh:=hJ.Qk hh hl10 hc10 q38 h38 (PX.ne h38 hc10 U');refine Da (Na (aa e10 (aa v39 (aa e38 (aa e29 (aa e37 (aa v36 (aa v35 (aa v34 (aa v33 (aa v32 (aa v31 (aa v30 Ea))))))))))))) ?_;dsimp only[Bb];clear e37 e29 e38 e10 hJ;simp only[C',E'] at hh;obtain⟨cv,cA,cn,cc,ct⟩:=g38;replace hh:=show Hp w (_::.row cA cn cc 72 4 (na TR.cells ct)::_) W from hh;have cln:ct.length=cn:=(hh.ra (i:=1) rfl).Fa TR.len U';have lc:(⟨cv,cA,cn,cc,ct⟩:PX).Zg 400:=JY o38 (zV.neg) cln (hh.me (i:=1) rfl);have lp4:p.Zg 400:=⟨lp.n,lp.cap,lp.ok.mono U',lp.sz⟩;refine Jb ?_;intro ws hh
  refine Cd [10] [9] [0,0,3,7,0,31,63,127,255,255,0,1535,4095] 11 [[(0,none)],[(7,none)],[(41,some 0),(42,some 1)],[(43,some 2)],[(10,none)],[(44,some 3),(45,some 4)],[(46,some 5)],[(47,some 6)],[(40,some 7)],[(40,some 7)],[]] [(10,12),(9,49),(8,48),(7,40),(6,47),(5,46),(4,45),(3,44),(2,43),(1,42),(0,41)] hh mixed T' (xi rfl ya.out Pd) rfl (by repeat (first|exact Cb|refine Xa ?_|refine Db ?_)) ?_;refine De ?_;refine cd ?_;refine jj (i) ?_;refine Dn [_,_] (λ_ hj=>(hr.ext hj.hp.below).recAt PX.len hp) ?_;refine Vd 0 [_,_] ?_;refine Va (i:=5) (Li 2 2 (na PX.cells [p,⟨cv,cA,cn,cc,ct⟩])) (Li.ext) ?_ ?_
  .intro ρ1 w1 hj hR;exact Hk (sz:=2) lb.out ya.out (show vD ρ1 [(0,.tmp 44),(1,.tmp 45)]=[(0,.agg #[.int .i64 p.v,.slice p.A p.n p.c]),(1,.agg #[.int .i64 cv,.slice cA cn cc])] from Rb (show ρ1 44=_ from hR.1) (Rb (show ρ1 45=_ from hR.2.1) oe)) rfl rfl U' U' rfl λv w2 h hb=>⟨hb,h⟩
  refine Va (i:=6) (si hh.sz (Ez [p,⟨cv,cA,cn,cc,ct⟩]) (ff [p,⟨cv,cA,cn,cc,ct⟩]) (sa (Mr [p,⟨cv,cA,cn,cc,ct⟩]))) (si.ext) ?_ ?_
  .intro ρ1 w1 hj hR;obtain⟨g46,e46,o46⟩:=hR.1;exact let⟨b,e1,s1⟩:=hR.1;Pb rfl (qb ja.out (Ga e1 Fb)) (bq _ 2 2 [p,⟨cv,cA,cn,cc,ct⟩] 400 w1 (hT.hp hj.hp) s1 U' (Rx (hpa.ext hj.hp.below) (hj.hp.ra (i:=1) rfl)) (Rx lp4 lc) U') (λ_ _ ⟨g,og,hq,h3⟩=>⟨_,hq,h3.below,g,w1,rfl,og,hj.bl.size,h3⟩)
  refine Va (i:=7) (si hh.sz (Ez [p,⟨cv,cA,cn,cc,ct⟩]) (ff [p,⟨cv,cA,cn,cc,ct⟩]) (sa (Mr [p,⟨cv,cA,cn,cc,ct⟩]))) (si.ext) ?_ ?_
  .exact DR
  refine Va (i:=8) (Ei hh.sz (Ez [p,⟨cv,cA,cn,cc,ct⟩]) (ff [p,⟨cv,cA,cn,cc,ct⟩]) (sa (Mr [p,⟨cv,cA,cn,cc,ct⟩]))) (Ei.ext) ?_ ?_
  .exact yS
  refine Va (i:=9) (Is (.int .i64 (Ez [p,⟨cv,cA,cn,cc,ct⟩]))) (Is.ext) ?_ ?_
  .exact UR
  refine xT ?_;refine xa ?_;intro f W hJ hV _;have hb_7:=hJ.bl;obtain⟨v12,v49,v48,v40,v47,v46,v45,v44,v43,v42,v41,_⟩:=hV;obtain⟨g46,e46,o46⟩:Li 2 2 (na PX.cells [p,⟨cv,cA,cn,cc,ct⟩]) (f 5) W:=v46;obtain⟨g47,u47,e47, -⟩:=v47;obtain⟨g40,u40,e40, -⟩:=v40;obtain⟨g48,u48,e48,o48,q48,h48⟩:=v48;obtain⟨b12,e12,hl12,hc12⟩:Gc _ _ _ (f 10) W:=v12;replace hh:=hJ.Qk hh hl12 hc12 q48 h48 (PX.ne h48 hc12 U');refine Da (Na (aa e12 (aa v49 (aa e48 (aa e40 (aa e47 (aa e46 (aa v45 (aa v44 (aa v43 (aa v42 (aa v41 Ea)))))))))))) ?_;dsimp only[Bb];clear e46 e47 e40 e48 e12 hJ;simp only[C',E'] at hh;obtain⟨qv,qA,qn,qc,qt⟩:=g48;replace hh:=show Hp w (_::.row qA qn qc 72 4 (na TR.cells qt)::_) _ from hh;by_cases e1:vn p xn=0
  .by_cases e2:To p.v=0
   .by_cases e3:Ez [p,⟨cv,cA,cn,cc,ct⟩]=0
    .rw[e1,e2,e3];refine Jb ?_;intro ws hh;refine Sj ?_;intro b62 w62 hh;refine Gb hh (i:=6) rfl rfl rfl (hh.ra (i:=0) rfl) lb.out ya.out rfl U' (by first|rfl|exact Xb _|exact Nb _|exact Pa _|exact Ta NR.one _) Z' Z' U' ?_;intro A63 c63 w63 hh;simp only[U_,F_] at hh;replace hh:=hh.sub (s_ _ _);refine fa ?_;replace hh:=hh.perm (P_ (l₁:=[_]));simp only[C',E'] at hh;replace hh:=hh.perm (P_ (l₁:=[_,_,_,_,_]));simp only[C',E'] at hh;replace hh:=hh.sub (I' _ (I' _ (p' _ (p' _ (p' _ (p' _ (A_ _)))))));have hpe:p.e=0/\p.v=(xs.length:Int):=by
      unfold vn at e1;by_cases h1:p.e=0
      .rw[J' h1] at e1;by_cases h2:(xn:Int)=p.v
       .exact⟨h1,by rw[<-h2,hl]⟩
       rw[L' h2] at e1;exact absurd e1 U'
      rw[L' h1] at e1;exact absurd e1 h1
     have hq1:qv=p.v:=by have:=o48.v;rw[J' e3] at this;exact this
     have hq2:qt=sa (p.ts++ct):=by have:=o48.ts;rw[J' e3] at this;rw[show qt=_ from this];simp[Mr]
     have hct:ct=sa [⟨Hd p.v,nR (-V)⟩]:=by have:=o38.ts;rw[J' e2] at this;exact this
     refine⟨⟨i+1,c63,A63,os++[⟨qv,qA,qn,qc,qt⟩],.row qA qn qc 72 4 (na TR.cells qt)::R,Z',rfl,rfl,by simp[hol],λo ho=> ?_,HV hzd (by rw[hol];exact hp) hpe.1 hpe.2 hq1 (hq2.trans (ab5 hpe.2 (hVe hpe.1 hpe.2) hct)),by rw[La];exact hh⟩,by show n-(i+1)<n-i;omega, ?_⟩
     .obtain ho|ho:=z_.1 ho
      .exact F' _ (hrs o ho)
      rw[T_.1 ho];exact q'
     exact Rc
    rw[e1,e2];refine Jb ?_;intro ws hh;exact .inl ⟨rfl,hh.below⟩
   rw[e1];refine Jb ?_;intro ws hh;exact .inl ⟨rfl,hh.below⟩
  refine Jb ?_;intro ws hh;exact .inl ⟨rfl,hh.below⟩
 obtain rfl:n=i:=Z';refine fa ?_;exact .inr ⟨A,c3,os,R,rfl,hol,hrs,hzd,hh⟩
def GY{fs os:List PX}{X:List NR}(hz:CN fs X os)(hm:X.length<=3)(hf:∀p∈fs,SmF p)(hX:∀x∈X,Sz 50 x.ma):∀o∈os,lF o/\ti (X.map NR.ma) o.ts=0:=λo ho=>by
 obtain⟨j,hj⟩:=j_.1 ho;obtain⟨p,hp,e,v,ov,ot⟩:=hz j o hj;have h:=hf p (G' hp);exact⟨abN h.n h.ok h.m Z' (λx hx=>by obtain⟨y,hy,rfl⟩:=Z_.1 hx;exact hX y hy) ot,by rw[ot];exact AQ _ _⟩
def OX{b:List SR}{g:Int}(h3:ps.length<=3)(sp:∀p∈ps,lF p)(hb:∀s∈b,s.fin 36)(hbu:bu<=35):∃R k e,Vo ps b tol g bu 40 R k e:=by
 unfold Vo;by_cases h1:Qt ps b≠0
 .exact⟨[],0,Qt ps b,by rw[J' h1];exact⟨rfl,rfl,rfl⟩⟩
 by_cases h2:tol.i.sign<=0
 .exact⟨[],0,1,by rw[L' h1,J' h2];exact⟨rfl,rfl,rfl⟩⟩
 have hs:Cx ps b:=dq (by simpa using h1);obtain⟨R,k,e,h⟩:=fw (tol:=tol.ma) (g:=g) (bu:=bu) hs h3 sp Z' 40 0 [b.map SR.f] [] (λx hx=>by rw[T_.1 hx];exact Xu.first hs hb) Z' Z' Z';exact⟨R,k,e,by rw[L' h1,L' h2];exact h⟩
def LS{b:List SR}{g k e:Int}{R:List ZV}(h:Vo ps b tol g bu 40 R k e)(he:e≠0):R=[]/\k=0:=by
 unfold Vo at h;split at h
 .exact⟨h.1,h.2.1⟩
 split at h
 .exact⟨h.1,h.2.1⟩
 exact Jq _ _ _ _ _ _ _ he h
def YY{b:List SR}{g k:Int}{R:List ZV}(h:Vo ps b tol g bu 40 R k 0):Qt ps b=0/\¬tol.i.sign<=0/\Bt ps tol.ma g bu 40 0 [b.map SR.f] [] R k 0:=by
 unfold Vo at h;by_cases h1:Qt ps b≠0
 .rw[J' h1] at h;exact absurd h.2.2.symm h1
 rw[L' h1] at h;by_cases h2:tol.i.sign<=0
 .rw[J' h2] at h;exact absurd h.2.2 U'
 rw[L' h2] at h;exact⟨by simpa using h1,h2,h⟩
def abu{b:List SR}{X:List NR}(up:∀s∈b,s.lo.ma<s.hi.ma)(h:EO (X.map NR.ma) b):hasB b X=true:=by
 obtain⟨us,h1,h2,h3⟩:=h;have hl:b.length=X.length:=(by have:=J_ List.length h3;unfold zz at this;rwa[Q7,i'] at this);unfold hasB;rw[Q_,K_,u_];refine⟨hl,λx hx=> ?_⟩;obtain⟨i,hi⟩:=j_.1 hx;rw[V6] at hi;obtain⟨hs,hy⟩:=hi;have h4:(zz b us)[i]?=(X.map NR.ma)[i]?:=by rw[h3]
 unfold zz at h4;have hib:=(X_.1 hs).1;obtain⟨u,hu⟩:=ea (l:=us) (k:=i) Z';rw[Q9,hs,V_,hy,hu] at h4;have h5:x.1.ye+(x.1.jh-x.1.ye)*u=x.2.ma:=L_ h4;obtain⟨u0,u1⟩:=h2 u (G' hu);obtain⟨g1,g2⟩:=SH (up x.1 (G' hs));have hw:=up x.1 (G' hs);have a1:0<=(x.1.jh-x.1.ye)*u:=Lean.Grind.OrderedRing.mul_nonneg (by grind) u0;have a2:0<=(x.1.jh-x.1.ye)*(1-u):=Lean.Grind.OrderedRing.mul_nonneg (by grind) (by grind);unfold SR.has;exact M_ (by constructor<;>grind)
def qV{p:PX}{b:List SR}(hl:b.length<=3)(sp:lF p)(h:Ql p b (gm p [])=0):Qe (400+400+16394) (Ac p.v p.ts) (400+1)<=440000:=by
 obtain⟨_,hF⟩:=BB h;exact GA hF.e (λt ht c hc=>N_ (sp.ex t ht c hc) U') (N_ (OL hF.e sp.sz sp.ex) U') U'
def DN{b:List SR}{T:List Dyadic}(hl:T.length=b.length)(hT:∀t∈T,0<=t/\t<1):EO (zz b T) (b.map SR.f):=⟨T,by rw[i',hl],hT,ac8 b T⟩
def gQ{s:SR}{l:Nat}(h:s.fin k)(hl:k<=l):s.fin l:=⟨h.1.mono hl,h.2.mono hl⟩
def oR(b:List SR):fW b b:=⟨rfl,λi s z h1 h2=>by rw[h1] at h2;obtain rfl:=L_ h2;constructor<;>grind⟩
def Yr{ps:List PX}{tol:Dyadic}{g bu:Int}:∀(f n:Nat)(st:List (List SR))(l R:List ZV)(k e:Int),Bt ps tol g bu f n st l R k e->R.length<=l.length+f
 |f,n,[],l,R,k,e,h=>by
  have:R=l:=by cases f<;>exact h.1
  rw[this];omega
 |0,n,b::st,l,R,k,e,h=>absurd h id
 |f+1,n,b::st,l,R,k,e,h=>by
  rw[Bt] at h;by_cases hb:bu<(n+1:Nat)
  .rw[J' hb] at h;rw[h.1];exact D' _
  rw[L' hb] at h;replace h:=h.2;by_cases hn:lk (ck ps b)=true
  .rw[J' hn] at h;have:=Yr f _ _ _ _ _ _ h;omega
  rw[L' hn] at h;by_cases hx:ng ps b=true
  .rw[J' hx] at h;have:=Yr f _ _ _ _ _ _ h;rw[Y_,List.length_singleton] at this;omega
  rw[L' hx] at h;obtain⟨a,s,h1,h2,h⟩:=h;split at h
  .have:=Yr f _ _ _ _ _ _ h;rw[Y_,List.length_singleton] at this;omega
  have:=Yr f _ _ _ _ _ _ h;omega
def MU{b:List SR}{g k e:Int}{R:List ZV}(h:Vo ps b tol g bu 40 R k e):R.length<=40:=by
 unfold Vo at h;split at h
 .rw[h.1];exact D' _
 split at h
 .rw[h.1];exact D' _
 have:=Yr _ _ _ _ _ _ _ h;simpa using this
variable {H:List HE}{w0:World}
def VW(hh:Hp w0 H w){o:PX}(ho:o.row∈H)(sp:lF o):o.at_ w/\o.Zg 400:=by
 obtain⟨i,hi⟩:=j_.1 ho;have h:=show o.at_ w from hh.ra hi;have h1:=h.ln;have h2:=sp.n;exact⟨h,Z',hh.me hi,sp.ok,λt ht=>N_ (sp.sz t ht) U'⟩
def fO{L:Option Addr}{c:Nat}{fs:List PX}{xA:Option Addr}{xn xc:Nat}{xs:List NR}(hT:Sc w)(hL:Sl w L n 2 (na PX.cells fs))(hn:n<=3)(hf:∀p∈fs,p.at_ w/\SmF p/\p.n<=p.c)(hS:Sl w xA xn 3 (na NR.cells xs))(hl:xs.length=xn)(hx:∀x∈xs,x.ok/\Sz 50 x.ma):Calls prog 20 #[.slice L n c,.slice xA xn xc] w λr w'=>∃G n' c' ok,r=.returned (.tuple #[.slice G n' c',.bool ok])/\Below w.heap.size w w'/\(ok=true->n'=n/\∃(os:List PX)(R:List HE),os.length=n/\(∀o∈os,o.row∈R)/\CN fs xs os/\Hp w (.row G n c' 24 2 (na PX.cells os)::R) w'):=(dz L n c fs xA xn xc xs w hT hL hn hf hS hl hx).mono λr w' h=>by
  obtain⟨h1,h2⟩|⟨G,c',os,R,h1,h2,h3,h4,h5⟩:=h
  .exact⟨none,0,0,false,h1,h2,λh=>(nomatch h)⟩
  exact⟨G,n,c',true,h1,h5.below,λ_=>⟨rfl,os,R,h2,h3,h4,h5⟩⟩
def iy(L:Option Addr)(n c:Nat)(fs:List PX)(B:Option Addr)(m cb:Nat)(b:List SR)(tol:NR)(g bu:Int)(T:Option Addr)(mt d:Nat)(t:List Nat)(w:World)(hT:Sc w)(hL:Sl w L n 2 (na PX.cells fs))(hf:∀p∈fs,p.at_ w/\p.n<=p.c)(hB:Sl w B m 6 (na SR.cells b))(hg1: -9223372036854775808<=g)(hg2:g<=9223372036854775807)(hb1: -9223372036854775808<=bu)(hb2:bu<=9223372036854775807)(hS:Sl w T mt 1 (Kg t))(ht:∀c∈t,c<256):Calls prog 4 #[.slice L n c,.slice B m cb,.agg #[.bool tol.neg,.string tol.Qa,.int .i64 tol.e],.int .i64 g,.int .i64 bu,.slice T mt d] w λr w'=>r=.returned (.bool true)/\Below w.heap.size w w':=by
 have hh:=Hp.start w;have hlb:b.length=m:=hB.Fa SR.len U';have hln:fs.length=n:=hL.Fa PX.len U';refine da (N:=82) (l:=[.slice L n c,.slice B m cb,.agg #[.bool tol.neg,.string tol.Qa,.int .i64 tol.e],.int .i64 g,.int .i64 bu,.slice T mt d]) func4 rfl rfl (by simp) ?_;refine Jb ?_;intro b8 w8 hh;refine qa (DD L n c fs _ (hL.ext hh.below) (λp h=>(hf p h).1.ext hh.below)) ja.out rfl U' ?_;rintro e_ w21 ⟨v1,rfl,hv1,hb_⟩;refine⟨_,rfl, ?_⟩;replace hh:=hh.ext hb_
 cases v1 with
 |true=>
  exact aca
 |false=>
  obtain⟨hn3,hsm⟩:=hv1 rfl;refine fa ?_;refine qa (fH B m cb b tol g bu _ (hB.ext hh.below)) ja.out rfl U' ?_;rintro e_ w27 ⟨v2,rfl,hv2,hb_⟩;refine⟨_,rfl, ?_⟩;replace hh:=hh.ext hb_
  cases v2 with
  |true=>
   exact aca
  |false=>
   obtain⟨hm3,hfin,tok,tsz,g1,g2,u2⟩:=hv2 rfl;refine fa ?_;refine Oa hh (Jr B m cb b _ (hT.hp hh) (hB.ext hh.below) (λs h=>⟨(hfin s h).1.1,(hfin s h).2.1⟩) Z') rfl ?_;intro w31 hh;by_cases hck:Fk b=0
   .rw[hck];refine fa ?_;refine qa (AN T mt d m t _ (hT.hp hh) (hS.ext hh.below) ht Z') ja.out rfl U' ?_;rintro e_ w39 ⟨pA,pc,rfl,h3⟩;refine⟨_,rfl, ?_⟩;replace hh:=hh.join h3;clear h3;simp only[C',E'] at hh;have hpp:∀x∈(List.range m).map λi=>nR (BG t i),x.ok/\Sz 36 x.ma:=λx hx=>(by obtain⟨i,hi,rfl⟩:=Z_.1 hx;have hz:=(DC t ht i).1.mono (l:=36) U';exact⟨hz.ok U',by rw[Za];exact hz⟩);refine qa (iD B m cb b pA m pc _ 36 _ (hT.hp hh) (hB.ext hh.below) hfin (hh.ra (i:=0) rfl) hpp Z' Z' U') ja.out rfl U' ?_;rintro e_ w40 ⟨A40,c40,rfl,hown_,hb_⟩;refine⟨_,rfl, ?_⟩;replace hh:=hh.Aa (x:=.row _ _ _ _ _ _) hb_ hown_;refine fa ?_;have hps:=uN hfin (t:=(List.range m).map λi=>nR (BG t i)) (λx hx=>by
     obtain⟨i,hi,rfl⟩:=Z_.1 hx;rw[Za];exact(DC t ht i).1) (by rw[i',u9];omega)
    have hpl:(b.mapIdx λi s=>Xh ((List.range m).map λi=>nR (BG t i)) i s.f).length=m:=by rw[Q7];omega
    have hpv:=tT (b:=b) (t:=(List.range m).map λi=>nR (BG t i)) (by rw[i',u9];omega);have hsf:∀p∈fs,SmF p:=λp h=>⟨(hsm p h).1,(hsm p h).2.1,(hsm p h).2.2⟩;have hT8:∀y∈((List.range m).map λi=>nR (BG t i)).map NR.ma,0<=y/\y<1:=λy hy=>(by obtain⟨z,hz,rfl⟩:=Z_.1 hy;obtain⟨i,hi,rfl⟩:=Z_.1 hz;rw[Za];exact(DC t ht i).2);generalize (b.mapIdx λi s=>Xh ((List.range m).map λi=>nR (BG t i)) i s.f)=X at*;refine qa (fO (hT.hp hh) (hL.ext hh.below) hn3 (λp h=>⟨(hf p h).1.ext hh.below,hsf p h,(hf p h).2⟩) (hh.ra (i:=0) rfl) hpl hps) ja.out rfl U' ?_;rintro e_ w44 ⟨zA,zn,zc,ok,rfl,hb_,hz⟩;refine⟨_,rfl, ?_⟩
    cases ok with
    |false=>
     replace hh:=hh.ext hb_;refine fa ?_;refine Oa hh (mj _ (hT.hp hh)) rfl ?_;intro w49 hh;refine fa ?_;exact⟨rfl,hh.below⟩
    |true=>
     obtain⟨rfl,os,HR,hol,hrs,hzd,h3⟩:=hz rfl;clear hz hb_;replace hh:=(hh.join h3).perm (.cons _ O6);clear h3;simp only[C',E'] at hh;have hza:=GY hzd Z' hsf λx h=>(hps x h).2;obtain⟨ZR,k,e,hZ⟩:=OX (tol:=tol) (g:=g) (bu:=bu) Z' (λo h=>(hza o h).1) hfin Z';have hzl:=MU hZ;refine fa ?_;refine qa (vu zA _ zc os B m cb b tol g bu 40 2 ZR k e _ (hT.hp hh) (hh.ra (i:=0) rfl) hn3 (λo h=>VW hh (by simp[hrs o h]) (hza o h).1) (λhs o h=>⟨by rw[((dq hs).fit o h).v,(dq hs).ln,hol],(hza o h).1.nU ((dq hs).fit o h).e 100 U'⟩) (hB.ext hh.below) Z' (λs h=>gQ (hfin s h) U') (λo h h0=>qV Z' (hza o h).1 h0) tok Z' Z' hb1 Z' hZ) ja.out rfl U' ?_;rintro e_ w56 ⟨G,gc,xs,HR2,rfl,hxs,hrx,h3⟩;refine⟨_,rfl, ?_⟩;replace hh:=(hh.join h3).perm (.cons _ O6);clear h3;simp only[C',E'] at hh;have hxl:xs.length<=40:=by rw[<-hxs,i'] at hzl;exact hzl
     have hSA:=hh.ra (i:=0) rfl;have hSX:=hh.ra (i:=2) rfl;have hSb:∀x∈xs,Sl _ x.x.A x.x.n 6 (na SR.cells x.x.b):=λx h=>jf (hh.own _ (show x.x.row∈_ by simp[hrx x h]));replace hT:=hT.hp hh;have hbw:=hh.below;replace hh:=Hp.start w56;by_cases he:e=0
     .subst he;obtain⟨hsq,hts,hzz⟩:=YY hZ;have hsy:=dq hsq;have one:∀x∈[b.map SR.f],Xu os 0 x:=λx hx=>by rw[T_.1 hx];exact Xu.first hsy hfin
      obtain⟨z,hzR,hzin⟩:=Pk hsy (λo h=>(hza o h).1) Z' (λo h=>(hza o h).2) 40 0 _ _ _ _ hzz one (.inl ⟨_,T_.2 rfl,by rw[hpv];exact DN (by simp;omega) hT8⟩);obtain⟨hgo, -, -, -⟩:=Kn (b0:=b.map SR.f) Z' 40 0 _ _ _ _ hzz (λx hx=>⟨one x hx,by rw[T_.1 hx];exact oR _⟩) (λz h=>(nomatch h)) (by simp);rw[<-hxs] at hzR hgo;obtain⟨x0,hx0,rfl⟩:=Z_.1 hzR;have hin:hasB x0.x.b X=true:=abu (hgo _ hzR).ok.up hzin;refine fa ?_;refine Ba [12,19,68,69,70,71,72,73,74,75,76,77,78,79,80,81] 19 (λv w'=>∃i:Nat,i<=xs.length/\v=.int .i64 i/\(∀x∈xs.take i,hasB x.x.b X=false)/\Hp w56 [] w') (λv _=>xs.length-(intOf v).toNat) ?_ ?_
      .exact⟨0,D' _,rfl,λx h=>(nomatch h),hh⟩
      clear hh;rintro ρ' v w' ⟨i,hi,rfl,hall,hh⟩;by_cases hlt:i<xs.length
      .obtain⟨x,hxi⟩:=ea (l:=xs) (k:=i) hlt;obtain⟨ad,rfl,hr⟩:=hSA.at_ Z';have hxm:=G' hxi;have hgx:=hgo x.v (a6 hxm);have hxn:x.x.b.length=x.x.n:=(hSb x hxm).Fa SR.len U';have hxb:x.x.b.length=os.length:=hgx.ok.ln;have hhs:=λw1 hT1 hb1=>kI x.x.A x.x.n x.x.c x.x.b A40 m c40 X 200 w1 hT1 ((hSb x hxm).ext hb1) (hSX.ext hb1) (λs h=>gQ (hgx.ok.bx s h) U') (λa h=>(hps a h).1) Z' Z' U';refine fa ?_;refine ub ya.out rfl (((hr.ext hh.below).recAt ZX.len hxi).cell (i:=1) (v:=.slice x.x.A x.x.n x.x.c) rfl) U' ?_;refine mL ?_;refine Oa hh (hhs _ (hT.hp hh) hh.below) rfl ?_;intro w80 hh
       cases hb:hasB x.x.b X with
       |true=>
        refine fa ?_;refine Oa hh (mj _ (hT.hp hh)) rfl ?_;intro w81 hh;refine fa ?_;exact⟨rfl,Vi hbw hh.below⟩
       |false=>
        refine fa ?_;refine⟨⟨i+1,Z',rfl,λy hy=> ?_,hh⟩,by show xs.length-(i+1)<xs.length-i;omega, ?_⟩
        .rw[oa hxi] at hy;obtain hy|hy:=z_.1 hy
         .exact hall y hy
         rw[T_.1 hy];exact hb
        exact Rc
      rw[W_ Z'] at hall;rw[hall x0 hx0] at hin
      cases hin
     obtain⟨rfl, -⟩:=LS hZ he;obtain rfl:xs=[]:=List.map_eq_nil_iff.1 hxs;refine fa ?_;refine Oa hh (mj _ (hT.hp hh)) rfl ?_;intro w66 hh;refine fa ?_;exact⟨rfl,Vi hbw hh.below⟩
   exact aca
end Go.Proofs.YtbencocchdpikaaGreatDoor
namespace Go.Proofs.YtbencocchdpikaaGreatDoor.solveAll
open Go.Proofs.Tryz
open Go.ChangeShapes Go.WideShapes Go.ChangeAt Go.RowKit Go.ChangeMaps
def own:ownKnob prog.godebug=none:=by kernel_rfl
set_option maxRecDepth 100000 in
def lifted(os:Os)(started:os.Started)(H:Type)(enc:TypeId×Value->H):
  ReturnsInHanded {} Tryz.checked os 4 .any (λw args=>(Rows.solveAllSpec.pre enc prog Tryz.f4 Rows.solveAllRow.domain false w args/\laidMetH prog Rows.solveAllRow.laid w)/\sizedMet enc prog Tryz.f4 (OpenSpec.ofChange Rows.solveAllSpec) false w args) (Rows.solveAllSpec.post enc prog Tryz.f4 false true false false):=by
 refine returnsInHanded_of_change_and (C:=Tryz.checked) (X:=λw _=>laidMetH prog Rows.solveAllRow.laid w) (λ_ _ _ hh h=>h.of_heap hh) own started T' func4 (ChangeSpec.witness_shaped (enc:=enc) (C:=Tryz.checked) (os:=os) (X:=λw _=>laidMetH prog Rows.solveAllRow.laid w) false (World.laidAll prog os Rows.solveAllRow.laid) #[.slice none 0 0,.slice none 0 0,.agg #[.bool false,.string ⟨#[]⟩,.int .i64 0],.int .i64 0,.int .i64 0,.slice none 0 0] 8 (World.laidAll_os _ _ _) (World.shaped_of_ZipB T' T') T' T' T' (by rw[MakeChecks.laidMetH_plain _ _ _ T'];exact laidMet_laidAll _ T' T')) ?_
 intro W base args ds gs before hval0 hW hc _ hL _;have hval:∀(j:Nat) t v,Tryz.f4.params[j]?=some t->args[j]?=some v->Value.okWide prog W .any base t v:=hval0;have hW':=hW;obtain⟨p,q,hA0,hV,rfl,hfz,hnd⟩:=hW;have hA:DataW.TrodAll enc prog W 0 (λ_=>true) true Tryz.f4.params.toList args.toList ds p:=hA0;rw[Tryz.params4] at hA hval;obtain⟨v0,vs0,d0,ds0,p0,q0,hargs,rfl,rfl,h0,r0⟩:=trodAll_cons hA;obtain⟨v1,vs1,d1,ds1,p1,q1,rfl,rfl,rfl,h1,r1⟩:=trodAll_cons r0;obtain⟨v2,vs2,d2,ds2,p2,q2,rfl,rfl,rfl,h2,r2⟩:=trodAll_cons r1;obtain⟨v3,vs3,d3,ds3,p3,q3,rfl,rfl,rfl,h3,r3⟩:=trodAll_cons r2;obtain⟨v4,vs4,d4,ds4,p4,q4,rfl,rfl,rfl,h4,r4⟩:=trodAll_cons r3;obtain⟨v5,vs5,d5,ds5,p5,q5,rfl,rfl,rfl,h5,r5⟩:=trodAll_cons r4;obtain⟨rfl,rfl,rfl⟩:=trodAll_nil r5;obtain rfl:args= #[v0,v1,v2,v3,v4,v5]:=by cases args;simp_all
 obtain⟨rfl,rfl⟩:=trodVars_none hV;obtain⟨A0,n0,c0,l0,rfl,hS0,hF0⟩:=zJ (hval 0 47 v0 rfl rfl) h0;obtain⟨A1,n1,c1,l1,rfl,hS1,_⟩:=BT (hval 1 26 v1 rfl rfl) h1;obtain⟨x2,rfl,_,_⟩:=QU (hval 2 30 v2 rfl rfl) h2;obtain⟨x3,rfl,rfl,rfl,b3⟩:=open_int Tryz.underlying3 (hval 3 3 v3 rfl rfl) h3;obtain⟨x4,rfl,rfl,rfl,b4⟩:=open_int Tryz.underlying3 (hval 4 3 v4 rfl rfl) h4;obtain⟨A5,n5,c5,l5,rfl,hS5,hI5⟩:=NI (hval 5 48 v5 rfl rfl) h5;refine(iy A0 n0 c0 l0 A1 n1 c1 l1 x2 x3 x4 A5 n5 c5 l5 W (DF hL) hS0 hF0 hS1 (bounds_i64 b3).1 (bounds_i64 b3).2 (bounds_i64 b4).1 (bounds_i64 b4).2 hS5 hI5).mono λe W' ⟨he,hb⟩=> ?_;subst he;exact⟨_,rfl,gR hW' rfl T' (by rw[Tryz.params4];exact B9 T') T' Tryz.underlying4 rfl rfl rfl hb⟩
set_option maxHeartbeats 8000000 in
def row_holds:Rows.SolveAllSaid:=
 OpenClaim.holds_of_wide 4 Tryz.f4 rfl rfl rfl rfl rfl rfl rfl ⟨rfl,rfl,rfl,rfl,rfl⟩ rfl rfl rfl rfl rfl (by as_aux_lemma=>kernel_rfl) func4 (by rw[joinedFacts];simp only[Q_];and_intros<;>as_aux_lemma=>kernel_rfl) (B9 (by as_aux_lemma=>kernel_rfl)) (by unfold Func.isWrapper;first|(rw[J' (by decide+kernel)];kernel_rfl)|(rw[L' (by decide+kernel)];exact⟨rfl,rfl⟩)) (λos started H enc _=>lifted os started H enc)
set_option maxHeartbeats 8000000 in
theorem holds:Rows.SolveAllCardSaid:=
 Claim7.holds_tied_plain_at .later [] [.data,.data,.pinned] true (true, "29254e130a85e7bc3d2bb522da3cda22bede667dc2cd1008b15860ef8c3e3f2a") false row_holds (fun _ h=>by cases h) (by as_aux_lemma=>kernel_rfl) (fun _ h=>by cases h) solveAll_row_tie rfl ⟨rfl,rfl⟩ (by as_aux_lemma=>kernel_rfl) rfl (fun f fn hf hfn=>by
   obtain rfl:f=4:=L_ ((show prog.funcNamed "ogee/ogeelaw27.SolveAll" =some 4 by as_aux_lemma=>kernel_rfl).symm.trans hf)|>.symm;obtain rfl:fn=Tryz.f4:=(L_ (func4.symm.trans hfn)).symm;exact⟨by as_aux_lemma=>kernel_rfl,fun j t ht=>by
    rw[Tryz.params4] at ht;have hm:t∈[47,26,30,3,3,48]:=by simpa using Array.mem_of_getElem? ht
    have hall:([47,26,30,3,3,48].all λu=> !prog.wantsStandIn u)=true:=by as_aux_lemma=>kernel_rfl
    exact(show prog.wantsStandIn t=false by simpa using u_.1 hall t hm)⟩)
  (by as_aux_lemma=>kernel_rfl)
#print axioms holds
end Go.Proofs.YtbencocchdpikaaGreatDoor.solveAll
