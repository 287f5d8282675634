/- The row and the card of SolveAll. -/
import Derived.Scope
import Derived.Test.YtbencocchdpikaaGreatDoorCards
import Derived.Test.YtbencocchdpikaaGreatDoorTie
import Derived.SevenTiedAt
import Derived.Test.YtbencocchdpikaaGreatDoorZ8
set_option linter.all false
set_option maxHeartbeats 0
namespace Go.Proofs.YtbencocchdpikaaGreatDoor
open Go.Proofs.Tryz
open Go.RowKit
variable {k:Nat}
def XJ{d a:Nat}(t:Dyadic)(h:a<=d):sm (List.range (d+1)) (λr=>yg d 1 1 a r*Yt d r t)=t^a:=by
 have e0:(λr=>yg d 1 1 a r*Yt d r t)=λk=>if k<a then 0 else(λj=>nD (bin (d-a) j)*Yt d (j+a) t) (k-a):=funext λk=>by
  unfold yg;by_cases hk:k<a
  .rw[J' hk,J' hk,Dyadic.zero_mul]
  rw[L' hk,L' hk,il,il];show nD (bin (d-a) (k-a))*1*1*Yt d k t=nD (bin (d-a) (k-a))*Yt d (k-a+a) t;rw[Nat.sub_add_cancel Z'];grind
 have hb:=aeA (d-a) t (1-t);rw[show t+(1-t)=1 by grind,il] at hb;rw[e0,adT d a h λj=>nD (bin (d-a) j)*Yt d (j+a) t];have e1:∀j,j∈List.range (d-a+1)->nD (bin (d-a) j)*Yt d (j+a) t=t^a*(nD (bin (d-a) j)*t^j*(1-t)^(d-a-j)):=λj hj=>(by have:=h_.1 hj;unfold Yt;rw[show d-(j+a)=d-a-j by omega,iB];grind);rw[qd e1,Qk,hb];grind
variable {ds:List Nat}
def eR:∀(ds s:List Nat)(ts:List Dyadic),Rj ds s->ts.length=ds.length->sm (List.range (la ds)) (λp=>wK 0 ds s (Fb ds p)*Ez ds (Fb ds p) ts)=jh s ts
 |[],[],[],_,_=>by show(1:Dyadic)*1+0=1;grind
 |[],_::_,_,h,_=>by cases h
 |_::_,[],_,h,_=>by cases h
 |[],[],_::_,_,h=>by cases h
 |_::_,_::_,[],_,h=>by cases h
 |d::ds,a::s,t::ts,h1,h2=>(by have ih:=eR ds s ts h1.2 (by simpa using h2);rw[wX,jh,<-ih,<-XJ t h1.1,<-Qk];refine qd λq _=> ?_;rw[<-Pt];refine qd λr hr=> ?_;have hr2:=h_.1 hr;rw[Fb,N7,g_ hr2,S8 _ _ Z',L9 hr2,C_,Ez];show yg d 1 1 a r*wK 0 ds s (Fb ds q)*_=_;grind)
def Xt:∀(s:List Nat)(ts:List Dyadic)(a:Nat)(t:Dyadic),s.length=ts.length->jh (s++[a]) (ts++[t])=jh s ts*t^a
 |[],[],a,t,_=>by show t^a*1=1*t^a;grind
 |[],_::_,_,_,h=>by cases h
 |_::_,[],_,_,h=>by cases h
 |b::s,u::ts,a,t,h=>(by show u^b*jh (s++[a]) (ts++[t])=u^b*jh s ts*t^a;rw[Xt s ts a t (by simpa using h)];grind)
def AH:∀(s:List Nat)(ts:List Dyadic),s.length=ts.length->jh s.reverse ts.reverse=jh s ts
 |[],[],_=>rfl
 |[],_::_,h=>by cases h
 |_::_,[],h=>by cases h
 |b::s,u::ts,h=>(by rw[K7,K7,Xt _ _ _ _ (by simpa using h),AH s ts (by simpa using h),jh];grind)
def acL{ns:List Nat}{S:List TR}{ts:List Dyadic}(hS:∀t∈S,Rj ns.reverse (Mc t.m).reverse)(ht:ts.length=ns.length):rq ns.reverse (Wo ns S) ts=ui ts.reverse S:=by
 unfold rq;have e1:sm (List.range (la ns.reverse)) (λp=>((Wo ns S)[p]?).getD 0*Ez ns.reverse (Fb ns.reverse p) ts)=sm (List.range (la ns.reverse)) λp=>sm S λt=>t.c.ma*(wK 0 ns.reverse (Mc t.m).reverse (Fb ns.reverse p)*Ez ns.reverse (Fb ns.reverse p) ts):=qd λp hp=>(by unfold Wo;rw[V_,x9 (h_.1 hp)];show wS _ S*_=_;rw[dN,<-Pt];exact qd λt _=>by grind);rw[e1,nM];unfold ui;rw[dN];refine qd λt h=> ?_;rw[Qk,eR _ _ _ (hS t h) (by rw[c_];exact ht)];have hl:=rK (hS t h);rw[c_,c_] at hl;have:=AH (Mc t.m).reverse ts (by rw[c_,hl,ht]);rw[q6] at this;rw[this]
def YW(f:ByteArray->Dyadic)(c:Dyadic)(l:List TR):wS f (l.map (qq c))=wS f l*c:=by
 induction l with
 |nil=>exact(Dyadic.zero_mul _).symm
 |cons t l ih=>
  rw[o_,wS,wS,ih];show(nR (t.c.ma*c)).ma*f t.m+_=_;rw[db];grind
variable {xs:List Dyadic}
def YG:∀(v i:Nat)(xs:List Dyadic),xs.length=v->i<v->jh (((List.replicate v 0).set i 1)) xs=(xs[i]?).getD 0
 |0,_,_,_,h=>absurd h (Nat.not_lt_zero _)
 |v+1,i,[],h,_=>by cases h
 |v+1,0,x::xs,h,_=>(by show x^1*jh (List.replicate v 0) xs=x;rw[Xk];grind)
 |v+1,i+1,x::xs,h,hi=>(by show x^0*jh ((List.replicate v 0).set i 1) xs=(xs[i]?).getD 0;rw[YG v i xs (by simpa using h) Z',x7];grind)
def HQ(v i:Nat):Mc (Wk v i)=(List.replicate v 0).set i 1:=by
 unfold Mc Wk;show((((List.replicate (v:Int).toNat (0:UInt8)).set i 1).toArray).toList).map UInt8.toNat=_;rw[List.toList_toArray,j9,List.map_replicate];rfl
def Io(v:Nat):Mc (Ld v)=List.replicate v 0:=by
 unfold Mc Ld;show(((List.replicate (v:Int).toNat (0:UInt8)).toArray).toList).map UInt8.toNat=_;rw[List.toList_toArray,List.map_replicate];rfl
def bV{v i:Nat}{s:SR}(hx:xs.length=v)(hi:i<v):ui xs (wh v i s)=s.L+(s.H-s.L)*(xs[i]?).getD 0:=by
 unfold wh Tk Mx oC;rw[Ig,im,Ig,Ig];have e1:ui xs [⟨Ld v,nR s.L⟩]=s.L:=(by show(nR s.L).ma*jh (Mc (Ld v)) xs+0=_;rw[db,Io,Xk];grind);have e2:ui xs ((ua [⟨Wk v i,nR ((1:Int):Dyadic)⟩]).map (qq (s.H-s.L)))=(xs[i]?).getD 0*(s.H-s.L):=(by unfold ui;rw[YW,Us];show((nR ((1:Int):Dyadic)).ma*jh (Mc (Wk v i)) xs+0)*_=_;rw[db,HQ,YG v i xs hx hi,show(((1:Int):Dyadic))=1 from rfl];grind);rw[e1,e2];grind
def Fz(b:List SR)(xs:List Dyadic):List Dyadic:=b.mapIdx λi s=>s.L+(s.H-s.L)*(xs[i]?).getD 0
def cP{b:List SR}(hx:xs.length=b.length):(lb b).map (λg=>ui xs g.ts)=Fz b xs:=by
 refine U9 λi=> ?_;unfold Fz;rw[V_,Q9]
 cases hs:b[i]? with
 |none=>
  rw[r_ (by rw[Hi];exact L5.1 hs)];rfl
 |some s=>
  rw[jg hs];show some (ui xs (wh b.length i s))=some _;rw[bV hx (X_.1 hs).1]
def ZY{p:PX}{b:List SR}(h0:(Ad p (lb b)).1=0)(hx:xs.length=b.length):ui xs (Ad p (lb b)).2=ui (Fz b xs) p.ts:=by
 rw[abg h0,cP hx]
variable {N:Nat}
def pO{p:PX}{b:List SR}{ns:List Nat}{s:Nat}(h:Gt p b ns)(ho:zg k p.ts)(hb:∀z∈b,z.fin k)(hk:k<=1000)(hN:la (Cc p.v p.ts)<=N)(hN2:N<=1000)(hs:(Cc p.v p.ts).sum<=s)(hB:k+1+(s+12)*(k+k+10+5*N)<=400000)(h0:(Ad p (lb b)).1=0):
  bj b.length (k+1+(s+12)*(k+k+10+5*N)) (Ad p (lb b)).2/\(Ad p (lb b)).2.length<=N:=by
 have hl:=h.Mp;have hpos:=h.pos;have hln:=Hi b;obtain⟨_,o2,o3⟩:=nj h.e;have hol:=h.Ul;have hhv:kf (lb b)=b.length:=(by obtain⟨z,hz⟩:=ea (l:=b) (k:=0) Z';rw[jl (jg hz)]);unfold Ad at h0 |-;rw[L' (λc=>c h.e),L' (by rw[hln,h.v];exact λc=>c rfl)] at h0 |-;by_cases hlk:(lb b).length≠0/\Xf (lb b)≠0
 .rw[J' hlk] at h0;exact absurd h0 hlk.2
 rw[L' hlk,hhv] at h0 |-;have hD:(List.range b.length).map (λi=>((Cc p.v p.ts)[i]?).getD 0)=Cc p.v p.ts:=by
  refine U9 λi=> ?_;rw[V_];by_cases hi:i<b.length
  .obtain⟨d,hd⟩:=ea (l:=Cc p.v p.ts) (k:=i) Z';rw[x9 hi,hd];show some (((Cc p.v p.ts)[i]?).getD 0)=some d;rw[hd];rfl
  exact aa5
 have hsl:((Cc p.v p.ts).sum+(Cc p.v p.ts).length)*(k+k+10+5*N)<=(s+12)*(k+k+10+5*N):=M9 _ Z';have h1:=qU (K:=k+k+10) (T:=2) (c:=k+k+10+5*N) (N:=N) hl (λi=>((Cc p.v p.ts)[i]?).getD 0) (by rw[hD];exact hN) Z' Z' Z' ((lb b).map PX.ts) 0 p.ts (Cc p.v p.ts) k (λi q hq=> ?_) ho (by rw[Z_,hln,hol]) (λi d hd=>by rw[C_,hd];rfl) (λt ht i hi=> ?_) Z' h0
 .exact⟨h1.1.mono Z',h1.2⟩
 .rw[V_] at hq;obtain⟨g,hg,rfl⟩:=V8.1 hq;obtain⟨z,hz⟩:=ea (l:=b) (k:=i) (by have:=(X_.1 hg).1;rwa[hln] at this);rw[jg hz] at hg;rw[<-L_ hg,C_];obtain⟨a1,a2⟩:=Rk (v:=b.length) (i:=i) hl (hb z (G' hz)) Z';exact⟨a1,a2,Kt _ i z⟩
 rw[Z_,hln] at hi;rw[C_];obtain⟨d,hd⟩:=ea (l:=Cc p.v p.ts) (k:=i) Z';rw[hd];exact(o3 i d hd).2.1 t ht
def qL:∀(ds:List Nat),(∀d∈ds,d<=5)->2^ds.sum<=la ds*la ds
 |[],_=>j' _
 |d::ds,h=>by
  have h1:=qL ds λx hx=>h x (F' _ hx);have h2:=h d q';have h3:2^d<=(d+1)*(d+1):=by
   match d,h2 with
   |0,_=>decide
   |1,_=>decide
   |2,_=>decide
   |3,_=>decide
   |4,_=>decide
   |5,_=>decide
  rw[y6,D_,la];have:=n9 h3 h1
  calc 2^d*2^ds.sum<=(d+1)*(d+1)*(la ds*la ds):=this
   _=(d+1)*la ds*((d+1)*la ds):=by rw[Nat.mul_mul_mul_comm]
variable {C:Nat}
def KR{s:Nat}(h:∀d∈ds,d<=5)(hc:la ds<=C)(hs:C*C<2^(s+1)):ds.sum<=s:=by
 have h1:=qL ds h;have h2:=n9 hc hc;have h3:2^ds.sum<2^(s+1):=Z';have:=(Nat.pow_lt_pow_iff_right (by decide:1<2)).1 h3;omega
def OA(c k:Nat):∀ds:List Nat,Te c ds k=k+ds.sum*c+ds.length*8192
 |[]=>by rw[Vs];simp
 |d::ds=>(by rw[Qp,OA c k ds,y6,E_,k8,o9];omega)
def aaS{ns:List Nat}{S:List TR}(hS:∀t∈S,Rj ns.reverse (Mc t.m).reverse)(hk:zg k S)(hd:∀d∈ns,d<=127):∀x∈Wo ns S,Sz (k+S.length+520*ns.length) x:=by
 rw[<-PE hS];exact wJ (J0 hk) (λd h=>hd d (g8.1 h)) ns.length
def WO{v:Int}{a b:TR}(ha:re v a=true)(hb:re v b=true)(h:∀i,rg i a+rg i b<=127):Wm a.m b.m=0:=by
 unfold re at ha hb;rw[Q_,K_] at ha hb;have hl:b.m.data.toList.length=a.m.data.toList.length:=by rw[<-Yc,<-Yc];omega
 unfold Wm;rw[JL ha.1 hb.1 hl];rw[u_];intro z hz;obtain⟨i,hi⟩:=j_.1 hz;rw[J8] at hi
 cases hx:(ints a.m.data.toList)[i]? with
 |none=>rw[hx] at hi;cases hi
 |some x=>
  cases hy:(ints b.m.data.toList)[i]? with
  |none=>rw[hx,hy] at hi;cases hi
  |some y=>
   rw[hx,hy] at hi;have e:x+y=z:=L_ hi;unfold ints at hx hy;rw[V_] at hx hy;obtain⟨c,hc,rfl⟩:=V8.1 hx;obtain⟨d,hd,rfl⟩:=V8.1 hy;have:=h i;rw[Tn hc,Tn hd] at this;unfold Td;rw[<-e,Q_,K_,K_];omega
def NA{v:Nat}{q p:List TR}{sub:List TR->Int×List TR}{j d N T:Nat}{E:Nat->Nat}(hv:v<=12)(hq:Jf v q=0)(hqT:q.length<=T)(hqB:Dl (λx=>if x=j then 1 else 0) q)(hD:∀t∈p,rg j t<=d)(hE:E j=0)(hd:d<=127)(hE2:∀x,E x<=127) (hs:∀n,(sub (Za p j n)).1=0/\Jf v (sub (Za p j n)).2=0/\Dl E (sub (Za p j n)).2)(hN:la ((List.range v).map λx=>if x=j then d else E x)<=N)(hNT:N*T+N<=4096):
  ∀i,i<=128->(rb q sub p j i).1=0/\Jf v (rb q sub p j i).2=0
 |0,_=>⟨rfl,(bj.nil (k:=0) (vg hv)).e⟩
 |i+1,hi=>by
  obtain⟨h1,h2⟩:=NA hv hq hqT hqB hD hE hd hE2 hs hN hNT i Z';have hb:=Xq hqB hD hE (λn _=>(hs n).2.2) i Z' h1;have hl:(rb q sub p j i).2.length<=N:=M_ (Zq h2 (hb.mono λx=>by
   by_cases hx:x=j
   .rw[J' hx,J' hx];omega
   rw[L' hx,L' hx];exact j' _)) hN
  have hls:∀n,(sub (Za p j n)).2.length<=N:=λn=>M_ (Zq (hs n).2.1 ((hs n).2.2.mono λx=>by
   by_cases hx:x=j
   .rw[J' hx,hx,hE];exact D' _
   rw[L' hx];exact j' _)) hN
  obtain⟨f1,f2,f3,f4⟩:=Vb h2;obtain⟨q1,q2,q3,q4⟩:=Vb hq;have hpl:(jc (rb q sub p j i).2 q).length<=N*T:=by rw[wj];exact n9 hl hqT
  have hpe:∀e∈Ju (rb q sub p j i).2 q,e=0:=λe he=>by
   by_cases hlow:i+d<=127
   .rw[Dh hD i hlow] at he
    cases he
   obtain⟨x,hx,he⟩:=X7.1 he;obtain⟨y,hy,rfl⟩:=i'.1 he;refine WO (f3 x hx) (q3 y hy) λr=> ?_;have a1:=hb x hx r;have a2:=hqB y hy r;have a3:=hE2 r;by_cases hr:r=j
   .simp only[J' hr] at a1 a2;omega
   simp only[L' hr] at a1 a2;omega
  have htm:Mf (rb q sub p j i).2 q=0:=(by rw[ME (by rw[<-wj];omega) hpe,Wl Z']);obtain⟨s1,s2,s3⟩:=hs (127-i);have hgl:=Wb (jc (rb q sub p j i).2 q);have hg:Pf (ua (jc (rb q sub p j i).2 q)++(sub (Za p j (127-i))).2)=0:=Wl (by rw[Y_];have:=hls (127-i);omega);rw[Ki];unfold Lh;rw[L' (λc=>c h1)];by_cases c1:(rb q sub p j i).2.length=0/\(Za p j (127-i)).length=0
  .rw[J' c1];exact⟨h1,h2⟩
  rw[L' c1,L' (λc=>c htm),L' (λc=>c s1),L' (λc=>c hg)];refine⟨rfl,Re (vg hv) (Gq hg) λt ht=>(z_.1 ht).elim (dm (Ao f3 hpe) t) ((Vb s2).2.2.1 t)⟩
def PQ{f g:Nat->Nat}(l:List Nat)(h:∀x,f x<=g x):la (l.map f)<=la (l.map g):=by
 induction l with
 |nil=>exact j' _
 |cons x l ih=>exact n9 (Nat.succ_le_succ (h x)) ih
def cH{v N T:Nat}(hv:v<=12)(D:Nat->Nat)(hD7:∀x,D x<=127)(hN:la ((List.range v).map D)<=N)(hNT:N*T+N<=4096):∀(qs:List (List TR))(j:Nat)(p:List TR),(∀(i:Nat)(q:List TR),qs[i]?=some q->Jf v q=0/\q.length<=T/\Dl (λx=>if x=j+i then 1 else 0) q)->(∀t∈p,∀i,i<qs.length->rg (j+i) t<=D (j+i))->(Ke v qs j p).1=0/\Jf v (Ke v qs j p).2=0
 |[],j,p,_,_=>⟨rfl,Re (vg hv) (M_ (Wb _) (by show 1<=4096;decide)) λt ht=>by
   rw[S_.1 ht];unfold re;rw[Q_,K_];exact⟨kt v,Nj Z'⟩⟩
 |q::qs,j,p,hq,hp=>by
  obtain⟨q1,q2,q3⟩:=hq 0 q rfl;rw[u9] at q3;have hpw:∀n,∀t∈Za p j n,∀i,i<qs.length->rg (j+1+i) t<=D (j+1+i):=λn t ht i hi=>(by have:=hp t (cj t ht) (i+1) (by rw[E_];omega);rwa[show j+1+i=j+(i+1) by omega]);have hqs:∀(i:Nat)(r:List TR),qs[i]?=some r->Jf v r=0/\r.length<=T/\Dl (λx=>if x=j+1+i then 1 else 0) r:=λi r hr=>(by have:=hq (i+1) r (by simpa using hr);rwa[show j+1+i=j+(i+1) by omega]);have hs:∀n,(Ke v qs (j+1) (Za p j n)).1=0/\Jf v (Ke v qs (j+1) (Za p j n)).2=0/\Dl (λx=>if j+1<=x/\x<j+1+qs.length then D x else 0) (Ke v qs (j+1) (Za p j n)).2:=λn=>(by obtain⟨a1,a2⟩:=cH hv D hD7 hN hNT qs (j+1) (Za p j n) hqs (hpw n);exact⟨a1,a2,kD qs (j+1) (Za p j n) D (λi r hr=>(hqs i r hr).2.2) (hpw n) a1⟩);rw[St];exact NA (d:=D j) (E:=λx=>if j+1<=x/\x<j+1+qs.length then D x else 0) hv q1 q2 q3 (λt ht=>hp t ht 0 (by rw[E_];omega)) (by rw[L' Z']) (hD7 j) (λx=>by
   split
   .exact hD7 x
   .exact D' _) hs (M_ (PQ _ λx=>by
   by_cases hx:x=j
   .rw[J' hx,hx];exact j' _
   rw[L' hx];split
   .exact j' _
   exact D' _) hN) hNT 128 (j' _)
variable {ls:List PX}
def ZN{p:PX}{v T:Nat}(hv:v<=12)(h0:p.e=0)(hpv:p.v=(ls.length:Int))(hn:0<ls.length)(hl:ds.length=v)(hlv:ls.length=v)(hls:∀(i:Nat)(g:PX),ls[i]?=some g->g.v=(v:Int)/\Jf v g.ts=0/\g.ts.length<=T/\Dl (λx=>if x=i then 1 else 0) g.ts) (hd:∀(i d:Nat),ds[i]?=some d->d<=127/\∀t∈p.ts,rg i t<=d)(hN:la ds<=N)(hNT:N*T+N<=4096):(Ad p ls).1=0/\Jf v (Ad p ls).2=0:=by
 have hne:ls≠[]:=λe=>by rw[e] at hn;exact absurd hn U'
 have hmem:∀g∈ls,g.v=(v:Int)/\Jf v g.ts=0:=λg hg=>(by obtain⟨i,hi⟩:=j_.1 hg;exact⟨(hls i g hi).1,(hls i g hi).2.1⟩);have hlk:Xf ls=0:=BN (v:=v) hne (λg hg=>by unfold PX.e;rw[(hmem g hg).1];exact(hmem g hg).2) λg hg=>(hmem g hg).1;have hhv:kf ls=v:=(by obtain⟨g,hg⟩:=ea (l:=ls) (k:=0) hn;rw[jl hg];exact(hls 0 g hg).1);unfold Ad;rw[L' (λc=>c h0),L' Z',L' (λc=>c.2 hlk),hhv];have hDD:∀i,ds.getD i 0<=127:=λi=>by
  rw[J9]
  cases h:ds[i]? with
  |none=>exact D' _
  |some d=>exact(hd i d h).1
 have hDm:(List.range v).map (λi=>ds.getD i 0)=ds:=by
  refine U9 λi=> ?_;rw[V_];by_cases hi:i<v
  .obtain⟨d,hdd⟩:=ea (l:=ds) (k:=i) Z';rw[x9 hi,hdd];show some (ds.getD i 0)=some d;rw[J9,hdd];rfl
  exact aa5
 refine cH hv (λi=>ds.getD i 0) hDD (by rw[hDm];exact hN) hNT (ls.map PX.ts) 0 p.ts (λi q hq=> ?_) λt ht i hi=> ?_
 .rw[V_] at hq;obtain⟨g,hg,rfl⟩:=V8.1 hq;rw[C_];exact(hls i g hg).2
 rw[Z_] at hi;rw[C_];obtain⟨d,hdd⟩:=ea (l:=ds) (k:=i) Z';rw[J9,hdd];exact(hd i d hdd).2 t ht
def rU{p:PX}{b:List SR}{ns:List Nat}(h:Gt p b ns)(hb:∀z∈b,z.fin k)(hk:k<=1000)(hN:la (Cc p.v p.ts)<=N)(hNT:N*2+N<=4096):(Ad p (lb b)).1=0:=by
 have hl:=h.Mp;have hpos:=h.pos;have hln:=Hi b;obtain⟨_,o2,o3⟩:=nj h.e;have hol:=h.Ul;refine(ZN (v:=b.length) (ds:=Cc p.v p.ts) (T:=2) hl h.e (by rw[hln];exact h.v) Z' hol hln (λi g hg=> ?_) (λi d hd=>⟨(o3 i d hd).1,(o3 i d hd).2.1⟩) hN hNT).1;obtain⟨z,hz⟩:=ea (l:=b) (k:=i) (by have:=(X_.1 hg).1;rwa[hln] at this);rw[jg hz] at hg;obtain⟨a1,a2⟩:=Rk (v:=b.length) (i:=i) hl (hb z (G' hz)) Z';have hx:=Kt b.length i z;rw[<-L_ hg];exact⟨rfl,a1.e,a2,hx⟩
def Yw(ns:List Nat):(Ua ns).map Int.toNat=ns:=Jh ns
def iE{t:TR}{B:Nat}(h:∀c∈t.m.data.toList,c.toNat<=B)(i:Nat):Fm t.m i<=B:=by
 unfold Fm
 cases he:t.m.data.toList[i]? with
 |none=>exact m7 B
 |some e=>have:=h e (G' he);show((e.toNat:Nat):Int)<=B;omega
variable {ts:List TR}
def YC{v:Int}{B:Nat}(h:Jf v ts=0)(hb:∀t∈ts,∀c∈t.m.data.toList,c.toNat<=B):∀d∈Cc v ts,d<=B:=λd hd=>by
 obtain⟨i,hi⟩:=j_.1 hd;have h1:=((nj h).2.2 i d hi).2.2;have h2:=(BK (l:=ts) (i:=i) (B:=(B:Int)) (m7 B) λt ht=>iE (hb t ht) i).2;omega
structure SmB(p:PX)(b:List SR)(C s:Nat):Prop where
 n:p.ts.length<=8
 ok:zg 124 p.ts
 sz:∀t∈p.ts,t.m.size<=20
 ex:∀t∈p.ts,∀c∈t.m.data.toList,c.toNat<=4
 box:∀z∈b,z.fin 124
 AN:p.e=0->la (Cc p.v p.ts)<=C
 few:C*C<2^(s+1)
def qB{v:Int}{ns:List Nat}(h:Jf v ts=0)(hl:(Cc v ts).length=ns.length)(hx:∀(i d:Nat),ns[i]?=some d->∀t∈ts,rg i t<=d):∀(i x y:Nat),(Cc v ts)[i]?=some x->ns[i]?=some y->x<=y:=λi x y h1 h2=>by
 have h3:=((nj h).2.2 i x h1).2.2;have h4:=(BK (l:=ts) (i:=i) (B:=(y:Int)) (m7 y) λt ht=>by rw[<-rH];have:=hx i y h2 t ht;omega).2;omega
def abK{s:PX}{b:List SR}{ns:List Nat}(he:s.e=0)(hbx:Gk b=0)(hv:s.v=b.length)(hnl:ns.length=b.length)(hlow:∀d∈ns,d<=127)(hm:la ns<=4096)(hx:∀(i d:Nat),ns[i]?=some d->∀t∈s.ts,rg i t<=d):um s b (Ua ns)=0:=by
 obtain⟨o1,o2,o3⟩:=nj he;have h8:=ij ns 1 (j' _) U' hlow;rw[W7,J' hm] at h8;replace h8:gh 1 (Ua ns)=((la ns:Nat):Int):=h8;have hp:=Ec ns;have hsh:sy (yz s.v s.ts) (Ua ns)=false:=(by unfold sy;rw[p9];intro q hq;obtain⟨i,hi⟩:=j_.1 hq;obtain⟨h1,h2⟩:=Q6.1 hi;rw[o1] at h1;unfold Ua at h1 h2;rw[V_] at h1 h2;obtain⟨x,hx1,e1⟩:=V8.1 h1;obtain⟨y,hy1,e2⟩:=V8.1 h2;have h3:=qB he Z' hx i x y hx1 hy1;have h4:=hlow y (G' hy1);rw[K_,<-e1,<-e2];omega);unfold um;rw[L' (λc=>c he),L' (λc=>c hbx),L' (by rw[Kc];omega),hsh,L' U',h8,L' Z']
def abi{s:PX}{b:List SR}{ns:List Nat}(he:s.e=0)(hbx:Gk b=0)(hpos:0<b.length)(hv:s.v=b.length)(hnl:ns.length=b.length)(hlow:∀d∈ns,d<=127)(hm:la ns<=1000)(hx:∀(i d:Nat),ns[i]?=some d->∀t∈s.ts,rg i t<=d)(hb:∀z∈b,z.fin k)(hk:k<=1000):
  pg s b (Ua ns)=0/\Gt s b ns/\(Ad s (lb b)).1=0:=by
 have h1:=abK he hbx hv hnl hlow Z' hx;have hF:=(CD h1).2;rw[Yw] at hF;have h2:=rU (N:=1000) hF hb hk (M_ (Ts (by rw[hF.Ul,hnl]) (qB he (by rw[hF.Ul,hnl]) hx)) hm) U';have hD:gm s (Ua ns)=Ua ns:=L' (by rw[Kc];omega);refine⟨?_,hF,h2⟩;unfold pg;rw[hD,L' (λc=>c h1),h2]
def Pz{v:Int}(h:Jf v ts=0)(hex:∀t∈ts,∀c∈t.m.data.toList,c.toNat<=4)(hc:la (Cc v ts)<=100)(hk:k<=1000):Te (k+k+16394) (Cc v ts) (k+1)<=440000:=by
 have h1:(Cc v ts).sum<=13:=KR (λd hd=>by have:=YC h hex d hd;omega) hc U';have h2:=(nj h).2.1;have h3:=(Qe.1 (Vb h).1).2;rw[OA];have h4:(Cc v ts).sum*(k+k+16394)<=13*(1000+1000+16394):=n9 h1 Z';have h5:(Cc v ts).length*8192<=12*8192:=M9 _ Z';omega
def ab7{p:PX}{b:List SR}{ns:List Nat}{ts:List Dyadic}(hF:Gt p b ns)(h0:(Ad p (lb b)).1=0)(h3:∀t∈(Ad p (lb b)).2,Rj ns.reverse (Mc t.m).reverse)(ht:ts.length=ns.length):rq ns.reverse (Wo ns (Ad p (lb b)).2) ts=ui (Fz b ts.reverse) p.ts:=by
 rw[acL h3 ht,ZY h0 (by rw[c_,ht,hF.nl])]
structure aib(p:PX):Prop where
 n:p.ts.length<=8
 ok:zg 124 p.ts
 ex:∀t∈p.ts,t.m.size<=20/\∀c∈t.m.data.toList,c.toNat<=4
structure eS(p:PX)(b:List SR)(ns:List Nat):Prop where
 vl:∀ts:List Dyadic,ts.length=ns.length->rq ns.reverse (Wo ns (Ad p (lb b)).2) ts=ui (Fz b ts.reverse) p.ts
 sz:∀x∈Wo ns (Ad p (lb b)).2,Sz 460000 x
def cX{p:PX}{b:List SR}{ns:List Nat}(hF:Gt p b ns)(h0:(Ad p (lb b)).1=0)(ho:zg k p.ts)(hb:∀s∈b,s.fin k)(hk:k<=1000)(hgr:Te (k+k+16394) (Cc p.v p.ts) (k+1)<=440000):eS p b ns:=by
 obtain⟨h1,h2⟩:=Jt hF ho hb hk hgr h0;refine⟨λts ht=>ab7 hF h0 h2 ht,λx hx=>(aaS h2 h1.ok hF.low x hx).mono ?_⟩;have h3:=(Vb h1.e).2.1;have h4:=hF.nl;have h5:=hF.Mp;omega
structure ahA(p q s o:PX)(b:List SR)(ns:List Nat)(c:Dyadic):Prop where
 fit:Gt p b ns
 AN:la ns<=100
 es:pg s b (Ua ns)=0
 eo:pg o b (Ua ns)=0
 gs:Am s.v 140 16 4 s.ts
 go:Am o.v 125 1 0 o.ts
 ws:Te (140+140+16394) (Cc s.v s.ts) (140+1)<=440000
 wo:Te (140+140+16394) (Cc o.v o.ts) (140+1)<=440000
 sum:Wo ns (Ad s (lb b)).2=Jj (Wo ns (Ad p (lb b)).2) (Wo ns (Ad q (lb b)).2)
 con:Wo ns (Ad o (lb b)).2=((ZD ns).map nD).map λy=>c*y
 zp:∀x∈Wo ns (Ad p (lb b)).2,Sz 460000 x
 zq:∀x∈Wo ns (Ad q (lb b)).2,Sz 460000 x
def aip(A:List Nat)(e:Nat)(X:List Dyadic):List Dyadic:=aem (adJ (la A) (e+1)) (rj A (e+1) (e+1) (ad3 (e+1)) X X.length 0) X.length
def Tm(ap d t:Nat)(xs:List Dyadic)(i:Nat):List Dyadic:=((List.range i).filter λp=>decide (p/ap % (d+1)=t)).map λp=>(xs[p]?).getD 0
def QA(ap d t:Nat)(xs:List Dyadic)(i:Nat):Tm ap d t xs (i+1)=Tm ap d t xs i++if i/ap % (d+1)=t then[(xs[i]?).getD 0] else[]:=by
 unfold Tm;rw[O8,I7,q_];congr 1;by_cases h:i/ap % (d+1)=t
 .rw[J' h,List.filter_cons_of_pos (by rw[N_ h])];rfl
 rw[L' h,O5 (by rw[O_ h];decide)];rfl
def jJ(fx:FX)(a d:Nat)(sd:Nat)(k:Nat)(w:World)(hT:Xc w)(hf:fx.at_ w)(hl:fx.fh k)(hcap:fx.n<=fx.a)(h0:fx.e=0)(hd:fx.ns[a]?=some d)(hsd:sd=0\/sd=1):Calls prog 122 #[.agg #[.slice fx.A fx.n fx.a,.slice fx.B fx.m fx.b],.int .i64 a,.int .i64 sd] w λr w'=>∃g:FX,g.ds=fx.ds.eraseIdx a/\g.cs=(Tm (la (fx.ns.drop (a+1))) d (d*sd) (fx.cs.map NR.ma) fx.m).map nR/\g.n<=100000/\g.m<=1000000/\r=.returned (.tuple #[.agg #[.slice g.A g.n g.a,.slice g.B g.m g.b],.int .i64 0])/\Hp w [g.ug,g.cg] w':=by
 have hh:=Hp.start w;obtain⟨hdeg,hnum,h12,hlow,hcnt,hmax⟩:=FX.fv h0;have hln:=hf.ln.1;have hlm:=hf.ln.2;have hnl:fx.ns.length=fx.n:=by unfold FX.ns;rw[Z_];exact hln
 have ha:=(X_.1 hd).1;have hd127:=hlow d (G' hd);have hE:Nm fx (a:Int)=0:=by unfold Nm;rw[L' Z',L' Z']
 have hhas:=λw1 hT1 hb=>Xv fx (a:Int) k w1 hT1 (hf.ext hb) hl;rw[hE] at hhas;have hdg:Sl w fx.A fx.n 1 (jb (Ua fx.ns)):=by rw[<-hdeg];exact hf.dg
 have hof:=λw1 hb=>vr fx.A fx.n fx.a a d fx.ns w1 (hdg.ext hb) hcap Z' hd hlow hmax;have hap:0<la (fx.ns.drop (a+1)):=Ec _;have hgd:(jb fx.ds)[a]?=some (.int .i64 (d:Int)):=by rw[hdeg];exact Uc (He hd)
 obtain⟨ad0,hAD,sD⟩:=hf.dg.at_ Z';have mm:Value.slice fx.A fx.n fx.a=.slice (some ad0) fx.n fx.a:=by rw[hAD]
 have hprod:(d:Int)*(sd:Int)=((d*sd:Nat):Int):=by rw[l9]
 have hpb:d*sd<=127:=by obtain rfl|rfl:=hsd<;>omega
 have hap2:la (fx.ns.drop (a+1))<=4096:=by
  have h3:la fx.ns=la (fx.ns.take (a+1))*la (fx.ns.drop (a+1)):=by rw[<-Vd,P9]
  have:=Nat.le_mul_of_pos_left (la (fx.ns.drop (a+1))) (Ec (fx.ns.take (a+1)));omega
 generalize la (fx.ns.drop (a+1))=ap at*;refine da (N:=70) (l:=[.agg #[.slice fx.A fx.n fx.a,.slice fx.B fx.m fx.b],.int .i64 a,.int .i64 sd]) func122 rfl rfl (by simp) ?_;refine Tb ?_;intro b3 w3 hh b6 w6 hh;refine Oa hh (hhas _ (hT.hp hh) hh.below) rfl ?_;intro w15 hh;obtain hs0|hs0:=hsd
 .exact aab
 exact aab
def Pj(fx:FX)(ax sd:Int):Int:=if Nm fx ax≠0 then Nm fx ax else if sd=0\/sd=1 then 0 else 1
def sV(fx:FX)(ax sd:Int)(k:Nat)(w:World)(hT:Xc w)(hf:fx.at_ w)(hl:fx.fh k)(hE:Pj fx ax sd≠0):Calls prog 122 #[.agg #[.slice fx.A fx.n fx.a,.slice fx.B fx.m fx.b],.int .i64 ax,.int .i64 sd] w λr w'=>r=.returned (.tuple #[.agg #[.slice none 0 0,.slice none 0 0],.int .i64 (Pj fx ax sd)])/\Below w.heap.size w w':=by
 have hh:=Hp.start w;have hhas:=λw1 hT1 hb=>Xv fx ax k w1 hT1 (hf.ext hb) hl;unfold Pj at hE |-;generalize Nm fx ax=C at*;refine da (N:=70) (l:=[.agg #[.slice fx.A fx.n fx.a,.slice fx.B fx.m fx.b],.int .i64 ax,.int .i64 sd]) func122 rfl rfl (by simp) ?_;refine Tb ?_;intro b3 w3 hh b6 w6 hh;refine Oa hh (hhas _ (hT.hp hh) hh.below) rfl ?_;intro w15 hh;by_cases hC:C=0
 .subst hC;rw[L' (λc=>c rfl)] at hE |-;by_cases hs:sd=0\/sd=1
  .rw[J' hs] at hE;exact absurd rfl hE
  rw[L' hs];have h1:sd≠0:=λc=>hs (.inl c);have h2:sd≠1:=λc=>hs (.inr c);exact ad7
 rw[J' hC];exact ad7
variable {w:World}
def RK(k:Nat)(S:World->World->Prop)(i:Nat)(w w':World):Prop:=if i=k then S w w' else Below w.heap.size w w'
def afZ:List Nat->(Nat->VP)->Nat->VP
 |[],V=>V
 |x::r,V=>ye (afZ r V) x λ_ _=>True
def ags(m k:Nat)(X Y M:List Nat)(src:List (List (Nat×Option Nat))):Bool:=
 decide (k<m) && ((List.range m).all λi=>(src.getD i []).all λp=>match p.2 with|some j=> !X.contains j||i==k||(M.getD k 0).testBit i|none=>true) &&
 (List.range m).all λj=>X.contains j||Y.contains j||j==k||(M.getD j 0).testBit k
variable {P:Program}{ρ:Rf}
def DOK(P:Program)(ops:Array Oper)(J:World->Prop)(V:Nat->Value->World->Prop)(R:Nat->World->World->Prop)(ρ:Rf):Nat->List Oper->List (List (Nat×Option Nat))->Prop
 |i,o::os,s::ss=>((∀v w w',V i v w->Below w.heap.size w w'->V i v w')/\∀ρ1 w1,J w1->Tc V ρ ρ1 w1 s->OG P ops o ρ1 w1 λv w2=>R i w1 w2/\V i v w2)/\DOK P ops J V R ρ (i+1) os ss
 |_,[],[]=>True
 |_,_,_=>False
variable {D:List Deferred}
structure DIK(D:List Deferred)(fr:List Nat)(N:Nat)(ops:Array Oper)(m k0:Nat)(X:List Nat)(ρ:Rf)(J:World->Prop)(V:Nat->Value->World->Prop)(L:Array Bool)(a:Act)(w:World):Prop where
 nd:a.defers=D
 sz:a.tmps.size=N
 j:J w
 ls:L.size=ops.size
 cl:Bp ops L
 tl:∀k,m<=k->L.getD k false=false
 vs:∀i d,i<m->L.getD i false=true->(ops[i]?).bind (·.dst)=some d->(i∈X->L.getD k0 false=false)->V i (a.tmps.getD d undef) w
 yu:∀s,(∀i,i<m->L.getD i false=true->(ops[i]?).bind (·.dst)≠some s)->a.tmps.getD s undef=ρ s
 fb:∀i∈fr,L.getD i false=true->∀d,(ops[i]?).bind (·.dst)=some d->∃b,a.tmps.getD d undef=.pointer (some ⟨b,0,none⟩)/\b<w.heap.size
 fd:∀i∈fr,∀j∈fr,i≠j->L.getD i false=true->L.getD j false=true->∀d e,(ops[i]?).bind (·.dst)=some d->(ops[j]?).bind (·.dst)=some e->a.tmps.getD d undef≠a.tmps.getD e undef
def DXK(P:Program)(ops:Array Oper)(J:World->Prop)(R:Nat->World->World->Prop)(ρ:Rf)(T:(Nat->VP)->Prop):Nat->(Nat->VP)->List Oper->List (List (Nat×Option Nat))->Prop
 |i,pv,o::os,s::ss=>∃V:VP,(∀v w w',V v w->Below w.heap.size w w'->V v w')/\(∀ρ1 w1,J w1->Tc pv ρ ρ1 w1 s->OG P ops o ρ1 w1 λv w2=>R i w1 w2/\V v w2)/\DXK P ops J R ρ T (i+1) (ye pv i V) os ss
 |_,pv,[],[]=>T pv
 |_,_,_,_=>False
structure Ext(b:Nat)(e:TypeId)(w w':World):Prop where
 bl:Below b w w'
 sz:w.heap.size<=w'.heap.size
 rest:∀g,g<w.heap.size->w'.heap[g]?=w.heap[g]?\/∃xs xs',w.heap[g]?=some (.cells xs e (0,0))/\w'.heap[g]?=some (.cells xs' e (0,0))/\xs'.size=xs.size
def aej(S:World->World->Prop)(pv:Nat->VP):List Nat->Prop
 |[]=>True
 |j::r=>(∀v w w',pv j v w->S w w'->pv j v w')/\aej S pv r
def afp(w:World)(t:TypeId)(n:Nat):VP:=λv W=>∃(b:Nat)(cs:List Value),v=.pointer (some ⟨b,0,none⟩)/\w.heap.size<=b/\cs.length=n/\W.heap[b]?=some (.cells cs.toArray t (0,0))
def aif(base:Nat)(t:TypeId)(n sz:Nat)(cs:List Value):VP:=λv W=>∃A c,v=.agg #[.slice A n c,.slice none 0 0]/\W.ownsRow base t sz (.slice A n c) n cs
def phR:List (Nat->Dyadic)->List Nat->Dyadic
 |f::fs,r::rs=>f r*phR fs rs
 |_,_=>1
def vG(ds:List Nat)(X:List Dyadic)(fs:List (Nat->Dyadic)):Dyadic:=sR ds λrow=>co ds X row*phR fs row
def aex(ds:List Nat)(ts:List Dyadic):List (Nat->Dyadic):=List.zipWith (λd t r=>Yt d r t) ds ts
def pwF(ts:List Dyadic):List (Nat->Dyadic):=ts.map λt r=>t^r
def ahT(ds:List Nat)(ts:List Dyadic)(k:Nat):List (Nat->Dyadic):=(aex ds ts).take (ds.length-k)++(pwF ts).drop (ds.length-k)
def wT(b:List SR)(ns:List Nat):Nat->Dyadic
 |0=>1
 |i+1=>wT b ns i*aeE b i^(ns.getD i 0)
def eV{b:List SR}{s:SR}(h:Gk b=0)(hs:s∈b):s.lo.ma<s.hi.ma:=by
 unfold Gk at h;by_cases h1:b.any (λs=> !decide (s.lo.ma<s.hi.ma))=true
 .rw[J' h1] at h;omega
 rw[Bool.not_eq_true,p9] at h1;have:=h1 s hs;simpa using this
structure agz(p:PX)(b:List SR)(fx:FX)(ns:List Nat):Prop where
 e:afy fx b=0
 q:(adP fx b).2=ua (p.ts.map (qq (wT b ns b.length)))
 s:FO p (wT b ns b.length)=0
 n:(ua (p.ts.map (qq (wT b ns b.length)))).length<=8
structure afO(p q:PX)(b:List SR)(ns:List Nat)(a:Nat)(X:List Dyadic):Prop where
 tU:Am q.v 300 8 4 q.ts
 e:pg q b (Ua (aeq ns a))=0
 grow:Te (300+300+16394) (Cc q.v q.ts) (300+1)<=440000
 x:Wo (aeq ns a) (Ad q (lb b)).2=agp ns a X
def afN(ds:List Int):Bool:=decide (ds.length<=12) && decide (gh 1 ds≠0)
structure aep(fx:FX)(ax sd:Int)(g:FX):Prop where
 ds:g.ds=if Pj fx ax sd=0 then fx.ds.eraseIdx ax.toNat else[]
 cs:g.cs=if Pj fx ax sd=0 then(Tm (la (fx.ns.drop (ax.toNat+1))) (fx.ns.getD ax.toNat 0) (fx.ns.getD ax.toNat 0*sd.toNat) (fx.cs.map NR.ma) fx.m).map nR else[]
 n:g.n<=100000
 m:g.m<=1000000
def CW{fx:FX}{ax:Int}(h:Nm fx ax=0)(hln:fx.ds.length=fx.n):fx.e=0/\∃a d:Nat,ax=a/\fx.ns[a]?=some d:=by
 unfold Nm at h;by_cases h0:fx.e=0
 .rw[L' (λc=>c h0)] at h;by_cases h1:ax<0\/(fx.n:Int)<=ax
  .rw[J' h1] at h;cases h
  obtain⟨d,hd⟩:=ea (l:=fx.ns) (k:=ax.toNat) (by unfold FX.ns;rw[Z_];omega);exact⟨h0,ax.toNat,d,Z',hd⟩
 rw[J' h0] at h;exact absurd h h0
def MR{fx:FX}{ax sd:Int}(h:Pj fx ax sd=0)(hln:fx.ds.length=fx.n):fx.e=0/\∃a d s:Nat,ax=a/\sd=s/\(s=0\/s=1)/\fx.ns[a]?=some d:=by
 unfold Pj at h;by_cases h0:Nm fx ax=0
 .rw[L' (λc=>c h0)] at h;by_cases h1:sd=0\/sd=1
  .obtain⟨a1,a,d,a2,a3⟩:=CW h0 hln;exact⟨a1,a,d,sd.toNat,a2,Z',Z',a3⟩
  rw[L' h1] at h;cases h
 rw[J' h0] at h;exact absurd h h0
def sT(fx:FX)(ax sd:Int)(k:Nat)(w:World)(hT:Xc w)(hf:fx.at_ w)(hl:fx.fh k)(hcap:fx.n<=fx.a):Calls prog 122 #[.agg #[.slice fx.A fx.n fx.a,.slice fx.B fx.m fx.b],.int .i64 ax,.int .i64 sd] w λr w'=>∃g:FX,aep fx ax sd g/\r=.returned (.tuple #[.agg #[.slice g.A g.n g.a,.slice g.B g.m g.b],.int .i64 (Pj fx ax sd)])/\Hp w [g.ug,g.cg] w':=by
 by_cases hE:Pj fx ax sd=0
 .obtain⟨h0,a,d,s,rfl,rfl,hs,hd⟩:=MR hE hf.ln.1;have hg:fx.ns.getD a 0=d:=by rw[J9,hd];rfl
  refine(jJ fx a d s k w hT hf hl hcap h0 hd hs).mono λr w' ⟨g,h1,h2,h3,h4,h5,h6⟩=>⟨g,⟨?_, ?_,h3,h4⟩,by rw[hE];exact h5,h6⟩
  .rw[J' hE,n8];exact h1
  rw[J' hE,n8,n8,hg];exact h2
 exact(sV fx ax sd k w hT hf hl hE).mono λr w' ⟨hr,hb⟩=>⟨FX.nil,⟨(L' hE).symm,(L' hE).symm,U',U'⟩,hr,((Hp.start w).ext hb).vT⟩
def wgN(ds:List Int):List NR:=if afN ds=true then cz (ds.map Int.toNat) else[]
def EK:∀(l:List Int)(o:Int), -2<=o->o<=2->(∀s∈l, -1<=s/\s<=1)-> -2<=nw o l/\nw o l<=2
 |[],o,h1,h2,_=>⟨h1,h2⟩
 |s::l,o,h1,h2,h=>by
  have h3:=h s q';rw[nw];split
  .exact EK l s Z' Z' λx hx=>h x (F' _ hx)
  omega
def mX(l:List NR): -2<=Tj l/\Tj l<=2:=EK _ 2 U' U' λs hs=>by
 obtain⟨a,_,rfl⟩:=i'.1 hs;exact Yj a.i
def SC(ds:List Int)(cs:List NR):Int:=if fE ds cs=0 then Tj cs else 0
def LK(ds:List Int)(cs:List NR): -2<=SC ds cs/\SC ds cs<=2:=by
 unfold SC;split
 .exact mX cs
 decide
def JA(f:FX)(k:Nat)(w:World)(hT:Xc w)(h:f.at_ w)(hl:f.fh k):Calls prog 89 #[.agg #[.slice f.A f.n f.a,.slice f.B f.m f.b]] w λr w'=>r=.returned (.tuple #[.int .i64 (SC f.ds f.cs),.int .i64 f.e])/\Below w.heap.size w w':=by
 by_cases h0:f.e=0
 .have:=uu f k w hT h hl h0;rw[show SC f.ds f.cs=if f.e=0 then Tj f.cs else 0 from rfl,J' h0,h0];exact this
 rw[show SC f.ds f.cs=if f.e=0 then Tj f.cs else 0 from rfl,L' h0];have hh:=Hp.start w;have hc:=λw1 hT1 hb1=>wm f k w1 hT1 (h.ext hb1) hl;refine da (N:=13) (l:=[.agg #[.slice f.A f.n f.a,.slice f.B f.m f.b]]) func89 rfl rfl (by simp) ?_;refine Lb ?_;intro b1 w1 hh;refine Jy ?_;intro w6 hh;refine fa ?_;exact⟨rfl,hh.below⟩
def jL{ap d t k:Nat}{xs:List Dyadic}(h:∀x∈xs,Sz k x):∀i,∀y∈Tm ap d t xs i,Sz k y
 |0=>λy hy=>absurd hy O9
 |i+1=>λy hy=>by
  rw[QA] at hy;obtain hy|hy:=z_.1 hy
  .exact jL h i y hy
  split at hy
  .rw[S_.1 hy];exact aaa
  exact absurd hy O9
def DP(f:FX)(ax sd:Int):List Int:=if Pj f ax sd=0 then f.ds.eraseIdx ax.toNat else[]
def MP(f:FX)(ax sd:Int):List NR:=if Pj f ax sd=0 then(Tm (la (f.ns.drop (ax.toNat+1))) (f.ns.getD ax.toNat 0) (f.ns.getD ax.toNat 0*sd.toNat) (f.cs.map NR.ma) f.m).map nR else[]
def acC(f:FX)(ax sd:Int):Int:=SC (DP f ax sd) (MP f ax sd)
variable {n:Nat}
def Ps(f:FX)(i n:Nat):Bool:=decide (Pj f i 0=0/\f.n=n/\acC f i 0*acC f i 1= -1)
variable {fs:List FX}
def Vm(fs:List FX)(i:Nat):Bool:=match fs[i]? with|some f=>Ps f i fs.length|none=>true
def kj(fs:List FX):Bool:=(List.range fs.length).all (Vm fs) && decide (0<fs.length)
def XN{i:Nat}{f:FX}(h:fs[i]?=some f)(hc:Ps f i fs.length=false):kj fs=false:=by
 unfold kj;rw[B5];refine .inl (List.all_eq_false.2 ⟨i,h_.2 (X_.1 h).1, ?_⟩);unfold Vm;rw[h];simpa using hc
def Bk(A:Option Addr)(n c:Nat)(fs:List FX)(k:Nat)(w:World)(hT:Xc w)(hL:Sl w A n 2 (na FX.cells fs))(hn:n<=1000)(hf:∀f∈fs,f.at_ w/\f.fh k/\f.n<=f.a)(hk:k<=3000000):Calls prog 59 #[.slice A n c] w λr w'=>r=.returned (.bool (kj fs))/\Below w.heap.size w w':=by
 have hh:=Hp.start w;have hln:fs.length=n:=hL.Fa FX.len U';refine da (N:=60) (l:=[.slice A n c]) func59 rfl rfl (by simp) ?_;refine fa ?_;refine Ba [2,3,4,5,6,7,8,9,10,11,12,15,16,17,18,19,20,21,22,23,24,25,26,27,28,29,30,31,32,33,34,35,36,37,38,39,40,41,42,43,44,45,46,47,48,49,50,51,52,53,54,55,56] 15 (λv w'=>∃i:Nat,i<=n/\v=.int .i64 i/\(List.range i).all (Vm fs)=true/\Hp w [] w') (λv _=>n-(intOf v).toNat) ?_ ?_
 .exact⟨0,D' _,rfl,rfl,hh⟩
 clear hh;rintro ρ' v w' ⟨i,hi,rfl,hall,hh⟩;by_cases hlt:i<n
 .obtain⟨f,hx⟩:=ea (l:=fs) (k:=i) Z';obtain⟨f1,f2,f3⟩:=hf f (G' hx);obtain⟨ad,rfl,hr⟩:=hL.at_ Z';have hfn:=f2.n20;have hfa:∀sd:Int,∀w1,Xc w1->Below w.heap.size w w1->Calls prog 122 #[.agg #[.slice f.A f.n f.a,.slice f.B f.m f.b],.int .i64 (i:Int),.int .i64 sd] w1 λr w'=>∃g:FX,(g.ds=DP f i sd/\g.cs=MP f i sd/\g.fh k)/\r=.returned (.tuple #[.agg #[.slice g.A g.n g.a,.slice g.B g.m g.b],.int .i64 (Pj f i sd)])/\Hp w1 [g.ug,g.cg] w':=λsd w1 hT1 hb1=>by
   refine(sT f i sd k w1 hT1 (f1.ext hb1) f2 f3).mono λr w' ⟨g,o,hr,h3⟩=>⟨g,⟨o.ds,o.cs, ?_⟩,hr,h3⟩;obtain⟨l1,l2⟩:=(h3.Cj (f:=g) q' (F' _ q')).ln;obtain⟨l3,l4⟩:=f1.ln;have hds:g.ds.length<=f.ds.length:=by
    rw[o.ds];split
    .rw[List.length_eraseIdx];split<;>omega
    exact D' _
   have hcs:g.cs.length<=f.m:=by
    rw[o.cs];split
    .rw[Z_];exact acY
    exact D' _
   refine⟨by have:=f2.n20;omega,by have:=f2.m60;omega,λc hc=> ?_⟩;rw[o.cs] at hc;split at hc
   .obtain⟨x,hx2,rfl⟩:=i'.1 hc;have hz:=jL (k:=k) (xs:=f.cs.map NR.ma) (λy hy=>by
     obtain⟨z,hz,rfl⟩:=i'.1 hy;exact(f2.num z hz).2) _ x hx2
    exact⟨hz.ok Z',by rw[db];exact hz⟩
   exact absurd hc O9
  have hbad:=λh=>XN hx h;have hgood:Ps f i fs.length=true->(List.range (i+1)).all (Vm fs)=true:=λh=>(by rw[O8,l6,hall];simp[Vm,hx,h]);unfold Ps at hbad hgood;rw[hln] at hbad hgood;have hS0:=LK (DP f i 0) (MP f i 0);have hS1:=LK (DP f i 1) (MP f i 1);have hfa0:=hfa 0;have hfa1:=hfa 1;unfold acC at hbad hgood;generalize DP f i 0=D0 at*;generalize MP f i 0=C0 at*;generalize DP f i 1=D1 at*;generalize MP f i 1=C1 at*;generalize Pj f i 0=e0 at*;generalize Pj f i 1=e1 at*;clear hfa;refine fa ?_;refine Vx ?_;refine Tb ?_;intro b4 w4 hh ws hh;refine qa (hfa0 _ (hT.hp hh) hh.below) ja.out rfl U' ?_;rintro e_ w23 ⟨g,⟨g1,g2,g3⟩,rfl,h3⟩;refine⟨_,rfl, ?_⟩;replace hh:=hh.join h3;clear h3;simp only[C',E'] at hh;refine Tb ?_;intro b5 w5 hh ws hh;refine qa (hfa1 _ (hT.hp hh) hh.below) ja.out rfl U' ?_;rintro e_ w29 ⟨g',⟨g1',g2',g3'⟩,rfl,h3⟩;refine⟨_,rfl, ?_⟩;replace hh:=hh.join h3;clear h3;simp only[C',E'] at hh;by_cases h0:e0=0
  .by_cases h1:f.n=n
   .subst h0;refine Tb ?_;intro b7 w7 hh ws hh;have hs0:=JA g k _ (hT.hp hh) (hh.Cj (G' (i:=4) rfl) (G' (i:=5) rfl)) g3;rw[g1,g2] at hs0;refine Oa hh (hs0) rfl ?_;intro w44 hh;have hs1:=λw1 hT1 h1=>JA g' k w1 hT1 h1 g3';rw[g1',g2'] at hs1;generalize SC D0 C0=s0 at*;generalize SC D1 C1=s1 at*;have hm: -4<=s0*s1/\s0*s1<=4:=(by have:s0= -2\/s0= -1\/s0=0\/s0=1\/s0=2:=Z';obtain rfl|rfl|rfl|rfl|rfl:=this<;>omega);refine fa ?_;refine Oa hh (hs1 _ (hT.hp hh) (hh.Cj (G' (i:=1) rfl) (G' (i:=2) rfl))) rfl ?_;intro w49 hh;by_cases hc:s0*s1= -1
    .refine fa ?_;refine⟨⟨i+1,Z',rfl,hgood (N_ ⟨rfl,h1,hc⟩),hh.sub (R9 _)⟩,by show n-(i+1)<n-i;omega, ?_⟩;exact Sc
    refine fa ?_;exact⟨by rw[hbad (O_ λh=>hc h.2.2)],hh.below⟩
   subst h0;refine Tb ?_;intro b7 w7 hh ws hh;exact⟨by rw[hbad (O_ λh=>h1 h.2.1)],hh.below⟩
  refine Tb ?_;intro b7 w7 hh ws hh;exact⟨by rw[hbad (O_ λh=>h0 h.1)],hh.below⟩
 obtain rfl:n=i:=Z';unfold kj;rw[hln,hall];by_cases h0:n=0
 .refine fa ?_;exact⟨by rw[O_ Z'];rfl,hh.below⟩
 refine fa ?_;exact⟨by rw[N_ Z'];rfl,hh.below⟩
structure aR(d:FD):Prop where
 d12:d.1.length<=12
 d127:∀x∈d.1,x<=127
 lx:d.2.length=la d.1
 AN:la d.1<=4096
 zx:∀x∈d.2,Sz 1002000 x
def abM(D:List Nat)(X:List Dyadic):(TP D X).ns=D:=Jh D
variable {q:Nat}
def ab4{ds:List FD}{l:List NR}(h:Mb (pf ds l)=0)(hz:∀d∈ds,Zx k d)(hn:ds.length<=100)(hl:∀a∈l,Sz q a.ma)(hk:k+q<=90000):aR (Gy ds l):=by
 have hmem:∀f∈pf ds l,∃d∈ds,∃Y:List Dyadic,f=TP d.1 Y/\Y.length=la d.1/\∀x∈Y,Sz 90000 x:=λf hf=>by
  unfold pf at hf;obtain⟨i,hi⟩:=j_.1 hf;rw[J8] at hi
  cases h1:ds[i]? with
  |none=>rw[h1] at hi;cases hi
  |some d=>
   cases h2:l[i]? with
   |none=>rw[h1,h2] at hi;cases hi
   |some a=>
    rw[h1,h2] at hi;have hd:=G' h1;refine⟨d,hd,_,(L_ hi).symm,by rw[Z_];exact(hz d hd).lx,λx hx=> ?_⟩;obtain⟨y,hy,rfl⟩:=i'.1 hx;exact(((hz d hd).zx y hy).mul (hl a (G' h2))).mono hk
 have hln:∀f∈pf ds l,f.ds.length=f.n:=λf hf=>(by obtain⟨d,_,Y,rfl,_,_⟩:=hmem f hf;exact Kc _);obtain⟨hlk,_,h4⟩:=Uz h hln;obtain⟨hne,mm,_⟩:=Ur hlk;have hmx:=UD hlk hln;have hup:∀f∈pf ds l,(Oi (maxD (pf ds l)) f).length=la (maxD (pf ds l))/\∀x∈Oi (maxD (pf ds l)) f,Sz 1000000 x:=λf hf=>by
  obtain⟨h1,h2,h3⟩:=hmx f hf;refine⟨pN h1 h2, ?_⟩;have he:=mm f hf;obtain⟨d,hd,Y,rfl,hY,hYz⟩:=hmem f hf;have g:=hz d hd;have hc:(TP d.1 Y).cs.length<=200:=(by show(Y.map nR).length<=200;rw[Z_,hY];exact g.AN);refine AU (k:=90000) ⟨?_, ?_,λc hc2=> ?_⟩ he hc U' h1 h3 h4
  .show d.1.length<=1000;have:=g.d12;omega
  .show Y.length<=100000;have:=g.AN;omega
  obtain⟨x,hx,rfl⟩:=i'.1 hc2;exact⟨(hYz x hx).ok U',by rw[db];exact hYz x hx⟩
 unfold Gy;have hml:(pf ds l).length<=100:=(by unfold pf;rw[p7];omega);generalize maxD (pf ds l)=D at*;obtain⟨f0,ft,e⟩:=L6 hne;rw[e] at hup hmx hmem hml |-;obtain⟨d,hd,Y,hf0,_,_⟩:=hmem f0 q';obtain⟨h1,_,h3⟩:=hmx f0 q';have hD12:D.length<=12:=(by rw[h1,hf0,abM];exact(hz d hd).d12);obtain⟨u1,u2⟩:=hup f0 q';refine⟨hD12,h3, ?_,h4,λx hx=> ?_⟩
 .show(((ft.map (Oi D)).foldl Jj (Oi D f0))).length=_;rw[cw _ _ λy hy=>by
   obtain⟨f,hf,rfl⟩:=i'.1 hy;rw[(hup f (F' _ hf)).1,u1]]
  exact u1
 have:=RD (k:=1000000) (ft.map (Oi D)) (Oi D f0) 0 u2 (λy hy z hz2=>by
  obtain⟨f,hf,rfl⟩:=i'.1 hy;exact(hup f (F' _ hf)).2 z hz2) x hx
 refine this.mono ?_;rw[Z_];rw[E_] at hml;omega
variable {rs:List (List NR)}
def rO{ds:List FD}(h:wu ds rs=0):∀r∈rs,Mb (pf ds r)=0:=λr hr=>by
 unfold wu at h
 cases hf:rs.find? (λr=>decide (Mb (pf ds r)≠0)) with
 |some q=>
  rw[hf] at h;have:=K6 hf;exact absurd h (D9 this)
 |none=>
  have:=Q7.1 hf r hr;simpa using this
def aco{L:List (List NR)}(hl:L.length=n)(hn:n<=3)(hr:∀l∈L,l.length=n)(hz:∀l∈L,∀a∈l,Sz q a.ma):∀l∈Ux L n,∀a∈l,Sz (16*q+32) a.ma:=λl hl2 a ha=>by
 unfold Ux mO at hl2;obtain⟨i,hi,rfl⟩:=i'.1 hl2;obtain⟨j,hj,rfl⟩:=i'.1 ha;rw[db];exact(VJ hl hn hr hz (h_.1 hi) (h_.1 hj)).2
variable {ps:List PX}
def nU{b:List SR}{ds:List FD}(h:ar ps b ds=0)(hz:∀d∈ds,Zx k d)(hn:ds.length<=100)(hp:ps.length<=3)(hb:b.length=ps.length)(hs:∀l∈Lm ps b,∀a∈l,Sz q a.ma)(hk:k+(16*q+32)<=90000):∀d∈ur ps b ds,aR d:=λd hd=>by
 unfold ur at hd;obtain⟨r,hr,rfl⟩:=i'.1 hd;unfold ar at h;split at h
 .cases h
 refine ab4 (rO h r hr) hz hn (aco (by unfold Lm;rw[Z_]) hp (λl hl=> ?_) hs r hr) hk;unfold Lm Hk at hl;obtain⟨p,_,rfl⟩:=i'.1 hl;rw[Z_,q9];unfold cq;rw[M7];exact hb
structure Ord{α:Type}(lt:α->α->Bool):Prop where
 irr:∀a,lt a a=false
 tr:∀a b c,lt b a=false->lt c b=false->lt c a=false
 as:∀a b,lt a b=true->lt b a=false
def Kid(i k:Nat):Prop:=k=2*i+1\/k=2*i+2
variable {α:Type}{lt:α->α->Bool}
def ahr(lt:α->α->Bool)(s:Nat)(L:List α):Prop:=∀i k a b,s<=i->Kid i k->L[i]?=some a->L[k]?=some b->lt b a=false
def swp(L:List α)(i k:Nat):List α:=match L[i]?,L[k]? with
 |some a,some b=>(L.set i b).set k a
 |_,_=>L
structure ahi(lt:α->α->Bool)(s at_:Nat)(L:List α):Prop where
 ge:s<=at_
 h1:∀i k a b,s<=i->Kid i k->i≠at_->L[i]?=some a->L[k]?=some b->lt b a=false
 h2:∀p k a b,s<=p->Kid p at_->Kid at_ k->L[p]?=some a->L[k]?=some b->lt b a=false
structure ag1(lt:α->α->Bool)(at_:Nat)(L:List α):Prop where
 h1:∀i k a b,Kid i k->k≠at_->L[i]?=some a->L[k]?=some b->lt b a=false
 h2:∀p k a b,Kid p at_->Kid at_ k->L[p]?=some a->L[k]?=some b->lt b a=false
def Ix(Q:Kq):Kq
 |.goto _,_,_=>False
 |e,ρ,w=>Q e ρ w
variable {Q:Kq}
def gW{c:Code}(h:WC .plain P N c (Ix Q) ρ w):WC .plain P N (.scope c) Q ρ w:=
 WC.kn λa hf=>wp_scope_straight (wp_mono (h.out a hf) λe a' w' ⟨ρ',hf',hq⟩=>by
  cases e with
  |goto l=>exact hq.elim
  |_=>exact⟨ρ',hf',hq⟩)
def IW(h:Q .normal ρ w):Ix Q .normal ρ w:=h
def abn(h:Q .ret ρ w):Ix Q .ret ρ w:=h
def HX{id:Nat}(h:Q (.exit id) ρ w):Ix Q (.exit id) ρ w:=h
def Bb(h:NP Q):NP (Ix Q):=λc ρ w hq=>h c ρ w hq
structure Ent(α:Type) where
 k:NR
 t:Int
 x:α
def EI.cells(e:Ent Int):List Value:=[.bool e.k.neg,.string e.k.Qa,.int .i64 e.k.e,.int .i64 e.t,.int .i64 e.x]
def ES.cells(e:Ent ByteArray):List Value:=[.bool e.k.neg,.string e.k.Qa,.int .i64 e.k.e,.int .i64 e.t,.string e.x]
def ah{α:Type}(a b:Ent α):Bool:=decide (a.k.ma<b.k.ma\/a.k.ma=b.k.ma/\a.t<b.t)
def Uj(ps:List PX)(b:List SR):List FD:=ps.map λp=>(Cc p.v p.ts,Wo (Cc p.v p.ts) (Ad p (lb b)).2)
def Wj(ds:List FD):Bool:=ds.any λd=>decide (Tj (d.2.map nR)≠0)
def qg(ps:List PX)(b:List SR):Bool:=decide (ar ps b (Uj ps b)=0) && kj ((ur ps b (Uj ps b)).map λd=>TP d.1 d.2)
def Ni(b:List SR)(a:Nat)(s:SR)(u:Bool):List SR:=(b.map SR.f).set a (s.f.half (nR s.f.Ch) u)
structure ZB where
 A:Option Addr
 n:Nat
 c:Nat
 b:List SR
def ZB.cells(x:ZB):List Value:=[.slice x.A x.n x.c]
def ZB.len:∀x:ZB,x.cells.length=1:=λ_=>rfl
def ZB.row(x:ZB):HE:=.row x.A x.n x.c 36 6 (na SR.cells x.b)
structure ZV where
 k:Int
 b:List SR
 r:Dyadic
structure ZX where
 k:Int
 x:ZB
 r:Dyadic
def ZX.v(z:ZX):ZV:=⟨z.k,z.x.b,z.r⟩
def ZX.cells(z:ZX):List Value:=.int .i64 z.k::.slice z.x.A z.x.n z.x.c::NR.cells (nR z.r)
def ZX.len:∀x:ZX,x.cells.length=5:=λ_=>rfl
structure bE(ps:List PX)(b:List SR):Prop where
 sq:Ks ps b=0
 gr:∀p∈ps,um p b (gm p [])=0->Te (400+400+16394) (Cc p.v p.ts) (400+1)<=440000
 bx:∀s∈b,s.fin 400
 fd:∀d∈Uj ps b,Zx 47000 d
 sl:∀l∈Lm ps b,∀a∈l,a.ok/\Sz 2600 a.ma
 ln:b.length=ps.length
def Ss(ps:List PX)(tol:Dyadic)(p bu:Int):Nat->Nat->List (List SR)->List ZV->List ZV->Int->Int->Prop
 |_,n,[],l,R,k,e=>R=l/\k=n/\e=0
 |0,_,_::_,_,_,_,_=>False
 |f+1,n,b::st,l,R,k,e=>if bu<(n+1:Nat) then R=[]/\k=0/\e=3 else bE ps b/\
   if Wj (Uj ps b)=true then Ss ps tol p bu f (n+1) st l R k e
   else if qg ps b=true then Ss ps tol p bu f (n+1) st (l++[⟨1,b,yi p (Uj ps b)⟩]) R k e
   else ∃(a:Nat)(s:SR),(∀v,Cm b v->v=(a:Int))/\b[a]?=some s/\
    if s.hi.ma-s.lo.ma<tol then Ss ps tol p bu f (n+1) st (l++[⟨2,b,yi p (Uj ps b)⟩]) R k e
    else Ss ps tol p bu f (n+1) (Ni b a s false::Ni b a s true::st) l R k e
def Yo(ps:List PX)(b:List SR)(tol:NR)(p bu:Int)(f:Nat)(R:List ZV)(k e:Int):Prop:=
 if Ks ps b≠0 then R=[]/\k=0/\e=Ks ps b else if tol.i.sign<=0 then R=[]/\k=0/\e=1 else Ss ps tol.ma p bu f 0 [b.map SR.f] [] R k e
def EO{g h:FX}(h1:g.ds=h.ds)(h2:g.cs=h.cs)(h3:g.n=h.n)(h4:g.m=h.m)(i n:Nat):Ps g i n=Ps h i n:=by
 obtain⟨A,n1,a,B,m,b,ds,cs⟩:=g;obtain⟨A',n',a',B',m',b',ds',cs'⟩:=h;obtain rfl:ds=ds':=h1;obtain rfl:cs=cs':=h2;obtain rfl:n1=n':=h3;obtain rfl:m=m':=h4;rfl
def wA{gs hs:List FX}(hl:gs.length=hs.length)(h:∀(i:Nat)(g k:FX),gs[i]?=some g->hs[i]?=some k->g.ds=k.ds/\g.cs=k.cs/\g.n=k.n/\g.m=k.m):kj gs=kj hs:=by
 have hu:Vm gs=Vm hs:=by
  funext i;unfold Vm;rw[hl];by_cases hi:i<hs.length
  .obtain⟨k,hk⟩:=ea (l:=hs) (k:=i) hi;obtain⟨g,hg⟩:=ea (l:=gs) (k:=i) Z';rw[hk,hg];obtain⟨a,b,c,d⟩:=h i g k hg hk;exact EO a b c d _ _
  rw[r_ Z',r_ Z']
 unfold kj;rw[hl,hu]
def zO(ps:List PX)(b:List SR)(ds:List FD):(ur ps b ds).length=ps.length:=by
 unfold ur Ux;rw[Z_,Z_,q9]
def ael(L:Option Addr)(n c:Nat)(ps:List PX)(x:ZB)(hT:Xc w)(hL:Sl w L n 2 (na PX.cells ps))(hn:n<=3)(hp:∀p∈ps,p.at_ w/\p.fh 400)(hB:Sl w x.A x.n 6 (na SR.cells x.b))(hz:bE ps x.b):Calls prog 71 #[.slice L n c,.slice x.A x.n x.c] w λr w'=>∃(A:Option Addr)(a:Nat)(fs:List FX)(R:List HE),r=.returned (.tuple #[.slice A n a,.int .i64 0])/\fs.length=n/\(∀(i:Nat)(f:FX)(d:FD),fs[i]?=some f->(Uj ps x.b)[i]?=some d->f.is d.1 d.2)/\(∀f∈fs,f.ug∈R/\f.cg∈R)/\Hp w (.row A n a 78 2 (na FX.cells fs)::R) w':=by
 have hln:ps.length=n:=hL.Fa PX.len U';have hbl:x.b.length=x.n:=hB.Fa SR.len U';have hxl:=hz.ln;refine(Yq L n c ps x.A x.n x.c x.b 400 w hT hL Z' (λp h=>⟨(hp p h).1,(hp p h).2,hz.gr p h⟩) hB hz.bx Z' U').mono λr w' h=> ?_;obtain⟨h,_⟩|⟨_,A,a,fs,R,h1,h2,h3,h4,h5⟩:=h
 .exact absurd hz.sq h
 refine⟨A,a,fs,R,h1,h2,λi f d e1 e2=> ?_,h4,h5⟩;unfold Uj at e2;rw[V_] at e2
 cases hpi:ps[i]? with
 |none=>rw[hpi] at e2;cases e2
 |some p=>
  rw[hpi] at e2;obtain rfl:=L_ e2;exact h3 i p f hpi e1
def Ku(L:Option Addr)(n c:Nat)(ps:List PX)(B:Option Addr)(m cb:Nat)(b:List SR)(tol:NR)(p bu:Int)(f D:Nat)(R:List ZV)(k e:Int)(w:World)(hT:Xc w)(hL:Sl w L n 2 (na PX.cells ps))(hn:n<=3)(hp:∀p∈ps,p.at_ w/\p.fh 400)(hg:Ks ps b=0->∀p∈ps,p.v=n/\Am p.v 400 100 D p.ts)(hB:Sl w B m 6 (na SR.cells b))(hm:m<=1000000)(hb:∀s∈b,s.fin 400)(hgr:∀p∈ps,um p b (gm p [])=0->Te (400+400+16394) (Cc p.v p.ts) (400+1)<=440000)(ht:tol.ok)(hp1: -1000<=p)(hp2:p<=1000)(hb1: -9223372036854775808<=bu)(hb2:bu<=10000)(hR:Yo ps b tol p bu f R k e):Calls prog 21 #[.slice L n c,.slice B m cb,.agg #[.bool tol.neg,.string tol.Qa,.int .i64 tol.e],.int .i64 p,.int .i64 bu] w λr w'=>∃(G:Option Addr)(c':Nat)(xs:List ZX)(HR:List HE),r=.returned (.tuple #[.slice G xs.length c',.int .i64 k,.int .i64 e])/\xs.map ZX.v=R/\(∀x∈xs,x.x.row∈HR)/\Hp w (.row G xs.length c' 60 5 (na ZX.cells xs)::HR) w':=by
 have hh:=Hp.start w;have hln:ps.length=n:=hL.Fa PX.len U';have hsq:=λw1 hT1 hb1=>Yq L n c ps B m cb b 400 w1 hT1 (hL.ext hb1) Z' (λp h=>⟨(hp p h).1.ext hb1,(hp p h).2,hgr p h⟩) (hB.ext hb1) hb hm U';unfold Yo at hR;by_cases hE:Ks ps b≠0
 .rw[J' hE] at hR;obtain⟨rfl,rfl,rfl⟩:=hR;replace hsq:=λw1 hT1 hb1=>(hsq w1 hT1 hb1).mono λr w' h=>h.elim (λh=>h.2) λh=>absurd h.1 hE;refine fW ?_;refine Lb ?_;intro b7 w7 hh;refine qa (hsq _ (hT.hp hh) hh.below) ja.out rfl U' ?_;rintro e_ w32 ⟨rfl,hb_⟩;refine⟨_,rfl, ?_⟩;replace hh:=hh.ext hb_;generalize Ks ps b=E at*;exact acF
 rw[L' hE] at hR;replace hE:Ks ps b=0:=S7.1 hE;replace hsq:∀w1,Xc w1->Below w.heap.size w w1->Calls prog 71 #[.slice L n c,.slice B m cb] w1 λr w'=>∃(A:Option Addr)(a:Nat),r=.returned (.tuple #[.slice A n a,.int .i64 0])/\Below w1.heap.size w1 w':=λw1 hT1 hb1=>(hsq w1 hT1 hb1).mono λr w' h=>h.elim (λh=>absurd hE h.1) λ⟨_,A,a,_,_,h1,_,_,_,h5⟩=>⟨A,a,h1,h5.below⟩;by_cases hs:tol.i.sign<=0
 .rw[J' hs] at hR;obtain⟨rfl,rfl,rfl⟩:=hR;have hsb:=Yj tol.i;have hsg:=λw1=>Qc tol w1;generalize tol.i.sign=sg at*;refine fW ?_;refine Lb ?_;intro b7 w7 hh;refine qa (hsq _ (hT.hp hh) hh.below) ja.out rfl U' ?_;rintro e_ w32 ⟨Aq,aq,rfl,hb_⟩;refine⟨_,rfl, ?_⟩;replace hh:=hh.ext hb_;refine fa ?_;refine qa (hsg _) ja.out rfl U' ?_;rintro e_ w39 ⟨rfl,hb_⟩;refine⟨_,rfl, ?_⟩;replace hh:=hh.ext hb_;exact acF
 rw[L' hs] at hR;have hsb:=Yj tol.i;have hsg:=λw1=>Qc tol w1;generalize tol.i.sign=sg at*;refine fW ?_;refine Lb ?_;intro b7 w7 hh;refine qa (hsq _ (hT.hp hh) hh.below) ja.out rfl U' ?_;rintro e_ w32 ⟨Aq,aq,rfl,hb_⟩;refine⟨_,rfl, ?_⟩;replace hh:=hh.ext hb_;refine fa ?_;refine qa (hsg _) ja.out rfl U' ?_;rintro e_ w39 ⟨rfl,hb_⟩;refine⟨_,rfl, ?_⟩;replace hh:=hh.ext hb_;refine fa ?_;refine qa (dk B m cb b _ (hT.hp hh) (hB.ext hh.below) (λs h=>⟨(hb s h).1.ok,(hb s h).2.ok⟩) hm) ja.out rfl U' ?_;rintro e_ w42 ⟨A42,c42,rfl,hown_,hb_⟩;refine⟨_,rfl, ?_⟩;replace hh:=hh.Aa (x:=.row _ _ _ _ _ _) hb_ hown_;refine DE ?_;intro b43 w43 hh;refine fa ?_;replace hh:=hh.Nb 60 5;replace hh:=hh.perm (P_ (l₁:=[_,_,_]));simp only[C',E'] at hh;replace hh:=hh.perm (P_ (l₁:=[_,_]));simp only[C',E'] at hh;replace hh:=hh.perm (P_ (l₁:=[_,_]));simp only[C',E'] at hh;have hgd:=hg hE;have hnb:∀x:ZB,bE ps x.b->0<x.b.length:=λx hz=>by
  have h1:=hz.sq;have h2:=hz.ln;rw[h2];refine Nat.pos_of_ne_zero λh=> ?_;unfold Ks at h1;split at h1
  .rename_i q hq;have:=K6 hq;exact D9 this h1
  rw[J' (.inl h)] at h1;cases h1
 refine Qx [10,11,12,15,16,17,18,19,20,21,22,23,24,25,26,27,28,44,45,46,47,48,49,50,51,52,53,54,55,56,57,58,59,60,61,62,63,64,65,66,67,68,69,70,71,72,73,74,75,76,77,78,79,80,81,82,83,84,85,86,87,88,89,90,91,92,93,94,95,96,97,98,99,100,101,102,103,104,105,106,107,108,109,110,111,112,113,114,115,116,117,118,119,120,121,122,123,124,125,126,127,128,129,130,131,132,133,134] 15 16 17 (λv15 v16 v17 w'=>∃(i fu:Nat)(xs:List ZB)(ls:List ZX)(A1:Option Addr)(c1:Nat)(T:Option Addr)(tn c2:Nat)(Rw:List HE),v15=.slice A1 ls.length c1/\v16=.int .i64 i/\v17=.slice T tn c2/\xs.length=tn/\Ss ps tol.ma p bu fu i (xs.map ZB.b) (ls.map ZX.v) R k e/\(∀x∈xs,x.row∈Rw/\x.n=x.b.length)/\(∀x∈ls,x.x.row∈Rw)/\ls.length<=i/\(i:Int)<=max bu 0/\tn<=i+1/\Hp w (.row A1 ls.length c1 60 5 (na ZX.cells ls)::.row T tn c2 26 1 (na ZB.cells xs.reverse)::.blk b7 30 [.bool tol.neg,.string tol.Qa,.int .i64 tol.e] (0,0)::Rw) w') (λ_ v _ _=>(max bu 0+1).toNat-(intOf v).toNat) ?_ ?_
 .have hml:m=(b.map SR.f).length:=by rw[Z_];exact(hB.Fa SR.len U').symm
  exact⟨0,f,[⟨A42,m,c42,b.map SR.f⟩],[],none,0,_,1,_,_,rfl,rfl,rfl,rfl,hR,λx hx=>by rw[S_.1 hx];exact⟨q',hml⟩,λx h=>absurd h O9,j' _,Z',Z',hh⟩
 clear hh;rintro ρ' v15 v16 v17 w' ⟨i,fu,xs,ls,A1,c1,T,tn,c2,Rw,rfl,rfl,rfl,htn,hE2,hxs,hls,hli,hib,hxl,hh⟩
 cases xs with
 |nil=>
  obtain rfl:tn=0:=htn.symm;obtain⟨rfl,rfl,rfl⟩:R=ls.map ZX.v/\k=i/\e=0:=by cases fu<;>exact hE2
  refine fa ?_;exact⟨A1,c1,ls,Rw,rfl,rfl,hls,hh.sub (.cons_cons _ (.cons _ (.cons _ (A_ _))))⟩
 |cons x r=>
  obtain rfl:tn=r.length+1:=htn.symm
  cases fu with
  |zero=>exact absurd hE2 id
  |succ fu=>
   rw[o_,Ss] at hE2;by_cases hbu:bu<(i+1:Nat)
   .rw[J' hbu] at hE2;obtain⟨rfl,rfl,rfl⟩:=hE2;exact acF
   rw[L' hbu] at hE2;obtain⟨hz,hE2⟩:=hE2;have hn0:=hnb x hz;obtain⟨hmx,hxn⟩:=hxs x q';obtain⟨ix,hix⟩:=j_.1 hmx;obtain⟨xA,xn,xc,xb⟩:=x;replace hxn:xn=xb.length:=hxn;replace hz:bE ps xb:=hz;replace hn0:0<xb.length:=hn0;obtain⟨gx,rfl⟩:=hh.Pb (i:=ix+3) (show(_::_::_::Rw)[ix+3]?=some (.row xA xn xc 36 6 (na SR.cells xb)) from hix) Z';clear hix;have hzl:=hz.ln;obtain rfl:xn=n:=Z';have hget:(⟨some ⟨gx,0,none⟩,xn,xc,xb⟩::r:List ZB).reverse[r.length]?=some ⟨some ⟨gx,0,none⟩,xn,xc,xb⟩:=by rw[K7,H9 (by simp),c_,d_];rfl
   obtain⟨gTd,rfl⟩:=hh.Pb (i:=1) rfl Z';refine Xa (sr (mL (Ym ?_)));refine dw (sa (cT (nc (Xb (Oe (Xa (sr (mI ?_))))))));refine mj (aI (sa (sr (mI (mI ?_)))));refine dw (sa (cF (nc (Xb (sr (mL (mL (Ym ?_))))))));refine bq ?_;refine Sd (k:=r.length) mb.out ya.size rfl rfl Z' Z' U' ?_;refine ub ya.out rfl (hh.Jd (f:=ZB.cells) (x:=⟨some ⟨gx,0,none⟩,xn,xc,xb⟩) (l:=(⟨some ⟨gx,0,none⟩,xn,xc,xb⟩::r:List ZB).reverse) (i:=1) rfl ZB.len U' hget 0 _ rfl) U' ?_;have hcap:=hh.pe (i:=1) rfl;refine fa ?_;refine jn (h:=r.length) mb.out ya.size rfl rfl Z' Z' U' ?_;refine fa ?_;replace hh:=hh.perm (P_ (l₁:=[_]));simp only[C',E'] at hh;replace hh:=hh.dD (k:=r.length) Z';rw[Oh ZB.len,show(⟨some ⟨gx,0,none⟩,xn,xc,xb⟩::r:List ZB).reverse.take r.length=r.reverse by simp] at hh;have hmh:∀H1:List HE,(∀y∈Rw,y∈H1)->(⟨some ⟨gx,0,none⟩,xn,xc,xb⟩:ZB).row∈H1:=λH1 h=>h _ hmx
   refine qa (ael L xn c ps ⟨some ⟨gx,0,none⟩,xn,xc,xb⟩ (hT.hp hh) (hL.ext hh.below) hn (λp h=>⟨(hp p h).1.ext hh.below,(hp p h).2⟩) (lf (hh.own _ (F' _ (F' _ (F' _ hmx))))) hz) ja.out rfl U' ?_;rintro e_ w66 ⟨Af,af,fs,Rf,rfl,hfl,hfs,hRf,h3⟩;refine⟨_,rfl, ?_⟩;replace hh:=hh.join h3;clear h3;replace hh:=hh.perm R6;simp only[C',E'] at hh;have hfd:(Uj ps xb).length=xn:=by unfold Uj;rw[Z_];omega
   have hF:∀(w1:World)(H1:List HE),Hp w H1 w1->(∀y∈Rw++.row Af xn af 78 2 (na FX.cells fs)::Rf,y∈H1)->Sl w1 (some ⟨gx,0,none⟩) xn 6 (na SR.cells xb)/\Sl w1 Af xn 2 (na FX.cells fs)/\∀f∈fs,f.at_ w1:=λw1 H1 h hm=>⟨lf (h.own _ (hm _ (z9 _ hmx))),lf (h.own _ (hm _ (T8 _ q'))),λf hf=>h.Cj (hm _ (T8 _ (F' _ (hRf f hf).1))) (hm _ (T8 _ (F' _ (hRf f hf).2)))⟩;have hfg:∀f∈fs,∃d:FD,f.is d.1 d.2/\Zx 47000 d:=λf hf=>(by obtain⟨j,hj⟩:=j_.1 hf;obtain⟨d,hd⟩:=ea (l:=Uj ps xb) (k:=j) (by have:=(X_.1 hj).1;omega);exact⟨d,hfs j f d hj hd,hz.fd d (G' hd)⟩);have hno:=λw1 hT1 hS1 ha1=>qG Af xn af fs 47000 w1 hT1 hS1 Z' ha1 (λf hf=>by
    obtain⟨d,h1,h2⟩:=hfg f hf;exact h1.fh (ha1 f hf) h2.d12 h2.lx (by have:=h2.AN;omega) h2.zx U') λf hf=>by
    obtain⟨d,h1,h2⟩:=hfg f hf;exact h1.e h2.d12 h2.d127 h2.lx (by have:=h2.AN;omega)
   have hcs:fs.map FX.cs=(Uj ps xb).map λd=>d.2.map nR:=by
    refine U9 λj=> ?_;rw[V_,V_];by_cases hj:j<xn
    .obtain⟨f,hf⟩:=ea (l:=fs) (k:=j) Z';obtain⟨d,hd⟩:=ea (l:=Uj ps xb) (k:=j) Z';rw[hf,hd];exact J_ some (hfs j f d hf hd).cs
    rw[r_ Z',r_ Z'];rfl
   rw[show(fs.any λf=>decide (Tj f.cs≠0))=Wj (Uj ps xb) by
    unfold Wj;have:=J_ (λl=>l.any λc=>decide (Tj c≠0)) hcs;rw[List.any_map,List.any_map] at this;exact this] at hno
   refine fa ?_;obtain⟨f1,f2,f3⟩:=hF _ _ hh λy hy=>F' _ (F' _ (F' _ hy));refine qa (hno _ (hT.hp hh) f2 f3) ja.out rfl U' ?_;rintro e_ w75 ⟨rfl,hb_⟩;refine⟨_,rfl, ?_⟩;replace hh:=hh.ext hb_;clear f1 f2 f3;by_cases hnn:Wj (Uj ps xb)=true
   .rw[J' hnn] at hE2;rw[hnn];refine fa ?_;replace hh:=hh.perm (P_ (l₁:=[_,_]));simp only[C',E'] at hh;replace hh:=hh.perm (P_ (l₁:=[_]));simp only[C',E'] at hh;replace hh:=hh.perm (P_ (l₁:=[_,_]));simp only[C',E'] at hh;refine⟨⟨i+1,fu,r,ls,A1,c1,_,r.length,c2,_,rfl,rfl,rfl,rfl,hE2,λy hy=>⟨z9 _ (hxs y (F' _ hy)).1,(hxs y (F' _ hy)).2⟩,λy hy=>z9 _ (hls y hy),Z',Z',Z',hh⟩,by show(max bu 0+1).toNat-(i+1)<(max bu 0+1).toNat-i;omega, ?_⟩;exact Sc
   rw[L' hnn] at hE2;rw[Bool.not_eq_true] at hnn;rw[hnn];have hrs:=λw1 hT1 hS1 ha1=>kJ Af xn af fs (Uj ps xb) p 47000 w1 hT1 hS1 Z' ha1 hfd (λj f d h1 h2=>by
    have g:=hz.fd d (G' h2);exact⟨hfs j f d h1 h2,g.d12,g.d127,g.lx,by have:=g.AN;omega,g.zx⟩) U' U' hp1 hp2
   have htu:=λw1 hT1 hb1 hS1 hS2 ha1=>iD L xn c ps (some ⟨gx,0,none⟩) xc xb Af af fs (Uj ps xb) 47000 2600 400 D w1 hT1 (hL.ext hb1) hn (λp h=>⟨(hp p h).1.ext hb1,(hp p h).2,(hgd p h).1,(hgd p h).2⟩) hS1 hz.bx U' hS2 ha1 hfd hfs hz.fd hz.sl U';generalize hrd:yi p (Uj ps xb)=rd at*;refine fa ?_;obtain⟨f1,f2,f3⟩:=hF _ _ hh λy hy=>F' _ (F' _ (F' _ hy));refine qa (Bz (some ⟨gx,0,none⟩) xn xc xb 400 _ (hT.hp hh) f1 hz.bx Z' U') ja.out rfl U' ?_;rintro e_ w77 ⟨⟨wa,rfl,hwa⟩,hb_⟩;refine⟨_,rfl, ?_⟩;replace hh:=hh.ext hb_;refine fa ?_;clear f1 f2 f3;obtain⟨f1,f2,f3⟩:=hF _ _ hh λy hy=>F' _ (F' _ (F' _ hy));refine qa (hrs _ (hT.hp hh) f2 f3) ja.out rfl U' ?_;rintro e_ w81 ⟨rfl,hb_⟩;refine⟨_,rfl, ?_⟩;replace hh:=hh.ext hb_;refine Tb ?_;intro b22 w22 hh ws hh;clear f1 f2 f3;obtain⟨f1,f2,f3⟩:=hF _ _ hh λy hy=>F' _ (F' _ (F' _ (F' _ hy)));by_cases hte:ar ps xb (Uj ps xb)=0
   .replace htu:=(htu _ (hT.hp hh) hh.below f1 f2 f3).mono λr w' h=>h.elim (λh=>absurd hte h.1) λh=>h.2;have htx:=nU hte hz.fd Z' Z' hzl (λl hl a ha=>(hz.sl l hl a ha).2) U';have htl:=zO ps xb (Uj ps xb);refine qa (htu) ja.out rfl U' ?_;rintro e_ w88 ⟨Ag,ag,gs,Rg,rfl,hgl,hgs,hRg,h3⟩;refine⟨_,rfl, ?_⟩;have hgd2:∀(j:Nat)(g:FX),gs[j]?=some g->∃d,(ur ps xb (Uj ps xb))[j]?=some d/\g.is d.1 d.2/\aR d:=λj g h1=>(by obtain⟨d,hd⟩:=ea (l:=ur ps xb (Uj ps xb)) (k:=j) (by have:=(X_.1 h1).1;omega);exact⟨d,hd,hgs j g d h1 hd,htx d (G' hd)⟩);have hct:qg ps xb=kj gs:=(by unfold qg;rw[hte];refine(Bool.true_and _).trans (wA (by rw[Z_];omega) λj g k h1 h2=> ?_).symm;obtain⟨d,hd,hi,_⟩:=hgd2 j g h1;rw[V_,hd] at h2;obtain rfl:=L_ h2;have ha:=h3.Cj (f:=g) (F' _ (hRg g (G' h1)).1) (F' _ (hRg g (G' h1)).2);exact⟨hi.ds,hi.cs,(hi.key ha).1,(hi.key ha).2⟩);have hcc:=λw1 (hb1:Below w88.heap.size w88 w1) hT1=>Bk Ag xn ag gs 1002000 w1 hT1 (Sl.ext (h3.ra (i:=0) rfl) hb1) Z' (λg hg=>by
     obtain⟨m1,m2⟩:=hRg g hg;obtain⟨j,hj⟩:=j_.1 hg;obtain⟨d,_,hi,gd⟩:=hgd2 j g hj;obtain⟨i1,hi1⟩:=j_.1 m2;have ha:=h3.Cj (f:=g) (F' _ m1) (F' _ m2);exact⟨ha.ext hb1,hi.fh ha gd.d12 gd.lx gd.AN gd.zx U',h3.pe (i:=i1+1) hi1⟩) U'
    rw[<-hct] at hcc;have h88:=h3.below;replace hh:=hh.ext h3.below;clear h3 f1 f2 f3 hgd2 hgs hRg
    cases hcr:qg ps xb with
    |true=>
     rw[J' hcr] at hE2;rw[hcr] at hcc;refine fa ?_;refine qa (hcc _ (Below.refl _ _) (hT.hp hh)) ja.out rfl U' ?_;rintro e_ w95 ⟨rfl,hb_⟩;refine⟨_,rfl, ?_⟩;replace hh:=hh.ext hb_;refine fa ?_;refine ZQ ?_;intro b101 w101 hh;refine lH ?_;intro A102 c102 w102 hh;simp only[U_,G_] at hh;replace hh:=hh.sub (s_ _ _);refine fa ?_;replace hh:=hh.perm (P_ (l₁:=[_,_,_]));simp only[C',E'] at hh;replace hh:=hh.perm (P_ (l₁:=[_,_]));simp only[C',E'] at hh;replace hh:=hh.perm (P_ (l₁:=[_,_,_]));simp only[C',E'] at hh;replace hh:=hh.sub (I' _ (I' _ (I' _ (p' _ (A_ _)))))
     refine⟨⟨i+1,fu,r,ls++[⟨1,⟨some ⟨gx,0,none⟩,xn,xc,xb⟩,rd⟩],_,_,_,r.length,c2,_,by rw[Y_];rfl,rfl,rfl,rfl,by rw[q_];exact hE2,λy hy=>⟨z9 _ (hxs y (F' _ hy)).1,(hxs y (F' _ hy)).2⟩,λy hy=> ?_,by rw[Y_];show ls.length+1<=i+1;omega,Z',Z',by rw[Y_,Ma];exact hh⟩,by show(max bu 0+1).toNat-(i+1)<(max bu 0+1).toNat-i;omega, ?_⟩
     .exact adN
     exact Sc
    |false=>
     rw[L' (by rw[hcr];decide)] at hE2;rw[hcr] at hcc;refine fa ?_;refine qa (hcc _ (Below.refl _ _) (hT.hp hh)) ja.out rfl U' ?_;rintro e_ w95 ⟨rfl,hb_⟩;refine⟨_,rfl, ?_⟩;replace hh:=hh.ext hb_;exact LZ
   replace htu:=(htu _ (hT.hp hh) hh.below f1 f2 f3).mono λr w' h=>h.elim (λh=>h.2) λh=>absurd h.1 hte;have hct:qg ps xb=false:=by unfold qg;rw[O_ hte];rfl
   rw[L' (by rw[hct];decide)] at hE2;generalize ar ps xb (Uj ps xb)=tE at*;refine qa (htu) ja.out rfl U' ?_;rintro e_ w88 ⟨rfl,hb_⟩;refine⟨_,rfl, ?_⟩;replace hh:=hh.ext hb_;clear f1 f2 f3;exact LZ
def As{a:NR}(h:kW a=false):tm 36 a:=by
 have h':=of_decide_eq_false h;exact⟨⟨Z',Z',Z'⟩,Sz.raw (m:=24) (E:=12) Z' Z' Z'⟩
def Ol(a:NR)(w:World):Calls prog 55 #[.agg #[.bool a.neg,.string a.Qa,.int .i64 a.e]] w λr w'=>r=.returned (.bool (kW a))/\Below w.heap.size w w':=by
 have hh:=Hp.start w;by_cases h1:(3:Int)<a.Qa.size
 .refine eN ?_;refine Lb ?_;intro b1 w1 hh;refine⟨?_,hh.below⟩;unfold kW;rw[N_ (.inl h1)]
 by_cases h2:a.e< -12
 .refine eN ?_;refine Lb ?_;intro b1 w1 hh;refine⟨?_,hh.below⟩;unfold kW;rw[N_ (.inr (.inl h2))]
 by_cases h3:12<a.e
 .refine eN ?_;refine Lb ?_;intro b1 w1 hh;refine⟨?_,hh.below⟩;unfold kW;rw[N_ (.inr (.inr h3))]
 refine eN ?_;refine Lb ?_;intro b1 w1 hh;refine⟨?_,hh.below⟩;unfold kW;rw[O_ Z']
def BG(B:Option Addr)(m d:Nat)(b:List SR)(eps:NR)(g bu:Int)(w:World)(hB:Sl w B m 6 (na SR.cells b)):Calls prog 15 #[.slice B m d,.agg #[.bool eps.neg,.string eps.Qa,.int .i64 eps.e],.int .i64 g,.int .i64 bu] w λr w'=>∃v:Bool,r=.returned (.bool v)/\(v=false->m<=3/\(∀s∈b,s.fin 36)/\eps.ok/\Sz 36 eps.ma/\ -40<=g/\g<=40/\bu<=30)/\Below w.heap.size w w':=by
 have hh:=Hp.start w;have hlb:b.length=m:=hB.Fa SR.len U';by_cases h1:3<m
 .refine BZ ?_;refine Lb ?_;intro b5 w5 hh;exact⟨_,rfl,λh=>(by cases h),hh.below⟩
 refine BZ ?_;refine Lb ?_;intro b5 w5 hh;refine Oa hh (Ol eps _) rfl ?_;intro w15 hh
 cases he:kW eps with
 |true=>
  exact Aw
 |false=>
  by_cases h2:g< -40
  .exact Aw
  by_cases h3:40<g
  .exact Aw
  by_cases h4:30<bu
  .exact Aw
  refine fa ?_;refine Ba [8,9,29,30,31,32,33,34,35,36,37,38,39,40,41,42,43,44,45,46,47,48] 9 (λx w'=>∃i:Nat,i<=m/\x=.int .i64 i/\(∀s∈b.take i,s.fin 36)/\Hp w [] w') (λv _=>m-(intOf v).toNat) ?_ ?_
  .exact⟨0,D' _,rfl,λt ht=>(nomatch ht),hh.sub (R9 _)⟩
  clear hh;rintro ρ' x_ w' ⟨j,hj,rfl,hbx,hh⟩;by_cases hlt2:j<m
  .obtain⟨s,hs⟩:=ea (l:=b) (k:=j) Z';obtain⟨ad,rfl,hr⟩:=hB.at_ Z';have hf1:=λw1=>Ol s.lo w1;have hf2:=λw1=>Ol s.hi w1;refine fa ?_;refine wb (vs:=[_,_,_]) ya.out rfl (((((hr.ext hh.below).recAt SR.len hs).drop 0).take 3)) rfl U' ?_
   cases hg1:kW s.lo with
   |true=>
    rw[hg1] at hf1;refine Oa hh (hf1 _) rfl ?_;intro w40 hh;exact Aw
   |false=>
    rw[hg1] at hf1;refine Oa hh (hf1 _) rfl ?_;intro w40 hh;refine fa ?_;refine wb (vs:=[_,_,_]) ya.out rfl (((((hr.ext hh.below).recAt SR.len hs).drop 3).take 3)) rfl U' ?_
    cases hg2:kW s.hi with
    |true=>
     rw[hg2] at hf2;refine fa ?_;refine Oa hh (hf2 _) rfl ?_;intro w47 hh;exact Aw
    |false=>
     rw[hg2] at hf2;refine fa ?_;refine Oa hh (hf2 _) rfl ?_;intro w47 hh;refine fa ?_;refine⟨⟨j+1,Z',rfl,λt ht=> ?_,hh⟩,by show m-(j+1)<m-j;omega, ?_⟩
     .rw[oa hs] at ht;obtain ht|ht:=z_.1 ht
      .exact hbx t ht
      rw[S_.1 ht];obtain⟨a1,a2⟩:=As hg1;obtain⟨a3,a4⟩:=As hg2;exact⟨⟨a1,a2⟩,⟨a3,a4⟩⟩
     exact Sc
  rw[W_ Z'] at hbx;obtain⟨a1,a2⟩:=As he;refine fa ?_;exact⟨_,rfl,λ_=>⟨Z',hbx,a1,a2,Z',Z',Z'⟩,hh.below⟩
def oP(L:Option Addr)(m c n:Nat)(t:List Nat)(w:World)(hT:Xc w)(hS:Sl w L m 1 (Og t))(ht:∀c∈t,c<256)(hn:n<=1000):Calls prog 19 #[.slice L m c,.int .i64 n] w λr w'=>∃A c',r=.returned (.slice A n c')/\Hp w [.row A n c' 30 3 (na NR.cells ((List.range n).map λi=>nR (yG t i)))] w':=by
 have hh:=Hp.start w;have hln:t.length=m:=by have:=hS.1;simpa[Og] using this
 refine da (N:=29) (l:=[.slice L m c,.int .i64 n]) func19 rfl rfl (by simp) ?_;refine fa ?_;replace hh:=hh.Nb 30 3;refine Ra [5,6,7,8,9,10,11,12,13,14,15,16,17,18,19,20,21,22,23,24,25,26,27] 5 6 (λv5 v w'=>∃(i c3:Nat)(A:Option Addr),i<=n/\v=.int .i64 i/\v5=.slice A i c3/\Hp w [.row A i c3 30 3 (na NR.cells ((List.range i).map λi=>nR (yG t i)))] w') (λ_ v _=>n-(intOf v).toNat) ?_ ?_
 .exact⟨0,0,none,D' _,rfl,rfl,hh⟩
 clear hh;rintro ρ' v5 v w' ⟨i,c3,A,hi,rfl,rfl,hh⟩;by_cases hlt:i<n
 .have hz:=lC t ht i;have he:(List.range (i+1)).map (λi=>nR (yG t i))=(List.range i).map (λi=>nR (yG t i))++[nR (yG t i)]:=by rw[O8,q_];rfl
  have hc:=λc w1 hT1=>ml (c:Nat) w1 hT1;have hs:=λ(c:Nat) (h:c<256) w1 hT1=>Fq (nR ((c:Int):Dyadic)) (-8) w1 hT1 (by have:=(Sz.ofNat c h).nr;omega) (by have:=(Sz.ofNat c h).nr;omega) (by have:=(Sz.ofNat c h).nr;omega) U' U';simp only[db] at hs;have hv:∀c:Nat,(t[i]?).getD 0=c->((c:Int):Dyadic)*Je (-8)=yG t i:=λc h=>(by unfold yG;rw[h];exact(MB (c:Int) 0 (-8)).symm);by_cases him:i<m
  .obtain⟨b,hb⟩:=ea (l:=t) (k:=i) Z';have hb2:=Pp hb;have hb3:=ht b (G' hb);obtain⟨ad,rfl,hr⟩:=hS.at_ Z';replace hs:=hs b hb3;have hg:(t[i]?).getD 0=b:=by rw[hb];rfl
   refine fa ?_;refine Gn ?_;refine fa ?_;rw[hv _ hg] at hs;refine Oa hh (hc b _ (hT.hp hh) Z' Z') rfl ?_;exact uZ
  replace hs:=hs 0 U';have hg:(t[i]?).getD 0=0:=by rw[r_ Z'];rfl
  refine fa ?_;rw[hv _ hg] at hs;refine Oa hh (hc 0 _ (hT.hp hh) Z' Z') rfl ?_;exact uZ
 obtain rfl:i=n:=Z';refine fa ?_;exact⟨A,c3,rfl,hh⟩
def QC(L:Option Addr)(n c:Nat)(ps:List PX)(w:World)(hL:Sl w L n 2 (na PX.cells ps))(hp:∀p∈ps,p.at_ w):Calls prog 14 #[.slice L n c] w λr w'=>∃b:Bool,r=.returned (.bool b)/\(b=false->n<=3/\∀p∈ps,p.ts.length<=5/\zg 36 p.ts/\∀t∈p.ts,t.m.size<=3/\∀c∈t.m.data.toList,c.toNat<=2)/\Below w.heap.size w w':=by
 have hh:=Hp.start w;have hln:ps.length=n:=hL.Fa PX.len U';by_cases h1:3<n
 .refine da (N:=67) (l:=[.slice L n c]) func14 rfl rfl (by simp) ?_;exact Aw
 refine da (N:=67) (l:=[.slice L n c]) func14 rfl rfl (by simp) ?_;refine fa ?_;refine Ba [2,3,4,5,6,10,11,12,13,14,15,16,17,18,19,20,21,22,23,24,25,26,27,28,29,30,31,32,33,34,35,36,37,38,39,40,41,42,43,44,45,46,47,48,49,50,51,52,53,54,55,56,57,58,59,60,61,62,63,64,65,66] 3 (λx w'=>∃i:Nat,i<=n/\x=.int .i64 i/\(∀p∈ps.take i,p.ts.length<=5/\zg 36 p.ts/\∀t∈p.ts,t.m.size<=3/\∀c∈t.m.data.toList,c.toNat<=2)/\Hp w [] w') (λv _=>n-(intOf v).toNat) ?_ ?_
 .exact bR
 clear hh;rintro ρ' x_ w' ⟨i,hi,rfl,hall,hh⟩;by_cases hlt:i<n
 .obtain⟨p,hpi⟩:=ea (l:=ps) (k:=i) Z';have hpa:=hp p (G' hpi);have hpl:=hpa.ln;obtain⟨v,A,pn,pc,ts⟩:=p;replace hpl:ts.length=pn:=hpl;obtain⟨ad,rfl,hr⟩:=hL.at_ Z';by_cases h5:5<pn
  .skip;refine fa ?_;refine AQ ?_;exact Aw
  skip;refine fa ?_;refine AQ ?_;refine fa ?_;refine Ba [2,4,5,6,23,24,25,26,27,28,29,30,31,32,33,34,35,36,37,38,39,40,41,42,43,44,45,46,47,48,49,50,51,52,53,54,55,56,57,58,59,60,61,62,63,64,65,66] 4 (λx w'=>∃j:Nat,j<=pn/\x=.int .i64 j/\zg 36 (ts.take j)/\(∀t∈ts.take j,t.m.size<=3/\∀c∈t.m.data.toList,c.toNat<=2)/\Hp w [] w') (λv _=>pn-(intOf v).toNat) ?_ ?_
  .exact⟨0,D' _,rfl,λt ht=>(nomatch ht),λt ht=>(nomatch ht),hh⟩
  clear hh;rintro ρ2 x_ w2 ⟨j,hj,rfl,hok,hsz,hh⟩;by_cases hjl:j<pn
  .obtain⟨x,hx⟩:=ea (l:=ts) (k:=j) Z';obtain⟨at2,rfl,hrt⟩:=Sl.at_ hpa (by show 0<pn;omega);have hfa:=λw1=>Ol x.c w1;have hbm:=Yc x.m;refine fa ?_;refine QS ?_;refine fa ?_;refine QS ?_;refine fa ?_;refine ub ya.out rfl (((hrt.ext hh.below).recAt TR.len hx).cell (i:=0) rfl) U' ?_;refine fa ?_;refine QS ?_;refine fa ?_;refine wb (vs:=[_,_,_]) ya.out rfl (((hrt.ext hh.below).recAt TR.len hx).drop 1) rfl U' ?_;refine Oa hh (hfa _) rfl ?_;intro w51 hh
   cases hf:kW x.c with
   |true=>
    exact Aw
   |false=>
    by_cases h6:3<x.m.size
    .exact Aw
    refine fa ?_;refine Ba [2,6,57,58,59,60,61,62,63,64,65,66] 6 (λy w'=>∃q:Nat,q<=x.m.size/\y=.int .i64 q/\(∀c∈x.m.data.toList.take q,c.toNat<=2)/\Hp w [] w') (λv _=>x.m.size-(intOf v).toNat) ?_ ?_
    .exact bR
    clear hh;rintro ρ3 y_ w3 ⟨q,hq,rfl,hex,hh⟩;by_cases hlq:q<x.m.size
    .obtain⟨e,he⟩:=ea (l:=x.m.data.toList) (k:=q) Z';have he8:e.toNat<256:=e.toNat_lt;by_cases h7:2<e.toNat
     .exact Aw
     refine fa ?_;refine⟨⟨q+1,Z',rfl,λt ht=> ?_,hh⟩,by show x.m.size-(q+1)<x.m.size-q;omega, ?_⟩
     .rw[oa he] at ht;obtain ht|ht:=z_.1 ht
      .exact hex t ht
      rw[S_.1 ht];omega
     exact Sc
    rw[W_ Z'] at hex;refine fa ?_;refine⟨⟨j+1,hjl,rfl,λt ht=> ?_,λt ht=> ?_,hh⟩,by show pn-(j+1)<pn-j;omega, ?_⟩
    .replace ht:t∈ts.take (j+1):=ht;rw[oa hx] at ht;obtain ht|ht:=z_.1 ht
     .exact hok t ht
     rw[S_.1 ht];exact⟨(As hf).1,(As hf).2⟩
    .replace ht:t∈ts.take (j+1):=ht;rw[oa hx] at ht;obtain ht|ht:=z_.1 ht
     .exact hsz t ht
     rw[S_.1 ht];exact⟨Z',hex⟩
    exact Sc
  rw[W_ Z'] at hok hsz;refine fa ?_;refine AQ ?_;refine fa ?_;refine⟨⟨i+1,Z',rfl,λt ht=> ?_,hh⟩,by show n-(i+1)<n-i;omega, ?_⟩
  .rw[oa hpi] at ht;obtain ht|ht:=z_.1 ht
   .exact hall t ht
   rw[S_.1 ht];exact⟨by show ts.length<=5;omega,hok,hsz⟩
  exact Sc
 rw[W_ Z'] at hall;refine fa ?_;exact⟨_,rfl,λ_=>⟨Z',hall⟩,hh.below⟩
def Ed(n:Int):Dyadic:=(n:Dyadic)*Je (-3)
def Gg(n:Int)(w:World)(h1: -100<=n)(h2:n<=100):Calls prog 58 #[.int .i64 n] w λr w'=>r=.returned (.agg #[.bool (nR (Ed n)).neg,.string (nR (Ed n)).Qa,.int .i64 (nR (Ed n)).e])/\Below w.heap.size w w':=by
 have hh:=Hp.start w;have hz:=(show Sz 24 ((n:Int):Dyadic) from db (n:Dyadic) ▸ ((DA (L:=[([],n)]) (by unfold zB;simp;omega)).1 ⟨str [],nR (n:Dyadic)⟩ q').2).nr;have hsh:=λw1=>ZC (nR ((n:Int):Dyadic)) (-3) w1 Z' Z' Z' U' U';rw[db,show((n:Int):Dyadic)*Je (-3)=Ed n from rfl] at hsh;refine da (N:=6) (l:=[.int .i64 n]) func58 rfl rfl (by simp) ?_;refine Lb ?_;intro b2 w2 hh;refine Oa hh (Fh n _ Z' Z') rfl ?_;intro w4 hh;refine Oa hh (hsh _) rfl ?_;intro w5 hh;exact gG
def qE(a b:Int):List SR:=[⟨nR (a:Dyadic),nR (b:Dyadic)⟩]
def qk(a b:Int)(w:World)(h1: -100<=a/\a<=100)(h2: -100<=b/\b<=100):Calls prog 57 #[.int .i64 a,.int .i64 b] w λr w'=>∃g:Nat,r=.returned (.slice (some ⟨g,0,none⟩) 1 1)/\Hp w [.row (some ⟨g,0,none⟩) 1 1 36 6 (na SR.cells (qE a b))] w':=by
 have hh:=Hp.start w;refine da (N:=11) (l:=[.int .i64 a,.int .i64 b]) func57 rfl rfl (by simp) ?_;refine fa ?_;refine Oa hh (Fh a _ Z' Z') rfl ?_;intro w6 hh;refine mI ?_;refine Oa hh (Fh b _ Z' Z') rfl ?_;intro w8 hh;refine fa ?_;refine eL ?_;intro b10 w10 hh;refine fa ?_;exact⟨_,rfl,hh⟩
def Bu(a b:Int)(w:World)(h1: -100<=a/\a<=100)(h2: -100<=b/\b<=100):Calls prog 60 #[.int .i64 a,.int .i64 b] w λr w'=>∃(A:Option Addr)(c:Nat)(B:Option Addr)(d:Nat),r=.returned (.agg #[.slice A 1 c,.slice B 2 d])/\Hp w [.row B 2 d 30 3 (na NR.cells [nR (a:Dyadic),nR (b:Dyadic)]),.row A 1 c 3 1 (jb [1])] w':=by
 have hh:=Hp.start w;refine da (N:=12) (l:=[.int .i64 a,.int .i64 b]) func60 rfl rfl (by simp) ?_;refine Lb ?_;intro b4 w4 hh;refine Bc hh (cs:=[_]) mb.out ya.out (Sb rfl oe) rfl rfl U' U' U' rfl U' ?_;intro b5 w5 hh;refine mI ?_;refine Oa hh (Fh a _ Z' Z') rfl ?_;intro w7 hh;refine mI ?_;refine Oa hh (Fh b _ Z' Z') rfl ?_;intro w9 hh;refine Lr ?_;intro b10 w10 hh;refine Lb ?_;intro ws hh;refine wU ?_;exact⟨_,_,_,_,rfl,hh.sub (.cons_cons _ (.cons_cons _ (R9 _)))⟩
def El(c a b:Int)(K:ZT)(w:World)(h1: -100<=c/\c<=100)(h2: -100<=a/\a<=100)(h3: -100<=b/\b<=100)(hK:(zC K && zE K [([0],c),([1],a),([2],b)])=true):Calls prog 56 #[.int .i64 c,.int .i64 a,.int .i64 b] w λr w'=>∃p:PX,p.v=1/\p.ts=zT K/\r=.returned (.agg #[.int .i64 p.v,.slice p.A p.n p.c])/\Hp w [p.row] w':=by
 have hh:=Hp.start w;refine da (N:=24) (l:=[.int .i64 c,.int .i64 a,.int .i64 b]) func56 rfl rfl (by simp) ?_;refine Lb ?_;intro b6 w6 hh;refine Oa hh (Fh c _ Z' Z') rfl ?_;intro w11 hh;refine fa ?_;refine Oa hh (Fh a _ Z' Z') rfl ?_;intro w14 hh;refine fa ?_;refine Oa hh (Fh b _ Z' Z') rfl ?_;intro w17 hh;refine fa ?_;refine Bc hh (cs:=[_,_,_,_,_,_,_,_,_,_,_,_]) mb.out ya.out (Sb (Qd rfl) (Sb (Qd rfl) (Sb (Qd rfl) oe))) rfl rfl U' U' U' rfl U' ?_;intro b19 w19 hh;have hz:=DA (L:=[([0],c),([1],a),([2],b)]) (by unfold zB;simp;omega);have hmk:=λw1 hS1=>DD 1 (some ⟨b19,0,none⟩) 3 3 (zT [([0],c),([1],a),([2],b)]) 24 w1 hS1 U' hz.1 U' (λt ht=>M_ (hz.2 t ht) U');rw[zN hK,BW U' (by rfl) (by simp)] at hmk;replace hh:=show Hp w (.row (some ⟨b19,0,none⟩) 3 3 72 4 (na TR.cells (zT [([0],c),([1],a),([2],b)]))::.blk b6 24 [.int .i64 0,.slice none 0 0] (0,0)::_) _ from hh;refine qa (hmk _ (hh.ra (i:=0) rfl)) ja.out rfl U' ?_;rintro e_ w20 ⟨p,hp,rfl,h3⟩;refine⟨_,rfl, ?_⟩;replace hh:=hh.join h3;simp only[C',E'] at hh;clear h3;refine Dm ?_;intro b7 w7 hh ws hh ws hh
 refine VN (td rfl (ud (vs:=[_,_]) ya.out (hh.qb (i:=3) (n:=2) rfl rfl) rfl) De) ?_;exact⟨p,hp.v,hp.ts,rfl,hh.sub (.cons _ (.cons_cons _ (R9 _)))⟩
def dr(A B:Option Addr)(n c d:Nat)(xs ys:List ZX)(w:World)(hA:Sl w A n 5 (na ZX.cells xs))(hB:Sl w B n 5 (na ZX.cells ys))(he:xs.map ZX.v=ys.map ZX.v)(hx:∀x∈xs,Sl w x.x.A x.x.n 6 (na SR.cells x.x.b))(hy:∀x∈ys,Sl w x.x.A x.x.n 6 (na SR.cells x.x.b))(hl:∀x∈xs,x.x.b.length<=1000000)(hn:n<=1000000):Calls prog 23 #[.slice A n c,.slice B n d] w λr w'=>r=.returned (.bool true)/\Below w.heap.size w w':=by
 have hh:=Hp.start w;have hln:xs.length=n:=hA.Fa ZX.len U';have hlm:ys.length=n:=hB.Fa ZX.len U';refine da (N:=55) (l:=[.slice A n c,.slice B n d]) func23 rfl rfl (by simp) ?_;refine fa ?_;refine Ba [4,5,11,12,13,14,15,16,17,18,19,20,21,22,23,24,25,26,27,28,29,30,31,32,33,34,35,36,37,38,39,40,41,42,43,44,45,46,47,48,49,50,51,52,53,54] 5 (λv w'=>∃i:Nat,i<=n/\v=.int .i64 i/\Hp w [] w') (λv _=>n-(intOf v).toNat) ?_ ?_
 .exact⟨0,D' _,rfl,hh⟩
 clear hh;rintro ρ' v w' ⟨i,hi,rfl,hh⟩;by_cases hlt:i<n
 .obtain⟨x,hxi⟩:=ea (l:=xs) (k:=i) Z';obtain⟨y,hyi⟩:=ea (l:=ys) (k:=i) Z';have hv:x.v=y.v:=(by have:=J_ (·[i]?) he;simp only[V_,hxi,hyi] at this;exact L_ this);have hxs:=hx x (G' hxi);have hys:=hy y (G' hyi);have hxn:x.x.n<=1000000:=by rw[<-hxs.Fa SR.len U'];exact hl x (G' hxi)
  obtain⟨k,⟨xA,xn,xc,xb⟩,r⟩:=x;obtain⟨k2,⟨yA,yn,yc,yb⟩,r2⟩:=y;unfold ZX.v at hv;simp only[ZV.mk.injEq] at hv;obtain⟨rfl,rfl,rfl⟩:=hv;have hnn:xn=yn:=(hxs.Fa SR.len U').symm.trans (hys.Fa SR.len U');subst hnn;obtain⟨ad,rfl,hr⟩:=hA.at_ Z';obtain⟨ad2,rfl,hr2⟩:=hB.at_ Z';have hbs:=λw1 hb1=>yD xA xn xc xb yA yc w1 (hxs.ext hb1) (hys.ext hb1) hxn;refine fa ?_
  refine Ca 35 [[(0,none)],[(5,none)],[(17,some 0),(18,some 1)],[(19,some 2)],[(20,some 3)],[(1,none)],[(5,none)],[(22,some 5),(23,some 6)],[(24,some 7)],[(25,some 8)],[(21,some 4),(26,some 9)],[(27,some 10)],[(0,none),(28,some 11)],[(5,none),(28,some 11)],[(29,some 12),(30,some 13),(28,some 11)],[(31,some 14),(28,some 11)],[(32,some 15),(28,some 11)],[(1,none),(28,some 11)],[(5,none),(28,some 11)],[(34,some 17),(35,some 18),(28,some 11)],[(36,some 19),(28,some 11)],[(37,some 20),(28,some 11)],[(33,some 16),(38,some 21),(28,some 11)],[(28,some 11),(39,some 22)],[(40,some 23)],[(0,none),(41,some 24)],[(5,none),(41,some 24)],[(42,some 25),(43,some 26),(41,some 24)],[(44,some 27),(41,some 24)],[(45,some 28),(41,some 24)],[(1,none),(41,some 24)],[(5,none),(41,some 24)],[(47,some 30),(48,some 31),(41,some 24)],[(49,some 32),(41,some 24)],[(50,some 33),(41,some 24)]] [(34,51),(33,50),(32,49),(31,48),(30,47),(29,46),(28,45),(27,44),(26,43),(25,42),(24,41),(23,40),(22,39),(21,38),(20,37),(19,36),(18,35),(17,34),(16,33),(15,32),(14,31),(13,30),(12,29),(11,28),(10,27),(9,26),(8,25),(7,24),(6,23),(5,22),(4,21),(3,20),(2,19),(1,18),(0,17)] hh mixed T' ?_
  refine Ee ?_;refine jd ?_;refine lj (i) ?_;refine ru ?_;refine Vo (λ_ hj=>((hr.ext hj.hp.below).recAt ZX.len hxi).cell (i:=0) (v:=.int .i64 k) rfl) ?_;refine Ee ?_;refine jd ?_;refine lj (i) ?_;refine ru ?_;refine Vo (λ_ hj=>((hr2.ext hj.hp.below).recAt ZX.len hyi).cell (i:=0) (v:=.int .i64 k) rfl) ?_;refine afV ?_;refine pr ?_;refine dG (Ee ?_);refine dG (jd ?_);refine dG (lj (i) ?_);refine dG (ru ?_);refine dG (Zm [_,_,_] (λ_ hj=>(((hr.ext hj.hp.below).recAt ZX.len hxi).drop 2)) ?_);refine dG (Ee ?_);refine dG (jd ?_);refine dG (lj (i) ?_);refine dG (ru ?_);refine dG (Zm [_,_,_] (λ_ hj=>(((hr2.ext hj.hp.below).recAt ZX.len hyi).drop 2)) ?_);refine vD (i:=22) rfl (λρ1 w1 hj hR=>(show ρ1 28=Value.bool _ from hR.2.2.1)) (λρ1 w1 hj hR=>KB (show ρ1 33=Value.agg (List.toArray _) from hR.1) (show ρ1 38=Value.agg (List.toArray _) from hR.2.1) (by first|assumption|rfl)) ?_;refine mW ?_;refine pr ?_;refine dG (Ee ?_);refine dG (jd ?_);refine dG (lj (i) ?_);refine dG (ru ?_);refine dG (Vo (λ_ hj=>((hr.ext hj.hp.below).recAt ZX.len hxi).cell (i:=1) (v:=.slice xA xn xc) rfl) ?_);refine dG (Ee ?_);refine dG (jd ?_)
  refine dG (lj (i) ?_);refine dG (ru ?_);refine dG (Vo (λ_ hj=>((hr2.ext hj.hp.below).recAt ZX.len hyi).cell (i:=1) (v:=.slice yA xn yc) rfl) ?_);refine xa ?_;intro f W hJ hV;have hb_6:=hJ.bl;obtain⟨v51,v50,v49,v48,v47,v46,v45,v44,v43,v42,v41,v40,v39,v38,v37,v36,v35,v34,v33,v32,v31,v30,v29,v28,v27,v26,v25,v24,v23,v22,v21,v20,v19,v18,v17,_⟩:=hV;replace hh:=hJ.hp;refine Ea (Na (aa v51 (aa v50 (aa v49 (aa v48 (aa v47 (aa v46 (aa v45 (aa v44 (aa v43 (aa v42 (aa v41 (aa v40 (aa v39 (aa v38 (aa v37 (aa v36 (aa v35 (aa v34 (aa v33 (aa v32 (aa v31 (aa v30 (aa v29 (aa v28 (aa v27 (aa v26 (aa v25 (aa v24 (aa v23 (aa v22 (aa v21 (aa v20 (aa v19 (aa v18 (aa v17 Da)))))))))))))))))))))))))))))))))))) ?_;dsimp only[Cb];clear hJ;refine fa ?_;refine Oa hh (hbs _ hh.below) rfl ?_;intro w52 hh;refine fa ?_;exact Hy
 refine fa ?_;exact⟨rfl,hh.below⟩
def shX(up:Bool)(d:Nat)(s:Dyadic):Nat->Nat->Dyadic:=if up then adU d s else adw d s
def shS(ns rr:List Nat)(a:Nat)(xs:List Dyadic)(M:Nat->Nat->Dyadic)(r i:Nat):Dyadic:=sm (List.range i) λj=>co ns.reverse xs (rr.set a j)*M j r
def ah6(a:NR):Bool:=decide ((8:Int)<a.Qa.size\/a.e< -60\/60<a.e)
def FX.agc(f:FX):Prop:=f.fh 124/\f.m<=120/\f.n<=20/\∀d∈f.ds,d<=6\/128<=d
abbrev fxC(l:List Int)(A:Option Addr)(a:Nat)(B:Option Addr)(b:Nat):FX:=⟨A,1,a,B,l.length,b,[(l.length:Int)-1],l.map λz:Int=>nR ((z:Dyadic)*Je (-2))⟩
abbrev xsC(l:List Int):List Dyadic:=l.map λz:Int=>(z:Dyadic)*Je (-2)
def af0(l:List Int):VP:=λv W=>∃g:FX,v=.agg #[.slice g.A g.n g.a,.slice g.B g.m g.b]/\g.ds=[(l.length:Int)-1]/\g.cs=(l.map λz:Int=>nR ((z:Dyadic)*Je (-2)))/\g.at_ W
def afP(base:Nat)(E:Int)(D:List Nat)(ys:List Dyadic):VP:=λv W=>∃g:FX,v=.agg #[.slice g.A g.n g.a,.slice g.B g.m g.b]/\Out E D ys g/\∃w2:World,base<=w2.heap.size/\Hp w2 [g.ug,g.cg] W
def agB(base:Nat)(E:Int)(D:List Nat)(ys zs:List Dyadic):VP:=λv W=>∃g h:FX,v=.tuple #[.agg #[.slice g.A g.n g.a,.slice g.B g.m g.b],.agg #[.slice h.A h.n h.a,.slice h.B h.m h.b],.int .i64 E]/\Out E D ys g/\Out E D zs h/\∃w2:World,base<=w2.heap.size/\Hp w2 [h.ug,h.cg,g.cg,g.ug] W
def sp(p:Int×Int):SR:=⟨nR (D p.1 0),nR (D p.2 0)⟩
def PI(p:Int×Int):List Value:=[.int .i64 p.1,.int .i64 p.2]
def abz(a:NR):Bool:=decide ((30:Int)<a.Qa.size\/a.e< -200\/200<a.e)
def agd(s:SR):Bool:=abz s.lo||abz s.hi
def agJ(b:List SR)(p:List NR):Bool:=(decide (8<b.length)||decide (8<p.length))||(b.any agd||p.any abz)
def exB:List SR:=[sp (0,4),sp (0,2)]
def SR.le(s:SR):¬s.H<s.L:=fS _ _
def SR.f_L(s:SR):s.f.L=s.L:=by
 have h:=s.le;show VQ (nR s.L).ma (nR s.H).ma=s.L;rw[db,db,VQ,L' h]
def SR.f_H(s:SR):s.f.H=s.H:=by
 have h:=s.le;show nT (nR s.L).ma (nR s.H).ma=s.H;rw[db,db,nT];split
 .rfl
 rename_i g;grind
def ahm(b:List SR)(a:Nat)(s:SR)(u:Bool):List SR:=(b.map SR.f).set a (s.f.half (nR s.f.Ch) u)
def UH{s:SR}(h:s.lo.ma<s.hi.ma):s.L=s.lo.ma/\s.H=s.hi.ma:=by
 have h2:¬s.hi.ma<s.lo.ma:=by grind
 unfold SR.L SR.H VQ nT;rw[L' h2,J' h];exact⟨rfl,rfl⟩
def xq:Je (-1)+Je (-1)=1:=by decide+kernel
structure OnB(l:List TR)(ns:List Nat)(b:List SR)(X:List Dyadic):Prop where
 len:X.length=la ns
 bl:b.length=ns.length
 up:∀s∈b,s.lo.ma<s.hi.ma
 vl:∀ts:List Dyadic,ts.length=ns.length->rq ns.reverse X ts=ui (Fz b ts.reverse) l
def Qw(b:List SR)(a:Nat)(s:SR)(u:Bool):List SR:=(b.map SR.f).set a (s.f.half (nR s.f.Ch) u)
def Um{s:SR}(h:s.lo.ma<s.hi.ma):∃m,(nR s.f.Ch).ma=m/\m+m=s.L+s.H/\s.f.lo.ma=s.L/\s.f.hi.ma=s.H/\s.L<m/\m<s.H:=by
 obtain⟨c1,c2⟩:=UH h;have e1:s.f.lo.ma=s.L:=db _;have e2:s.f.hi.ma=s.H:=db _;refine⟨s.f.Ch,db _, ?_,e1,e2, ?_⟩
 .unfold SR.Ch;rw[e1,e2];have:=xq;grind
 have e3:s.f.Ch+s.f.Ch=s.L+s.H:=(by unfold SR.Ch;rw[e1,e2];have:=xq;grind);rw[<-c1,<-c2] at h;constructor<;>grind
def WW{b:List SR}{a:Nat}{s:SR}{u:Bool}(hb:∀s∈b,s.lo.ma<s.hi.ma)(hs:b[a]?=some s):∀z∈Qw b a s u,z.lo.ma<z.hi.ma:=λz hz=>by
 have hsm:=G' hs;obtain⟨m,e0,e1,e2,e3,e4,e5⟩:=Um (hb s hsm);obtain h|rfl:=H8 hz
 .obtain⟨y,hy,rfl⟩:=i'.1 h;obtain⟨m2,f0,f1,f2,f3,f4,f5⟩:=Um (hb y hy);rw[f2,f3];grind
 cases u with
 |false=>show s.f.lo.ma<(nR s.f.Ch).ma;rw[e0,e2];exact e4
 |true=>show(nR s.f.Ch).ma<s.f.hi.ma;rw[e0,e3];exact e5
def TY{b:List SR}{a:Nat}{s:SR}{u:Bool}{us:List Dyadic}{t:Dyadic}(hb:∀s∈b,s.lo.ma<s.hi.ma)(hs:b[a]?=some s)(hu:us[a]?=some t):Fz (Qw b a s u) us=Fz b (us.set a (if u then Je (-1)+(1-Je (-1))*t else Je (-1)*t)):=by
 have hsm:=G' hs;have ha:=(X_.1 hs).1;have hau:=(X_.1 hu).1;obtain⟨m,e0,e1,e2,e3,e4,e5⟩:=Um (hb s hsm);refine U9 λi=> ?_;unfold Fz Qw;rw[Q9,Q9,F9,F9];by_cases hi:a=i
 .subst hi;rw[J' rfl,J' rfl,J' (by rw[Z_];exact ha),J' hau,hs,hu];show some _=some _;congr 1;have h2:=xq
  cases u with
  |false=>
   have hup:(s.f.half (nR s.f.Ch) false).lo.ma<(s.f.half (nR s.f.Ch) false).hi.ma:=by show s.f.lo.ma<(nR s.f.Ch).ma;rw[e0,e2];exact e4
   obtain⟨k1,k2⟩:=UH hup;show(s.f.half (nR s.f.Ch) false).L+((s.f.half (nR s.f.Ch) false).H-(s.f.half (nR s.f.Ch) false).L)*t=s.L+(s.H-s.L)*(Je (-1)*t);rw[k1,k2];show s.f.lo.ma+((nR s.f.Ch).ma-s.f.lo.ma)*t=s.L+(s.H-s.L)*(Je (-1)*t);rw[e0,e2];have:m-s.L=(s.H-s.L)*Je (-1):=by grind
   rw[this];grind
  |true=>
   have hup:(s.f.half (nR s.f.Ch) true).lo.ma<(s.f.half (nR s.f.Ch) true).hi.ma:=by show(nR s.f.Ch).ma<s.f.hi.ma;rw[e0,e3];exact e5
   obtain⟨k1,k2⟩:=UH hup;show(s.f.half (nR s.f.Ch) true).L+((s.f.half (nR s.f.Ch) true).H-(s.f.half (nR s.f.Ch) true).L)*t=s.L+(s.H-s.L)*(Je (-1)+(1-Je (-1))*t);rw[k1,k2];show(nR s.f.Ch).ma+(s.f.hi.ma-(nR s.f.Ch).ma)*t=s.L+(s.H-s.L)*(Je (-1)+(1-Je (-1))*t);rw[e0,e3];have g1:m=s.L+(s.H-s.L)*Je (-1):=by grind
   have g2:s.H-m=(s.H-s.L)*(1-Je (-1)):=by grind
   rw[g2]
   conv=>lhs;rw[g1]
   grind
 rw[L' hi,L' hi,V_]
 cases hy:b[i]? with
 |none=>rfl
 |some y=>
  show some (y.f.L+(y.f.H-y.f.L)*_)=some (y.L+(y.H-y.L)*_);rw[SR.f_L,SR.f_H]
def XU{b:List SR}{h:Int}(hb:mY b.length h=false):∃s,b[(h/2).toNat]?=some s/\Bt b h=some (Qw b (h/2).toNat s (decide (h % 2=1))):=by
 unfold mY at hb;have h1:=of_decide_eq_false hb;have h0:0<=h:=Z';have e1:h.fdiv 2=h/2:=Int.fdiv_eq_ediv_of_nonneg _ U';have e2:h.tdiv 2=h/2:=Int.tdiv_eq_ediv_of_nonneg h0;rw[e2] at h1;obtain⟨s,hs⟩:=ea (l:=b) (k:=(h/2).toNat) Z';refine⟨s,hs, ?_⟩;unfold Bt;rw[e1,L' Z',hs];rfl
def NU{b:List SR}{a:Nat}{s:SR}{u:Bool}(hb:∀z∈b,z.fin k)(hk:k+2<=3000000)(hs:b[a]?=some s):∀z∈Qw b a s u,z.fin (k+2):=by
 have ha:=(X_.1 hs).1;have h1:Bt b (2*(a:Int)+if u then 1 else 0)=some (Qw b a s u):=by
  obtain⟨s2,h2,h3⟩:=XU (b:=b) (h:=2*(a:Int)+if u then 1 else 0) (by
   unfold mY;refine O_ ?_;rw[Int.tdiv_eq_ediv_of_nonneg (by split<;>omega)];split<;>omega)
  have e1:((2*(a:Int)+if u then 1 else 0)/2).toNat=a:=by split<;>omega
  have e2:decide ((2*(a:Int)+if u then 1 else 0) % 2=1)=u:=by
   cases u with
   |true=>exact N_ (by show(2*(a:Int)+1) % 2=1;omega)
   |false=>exact O_ (by show ¬(2*(a:Int)+0) % 2=1;omega)
  rw[e1] at h2;rw[hs] at h2;rw[h3,e1,e2,L_ h2]
 exact(DJ hb hk h1).1
def ace{b:List SR}(h0:b.length≠0)(h:∀s∈b,s.lo.ma<s.hi.ma):Gk b=0:=by
 unfold Gk;rw[L',L' h0];rw[Bool.not_eq_true,p9];intro s hs;have:=h s hs;simpa using this
structure ahc(p:PX)(b:List SR)(ns:List Nat)(X:List Dyadic):Prop where
 e:pg p b (Ua ns)=0
 x:Wo ns (Ad p (lb b)).2=X
def aeF{p:PX}{b:List SR}{ns:List Nat}(hF:Gt p b ns)(h:eS p b ns):OnB p.ts ns b (Wo ns (Ad p (lb b)).2):=⟨MC _ _,hF.nl.symm,λs hs=>eV hF.box hs,h.vl⟩
def xM{c:Dyadic}{xs:List NR}{m:ByteArray}(hm:m.size=xs.length):∀k,k<=xs.length->wD c xs m k=c*jh ((Mc m).take k) ((xs.map NR.ma).take k)
 |0,_=>(by show c=c*1;exact(Dyadic.mul_one c).symm)
 |k+1,hk=>by
  have hl:=gl m;obtain⟨x,hx⟩:=ea (l:=xs) (k:=k) Z';obtain⟨e,he⟩:=ea (l:=m.data.toList) (k:=k) (by rw[<-Yc];omega);have h1:(Mc m)[k]?=some e.toNat:=by unfold Mc;rw[V_,he];rfl
  have h2:(xs.map NR.ma)[k]?=some x.ma:=by rw[V_,hx];rfl
  have hf:TF xs m k=x.ma^e.toNat:=by unfold TF;rw[hx,he]
  rw[wD,hf,xM hm k Z',oa h1,oa h2,Xt _ _ _ _ (by simp;omega)];grind
def JS{xs:List NR}{ts:List TR}(h:∀t∈ts,t.m.size=xs.length):∀i,i<=ts.length->Gs xs ts i=ui (xs.map NR.ma) (ts.take i)
 |0,_=>rfl
 |i+1,hi=>(by obtain⟨t,ht⟩:=ea (l:=ts) (k:=i) Z';have hm:=h t (G' ht);have hl:=gl t.m;rw[Gs,ht,JS h i Z',oa ht,im];show ui _ _+wD t.c.ma xs t.m xs.length=ui _ _+(t.c.ma*jh (Mc t.m) (xs.map NR.ma)+0);rw[xM hm xs.length (j' _),W_ (l:=Mc t.m) Z',W_ (l:=xs.map NR.ma) (by rw[Z_];exact j' _)];grind)
def uU{p:PX}{ys:List NR}(hp:p.e=0)(hv:p.v=(ys.length:Int)):Om p ys.length=0/\Gm p ys=nR (ui (ys.map NR.ma) p.ts):=by
 have h0:Om p ys.length=0:=by unfold Om;rw[J' hp,J' hv.symm]
 refine⟨h0, ?_⟩;unfold Gm;rw[J' h0,JS (λt ht=> ?_) _ (j' _),B6];have:=(Vb hp).2.2.1 t ht;unfold re at this;rw[Q_,K_] at this;omega
def yQ{b:List SR}{t:List NR}(ht:t.length=b.length):(b.mapIdx λi s=>Vh t i s.f).map NR.ma=Fz b (t.map NR.ma):=by
 refine U9 λi=> ?_;unfold Fz;rw[V_,Q9,Q9,V_]
 cases hs:b[i]? with
 |none=>rfl
 |some s=>
  have hi:=(X_.1 hs).1;obtain⟨x,hx⟩:=ea (l:=t) (k:=i) Z';rw[hx];show some (Vh t i s.f).ma=some (s.L+(s.H-s.L)*x.ma);unfold Vh;rw[hx];show some (nR (s.f.at_ x.ma)).ma=_;rw[db];unfold SR.at_ SR.wid;rw[SR.f_L,SR.f_H,show s.f.lo.ma=s.L from db _];congr 1;grind
structure OnC(p q:List TR)(b0:List SR)(c:CV):Prop where
 p:OnB p c.D c.b c.X
 q:OnB q c.D c.b c.Y
 inb:∀(i:Nat)(s z:SR),c.b[i]?=some s->b0[i]?=some z->z.L<=s.lo.ma/\s.hi.ma<=z.H
 len:c.b.length=b0.length
def InC(pt:List Dyadic)(c:CV):Prop:=∃us:List Dyadic,us.length=c.D.length/\(∀t∈us,0<=t/\t<1)/\Fz c.b us=pt
structure af9(q:List TR)(b0:List SR)(eps:Dyadic)(A:List NR):Prop where
 len:A.length=b0.length
 has:hasB b0 A=true
 aiu:Oj (ui (A.map NR.ma) q)<eps
 num:∀y∈A,y.ok/\Sz 1000 y.ma
def aiC(p q:List TR)(b0:List SR)(eps:Dyadic)(pt:List Dyadic)(R:RV):Prop:=(R.k=1/\R.at_=[]/\agh R.s (ui pt p) (ui pt q)/\R.s.fin 1002014)\/(R.k=2/\R.s=SR0/\af9 q b0 eps R.at_)
def jC:∀(n:Nat)(b:List SR),b.length=n+1->∃(a:Nat),Cm b (a:Int)/\a<b.length
 |0,b,h=>by
  match b,h with
  |[s],_=>exact⟨0,fy (b:=[]) s,Nat.zero_lt_one⟩
 |n+1,b,h=>by
  obtain⟨l,s,rfl⟩:∃l s,b=l++[s]:=⟨b.dropLast,b.getLast (by intro h1;rw[h1] at h;cases h),(List.dropLast_concat_getLast _).symm⟩;have hl:l.length=n+1:=by rw[Y_] at h;simpa using h
  obtain⟨a,ha,hal⟩:=jC n l hl;obtain⟨h1,_⟩|⟨m,u,hu,hm,g1,g2⟩:=ha
  .rw[h1] at hl;cases hl
  obtain rfl:a=m:=Z';by_cases hw:u.wid<s.wid
  .exact⟨l.length,uG g1 hw,by rw[Y_];exact Nat.lt_succ_self _⟩
  exact⟨a,zG hu g1 g2 hw,by rw[Y_];omega⟩
def DL{b:List SR}{v w:Int}(h:Cm b v)(h':Cm b w):v=w:=by
 obtain⟨h1,h2⟩|⟨m,u,hu,hm,g1,g2⟩:=h
 .obtain⟨_,h3⟩|⟨m',u',hu',_⟩:=h'
  .omega
  rw[h1] at hu';cases hu'
 obtain⟨h1,_⟩|⟨m',u',hu',hm',g1',g2'⟩:=h'
 .rw[h1] at hu;cases hu
 obtain hlt|rfl|hlt:=Nat.lt_trichotomy m m'
 .exact absurd (g2' m u hlt hu) (g1 m' u' hu')
 .omega
 exact absurd (g2 m' u' hlt hu') (g1' m u hu)
def Ww{B:Nat}:∀D:List Nat,(∀d∈D,d<=B)->la D<=(B+1)^D.length
 |[],_=>j' _
 |d::D,h=>(by rw[la,E_,i_,F_];exact n9 (Ww D λx hx=>h x (F' _ hx)) (by have:=h d q';omega))
structure agI(p q:List TR)(b0:List SR)(n:Nat)(c:CV):Prop where
 on:OnC p q b0 c
 fin:∀s∈c.b,s.fin (124+2*n)
 d3:c.D.length<=3
 d0:c.D.length≠0
 d2:∀d∈c.D,d<=2
 zx:∀x∈c.X,Sz (50000+300*n) x
 zy:∀x∈c.Y,Sz (50000+300*n) x
def kM{v:Int}(h:Jf v ts=0)(hs:∀t∈ts,t.m.size<=3)(hx:∀t∈ts,∀c∈t.m.data.toList,c.toNat<=2):la (Cc v ts)<=27:=by
 have hl:=(nj h).2.1
 cases ts with
 |nil=>
  have h1:=Ww (B:=0) (Cc v []) (YC h λt ht=>absurd ht O9);rw[Nat.one_pow] at h1;omega
 |cons t ts=>
  have h1:=Ww (B:=2) _ (YC h hx);have h2:=(Vb h).2.2.1 t q';unfold re at h2;rw[Q_,K_] at h2;have h3:=hs t q';exact M_ h1 (M_ (m_ U' (show(Cc v (t::ts)).length<=3 by omega)) U')
def ad8(b:List SR)(xs:List Dyadic):Fz (b.map SR.f) xs=Fz b xs:=by
 unfold Fz;refine U9 λi=> ?_;rw[Q9,Q9,V_]
 cases b[i]? with
 |none=>rfl
 |some s=>
  show some (s.f.L+(s.f.H-s.f.L)*_)=some _;rw[SR.f_L,SR.f_H]
structure RG(p:PX):Prop where
 n:p.ts.length<=8
 ok:zg 400 p.ts
 sz:∀t∈p.ts,t.m.size<=3
 ex:∀t∈p.ts,∀c∈t.m.data.toList,c.toNat<=2
structure Sw(ps:List PX)(b:List SR):Prop where
 ln:b.length=ps.length
 pos:0<ps.length
 fit:∀p∈ps,Gt p b (Cc p.v p.ts)
def sL{p:PX}(h:p.e=0)(h0:0<p.v):gm p []=Ua (Cc p.v p.ts)/\Ua (Cc p.v p.ts)≠[]:=by
 obtain⟨o1,o2,_⟩:=nj h;refine⟨by unfold gm;rw[J' o7];exact o1,λe=> ?_⟩;have:=J_ List.length e;rw[Kc,o2] at this;have:p.v.toNat=0:=this;omega
def kq{b:List SR}(h:Ks ps b=0):Sw ps b:=by
 unfold Ks at h;split at h
 .rename_i p hp;have h3:=K6 hp;exact absurd h (D9 h3)
 rename_i hp;have h2:¬(ps.length=0\/ps.length≠b.length\/8<ps.length):=λc=>by rw[J' c] at h;cases h
 refine⟨Z',Z',λp hpm=> ?_⟩;have h3:pg p b []=0:=by simpa using Q7.1 hp p hpm
 unfold pg at h3;by_cases h4:um p b (gm p [])=0
 .obtain⟨_,hF⟩:=CD h4;have hv:=hF.v;have hp:=hF.pos;rwa[(sL hF.e Z').1,Yw] at hF
 rw[J' h4] at h3;exact absurd h3 h4
structure dv(ps:List PX)(n:Nat)(b:List SR):Prop where
 ln:b.length=ps.length
 up:∀s∈b,s.lo.ma<s.hi.ma
 bx:∀s∈b,s.fin (40+2*n)
def tm.mono{l:Nat}{a:NR}(h:tm k a)(hl:k<=l):tm l a:=⟨h.1,h.2.mono hl⟩
variable {m:Nat}
def dv.mono{b:List SR}(h:dv ps n b)(hm:n<=m):dv ps m b:=⟨h.ln,h.up,λs hs=>⟨(h.bx s hs).1.mono Z',(h.bx s hs).2.mono Z'⟩⟩
def dv.half{a:Nat}{b:List SR}{s:SR}(h:dv ps n b)(hn:n<=1000)(hs:b[a]?=some s)(u:Bool):dv ps (n+1) (Ni b a s u):=
 ⟨by unfold Ni;rw[T9,Z_];exact h.ln,WW h.up hs,λz hz=>NU (k:=40+2*n) h.bx Z' hs z hz⟩
def dv.first{b:List SR}(h:Sw ps b)(hb:∀s∈b,s.fin 36):dv ps 0 (b.map SR.f):=by
 have hup:∀s∈b,s.lo.ma<s.hi.ma:=(by obtain⟨p,hp⟩:=List.exists_mem_of_length_pos h.pos;exact λs hs=>eV (h.fit p hp).box hs);refine⟨by rw[Z_];exact h.ln,λz hz=> ?_,λz hz=> ?_⟩
 .obtain⟨s,hs,rfl⟩:=i'.1 hz;obtain⟨m2,f0,f1,f2,f3,f4,f5⟩:=Um (hup s hs);rw[f2,f3];grind
 obtain⟨s,hs,rfl⟩:=i'.1 hz;have:=SR.gp (hb s hs) U';exact⟨this.1.mono Z',this.2.mono Z'⟩
structure OnP(p:PX)(b:List SR):Prop where
 e:pg p b []=0
 f:Gt p b (Cc p.v p.ts)
 s:(Ad p (lb b)).1=0
 c:la (Cc p.v p.ts)<=27
 g:Te (400+400+16394) (Cc p.v p.ts) (400+1)<=440000
 o:OnB p.ts (Cc p.v p.ts) b (Wo (Cc p.v p.ts) (Ad p (lb b)).2)
 z:Zx 47000 (Cc p.v p.ts,Wo (Cc p.v p.ts) (Ad p (lb b)).2)
def onP{b0 b:List SR}{p:PX}(h:Sw ps b0)(hb:dv ps n b)(hn:n<=50)(hp:p∈ps)(sp:RG p):OnP p b:=by
 have hF:=h.fit p hp;have hl:=hb.ln;have hl0:=h.ln;have hv:=hF.v;have hpos:=h.pos;have hc:=kM hF.e sp.sz sp.ex;have hb4:∀z∈b,z.fin 400:=λz hz=>⟨(hb.bx z hz).1.mono Z',(hb.bx z hz).2.mono Z'⟩;have hnl:(Cc p.v p.ts).length=b.length:=by rw[hF.Ul];omega
 obtain⟨b1,b2,b3⟩:=abi (k:=400) hF.e (ace Z' hb.up) Z' Z' hnl hF.low Z' hF.own hb4 U';have hex:∀t∈p.ts,∀c∈t.m.data.toList,c.toNat<=4:=λt ht c hc=>M_ (sp.ex t ht c hc) U';have hg:=Pz (k:=400) hF.e hex Z' U';have vp:=cX b2 b3 sp.ok hb4 U' hg;have hd2:=YC hF.e sp.ex;have hsum:(Cc p.v p.ts).sum<=9:=KR (λd hd=>by have:=hd2 d hd;omega) hc U';obtain⟨s1,_⟩:=pO b2 sp.ok hb4 U' hc U' hsum U' b3;have s2:=(Jt b2 sp.ok hb4 U' hg b3).2;refine⟨?_,b2,b3,hc,hg,aeF b2 vp,⟨by rw[hnl];exact b2.Mp,b2.low,MC _ _,M_ hc U',λx hx=> ?_⟩⟩
 .rw[<-b1];obtain⟨d1,d2⟩:=sL hF.e Z';unfold pg;rw[d1,show gm p (Ua (Cc p.v p.ts))=Ua (Cc p.v p.ts) from L' λe=>d2 (W6.1 e)]
 refine(aaS s2 s1.ok b2.low x hx).mono ?_;have:=b2.Mp;have:=(Vb s1.e).2.1;rw[hnl];omega
def lN{xs:List NR}{m:ByteArray}{c:Dyadic}{q k0:Nat}(hc:Sz k0 c)(hx:∀x∈xs,Sz q x.ma)(hm:∀e∈m.data.toList,e.toNat<=2):∀k,Sz (k0+(1+2*q)*k) (wD c xs m k)
 |0=>hc
 |k+1=>by
  refine((lN hc hx hm k).mul (l:=1+2*q) ?_).mono (by rw[R8];omega);unfold TF;split
  .rename_i x e h1 h2;have he:=hm e (G' h2);exact((hx x (G' h1)).pow e.toNat).mono (by have:=k_ q he;omega)
  exact Sz.one.mono Z'
def JQ{xs:List NR}{ts:List TR}{q k0:Nat}(hx:∀x∈xs,Sz q x.ma)(ht:zg k0 ts)(hm:∀t∈ts,∀e∈t.m.data.toList,e.toNat<=2):∀i,Sz (k0+(1+2*q)*xs.length+i) (Gs xs ts i)
 |0=>Sz.zero _
 |i+1=>by
  show Sz (k0+(1+2*q)*xs.length+i+1) (Gs xs ts i+_);refine(JQ hx ht hm i).add ?_;split
  .rename_i t h;have hm2:=G' h;exact(lN (ht t hm2).2 hx (hm t hm2) xs.length).mono Z'
  exact Sz.zero _
def RG.tU{p:PX}(h:RG p)(he:p.e=0)(n:Nat)(hn:8<=n):Am p.v 400 n 2 p.ts:=⟨he,h.ok,λt ht=>M_ (h.sz t ht) U',M_ h.n hn,h.ex⟩
def vV{p:PX}{b:List SR}(sp:RG p)(he:p.e=0)(hb:∀s∈b,s.fin 140)(hl:b.length<=3):∀a∈Hk (cq b) p,a.ok/\Sz 2600 a.ma:=λa ha=>by
 unfold Hk at ha;obtain⟨i,hi,rfl⟩:=i'.1 ha;have key:Sz 2600 (wk p (cq b) i).ma/\∃x,wk p (cq b) i=nR x:=by
  unfold wk Gm;split
  .rw[db];refine⟨?_,_,rfl⟩;have g:=iG i (sp.tU he 8 (j' _)) U' U';have hx:∀x∈cq b,Sz 142 x.ma:=λy hy=>(by unfold cq at hy;obtain⟨j,hj,rfl⟩:=List.mem_mapIdx.1 hy;have h1:=SR.gp (hb _ (List.getElem_mem hj)) U';rw[db];exact Sz.Ch h1.1.sz h1.2.sz);have hml:(cq b).length<=3:=by unfold cq;rw[M7];exact hl
   have h3:=g.len;refine(JQ hx g.ok g.ex _).mono ?_;show _+(ua (Jm i p.ts)).length<=_;omega
  rw[db];exact⟨Sz.zero _,_,rfl⟩
 obtain⟨h1,x,h2⟩:=key;rw[h2,db] at h1;rw[h2,db];exact⟨h1.ok U',h1⟩
def aeM{b0 b:List SR}(h:Sw ps b0)(h3:ps.length<=3)(hb:dv ps n b)(hn:n<=50)(sp:∀p∈ps,RG p):Ks ps b=0:=by
 have hl:=hb.ln;have hp:=h.pos;rw[gL λp hp=>(onP h hb hn hp (sp p hp)).e,L' Z']
def aaO{b0 b:List SR}(h:Sw ps b0)(h3:ps.length<=3)(hb:dv ps n b)(hn:n<=50)(sp:∀p∈ps,RG p):bE ps b:=by
 have hl:=hb.ln;refine⟨aeM h h3 hb hn sp,λp hp _=>(onP h hb hn hp (sp p hp)).g,λs hs=>⟨(hb.bx s hs).1.mono Z',(hb.bx s hs).2.mono Z'⟩,λd hd=> ?_,λl hl2=> ?_,hl⟩
 .unfold Uj at hd;obtain⟨p,hp,rfl⟩:=i'.1 hd;exact(onP h hb hn hp (sp p hp)).z
 unfold Lm at hl2;obtain⟨p,hp,rfl⟩:=i'.1 hl2;exact vV (sp p hp) (h.fit p hp).e (λs hs=>⟨(hb.bx s hs).1.mono Z',(hb.bx s hs).2.mono Z'⟩) Z'
def Ex{ps:List PX}{b0:List SR}{tol:Dyadic}{g bu:Int}(h:Sw ps b0)(h3:ps.length<=3)(sp:∀p∈ps,RG p)(hbu:bu<=40):∀(f n:Nat)(st:List (List SR))(l:List ZV),(∀b∈st,dv ps n b)->bu+1<(n:Int)+f->((n:Int)<=bu\/0<f)->n<=45->∃R k e,Ss ps tol g bu f n st l R k e
 |f,n,[],l,_,_,_,_=>⟨l,n,0,by cases f<;>exact⟨rfl,rfl,rfl⟩⟩
 |0,n,b::st,l,_,h1,h2,_=>by omega
 |f+1,n,b::st,l,hst,h1,h2,h4=>by
  by_cases hb:bu<(n+1:Nat)
  .exact⟨[],0,3,by rw[Ss,J' hb];exact⟨rfl,rfl,rfl⟩⟩
  have hbo:=hst b q';have hc:=aaO h h3 hbo Z' sp;have hst':∀c∈st,dv ps (n+1) c:=λc hc=>(hst c (F' _ hc)).mono Z';by_cases hn:Wj (Uj ps b)=true
  .obtain⟨R,k,e,hE⟩:=Ex (tol:=tol) (g:=g) (bu:=bu) h h3 sp hbu f (n+1) st l hst' Z' Z' Z';exact⟨R,k,e,by rw[Ss,L' hb,J' hn];exact⟨hc,hE⟩⟩
  by_cases hx:qg ps b=true
  .obtain⟨R,k,e,hE⟩:=Ex (tol:=tol) (g:=g) (bu:=bu) h h3 sp hbu f (n+1) st (l++[⟨1,b,yi g (Uj ps b)⟩]) hst' Z' Z' Z';exact⟨R,k,e,by rw[Ss,L' hb,L' hn,J' hx];exact⟨hc,hE⟩⟩
  have hl:=hbo.ln;have hp:=h.pos;obtain⟨a,ha,hal⟩:=jC (b.length-1) b Z';obtain⟨s,hs⟩:=ea hal;by_cases ht:s.hi.ma-s.lo.ma<tol
  .obtain⟨R,k,e,hE⟩:=Ex (tol:=tol) (g:=g) (bu:=bu) h h3 sp hbu f (n+1) st (l++[⟨2,b,yi g (Uj ps b)⟩]) hst' Z' Z' Z';exact⟨R,k,e,by rw[Ss,L' hb,L' hn,L' hx];exact⟨hc,a,s,λv hv=>DL hv ha,hs,by rw[J' ht];exact hE⟩⟩
  obtain⟨R,k,e,hE⟩:=Ex (tol:=tol) (g:=g) (bu:=bu) h h3 sp hbu f (n+1) (Ni b a s false::Ni b a s true::st) l (λc hc=>by
   obtain rfl|hc:=T_.1 hc
   .exact hbo.half Z' hs false
   obtain rfl|hc:=T_.1 hc
   .exact hbo.half Z' hs true
   exact hst' c hc) Z' Z' Z'
  exact⟨R,k,e,by rw[Ss,L' hb,L' hn,L' hx];exact⟨hc,a,s,λv hv=>DL hv ha,hs,by rw[L' ht];exact hE⟩⟩
def Qq{ps:List PX}{tol:Dyadic}{g bu:Int}:∀(f n:Nat)(st:List (List SR))(l R:List ZV)(k e:Int),e≠0->Ss ps tol g bu f n st l R k e->R=[]/\k=0
 |f,n,[],l,R,k,e,he,h=>absurd (by cases f<;>exact h.2.2) he
 |0,n,b::st,l,R,k,e,he,h=>absurd h id
 |f+1,n,b::st,l,R,k,e,he,h=>by
  rw[Ss] at h;by_cases hb:bu<(n+1:Nat)
  .rw[J' hb] at h;exact⟨h.1,h.2.1⟩
  rw[L' hb] at h;replace h:=h.2;by_cases hn:Wj (Uj ps b)=true
  .rw[J' hn] at h;exact Qq f _ _ _ _ _ _ he h
  rw[L' hn] at h;by_cases hx:qg ps b=true
  .rw[J' hx] at h;exact Qq f _ _ _ _ _ _ he h
  rw[L' hx] at h;obtain⟨a,s,h1,h2,h⟩:=h;split at h
  .exact Qq f _ _ _ _ _ _ he h
  exact Qq f _ _ _ _ _ _ he h
def GW{Y ts:List Dyadic}(ht:∀t∈ts,0<=t/\t<1)(hy:Y.length=la ds)(h:Tj (Y.map nR)≠0):rq ds Y ts≠0:=by
 have hsg:∀y∈Y,Yg y 0=Tj (Y.map nR):=λy hy=>(by have:=QX h (nR y) (i'.2 ⟨y,hy,rfl⟩);rw[<-this,NR.sign,db]);have hat:∀q,q<la ds->∃y,Y[q]?=some y/\y∈Y:=λq hq=>(by obtain⟨y,h2⟩:=ea (l:=Y) (k:=q) Z';exact⟨y,h2,G' h2⟩);generalize Tj (Y.map nR)=S at*;obtain⟨y0,_,hy0⟩:=hat 0 (Ec ds);have hSb:=tM y0 0;rw[hsg y0 hy0] at hSb;by_cases h1:S=1
 .have:=fU (ds:=ds) (Y:=Y) ht λq hq=>(by obtain⟨y,e,hm⟩:=hat q hq;rw[e];exact(sv y 0).1 (by rw[hsg y hm];omega));intro e;rw[e] at this;exact absurd this (by grind)
 have:=abE (ds:=ds) (Y:=Y) ht λq hq=>(by obtain⟨y,e,hm⟩:=hat q hq;rw[e];exact(yv y 0).1 (by rw[hsg y hm];omega));intro e;rw[e] at this;exact absurd this (by grind)
def VO(pt:List Dyadic)(b:List SR):Prop:=∃us:List Dyadic,us.length=b.length/\(∀t∈us,0<=t/\t<1)/\Fz b us=pt
def VO.half{b:List SR}{a:Nat}{s:SR}{pt:List Dyadic}(up:∀s∈b,s.lo.ma<s.hi.ma)(hs:b[a]?=some s)(hi:VO pt b):VO pt (Ni b a s false)\/VO pt (Ni b a s true):=by
 obtain⟨us,h1,h2,h3⟩:=hi;have ha:=(X_.1 hs).1;obtain⟨t,ht⟩:=ea (l:=us) (k:=a) Z';have h2t:=h2 t (G' ht);have hh:=xq;have key:∀(u:Bool)(v:Dyadic),0<=v/\v<1->(if u then Je (-1)+(1-Je (-1))*v else Je (-1)*v)=t->VO pt (Ni b a s u):=λu v hv he=>by
  refine⟨us.set a v,by unfold Ni;rw[T9,T9,Z_];exact h1,λx hx=> ?_, ?_⟩
  .obtain hx|rfl:=H8 hx
   .exact h2 x hx
   exact hv
  have h4:=TY (u:=u) (us:=us.set a v) (t:=v) up hs (by rw[F9,J' rfl,J' Z']);show Fz (Qw b a s u) _=_;rw[h4,he,List.set_set,vn ht];exact h3
 by_cases hlt:t<Je (-1)
 .exact .inl (key false (t+t) (by constructor<;>grind) (by show Je (-1)*(t+t)=t;grind))
 exact .inr (key true (t+t-1) (by constructor<;>grind) (by show Je (-1)+(1-Je (-1))*(t+t-1)=t;grind))
def qW{b0 b:List SR}{pt:List Dyadic}(h:Sw ps b0)(hb:dv ps n b)(hn:n<=50)(sp:∀p∈ps,RG p)(hz:∀p∈ps,ui pt p.ts=0)(hi:VO pt b):Wj (Uj ps b)=false:=by
 unfold Wj;rw[p9];intro d hd;unfold Uj at hd;obtain⟨p,hp,rfl⟩:=i'.1 hd;rw[K_];intro hs;obtain⟨us,h1,h2,h3⟩:=hi;have o:=(onP h hb hn hp (sp p hp)).o;have hbl:=o.bl;have hv:=o.vl us.reverse (by rw[c_];omega);rw[q6,h3,hz p hp] at hv;exact GW (λt ht=>h2 t (g8.1 ht)) (by rw[Wd];exact o.len) hs hv
def ql{ps:List PX}{b0:List SR}{tol:Dyadic}{g bu:Int}{pt:List Dyadic}(h:Sw ps b0)(sp:∀p∈ps,RG p)(hbu:bu<=40)(hz:∀p∈ps,ui pt p.ts=0):∀(f n:Nat)(st:List (List SR))(l R:List ZV)(k:Int),Ss ps tol g bu f n st l R k 0->(∀b∈st,dv ps n b)->((∃b∈st,VO pt b)\/∃z∈l,VO pt z.b)->∃z∈R,VO pt z.b
 |f,n,[],l,R,k,hE,_,hi=>by
  have hR:R=l:=by cases f<;>exact hE.1
  rw[hR];obtain⟨b,hb,_⟩|hi:=hi
  .exact absurd hb O9
  exact hi
 |0,n,b::st,l,R,k,hE,_,_=>absurd hE id
 |f+1,n,b::st,l,R,k,hE,hst,hi=>by
  rw[Ss] at hE;by_cases hb:bu<(n+1:Nat)
  .rw[J' hb] at hE;exact absurd hE.2.2 U'
  rw[L' hb] at hE;replace hE:=hE.2;have hbo:=hst b q';have hst':∀c∈st,dv ps (n+1) c:=λc hc=>(hst c (F' _ hc)).mono Z';by_cases hn:Wj (Uj ps b)=true
  .rw[J' hn] at hE;refine ql h sp hbu hz f (n+1) st l R k hE hst' ?_;obtain⟨c,hc,hi⟩|hi:=hi
   .obtain rfl|hc:=T_.1 hc
    .rw[qW h hbo Z' sp hz hi] at hn
     cases hn
    exact .inl ⟨c,hc,hi⟩
   exact .inr hi
  rw[L' hn] at hE;have hput:∀q:Int,((∃c∈st,VO pt c)\/∃z∈l++[⟨q,b,yi g (Uj ps b)⟩],VO pt z.b):=λq=>by
   obtain⟨c,hc,hi⟩|⟨z,hz,hi⟩:=hi
   .obtain rfl|hc:=T_.1 hc
    .exact .inr ⟨_,T8 _ q',hi⟩
    exact .inl ⟨c,hc,hi⟩
   exact .inr ⟨z,z9 _ hz,hi⟩
  by_cases hx:qg ps b=true
  .rw[J' hx] at hE;exact ql h sp hbu hz f (n+1) st _ R k hE hst' (hput 1)
  rw[L' hx] at hE;obtain⟨a,s,_,hs,hE⟩:=hE;split at hE
  .exact ql h sp hbu hz f (n+1) st _ R k hE hst' (hput 2)
  refine ql h sp hbu hz f (n+1) _ l R k hE (λc hc=> ?_) ?_
  .obtain rfl|hc:=T_.1 hc
   .exact hbo.half Z' hs false
   obtain rfl|hc:=T_.1 hc
   .exact hbo.half Z' hs true
   exact hst' c hc
  obtain⟨c,hc,hi⟩|hi:=hi
  .obtain rfl|hc:=T_.1 hc
   .obtain hi|hi:=hi.half hbo.up hs
    .exact .inl ⟨_,q',hi⟩
    exact .inl ⟨_,F' _ q',hi⟩
   exact .inl ⟨c,F' _ (F' _ hc),hi⟩
  exact .inr hi
structure nW(b0 b:List SR):Prop where
 ln:b.length=b0.length
 inb:∀(i:Nat)(s z:SR),b[i]?=some s->b0[i]?=some z->z.lo.ma<=s.lo.ma/\s.hi.ma<=z.hi.ma
def Iw{b:List SR}{a:Nat}{s:SR}(up:∀s∈b,s.lo.ma<s.hi.ma)(hs:b[a]?=some s)(u:Bool):nW b (Ni b a s u):=by
 have ha:=(X_.1 hs).1;refine⟨by unfold Ni;rw[T9,Z_],λi x z hx hz=> ?_⟩;unfold Ni at hx;rw[F9] at hx;obtain⟨m,e0,e1,e2,e3,e4,e5⟩:=Um (up z (G' hz));obtain⟨g1,g2⟩:=UH (up z (G' hz));by_cases hi:a=i
 .subst hi;rw[hs] at hz;obtain rfl:=L_ hz;rw[J' rfl,J' (by rw[Z_];exact ha)] at hx;rw[<-L_ hx]
  cases u with
  |false=>
   show s.lo.ma<=s.f.lo.ma/\(nR s.f.Ch).ma<=s.hi.ma;rw[e0,e2];constructor<;>grind
  |true=>
   show s.lo.ma<=(nR s.f.Ch).ma/\s.f.hi.ma<=s.hi.ma;rw[e0,e3];constructor<;>grind
 rw[L' hi,V_,hz] at hx;have hx:z.f=x:=L_ hx;rw[<-hx,e2,e3];constructor<;>grind
def nW.trans{a b c:List SR}(h1:nW a b)(h2:nW b c):nW a c:=by
 refine⟨h2.ln.trans h1.ln,λi s z hs hz=> ?_⟩;obtain⟨y,hy⟩:=ea (l:=b) (k:=i) (by rw[h1.ln];exact(X_.1 hz).1);obtain⟨a1,a2⟩:=h1.inb i y z hy hz;obtain⟨b1,b2⟩:=h2.inb i s y hs hy;constructor<;>grind
def fp(a b:List SR):Prop:=∃(i:Nat)(s t:SR),a[i]?=some s/\b[i]?=some t/\(s.hi.ma<=t.lo.ma\/t.hi.ma<=s.lo.ma)
def fp.symm{a b:List SR}(h:fp a b):fp b a:=let⟨i,s,t,h1,h2,h3⟩:=h;⟨i,t,s,h2,h1,h3.symm⟩
def fp.wth{a b c:List SR}(h:fp a b)(hw:nW a c):fp c b:=by
 obtain⟨i,s,t,h1,h2,h3⟩:=h;obtain⟨y,hy⟩:=ea (l:=c) (k:=i) (by rw[hw.ln];exact(X_.1 h1).1);obtain⟨a1,a2⟩:=hw.inb i y s hy h1;exact⟨i,y,t,hy,h2,h3.imp (λh=>by grind) λh=>by grind⟩
def EC{b:List SR}{a:Nat}{s:SR}(hs:b[a]?=some s):fp (Ni b a s false) (Ni b a s true):=by
 have ha:=(X_.1 hs).1;have e:∀u,(Ni b a s u)[a]?=some (s.f.half (nR s.f.Ch) u):=λu=>(by unfold Ni;rw[F9,J' rfl,J' (by rw[Z_];exact ha)]);exact⟨a,_,_,e false,e true,.inl (by show(nR s.f.Ch).ma<=(nR s.f.Ch).ma;grind)⟩
def ZU{R:α->α->Prop}{l st:List α}{b c d:α}(h:(l++b::st).Pairwise R)(hc:∀x,R x b->R x c)(hd:∀x,R x b->R x d)(hc':∀x,R b x->R c x)(hd':∀x,R b x->R d x)(hcd:R c d):(l++c::d::st).Pairwise R:=by
 rw[J5] at h |-;obtain⟨h1,h2,h3⟩:=h;rw[Y8] at h2;refine⟨h1, ?_,λx hx y hy=> ?_⟩
 .rw[Y8,Y8];refine⟨λy hy=> ?_,λy hy=>hd' y (h2.1 y hy),h2.2⟩;obtain rfl|hy:=T_.1 hy
  .exact hcd
  exact hc' y (h2.1 y hy)
 obtain rfl|hy:=T_.1 hy
 .exact hc x (h3 x hx b q')
 obtain rfl|hy:=T_.1 hy
 .exact hd x (h3 x hx b q')
 exact h3 x hx y (F' _ hy)
structure UQ(ps:List PX)(b0:List SR)(tol:Dyadic)(g:Int)(z:ZV):Prop where
 ok:dv ps 50 z.b
 wt:nW b0 z.b
 rs:z.r=yi g (Uj ps z.b)
 kd:(z.k=1/\qg ps z.b=true)\/(z.k=2/\∀s∈z.b,s.hi.ma-s.lo.ma<tol)
def BV{b:List SR}{a:Nat}{s:SR}(up:∀s∈b,s.lo.ma<s.hi.ma)(h:∀v,Cm b v->v=(a:Int))(hs:b[a]?=some s):∀t∈b,t.hi.ma-t.lo.ma<=s.hi.ma-s.lo.ma:=λt ht=>by
 have ha:=(X_.1 hs).1;obtain⟨v,hv,_⟩:=jC (b.length-1) b Z';have hva:=h _ hv;obtain⟨hb,_⟩|⟨m,s',h1,h2,h3,_⟩:=hv
 .rw[hb] at ht;exact absurd ht O9
 obtain rfl:m=a:=Z';rw[hs] at h1;obtain rfl:=L_ h1;obtain⟨j,hj⟩:=j_.1 ht;have h4:=h3 j t hj;obtain⟨g1,g2⟩:=UH (up t ht);obtain⟨g3,g4⟩:=UH (up s (G' hs));have e1:t.wid=t.H-t.L:=rfl;have e2:s.wid=s.H-s.L:=rfl;rw[e1,e2] at h4;grind
def sn{ps:List PX}{b0:List SR}{tol:Dyadic}{g bu:Int}(hbu:bu<=40):∀(f n:Nat)(st:List (List SR))(l R:List ZV)(k:Int),Ss ps tol g bu f n st l R k 0->(∀b∈st,dv ps n b/\nW b0 b)->(∀z∈l,UQ ps b0 tol g z)->(l.map ZV.b++st).Pairwise fp->(∀z∈R,UQ ps b0 tol g z)/\(R.map ZV.b).Pairwise fp/\(n:Int)<=k/\(k<=bu\/k=n)
 |f,n,[],l,R,k,hE,_,hl,hp=>by
  have hR:R=l/\k=n:=by cases f<;>exact⟨hE.1,hE.2.1⟩
  rw[hR.1,hR.2];rw[n_] at hp;exact⟨hl,hp,k7 _,.inr rfl⟩
 |0,n,b::st,l,R,k,hE,_,_,_=>absurd hE id
 |f+1,n,b::st,l,R,k,hE,hst,hl,hp=>by
  rw[Ss] at hE;by_cases hb:bu<(n+1:Nat)
  .rw[J' hb] at hE;exact absurd hE.2.2 U'
  rw[L' hb] at hE;replace hE:=hE.2;obtain⟨hbo,hbw⟩:=hst b q';have hst':∀c∈st,dv ps (n+1) c/\nW b0 c:=λc hc=>⟨(hst c (F' _ hc)).1.mono Z',(hst c (F' _ hc)).2⟩;have fin:∀{P Q:Prop},P/\Q/\((n+1:Nat):Int)<=k/\(k<=bu\/k=(n+1:Nat))->P/\Q/\(n:Int)<=k/\(k<=bu\/k=n):=λ{P Q} h=>⟨h.1,h.2.1,by have:=h.2.2.1;omega,.inl (by have:=h.2.2.1;have:=h.2.2.2;omega)⟩;by_cases hn:Wj (Uj ps b)=true
  .rw[J' hn] at hE;refine fin (sn hbu f (n+1) st l R k hE hst' hl (hp.sublist ?_));exact List.Sublist.append (A_ _) (s_ _ _)
  rw[L' hn] at hE;have hput:∀q:Int,((q=1/\qg ps b=true)\/(q=2/\∀s∈b,s.hi.ma-s.lo.ma<tol))->(∀z∈l++[⟨q,b,yi g (Uj ps b)⟩],UQ ps b0 tol g z)/\((l++[(⟨q,b,yi g (Uj ps b)⟩:ZV)]).map ZV.b++st).Pairwise fp:=λq hq=>by
   refine⟨λz hz=> ?_,by rw[q_,l_];exact hp⟩;obtain hz|hz:=z_.1 hz
   .exact hl z hz
   rw[S_.1 hz];exact⟨hbo.mono Z',hbw,rfl,hq⟩
  by_cases hx:qg ps b=true
  .rw[J' hx] at hE;obtain⟨a1,a2⟩:=hput 1 (.inl ⟨rfl,hx⟩);exact fin (sn hbu f (n+1) st _ R k hE hst' a1 a2)
  rw[L' hx] at hE;obtain⟨a,s,hW,hs,hE⟩:=hE;split at hE
  .rename_i ht;obtain⟨a1,a2⟩:=hput 2 (.inr ⟨rfl,λt ht2=>by have:=BV hbo.up hW hs t ht2;grind⟩);exact fin (sn hbu f (n+1) st _ R k hE hst' a1 a2)
  refine fin (sn hbu f (n+1) _ l R k hE (λc hc=> ?_) hl ?_)
  .obtain rfl|hc:=T_.1 hc
   .exact⟨hbo.half Z' hs false,hbw.trans (Iw hbo.up hs false)⟩
   obtain rfl|hc:=T_.1 hc
   .exact⟨hbo.half Z' hs true,hbw.trans (Iw hbo.up hs true)⟩
   exact hst' c hc
  have w:=Iw hbo.up hs;exact ZU hp (λx h=>(h.symm.wth (w false)).symm) (λx h=>(h.symm.wth (w true)).symm) (λx h=>h.wth (w false)) (λx h=>h.wth (w true)) (EC hs)
def Oy(ps:List PX)(tol:Dyadic)(g bu:Int):Nat->Nat->List SR->List ZV->Option (List ZV×Nat×Int)
 |_,n,[],l=>some (l,n,0)
 |0,_,_::_,_=>none
 |f+1,n,s::st,l=>if bu<(n+1:Nat) then some ([],0,3)
   else if Wj (Uj ps [s])=true then Oy ps tol g bu f (n+1) st l
   else if qg ps [s]=true then Oy ps tol g bu f (n+1) st (l++[⟨1,[s],yi g (Uj ps [s])⟩])
   else if s.hi.ma-s.lo.ma<tol then Oy ps tol g bu f (n+1) st (l++[⟨2,[s],yi g (Uj ps [s])⟩])
   else Oy ps tol g bu f (n+1) (s.f.half (nR s.f.Ch) false::s.f.half (nR s.f.Ch) true::st) l
def Uq{ps:List PX}{b0:List SR}{tol:Dyadic}{g bu:Int}(h:Sw ps b0)(h3:ps.length<=3)(sp:∀p∈ps,RG p)(hbu:bu<=40):∀(f n:Nat)(st:List SR)(l R:List ZV)(k:Nat)(e:Int),Oy ps tol g bu f n st l=some (R,k,e)->(∀s∈st,dv ps n [s])->Ss ps tol g bu f n (st.map λs=>[s]) l R k e
 |f,n,[],l,R,k,e,hz,_=>by
  have:some (l,n,(0:Int))=some (R,k,e):=by cases f<;>exact hz
  simp only[P8,Prod.mk.injEq] at this;obtain⟨rfl,rfl,rfl⟩:=this
  cases f<;>exact⟨rfl,rfl,rfl⟩
 |0,n,s::st,l,R,k,e,hz,_=>by cases hz
 |f+1,n,s::st,l,R,k,e,hz,hb=>by
  rw[Oy] at hz;rw[o_,Ss];by_cases h1:bu<(n+1:Nat)
  .rw[J' h1] at hz |-;simp only[P8,Prod.mk.injEq] at hz;obtain⟨rfl,rfl,rfl⟩:=hz;exact⟨rfl,rfl,rfl⟩
  rw[L' h1] at hz |-;have hbo:=hb s q';have hst:∀c∈st,dv ps (n+1) [c]:=λc hc=>(hb c (F' _ hc)).mono Z';refine⟨aaO h h3 hbo Z' sp, ?_⟩;by_cases h2:Wj (Uj ps [s])=true
  .rw[J' h2] at hz |-;exact Uq h h3 sp hbu f _ _ _ _ _ _ hz hst
  rw[L' h2] at hz |-;by_cases h4:qg ps [s]=true
  .rw[J' h4] at hz |-;exact Uq h h3 sp hbu f _ _ _ _ _ _ hz hst
  rw[L' h4] at hz |-;refine⟨0,s,λv hv=>VR hv,rfl, ?_⟩;by_cases h5:s.hi.ma-s.lo.ma<tol
  .rw[J' h5] at hz |-;exact Uq h h3 sp hbu f _ _ _ _ _ _ hz hst
  rw[L' h5] at hz |-;refine Uq h h3 sp hbu f _ (s.f.half (nR s.f.Ch) false::s.f.half (nR s.f.Ch) true::st) _ _ _ _ hz λc hc=> ?_;obtain rfl|hc:=T_.1 hc
  .exact hbo.half (a:=0) Z' rfl false
  obtain rfl|hc:=T_.1 hc
  .exact hbo.half (a:=0) Z' rfl true
  exact hst c hc
def nrB(a b:NR):Bool:=decide (a.neg=b.neg) && decide (a.Qa=b.Qa) && decide (a.e=b.e)
def TT{a b:NR}(h:nrB a b=true):a=b:=by
 obtain⟨n,m,e⟩:=a;obtain⟨n2,m2,e2⟩:=b;unfold nrB at h;simp only[Q_,K_] at h;obtain⟨⟨rfl,rfl⟩,rfl⟩:=h;rfl
def srB(a b:SR):Bool:=nrB a.lo b.lo && nrB a.hi b.hi
def aby{a b:SR}(h:srB a b=true):a=b:=by
 obtain⟨l,u⟩:=a;obtain⟨l2,u2⟩:=b;unfold srB at h;rw[Q_] at h;have h1:l=l2:=TT h.1;have h2:u=u2:=TT h.2;rw[h1,h2]
def MS{α:Type}(f:α->α->Bool):List α->List α->Bool
 |[],[]=>true
 |a::l,b::m=>f a b && MS f l m
 |_,_=>false
def WB{α:Type}{f:α->α->Bool}(hf:∀{a b},f a b=true->a=b):∀{l m:List α},MS f l m=true->l=m
 |[],[],_=>rfl
 |a::l,b::m,h=>(by rw[MS,Q_] at h;rw[hf h.1,WB hf h.2])
def zvB(a b:ZV):Bool:=decide (a.k=b.k) && MS srB a.b b.b && decide (a.r=b.r)
def ab1{a b:ZV}(h:zvB a b=true):a=b:=by
 obtain⟨k,x,r⟩:=a;obtain⟨k2,x2,r2⟩:=b;unfold zvB at h;simp only[Q_,K_] at h;obtain⟨⟨rfl,h2⟩,rfl⟩:=h;rw[WB aby h2]
def zJ(o:Option (List ZV×Nat×Int))(R:List ZV)(k:Nat)(e:Int):Bool:=match o with
 |some x=>MS zvB x.1 R && decide (x.2.1=k) && decide (x.2.2=e)
 |none=>false
def AW{o:Option (List ZV×Nat×Int)}{R:List ZV}{e:Int}(h:zJ o R k e=true):o=some (R,k,e):=by
 cases o with
 |none=>cases h
 |some x=>
  obtain⟨l,n,i⟩:=x;unfold zJ at h;simp only[Q_,K_] at h;obtain⟨⟨h1,rfl⟩,rfl⟩:=h;rw[WB ab1 h1]
def uH(K:ZT):PX:=⟨1,none,0,0,zT K⟩
def K1:ZT:=[([0], -1),([1],2)]
def K2:ZT:=[([0],1),([2],1)]
def K3:ZT:=[([2],1)]
def RE1:List ZV:=[⟨1,qE 0 2,Ed 24⟩]
def RE3:List ZV:=[⟨2,[⟨nR (Ed (-1)),nR (Ed 0)⟩],Ed 2⟩,⟨2,[⟨nR (Ed 0),nR (Ed 1)⟩],Ed 2⟩]
def ev1:zJ (Oy [uH K1] (Ed 2) 2 9 40 0 ((qE 0 2).map SR.f) []) RE1 1 0=true:=by decide+kernel
def ev2:zJ (Oy [uH K2] (Ed 2) 2 9 40 0 ((qE 0 2).map SR.f) []) [] 1 0=true:=by decide+kernel
def ev3:zJ (Oy [uH K3] (Ed 2) 2 20 40 0 ((qE (-1) 1).map SR.f) []) RE3 15 0=true:=by decide+kernel
def ev4:zJ (Oy [uH K3] (Ed 2) 2 14 40 0 ((qE (-1) 1).map SR.f) []) [] 0 3=true:=by decide+kernel
def smK(K:ZT):Bool:=decide (K.length<=8) && zB K && K.all λx=>decide (x.1.length<=3) && x.1.all λc=>decide (c.toNat<=2)
def dR{K:ZT}(h:smK K=true)(p:PX)(hp:p.ts=zT K):RG p:=by
 unfold smK at h;simp only[Q_,K_] at h;obtain⟨⟨h1,h2⟩,h3⟩:=h;have hm:∀t∈p.ts,t.m.size<=3/\∀c∈t.m.data.toList,c.toNat<=2:=λt ht=>(by rw[hp] at ht;obtain⟨x,hx,rfl⟩:=i'.1 ht;have h4:=u_.1 h3 x hx;simp only[Q_,K_] at h4;refine⟨by show(str x.1).size<=3;rw[Hg];exact h4.1,λc hc=> ?_⟩;replace hc:c∈(str x.1).data.toList:=hc;rw[Oc] at hc;simpa using u_.1 h4.2 c hc);refine⟨by rw[hp,iJ];exact h1,by rw[hp];exact(DA h2).1.mono U',λt ht=>(hm t ht).1,λt ht=>(hm t ht).2⟩
def HB(a b:Int)(h: -100<=a/\a<=100/\ -100<=b/\b<=100):∀s∈qE a b,s.fin 36:=λs hs=>by
 have e:∀n:Int, -100<=n/\n<=100->tm 36 (nR (n:Dyadic)):=λn hn=>(by have hz:=(show Sz 24 ((n:Int):Dyadic) from db (n:Dyadic) ▸ ((DA (L:=[([],n)]) (by unfold zB;simp;omega)).1 ⟨str [],nR (n:Dyadic)⟩ q').2);exact tm.of (hz.mono U') U');rw[S_.1 hs];exact⟨e a ⟨h.1,h.2.1⟩,e b h.2.2⟩
def xB{v:Int}{A B:Option Addr}{c d:Nat}(b:List SR):Ks [(⟨v,A,n,c,ts⟩:PX)] b=Ks [(⟨v,B,m,d,ts⟩:PX)] b:=by
 have e:pg (⟨v,A,n,c,ts⟩:PX) b []=pg (⟨v,B,m,d,ts⟩:PX) b []:=rfl;unfold Ks;by_cases h:pg (⟨v,B,m,d,ts⟩:PX) b []=0
 .rw[show[(⟨v,A,n,c,ts⟩:PX)].find? (λp=>decide (pg p b []≠0))=none by simp[List.find?,e,h],show[(⟨v,B,m,d,ts⟩:PX)].find? (λp=>decide (pg p b []≠0))=none by simp[List.find?,h]];rfl
 rw[show[(⟨v,A,n,c,ts⟩:PX)].find? (λp=>decide (pg p b []≠0))=some ⟨v,A,n,c,ts⟩ by simp[List.find?,e,h],show[(⟨v,B,m,d,ts⟩:PX)].find? (λp=>decide (pg p b []≠0))=some ⟨v,B,m,d,ts⟩ by simp[List.find?,h]];exact e
variable {bu:Int}{tol:NR}
def Wq{v:Int}{ts:List TR}{A B:Option Addr}{n c m d:Nat}{tol:Dyadic}{g bu:Int}:∀(f i:Nat)(st:List (List SR))(l R:List ZV)(k e:Int),Ss [(⟨v,A,n,c,ts⟩:PX)] tol g bu f i st l R k e->Ss [(⟨v,B,m,d,ts⟩:PX)] tol g bu f i st l R k e
 |f,i,[],l,R,k,e,h=>by cases f<;>exact h
 |0,i,b::st,l,R,k,e,h=>h
 |f+1,i,b::st,l,R,k,e,h=>by
  rw[Ss] at h |-;have hf:Uj [(⟨v,B,m,d,ts⟩:PX)] b=Uj [(⟨v,A,n,c,ts⟩:PX)] b:=rfl;have hx:qg [(⟨v,B,m,d,ts⟩:PX)] b=qg [(⟨v,A,n,c,ts⟩:PX)] b:=rfl;rw[hf,hx];by_cases h1:bu<(i+1:Nat)
  .rw[J' h1] at h |-;exact h
  rw[L' h1] at h |-;obtain⟨hc,h⟩:=h;refine⟨⟨by rw[<-hc.sq];exact xB b,λp hp=> ?_,hc.bx,hc.fd,hc.sl,hc.ln⟩, ?_⟩
  .rw[S_.1 hp];have h5:=hc.gr ⟨v,A,n,c,ts⟩ q';exact h5
  by_cases h2:Wj (Uj [(⟨v,A,n,c,ts⟩:PX)] b)=true
  .rw[J' h2] at h |-;exact Wq f _ _ _ _ _ _ h
  rw[L' h2] at h |-;by_cases h3:qg [(⟨v,A,n,c,ts⟩:PX)] b=true
  .rw[J' h3] at h |-;exact Wq f _ _ _ _ _ _ h
  rw[L' h3] at h |-;obtain⟨a,s,q1,q2,h⟩:=h;refine⟨a,s,q1,q2, ?_⟩;by_cases h4:s.hi.ma-s.lo.ma<tol
  .rw[J' h4] at h |-;exact Wq f _ _ _ _ _ _ h
  rw[L' h4] at h |-;exact Wq f _ _ _ _ _ _ h
def PT{v:Int}{A B:Option Addr}{c d:Nat}{b:List SR}{g:Int}{f:Nat}{R:List ZV}{k e:Int}(h:Yo [(⟨v,A,n,c,ts⟩:PX)] b tol g bu f R k e):Yo [(⟨v,B,m,d,ts⟩:PX)] b tol g bu f R k e:=by
 unfold Yo at*;rw[xB (B:=A) (m:=n) (d:=c) b];by_cases h1:Ks [(⟨v,A,n,c,ts⟩:PX)] b≠0
 .rw[J' h1] at h |-;exact h
 rw[L' h1] at h |-;by_cases h2:tol.i.sign<=0
 .rw[J' h2] at h |-;exact h
 rw[L' h2] at h |-;exact Wq _ _ _ _ _ _ _ h
structure EgZ(K:ZT)(a b:Int):Prop where
 sm:smK K=true
 iv: -100<=a/\a<=100/\ -100<=b/\b<=100
 sq:Ks [uH K] (qE a b)=0
 gr:Te (400+400+16394) (Cc 1 (zT K)) (400+1)<=440000
def eg1:EgZ K1 0 2:=⟨by decide+kernel,U',by decide+kernel,by decide+kernel⟩
def eg2:EgZ K2 0 2:=⟨by decide+kernel,U',by decide+kernel,by decide+kernel⟩
def eg3:EgZ K3 (-1) 1:=⟨by decide+kernel,U',by decide+kernel,by decide+kernel⟩
structure IsZ(K:ZT)(a b t bu:Int)(R:List ZV)(k e:Int):Prop where
 o:Yo [uH K] (qE a b) (nR (Ed t)) 2 bu 40 R k e
def tC{K:ZT}{a b t:Int}{R:List ZV}{e:Int}(E:EgZ K a b)(ht:0<(nR (Ed t)).i.sign)(hbu:bu<=40)(h:zJ (Oy [uH K] (Ed t) 2 bu 40 0 ((qE a b).map SR.f) []) R k e=true):IsZ K a b t bu R k e:=by
 refine⟨?_⟩;unfold Yo;rw[L' (by rw[E.sq];decide),L' Z',db];have hs:=kq E.sq;have sp:∀p∈[uH K],RG p:=λp hp=>dR E.sm p (by rw[S_.1 hp];rfl);exact Uq hs (by show 1<=3;decide) sp hbu 40 0 _ _ _ _ _ (AW h) λs hs2=>(by have h1:=dv.first hs (HB a b E.iv);obtain rfl:=S_.1 hs2;exact h1)
def jy{K:ZT}{a b t:Int}{R:List ZV}{k:Int}{e:Int}(E:EgZ K a b)(hZ:IsZ K a b t bu R k e)(ht: -100<=t/\t<=100)(hbu: -1000<=bu/\bu<=40)(p:PX)(L:Option Addr)(c:Nat)(B:Option Addr)(d:Nat)(w:World)(hT:Xc w)(hv:p.v=1)(hts:p.ts=zT K)(hp:p.at_ w)(hc:p.n<=p.c)(hL:Sl w L 1 2 (na PX.cells [p]))(hB:Sl w B 1 6 (na SR.cells (qE a b))):Calls prog 21 #[.slice L 1 c,.slice B 1 d,.agg #[.bool (nR (Ed t)).neg,.string (nR (Ed t)).Qa,.int .i64 (nR (Ed t)).e],.int .i64 2,.int .i64 bu] w λr w'=>∃(G:Option Addr)(c':Nat)(xs:List ZX),r=.returned (.tuple #[.slice G xs.length c',.int .i64 k,.int .i64 e])/\xs.map ZX.v=R/\Sl w' G xs.length 5 (na ZX.cells xs)/\(∀x∈xs,Sl w' x.x.A x.x.n 6 (na SR.cells x.x.b))/\Below w.heap.size w w':=by
 have hz:=(show Sz 24 ((t:Int):Dyadic) from db (t:Dyadic) ▸ ((DA (L:=[([],t)]) (by unfold zB;simp;omega)).1 ⟨str [],nR (t:Dyadic)⟩ q').2);have hpz:Sz 27 (Ed t):=(hz.mul (l:=3) (show Sz 3 (Je (-3)) from⟨1,by decide+kernel,U'⟩)).mono U';obtain⟨v,A,n,pc,ts⟩:=p;replace hv:v=1:=hv;replace hts:ts=zT K:=hts;subst hv hts;have hs:Sw [(⟨1,A,n,pc,zT K⟩:PX)] (qE a b):=kq ((xB (qE a b)).trans E.sq);have sp:=dR E.sm ⟨1,A,n,pc,zT K⟩ rfl;have hln:=hp.ln;have hn8:=sp.n;refine(Ku L 1 c [⟨1,A,n,pc,zT K⟩] B 1 d (qE a b) (nR (Ed t)) 2 bu 40 2 R k e w hT hL U' (λp hp2=> ?_) (λ_ p hp2=> ?_) hB U' (λs hs2=>⟨(HB a b E.iv s hs2).1.mono U',(HB a b E.iv s hs2).2.mono U'⟩) (λp hp2 _=> ?_) (hpz.ok U') U' U' Z' Z' (PT hZ.o)).mono λr w' ⟨G,c',xs,HR,h1,h2,h3,h4⟩=> ?_
 .rw[S_.1 hp2];exact⟨hp,by show n<=1000000;have:(zT K).length=n:=hln;have:(zT K).length<=8:=hn8;omega,hc,sp.ok,λt ht=>M_ (sp.sz t ht) U'⟩
 .rw[S_.1 hp2];exact⟨rfl,sp.tU (hs.fit _ q').e 100 U'⟩
 .rw[S_.1 hp2];exact E.gr
 refine⟨G,c',xs,h1,h2,h4.ra (i:=0) rfl,λx hx=> ?_,h4.below⟩;exact lf (h4.own _ (F' _ (h3 x hx)))
def lnF(a b:Int):FX:=TP [1] [(a:Dyadic),(b:Dyadic)]
def yS(a b:Int)(r:Bool)(A:Option Addr)(c:Nat)(B:Option Addr)(d:Nat)(L:Option Addr)(lc:Nat)(w:World)(hT:Xc w)(hA:Sl w A 1 1 (jb [1]))(hB:Sl w B 2 3 (na NR.cells [nR (a:Dyadic),nR (b:Dyadic)]))(hc:1<=c)(hL:Sl w L 1 2 [.slice A 1 c,.slice B 2 d])(h1: -100<=a/\a<=100)(h2: -100<=b/\b<=100)(hr:kj [lnF a b]=r):Calls prog 59 #[.slice L 1 lc] w λr' w'=>r'=.returned (.bool r)/\Below w.heap.size w w':=by
 have hz:∀n:Int, -100<=n/\n<=100->Sz 24 ((n:Int):Dyadic):=λn hn=>(show Sz 24 ((n:Int):Dyadic) from db (n:Dyadic) ▸ ((DA (L:=[([],n)]) (by unfold zB;simp;omega)).1 ⟨str [],nR (n:Dyadic)⟩ q').2);have h:=Bk L 1 lc [⟨A,1,c,B,2,d,[1],[nR (a:Dyadic),nR (b:Dyadic)]⟩] 24 w hT hL U' (λf hf=>by
  rw[S_.1 hf];refine⟨⟨hA,hB⟩,⟨by show 1<=1000;decide,by show 2<=100000;decide,λx hx=> ?_⟩,hc⟩;obtain rfl|hx:=T_.1 hx
  .exact⟨(hz a h1).ok U',by rw[db];exact hz a h1⟩
  rw[S_.1 hx];exact⟨(hz b h2).ok U',by rw[db];exact hz b h2⟩) U'
 have e:kj [(⟨A,1,c,B,2,d,[1],[nR (a:Dyadic),nR (b:Dyadic)]⟩:FX)]=kj [lnF a b]:=wA rfl λi g k e1 e2=>by
  cases i with
  |zero=>
   obtain rfl:=L_ e1;obtain rfl:=L_ e2;exact⟨rfl,rfl,rfl,rfl⟩
  |succ i=>cases e1
 rw[e,hr] at h;exact h
variable {w1:World}
def aj{w2 w3:World}(h:Below w1.heap.size w1 w2)(h2:Below w2.heap.size w2 w3):Below w1.heap.size w1 w3:=h.trans (h2.mono h.size)
def zr1:IsZ K1 0 2 2 9 RE1 (1:Nat) 0:=tC (k:=1) eg1 (by decide+kernel) U' ev1
def zr2:IsZ K2 0 2 2 9 [] (1:Nat) 0:=tC (k:=1) eg2 (by decide+kernel) U' ev2
def zr3:IsZ K3 (-1) 1 2 20 RE3 (15:Nat) 0:=tC (k:=15) eg3 (by decide+kernel) U' ev3
def zr4:IsZ K3 (-1) 1 2 14 [] (0:Nat) 3:=tC (k:=0) eg3 (by decide+kernel) U' ev4
def zr5:IsZ K3 (-1) 1 0 14 [] (0:Nat) 1:=⟨by
 unfold Yo;rw[L' (by rw[eg3.sq];decide),J' (by decide+kernel)];exact⟨rfl,rfl,rfl⟩⟩
def uY:∀z∈RE1,z.b.length<=1000000:=by decide
def yY:∀z∈RE3,z.b.length<=1000000:=by decide
def VT{xs:List ZX}{R:List ZV}(h:xs.map ZX.v=R)(hR:∀z∈R,z.b.length<=1000000):∀x∈xs,x.x.b.length<=1000000:=λx hx=>hR x.v (by rw[<-h];exact k6 hx)
def Ay{P:α->Prop}{a b:α}(ha:P a)(hb:P b):∀x∈[a,b],P x:=λx hx=>by
 obtain rfl|hx:=T_.1 hx
 .exact ha
 rw[S_.1 hx];exact hb
set_option maxRecDepth 100000 in
def pj(w:World)(hT:Xc w):Calls prog 17 #[] w λr w'=>r=.returned (.bool true)/\Below w.heap.size w w':=by
 have hh:=Hp.start w;refine da (N:=138) (l:=[]) func17 rfl rfl (by simp) ?_;refine fa ?_;refine qa (El (-1) 2 0 K1 _ U' U' U' (by decide+kernel)) ja.out rfl U' ?_;rintro e_ w18 ⟨p1,hv,ht,rfl,h3⟩;refine⟨_,rfl, ?_⟩;replace hh:=hh.join h3;clear h3;simp only[C',E'] at hh;refine Zj ?_;intro b19 w19 hh;refine qa (qk (0) 2 _ U' U') ja.out rfl U' ?_;rintro e_ w20 ⟨g1,rfl,h3⟩;refine⟨_,rfl, ?_⟩;replace hh:=hh.join h3;clear h3;simp only[C',E'] at hh;refine Vz ?_;intro w21 hh;refine qa (jy eg1 zr1 U' U' p1 _ _ _ _ _ (hT.hp hh) hv ht (hh.ra (i:=2) rfl) (hh.pe (i:=2) rfl) (hh.ra (i:=1) rfl) (hh.ra (i:=0) rfl)) ja.out rfl U' ?_;rintro e_ w22 ⟨G1,c1,xs1,rfl,hx1,hS1,hB1,hb_⟩;refine⟨_,rfl, ?_⟩;have hbw:=Below.refl w.heap.size w;replace hh:=hh.ext hb_;replace hT:=hT.hp hh;replace hbw:=aj hbw hh.below;replace hh:=Hp.start w22;refine fa ?_;refine qa (El (1) 0 1 K2 _ U' U' U' (by decide+kernel)) ja.out rfl U' ?_;rintro e_ w27 ⟨p2,hv,ht,rfl,h3⟩;refine⟨_,rfl, ?_⟩;replace hh:=hh.join h3;clear h3;simp only[C',E'] at hh;refine Zj ?_;intro b28 w28 hh
 refine qa (qk (0) 2 _ U' U') ja.out rfl U' ?_;rintro e_ w29 ⟨g2,rfl,h3⟩;refine⟨_,rfl, ?_⟩;replace hh:=hh.join h3;clear h3;simp only[C',E'] at hh;refine Vz ?_;intro w30 hh;refine qa (jy eg2 zr2 U' U' p2 _ _ _ _ _ (hT.hp hh) hv ht (hh.ra (i:=2) rfl) (hh.pe (i:=2) rfl) (hh.ra (i:=1) rfl) (hh.ra (i:=0) rfl)) ja.out rfl U' ?_;rintro e_ w31 ⟨G2,c2,xs2,rfl,hx2,hS2,hB2,hb_⟩;refine⟨_,rfl, ?_⟩;replace hh:=hh.ext hb_;replace hT:=hT.hp hh;replace hbw:=aj hbw hh.below;replace hS1:=hS1.ext hh.below;replace hB1:=λx hx=>(hB1 x hx).ext hh.below;skip;replace hh:=Hp.start w31;refine fa ?_;obtain rfl:=List.map_eq_nil_iff.1 hx2;refine lT ?_;rintro e_ w36 ⟨p3,hv,ht,rfl,h3⟩;refine⟨_,rfl, ?_⟩;replace hh:=hh.join h3;clear h3;simp only[C',E'] at hh;refine Zj ?_;intro b37 w37 hh;refine fT ?_;rintro e_ w38 ⟨g3,rfl,h3⟩;refine⟨_,rfl, ?_⟩;replace hh:=hh.join h3;clear h3;simp only[C',E'] at hh;refine Vz ?_;intro w39 hh
 refine qa (jy eg3 zr3 U' U' p3 _ _ _ _ _ (hT.hp hh) hv ht (hh.ra (i:=2) rfl) (hh.pe (i:=2) rfl) (hh.ra (i:=1) rfl) (hh.ra (i:=0) rfl)) ja.out rfl U' ?_;rintro e_ w40 ⟨G3,c3,xs3,rfl,hx3,hS3,hB3,hb_⟩;refine⟨_,rfl, ?_⟩;replace hh:=hh.ext hb_;replace hT:=hT.hp hh;replace hbw:=aj hbw hh.below;replace hS1:=hS1.ext hh.below;replace hB1:=λx hx=>(hB1 x hx).ext hh.below;skip;replace hh:=Hp.start w40;refine fa ?_;refine lT ?_;rintro e_ w45 ⟨p4,hv,ht,rfl,h3⟩;refine⟨_,rfl, ?_⟩;replace hh:=hh.join h3;clear h3;simp only[C',E'] at hh;refine Zj ?_;intro b46 w46 hh;refine fT ?_;rintro e_ w47 ⟨g4,rfl,h3⟩;refine⟨_,rfl, ?_⟩;replace hh:=hh.join h3;clear h3;simp only[C',E'] at hh;refine Vz ?_;intro w48 hh;refine qa (jy eg3 zr4 U' U' p4 _ _ _ _ _ (hT.hp hh) hv ht (hh.ra (i:=2) rfl) (hh.pe (i:=2) rfl) (hh.ra (i:=1) rfl) (hh.ra (i:=0) rfl)) ja.out rfl U' ?_;rintro e_ w49 ⟨G4,c4,xs4,rfl,hx4,hS4,hB4,hb_⟩;refine⟨_,rfl, ?_⟩;replace hh:=hh.ext hb_;replace hT:=hT.hp hh;replace hbw:=aj hbw hh.below;replace hS1:=hS1.ext hh.below;replace hB1:=λx hx=>(hB1 x hx).ext hh.below
 replace hS3:=hS3.ext hh.below;replace hB3:=λx hx=>(hB3 x hx).ext hh.below;replace hh:=Hp.start w49;refine fa ?_;refine lT ?_;rintro e_ w54 ⟨p5,hv,ht,rfl,h3⟩;refine⟨_,rfl, ?_⟩;replace hh:=hh.join h3;clear h3;simp only[C',E'] at hh;refine Zj ?_;intro b55 w55 hh;refine fT ?_;rintro e_ w56 ⟨g5,rfl,h3⟩;refine⟨_,rfl, ?_⟩;replace hh:=hh.join h3;clear h3;simp only[C',E'] at hh;refine Oa hh (Gg 0 _ U' U') rfl ?_;intro w57 hh;refine qa (jy eg3 zr5 U' U' p5 _ _ _ _ _ (hT.hp hh) hv ht (hh.ra (i:=2) rfl) (hh.pe (i:=2) rfl) (hh.ra (i:=1) rfl) (hh.ra (i:=0) rfl)) ja.out rfl U' ?_;rintro e_ w58 ⟨G5,c5,xs5,rfl,hx5,hS5,hB5,hb_⟩;refine⟨_,rfl, ?_⟩;replace hh:=hh.ext hb_;replace hT:=hT.hp hh;replace hbw:=aj hbw hh.below;replace hS1:=hS1.ext hh.below;replace hB1:=λx hx=>(hB1 x hx).ext hh.below;replace hS3:=hS3.ext hh.below;replace hB3:=λx hx=>(hB3 x hx).ext hh.below;replace hh:=Hp.start w58;refine fa ?_;have hl1:xs1.length=1:=by have:=J_ List.length hx1;simpa[RE1] using this
 have hl3:xs3.length=2:=by have:=J_ List.length hx3;simpa[RE3] using this
 rw[hl1] at hS1;rw[hl3] at hS3;refine Oa hh (Gg (-1) _ U' U') rfl ?_;intro w62 hh;refine Oa hh (Gg 0 _ U' U') rfl ?_;intro w63 hh;refine fa ?_;refine eL ?_;intro b65 w65 hh;refine Vz ?_;intro w66 hh;refine fa ?_;refine Oa hh (Gg 0 _ U' U') rfl ?_;intro w68 hh;refine Oa hh (Gg 1 _ U' U') rfl ?_;intro w69 hh;refine fa ?_;refine eL ?_;intro b71 w71 hh;refine Vz ?_;intro w72 hh;refine fa ?_;refine Bc hh (cs:=[_,_,_,_,_,_,_,_,_,_]) mb.out ya.out (Sb (Qd rfl) (Sb (Qd rfl) oe)) rfl rfl U' U' U' rfl U' ?_;intro b74 w74 hh;refine fa ?_;refine qa (qk 0 2 _ U' U') ja.out rfl U' ?_;rintro e_ w76 ⟨g6,rfl,h3⟩;refine⟨_,rfl, ?_⟩;replace hh:=hh.join h3;clear h3;simp only[C',E'] at hh;refine Oa hh (Gg 24 _ U' U') rfl ?_;intro w77 hh;refine fa ?_;refine ZQ ?_;intro b79 w79 hh;rw[hl1,hl3]
 replace hh:=show Hp w58 (.row (some ⟨b79,0,none⟩) 1 1 60 5 (na ZX.cells [⟨1,⟨some ⟨g6,0,none⟩,1,1,qE 0 2⟩,Ed 24⟩])::.row (some ⟨g6,0,none⟩) 1 1 36 6 (na SR.cells (qE 0 2))::.row (some ⟨b74,0,none⟩) 2 2 60 5 (na ZX.cells [⟨2,⟨some ⟨b65,0,none⟩,1,1,[⟨nR (Ed (-1)),nR (Ed 0)⟩]⟩,Ed 2⟩,⟨2,⟨some ⟨b71,0,none⟩,1,1,[⟨nR (Ed 0),nR (Ed 1)⟩]⟩,Ed 2⟩])::.row (some ⟨b71,0,none⟩) 1 1 36 6 (na SR.cells [⟨nR (Ed 0),nR (Ed 1)⟩])::.row (some ⟨b65,0,none⟩) 1 1 36 6 (na SR.cells [⟨nR (Ed (-1)),nR (Ed 0)⟩])::_) _ from hh;refine Oa hh (dr G1 (some ⟨b79,0,none⟩) 1 c1 1 xs1 [⟨1,⟨some ⟨g6,0,none⟩,1,1,qE 0 2⟩,Ed 24⟩] _ (hS1.ext hh.below) (hh.ra (i:=0) rfl) (hx1.trans rfl) (λx hx=>(hB1 x hx).ext hh.below) (λx hx=>by rw[S_.1 hx];exact hh.ra (i:=1) rfl) (VT hx1 uY) U') rfl ?_;intro w80 hh;refine fa ?_
 refine Oa hh (dr G3 (some ⟨b74,0,none⟩) 2 c3 2 xs3 [⟨2,⟨some ⟨b65,0,none⟩,1,1,[⟨nR (Ed (-1)),nR (Ed 0)⟩]⟩,Ed 2⟩,⟨2,⟨some ⟨b71,0,none⟩,1,1,[⟨nR (Ed 0),nR (Ed 1)⟩]⟩,Ed 2⟩] _ (hS3.ext hh.below) (hh.ra (i:=2) rfl) (hx3.trans rfl) (λx hx=>(hB3 x hx).ext hh.below) (Ay (hh.ra (i:=4) rfl) (hh.ra (i:=3) rfl)) (VT hx3 yY) U') rfl ?_;intro w105 hh;refine fa ?_;refine qa (Bu (-1) 1 _ U' U') ja.out rfl U' ?_;rintro e_ w124 ⟨A1,d1,B1,e1,rfl,h3⟩;refine⟨_,rfl, ?_⟩;replace hh:=hh.join h3;clear h3;simp only[C',E'] at hh;refine fa ?_;refine Zj ?_;intro b125 w125 hh;refine fa ?_;refine Oa hh (yS (-1) 1 true A1 d1 B1 e1 (some ⟨b125,0,none⟩) 1 _ (hT.hp hh) (hh.ra (i:=2) rfl) (hh.ra (i:=1) rfl) (hh.pe (i:=2) rfl) (hh.ra (i:=0) rfl) U' U' (by decide+kernel)) rfl ?_;intro w126 hh;refine fa ?_;refine qa (Bu 1 1 _ U' U') ja.out rfl U' ?_;rintro e_ w129 ⟨A2,d2,B2,e2,rfl,h3⟩;refine⟨_,rfl, ?_⟩;replace hh:=hh.join h3;clear h3;simp only[C',E'] at hh;refine fa ?_;refine Zj ?_;intro b130 w130 hh;refine fa ?_
 refine Oa hh (yS 1 1 false A2 d2 B2 e2 (some ⟨b130,0,none⟩) 1 _ (hT.hp hh) (hh.ra (i:=2) rfl) (hh.ra (i:=1) rfl) (hh.pe (i:=2) rfl) (hh.ra (i:=0) rfl) U' U' (by decide+kernel)) rfl ?_;intro w131 hh;refine fa ?_;have hcn:=λw1=>Bk none 0 0 [] 24 w1;refine fa ?_;refine Oa hh (hcn _ (hT.hp hh) (Sl.nil _ _ _) U' (λf hf=>absurd hf O9) U') rfl ?_;intro w135 hh;refine fa ?_;exact⟨rfl,aj hbw hh.below⟩
def afT(x:SR×SR):Bool:=decide (x.1.hi.ma<=x.2.lo.ma)||decide (x.2.hi.ma<=x.1.lo.ma)
def apB(a b:List SR):Bool:=(a.zip b).any afT
def BM{q:Nat}:∀(es:List Nat)(xs:List Dyadic),(∀x∈xs,Sz q x)->(∀e∈es,e<=2)->Sz (1+(1+q*2)*es.length) (jh es xs)
 |[],xs,_,_=>by cases xs<;>exact Sz.one.mono Z'
 |e::es,[],_,_=>Sz.one.mono Z'
 |e::es,x::xs,hx,he=>((Sz.acO (hx x q') (he e q')).mul (BM es xs (λy hy=>hx y (F' _ hy)) λy hy=>he y (F' _ hy))).mono (by simp only[E_,X9];omega)
def vB{k q m:Nat}(xs:List Dyadic)(hx:∀x∈xs,Sz q x):∀(l:List TR),(∀t∈l,Sz k t.c.ma)->(∀t∈l,t.m.size<=m/\∀c∈t.m.data.toList,c.toNat<=2)->Sz (k+(1+(1+q*2)*m)+l.length) (ui xs l)
 |[],_,_=>Sz.zero _
 |t::l,hk,hm=>by
  obtain⟨h1,h2⟩:=hm t q';have ha:=BM (Mc t.m) xs hx (λe he=>by
   unfold Mc at he;obtain⟨c,hc,rfl⟩:=i'.1 he;exact h2 c hc)
  have hl:(Mc t.m).length<=m:=by unfold Mc;rw[Z_];exact h1
  have:=k_ (1+q*2) hl;exact(((hk t q').mul ha).mono (l:=k+(1+(1+q*2)*m)+l.length) Z').add (vB xs hx l (λy hy=>hk y (F' _ hy)) λy hy=>hm y (F' _ hy))
def iK(p:PX)(xs:List Dyadic):List TR:=ua (p.ts++Tk p.v.toNat (-(ui xs p.ts)))
def TX(v:Nat)(x:Dyadic)(xs:List Dyadic):ui xs (Tk v x)=x:=by
 unfold Tk;rw[Ig];show(nR x).ma*jh (Mc (Ld v)) xs+0=x;rw[Io,Xk,db,Dyadic.mul_one,R7]
def uR(p:PX)(xs:List Dyadic):ui xs (iK p xs)=0:=by
 unfold iK;rw[Ig,im,TX];grind
def abL{p g:PX}(hn:p.ts.length<=5)(hk:zg 36 p.ts)(hm:∀t∈p.ts,t.m.size<=3/\∀c∈t.m.data.toList,c.toNat<=2)(hv:p.v.toNat<=3)(hx:∀x∈xs,Sz 50 x)(hg:g.ts=iK p xs):RG g:=by
 have hc:∀t∈Tk p.v.toNat (-(ui xs p.ts)),t.m=Ld p.v.toNat/\t.c.ok/\Sz 390 t.c.ma:=λt ht=>(by have h1:Sz (36+(1+(1+50*2)*3)+p.ts.length) (ui xs p.ts):=vB xs hx p.ts (λt ht=>(hk t ht).2) hm;have h2:zg 389 [(⟨Ld p.v.toNat,nR (-(ui xs p.ts))⟩:TR)]:=λt ht=>(by rw[S_.1 ht];have h3:Sz 389 (-(ui xs p.ts)):=(Sz.neg h1).mono Z';exact⟨h3.ok U',by rw[db];exact h3⟩);obtain⟨s,hs,e⟩:=Lf t ht;rw[S_.1 hs] at e;exact⟨e.symm,Fg h2 (j:=390) (by simp) U' t ht⟩);have hl:(Tk p.v.toNat (-(ui xs p.ts))).length<=1:=Wb _;have hall:∀t∈p.ts++Tk p.v.toNat (-(ui xs p.ts)),(t.c.ok/\Sz 390 t.c.ma)/\t.m.size<=3/\∀c∈t.m.data.toList,c.toNat<=2:=λt ht=>by
  obtain h|h:=z_.1 ht
  .exact⟨⟨(hk t h).1,(hk t h).2.mono U'⟩,hm t h⟩
  obtain⟨e,h2⟩:=hc t h;refine⟨h2,by rw[e,<-gl,Io,I9];exact hv,λc hc=> ?_⟩;have:c.toNat∈Mc t.m:=k6 hc;rw[e,Io] at this;rw[(X5.1 this).2];decide
 have hlen:(p.ts++Tk p.v.toNat (-(ui xs p.ts))).length<=6:=by rw[Y_];omega
 have hmem:∀t∈g.ts,t.m.size<=3/\∀c∈t.m.data.toList,c.toNat<=2:=λt ht=>(by rw[hg] at ht;obtain⟨s,hs,e⟩:=Lf t ht;rw[<-e];exact(hall s hs).2);exact⟨by rw[hg];exact M_ (Wb _) Z',by rw[hg];exact Fg (λt ht=>(hall t ht).1) Z' U',λt ht=>(hmem t ht).1,λt ht=>(hmem t ht).2⟩
def BP{b:List SR}{t:List NR}(hb:∀s∈b,s.fin 36)(ht:∀x∈t,Sz 8 x.ma)(hl:t.length=b.length):∀y∈b.mapIdx (λi s=>Vh t i s.f),y.ok/\Sz 50 y.ma:=λy hy=>by
 obtain⟨i,hi⟩:=j_.1 hy;rw[Q9] at hi
 cases hs:b[i]? with
 |none=>rw[hs] at hi;cases hi
 |some s=>
  have hil:=(X_.1 hs).1;obtain⟨x,hx⟩:=ea (l:=t) (k:=i) Z';rw[hs] at hi;replace hi:Vh t i s.f=y:=L_ hi;unfold Vh at hi;rw[hx] at hi;replace hi:nR (s.f.at_ x.ma)=y:=hi;have hf:=hb s (G' hs);have zx:=ht x (G' hx);have z:Sz 50 (s.f.at_ x.ma):=(by unfold SR.at_ SR.wid;rw[SR.f_L,SR.f_H,show s.f.lo.ma=s.L from db _];have z1:Sz 45 (x.ma*(s.H-s.L)):=zx.mul ((SR.szH hf).sub (SR.szL hf));exact(((SR.szL hf).mono (show 36<=45 by decide)).add z1).mono U');rw[<-hi,db];exact⟨z.ok U',z⟩
structure SmF(p:PX):Prop where
 n:p.ts.length<=5
 ok:zg 36 p.ts
 m:∀t∈p.ts,t.m.size<=3/\∀c∈t.m.data.toList,c.toNat<=2
def SmF.val{p:PX}(h:SmF p)(xs:List NR)(hx:∀x∈xs,Sz 50 x.ma):∃V:Dyadic,Gm p xs=nR V/\Sz 389 V/\(p.e=0->p.v=(xs.length:Int)->V=ui (xs.map NR.ma) p.ts):=by
 by_cases he:p.e=0/\p.v=(xs.length:Int)
 .obtain⟨e1,e2⟩:=uU he.1 he.2;have:=h.n;exact⟨_,e2,(vB _ (λx hx'=>by obtain⟨y,hy,rfl⟩:=i'.1 hx';exact hx y hy) p.ts (λt ht=>(h.ok t ht).2) h.m).mono Z',λ_ _=>rfl⟩
 refine⟨0, ?_,Sz.zero _,λh1 h2=>absurd ⟨h1,h2⟩ he⟩;unfold Gm Om;rw[L'];split
 .rename_i h1;rw[L' λh2=>he ⟨h1,h2.symm⟩];decide
 assumption
def vY{v:Int}{V:Dyadic}{g:PX}(o:tg (bp v) v (ua [⟨Ld v,nR V⟩]) g)(hV:Sz 389 V)(hl:g.ts.length=g.n)(hc:g.n<=g.c):g.fh 400:=by
 have ht:=o.ts;by_cases h:bp v=0
 .rw[J' h] at ht;have hf:Wg v=true:=by
   unfold bp at h;by_cases hb:Wg v=false
   .rw[J' hb] at h;exact absurd h U'
   simpa using hb
  obtain⟨h1,h2⟩:=Qe.1 hf;have hz:=Nj h1;have hlen:g.ts.length<=1:=by rw[ht];exact Wb _
  refine⟨Z',hc, ?_,λt hm=> ?_⟩
  .rw[ht];exact Fg (k:=389) (λt hm=>by rw[S_.1 hm];exact⟨hV.ok U',by rw[db];exact hV⟩) (by simp) U'
  rw[ht] at hm;obtain⟨s,hs,e⟩:=Lf t hm;rw[S_.1 hs] at e;rw[<-e];show(Ld v).size<=_;omega
 rw[L' h] at ht;rw[ht] at hl;refine⟨by rw[<-hl];decide,hc, ?_,λt hm=> ?_⟩
 .rw[ht];exact λt hm=>absurd hm O9
 rw[ht] at hm;exact absurd hm O9
def iP(fs:List PX)(xs:List NR)(os:List PX):Prop:=∀(j:Nat)(o:PX),os[j]?=some o->∃p,fs[j]?=some p/\p.e=0/\p.v=(xs.length:Int)/\o.v=p.v/\o.ts=iK p (xs.map NR.ma)
def lU{fs os:List PX}{xs:List NR}{p o:PX}(h:iP fs xs os)(hp:fs[os.length]?=some p)(e:p.e=0)(v:p.v=(xs.length:Int))(ov:o.v=p.v)(ot:o.ts=iK p (xs.map NR.ma)):iP fs xs (os++[o]):=λj y hy=>by
 by_cases hj:j<os.length
 .rw[X8 hj] at hy;exact h j y hy
 have hl:=(X_.1 hy).1;rw[Y_,List.length_singleton] at hl;obtain rfl:j=os.length:=Z';rw[H9 (j' _),d_] at hy;obtain rfl:o=y:=by simpa using hy
 exact⟨p,hp,e,v,ov,ot⟩
def abj{p:PX}{xs:List NR}{V:Dyadic}{ct:List TR}(hv:p.v=(xs.length:Int))(hV:V=ui (xs.map NR.ma) p.ts)(hc:ct=ua [⟨Ld p.v,nR (-V)⟩]):ua (p.ts++ct)=iK p (xs.map NR.ma):=by
 unfold iK Tk;rw[hc,hV,hv];rfl
def vz(L:Option Addr)(n c:Nat)(fs:List PX)(xA:Option Addr)(xn xc:Nat)(xs:List NR)(w:World)(hT:Xc w)(hL:Sl w L n 2 (na PX.cells fs))(hn:n<=3)(hf:∀p∈fs,p.at_ w/\SmF p/\p.n<=p.c)(hS:Sl w xA xn 3 (na NR.cells xs))(hl:xs.length=xn)(hx:∀x∈xs,x.ok/\Sz 50 x.ma):Calls prog 20 #[.slice L n c,.slice xA xn xc] w λr w'=>(r=.returned (.tuple #[.slice none 0 0,.bool false])/\Below w.heap.size w w')\/∃(G:Option Addr)(c':Nat)(os:List PX)(R:List HE),r=.returned (.tuple #[.slice G n c',.bool true])/\os.length=n/\(∀o∈os,o.row∈R)/\iP fs xs os/\Hp w (.row G n c' 24 2 (na PX.cells os)::R) w':=by
 have hh:=Hp.start w;have hln:=hL.Fa PX.len U';refine da (N:=65) (l:=[.slice L n c,.slice xA xn xc]) func20 rfl rfl (by simp) ?_;refine fa ?_;replace hh:=hh.Nb 24 2;refine Ra [4,5,6,7,8,9,10,11,12,13,14,15,16,17,18,19,20,21,22,23,24,25,26,27,28,29,30,31,32,33,34,35,36,37,38,39,40,41,42,43,44,45,46,47,48,49,50,51,52,53,54,55,56,57,58,59,60,61,62,63] 6 7 (λa v w'=>∃(i c3:Nat)(A:Option Addr)(os:List PX)(R:List HE),i<=n/\v=.int .i64 i/\a=.slice A i c3/\os.length=i/\(∀o∈os,o.row∈R)/\iP fs xs os/\Hp w (.row A i c3 24 2 (na PX.cells os)::R) w') (λ_ v _=>n-(intOf v).toNat) ?_ ?_
 .exact⟨0,0,none,[],[],D' _,rfl,rfl,rfl,λo h=>absurd h O9,λj o h=>(nomatch h),hh⟩
 clear hh;rintro ρ' a_ v w' ⟨i,c3,A,os,R,hi,rfl,rfl,hol,hrs,hzd,hh⟩;by_cases hlt:i<n
 .obtain⟨p,hp⟩:=ea (l:=fs) (k:=i) Z';obtain⟨hpa,hps,hpc⟩:=hf p (G' hp);obtain⟨V,hV,zV,hVe⟩:=hps.val xs λx h=>(hx x h).2;obtain⟨ad,rfl,hr⟩:=hL.at_ Z';have lp:p.fh 50:=⟨by have:=hpa.ln;have:=hps.n;omega,hpc,hps.ok.mono U',λt ht=>M_ (hps.m t ht).1 U'⟩;have mm:=λw1 hT1 h1 h2=>Ru p xs xA xn xc 50 w1 hT1 h1 lp h2 hl hx U';rw[hV] at mm;have hne:=λw1 hT1=>zi (nR V) w1 hT1 (M_ (zV.ok U').1 U') (by have:=(zV.ok U').2.1;omega) (by have:=(zV.ok U').2.2;omega);rw[db] at hne;have hcn:=λw1 hT1=>sj p.v (nR (-V)) 390 w1 hT1 ⟨((zV.neg).mono (l:=390) U').ok U',by rw[db];exact(zV.neg).mono U'⟩ U';refine fa ?_;refine wb (vs:=[_,_]) ya.out rfl ((hr.ext hh.below).recAt PX.len hp) rfl U' ?_;refine mL ?_;refine Oa hh (mm _ (hT.hp hh) (hpa.ext hh.below) (hS.ext hh.below)) rfl ?_;intro w26 hh;refine Tb ?_;intro b8 w8 hh ws hh;replace hh:=show Hp w (.blk b8 30 [.bool (nR V).neg,.string (nR V).Qa,.int .i64 (nR V).e] (0,0)::_) _ from hh
  refine Cd [11] [10] [0,0,3,7,15,0,32,127,255,511,511,0,3071,8191] 12 [[(0,none)],[(7,none)],[(30,some 0),(31,some 1)],[(32,some 2)],[(33,some 3)],[(8,none)],[(35,some 5)],[(34,some 4),(36,some 6)],[(37,some 7)],[(29,some 8)],[(29,some 8)],[]] [(11,10),(10,39),(9,38),(8,29),(7,37),(6,36),(5,35),(4,34),(3,33),(2,32),(1,31),(0,30)] hh mixed T' (Li rfl ya.out Od) rfl (by repeat (first|exact Eb|refine Ya ?_|refine Db ?_)) ?_;refine Ee ?_;refine jd ?_;refine lj (i) ?_;refine ru ?_;refine Vo (λ_ hj=>((hr.ext hj.hp.below).recAt PX.len hp).cell (i:=0) rfl) ?_;refine Yd 0 [_,_,_] ?_;refine dC (λ_ hj=>hne _ (hT.hp hj.hp)) ?_;refine Va (i:=7) (Wh hh.sz (bp p.v) p.v (ua [⟨Ld p.v,nR (-V)⟩])) (Wh.ext) ?_ ?_
  .intro ρ1 w1 hj hR;exact Qb rfl (pb ja.out (Ga (show ρ1 34=Value.int _ _ from hR.1) (Ga (show ρ1 36=Value.agg (List.toArray _) from hR.2.1) Gb))) (hcn w1 (hT.hp hj.hp)) (λ_ _ ⟨g,og,hq,h3⟩=>⟨_,hq,h3.below,g,w1,rfl,og,hj.bl.size,h3⟩)
  refine Va (i:=8) (Wh hh.sz (bp p.v) p.v (ua [⟨Ld p.v,nR (-V)⟩])) (Wh.ext) ?_ ?_
  .exact LR
  refine Va (i:=9) (Fi hh.sz (bp p.v) p.v (ua [⟨Ld p.v,nR (-V)⟩])) (Fi.ext) ?_ ?_
  .exact KU
  refine Va (i:=10) (Is (.int .i64 (bp p.v))) (Is.ext) ?_ ?_
  .exact eW
  refine Va (i:=11) (Ic _ 24 _) Ic.ext (λρ1 w1 hj hR=>Si ya.out hj.bl (λv w2 h hb=>⟨hb,h⟩)) ?_;refine xa ?_;intro f W hJ hV _;have hb_6:=hJ.bl;obtain⟨v10,v39,v38,v29,v37,v36,v35,v34,v33,v32,v31,v30,_⟩:=hV;obtain⟨g37,u37,e37, -⟩:=v37;obtain⟨g29,u29,e29, -⟩:=v29;obtain⟨g38,u38,e38,o38,q38,h38⟩:=v38;obtain⟨b10,e10,hl10,hc10⟩:Ic _ _ _ (f 11) W:=v10;replace hh:=hJ.Zk hh hl10 hc10 q38 h38 (PX.ne h38 hc10 U');refine Ea (Na (aa e10 (aa v39 (aa e38 (aa e29 (aa e37 (aa v36 (aa v35 (aa v34 (aa v33 (aa v32 (aa v31 (aa v30 Da))))))))))))) ?_;dsimp only[Cb];clear e37 e29 e38 e10 hJ;simp only[C',E'] at hh;obtain⟨cv,cA,cn,cc,ct⟩:=g38;replace hh:=show Hp w (_::.row cA cn cc 72 4 (na TR.cells ct)::_) W from hh;have cln:ct.length=cn:=(hh.ra (i:=1) rfl).Fa TR.len U';have lc:(⟨cv,cA,cn,cc,ct⟩:PX).fh 400:=vY o38 (zV.neg) cln (hh.pe (i:=1) rfl);have lp4:p.fh 400:=⟨lp.n,lp.cap,lp.ok.mono U',lp.sz⟩;refine Lb ?_;intro ws hh
  refine Cd [10] [9] [0,0,3,7,0,31,63,127,255,255,0,1535,4095] 11 [[(0,none)],[(7,none)],[(41,some 0),(42,some 1)],[(43,some 2)],[(10,none)],[(44,some 3),(45,some 4)],[(46,some 5)],[(47,some 6)],[(40,some 7)],[(40,some 7)],[]] [(10,12),(9,49),(8,48),(7,40),(6,47),(5,46),(4,45),(3,44),(2,43),(1,42),(0,41)] hh mixed T' (Li rfl ya.out Od) rfl (by repeat (first|exact Eb|refine Ya ?_|refine Db ?_)) ?_;refine Ee ?_;refine jd ?_;refine lj (i) ?_;refine Zm [_,_] (λ_ hj=>(hr.ext hj.hp.below).recAt PX.len hp) ?_;refine Yd 0 [_,_] ?_;refine Va (i:=5) (Bi 2 2 (na PX.cells [p,⟨cv,cA,cn,cc,ct⟩])) (Bi.ext) ?_ ?_
  .intro ρ1 w1 hj hR;exact Ek (sz:=2) mb.out ya.out (show AB ρ1 [(0,.tmp 44),(1,.tmp 45)]=[(0,.agg #[.int .i64 p.v,.slice p.A p.n p.c]),(1,.agg #[.int .i64 cv,.slice cA cn cc])] from Sb (show ρ1 44=_ from hR.1) (Sb (show ρ1 45=_ from hR.2.1) oe)) rfl rfl U' U' rfl λv w2 h hb=>⟨hb,h⟩
  refine Va (i:=6) (Wh hh.sz (dz [p,⟨cv,cA,cn,cc,ct⟩]) (kf [p,⟨cv,cA,cn,cc,ct⟩]) (ua (Nq [p,⟨cv,cA,cn,cc,ct⟩]))) (Wh.ext) ?_ ?_
  .intro ρ1 w1 hj hR;obtain⟨g46,e46,o46⟩:=hR.1;exact let⟨b,e1,s1⟩:=hR.1;Qb rfl (pb ja.out (Ga e1 Gb)) (Ep _ 2 2 [p,⟨cv,cA,cn,cc,ct⟩] 400 w1 (hT.hp hj.hp) s1 U' (Ay (hpa.ext hj.hp.below) (hj.hp.ra (i:=1) rfl)) (Ay lp4 lc) U') (λ_ _ ⟨g,og,hq,h3⟩=>⟨_,hq,h3.below,g,w1,rfl,og,hj.bl.size,h3⟩)
  refine Va (i:=7) (Wh hh.sz (dz [p,⟨cv,cA,cn,cc,ct⟩]) (kf [p,⟨cv,cA,cn,cc,ct⟩]) (ua (Nq [p,⟨cv,cA,cn,cc,ct⟩]))) (Wh.ext) ?_ ?_
  .exact LR
  refine Va (i:=8) (Fi hh.sz (dz [p,⟨cv,cA,cn,cc,ct⟩]) (kf [p,⟨cv,cA,cn,cc,ct⟩]) (ua (Nq [p,⟨cv,cA,cn,cc,ct⟩]))) (Fi.ext) ?_ ?_
  .exact KU
  refine Va (i:=9) (Is (.int .i64 (dz [p,⟨cv,cA,cn,cc,ct⟩]))) (Is.ext) ?_ ?_
  .exact eW
  refine xU ?_;refine xa ?_;intro f W hJ hV _;have hb_7:=hJ.bl;obtain⟨v12,v49,v48,v40,v47,v46,v45,v44,v43,v42,v41,_⟩:=hV;obtain⟨g46,e46,o46⟩:Bi 2 2 (na PX.cells [p,⟨cv,cA,cn,cc,ct⟩]) (f 5) W:=v46;obtain⟨g47,u47,e47, -⟩:=v47;obtain⟨g40,u40,e40, -⟩:=v40;obtain⟨g48,u48,e48,o48,q48,h48⟩:=v48;obtain⟨b12,e12,hl12,hc12⟩:Ic _ _ _ (f 10) W:=v12;replace hh:=hJ.Zk hh hl12 hc12 q48 h48 (PX.ne h48 hc12 U');refine Ea (Na (aa e12 (aa v49 (aa e48 (aa e40 (aa e47 (aa e46 (aa v45 (aa v44 (aa v43 (aa v42 (aa v41 Da)))))))))))) ?_;dsimp only[Cb];clear e46 e47 e40 e48 e12 hJ;simp only[C',E'] at hh;obtain⟨qv,qA,qn,qc,qt⟩:=g48;replace hh:=show Hp w (_::.row qA qn qc 72 4 (na TR.cells qt)::_) _ from hh;by_cases e1:Om p xn=0
  .by_cases e2:bp p.v=0
   .by_cases e3:dz [p,⟨cv,cA,cn,cc,ct⟩]=0
    .rw[e1,e2,e3];refine Lb ?_;intro ws hh;refine Zj ?_;intro b62 w62 hh;refine Hb hh (i:=6) rfl rfl rfl (hh.ra (i:=0) rfl) mb.out ya.out rfl U' (by first|rfl|exact ic _|exact Ob _|exact Pa _|exact Ta NR.one _) Z' Z' U' ?_;intro A63 c63 w63 hh;simp only[U_,G_] at hh;replace hh:=hh.sub (s_ _ _);refine fa ?_;replace hh:=hh.perm (P_ (l₁:=[_]));simp only[C',E'] at hh;replace hh:=hh.perm (P_ (l₁:=[_,_,_,_,_]));simp only[C',E'] at hh;replace hh:=hh.sub (I' _ (I' _ (p' _ (p' _ (p' _ (p' _ (A_ _)))))));have hpe:p.e=0/\p.v=(xs.length:Int):=by
      unfold Om at e1;by_cases h1:p.e=0
      .rw[J' h1] at e1;by_cases h2:(xn:Int)=p.v
       .exact⟨h1,by rw[<-h2,hl]⟩
       rw[L' h2] at e1;exact absurd e1 U'
      rw[L' h1] at e1;exact absurd e1 h1
     have hq1:qv=p.v:=by have:=o48.v;rw[J' e3] at this;exact this
     have hq2:qt=ua (p.ts++ct):=by have:=o48.ts;rw[J' e3] at this;rw[show qt=_ from this];simp[Nq]
     have hct:ct=ua [⟨Ld p.v,nR (-V)⟩]:=by have:=o38.ts;rw[J' e2] at this;exact this
     refine⟨⟨i+1,c63,A63,os++[⟨qv,qA,qn,qc,qt⟩],.row qA qn qc 72 4 (na TR.cells qt)::R,Z',rfl,rfl,by simp[hol],λo ho=> ?_,lU hzd (by rw[hol];exact hp) hpe.1 hpe.2 hq1 (hq2.trans (abj hpe.2 (hVe hpe.1 hpe.2) hct)),by rw[Ma];exact hh⟩,by show n-(i+1)<n-i;omega, ?_⟩
     .obtain ho|ho:=z_.1 ho
      .exact F' _ (hrs o ho)
      rw[S_.1 ho];exact q'
     exact Sc
    rw[e1,e2];refine Lb ?_;intro ws hh;exact .inl ⟨rfl,hh.below⟩
   rw[e1];refine Lb ?_;intro ws hh;exact .inl ⟨rfl,hh.below⟩
  refine Lb ?_;intro ws hh;exact .inl ⟨rfl,hh.below⟩
 obtain rfl:n=i:=Z';refine fa ?_;exact .inr ⟨A,c3,os,R,rfl,hol,hrs,hzd,hh⟩
def nZ{fs os:List PX}{X:List NR}(hz:iP fs X os)(hm:X.length<=3)(hf:∀p∈fs,SmF p)(hX:∀x∈X,Sz 50 x.ma):∀o∈os,RG o/\ui (X.map NR.ma) o.ts=0:=λo ho=>by
 obtain⟨j,hj⟩:=j_.1 ho;obtain⟨p,hp,e,v,ov,ot⟩:=hz j o hj;have h:=hf p (G' hp);exact⟨abL h.n h.ok h.m Z' (λx hx=>by obtain⟨y,hy,rfl⟩:=i'.1 hx;exact hX y hy) ot,by rw[ot];exact uR _ _⟩
def dY{b:List SR}{g:Int}(h3:ps.length<=3)(sp:∀p∈ps,RG p)(hb:∀s∈b,s.fin 36)(hbu:bu<=35):∃R k e,Yo ps b tol g bu 40 R k e:=by
 unfold Yo;by_cases h1:Ks ps b≠0
 .exact⟨[],0,Ks ps b,by rw[J' h1];exact⟨rfl,rfl,rfl⟩⟩
 by_cases h2:tol.i.sign<=0
 .exact⟨[],0,1,by rw[L' h1,J' h2];exact⟨rfl,rfl,rfl⟩⟩
 have hs:Sw ps b:=kq (by simpa using h1);obtain⟨R,k,e,h⟩:=Ex (tol:=tol.ma) (g:=g) (bu:=bu) hs h3 sp Z' 40 0 [b.map SR.f] [] (λx hx=>by rw[S_.1 hx];exact dv.first hs hb) Z' Z' Z';exact⟨R,k,e,by rw[L' h1,L' h2];exact h⟩
def cV{b:List SR}{g k e:Int}{R:List ZV}(h:Yo ps b tol g bu 40 R k e)(he:e≠0):R=[]/\k=0:=by
 unfold Yo at h;split at h
 .exact⟨h.1,h.2.1⟩
 split at h
 .exact⟨h.1,h.2.1⟩
 exact Qq _ _ _ _ _ _ _ he h
def EW{b:List SR}{g k:Int}{R:List ZV}(h:Yo ps b tol g bu 40 R k 0):Ks ps b=0/\¬tol.i.sign<=0/\Ss ps tol.ma g bu 40 0 [b.map SR.f] [] R k 0:=by
 unfold Yo at h;by_cases h1:Ks ps b≠0
 .rw[J' h1] at h;exact absurd h.2.2.symm h1
 rw[L' h1] at h;by_cases h2:tol.i.sign<=0
 .rw[J' h2] at h;exact absurd h.2.2 U'
 rw[L' h2] at h;exact⟨by simpa using h1,h2,h⟩
def abp{b:List SR}{X:List NR}(up:∀s∈b,s.lo.ma<s.hi.ma)(h:VO (X.map NR.ma) b):hasB b X=true:=by
 obtain⟨us,h1,h2,h3⟩:=h;have hl:b.length=X.length:=(by have:=J_ List.length h3;unfold Fz at this;rwa[M7,Z_] at this);unfold hasB;rw[Q_,K_,u_];refine⟨hl,λx hx=> ?_⟩;obtain⟨i,hi⟩:=j_.1 hx;rw[Q6] at hi;obtain⟨hs,hy⟩:=hi;have h4:(Fz b us)[i]?=(X.map NR.ma)[i]?:=by rw[h3]
 unfold Fz at h4;have hib:=(X_.1 hs).1;obtain⟨u,hu⟩:=ea (l:=us) (k:=i) Z';rw[Q9,hs,V_,hy,hu] at h4;have h5:x.1.L+(x.1.H-x.1.L)*u=x.2.ma:=L_ h4;obtain⟨u0,u1⟩:=h2 u (G' hu);obtain⟨g1,g2⟩:=UH (up x.1 (G' hs));have hw:=up x.1 (G' hs);have a1:0<=(x.1.H-x.1.L)*u:=Lean.Grind.OrderedRing.mul_nonneg (by grind) u0;have a2:0<=(x.1.H-x.1.L)*(1-u):=Lean.Grind.OrderedRing.mul_nonneg (by grind) (by grind);unfold SR.has;exact N_ (by constructor<;>grind)
def eT{p:PX}{b:List SR}(hl:b.length<=3)(sp:RG p)(h:um p b (gm p [])=0):Te (400+400+16394) (Cc p.v p.ts) (400+1)<=440000:=by
 obtain⟨_,hF⟩:=CD h;exact Pz hF.e (λt ht c hc=>M_ (sp.ex t ht c hc) U') (M_ (kM hF.e sp.sz sp.ex) U') U'
def aO{b:List SR}{T:List Dyadic}(hl:T.length=b.length)(hT:∀t∈T,0<=t/\t<1):VO (Fz b T) (b.map SR.f):=⟨T,by rw[Z_,hl],hT,ad8 b T⟩
def YQ{s:SR}{l:Nat}(h:s.fin k)(hl:k<=l):s.fin l:=⟨h.1.mono hl,h.2.mono hl⟩
def UU(b:List SR):nW b b:=⟨rfl,λi s z h1 h2=>by rw[h1] at h2;obtain rfl:=L_ h2;constructor<;>grind⟩
def Pr{ps:List PX}{tol:Dyadic}{g bu:Int}:∀(f n:Nat)(st:List (List SR))(l R:List ZV)(k e:Int),Ss ps tol g bu f n st l R k e->R.length<=l.length+f
 |f,n,[],l,R,k,e,h=>by
  have:R=l:=by cases f<;>exact h.1
  rw[this];omega
 |0,n,b::st,l,R,k,e,h=>absurd h id
 |f+1,n,b::st,l,R,k,e,h=>by
  rw[Ss] at h;by_cases hb:bu<(n+1:Nat)
  .rw[J' hb] at h;rw[h.1];exact D' _
  rw[L' hb] at h;replace h:=h.2;by_cases hn:Wj (Uj ps b)=true
  .rw[J' hn] at h;have:=Pr f _ _ _ _ _ _ h;omega
  rw[L' hn] at h;by_cases hx:qg ps b=true
  .rw[J' hx] at h;have:=Pr f _ _ _ _ _ _ h;rw[Y_,List.length_singleton] at this;omega
  rw[L' hx] at h;obtain⟨a,s,h1,h2,h⟩:=h;split at h
  .have:=Pr f _ _ _ _ _ _ h;rw[Y_,List.length_singleton] at this;omega
  have:=Pr f _ _ _ _ _ _ h;omega
def BU{b:List SR}{g k e:Int}{R:List ZV}(h:Yo ps b tol g bu 40 R k e):R.length<=40:=by
 unfold Yo at h;split at h
 .rw[h.1];exact D' _
 split at h
 .rw[h.1];exact D' _
 have:=Pr _ _ _ _ _ _ _ h;simpa using this
variable {w0:World}
def VW{H:List HE}(hh:Hp w0 H w){o:PX}(ho:o.row∈H)(sp:RG o):o.at_ w/\o.fh 400:=by
 obtain⟨i,hi⟩:=j_.1 ho;have h:=show o.at_ w from hh.ra hi;have h1:=h.ln;have h2:=sp.n;exact⟨h,Z',hh.pe hi,sp.ok,λt ht=>M_ (sp.sz t ht) U'⟩
def SP{L:Option Addr}{c:Nat}{fs:List PX}{xA:Option Addr}{xn xc:Nat}{xs:List NR}(hT:Xc w)(hL:Sl w L n 2 (na PX.cells fs))(hn:n<=3)(hf:∀p∈fs,p.at_ w/\SmF p/\p.n<=p.c)(hS:Sl w xA xn 3 (na NR.cells xs))(hl:xs.length=xn)(hx:∀x∈xs,x.ok/\Sz 50 x.ma):Calls prog 20 #[.slice L n c,.slice xA xn xc] w λr w'=>∃G n' c' ok,r=.returned (.tuple #[.slice G n' c',.bool ok])/\Below w.heap.size w w'/\(ok=true->n'=n/\∃(os:List PX)(R:List HE),os.length=n/\(∀o∈os,o.row∈R)/\iP fs xs os/\Hp w (.row G n c' 24 2 (na PX.cells os)::R) w'):=(vz L n c fs xA xn xc xs w hT hL hn hf hS hl hx).mono λr w' h=>by
  obtain⟨h1,h2⟩|⟨G,c',os,R,h1,h2,h3,h4,h5⟩:=h
  .exact⟨none,0,0,false,h1,h2,λh=>(nomatch h)⟩
  exact⟨G,n,c',true,h1,h5.below,λ_=>⟨rfl,os,R,h2,h3,h4,h5⟩⟩
def dx(L:Option Addr)(n c:Nat)(fs:List PX)(B:Option Addr)(m cb:Nat)(b:List SR)(tol:NR)(g bu:Int)(T:Option Addr)(mt d:Nat)(t:List Nat)(w:World)(hT:Xc w)(hL:Sl w L n 2 (na PX.cells fs))(hf:∀p∈fs,p.at_ w/\p.n<=p.c)(hB:Sl w B m 6 (na SR.cells b))(hg1: -9223372036854775808<=g)(hg2:g<=9223372036854775807)(hb1: -9223372036854775808<=bu)(hb2:bu<=9223372036854775807)(hS:Sl w T mt 1 (Og t))(ht:∀c∈t,c<256):Calls prog 4 #[.slice L n c,.slice B m cb,.agg #[.bool tol.neg,.string tol.Qa,.int .i64 tol.e],.int .i64 g,.int .i64 bu,.slice T mt d] w λr w'=>r=.returned (.bool true)/\Below w.heap.size w w':=by
 have hh:=Hp.start w;have hlb:b.length=m:=hB.Fa SR.len U';have hln:fs.length=n:=hL.Fa PX.len U';refine da (N:=82) (l:=[.slice L n c,.slice B m cb,.agg #[.bool tol.neg,.string tol.Qa,.int .i64 tol.e],.int .i64 g,.int .i64 bu,.slice T mt d]) func4 rfl rfl (by simp) ?_;refine sr ?_;refine QD hh [_,_,_] ?_;intro b8 w8 hh;refine aB (sa (Xa (sr (mL ?_))));refine qa (QC L n c fs _ (hL.ext hh.below) (λp h=>(hf p h).1.ext hh.below)) ja.out rfl U' ?_;rintro e_ w21 ⟨v1,rfl,hv1,hb_⟩;refine⟨_,rfl, ?_⟩;replace hh:=hh.ext hb_
 cases v1 with
 |true=>
  refine mB ?_;refine gS (gS (gS (gS ?_)));refine Ri U' rfl rfl U' ?_;refine pkT ?_;exact abb
 |false=>
  obtain⟨hn3,hsm⟩:=hv1 rfl;refine mB (gT (mL (gT ?_)));refine Lk hh 0 [_,_,_] (gT (mI (gT (mI ?_))));refine ig rfl rfl ?_;refine qa (BG B m cb b tol g bu _ (hB.ext hh.below)) ja.out rfl U' ?_;rintro e_ w27 ⟨v2,rfl,hv2,hb_⟩;refine⟨_,rfl, ?_⟩;replace hh:=hh.ext hb_
  cases v2 with
  |true=>
   refine pkF ?_;exact abb
  |false=>
   obtain⟨hm3,hfin,tok,tsz,g1,g2,u2⟩:=hv2 rfl;refine pkF ?_;refine mB (gT (mL ?_));refine ig rfl rfl ?_;refine Oa hh (lr B m cb b _ (hT.hp hh) (hB.ext hh.below) (λs h=>⟨(hfin s h).1.1,(hfin s h).2.1⟩) Z') rfl ?_;intro w31 hh;by_cases hck:Gk b=0
   .rw[hck];refine gT ?_;refine tS ?_;refine pkF ?_;refine sa (cF (nc (Xb (sr (mL (mL (mL (Ym ?_))))))));refine qa (oP T mt d m t _ (hT.hp hh) (hS.ext hh.below) ht Z') ja.out rfl U' ?_;rintro e_ w39 ⟨pA,pc,rfl,h3⟩;refine⟨_,rfl, ?_⟩;replace hh:=hh.join h3;clear h3;simp only[C',E'] at hh;have hpp:∀x∈(List.range m).map λi=>nR (yG t i),x.ok/\Sz 36 x.ma:=λx hx=>(by obtain⟨i,hi,rfl⟩:=i'.1 hx;have hz:=(lC t ht i).1.mono (l:=36) U';exact⟨hz.ok U',by rw[db];exact hz⟩);refine qa (NB B m cb b pA m pc _ 36 _ (hT.hp hh) (hB.ext hh.below) hfin (hh.ra (i:=0) rfl) hpp Z' Z' U') ja.out rfl U' ?_;rintro e_ w40 ⟨A40,c40,rfl,hown_,hb_⟩;refine⟨_,rfl, ?_⟩;replace hh:=hh.Aa (x:=.row _ _ _ _ _ _) hb_ hown_;refine aL (sa (sr (mL (mL ?_))));have hps:=BP hfin (t:=(List.range m).map λi=>nR (yG t i)) (λx hx=>by
     obtain⟨i,hi,rfl⟩:=i'.1 hx;rw[db];exact(lC t ht i).1) (by rw[Z_,q9];omega)
    have hpl:(b.mapIdx λi s=>Vh ((List.range m).map λi=>nR (yG t i)) i s.f).length=m:=by rw[M7];omega
    have hpv:=yQ (b:=b) (t:=(List.range m).map λi=>nR (yG t i)) (by rw[Z_,q9];omega);have hsf:∀p∈fs,SmF p:=λp h=>⟨(hsm p h).1,(hsm p h).2.1,(hsm p h).2.2⟩;have hT8:∀y∈((List.range m).map λi=>nR (yG t i)).map NR.ma,0<=y/\y<1:=λy hy=>(by obtain⟨z,hz,rfl⟩:=i'.1 hy;obtain⟨i,hi,rfl⟩:=i'.1 hz;rw[db];exact(lC t ht i).2);generalize (b.mapIdx λi s=>Vh ((List.range m).map λi=>nR (yG t i)) i s.f)=X at*;refine qa (SP (hT.hp hh) (hL.ext hh.below) hn3 (λp h=>⟨(hf p h).1.ext hh.below,hsf p h,(hf p h).2⟩) (hh.ra (i:=0) rfl) hpl hps) ja.out rfl U' ?_;rintro e_ w44 ⟨zA,zn,zc,ok,rfl,hb_,hz⟩;refine⟨_,rfl, ?_⟩
    cases ok with
    |false=>
     replace hh:=hh.ext hb_;refine mT ?_;refine ko ?_;refine ko ?_;refine aL (aB (sa (Xa (sr (mB ?_)))));refine JI ?_;refine sa (cT (sr ?_));refine Oa hh (pj _ (hT.hp hh)) rfl ?_;intro w49 hh;refine aB (sa (jj (Hm ?_)));refine qa1 ?_;exact⟨rfl,hh.below⟩
    |true=>
     obtain⟨rfl,os,HR,hol,hrs,hzd,h3⟩:=hz rfl;clear hz hb_;replace hh:=(hh.join h3).perm (.cons _ R6);clear h3;simp only[C',E'] at hh;have hza:=nZ hzd Z' hsf λx h=>(hps x h).2;obtain⟨ZR,k,e,hZ⟩:=dY (tol:=tol) (g:=g) (bu:=bu) Z' (λo h=>(hza o h).1) hfin Z';have hzl:=BU hZ;refine mT ?_;refine ko ?_;refine ko ?_;refine aL (aB (sa (Xa (sr (mB ?_)))));refine JI ?_;refine sa (cF (nc (Xb (sr (mL (mL ?_))))));refine Lk hh 3 [_,_,_] (mI (mI ?_));refine qa (Ku zA _ zc os B m cb b tol g bu 40 2 ZR k e _ (hT.hp hh) (hh.ra (i:=0) rfl) hn3 (λo h=>VW hh (by simp[hrs o h]) (hza o h).1) (λhs o h=>⟨by rw[((kq hs).fit o h).v,(kq hs).ln,hol],(hza o h).1.tU ((kq hs).fit o h).e 100 U'⟩) (hB.ext hh.below) Z' (λs h=>YQ (hfin s h) U') (λo h h0=>eT Z' (hza o h).1 h0) tok Z' Z' hb1 Z' hZ) ja.out rfl U' ?_;rintro e_ w56 ⟨G,gc,xs,HR2,rfl,hxs,hrx,h3⟩;refine⟨_,rfl, ?_⟩;replace hh:=(hh.join h3).perm (.cons _ R6);clear h3;simp only[C',E'] at hh;have hxl:xs.length<=40:=by rw[<-hxs,Z_] at hzl;exact hzl
     have hSA:=hh.ra (i:=0) rfl;have hSX:=hh.ra (i:=2) rfl;have hSb:∀x∈xs,Sl _ x.x.A x.x.n 6 (na SR.cells x.x.b):=λx h=>lf (hh.own _ (show x.x.row∈_ by simp[hrx x h]));replace hT:=hT.hp hh;have hbw:=hh.below;replace hh:=Hp.start w56;by_cases he:e=0
     .subst he;obtain⟨hsq,hts,hzz⟩:=EW hZ;have hsy:=kq hsq;have one:∀x∈[b.map SR.f],dv os 0 x:=λx hx=>by rw[S_.1 hx];exact dv.first hsy hfin
      obtain⟨z,hzR,hzin⟩:=ql hsy (λo h=>(hza o h).1) Z' (λo h=>(hza o h).2) 40 0 _ _ _ _ hzz one (.inl ⟨_,S_.2 rfl,by rw[hpv];exact aO (by simp;omega) hT8⟩);obtain⟨hgo, -, -, -⟩:=sn (b0:=b.map SR.f) Z' 40 0 _ _ _ _ hzz (λx hx=>⟨one x hx,by rw[S_.1 hx];exact UU _⟩) (λz h=>(nomatch h)) (by simp);rw[<-hxs] at hzR hgo;obtain⟨x0,hx0,rfl⟩:=i'.1 hzR;have hin:hasB x0.x.b X=true:=abp (hgo _ hzR).ok.up hzin;refine mT ?_;refine ko ?_;refine ko ?_;refine ko ?_;refine aL (aI (aI (sa (Xa (sr (mI ?_))))));refine tS (sa (cF (nc (Xb (Xa (sr (aI (sa (Oe ?_)))))))));refine Ba [12,19,68,69,70,71,72,73,74,75,76,77,78,79,80,81] 19 (λv w'=>∃i:Nat,i<=xs.length/\v=.int .i64 i/\(∀x∈xs.take i,hasB x.x.b X=false)/\Hp w56 [] w') (λv _=>xs.length-(intOf v).toNat) ?_ ?_
      .exact⟨0,D' _,rfl,λx h=>(nomatch h),hh⟩
      clear hh;rintro ρ' v w' ⟨i,hi,rfl,hall,hh⟩;by_cases hlt:i<xs.length
      .obtain⟨x,hxi⟩:=ea (l:=xs) (k:=i) hlt;obtain⟨ad,rfl,hr⟩:=hSA.at_ Z';have hxm:=G' hxi;have hgx:=hgo x.v (k6 hxm);have hxn:x.x.b.length=x.x.n:=(hSb x hxm).Fa SR.len U';have hxb:x.x.b.length=os.length:=hgx.ok.ln;have hhs:=λw1 hT1 hb1=>cJ x.x.A x.x.n x.x.c x.x.b A40 m c40 X 200 w1 hT1 ((hSb x hxm).ext hb1) (hSX.ext hb1) (λs h=>YQ (hgx.ok.bx s h) U') (λa h=>(hps a h).1) Z' Z' U';refine Xa (sr (mI (mL (Ym ?_))));refine wi (sa (cT (nc (Xb (Xa (Oe (sr (mL (mI ?_)))))))));refine pd (k:=i) mb.out ya.size rfl rfl Z' Z' U' ?_;refine qj Xd.out rfl U' ?_;refine ub ya.out rfl (((hr.ext hh.below).recAt ZX.len hxi).cell (i:=1) (v:=.slice x.x.A x.x.n x.x.c) rfl) U' ?_;refine mL ?_;refine Oa hh (hhs _ (hT.hp hh) hh.below) rfl ?_;intro w80 hh
       cases hb:hasB x.x.b X with
       |true=>
        refine sa (cT (sr ?_));refine Oa hh (pj _ (hT.hp hh)) rfl ?_;intro w81 hh;refine aB (sa (jj (xG (Hm (Hm (xG (Hm ?_)))))));refine qa1 ?_;exact⟨rfl,aj hbw hh.below⟩
       |false=>
        refine sa (cF (nc (Rt (Xb (Jb (mI ?_))))));refine mj (aI (Vn (Xb ?_)));refine⟨⟨i+1,Z',rfl,λy hy=> ?_,hh⟩,by show xs.length-(i+1)<xs.length-i;omega, ?_⟩
        .rw[oa hxi] at hy;obtain hy|hy:=z_.1 hy
         .exact hall y hy
         rw[S_.1 hy];exact hb
        exact Sc
      rw[W_ Z'] at hall;rw[hall x0 hx0] at hin
      cases hin
     obtain⟨rfl, -⟩:=cV hZ he;obtain rfl:xs=[]:=List.map_eq_nil_iff.1 hxs;refine mT ?_;refine ko ?_;refine ko ?_;refine ko ?_;refine aL (aI (aI (sa (Xa (sr (mI ?_))))));refine tS (sa (cT (sr (mL (Ym ?_)))));refine QQ (mB ?_);refine ig rfl rfl ?_;refine Oa hh (pj _ (hT.hp hh)) rfl ?_;intro w66 hh;refine pkT ?_;refine aB (sa (jj (Hm ?_)));refine qa1 ?_;exact⟨rfl,aj hbw hh.below⟩
   refine gT ?_;refine tS ?_;refine pkF ?_;exact aew
end Go.Proofs.YtbencocchdpikaaGreatDoor
namespace Go.Proofs.YtbencocchdpikaaGreatDoor.solveAll
open Go.Proofs.Tryz
open Go.ChangeShapes Go.WideShapes Go.ChangeAt Go.RowKit Go.ChangeMaps
def own:ownKnob prog.godebug=none:=by kernel_rfl
set_option maxRecDepth 100000 in
def lifted(os:Os)(started:os.Started)(H:Type)(enc:TypeId×Value->H):
  ReturnsInHanded {} Tryz.checked os 4 .any (λw args=>(Rows.solveAllSpec.pre enc prog Tryz.f4 Rows.solveAllRow.domain false w args/\laidMetH prog Rows.solveAllRow.laid w)/\sizedMet enc prog Tryz.f4 (OpenSpec.ofChange Rows.solveAllSpec) false w args) (Rows.solveAllSpec.post enc prog Tryz.f4 false true false false):=by
 refine returnsInHanded_of_change_and (C:=Tryz.checked) (X:=λw _=>laidMetH prog Rows.solveAllRow.laid w) (λ_ _ _ hh h=>h.of_heap hh) own started T' func4 (ChangeSpec.witness_shaped (enc:=enc) (C:=Tryz.checked) (os:=os) (X:=λw _=>laidMetH prog Rows.solveAllRow.laid w) false (World.laidAll prog os Rows.solveAllRow.laid) #[.slice none 0 0,.slice none 0 0,.agg #[.bool false,.string ⟨#[]⟩,.int .i64 0],.int .i64 0,.int .i64 0,.slice none 0 0] 8 (World.laidAll_os _ _ _) (World.shaped_of_ZipB T' T') T' T' T' (by rw[MakeChecks.laidMetH_plain _ _ _ T'];exact laidMet_laidAll _ T' T')) ?_
 intro W base args ds gs before hval0 hW hc _ hL _;have hval:∀(j:Nat) t v,Tryz.f4.params[j]?=some t->args[j]?=some v->Value.okWide prog W .any base t v:=hval0;have hW':=hW;obtain⟨p,q,hA0,hV,rfl,hfz,hnd⟩:=hW;have hA:DataW.TrodAll enc prog W 0 (λ_=>true) true Tryz.f4.params.toList args.toList ds p:=hA0;rw[Tryz.params4] at hA hval;obtain⟨v0,vs0,d0,ds0,p0,q0,hargs,rfl,rfl,h0,r0⟩:=trodAll_cons hA;obtain⟨v1,vs1,d1,ds1,p1,q1,rfl,rfl,rfl,h1,r1⟩:=trodAll_cons r0;obtain⟨v2,vs2,d2,ds2,p2,q2,rfl,rfl,rfl,h2,r2⟩:=trodAll_cons r1;obtain⟨v3,vs3,d3,ds3,p3,q3,rfl,rfl,rfl,h3,r3⟩:=trodAll_cons r2;obtain⟨v4,vs4,d4,ds4,p4,q4,rfl,rfl,rfl,h4,r4⟩:=trodAll_cons r3;obtain⟨v5,vs5,d5,ds5,p5,q5,rfl,rfl,rfl,h5,r5⟩:=trodAll_cons r4;obtain⟨rfl,rfl,rfl⟩:=trodAll_nil r5;obtain rfl:args= #[v0,v1,v2,v3,v4,v5]:=by cases args;simp_all
 obtain⟨rfl,rfl⟩:=trodVars_none hV;obtain⟨A0,n0,c0,l0,rfl,hS0,hF0⟩:=QJ (hval 0 47 v0 rfl rfl) h0;obtain⟨A1,n1,c1,l1,rfl,hS1,_⟩:=eQ (hval 1 26 v1 rfl rfl) h1;obtain⟨x2,rfl,_,_⟩:=LS (hval 2 30 v2 rfl rfl) h2;obtain⟨x3,rfl,rfl,rfl,b3⟩:=open_int Tryz.underlying3 (hval 3 3 v3 rfl rfl) h3;obtain⟨x4,rfl,rfl,rfl,b4⟩:=open_int Tryz.underlying3 (hval 4 3 v4 rfl rfl) h4;obtain⟨A5,n5,c5,l5,rfl,hS5,hI5⟩:=CJ (hval 5 48 v5 rfl rfl) h5;refine(dx A0 n0 c0 l0 A1 n1 c1 l1 x2 x3 x4 A5 n5 c5 l5 W (WG hL) hS0 hF0 hS1 (bounds_i64 b3).1 (bounds_i64 b3).2 (bounds_i64 b4).1 (bounds_i64 b4).2 hS5 hI5).mono λe W' ⟨he,hb⟩=> ?_;subst he;exact⟨_,rfl,bU hW' rfl T' (by rw[Tryz.params4];exact D9 T') T' Tryz.underlying4 rfl rfl rfl hb⟩
set_option maxHeartbeats 8000000 in
def row_holds:Rows.SolveAllSaid:=
 OpenClaim.holds_of_wide 4 Tryz.f4 rfl rfl rfl rfl rfl rfl rfl ⟨rfl,rfl,rfl,rfl,rfl⟩ rfl rfl rfl rfl rfl (by as_aux_lemma=>kernel_rfl) func4 (by rw[joinedFacts];simp only[Q_];and_intros<;>as_aux_lemma=>kernel_rfl) (D9 (by as_aux_lemma=>kernel_rfl)) (by unfold Func.isWrapper;first|(rw[J' (by decide+kernel)];kernel_rfl)|(rw[L' (by decide+kernel)];exact⟨rfl,rfl⟩)) (λos started H enc _=>lifted os started H enc)
set_option maxHeartbeats 8000000 in
theorem holds:Rows.SolveAllCardSaid:=
 Claim7.holds_tied_plain_at .later [] [.data,.data,.pinned] true (true, "29254e130a85e7bc3d2bb522da3cda22bede667dc2cd1008b15860ef8c3e3f2a") false row_holds (fun _ h=>by cases h) (by as_aux_lemma=>kernel_rfl) (fun _ h=>by cases h) solveAll_row_tie rfl ⟨rfl,rfl⟩ (by as_aux_lemma=>kernel_rfl) rfl (fun f fn hf hfn=>by
   obtain rfl:f=4:=L_ ((show prog.funcNamed "ogee/ogeelaw27.SolveAll" =some 4 by as_aux_lemma=>kernel_rfl).symm.trans hf)|>.symm;obtain rfl:fn=Tryz.f4:=(L_ (func4.symm.trans hfn)).symm;exact⟨by as_aux_lemma=>kernel_rfl,fun j t ht=>by
    rw[Tryz.params4] at ht;have hm:t∈[47,26,30,3,3,48]:=by simpa using Array.mem_of_getElem? ht
    have hall:([47,26,30,3,3,48].all λu=> !prog.wantsStandIn u)=true:=by as_aux_lemma=>kernel_rfl
    exact(show prog.wantsStandIn t=false by simpa using u_.1 hall t hm)⟩)
  (by as_aux_lemma=>kernel_rfl)
#print axioms holds
end Go.Proofs.YtbencocchdpikaaGreatDoor.solveAll
