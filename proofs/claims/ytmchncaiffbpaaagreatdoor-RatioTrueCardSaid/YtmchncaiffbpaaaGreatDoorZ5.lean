/- Lemmas for ratioTrue, part 5. -/
import Derived.RangeFuncFrom
import Derived.RangeFuncCalls
import Derived.RangeFuncLeaves
import Derived.Shelf.Abstract
import Derived.Test.YtmchncaiffbpaaaGreatDoorZ4
set_option maxHeartbeats 0
namespace Go.Proofs.YtmchncaiffbpaaaGreatDoor
variable {M:Nat→Nat→Dyadic}{ds:List Nat}{xs:List Dyadic}
def sR:List Nat→(List Nat→Dyadic)→Dyadic
 |[],F=>F []
 |d::ds,F=>sm (List.range (d+1)) fun r=>sR ds fun row=>F (r::row)
theorem Uf:∀(ds:List Nat) (F:List Nat→Dyadic),sm (List.range (ah ds)) (fun p=>F (bB ds p))=sR ds F
 |[],F=>by show F []+0=F [];grind
 |d::ds,F=>by
  rw [Bt,px,sR];refine a9 fun r hr=> ?_;have hr2:=ab3.1 hr;rw [←Uf ds];refine a9 fun q _=> ?_;rw [bB,adF,aci hr2,ac2 _ _ abq,acz hr2,ab2]
theorem oJ:∀{ds:List Nat}{F G:List Nat→Dyadic},(∀row,ku ds row→F row=G row)→sR ds F=sR ds G
 |[],F,G,h=>h [] trivial
 |d::ds,F,G,h=>by
  rw [sR,sR];refine a9 fun r hr=>oJ fun row hrow=>h _ ⟨by have:=ab3.1 hr;omega,hrow⟩
theorem Ty {α:Type}:∀(ds:List Nat) (l:List α) (F:α→List Nat→Dyadic),sR ds (fun row=>sm l fun a=>F a row)=sm l fun a=>sR ds (F a)
 |[],_,_=>rfl
 |d::ds,l,F=>by
  rw [sR];simp only [sR];rw [px l,a9 fun r _=>Ty ds l fun a row=>F a (r::row)]
theorem Ca:∀(ds:List Nat) (F:List Nat→Dyadic) (c:Dyadic),sR ds (fun row=>F row*c)=sR ds F*c
 |[],_,_=>rfl
 |d::ds,F,c=>by
  rw [sR,sR,←ky];exact a9 fun r _=>Ca ds _ c
def eu (ds:List Nat) (a:Nat) (M:Nat→Nat→Dyadic) (xs:List Dyadic):List Dyadic:=
 (List.range (ah ds)).map fun p=>sm (List.range (ds.getD a 0+1)) fun i=>co ds xs ((bB ds p).set a i)*M i ((bB ds p).getD a 0)
theorem j7 (ds:List Nat) (a:Nat) (M:Nat→Nat→Dyadic) (xs:List Dyadic):(eu ds a M xs).length=ah ds:=by simp [eu]
theorem Ab {row:List Nat} (a:Nat) (M:Nat→Nat→Dyadic) (xs:List Dyadic) (h:ku ds row):co ds (eu ds a M xs) row=sm (List.range (ds.getD a 0+1)) fun i=>co ds xs (row.set a i)*M i (row.getD a 0):=by
 rw [JI h];unfold eu;rw [abI,acy (ke h)];simp only [adr,acW,iw h]
theorem Jk:∀{ds row:List Nat}{a i:Nat},ku ds row→i≤ds.getD a 0→ku ds (row.set a i)
 |[],[],_,_,_,_=>trivial
 |d::ds,r::rs,0,i,h,hi=>⟨hi,h.2⟩
 |d::ds,r::rs,a+1,i,h,hi=>⟨h.1,Jk (a:=a) h.2 (by simpa using hi)⟩
def yG (d:Nat) (s:Dyadic) (i k:Nat):Dyadic:=if k<i then 0 else nD (bin (d-i) (k-i))*s^i*(1-s)^(k-i)
def yJ (d:Nat) (s:Dyadic) (i k:Nat):Dyadic:=if i<k then 0 else nD (bin i (i-k))*s^(i-k)*(1-s)^(d-i)
theorem TO (d i:Nat) (hi:i≤d) (f:Nat→Dyadic):sm (List.range (d+1)) (fun k=>if k<i then 0 else f (k-i))=sm (List.range (d-i+1)) f:=by
 obtain ⟨m,rfl⟩:∃m,d=i+m:=⟨d-i,abq⟩;rw [show i+m-i+1=m+1 by omega,show i+m+1=i+(m+1) by omega,List.range_add,kT,re,nN fun k hk=>by rw [abx (ab3.1 hk)]];have:∀x:Dyadic,0+x=x:=fun x=>by grind
 rw [this];exact a9 fun k _=>by rw [abw abq,Nat.add_sub_cancel_left]
theorem QI {d i:Nat} (s t:Dyadic) (h:i≤d):sm (List.range (d+1)) (fun k=>yG d s i k*gG d k t)=gG d i (s*t):=by
 have hb:=Iw (d-i) ((1-s)*t) (1-t);have e1:(1-s)*t+(1-t)=1-s*t:=by grind
 rw [e1] at hb;have hpw:∀(x y:Dyadic) (n:Nat),(x*y)^n=x^n*y^n:=fun x y n=>by
  induction n with
  |zero=>grind
  |succ n ih=>grind
 have e2:gG d i (s*t)=s^i*t^i*(1-s*t)^(d-i):=by unfold gG;rw [hpw]
 rw [e2,←hb,←gI,←TO d i h fun k=>s^i*t^i*(nD (bin (d-i) k)*((1-s)*t)^k*(1-t)^(d-i-k))];refine a9 fun k hk=> ?_;have hk2:=ab3.1 hk;unfold yG;by_cases hki:k<i
 ·rw [abx hki,abx hki];grind
 ·rw [abw hki,abw hki,gG,hpw,show d-i-(k-i)=d-k by omega];have e3:t^k=t^i*t^(k-i):=by rw [←kR,show i+(k-i)=k by omega]
  rw [e3];grind
theorem Mz (n:Nat):∀f:Nat→Dyadic,sm (List.range (n+1)) f=sm (List.range (n+1)) fun k=>f (n-k):=by
 induction n with
 |zero=>intro f;rfl
 |succ n ih=>
  intro f;have e:sm (List.range (n+1+1)) (fun k=>f (n+1-k))=f (n+1)+sm (List.range (n+1)) fun k=>f (n-k):=by
   rw [vD];congr 1;exact a9 fun k _=>by rw [show n+1-(k+1)=n-k by omega]
  rw [adk,kO,ih f,←adk,e];grind
theorem Sn {d i:Nat} (s t:Dyadic) (h:i≤d):sm (List.range (d+1)) (fun k=>yJ d s i k*gG d k t)=gG d i (s+(1-s)*t):=by
 have hb:=Iw i (s*(1-t)) t;have e1:s*(1-t)+t=s+(1-s)*t:=by grind
 rw [e1] at hb;have hpw:∀(x y:Dyadic) (n:Nat),(x*y)^n=x^n*y^n:=fun x y n=>by
  induction n with
  |zero=>grind
  |succ n ih=>grind
 have e2:gG d i (s+(1-s)*t)=(s+(1-s)*t)^i*((1-s)^(d-i)*(1-t)^(d-i)):=by
  unfold gG;rw [←hpw];congr 2;grind
 rw [e2,←hb];have e3:∀f:Nat→Dyadic,sm (List.range (d+1)) (fun k=>if i<k then 0 else f (i-k))=sm (List.range (i+1)) f:=fun f=>by
  obtain ⟨m,rfl⟩:∃m,d=i+m:=⟨d-i,abq⟩;rw [show i+m+1=(i+1)+m by omega,List.range_add,kT,re,nN (l:=List.range m) fun k _=>by rw [abx abq]];have h0:∀x:Dyadic,x+0=x:=fun x=>by grind
  rw [h0];rw [Mz i f];refine a9 fun k hk=> ?_;have hk2:=ab3.1 hk;rw [abw abq]
 rw [←ky,←e3 fun k=>nD (bin i k)*(s*(1-t))^k*t^(i-k)*((1-s)^(d-i)*(1-t)^(d-i))];refine a9 fun k hk=> ?_;have hk2:=ab3.1 hk;unfold yJ;by_cases hki:i<k
 ·rw [abx hki,abx hki];grind
 ·rw [abw hki,abw hki,gG,hpw,show i-(i-k)=k by omega];have e4:(1-t)^(d-k)=(1-t)^(i-k)*(1-t)^(d-i):=by rw [←kR,show i-k+(d-i)=d-k by omega]
  rw [e4];grind
theorem I4 (ds:List Nat) (xs ts:List Dyadic):eS ds xs ts=sR ds fun row=>co ds xs row*iH ds row ts:=by
 rw [←Uf];unfold eS;exact a9 fun p hp=>by rw [Bs (ab3.1 hp)]
theorem ze:∀(ds:List Nat) (a:Nat) (M:Nat→Nat→Dyadic) (G:List Nat→Dyadic) (ts:List Dyadic) (t t':Dyadic),a<ds.length→ts.length=ds.length→
  (∀i,i≤ds.getD a 0→sm (List.range (ds.getD a 0+1)) (fun k=>M i k*gG (ds.getD a 0) k t)=gG (ds.getD a 0) i t')→
  sR ds (fun row=>sm (List.range (ds.getD a 0+1)) (fun i=>G (row.set a i)*M i (row.getD a 0))*iH ds row (ts.set a t))=sR ds fun row=>G row*iH ds row (ts.set a t')
 |d::ds,0,M,G,u::ts,t,t',_,_,h=>by
  simp only [sR,List.getD_cons_zero,abK,iH] at h ⊢;have e1:∀r,sR ds (fun row=>sm (List.range (d+1)) (fun i=>G (i::row)*M i r)*(gG d r t*iH ds row ts))=sm (List.range (d+1)) fun i=>sR ds (fun row=>G (i::row)*iH ds row ts)*(M i r*gG d r t):=fun r=>by
   rw [a9 (l:=List.range (d+1)) (g:=fun i=>sR ds fun row=>G (i::row)*iH ds row ts*(M i r*gG d r t)) fun i _=>(Ca ds _ _).symm,←Ty];refine oJ fun row _=> ?_;rw [←ky];exact a9 fun i _=>by grind
  rw [a9 fun r _=>e1 r,px];refine a9 fun i hi=> ?_;have hi2:=ab3.1 hi;rw [gI,h i abq,←Ca];exact oJ fun row _=>by grind
 |d::ds,a+1,M,G,u::ts,t,t',h1,h2,h=>by
  simp only [sR,List.getD_cons_succ,ab9,iH] at h ⊢;refine a9 fun r _=> ?_;have ih:=ze ds a M (fun row=>G (r::row)) ts t t' (by simpa using h1) (by simpa using h2) h;have e1:∀(F:List Nat→Dyadic) (us:List Dyadic),sR ds (fun row=>F row*(gG d r u*iH ds row us))=sR ds (fun row=>F row*iH ds row us)*gG d r u:=fun F us=>by
   rw [←Ca];exact oJ fun row _=>by grind
  rw [e1,e1,ih]
theorem Al {a:Nat}{ts:List Dyadic}{t t':Dyadic} (ha:a<ds.length) (hl:ts.length=ds.length)
  (h:∀i,i≤ds.getD a 0→sm (List.range (ds.getD a 0+1)) (fun k=>M i k*gG (ds.getD a 0) k t)=gG (ds.getD a 0) i t'):eS ds (eu ds a M xs) (ts.set a t)=eS ds xs (ts.set a t'):=by
 rw [I4,I4,←ze ds a M (co ds xs) ts t t' ha hl h];exact oJ fun row hrow=>by rw [Ab a M xs hrow]
variable {k q:Nat}
theorem uG:∀{A B x y:List Nat},x.length=A.length→dh (A++B) (x++y)=dh A x+ah A*dh B y
 |[],B,[],y,_=>by rw [abC,abC,ah,adZ];show _=0+_;rw [ab2]
 |d::A,B,r::x,y,h=>by
  rw [abE,abE,dh,dh,ah,uG (by simpa using h),acw,acE,aet]
theorem tZ:∀(A B:List Nat) (p:Nat),bB (A++B) p=bB A p++bB B (p/ah A)
 |[],B,p=>by rw [abC,ah,adU];rfl
 |d::A,B,p=>by rw [abE,bB,bB,tZ A B,ah,ac4];rfl
theorem CE:∀(A:List Nat) (f q:Nat),bB A (f+ah A*q)=bB A f
 |[],_,_=>rfl
 |d::A,f,q=>by
  rw [bB,bB,ah,acE,adF,ac2 _ _ abq,CE A]
section
variable {A B:List Nat}{d:Nat}
def bW (A:List Nat) (d f k q:Nat):Nat:=f+ah A*(k+(d+1)*q)
theorem oD {f:Nat} (hf:f<ah A) (hk:k≤d) (hq:q<ah B):bW A d f k q<ah (A++d::B):=by
 rw [dt,ah,bW];have h1:k+(d+1)*q+1≤(d+1)*ah B:=by
  have:(d+1)*(q+1)≤(d+1)*ah B:=acd _ hq;rw [ac5] at this;omega
 have h2:=acd (ah A) h1;rw [ac5] at h2;omega
theorem zr {f:Nat} (hf:f<ah A) (hk:k≤d):bB (A++d::B) (bW A d f k q)=bB A f++k::bB B q:=by
 unfold bW;rw [tZ,CE,ac2 _ _ (de A),acz hf,ab2,bB,adF,aci abq,ac2 _ _ abq,acz abq,ab2]
theorem nU {p:Nat} (h:p<ah (A++d::B)):∃f k q,f<ah A∧k≤d∧q<ah B∧p=bW A d f k q:=by
 rw [dt,ah] at h;have hA:=de A;refine ⟨p % ah A,p/ah A % (d+1),p/ah A/(d+1),ab4 _ hA,by have:=ab4 (p/ah A) (show 0<d+1 by omega);omega, ?_, ?_⟩
 ·rw [acN abq,acN hA,abU,abU (ah B)];exact h
 ·unfold bW;rw [aes,aes]
theorem Ep (x y:List Nat) (k:Nat):(x++k::y).getD x.length 0=k:=by
 rw [adm,acP (abD _),acs]
 rfl
theorem Ho (x y:List Nat) (k i:Nat):(x++k::y).set x.length i=x++i::y:=by
 rw [adS _ _ (abD _),acs,abK]
def ck (A:List Nat) (d:Nat) (xs:List Dyadic) (f q:Nat):List Dyadic:=(List.range (d+1)).map fun i=>(xs[bW A d f i q]?).getD 0
theorem yq {f:Nat} (M:Nat→Nat→Dyadic) (xs:List Dyadic) (hf:f<ah A) (hk:k≤d) (hq:q<ah B):
  (eu (A++d::B) A.length M xs)[bW A d f k q]?=some (sm (List.range (d+1)) fun i=>(xs[bW A d f i q]?).getD 0*M i k):=by
 have hp:=oD (B:=B) hf hk hq;unfold eu;rw [abI,acy hp];simp only [adr];rw [zr hf hk,Ep];have hl:=oB A f;rw [show ((bB A f++k::bB B q).getD A.length 0)=k by rw [←hl];exact Ep _ _ _];congr 1;refine a9 fun i hi=> ?_;have hi2:i≤d:=by have:=ab3.1 hi;omega
 rw [show (bB A f++k::bB B q).set A.length i=bB A f++i::bB B q by rw [←hl];exact Ho _ _ _ _,←zr (B:=B) hf hi2,Bs (oD hf hi2 hq)]
end
variable {n:Nat}{α:Type}
open Go.RowKit
theorem CH (A:Option Addr) (n c:Nat) (ns:List Nat) (w:World) (hS:Sl w A n 1 (bh (a0 ns))) (hn:n≤1000) (hlow:∀d∈ns,d≤255) (hmax:ah ns≤1000000):
  Calls Tryz.prog 203 #[.slice A n c] w fun r w'=>r=.returned (.int .i64 (ah ns:Nat))∧Below w.heap.size w w':=by
 have hh:=Hp.start w;have hln:ns.length=n:=by have:=hS.1;simpa [bh,a0] using this
 refine ae (N:=18) (l:=[.slice A n c]) Tryz.func203 rfl rfl (by simp) ?_;refine aj ?_;refine bk [3,5,8,9,10,11,12,13,14,15,16] 3 8
  (fun v3 v w'=>∃i:Nat,i≤n∧v=.int .i64 i∧v3=.int .i64 (ah (ns.take i):Nat)∧Hp w [] w')
  (fun _ v _=>n-(intOf v).toNat) ?_ ?_
 ·exact ⟨0,abB _,rfl,rfl,hh⟩
 ·clear hh;rintro ρ' v3 v w' ⟨i,hi,rfl,rfl,hh⟩;by_cases hlt:i<n
  ·obtain ⟨d,hd⟩:=ai (l:=ns) (k:=i) abq;have hgi:=cM (eA hd);have hd2:=hlow d (abz hd);obtain ⟨ad,rfl,hr⟩:=hS.at_ abq;have hct:=eT ns (i+1);have hct2:=eT ns i;have hstep:ah (ns.take (i+1))=ah (ns.take i)*(d+1):=by rw [al hd,dt];simp [ah]
   have e1:((ah (ns.take i):Nat):Int)*((d:Int)+1)=((ah (ns.take (i+1)):Nat):Int):=by rw [hstep,acK,acZ];rfl
   refine aj ?_;refine rF ?_;refine aj ?_;rw [e1];refine ⟨⟨i+1,abq,rfl,rfl,hh⟩,by show n-(i+1)<n-i;omega, ?_⟩;exact dI
  ·refine aj ?_;rw [abG abq];exact ⟨rfl,hh.below⟩
def Bw (ns:List Nat):Bool:=ns.any (fun d=>decide (127<d))||decide (4096<ah ns)
theorem Gz (A:Option Addr) (n c:Nat) (ns:List Nat) (w:World) (hS:Sl w A n 1 (bh (a0 ns))) (hn:n≤1000) (hlow:∀d∈ns,d≤1000):
  Calls Tryz.prog 167 #[.slice A n c] w fun r w'=>r=.returned (.bool (Bw ns))∧Below w.heap.size w w':=by
 have hh:=Hp.start w;have hln:ns.length=n:=by have:=hS.1;simpa [bh,a0] using this
 refine ae (N:=26) (l:=[.slice A n c]) Tryz.func167 rfl rfl (by simp) ?_;refine aj ?_;refine bk [2,3,5,8,9,10,11,12,13,14,15,16,17,18,19,20,21,22,23,24,25] 3 8
  (fun v3 v w'=>∃i:Nat,i≤n∧v=.int .i64 i∧v3=.int .i64 (ah (ns.take i):Nat)∧ah (ns.take i)≤4096∧(ns.take i).any (fun d=>decide (127<d))=false∧Hp w [] w')
  (fun _ v _=>n-(intOf v).toNat) ?_ ?_
 ·exact ⟨0,abB _,rfl,rfl,by show 1≤4096;decide,rfl,hh⟩
 ·clear hh;rintro ρ' v3 v w' ⟨i,hi,rfl,rfl,hmx,hall,hh⟩;by_cases hlt:i<n
  ·obtain ⟨d,hd⟩:=ai (l:=ns) (k:=i) abq;have hgi:=cM (eA hd);have hd2:=hlow d (abz hd);obtain ⟨ad,rfl,hr⟩:=hS.at_ abq;have hct:=eT ns (i+1);have hstep:ah (ns.take (i+1))=ah (ns.take i)*(d+1):=by rw [al hd,dt];simp [ah]
   have hpb:ah (ns.take i)*(d+1)≤4096*1001:=acR hmx abq;have e1:((ah (ns.take i):Nat):Int)*((d:Int)+1)=((ah (ns.take (i+1)):Nat):Int):=by rw [hstep,acK,acZ];rfl
   by_cases h1:127<d
   ·refine aj ?_;refine rF ?_;refine aj ?_;refine ⟨?_,hh.below⟩;unfold Bw;rw [adg.2 ⟨d,abz hd,abQ h1⟩]
    rfl
   ·by_cases h2:4096<ah (ns.take (i+1))
    ·refine aj ?_;refine rF ?_;refine aj ?_;refine ⟨?_,hh.below⟩;unfold Bw;rw [abQ (show 4096<ah ns by omega),Bool.or_true]
    ·refine aj ?_;refine rF ?_;refine aj ?_;rw [e1];refine ⟨⟨i+1,abq,rfl,rfl,abq, ?_,hh⟩,by show n-(i+1)<n-i;omega, ?_⟩
     ·rw [al hd,aeg,hall,aef,aex,abR h1];rfl
     ·exact dI
  ·rw [abG abq] at hmx hall;refine aj ?_;refine ⟨?_,hh.below⟩;unfold Bw;rw [hall,abR abq]
   rfl
theorem BR {l:List α} (hl:l.length=n) (hk:k<n):l[n-1-k]?=l.reverse[k]?:=by rw [ac6 abq,hl]
theorem K2:∀{X Y:List Nat}{d r:Nat},X.length=Y.length→dh (X++[d]) (Y++[r])=dh X Y+ah X*r:=fun {X Y d r} h=>by
 rw [uG h.symm];simp [dh]
theorem mK (X:List Nat) (d:Nat):ah (X++[d])=ah X*(d+1):=by rw [dt];simp [ah]
theorem Cg:∀{R:List Nat}{k d:Nat} (p:Nat),R[k]?=some d→(bB R p)[k]?=some (p/ah (R.take k) % (d+1))
 |[],_,_,_,h=>by simp at h
 |e::R,0,d,p,h=>by
  obtain rfl:e=d:=by simpa using h
  show some (p % (e+1))=_;rw [adh,ah,adU]
 |e::R,k+1,d,p,h=>by
  show (bB R (p/(e+1)))[k]?=_;rw [Cg (p/(e+1)) (by simpa using h),aee,ah,ac4]
theorem JL:∀{a b:List Nat}{k x y:Nat},a[k]?=some x→b[k]?=some y→(dD a b)[k]?=some (x+y)
 |[],_,_,_,_,h,_=>by simp at h
 |_::_,[],_,_,_,_,h=>by simp at h
 |p::a,q::b,0,x,y,h1,h2=>by
  obtain rfl:p=x:=by simpa using h1
  obtain rfl:q=y:=by simpa using h2
  rfl
 |p::a,q::b,k+1,x,y,h1,h2=>by
  show (dD a b)[k]?=_;exact JL (by simpa using h1) (by simpa using h2)
theorem ED:∀{ds rs:List Nat} (k:Nat),ku ds rs→ku (ds.take k) (rs.take k)
 |[],[],_,_=>by simp [ku]
 |_::_,_::_,0,_=>trivial
 |d::ds,r::rs,k+1,h=>⟨h.1,ED k h.2⟩
theorem N4:∀{ds rs:List Nat}{k d r:Nat},ku ds rs→ds[k]?=some d→rs[k]?=some r→r≤d
 |[],_,_,_,_,_,h,_=>by simp at h
 |_::_,[],_,_,_,_,_,h=>by simp at h
 |d::ds,r::rs,0,_,_,h,h1,h2=>by
  simp only [aem,adv] at h1 h2;subst h1 h2;exact h.1
 |d::ds,r::rs,k+1,_,_,h,h1,h2=>N4 (k:=k) h.2 (by simpa using h1) (by simpa using h2)
theorem AL (F T Y:Option Addr) (n c1 c2 c3:Nat) (ns ts js:List Nat) (p:Nat) (w:World) (hF:Sl w F n 1 (bh (a0 ns))) (hT:Sl w T n 1 (bh (a0 ts))) (hY:Sl w Y n 1 (bh (a0 js)))
  (hn:n≤1000) (hok:ku ts.reverse (dD (bB ns.reverse p) js.reverse)) (hmax:ah ts≤1000000) (hns:∀d∈ns,d≤1000) (hts:∀d∈ts,d≤1000) (hp:p≤1000000):
  Calls Tryz.prog 205 #[.slice F n c1,.slice T n c2,.slice Y n c3,.int .i64 p] w fun r w'=>r=.returned (.int .i64 (dh ts.reverse (dD (bB ns.reverse p) js.reverse):Nat))∧Below w.heap.size w w':=by
 have hh:=Hp.start w;have hl1:ns.length=n:=by have:=hF.1;simpa [bh,a0] using this
 have hl2:ts.length=n:=by have:=hT.1;simpa [bh,a0] using this
 have hl3:js.length=n:=by have:=hY.1;simpa [bh,a0] using this
 generalize hrow:dD (bB ns.reverse p) js.reverse=row at*;have hrl:row.length=n:=by rw [←hrow,Db (by rw [oB,abY,abY,hl1,hl3]),oB,abY,hl1]
 refine ae (N:=52) (l:=[.slice F n c1,.slice T n c2,.slice Y n c3,.int .i64 p]) Tryz.func205 rfl rfl (by simp) ?_;refine aj ?_;refine M7 [3,9,10,11,12,16,17,18,19,20,21,22,23,24,25,26,27,28,29,30,31,32,33,34,35,36,37,38,39,40,41,42,43,44,45,46,47,48,49,50] 3 9 10 11
  (fun v3 v9 v10 v w'=>∃k:Nat,k≤n∧v=.int .i64 ((n:Int)-1-k)∧v3=.int .i64 (p/ah (ns.reverse.take k):Nat)∧v9=.int .i64 (dh (ts.reverse.take k) (row.take k):Nat)∧v10=.int .i64 (ah (ts.reverse.take k):Nat)∧Hp w [] w')
  (fun _ _ _ v _=>(intOf v+1).toNat) ?_ ?_
 ·refine ⟨0,abB _, ?_, ?_,rfl,rfl,hh⟩
  ·exact Tv
  ·rw [adh,ah,adU];rfl
 ·clear hh;rintro ρ' v3 v9 v10 v w' ⟨k,hk,rfl,rfl,rfl,rfl,hh⟩;by_cases hlt:k<n
  ·obtain ⟨d,hd⟩:=ai (l:=ns.reverse) (k:=k) (by rw [abY];omega);obtain ⟨t,ht⟩:=ai (l:=ts.reverse) (k:=k) (by rw [abY];omega);obtain ⟨j,hj⟩:=ai (l:=js.reverse) (k:=k) (by rw [abY];omega);have hd':=BR hl1 hlt;have ht':=BR hl2 hlt;have hj':=BR hl3 hlt;rw [hd] at hd';rw [ht] at ht';rw [hj] at hj';have hgd:=cM (eA hd');have hgt:=cM (eA ht');have hgj:=cM (eA hj');have hd2:=hns d (abz hd');have ht2:=hts t (abz ht');have hr:row[k]?=some (p/ah (ns.reverse.take k) % (d+1)+j):=by rw [←hrow];exact JL (Cg p hd) hj
   have hrt:=N4 hok ht hr;have hcp:=de (ns.reverse.take k);have hq:p/ah (ns.reverse.take k)≤p:=adM _ _;have hct:=eT ts.reverse (k+1);rw [cf,al ht,mK] at hct;have hck:ah (ts.reverse.take k)*1≤ah (ts.reverse.take k)*(t+1):=acd _ abq;have hhl:dh (ts.reverse.take k) (row.take k)<ah (ts.reverse.take k):=ke (ED k hok);have e1:((p/ah (ns.reverse.take k):Nat):Int) % ((d:Int)+1)=((p/ah (ns.reverse.take k) % (d+1):Nat):Int):=by rw [Int.natCast_emod];rfl
   have e2:((p/ah (ns.reverse.take k):Nat):Int)/((d:Int)+1)=((p/ah (ns.reverse.take (k+1)):Nat):Int):=by rw [al hd,mK,←ac4,Int.natCast_ediv];rfl
   have hst:dh (ts.reverse.take (k+1)) (row.take (k+1))=dh (ts.reverse.take k) (row.take k)+ah (ts.reverse.take k)*(p/ah (ns.reverse.take k) % (d+1)+j):=by rw [al ht,al hr,K2 (by rw [abP,abP,abY,hl2,hrl])]
   have e3:(((p/ah (ns.reverse.take k) % (d+1):Nat):Int)+(j:Int))*((ah (ts.reverse.take k):Nat):Int)=((ah (ts.reverse.take k)*(p/ah (ns.reverse.take k) % (d+1)+j):Nat):Int):=by rw [abU,acK,acZ]
   have e4:((ah (ts.reverse.take k):Nat):Int)*((t:Int)+1)=((ah (ts.reverse.take (k+1)):Nat):Int):=by rw [al ht,mK,acK,acZ];rfl
   have hb3:ah (ts.reverse.take k)*(p/ah (ns.reverse.take k) % (d+1)+j)≤ah (ts.reverse.take k)*(t+1):=acd _ abq;have hc5:ah (ts.reverse.take (k+1))=ah (ts.reverse.take k)*(t+1):=by rw [al ht,mK]
   generalize p/ah (ns.reverse.take k)=q at*;generalize q % (d+1)=m at*;generalize ah (ts.reverse.take k)=C at*;generalize dh (ts.reverse.take k) (row.take k)=Hh at*;obtain ⟨a1,rfl,s1⟩:=hF.at_ abq;obtain ⟨a2,rfl,s2⟩:=hT.at_ abq;obtain ⟨a3,rfl,s3⟩:=hY.at_ abq;refine aj ?_;refine aC 11 [[(3,none)],[(0,none)],[(11,none)],[(21,some 1),(22,some 2)],[(23,some 3)],[(24,some 4)],[(20,some 0),(25,some 5)],[(2,none)],[(11,none)],[(27,some 7),(28,some 8)],[(29,some 9)]] [(10,30),(9,29),(8,28),(7,27),(6,26),(5,25),(4,24),(3,23),(2,22),(1,21),(0,20)] hh mixed abt ?_;refine dp ?_;refine fO ?_;refine dp ?_;refine mU ((n-1-k)) ?_;refine a8 (i:=4) (fun ρ1 w1 hj hR=>iF az.out (show ρ1 23=Value.pointer _ from hR.1) ((s1.ext hj.hp.below).vc (by assumption))) ?_;refine tk ?_;refine a8 (i:=6) (fun ρ1 w1 hj hR=>qY (show ρ1 20=Value.int _ _ from hR.1) (show ρ1 25=Value.int _ _ from hR.2.1) abq abq) ?_;refine fO ?_;refine dp ?_;refine mU ((n-1-k)) ?_;refine a8 (i:=10) (fun ρ1 w1 hj hR=>iF az.out (show ρ1 29=Value.pointer _ from hR.1) ((s3.ext hj.hp.below).vc (by assumption))) ?_;refine av ?_
   intro f W hJ hV;have hb_5:=hJ.bl;obtain ⟨v30,v29,v28,v27,v26,v25,v24,v23,v22,v21,v20,_⟩:=hV;replace hh:=hJ.hp;refine ay (aQ (aa v30 (aa v29 (aa v28 (aa v27 (aa v26 (aa v25 (aa v24 (aa v23 (aa v22 (aa v21 (aa v20 aw)))))))))))) ?_;dsimp only [bA];clear hJ;rw [e1];refine nC (aI (aJ (sr (mI (mL (mI ?_))))));refine I9 ?_;refine Ek ?_;refine nC ?_;refine Gs rfl rfl abq abq abq abr ?_;refine aI (aJ (sr (mI (mI (mI ?_)))));refine mulC ?_;refine nC (aI (aJ (bR (mI (mL (mI ?_))))));refine I9 ?_;refine bG az.out rfl ((s2.ext hh.below).vc (by assumption)) abr ?_;refine aj ?_;refine ⟨⟨k+1,abq, ?_, ?_, ?_, ?_,hh⟩,by show ((n:Int)-1-(k:Int)-1+1).toNat<((n:Int)-1-(k:Int)+1).toNat;omega, ?_⟩
   ·exact WK
   ·exact acm (Value.int IntKind.i64) e2
   ·exact acm (Value.int IntKind.i64) (show (Hh:Int)+((m:Int)+(j:Int))*(C:Int)=_ by rw [e3,hst,acZ])
   ·exact acm (Value.int IntKind.i64) e4
   ·exact dI
  ·obtain rfl:k=n:=abq;refine aj ?_;rw [abG (by rw [abY];omega),abG abq];exact ⟨rfl,hh.below⟩
theorem yc (a:List Int) (x y:Int) (b:List Int) (n:Nat) (h:a.length=n):(a++x::b).set n y=a++y::b:=by
 subst h;rw [adS _ _ (abD _),acs,abK]
theorem xJ (F:Option Addr) (n c1:Nat) (ns:List Nat) (p:Nat) (w:World) (hF:Sl w F n 1 (bh (a0 ns))) (hn:n≤1000) (hns:∀d∈ns,d≤1000) (hp:p≤1000000):
  Calls Tryz.prog 204 #[.slice F n c1,.int .i64 p] w fun r w'=>∃A c',r=.returned (.slice A n c')∧w'.ownsRow w.heap.size 3 1 (.slice A n c') n (bh (a0 (bB ns.reverse p).reverse))∧Below w.heap.size w w':=by
 have hh:=Hp.start w;have hl1:ns.length=n:=by have:=hF.1;simpa [bh,a0] using this
 have hdl:(bB ns.reverse p).length=n:=by rw [oB,abY,hl1]
 refine ae (N:=35) (l:=[.slice F n c1,.int .i64 p]) Tryz.func204 rfl rfl (by simp) ?_;refine aj ?_;refine zk ?_;intro b9 w9 hh;refine aj ?_;rw [show Value.int IntKind.i64 0=Value.int IntKind.i64 0 from rfl] at hh;have hzr:hZ n [Value.int .i64 0]=bh (eI n):=by rw [pd];simp [bh,eI]
 rw [hzr] at hh;refine bk [1,6,13,14,15,16,17,18,19,20,21,22,23,24,25,26,27,28,29,30,31,32,33] 1 6
  (fun v1 v w'=>∃k:Nat,k≤n∧v=.int .i64 ((n:Int)-1-k)∧v1=.int .i64 (p/ah (ns.reverse.take k):Nat)∧Hp w [.row (some ⟨b9,0,none⟩) n n 3 1 (bh (eI (n-k)++a0 ((bB ns.reverse p).take k).reverse))] w')
  (fun _ v _=>(intOf v+1).toNat) ?_ ?_
 ·refine ⟨0,abB _, ?_, ?_, ?_⟩
  ·exact Tv
  ·rw [adh,ah,adU];rfl
  ·rw [adh];simpa [a0] using hh
 ·clear hh;rintro ρ' v1 v w' ⟨k,hk,rfl,rfl,hh⟩;by_cases hlt:k<n
  ·obtain ⟨d,hd⟩:=ai (l:=ns.reverse) (k:=k) (by rw [abY];omega);have hd':=BR hl1 hlt;rw [hd] at hd';have hgd:=cM (eA hd');have hd2:=hns d (abz hd');have hdk:=Cg p hd;have hq:p/ah (ns.reverse.take k)≤p:=adM _ _;have e1:((p/ah (ns.reverse.take k):Nat):Int) % ((d:Int)+1)=((p/ah (ns.reverse.take k) % (d+1):Nat):Int):=by rw [Int.natCast_emod];rfl
   have e2:((p/ah (ns.reverse.take k):Nat):Int)/((d:Int)+1)=((p/ah (ns.reverse.take (k+1)):Nat):Int):=by rw [al hd,mK,←ac4,Int.natCast_ediv];rfl
   have hlen:(eI (n-k)++a0 ((bB ns.reverse p).take k).reverse).length=n:=by simp [eI,a0,hdl];omega
   have hil:(bh (eI (n-k)++a0 ((bB ns.reverse p).take k).reverse)).length=n:=by rw [cq,hlen]
   generalize p/ah (ns.reverse.take k)=q at*;obtain ⟨a1,rfl,s1⟩:=hF.at_ abq;refine bO (sr (mI ?_));refine sZ (aJ (cT (dA (eF (bO (lk (sr (mL (mI (mI (mL (mI ?_))))))))))));refine I9 ?_;refine Ek ?_;refine nC ?_;refine OC rfl rfl abq abq abr ?_;refine dF (k:=(n-1-k)) bq.out az.size rfl rfl abq abq abr ?_;rw [e1];refine bM hh (i:=0) (vs:=[_]) rfl rfl (cH rfl) rfl az.out rfl abq rfl ?_;intro ws hh;simp only [abK] at hh;rw [lQ _ abq] at hh;refine aJ (bR (mI (mL (mI ?_))));refine I9 ?_;refine Ek ?_;refine aj ?_;refine ⟨⟨k+1,abq, ?_, ?_, ?_⟩,by show ((n:Int)-1-(k:Int)-1+1).toNat<((n:Int)-1-(k:Int)+1).toNat;omega, ?_⟩
   ·exact WK
   ·exact acm (Value.int IntKind.i64) e2
   ·have e5:(eI (n-k)++a0 ((bB ns.reverse p).take k).reverse).set (n-1-k) ((q % (d+1):Nat):Int)=eI (n-(k+1))++a0 ((bB ns.reverse p).take (k+1)).reverse:=by
     have hz:eI (n-k)=eI (n-(k+1))++[0]:=by
      unfold eI;rw [show n-k=n-(k+1)+1 by omega,List.replicate_succ']
     rw [hz,acb,List.singleton_append,yc _ _ _ _ _ (by rw [rK];omega),al hdk];simp [a0]
    rw [e5] at hh;exact hh
   ·exact dI
  ·obtain rfl:k=n:=abq;rw [abG abq,acs] at hh;exact yT
variable {N k1 k2:Nat}{es ms:List Nat}
def dX (a b:List Nat):List Nat:=List.zipWith (· + ·) a b
theorem LX {a b:List Nat} (h:a.length=b.length):(dX a b).length=a.length:=by simp [dX,h]
theorem IG {a b:List Nat}{i x y:Nat} (h1:a[i]?=some x) (h2:b[i]?=some y):(dX a b)[i]?=some (x+y):=by
 unfold dX;rw [adO,h1,h2]
theorem Jl:∀(a b:List Nat),dD a b=dX a b
 |[],[]=>rfl
 |[],_::_=>rfl
 |_::_,[]=>rfl
 |x::a,y::b=>by rw [dD,Jl a b];rfl
theorem sy {a b:List Nat} (h:a.length=b.length):dD a.reverse b.reverse=(dX a b).reverse:=by
 rw [Jl];exact (List.reverse_zipWith h).symm
theorem JU {L M:List (Nat×Dyadic)} (h:∀q∈M,q.2=0):iV N (L++M)=iV N L:=by
 unfold iV;refine acT fun p _=> ?_;rw [kT,nN (l:=M) fun q hq=>by rw [h q hq];split<;>rfl];grind
theorem Cs (N:Nat):hZ N [.bool false,.string (ByteArray.mk #[]),.int .i64 0]=ar NR.cells ((iV N []).map nR):=by
 rw [vN,List.map_replicate]
 induction N with
 |zero=>rfl
 |succ n ih=>rw [ad5,jo,←ih];rfl
def yv (ds es:List Nat) (xs ys:List Dyadic) (k:Nat):List (Nat×Dyadic):=
 (List.range k).flatMap fun k=>(List.range (ah ds)).map fun i=>(dh (dD ds es) (dD (bB ds i) (bB es k)),(xs[i]?).getD 0*(ys[k]?).getD 0)
theorem xr (ds es:List Nat) (xs ys:List Dyadic) (k:Nat):yv ds es xs ys (k+1)=yv ds es xs ys k++(List.range (ah ds)).map fun i=>(dh (dD ds es) (dD (bB ds i) (bB es k)),(xs[i]?).getD 0*(ys[k]?).getD 0):=by
 unfold yv;rw [adk,ad9,List.flatMap_singleton]
theorem H7 (ds es:List Nat) (xs ys:List Dyadic) (k:Nat):(yv ds es xs ys k).length=k*ah ds:=by
 unfold yv;rw [uK (m:=ah ds) _ _ fun a _=>by simp,adn]
theorem Hu {ys:List Dyadic} (hx:∀x∈xs,Sz k1 x) (hy:∀y∈ys,Sz k2 y) (k:Nat):∀q∈yv ds es xs ys k,Sz (k1+k2) q.2:=fun q hq=>by
 unfold yv at hq;obtain ⟨j,_,hq⟩:=ade.1 hq;obtain ⟨i,_,rfl⟩:=abL.1 hq;refine Sz.mul ?_ ?_
 ·cases h:xs[i]? with
  |none=>exact Sz.zero _
  |some x=>exact hx x (abz h)
 ·cases h:ys[j]? with
  |none=>exact Sz.zero _
  |some y=>exact hy y (abz h)
theorem Fp {ns:List Nat} (hl:ns.length=ms.length) (i k:Nat):ku (dX ns ms).reverse (dD (bB ns.reverse i) (bB ms.reverse k)):=by
 rw [←sy hl];exact u9 (iA _ _) (iA _ _) (by rw [abY,abY,hl])
def yg (ns ms:List Nat) (xs ys:List Dyadic):List Dyadic:=iV (ah (dX ns ms)) (yv ns.reverse ms.reverse xs ys (ah ms))
theorem Bk (F FC G GC:Option Addr) (n c1 c2 c3 c4:Nat) (ns ms:List Nat) (xs ys:List Dyadic) (k1 k2:Nat) (w:World) (hT:dq w)
  (hF:Sl w F n 1 (bh (a0 ns))) (hFC:Sl w FC (ah ns) 3 (ar NR.cells (xs.map nR))) (hG:Sl w G n 1 (bh (a0 ms))) (hGC:Sl w GC (ah ms) 3 (ar NR.cells (ys.map nR)))
  (hn:n≤12) (hns:∀d∈ns,d≤127) (hms:∀d∈ms,d≤127) (hN:ah (dX ns ms)≤4096) (hM:ah ms*ah ns≤1000000) (hx:∀x∈xs,Sz k1 x) (hy:∀y∈ys,Sz k2 y) (hk:k1+k2≤100000):
  Calls Tryz.prog 169 #[.agg #[.slice F n c1,.slice FC (ah ns) c2],.agg #[.slice G n c3,.slice GC (ah ms) c4]] w fun r w'=>∃A a B b,r=.returned (.agg #[.slice A n a,.slice B (ah (dX ns ms)) b])∧Hp w [.row B (ah (dX ns ms)) b 33 3 (ar NR.cells ((yg ns ms xs ys).map nR)),.row A n a 3 1 (bh (a0 (dX ns ms)))] w':=by
 have hh:=Hp.start w;have hl1:ns.length=n:=by have:=hF.1;simpa [bh,a0] using this
 have hl2:ms.length=n:=by have:=hG.1;simpa [bh,a0] using this
 have hlx:xs.length=ah ns:=by have:=hFC.aX NR.len abr;simpa using this
 have hly:ys.length=ah ms:=by have:=hGC.aX NR.len abr;simpa using this
 have hpn:=de ns;have hpm:=de ms;have hMn:1*ah ns≤ah ms*ah ns:=acx _ hpm;have hMm:ah ms*1≤ah ms*ah ns:=acd _ hpn;obtain ⟨a4,rfl,s4⟩:=hGC.at_ hpm;obtain ⟨a5,rfl,s5⟩:=hFC.at_ hpn;have hla:(dX ns ms).length=n:=by rw [LX abq,hl1]
 have hadd:∀d∈dX ns ms,d≤254:=fun d hd=>by
  obtain ⟨i,hi⟩:=acG.1 hd;have hi2:=(abM.1 hi).1;obtain ⟨x,hx1⟩:=ai (l:=ns) (k:=i) abq;obtain ⟨y,hy1⟩:=ai (l:=ms) (k:=i) abq;rw [IG hx1 hy1] at hi;have:=hns x (abz hx1);have:=hms y (abz hy1);have:=aca hi;omega
 have hzr:hZ n [Value.int .i64 0]=bh (eI n):=by rw [pd];simp [bh,eI]
 refine ae (N:=93) (l:=[.agg #[.slice F n c1,.slice (some a5) (ah ns) c2],.agg #[.slice G n c3,.slice (some a4) (ah ms) c4]]) Tryz.func169 rfl rfl (by simp) ?_;refine lK ?_;intro b2 w2 hh b3 w3 hh b4 w4 hh;refine zk ?_;intro b16 w16 hh;refine bX ?_;intro b5 w5 hh ws hh;rw [hzr] at hh;refine aH [6,21,22,23,24,25,26,27,28,29,30,31,32,33,34,35,36,37,38,39] 21
  (fun v w'=>∃i:Nat,i≤n∧v=.int .i64 i∧Hp w [.blk b5 25 [.slice (some ⟨b16,0,none⟩) n n,.slice none 0 0] (0,0),.row (some ⟨b16,0,none⟩) n n 3 1 (bh (a0 ((dX ns ms).take i)++eI (n-i))),.blk b4 25 [.slice none 0 0,.slice none 0 0] (0,0),.blk b3 25 [.slice G n c3,.slice (some a4) (ah ms) c4] (0,0),.blk b2 25 [.slice F n c1,.slice (some a5) (ah ns) c2] (0,0)] w')
  (fun v _=>n-(intOf v).toNat) ?_ ?_
 ·exact ⟨0,abB _,rfl,hh⟩
 ·clear hh;rintro ρ' v w' ⟨i,hi,rfl,hh⟩;by_cases hlt:i<n
  ·obtain ⟨x,hx1⟩:=ai (l:=ns) (k:=i) abq;obtain ⟨y,hy1⟩:=ai (l:=ms) (k:=i) abq;have hgx:=cM (eA hx1);have hgy:=cM (eA hy1);have hxy:=IG hx1 hy1;have hx2:=hns x (abz hx1);have hy2:=hms y (abz hy1);have htl:(a0 ((dX ns ms).take i)).length=i:=by rw [bZ,abP];omega
   have hil:(bh (a0 ((dX ns ms).take i)++eI (n-i))).length=n:=by rw [cq,abJ,htl,rK];omega
   obtain ⟨a1,rfl,s1⟩:=hF.at_ abq;obtain ⟨a2,rfl,s2⟩:=hG.at_ abq;refine aj ?_;refine aC 14 [[(5,none)],[(24,some 0)],[(6,none)],[(2,none)],[(27,some 3)],[(6,none)],[(28,some 4),(29,some 5)],[(30,some 6)],[(3,none)],[(32,some 8)],[(6,none)],[(33,some 9),(34,some 10)],[(35,some 11)],[(31,some 7),(36,some 12)]] [(13,37),(12,36),(11,35),(10,34),(9,33),(8,32),(7,31),(6,30),(5,29),(4,28),(3,27),(2,26),(1,25),(0,24)] hh mixed abt ?_;refine dw ?_;refine fF 0 ?_;refine dp ?_;refine dw ?_;refine fF 4 ?_;refine dp ?_;refine mU (i) ?_;refine a8 (i:=7) (fun ρ1 w1 hj hR=>iF az.out (show ρ1 30=Value.pointer _ from hR.1) ((s1.ext hj.hp.below).vc (by assumption))) ?_;refine dw ?_;refine fF 3 ?_;refine dp ?_;refine mU (i) ?_;refine a8 (i:=12) (fun ρ1 w1 hj hR=>iF az.out (show ρ1 35=Value.pointer _ from hR.1) ((s2.ext hj.hp.below).vc (by assumption))) ?_;refine tk ?_;refine av ?_;intro f W hJ hV;have hb_5:=hJ.bl;obtain ⟨v37,v36,v35,v34,v33,v32,v31,v30,v29,v28,v27,v26,v25,v24,_⟩:=hV;replace hh:=hJ.hp
   refine ay (aQ (aa v37 (aa v36 (aa v35 (aa v34 (aa v33 (aa v32 (aa v31 (aa v30 (aa v29 (aa v28 (aa v27 (aa v26 (aa v25 (aa v24 aw))))))))))))))) ?_;dsimp only [bA];clear hJ;refine aj ?_;refine ON ?_;intro ws hh;simp only [abK,ab9] at hh;rw [lQ _ (by rw [←cq,hil];exact hlt)] at hh;have e5:(a0 ((dX ns ms).take i)++eI (n-i)).set i ((x:Int)+(y:Int))=a0 ((dX ns ms).take (i+1))++eI (n-(i+1)):=by
    have hz:eI (n-i)=0::eI (n-(i+1)):=by
     unfold eI;rw [show n-i=n-(i+1)+1 by omega,ad5]
    rw [hz,yc _ _ _ _ _ htl,al hxy];simp [a0]
   rw [e5] at hh;refine aj ?_;exact vH
  ·obtain rfl:i=n:=abq;rw [abG abq,acs] at hh;replace hh:Hp w [.blk b5 25 [.slice (some ⟨b16,0,none⟩) i i,.slice none 0 0] (0,0),.row (some ⟨b16,0,none⟩) i i 3 1 (bh (a0 (dX ns ms))),.blk b4 25 [.slice none 0 0,.slice none 0 0] (0,0),.blk b3 25 [.slice G i c3,.slice (some a4) (ah ms) c4] (0,0),.blk b2 25 [.slice F i c1,.slice (some a5) (ah ns) c2] (0,0)] w':=by
    have:a0 (dX ns ms)++eI 0=a0 (dX ns ms):=acg _;rw [this] at hh;exact hh
   have hsz:=fun w1 hS1=>CH (some ⟨b16,0,none⟩) i i (dX ns ms) w1 hS1 abq (fun d hd=>by have:=hadd d hd;omega) abq;have hzr2:=Cs (ah (dX ns ms));refine aj ?_;refine aZ hh (hsz _ (hh.ao (i:=1) rfl)) rfl ?_;intro w42 hh;refine fy (n:=(ah (dX ns ms))) hh rfl rfl abq abq bq.out az.out rfl abq abq abr ?_;intro b43 w43 hh;refine bT ?_;intro ws hh;rw [hzr2] at hh;clear hsz hzr2 hzr;have hpr0:iV (ah (dX ns ms)) []=iV (ah (dX ns ms)) (yv ns.reverse ms.reverse xs ys 0):=rfl;rw [hpr0] at hh;unfold yg;have hk12:=hk;clear hk;refine aH [7,8,9,10,11,12,48,49,50,51,52,53,54,55,56,57,58,59,60,61,62,63,64,65,66,67,68,69,70,71,72,73,74,75,76,77,78,79,80,81,82,83,84,85,86,87,88,89,90,91] 48
    (fun v w'=>∃k:Nat,k≤ah ms∧v=.int .i64 k∧Hp w [.row (some ⟨b43,0,none⟩) (ah (dX ns ms)) (ah (dX ns ms)) 33 3 (ar NR.cells ((iV (ah (dX ns ms)) (yv ns.reverse ms.reverse xs ys k)).map nR)),.blk b5 25 [.slice (some ⟨b16,0,none⟩) i i,.slice (some ⟨b43,0,none⟩) (ah (dX ns ms)) (ah (dX ns ms))] (0,0),.row (some ⟨b16,0,none⟩) i i 3 1 (bh (a0 (dX ns ms))),.blk b4 25 [.slice none 0 0,.slice none 0 0] (0,0),.blk b3 25 [.slice G i c3,.slice (some a4) (ah ms) c4] (0,0),.blk b2 25 [.slice F i c1,.slice (some a5) (ah ns) c2] (0,0)] w')
    (fun v _=>ah ms-(intOf v).toNat) ?_ ?_
   ·exact ⟨0,abB _,rfl,hh⟩
   ·clear hh hpr0;rintro ρ2 v w2 ⟨k,hk,rfl,hh⟩;by_cases hkm:k<ah ms
    ·obtain ⟨yk,hyk⟩:=ai (l:=ys) (k:=k) abq;have hyn:(ys.map nR)[k]?=some (nR yk):=by rw [abI,hyk];rfl
     have zy:=hy yk (abz hyk);have hsg:=fun w1=>ct (nR yk) w1;rw [NR.sign,a6] at hsg;by_cases hy0:yk=0
     ·subst hy0;rw [tj] at hsg;refine aj ?_;refine bF (vs:=[_,_,_]) az.out rfl ((s4.ext hh.below).recAt NR.len hyn) rfl abr ?_;refine bX ?_;intro b8 w8 hh ws hh;refine aZ hh (hsg _) rfl ?_;intro w54 hh;refine aj ?_;replace hh:=hh.sub (abA _ (aby _ (aby _ (aby _ (aby _ (aby _ (aby _ abV)))))));refine ⟨⟨k+1,abq,rfl, ?_⟩,by show ah ms-(k+1)<ah ms-k;omega, ?_⟩
      ·rw [xr,JU fun q hq=> ?_]
       ·exact hh
       ·obtain ⟨i,_,rfl⟩:=abL.1 hq;show (xs[i]?).getD 0*(ys[k]?).getD 0=0;rw [hyk];show (xs[i]?).getD 0*0=0;grind
      ·exact dI
     ·have hne:fB yk 0≠0:=by
       rcases NM yk 0 with h|h|h
       ·rw [nk h];decide
       ·exact absurd h hy0
       ·rw [qu h];decide
      generalize fB yk 0=sg at*;refine aj ?_;refine bF (vs:=[_,_,_]) az.out rfl ((s4.ext hh.below).recAt NR.len hyn) rfl abr ?_;refine bX ?_;intro b8 w8 hh ws hh;refine aZ hh (hsg _) rfl ?_;intro w54 hh;refine aj ?_;refine au (xJ G i c3 ms k _ (hG.ext hh.below) abq (fun d hd=>by have:=hms d hd;omega) abq) ak.out rfl abr ?_;rintro e_ w59 ⟨A59,c59,rfl,hown_,hb_⟩;refine ⟨_,rfl, ?_⟩;replace hh:=hh.aD (x:=.row _ _ _ _ _ _) hb_ hown_;refine aj ?_;refine aH [10,11,12,63,64,65,66,67,68,69,70,71,72,73,74,75,76,77,78,79,80,81,82,83,84,85,86,87,88,89,90] 63
       (fun v w'=>∃j:Nat,j≤ah ns∧v=.int .i64 j∧Hp w [.row A59 i c59 3 1 (bh (a0 (bB ms.reverse k).reverse)),.blk b8 33 [.bool (nR yk).neg,.string (nR yk).aO,.int .i64 (nR yk).e] (0,0),.row (some ⟨b43,0,none⟩) (ah (dX ns ms)) (ah (dX ns ms)) 33 3 (ar NR.cells ((iV (ah (dX ns ms)) (yv ns.reverse ms.reverse xs ys k++(List.range j).map (fun i=>(dh (dD ns.reverse ms.reverse) (dD (bB ns.reverse i) (bB ms.reverse k)),(xs[i]?).getD 0*(ys[k]?).getD 0)))).map nR)),.blk b5 25 [.slice (some ⟨b16,0,none⟩) i i,.slice (some ⟨b43,0,none⟩) (ah (dX ns ms)) (ah (dX ns ms))] (0,0),.row (some ⟨b16,0,none⟩) i i 3 1 (bh (a0 (dX ns ms))),.blk b4 25 [.slice none 0 0,.slice none 0 0] (0,0),.blk b3 25 [.slice G i c3,.slice (some a4) (ah ms) c4] (0,0),.blk b2 25 [.slice F i c1,.slice (some a5) (ah ns) c2] (0,0)] w')
       (fun v _=>ah ns-(intOf v).toNat) ?_ ?_
      ·refine ⟨0,abB _,rfl, ?_⟩;rw [List.range_zero,acF,acg];exact hh
      ·clear hh;rintro ρ3 v w3 ⟨j,hj,rfl,hh⟩;by_cases hjn:j<ah ns
       ·obtain ⟨xj,hxj⟩:=ai (l:=xs) (k:=j) abq;have hxn:(xs.map nR)[j]?=some (nR xj):=by rw [abI,hxj];rfl
        have zx:=hx xj (abz hxj);have hpl:=fun w1 h1 h2 h3=>AL F (some ⟨b16,0,none⟩) A59 i c1 i c59 ns (dX ns ms) (bB ms.reverse k).reverse j w1 h1 h2 h3 abq (by rw [ad0];exact Fp abq _ _) abq (fun d hd=>by have:=hns d hd;omega) (fun d hd=>by have:=hadd d hd;omega) abq;simp only [ad0,←sy (show ns.length=ms.length by omega)] at hpl;have hplt:dh (dD ns.reverse ms.reverse) (dD (bB ns.reverse j) (bB ms.reverse k))<ah (dX ns ms):=by
         have:=ke (Fp (show ns.length=ms.length by omega) j k);rwa [cf,←sy (show ns.length=ms.length by omega)] at this
        obtain ⟨tQ,hold⟩:=ai (l:=iV (ah (dX ns ms)) (yv ns.reverse ms.reverse xs ys k++(List.range j).map (fun i=>(dh (dD ns.reverse ms.reverse) (dD (bB ns.reverse i) (bB ms.reverse k)),(xs[i]?).getD 0*(ys[k]?).getD 0)))) (by rw [jE];exact hplt);have hlen:(yv ns.reverse ms.reverse xs ys k++(List.range j).map (fun i=>(dh (dD ns.reverse ms.reverse) (dD (bB ns.reverse i) (bB ms.reverse k)),(xs[i]?).getD 0*(ys[k]?).getD 0))).length≤1000000:=by
         rw [abJ,H7,abH,adn,cf];have:k*ah ns+ah ns≤ah ms*ah ns:=by rw [←acD];exact acx _ hkm
         omega
        have zold:Sz 1200000 tQ:=by
         refine (A0 (k:=k1+k2) (fun q hq=> ?_) tQ (abz hold)).mono abq
         rcases acq.1 hq with hq|hq
         ·exact Hu hx hy k q hq
         ·refine Hu (ds:=ns.reverse) (es:=ms.reverse) hx hy (k+1) q ?_;rw [xr];obtain ⟨u,hu,rfl⟩:=abL.1 hq;exact acI _ (abL.2 ⟨u,ab3.2 (by have:=ab3.1 hu;rw [cf];omega),rfl⟩)
        have hon:((iV (ah (dX ns ms)) (yv ns.reverse ms.reverse xs ys k++(List.range j).map (fun i=>(dh (dD ns.reverse ms.reverse) (dD (bB ns.reverse i) (bB ms.reverse k)),(xs[i]?).getD 0*(ys[k]?).getD 0)))).map nR)[dh (dD ns.reverse ms.reverse) (dD (bB ns.reverse j) (bB ms.reverse k))]?=some (nR tQ):=by rw [abI,hold];rfl
        have zxy:Sz 100000 (xj*yk):=(zx.mul zy).mono hk12;have hmul:=fun A cc w1 hT1 hS1=>eC A 2 cc [nR xj,nR yk] w1 hT1 hS1 (by simpa using ⟨zx.ok abq,zy.ok abq⟩) 100000 (by simpa [a6] using ⟨zx.mono abq,zy.mono abq⟩) abq abq;rw [show gO ([nR xj,nR yk].map NR.d)=xj*yk by show 1*(nR xj).d*(nR yk).d=_;rw [a6,a6,adq]] at hmul;have hsum:=fun A cc w1 hT1 hS1=>gl A 2 cc [nR tQ,nR (xj*yk)] w1 hT1 hS1 (by simpa using ⟨zold.ok abq,zxy.ok abq⟩) 1200000 (by simpa [a6] using ⟨zold,zxy.mono abq⟩) abq;rw [show nM ([nR tQ,nR (xj*yk)].map NR.d)=tQ+xj*yk by simp only [ab8,acF,a6,jH]] at hsum;have hset:=Ax (v:=xj*yk) hold;have hstep:yv ns.reverse ms.reverse xs ys k++(List.range (j+1)).map (fun i=>(dh (dD ns.reverse ms.reverse) (dD (bB ns.reverse i) (bB ms.reverse k)),(xs[i]?).getD 0*(ys[k]?).getD 0))=yv ns.reverse ms.reverse xs ys k++(List.range j).map (fun i=>(dh (dD ns.reverse ms.reverse) (dD (bB ns.reverse i) (bB ms.reverse k)),(xs[i]?).getD 0*(ys[k]?).getD 0))++[(dh (dD ns.reverse ms.reverse) (dD (bB ns.reverse j) (bB ms.reverse k)),xj*yk)]:=by
         rw [adk,acM,←acb];simp only [ab8,acF,hxj,hyk,acW]
        have hfin:iV (ah (dX ns ms)) (yv ns.reverse ms.reverse xs ys k++(List.range (j+1)).map (fun i=>(dh (dD ns.reverse ms.reverse) (dD (bB ns.reverse i) (bB ms.reverse k)),(xs[i]?).getD 0*(ys[k]?).getD 0)))=_:=(acm _ hstep).trans hset.symm;clear hset hstep zold;have hll:((iV (ah (dX ns ms)) (yv ns.reverse ms.reverse xs ys k++(List.range j).map (fun i=>(dh (dD ns.reverse ms.reverse) (dD (bB ns.reverse i) (bB ms.reverse k)),(xs[i]?).getD 0*(ys[k]?).getD 0)))).map nR).length=ah (dX ns ms):=by rw [abH,jE]
        generalize dh (dD ns.reverse ms.reverse) (dD (bB ns.reverse j) (bB ms.reverse k))=pl at*;generalize iV (ah (dX ns ms)) (yv ns.reverse ms.reverse xs ys k++(List.range j).map (fun i=>(dh (dD ns.reverse ms.reverse) (dD (bB ns.reverse i) (bB ms.reverse k)),(xs[i]?).getD 0*(ys[k]?).getD 0)))=X at*;have hrl:=eH NR.len (X.map nR);refine aj ?_;refine bF (vs:=[_,_,_]) az.out rfl ((s5.ext hh.below).recAt NR.len hxn) rfl abr ?_;refine bX ?_;intro b11 w11 hh ws hh;refine aZ hh (hpl _ (hF.ext hh.below) (hh.ao (i:=5) rfl) (hh.ao (i:=1) rfl)) rfl ?_;intro w74 hh;refine aj ?_;refine aC 14 [[(5,none)],[(75,some 0)],[(12,none)],[(5,none)],[(78,some 3)],[(12,none)],[(79,some 4),(80,some 5)],[(81,some 6)],[(11,none)],[(8,none)],[(83,some 8),(84,some 9)],[(85,some 10)],[(82,some 7),(86,some 11)],[(87,some 12)]] [(13,88),(12,87),(11,86),(10,85),(9,84),(8,83),(7,82),(6,81),(5,80),(4,79),(3,78),(2,77),(1,76),(0,75)] hh mixed abt ?_;refine dw ?_;refine fF 4 ?_;refine dp ?_;refine dw ?_;refine fF 4 ?_;refine dp ?_;refine CN (pl) ?_
        refine p9 [_,_,_] (fun _ hj=>hj.hp.df (f:=NR.cells) (x:=nR tQ) (l:=X.map nR) (i:=3) rfl NR.len abr hon) ?_;refine da 0 [_,_,_] ?_;refine da 2 [_,_,_] ?_;refine uW [_,_,_,_,_,_] ?_;refine aW (i:=11) (Is (.agg #[.bool (nR (xj*yk)).neg,.string (nR (xj*yk)).aO,.int .i64 (nR (xj*yk)).e])) Is.ext ?_ ?_
        ·intro ρ1 w1 hj hR;obtain ⟨A85,c85,h85,s85⟩:=hR.1;exact bp rfl (aR ak.out (aq h85 aY)) (hmul A85 c85 _ (hT.hp hj.hp) s85) (fun _ _ hq=>⟨_,hq.1,hq.2,rfl⟩)
        refine uW [_,_,_,_,_,_] ?_;refine aW (i:=13) (Is (.agg #[.bool (nR (tQ+xj*yk)).neg,.string (nR (tQ+xj*yk)).aO,.int .i64 (nR (tQ+xj*yk)).e])) Is.ext ?_ ?_
        ·intro ρ1 w1 hj hR;obtain ⟨A87,c87,h87,s87⟩:=hR.1;exact bp rfl (aR ak.out (aq h87 aY)) (hsum A87 c87 _ (hT.hp hj.hp) s87) (fun _ _ hq=>⟨_,hq.1,hq.2,rfl⟩)
        refine av ?_;intro f W hJ hV;have hb_17:=hJ.bl;obtain ⟨v88,v87,v86,v85,v84,v83,v82,v81,v80,v79,v78,v77,v76,v75,_⟩:=hV;obtain ⟨A85,c85,e85,f85⟩:Rows _ _ _ (f 10) W:=v85;obtain ⟨A87,c87,e87,f87⟩:Rows _ _ _ (f 12) W:=v87;replace hh:=hJ.hp;refine ay (aQ (aa v88 (aa e87 (aa v86 (aa e85 (aa v84 (aa v83 (aa v82 (aa v81 (aa v80 (aa v79 (aa v78 (aa v77 (aa v76 (aa v75 aw))))))))))))))) ?_;dsimp only [bA];clear e85 e87 hJ;refine aj ?_;refine JS ?_;intro ws hh;simp only [abK,ab9] at hh;rw [show bK (ar NR.cells (X.map nR)) (pl*3) [.bool (nR (tQ+xj*yk)).neg,.string (nR (tQ+xj*yk)).aO,.int .i64 (nR (tQ+xj*yk)).e]=ar NR.cells ((X.map nR).set pl (nR (tQ+xj*yk))) from ew NR.len abq,←adz] at hh;refine aj ?_;replace hh:=hh.sub (abA _ (aby _ (aby _ (aby _ (aby _ (aby _ (aby _ (aby _ (aby _ abV)))))))));refine ⟨⟨j+1,abq,rfl,by rw [hfin];exact hh⟩,by show ah ns-(j+1)<ah ns-j;omega, ?_⟩;exact dI
       ·obtain rfl:j=ah ns:=abq;rw [show yv ns.reverse ms.reverse xs ys k++(List.range (ah ns)).map (fun i=>(dh (dD ns.reverse ms.reverse) (dD (bB ns.reverse i) (bB ms.reverse k)),(xs[i]?).getD 0*(ys[k]?).getD 0))=yv ns.reverse ms.reverse xs ys (k+1) by rw [xr,cf]] at hh;refine aj ?_;replace hh:=hh.sub (abA _ (abA _ (aby _ (aby _ (aby _ (aby _ (aby _ (aby _ abV))))))));refine ⟨⟨k+1,abq,rfl,hh⟩,by show ah ms-(k+1)<ah ms-k;omega, ?_⟩;exact dI
    ·obtain rfl:k=ah ms:=abq;refine bT ?_;intro ws hh;replace hh:=hh.sub (aby _ (abA _ (aby _ (aby _ (abA _ (abA _ abV))))));refine Kt (bI rfl (bJ (vs:=[_,_]) az.out (hh.aE (i:=2) (n:=2) rfl rfl) rfl) cR) ?_;exact ⟨_,_,_,_,rfl,hh.sub (aby _ (aby _ (acA _)))⟩
variable {w w':World}
structure FX where
 A:Option Addr
 n:Nat
 a:Nat
 B:Option Addr
 m:Nat
 b:Nat
 ds:List Int
 cs:List NR
def FX.cells (f:FX):List Value:=[.slice f.A f.n f.a,.slice f.B f.m f.b]
theorem FX.len (f:FX):(FX.cells f).length=2:=rfl
def FX.v (f:FX):Value:=.agg #[.slice f.A f.n f.a,.slice f.B f.m f.b]
structure FX.at_ (f:FX) (w:World):Prop where
 dg:Sl w f.A f.n 1 (bh f.ds)
 nm:Sl w f.B f.m 3 (ar NR.cells f.cs)
theorem FX.at_.ext {f:FX} (h:f.at_ w) (hb:Below w.heap.size w w'):f.at_ w':=⟨h.dg.ext hb,h.nm.ext hb⟩
structure FX.jz (f:FX) (k:Nat):Prop where
 Xe:f.n≤1000
 ZO:f.m≤100000
 num:∀c∈f.cs,c.ok∧Sz k c.d
def FX.e (f:FX):Int:=fE f.ds f.cs
theorem pg (f:FX) (k:Nat) (w:World) (hT:dq w) (h:f.at_ w) (hl:f.jz k):
  Calls Tryz.prog 39 #[.agg #[.slice f.A f.n f.a,.slice f.B f.m f.b]] w fun r w'=>r=.returned (.int .i64 f.e)∧Below w.heap.size w w':=
 yP f.A f.B f.n f.a f.m f.b f.ds f.cs w hT h.dg h.nm (by have:=hl.Xe;omega) (by have:=hl.ZO;omega) fun a ha=>(hl.num a ha).1
def Kw (fs:List FX):Bool:=fs.any fun f=>decide (f.n≠(fs.map FX.n).headD 0)
def jI (fs:List FX):Int:=match fs.find? (fun f=>decide (f.e≠0)) with|some f=>f.e|none=>if fs.length=0∨Kw fs=true then 1 else 0
theorem Gh (L:Option Addr) (n c:Nat) (fs:List FX) (f:FX) (p:Addr) (w:World) (hL:Sl w L n 2 (ar FX.cells fs)) (hp:w.cell? p=some (.slice L n c)) (hn:0<n):
  Calls Tryz.prog 166 #[.agg #[.slice f.A f.n f.a,.slice f.B f.m f.b],.pointer (some p)] w fun r w'=>r=.returned (.bool (decide (f.n≠(fs.map FX.n).headD 0)))∧Below w.heap.size w w':=by
 have hh:=Hp.start w;have hln:=hL.aX FX.len abr;obtain ⟨g,fs,rfl⟩:∃g l,fs=g::l:=by
  cases fs with
  |nil=>exact absurd hln (by show ¬0=n;omega)
  |cons g l=>exact ⟨g,l,rfl⟩
 obtain ⟨ad,rfl,hr⟩:=hL.at_ hn;have hd:(((g::fs).map FX.n).headD 0)=g.n:=rfl;rw [hd];have h0:(g::fs)[0]?=some g:=rfl;by_cases hg:f.n=g.n
 ·refine ae (N:=13) (l:=[.agg #[.slice f.A f.n f.a,.slice f.B f.m f.b],.pointer (some p)]) Tryz.func166 rfl rfl (by simp) ?_;refine bT ?_;intro b2 w2 hh;refine S6 ?_;refine dw ?_;refine fF 0 ?_;refine pY ?_;refine De ?_;refine a8 (i:=4) (fun ρ1 w1 hj hR=>ep bq.out az.size (show ρ1 7=Value.slice _ _ _ from hR.1) rfl abq abq) ?_;refine CB ?_;refine yY (fun _ hj=>bL hj.hp.below (((hr.recAt FX.len h0)) 0 _ rfl)) ?_;refine pY ?_;refine av ?_;intro f W hJ hV;have hb_1:=hJ.bl;obtain ⟨v11,v10,v9,v8,v7,v6,v5,v4,_⟩:=hV;replace hh:=hJ.hp;refine ay (aQ (aa v11 (aa v10 (aa v9 (aa v8 (aa v7 (aa v6 (aa v5 (aa v4 aw))))))))) ?_;dsimp only [bA];clear hJ;exact Ny
 ·refine ae (N:=13) (l:=[.agg #[.slice f.A f.n f.a,.slice f.B f.m f.b],.pointer (some p)]) Tryz.func166 rfl rfl (by simp) ?_;refine bT ?_;intro b2 w2 hh;refine S6 ?_;refine dw ?_;refine fF 0 ?_;refine pY ?_;refine De ?_;refine a8 (i:=4) (fun ρ1 w1 hj hR=>ep bq.out az.size (show ρ1 7=Value.slice _ _ _ from hR.1) rfl abq abq) ?_;refine CB ?_;refine yY (fun _ hj=>bL hj.hp.below (((hr.recAt FX.len h0)) 0 _ rfl)) ?_;refine pY ?_;refine av ?_;intro f W hJ hV;have hb_1:=hJ.bl;obtain ⟨v11,v10,v9,v8,v7,v6,v5,v4,_⟩:=hV;replace hh:=hJ.hp;refine ay (aQ (aa v11 (aa v10 (aa v9 (aa v8 (aa v7 (aa v6 (aa v5 (aa v4 aw))))))))) ?_;dsimp only [bA];clear hJ;exact OK
theorem F8 (A:Option Addr) (n c:Nat) (l:List FX) (g:FuncId) (cap:List Value) (p:FX→Bool) (w:World) (hS:Sl w A n 2 (ar FX.cells l)) (hn:n≤1000000) [ak Tryz.prog g]
  (hg:∀(z:FX) (w1:World),z∈l→Below w.heap.size w w1→Calls Tryz.prog g (.agg #[.slice z.A z.n z.a,.slice z.B z.m z.b]::cap).toArray w1 fun r w'=>r=.returned (.bool (p z))∧Below w1.heap.size w1 w'):
  Calls Tryz.prog 202 #[.slice A n c,.func (.func g) #[] cap.toArray] w fun r w'=>∃v,r=.returned (.int .i64 v)∧(0≤v↔l.any p=true)∧Below w.heap.size w w':=by
 have hh:=Hp.start w;have hln:=hS.aX FX.len abr;refine ae (N:=19) (l:=[.slice A n c,.func (.func g) #[] cap.toArray]) Tryz.func202 rfl rfl (by simp) ?_;refine aj ?_;refine aH [4,5,8,9,10,11,12,13,14,15,16,17,18] 8
  (fun v w'=>∃i:Nat,i≤n∧v=.int .i64 i∧(l.take i).any p=false∧Hp w [] w')
  (fun v _=>n-(intOf v).toNat) ?_ ?_
 ·exact ⟨0,abB _,rfl,rfl,hh⟩
 ·clear hh;rintro ρ' v w' ⟨i,hi,rfl,hall,hh⟩;by_cases hlt:i<n
  ·obtain ⟨z,hz⟩:=ai (l:=l) (k:=i) abq;obtain ⟨ad,rfl,hr⟩:=hS.at_ abq;have hc:=fun w1=>hg z w1 (abz hz)
   cases gz:p z with
   |true=>
    rw [gz] at hc;refine aj ?_;refine bF (vs:=[_,_]) az.out rfl ((hr.ext hh.below).recAt FX.len hz) rfl abr ?_;exact Sd
   |false=>
    rw [gz] at hc;refine aj ?_;refine bF (vs:=[_,_]) az.out rfl ((hr.ext hh.below).recAt FX.len hz) rfl abr ?_;exact Di
  ·exact QS
theorem Gd (A:Option Addr) (n c:Nat) (l:List FX) (g:FuncId) (cap:List Value) (p:FX→Bool) (w:World) (hS:Sl w A n 2 (ar FX.cells l)) (hn:n≤1000000) [ak Tryz.prog g]
  (hg:∀(z:FX) (w1:World),z∈l→Below w.heap.size w w1→Calls Tryz.prog g (.agg #[.slice z.A z.n z.a,.slice z.B z.m z.b]::cap).toArray w1 fun r w'=>r=.returned (.bool (p z))∧Below w1.heap.size w1 w'):
  Calls Tryz.prog 165 #[.slice A n c,.func (.func g) #[] cap.toArray] w fun r w'=>r=.returned (.bool (l.any p))∧Below w.heap.size w w':=by
 have hh:=Hp.start w;refine ae (N:=9) (l:=[.slice A n c,.func (.func g) #[] cap.toArray]) Tryz.func165 rfl rfl (by simp) ?_;refine aj ?_;refine au (F8 A n c l g cap p _ (hS.ext hh.below) hn hg) ak.out rfl abr ?_;exact QB
theorem Em (L:Option Addr) (n c:Nat) (fs:List FX) (k:Nat) (w:World) (hT:dq w) (hL:Sl w L n 2 (ar FX.cells fs)) (hn:n≤1000000) (hf:∀f∈fs,f.at_ w) (hl:∀f∈fs,f.jz k):
  Calls Tryz.prog 121 #[.slice L n c] w fun r w'=>r=.returned (.int .i64 (jI fs))∧Below w.heap.size w w':=by
 have hh:=Hp.start w;have hln:=hL.aX FX.len abr;refine ae (N:=26) (l:=[.slice L n c]) Tryz.func121 rfl rfl (by simp) ?_;refine bT ?_;intro b1 w1 hh;refine aH [2,4,5,8,9,10,11,12,13,14,15,16,17] 8
  (fun v w'=>∃i:Nat,i≤n∧v=.int .i64 i∧(fs.take i).any (fun f=>decide (f.e≠0))=false∧Hp w [.blk b1 85 [.slice L n c] (0,0)] w')
  (fun v _=>n-(intOf v).toNat) ?_ ?_
 ·exact ⟨0,abB _,rfl,rfl,hh⟩
 ·clear hh;rintro ρ' v w' ⟨i,hi,rfl,hall,hh⟩;by_cases hlt:i<n
  ·obtain ⟨f,hx⟩:=ai (l:=fs) (k:=i) abq;have hmem:=abz hx;have hc:=fun w1 hT1 hb=>pg f k w1 hT1 ((hf f hmem).ext hb) (hl f hmem);obtain ⟨ad,rfl,hr⟩:=hL.at_ abq;by_cases he:f.e=0
   ·refine aj ?_;refine Ju ?_;exact Uq
   ·refine aj ?_;refine Ju ?_;refine bX ?_;intro b4 w4 hh ws hh;refine Aq ?_;intro w13 hh;refine aj ?_;refine ⟨?_,hh.below⟩;unfold jI;rw [sX hall hx (abQ he)]
  ·rw [abG abq] at hall;have hlk:jI fs=if fs.length=0∨Kw fs=true then 1 else 0:=by unfold jI;rw [j8 hall]
   rw [hlk];by_cases h0:n=0
   ·refine aj ?_;exact ⟨by rw [abx (.inl abq)],hh.below⟩
   ·have hcell:w'.cell? ⟨b1,0,none⟩=some (.slice L n c):=hh.ej (i:=0) rfl rfl;have ho:=fun w1 hb=>Gd L n c fs 166 [.pointer (some ⟨b1,0,none⟩)] (fun f=>decide (f.n≠(fs.map FX.n).headD 0)) w1 (hL.ext (hh.below.trans (hb.mono hh.below.size))) hn (fun z w2 hz hb2=>Gh L n c fs z ⟨b1,0,none⟩ w2 ((hL.ext (hh.below.trans (hb.mono hh.below.size))).ext hb2) (bL hb2 (bL hb hcell)) abq)
    cases hod:Kw fs with
    |true=>
     have hod2:fs.any (fun f=>decide (f.n≠(fs.map FX.n).headD 0))=true:=hod;exact XJ
    |false=>
     have hod2:fs.any (fun f=>decide (f.n≠(fs.map FX.n).headD 0))=false:=hod;exact Ye
open Go.ChangeShapes Go.WideShapes Go.ChangeAt Go.RowKit Go.ChangeMaps
variable {P:Program}{W:World}{base:Nat}
theorem Lk {H:Type}{enc:TypeId×Value→H}{t e:TypeId}{r:Reach}{b0:Nat}{sp:Nat→Bool}{held:Bool}{v:Value}{d:DataW H}{ps:List MemPlace}{k:IntKind} (ht:P.underlying t=some (.slice e)) (he:P.underlying e=some (.int k)) (hc:P.cellsOf e=1)
  (hval:Value.okWide P W r b0 t v) (hd:DataW.Trod enc P W base sp held t v d ps):∃(A:Option Addr) (n c:Nat) (xs:List Int),v=.slice A n c∧Sl W A n 1 (xs.map (Value.int k))∧n≤maxLen∧∀x∈xs,(Lit.int k x).wf=true:=by
 obtain ⟨a,len,cap,rfl⟩:=okWide_slice ht hval;obtain ⟨fuel,hf⟩:=hd
 rcases open_ints ht he hc hf with ⟨h1,_⟩|⟨ad,n,cp,zs,h1,_,h2,h3,h4,_,h5,h6⟩
 ·simp only [Value.cells,aeM,Value.slice.injEq,and_true] at h1;obtain ⟨rfl,rfl,rfl⟩:=h1;exact ⟨none,0,0,[],rfl,Sl.nil W none 1,by simp,fun _ h=>by simp at h⟩
 ·simp only [Value.cells,aeM,Value.slice.injEq,and_true] at h1;obtain ⟨rfl,rfl,rfl⟩:=h1;have hzl:len≤zs.length:=by rw [h4];split<;>omega
  refine ⟨some ad,len,cap,zs.take len,rfl,⟨by rw [abH,abP];omega,fun _=>⟨ad,rfl,fun j u hu=> ?_⟩⟩,abq,fun x hx=>h6 x (adx hx)⟩;simp only [abI,adA] at hu;obtain ⟨x,hx,rfl⟩:=hu;rw [ado] at hx;split at hx
  ·obtain ⟨h7,h8⟩:=abM.1 hx;have:=h5 j h7;rw [adm,hx] at this;exact this
  ·cases hx
theorem PY {H:Type}{enc:TypeId×Value→H}{t e:TypeId}{r:Reach}{b0:Nat}{sp:Nat→Bool}{held:Bool}{v:Value}{d:DataW H}{ps:List MemPlace} (ht:P.underlying t=some (.slice e)) (he:P.underlying e=some (.int .u8)) (hc:P.cellsOf e=1)
  (hval:Value.okWide P W r b0 t v) (hd:DataW.Trod enc P W base sp held t v d ps):∃A n c bs,v=.slice A n c∧Sl W A n 1 (n5 bs)∧n≤maxLen:=by
 obtain ⟨A,n,c,xs,h1,h2,h3,h4⟩:=Lk ht he hc hval hd;refine ⟨A,n,c,xs.map BG,h1, ?_,h3⟩;have:n5 (xs.map BG)=xs.map (Value.int .u8):=by
  rw [n5,ack];apply acT;intro x hx;have h5:=h4 x hx;have h6:0≤x∧x≤255:=by
   simp only [Lit.wf,abS,ab1] at h5;have e1:IntKind.u8.min=0:=by decide
   have e2:IntKind.u8.max=255:=by decide
   omega
  simp only [Function.comp,BG,ae3];congr 1;omega
 rw [this];exact h2
set_option maxRecDepth 100000 in
theorem FP {H:Type}{enc:TypeId×Value→H}{r:Reach}{b0:Nat}{sp:Nat→Bool}{held:Bool}{v:Value}{d:DataW H}{ps:List MemPlace}
  (hval:Value.okWide Tryz.prog W r b0 26 v) (hd:DataW.Trod enc Tryz.prog W base sp held 26 v d ps):∃(A:Option Addr) (n c:Nat) (l:List Nat),v=.slice A n c∧Sl W A n 1 (ie l)∧∀c∈l,c<256:=by
 obtain ⟨A,n,c,bs,h1,h2,_⟩:=PY Tryz.underlying26 Tryz.underlying5 abt hval hd;refine ⟨A,n,c,bs.map UInt8.toNat,h1, ?_,fun c hc=> ?_⟩
 ·rw [show ie (bs.map UInt8.toNat)=n5 bs by unfold ie n5;rw [ack];rfl];exact h2
 ·obtain ⟨b,_,rfl⟩:=abL.1 hc;exact b.toNat_lt
variable {c1 m rh y0 y1:Nat}
theorem WI {P Y v K T:Nat} (hv:0<v) (hK:0<K) (hT:P/K=T) (hY:v*K≤Y):P/Y≤T/v:=by
 rw [←hT,ac4,abU K v];exact Nat.div_le_div_left hY (Nat.mul_pos hv hK)
theorem Oq {P Y:Nat} (hY:0<Y) (h:P/Y≤q) (hq:q*Y≤P):q=P/Y:=Nat.le_antisymm ((Nat.le_div_iff_mul_le hY).2 hq) h
theorem S0 {P Y:Nat} (hY:0<Y) (hq:P<q*Y):P/Y≤q-1:=by
 have:=(acN hY).2 hq;omega
structure xw (u c y1 y0 q rh:Nat):Prop where
 e:q*y1+rh=u
 le:(4294967296*u+c)/(4294967296*y1+y0)≤q
 sm:q≤4294967297
theorem ya {u c:Nat} (h1:2147483648≤y1) (h0:y0<4294967296) (hc:c<4294967296) (hu:u<4294967296*y1+y0):xw u c y1 y0 (u/y1) (u % y1):=by
 have hd:=acO u y1;refine ⟨by rw [abU];exact hd, ?_, ?_⟩
 ·refine WI (K:=4294967296) abq abr (T:=u) ?_ abq;omega
 ·have:u/y1<4294967298:=by
   rw [acN abq];omega
  omega
theorem Ke {u c:Nat} (h1:2147483648≤y1) (hu:u<4294967296*y1+y0) (hc:c<4294967296) (h:xw u c y1 y0 q rh) (hb:4294967296≤q∨4294967296*rh+c<q*y0):1≤q∧xw u c y1 y0 (q-1) (rh+y1):=by
 obtain ⟨e,hle,hsm⟩:=h;have hq:1≤q:=by
  rcases hb with hb|hb
  ·omega
  ·rcases adw q with h0|h0
   ·rw [h0,ad4] at hb;omega
   ·exact h0
 obtain ⟨p,rfl⟩:∃p,q=p+1:=⟨q-1,abq⟩;rw [acD] at e;refine ⟨hq,⟨by rw [Nat.add_sub_cancel];omega, ?_,abq⟩⟩;have hY:0<4294967296*y1+y0:=abq
 rcases hb with hb|hb
 ·have:(4294967296*u+c)/(4294967296*y1+y0)<4294967296:=by
   rw [acN hY];omega
  omega
 ·refine S0 hY ?_;have e2:(p+1)*(4294967296*y1+y0)=4294967296*((p+1)*y1)+(p+1)*y0:=by rw [acw,aec]
  rw [e2,acD p y1];omega
theorem z8 {u c:Nat} (h1:2147483648≤y1) (h0:y0<4294967296) (h:xw u c y1 y0 q rh) (hb:q*y0≤4294967296*rh+c):q=(4294967296*u+c)/(4294967296*y1+y0):=by
 obtain ⟨e,hle,hsm⟩:=h;refine Oq abq hle ?_;have e2:q*(4294967296*y1+y0)=4294967296*(q*y1)+q*y0:=by rw [acw,aec]
 rw [e2];omega
theorem GH {u c:Nat} (h1:2147483648≤y1) (h0:y0<4294967296) (h:xw u c y1 y0 q rh) (hq:q≤4294967296) (hb:4294967296≤rh):q=(4294967296*u+c)/(4294967296*y1+y0):=by
 refine z8 h1 h0 h ?_;have h2:q*y0≤4294967295*q:=by rw [abU 4294967295];exact acd q abq
 omega
theorem DT {a c r:Nat} (h:a+c=m+r) (hr:r<18446744073709551616):((a % 18446744073709551616+c) % 18446744073709551616+18446744073709551616-m % 18446744073709551616) % 18446744073709551616=r:=by omega
theorem G8 {hi c0 y:Nat} (hy:0<y) (h1:c1<4294967296) (h0:c0<4294967296):4294967296*((4294967296*hi+c1)/y)+(4294967296*((4294967296*hi+c1) % y)+c0)/y=(18446744073709551616*hi+(4294967296*c1+c0))/y∧(4294967296*((4294967296*hi+c1) % y)+c0) % y=(18446744073709551616*hi+(4294967296*c1+c0)) % y:=by
 have hd:=acO (4294967296*hi+c1) y;generalize (4294967296*hi+c1)/y=q at*;generalize (4294967296*hi+c1) % y=r at*;have e:18446744073709551616*hi+(4294967296*c1+c0)=y*(4294967296*q)+(4294967296*r+c0):=by
  rw [aec];omega
 rw [e,Nat.mul_add_div hy,Nat.mul_add_mod];exact ⟨rfl,rfl⟩
variable {x0 x1:Nat}{ys:List Nat}
section
variable {B:Nat}
theorem G1 {xs:List Nat}{a:Nat} (h1:xs[a+m]?=some x0) (h2:xs[a+(m+1)]?=some x1):(xs.drop a).take (m+2)=(xs.drop a).take m++[x0,x1]:=by
 have e1:(xs.drop a)[m]?=some x0:=by rw [adt];exact h1
 have e2:(xs.drop a)[m+1]?=some x1:=by rw [adt];exact h2
 rw [al e2,al e1,acb]
 rfl
theorem OQ {xs:List Nat}{a:Nat} (hx:Dg B xs) (hB:0<B) (h1:xs[a+m]?=some x0) (h2:xs[a+(m+1)]?=some x1):aU B ((xs.drop a).take (m+2))/B^m=B*x1+x0:=by
 have hl:=(abM.1 h2).1;have hlen:((xs.drop a).take m).length=m:=by rw [abP,acJ];omega
 have hlt:=gi ((hx.drop a).take m);rw [hlen] at hlt;rw [G1 h1 h2,cI,hlen,ac2 _ _ (ab7 hB),acz hlt];show 0+(x0+B*(x1+B*0))=_;rw [adT,acY,ab2,adD]
theorem Hg {v:Nat} (h:ys[m]?=some v) (hl:ys.length=m+1):v*B^m≤aU B ys:=by
 have e:ys=ys.take m++[v]:=by rw [←al h,abG abq]
 rw [e,cI,abP,acQ abq];show v*B^m≤_+B^m*(v+B*0);rw [adT,acY,abU];exact Nat.le_add_left _ _
def GF (B x1 x0 v:Nat):Nat:=if x1<v then (B*x1+x0)/v else B-1
theorem Wr {xs:List Nat}{a v:Nat} (hx:Dg B xs) (hB:1<B) (h1:xs[a+m]?=some x0) (h2:xs[a+(m+1)]?=some x1) (hv:ys[m]?=some v) (hl:ys.length=m+1) (hv0:0<v) (hP:aU B ((xs.drop a).take (m+2))/aU B ys<B):aU B ((xs.drop a).take (m+2))/aU B ys≤GF B x1 x0 v∧GF B x1 x0 v<B:=by
 have h0:=hx.at_ h1;unfold GF;by_cases hlt:x1<v
 ·rw [abx hlt];refine ⟨WI hv0 (ab7 (n:=m) abq) (OQ hx abq h1 h2) (Hg hv hl), ?_⟩;rw [acN hv0];have:B*(x1+1)≤B*v:=acd B hlt;rw [ac5] at this;omega
 ·rw [abw hlt];omega
theorem NN {xs:List Nat}{a r:Nat} (ha:a+n≤xs.length) (hr:r<B^n):aU B (xs.take a++bH B n r++xs.drop (a+n))+B^a*aU B ((xs.drop a).take n)=aU B xs+B^a*r:=by
 have h1:xs=xs.take a++(xs.drop a).take n++xs.drop (a+n):=by
  rw [acb,←ad7,acH,acH]
 have hla:(xs.take a).length=a:=by rw [abP];omega
 have hln:((xs.drop a).take n).length=n:=by rw [abP,acJ];omega
 have hlk:(bH B n r).length=n:=aN _ _;have e1:aU B xs=aU B (xs.take a)+B^a*(aU B ((xs.drop a).take n)+B^n*aU B (xs.drop (a+n))):=by
  conv=>lhs;rw [h1]
  rw [acb,cI,cI,hla,hln]
 rw [e1,acb,cI,cI,hla,hlk,cG hr];simp only [acw];omega
end
variable {next:Rf→World→Prop}
section
variable {ro:Mode}{P:Program}{N:Nat}{Q:Kq}{ρ:Rf}{w:World}
theorem xm {c:Code}{id:Nat} (mods:List Nat) (s0:Nat) (J:Value→World→Prop) (hc:WC ro P N c (qV id (dV (fun ρ2 w2=>J (ρ2 s0) w2∧im mods ρ2 ρ) Q)) ρ w)
  (hn:∀ρ' v0 w',J v0 w'→next (cg (mask mods ρ' ρ) s0 v0) w'):WC ro P N c (qV id (dV next Q)) ρ w:=
 hc.mono fun e ρ2 w2 hq=>by
  have key:J (ρ2 s0) w2∧im mods ρ2 ρ→next ρ2 w2:=fun h=>by
   have:=hn ρ2 (ρ2 s0) w2 h.1;rwa [iD h.2,fi] at this
  cases e with
  |normal=>exact key hq
  |exit i=>
   by_cases h:i=id
   ·subst h;simp only [qV,dV,if_true] at hq ⊢;exact key hq
   ·simp only [qV,dV,abw h] at hq ⊢;exact hq
  |_=>exact hq
theorem pI {a c:Code} (mods:List Nat) (J:World→Prop) (hc:WC ro P N a (dV (fun ρ2 w2=>J w2∧im mods ρ2 ρ) Q) ρ w) (hn:∀ρ' w',J w'→WC ro P N c Q (mask mods ρ' ρ) w'):WC ro P N (.seq a c) Q ρ w:=
 bO (hc.mono fun e ρ2 w2 hq=>by
  cases e with
  |normal=>
   have:=hn ρ2 w2 hq.1;rwa [iD hq.2] at this
  |_=>exact hq)
end
theorem Dz (hi lo y:Nat) (w:World) (hy:9223372036854775808≤y) (hy2:y<18446744073709551616) (hh1:hi<y) (hl:lo<18446744073709551616):
  Calls Tryz.prog 233 #[.int .u64 hi,.int .u64 lo,.int .u64 y] w fun r w'=>r=.returned (.tuple #[.int .u64 ((18446744073709551616*hi+lo)/y:Nat),.int .u64 ((18446744073709551616*hi+lo) % y:Nat)])∧Below w.heap.size w w':=by
 have hh:=Hp.start w;by_cases h0:hi=0
 ·subst h0;rw [adT,ab2];refine ae (N:=135) (l:=[.int .u64 ((0:Nat):Int),.int .u64 lo,.int .u64 y]) Tryz.func233 rfl rfl (by simp) ?_;refine aj ?_;refine aC 7 [[(1,none)],[(2,none)],[(28,some 0),(29,some 1)],[(1,none)],[(2,none)],[(31,some 3),(32,some 4)],[(30,some 2)]] [(6,6),(5,33),(4,32),(3,31),(2,30),(1,29),(0,28)] hh mixed abt ?_;refine dp ?_;refine dp ?_;refine a8 (i:=2) (fun ρ1 w1 hj hR=>Pv (show ρ1 28=Value.int _ _ from hR.1) (show ρ1 29=Value.int _ _ from hR.2.1) abq (by first|assumption|omega)) ?_;refine dp ?_;refine dp ?_;refine a8 (i:=5) (fun ρ1 w1 hj hR=>Ni (show ρ1 31=Value.int _ _ from hR.1) (show ρ1 32=Value.int _ _ from hR.2.1) abq) ?_;refine daI ?_;refine av ?_;intro f W hJ hV;have hb_6:=hJ.bl;obtain ⟨v6,v33,v32,v31,v30,v29,v28,_⟩:=hV;replace hh:=hJ.hp;refine ay (aQ (aa v6 (aa v33 (aa v32 (aa v31 (aa v30 (aa v29 (aa v28 aw)))))))) ?_;exact O6
 ·have hb:(64:Int)-(bf y:Int)=((0:Nat):Int):=by
   have:=BK (n:=y) (k:=64) hy2 hy;omega
  have hlz:=fun w1=>q9 y w1 hy2;rw [hb] at hlz;refine ae (N:=135) (l:=[.int .u64 hi,.int .u64 lo,.int .u64 y]) Tryz.func233 rfl rfl (by simp) ?_;refine aj ?_;refine aZ hh (hlz _) rfl ?_;intro w35 hh;have em:∀z:Nat,z &&& 4294967295=z % 4294967296:=fun z=>Nat.and_two_pow_sub_one_eq_mod z 32;have s0:∀z:Nat,z<18446744073709551616→z*2^((0:Nat):Int).toNat % 18446744073709551616=z:=fun z hz=>by
   show z*1 % _=z;rw [abZ];exact aci hz
  have z64:lo/2^(((64+18446744073709551616-0) % 18446744073709551616:Nat):Int).toNat=0:=acz hl;have z65:lo/2^(((64+18446744073709551616-0) % 18446744073709551616:Nat):Int).toNat<18446744073709551616:=by rw [z64];decide
  obtain ⟨y1,hy1⟩:∃y1,y/4294967296=y1:=⟨_,rfl⟩;obtain ⟨y0,hy0⟩:∃y0,y % 4294967296=y0:=⟨_,rfl⟩;obtain ⟨c1,hc1⟩:∃c1,lo/4294967296=c1:=⟨_,rfl⟩;obtain ⟨c0,hc0⟩:∃c0,lo % 4294967296=c0:=⟨_,rfl⟩;have hyy:y=4294967296*y1+y0:=abq;have hll:lo=4294967296*c1+c0:=abq;have b1:2147483648≤y1:=abq;have b0:y0<4294967296:=abq;have d1:c1<4294967296:=abq;have d0:c0<4294967296:=abq;refine mv ?_;refine aj ?_;refine Gl rfl rfl abq abr ?_;refine aj ?_;rw [s0 y hy2];refine aj ?_;refine uD ?_;refine aj ?_;refine Et ?_;refine aj ?_;refine Gl rfl rfl abq abr ?_;refine aj ?_;refine tG (a:=64) rfl rfl abq abr ?_;refine wB rfl rfl abq abr ?_;refine Ec ?_;refine aj ?_;refine Gl rfl rfl abq abr ?_;refine aj ?_;rw [s0 hi abq,s0 lo hl,z64,Nat.or_zero,em y,hy1,hy0];refine aj ?_;refine uD ?_;refine aj ?_;refine Et ?_;refine aj ?_;rw [em lo,hc1,hc0];clear em s0 z64 z65 hb hlz;have hst:=ya (u:=hi) b1 b0 d1 abq;refine aj ?_;refine FQ rfl rfl abq (by first|assumption|omega) abr ?_;refine aj ?_;refine gj rfl rfl abr ?_;refine zQ ?_;refine aj ?_
  have hrh:(hi+18446744073709551616-hi/y1*y1 % 18446744073709551616) % 18446744073709551616=hi % y1:=by
   have h1:=acO hi y1;rw [abU] at h1;omega
  rw [hrh];clear hrh;refine xm zL2 15
   (fun v w'=>v=.int .u64 ((4294967296*hi+c1)/y:Nat)∧Hp w [] w') ?_ ?_
  ·refine bk zL2 15 16
    (fun a b w'=>∃q rh:Nat,a=.int .u64 q∧b=.int .u64 rh∧xw hi c1 y1 y0 q rh∧rh<4294967296∧Hp w [] w')
    (fun a _ _=>(intOf a).toNat) ?_ ?_
   ·exact ⟨_,_,rfl,rfl,hst,by have:=ab4 hi (show 0<y1 by omega);omega,hh⟩
   ·clear hh hst;rintro ρ' a_ b_ w' ⟨q,rh,rfl,rfl,hI,hr,hh⟩;have hsm:=hI.sm;have hqy:q<4294967296→q*y0<18446744073709551616:=fun h=>by
     have h2:q*y0≤q*4294967295:=acd q abq;omega
    by_cases hb:4294967296≤q∨4294967296*rh+c1<q*y0
    ·exact Tt
    ·exact SQ
  ·skip;clear hh hst;rintro ρ' v w' ⟨rfl,hh⟩;obtain ⟨t1,t2⟩:=G8 (hi:=hi) (by omega:0<y) d1 d0;have hdm:=acO (4294967296*hi+c1) y;have hr1:=ab4 (4294967296*hi+c1) (by omega:0<y);have hqs:(4294967296*hi+c1)/y<4294967296:=by
    rw [acN abq];omega
   generalize (4294967296*hi+c1)/y=q1 at*;generalize (4294967296*hi+c1) % y=r1 at*;have hst:=ya (u:=r1) b1 b0 d0 abq;refine aj ?_;refine gj (b:=4294967296) rfl rfl abr ?_;refine mI ?_;refine fG rfl rfl abr ?_;refine aj ?_;refine gj rfl rfl abr ?_;refine zQ ?_;refine aj ?_;rw [DT (a:=hi*4294967296) (m:=q1*y) (r:=r1) (by rw [abU hi,abU q1];omega) abq];refine aj ?_;refine FQ rfl rfl abq (by first|assumption|omega) abr ?_;refine aj ?_;refine gj rfl rfl abr ?_;refine zQ ?_;refine aj ?_;have hrh:(r1+18446744073709551616-r1/y1*y1 % 18446744073709551616) % 18446744073709551616=r1 % y1:=by
    have h1:=acO r1 y1;rw [abU] at h1;omega
   rw [hrh];clear hrh;refine xm zL3 18
    (fun v w'=>v=.int .u64 ((4294967296*r1+c0)/y:Nat)∧Hp w [] w') ?_ ?_
   ·refine bk zL3 18 16
     (fun a b w'=>∃q rh:Nat,a=.int .u64 q∧b=.int .u64 rh∧xw r1 c0 y1 y0 q rh∧rh<4294967296∧Hp w [] w')
     (fun a _ _=>(intOf a).toNat) ?_ ?_
    ·exact ⟨_,_,rfl,rfl,hst,by have:=ab4 r1 (show 0<y1 by omega);omega,hh⟩
    ·clear hh hst;rintro ρ' a_ b_ w' ⟨q,rh,rfl,rfl,hI,hr,hh⟩;have hsm:=hI.sm;have hqy:q<4294967296→q*y0<18446744073709551616:=fun h=>by
      have h2:q*y0≤q*4294967295:=acd q abq;omega
     by_cases hb:4294967296≤q∨4294967296*rh+c0<q*y0
     ·exact Tt
     ·exact SQ
   ·skip;clear hh hst;rintro ρ' v w' ⟨rfl,hh⟩;have hdm2:=acO (4294967296*r1+c0) y;have hr2:=ab4 (4294967296*r1+c0) (by omega:0<y);have hq2:(4294967296*r1+c0)/y<4294967296:=by
     rw [acN abq];omega
    generalize (4294967296*r1+c0)/y=q2 at*;generalize (4294967296*r1+c0) % y=r2 at*;rw [←hll] at t1 t2;have e1:(q1*4294967296 % 18446744073709551616+q2) % 18446744073709551616=(18446744073709551616*hi+lo)/y:=by rw [abU q1];omega
    have e2:=DT (a:=r1*4294967296) (c:=c0) (m:=q2*y) (r:=r2) (by rw [abU r1,abU q2];omega) abq;have e3:r2/2^((0:Nat):Int).toNat=(18446744073709551616*hi+lo) % y:=by
     show r2/1=_;rw [adU];exact t2
    refine aj ?_;refine gj (b:=4294967296) rfl rfl abr ?_;refine mI ?_;refine fG rfl rfl abr ?_;refine mI ?_;refine gj (b:=4294967296) rfl rfl abr ?_;refine mI ?_;refine fG rfl rfl abr ?_;refine aj ?_;refine gj rfl rfl abr ?_;refine zQ ?_;refine mI ?_;refine wB rfl rfl abq abr ?_;refine aj ?_;rw [e1,e2,e3];exact ⟨rfl,hh.below⟩
section
variable {ro:Mode}{P:Program}{N:Nat}{Q:Kq}{ρ:Rf}{w:World}
theorem Ao {a c:Code} (mods:List Nat) (s0:Nat) (J:Value→World→Prop) (hc:WC ro P N a (dV (fun ρ2 w2=>J (ρ2 s0) w2∧im mods ρ2 ρ) Q) ρ w) (hn:∀ρ' v0 w',J v0 w'→WC ro P N c Q (cg (mask mods ρ' ρ) s0 v0) w'):WC ro P N (.seq a c) Q ρ w:=
 bO (hc.mono fun e ρ2 w2 hq=>by
  cases e with
  |normal=>
   have:=hn ρ2 (ρ2 s0) w2 hq.1;rwa [iD hq.2,fi] at this
  |_=>exact hq)
end
variable {C b cy o:Nat}{lo:Operand}{pos:String}{w0:World}{ρ:Rf}
theorem My {d:Option Nat}{ty:TypeId}{af:Array Edge}{g:Option (Nat×Bool)}{t e:TypeId}{x hi:Operand}{c l h sz:Nat}{k k2:IntKind}{m m2:Int} (ht:P.underlying t=some (.slice e)) (hsz:(P.info? e).map (·.size)=some sz) (hx:ev ρ x=.slice (some ⟨b,o,none⟩) n c) (hlo:ev ρ lo=.int k m) (hhi:ev ρ hi=.int k2 m2)
  (hm:m=(l:Int)) (hm2:m2=(h:Int)) (h1:l≤h) (h2:h≤c) (h3:l<c):(execOp (ev ρ) ⟨d,.slice t x (some lo) (some hi) none,ty,pos,af,g⟩).run P w=.ok (.value (.slice (some ⟨b,o+l*sz,none⟩) (h-l) (c-l))) w:=by
 rw [jf (lo:=some lo) (hi:=some hi) (l:=l) (h:=h) ht hsz hx ⟨k,m,hlo,hm⟩ ⟨k2,m2,hhi,hm2⟩ h1 h2,abw abq];simp only [adr,eN]
theorem CD {mods:List Nat}{ρ1:Rf}{d:Nat}{v:Value} (hd:mods.contains d=true) (h:im mods ρ1 ρ):im mods ρ1 (cg ρ d v):=fun i hi=>by
 rw [gR ρ (fun e=>by rw [e,hd] at hi;cases hi)];exact h i hi
def jO (ys:List Nat) (q:Nat):List Nat:=il 18446744073709551616 (List.replicate (ys.length+1) 0) ys q 0
theorem tH (ys:List Nat) (q:Nat):(jO ys q).length=ys.length+1:=by
 unfold jO;rw [nw,acL]
theorem wG (ys:List Nat) (q:Nat):Dg 18446744073709551616 (jO ys q):=wE abq _ _ _ _
theorem tE (hy:Dg 18446744073709551616 ys) (hq:q<18446744073709551616):aU 18446744073709551616 (jO ys q)=aU 18446744073709551616 ys*q:=by
 have h1:=gi hy;have h2:aU 18446744073709551616 ys*q<18446744073709551616^(ys.length+1):=by
  rw [acr];exact ae0 h1 hq
 unfold jO;rw [tU abq _ _ _ _ (by rw [j0,acL];omega),j0];omega
theorem D2 (X Yb A:Option Addr) (N C n cy c q:Nat) (ys ps:List Nat) (w:World) (hY:Sl w Yb n 1 (cm ys)) (hP:Sl w A (n+1) 1 (cm ps)) (hyd:Dg 18446744073709551616 ys) (hpd:Dg 18446744073709551616 ps) (hkc:n+1≤c) (hn:n≤100000000) (hY0:0<aU 18446744073709551616 ys) (hq:aU 18446744073709551616 ps<q*aU 18446744073709551616 ys) (hqw:q<18446744073709551616):
  Calls Tryz.prog 234 #[.agg #[.slice X N C,.slice Yb n cy],.slice A (n+1) c,.int .u64 (q:Int)] w fun e w'=>∃b,e=.returned (.tuple #[.int .u64 ((aU 18446744073709551616 ps/aU 18446744073709551616 ys:Nat):Int),.slice (some ⟨b,0,none⟩) (n+1) (n+1)])∧Hp w [.row (some ⟨b,0,none⟩) (n+1) (n+1) 160 1 (cm (jO ys (aU 18446744073709551616 ps/aU 18446744073709551616 ys)))] w':=by
 have hh:=Hp.start w;have hyl:ys.length=n:=by have:=hY.1;rw [aV] at this;omega
 have hpl:ps.length=n+1:=by have:=hP.1;rw [aV] at this;omega
 refine ae (N:=28) (l:=[.agg #[.slice X N C,.slice Yb n cy],.slice A (n+1) c,.int .u64 (q:Int)]) Tryz.func234 rfl rfl (by simp) ?_;refine bT ?_;intro b3 w3 hh;refine aH [2,6,7,8,9,10,11,12,13,14,15,16,17,18,19,20,21,22,23,24,25,26,27] 2
  (fun v w'=>∃q:Nat,v=.int .u64 q∧aU 18446744073709551616 ps<q*aU 18446744073709551616 ys∧q<18446744073709551616∧Hp w [.blk b3 234 [.slice X N C,.slice Yb n cy] (0,0)] w')
  (fun v _=>(intOf v).toNat) ?_ ?_
 ·exact ⟨q,rfl,hq,hqw,hh⟩
 ·clear hh hq hqw;rintro ρ' v w' ⟨q,rfl,hq,hqw,hh⟩;have hq1:1≤q:=by
   rcases adw q with h|h
   ·rw [h,ad4] at hq;omega
   ·exact h
  have hqd:(q+18446744073709551616-1) % 18446744073709551616=q-1:=abq;have hbig:=S0 hY0 hq;refine aj ?_;refine tG (b:=1) rfl rfl abq abr ?_;refine aj ?_;rw [hqd];have hmd:=tE hyd (q:=q-1) abq;refine aj ?_;refine fy (n:=n+1) hh rfl rfl abq abq bq.out az.out rfl abq abq abr ?_;intro b15 w15 hh;refine aj ?_;rw [lH] at hh;have hc:=oM (c':=n+1) (ny:=n) (cy:=cy) (m:=q-1) (Y:=Yb) [] (List.replicate (n+1) 0) [] ys _ (by rw [abC,acg];exact hh) (fun w1 cs h=>hY.ext h.below) (Dg.eI abq _) hyd abq (by rw [acL];omega) abq;have hmL:il 18446744073709551616 (List.replicate (n+1) 0) ys (q-1) 0=jO ys (q-1):=by unfold jO;rw [hyl]
  rw [abC,acg,acL,hmL] at hc;have hml:=tH ys (q-1);rw [hyl] at hml;have hmg:=wG ys (q-1);refine au (hc) ak.out rfl abr ?_;rintro e_ w_ ⟨rfl,hh⟩;refine ⟨_,rfl, ?_⟩;generalize hmu:jO ys (q-1)=muc at*;have hsl:=hh.ao (i:=0) rfl;have hcl:=eJ muc;refine aj ?_;refine aZ hh (fL _ _ _ muc _ (hh.ao (i:=0) rfl) (abD _) abq) rfl ?_;intro w22 hh;refine mL ?_;refine aZ hh (qU _ _ _ _ _ _ (dR muc) ps _ (Sl.qM (hh.ao (i:=0) rfl)) (hP.ext hh.below) hmg.cut hpd abq hkc abq abq) rfl ?_;intro w24 hh;rw [jK,hmd];rw [abU] at hmd ⊢;by_cases hfit:(q-1)*aU 18446744073709551616 ys≤aU 18446744073709551616 ps
  ·have hqe:=Oq hY0 hbig hfit;have hcmp:jA ((q-1)*aU 18446744073709551616 ys) (aU 18446744073709551616 ps)≤0:=by
    unfold jA;split
    ·decide
    ·rw [abw abq];decide
   generalize jA ((q-1)*aU 18446744073709551616 ys) (aU 18446744073709551616 ps)=z at*;rw [←hqe,hmu];refine aj ?_;exact ⟨b15,rfl,hh.sub (.cons_cons _ (acA _))⟩
  ·have hcmp:jA ((q-1)*aU 18446744073709551616 ys) (aU 18446744073709551616 ps)=1:=sA abq;rw [hcmp];refine aj ?_;replace hh:=hh.sub (abA _ (aby _ abV));refine ⟨⟨q-1,rfl,abq,abq,hh⟩,by show ((q-1:Nat):Int).toNat<(q:Int).toNat;omega, ?_⟩;exact dI
def cz (xs:List Nat) (a n:Nat):List Nat:=(xs.drop a).take (n+1)
theorem BQ {H:List HE}{v:Nat}{Yb:Option Addr} (a:Nat) (xs ys:List Nat) (w:World) (hh:Hp w0 (.row (some ⟨b,0,none⟩) N C 160 1 (cm xs)::H) w)
  (hy:∀w1 cs,Hp w0 (.row (some ⟨b,0,none⟩) N C 160 1 cs::H) w1→Sl w1 Yb n 1 (cm ys)) (hxd:Dg 18446744073709551616 xs) (hyd:Dg 18446744073709551616 ys) (hnm:n=m+1) (hv:ys[m]?=some v) (hv2:9223372036854775808≤v) (ha:a+n<N) (hN:N≤100000000) (hP:aU 18446744073709551616 (cz xs a n)/aU 18446744073709551616 ys<18446744073709551616):
  Calls Tryz.prog 212 #[.agg #[.slice (some ⟨b,0,none⟩) N C,.slice Yb n cy],.int .i64 (a:Int)] w fun e w'=>e=.returned (.int .u64 ((aU 18446744073709551616 (cz xs a n)/aU 18446744073709551616 ys:Nat):Int))∧Hp w0 (.row (some ⟨b,0,none⟩) N C 160 1 (cm (xs.take a++bH 18446744073709551616 (n+1) (aU 18446744073709551616 (cz xs a n) % aU 18446744073709551616 ys)++xs.drop (a+(n+1))))::H) w':=by
 have hyl:ys.length=n:=by have:=(hy _ _ hh).1;rw [aV] at this;omega
 have hxl:xs.length=N:=by have:=(hh.ao (i:=0) rfl).1;rw [aV] at this;omega
 have hcap:=hh.fh (i:=0) rfl;obtain ⟨x1,hx1⟩:=ai (l:=xs) (k:=a+n) abq;obtain ⟨x0,hx0⟩:=ai (l:=xs) (k:=a+m) abq;have gx1:=dZ hx1;have gx0:=dZ hx0;have gv:=dZ hv;have bx1:=hxd.at_ hx1;have bx0:=hxd.at_ hx0;have bv:=hyd.at_ hv;obtain ⟨e1,e2⟩:=Wr (a:=a) (m:=m) hxd abr hx0 (by rw [←hnm];exact hx1) hv abq abq (by unfold cz at hP;rw [hnm] at hP;exact hP);rw [show (xs.drop a).take (m+2)=cz xs a n by unfold cz;rw [hnm]] at e1;obtain ⟨adY,hYa,hYr⟩:=(hy _ _ hh).at_ abq;subst hYa;refine ae (N:=79) (l:=[.agg #[.slice (some ⟨b,0,none⟩) N C,.slice (some adY) n cy],.int .i64 (a:Int)]) Tryz.func212 rfl rfl (by simp) ?_;have hsub:∀(e:HE) w1,Hp w0 (e::.row (some ⟨b,0,none⟩) N C 160 1 (cm xs)::H) w1→Sl w1 (some adY) n 1 (cm ys):=fun e w1 h=>hy w1 _ (h.sub (abA _ (aco _)));refine sr ?_;refine yD hh [_,_] ?_;intro b2 w2 hh;refine aI (aJ (sr (tq ?_)));refine p8 hh 0 ?_;refine te (aI (aJ (sr (tq ?_))));refine p8 hh 0 ?_;refine mI (mI ?_);refine nC ?_;refine du (k:=a+n) bq.out az.size rfl rfl abq abq abr ?_;refine bG az.out rfl ((hh.ao (i:=1) rfl).Cn hx1) abr ?_
 refine aI (aJ (sr (aI (aJ ?_))));refine Ao [7,20,21,22,23,24,25,26,27,28,29,30,31,32,33,34,35,36,37,38,39,40,41,42,43,44,45,46] 7
  (fun e w'=>e=.int .u64 (GF 18446744073709551616 x1 x0 v:Nat)∧Hp w0 (.blk b2 234 [.slice (some ⟨b,0,none⟩) N C,.slice (some adY) n cy] (0,0)::.row (some ⟨b,0,none⟩) N C 160 1 (cm xs)::H) w') ?_ ?_
 ·by_cases hlt:x1<v
  ·have hdv:=fun w1=>Dz x1 x0 v w1 hv2 bv hlt bx0;have hq:(18446744073709551616*x1+x0)/v=GF 18446744073709551616 x1 x0 v:=(abx hlt).symm;rw [hq] at hdv;refine sr (mI (tq ?_));refine p8 hh 0 ?_;refine mI ?_;refine qy ?_;refine Nx ?_;refine bG az.out rfl ((hsub _ _ hh).Cn hv) abr ?_;refine aj ?_;refine aC 20 [[(6,none)],[(2,none)],[(30,some 1)],[(1,none)],[(5,none)],[(32,some 3),(33,some 4)],[(34,some 5)],[(31,some 2),(35,some 6)],[(36,some 7)],[(2,none)],[(38,some 9)],[(5,none)],[(40,some 11)],[(39,some 10),(41,some 12)],[(42,some 13)],[(29,some 0),(37,some 8),(43,some 14)],[(44,some 15)],[(28,some 16)],[(28,some 16)],[(45,some 17)]] [(19,7),(18,46),(17,45),(16,28),(15,44),(14,43),(13,42),(12,41),(11,40),(10,39),(9,38),(8,37),(7,36),(6,35),(5,34),(4,33),(3,32),(2,31),(1,30),(0,29)] hh mixed abt ?_;refine dp ?_;refine dw ?_;refine fF 0 ?_;refine dp ?_;refine dp ?_;refine tk ?_;refine uS ?_;refine aW (i:=7) (Is (.pointer (some (Addr.add ⟨b,0,none⟩ ((a+m)*1))))) (Is.ext) ?_ ?_
   ·intro ρ1 w1 hj hR;exact cY rfl (iC (k:=a+m) bq.out az.size (show ρ1 31=Value.slice _ _ _ from hR.1) (show ρ1 35=Value.int _ _ from hR.2.1) abq abq) ⟨Below.refl _ _,rfl⟩
   refine yY (fun _ hj=>(hj.hp.ao (i:=1) rfl).Cn hx0) ?_;refine dw ?_;refine fF 0 ?_;refine dp ?_;refine uS ?_;refine aW (i:=13) (Is (.pointer (some (adY.add (m*1))))) (Is.ext) ?_ ?_
   ·intro ρ1 w1 hj hR;exact cY rfl (iC (k:=m) bq.out az.size (show ρ1 39=Value.slice _ _ _ from hR.1) (show ρ1 41=Value.int _ _ from hR.2.1) abq abq) ⟨Below.refl _ _,rfl⟩
   refine yY (fun _ hj=>(hsub _ _ hj.hp).Cn hv) ?_;refine dC (fun _ hj=>hdv _) ?_;refine Y7 ?_;refine V0 ?_;refine V0 ?_;refine daI ?_;refine av ?_;intro f W hJ hV;have hb_5:=hJ.bl;obtain ⟨v7,v46,v45,v28,v44,v43,v42,v41,v40,v39,v38,v37,v36,v35,v34,v33,v32,v31,v30,v29,_⟩:=hV;replace hh:=hJ.hp;refine ay (aQ (aa v7 (aa v46 (aa v45 (aa v28 (aa v44 (aa v43 (aa v42 (aa v41 (aa v40 (aa v39 (aa v38 (aa v37 (aa v36 (aa v35 (aa v34 (aa v33 (aa v32 (aa v31 (aa v30 (aa v29 aw))))))))))))))))))))) ?_;dsimp only [bA];clear hJ;refine aj ?_;refine ⟨⟨rfl,hh⟩, ?_⟩;repeat refine cV rfl ?_
   exact CD rfl fun _ _=>rfl
  ·have hq:18446744073709551616-1=GF 18446744073709551616 x1 x0 v:=(abw hlt).symm;refine sr (mI (tq ?_));refine p8 hh 0 ?_;refine mI ?_;refine qy ?_;refine Nx ?_;refine bG az.out rfl ((hsub _ _ hh).Cn hv) abr ?_;refine aj ?_;refine ⟨⟨?_,hh⟩, ?_⟩
   ·rw [←hq]
    rfl
   ·repeat refine cV rfl ?_
    exact CD rfl fun _ _=>rfl
 ·skip;clear hh;rintro ρ' e_ w' ⟨rfl,hh⟩;generalize GF 18446744073709551616 x1 x0 v=q at*;have hqw:q<18446744073709551616:=abq;have hmd:=tE hyd hqw;have hml:=tH ys q;rw [hyl] at hml;have hmg:=wG ys q;have hmL:il 18446744073709551616 (List.replicate (n+1) 0) ys q 0=jO ys q:=by unfold jO;rw [hyl]
  have hpt:(cz xs a n).length=n+1:=by unfold cz;rw [abP,acJ];omega
  have hpd:Dg 18446744073709551616 (cz xs a n):=(hxd.drop a).take (n+1);have hY0:0<aU 18446744073709551616 ys:=by
   have h1:=Hg (B:=18446744073709551616) hv abq;have h2:0<v*18446744073709551616^m:=Nat.mul_pos abq (ab7 abr);omega
  refine aj ?_;refine aM rfl rfl abr (My (l:=a) (h:=a+(n+1)) bq.out az.size rfl rfl rfl rfl abq abq abq abq) ?_;refine aj ?_;refine fy (n:=n+1) hh rfl rfl abq abq bq.out az.out rfl abq abq abr ?_;intro b57 w57 hh;refine aj ?_;rw [lH] at hh;rw [show 0+a*1=a by omega,show a+(n+1)-a=n+1 by omega];have hps:∀w1,Sl w1 (some ⟨b,0,none⟩) N 1 (cm xs)→Sl w1 (some ⟨b,a,none⟩) (n+1) 1 (cm (cz xs a n)):=fun w1 h=>by
   have h2:=(h.On (k:=a) abq).P5 (k:=n+1) abq;rw [eN,ab2,abZ] at h2;exact h2
  have hsp:xs.take a++cz xs a n++xs.drop (a+(n+1))=xs:=by unfold cz;rw [acb,←ad7,acH,acH]
  have htk:(xs.take a).length=a:=by rw [abP];omega
  have hdm:=acO (aU 18446744073709551616 (cz xs a n)) (aU 18446744073709551616 ys);have hml2:=ab4 (aU 18446744073709551616 (cz xs a n)) hY0;have hmQ:=tE hyd hP;have hlQ:=tH ys (aU 18446744073709551616 (cz xs a n)/aU 18446744073709551616 ys);rw [hyl] at hlQ;have hgQ:=wG ys (aU 18446744073709551616 (cz xs a n)/aU 18446744073709551616 ys);have hsb:=Ez (B:=18446744073709551616) abq (cz xs a n) (jO ys (aU 18446744073709551616 (cz xs a n)/aU 18446744073709551616 ys)) 0 hpd hgQ abq abq;have hsd:qG 18446744073709551616 (cz xs a n) (jO ys (aU 18446744073709551616 (cz xs a n)/aU 18446744073709551616 ys)) 0=bH 18446744073709551616 (n+1) (aU 18446744073709551616 (cz xs a n) % aU 18446744073709551616 ys):=by
   have h1:=ri (H3 (B:=18446744073709551616) abq (cz xs a n) (jO ys (aU 18446744073709551616 (cz xs a n)/aU 18446744073709551616 ys)) 0);rw [E0,hpt] at h1;rw [←h1];congr 1;omega
  have hkey:∀T w1,Hp w0 (.row (some ⟨b,0,none⟩) N C 160 1 (cm xs)::T) w1→Hp w0 (.row (some ⟨b,0,none⟩) N C 160 1 (cm (xs.take a++cz xs a n++xs.drop (a+(n+1))))::T) w1:=fun T w1 h=>by rw [hsp];exact h
  have hc:=oM (c':=n+1) (ny:=n) (cy:=cy) (m:=q) (Y:=some adY) [] (List.replicate (n+1) 0) [] ys _ (by rw [abC,acg];exact hh) (fun w1 cs h=>hy w1 _ (h.sub (abA _ (abA _ (aco _))))) (Dg.eI abq _) hyd hqw (by rw [acL];omega) abq;rw [abC,acg,acL,hmL] at hc;refine au (hc) ak.out rfl abr ?_;rintro e_ w_ ⟨rfl,hh⟩;refine ⟨_,rfl, ?_⟩;have hcl:=eJ (jO ys q);refine aj ?_;refine aZ hh (fL _ _ _ (jO ys q) _ (hh.ao (i:=0) rfl) (abD _) abq) rfl ?_;intro w64 hh;refine mL ?_;refine aZ hh (qU _ _ _ _ _ _ (dR (jO ys q)) (cz xs a n) _ (Sl.qM (hh.ao (i:=0) rfl)) (hps _ (hh.ao (i:=2) rfl)) hmg.cut hpd abq abq abq abq) rfl ?_;intro w66 hh;rw [jK,hmd];by_cases hfit:q*aU 18446744073709551616 ys≤aU 18446744073709551616 (cz xs a n)
  ·have hqe:=Oq hY0 e1 hfit;have hcmp:jA (aU 18446744073709551616 ys*q) (aU 18446744073709551616 (cz xs a n))≤0:=by
    rw [abU];unfold jA;split
    ·decide
    ·rw [abw abq];decide
   generalize jA (aU 18446744073709551616 ys*q) (aU 18446744073709551616 (cz xs a n))=z at*;subst hqe;refine aj ?_;replace hh:=hh.front 2 rfl;replace hh:=hkey _ _ hh;have htc:=om (c':=C-a) (ny:=n+1) (cy:=n+1) (Y:=some ⟨b57,0,none⟩) (xs.take a) (cz xs a n) (xs.drop (a+(n+1))) (jO ys (aU 18446744073709551616 (cz xs a n)/aU 18446744073709551616 ys)) _ hh (fun w1 cs h=>h.ao (i:=1) rfl) hpd hgQ abq abq hsb.2;exact W4
  ·have hcmp:jA (aU 18446744073709551616 ys*q) (aU 18446744073709551616 (cz xs a n))=1:=sA (by rw [abU];omega);rw [hcmp];refine aj ?_;refine au (D2 (some ⟨b,0,none⟩) (some adY) (some ⟨b,a,none⟩) N C n cy (C-a) q ys (cz xs a n) _ (hy _ _ (hh.sub (abA _ (abA _ (aco _))))) (hps _ (hh.ao (i:=2) rfl)) hyd hpd abq abq hY0 abq hqw) ak.out rfl abr ?_;rintro e_ w72 ⟨bm,rfl,h4⟩;refine ⟨_,rfl, ?_⟩;replace hh:=hh.join h4;clear h4;simp only [abE,abC] at hh;replace hh:=hh.sub (aby _ (abA _ (aby _ (aby _ (aco _)))));refine aj ?_;replace hh:=hh.front 2 rfl;replace hh:=hkey _ _ hh;have htc:=om (c':=C-a) (ny:=n+1) (cy:=n+1) (Y:=some ⟨bm,0,none⟩) (xs.take a) (cz xs a n) (xs.drop (a+(n+1))) (jO ys (aU 18446744073709551616 (cz xs a n)/aU 18446744073709551616 ys)) _ hh (fun w1 cs h=>h.ao (i:=1) rfl) hpd hgQ abq abq hsb.2;exact W4
theorem HP (k:Nat):18446744073709551616^k=2^(64*k):=by
 rw [show (18446744073709551616:Nat)=2^64 by decide,←acv]
theorem Nb {d:Nat} (hb:b≠0) (hl:(aK 18446744073709551616 b).length=m+1) (hd:(aK 18446744073709551616 b)[m]?=some d):bf d≤64∧(aK 18446744073709551616 (b*2^(64-bf d))).length=m+1∧∃v,(aK 18446744073709551616 (b*2^(64-bf d)))[m]?=some v∧9223372036854775808≤v:=by
 have hg:=gM b;have hd64:d<18446744073709551616:=hg.at_ hd;have hbl:bf d≤64:=cW (by simpa using hd64);have e:aK 18446744073709551616 b=(aK 18446744073709551616 b).take m++[d]:=by rw [←al hd,abG abq]
 have AJ:d≠0:=fun h=>by
  have h1:=eB b;rw [e,h] at h1;have h2:(aK 18446744073709551616 b).getLast?≠some 0:=(ea abq b).2;rw [e,h] at h2;simp at h2
 have hB:bf b=64*m+bf d:=by
  have h1:=EC (B:=18446744073709551616) (b:=64) (m:=m) abr (hg.take m) (by rw [abP];omega) AJ;rw [←e,eB] at h1;exact h1
 have h1:=cw b;have h2:=AM hb;have h3:=oS AJ;have hup:b*2^(64-bf d)<18446744073709551616^(m+1):=by
  rw [HP,show 64*(m+1)=bf b+(64-bf d) by omega,ab5];exact ad1 h1 (ab7 abr)
 have hdn:18446744073709551616^m*9223372036854775808≤b*2^(64-bf d):=by
  have h4:18446744073709551616^m*9223372036854775808=2^(bf b-1)*2^(64-bf d):=by
   rw [HP,show (9223372036854775808:Nat)=2^63 by decide,←ab5,←ab5];congr 1;omega
  rw [h4];exact acx _ h2
 generalize b*2^(64-bf d)=B2 at*;have hWp:0<18446744073709551616^m:=ab7 abr;have hlen:(aK 18446744073709551616 B2).length=m+1:=by
  have a1:=fQ (B:=18446744073709551616) abq hup;have a2:=m0 (B:=18446744073709551616) abq B2
  rcases acj (aK 18446744073709551616 B2).length (m+1) with h|h
  ·have a3:18446744073709551616^(aK 18446744073709551616 B2).length≤18446744073709551616^m:=ach abr abq;omega
  ·omega
 refine ⟨hbl,hlen,_,we abq abq, ?_⟩;have hv:B2/18446744073709551616^m<18446744073709551616:=by
  rw [acN hWp,abU,←acr];exact hup
 rw [aci hv,Nat.le_div_iff_mul_le hWp,abU];exact hdn
structure N9 (A Y N n k:Nat) (X O:List Nat):Prop where
 xd:Dg 18446744073709551616 X
 xl:X.length=N
 od:Dg 18446744073709551616 O
 ol:O.length=N-n
 oz:∀i,i<k→O[i]?=some 0
 e:aU 18446744073709551616 O*Y+aU 18446744073709551616 X=A
 r:aU 18446744073709551616 (X.drop k)<Y
theorem KC {A:Nat}{X O:List Nat} (hy:Dg 18446744073709551616 ys) (hn:ys.length=n) (hk:k+1≤N-n) (hnN:n≤N) (h:N9 A (aU 18446744073709551616 ys) N n (k+1) X O):aU 18446744073709551616 (cz X k n)/aU 18446744073709551616 ys<18446744073709551616∧N9 A (aU 18446744073709551616 ys) N n k (X.take k++bH 18446744073709551616 (n+1) (aU 18446744073709551616 (cz X k n) % aU 18446744073709551616 ys)++X.drop (k+(n+1))) (O.set k (aU 18446744073709551616 (cz X k n)/aU 18446744073709551616 ys)):=by
 obtain ⟨xd,xl,od,ol,oz,e,hr⟩:=h;obtain ⟨x,hx⟩:=ai (l:=X) (k:=k) abq;have hxw:=xd.at_ hx;have hYl:=gi hy;rw [hn] at hYl;have hR:=OD (B:=18446744073709551616) (xd.drop (k+1)) n (by rw [acJ];omega);rw [aci (show aU 18446744073709551616 (X.drop (k+1))<18446744073709551616^n by omega)] at hR;have hP:aU 18446744073709551616 (cz X k n)=x+18446744073709551616*aU 18446744073709551616 (X.drop (k+1)):=by
  unfold cz;rw [gk hx,aee];show x+18446744073709551616*_=_;rw [hR]
 have hz:aU 18446744073709551616 (X.drop (k+(n+1)))=0:=by
  rw [show k+(n+1)=(k+1)+n by omega,←ad7,Es (xd.drop (k+1)) n abr,acz abq]
 have hY0:0<aU 18446744073709551616 ys:=abq;have hq:aU 18446744073709551616 (cz X k n)/aU 18446744073709551616 ys<18446744073709551616:=by
  rw [acN hY0,hP];have h1:18446744073709551616*(aU 18446744073709551616 (X.drop (k+1))+1)≤18446744073709551616*aU 18446744073709551616 ys:=acd _ hr;rw [ac5] at h1;omega
 have hm:=ab4 (aU 18446744073709551616 (cz X k n)) hY0;have hdm:=acO (aU 18446744073709551616 (cz X k n)) (aU 18446744073709551616 ys);have hmW:aU 18446744073709551616 (cz X k n) % aU 18446744073709551616 ys<18446744073709551616^(n+1):=by
  rw [acr];have:18446744073709551616^n*1≤18446744073709551616^n*18446744073709551616:=acd _ abr;omega
 have hpp:=NN (B:=18446744073709551616) (xs:=X) (a:=k) (n:=n+1) abq hmW;have hso:=IJ (B:=18446744073709551616) O k (aU 18446744073709551616 (cz X k n)/aU 18446744073709551616 ys) (oz k abq);have hlt:(X.take k).length=k:=by rw [abP];omega
 have hpe:(X.drop k).take (n+1)=cz X k n:=rfl;rw [hpe] at hpp;refine ⟨hq, ?_, ?_,od.PC k hq,by rw [acU];exact ol,fun i hi=> ?_, ?_, ?_⟩
 ·exact ((xd.take k).append (gu abr _ _)).append (xd.drop _)
 ·rw [abJ,abJ,hlt,aN,acJ];omega
 ·rw [acV,abw abq];exact oz i abq
 ·generalize aU 18446744073709551616 (cz X k n)/aU 18446744073709551616 ys=q at*;generalize aU 18446744073709551616 (cz X k n) % aU 18446744073709551616 ys=r at*;rw [adT,acY] at hso;rw [hso,adJ];have h5:18446744073709551616^k*q*aU 18446744073709551616 ys+18446744073709551616^k*r=18446744073709551616^k*aU 18446744073709551616 (cz X k n):=by
   rw [←hdm,acw,acE,abU q]
  omega
 ·rw [acb,List.drop_append,hlt,acs,adH abq,abC,aeb,cI,hz,adT,acY,cG hmW];exact hm
theorem Lo {A:Nat}{X:List Nat}{Y:Nat} (xd:Dg 18446744073709551616 X) (xl:X.length=N) (hA:aU 18446744073709551616 X=A) (hn:1≤n) (hnN:n+1≤N) (hAN:A<18446744073709551616^(N-1)) (hY:18446744073709551616^(n-1)≤Y):N9 A Y N n (N-n) X (List.replicate (N-n) 0):=by
 refine ⟨xd,xl,Dg.eI abr _,acL,fun i hi=>by rw [afc,abx hi],by rw [j0];omega, ?_⟩;rw [Es xd _ abr,hA];refine acu ?_ hY;rw [acN (ab7 abr),←ab5,show n-1+(N-n)=N-1 by omega];exact hAN
theorem Rm {a s:Nat}{X O:List Nat}{Y:Nat} (hb:0<b) (hY:Y=b*2^s) (h:N9 (a*2^s) Y N n 0 X O):aU 18446744073709551616 O=a/b∧aU 18446744073709551616 X/2^s=a % b:=by
 have hp:0<2^s:=ab7 abr;have he:=h.e;have hr:=h.r;rw [aeb] at hr;subst hY;have h1:aU 18446744073709551616 X % 2^s=0:=by
  have h2:(aU 18446744073709551616 O*(b*2^s)+aU 18446744073709551616 X) % 2^s=0:=by rw [he];exact Nat.mul_mod_left _ _
  rw [←acE,Nat.mul_add_mod_self_right] at h2;exact h2
 have h2:=acO (aU 18446744073709551616 X) (2^s);rw [h1,acY] at h2;generalize aU 18446744073709551616 X/2^s=r at*;rw [←h2,abU _ r] at he hr;have h3:aU 18446744073709551616 O*b+r=a:=by
  refine Nat.eq_of_mul_eq_mul_right hp ?_;rw [adJ,acE];exact he
 have h4:r<b:=Nat.lt_of_mul_lt_mul_right hr;have h5:=(Nat.div_mod_unique (a:=a) (b:=b) (c:=r) (d:=aU 18446744073709551616 O) hb).2 ⟨by rw [abU b];omega,h4⟩;exact ⟨h5.1.symm,h5.2.symm⟩
theorem Bh (a b:ByteArray) (w:World) (ha:a.size≤100000000) (hb:b.size≤100000000) (hb0:bN b≠0):
  Calls Tryz.prog 173 #[.string a,.string b] w fun e w'=>e=.returned (.tuple #[.string (sN (bN a/bN b)),.string (sN (bN a % bN b)),.bool true])∧Below w.heap.size w w':=by
 have hh:=Hp.start w;have h1:=fM a;have h2:=fM b;have hyn:(aK 18446744073709551616 (bN b)).length≠0:=fun h=>hb0 ((rZ abq).1 (adB h));by_cases hlt:bN a<bN b
 ·refine ae (N:=75) (l:=[.string a,.string b]) Tryz.func173 rfl rfl (by simp) ?_;refine aj ?_;refine au (jd a _ abq) ak.out rfl abr ?_;rintro e_ w14 ⟨A14,c14,rfl,hown_,hb_⟩;refine ⟨_,rfl, ?_⟩;replace hh:=hh.aD (x:=.row _ _ _ _ _ _) hb_ hown_;refine mS ?_;refine au (jd b _ abq) ak.out rfl abr ?_;rintro e_ w16 ⟨A16,c16,rfl,hown_,hb_⟩;refine ⟨_,rfl, ?_⟩;replace hh:=hh.aD (x:=.row _ _ _ _ _ _) hb_ hown_;refine aj ?_;refine Eu ?_;intro w24 hh;rw [eB,eB,lN hlt];refine aj ?_;refine aZ hh (fj _ _ _ (aK 18446744073709551616 (bN a)) _ (hh.ao (i:=1) rfl) (gM _) (hh.fh (i:=1) rfl) abq) rfl ?_;intro w27 hh;rw [eB];refine aj ?_;rw [acz hlt,aci hlt,kG];exact ⟨rfl,hh.below⟩
 ·have hc:¬jA (bN a) (bN b)<0:=by unfold jA;split<;>(try split)<;>omega
  obtain ⟨m,hm⟩:∃m,(aK 18446744073709551616 (bN b)).length=m+1:=⟨(aK 18446744073709551616 (bN b)).length-1,abq⟩;obtain ⟨d,hd⟩:=ai (l:=aK 18446744073709551616 (bN b)) (k:=m) abq;obtain ⟨hbl,hlen,v,hv,hv2⟩:=Nb hb0 hm hd;have hlz:=fun w1=>q9 d w1 ((gM _).at_ hd);obtain ⟨s,hs⟩:∃s,s=64-bf d:=⟨_,rfl⟩;rw [show (64:Int)-(bf d:Int)=((64-bf d:Nat):Int) by omega] at hlz;rw [←hs] at hlz hlen hv;have hs64:s≤64:=abq;refine ae (N:=75) (l:=[.string a,.string b]) Tryz.func173 rfl rfl (by simp) ?_;refine aj ?_;refine au (jd a _ abq) ak.out rfl abr ?_;rintro e_ w14 ⟨A14,c14,rfl,hown_,hb_⟩;refine ⟨_,rfl, ?_⟩;replace hh:=hh.aD (x:=.row _ _ _ _ _ _) hb_ hown_;refine mS ?_;refine au (jd b _ abq) ak.out rfl abr ?_;rintro e_ w16 ⟨A16,c16,rfl,hown_,hb_⟩;refine ⟨_,rfl, ?_⟩;replace hh:=hh.aD (x:=.row _ _ _ _ _ _) hb_ hown_;refine aj ?_;refine Eu ?_;intro w24 hh;rw [eB,eB];refine nP (aB (aJ (cF (dA (Ol (eF (sr (mL (mL (te ?_))))))))));refine qy ?_;refine Nx ?_;refine bG az.out rfl ((hh.ao (i:=0) rfl).Cn hd) abr ?_;refine aZ hh (hlz _) rfl ?_;intro w34 hh;refine aj ?_
  refine au (th _ _ _ s (aK 18446744073709551616 (bN a)) _ (hh.ao (i:=1) rfl) (gM _) abq abq) ak.out rfl abr ?_;rintro e_ w37 ⟨A37,c37,rfl,hown_,hb_⟩;refine ⟨_,rfl, ?_⟩;replace hh:=hh.aD (x:=.row _ _ _ _ _ _) hb_ hown_;rw [eB] at hh ⊢;have hAN:bN a*2^s<18446744073709551616^((aK 18446744073709551616 (bN a)).length+1):=by
   have q1:=m0 (B:=18446744073709551616) abq (bN a);have q2:2^s≤2^64:=ach abr hs64;rw [acr];exact acu (ad1 q1 (ab7 abr)) (acd _ q2)
  have hla:=fQ (B:=18446744073709551616) abq hAN;have hmono:=kd (B:=18446744073709551616) abq (aeS hlt);generalize hlx:(aK 18446744073709551616 (bN a)).length=lx at*;refine aj ?_;refine au (mf _ _ _ (lx+2) (aK 18446744073709551616 (bN a*2^s)) _ (hh.ao (i:=0) rfl) abq abq) ak.out rfl abr ?_;rintro e_ w_ ⟨b41,rfl,hown_,hb_⟩;refine ⟨_,rfl, ?_⟩;replace hh:=hh.aD (x:=.row _ _ _ _ _ _) hb_ hown_;have e2:max (lx+2) (aK 18446744073709551616 (bN a*2^s)).length=lx+2:=abq;rw [e2] at hh ⊢;refine aj ?_;refine au (th _ _ _ s (aK 18446744073709551616 (bN b)) _ (hh.ao (i:=2) rfl) (gM _) abq abq) ak.out rfl abr ?_;rintro e_ w44 ⟨A44,c44,rfl,hown_,hb_⟩;refine ⟨_,rfl, ?_⟩;replace hh:=hh.aD (x:=.row _ _ _ _ _ _) hb_ hown_;rw [eB] at hh ⊢;have hyw:=gM (bN b*2^s);have hyv:=eB (bN b*2^s);generalize aK 18446744073709551616 (bN b*2^s)=ys at*;rw [hlen] at hh ⊢;have hxw:Dg 18446744073709551616 (aK 18446744073709551616 (bN a*2^s)++List.replicate (lx+2-(aK 18446744073709551616 (bN a*2^s)).length) 0):=(gM _).append (Dg.eI abr _)
  have hxv:aU 18446744073709551616 (aK 18446744073709551616 (bN a*2^s)++List.replicate (lx+2-(aK 18446744073709551616 (bN a*2^s)).length) 0)=bN a*2^s:=by rw [cI,j0,eB,adT,acY]
  have hxl:(aK 18446744073709551616 (bN a*2^s)++List.replicate (lx+2-(aK 18446744073709551616 (bN a*2^s)).length) 0).length=lx+2:=by rw [abJ,acL];omega
  generalize aK 18446744073709551616 (bN a*2^s)++List.replicate (lx+2-(aK 18446744073709551616 (bN a*2^s)).length) 0=X0 at*;have hY1:18446744073709551616^m≤aU 18446744073709551616 ys:=by
   have q1:=Hg (B:=18446744073709551616) hv hlen;have q2:1*18446744073709551616^m≤v*18446744073709551616^m:=acx _ abq;omega
  have hst:=Lo (N:=lx+2) (n:=m+1) hxw hxl hxv abq abq hAN hY1;refine bX ?_;intro b10 w10 hh ws hh;replace hh:=show Hp w (.blk b10 234 [.slice (some ⟨b41,0,none⟩) (lx+2) (lx+2),.slice A44 (m+1) c44] (0,0)::_) _ from hh;replace hh:=hh.sub (aby _ (aby _ (aby _ (abA _ (abA _ (abA _ abV))))));refine aj ?_;refine fy (n:=lx+2-(m+1)) hh rfl rfl abq abq bq.out az.out rfl abq abq abr ?_;intro b53 w53 hh;refine aj ?_;rw [lH] at hh;have hK0:lx+2-(m+1)+(m+1)=lx+2:=abq;generalize hK:lx+2-(m+1)=K at*;replace hh:=hh.perm (acf (l₁:=[_,_]));simp only [abE,abC] at hh;replace hh:=hh.perm (acf (l₁:=[_,_]));simp only [abE,abC] at hh;replace hh:=hh.perm (acf (l₁:=[_,_]));simp only [abE,abC] at hh;replace hh:=hh.perm (acf (l₁:=[_,_,_]));simp only [abE,abC] at hh;refine aH [12,57,58,59,60,61,62,63,64,65,66] 12
   (fun e w'=>∃(k:Nat) (X O:List Nat),k≤K∧e=.int .i64 ((k:Int)-1)∧N9 (bN a*2^s) (aU 18446744073709551616 ys) (lx+2) (m+1) k X O∧Hp w [.row (some ⟨b41,0,none⟩) (lx+2) (lx+2) 160 1 (cm X),.row (some ⟨b53,0,none⟩) K K 160 1 (cm O),.blk b10 234 [.slice (some ⟨b41,0,none⟩) (lx+2) (lx+2),.slice A44 (m+1) c44] (0,0),.row A44 (m+1) c44 160 1 (cm ys)] w')
   (fun e _=>(intOf e+1).toNat) ?_ ?_
  ·exact ⟨K,X0,_,abD _,rfl,hst,hh⟩
  ·clear hh hst;rintro ρ' e_ w' ⟨k,X,O,hk,rfl,hD,hh⟩;by_cases hk0:0<k
   ·obtain ⟨k,rfl⟩:∃j,k=j+1:=⟨k-1,abq⟩;obtain ⟨hq,hD2⟩:=KC hyw hlen abq abq hD;have hdc:=BQ (C:=lx+2) (cy:=c44) (Yb:=A44) k X ys _ hh (fun w1 cs h=>h.ao (i:=3) rfl) hD.xd hyw rfl hv hv2 abq abq hq;have hOl:=hD.ol;rw [hK] at hOl;rw [show ((k+1:Nat):Int)-1=(k:Int) by omega];generalize aU 18446744073709551616 (cz X k (m+1))/aU 18446744073709551616 ys=q at*;generalize X.take k++bH 18446744073709551616 (m+1+1) (aU 18446744073709551616 (cz X k (m+1)) % aU 18446744073709551616 ys)++X.drop (k+(m+1+1))=X2 at*;refine aj ?_;refine au (hdc) ak.out rfl abr ?_;rintro e_ w_ ⟨rfl,hh⟩;refine ⟨_,rfl, ?_⟩;refine aj ?_;refine bM hh (i:=1) (vs:=[_]) rfl rfl (cH rfl) rfl az.out rfl (by rw [aV];omega) rfl ?_;intro ws hh;simp only [abK,ab9] at hh;rw [abZ,cu (by rw [aV];omega),gP] at hh;refine aj ?_;refine ⟨⟨k,X2,O.set k q,abq,rfl,hD2,hh⟩,by show ((k:Int)-1+1).toNat<((k:Int)+1).toNat;omega, ?_⟩;exact dI
   ·obtain rfl:k=0:=abq;obtain ⟨r1,r2⟩:=Rm abq hyv hD;refine aj ?_;have hdn:=fun w1 h1=>uy (some ⟨b41,0,none⟩) (dR X).length (lx+2) s (dR X) w1 (Sl.qM (n:=lx+2) h1) hD.xd.cut (by have:=eJ X;have:=hD.xl;omega) (by have:=eJ X;have:=hD.xl;omega) abq;rw [jK,r2] at hdn;have htx:=fun w1 h1=>fj (some ⟨b53,0,none⟩) K K O w1 h1 hD.od (abD _) abq;rw [r1] at htx;have htr:=fun A c w1 h1 h2 h3=>fj A (aK 18446744073709551616 (bN a % bN b)).length c (aK 18446744073709551616 (bN a % bN b)) w1 h1 (gM _) h2 h3;rw [eB] at htr;refine aC 6 [[(11,none)],[(67,some 0)],[(10,none)],[(69,some 2)],[(70,some 3)],[(9,none)]] [(5,72),(4,71),(3,70),(2,69),(1,68),(0,67)] hh mixed abt ?_;refine fO ?_;refine dC (fun _ hj=>htx _ (hj.hp.ao (i:=1) rfl)) ?_;refine dw ?_;refine fF 2 ?_;refine dC (fun _ hj=>fL _ _ _ X _ (hj.hp.ao (i:=0) rfl) (abD _) abq) ?_;refine dp ?_;refine av ?_;intro f W hJ hV;have hb_13:=hJ.bl;obtain ⟨v72,v71,v70,v69,v68,v67,_⟩:=hV;replace hh:=hJ.hp;refine ay (aQ (aa v72 (aa v71 (aa v70 (aa v69 (aa v68 (aa v67 aw))))))) ?_;dsimp only [bA];clear hJ
    refine au (hdn _ (hh.ao (i:=0) rfl)) ak.out rfl abr ?_;rintro e_ w73 ⟨A73,c73,rfl,hown_,hb_⟩;refine ⟨_,rfl, ?_⟩;replace hh:=hh.aD (x:=.row _ _ _ _ _ _) hb_ hown_;refine aZ hh (htr _ _ _ (hh.ao (i:=0) rfl) (hh.fh (i:=0) rfl) (by have:=kd (B:=18446744073709551616) abq (Nat.le_of_lt (ab4 (bN a) (Nat.pos_of_ne_zero hb0)));omega)) rfl ?_;intro w74 hh;refine aj ?_;exact ⟨rfl,hh.below⟩
theorem wM (z:Int) (B:Nat) (q r:Int) (h:r+B*q=z) (h0:0≤r) (h1:r<B):z/B=q:=
 ((Int.ediv_emod_unique abq).2 ⟨h,h0,h1⟩).1
theorem F5 (s:Bool) (a b:ByteArray) (w:World) (ha:a.size≤10000000) (hb:b.size≤10000000) (hb0:bN b≠0):
  Calls Tryz.prog 125 #[.agg #[.bool s,.string a],.agg #[.bool false,.string b]] w fun e w'=>∃x y,e=.returned (.tuple #[.agg #[.bool (iN (iv s a/bN b)),.string (iM (iv s a/bN b))],.agg #[.bool x,.string y],.bool true])∧Below w.heap.size w w':=by
 have hh:=Hp.start w;have hba:=g6 a;have hmod:bN a % bN b<bN b:=ab4 _ abq;have hdm:bN b*(bN a/bN b)+bN a % bN b=bN a:=acO _ _;have hdm':(bN b:Int)*((bN a/bN b:Nat):Int)+((bN a % bN b:Nat):Int)=(bN a:Int):=by rw [←acK,←acZ,hdm]
 have hdv:=fun w1=>Bh a b w1 abq abq hb0;generalize hq:bN a/bN b=q at*;generalize hr:bN a % bN b=r at*;have hqv:iv false (sN q)=(q:Int):=by unfold iv;rw [fI,abw (by simp)]
 cases s with
 |false=>
  have e3:iv false a=(bN a:Int):=by unfold iv;rw [abw (by simp)]
  have q1:=wM (iv false a) (bN b) q r (by rw [e3,←hdm'];omega) abq abq;rw [q1];have hfm:=fun w1=>ji false (sN q) w1;rw [hqv] at hfm;refine ae (N:=51) (l:=[.agg #[.bool false,.string a],.agg #[.bool false,.string b]]) Tryz.func125 rfl rfl (by simp) ?_;refine xQ ?_;intro b2 w2 hh b3 w3 hh b4 w4 hh b5 w5 hh;refine aZ hh (hdv _) rfl ?_;intro w14 hh;refine bX ?_;intro ws hh ws hh;replace hh:=show Hp w (.blk b5 31 [.bool false,.string (sN r)] (0,0)::.blk b4 31 [.bool false,.string (sN q)] (0,0)::_) _ from hh;refine aj ?_;refine q8 bq.out rfl rfl abr ?_;refine aj ?_;exact ZU
 |true=>
  have e3:iv true a= -(bN a:Int):=by unfold iv;rw [abx rfl]
  by_cases hr0:r=0
  ·have hemp:sN r=ByteArray.mk #[]:=by rw [hr0,kG]
   have q1:=wM (iv true a) (bN b) (-(q:Int)) 0 (by rw [e3,←hdm',hr0,aew];omega) abq abq;rw [q1];have hng:=fun w1=>jT false (sN q) w1;have hfm:=fun w1=>ji (iN (-(q:Int))) (iM (-(q:Int))) w1;rw [hqv] at hng;rw [ee] at hfm;refine ae (N:=51) (l:=[.agg #[.bool true,.string a],.agg #[.bool false,.string b]]) Tryz.func125 rfl rfl (by simp) ?_;refine xQ ?_;intro b2 w2 hh b3 w3 hh b4 w4 hh b5 w5 hh;refine aZ hh (hdv _) rfl ?_;intro w14 hh;refine bX ?_;intro ws hh ws hh;replace hh:=show Hp w (.blk b5 31 [.bool false,.string (sN r)] (0,0)::.blk b4 31 [.bool false,.string (sN q)] (0,0)::_) _ from hh;refine aj ?_
   (first|refine jr rfl rfl (by first|rfl|assumption|decide) abr ?_|refine jm rfl rfl (by first|assumption|decide) abr ?_)
   refine aj ?_;refine q8 bq.out rfl rfl abr ?_;refine aj ?_;refine aZ hh (hng _) rfl ?_;intro w47 hh;refine bT ?_;intro ws hh;exact ZU
  ·have hemp:¬sN r=ByteArray.mk #[]:=fun h=>hr0 (GB (h.trans kG.symm));have q1:=wM (iv true a) (bN b) (-((q:Int)+1)) ((bN b:Int)-(r:Int)) (by rw [e3,←hdm',aew,Int.mul_add];omega) abq abq;rw [q1];have hqz:(sN q).size≤10000000:=by rw [kf,←hq];have:=cW (acB (adM (bN a) (bN b)) (cw (bN a)));omega
   have hrz:(sN r).size≤10000000:=by rw [kf,←hr];have:=cW (acB (Nat.mod_le (bN a) (bN b)) (cw (bN a)));omega
   have e1:([IR.mk false (sN q),iR 1].map IR.v).sum=(q:Int)+1:=by
    simp only [ab8,acF,aeK,List.sum_nil,V4];simp only [IR.v,hqv];omega
   have hof:=fun w1=>mm 1 w1 abr abr;have had:=fun A w1 h1=>q7 A 2 2 [IR.mk false (sN q),iR 1] w1 h1 abr (by intro x hx;rcases abO.1 hx with rfl|hx;exact (show (sN q).size≤100000000 by omega);rw [abX.1 hx];exact (by decide+kernel));rw [e1] at had;have hsb:=fun w1=>rf false false b (sN r) w1 abq abq;have hng:=fun w1=>jT (iN ((q:Int)+1)) (iM ((q:Int)+1)) w1;rw [ee] at hng;have hfm:=fun w1=>ji (iN (-((q:Int)+1))) (iM (-((q:Int)+1))) w1;rw [ee] at hfm;refine ae (N:=51) (l:=[.agg #[.bool true,.string a],.agg #[.bool false,.string b]]) Tryz.func125 rfl rfl (by simp) ?_;refine xQ ?_;intro b2 w2 hh b3 w3 hh b4 w4 hh b5 w5 hh;refine aZ hh (hdv _) rfl ?_;intro w14 hh;refine bX ?_;intro ws hh ws hh;replace hh:=show Hp w (.blk b5 31 [.bool false,.string (sN r)] (0,0)::.blk b4 31 [.bool false,.string (sN q)] (0,0)::_) _ from hh;refine aj ?_
   (first|refine jr rfl rfl (by first|rfl|assumption|decide) abr ?_|refine jm rfl rfl (by first|assumption|decide) abr ?_)
   refine aj ?_;refine aC 2 [[(4,none)],[]] [(1,33),(0,32)] hh mixed abt ?_;refine da 1 [_,_] ?_;refine dC (fun _ hj=>hof _) ?_;refine av ?_;intro f W hJ hV;have hb_6:=hJ.bl;obtain ⟨v33,v32,_⟩:=hV;replace hh:=hJ.hp;refine ay (aQ (aa v33 (aa v32 aw))) ?_;dsimp only [bA];clear hJ;refine zO ?_;intro b34 w34 hh;refine aZ hh (had _ _ (hh.ao (i:=0) rfl)) rfl ?_;intro w35 hh;refine bT ?_;intro ws hh;refine aZ hh (hsb _) rfl ?_;intro w40 hh;refine bT ?_;intro ws hh;refine q8 bq.out rfl rfl abr ?_;refine aj ?_;refine aZ hh (hng _) rfl ?_;intro w47 hh;refine bT ?_;intro ws hh;refine Ut ?_;refine da 2 [_,_] ?_;refine dC (fun _ hj=>hfm _) ?_;refine da 1 [_,_] ?_;refine av ?_;intro p_ hp_;simp only [abO,acS,or_false] at hp_
   rcases hp_ with rfl|rfl
   ·intro f W hJ hV;have hb_10:=hJ.bl;obtain ⟨v49,v48,_⟩:=hV;simp only [gD];have e48:f 0=_:=v48;rw [e48];have e49:f 1=_:=v49;rw [e49];replace hh:=hJ.hp;clear e48 e49 hJ;refine gE hh 2 [_,_] ?_;intro ws hh;replace hh:Hp _ (_::_::.blk _ _ [_,_] _::_) _:=hh;refine dO ?_;refine eO (i:=2) abt rfl ?_;refine m9 hh 1 [_,_] ?_;exact XN
   ·intro f W hJ hV;have hb_10:=hJ.bl;obtain ⟨v50,v49,v48,_⟩:=hV;simp only [gD];have e48:f 0=_:=v48;rw [e48];have e49:f 1=_:=v49;rw [e49];have e50:f 2=_:=v50;rw [e50];replace hh:=hJ.hp;clear e48 e49 e50 hJ;refine gE hh 2 [_,_] ?_;intro ws hh;replace hh:Hp _ (_::_::.blk _ _ [_,_] _::_) _:=hh;exact XN
def wL (a b:NR) (p:Int):Int:=if 0≤a.e-b.e+p then a.i*2^(a.e-b.e+p).toNat else a.i
def wN (a b:NR) (p:Int):Int:=if 0≤a.e-b.e+p then b.i else b.i*2^(-(a.e-b.e+p)).toNat
def Hn (a b:NR) (p:Int):Int:=if wN a b p<0 then -wL a b p / -wN a b p else wL a b p/wN a b p
def Fq (x y:Dyadic) (p:Int):Dyadic:=Dyadic.ofIntWithPrec (Hn (nR x) (nR y) p) p
theorem F6 (i j p:Int):Dyadic.ofIntWithPrec i p≤Dyadic.ofIntWithPrec j p↔i≤j:=by
 have h:=nT j i p;constructor
 ·intro h1;have:¬Dyadic.ofIntWithPrec j p<Dyadic.ofIntWithPrec i p:=by grind
  rw [h] at this;omega
 ·intro h1;have:¬Dyadic.ofIntWithPrec j p<Dyadic.ofIntWithPrec i p:=by rw [h];omega
  grind
theorem tC (x y:Dyadic) (p:Int):∃K:Int,x=Dyadic.ofIntWithPrec (wL (nR x) (nR y) p) (p+K)∧y=Dyadic.ofIntWithPrec (wN (nR x) (nR y) p) K:=by
 have hx:=a6 x;have hy:=a6 y;unfold NR.d at hx hy;generalize nR x=a at*;generalize nR y=b at*;subst hx hy;unfold wL wN;by_cases h:0≤a.e-b.e+p
 ·rw [abx h,abx h];exact ⟨-b.e,jh _ abq,rfl⟩
 ·rw [abw h,abw h];exact ⟨-a.e-p,acm _ abq,jh _ abq⟩
theorem HC {x y:Dyadic} (p:Int) (hy:0<y):Fq x y p*y≤x:=by
 obtain ⟨K,h1,h2⟩:=tC x y p;unfold Fq Hn;generalize wL (nR x) (nR y) p=M at*;generalize wN (nR x) (nR y) p=D at*;have hD:0<D:=by
  rw [h2,←ik K,nT] at hy;exact hy
 rw [abw abq,h1,h2,pV,F6];exact Int.ediv_mul_le M abq
theorem HO {x y:Dyadic} (p:Int) (hy:y<0):x≤Fq x y p*y:=by
 obtain ⟨K,h1,h2⟩:=tC x y p;unfold Fq Hn;generalize wL (nR x) (nR y) p=M at*;generalize wN (nR x) (nR y) p=D at*;have hD:D<0:=by
  rw [h2,←ik K,nT] at hy;exact hy
 rw [abx hD,h1,h2,pV,F6];have h3:=Int.ediv_mul_le (-M) (b:= -D) abq;rw [aew] at h3;omega
theorem K1 {ro:Mode}{Q:Kq}{a c:Code} (mods:List Nat) (s0 s1:Nat) (J:Value→Value→World→Prop) (hc:WC ro P N a (dV (fun ρ2 w2=>J (ρ2 s0) (ρ2 s1) w2∧im mods ρ2 ρ) Q) ρ w) (hn:∀ρ' v0 v1 w',J v0 v1 w'→WC ro P N c Q (cg (cg (mask mods ρ' ρ) s0 v0) s1 v1) w'):WC ro P N (.seq a c) Q ρ w:=
 bO (hc.mono fun e ρ2 w2 hq=>by
  cases e with
  |normal=>
   have:=hn ρ2 (ρ2 s0) (ρ2 s1) w2 hq.1;rwa [iD hq.2,fi,fi] at this
  |_=>exact hq)
theorem jZ (z:Int) (k:Nat):bf (z*2^k).natAbs≤bf z.natAbs+k:=by
 rw [adu,ad3];exact iB _ _
theorem EJ (s:Bool) (a:ByteArray) (d:Nat) (h:a.size≤n):(iM (iv s a/(d:Int))).size≤n:=by
 have h1:=hQ s a;have h3:bf (iv s a/(d:Int)).natAbs≤bf (iv s a).natAbs:=cW (acB (aeA _ _) (cw _));rw [dn];omega
theorem UX {x y:Dyadic}{p:Int} (h0:y≠0):wN (nR x) (nR y) p≠0:=fun h=>by
 obtain ⟨K,_,h2⟩:=tC x y p;rw [h,ik] at h2;exact h0 h2
theorem ug (x y:Dyadic) (p:Int) (w:World) (hT:dq w) (hx:(nR x).ok) (hy:(nR y).ok) (h0:y≠0) (hp1: -1000≤p) (hp2:p≤1000):
  Calls Tryz.prog 76 #[.agg #[.bool (nR x).neg,.string (nR x).aO,.int .i64 (nR x).e],.agg #[.bool (nR y).neg,.string (nR y).aO,.int .i64 (nR y).e],.int .i64 p] w fun r w'=>r=.returned (.agg #[.bool (nR (Fq x y p)).neg,.string (nR (Fq x y p)).aO,.int .i64 (nR (Fq x y p)).e])∧Below w.heap.size w w':=by
 have hh:=Hp.start w;have hD0:=UX (x:=x) (p:=p) h0;unfold Fq;have ba:=hQ (nR x).neg (nR x).aO;have bb:=hQ (nR y).neg (nR y).aO;obtain ⟨a1,a2,a3⟩:=hx;obtain ⟨c1,c2,c3⟩:=hy;generalize nR x=a at*;generalize nR y=b at*;obtain ⟨n,hn⟩:∃n,n=a.e-b.e+p:=⟨_,rfl⟩;have hsa:=fun w1 hT1=>kM a.neg a.aO n w1 hT1 abq abq abq;have hsb:=fun w1 hT1=>kM b.neg b.aO (-n) w1 hT1 abq abq abq;refine ae (N:=51) (l:=[.agg #[.bool a.neg,.string a.aO,.int .i64 a.e],.agg #[.bool b.neg,.string b.aO,.int .i64 b.e],.int .i64 p]) Tryz.func76 rfl rfl (by simp) ?_;refine sr ?_;refine yD hh [_,_,_] ?_;intro b3 w3 hh;refine yD hh [_,_,_] ?_;intro b4 w4 hh;refine yU hh ?_;intro b6 w6 hh;refine aJ (sr (tq ?_));refine p8 hh 2 ?_;refine tq ?_;refine p8 hh 1 ?_;refine qy (mI ?_);refine nC (aI (aJ ?_));rw [←hn];refine K1 [8,9,20,21,22,23] 8 9
  (fun u v w'=>∃b8 b9,u=.pointer (some ⟨b8,0,none⟩)∧v=.pointer (some ⟨b9,0,none⟩)∧Hp w [.blk b9 31 [.bool b.neg,.string b.aO] (0,0),.blk b8 31 [.bool a.neg,.string a.aO] (0,0),.blk b6 33 [.bool false,.string (ByteArray.mk #[]),.int .i64 0] (0,0)] w') ?_ ?_
 ·refine Gy [4,5] [2,3] [0,1,0,4,0,0,51,127] 6 [[(3,none)],[(20,some 0)],[(4,none)],[(22,some 2)],[],[]] [(5,9),(4,8),(3,23),(2,22),(1,21),(0,20)] [([],3,[(5,9),(4,8),(1,21),(0,20)]),([2],2,[(5,9),(4,8),(2,22),(1,21),(0,20)]),([2,3],1,[(5,9),(4,8),(3,23),(2,22),(1,21),(0,20)])] hh mixed abt abt abr (jQ rfl az.out (jQ rfl az.out dx)) rfl ?_;refine dw ?_;refine da 2 [_,_] ?_;refine dw ?_;refine da 1 [_,_] ?_;refine aW (i:=4) (cd _ 31 _) cd.ext (fun ρ1 w1 hj hR=>iP az.out hj.bl (fun v w2 h hb=>⟨hb,h⟩)) ?_;refine aW (i:=5) (cd _ 31 _) cd.ext (fun ρ1 w1 hj hR=>iP az.out hj.bl (fun v w2 h hb=>⟨hb,h⟩)) ?_;refine av ?_;intro p_ hp_;simp only [abO,acS,or_false] at hp_
  rcases hp_ with rfl|rfl|rfl
  ·intro f W hJ hV hD;have hb_2:=hJ.bl;obtain ⟨v9,v8,v21,v20,_⟩:=hV;simp only [gD];have e20:f 0=_:=v20;rw [e20];have e21:f 1=_:=v21;rw [e21];obtain ⟨b8,e8,hl8,hc8⟩:cd _ _ _ (f 4) W:=v8;obtain ⟨b9,e9,hl9,hc9⟩:cd _ _ _ (f 5) W:=v9;have hne:=BH (hD 4 abr 5 abr abr abr abr) e8 e9;replace hh:=hJ.AY hh hl8 hc8 hl9 hc9 hne;clear hD hne;rw [e8,e9];clear e20 e21 e8 e9 hJ;refine gE hh 1 [_,_] ?_;intro ws hh;replace hh:Hp _ (_::.blk _ _ [_,_] _::_) _:=hh;refine dO ?_;refine eO (i:=2) abt rfl ?_;refine tq ?_;exact Td
  ·intro f W hJ hV hD;have hb_2:=hJ.bl;obtain ⟨v9,v8,v22,v21,v20,_⟩:=hV;simp only [gD];have e20:f 0=_:=v20;rw [e20];have e21:f 1=_:=v21;rw [e21];have e22:f 2=_:=v22;rw [e22];obtain ⟨b8,e8,hl8,hc8⟩:cd _ _ _ (f 4) W:=v8;obtain ⟨b9,e9,hl9,hc9⟩:cd _ _ _ (f 5) W:=v9;have hne:=BH (hD 4 abr 5 abr abr abr abr) e8 e9;replace hh:=hJ.AY hh hl8 hc8 hl9 hc9 hne;clear hD hne;rw [e8,e9];clear e20 e21 e22 e8 e9 hJ;refine gE hh 1 [_,_] ?_;intro ws hh;replace hh:Hp _ (_::.blk _ _ [_,_] _::_) _:=hh;exact Td
  ·intro f W hJ hV hD;have hb_2:=hJ.bl;obtain ⟨v9,v8,v23,v22,v21,v20,_⟩:=hV;simp only [gD];have e20:f 0=_:=v20;rw [e20];have e21:f 1=_:=v21;rw [e21];have e22:f 2=_:=v22;rw [e22];have e23:f 3=_:=v23;rw [e23];obtain ⟨b8,e8,hl8,hc8⟩:cd _ _ _ (f 4) W:=v8;obtain ⟨b9,e9,hl9,hc9⟩:cd _ _ _ (f 5) W:=v9;have hne:=BH (hD 4 abr 5 abr abr abr abr) e8 e9;replace hh:=hJ.AY hh hl8 hc8 hl9 hc9 hne;clear hD hne;rw [e8,e9];clear e20 e21 e22 e23 e8 e9 hJ;refine gE hh 1 [_,_] ?_;intro ws hh;replace hh:Hp _ (_::.blk _ _ [_,_] _::_) _:=hh;exact Yp
 ·rintro ρ' _ _ w' ⟨b8,b9,rfl,rfl,hh⟩;refine pI [24,25,26,27,28,29,30,31,32]
   (fun w'=>∃s1 m1 s2 m2,Hp w [.blk b9 31 [.bool s2,.string m2] (0,0),.blk b8 31 [.bool s1,.string m1] (0,0),.blk b6 33 [.bool false,.string (ByteArray.mk #[]),.int .i64 0] (0,0)] w'∧iv s1 m1=wL a b p∧iv s2 m2=wN a b p∧m1.size≤9000000∧m2.size≤9000000) ?_ ?_
  ·by_cases h0:0≤n
   ·refine aj ?_;refine aZ hh (hsa _ (hT.ext hh.below)) rfl ?_;intro w28 hh;refine bT ?_;intro ws hh;refine ⟨⟨_,_,_,_,hh, ?_, ?_, ?_, ?_⟩, ?_⟩
    ·rw [ee];unfold wL Cp;rw [←hn,abx h0,abx h0];rfl
    ·unfold wN;rw [←hn,abx h0];rfl
    ·rw [dn,Cp,abx h0];have:=jZ (iv a.neg a.aO) n.toNat;omega
    ·omega
    ·repeat refine cV rfl ?_
     exact fun _ _=>rfl
   ·refine aj ?_;refine aZ hh (hsb _ (hT.ext hh.below)) rfl ?_;intro w32 hh;refine bT ?_;intro ws hh;refine ⟨⟨_,_,_,_,hh, ?_, ?_, ?_, ?_⟩, ?_⟩
    ·unfold wL;rw [←hn,abw h0];rfl
    ·rw [ee];unfold wN Cp;rw [←hn,abw h0,abx abq];rfl
    ·omega
    ·rw [dn,Cp,abx abq];have:=jZ (iv b.neg b.aO) (-n).toNat;omega
    ·repeat refine cV rfl ?_
     exact fun _ _=>rfl
  ·rintro ρ' w' ⟨s1,m1,s2,m2,hh,e1,e2,z1,z2⟩;rw [←e2] at hD0;unfold Hn;rw [←e1,←e2];refine pI [33,34,35,36,37,38,39]
    (fun w'=>∃s1' m1' m2',Hp w [.blk b9 31 [.bool false,.string m2'] (0,0),.blk b8 31 [.bool s1',.string m1'] (0,0),.blk b6 33 [.bool false,.string (ByteArray.mk #[]),.int .i64 0] (0,0)] w'∧(if iv s2 m2<0 then -iv s1 m1 / -iv s2 m2 else iv s1 m1/iv s2 m2)=iv s1' m1'/bN m2'∧bN m2'≠0∧m1'.size≤9000000∧m2'.size≤9000000) ?_ ?_
   ·by_cases hD:iv s2 m2<0
    ·have hs:(iv s2 m2).sign= -1:=adb hD;have hng:=fun w1=>jT s1 m1 w1;have hng2:=fun w1=>jT s2 m2 w1;have ef:iN (-(iv s2 m2))=false:=by unfold iN;exact abR abq
     have eb:(bN (iM (-(iv s2 m2))):Int)= -(iv s2 m2):=by
      have:=ee (-(iv s2 m2));rw [ef] at this;exact this
     rw [ef] at hng2;refine aj ?_;refine aZ hh (jt s2 m2 _) rfl ?_;intro w34 hh;rw [hs];refine aj ?_;refine aC 3 [[(8,none)],[(36,some 0)],[(9,none)]] [(2,38),(1,37),(0,36)] hh mixed abt ?_;refine da 1 [_,_] ?_;refine dC (fun _ hj=>hng _) ?_;refine da 0 [_,_] ?_;refine av ?_;intro f W hJ hV;have hb_7:=hJ.bl;obtain ⟨v38,v37,v36,_⟩:=hV;replace hh:=hJ.hp;refine ay (aQ (aa v38 (aa v37 (aa v36 aw)))) ?_;dsimp only [bA];clear hJ;refine aZ hh (hng2 _) rfl ?_;intro w39 hh;refine bX ?_;intro ws hh ws hh;refine ⟨⟨_,_,_,hh, ?_, ?_, ?_, ?_⟩, ?_⟩
     ·rw [abx hD,ee,eb]
     ·omega
     ·exact abW (l3 _ _) z1
     ·exact abW (l3 _ _) z2
     ·repeat refine cV rfl ?_
      exact fun _ _=>rfl
    ·have hp:0<iv s2 m2:=abq;have hs:(iv s2 m2).sign=1:=adi hp
     cases s2 with
     |true=>unfold iv at hp;rw [abx rfl] at hp;omega
     |false=>
      have eb:iv false m2=(bN m2:Int):=rfl;refine aj ?_;refine aZ hh (jt false m2 _) rfl ?_;intro w34 hh;rw [hs];refine aj ?_;refine ⟨⟨_,_,_,hh, ?_, ?_, ?_, ?_⟩, ?_⟩
      ·rw [abw hD,eb]
      ·omega
      ·exact z1
      ·exact z2
      ·repeat refine cV rfl ?_
       exact fun _ _=>rfl
   ·rintro ρ' w' ⟨s3,m3,m4,hh,e3,hb0,z3,z4⟩;rw [e3];refine aj ?_;refine au (F5 s3 m3 m4 _ abq abq hb0) ak.out rfl abr ?_;rintro e_ w43 ⟨x,y,rfl,hb_⟩;refine ⟨_,rfl, ?_⟩;replace hh:=hh.ext hb_;refine xQ ?_;intro b10 w10 hh b11 w11 hh ws hh ws hh;have hq:(iM (iv s3 m3/bN m4)).size≤9000000:=EJ s3 m3 _ z3;refine aZ hh (fU (iN (iv s3 m3/bN m4)) (iM (iv s3 m3/bN m4)) (-p) _ (hT.hp hh) abq abq abq) rfl ?_;intro w50 hh;refine bT ?_;intro ws hh;refine Kt (bI rfl (bJ (vs:=[_,_,_]) az.out (hh.aE (i:=4) (n:=3) rfl rfl) rfl) cR) ?_;exact ⟨by rw [ee,Int.neg_neg],hh.below⟩
def KI (x y:Dyadic) (p:Int):SR:=⟨nR (Fq x y p),nR (-Fq (-x) y p)⟩
theorem KM (a b:NR) (p:Int) (w:World) (hT:dq w) (ha:a.ok) (hb:b.ok) (hx:(nR a.d).ok) (hx':(nR (-a.d)).ok) (hy:(nR b.d).ok) (h0:b.d≠0) (hq:(nR (Fq (-a.d) b.d p)).ok) (hp1: -1000≤p) (hp2:p≤1000):
  Calls Tryz.prog 35 #[.agg #[.bool a.neg,.string a.aO,.int .i64 a.e],.agg #[.bool b.neg,.string b.aO,.int .i64 b.e],.int .i64 p] w fun r w'=>r=.returned (.tuple #[.agg (SR.cells (KI a.d b.d p)).toArray,.int .i64 0])∧Below w.heap.size w w':=by
 have hh:=Hp.start w;obtain ⟨a1,a2,a3⟩:=ha;obtain ⟨c1,c2,c3⟩:=hb;have ht:=fun w1 hT1=>dK a w1 hT1 abq abq abq;have ht2:=fun w1 hT1=>dK b w1 hT1 abq abq abq;have hs0:¬(nR b.d).i.sign=0:=fun h=>by
  rw [NR.sign,a6] at h;have h1:=(vd b.d 0);have h2:=(rJ b.d 0);rw [h] at h1 h2;have h3:¬b.d<0:=fun h=>absurd (h1.2 h) abr;have h4:¬0<b.d:=fun h=>absurd (h2.2 h) abr;exact h0 (by grind)
 have hn1:=fun w1 hT1=>j3 (nR a.d) w1 hT1 (by have:=hx.1;omega) (by have:=hx.2.1;omega) (by have:=hx.2.2;omega);have hn2:=fun w1 hT1=>j3 (nR (Fq (-a.d) b.d p)) w1 hT1 (by have:=hq.1;omega) (by have:=hq.2.1;omega) (by have:=hq.2.2;omega);rw [a6] at hn1 hn2;have hl1:=fun w1 hT1=>ug a.d b.d p w1 hT1 hx hy h0 hp1 hp2;have hl2:=fun w1 hT1=>ug (-a.d) b.d p w1 hT1 hx' hy h0 hp1 hp2;refine ae (N:=27) (l:=[.agg #[.bool a.neg,.string a.aO,.int .i64 a.e],.agg #[.bool b.neg,.string b.aO,.int .i64 b.e],.int .i64 p]) Tryz.func35 rfl rfl (by simp) ?_;refine lK ?_;intro b3 w3 hh b4 w4 hh b6 w6 hh;refine aC 3 [[(3,none)],[(8,some 0)],[(4,none)]] [(2,10),(1,9),(0,8)] hh mixed abt ?_;refine da 2 [_,_,_] ?_;refine dC (fun _ hj=>ht _ (hT.hp hj.hp)) ?_;refine da 1 [_,_,_] ?_;refine av ?_;intro f W hJ hV;have hb_1:=hJ.bl;obtain ⟨v10,v9,v8,_⟩:=hV;replace hh:=hJ.hp;refine ay (aQ (aa v10 (aa v9 (aa v8 aw)))) ?_;dsimp only [bA];clear hJ;refine aZ hh (ht2 _ (hT.hp hh)) rfl ?_;intro w11 hh;refine bX ?_;intro ws hh ws hh;refine aZ hh (ct (nR b.d) _) rfl ?_;intro w13 hh;refine aj ?_
 refine aC 8 [[(3,none)],[(4,none)],[(2,none)],[(16,some 0),(17,some 1),(18,some 2)],[(3,none)],[(20,some 4)],[(4,none)],[(2,none)]] [(7,23),(6,22),(5,21),(4,20),(3,19),(2,18),(1,17),(0,16)] hh mixed abt ?_;refine da 2 [_,_,_] ?_;refine da 1 [_,_,_] ?_;refine dp ?_;refine dC (fun _ hj=>hl1 _ (hT.hp hj.hp)) ?_;refine da 2 [_,_,_] ?_;refine dC (fun _ hj=>hn1 _ (hT.hp hj.hp)) ?_;refine da 1 [_,_,_] ?_;refine dp ?_;refine av ?_;intro f W hJ hV;have hb_4:=hJ.bl;obtain ⟨v23,v22,v21,v20,v19,v18,v17,v16,_⟩:=hV;replace hh:=hJ.hp;refine ay (aQ (aa v23 (aa v22 (aa v21 (aa v20 (aa v19 (aa v18 (aa v17 (aa v16 aw))))))))) ?_;dsimp only [bA];clear hJ;refine aZ hh (hl2 _ (hT.hp hh)) rfl ?_;intro w24 hh;refine aZ hh (hn2 _ (hT.hp hh)) rfl ?_;intro w25 hh;refine bT ?_;intro ws hh;refine GD (bI rfl (bJ (vs:=[_,_,_,_,_,_]) az.out (hh.aE (i:=0) (n:=6) rfl rfl) rfl) (dQ (eL rfl) cR)) ?_;exact ⟨rfl,hh.below⟩
def qp (l:List SR):List NR:=l.flatMap fun s=>[s.lo,s.hi]
def kA (l:List SR):SR:=⟨nR (fW (fun x y=>decide (x<y)) ((qp l).map NR.d)),nR (fW (fun x y=>decide (y<x)) ((qp l).map NR.d))⟩
theorem yu (L:Option Addr) (n c:Nat) (l:List SR) (w:World) (hT:dq w) (hS:Sl w L n 6 (ar SR.cells l)) (hl:∀s∈l,s.ok) (hn:n≤100000):
  Calls Tryz.prog 36 #[.slice L n c] w fun r w'=>r=.returned (.agg (SR.cells (kA l)).toArray)∧Below w.heap.size w w':=by
 have hh:=Hp.start w;have hln:=hS.aX SR.len abr;have hof:=fun A c' w1 hT1 hS1=>wI A (2*n) c' (qp l) w1 hT1 hS1 (fun a ha=>by
  obtain ⟨s,hs,ha⟩:=ade.1 ha
  rcases abO.1 ha with rfl|ha
  ·exact (hl s hs).1
  ·rw [abX.1 ha];exact (hl s hs).2) abq
 refine ae (N:=22) (l:=[.slice L n c]) Tryz.func36 rfl rfl (by simp) ?_;refine bT ?_;intro b2 w2 hh;replace hh:=hh.cJ 33 3;refine bk [3,5,8,9,10,11,12,13,14,15,16,17,18,19] 3 8
  (fun v3 v w'=>∃(i c3:Nat) (A:Option Addr),i≤n∧v=.int .i64 i∧v3=.slice A (2*i) c3∧Hp w [.row A (2*i) c3 33 3 (ar NR.cells (qp (l.take i))),.blk b2 35 [.bool false,.string (ByteArray.mk #[]),.int .i64 0,.bool false,.string (ByteArray.mk #[]),.int .i64 0] (0,0)] w')
  (fun _ v _=>n-(intOf v).toNat) ?_ ?_
 ·exact ⟨0,0,none,abB _,rfl,rfl,hh⟩
 ·clear hh;rintro ρ' v3 v w' ⟨i,c3,A,hi,rfl,rfl,hh⟩;by_cases hlt:i<n
  ·obtain ⟨s,hs⟩:=ai (l:=l) (k:=i) abq;obtain ⟨ad,rfl,hr⟩:=hS.at_ abq;refine aj ?_;refine sG ?_;refine bX ?_;intro b5 w5 hh ws hh;refine qd ?_;intro b17 w17 hh;refine OW ?_;intro A18 c18 w18 hh;simp only [abK,ab9] at hh;replace hh:=hh.sub (acn _ _);refine aj ?_;replace hh:=hh.sub (abA _ (aby _ (aby _ abV)));refine ⟨⟨i+1,c18,A18,abq,rfl,rfl, ?_⟩,by show n-(i+1)<n-i;omega, ?_⟩
   ·rw [al hs,qp,ad9,bo];exact hh
   ·exact dI
  ·obtain rfl:i=n:=abq;rw [abG abq] at hh;refine aj ?_;refine aZ hh (hof _ _ _ (hT.hp hh) (hh.ao (i:=0) rfl)) rfl ?_;intro w21 hh;exact XF
def Fk (out:Int):List Int→Int
 |[]=>out
 |s::r=>if out=2∨out=s then Fk s r else 0
def tS (l:List NR):Int:=Fk 2 (l.map fun a=>a.i.sign)
theorem Cq (L:Option Addr) (n c:Nat) (l:List NR) (w:World) (hS:Sl w L n 3 (ar NR.cells l)) (hn:n≤1000000):
  Calls Tryz.prog 75 #[.slice L n c] w fun r w'=>r=.returned (.int .i64 (tS l))∧Below w.heap.size w w':=by
 have hh:=Hp.start w;have hln:=hS.aX NR.len abr;refine ae (N:=23) (l:=[.slice L n c]) Tryz.func75 rfl rfl (by simp) ?_;refine aj ?_;refine bk [2,3,5,6,9,10,11,12,13,14,15,16,17,18,19,20,21] 3 9
  (fun v3 v w'=>∃(i:Nat) (o:Int),i≤n∧v=.int .i64 i∧v3=.int .i64 o∧tS l=Fk o ((l.drop i).map fun a=>a.i.sign)∧ -2≤o∧o≤2∧Hp w [] w')
  (fun _ v _=>n-(intOf v).toNat) ?_ ?_
 ·exact ⟨0,2,abB _,rfl,rfl,rfl,abr,abr,hh⟩
 ·clear hh;rintro ρ' v3 v w' ⟨i,o,hi,rfl,rfl,hs0,ho1,ho2,hh⟩;by_cases hlt:i<n
  ·obtain ⟨a,ha⟩:=ai (l:=l) (k:=i) abq;obtain ⟨ad,rfl,hr⟩:=hS.at_ abq;rw [ady abq,(abM.1 ha).2,ab8,Fk] at hs0;have hb:=rj a.i;by_cases h2:o=2
   ·rw [abx (.inl h2)] at hs0;exact S9
   ·by_cases h3:o=a.i.sign
    ·rw [abx (.inr h3)] at hs0;exact S9
    ·rw [abw abq] at hs0;refine aj ?_;refine bF (vs:=[_,_,_]) az.out rfl ((hr.ext hh.below).recAt NR.len ha) rfl abr ?_;refine bX ?_;intro b5 w5 hh ws hh;refine aZ hh (ct a _) rfl ?_;intro w14 hh;generalize a.i.sign=g at*;refine aj ?_;exact ⟨by rw [hs0],hh.below⟩
  ·obtain rfl:i=n:=abq;rw [ae4 abq] at hs0;refine aj ?_;exact ⟨by rw [hs0];rfl,hh.below⟩
theorem tX (f:FX) (k:Nat) (w:World) (hT:dq w) (h:f.at_ w) (hl:f.jz k) (he:f.e=0):
  Calls Tryz.prog 34 #[.agg #[.slice f.A f.n f.a,.slice f.B f.m f.b]] w fun r w'=>r=.returned (.tuple #[.int .i64 (tS f.cs),.int .i64 0])∧Below w.heap.size w w':=by
 have hh:=Hp.start w;have hc:=fun w1 hT1 hb1=>pg f k w1 hT1 (h.ext hb1) hl;rw [he] at hc;refine ae (N:=13) (l:=[.agg #[.slice f.A f.n f.a,.slice f.B f.m f.b]]) Tryz.func34 rfl rfl (by simp) ?_;refine bT ?_;intro b1 w1 hh;refine Aq ?_;intro w6 hh;refine aj ?_;refine aZ hh (Cq f.B f.m f.b f.cs _ (h.nm.ext hh.below) (by have:=hl.ZO;omega)) rfl ?_;intro w12 hh;refine aj ?_;exact ⟨rfl,hh.below⟩
def sB (p:Int×Int):Bool:=decide (p.2<p.1∨127<p.2)
def Kk (ds es:List Int):Int:=if es.length≠ds.length then 1 else if (ds.zip es).any sB=true then 1 else if 4096<ah (es.map Int.toNat) then 3 else 0
def ix (a b:List Nat):List Nat:=List.zipWith (· - ·) a b
def oT (ns ts:List Nat) (xs:List Dyadic):List Dyadic:=yg ns (ix ts ns) xs ((yx (ix ts ns)).map nD)
theorem vz:∀{ns ts:List Nat},ns.length=ts.length→(∀(i n t:Nat),ns[i]?=some n→ts[i]?=some t→n≤t)→dX ns (ix ts ns)=ts
 |[],[],_,_=>rfl
 |[],_::_,h,_=>by simp at h
 |_::_,[],h,_=>by simp at h
 |n::ns,t::ts,h,h2=>by
  have h0:=h2 0 n t rfl rfl;have ih:=vz (ns:=ns) (ts:=ts) (by simpa using h) fun i a b ha hb=>h2 (i+1) a b ha hb;show (n+(t-n))::dX ns (ix ts ns)=_;rw [ih,show n+(t-n)=t by omega]
theorem pR:∀{a b:List Nat},a.length=b.length→(∀(i x y:Nat),a[i]?=some x→b[i]?=some y→x≤y)→ah a≤ah b
 |[],[],_,_=>abD _
 |[],_::_,h,_=>by simp at h
 |_::_,[],h,_=>by simp at h
 |x::a,y::b,h,h2=>by
  have h0:=h2 0 x y rfl rfl;rw [ah,ah];exact acR abq (pR (by simpa using h) fun i p q hp hq=>h2 (i+1) p q hp hq)
theorem rC {a b:List Nat}{i x y:Nat} (h1:a[i]?=some x) (h2:b[i]?=some y):(ix a b)[i]?=some (x-y):=by
 unfold ix;rw [adO,h1,h2]
theorem oN {a b:List Nat} (h:a.length=b.length):(ix a b).length=a.length:=by simp [ix,h]
def Wv (es ds:List Int):List Int:=List.zipWith (· - ·) es ds
theorem Wn {es ds:List Int}{i:Nat}{x y:Int} (h1:es[i]?=some x) (h2:ds[i]?=some y):(Wv es ds)[i]?=some (x-y):=by
 unfold Wv;rw [adO,h1,h2]
theorem HB:∀{ts ns:List Nat},ns.length=ts.length→(∀(i n t:Nat),ns[i]?=some n→ts[i]?=some t→n≤t)→Wv (a0 ts) (a0 ns)=a0 (ix ts ns)
 |[],[],_,_=>rfl
 |[],_::_,h,_=>by simp at h
 |_::_,[],h,_=>by simp at h
 |t::ts,n::ns,h,h2=>by
  have h0:=h2 0 n t rfl rfl;have ih:=HB (ns:=ns) (ts:=ts) (by simpa using h) fun i a b ha hb=>h2 (i+1) a b ha hb;show ((t:Int)-(n:Int))::Wv (a0 ts) (a0 ns)=((t-n:Nat):Int)::a0 (ix ts ns);rw [ih,show (t:Int)-(n:Int)=((t-n:Nat):Int) by omega]
theorem Ve {ns:List Nat}{es:List Int} (hl:es.length=(a0 ns).length) (hb:((a0 ns).zip es).any sB=false):∃ts:List Nat,es=a0 ts∧ns.length=ts.length∧(∀(i n t:Nat),ns[i]?=some n→ts[i]?=some t→n≤t)∧∀t∈ts,t≤127:=by
 have key:∀(i:Nat) (d:Int),es[i]?=some d→∃n,ns[i]?=some n∧(n:Int)≤d∧d≤127:=fun i d hd=>by
  have hi:=(abM.1 hd).1;rw [hl,bZ] at hi;obtain ⟨n,hn⟩:=ai hi;have hz:((n:Int),d)∈(a0 ns).zip es:=abz (i:=i) (by rw [aeL];exact ⟨eA hn,hd⟩);have:=ac9.1 hb _ hz;simp [sB] at this;exact ⟨n,hn,abq,abq⟩
 refine ⟨es.map Int.toNat, ?_,by rw [abH,hl,bZ],fun i n t hn ht=> ?_,fun t ht=> ?_⟩
 ·unfold a0;rw [ack];refine (aeH es).symm.trans (acT fun d hd=> ?_);obtain ⟨i,hi⟩:=acG.1 hd;obtain ⟨n,_,h1,_⟩:=key i d hi;show d=((d.toNat:Nat):Int);omega
 ·rw [abI] at ht
  cases hd:es[i]? with
  |none=>rw [hd] at ht;cases ht
  |some d=>
   rw [hd] at ht;obtain rfl:d.toNat=t:=by simpa using ht
   obtain ⟨n',hn',h1,_⟩:=key i d hd;rw [hn] at hn';obtain rfl:=aca hn';omega
 ·obtain ⟨d,hd,rfl⟩:=abL.1 ht;obtain ⟨i,hi⟩:=acG.1 hd;obtain ⟨n,_,h1,h2⟩:=key i d hi;omega
theorem j9 (ts:List Nat):(a0 ts).map Int.toNat=ts:=by
 unfold a0;rw [ack];exact aeH ts
def Ws (e:Int):Ending:=.returned (.tuple #[.agg #[.slice none 0 0,.slice none 0 0],.int .i64 e])
theorem BN {ds es:List Int}{i:Nat}{d e:Int} (h:((ds.take i).zip (es.take i)).any sB=false) (hd:ds[i]?=some d) (he:es[i]?=some e) (hb:sB (d,e)=false):((ds.take (i+1)).zip (es.take (i+1))).any sB=false:=by
 rw [al hd,al he,List.zip_append (by have:=(abM.1 hd).1;have:=(abM.1 he).1;simp;omega),aeg,h];show (false||([(d,e)].any sB))=false;rw [aef,hb]
 rfl
theorem AV (f:FX) (E:Option Addr) (q cE:Nat) (es:List Int) (k:Nat) (w:World) (hT:dq w) (hf:f.at_ w) (hl:f.jz k) (hE:Sl w E q 1 (bh es)) (hq:q≤1000) (hk:k≤90000)
  (hM:f.e=0→Kk f.ds es=0→ah (es.map Int.toNat)*ah (f.ds.map Int.toNat)≤1000000):
  Calls Tryz.prog 123 #[.agg #[.slice f.A f.n f.a,.slice f.B f.m f.b],.slice E q cE] w fun r w'=>((f.e≠0∧r=Ws f.e∨f.e=0∧Kk f.ds es≠0∧r=Ws (Kk f.ds es))∧Below w.heap.size w w')∨
   (f.e=0∧Kk f.ds es=0∧∃(A:Option Addr) (a:Nat) (B:Option Addr) (b:Nat),r=.returned (.tuple #[.agg #[.slice A q a,.slice B (ah (es.map Int.toNat)) b],.int .i64 0])∧Hp w [.row B (ah (es.map Int.toNat)) b 33 3 (ar NR.cells ((oT (f.ds.map Int.toNat) (es.map Int.toNat) (f.cs.map NR.d)).map nR)),.row A q a 3 1 (bh es)] w'):=by
 have hh:=Hp.start w;have hln:f.ds.length=f.n:=by have:=hf.dg.1;simpa [bh] using this
 have hlq:es.length=q:=by have:=hE.1;simpa [bh] using this
 have hlm:=hf.nm.aX NR.len abr;have hck:=fun w1 hT1 hb=>pg f k w1 hT1 (hf.ext hb) hl;have hn20:=hl.Xe;by_cases h0:f.e=0
 ·by_cases h1:q=f.n
  ·obtain ⟨ns,xs,hv,hxs⟩:=TG h0;refine NI ?_;refine bX ?_;intro b2 w2 hh b4 w4 hh;refine hU ?_;intro w11 hh;refine bX ?_;intro b7 w7 hh ws hh;replace hh:=hh.cJ 3 1;refine aH [5,8,9,26,27,28,29,30,31,32,33,34,35,36,37,38,39,40,41,42,43,44,45,46,47,48,49,50,51,52,53,54,55] 26
    (fun v w'=>∃(i c7:Nat) (A:Option Addr),i≤q∧v=.int .i64 i∧((f.ds.take i).zip (es.take i)).any sB=false∧Hp w [.row A i c7 3 1 (bh ((Wv es f.ds).take i)),.blk b7 25 [.slice A i c7,.slice none 0 0] (0,0),.blk b4 25 [.slice none 0 0,.slice none 0 0] (0,0),.blk b2 25 [.slice f.A f.n f.a,.slice f.B f.m f.b] (0,0)] w')
    (fun v _=>q-(intOf v).toNat) ?_ ?_
   ·exact ⟨0,0,none,abB _,rfl,rfl,hh⟩
   ·clear hh;rintro ρ' v w' ⟨i,c7,A,hi,rfl,hall,hh⟩;by_cases hlt:i<q
    ·obtain ⟨d,hd⟩:=ai (l:=f.ds) (k:=i) abq;obtain ⟨e,he⟩:=ai (l:=es) (k:=i) abq;have hgd:=cM hd;have hge:=cM he;have hde:=Wn he hd;obtain ⟨a1,hA1,s1⟩:=hf.dg.at_ abq;obtain ⟨a2,rfl,s2⟩:=hE.at_ abq;have hdn:0≤d∧d≤127:=by
      have hdeg:=hv.ZI;rw [hdeg] at hd;have hlow:=hv.low;obtain ⟨nn,hnn⟩:=ai (l:=ns) (k:=i) (by rw [←bZ,←hdeg,hln];omega);rw [eA hnn] at hd;have:=hlow nn (abz hnn);have:=aca hd;omega
     have hbad:sB (d,e)=true→Kk f.ds es=1:=fun hb=>by
      unfold Kk;rw [abw abq,abx];exact adg.2 ⟨(d,e),abz (i:=i) (by rw [aeL];exact ⟨hd,he⟩),hb⟩
     rw [hA1] at hh;by_cases h2:e<d
     ·have hr1:=hbad (by unfold sB;rw [abQ];exact .inl h2);exact WG
     ·by_cases h3:127<e
      ·have hr1:=hbad (by unfold sB;rw [abQ];exact .inr h3);exact WG
      ·refine aj ?_;refine bG az.out rfl ((s2.ext hh.below).vc (by assumption)) abr ?_;refine aj ?_;refine Ek ?_;refine aj ?_;refine aC 10 [[(7,none)],[(43,some 0)],[(9,none)],[(2,none)],[(46,some 3)],[(8,none)],[(47,some 4),(48,some 5)],[(49,some 6)],[(45,some 2),(50,some 7)],[(51,some 8)]] [(9,52),(8,51),(7,50),(6,49),(5,48),(4,47),(3,46),(2,45),(1,44),(0,43)] hh mixed abt ?_;refine dw ?_;refine fF 1 ?_;refine dp ?_;refine dw ?_;refine fF 3 ?_;refine dp ?_;refine mU (i) ?_;refine a8 (i:=7) (fun ρ1 w1 hj hR=>iF az.out (show ρ1 49=Value.pointer _ from hR.1) ((s1.ext hj.hp.below).vc (by assumption))) ?_;refine uS ?_;refine uW [_] ?_;refine av ?_;intro f W hJ hV;have hb_12:=hJ.bl;obtain ⟨v52,v51,v50,v49,v48,v47,v46,v45,v44,v43,_⟩:=hV;obtain ⟨A52,c52,e52,f52⟩:Rows _ _ _ (f 9) W:=v52;replace hh:=hJ.hp;refine ay (aQ (aa e52 (aa v51 (aa v50 (aa v49 (aa v48 (aa v47 (aa v46 (aa v45 (aa v44 (aa v43 aw))))))))))) ?_;dsimp only [bA];clear e52 hJ;refine bQ hh (i:=0) rfl rfl rfl (f52) bq.out az.out rfl abr (by first|rfl|exact cS _|exact cn _|exact bg _|exact bj NR.one _) abq abq abr ?_;intro A53 c53 w53 hh
       simp only [abK] at hh;refine bT ?_;intro ws hh;rw [←hA1] at hh;replace hh:=hh.sub (aby _ (aby _ (aby _ (aby _ abV))));refine ⟨⟨i+1,c53,A53,abq,rfl,BN hall hd he (by unfold sB;rw [abR];show ¬(e<d∨127<e);omega), ?_⟩,by show q-(i+1)<q-i;omega, ?_⟩
       ·rw [al hde,Ej];exact hh
       ·exact dI
    ·obtain rfl:i=q:=abq;rw [abG abq,abG abq] at hall;have hdeg:=hv.ZI;have hnum:=hv.num;have hlow:=hv.low;have hlen:=hv.len;have hfew:=hv.RZ;rw [hdeg] at hall hln;obtain ⟨ts,rfl,hlt2,hle,ht127⟩:=Ve (by rw [hln];omega) hall;have hnl:ns.length=f.n:=by rw [←bZ];exact hln
     have htn:(a0 ts).map Int.toNat=ts:=j9 ts;have hnn:f.ds.map Int.toNat=ns:=by rw [hdeg];exact j9 ns
     have hrz:Kk f.ds (a0 ts)=if 4096<ah ts then 3 else 0:=by
      unfold Kk;rw [hdeg,abw (by rw [bZ,bZ];omega),abw (by rw [hall];decide),htn]
     rw [htn,hnn] at hM;rw [htn,hnn,hrz,←hxs];rw [hrz] at hM;have hbig:=fun w1 hS1=>Gz E i cE ts w1 hS1 hq (fun d hd=>by have:=ht127 d hd;omega);have hany:ts.any (fun d=>decide (127<d))=false:=ac9.2 fun d hd=>by have:=ht127 d hd;simp;omega
     by_cases h4:4096<ah ts
     ·have hb1:Bw ts=true:=by unfold Bw;rw [abQ h4,Bool.or_true]
      rw [hb1] at hbig;rw [abx h4];refine aj ?_;refine aZ hh (hbig _ (hE.ext hh.below)) rfl ?_;intro w57 hh;refine bT ?_;intro ws hh;refine qg ?_;exact .inl ⟨.inr ⟨h0,abr,rfl⟩,hh.below⟩
     ·have hb1:Bw ts=false:=by unfold Bw;rw [hany,abR h4];rfl
      rw [hb1] at hbig;rw [abw h4] at hM;rw [abw h4];have hM2:=hM h0 rfl;have hsl:(ix ts ns).length=i:=by rw [oN abq,←bZ];exact hlq
      have hsub:∀d∈ix ts ns,d≤127:=fun d hd=>by
       obtain ⟨j,hj⟩:=acG.1 hd;have hj2:=(abM.1 hj).1;obtain ⟨x,hx⟩:=ai (l:=ts) (k:=j) (by rw [bZ] at hlq;omega);obtain ⟨y,hy⟩:=ai (l:=ns) (k:=j) abq;rw [rC hx hy] at hj;have:=ht127 x (abz hx);have:=aca hj;omega
      have hcs:ah (ix ts ns)≤ah ts:=pR (by rw [hsl,←bZ];exact hlq.symm) fun j x y hx hy=>by
       have hj2:=(abM.1 hx).1;obtain ⟨z,hz⟩:=ai (l:=ns) (k:=j) abq;rw [rC hy hz] at hx;have:=aca hx;omega
      have hadd:dX ns (ix ts ns)=ts:=vz hlt2 hle;have hdif:Wv (a0 ts) f.ds=a0 (ix ts ns):=by rw [hdeg];exact HB hlt2 hle
      have hwn:KP (ix ts ns)=((yx (ix ts ns)).map nD).map nR:=by unfold KP;rw [ack];rfl
      have hw12:(ix ts ns).length≤12:=abq;have hwz:∀y∈(yx (ix ts ns)).map nD,Sz 1600 y:=fun y hy=>by
       obtain ⟨x,hx,rfl⟩:=abL.1 hy;exact MP hx hw12 hsub
      have hxz:∀x∈xs,Sz k x:=fun x hx=>by
       rw [hxs] at hx;obtain ⟨c,hc,rfl⟩:=abL.1 hx;exact (hl.num c hc).2
      have hpair:ah (ix ts ns)*ah ns≤ah ts*ah ns:=acx _ hcs;have hfm:f.m=ah ns:=by rw [←hlm,hnum,abH,hlen]
      have htm:=fun w1 hT1 A B c3 c4 h1 h2 h3 h4'=>Bk f.A f.B A B i f.a f.b c3 c4 ns (ix ts ns) xs ((yx (ix ts ns)).map nD) k 1600 w1 hT1 h1 h2 h3 h4' abq hlow hsub (by rw [hadd];omega) abq hxz hwz abq;rw [hadd] at htm;have hdg:=hf.dg;have hnm:=hf.nm;rw [hdeg] at hdg;rw [hnum,hfm] at hnm;rw [abG (by rw [hdif,bZ];omega),hdif] at hh;rw [hfm] at hh;rw [show f.n=i by omega] at hh hdg;refine aj ?_;refine aZ hh (hbig _ (hE.ext hh.below)) rfl ?_;intro w57 hh;refine aj ?_;refine au (oP A i c7 (ix ts ns) _ (hT.hp hh) (hh.ao (i:=0) rfl) hw12 hsub abq) ak.out rfl abr ?_;rintro e_ w61 ⟨A61,c61,rfl,hown_,hb_⟩;refine ⟨_,rfl, ?_⟩;replace hh:=hh.aD (x:=.row _ _ _ _ _ _) hb_ hown_;rw [hwn] at hh;refine bT ?_;intro ws hh;refine au (htm _ (hT.hp hh) _ _ _ _ (hdg.ext hh.below) (hnm.ext hh.below) (hh.ao (i:=1) rfl) (hh.ao (i:=0) rfl)) ak.out rfl abr ?_;rintro e_ w65 ⟨Ar,cr,Br,br,rfl,h2⟩;refine ⟨_,rfl, ?_⟩;replace hh:=hh.join h2;clear h2;refine bT ?_;intro ws hh;refine GD (bI rfl (bJ (vs:=[_,_]) az.out (hh.aE (i:=5) (n:=2) rfl rfl) rfl) (dQ (eL rfl) cR)) ?_
      exact .inr ⟨h0,rfl,_,_,_,_,rfl,hh.sub (aby _ (aby _ (acA _)))⟩
  ·have hrz:Kk f.ds es=1:=by unfold Kk;rw [abx abq]
   refine NI ?_;refine bX ?_;intro b2 w2 hh b4 w4 hh;refine hU ?_;intro w11 hh;refine bT ?_;intro ws hh;refine zv ?_;exact .inl ⟨.inr ⟨h0,by rw [hrz];decide,by rw [hrz];rfl⟩,hh.below⟩
 ·refine NI ?_;refine bX ?_;intro b2 w2 hh b4 w4 hh;refine hU ?_;intro w11 hh;refine bT ?_;intro ws hh;refine zv ?_;exact .inl ⟨.inl ⟨h0,rfl⟩,hh.below⟩
def FX.jW (f:FX):HE:=.row f.B f.m f.b 33 3 (ar NR.cells f.cs)
def FX.jY (f:FX):HE:=.row f.A f.n f.a 3 1 (bh f.ds)
def JA:List FX→List HE
 |[]=>[]
 |f::fs=>f.jW::f.jY::JA fs
def iI (a b:List Nat):List Nat:=List.zipWith max a b
def maxD (fs:List FX):List Nat:=fs.foldl (fun a f=>iI a (f.ds.map Int.toNat)) ((fs.map fun f=>f.ds.map Int.toNat).headD [])
def cL (fs:List FX):Int:=if jI fs≠0 then jI fs else if 4096<ah (maxD fs) then 3 else 0
theorem vw {fs:List FX} (h:jI fs=0):fs≠[]∧(∀f∈fs,f.e=0)∧∀f∈fs,f.n=(fs.map FX.n).headD 0:=by
 unfold jI at h;exact WZ
theorem o4 {a b:List Nat} (h:a.length=b.length):(iI a b).length=a.length:=by simp [iI,h]
theorem BD {a b:List Nat}{i x y:Nat} (h1:a[i]?=some x) (h2:b[i]?=some y):(iI a b)[i]?=some (max x y):=by
 unfold iI;rw [adO,h1,h2]
theorem AE:∀(ls:List (List Nat)) (a:List Nat),(∀l∈ls,l.length=a.length)→(ls.foldl iI a).length=a.length∧(∀(i x y:Nat),a[i]?=some x→(ls.foldl iI a)[i]?=some y→x≤y)∧∀l∈ls,∀(i x y:Nat),l[i]?=some x→(ls.foldl iI a)[i]?=some y→x≤y
 |[],a,_=>⟨rfl,fun i x y h1 h2=>by have h3:a[i]?=some y:=h2;rw [h1] at h3;cases h3;exact abD _,fun _ h=>nomatch h⟩
 |l::ls,a,h=>by
  have hl:=h l abF;have h2:=o4 hl.symm;obtain ⟨h3,h4,h5⟩:=AE ls (iI a l) fun m hm=>by rw [h2];exact h m (abN _ hm)
  refine ⟨by rw [ad8,h3,h2],fun i x y hx hy=> ?_,fun m hm i x y hx hy=> ?_⟩
  ·have hi:=(abM.1 hx).1;obtain ⟨z,hz⟩:=ai (l:=l) (k:=i) abq;have:=h4 i (max x z) y (BD hx hz) hy;omega
  ·rcases abO.1 hm with rfl|hm
   ·have hi:=(abM.1 hx).1;obtain ⟨z,hz⟩:=ai (l:=a) (k:=i) abq;have:=h4 i (max z x) y (BD hz hx) hy;omega
   ·exact h5 m hm i x y hx hy
theorem B6 (B:Nat):∀(ls:List (List Nat)) (a:List Nat),(∀x∈a,x≤B)→(∀l∈ls,∀x∈l,x≤B)→∀x∈ls.foldl iI a,x≤B
 |[],_,h,_=>h
 |l::ls,a,h,h2=>B6 B ls (iI a l) (fun x hx=>by
   obtain ⟨i,hi⟩:=acG.1 hx;unfold iI at hi;rw [adO] at hi
   cases h3:a[i]? with
   |none=>rw [h3] at hi;cases hi
   |some p=>
    cases h4:l[i]? with
    |none=>rw [h3,h4] at hi;cases hi
    |some q=>
     rw [h3,h4] at hi;have h5:max p q=x:=by simpa using hi
     have:=h p (abz h3);have:=h2 l abF q (abz h4);omega) fun m hm=>h2 m (abN _ hm)
variable {j:Nat}
def FX.ns (f:FX):List Nat:=f.ds.map Int.toNat
theorem FX.fv {f:FX} (h:f.e=0):f.ds=a0 f.ns∧f.cs=(f.cs.map NR.d).map nR∧f.ns.length≤12∧(∀d∈f.ns,d≤127)∧f.cs.length=ah f.ns∧ah f.ns≤4096:=by
 obtain ⟨ns,xs,hv,hxs⟩:=TG h;obtain ⟨h1,h2,h3,h4,h5,h6⟩:=hv;have e:f.ns=ns:=by unfold FX.ns;rw [h1];exact j9 ns
 subst hxs;rw [e];exact ⟨h1,h2,h3,h4,by simpa using h5,h6⟩
structure Su (D:List Nat) (ys:List Dyadic) (g:FX):Prop where
 ds:g.ds=a0 D
 cs:g.cs=ys.map nR
 n:g.n=D.length
 m:g.m=ah D
def kz (D:List Nat) (f:FX):List Dyadic:=oT f.ns D (f.cs.map NR.d)
def vB (a b:List Nat) (j:Nat):List Nat:=(iI a b).take j++a.drop j
theorem Nq {a b:List Nat}{x y:Nat} (h:a.length=b.length) (hx:a[j]?=some x) (hy:b[j]?=some y):(a0 (vB a b j)).set j ((max x y:Nat):Int)=a0 (vB a b (j+1)):=by
 have hj:=(abM.1 hx).1;unfold vB;rw [gk hx,al (BD hx hy)];have hl:(a0 ((iI a b).take j)).length=j:=by rw [bZ,abP,o4 h];omega
 have e1:a0 ((iI a b).take j++x::a.drop (j+1))=a0 ((iI a b).take j)++(x:Int)::a0 (a.drop (j+1)):=by simp [a0]
 rw [e1,yc _ _ _ _ _ hl];simp [a0]
theorem Rg {a b:List Nat}{x:Nat} (h:a.length=b.length) (hx:a[j]?=some x):(vB a b j)[j]?=some x:=by
 have hj:=(abM.1 hx).1;have hl:((iI a b).take j).length=j:=by rw [abP,o4 h];omega
 unfold vB;exact Uy
theorem O4 {a b:List Nat} (h:a.length=b.length) (hj:j≤a.length):(vB a b j).length=a.length:=by
 unfold vB;rw [abJ,abP,o4 h,acJ];omega
theorem yE (L:Option Addr) (n c:Nat) (fs:List FX) (k:Nat) (w:World) (hT:dq w) (hL:Sl w L n 2 (ar FX.cells fs)) (hn:n≤1000) (hf:∀f∈fs,f.at_ w) (hl:∀f∈fs,f.jz k) (hm:∀f∈fs,f.m≤200) (hk:k≤90000):
  Calls Tryz.prog 74 #[.slice L n c] w fun r w'=>(cL fs≠0∧r=.returned (.tuple #[.slice none 0 0,.int .i64 (cL fs)])∧Below w.heap.size w w')∨
   (cL fs=0∧∃(A:Option Addr) (a:Nat) (gs:List FX),r=.returned (.tuple #[.slice A n a,.int .i64 0])∧gs.length=n∧(∀(i:Nat) (f g:FX),fs[i]?=some f→gs[i]?=some g→Su (maxD fs) (kz (maxD fs) f) g)∧Hp w (.row A n a 25 2 (ar FX.cells gs)::JA gs.reverse) w'):=by
 have hh:=Hp.start w;have hln:=hL.aX FX.len abr;have hlk:=fun w1 hT1 hb=>Em L n c fs k w1 hT1 (hL.ext hb) abq (fun f hm=>(hf f hm).ext hb) hl;unfold cL;by_cases h0:jI fs=0
 ·obtain ⟨hne,uQ,hnv⟩:=vw h0;obtain ⟨f0,h00⟩:=ai (l:=fs) (k:=0) (List.length_pos_iff.2 hne);have hm0:=abz h00;have hnn:∀f∈fs,f.n=f0.n:=fun f hm=>by
   rw [hnv f hm]
   rcases fs with _|⟨g,l⟩
   ·cases h00
   ·have:g=f0:=by simpa using h00
    rw [←this];rfl
  have hnsl:∀f∈fs,f.ns.length=f0.n:=fun f hm=>by
   have h1:=(hf f hm).dg.1;rw [cq] at h1;have h2:=hnn f hm;unfold FX.ns;rw [abH];omega
  have hlow:∀f∈fs,∀d∈f.ns,d≤127:=fun f hm=>(FX.fv (uQ f hm)).2.2.2.1;have hdsn:∀f∈fs,f.ds=a0 f.ns:=fun f hm=>(FX.fv (uQ f hm)).1;have h12:f0.n≤12:=by have:=(FX.fv (uQ f0 hm0)).2.2.1;rw [hnsl f0 hm0] at this;exact this
  have hDe:maxD fs=(fs.map FX.ns).foldl iI f0.ns:=by
   unfold maxD;rw [List.foldl_map];congr 1
   rcases fs with _|⟨g,l⟩
   ·cases h00
   ·have:g=f0:=by simpa using h00
    rw [←this];rfl
  obtain ⟨ad,rfl,hr⟩:=hL.at_ (by have:=(abM.1 h00).1;omega);have hn0:0<n:=by have:=(abM.1 h00).1;omega
  rw [abw abq];have hA0:=hnsl f0 hm0;have hF:=fun i=>AE ((fs.take i).map FX.ns) f0.ns fun l hl=>by
   obtain ⟨f,hf2,rfl⟩:=abL.1 hl;rw [hnsl f (adx hf2),hA0]
  refine ae (N:=71) (l:=[.slice (some ad) n c]) Tryz.func74 rfl rfl (by simp) ?_;refine aj ?_;refine zN ?_;intro w16 hh;refine aj ?_;refine bG az.out rfl (bL hh.below ((hr.recAt FX.len h00) 0 _ rfl)) abr ?_;refine au (nI f0.A f0.n f0.a f0.ds _ ((hf f0 hm0).dg.ext hh.below) (by have:=(hl f0 hm0).Xe;omega)) ak.out rfl abr ?_;rintro e_ w24 ⟨A24,c24,rfl,hown_,hb_⟩;refine ⟨_,rfl, ?_⟩;replace hh:=hh.aD (x:=.row _ _ _ _ _ _) hb_ hown_;refine aj ?_;rw [hdsn f0 hm0] at hh;refine aH [7,8,9,27,28,29,30,31,32,33,34,35,36,37,38,39,40,41,42,43,44,45,46,47,48,49] 27
   (fun v w'=>∃i:Nat,i≤n∧v=.int .i64 i∧Hp w [.row A24 f0.n c24 3 1 (bh (a0 (((fs.take i).map FX.ns).foldl iI f0.ns)))] w')
   (fun v _=>n-(intOf v).toNat) ?_ ?_
  ·exact ⟨0,abB _,rfl,hh⟩
  ·clear hh;rintro ρ' v w' ⟨i,hi,rfl,hh⟩;by_cases hlt:i<n
   ·obtain ⟨f,hx⟩:=ai (l:=fs) (k:=i) abq;have hmem:=abz hx;have hfold:((fs.take (i+1)).map FX.ns).foldl iI f0.ns=iI (((fs.take i).map FX.ns).foldl iI f0.ns) f.ns:=by rw [al hx,acM,aeJ];rfl
    have hal:=(hF i).1;generalize ((fs.take i).map FX.ns).foldl iI f0.ns=a at*;have hab:a.length=f.ns.length:=by rw [hal,hA0,hnsl f hmem]
    have hfd:=hdsn f hmem;have hfn:=hnn f hmem;have hfl:=hnsl f hmem;refine aj ?_;refine Ju ?_;refine bX ?_;intro b7 w7 hh ws hh;refine aH [8,9,34,35,36,37,38,39,40,41,42,43,44,45,46,47,48] 34
     (fun v w'=>∃j:Nat,j≤f0.n∧v=.int .i64 j∧Hp w [.blk b7 25 [.slice f.A f.n f.a,.slice f.B f.m f.b] (0,0),.row A24 f0.n c24 3 1 (bh (a0 (vB a f.ns j)))] w')
     (fun v _=>f0.n-(intOf v).toNat) ?_ ?_
    ·refine ⟨0,abB _,rfl, ?_⟩;show Hp w [_,.row A24 f0.n c24 3 1 (bh (a0 (List.take 0 _++List.drop 0 a)))] _;rw [adh,abC,aeb];exact hh
    ·clear hh;rintro ρ2 v w2 ⟨j,hj,rfl,hh⟩;by_cases hjn:j<f0.n
     ·obtain ⟨x,hxa⟩:=ai (l:=a) (k:=j) abq;obtain ⟨y,hyb⟩:=ai (l:=f.ns) (k:=j) abq;have hgx:=cM (eA (Rg hab hxa));have hgy:(bh f.ds)[j]?=some (.int .i64 (y:Int)):=by rw [hfd];exact cM (eA hyb)
      have hml:(bh (a0 (vB a f.ns j))).length=f0.n:=by rw [cq,bZ,O4 hab abq];omega
      obtain ⟨a2,hA2,s2⟩:=(hf f hmem).dg.at_ abq;have uQ:Value.slice f.A f.n f.a=.slice (some a2) f.n f.a:=by rw [hA2]
      obtain ⟨gd,rfl⟩:=hh.bP (i:=1) rfl abq;refine aj ?_;refine M9 ?_;refine bG az.out rfl (bL hh.below (s2.vc hgy)) abr ?_;refine aj ?_;refine bG az.out rfl (hh.ff (i:=1) rfl (by first|assumption|(simp only [abZ];assumption))) abr ?_;refine aj ?_;have hmx:(if (y:Int)>(x:Int) then (y:Int) else (x:Int))=((max x y:Nat):Int):=by split<;>omega
      refine ON ?_;intro ws hh;simp only [abK,ab9] at hh;rw [hmx,lQ _ (by rw [←cq];omega),Nq hab hxa hyb] at hh;refine aj ?_;refine ⟨⟨j+1,abq,rfl,hh⟩,by show f0.n-(j+1)<f0.n-j;omega, ?_⟩;exact dI
     ·obtain rfl:j=f0.n:=abq;have hmf:vB a f.ns f0.n=iI a f.ns:=by
       unfold vB;rw [abG (by rw [o4 hab];omega),adH abq,acg]
      rw [hmf,←hfold] at hh;refine aj ?_;replace hh:=hh.sub (abA _ (aby _ abV));exact vH
   ·obtain rfl:i=n:=abq;have hDl:=(hF i).1;have hDg:=fun (f:FX) (hm:f∈fs)=>(hF i).2.2 f.ns (abL.2 ⟨f,by rw [abG abq];exact hm,rfl⟩);have hDb:=B6 127 ((fs.take i).map FX.ns) f0.ns (hlow f0 hm0) fun l hl=>by
     obtain ⟨f,hf2,rfl⟩:=abL.1 hl;exact hlow f (adx hf2)
    rw [abG abq,←hDe] at hDl hDb hh;simp only [abG (show fs.length≤i by omega),←hDe] at hDg;clear hF hDe;generalize maxD fs=D at*;have hrz:∀f∈fs,Kk f.ds (a0 D)=if 4096<ah D then 3 else 0:=fun f hm=>by
     unfold Kk;have e1:(f.ds.zip (a0 D)).any sB=false:=ac9.2 fun p hp=>by
      obtain ⟨j,hj⟩:=acG.1 hp;rw [aeL] at hj;obtain ⟨j1,j2⟩:=hj;rw [hdsn f hm] at j1;unfold a0 at j1 j2;rw [abI] at j1 j2;obtain ⟨x,hx,hx2⟩:=adA.1 j1;obtain ⟨y,hy,hy2⟩:=adA.1 j2;have:=hDg f hm j x y hx hy;have:=hDb y (abz hy);unfold sB;rw [ab1];omega
     rw [abw (by rw [bZ,hdsn f hm,bZ,hnsl f hm];omega),abw (by rw [e1];decide),j9]
    refine aj ?_;replace hh:=hh.cJ 25 2;refine bk [2,3,10,12,13,14,52,53,54,55,56,57,58,59,60,61,62,63,64,65,66,67,68,69] 10 52
     (fun v10 v w'=>∃(j c10:Nat) (A:Option Addr) (gs:List FX),j≤i∧v=.int .i64 j∧v10=.slice A j c10∧gs.length=j∧(0<j→¬4096<ah D)∧(∀(t:Nat) (f g:FX),fs[t]?=some f→gs[t]?=some g→Su D (kz D f) g)∧Hp w (.row A j c10 25 2 (ar FX.cells gs)::.row A24 f0.n c24 3 1 (bh (a0 D))::JA gs.reverse) w')
     (fun _ v _=>i-(intOf v).toNat) ?_ ?_
    ·exact ⟨0,0,none,[],abB _,rfl,rfl,rfl,fun h=>absurd h (Nat.lt_irrefl 0),fun t f g _ h=>by simp at h,hh⟩
    ·clear hh;rintro ρ' v10 v w' ⟨j,c10,A,gs,hj,rfl,rfl,hgl,hno,hup,hh⟩;by_cases hlt:j<i
     ·obtain ⟨f,hx⟩:=ai (l:=fs) (k:=j) abq;have hmem:=abz hx;refine aj ?_;refine Ju ?_;refine bX ?_;intro b12 w12 hh ws hh;have hrs:=fun w1 hT1 hb hE=>AV f A24 f0.n c24 (a0 D) k w1 hT1 ((hf f hmem).ext hb) (hl f hmem) hE abq hk;rw [hrz f hmem,j9] at hrs;by_cases h4:4096<ah D
      ·rw [abx h4] at hrs;have hra:=fun w1 hT1 hb hE=>(hrs w1 hT1 hb hE fun _ h=>nomatch h).mono fun r w' h=>show r=Ws 3∧Below w1.heap.size w1 w' from by
        rcases h with ⟨h|h,hb2⟩|h
        ·exact absurd (uQ f hmem) h.1
        ·exact ⟨h.2.2,hb2⟩
        ·exact nomatch h.2.1
       refine aZ hh (hra _ (hT.hp hh) hh.below (hh.ao (i:=2) rfl)) rfl ?_;intro w59 hh;refine bX ?_;intro b13 w13 hh ws hh;rw [abx h4];exact .inl ⟨abr,rfl,hh.below⟩
      ·rw [abw h4] at hrs;have hnn2:f.ds.map Int.toNat=f.ns:=rfl;rw [hnn2] at hrs;have hfc:ah f.ns≤200:=by
        have h1:=(FX.fv (uQ f hmem)).2.2.2.2.1;have h2:=(hf f hmem).nm.aX NR.len abr;have h3:=hm f hmem;omega
       have hmul:ah D*ah f.ns≤1000000:=abW (acR (aeS h4) hfc) abr;have hra:=fun w1 hT1 hb hE=>(hrs w1 hT1 hb hE fun _ _=>hmul).mono fun r w' h=>show ∃g:FX,Su D (kz D f) g∧r=.returned (.tuple #[.agg #[.slice g.A g.n g.a,.slice g.B g.m g.b],.int .i64 0])∧Hp w1 [g.jW,g.jY] w' from by
        rcases h with ⟨h|h,hb2⟩|⟨_,_,A1,a1,B1,b1,rfl,h2⟩
        ·exact absurd (uQ f hmem) h.1
        ·exact absurd rfl h.2.1
        ·exact ⟨⟨A1,f0.n,a1,B1,ah D,b1,a0 D,_⟩,⟨rfl,rfl,by rw [←hA0];exact hDl.symm,rfl⟩,rfl,h2⟩
       refine au (hra _ (hT.hp hh) hh.below (hh.ao (i:=2) rfl)) ak.out rfl abr ?_;rintro e_ w59 ⟨g,hu,rfl,h2⟩;refine ⟨_,rfl, ?_⟩;replace hh:=hh.join h2;clear h2;refine bX ?_;intro b13 w13 hh ws hh;refine cQ hh (cs:=[_,_]) bq.out az.out (bC (eR rfl) dk) rfl rfl abr abr abr rfl abr ?_;intro b67 w67 hh;refine Ts ?_;intro A68 c68 w68 hh;simp only [ab9] at hh;replace hh:=hh.sub (acn _ _);refine aj ?_;replace hh:=hh.sub (abA _ (aby _ (aby _ (abA _ (aby _ (aby _ (aco _)))))));replace hh:=hh.perm (H':=.row A68 (j+1) c68 25 2 (ar FX.cells (gs++[g]))::.row A24 f0.n c24 3 1 (bh (a0 D))::JA (gs++[g]).reverse) (by
        rw [aeF,bo];exact List.perm_append_comm_assoc [g.jW,g.jY] [_,_] _)
       refine ⟨⟨j+1,c68,A68,gs++[g],abq,rfl,rfl,by rw [abJ,hgl];rfl,fun _=>h4,fun t f' g' hf' hg'=> ?_,hh⟩,by show i-(j+1)<i-j;omega, ?_⟩
       ·by_cases ht:t<j
        ·rw [adE abq] at hg';exact hup t f' g' hf' hg'
        ·have htl:=(abM.1 hg').1;rw [abJ,hgl] at htl;obtain rfl:t=j:=by have:t<j+1:=htl;omega
         rw [acP abq,hgl,acs] at hg';rw [hx] at hf';obtain rfl:=aca hf';obtain rfl:g=g':=aca hg';exact hu
       ·exact dI
     ·obtain rfl:j=i:=abq;have h4:=hno abq;refine aj ?_;rw [abw h4];exact .inr ⟨rfl,A,c10,gs,rfl,hgl,hup,hh.sub (aby _ (acn _ _))⟩
 ·rw [abx h0];refine ae (N:=71) (l:=[.slice L n c]) Tryz.func74 rfl rfl (by simp) ?_;refine aj ?_;refine zN ?_;intro w16 hh;refine aj ?_;exact .inl ⟨h0,rfl,hh.below⟩
theorem EX (f g:FX) (k:Nat) (w:World) (hT:dq w) (hf:f.at_ w) (hg:g.at_ w) (hlf:f.jz k) (hlg:g.jz k) (hmf:f.m≤200) (hmg:g.m≤200) (hk:k≤90000):
  Calls Tryz.prog 33 #[.agg #[.slice f.A f.n f.a,.slice f.B f.m f.b],.agg #[.slice g.A g.n g.a,.slice g.B g.m g.b]] w fun r w'=>
   (cL [f,g]≠0∧r=.returned (.tuple #[.agg #[.slice none 0 0,.slice none 0 0],.agg #[.slice none 0 0,.slice none 0 0],.int .i64 (cL [f,g])])∧Below w.heap.size w w')∨
   (cL [f,g]=0∧∃x y:FX,Su (maxD [f,g]) (kz (maxD [f,g]) f) x∧Su (maxD [f,g]) (kz (maxD [f,g]) g) y∧r=.returned (.tuple #[.agg #[.slice x.A x.n x.a,.slice x.B x.m x.b],.agg #[.slice y.A y.n y.a,.slice y.B y.m y.b],.int .i64 0])∧Hp w [y.jW,y.jY,x.jW,x.jY] w'):=by
 have hh:=Hp.start w;have hall:∀x∈[f,g],x.at_ w∧x.jz k∧x.m≤200:=by simpa using ⟨⟨hf,hlf,hmf⟩,hg,hlg,hmg⟩
 have hrs:=fun A c w1 hT1 hS1 hb=>yE A 2 c [f,g] k w1 hT1 hS1 abr (fun x hx=>(hall x hx).1.ext hb) (fun x hx=>(hall x hx).2.1) (fun x hx=>(hall x hx).2.2) hk;generalize cL [f,g]=e at*;generalize maxD [f,g]=D at*;by_cases h0:e=0
 ·have hra:=fun A c w1 hT1 hS1 hb=>(hrs A c w1 hT1 hS1 hb).mono fun r w' h=>show ∃(B:Option Addr) (a:Nat) (x y:FX),Su D (kz D f) x∧Su D (kz D g) y∧r=.returned (.tuple #[.slice B 2 a,.int .i64 0])∧Hp w1 [.row B 2 a 25 2 (ar FX.cells [x,y]),y.jW,y.jY,x.jW,x.jY] w' from by
   rcases h with h|⟨_,B,a,gs,h1,h2,h3,h4⟩
   ·exact absurd h0 h.1
   ·obtain ⟨x,y,rfl⟩:∃x y,gs=[x,y]:=by
     match gs,h2 with
     |[x,y],_=>exact ⟨x,y,rfl⟩
    exact ⟨B,a,x,y,h3 0 f x rfl rfl,h3 1 g y rfl rfl,h1,h4⟩
  refine Uj ?_;refine xQ ?_;intro b2 w2 hh b3 w3 hh b4 w4 hh b5 w5 hh;refine zO ?_;intro b11 w11 hh;refine au (hra _ _ _ (hT.hp hh) (hh.ao (i:=0) rfl) hh.below) ak.out rfl abr ?_;rintro e_ w12 ⟨B,a,x,y,hx,hy,rfl,h2⟩;refine ⟨_,rfl, ?_⟩;replace hh:=hh.join h2;obtain ⟨go,rfl⟩:=hh.bP (i:=0) rfl abq;refine aj ?_;have hx0:[x,y][0]?=some x:=rfl;have hy0:[x,y][1]?=some y:=rfl;refine kY [3,4,5] [0,1,3,0,8,24,7,127,255] 6 [[(7,none)],[(20,some 0)],[(21,some 1)],[(7,none)],[(23,some 3)],[(24,some 4)]] [(5,25),(4,24),(3,23),(2,22),(1,21),(0,20)] [([],5,[(2,22),(1,21),(0,20)]),([3],4,[(3,23),(2,22),(1,21),(0,20)]),([3,4],3,[(4,24),(3,23),(2,22),(1,21),(0,20)]),([3,4,5],2,[(5,25),(4,24),(3,23),(2,22),(1,21),(0,20)])] hh mixed abt abt abr ?_;refine fO ?_;refine a8 (i:=1) (fun ρ1 w1 hj hR=>ep bq.out az.size (show ρ1 20=Value.slice _ _ _ from hR.1) rfl abq abq) ?_;refine p9 [_,_] (fun _ hj=>hj.hp.df (f:=FX.cells) (x:=x) (l:=[x,y]) (i:=0) rfl FX.len abr hx0) ?_;refine fO ?_
  refine a8 (i:=4) (fun ρ1 w1 hj hR=>ep bq.out az.size (show ρ1 23=Value.slice _ _ _ from hR.1) rfl abq abq) ?_;refine p9 [_,_] (fun _ hj=>hj.hp.df (f:=FX.cells) (x:=y) (l:=[x,y]) (i:=0) rfl FX.len abr hy0) ?_;refine av ?_;intro p_ hp_;simp only [abO,acS,or_false] at hp_
  rcases hp_ with rfl|rfl|rfl|rfl
  ·intro f W hJ hV;have hb_4:=hJ.bl;obtain ⟨v22,v21,v20,_⟩:=hV;simp only [gD];have e20:f 0=_:=v20;rw [e20];have e21:f 1=_:=v21;rw [e21];have e22:f 2=_:=v22;rw [e22];replace hh:=hJ.hp;clear e20 e21 e22 hJ;refine gE hh 7 [_,_] ?_;intro ws hh;replace hh:Hp _ (_::_::_::_::_::_::_::.blk _ _ [_,_] _::_) _:=hh;refine dO ?_;refine eO (i:=3) abt rfl ?_;refine mL ?_;exact Ti
  ·intro f W hJ hV;have hb_4:=hJ.bl;obtain ⟨v23,v22,v21,v20,_⟩:=hV;simp only [gD];have e20:f 0=_:=v20;rw [e20];have e21:f 1=_:=v21;rw [e21];have e22:f 2=_:=v22;rw [e22];have e23:f 3=_:=v23;rw [e23];replace hh:=hJ.hp;clear e20 e21 e22 e23 hJ;refine gE hh 7 [_,_] ?_;intro ws hh;replace hh:Hp _ (_::_::_::_::_::_::_::.blk _ _ [_,_] _::_) _:=hh;exact Ti
  ·intro f W hJ hV;have hb_4:=hJ.bl;obtain ⟨v24,v23,v22,v21,v20,_⟩:=hV;simp only [gD];have e20:f 0=_:=v20;rw [e20];have e21:f 1=_:=v21;rw [e21];have e22:f 2=_:=v22;rw [e22];have e23:f 3=_:=v23;rw [e23];have e24:f 4=_:=v24;rw [e24];replace hh:=hJ.hp;clear e20 e21 e22 e23 e24 hJ;refine gE hh 7 [_,_] ?_;intro ws hh;replace hh:Hp _ (_::_::_::_::_::_::_::.blk _ _ [_,_] _::_) _:=hh;exact TU
  ·intro f W hJ hV;have hb_4:=hJ.bl;obtain ⟨v25,v24,v23,v22,v21,v20,_⟩:=hV;simp only [gD];have e20:f 0=_:=v20;rw [e20];have e21:f 1=_:=v21;rw [e21];have e22:f 2=_:=v22;rw [e22];have e23:f 3=_:=v23;rw [e23];have e24:f 4=_:=v24;rw [e24];have e25:f 5=_:=v25;rw [e25];replace hh:=hJ.hp;clear e20 e21 e22 e23 e24 e25 hJ;refine gE hh 7 [_,_] ?_;intro ws hh;replace hh:Hp _ (_::_::_::_::_::_::_::.blk _ _ [_,_] _::_) _:=hh;exact Xv
 ·have hra:=fun A c w1 hT1 hS1 hb=>(hrs A c w1 hT1 hS1 hb).mono fun r w' h=>show r=.returned (.tuple #[.slice none 0 0,.int .i64 e])∧Below w1.heap.size w1 w' from by
   rcases h with h|h
   ·exact h.2
   ·exact absurd h.1 h0
  refine Uj ?_;refine xQ ?_;intro b2 w2 hh b3 w3 hh b4 w4 hh b5 w5 hh;refine zO ?_;intro b11 w11 hh;refine aZ hh (hra _ _ _ (hT.hp hh) (hh.ao (i:=0) rfl) hh.below) rfl ?_;intro w12 hh;refine bX ?_;intro ws hh ws hh;refine JV (bI rfl (bJ (vs:=[_,_]) az.out (hh.aE (i:=2) (n:=2) rfl rfl) rfl) (bI rfl (bJ (vs:=[_,_]) az.out (hh.aE (i:=1) (n:=2) rfl rfl) rfl) (dQ (eL rfl) cR))) ?_;exact .inl ⟨h0,rfl,hh.below⟩
variable {fs:List FX}
def Vv (a b:List Dyadic):List Dyadic:=List.zipWith (· + ·) a b
def aaz:List (List Dyadic)→List Dyadic
 |[]=>[]
 |x::l=>l.foldl Vv x
def aaF (a b:List Dyadic) (j:Nat):List Dyadic:=(Vv a b).take j++a.drop j
theorem kN {f:FX}{D:List Nat} (hlen:D.length=f.ns.length) (hle:∀(i x y:Nat),f.ns[i]?=some x→D[i]?=some y→x≤y):(kz D f).length=ah D:=by
 unfold kz oT yg;rw [jE,vz hlen.symm hle]
theorem kD (h:jI fs=0) (hln:∀f∈fs,f.ds.length=f.n):∀f∈fs,(maxD fs).length=f.ns.length∧(∀(i x y:Nat),f.ns[i]?=some x→(maxD fs)[i]?=some y→x≤y)∧∀d∈maxD fs,d≤127:=fun f hm=>by
 obtain ⟨hne,uQ,hnv⟩:=vw h;obtain ⟨f0,ft,rfl⟩:=List.exists_cons_of_ne_nil hne;have hns:∀g∈f0::ft,g.ns.length=f0.n:=fun g hg=>by
  unfold FX.ns;rw [abH,hln g hg,hnv g hg]
  rfl
 have hDe:maxD (f0::ft)=((f0::ft).map FX.ns).foldl iI f0.ns:=by
  unfold maxD;rw [List.foldl_map]
  rfl
 have h0:=hns f0 abF;obtain ⟨h1,_,h3⟩:=AE ((f0::ft).map FX.ns) f0.ns fun l hl=>by
  obtain ⟨g,hg,rfl⟩:=abL.1 hl;rw [hns g hg,h0]
 rw [hDe];refine ⟨by rw [h1,h0,hns f hm],h3 f.ns (abL.2 ⟨f,hm,rfl⟩),B6 127 _ _ (FX.fv (uQ f0 abF)).2.2.2.1 fun l hl=> ?_⟩;obtain ⟨g,hg,rfl⟩:=abL.1 hl;exact (FX.fv (uQ g hg)).2.2.2.1
def aaf (f g:FX):Int:=if jI [f,g]≠0 then jI [f,g] else if Bw (dX f.ns g.ns)=true then 3 else 0
def aaB (a b:List Nat) (j:Nat):List Nat:=(dX a b).take j++a.drop j
def chD (n:Nat) (k:Int):Dyadic:=if k<0∨(n:Int)<k then 0 else nD (bin n k.toNat)
def aaa (ns:List Nat):List ByteArray:=(Wa (a0 ns)).map fX
def prW (ds es:List Nat) (xs ys:List Dyadic) (i m:Nat):List (Nat×Dyadic):=(List.range m).map fun k=>(dh (dD ds es) (dD (bB ds i) (bB es k)),(xs[i]?).getD 0*(ys[k]?).getD 0)
def prI (ds es:List Nat) (xs ys:List Dyadic) (i:Nat):List (Nat×Dyadic):=(List.range i).flatMap fun i=>prW ds es xs ys i (ah es)
def bS (rs:List Nat):List UInt8:=(a0 rs).map BG
def SB (ns:List Nat) (a:Nat):List Nat:=ns.set a (ns.getD a 0+1)
def upY (ns:List Nat) (a:Nat) (xs:List Dyadic):List Dyadic:=
 (List.range (ah (SB ns a))).map fun p=>co ns.reverse xs (bB (SB ns a).reverse p)+if 0<(bB (SB ns a).reverse p).getD (ns.length-1-a) 0 then co ns.reverse xs (Y0 (bB (SB ns a).reverse p) (ns.length-1-a)) else 0
theorem nc:∀(ds rs:List Nat),ku ds rs↔rs.length=ds.length∧∀(i d r:Nat),ds[i]?=some d→rs[i]?=some r→r≤d
 |[],[]=>by simp [ku]
 |[],_::_=>by simp [ku]
 |_::_,[]=>by simp [ku]
 |d::ds,r::rs=>by
  rw [ku,nc ds rs];constructor
  ·rintro ⟨h1,h2,h3⟩;refine ⟨by rw [ab0,ab0,h2],fun i e s he hs=> ?_⟩
   cases i with
   |zero=>cases he;cases hs;exact h1
   |succ i=>exact h3 i e s he hs
  ·rintro ⟨h1,h2⟩;exact ⟨h2 0 d r rfl rfl,by simpa using h1,fun i e s he hs=>h2 (i+1) e s he hs⟩
def ZN (ns:List Nat) (xs:List Dyadic) (cs:List Nat) (zs:List Dyadic):Prop:=zs.length=ah cs∧cs.length=ns.length∧(∀(i n c:Nat),ns[i]?=some n→cs[i]?=some c→n≤c)∧∀row:List Nat,row.length=ns.length→co cs.reverse zs row=upS (ix cs ns).reverse (co ns.reverse xs) row
def Z5 (w:World) (b i:Nat):Int:=match w.cell? ⟨b,0,none⟩ with
 |some (.slice (some a) _ _)=>match w.cell? (a.add (i*1)) with
  |some (.int _ z)=>z
  |_=>0
 |_=>0
structure RS (ns ts:List Nat) (xs:List Dyadic) (k n:Nat) (F FC:Option Addr) (c1 c2 i T:Nat) (cur:List Nat) (zs:List Dyadic) (A B:Option Addr) (ca cb:Nat) (R:List HE) (w:World):Prop where
 kB:ZN ns xs cur zs
 le:∀(j c t:Nat),cur[j]?=some c→ts[j]?=some t→c≤t
 eq:∀(j c t:Nat),j<i→cur[j]?=some c→ts[j]?=some t→c=t
 sz:∀x∈zs,Sz (k+T) x
 src:(A=F∧ca=c1∧B=FC∧cb=c2∧cur=ns∧zs=xs)∨R=[.row B (ah cur) cb 33 3 (ar NR.cells (zs.map nR)),.row A n ca 3 1 (bh (a0 cur))]
 rd:∀(H:List HE) (w':World),Hp w (H++R) w'→Sl w' A n 1 (bh (a0 cur))∧Sl w' B (ah cur) 3 (ar NR.cells (zs.map nR))
theorem FX.at_.ln {g:FX} (h:g.at_ w):g.ds.length=g.n∧g.cs.length=g.m:=⟨by have:=h.dg.1;rw [cq] at this;omega,h.nm.aX NR.len abr⟩
def Kept (fs:List FX) (R:List HE) (g:FX):Prop:=g∈fs∨(g.jW∈R∧g.jY∈R)
variable {E:Int}
def Xj (E:Int) (D:List Nat):List Int:=if E=0 then a0 D else []
def Xg (E:Int) (ys:List Dyadic):List NR:=if E=0 then ys.map nR else []
structure Out (E:Int) (D:List Nat) (ys:List Dyadic) (g:FX):Prop where
 ds:g.ds=Xj E D
 cs:g.cs=Xg E ys
 n:g.n≤100000
 m:g.m≤1000000
def FX.nil:FX:=⟨none,0,0,none,0,0,[],[]⟩
theorem Hp.Q9 {H:List HE} (h:Hp w0 H w):Hp w0 (FX.nil.jW::FX.nil.jY::H) w:=(h.cJ 3 1).cJ 33 3
theorem Out.err {D:List Nat}{ys:List Dyadic} (h:E≠0):Out E D ys FX.nil:=⟨by unfold Xj;rw [abw h];rfl,by unfold Xg;rw [abw h];rfl,abB _,abB _⟩
theorem Su.out {D:List Nat}{ys:List Dyadic}{g:FX} (h:Su D ys g) (h1:D.length≤1000) (h2:ah D≤4096):Out 0 D ys g:=⟨h.ds,h.cs,by rw [h.n];omega,by rw [h.m];omega⟩
theorem mu {fs:List FX} (h:cL fs=0) (hln:∀f∈fs,f.ds.length=f.n):jI fs=0∧(maxD fs).length≤1000∧ah (maxD fs)≤4096:=by
 have hlk:jI fs=0:=by
  unfold cL at h;split at h
  ·rename_i h2;exact absurd h h2
  ·rename_i h2;simpa using h2
 obtain ⟨hne,uQ,_⟩:=vw hlk;obtain ⟨f0,ft,rfl⟩:=List.exists_cons_of_ne_nil hne;have h1:=(kD hlk hln f0 abF).1;have h2:=(FX.fv (uQ f0 abF)).2.2.1;refine ⟨hlk,abq, ?_⟩;unfold cL at h;rw [abw abq] at h;split at h
 ·cases h
 ·omega
def YM (f:FX) (es:List Int):Int:=if f.e≠0 then f.e else Kk f.ds es
theorem Jn (f g:FX) (k:Nat) (w:World) (hT:dq w) (hf:f.at_ w) (hg:g.at_ w) (hlf:f.jz k) (hlg:g.jz k) (hmf:f.m≤200) (hmg:g.m≤200) (hk:k≤90000):
  Calls Tryz.prog 33 #[.agg #[.slice f.A f.n f.a,.slice f.B f.m f.b],.agg #[.slice g.A g.n g.a,.slice g.B g.m g.b]] w fun r w'=>∃x y:FX,Out (cL [f,g]) (maxD [f,g]) (kz (maxD [f,g]) f) x∧Out (cL [f,g]) (maxD [f,g]) (kz (maxD [f,g]) g) y∧r=.returned (.tuple #[.agg #[.slice x.A x.n x.a,.slice x.B x.m x.b],.agg #[.slice y.A y.n y.a,.slice y.B y.m y.b],.int .i64 (cL [f,g])])∧Hp w [y.jW,y.jY,x.jW,x.jY] w':=by
 refine (EX f g k w hT hf hg hlf hlg hmf hmg hk).mono fun r w' h=> ?_
 rcases h with ⟨h,rfl,hb⟩|⟨h,x,y,hx,hy,rfl,h2⟩
 ·exact ⟨FX.nil,FX.nil,.err h,.err h,rfl,((Hp.start w).ext hb).Q9.Q9⟩
 ·obtain ⟨_,h3,h4⟩:=mu h (by simpa using ⟨hf.ln.1,hg.ln.1⟩);rw [h];exact ⟨x,y,hx.out h3 h4,hy.out h3 h4,rfl,h2⟩
def FX.key (f:FX):List Int×List NR×Nat:=(f.ds,f.cs,f.n)
theorem Mv:∀{fs gs:List FX},fs.map FX.key=gs.map FX.key→jI fs=jI gs∧cL fs=cL gs∧maxD fs=maxD gs∧∀D,fs.map (kz D)=gs.map (kz D):=fun {fs gs} h=>by
 have e1:∀(p:List Int×List NR×Nat→Bool) (l:List FX),l.any (fun f=>p f.key)=(l.map FX.key).any p:=fun p l=>by rw [List.any_map];rfl
 have hn:fs.map FX.n=gs.map FX.n:=by
  have:=acm (List.map (fun x:List Int×List NR×Nat=>x.2.2)) h;rwa [ack,ack] at this
 have hl:fs.length=gs.length:=by have:=acm List.length h;simpa using this
 have hlike:jI fs=jI gs:=by
  have ho:Kw fs=Kw gs:=by
   have a:=e1 (fun x=>decide (x.2.2≠(fs.map FX.n).headD 0)) fs;have b:=e1 (fun x=>decide (x.2.2≠(fs.map FX.n).headD 0)) gs;rw [h,←b] at a;unfold Kw;rw [←hn];exact a
  have hf:(fs.find? (fun f=>decide (f.e≠0))).map FX.key=(gs.find? (fun f=>decide (f.e≠0))).map FX.key:=by
   have a:∀l:List FX,(l.find? (fun f=>decide (f.e≠0))).map FX.key=(l.map FX.key).find? (fun x=>decide (fE x.1 x.2.1≠0)):=fun l=>by rw [List.find?_map];rfl
   rw [a,a,h]
  unfold jI;rw [ho,hl]
  cases h1:fs.find? (fun f=>decide (f.e≠0)) with
  |none=>
   rw [h1] at hf
   cases h2:gs.find? (fun f=>decide (f.e≠0)) with
   |none=>rfl
   |some g=>rw [h2] at hf;cases hf
  |some f=>
   rw [h1] at hf
   cases h2:gs.find? (fun f=>decide (f.e≠0)) with
   |none=>rw [h2] at hf;cases hf
   |some g=>
    rw [h2] at hf;have hk:f.key=g.key:=aca hf;unfold FX.key at hk;show fE f.ds f.cs=fE g.ds g.cs;injection hk with a b
    injection b with b c
    rw [a,b]
 have hmax:maxD fs=maxD gs:=by
  have a:∀l:List FX,maxD l=(l.map FX.key).foldl (fun a x=>iI a (x.1.map Int.toNat)) (((l.map FX.key).map fun x=>x.1.map Int.toNat).headD []):=fun l=>by unfold maxD;rw [List.foldl_map,ack];rfl
  rw [a,a,h]
 refine ⟨hlike,by unfold cL;rw [hlike,hmax],hmax,fun D=> ?_⟩;have a:∀l:List FX,l.map (kz D)=(l.map FX.key).map fun x=>oT (x.1.map Int.toNat) D (x.2.1.map NR.d):=fun l=>by rw [ack];rfl
 rw [a,a,h]
theorem PS {D:List Nat}{ys:List Dyadic}{g:FX} (h:Out 0 D ys g) (h1:D.length≤12) (h2:∀d∈D,d≤127) (h3:ys.length=ah D) (h4:ah D≤4096):g.e=0∧g.ns=D∧g.cs.map NR.d=ys:=by
 have e1:g.ds=a0 D:=h.ds;have e2:g.cs=ys.map nR:=h.cs;refine ⟨?_, ?_, ?_⟩
 ·unfold FX.e;rw [e1,e2];exact FV.ok (xs:=ys) ⟨rfl,rfl,h1,h2,h3,h4⟩
 ·unfold FX.ns;rw [e1];exact j9 D
 ·rw [e2,ack];exact (acT fun x _=>a6 x).trans (adR ys)
variable {X Y:List Dyadic}
theorem Er:∀{l:List Int}{o:Int},o≠2→(∀s∈l,s≠2)→Fk o l≠0→Fk o l=o∧∀s∈l,s=o
 |[],_,_,_,_=>⟨rfl,fun _ h=>absurd h acS⟩
 |x::r,o,h1,h2,h3=>by
  unfold Fk at h3 ⊢;by_cases h:o=2∨o=x
  ·rw [abx h] at h3 ⊢
   rcases h with h|rfl
   ·exact absurd h h1
   ·obtain ⟨h4,h5⟩:=Er h1 (fun s hs=>h2 s (abN _ hs)) h3;exact ⟨h4,fun s hs=>by
     rcases abO.1 hs with rfl|hs
     ·rfl
     ·exact h5 s hs⟩
  ·rw [abw h] at h3;exact absurd rfl h3
theorem HS {l:List NR} (h:tS l≠0):∀a∈l,a.i.sign=tS l:=fun a ha=>by
 have hb:∀s∈l.map (fun a=>a.i.sign),s≠2:=fun s hs=>by
  obtain ⟨a,_,rfl⟩:=abL.1 hs;have:=rj a.i;omega
 unfold tS at h ⊢;have hm:a.i.sign∈l.map (fun a=>a.i.sign):=abL.2 ⟨a,ha,rfl⟩;generalize l.map (fun a=>a.i.sign)=L at*
 cases L with
 |nil=>exact absurd hm acS
 |cons s r=>
  rw [Fk,abx (.inl rfl)] at h ⊢;obtain ⟨h4,h5⟩:=Er (hb s abF) (fun x hx=>hb x (abN _ hx)) h;rw [h4]
  rcases abO.1 hm with h|h
  ·exact h
  ·exact h5 _ h
theorem RN {y:Dyadic} (h:(nR y).i.sign≠0):y≠0:=fun e=>h (by rw [e,nF];rfl)
theorem Qw {l:List Dyadic} (h:tS (l.map nR)≠0):∀y∈l,y≠0:=fun y hy=>RN (by rw [HS h _ (abL.2 ⟨y,hy,rfl⟩)];exact h)
theorem wu {K:Nat}{x y:Dyadic} (p:Int) (hx:Sz K x) (hy:Sz K y) (h1: -1000≤p) (h2:p≤1000):Sz (4*K+2014) (Fq x y p):=by
 obtain ⟨a1,a2,a3⟩:=hx.nr;obtain ⟨c1,c2,c3⟩:=hy.nr;have hb:=hQ (nR x).neg (nR x).aO;have hM:bf (wL (nR x) (nR y) p).natAbs≤4*K+1007:=by
  unfold wL;split
  ·have:=jZ (nR x).i ((nR x).e-(nR y).e+p).toNat;unfold NR.i at*;omega
  ·unfold NR.i;omega
 have hI:bf (Hn (nR x) (nR y) p).natAbs≤4*K+1007:=by
  unfold Hn;split
  ·refine abW (cW (acB (aeA _ _) ?_)) hM;rw [Int.natAbs_neg];exact cw _
  ·exact abW (cW (acB (aeA _ _) (cw _))) hM
 unfold Fq;generalize Hn (nR x) (nR y) p=q at*;have h3:=Sz.raw (a:=⟨iN q,iM q, -p⟩) (m:=4*K+1014) (E:=1000) (by show 8*(iM q).size≤_;rw [dn];omega) (by show -((1000:Nat):Int)≤ -p;omega) (by show -p≤((1000:Nat):Int);omega);have h4:(NR.mk (iN q) (iM q) (-p)).d=Dyadic.ofIntWithPrec q p:=by
  unfold NR.d NR.i;rw [ee,Int.neg_neg]
 rw [h4] at h3;exact h3.mono abq
def gB (f g:FX):Int:=if cL [f,g]=0 then (if tS ((kz (maxD [f,g]) g).map nR)=0 then 4 else 0) else cL [f,g]
def II:SR:=⟨⟨false,ByteArray.mk #[],0⟩,⟨false,ByteArray.mk #[],0⟩⟩
def l4 (X Y:List Dyadic) (p:Int):List SR:=List.zipWith (fun x y=>KI x y p) X Y
def eD (f g:FX) (p:Int):SR:=if gB f g=0 then kA (l4 (kz (maxD [f,g]) f) (kz (maxD [f,g]) g) p) else II
theorem rq {p:Int}{i:Nat}{x y:Dyadic} (hx:X[i]?=some x) (hy:Y[i]?=some y):(l4 X Y p)[i]?=some (KI x y p):=by
 unfold l4;rw [adO,hx,hy]
theorem tB {p:Int} (h:X.length=Y.length):(l4 X Y p).length=X.length:=by
 unfold l4;rw [aeU];omega
theorem E8 (f g:FX) (k:Nat) (p:Int) (w:World) (hT:dq w) (hf:f.at_ w) (hg:g.at_ w) (hlf:f.jz k) (hlg:g.jz k) (hmf:f.m≤200) (hmg:g.m≤200) (hk:k≤90000) (hz:cL [f,g]=0→(∀x∈kz (maxD [f,g]) f,Sz 250000 x)∧∀x∈kz (maxD [f,g]) g,Sz 250000 x) (hp1: -1000≤p) (hp2:p≤1000):
  Calls Tryz.prog 9 #[.agg #[.slice f.A f.n f.a,.slice f.B f.m f.b],.agg #[.slice g.A g.n g.a,.slice g.B g.m g.b],.int .i64 p] w fun r w'=>r=.returned (.tuple #[.agg (SR.cells (eD f g p)).toArray,.int .i64 (gB f g)])∧Below w.heap.size w w':=by
 have hh:=Hp.start w;have hboth:=fun w1 hT1 hb=>Jn f g k w1 hT1 (hf.ext hb) (hg.ext hb) hlf hlg hmf hmg hk;unfold eD gB;by_cases h0:cL [f,g]=0
 ·obtain ⟨hX,hY⟩:=hz h0;obtain ⟨hlk,_,hc⟩:=mu h0 (by simpa using ⟨hf.ln.1,hg.ln.1⟩);have hlnn:∀x∈[f,g],x.ds.length=x.n:=by simpa using ⟨hf.ln.1,hg.ln.1⟩
  obtain ⟨a1,a2,a3⟩:=kD hlk hlnn f (by simp);obtain ⟨c1,c2, -⟩:=kD hlk hlnn g (by simp);have lx:=kN a1 a2;have ly:=kN c1 c2;have h12:=(FX.fv ((vw hlk).2.1 f (by simp))).2.2.1;rw [←a1] at h12;rw [abx h0];rw [h0] at hboth;generalize kz (maxD [f,g]) f=X at*;generalize kz (maxD [f,g]) g=Y at*;generalize maxD [f,g]=D at*;by_cases hs:tS (Y.map nR)=0
  ·rw [abx hs,abw abr];refine Nw ?_;refine lK ?_;intro b3 w3 hh b4 w4 hh b6 w6 hh;refine au (hboth _ (hT.hp hh) hh.below) ak.out rfl abr ?_;rintro e_ w21 ⟨x,y,ox,oy,rfl,h3⟩;refine ⟨_,rfl, ?_⟩;replace hh:=hh.join h3;simp only [abE,abC] at hh;clear h3;refine xQ ?_;intro b8 w8 hh b9 w9 hh ws hh ws hh;have yat:=(FX.at_.mk (hh.ao (i:=3) rfl) (hh.ao (i:=2) rfl):y.at_ _);have yln:=yat.ln;obtain ⟨ye,yns,yd⟩:=PS oy h12 a3 ly hc;have ycs:y.cs=Y.map nR:=oy.cs;have ylim:y.jz 250000:=⟨by rw [←yln.1,oy.ds];show (a0 D).length≤1000;rw [bZ];omega,by rw [←yln.2,ycs,abH];omega,fun c hc=>by
    rw [ycs] at hc;obtain ⟨d,hd,rfl⟩:=abL.1 hc;rw [a6];exact ⟨(hY d hd).ok abq,hY d hd⟩⟩
   have hsg:=fun w1 hT1 hy=>tX y 250000 w1 hT1 hy ylim ye;rw [ycs] at hsg;refine aZ hh (hsg _ (hT.hp hh) yat) rfl ?_;intro w31 hh;rw [hs];refine bT ?_;intro ws hh;exact W9
  ·rw [abw hs,abx rfl];have hnz:=Qw hs;have hqs:∀(i:Nat) (a b:Dyadic),X[i]?=some a→Y[i]?=some b→∀w1,dq w1→Calls Tryz.prog 35 #[.agg (NR.cells (nR a)).toArray,.agg (NR.cells (nR b)).toArray,.int .i64 p] w1 fun r w'=>r=.returned (.tuple #[.agg (SR.cells (KI a b p)).toArray,.int .i64 0])∧Below w1.heap.size w1 w':=fun i a b ha hb w1 hT1=>by
    have za:=hX a (abz ha);have zb:=hY b (abz hb);have:=KM (nR a) (nR b) p w1 hT1 (za.ok abq) (zb.ok abq);rw [a6,a6] at this;exact this (za.ok abq) (za.neg.ok abq) (zb.ok abq) (hnz b (abz hb)) ((wu p za.neg zb hp1 hp2).ok abq) hp1 hp2
   have hsok:∀s∈l4 X Y p,s.ok:=fun s hs=>by
    obtain ⟨i,hi⟩:=acG.1 hs;have hi2:=(abM.1 hi).1;rw [tB abq] at hi2;obtain ⟨a,ha⟩:=ai hi2;obtain ⟨b,hb⟩:=ai (l:=Y) (k:=i) abq;rw [rq ha hb] at hi;rw [←aca hi];have za:=hX a (abz ha);have zb:=hY b (abz hb);exact ⟨(wu p za zb hp1 hp2).ok abq,(wu p za.neg zb hp1 hp2).neg.ok abq⟩
   have hhull:=fun A c w1 hT1 hS1=>yu A (ah D) c (l4 X Y p) w1 hT1 hS1 hsok abq;have hql:=tB (p:=p) (show X.length=Y.length by omega);refine Nw ?_;refine lK ?_;intro b3 w3 hh b4 w4 hh b6 w6 hh;refine au (hboth _ (hT.hp hh) hh.below) ak.out rfl abr ?_;rintro e_ w21 ⟨x,y,ox,oy,rfl,h3⟩;refine ⟨_,rfl, ?_⟩;replace hh:=hh.join h3;simp only [abE,abC] at hh;clear h3;refine xQ ?_;intro b8 w8 hh b9 w9 hh ws hh ws hh;have yat:=(FX.at_.mk (hh.ao (i:=3) rfl) (hh.ao (i:=2) rfl):y.at_ _);have yln:=yat.ln;obtain ⟨ye,yns,yd⟩:=PS oy h12 a3 ly hc;have ycs:y.cs=Y.map nR:=oy.cs;have ylim:y.jz 250000:=⟨by rw [←yln.1,oy.ds];show (a0 D).length≤1000;rw [bZ];omega,by rw [←yln.2,ycs,abH];omega,fun c hc=>by
    rw [ycs] at hc;obtain ⟨d,hd,rfl⟩:=abL.1 hc;rw [a6];exact ⟨(hY d hd).ok abq,hY d hd⟩⟩
   have hsg:=fun w1 hT1 hy=>tX y 250000 w1 hT1 hy ylim ye;rw [ycs] at hsg;refine aZ hh (hsg _ (hT.hp hh) yat) rfl ?_;intro w31 hh;refine aj ?_;replace hh:=hh.cJ 35 6;have xln:x.m=ah D:=by
    have:=hh.ao (i:=5) rfl;have h1:=this.aX NR.len abr;rw [←h1,show x.cs=X.map nR from ox.cs,abH];exact lx
   have yln2:y.m=ah D:=by rw [←yln.2,ycs,abH];exact ly
   replace hh:=hh.sub (aby _ (aby _ (abA _ (aby _ (abA _ (aby _ (abA _ (aby _ (abA _ (abA _ abV))))))))));have xcs:x.cs=X.map nR:=ox.cs;simp only [FX.jW,ycs,xcs] at hh;generalize x.B=xB at*;generalize y.B=yB at*;refine bk [13,14,15,16,17,40,41,42,43,44,45,46,47,48,49,50,51,52,53,54,55,56,57,58,59,60] 13 40
    (fun v13 v w'=>∃(i c3:Nat) (A:Option Addr),i≤ah D∧v=.int .i64 i∧v13=.slice A i c3∧Hp w [.row A i c3 35 6 (ar SR.cells ((l4 X Y p).take i)),.blk b9 25 [.slice y.A y.n y.a,.slice yB y.m y.b] (0,0),.row yB y.m y.b 33 3 (ar NR.cells (Y.map nR)),.row xB x.m x.b 33 3 (ar NR.cells (X.map nR)),.blk b6 35 [.bool false,.string (ByteArray.mk #[]),.int .i64 0,.bool false,.string (ByteArray.mk #[]),.int .i64 0] (0,0)] w')
    (fun _ v _=>ah D-(intOf v).toNat) ?_ ?_
   ·exact ⟨0,0,none,abB _,rfl,rfl,hh⟩
   ·clear hh;rintro ρ' v13 v w' ⟨i,c3,A,hi,rfl,rfl,hh⟩;by_cases hlt:i<ah D
    ·obtain ⟨a,ha⟩:=ai (l:=X) (k:=i) abq;obtain ⟨b,hb⟩:=ai (l:=Y) (k:=i) abq;have hq:=hqs i a b ha hb;have han:(X.map nR)[i]?=some (nR a):=by rw [abI,ha];rfl
     have hbn:(Y.map nR)[i]?=some (nR b):=by rw [abI,hb];rfl
     obtain ⟨gx,rfl⟩:=hh.bP (i:=3) rfl abq;obtain ⟨gy,rfl⟩:=hh.bP (i:=2) rfl abq;refine aj ?_;refine bF (vs:=[_,_,_]) az.out rfl (hh.df (f:=NR.cells) (x:=nR a) (l:=X.map nR) (i:=3) rfl NR.len abr han) rfl abr ?_;refine bX ?_;intro b15 w15 hh ws hh;refine db [11] [10] [0,0,2,0,14,30,0,127,255,511,511,0,3071,8191] 12 [[(15,none)],[(9,none)],[(47,some 1)],[(14,none)],[(48,some 2),(49,some 3)],[(50,some 4)],[(2,none)],[(46,some 0),(51,some 5),(52,some 6)],[(53,some 7)],[(45,some 8)],[(45,some 8)],[]] [(11,16),(10,55),(9,54),(8,45),(7,53),(6,52),(5,51),(4,50),(3,49),(2,48),(1,47),(0,46)] hh mixed abt (jQ rfl az.out dx) rfl (by repeat (first|exact bV|refine bD ?_|refine bU ?_)) ?_;refine da 0 [_,_,_] ?_;refine dw ?_;refine fF 2 ?_;refine dp ?_;refine CN (i) ?_;refine p9 [_,_,_] (fun _ hj=>hj.hp.df (f:=NR.cells) (x:=nR b) (l:=Y.map nR) (i:=3) rfl NR.len abr hbn) ?_;refine dp ?_;refine dC (fun _ hj=>hq _ (hT.hp hj.hp)) ?_;refine Y7 ?_;refine V0 ?_;refine V0 ?_;refine aW (i:=11) (cd _ 35 _) cd.ext (fun ρ1 w1 hj hR=>iP az.out hj.bl (fun v w2 h hb=>⟨hb,h⟩)) ?_;refine av ?_
     intro f W hJ hV _;have hb_11:=hJ.bl;obtain ⟨v16,v55,v54,v45,v53,v52,v51,v50,v49,v48,v47,v46,_⟩:=hV;obtain ⟨b16,e16,hl16,hc16⟩:cd _ _ _ (f 11) W:=v16;replace hh:=hJ.newVar hh hl16 hc16;refine ay (aQ (aa e16 (aa v55 (aa v54 (aa v45 (aa v53 (aa v52 (aa v51 (aa v50 (aa v49 (aa v48 (aa v47 (aa v46 aw))))))))))))) ?_;dsimp only [bA];clear e16 hJ;refine bT ?_;intro ws hh;refine Fl ?_;intro b58 w58 hh;refine Tl ?_;intro A59 c59 w59 hh;simp only [abK,ab9] at hh;replace hh:=hh.sub (acn _ _);refine aj ?_;replace hh:=hh.sub (abA _ (abA _ (aby _ (aby _ (aby _ (aby _ (aby _ abV)))))));refine ⟨⟨i+1,c59,A59,abq,rfl,rfl, ?_⟩,by show ah D-(i+1)<ah D-i;omega, ?_⟩
     ·rw [al (rq ha hb),bo];exact hh
     ·exact dI
    ·obtain rfl:i=ah D:=abq;rw [abG abq] at hh;refine aj ?_;refine aZ hh (hhull _ _ _ (hT.hp hh) (hh.ao (i:=0) rfl)) rfl ?_;intro w62 hh;refine bT ?_;intro ws hh;refine GD (bI rfl (bJ (vs:=[_,_,_,_,_,_]) az.out (hh.aE (i:=4) (n:=6) rfl rfl) rfl) (dQ (eL rfl) cR)) ?_;exact ⟨rfl,hh.below⟩
 ·have hE:¬cL [f,g]=0:=h0;rw [abw h0,abw h0];refine Nw ?_;refine lK ?_;intro b3 w3 hh b4 w4 hh b6 w6 hh;refine au (hboth _ (hT.hp hh) hh.below) ak.out rfl abr ?_;rintro e_ w21 ⟨x,y,ox,oy,rfl,h3⟩;refine ⟨_,rfl, ?_⟩;replace hh:=hh.join h3;simp only [abE,abC] at hh;clear h3;refine Zm ?_;intro b8 w8 hh b9 w9 hh ws hh ws hh ws hh;exact W9
def uQ:List Dyadic→Dyadic→Dyadic
 |[],_=>0
 |c::cs,t=>c+t*uQ cs t
def je:List Nat→List Dyadic→Dyadic
 |a::s,x::xs=>x^a*je s xs
 |_,_=>1
theorem j5 (n:Nat):(1:Dyadic)^n=1:=by
 induction n with
 |zero=>grind
 |succ n ih=>grind
def Wb (f:Dyadic→Dyadic):Prop:=∃l:List Dyadic,∀t,f t=uQ l t
def XO:List Dyadic→List Dyadic→List Dyadic
 |[],b=>b
 |x::a,[]=>x::a
 |x::a,y::b=>(x+y)::XO a b
def Zc:List Dyadic→List Dyadic→List Dyadic
 |[],_=>[]
 |x::a,b=>XO (b.map fun y=>x*y) (0::Zc a b)
def D1 (F:Dyadic→Dyadic) (a b:Dyadic):Prop:=∃R,Wb R∧∀h,F h=a+h*b+h*h*R h
def fa (d:Nat) (a b:Dyadic) (i k:Nat):Dyadic:=if k<i then 0 else nD (bin (d-i) (k-i))*a^i*b^(k-i)
theorem U4 (d:Nat) (s:Dyadic):fa d s (1-s)=yG d s:=rfl
def gY (xs:List Dyadic) (i:Nat):Dyadic:=(xs[i]?).getD 0
def dz (d:Nat) (M:Nat→Nat→Dyadic) (xs:List Dyadic):List Dyadic:=(List.range (d+1)).map fun k=>sm (List.range (d+1)) fun i=>gY xs i*M i k
def jD (d:Nat) (a b:Dyadic) (xs:List Dyadic) (i j:Nat):List Dyadic:=(List.range (d+1)).map fun k=>sm (List.range i) (fun m=>gY xs m*fa d a b m k)+if i≤k∧k<i+j then gY xs i*fa d a b i k else 0
theorem lJ (d:Nat) (a b:Dyadic) (xs:List Dyadic) (i j:Nat):(jD d a b xs i j).length=d+1:=by simp [jD]
theorem wc (d:Nat) (a b:Dyadic) (xs:List Dyadic):jD d a b xs 0 0=List.replicate (d+1) 0:=by
 unfold jD;refine List.eq_replicate_iff.2 ⟨by simp,fun x hx=> ?_⟩;obtain ⟨k,_,rfl⟩:=abL.1 hx;rw [abw abq,ad6]
 rfl
theorem BF {d i:Nat}{a b:Dyadic} (h:k≤d):(jD d a b xs i j)[k]?=some (sm (List.range i) (fun m=>gY xs m*fa d a b m k)+if i≤k∧k<i+j then gY xs i*fa d a b i k else 0):=by
 unfold jD;exact Ov
theorem C8 {d i:Nat}{a b:Dyadic}{o:Dyadic} (h:i+j≤d) (ho:(jD d a b xs i j)[i+j]?=some o):(jD d a b xs i j).set (i+j) (o+gY xs i*fa d a b i (i+j))=jD d a b xs i (j+1):=by
 rw [BF h,abw abq,ad6] at ho;have ho:=aca ho;subst ho;refine acp fun k=> ?_;rw [acV,lJ];by_cases hk:k≤d
 ·rw [BF hk,BF hk];by_cases e:i+j=k
  ·subst e;rw [abx rfl,abx abq,abx abq]
  ·rw [abw e];by_cases h2:i≤k∧k<i+j
   ·rw [abx h2,abx abq]
   ·rw [abw h2,abw abq]
 ·rw [abw abq,abT (by rw [lJ];omega),abT (by rw [lJ];omega)]
theorem zI {d i:Nat}{a b:Dyadic} (h:i≤d):jD d a b xs i (d-i+1)=jD d a b xs (i+1) 0:=by
 unfold jD;refine acT fun k hk=> ?_;have hk:=ab3.1 hk;rw [abw (show ¬(i+1≤k∧k<i+1+0) by omega),ad6,adk,kO];by_cases h2:i≤k
 ·rw [abx abq]
 ·rw [abw abq];unfold fa;rw [abx (show k<i by omega),aeW]
theorem pr (d:Nat) (a b:Dyadic) (xs:List Dyadic):jD d a b xs (d+1) 0=dz d (fa d a b) xs:=by
 unfold jD dz;refine acT fun k _=> ?_;rw [abw abq,ad6]
theorem Sz.QQ {a:Dyadic} (h:Sz q a) {i d:Nat} (hi:i≤d):Sz (1+q*d) (a^i):=(Sz.pow h i).mono (by have:=acd q hi;omega)
theorem Jd {d i:Nat}{a b:Dyadic} (ha:Sz q a) (hb:Sz q b) (hd:d≤127) (hk:k≤d):Sz (130+2*(q*d)) (fa d a b i k):=by
 unfold fa;split
 ·exact Sz.zero _
 ·refine (((sW (d-i) (k-i) abq).mul (ha.QQ (show i≤d by omega))).mul (hb.QQ (show k-i≤d by omega))).mono abq
theorem qN (h:∀x∈xs,Sz k x) (i:Nat):Sz k (gY xs i):=by
 unfold gY
 cases hx:xs[i]? with
 |none=>exact Sz.zero _
 |some x=>exact h x (abz hx)
theorem vq {d i K:Nat}{a b:Dyadic} (hx:∀x∈xs,Sz K x) (ha:Sz q a) (hb:Sz q b) (hd:d≤127) (hi:i≤d+1):∀x∈jD d a b xs i j,Sz (K+130+2*(q*d)+130) x:=fun x hx2=>by
 obtain ⟨k,hk,rfl⟩:=abL.1 hx2;have hk:=ab3.1 hk;have h1:∀m,Sz (K+(130+2*(q*d))) (gY xs m*fa d a b m k):=fun m=>(qN hx m).mul (Jd ha hb hd abq);have h2:=Pr (l:=List.range i) (f:=fun m=>gY xs m*fa d a b m k) (k:=K+(130+2*(q*d))) fun m _=>h1 m;rw [adn] at h2;refine (h2.add (y:=if i≤k∧k<i+j then gY xs i*fa d a b i k else 0) ?_).mono abq;split
 ·exact (h1 i).mono abq
 ·exact Sz.zero _
theorem kP (d:Nat) (M:Nat→Nat→Dyadic) (xs:List Dyadic):(dz d M xs).length=d+1:=by simp [dz]
theorem rO {d:Nat} (h:k≤d):(dz d M xs)[k]?=some (sm (List.range (d+1)) fun i=>gY xs i*M i k):=by
 unfold dz;exact Ov
theorem EP {d:Nat}{s:Dyadic} (hl:xs.length=d+1):(dz d (fa d (1-s) s) xs.reverse).reverse=dz d (yJ d s) xs:=by
 refine acp fun k=> ?_;by_cases hk:k≤d
 ·rw [ac6 (by rw [kP];omega),kP,show d+1-1-k=d-k by omega,rO abq,rO hk];congr 1;rw [Mz];refine a9 fun i hi=> ?_;have hi:=ab3.1 hi;have e1:gY xs.reverse (d-i)=gY xs i:=by
   unfold gY;rw [ac6 abq,hl,show d+1-1-(d-i)=i by omega]
  rw [e1];congr 1;unfold fa yJ;by_cases h:i<k
  ·rw [abx abq,abx h]
  ·rw [abw abq,abw h,show d-(d-i)=i by omega,show d-k-(d-i)=i-k by omega];generalize nD (bin i (i-k))=x;generalize (1-s)^(d-i)=y;generalize s^(i-k)=z;grind
 ·rw [abT (by rw [abY,kP];omega),abT (by rw [kP];omega)]
variable {G:Nat}
section
variable (A:List Nat) (d:Nat) (φ:List Dyadic→List Dyadic)
def Co (X:List Dyadic) (q f i:Nat):List Dyadic:=(List.range X.length).map fun p=>
 if p/ah A/(d+1)=q∧(p % ah A<f∨p % ah A=f∧p/ah A % (d+1)<i) then gY (φ (ck A d X (p % ah A) q)) (p/ah A % (d+1)) else gY X p
def Nv (X:List Dyadic) (q:Nat):List Dyadic:=Co A d φ X q (ah A) 0
end
section
variable {A:List Nat}{d:Nat}{φ:List Dyadic→List Dyadic}{X:List Dyadic}
theorem kE (q f i:Nat):(Co A d φ X q f i).length=X.length:=by simp [Co]
theorem qS {f i p:Nat} (h:p<X.length):(Co A d φ X q f i)[p]?=some (if p/ah A/(d+1)=q∧(p % ah A<f∨p % ah A=f∧p/ah A % (d+1)<i) then gY (φ (ck A d X (p % ah A) q)) (p/ah A % (d+1)) else gY X p):=by
 unfold Co;rw [abI,acy h]
 rfl
theorem kI {f:Nat} (hf:f<ah A) (hk:k≤d):bW A d f k q % ah A=f∧bW A d f k q/ah A % (d+1)=k∧bW A d f k q/ah A/(d+1)=q:=by
 unfold bW;have hA:=de A;rw [adF,aci hf,ac2 _ _ hA,acz hf,ab2,adF,aci abq,ac2 _ _ abq,acz abq,ab2];exact ⟨rfl,rfl,rfl⟩
theorem vu (p:Nat):bW A d (p % ah A) (p/ah A % (d+1)) (p/ah A/(d+1))=p:=by
 unfold bW;rw [aes,aes]
theorem mQ {l:List Dyadic} (h:k<l.length):l[k]?=some (gY l k):=by
 unfold gY;rw [ac1 h]
 rfl
theorem OO (q:Nat):Co A d φ X q 0 0=X:=by
 refine acp fun p=> ?_;by_cases h:p<X.length
 ·rw [qS h,abw abq,mQ h]
 ·rw [abT (by rw [kE];omega),abT abq]
theorem L9 (q f:Nat):Co A d φ X q f (d+1)=Co A d φ X q (f+1) 0:=by
 refine acp fun p=> ?_;by_cases h:p<X.length
 ·rw [qS h,qS h];have:=ab4 (p/ah A) (show 0<d+1 by omega);congr 1;by_cases h1:p/ah A/(d+1)=q∧p % ah A<f+1
  ·rw [abx abq,abx abq]
  ·rw [abw abq,abw abq]
 ·rw [abT (by rw [kE];omega),abT (by rw [kE];omega)]
theorem Nm {f i:Nat} (hf:f<ah A) (hi:i≤d) (hp:bW A d f i q<X.length):(Co A d φ X q f 0)[bW A d f i q]?=some (gY (ck A d X f q) i):=by
 obtain ⟨h1,h2,h3⟩:=kI (q:=q) hf hi;rw [qS hp,h1,h2,h3,abw abq];congr 1;unfold ck;have:gY ((List.range (d+1)).map fun i=>(X[bW A d f i q]?).getD 0) i=(X[bW A d f i q]?).getD 0:=by
  unfold gY;exact Ov
 rw [this]
 rfl
theorem R9 {f i:Nat} (hf:f<ah A) (hi:i≤d) (hp:bW A d f i q<X.length):(Co A d φ X q f i).set (bW A d f i q) (gY (φ (ck A d X f q)) i)=Co A d φ X q f (i+1):=by
 obtain ⟨h1,h2,h3⟩:=kI (q:=q) hf hi;refine acp fun p=> ?_;rw [acV,kE];by_cases h:p<X.length
 ·rw [qS h,qS h];by_cases e:bW A d f i q=p
  ·subst e;rw [abx rfl,abx h,h1,h2,h3,abx abq]
  ·rw [abw e];congr 1;by_cases h4:p/ah A/(d+1)=q∧(p % ah A<f∨p % ah A=f∧p/ah A % (d+1)<i)
   ·rw [abx h4,abx abq]
   ·rw [abw h4,abw];intro h5;have h6:p/ah A/(d+1)=q∧p % ah A=f∧p/ah A % (d+1)=i:=abq;have:=vu (A:=A) (d:=d) p;rw [h6.1,h6.2.1,h6.2.2] at this;exact e this
 ·rw [abw abq,abT (by rw [kE];omega),abT (by rw [kE];omega)]
theorem U1 {f i:Nat} (hX:∀x∈X,Sz k x) (hφ:∀l:List Dyadic,l.length=d+1→(∀x∈l,Sz k x)→∀x∈φ l,Sz (k+G) x):∀x∈Co A d φ X q f i,Sz (k+G) x:=fun x hx=>by
 obtain ⟨p,hp,rfl⟩:=abL.1 hx;split
 ·refine qN (hφ _ (by simp [ck]) fun y hy=> ?_) _;obtain ⟨j,_,rfl⟩:=abL.1 hy;exact qN hX _
 ·exact (qN hX p).mono abq
def LJ (A:List Nat) (d:Nat) (B:List Nat) (M:Nat→Nat→Dyadic) (xs:List Dyadic) (j:Nat):List Dyadic:=(List.range xs.length).map fun p=>if p/ah A/(d+1)<j then gY (eu (A++d::B) A.length M xs) p else gY xs p
theorem sw (B:List Nat) (M:Nat→Nat→Dyadic) (xs:List Dyadic) (j:Nat):(LJ A d B M xs j).length=xs.length:=by simp [LJ]
theorem xS {B:List Nat}{p:Nat} (h:p<xs.length):(LJ A d B M xs j)[p]?=some (if p/ah A/(d+1)<j then gY (eu (A++d::B) A.length M xs) p else gY xs p):=by
 unfold LJ;rw [abI,acy h]
 rfl
theorem NH (B:List Nat) (M:Nat→Nat→Dyadic) (xs:List Dyadic):LJ A d B M xs 0=xs:=by
 refine acp fun p=> ?_;by_cases h:p<xs.length
 ·rw [xS h,abw (Nat.not_lt_zero _),mQ h]
 ·rw [abT (by rw [sw];omega),abT abq]
theorem LV {B:List Nat} (hl:xs.length=ah (A++d::B)):LJ A d B M xs (ah B)=eu (A++d::B) A.length M xs:=by
 refine acp fun p=> ?_;by_cases h:p<xs.length
 ·obtain ⟨f,k,q,hf,hk,hq,rfl⟩:=nU (A:=A) (d:=d) (B:=B) (p:=p) abq;rw [xS h,(kI hf hk).2.2,abx hq,mQ (by rw [j7];omega)]
 ·rw [abT (by rw [sw];omega),abT (by rw [j7];omega)]
theorem Mm {B:List Nat} (hl:xs.length=ah (A++d::B)):Nv A d (dz d M) (LJ A d B M xs j) j=LJ A d B M xs (j+1):=by
 refine acp fun p=> ?_;by_cases h:p<xs.length
 ·obtain ⟨f,k,q,hf,hk,hq,rfl⟩:=nU (A:=A) (d:=d) (B:=B) (p:=p) abq;obtain ⟨h1,h2,h3⟩:=kI (q:=q) hf hk;unfold Nv;rw [qS (by rw [sw];exact h),xS h,h1,h2,h3];congr 1;by_cases e:q=j
  ·subst e;rw [abx ⟨rfl,.inl hf⟩,abx abq];have e1:ck A d (LJ A d B M xs q) f q=ck A d xs f q:=by
    unfold ck;refine acT fun i hi=> ?_;have hi:=ab3.1 hi;have hp2:bW A d f i q<xs.length:=by rw [hl];exact oD hf abq hq
    rw [xS hp2,(kI hf (show i≤d by omega)).2.2,abw abq,mQ hp2]
   rw [e1];have e2:gY (dz d M (ck A d xs f q)) k=sm (List.range (d+1)) fun i=>gY (ck A d xs f q) i*M i k:=by
    show ((dz d M _)[k]?).getD 0=_;rw [rO hk]
    rfl
   have e3:gY (eu (A++d::B) A.length M xs) (bW A d f k q)=sm (List.range (d+1)) fun i=>(xs[bW A d f i q]?).getD 0*M i k:=by
    show ((eu _ _ M xs)[_]?).getD 0=_;rw [yq M xs hf hk hq]
    rfl
   rw [e2,e3];refine a9 fun i hi=> ?_;have hi:=ab3.1 hi;congr 1;show ((ck A d xs f q)[i]?).getD 0=_;unfold ck;rw [abI,acy hi]
   rfl
  ·rw [abw abq];have e1:gY (LJ A d B M xs j) (bW A d f k q)=if q<j then gY (eu (A++d::B) A.length M xs) (bW A d f k q) else gY xs (bW A d f k q):=by
    show ((LJ A d B M xs j)[_]?).getD 0=_;rw [xS h,h3]
    rfl
   rw [e1];by_cases h4:q<j
   ·rw [abx h4,abx abq]
   ·rw [abw h4,abw abq]
 ·rw [abT (by unfold Nv;rw [kE,sw];omega),abT (by rw [sw];omega)]
end
variable {F:Nat}
section
variable (A:List Nat) (d L:Nat) (φ:List Dyadic→List Dyadic)
def md (p:Nat):Nat:=bW A d (p % ah A) 0 (p/ah A/(d+1))
def kJ (X:List Dyadic) (F i:Nat):List Dyadic:=(List.range X.length).map fun p=>
 if p/ah A % (d+1)<L∧(md A d p<F∨md A d p=F∧p/ah A % (d+1)<i) then gY (φ (ck A d X (p % ah A) (p/ah A/(d+1)))) (p/ah A % (d+1)) else gY X p
end
section
variable {A:List Nat}{d L:Nat}{φ:List Dyadic→List Dyadic}{X:List Dyadic}
theorem jL (F i:Nat):(kJ A d L φ X F i).length=X.length:=by simp [kJ]
theorem pN {i p:Nat} (h:p<X.length):(kJ A d L φ X F i)[p]?=some (if p/ah A % (d+1)<L∧(md A d p<F∨md A d p=F∧p/ah A % (d+1)<i) then gY (φ (ck A d X (p % ah A) (p/ah A/(d+1)))) (p/ah A % (d+1)) else gY X p):=by
 unfold kJ;rw [abI,acy h]
 rfl
theorem CK {i:Nat} (h:∀p,p<X.length→p/ah A % (d+1)<L→((md A d p<F∨md A d p=F∧p/ah A % (d+1)<i)↔(md A d p<G∨md A d p=G∧p/ah A % (d+1)<j))):kJ A d L φ X F i=kJ A d L φ X G j:=by
 refine acp fun p=> ?_;by_cases hp:p<X.length
 ·rw [pN hp,pN hp];congr 1;by_cases hL:p/ah A % (d+1)<L
  ·by_cases h1:md A d p<F∨md A d p=F∧p/ah A % (d+1)<i
   ·rw [abx ⟨hL,h1⟩,abx ⟨hL,(h p hp hL).1 h1⟩]
   ·rw [abw (fun h=>h1 h.2),abw (fun h2=>h1 ((h p hp hL).2 h2.2))]
  ·rw [abw (fun h=>hL h.1),abw (fun h=>hL h.1)]
 ·rw [abT (by rw [jL];omega),abT (by rw [jL];omega)]
theorem Ku:kJ A d L φ X 0 0=X:=by
 refine acp fun p=> ?_;by_cases h:p<X.length
 ·rw [pN h,abw abq,mQ h]
 ·rw [abT (by rw [jL];omega),abT abq]
theorem Ge {f:Nat} (hf:f<ah A):bW A d f 0 q % ah A=f∧bW A d f 0 q/ah A % (d+1)=0∧bW A d f 0 q/ah A/(d+1)=q:=kI hf (abB _)
theorem J9 {f:Nat} (hf:f<ah A) (hk:k≤d):md A d (bW A d f k q)=bW A d f 0 q:=by
 obtain ⟨h1,_,h3⟩:=kI (q:=q) hf hk;unfold md;rw [h1,h3]
theorem Lw (h:F/ah A % (d+1)≠0):kJ A d L φ X F 0=kJ A d L φ X (F+1) 0:=CK fun p _ _=>by
 have hne:md A d p≠F:=fun e=>by
  have:=(Ge (d:=d) (q:=p/ah A/(d+1)) (ab4 p (de A))).2.1;unfold md at e;rw [e] at this;exact h this
 omega
theorem J7 {i:Nat} (h:L≤i):kJ A d L φ X F i=kJ A d L φ X (F+1) 0:=CK fun p _ hL=>by omega
theorem PN {f i:Nat} (hf:f<ah A) (hiL:i<L) (hi:i≤d):(kJ A d L φ X (bW A d f 0 q) i).set (bW A d f i q) (gY (φ (ck A d X f q)) i)=kJ A d L φ X (bW A d f 0 q) (i+1):=by
 obtain ⟨h1,h2,h3⟩:=kI (q:=q) hf hi;refine acp fun p=> ?_;rw [acV,jL];by_cases hp:p<X.length
 ·rw [pN hp,pN hp];by_cases e:bW A d f i q=p
  ·subst e;rw [abx rfl,abx hp,h1,h2,h3,J9 hf hi,abx ⟨hiL,.inr ⟨rfl,Nat.lt_succ_self i⟩⟩]
  ·rw [abw e];have hne:¬(md A d p=bW A d f 0 q∧p/ah A % (d+1)=i):=fun ⟨a,b⟩=>by
    have e1:=Ge (d:=d) (q:=p/ah A/(d+1)) (ab4 p (de A));have e2:=Ge (d:=d) (q:=q) hf;unfold md at a;rw [a] at e1;have:=vu (A:=A) (d:=d) p;rw [b,←e1.1,←e1.2.2,e2.1,e2.2.2] at this;exact e this
   congr 1;by_cases hL:p/ah A % (d+1)<L∧(md A d p<bW A d f 0 q∨md A d p=bW A d f 0 q∧p/ah A % (d+1)<i)
   ·rw [abx hL,abx ⟨hL.1,abq⟩]
   ·rw [abw hL,abw (fun h=>hL ⟨h.1,abq⟩)]
 ·rw [abT (by rw [jL];omega)];by_cases e:bW A d f i q=p
  ·rw [abx e,e,abw hp,abT (by rw [jL];omega)]
  ·rw [abw e,abT (by rw [jL];omega)]
theorem KG {B:List Nat}{p:Nat} (hX:X.length=ah (A++d::B)) (hp:p<X.length):(kJ A d L φ X X.length 0)[p]?=some (if p/ah A % (d+1)<L then gY (φ (ck A d X (p % ah A) (p/ah A/(d+1)))) (p/ah A % (d+1)) else gY X p):=by
 rw [pN hp];have hlt:md A d p<X.length:=by
  have h1:=vu (A:=A) (d:=d) p;have h2:md A d p≤p:=by
   conv=>rhs;rw [←h1]
   unfold md bW;have:=acd (ah A) (show 0+(d+1)*(p/ah A/(d+1))≤p/ah A % (d+1)+(d+1)*(p/ah A/(d+1)) by omega);omega
  omega
 congr 1;by_cases h:p/ah A % (d+1)<L
 ·rw [abx ⟨h,.inl hlt⟩,abx h]
 ·rw [abw (fun h2=>h h2.1),abw h]
theorem Wc {B:List Nat} (hX:X.length=ah (A++d::B)):kJ A d (d+1) (dz d M) X X.length 0=eu (A++d::B) A.length M X:=by
 refine acp fun p=> ?_;by_cases hp:p<X.length
 ·obtain ⟨f,k,q,hf,hk,hq,rfl⟩:=nU (A:=A) (d:=d) (B:=B) (by rw [←hX];exact hp);obtain ⟨h1,h2,h3⟩:=kI (q:=q) hf hk;rw [KG hX hp,h1,h2,h3,abx abq];have e1:(dz d M (ck A d X f q))[k]?=some (sm (List.range (d+1)) fun i=>gY (ck A d X f q) i*M i k):=by
   unfold dz;exact Ov
  rw [yq M X hf hk hq];congr 1;show ((dz d M (ck A d X f q))[k]?).getD 0=_;rw [e1];refine a9 fun i hi=> ?_;have hi:=ab3.1 hi;show ((ck A d X f q)[i]?).getD 0*_=_;unfold ck;rw [abI,acy hi]
  rfl
 ·rw [abT (by rw [jL];omega),abT (by rw [j7,←hX];omega)]
end
variable {R:Ending→World→Prop}{args:Array Operand}{assign body:Code}{ops:Array Oper}{vs:List Value}
abbrev tr (D:Nat):Deferred:={ target:=.collected D,args:= #[] }
abbrev SW (M:List Nat):List HE:=M.map fun D=>.ob D (.deferred (some []))
theorem L4 {D:List Deferred}{a b:Act} (h:eY N D a ρ) (k:eY N D b ρ):a=b:=by
 obtain ⟨t,d⟩:=a;obtain ⟨t',d'⟩:=b;obtain ⟨h1,h2,h3⟩:=h;obtain ⟨k1,k2,k3⟩:=k;obtain rfl:d=d':=h1.trans k1.symm;congr 1;refine Array.ext (h2.trans k2.symm) fun i hi hi'=> ?_;have e1:=h3 i;have e2:=k3 i;rw [acC,adW hi] at e1;rw [acC,adW hi'] at e2;exact e1.trans e2.symm
abbrev Kd:=Exit→List Nat→Rf→World→Prop
structure WD (P:Program) (N:Nat) (c:Code) (Q:Kd) (ρ:Rf) (w:World):Prop where
 out:∀(M:List Nat) a,eY N (M.map tr) a ρ→∀n,c.wpIn Fence.wide n P (fun e a' w'=>∃M' ρ',eY N ((M'++M).map tr) a' ρ'∧Q e M' ρ' w') a w
def Y1 (next:List Nat→Rf→World→Prop) (Q:Kd):Kd
 |.normal,M,ρ,w=>next M ρ w
 |e,M,ρ,w=>Q e M ρ w
def DD (M:List Nat) (Q:Kd):Kd:=fun e M2 ρ w=>Q e (M2++M) ρ w
def VO (id:Nat) (Q:Kd):Kd
 |.exit id',M,ρ,w=>if id'=id then Q .normal M ρ w else Q (.exit id') M ρ w
 |e,M,ρ,w=>Q e M ρ w
def Wy (Q:Kd):Kq:=fun e ρ w=>Q e [] ρ w
section
variable {P:Program}{N:Nat}{Q:Kd}{ρ:Rf}{w:World}
theorem TY {c:Code} (h:∀D,WC ⟨none,D,true⟩ P N c (Wy Q) ρ w):WD P N c Q ρ w:=
 ⟨fun M a hf n=>wpIn_mono ((h (M.map tr)).lh a hf n) fun e a' w' ⟨ρ',hf',hq⟩=>⟨[],ρ',hf',hq⟩⟩
theorem OM {x y:Code} (h:WD P N x (Y1 (fun M ρ w=>WD P N y (DD M Q) ρ w) Q) ρ w):WD P N (.seq x y) Q ρ w:=
 ⟨fun M a hf n=>wpIn_seq (wpIn_mono (h.out M a hf n) fun e a' w' ⟨M',ρ',hf',hq⟩=>by
  cases e with
  |normal=>
   refine wpIn_mono ((hq:WD P N y (DD M' Q) ρ' w').out (M'++M) a' hf' n) fun e a2 w2 ⟨M2,ρ2,hf2,hq2⟩=> ?_;exact ⟨M2++M',ρ2,by rw [acb];exact hf2,hq2⟩
  |_=>exact ⟨M',ρ',hf',hq⟩)⟩
theorem zw {x y:Code} (h:∀D,WC ⟨none,D,true⟩ P N x (dV (fun ρ w=>WD P N y Q ρ w) (Wy Q)) ρ w):WD P N (.seq x y) Q ρ w:=
 OM (TY fun D=>(h D).mono fun e ρ w hq=>by
  cases e with
  |normal=>
   show WD P N y (DD [] Q) ρ w;have e0:DD [] Q=Q:=by funext e M ρ w;unfold DD;rw [acg]
   rw [e0];exact hq
  |_=>exact hq)
theorem MT {id:Nat}{c:Code} (h:WD P N c (VO id Q) ρ w):WD P N (.block id c) Q ρ w:=
 ⟨fun M a hf n=>wpIn_block (wpIn_mono (h.out M a hf n) fun e a' w' ⟨M',ρ',hf',hq⟩=>by
  cases e with
  |exit id'=>
   by_cases hid:id'=id
   ·simp only [VO,hid,if_true] at hq;simp only [Exit.inBlock,hid,if_true];exact ⟨M',ρ',hf',hq⟩
   ·simp only [VO,hid,if_false] at hq;simp only [Exit.inBlock,hid,if_false];exact ⟨M',ρ',hf',hq⟩
  |_=>exact ⟨M',ρ',hf',hq⟩)⟩
def T8 {α:Type} (Kp:World→World→Prop) (I:List α→World→Prop) (pre:List α) (x:α) (W:World):Kq
 |.normal,_,W'=>KeepsOthers W W'∧Kp W W'∧I (pre++[x]) W'
 |_,_,_=>False
def X6:Kq:=fun _ _ _=>False
theorem y3 {ps:Tmp}{v:Value}{a:Array Value}:((#[ps]:Array Tmp).zip #[v]).foldl (fun t (p,v)=>t.setIfInBounds p v) a=a.setIfInBounds ps v:=by simp
theorem PT {g:Operand}{p:Tmp}{gf:Nat}{lb:Array Value} (hp:p<N) (hg:ev ρ g=.func (.func gf) #[] lb) (eg:∀args w,(callFunc gf args).run P w=.ok (.enter gf args) w)
  {enc:α→Value}{Kp:World→World→Prop}{S:List α→Prop}{Nn:Nat} (hseq:∀n,SeqStopsK Fence.wide n P gf lb (fun x=> #[enc x]) Kp S (fun _=>True) Nn w)
  (hKt:∀{A B C:World},Kp A B→Kp B C→Kp A C) (hKb:∀(W:World) (l:Nat) (o o':Obj),w.heap.size≤l→W.heap[l]?=some o→o.isCells=false→o.isWalk=false→Kp W (W.putObj l o'))
  (I:List α→World→Prop) (hI:OwnFrom w.heap.size I) (h0:I [] w) (ρ1:α→Rf) (hρ:∀x i,N≤i→ρ1 x i=ρ i)
  (hassign:∀l x W,WC ⟨some l,[],true⟩ P N assign (dV (fun ρ' W'=>ρ'=ρ1 x∧W'=W) X6) (cg ρ p (enc x)) W)
  (hbody:∀l pre x W,I pre W→pre.length<Nn→WC ⟨some l,[],true⟩ P N body (T8 Kp I pre x W) (ρ1 x) W)
  (hdone:∀(D:Nat) (xs:List α) (W:World),w.heap.size≤D→S xs→I xs W→W.heap[D]?=some (.deferred (some []))→Q .normal [D] ρ W):WD P N (.rangeFunc g #[p] assign body) Q ρ w:=by
 refine ⟨fun M a hf n=> ?_⟩;have hfit:∀x,eY N [] { tmps:=Array.ofFn fun i:Fin N=>ρ1 x i,defers:=[] } (ρ1 x):=fun x=>by
  refine ⟨rfl,by simp,fun i=> ?_⟩;rw [acC];by_cases hi:i<N
  ·rw [adW (by simpa using hi)];simp
  ·rw [aeR (by simp;omega),hρ x i abq,←hf.at_ i,acC,aeR (by rw [hf.sz];omega)]
 have main:(Code.rangeFunc g #[p] assign body).wpIn Fence.wide (n+1) P (fun e a' w'=>∃M' ρ',eY N ((M'++M).map tr) a' ρ'∧Q e M' ρ' w') a w:=by
  refine wpIn_rangeFunc_ownF (F:=Fence.wide) (n:=n+1) rfl abq (gf:=gf) (lb:=lb) (by rw [hf.eval];exact hg) trivial eg (hseq _) hKt hKb (Below.refl _ _) (fun _=>rfl) I (fun _ _ _=>False) hI
   (fun _ _ _ _ _ hs _ _=>hs) h0 (fun x=>{ tmps:=Array.ofFn fun i:Fin N=>ρ1 x i,defers:=[] }) (fun l x W K hK=> ?_) (fun l pre x W hi hl=> ?_) (fun D xs W hD hS hi hW=> ?_) (fun _ _ _ _ _ _ h _=>h.elim)
  ·refine wpIn_mono ((hassign l x W).lh _ ⟨rfl, ?_,fun i=> ?_⟩ _) fun e a' w' ⟨ρ',hf',hq⟩=> ?_
   ·rw [y3];simp [hf.sz]
   ·rw [y3,←(hf.put hp (enc x)).at_ i]
    rfl
   ·cases e with
    |normal=>
     obtain ⟨rfl,rfl⟩:=hq;rw [L4 hf' (hfit x)];exact hK
    |_=>exact hq.elim
  ·refine wpIn_mono ((hbody l pre x W hi hl).lh _ (hfit x) _) fun e a' w' ⟨ρ',hf',hq⟩=> ?_
   cases e with
   |normal=>exact hq
   |_=>exact hq.elim
  ·exact ⟨[D],ρ,⟨by rw [hf.nd];rfl,hf.sz,hf.at_⟩,hdone D xs W hD hS hi hW⟩
 intro b k cs hro hb _;exact main b k cs hro hb (room_wide _)
end
def WQ (P:Program) (fn:Func) (R:Ending→World→Prop):Kd:=fun e M ρ w=>
 (e=.normal∨e=.ret)∧∀tmps:Array Value,(∀i,tmps.getD i undef=ρ i)→∀n,LeavesInM Fence.wide n P fn tmps R (M.map tr) .returning w
theorem K8 {f:FuncId}{fn:Func}{c:Code}{l:List Value}
  (hf:P.funcs[f]?=some fn) (hb:fn.body=some c) (hn:fn.ntmps=N) (ha:l.length≤N)
  (h:WD P N c (WQ P fn R) (JO l) w):Calls P f l.toArray w R:=by
 refine (callsIn_wide (n:=0)).1 (callsIn_of_wp_marks hf hb trivial ?_ rfl);refine wpIn_mono (h.out [] _ ⟨rfl,by simp [hn];omega,fun i=> ?_⟩ 0) ?_
 ·exact U6
 ·rintro e a w' ⟨M,ρ',hf',he,hl⟩;rw [acg] at hf'
  rcases he with rfl|rfl
  ·show LeavesInM _ _ _ _ a.tmps _ a.defers _ _;rw [hf'.nd];exact hl _ hf'.at_ 0
  ·show LeavesInM _ _ _ _ a.tmps _ a.defers _ _;rw [hf'.nd];exact hl _ hf'.at_ 0
theorem G9 {f:FuncId}{fn:Func}{c:Code}{l:List Value}
  (hf:P.funcs[f]?=some fn) (hb:fn.body=some c) (hn:fn.ntmps=N) (ha:l.length≤N)
  (h:WC ⟨none,[],true⟩ P N c (oC P fn R) (JO l) w):Calls P f l.toArray w R:=by
 refine (callsIn_wide (n:=0)).1 (callsIn_of_wp hf hb trivial ?_ rfl);refine wpIn_mono (h.lh _ ⟨rfl,by simp [hn];omega,fun i=> ?_⟩ 0) ?_
 ·exact U6
 ·rintro e a w' ⟨ρ',hf',he,v,hr,hR⟩
  rcases he with rfl|rfl
  ·exact ⟨hf'.nd,v,hr _ hf'.at_,hR⟩
  ·exact ⟨hf'.nd,v,hr _ hf'.at_,hR⟩
def HE.Wj:HE→Bool
 |.ob _ _=>false
 |_=>true
theorem xO {x:HE} (h:x.holds base w) (hc:x.Wj=true) (hid:x.id=some b):∃o,w.heap[b]?=some o∧o.isCells=true:=by
 cases x with
 |blk b' t cs fz=>
  obtain rfl:b'=b:=aca hid;exact ⟨_,h.2.1,rfl⟩
 |row A n c t sz xs=>
  rcases h.2 with ⟨h1,_⟩|⟨g,cap,cur,h1,_,h3,_⟩
  ·injection h1 with e1
   subst e1
   cases hid
  ·injection h1 with e1
   subst e1;obtain rfl:g=b:=aca hid;exact ⟨_,h3,rfl⟩
 |ob _ _=>cases hc
theorem Hp.Wd {H:List HE} (h:Hp w0 H w) (hc:∀x∈H,x.Wj=true) {row:Option Nat} (hg:w.grownBy w' row) (hr:∀r,row=some r→w0.heap.size≤r∧∃o:Obj,w.heap[r]?=some o∧o.isCells=false):Hp w0 H w':=by
 refine ⟨⟨hg.os.trans h.below.os,hg.tape.trans h.below.tape,hg.output.trans h.below.output,abW h.size hg.size,fun k hk=> ?_⟩,fun x hx=> ?_,h.nd⟩
 ·refine (hg.block k (acu hk h.size) fun e=> ?_).trans (h.below.block k hk);have:=(hr k e.symm).1;omega
 ·refine qE (h.own x hx) fun b hid=>hg.block b (fg (h.own x hx) hid).2 fun e=> ?_;obtain ⟨o,h1,h2⟩:=xO (h.own x hx) (hc x hx) hid;obtain ⟨_,o',h3,h4⟩:=hr b e.symm;rw [h1] at h3
  cases h3
  rw [h2] at h4
  cases h4
theorem Hp.W7 {H:List HE} (h:Hp w0 H w) (hc:∀x∈H,x.Wj=true) {D:Nat}{o:Obj} (hD:w0.heap.size≤D) (h1:w.heap[D]?=some o) (ho:o.isCells=false):Hp w0 (.ob D o::H) w:=by
 refine ⟨h.below,fun x hx=> ?_, ?_⟩
 ·rcases abO.1 hx with rfl|hx
  ·exact ⟨hD,h1⟩
  ·exact h.own x hx
 ·rw [adL];show (D::H.filterMap HE.id).Nodup;refine adI.2 ⟨fun hm=> ?_,h.nd⟩;obtain ⟨y,hy,hyb⟩:=ac0.1 hm;obtain ⟨o',h2,h3⟩:=xO (h.own y hy) (hc y hy) hyb;rw [h1] at h2
  cases h2
  rw [ho] at h3
  cases h3
def Ru (base:Nat) (ids:List Nat) (w:World) (k:Nat):Option HE:=if base≤k∧ids.contains k=false then (w.heap[k]?).map fun o=>.ob k o else none
def Oe (base:Nat) (ids:List Nat) (w:World):List HE:=(List.range w.heap.size).filterMap (Ru base ids w)
theorem u6 {ids:List Nat}{x:HE} (h:Ru base ids w k=some x):∃o,x=.ob k o∧base≤k∧k∉ids∧w.heap[k]?=some o:=by
 unfold Ru at h;split at h
 ·rename_i h1;obtain ⟨o,h2,h3⟩:=adA.1 h;exact ⟨o,h3.symm,h1.1,by simpa using h1.2,h2⟩
 ·cases h
theorem Hp.Q5 {H:List HE} (h:Hp w0 H w):Hp w0 (H++Oe w0.heap.size (H.filterMap HE.id) w) w:=by
 refine ⟨h.below,fun x hx=> ?_, ?_⟩
 ·rcases acq.1 hx with hx|hx
  ·exact h.own x hx
  ·obtain ⟨k,_,hk⟩:=ac0.1 hx;obtain ⟨o,rfl,h1,_,h3⟩:=u6 hk;exact ⟨h1,h3⟩
 ·rw [ae7];refine List.nodup_append.2 ⟨h.nd, ?_,fun a ha b hb e=> ?_⟩
  ·unfold Oe;rw [List.filterMap_filterMap];refine List.Pairwise.filterMap _ (fun a a' hne b hb b' hb' e=> ?_) List.nodup_range;obtain ⟨x,hx,hx2⟩:=Option.bind_eq_some_iff.1 hb;obtain ⟨y,hy,hy2⟩:=Option.bind_eq_some_iff.1 hb';obtain ⟨o,rfl,_⟩:=u6 hx;obtain ⟨o',rfl,_⟩:=u6 hy;obtain rfl:a=b:=aca hx2;obtain rfl:a'=b':=aca hy2;exact hne e
  ·obtain ⟨x,hx,hx2⟩:=ac0.1 hb;obtain ⟨k,_,hk⟩:=ac0.1 hx;obtain ⟨o,rfl,_,h2,_⟩:=u6 hk;obtain rfl:k=b:=aca hx2;exact h2 (e ▸ ha)
theorem Hp.keeps {H H':List HE} (hs:Hp w0 H w) (hc:∀x∈H,x.Wj=true) (he:Hp w0 (H'++Oe w0.heap.size (H.filterMap HE.id) w) w') (hid:H'.filterMap HE.id=H.filterMap HE.id):KeepsOthers w w':=by
 have key:∀k,k<w.heap.size→k<w'.heap.size∧∀o,w.heap[k]?=some o→o.isCells=false→w'.heap[k]?=some o:=fun k hk=>by
  by_cases h0:k<w0.heap.size
  ·exact ⟨acu h0 he.size,fun o h1 _=>(he.below.block k h0).trans ((hs.below.block k h0).symm.trans h1)⟩
  ·by_cases hm:k∈H.filterMap HE.id
   ·obtain ⟨y,hy,hyb⟩:=ac0.1 (hid ▸ hm);refine ⟨(fg (he.own y (adf _ hy)) hyb).2,fun o h1 h2=> ?_⟩;obtain ⟨z,hz,hzb⟩:=ac0.1 hm;obtain ⟨o',h3,h4⟩:=xO (hs.own z hz) (hc z hz) hzb;rw [h1] at h3
    cases h3
    rw [h2] at h4
    cases h4
   ·have hx:HE.ob k w.heap[k]∈Oe w0.heap.size (H.filterMap HE.id) w:=ac0.2 ⟨k,ab3.2 hk,by
     unfold Ru;rw [abx ⟨abq,by simpa using hm⟩,adW hk]
     rfl⟩
    have h1:=he.own _ (acI _ hx);refine ⟨(fg h1 rfl).2,fun o h2 _=> ?_⟩;rw [adW hk] at h2
    cases h2
    exact h1.2
 refine ⟨?_,fun k o h1 h2=>(key k (afg.1 h1).1).2 o h1 h2⟩
 rcases adw w.heap.size with h|h
 ·omega
 ·have:=(key (w.heap.size-1) abq).1;omega
theorem sI {P:Program}{fn:Func}{tmps:Array Value}{R:Ending→World→Prop}{n:Nat}{w0:World}{H:List HE}:∀(M:List Nat) (w:World),Hp w0 (SW M++H) w→(∀w2,Hp w0 H w2→∃v,(results fn tmps).run P w2=.ok v w2∧R (.returned v) w2)→
  LeavesInM Fence.wide n P fn tmps R (M.map tr) .returning w
 |[],w,hh,h=>h w hh
 |D::M,w,hh,h=>by
  have hD:w.heap[D]?=some (.deferred (some [])):=(hh.own _ abF).2;refine ⟨by simp,.inl ⟨D,w.putObj D (.deferred none),rfl,run_takeDeferred hD,sI M _ ?_ h⟩⟩;have hb:=(hh.own _ abF).1;have h2:=hh.PC (i:=0) (x:=.ob D (.deferred (some []))) (y:=.ob D (.deferred none)) (w':=w.putObj D (.deferred none)) rfl (fun b e=>.inl e) ?_ (fun b hlt hne=>World.putObj_heap_other (fun e=>hne (by rw [e];rfl))) ⟨hb, ?_⟩
  ·exact h2.sub (acn _ _)
  ·have hg:=grownBy_putObj' w D (.deferred none);refine ⟨hg.os.trans hh.below.os,hg.tape.trans hh.below.tape,hg.output.trans hh.below.output,abW hh.size hg.size,fun k hk=>(hg.block k (acu hk hh.size) fun e=> ?_).trans (hh.below.block k hk)⟩
   cases e
   omega
  ·exact World.putObj_heap_same (afg.1 hD).1
theorem Kx {fn:Func}{e:Exit}{M:List Nat}{H:List HE}{rs:List ResultVar} (hh:Hp w0 (SW M++H) w) (he:e=.normal∨e=.ret) (hr:fn.results=rs.toArray)
  (h:∀w2,Hp w0 H w2→ja P ρ w2 rs vs∧R (.returned (zn vs)) w2):WQ P fn R e M ρ w:=by
 refine ⟨he,fun tmps ht n=>sI M w hh fun w2 hh2=> ?_⟩;obtain ⟨h1,h2⟩:=h w2 hh2;obtain ⟨_,v,h3,h4⟩:=l8 (e:=e) he hr h1 h2;exact ⟨v,h3 tmps ht,h4⟩
theorem RD {d:Option Nat}{ty:TypeId}{af:Array Edge}{g:Option (Nat×Bool)}{x:Operand}{ts:Array TypeId}{l:Nat}{fn:FuncId}{tmps:Array Value}
  (hx:ev ρ x=.func (.yield l) #[] #[]) (ha:xI ρ args.toList=vs) (hy:(Instr.yield l vs.toArray).run P w=.ok (.round l fn tmps assign body) w):(execOp (ev ρ) ⟨d,.call ⟨.value x,args,ts⟩,ty,pos,af,g⟩).run P w=.ok (.round l fn tmps assign body) w:=by
 have h2:args.map (ev ρ)=vs.toArray:=pM args ha;simp [execOp,resolve,Deferred.ofValue,hx,h2,invoke,callFunc,program,Sem.run,hy]
theorem Od {Q:Kq}{rest:List Oper}{d:Nat}{ty:TypeId}{af:Array Edge}{x:Operand}{ts:Array TypeId}{l:Nat}
  (hx:ev ρ x=.func (.yield l) #[] #[]) (ha:xI ρ args.toList=vs) (hy:YieldAt Fence.wide m P l vs.toArray w R) (hN:d<N) (kk:∀e w',R e w'→∃v,e=.returned v∧WL ⟨none,[],true⟩ P N ops Q rest (cg ρ d v) w'):
  WL ⟨none,[],true⟩ P N ops Q (⟨some d,.call ⟨.value x,args,ts⟩,ty,pos,af,none⟩::rest) ρ w:=by
 obtain ⟨fn,tmps,as_,bd,h1,h2⟩:=hy;refine ⟨fun h=>(by cases h),fun a hf n=>wpListIn_plain rfl fun K hK=>⟨fun _ _=>trivial, ?_⟩⟩;rw [hf.eval,mE _ (RD hx ha h1) (fun _ h=>by cases h)];refine ⟨fun h=>(by cases h), ?_⟩;refine ⟨trivial,fun c cs _=> ?_⟩;obtain ⟨e,w',hR,hs⟩:=h2.2 c cs (room_wide _);refine ⟨e,w', ?_,hs⟩;obtain ⟨v,rfl,hk⟩:=kk e w' hR;exact hK _ _ (hk.lh _ (hf.put hN v) n)
end Go.Proofs.YtmchncaiffbpaaaGreatDoor
