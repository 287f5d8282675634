/- The row and the card of RatioTrue. -/
import Derived.Test.YtmchncaiffbpaaaGreatDoorCards
import Derived.Test.YtmchncaiffbpaaaGreatDoorTie
import Derived.SevenTiedAt
import Derived.Test.YtmchncaiffbpaaaGreatDoorZ7
set_option maxHeartbeats 0
namespace Go.Proofs.YtmchncaiffbpaaaGreatDoor
variable {X Y:List Dyadic}{ds:List Nat}{k:Nat}
open Go.RowKit
theorem Iq:∀(r:List Dyadic) (a:Dyadic),r.foldl (fun out a=>if decide (a<out)=true then a else out) a≤a∧∀x∈r,r.foldl (fun out a=>if decide (a<out)=true then a else out) a≤x
 |[],a=>⟨by show a≤a;grind,fun _ h=>absurd h acS⟩
 |y::r,a=>by
  obtain ⟨h1,h2⟩:=Iq r (if decide (y<a)=true then y else a);rw [ad8];have h3:(if decide (y<a)=true then y else a)≤a∧(if decide (y<a)=true then y else a)≤y:=by
   by_cases h:y<a
   ·rw [abx (abQ h)];grind
   ·rw [abw (by simpa using h)];grind
  exact Us
theorem IW:∀(r:List Dyadic) (a:Dyadic),a≤r.foldl (fun out a=>if decide (out<a)=true then a else out) a∧∀x∈r,x≤r.foldl (fun out a=>if decide (out<a)=true then a else out) a
 |[],a=>⟨by show a≤a;grind,fun _ h=>absurd h acS⟩
 |y::r,a=>by
  obtain ⟨h1,h2⟩:=IW r (if decide (a<y)=true then y else a);rw [ad8];have h3:a≤(if decide (a<y)=true then y else a)∧y≤(if decide (a<y)=true then y else a):=by
   by_cases h:a<y
   ·rw [abx (abQ h)];grind
   ·rw [abw (by simpa using h)];grind
  exact Us
theorem EH (f:Dyadic→Dyadic→Bool):∀(r:List Dyadic) (a:Dyadic),r.foldl (fun out a=>if f a out then a else out) a∈a::r
 |[],a=>abF
 |y::r,a=>by
  rw [ad8];have h:=EH f r (if f y a then y else a)
  rcases abO.1 h with h|h
  ·rw [h];by_cases h2:f y a
   ·rw [abx h2];exact abN _ abF
   ·rw [abw h2];exact abF
  ·exact abN _ (abN _ h)
theorem Vi {l:List Dyadic}:∀x∈l,fW (fun x y=>decide (x<y)) l≤x:=fun x hx=>by
 cases l with
 |nil=>exact absurd hx acS
 |cons a r=>
  obtain ⟨h1,h2⟩:=Iq r a
  rcases abO.1 hx with rfl|hx
  ·exact h1
  ·exact h2 x hx
theorem V7 {l:List Dyadic}:∀x∈l,x≤fW (fun x y=>decide (y<x)) l:=fun x hx=>by
 cases l with
 |nil=>exact absurd hx acS
 |cons a r=>
  obtain ⟨h1,h2⟩:=IW r a
  rcases abO.1 hx with rfl|hx
  ·exact h1
  ·exact h2 x hx
theorem Ib {f:Dyadic→Dyadic→Bool}{l:List Dyadic} (h:l≠[]):fW f l∈l:=by
 cases l with
 |nil=>exact absurd rfl h
 |cons a r=>exact EH f r a
theorem HK {l:List SR}{s:SR} (h:s∈l):(kA l).lo.d≤s.lo.d∧s.hi.d≤(kA l).hi.d:=by
 unfold kA;rw [a6,a6];exact ⟨Vi _ (abL.2 ⟨s.lo,ade.2 ⟨s,h,abF⟩,rfl⟩),V7 _ (abL.2 ⟨s.hi,ade.2 ⟨s,h,abN _ abF⟩,rfl⟩)⟩
theorem C0 {l:List SR} (h0:l≠[]) (h:∀s∈l,Sz k s.lo.d∧Sz k s.hi.d) (hk:k≤3000000):(kA l).fin k:=by
 have hne:(qp l).map NR.d≠[]:=by
  cases l with
  |nil=>exact absurd rfl h0
  |cons s r=>simp [qp]
 have hm:∀x∈(qp l).map NR.d,Sz k x:=fun x hx=>by
  obtain ⟨a,ha,rfl⟩:=abL.1 hx;obtain ⟨s,hs,ha⟩:=ade.1 ha
  rcases abO.1 ha with rfl|ha
  ·exact (h s hs).1
  ·rw [abX.1 ha];exact (h s hs).2
 exact ⟨qP.of (hm _ (Ib hne)) hk,qP.of (hm _ (Ib hne)) hk⟩
theorem HQ {x y z:Dyadic} (h:x≤y) (hz:0≤z):x*z≤y*z:=by
 have:=o6 (x:=y-x) (by grind) hz;grind
theorem Jh {x y z:Dyadic} (h:x≤y) (hz:z≤0):y*z≤x*z:=by
 have:=o6 (x:=y-x) (y:= -z) (by grind) (by grind);grind
theorem zu {ts:List Dyadic}{c:Dyadic} (ht:∀t∈ts,0≤t∧t<1) (h:∀p,p<ah ds→(X[p]?).getD 0≤c*(Y[p]?).getD 0):eS ds X ts≤c*eS ds Y ts:=by
 unfold eS;rw [←gI];refine vh _ _ _ fun p hp=> ?_;have h1:=h p (ab3.1 hp);have h2:=u5 ds (bB ds p) ts ht;have h3:=o6 (x:=c*(Y[p]?).getD 0-(X[p]?).getD 0) (by grind) h2;grind
theorem val_neg (ds:List Nat) (Y ts:List Dyadic):eS ds (Y.map fun y=> -y) ts= -eS ds Y ts:=by
 have h:∀p:Nat,((Y.map fun y=> -y)[p]?).getD 0= -1*(Y[p]?).getD 0:=fun p=>by
  rw [abI]
  cases Y[p]? with
  |none=>show (0:Dyadic)= -1*0;grind
  |some y=>show -y= -1*y;grind
 have h1:eS ds (Y.map fun y=> -y) ts= -1*eS ds Y ts:=by
  unfold eS;rw [←gI];refine acm _ (funext fun p=> ?_);rw [h];grind
 rw [h1];grind
theorem UQ {ts:List Dyadic} (ht:∀t∈ts,0≤t∧t<1) (h:∀p,p<ah ds→(Y[p]?).getD 0<0):eS ds Y ts<0:=by
 have h1:=M5 (ds:=ds) (Y:=Y.map fun y=> -y) ht fun p hp=>by
  have h2:=h p hp;rw [abI]
  cases hy:Y[p]? with
  |none=>rw [hy] at h2;exact absurd h2 (show ¬(0:Dyadic)<0 by grind)
  |some y=>rw [hy] at h2;show 0< -y;replace h2:y<0:=h2;grind
 rw [val_neg] at h1;grind
theorem Qm {ts:List Dyadic}{p:Int} (ht:∀t∈ts,0≤t∧t<1) (hx:X.length=ah ds) (hy:Y.length=ah ds) (h:tS (Y.map nR)≠0):Dw (kA (l4 X Y p)) (eS ds X ts) (eS ds Y ts):=by
 have hsg:∀y∈Y,fB y 0=tS (Y.map nR):=fun y hy=>by
  have:=HS h (nR y) (abL.2 ⟨y,hy,rfl⟩);rw [←this,NR.sign,a6]
 have hat:∀q,q<ah ds→∃x y,X[q]?=some x∧Y[q]?=some y∧(kA (l4 X Y p)).lo.d≤Fq x y p∧ -Fq (-x) y p≤(kA (l4 X Y p)).hi.d∧y∈Y:=fun q hq=>by
  obtain ⟨x,h1⟩:=ai (l:=X) (k:=q) abq;obtain ⟨y,h2⟩:=ai (l:=Y) (k:=q) abq;have h3:=HK (abz (rq (p:=p) h1 h2));unfold KI at h3;rw [a6,a6] at h3;exact ⟨x,y,h1,h2,h3.1,h3.2,abz h2⟩
 generalize kA (l4 X Y p)=H at*;generalize tS (Y.map nR)=S at*;have hpos:=de ds;obtain ⟨x0,y0,_,_,_,_,hy0⟩:=hat 0 hpos;have hS:=hsg y0 hy0;have hSb:=vp y0 0;rw [hS] at hSb;by_cases h1:S=1
 ·have hp:∀y∈Y,0<y:=fun y hy=>(rJ y 0).1 (by rw [hsg y hy];omega);refine .inl ⟨M5 ht fun q hq=> ?_,Df ht fun q hq=> ?_,zu ht fun q hq=> ?_⟩
  ·obtain ⟨x,y,_,e2,_,_,hy⟩:=hat q hq;rw [e2];exact hp y hy
  ·obtain ⟨x,y,e1,e2,h3,_,hy⟩:=hat q hq;rw [e1,e2];have h4:=hp y hy;exact Std.le_trans (HQ h3 (by grind)) (HC p h4)
  ·obtain ⟨x,y,e1,e2,_,h3,hy⟩:=hat q hq;rw [e1,e2];have h4:=hp y hy;have h5:=HC (x:= -x) p h4;have h6:=HQ h3 (show 0≤y by grind);show x≤H.hi.d*y;grind
 ·have hn:∀y∈Y,y<0:=fun y hy=>(vd y 0).1 (by rw [hsg y hy];omega);refine .inr ⟨UQ ht fun q hq=> ?_,zu ht fun q hq=> ?_,Df ht fun q hq=> ?_⟩
  ·obtain ⟨x,y,_,e2,_,_,hy⟩:=hat q hq;rw [e2];exact hn y hy
  ·obtain ⟨x,y,e1,e2,h3,_,hy⟩:=hat q hq;rw [e1,e2];have h4:=hn y hy;exact Std.le_trans (HO p h4) (Jh h3 (by grind))
  ·obtain ⟨x,y,e1,e2,_,h3,hy⟩:=hat q hq;rw [e1,e2];have h4:=hn y hy;have h5:=HO (x:= -x) p h4;have h6:=Jh h3 (show y≤0 by grind);show H.hi.d*y≤x;grind
variable {N:Nat}{ts:List TR}
theorem vJ:∀(N:Nat) (l:List Nat),l.Nodup→(∀x∈l,x<N)→l.length≤N
 |0,l,_,h=>by
  cases l with
  |nil=>exact abD _
  |cons x l=>exact absurd (h x abF) abq
 |N+1,l,hd,h=>by
  by_cases hm:N∈l
  ·have h1:=vJ N (l.erase N) (hd.erase N) fun x hx=>by
    have:=(hd.mem_erase_iff).1 hx;have:=h x this.2;omega
   rw [List.length_erase_of_mem hm] at h1;omega
  ·have:=vJ N l hd fun x hx=>by
    have:=h x hx;have:x≠N:=fun e=>hm (e ▸ hx);omega
   omega
theorem QH {l:List TR} (hr:u1 l) (h:∀t∈l,ku ds (cX t.m)):l.length≤ah ds:=by
 have h1:=vJ (ah ds) (l.map fun t=>dh ds (cX t.m)) (by
  unfold List.Nodup;rw [List.pairwise_map];refine List.Pairwise.imp_of_mem (fun {a b} ha hb hl e=> ?_) hr;have e2:cX a.m=cX b.m:=by rw [←iw (h a ha),e,iw (h b hb)]
  rw [EK e2,iu] at hl
  cases hl) (fun x hx=>by
  obtain ⟨t,ht,rfl⟩:=abL.1 hx;exact ke (h t ht))
 rwa [abH] at h1
theorem Va {v:Nat}{l:List TR}{B:Nat→Nat} (hs:∀t∈l,t.m.size=v) (h:pe B l):∀t∈l,ku ((List.range v).map B) (cX t.m):=fun t ht=>by
 rw [nc];refine ⟨by rw [n7,hs t ht,abH,adn],fun i d r hd hr=> ?_⟩;have hi:=(abM.1 hd).1;rw [abH,adn] at hi;rw [abI,acy hi] at hd;have:=h t ht i;rw [H9,hr] at this;rw [←aca hd];exact this
theorem D8 {v:Nat}{B:Nat→Nat} (h:jR (v:Int) ts=0) (hb:pe B ts):ts.length≤ah ((List.range v).map B):=by
 obtain ⟨_,_,h3,h4⟩:=cv h;refine QH h4.ua (Va (fun t ht=> ?_) hb);have:=h3 t ht;exact V9
theorem yV {v:Int}{q p:List TR}{sub:List TR→Int×List TR}{j D K T B c N:Nat} (hv:jG v=true) (hq:kv v K q) (hT:q.length≤T) (hD:∀t∈p,iJ j t≤D) (hb:∀n,(sub (bz p j n)).1=0→kv v B (sub (bz p j n)).2∧(sub (bz p j n)).2.length≤N)
  (hN:∀i,i≤128→(bE q sub p j i).1=0→(bE q sub p j i).2.length≤N) (hc:K+N*T+(N*T+N)≤c) (hS:B+D*c+N≤500000) (hc2:c≤100000) (hN4:N≤4096):
  ∀i,i≤128→(bE q sub p j i).1=0→kv v (B+(i+D-128)*c+N) (bE q sub p j i).2
 |0,_,_=>kv.nil hv
 |i+1,hi,h0=>by
  by_cases h1:i+1+D≤127
  ·rw [jS hD _ h1];exact kv.nil hv
  ·have h2:(bE q sub p j i).1=0:=by
    refine adN fun c=> ?_;rw [kX c (Nat.le_succ i)] at h0;exact c h0
   have hle:(i+1+D-128)*c≤D*c:=acx _ abq;have ih:=yV hv hq hT hD hb hN hc hS hc2 hN4 i abq h2;have hNi:=hN i abq h2;have hst:i+D≤127→bE q sub p j i=(0,[]):=jS hD i;have hmul:¬i+D≤127→(i+1+D-128)*c=(i+D-128)*c+c:=fun h=>by rw [show i+1+D-128=(i+D-128)+1 by omega,acD]
   have hle0:(i+D-128)*c≤(i+1+D-128)*c:=acx _ abq;rw [lv] at h0 ⊢;unfold jB at h0 ⊢;rw [abw (fun h=>h h2)] at h0 ⊢;by_cases c1:(bE q sub p j i).2.length=0∧(bz p j (127-i)).length=0
   ·rw [abx c1];exact ih.mono abq
   ·rw [abw c1] at h0 ⊢;by_cases c2:gH (bE q sub p j i).2 q≠0
    ·rw [abx c2] at h0;exact absurd h0 c2
    ·rw [abw c2] at h0 ⊢;by_cases c3:(sub (bz p j (127-i))).1≠0
     ·rw [abx c3] at h0;exact absurd h0 c3
     ·rw [abw c3] at h0 ⊢;by_cases c4:gZ (aA (cj (bE q sub p j i).2 q)++(sub (bz p j (127-i))).2)≠0
      ·rw [abx c4] at h0;exact absurd h0 c4
      ·rw [abw c4];obtain ⟨hs1,hs2⟩:=hb (127-i) abq;obtain ⟨f1,f2,f3,f4⟩:=cv ih.e;obtain ⟨g1,g2,g3,g4⟩:=cv hs1.e;by_cases hlow:i+D≤127
       ·rw [hst hlow];have hl:(aA (cj [] q)++(sub (bz p j (127-i))).2).length≤N:=hs2;refine (nO (k:=B) (n:=N) hv (fun t ht=>g3 t ht) (fun t ht=>hs1.ok t ht) (fun t ht=>hs1.sz t ht) hl abq abq).mono abq
       ·have ht:=(l9 (p:=(bE q sub p j i).2) (q:=q) abq);have hpl:(cj (bE q sub p j i).2 q).length≤N*T:=by rw [ph];exact acR hNi hT
        have hm:=hmul hlow;rw [hm] at hle ⊢;generalize (i+D-128)*c=y at*;generalize D*c=z at*;have hpo:=rg ih.ok hq.ok abq;have hg1:=nK (k:=B+y+N+K) (j:=B+y+N+K+N*T) hpo abq abq;have hg2:=dr (cj (bE q sub p j i).2 q);have hmm:∀{P:TR→Prop},(∀t∈aA (cj (bE q sub p j i).2 q),P t)→(∀t∈(sub (bz p j (127-i))).2,P t)→∀t∈aA (cj (bE q sub p j i).2 q)++(sub (bz p j (127-i))).2,P t:=fun a b t ht=>(acq.1 ht).elim (a t) (b t);refine ⟨jx hv (Cj abq) (hmm (qC (tM f3 ht.2.1)) g3),nK (k:=B+y+N+K+N*T) (hmm hg1 (hs1.ok.mono abq)) (by rw [abJ];omega) abq,qO (hmm (DB ih.ok hq.ok hq.sz abq abq).2 hs1.sz)⟩
theorem MR {v K T c:Nat} (hv:v≤12) (D:Nat→Nat) (hN:ah ((List.range v).map D)≤N) (hc:K+N*T+(N*T+N)≤c) (hc2:c≤100000) (hN4:N≤4096):∀(qs:List (List TR)) (j:Nat) (p:List TR) (ds:List Nat) (k:Nat),(∀(i:Nat) (q:List TR),qs[i]?=some q→kv v K q∧q.length≤T∧pe (fun x=>if x=j+i then 1 else 0) q)→iO k p→ds.length=qs.length→(∀(i d:Nat),ds[i]?=some d→D (j+i)=d)→(∀t∈p,∀i,i<qs.length→iJ (j+i) t≤D (j+i))→k+1+(ds.sum+ds.length)*c≤400000→
  (fP v qs j p).1=0→kv v (k+1+(ds.sum+ds.length)*c) (fP v qs j p).2∧(fP v qs j p).2.length≤N:=by
 intro qs
 induction qs with
 |nil=>
  intro j p ds k _ hok hds _ _ hB _;obtain rfl:ds=[]:=aeu.1 hds;have h1:kv v (k+1) (fP v [] j p).2:=by
   refine tK (jM hv) ?_ abq;exact S1
  refine ⟨h1.mono (Nat.le_add_right _ _),abW (D8 h1.e (B:=fun _=>0) (xP v _).aA) (abW ?_ hN)⟩;have e:∀(f:Nat→Nat) (l:List Nat),ah (l.map fun _=>0)≤ah (l.map f):=fun f l=>by
   induction l with
   |nil=>exact abD _
   |cons x l ih=>exact acR (Nat.succ_le_succ (abB _)) ih
  exact e D _
 |cons q qs ih=>
  intro j p ds k hq hok hds hdD hp hB h0
  cases ds with
  |nil=>cases hds
  |cons d ds=>
   have hdj:D j=d:=hdD 0 d rfl;obtain ⟨hq1,hq2,hq3⟩:=hq 0 q rfl;rw [acY] at hq3;rw [aeK,ab0] at hB ⊢;have hBe:(d+ds.sum+(ds.length+1))*c=(ds.sum+ds.length)*c+d*c+c:=by rw [show d+ds.sum+(ds.length+1)=(ds.sum+ds.length)+d+1 by omega,adJ,adJ,adZ]
   rw [hBe] at hB ⊢;have hNc:N≤c:=abq;have hpw:∀n,∀t∈bz p j n,∀i,i<qs.length→iJ (j+1+i) t≤D (j+1+i):=fun n t ht i hi=>by
    exact Ud
   have hsub:∀n,(fP v qs (j+1) (bz p j n)).1=0→kv v (k+1+(ds.sum+ds.length)*c) (fP v qs (j+1) (bz p j n)).2∧(fP v qs (j+1) (bz p j n)).2.length≤N:=fun n hn=>by
    refine ih (j+1) (bz p j n) ds k (fun i r hr=> ?_) (fun t ht=>hok t (lE t ht)) (by simpa using hds) (fun i e he=> ?_) (hpw n) abq hn
    ·have:=hq (i+1) r (by simpa using hr);rwa [show j+1+i=j+(i+1) by omega]
    ·have:=hdD (i+1) e (by simpa using he);rwa [show j+1+i=j+(i+1) by omega]
   have hsbn:∀n,(fP v qs (j+1) (bz p j n)).1=0→pe (fun x=>if j+1≤x∧x<j+1+qs.length then D x else 0) (fP v qs (j+1) (bz p j n)).2:=fun n hn=>JT qs (j+1) (bz p j n) D (fun i r hr=>by
    have:=(hq (i+1) r (by simpa using hr)).2.2;rwa [show j+1+i=j+(i+1) by omega]) (hpw n) hn
   have hDp:∀t∈p,iJ j t≤d:=fun t ht=>by rw [←hdj];exact hp t ht 0 (by rw [ab0];omega)
   rw [Ai] at h0 ⊢;generalize fP v qs (j+1)=sub at hsub hsbn h0 ⊢;have hlim0:∀i,i≤128→(bE q sub p j i).1=0→jR (v:Int) (bE q sub p j i).2=0:=fun i hi hz=>by
    clear h0
    induction i with
    |zero=>exact (kv.nil (k:=0) (jM hv)).e
    |succ i ihi=>
     have h2:(bE q sub p j i).1=0:=by
      refine adN fun c=> ?_;rw [kX c (Nat.le_succ i)] at hz;exact c hz
     have e0:=ihi abq h2;rw [lv] at hz ⊢;unfold jB at hz ⊢;rw [abw (fun h=>h h2)] at hz ⊢;by_cases c1:(bE q sub p j i).2.length=0∧(bz p j (127-i)).length=0
     ·rw [abx c1];exact e0
     ·rw [abw c1] at hz ⊢;by_cases c2:gH (bE q sub p j i).2 q≠0
      ·rw [abx c2] at hz;exact absurd hz c2
      ·rw [abw c2] at hz ⊢;by_cases c3:(sub (bz p j (127-i))).1≠0
       ·rw [abx c3] at hz;exact absurd hz c3
       ·rw [abw c3] at hz ⊢;by_cases c4:gZ (aA (cj (bE q sub p j i).2 q)++(sub (bz p j (127-i))).2)≠0
        ·rw [abx c4] at hz;exact absurd hz c4
        ·rw [abw c4];refine jx (jM hv) (Cj abq) fun t ht=>(acq.1 ht).elim (qC (tM (cv e0).2.2.1 (l9 abq).2.1) t) ((cv (hsub _ abq).1.e).2.2.1 t)
   have hbn:=xy hq3 hDp (E:=fun x=>if j+1≤x∧x<j+1+qs.length then D x else 0) (by rw [abw abq]) hsbn;have hNN:∀i,i≤128→(bE q sub p j i).1=0→(bE q sub p j i).2.length≤N:=fun i hi hz=>by
    refine abW (D8 (hlim0 i hi hz) ((hbn i hi hz).mono (C:=D) fun x=> ?_)) hN;by_cases hx:x=j
    ·rw [abx hx,hx,hdj];omega
    ·rw [abw hx];split
     ·exact abD _
     ·exact abB _
   have e:∀m,m=128→(bE q sub p j m).1=0→kv v (k+1+((ds.sum+ds.length)*c+d*c+c)) (bE q sub p j m).2∧(bE q sub p j m).2.length≤N:=fun m hm hz=>by
    have h3:=yV (jM hv) hq1 hq2 hDp hsub hNN hc abq hc2 hN4 m abq hz;rw [show m+d-128=d by omega] at h3;exact ⟨h3.mono abq,hNN m abq hz⟩
   exact e 128 rfl h0
variable {C:Nat}{xs:List Dyadic}
theorem GZ {d a:Nat} (t:Dyadic) (h:a≤d):sm (List.range (d+1)) (fun r=>fa d 1 1 a r*gG d r t)=t^a:=by
 have e0:(fun r=>fa d 1 1 a r*gG d r t)=fun k=>if k<a then 0 else (fun j=>nD (bin (d-a) j)*gG d (j+a) t) (k-a):=funext fun k=>by
  unfold fa;by_cases hk:k<a
  ·rw [abx hk,abx hk,Dyadic.zero_mul]
  ·rw [abw hk,abw hk,j5,j5];show nD (bin (d-a) (k-a))*1*1*gG d k t=nD (bin (d-a) (k-a))*gG d (k-a+a) t;rw [Nat.sub_add_cancel abq];grind
 have hb:=Iw (d-a) t (1-t);rw [show t+(1-t)=1 by grind,j5] at hb;rw [e0,TO d a h fun j=>nD (bin (d-a) j)*gG d (j+a) t];have e1:∀j,j∈List.range (d-a+1)→nD (bin (d-a) j)*gG d (j+a) t=t^a*(nD (bin (d-a) j)*t^j*(1-t)^(d-a-j)):=fun j hj=>by
  have:=ab3.1 hj;unfold gG;rw [show d-(j+a)=d-a-j by omega,kR];grind
 rw [a9 e1,gI,hb];grind
theorem NC:∀(ds s:List Nat) (ts:List Dyadic),ku ds s→ts.length=ds.length→sm (List.range (ah ds)) (fun p=>wK 0 ds s (bB ds p)*iH ds (bB ds p) ts)=je s ts
 |[],[],[],_,_=>by show (1:Dyadic)*1+0=1;grind
 |[],_::_,_,h,_=>by cases h
 |_::_,[],_,h,_=>by cases h
 |[],[],_::_,_,h=>by cases h
 |_::_,_::_,[],_,h=>by cases h
 |d::ds,a::s,t::ts,h1,h2=>by
  have ih:=NC ds s ts h1.2 (by simpa using h2);rw [Bt,je,←ih,←GZ t h1.1,←gI];refine a9 fun q _=> ?_;rw [←ky];refine a9 fun r hr=> ?_;have hr2:=ab3.1 hr;rw [bB,adF,aci hr2,ac2 _ _ abq,acz hr2,ab2,iH];show fa d 1 1 a r*wK 0 ds s (bB ds q)*_=_;grind
theorem tI:∀(s:List Nat) (ts:List Dyadic) (a:Nat) (t:Dyadic),s.length=ts.length→je (s++[a]) (ts++[t])=je s ts*t^a
 |[],[],a,t,_=>by show t^a*1=1*t^a;grind
 |[],_::_,_,_,h=>by cases h
 |_::_,[],_,_,h=>by cases h
 |b::s,u::ts,a,t,h=>by
  show u^b*je (s++[a]) (ts++[t])=u^b*je s ts*t^a;rw [tI s ts a t (by simpa using h)];grind
theorem Eh:∀(s:List Nat) (ts:List Dyadic),s.length=ts.length→je s.reverse ts.reverse=je s ts
 |[],[],_=>rfl
 |[],_::_,h=>by cases h
 |_::_,[],h=>by cases h
 |b::s,u::ts,h=>by
  rw [adQ,adQ,tI _ _ _ _ (by simpa using h),Eh s ts (by simpa using h),je];grind
theorem Vn {ns:List Nat}{S:List TR}{ts:List Dyadic} (hS:∀t∈S,ku ns.reverse (cX t.m).reverse) (ht:ts.length=ns.length):eS ns.reverse (mR ns S) ts=iG ts.reverse S:=by
 unfold eS;have e1:sm (List.range (ah ns.reverse)) (fun p=>((mR ns S)[p]?).getD 0*iH ns.reverse (bB ns.reverse p) ts)=sm (List.range (ah ns.reverse)) fun p=>sm S fun t=>t.c.d*(wK 0 ns.reverse (cX t.m).reverse (bB ns.reverse p)*iH ns.reverse (bB ns.reverse p) ts):=a9 fun p hp=>by
  unfold mR;rw [abI,acy (ab3.1 hp)];show wS _ S*_=_;rw [Ir,←ky];exact a9 fun t _=>by grind
 rw [e1,px];unfold iG;rw [Ir];refine a9 fun t h=> ?_;rw [gI,NC _ _ _ (hS t h) (by rw [abY];exact ht)];have hl:=IH (hS t h);rw [abY,abY] at hl;have:=Eh (cX t.m).reverse ts (by rw [abY,hl,ht]);rw [ad0] at this;rw [this]
theorem Rr (f:ByteArray→Dyadic) (c:Dyadic) (l:List TR):wS f (l.map (qI c))=wS f l*c:=by
 induction l with
 |nil=>exact (Dyadic.zero_mul _).symm
 |cons t l ih=>
  rw [ab8,wS,wS,ih];show (nR (t.c.d*c)).d*f t.m+_=_;rw [a6];grind
theorem EO:∀(v i:Nat) (xs:List Dyadic),xs.length=v→i<v→je (((List.replicate v 0).set i 1)) xs=(xs[i]?).getD 0
 |0,_,_,_,h=>absurd h (Nat.not_lt_zero _)
 |v+1,i,[],h,_=>by cases h
 |v+1,0,x::xs,h,_=>by
  show x^1*je (List.replicate v 0) xs=x;rw [pD];grind
 |v+1,i+1,x::xs,h,hi=>by
  show x^0*je ((List.replicate v 0).set i 1) xs=(xs[i]?).getD 0;rw [EO v i xs (by simpa using h) abq,adK];grind
theorem MN (v i:Nat):cX (mN v i)=(List.replicate v 0).set i 1:=by
 unfold cX mN;show ((((List.replicate (v:Int).toNat (0:UInt8)).set i 1).toArray).toList).map UInt8.toNat=_;rw [List.toList_toArray,adz,List.map_replicate]
 rfl
theorem Km (v:Nat):cX (eZ v)=List.replicate v 0:=by
 unfold cX eZ;show (((List.replicate (v:Int).toNat (0:UInt8)).toArray).toList).map UInt8.toNat=_;rw [List.toList_toArray,List.map_replicate]
 rfl
theorem PD {v i:Nat}{s:SR} (hx:xs.length=v) (hi:i<v):iG xs (iX v i s)=s.L+(s.H-s.L)*(xs[i]?).getD 0:=by
 unfold iX uP wm Cd;rw [jV,qx,jV,jV];have e1:iG xs [⟨eZ v,nR s.L⟩]=s.L:=by
  show (nR s.L).d*je (cX (eZ v)) xs+0=_;rw [a6,Km,pD];grind
 have e2:iG xs ((aA [⟨mN v i,nR ((1:Int):Dyadic)⟩]).map (qI (s.H-s.L)))=(xs[i]?).getD 0*(s.H-s.L):=by
  unfold iG;rw [Rr,tT];show ((nR ((1:Int):Dyadic)).d*je (cX (mN v i)) xs+0)*_=_;rw [a6,MN,EO v i xs hx hi,show (((1:Int):Dyadic))=1 from rfl];grind
 rw [e1,e2];grind
def vj (b:List SR) (xs:List Dyadic):List Dyadic:=b.mapIdx fun i s=>s.L+(s.H-s.L)*(xs[i]?).getD 0
theorem Lb {b:List SR} (hx:xs.length=b.length):(a7 b).map (fun g=>iG xs g.ts)=vj b xs:=by
 refine acp fun i=> ?_;unfold vj;rw [abI,adj]
 cases hs:b[i]? with
 |none=>
  rw [abT (by rw [k9];exact afe.1 hs)]
  rfl
 |some s=>
  rw [iE hs];show some (iG xs (iX b.length i s))=some _;rw [PD hx (abM.1 hs).1]
theorem QD {p:PX}{b:List SR} (h0:(cU p (a7 b)).1=0) (hx:xs.length=b.length):iG xs (cU p (a7 b)).2=iG (vj b xs) p.ts:=by
 rw [Wo h0,Lb hx]
theorem KW {p:PX}{b:List SR}{ns:List Nat}{s:Nat} (h:n0 p b ns) (ho:iO k p.ts) (hb:∀z∈b,z.fin k) (hk:k≤1000) (hN:ah (bY p.v p.ts)≤N) (hN2:N≤1000) (hs:(bY p.v p.ts).sum≤s) (hB:k+1+(s+12)*(k+k+10+5*N)≤400000) (h0:(cU p (a7 b)).1=0):
  kv b.length (k+1+(s+12)*(k+k+10+5*N)) (cU p (a7 b)).2∧(cU p (a7 b)).2.length≤N:=by
 have hl:=h.sY;have hpos:=h.pos;have hln:=k9 b;obtain ⟨_,o2,o3⟩:=oO h.e;have hol:=h.BX;have hhv:ir (a7 b)=b.length:=by
  obtain ⟨z,hz⟩:=ai (l:=b) (k:=0) abq;rw [oe (iE hz)]
 unfold cU at h0 ⊢;rw [abw (fun c=>c h.e),abw (by rw [hln,h.v];exact fun c=>c rfl)] at h0 ⊢;by_cases hlk:(a7 b).length≠0∧ic (a7 b)≠0
 ·rw [abx hlk] at h0;exact absurd h0 hlk.2
 ·rw [abw hlk,hhv] at h0 ⊢;have hD:(List.range b.length).map (fun i=>((bY p.v p.ts)[i]?).getD 0)=bY p.v p.ts:=by
   refine acp fun i=> ?_;rw [abI];by_cases hi:i<b.length
   ·obtain ⟨d,hd⟩:=ai (l:=bY p.v p.ts) (k:=i) abq;rw [acy hi,hd];show some (((bY p.v p.ts)[i]?).getD 0)=some d;rw [hd]
    rfl
   ·rw [abT (by rw [adn];omega),abT abq]
    rfl
  have hsl:((bY p.v p.ts).sum+(bY p.v p.ts).length)*(k+k+10+5*N)≤(s+12)*(k+k+10+5*N):=acx _ abq;have h1:=MR (K:=k+k+10) (T:=2) (c:=k+k+10+5*N) (N:=N) hl (fun i=>((bY p.v p.ts)[i]?).getD 0) (by rw [hD];exact hN) abq abq abq ((a7 b).map PX.ts) 0 p.ts (bY p.v p.ts) k (fun i q hq=> ?_) ho (by rw [abH,hln,hol]) (fun i d hd=>by rw [ab2,hd];rfl) (fun t ht i hi=> ?_) abq h0
  ·exact ⟨h1.1.mono abq,h1.2⟩
  ·rw [abI] at hq;obtain ⟨g,hg,rfl⟩:=adA.1 hq;obtain ⟨z,hz⟩:=ai (l:=b) (k:=i) (by have:=(abM.1 hg).1;rwa [hln] at this);rw [iE hz] at hg;rw [←aca hg,ab2];obtain ⟨a1,a2⟩:=pG (v:=b.length) (i:=i) hl (hb z (abz hz)) abq;exact ⟨a1,a2,zX _ i z⟩
  ·rw [abH,hln] at hi;rw [ab2];obtain ⟨d,hd⟩:=ai (l:=bY p.v p.ts) (k:=i) abq;rw [hd];exact (o3 i d hd).2.1 t ht
theorem Ie:∀(ds:List Nat),(∀d∈ds,d≤5)→2^ds.sum≤ah ds*ah ds
 |[],_=>abD _
 |d::ds,h=>by
  have h1:=Ie ds fun x hx=>h x (abN _ hx);have h2:=h d abF;have h3:2^d≤(d+1)*(d+1):=by
   match d,h2 with
   |0,_=>decide
   |1,_=>decide
   |2,_=>decide
   |3,_=>decide
   |4,_=>decide
   |5,_=>decide
  rw [aeK,ab5,ah];have:=acR h3 h1
  calc 2^d*2^ds.sum≤(d+1)*(d+1)*(ah ds*ah ds):=this
   _=(d+1)*ah ds*((d+1)*ah ds):=by rw [Nat.mul_mul_mul_comm]
theorem VN {s:Nat} (h:∀d∈ds,d≤5) (hc:ah ds≤C) (hs:C*C<2^(s+1)):ds.sum≤s:=by
 have h1:=Ie ds h;have h2:=acR hc hc;have h3:2^ds.sum<2^(s+1):=abq;have:=(afd (by decide:1<2)).1 h3;omega
theorem Az (c k:Nat):∀ds:List Nat,fH c ds k=k+ds.sum*c+ds.length*8192
 |[]=>by rw [tF];simp
 |d::ds=>by
  rw [qD,Az c k ds,aeK,ab0,adJ,acD];omega
theorem Ua {ns:List Nat}{S:List TR} (hS:∀t∈S,ku ns.reverse (cX t.m).reverse) (hk:iO k S) (hd:∀d∈ns,d≤127):∀x∈mR ns S,Sz (k+S.length+520*ns.length) x:=by
 rw [←Fc hS];exact Gx (SY hk) (fun d h=>hd d (adp.1 h)) ns.length
theorem sQ {p:PX}{b:List SR}{ds:List Int} (h:jF p b ds=0):nH p b (o8 p ds)=0∧(cU p (a7 b)).1=0:=by
 unfold jF at h;by_cases h0:nH p b (o8 p ds)≠0
 ·rw [abx h0] at h;exact absurd h h0
 ·rw [abw h0] at h;exact ⟨ac7.1 h0,h⟩
variable {w:World}
theorem D6 {t:TR}{B:Nat} (h:∀c∈t.m.data.toList,c.toNat≤B) (i:Nat):nW t.m i≤B:=by
 unfold nW
 cases he:t.m.data.toList[i]? with
 |none=>exact Int.natCast_nonneg B
 |some e=>have:=h e (abz he);show ((e.toNat:Nat):Int)≤B;omega
theorem AF {v:Int}{B:Nat} (h:jR v ts=0) (hb:∀t∈ts,∀c∈t.m.data.toList,c.toNat≤B):∀d∈bY v ts,d≤B:=fun d hd=>by
 obtain ⟨i,hi⟩:=acG.1 hd;have h1:=((oO h).2.2 i d hi).2.2;have h2:=(PB (l:=ts) (i:=i) (B:=(B:Int)) (Int.natCast_nonneg B) fun t ht=>D6 (hb t ht) i).2;omega
structure D0 (p:PX) (b:List SR) (C s:Nat):Prop where
 n:p.ts.length≤8
 ok:iO 124 p.ts
 sz:∀t∈p.ts,t.m.size≤20
 ex:∀t∈p.ts,∀c∈t.m.data.toList,c.toNat≤4
 box:∀z∈b,z.fin 124
 Fs:p.e=0→ah (bY p.v p.ts)≤C
 RZ:C*C<2^(s+1)
theorem D0.sum {p:PX}{b:List SR}{s:Nat} (h:D0 p b C s) (he:p.e=0):(bY p.v p.ts).sum≤s:=VN (fun d hd=>by have:=AF he h.ex d hd;omega) (h.Fs he) h.RZ
theorem D0.grow {p:PX}{b:List SR}{s:Nat} (h:D0 p b C s) (hs:s≤14) (he:p.e=0):fH (124+124+16394) (bY p.v p.ts) (124+1)≤440000:=by
 have h1:=h.sum he;have h2:=(oO he).2.1;have h3:=(fN.1 (cv he).1).2;rw [Az];have h4:(bY p.v p.ts).sum*(124+124+16394)≤14*(124+124+16394):=acx _ abq;have h5:(bY p.v p.ts).length*8192≤12*8192:=acx _ abq;omega
theorem D0.jz {p:PX}{b:List SR}{s:Nat} (h:D0 p b C s) (hp:p.at_ w) (hc:p.n≤p.c):p.jz 124:=⟨by have:=hp.ln;have:=h.n;omega,hc,h.ok,fun t ht=>abW (h.sz t ht) abr⟩
theorem D0.small {p:PX}{b:List SR}{s:Nat}{ns:List Nat} (h:D0 p b C s) (hs:s≤14) (hC:C≤200) (hF:n0 p b ns) (h0:(cU p (a7 b)).1=0):(iO 40000 (cU p (a7 b)).2∧∀t∈(cU p (a7 b)).2,ku ns.reverse (cX t.m).reverse)∧∀x∈mR ns (cU p (a7 b)).2,Sz 47000 x:=by
 obtain ⟨h1,h2⟩:=KW hF h.ok h.box abr (abW (h.Fs hF.e) hC) abr (abW (h.sum hF.e) hs) abr h0;have h3:=(ti hF h.ok h.box abr (h.grow hs hF.e) h0).2;have h4:=h1.ok.mono (show 124+1+(14+12)*(124+124+10+5*200)≤40000 by decide);refine ⟨⟨h4,h3⟩,fun x hx=>(Ua h3 h4 hF.low x hx).mono ?_⟩;have h5:=hF.nl;have h6:=hF.sY;omega
def aaH (a:NR):Bool:=decide ((8:Int)<a.aO.size∨a.e< -60∨60<a.e)
structure SmQ (ts:List TR):Prop where
 n:ts.length≤10
 ok:iO 124 ts
 sz:∀t∈ts,t.m.size≤20
 ex:∀t∈ts,∀c∈t.m.data.toList,c.toNat≤6
structure MY (v:Int) (k n D:Nat) (ts:List TR):Prop where
 e:jR v ts=0
 ok:iO k ts
 sz:∀t∈ts,t.m.size≤100000
 len:ts.length≤n
 ex:∀t∈ts,∀c∈t.m.data.toList,c.toNat≤D
theorem V6 {p:PX}{b:List SR}{ns:List Nat}{ts:List Dyadic} (hF:n0 p b ns) (h0:(cU p (a7 b)).1=0) (h3:∀t∈(cU p (a7 b)).2,ku ns.reverse (cX t.m).reverse) (ht:ts.length=ns.length):eS ns.reverse (mR ns (cU p (a7 b)).2) ts=iG (vj b ts.reverse) p.ts:=by
 rw [Vn h3 ht,QD h0 (by rw [abY,ht,hF.nl])]
structure aaO (p:PX):Prop where
 n:p.ts.length≤8
 ok:iO 124 p.ts
 ex:∀t∈p.ts,t.m.size≤20∧∀c∈t.m.data.toList,c.toNat≤4
structure MB (p:PX) (b:List SR) (ns:List Nat):Prop where
 vl:∀ts:List Dyadic,ts.length=ns.length→eS ns.reverse (mR ns (cU p (a7 b)).2) ts=iG (vj b ts.reverse) p.ts
 sz:∀x∈mR ns (cU p (a7 b)).2,Sz 460000 x
theorem IA {p:PX}{b:List SR}{ns:List Nat} (hF:n0 p b ns) (h0:(cU p (a7 b)).1=0) (ho:iO k p.ts) (hb:∀s∈b,s.fin k) (hk:k≤1000) (hgr:fH (k+k+16394) (bY p.v p.ts) (k+1)≤440000):MB p b ns:=by
 obtain ⟨h1,h2⟩:=ti hF ho hb hk hgr h0;refine ⟨fun ts ht=>V6 hF h0 h2 ht,fun x hx=>(Ua h2 h1.ok hF.low x hx).mono ?_⟩;have h3:=(cv h1.e).2.1;have h4:=hF.nl;have h5:=hF.sY;omega
structure aat (p q s o:PX) (b:List SR) (ns:List Nat) (c:Dyadic):Prop where
 fit:n0 p b ns
 Fs:ah ns≤100
 es:jF s b (a0 ns)=0
 eo:jF o b (a0 ns)=0
 gs:MY s.v 140 16 4 s.ts
 go:MY o.v 125 1 0 o.ts
 ws:fH (140+140+16394) (bY s.v s.ts) (140+1)≤440000
 wo:fH (140+140+16394) (bY o.v o.ts) (140+1)≤440000
 sum:mR ns (cU s (a7 b)).2=Vv (mR ns (cU p (a7 b)).2) (mR ns (cU q (a7 b)).2)
 con:mR ns (cU o (a7 b)).2=((yx ns).map nD).map fun y=>c*y
 zp:∀x∈mR ns (cU p (a7 b)).2,Sz 460000 x
 zq:∀x∈mR ns (cU q (a7 b)).2,Sz 460000 x
def aaR (A:List Nat) (e:Nat) (X:List Dyadic):List Dyadic:=Xm (X5 (ah A) (e+1)) (kJ A (e+1) (e+1) (Xs (e+1)) X X.length 0) X.length
def ZP:List (Nat→Dyadic)→List Nat→Dyadic
 |f::fs,r::rs=>f r*ZP fs rs
 |_,_=>1
def vG (ds:List Nat) (X:List Dyadic) (fs:List (Nat→Dyadic)):Dyadic:=sR ds fun row=>co ds X row*ZP fs row
def Xk (ds:List Nat) (ts:List Dyadic):List (Nat→Dyadic):=List.zipWith (fun d t r=>gG d r t) ds ts
def pwF (ts:List Dyadic):List (Nat→Dyadic):=ts.map fun t r=>t^r
def aba (ds:List Nat) (ts:List Dyadic) (k:Nat):List (Nat→Dyadic):=(Xk ds ts).take (ds.length-k)++(pwF ts).drop (ds.length-k)
def wT (b:List SR) (ns:List Nat):Nat→Dyadic
 |0=>1
 |i+1=>wT b ns i*Xu b i^(ns.getD i 0)
theorem LS {b:List SR}{s:SR} (h:p7 b=0) (hs:s∈b):s.lo.d<s.hi.d:=by
 unfold p7 at h;by_cases h1:b.any (fun s=> !decide (s.lo.d<s.hi.d))=true
 ·rw [abx h1] at h;omega
 ·rw [Bool.not_eq_true,ac9] at h1;have:=h1 s hs;simpa using this
structure Z4 (p:PX) (b:List SR) (fx:FX) (ns:List Nat):Prop where
 e:YL fx b=0
 q:(Ym fx b).2=aA (p.ts.map (qI (wT b ns b.length)))
 s:Lm p (wT b ns b.length)=0
 n:(aA (p.ts.map (qI (wT b ns b.length)))).length≤8
def shX (up:Bool) (d:Nat) (s:Dyadic):Nat→Nat→Dyadic:=if up then yJ d s else yG d s
def shS (ns rr:List Nat) (a:Nat) (xs:List Dyadic) (M:Nat→Nat→Dyadic) (r i:Nat):Dyadic:=sm (List.range i) fun j=>co ns.reverse xs (rr.set a j)*M j r
def aaw (a:NR):Bool:=decide ((8:Int)<a.aO.size∨a.e< -60∨60<a.e)
def FX.YT (f:FX):Prop:=f.jz 124∧f.m≤120∧f.n≤20∧∀d∈f.ds,d≤6∨128≤d
abbrev fxC (l:List Int) (A:Option Addr) (a:Nat) (B:Option Addr) (b:Nat):FX:=⟨A,1,a,B,l.length,b,[(l.length:Int)-1],l.map fun z:Int=>nR ((z:Dyadic)*dm (-2))⟩
abbrev xsC (l:List Int):List Dyadic:=l.map fun z:Int=>(z:Dyadic)*dm (-2)
def Zf (l:List Int):VP:=fun v W=>∃g:FX,v=.agg #[.slice g.A g.n g.a,.slice g.B g.m g.b]∧g.ds=[(l.length:Int)-1]∧g.cs=(l.map fun z:Int=>nR ((z:Dyadic)*dm (-2)))∧g.at_ W
def Zb (base:Nat) (E:Int) (D:List Nat) (ys:List Dyadic):VP:=fun v W=>∃g:FX,v=.agg #[.slice g.A g.n g.a,.slice g.B g.m g.b]∧Out E D ys g∧∃w2:World,base≤w2.heap.size∧Hp w2 [g.jW,g.jY] W
def aaj (base:Nat) (E:Int) (D:List Nat) (ys zs:List Dyadic):VP:=fun v W=>∃g h:FX,v=.tuple #[.agg #[.slice g.A g.n g.a,.slice g.B g.m g.b],.agg #[.slice h.A h.n h.a,.slice h.B h.m h.b],.int .i64 E]∧Out E D ys g∧Out E D zs h∧∃w2:World,base≤w2.heap.size∧Hp w2 [h.jW,h.jY,g.jY,g.jW] W
def aaI (ap d t:Nat) (xs:List Dyadic) (i:Nat):List Dyadic:=((List.range i).filter fun p=>decide (p/ap % (d+1)=t)).map fun p=>(xs[p]?).getD 0
variable {α:Type}
theorem BA (l:List α) {a:Nat} (h:a<l.length) (x:α):(l.set a x).reverse=l.reverse.set (l.length-1-a) x:=by
 refine acp fun i=> ?_;by_cases hi:i<l.length
 ·rw [ac6 (by rw [acU];exact hi),acV,acV,acU,abY,ac6 hi];by_cases e:a=l.length-1-i
  ·rw [abx e,abx abq,abx abq,abx abq]
  ·rw [abw e,abw abq]
 ·rw [abT (by simp;omega),abT (by simp;omega)]
theorem Lc {ns:List Nat}{a:Nat} (ha:a<ns.length) (s t:Dyadic) (xs ts:List Dyadic) (hl:ts.length=ns.length):
  eS ns.reverse (kC false s ns a xs) (ts.set a t).reverse=eS ns.reverse xs (ts.set a (s*t)).reverse∧
  eS ns.reverse (kC true s ns a xs) (ts.set a t).reverse=eS ns.reverse xs (ts.set a (s+(1-s)*t)).reverse:=by
 have hg:ns.reverse.getD (ns.length-1-a) 0=ns.getD a 0:=by
  rw [adm,adm,ac6 abq];congr 2;omega
 rw [BA _ abq,BA _ abq,BA _ abq,hl];unfold kC;simp only [aey,if_false,if_true];have la:ns.length-1-a<ns.reverse.length:=by rw [abY];omega
 have ll:ts.reverse.length=ns.reverse.length:=by rw [abY,abY,hl]
 exact ⟨Al la ll fun i hi=>by rw [hg] at hi ⊢;exact QI s t hi,Al la ll fun i hi=>by rw [hg] at hi ⊢;exact Sn s t hi⟩
def sp (p:Int×Int):SR:=⟨nR (D p.1 0),nR (D p.2 0)⟩
def PI (p:Int×Int):List Value:=[.int .i64 p.1,.int .i64 p.2]
def VZ (a:NR):Bool:=decide ((30:Int)<a.aO.size∨a.e< -200∨200<a.e)
def YQ (s:SR):Bool:=VZ s.lo||VZ s.hi
def Z3 (b:List SR) (p:List NR):Bool:=(decide (8<b.length)||decide (8<p.length))||(b.any YQ||p.any VZ)
def exB:List SR:=[sp (0,4),sp (0,2)]
theorem SR.le (s:SR):¬s.H<s.L:=Nc _ _
theorem SR.WW (s:SR):s.f.L=s.L:=by
 have h:=s.le;show Oh (nR s.L).d (nR s.H).d=s.L;rw [a6,a6,Oh,abw h]
theorem SR.X7 (s:SR):s.f.H=s.H:=by
 have h:=s.le;show Nd (nR s.L).d (nR s.H).d=s.H;rw [a6,a6,Nd];split
 ·rfl
 ·rename_i g;grind
def ZY (b:List SR) (a:Nat) (s:SR) (u:Bool):List SR:=(b.map SR.f).set a (s.f.half (nR s.f.kB) u)
theorem J3 {s:SR} (h:s.lo.d<s.hi.d):s.L=s.lo.d∧s.H=s.hi.d:=by
 have h2:¬s.hi.d<s.lo.d:=by grind
 unfold SR.L SR.H Oh Nd;rw [abw h2,abx h];exact ⟨rfl,rfl⟩
theorem rp:dm (-1)+dm (-1)=1:=by decide+kernel
structure Qd (l:List TR) (ns:List Nat) (b:List SR) (X:List Dyadic):Prop where
 len:X.length=ah ns
 bl:b.length=ns.length
 up:∀s∈b,s.lo.d<s.hi.d
 vl:∀ts:List Dyadic,ts.length=ns.length→eS ns.reverse X ts=iG (vj b ts.reverse) l
def mH (b:List SR) (a:Nat) (s:SR) (u:Bool):List SR:=(b.map SR.f).set a (s.f.half (nR s.f.kB) u)
theorem kq {s:SR} (h:s.lo.d<s.hi.d):∃m,(nR s.f.kB).d=m∧m+m=s.L+s.H∧s.f.lo.d=s.L∧s.f.hi.d=s.H∧s.L<m∧m<s.H:=by
 obtain ⟨c1,c2⟩:=J3 h;have e1:s.f.lo.d=s.L:=a6 _;have e2:s.f.hi.d=s.H:=a6 _;refine ⟨s.f.kB,a6 _, ?_,e1,e2, ?_⟩
 ·unfold SR.kB;rw [e1,e2];have:=rp;grind
 ·have e3:s.f.kB+s.f.kB=s.L+s.H:=by
   unfold SR.kB;rw [e1,e2];have:=rp;grind
  rw [←c1,←c2] at h;constructor<;>grind
theorem Qh {b:List SR}{a:Nat}{s:SR}{u:Bool} (hb:∀s∈b,s.lo.d<s.hi.d) (hs:b[a]?=some s):∀z∈mH b a s u,z.lo.d<z.hi.d:=fun z hz=>by
 have hsm:=abz hs;obtain ⟨m,e0,e1,e2,e3,e4,e5⟩:=kq (hb s hsm)
 rcases aeN hz with h|rfl
 ·obtain ⟨y,hy,rfl⟩:=abL.1 h;obtain ⟨m2,f0,f1,f2,f3,f4,f5⟩:=kq (hb y hy);rw [f2,f3];grind
 ·cases u with
  |false=>show s.f.lo.d<(nR s.f.kB).d;rw [e0,e2];exact e4
  |true=>show (nR s.f.kB).d<s.f.hi.d;rw [e0,e3];exact e5
theorem IL {b:List SR}{a:Nat}{s:SR}{u:Bool}{us:List Dyadic}{t:Dyadic} (hb:∀s∈b,s.lo.d<s.hi.d) (hs:b[a]?=some s) (hu:us[a]?=some t):vj (mH b a s u) us=vj b (us.set a (if u then dm (-1)+(1-dm (-1))*t else dm (-1)*t)):=by
 have hsm:=abz hs;have ha:=(abM.1 hs).1;have hau:=(abM.1 hu).1;obtain ⟨m,e0,e1,e2,e3,e4,e5⟩:=kq (hb s hsm);refine acp fun i=> ?_;unfold vj mH;rw [adj,adj,acV,acV];by_cases hi:a=i
 ·subst hi;rw [abx rfl,abx rfl,abx (by rw [abH];exact ha),abx hau,hs,hu];show some _=some _;congr 1;have h2:=rp
  cases u with
  |false=>
   have hup:(s.f.half (nR s.f.kB) false).lo.d<(s.f.half (nR s.f.kB) false).hi.d:=by show s.f.lo.d<(nR s.f.kB).d;rw [e0,e2];exact e4
   obtain ⟨k1,k2⟩:=J3 hup;show (s.f.half (nR s.f.kB) false).L+((s.f.half (nR s.f.kB) false).H-(s.f.half (nR s.f.kB) false).L)*t=s.L+(s.H-s.L)*(dm (-1)*t);rw [k1,k2];show s.f.lo.d+((nR s.f.kB).d-s.f.lo.d)*t=s.L+(s.H-s.L)*(dm (-1)*t);rw [e0,e2];have:m-s.L=(s.H-s.L)*dm (-1):=by grind
   rw [this];grind
  |true=>
   have hup:(s.f.half (nR s.f.kB) true).lo.d<(s.f.half (nR s.f.kB) true).hi.d:=by show (nR s.f.kB).d<s.f.hi.d;rw [e0,e3];exact e5
   obtain ⟨k1,k2⟩:=J3 hup;show (s.f.half (nR s.f.kB) true).L+((s.f.half (nR s.f.kB) true).H-(s.f.half (nR s.f.kB) true).L)*t=s.L+(s.H-s.L)*(dm (-1)+(1-dm (-1))*t);rw [k1,k2];show (nR s.f.kB).d+(s.f.hi.d-(nR s.f.kB).d)*t=s.L+(s.H-s.L)*(dm (-1)+(1-dm (-1))*t);rw [e0,e3];have g1:m=s.L+(s.H-s.L)*dm (-1):=by grind
   have g2:s.H-m=(s.H-s.L)*(1-dm (-1)):=by grind
   rw [g2]
   conv=>lhs;rw [g1]
   grind
 ·rw [abw hi,abw hi,abI]
  cases hy:b[i]? with
  |none=>rfl
  |some y=>
   show some (y.f.L+(y.f.H-y.f.L)*_)=some (y.L+(y.H-y.L)*_);rw [SR.WW,SR.X7]
theorem Qd.half {l:List TR}{ns:List Nat}{b:List SR}{a:Nat}{s:SR} (h:Qd l ns b X) (hs:b[a]?=some s) (u:Bool):Qd l ns (mH b a s u) (kC u (dm (-1)) ns a X):=by
 have hbl:=h.bl;have ha:=(abM.1 hs).1;refine ⟨LW _ _ _ _ _,by unfold mH;rw [acU,abH];exact hbl,Qh h.up hs,fun ts ht=> ?_⟩;obtain ⟨t,hu⟩:=ai (l:=ts.reverse) (k:=a) (by rw [abY];omega);have hse:ts=(ts.reverse.set a t).reverse:=by
  have:ts.reverse.set a t=ts.reverse:=by
   refine acp fun i=> ?_;rw [acV];by_cases hi:a=i
   ·subst hi;rw [abx rfl,abx (by rw [abY];omega),hu]
   ·rw [abw hi]
  rw [this,ad0]
 obtain ⟨v1,v2⟩:=Lc (ns:=ns) (a:=a) abq (dm (-1)) t X ts.reverse (by rw [abY];exact ht);rw [IL h.up hs hu]
 cases u with
 |false=>
  conv=>lhs;rw [hse]
  rw [v1,h.vl _ (by simp;omega),ad0]
  rfl
 |true=>
  conv=>lhs;rw [hse]
  rw [v2,h.vl _ (by simp;omega),ad0]
  rfl
theorem Mq {b:List SR}{h:Int} (hb:R4 b.length h=false):∃s,b[(h/2).toNat]?=some s∧tD b h=some (mH b (h/2).toNat s (decide (h % 2=1))):=by
 unfold R4 at hb;have h1:=of_decide_eq_false hb;have h0:0≤h:=abq;have e1:h.fdiv 2=h/2:=afh _ abr;have e2:h.tdiv 2=h/2:=Int.tdiv_eq_ediv_of_nonneg h0;rw [e2] at h1;obtain ⟨s,hs⟩:=ai (l:=b) (k:=(h/2).toNat) abq;refine ⟨s,hs, ?_⟩;unfold tD;rw [e1,abw abq,hs]
 rfl
theorem O8 {b:List SR}{a:Nat}{s:SR}{u:Bool} (hb:∀z∈b,z.fin k) (hk:k+2≤3000000) (hs:b[a]?=some s):∀z∈mH b a s u,z.fin (k+2):=by
 have ha:=(abM.1 hs).1;have h1:tD b (2*(a:Int)+if u then 1 else 0)=some (mH b a s u):=by
  obtain ⟨s2,h2,h3⟩:=Mq (b:=b) (h:=2*(a:Int)+if u then 1 else 0) (by
   unfold R4;refine abR ?_;rw [Int.tdiv_eq_ediv_of_nonneg (by split<;>omega)];split<;>omega)
  have e1:((2*(a:Int)+if u then 1 else 0)/2).toNat=a:=by split<;>omega
  have e2:decide ((2*(a:Int)+if u then 1 else 0) % 2=1)=u:=by
   cases u with
   |true=>exact abQ (by show (2*(a:Int)+1) % 2=1;omega)
   |false=>exact abR (by show ¬(2*(a:Int)+0) % 2=1;omega)
  rw [e1] at h2;rw [hs] at h2;rw [h3,e1,e2,aca h2]
 exact (G5 hb hk h1).1
structure aae (p:PX) (b:List SR) (ns:List Nat) (X:List Dyadic):Prop where
 e:jF p b (a0 ns)=0
 x:mR ns (cU p (a7 b)).2=X
theorem Uc {p:PX}{b:List SR}{ns:List Nat} (hF:n0 p b ns) (h:MB p b ns):Qd p.ts ns b (mR ns (cU p (a7 b)).2):=⟨Bo _ _,hF.nl.symm,fun s hs=>LS hF.box hs,h.vl⟩
theorem WY {l:List TR}{ns:List Nat}{b:List SR} (h:Qd l ns b X):Qd l ns (b.map SR.f) X:=by
 have hbl:=h.bl;refine ⟨h.len,by rw [abH];exact hbl,fun z hz=> ?_,fun ts ht=> ?_⟩
 ·obtain ⟨y,hy,rfl⟩:=abL.1 hz;obtain ⟨m2,f0,f1,f2,f3,f4,f5⟩:=kq (h.up y hy);rw [f2,f3];grind
 ·rw [h.vl ts ht];congr 1;unfold vj;refine acp fun i=> ?_;rw [adj,adj,abI]
  cases hy:b[i]? with
  |none=>rfl
  |some y=>
   show some (y.L+(y.H-y.L)*_)=some (y.f.L+(y.f.H-y.f.L)*_);rw [SR.WW,SR.X7]
structure Zl (p q:PX) (b:List SR) (ns:List Nat) (a:Nat) (X:List Dyadic):Prop where
 Y9:MY q.v 300 8 4 q.ts
 e:jF q b (a0 (XD ns a))=0
 grow:fH (300+300+16394) (bY q.v q.ts) (300+1)≤440000
 x:mR (XD ns a) (cU q (a7 b)).2=YZ ns a X
variable {Hr:List HE}{m o:Nat}{w0:World}
structure Md (E:Value→HE) (g o:Nat):Prop where
 ld:∀{w0 w:World}{Hr:List HE}{v:Value},Hp w0 (E v::Hr) w→w.cell? ⟨g,o,none⟩=some v
 st:∀{ro:Mode}{P:Program}{N:Nat}{ops:Array Oper}{Q:Kq}{ρ:Rf}{w w0:World}{rest:List Oper}{Hr:List HE}{ty:TypeId}{pos:String}{af:Array Edge}{t:TypeId}{x y:Operand}{by':Nat}{ag:Bool}{zc:List Value}{v v':Value},
  Hp w0 (E v::Hr) w→ev ρ x=.pointer (some ⟨g,o,none⟩)→ev ρ y=v'→v'.cells= #[v']→dy P t=some (1,ag,by',zc)→v'.oneCell'=true→
  (∀w',Hp w0 (E v'::Hr) w'→WL ro P N ops Q rest ρ w')→WL ro P N ops Q (⟨none,.store t x y,ty,pos,af,none⟩::rest) ρ w
theorem ff {g c i:Nat}{t:TypeId}{xs:List Value} (hi:i<xs.length):Md (fun v=>.row (some ⟨g,0,none⟩) m c t 1 (xs.set i v)) g (i*1):=by
 refine ⟨fun {w0 w Hr v} hh=> ?_,fun {ro P N ops Q ρ w w0 rest Hr ty pos af t' x y by' ag zc v v'} hh hx hy hc ht h1 k=> ?_⟩
 ·exact hh.ff (i:=0) (o:=i*1) rfl (by rw [abZ];exact List.getElem?_set_self hi)
 ·refine bM hh (i:=0) (vs:=[v']) hx rfl hy hc ht rfl (by rw [acU];omega) (by simp [h1]) fun w' hh'=>k w' ?_;have e:bK (xs.set i v) (i*1) [v']=xs.set i v':=by
   rw [abZ,cu (by rw [acU];exact hi),List.set_set]
  rw [e] at hh';exact hh'
def P8 (w:World) (a:Addr):Nat:=match w.cell? a with|some v=>lenOf v|none=>0
def zd (x:Dyadic) (m:Nat):List NR:=(List.range m).map fun i=>nR (x^i)
theorem P4 {x:Dyadic}{i:Nat} (h:i<m):(zd x m)[i]?=some (nR (x^i)):=by
 unfold zd;rw [abI,acy h]
 rfl
theorem CS (x:Dyadic) (m:Nat):zd x (m+1)=zd x m++[nR (x^m)]:=by unfold zd;rw [adk,acM];rfl
theorem F1 {E:Value→HE}{g:Nat} (hE:Md E g o) (x:NR) (n m:Nat) (A:Option Addr) (c k:Nat) (w:World) (hT:dq w0) (hh:Hp w0 (E (.slice A m c)::.row A m c 33 3 (ar NR.cells (zd x.d m))::Hr) w) (hn:n≤127) (hm:m≤1000) (hx:x.ok∧Sz k x.d) (hk:k≤1000):
  Calls Tryz.prog 66 #[.pointer (some ⟨g,o,none⟩),.agg #[.bool x.neg,.string x.aO,.int .i64 x.e],.int .i64 n] w fun r w'=>r=.returned (.agg #[.bool (nR (x.d^n)).neg,.string (nR (x.d^n)).aO,.int .i64 (nR (x.d^n)).e])∧∃(A':Option Addr) (m' c':Nat),m'≤1000∧Hp w0 (E (.slice A' m' c')::.row A' m' c' 33 3 (ar NR.cells (zd x.d m'))::Hr) w':=by
 refine ae (N:=61) (l:=[.pointer (some ⟨g,o,none⟩),.agg #[.bool x.neg,.string x.aO,.int .i64 x.e],.int .i64 n]) Tryz.func66 rfl rfl (by simp) ?_;refine bX ?_;intro b4 w4 hh b6 w6 hh;refine bG az.out rfl (hE.ld (hh.sub (.cons _ (.cons _ (aco _))))) abr ?_;have hpow:∀q,q≤127→Sz 128000 (x.d^q):=fun q hq=>by
  have h1:=hx.2.pow q;exact h1.mono (by have:=acR hk hq;omega)
 by_cases h0:m=0
 ·subst h0;refine aj ?_;refine db [] [0] [0,0,2,6,14,0,32,126,255,511,1023] 7 [[(0,none)],[(0,none)],[(14,some 1)],[(15,some 2)],[(16,some 3)],[],[(18,some 5)]] [(6,19),(5,18),(4,17),(3,16),(2,15),(1,14),(0,13)] hh mixed abt dx rfl (by repeat (first|exact bV|refine bD ?_|refine bU ?_)) ?_;refine Wt ?_;refine Wt ?_;refine Yx ?_;refine CB ?_;refine Io ?_;refine dC (fun _ hj=>k5 1 _ (hT.hp hj.hp) abr abr) ?_;refine uW [_,_,_] ?_;refine av ?_;intro f W hJ hV _;have hb_2:=hJ.bl;obtain ⟨v19,v18,v17,v16,v15,v14,v13,_⟩:=hV;obtain ⟨A19,c19,e19,f19⟩:Rows _ _ _ (f 6) W:=v19;replace hh:=hJ.hp;refine ay (aQ (aa e19 (aa v18 (aa v17 (aa v16 (aa v15 (aa v14 (aa v13 aw)))))))) ?_;dsimp only [bA];clear e19 hJ;refine bQ hh (i:=3) rfl rfl rfl (f19) bq.out az.out rfl abr (by first|rfl|exact cS _|exact cn _|exact bg _|exact bj NR.one _) abq abq abr ?_;intro A20 c20 w20 hh;simp only [abK,ab9] at hh;refine aj ?_;replace hh:=hh.perm (acf (l₁:=[_,_]));simp only [abE,abC] at hh;refine hE.st (v':=.slice A20 (0+1) c20) hh rfl rfl rfl az.out rfl ?_;intro ws hh
  replace hh:=hh.perm (acf (l₁:=[_,_]));simp only [abE,abC] at hh;replace hh:=hh.perm (acf (l₁:=[_,_]));simp only [abE,abC] at hh;refine aj ?_;have e0:ar NR.cells (zd x.d 0)++[.bool (nR ((1:Int):Dyadic)).neg,.string (nR ((1:Int):Dyadic)).aO,.int .i64 (nR ((1:Int):Dyadic)).e]=ar NR.cells (zd x.d (0+1)):=by rw [CS,bo,mD,adK];rfl
  rw [e0] at hh;refine vK zL5
   (fun w'=>∃(m:Nat) (A:Option Addr) (c:Nat),0<m∧m≤1000∧Hp w0 (.blk b6 33 [.bool false,.string (ByteArray.mk #[]),.int .i64 0] (0,0)::.blk b4 33 [.bool x.neg,.string x.aO,.int .i64 x.e] (0,0)::E (.slice A m c)::.row A m c 33 3 (ar NR.cells (zd x.d m))::Hr) w')
   (fun w'=>n+1-P8 w' ⟨g,o,none⟩) ?_ ?_
  ·exact ⟨0+1,_,_,abr,abr,hh⟩
  ·exact T9
 ·refine aj ?_;refine vK zL5
   (fun w'=>∃(m:Nat) (A:Option Addr) (c:Nat),0<m∧m≤1000∧Hp w0 (.blk b6 33 [.bool false,.string (ByteArray.mk #[]),.int .i64 0] (0,0)::.blk b4 33 [.bool x.neg,.string x.aO,.int .i64 x.e] (0,0)::E (.slice A m c)::.row A m c 33 3 (ar NR.cells (zd x.d m))::Hr) w')
   (fun w'=>n+1-P8 w' ⟨g,o,none⟩) ?_ ?_
  ·exact ⟨m,A,c,abq,hm,hh⟩
  ·exact T9
variable {K K':Value→World→Prop}{ag:Bool}{b by' fuel j n:Nat}{cs vs zc:List Value}{fz:Nat×Nat}{ops:Array Oper}{parts:Array (Nat×Operand)}{pos:String}{ps:List (Nat×Value)}{ρ:Rf}
section
variable {P:Program}{N:Nat}{Q:Kq}{ρ:Rf}{w:World}
theorem Na {L:Array Bool} (hne:Region.ready .any ops L≠[])
  (h:∀i∈Region.ready .any ops L,∃o d,ops[i]?=some o∧o.dst=some d∧d<N∧OG P ops o ρ w fun v w'=>WA P N ops Q fuel (L.setIfInBounds i true) (cg ρ d v) w'):WA P N ops Q (fuel+1) L ρ w:=by
 refine ⟨fun a hf=>wpAny_all rfl hne fun i hi=> ?_⟩;obtain ⟨o,d,ho,hd,hN,hg⟩:=h i hi;unfold wpOp;rw [ho];simp only [];exact hg.out a (fun a w=>wpAny P .any ops (lift N Q) fuel (L.setIfInBounds i true) a w) (lift N Q) hf.at_ fun v w' hk=>by
  rw [hd];exact hk.out _ (hf.put hN v)
def waits (o:Oper) (j:Nat):Bool:=o.after.toList.any fun e=>(e.on==j) && Region.binds .any e
abbrev Lv:=Nat→Value→List HE→Prop
def Spec (P:Program) (l:List Oper) (w0:World) (ρ:Rf) (dst:Nat→Nat) (m:Nat) (S:Lv) (pre:Nat→List HE) (rest:List HE) (i:Nat):Prop:=
 ∃o,l[i]?=some o∧∀(ρ1:Rf) (w1:World) (F:List HE) (R:Nat→List HE),(∀s,(∀j,j<m→dst j≠s)→ρ1 s=ρ s)→(∀j,waits o j=true→S j (ρ1 (dst j)) (R j)∧∀x∈R j,x∈F)→(∀x∈rest,x∈F)→Hp w0 (pre i++F) w1→
  OG P l.toArray o ρ1 w1 fun v w2=>∃R',S i v R'∧Hp w0 (R'++F) w2
def KE:Nat→(Nat→Prop)→Prop
 |0,_=>True
 |k+1,p=>KE k p∧p k
theorem OX:∀{k:Nat}{p:Nat→Prop},(∀i,i<k→p i)→KE k p
 |0,_,_=>trivial
 |k+1,_,h=>⟨OX fun i hi=>h i abq,h k abq⟩
theorem qW (n j:Nat):(Array.replicate n false).getD j false=false:=by
 rw [acC,Array.getElem?_replicate];split<;>rfl
theorem KE.get:∀{k:Nat}{p:Nat→Prop},KE k p→∀i,i<k→p i
 |k+1,p,h,i,hi=>by
  by_cases e:i=k
  ·rw [e];exact h.2
  ·exact KE.get h.1 i abq
def Ue (l:List Oper) (m N:Nat) (dst:Nat→Nat):Bool:=
 decide (m≤l.length) && ((List.range m).all fun i=>match l[i]? with|some o=>(o.dst==some (dst i)) && decide (dst i<N) && (o.after.toList.all fun e=> !Region.binds .any e||decide (e.on<i))|none=>false) &&
 decide ((List.range m).map dst).Nodup &&
 ((List.range (l.length-m)).all fun k=>match l[m+k]? with|some o=>(List.range m).all fun j=>waits o j|none=>false) &&
 ((List.range (l.length-m)).all fun k=>Region.ready .any l.toArray (iY l.length (m+k))==[m+k]) && (Region.ready .any l.toArray (iY l.length l.length)==[])
theorem An {l:List Oper}{L:Array Bool}{i:Nat}:i∈Region.ready .any l.toArray L↔i<l.length∧L.getD i true=false∧∃o,l[i]?=some o∧∀e∈o.after,Region.binds .any e=true→L.getD e.on false=true:=by
 unfold Region.ready;rw [acX,ab3,show l.toArray.size=l.length by simp];constructor
 ·rintro ⟨h1,h2⟩;have ho:l.toArray[i]?=some l[i]:=by simp [h1]
  rw [ho] at h2;simp only [adr,acW,abS,aep] at h2;refine ⟨h1,h2.1,l[i],by simp,fun e he hb=> ?_⟩;have:=aeO.1 h2.2 e he;simpa [hb] using this
 ·rintro ⟨h1,h2,o,ho,h3⟩;refine ⟨h1, ?_⟩;rw [show l.toArray[i]?=some o by simpa using ho];exact Tq
theorem Bm {L:Array Bool} (h:¬∀i,i<m→L.getD i false=true):∃i,i<m∧L.getD i false=false∧∀j,j<i→L.getD j false=true:=by
 induction m with
 |zero=>exact absurd (fun i hi=>by omega) h
 |succ m ih=>
  by_cases h1:∀i,i<m→L.getD i false=true
  ·refine ⟨m,abq, ?_,h1⟩
   cases hc:L.getD m false with
   |false=>rfl
   |true=>
    refine absurd (fun i hi=> ?_) h;by_cases e:i=m
    ·rw [e];exact hc
    ·exact h1 i abq
  ·obtain ⟨i,h2,h3⟩:=ih h1;exact ⟨i,abq,h3⟩
theorem vP {R:Nat→List HE}{i:Nat} (h:i<m) (rest:List HE):((List.range m).flatMap R++rest).Perm (R i++(((List.range m).filter (· !=i)).flatMap R++rest)):=by
 have h1:∀m,i<m→((List.range m).flatMap R).Perm (R i++((List.range m).filter (· !=i)).flatMap R):=fun m=>by
  induction m with
  |zero=>intro h;omega
  |succ m ih=>
   intro h;rw [adk,ad9,aed,ad9];by_cases e:i=m
   ·subst e;have h2:(List.range i).filter (· !=i)=List.range i:=List.filter_eq_self.2 fun j hj=>by have:=ab3.1 hj;simp;omega
    rw [h2,show [i].filter (· !=i)=[] by simp];simp only [adV,List.flatMap_nil,acg];exact aeI
   ·rw [show [m].filter (· !=i)=[m] by simp;omega,←acb];exact (ih abq).append_right _
 rw [←acb];exact (h1 m h).append_right _
theorem Pd {ρ':Rf}{f:Nat→Value}{ds:List (Nat×Nat)} (h1:∀p∈ds,ρ' p.2=f p.1) (h2:∀s,(∀p∈ds,p.2≠s)→ρ' s=ρ s) (hn:(ds.map (·.2)).Nodup):ρ'=gD ρ f ds:=funext fun s=>by
 obtain ⟨h3,h4⟩:=l0 (ρ:=ρ) f ds s hn;by_cases h:∃p∈ds,p.2=s
 ·obtain ⟨p,hp,rfl⟩:=h;rw [h3 p.1 hp];exact h1 p hp
 ·rw [h4 fun i hi=>h ⟨(i,s),hi,rfl⟩];exact h2 s fun p hp e=>h ⟨p,hp,e⟩
theorem OG.imp {o:Oper} (h:OG P ops o ρ w K) (hk:∀v w',K v w'→K' v w'):OG P ops o ρ w K':=⟨fun a next Q ha hn=>h.out a next Q ha fun v w' hv=>hn v w' (hk v w' hv)⟩
theorem lS {L:Array Bool}{i:Nat} (h:i<L.size):(L.setIfInBounds i true).getD j false=(decide (j=i)||L.getD j false):=by
 rw [acC,acC,Array.getElem?_setIfInBounds];by_cases e:i=j
 ·subst e;simp [h]
 ·rw [abw e,abR (fun e2=>e e2.symm),ace]
theorem Ls {L:Array Bool}{i:Nat} (h:i<L.size) (hu:L.getD i false=false):∀m,i<m→(List.range m).countP (fun j=>(L.setIfInBounds i true).getD j false)=(List.range m).countP (fun j=>L.getD j false)+1:=by
 have hlow:∀m,m≤i→(List.range m).countP (fun j=>(L.setIfInBounds i true).getD j false)=(List.range m).countP (fun j=>L.getD j false):=fun m hm=>by
  refine List.countP_congr fun j hj=> ?_;have:=ab3.1 hj;rw [lS h,abR abq,ace]
 intro m
 induction m with
 |zero=>intro h;omega
 |succ m ih=>
  intro hm;rw [adk,List.countP_append,List.countP_append];by_cases e:i=m
  ·subst e;rw [hlow i (abD _),ae6,ae6,lS h,hu];simp
  ·rw [ih abq,ae6,ae6,lS h,abR abq,ace];omega
theorem Ht {L:Array Bool} (h:∀i,i<m→L.getD i false=true):(List.range m).countP (fun j=>L.getD j false)=m:=by
 rw [List.countP_eq_length.2 fun j hj=>h j (ab3.1 hj),adn]
theorem uj {α β:Type}{f g:α→List β}:∀{l:List α},(∀x∈l,f x=g x)→l.flatMap f=l.flatMap g
 |[],_=>rfl
 |x::l,h=>by rw [adV,adV,h x abF,uj fun y hy=>h y (abN _ hy)]
theorem Gm {p:Nat→Bool} (h:(List.range m).all p=true) {i:Nat} (hi:i<m):p i=true:=ab6.1 h i (ab3.2 hi)
theorem Vk {l:List Oper}{dst:Nat→Nat}{S:Lv}{pre:Nat→List HE}{rest:List HE}{ds:List (Nat×Nat)} (hds:∀p∈ds,p.1<m∧p.2=dst p.1) (hds2:∀i,i<m→(i,dst i)∈ds) (hnd:(ds.map (·.2)).Nodup) (hinj:∀i j,i<m→j<m→dst i=dst j→i=j)
  (hml:m≤l.length) (hop:∀i,i<m→∃o,l[i]?=some o∧o.dst=some (dst i)∧dst i<N∧∀e∈o.after,Region.binds .any e=true→e.on<i)
  (htl:∀k,m≤k→k<l.length→∃o,l[k]?=some o∧∀j,j<m→waits o j=true)
  (hrd:((List.range (l.length-m)).all fun k=>Region.ready .any l.toArray (iY l.length (m+k))==[m+k])=true) (hend:Region.ready .any l.toArray (iY l.length l.length)=[])
  (hs:KE m (Spec P l w0 ρ dst m S pre rest))
  (hfin:∀(f:Nat→Value) (R:Nat→List HE) (w':World),(∀i,i<m→S i (f i) (R i))→Hp w0 ((List.range m).flatMap R++rest) w'→WL .plain P N l.toArray Q (l.drop m) (gD ρ f ds) w'):
  ∀(fuel:Nat) (L:Array Bool) (ρ1:Rf) (w1:World) (R:Nat→List HE),L.size=l.length→(∀j,m≤j→L.getD j false=false)→fuel+(List.range m).countP (fun j=>L.getD j false)=l.length→
   (∀s,(∀j,j<m→L.getD j false=true→dst j≠s)→ρ1 s=ρ s)→(∀j,j<m→L.getD j false=true→S j (ρ1 (dst j)) (R j))→(∀j,j<m→L.getD j false=false→R j=pre j)→Hp w0 ((List.range m).flatMap R++rest) w1→WA P N l.toArray Q fuel L ρ1 w1:=by
 intro fuel
 induction fuel with
 |zero=>
  intro L ρ1 w1 R hsz htail hcnt hag hS hpre hh;have hall:∀i,i<m→L.getD i false=true:=by
   have h1:(List.range m).countP (fun j=>L.getD j false)≤m:=by have:=List.countP_le_length (p:=fun j=>L.getD j false) (l:=List.range m);rwa [adn] at this
   have h2:(List.range m).countP (fun j=>L.getD j false)=(List.range m).length:=by rw [adn];omega
   intro i hi;exact List.countP_eq_length.1 h2 i (ab3.2 hi)
  exact W6
 |succ fuel ih=>
  intro L ρ1 w1 R hsz htail hcnt hag hS hpre hh;by_cases hall:∀i,i<m→L.getD i false=true
  ·exact W6
  ·have und:∀i,i<l.length→(L.getD i true=false↔L.getD i false=false):=fun i hi=>by
    have h1:i<L.size:=by rw [hsz];exact hi
    rw [acC,acC,adW h1];simp
   refine Na (fun hnil=> ?_) fun i hi=> ?_
   ·obtain ⟨i,h1,h2,h3⟩:=Bm hall;obtain ⟨o,ho,_,_,he⟩:=hop i h1;have:i∈Region.ready .any l.toArray L:=An.2 ⟨abq,(und i abq).2 h2,o,ho,fun e he1 he2=>h3 _ (he e he1 he2)⟩;rw [hnil] at this
    cases this
   ·obtain ⟨hil,hun,o,ho,hed⟩:=An.1 hi;rw [und i hil] at hun;have hwait:∀j,waits o j=true→L.getD j false=true:=fun j hj=>by
     obtain ⟨e,he1,he2⟩:=adg.1 hj;rw [abS,ac3] at he2;rw [←he2.1];exact hed e (by simpa using he1) he2.2
    have him:i<m:=by
     rcases acj i m with h|h
     ·exact h
     ·obtain ⟨o2,ho2,h2⟩:=htl i h hil;rw [ho] at ho2
      cases ho2
      exact absurd (fun j hj=>hwait j (h2 j hj)) hall
    obtain ⟨o2,ho2,hd,hN,hlt⟩:=hop i him;rw [ho] at ho2
    cases ho2
    obtain ⟨o3,ho3,hsp⟩:=hs.get i him;rw [ho] at ho3
    cases ho3
    refine ⟨o,dst i,by simpa using ho,hd,hN, ?_⟩;have hiL:i<L.size:=by rw [hsz];exact hil
    refine (hsp ρ1 w1 (((List.range m).filter (· !=i)).flatMap R++rest) R (fun s hs2=>hag s fun j hj _=>hs2 j hj) (fun j hj=> ?_) (fun x hx=>acI _ hx) ?_).imp fun v w' ⟨R',h1,h2⟩=> ?_
    ·have hjd:=hwait j hj;have hjm:j<m:=by
      obtain ⟨e,he1,he2⟩:=adg.1 hj;rw [abS,ac3] at he2;have:=hlt e (by simpa using he1) he2.2;omega
     refine ⟨hS j hjm hjd,fun x hx=>adf _ (ade.2 ⟨j,acX.2 ⟨ab3.2 hjm, ?_⟩,hx⟩)⟩;have:j≠i:=fun e=>by rw [e,hun] at hjd;cases hjd
     simpa using this
    ·rw [←hpre i him hun];exact hh.perm (vP him rest)
    ·refine ih _ _ _ (fun j=>if j=i then R' else R j) (by rw [Array.size_setIfInBounds];exact hsz) (fun j hj=> ?_) (by rw [Ls hiL hun m him];omega) (fun s hs2=> ?_) (fun j hj hjd=> ?_) (fun j hj hjd=> ?_) ?_
     ·rw [lS hiL,abR abq,ace];exact htail j hj
     ·have hne:dst i≠s:=hs2 i him (by rw [lS hiL];simp);rw [gR _ (fun e=>hne e.symm)];exact hag s fun j hj hjd=>hs2 j hj (by rw [lS hiL,hjd];simp)
     ·by_cases e:j=i
      ·subst e;rw [abx rfl,sv];exact h1
      ·rw [lS hiL,abR e,ace] at hjd;rw [abw e,gR _ (fun e2=>e (hinj j i hj him e2))];exact hS j hj hjd
     ·rw [lS hiL] at hjd;have e:j≠i:=fun e=>by rw [e] at hjd;simp at hjd
      rw [abR e,ace] at hjd;rw [abw e];exact hpre j hj hjd
     ·refine Hp.perm h2 (List.Perm.trans ?_ (vP (R:=fun j=>if j=i then R' else R j) him rest).symm);rw [abx rfl];have:((List.range m).filter (· !=i)).flatMap (fun j=>if j=i then R' else R j)=((List.range m).filter (· !=i)).flatMap R:=by
       refine uj fun j hj=> ?_;have:=(acX.1 hj).2;rw [abw (by simpa using this)]
      rw [this]
theorem VM {id:Nat}{l:List Oper}{H:List HE} (m:Nat) (dst:Nat→Nat) (S:Lv) (pre:Nat→List HE) (rest:List HE) (ds:List (Nat×Nat)) (hh:Hp w0 H w) (hH:H.Perm ((List.range m).flatMap pre++rest)) (hm:P.follows .mixedOrders=true)
  (hok:Ue l m N dst=true) (hds:ds=((List.range m).map fun i=>(i,dst i)).reverse) (hs:KE m (Spec P l w0 ρ dst m S pre rest))
  (hfin:∀(f:Nat→Value) (R:Nat→List HE) (w':World),KE m (fun i=>S i (f i) (R i))→Hp w0 ((List.range m).flatMap R++rest) w'→WL .plain P N l.toArray Q (l.drop m) (gD ρ f ds) w'):WC .plain P N (.region id l.toArray true) Q ρ w:=by
 refine pw hh hm fun w' hj=> ?_;simp only [Ue,abS,ab1] at hok;obtain ⟨⟨⟨⟨⟨hml,h1⟩,h2⟩,h3⟩,h4⟩,h5⟩:=hok;have hop:∀i,i<m→∃o,l[i]?=some o∧o.dst=some (dst i)∧dst i<N∧∀e∈o.after,Region.binds .any e=true→e.on<i:=fun i hi=>by
  have:=Gm h1 hi;split at this
  ·rename_i o ho;simp only [abS,ac3,ab1] at this;refine ⟨o,ho,this.1.1,this.1.2,fun e he hb=> ?_⟩;have h6:=ab6.1 this.2 e (by simpa using he);simpa [hb] using h6
  ·cases this
 have hmem:∀i,i<m→(i,dst i)∈ds:=fun i hi=>by rw [hds,adp];exact abL.2 ⟨i,ab3.2 hi,rfl⟩
 have hmap:ds.map (·.2)=((List.range m).map dst).reverse:=by rw [hds,List.map_reverse,ack];rfl
 refine Vk (w0:=w0) (pre:=pre) (rest:=rest) (S:=S) (ds:=ds) (fun p hp=> ?_) hmem (by rw [hmap];exact (List.reverse_perm _).nodup_iff.2 h2) (fun i j hi hj he=> ?_) hml hop (fun k hk hkl=> ?_) h4 (eq_of_beq h5) hs (fun f R w2 hS hh2=>hfin f R w2 (OX hS) hh2) l.length (Array.replicate l.length false) ρ w' pre (by simp) (fun j _=> ?_) ?_ (fun s _=>rfl) (fun j hj hjd=> ?_) (fun j _ _=>rfl) (Hp.perm hj.hp hH)
 ·rw [hds,adp] at hp;obtain ⟨i,hi,rfl⟩:=abL.1 hp;exact ⟨ab3.1 hi,rfl⟩
 ·have hi2:((List.range m).map dst)[i]?=some (dst i):=by rw [abI,acy hi];rfl
  have hj2:((List.range m).map dst)[j]?=some (dst j):=by rw [abI,acy hj];rfl
  exact (List.getElem?_inj (by rw [abH,adn];exact hi) h2).1 (by rw [hi2,hj2,he])
 ·have:=Gm h3 (show k-m<l.length-m by omega);rw [show m+(k-m)=k by omega] at this;split at this
  ·rename_i o ho;exact ⟨o,ho,fun j hj=>Gm this hj⟩
  ·cases this
 ·exact qW _ _
 ·rw [List.countP_eq_zero.2 fun j _=>by rw [qW];decide]
  rfl
 ·rw [qW] at hjd
  cases hjd
def yy (v:Value):Value→List HE→Prop:=fun x R=>x=v∧R=[]
theorem Lp {H:List HE} (hh:Hp w0 H w) {d:Option Nat}{ty:TypeId}{af:Array Edge}{t e:TypeId}{len sz:Nat} (ht:P.underlying t=some (.slice e)) (hte:dy P e=some (sz,ag,by',zc))
  (hp:Cm ρ parts.toList=ps) (hzl:zc.length=sz) (hf:lR (fun i=>some (i*sz,sz)) (hZ len zc) ps=some cs) (h0:¬len*sz=0) (hle:len≤1000) (hsl:len*sz≤16777216) (hl:cs.length=len*sz)
  (hk:∀b w2,Hp w0 (.row (some ⟨b,0,none⟩) len len e sz cs::H) w2→K (.slice (some ⟨b,0,none⟩) len len) w2):OG P ops ⟨d,.buildSlice t len parts,ty,pos,af,none⟩ ρ w K:=by
 obtain ⟨z,hz,hzc⟩:=eh (w:=w) hte;refine cY rfl (w':=w.alloc (.cells cs.toArray e)) (v:=.slice (some ⟨w.heap.size,0,none⟩) len len) ?_ (hk _ _ (hh.Bz e sz len cs hl (by unfold maxLen;omega)));exact Vt
theorem Hp.UU {H:List HE} (h:Hp w0 H w) {t:TypeId} (hm:HE.blk b t cs fz∈H) (hv:(cs.drop o).take n=vs):Rd w ⟨b,o,none⟩ vs:=let ⟨_,hi⟩:=acG.1 hm;h.aE hi hv
theorem Hp.Wh {H:List HE} (h:Hp w0 H w) {A:Option Addr}{c sz:Nat}{t:TypeId}{xs:List Value} (hm:HE.row A n c t sz xs∈H):Sl w A n sz xs:=let ⟨_,hi⟩:=acG.1 hm;h.ao hi
end
def G6 (xs:List NR) (m:ByteArray) (k:Nat):Dyadic:=match xs[k]?,m.data.toList[k]? with|some x,some e=>x.d^e.toNat|_,_=>1
def D7 (c:Dyadic) (xs:List NR) (m:ByteArray):Nat→Dyadic
 |0=>c
 |k+1=>D7 c xs m k*G6 xs m k
def uC (xs:List NR) (ts:List TR):Nat→Dyadic
 |0=>0
 |i+1=>uC xs ts i+(match ts[i]? with|some t=>D7 t.c.d xs t.m xs.length|none=>0)
def tW (p:PX) (n:Nat):Int:=if p.e=0 then (if (n:Int)=p.v then 0 else 1) else p.e
def uh (p:PX) (xs:List NR):NR:=if tW p xs.length=0 then nR (uC xs p.ts p.ts.length) else nR 0
abbrev LM:=Option Addr×Nat×Nat
def Ft (ks:List LM):List Value:=ks.map fun k=>.slice k.1 k.2.1 k.2.2
def YB (y:NR) (k:LM):HE:=.row k.1 k.2.1 k.2.2 33 3 (ar NR.cells (zd y.d k.2.1))
def Kc (ys:List NR) (ks:List LM):List HE:=List.zipWith YB ys ks
theorem Jm {w0 w:World}{H:List HE} (hh:Hp w0 H w):∀ys:List NR,Hp w0 (Kc ys (List.replicate ys.length (none,0,0))++H) w
 |[]=>hh
 |y::ys=>(Jm hh ys).cJ 33 3
theorem Qr (ks:List LM):(Ft ks).length=ks.length:=abH ..
theorem R3 (ks:List LM) (i:Nat) (k:LM):Ft (ks.set i k)=(Ft ks).set i (.slice k.1 k.2.1 k.2.2):=by unfold Ft;rw [adz]
theorem sL {α:Type}:∀{l:List α}{i:Nat}{a:α},l[i]?=some a→l.Perm (a::l.eraseIdx i)
 |[],i,a,h=>by cases h
 |b::l,0,a,h=>by cases h;exact List.Perm.refl _
 |b::l,i+1,a,h=>((sL (l:=l) (i:=i) h).cons b).trans (.swap _ _ _)
theorem NL {ys:List NR}{ks:List LM}{i:Nat}{y:NR}{k:LM} (hy:ys[i]?=some y) (hk:ks[i]?=some k):(Kc ys ks)[i]?=some (YB y k):=by
 unfold Kc;rw [adO,hy,hk]
theorem Af:∀{ys:List NR}{ks:List LM}{i:Nat}{k:LM},(Kc ys (ks.set i k)).eraseIdx i=(Kc ys ks).eraseIdx i
 |[],_,_,_=>by unfold Kc;simp
 |_::_,[],_,_=>by unfold Kc;simp
 |y::ys,k0::ks,0,k=>rfl
 |y::ys,k0::ks,i+1,k=>by
  show YB y k0::(Kc ys (ks.set i k)).eraseIdx i=YB y k0::(Kc ys ks).eraseIdx i;rw [Af]
theorem R7 {xs:List NR}{m:ByteArray}{x:NR}{e:UInt8} (hx:xs[k]?=some x) (he:m.data.toList[k]?=some e):G6 xs m k=x.d^e.toNat:=by
 unfold G6;rw [hx,he]
theorem A5 {xs:List NR}{m:ByteArray}{c:Dyadic}{q:Nat} (hc:Sz q c) (hq:q≤1000) (hx:∀x∈xs,Sz q x.d) (hm:eX m.data.toList=true):∀k,Sz (q+128000*k) (D7 c xs m k)
 |0=>hc
 |k+1=>by
  refine ((A5 hc hq hx hm k).mul (l:=128000) ?_).mono abq;unfold G6;split
  ·rename_i x e h1 h2;have he:=pH hm h2;exact ((hx x (abz h1)).pow e.toNat).mono (by have:=acR hq (show e.toNat≤127 by omega);omega)
  ·exact Sz.one.mono abq
theorem FF {xs:List NR}{ts:List TR}{q:Nat} (hq:q≤1000) (hx:∀x∈xs,Sz q x.d) (ht:iO q ts) (hm:∀t∈ts,eX t.m.data.toList=true) (hl:xs.length≤12):∀i,Sz (1600000+i) (uC xs ts i)
 |0=>Sz.zero _
 |i+1=>by
  show Sz (1600000+i+1) (uC xs ts i+_);refine (FF hq hx ht hm hl i).add ?_;split
  ·rename_i t h;exact (A5 (ht t (abz h)).2 hq hx (hm t (abz h)) xs.length).mono abq
  ·exact Sz.zero _
def Zy (w:World) (b:Nat):Nat:=match w.heap[b]? with|some (.stringIter _ p)=>p|_=>0
theorem Mr {H:List HE} (hh:Hp w0 H w) {i p:Nat}{s:ByteArray} (hi:H[i]?=some (.it b s p)):Zy w b=p:=by
 unfold Zy;rw [(hh.at_ hi).2]
theorem oE (p:PX) (ys:List NR) (xA:Option Addr) (xn xc:Nat) (k:Nat) (w:World) (hT:dq w) (hp:p.at_ w) (lp:p.jz k) (hS:Sl w xA xn 3 (ar NR.cells ys)) (hl:ys.length=xn) (hy:∀y∈ys,y.ok∧Sz k y.d) (hk:k≤1000):
  Calls Tryz.prog 24 #[.agg #[.int .i64 p.v,.slice p.A p.n p.c],.slice xA xn xc] w fun r w'=>r=.returned (.tuple #[.agg #[.bool (uh p ys).neg,.string (uh p ys).aO,.int .i64 (uh p ys).e],.int .i64 (tW p xn)])∧Below w.heap.size w w':=by
 have hh:=Hp.start w;subst hl;have hck:=fun w1 hT1 hb=>nJ p k w1 hT1 (hp.ext hb) lp;unfold uh tW;by_cases h0:p.e=0
 ·rw [h0] at hck;simp only [abx h0];by_cases h1:(ys.length:Int)=p.v
  ·simp only [abx h1];obtain ⟨hf,h4,hmy,_⟩:=cv h0;replace hf:=fN.1 hf;obtain ⟨pv,pA,pn,pc,ts⟩:=p;replace hpl:ts.length=pn:=hp.ln;replace hp:Sl w pA pn 4 (ar TR.cells ts):=hp;have okp:iO k ts:=lp.ok;have szp:∀t∈ts,t.m.size≤100000:=lp.sz;replace hmy:∀t∈ts,fY pv t=true:=hmy;replace h4:ts.length≤4096:=h4;replace hf:0≤pv∧pv≤12:=hf;replace h1:(ys.length:Int)=pv:=h1;subst h1;have hyl:ys.length≤12:=abq;have xI:∀i,i≤4096→Sz 1700000 (uC ys ts i):=fun i hi=>(FF hk (fun y h=>(hy y h).2) okp (fun t h=>(adl.1 (hmy t h)).1) hyl i).mono abq;show Calls _ _ _ _ fun r w'=>r=.returned (.tuple #[.agg #[.bool (nR (uC ys ts ts.length)).neg,.string (nR (uC ys ts ts.length)).aO,.int .i64 (nR (uC ys ts ts.length)).e],.int .i64 0])∧Below w.heap.size w w';refine ae (N:=64) (l:=[.agg #[.int .i64 ys.length,.slice pA pn pc],.slice xA ys.length xc]) Tryz.func24 rfl rfl (by simp) ?_;refine bX ?_;intro b2 w2 hh b4 w4 hh;refine hU ?_;intro w15 hh;refine aj ?_;refine fy (n:=ys.length) hh rfl rfl abq abq bq.out az.out rfl abq abq abr ?_;intro b28 w28 hh;refine bT ?_;intro b8 w8 hh
   rw [pd,show List.replicate ys.length (Value.slice none 0 0)=Ft (List.replicate ys.length (none,0,0)) by unfold Ft;rw [List.map_replicate]] at hh;replace hh:=(Jm hh ys).perm aeI;simp only [abE,abC] at hh;refine aH [10,11,12,13,32,33,34,35,36,37,38,39,40,41,42,43,44,45,46,47,48,49,50,51,52,53,54,55,56,57,58,59,60,61,62] 32
    (fun v w'=>∃(i:Nat) (ks:List LM),i≤pn∧v=.int .i64 i∧ks.length=ys.length∧(∀q∈ks,q.2.1≤1000)∧Hp w (.blk b8 33 [.bool (nR (uC ys ts i)).neg,.string (nR (uC ys ts i)).aO,.int .i64 (nR (uC ys ts i)).e] (0,0)::.row (some ⟨b28,0,none⟩) ys.length ys.length 111 1 (Ft ks)::.blk b4 33 [.bool false,.string (ByteArray.mk #[]),.int .i64 0] (0,0)::.blk b2 52 [.int .i64 ys.length,.slice pA pn pc] (0,0)::Kc ys ks) w')
    (fun v _=>pn-(intOf v).toNat) ?_ ?_
   ·exact ⟨0,_,abB _,rfl,acL,fun q hq=>by rw [List.eq_of_mem_replicate hq];exact abB _,hh⟩
   ·clear hh;rintro ρ' v w' ⟨i,ks,hi,rfl,hkl,hkm,hh⟩;by_cases hlt:i<pn
    ·obtain ⟨x,hx⟩:=ai (l:=ts) (k:=i) abq;obtain ⟨ad,rfl,hr⟩:=hp.at_ abq;have hxo:=okp x (abz hx);have hmx:=adl.1 (hmy x (abz hx));have hxz:(x.m.size:Int)=ys.length:=ads hmx.2;refine aj ?_;refine qj ?_;refine xQ ?_;intro b10 w10 hh ws hh b11 w11 hh ws hh;refine sH hh bq.out rfl abr ?_;intro b40 w40 hh;skip;refine aj ?_;refine vK [12,13,41,42,43,44,45,46,47,48,49,50,51,52,53,54,55,56,57]
      (fun w'=>∃(q:Nat) (z:NR) (ks:List LM),q≤ys.length∧z.ok∧z.d=D7 x.c.d ys x.m q∧ks.length=ys.length∧(∀q∈ks,q.2.1≤1000)∧Hp w (.it b40 x.m q::.blk b11 33 [.bool z.neg,.string z.aO,.int .i64 z.e] (0,0)::.blk b10 95 [.string x.m,.bool x.c.neg,.string x.c.aO,.int .i64 x.c.e] (0,0)::.blk b8 33 [.bool (nR (uC ys ts i)).neg,.string (nR (uC ys ts i)).aO,.int .i64 (nR (uC ys ts i)).e] (0,0)::.row (some ⟨b28,0,none⟩) ys.length ys.length 111 1 (Ft ks)::.blk b4 33 [.bool false,.string (ByteArray.mk #[]),.int .i64 0] (0,0)::.blk b2 52 [.int .i64 ys.length,.slice (some ad) pn pc] (0,0)::Kc ys ks) w')
      (fun w'=>ys.length-Zy w' b40) ?_ ?_
     ·exact ⟨0,x.c,ks,abB _,hxo.1,rfl,hkl,hkm,hh⟩
     ·clear hh hkl hkm;rintro ρ' w' ⟨q,z,ks,hq,hzo,hzd,hkl,hkm,hh⟩;have hit:=Mr hh (i:=0) rfl;have hzs:Sz 1600000 z.d:=by rw [hzd];exact (A5 hxo.2 hk (fun y h=>(hy y h).2) hmx.1 q).mono abq
      by_cases hlq:q<ys.length
      ·obtain ⟨y,hyq⟩:=ai (l:=ys) (k:=q) hlq;obtain ⟨⟨ka,km,kc⟩,hkq⟩:=ai (l:=ks) (k:=q) abq;obtain ⟨xad,rfl,hxr⟩:=hS.at_ abq;obtain ⟨e,he⟩:=ai (l:=x.m.data.toList) (k:=q) (by rw [←dY];omega);have he8:=pH hmx.1 he;have hyo:=hy y (abz hyq);have hkm0:km≤1000:=hkm _ (abz hkq);have hqk:q<(Ft ks).length:=by rw [Qr];omega
       have zp:Sz 128000 (y.d^e.toNat):=(hyo.2.pow e.toNat).mono (by have:=acR hk (show e.toNat≤127 by omega);omega);have hdm:=fun A cc w1 hT1 hS1=>eC A 2 cc [z,nR (y.d^e.toNat)] w1 hT1 hS1 (by simpa using ⟨hzo,zp.ok abr⟩) 1600000 (by simpa [a6] using ⟨hzs,zp.mono abr⟩) abr abr;rw [show gO ([z,nR (y.d^e.toNat)].map NR.d)=z.d*y.d^e.toNat by show 1*z.d*(nR _).d=_;rw [a6,adq]] at hdm;have hcq:(Ft ks)[q]?=some (.slice ka km kc):=by unfold Ft;rw [abI,hkq];rfl
       refine sr ?_;refine rM hh (i:=0) rfl rfl he he8 abr ?_;intro w41 hh;simp only [abK] at hh;skip;refine aj ?_;replace hh:=hh.perm (acf (l₁:=[_,_,_,_]));simp only [abE,abC] at hh;replace hh:=hh.perm (((sL (NL hyq hkq)).append_left [_,_,_,_,_,_,_]).trans (List.perm_middle.trans (.swap _ _ _)));rw [←CQ hcq] at hh;have mb11:(.blk b11 33 [.bool z.neg,.string z.aO,.int .i64 z.e] (0,0):HE)∈(.it b40 x.m (q+1)::.blk b11 33 [.bool z.neg,.string z.aO,.int .i64 z.e] (0,0)::.blk b10 95 [.string x.m,.bool x.c.neg,.string x.c.aO,.int .i64 x.c.e] (0,0)::.blk b8 33 [.bool (nR (uC ys ts i)).neg,.string (nR (uC ys ts i)).aO,.int .i64 (nR (uC ys ts i)).e] (0,0)::.blk b4 33 [.bool false,.string (ByteArray.mk #[]),.int .i64 0] (0,0)::.blk b2 52 [.int .i64 ys.length,.slice (some ad) pn pc] (0,0)::(Kc ys ks).eraseIdx q):=by simp
       refine VM 13 (fun i=>[45,46,47,48,49,50,51,52,53,54,55,56,57].getD i 0) (fun i=>[yy (.agg #[.bool z.neg,.string z.aO,.int .i64 z.e]),yy (.slice (some ⟨b28,0,none⟩) ys.length ys.length),yy (.int .i64 q),yy (.pointer (some ⟨b28,q*1,none⟩)),yy (.slice (some xad) ys.length xc),yy (.int .i64 q),yy (.pointer (some (xad.add (q*3)))),yy (.agg #[.bool y.neg,.string y.aO,.int .i64 y.e]),yy (.int .i32 e.toNat),yy (.int .i64 e.toNat),fun v R=>v=.agg #[.bool (nR (y.d^e.toNat)).neg,.string (nR (y.d^e.toNat)).aO,.int .i64 (nR (y.d^e.toNat)).e]∧∃(A2:Option Addr) (m2 c3:Nat),m2≤1000∧R=[.row (some ⟨b28,0,none⟩) ys.length ys.length 111 1 ((Ft ks).set q (.slice A2 m2 c3)),.row A2 m2 c3 33 3 (ar NR.cells (zd y.d m2))],fun v R=>∃b:Nat,v=.slice (some ⟨b,0,none⟩) 2 2∧R=[.row (some ⟨b,0,none⟩) 2 2 33 3 (ar NR.cells [z,nR (y.d^e.toNat)])],yy (.agg #[.bool (nR (z.d*y.d^e.toNat)).neg,.string (nR (z.d*y.d^e.toNat)).aO,.int .i64 (nR (z.d*y.d^e.toNat)).e])].getD i (yy undef)) (fun i=>[[],[],[],[],[],[],[],[],[],[],[.row (some ⟨b28,0,none⟩) ys.length ys.length 111 1 ((Ft ks).set q (.slice ka km kc)),.row ka km kc 33 3 (ar NR.cells (zd y.d km))],[],[]].getD i []) (.it b40 x.m (q+1)::.blk b11 33 [.bool z.neg,.string z.aO,.int .i64 z.e] (0,0)::.blk b10 95 [.string x.m,.bool x.c.neg,.string x.c.aO,.int .i64 x.c.e] (0,0)::.blk b8 33 [.bool (nR (uC ys ts i)).neg,.string (nR (uC ys ts i)).aO,.int .i64 (nR (uC ys ts i)).e] (0,0)::.blk b4 33 [.bool false,.string (ByteArray.mk #[]),.int .i64 0] (0,0)::.blk b2 52 [.int .i64 ys.length,.slice (some ad) pn pc] (0,0)::(Kc ys ks).eraseIdx q) _ hh (List.Perm.refl _) mixed abt rfl ⟨⟨⟨⟨⟨⟨⟨⟨⟨⟨⟨⟨⟨trivial, ?s0⟩, ?s1⟩, ?s2⟩, ?s3⟩, ?s4⟩, ?s5⟩, ?s6⟩, ?s7⟩, ?s8⟩, ?s9⟩, ?s10⟩, ?s11⟩, ?s12⟩ ?fin
       case s0=>exact ⟨_,rfl,fun ρ1 w1 F R ha hd hr (hh:Hp w F w1)=>cY rfl (xz (vs:=[_,_,_]) az.out (ha 11 abr) (hh.UU (n:=3) (hr _ mb11) rfl) rfl) ⟨[],⟨rfl,rfl⟩,hh⟩⟩
       case s1=>exact ⟨_,rfl,fun ρ1 w1 F R ha hd hr (hh:Hp w F w1)=>cY rfl (ek (ha 7 abr)) ⟨[],⟨rfl,rfl⟩,hh⟩⟩
       case s2=>exact ⟨_,rfl,fun ρ1 w1 F R ha hd hr (hh:Hp w F w1)=>cY rfl (ek (ha 12 abr)) ⟨[],⟨rfl,rfl⟩,hh⟩⟩
       case s3=>exact ⟨_,rfl,fun ρ1 w1 F R ha hd hr (hh:Hp w F w1)=>cY rfl (rb (k:=q) bq.out az.size (show yy (.slice (some ⟨b28,0,none⟩) ys.length ys.length) (ρ1 46) (R 1) from (hd 1 rfl).1).1 (show yy (.int .i64 q) (ρ1 47) (R 2) from (hd 2 rfl).1).1 abq abq) ⟨[],⟨rfl,rfl⟩,hh⟩⟩
       case s4=>exact ⟨_,rfl,fun ρ1 w1 F R ha hd hr (hh:Hp w F w1)=>cY rfl (ek (ha 1 abr)) ⟨[],⟨rfl,rfl⟩,hh⟩⟩
       case s5=>exact ⟨_,rfl,fun ρ1 w1 F R ha hd hr (hh:Hp w F w1)=>cY rfl (ek (ha 12 abr)) ⟨[],⟨rfl,rfl⟩,hh⟩⟩
       case s6=>exact ⟨_,rfl,fun ρ1 w1 F R ha hd hr (hh:Hp w F w1)=>cY rfl (iC (k:=q) bq.out az.size (show yy (.slice (some xad) ys.length xc) (ρ1 49) (R 4) from (hd 4 rfl).1).1 (show yy (.int .i64 q) (ρ1 50) (R 5) from (hd 5 rfl).1).1 abq abq) ⟨[],⟨rfl,rfl⟩,hh⟩⟩
       case s7=>exact ⟨_,rfl,fun ρ1 w1 F R ha hd hr (hh:Hp w F w1)=>cY rfl (xz (vs:=[_,_,_]) az.out (show yy (.pointer (some (xad.add (q*3)))) (ρ1 51) (R 6) from (hd 6 rfl).1).1 ((hxr.ext hh.below).recAt NR.len hyq) rfl) ⟨[],⟨rfl,rfl⟩,hh⟩⟩
       case s8=>exact ⟨_,rfl,fun ρ1 w1 F R ha hd hr (hh:Hp w F w1)=>cY rfl (ek (ha 13 abr)) ⟨[],⟨rfl,rfl⟩,hh⟩⟩
       case s9=>exact ⟨_,rfl,fun ρ1 w1 F R ha hd hr (hh:Hp w F w1)=>cY rfl (yn bq.out bq.out (show yy (.int .i32 e.toNat) (ρ1 53) (R 8) from (hd 8 rfl).1).1 abq abq) ⟨[],⟨rfl,rfl⟩,hh⟩⟩
       case s10=>exact ⟨_,rfl,fun ρ1 w1 F R ha hd hr hh=>bp rfl (aR ak.out (aq (show yy (.pointer (some ⟨b28,q*1,none⟩)) (ρ1 48) (R 3) from (hd 3 rfl).1).1 (aq (show yy (.agg #[.bool y.neg,.string y.aO,.int .i64 y.e]) (ρ1 52) (R 7) from (hd 7 rfl).1).1 (aq (show yy (.int .i64 e.toNat) (ρ1 54) (R 9) from (hd 9 rfl).1).1 aY)))) (F1 (ff (g:=b28) (m:=ys.length) (c:=ys.length) (i:=q) (t:=111) (xs:=Ft ks) hqk) y e.toNat km ka kc k w1 hT hh abq hkm0 hyo hk) fun r w2 ⟨h1,A2,m2,c3,h2,h3⟩=>⟨_,h1,[_,_],⟨rfl,A2,m2,c3,h2,rfl⟩,h3⟩⟩
       case s11=>exact ⟨_,rfl,fun ρ1 w1 F R ha hd hr (hh:Hp w F w1)=>Lp (sz:=3) (cs:=ar NR.cells [z,nR (y.d^e.toNat)]) hh bq.out az.out (show Cm ρ1 [(0,.tmp 45),(1,.tmp 55)]=[(0,.agg #[.bool z.neg,.string z.aO,.int .i64 z.e]),(1,.agg #[.bool (nR (y.d^e.toNat)).neg,.string (nR (y.d^e.toNat)).aO,.int .i64 (nR (y.d^e.toNat)).e])] from bC (show ρ1 45=_ from (show yy (.agg #[.bool z.neg,.string z.aO,.int .i64 z.e]) (ρ1 45) (R 0) from (hd 0 rfl).1).1) (bC (show ρ1 55=_ from (hd 10 rfl).1.1) dk)) rfl rfl abr abr abr rfl fun b w2 h2=>⟨[_],⟨b,rfl,rfl⟩,h2⟩⟩
       case s12=>exact ⟨_,rfl,fun ρ1 w1 F R ha hd hr (hh:Hp w F w1)=>let ⟨b,e9,r9⟩:=(show ∃b:Nat,ρ1 56=.slice (some ⟨b,0,none⟩) 2 2∧R 11=[.row (some ⟨b,0,none⟩) 2 2 33 3 (ar NR.cells [z,nR (y.d^e.toNat)])] from (hd 11 rfl).1);bp rfl (aR ak.out (aq e9 aY)) (hdm _ _ w1 (hT.hp hh) (hh.Wh ((hd 11 rfl).2 _ (r9 ▸ abF)))) fun r w2 hq=>⟨_,hq.1,[],⟨rfl,rfl⟩,hh.ext hq.2⟩⟩
       clear hh;rintro f R W ⟨⟨⟨⟨⟨⟨⟨⟨⟨⟨⟨⟨⟨-,s0⟩,s1⟩,s2⟩,s3⟩,s4⟩,s5⟩,s6⟩,s7⟩,s8⟩,s9⟩,s10⟩,s11⟩,s12⟩ hh;obtain ⟨e0,r0⟩:=s0;obtain ⟨e1,r1⟩:=s1;obtain ⟨e2,r2⟩:=s2;obtain ⟨e3,r3⟩:=s3;obtain ⟨e4,r4⟩:=s4;obtain ⟨e5,r5⟩:=s5;obtain ⟨e6,r6⟩:=s6;obtain ⟨e7,r7⟩:=s7;obtain ⟨e8,r8⟩:=s8;obtain ⟨e9,r9⟩:=s9;obtain ⟨e10,A2,m2,c3,hm2,r10⟩:=s10;obtain ⟨b56,e11,r11⟩:=s11;obtain ⟨e12,r12⟩:=s12;rw [show List.range 13=[0,1,2,3,4,5,6,7,8,9,10,11,12] from rfl] at hh;simp only [adV,List.flatMap_nil,r0,r1,r2,r3,r4,r5,r6,r7,r8,r9,r10,r11,r12,abC,acg,abE] at hh;refine ay (aQ (aa e12 (aa e11 (aa e10 (aa e9 (aa e8 (aa e7 (aa e6 (aa e5 (aa e4 (aa e3 (aa e2 (aa e1 (aa e0 aw)))))))))))))) ?_;dsimp only [bA];refine bT ?_;intro ws hh;have hz2:Sz 1728000 (z.d*y.d^e.toNat):=(hzs.mul zp).mono abq;have e1:(Ft ks).set q (.slice A2 m2 c3)=Ft (ks.set q (A2,m2,c3)):=(R3 ks q (A2,m2,c3)).symm;have hpk:=sL (NL hyq (show (ks.set q (A2,m2,c3))[q]?=some (A2,m2,c3) from List.getElem?_set_self abq));rw [Af] at hpk;rw [e1] at hh
       replace hh:=hh.perm (acf (l₁:=[_]));simp only [abE,abC] at hh;replace hh:=hh.perm (acf (l₁:=[_,_,_,_,_,_,_,_]));simp only [abE,abC] at hh;replace hh:=hh.perm (acf (l₁:=[_,_,_,_,_,_,_,_]));simp only [abE,abC] at hh;replace hh:=hh.perm (acf (l₁:=[_,_,_]));simp only [abE,abC] at hh;replace hh:=hh.perm (acf (l₁:=[_,_,_,_,_,_,_,_]));simp only [abE,abC] at hh;replace hh:=hh.perm (acf (l₁:=[_,_,_,_,_,_,_,_]));simp only [abE,abC] at hh;replace hh:=hh.perm (acf (l₁:=[_,_,_,_,_,_,_,_]));simp only [abE,abC] at hh;replace hh:=hh.perm (acf (l₁:=[_,_,_,_,_,_,_,_]));simp only [abE,abC] at hh;replace hh:=hh.sub (.cons_cons _ (.cons_cons _ (.cons_cons _ (.cons_cons _ (.cons_cons _ (.cons_cons _ (.cons_cons _ (.cons_cons _ (.cons _ (aco _))))))))));have hit2:=Mr hh (i:=0) rfl
       refine ⟨⟨q+1,nR (z.d*y.d^e.toNat),ks.set q (A2,m2,c3),abq,hz2.ok abr,by rw [a6];show _=D7 x.c.d ys x.m q*G6 ys x.m q;rw [←hzd,R7 hyq he],by rw [acU];exact hkl,fun r hr=> ?_,hh.perm (hpk.symm.append_left [_,_,_,_,_,_,_])⟩,by rw [hit,hit2];omega, ?_⟩
       ·rcases aeN hr with h|rfl
        ·exact hkm r h
        ·exact hm2
       ·exact dI
      ·obtain rfl:q=ys.length:=abq;have hsm:=fun A cc w1 hT1 hS1=>gl A 2 cc [nR (uC ys ts i),z] w1 hT1 hS1 (by simpa using ⟨(xI i abq).ok abr,hzo⟩) 1700000 (by simpa [a6] using ⟨xI i abq,hzs.mono abr⟩) abr;rw [show nM ([nR (uC ys ts i),z].map NR.d)=uC ys ts (i+1) by simp only [ab8,acF,jH,a6];show _=uC ys ts i+_;rw [hx,hzd]] at hsm;refine sr ?_;refine sx hh (i:=0) rfl rfl abq abr ?_;skip;refine aj ?_;refine qd ?_;intro b60 w60 hh;refine aZ hh (hsm _ _ _ (hT.hp hh) (hh.ao (i:=0) rfl)) rfl ?_;intro w61 hh;refine bT ?_;intro ws hh;replace hh:=hh.sub (abA _ (abA _ (abA _ (abA _ (aby _ (aby _ (aby _ (aby _ (aco _)))))))));refine ⟨⟨i+1,ks,abq,rfl,hkl,hkm,hh⟩,by show pn-(i+1)<pn-i;omega, ?_⟩;exact dI
    ·obtain rfl:i=pn:=abq;refine bT ?_;intro ws hh;refine GD (bI rfl (bJ (vs:=[_,_,_]) az.out (hh.aE (i:=2) (n:=3) rfl rfl) rfl) (dQ (eL rfl) cR)) ?_;exact ⟨by rw [hpl],hh.below⟩
  ·simp only [abw h1];rw [abw abr];exact Ui
 ·simp only [abw h0];generalize p.e=e at*;exact Ui
theorem Hz {c:Dyadic}{xs:List NR}{m:ByteArray} (hm:m.size=xs.length):∀k,k≤xs.length→D7 c xs m k=c*je ((cX m).take k) ((xs.map NR.d).take k)
 |0,_=>by
  show c=c*1;exact (Dyadic.mul_one c).symm
 |k+1,hk=>by
  have hl:=n7 m;obtain ⟨x,hx⟩:=ai (l:=xs) (k:=k) abq;obtain ⟨e,he⟩:=ai (l:=m.data.toList) (k:=k) (by rw [←dY];omega);have h1:(cX m)[k]?=some e.toNat:=by unfold cX;rw [abI,he];rfl
  have h2:(xs.map NR.d)[k]?=some x.d:=by rw [abI,hx];rfl
  have hf:G6 xs m k=x.d^e.toNat:=by unfold G6;rw [hx,he]
  rw [D7,hf,Hz hm k abq,al h1,al h2,tI _ _ _ _ (by simp;omega)];grind
theorem FH {xs:List NR}{ts:List TR} (h:∀t∈ts,t.m.size=xs.length):∀i,i≤ts.length→uC xs ts i=iG (xs.map NR.d) (ts.take i)
 |0,_=>rfl
 |i+1,hi=>by
  obtain ⟨t,ht⟩:=ai (l:=ts) (k:=i) abq;have hm:=h t (abz ht);have hl:=n7 t.m;rw [uC,ht,FH h i abq,al ht,qx];show iG _ _+D7 t.c.d xs t.m xs.length=iG _ _+(t.c.d*je (cX t.m) (xs.map NR.d)+0);rw [Hz hm xs.length (abD _),abG (l:=cX t.m) abq,abG (l:=xs.map NR.d) (by rw [abH];exact abD _)];grind
theorem EW {p:PX}{ys:List NR} (hp:p.e=0) (hv:p.v=(ys.length:Int)):tW p ys.length=0∧uh p ys=nR (iG (ys.map NR.d) p.ts):=by
 have h0:tW p ys.length=0:=by unfold tW;rw [abx hp,abx hv.symm]
 refine ⟨h0, ?_⟩;unfold uh;rw [abx h0,FH (fun t ht=> ?_) _ (abD _),aez];have:=(cv hp).2.2.1 t ht;exact V9
theorem Ox {b:List SR}{t:List NR} (ht:t.length=b.length):(b.mapIdx fun i s=>ig t i s.f).map NR.d=vj b (t.map NR.d):=by
 refine acp fun i=> ?_;unfold vj;rw [abI,adj,adj,abI]
 cases hs:b[i]? with
 |none=>rfl
 |some s=>
  have hi:=(abM.1 hs).1;obtain ⟨x,hx⟩:=ai (l:=t) (k:=i) abq;rw [hx];show some (ig t i s.f).d=some (s.L+(s.H-s.L)*x.d);unfold ig;rw [hx];show some (nR (s.f.at_ x.d)).d=_;rw [a6];unfold SR.at_ SR.wid;rw [SR.WW,SR.X7,show s.f.lo.d=s.L from a6 _];congr 1;grind
theorem OA {b:List SR}{t:List NR} (hb:∀s∈b,s.fin 124) (ht:∀x∈t,Sz 124 x.d) (hl:t.length=b.length):∀y∈b.mapIdx (fun i s=>ig t i s.f),y.ok∧Sz 300 y.d:=fun y hy=>by
 obtain ⟨i,hi⟩:=acG.1 hy;rw [adj] at hi
 cases hs:b[i]? with
 |none=>rw [hs] at hi;cases hi
 |some s=>
  have hil:=(abM.1 hs).1;obtain ⟨x,hx⟩:=ai (l:=t) (k:=i) abq;rw [hs] at hi;replace hi:ig t i s.f=y:=aca hi;unfold ig at hi;rw [hx] at hi;replace hi:nR (s.f.at_ x.d)=y:=hi;have hf:=hb s (abz hs);have zx:=ht x (abz hx);have z:Sz 300 (s.f.at_ x.d):=by
   unfold SR.at_ SR.wid;rw [SR.WW,SR.X7,show s.f.lo.d=s.L from a6 _];have z1:Sz 249 (x.d*(s.H-s.L)):=zx.mul ((SR.Xf hf).sub (SR.U3 hf));exact (((SR.U3 hf).mono (show 124≤249 by decide)).add z1).mono abr
  rw [←hi,a6];exact ⟨z.ok abr,z⟩
theorem MX {i:Nat} (hi:i<62):jq (k:Int) i=decide (kx k i=1):=by
 have e:((k:Int).fdiv (2^i)) % 2=((kx k i:Nat):Int):=by
  rw [afh _ (by exact Int.le_of_lt (Int.pow_pos abr))];unfold kx;rw [Int.natCast_emod,Int.natCast_ediv,aeD]
  rfl
 unfold jq;rw [e,abQ hi,aev];by_cases h0:0<(k:Int)
 ·rw [abQ h0,aev];exact decide_eq_decide.2 abq
 ·obtain rfl:k=0:=abq;rw [abR h0,aeB];have:kx 0 i=0:=by unfold kx;rw [Nat.zero_div]
  rw [this]
  rfl
theorem Rp {b:List SR} (hl:b.length≤12):(b.mapIdx fun i s=>cond (jq (k:Int) i) s.f.hi s.f.lo).map NR.d=vj b ((lz b.length k).map nD):=by
 refine acp fun i=> ?_;unfold vj;rw [abI,adj,adj,abI]
 cases hs:b[i]? with
 |none=>rfl
 |some s=>
  have hi:=(abM.1 hs).1;have hb:(lz b.length k)[i]?=some (kx k i):=by unfold lz;rw [abI,acy hi];rfl
  rw [hb];show some (cond (jq (k:Int) i) s.f.hi s.f.lo).d=some (s.L+(s.H-s.L)*nD (kx k i));rw [MX abq];congr 1;by_cases h1:kx k i=1
  ·rw [abQ h1,h1,tg];show s.f.hi.d=_;rw [show s.f.hi.d=s.H from a6 _];grind
  ·have h0:kx k i=0:=by unfold kx at h1 ⊢;omega
   rw [abR h1,h0,ve];show s.f.lo.d=_;rw [show s.f.lo.d=s.L from a6 _];grind
theorem Pu {ns:List Nat} (k:Nat):eS ns.reverse X ((lz ns.length k).map nD).reverse=(X[Xz ns k]?).getD 0:=by
 have hl:=pX ns.length k;rw [←List.map_reverse,G4 (by rw [abY,abY,hl]) (fun b hb=>zf b (adp.1 hb)),←KB hl]
 rfl
theorem K7 (X:List Dyadic) (i:Nat):((X.map nR)[i]?).getD (nR 0)=nR ((X[i]?).getD 0):=by
 rw [abI]
 cases X[i]?<;>rfl
variable {b0:List SR}{p:List TR}
structure QT (p q:List TR) (b0:List SR) (c:CV):Prop where
 p:Qd p c.D c.b c.X
 q:Qd q c.D c.b c.Y
 Zq:∀(i:Nat) (s z:SR),c.b[i]?=some s→b0[i]?=some z→z.L≤s.lo.d∧s.hi.d≤z.H
 len:c.b.length=b0.length
theorem QT.half {q:List TR}{c:CV}{a:Nat}{s:SR} (h:QT p q b0 c) (hs:c.b[a]?=some s) (u:Bool):QT p q b0 (c.half a s u):=by
 have ha:=(abM.1 hs).1;refine ⟨h.p.half hs u,h.q.half hs u,fun i x z hx hz=> ?_, ?_⟩
 ·have hx:(mH c.b a s u)[i]?=some x:=hx;unfold mH at hx;rw [acV] at hx;by_cases hi:a=i
  ·subst hi;rw [abx rfl,abx (by rw [abH];exact ha)] at hx;obtain ⟨k1,k2⟩:=h.Zq a s z hs hz;obtain ⟨m,e0,e1,e2,e3,e4,e5⟩:=kq (h.p.up s (abz hs));obtain ⟨g1,g2⟩:=J3 (h.p.up s (abz hs));rw [←aca hx]
   cases u with
   |false=>
    show z.L≤s.f.lo.d∧(nR s.f.kB).d≤z.H;rw [e0,e2];constructor<;>grind
   |true=>
    show z.L≤(nR s.f.kB).d∧s.f.hi.d≤z.H;rw [e0,e3];constructor<;>grind
  ·rw [abw hi,abI] at hx
   cases hy:c.b[i]? with
   |none=>rw [hy] at hx;cases hx
   |some y=>
    rw [hy] at hx;have hx:y.f=x:=aca hx;obtain ⟨k1,k2⟩:=h.Zq i y z hy hz;obtain ⟨m,e0,e1,e2,e3,e4,e5⟩:=kq (h.p.up y (abz hy));obtain ⟨g1,g2⟩:=J3 (h.p.up y (abz hy));rw [←hx,e2,e3];constructor<;>grind
 ·show (mH c.b a s u).length=_;unfold mH;rw [acU,abH];exact h.len
def Ql (pt:List Dyadic) (c:CV):Prop:=∃us:List Dyadic,us.length=c.D.length∧(∀t∈us,0≤t∧t<1)∧vj c.b us=pt
theorem Ql.half {q:List TR}{c:CV}{a:Nat}{s:SR}{pt:List Dyadic} (h:QT p q b0 c) (hs:c.b[a]?=some s) (hi:Ql pt c):Ql pt (c.half a s false)∨Ql pt (c.half a s true):=by
 obtain ⟨us,h1,h2,h3⟩:=hi;have ha:=(abM.1 hs).1;have hbl:=h.p.bl;obtain ⟨t,ht⟩:=ai (l:=us) (k:=a) abq;have h2t:=h2 t (abz ht);have hh:=rp;have key:∀(u:Bool) (v:Dyadic),0≤v∧v<1→(if u then dm (-1)+(1-dm (-1))*v else dm (-1)*v)=t→Ql pt (c.half a s u):=fun u v hv he=>by
  refine ⟨us.set a v,by rw [acU];exact h1,fun x hx=> ?_, ?_⟩
  ·rcases aeN hx with hx|rfl
   ·exact h2 x hx
   ·exact hv
  ·have h4:=IL (u:=u) (us:=us.set a v) (t:=v) h.p.up hs (by rw [acV,abx rfl,abx abq]);show vj (mH c.b a s u) _=_;rw [h4,he,List.set_set];have h5:us.set a t=us:=by
    refine acp fun i=> ?_;rw [acV];by_cases hi:a=i
    ·subst hi;rw [abx rfl,abx abq,ht]
    ·rw [abw hi]
   rw [h5];exact h3
 by_cases hlt:t<dm (-1)
 ·exact .inl (key false (t+t) (by constructor<;>grind) (by show dm (-1)*(t+t)=t;grind))
 ·exact .inr (key true (t+t-1) (by constructor<;>grind) (by show dm (-1)+(1-dm (-1))*(t+t-1)=t;grind))
theorem LP {l:List SR}{s:SR}{a b:Dyadic} (hs:s∈l) (h:Dw s a b):Dw (kA l) a b:=by
 obtain ⟨h1,h2⟩:=HK hs
 rcases h with ⟨k1,k2,k3⟩|⟨k1,k2,k3⟩
 ·exact .inl ⟨k1,Std.le_trans (HQ h1 (by grind)) k2,Std.le_trans k3 (HQ h2 (by grind))⟩
 ·exact .inr ⟨k1,Std.le_trans k2 (Jh h1 (by grind)),Std.le_trans (Jh h2 (by grind)) k3⟩
theorem vC {f g:FX} (h:gB f g=0):cL [f,g]=0∧tS ((kz (maxD [f,g]) g).map nR)≠0:=by
 unfold gB at h;by_cases h0:cL [f,g]=0
 ·rw [abx h0] at h;refine ⟨h0,fun h1=> ?_⟩;rw [abx h1] at h;exact absurd h abr
 ·rw [abw h0] at h;exact absurd h h0
theorem Q4 {q:List TR}{c:CV}{g:Int}{pt:List Dyadic} (h:QT p q b0 c) (ho:c.ok) (h0:gB c.f c.g=0) (hi:Ql pt c):Dw (eD c.f c.g g) (iG pt p) (iG pt q):=by
 obtain ⟨us,h1,h2,h3⟩:=hi;have vx:=h.p.vl us.reverse (by rw [abY];exact h1);have vy:=h.q.vl us.reverse (by rw [abY];exact h1);rw [ad0,h3] at vx vy;obtain ⟨hr,hs⟩:=vC h0;have lf:c.f.ds.length=c.f.n∧c.f.cs.length=c.f.m:=⟨bZ _,abH _⟩;have lg:c.g.ds.length=c.g.n∧c.g.cs.length=c.g.m:=⟨bZ _,abH _⟩;have hln:∀x∈[c.f,c.g],x.ds.length=x.n:=by simpa using ⟨lf.1,lg.1⟩
 obtain ⟨hlk,_,hc⟩:=mu hr hln;obtain ⟨a1,a2,a3⟩:=kD hlk hln c.f (by simp);obtain ⟨c1,c2, -⟩:=kD hlk hln c.g (by simp);have n1:c.f.ns=c.D:=iS _;have n2:c.g.ns=c.D:=iS _;have m1:c.f.cs.map NR.d=c.X:=by show (c.X.map nR).map NR.d=_;rw [ack];exact (acT fun y _=>a6 y).trans (adR _)
 have m2:c.g.cs.map NR.d=c.Y:=by show (c.Y.map nR).map NR.d=_;rw [ack];exact (acT fun y _=>a6 y).trans (adR _)
 have tl:us.reverse.length=(maxD [c.f,c.g]).length:=by rw [abY,a1,n1];exact h1
 have wx:=tp (ns:=c.f.ns) (D:=maxD [c.f,c.g]) (xs:=c.f.cs.map NR.d) (ts:=us.reverse) a1.symm a2 tl;have wy:=tp (ns:=c.g.ns) (D:=maxD [c.f,c.g]) (xs:=c.g.cs.map NR.d) (ts:=us.reverse) c1.symm c2 tl;have lx:=kN a1 a2;have ly:=kN c1 c2;have hb:=Qm (ds:=(maxD [c.f,c.g]).reverse) (X:=kz (maxD [c.f,c.g]) c.f) (Y:=kz (maxD [c.f,c.g]) c.g) (ts:=us.reverse) (p:=g) (fun t h=>h2 t (adp.1 h)) (by rw [cf];exact lx) (by rw [cf];exact ly) hs;rw [show eD c.f c.g g=kA (l4 (kz (maxD [c.f,c.g]) c.f) (kz (maxD [c.f,c.g]) c.g) g) from abx h0,←vx,←vy];rw [show eS (maxD [c.f,c.g]).reverse (kz (maxD [c.f,c.g]) c.f) us.reverse=eS c.D.reverse c.X us.reverse by rw [←n1,←m1];exact wx,show eS (maxD [c.f,c.g]).reverse (kz (maxD [c.f,c.g]) c.g) us.reverse=eS c.D.reverse c.Y us.reverse by rw [←n2,←m2];exact wy] at hb;exact hb
theorem Ah {c:CV}{g:Int} (ho:c.ok) (h0:gB c.f c.g=0) (hg1: -1000≤g) (hg2:g≤1000):(eD c.f c.g g).fin 1002014:=by
 obtain ⟨hr,hs⟩:=vC h0;obtain ⟨zx,zy⟩:=ho.up hr;have lf:c.f.ds.length=c.f.n∧c.f.cs.length=c.f.m:=⟨bZ _,abH _⟩;have lg:c.g.ds.length=c.g.n∧c.g.cs.length=c.g.m:=⟨bZ _,abH _⟩;have hln:∀x∈[c.f,c.g],x.ds.length=x.n:=by simpa using ⟨lf.1,lg.1⟩
 obtain ⟨hlk,_,hc⟩:=mu hr hln;obtain ⟨a1,a2,a3⟩:=kD hlk hln c.f (by simp);obtain ⟨c1,c2, -⟩:=kD hlk hln c.g (by simp);have lx:=kN a1 a2;have ly:=kN c1 c2;have hpos:=de (maxD [c.f,c.g]);rw [show eD c.f c.g g=kA (l4 (kz (maxD [c.f,c.g]) c.f) (kz (maxD [c.f,c.g]) c.g) g) from abx h0];have hql:=tB (p:=g) (show (kz (maxD [c.f,c.g]) c.f).length=(kz (maxD [c.f,c.g]) c.g).length by omega);refine C0 (fun h1=> ?_) (fun s hs=> ?_) abr
 ·rw [h1,lx] at hql;replace hql:0=ah (maxD [c.f,c.g]):=hql;omega
 ·obtain ⟨i,hi⟩:=acG.1 hs;have hi2:=(abM.1 hi).1;rw [hql] at hi2;obtain ⟨a,ha⟩:=ai hi2;obtain ⟨b,hb⟩:=ai (l:=kz (maxD [c.f,c.g]) c.g) (k:=i) abq;rw [rq ha hb] at hi;rw [←aca hi];unfold KI;rw [a6,a6];have za:=zx a (abz ha);have zb:=zy b (abz hb);exact ⟨wu g za zb hg1 hg2,(wu g za.neg zb hg1 hg2).neg⟩
structure WE (q:List TR) (b0:List SR) (eps:Dyadic) (A:List NR):Prop where
 len:A.length=b0.length
 has:hasB b0 A=true
 ZG:kH (iG (A.map NR.d) q)<eps
 num:∀y∈A,y.ok∧Sz 1000 y.d
theorem Qy {q:List TR}{c:CV}{eps:Dyadic} (h:QT p q b0 c) (ho:c.ok) (h0:mq c.g eps=0):WE q b0 eps (JQ c.b (nX c.g eps)):=by
 have h12:=ho.d12;have hbl:=h.q.bl;have he:c.g.e=0:=FX.is.e (f:=c.g) (D:=c.D) (X:=c.Y) ⟨rfl,rfl⟩ ho.d12 ho.d127 ho.ly (by have:=ho.Fs;omega);have n2:c.g.ns=c.D:=iS _;unfold mq at h0;rw [abw (fun h=>h he)] at h0;have hk:nX c.g eps=(uq c.g eps).getD 0:=by unfold nX;rw [abw (fun h=>h he)]
 cases hO:uq c.g eps with
 |none=>rw [hO] at h0;exact absurd h0 abr
 |some k=>
  rw [hO] at hk;rw [hk];unfold uq at hO;rw [List.find?_range_eq_some] at hO;obtain ⟨g1,g2,_⟩:=hO;have g1:=ads g1;have g2:=ab3.1 g2;have hcE:Qc c.g (k:Int)=0:=by
   unfold Qc;rw [abw (fun h=>h he),abw abq]
  have hcv:(uT c.g (k:Int)).d=(c.Y[Xz c.D k]?).getD 0:=by
   unfold uT;rw [hcE,abx rfl,n2,ada,show c.g.cs=c.Y.map nR from rfl,K7,a6]
  have hpl:=Rp (b:=c.b) (k:=k) abq;rw [hbl] at hpl;have hc:=Pu (ns:=c.D) (X:=c.Y) k;have hmap:((lz c.D.length k).map nD).length=c.D.length:=by rw [abH,pX]
  have hv:=h.q.vl ((lz c.D.length k).map nD).reverse (by rw [abY,hmap]);rw [ad0,hc,←hcv,←hpl] at hv;refine ⟨?_, ?_, ?_,fun y hy=> ?_⟩
  ·show (c.b.mapIdx _).length=_;rw [List.length_mapIdx];exact h.len
  ·unfold hasB;rw [abS,ab1,ab6];refine ⟨?_,fun x hx=> ?_⟩
   ·show _=(c.b.mapIdx _).length;rw [List.length_mapIdx];exact h.len.symm
   ·obtain ⟨i,hi⟩:=acG.1 hx;rw [aeL] at hi;obtain ⟨hz,hy⟩:=hi;unfold JQ at hy;rw [adj] at hy
    cases hs:c.b[i]? with
    |none=>rw [hs] at hy;cases hy
    |some s=>
     rw [hs] at hy;have hy:cond (jq ((some k).getD 0:Nat) i) s.f.hi s.f.lo=x.2:=aca hy;obtain ⟨k1,k2⟩:=h.Zq i s x.1 hs hz;obtain ⟨m,e0,e1,e2,e3,e4,e5⟩:=kq (h.q.up s (abz hs));obtain ⟨g1,g2⟩:=J3 (h.q.up s (abz hs));rw [←hy];unfold SR.has
     cases jq ((some k).getD 0:Nat) i with
     |false=>
      show decide (_∧_)=true;rw [show (cond false s.f.hi s.f.lo).d=s.L from e2];exact abQ (by constructor<;>grind)
     |true=>
      show decide (_∧_)=true;rw [show (cond true s.f.hi s.f.lo).d=s.H from e3];exact abQ (by constructor<;>grind)
  ·show kH (iG ((c.b.mapIdx fun i s=>cond (jq (k:Int) i) s.f.hi s.f.lo).map NR.d) q)<eps;rw [←hv];exact g1
  ·obtain ⟨i,hi⟩:=acG.1 hy;unfold JQ at hi;rw [adj] at hi
   cases hs:c.b[i]? with
   |none=>rw [hs] at hi;cases hi
   |some s=>
    rw [hs] at hi;have hi:cond (jq ((some k).getD 0:Nat) i) s.f.hi s.f.lo=y:=aca hi;have hf:=SR.qb (ho.bx s (abz hs)) abr;rw [←hi]
    cases jq ((some k).getD 0:Nat) i with
    |false=>exact ⟨hf.1.ok,hf.1.sz⟩
    |true=>exact ⟨hf.2.ok,hf.2.sz⟩
def XW (p q:List TR) (b0:List SR) (eps:Dyadic) (pt:List Dyadic) (R:RV):Prop:=
 (R.k=1∧R.at_=[]∧Dw R.s (iG pt p) (iG pt q)∧R.s.fin 1002014)∨(R.k=2∧R.s=II∧WE q b0 eps R.at_)
theorem yh {p q:List TR}{b0:List SR}{eps:Dyadic}{g bu:Int}{pt:List Dyadic} (hg1: -1000≤g) (hg2:g≤1000):∀(f n:Nat) (st:List CV) (l:List SR) (R:RV) (k:Int),yw eps g bu f n st l R k 0→(∀c∈st,QT p q b0 c)→(∀s∈l,Sz 1002014 s.lo.d∧Sz 1002014 s.hi.d)→
  ((∃s∈l,Dw s (iG pt p) (iG pt q))∨∃c∈st,Ql pt c)→(n:Int)≤k∧k≤bu∧XW p q b0 eps pt R
 |0,_,[],_,_,_,h,_,_,_=>absurd h.2.2 abr
 |_+1,_,[],_,_,_,h,_,_,_=>absurd h.2.2 abr
 |0,_,_::_,_,_,_,h,_,_,_=>h.elim
 |f+1,n,c::st,l,R,k,h,hst,hl,hcv=>by
  rw [yw] at h;by_cases hb:bu<n
  ·rw [abx hb] at h;exact absurd h.2.2 abr
  ·rw [abw hb] at h;obtain ⟨ho,h⟩:=h;have hc:=hst c abF;have hst':∀c∈st,QT p q b0 c:=fun d hd=>hst d (abN _ hd);by_cases h0:gB c.f c.g=0
   ·rw [abx h0] at h;obtain ⟨hv,h⟩:=h;have hf:=Ah ho h0 hg1 hg2;have hl':∀s∈l++[eD c.f c.g g],Sz 1002014 s.lo.d∧Sz 1002014 s.hi.d:=fun s hs=>by
     rcases acq.1 hs with hs|hs
     ·exact hl s hs
     ·rw [abX.1 hs];exact ⟨hf.1.sz,hf.2.sz⟩
    have hcv':(∃s∈l++[eD c.f c.g g],Dw s (iG pt p) (iG pt q))∨∃c∈st,Ql pt c:=by
     rcases hcv with ⟨s,hs,h1⟩|⟨d,hd,h1⟩
     ·exact .inl ⟨s,adf _ hs,h1⟩
     ·rcases abO.1 hd with rfl|hd
      ·exact .inl ⟨_,acI _ (abX.2 rfl),Q4 hc ho h0 h1⟩
      ·exact .inr ⟨d,hd,h1⟩
    by_cases hn:st=[]
    ·rw [abx hn] at h;obtain ⟨rfl,rfl,_⟩:=h;refine ⟨ael _,abq,.inl ⟨rfl,rfl, ?_,C0 (by simp) hl' abr⟩⟩
     rcases hcv' with ⟨s,hs,h1⟩|⟨d,hd,_⟩
     ·exact LP hs h1
     ·rw [hn] at hd;exact absurd hd acS
    ·rw [abw hn] at h;obtain ⟨r1,r2,r3⟩:=yh hg1 hg2 f (n+1) st _ R k h hst' hl' hcv';exact ⟨abq,r2,r3⟩
   ·rw [abw h0] at h;by_cases h1:mq c.g eps=0
    ·rw [abx h1] at h;obtain ⟨rfl,rfl,_⟩:=h;exact ⟨ael _,abq,.inr ⟨rfl,rfl,Qy hc ho h1⟩⟩
    ·rw [abw h1] at h;obtain ⟨a,s,_,hs,_,h⟩:=h;obtain ⟨r1,r2,r3⟩:=yh hg1 hg2 f (n+1) _ l R k h (fun d hd=>by
      rcases abO.1 hd with rfl|hd
      ·exact hc.half hs false
      ·rcases abO.1 hd with rfl|hd
       ·exact hc.half hs true
       ·exact hst' d hd) hl (by
      rcases hcv with h2|⟨d,hd,h2⟩
      ·exact .inl h2
      ·rcases abO.1 hd with rfl|hd
       ·rcases Ql.half hc hs h2 with h3|h3
        ·exact .inr ⟨_,abF,h3⟩
        ·exact .inr ⟨_,abN _ abF,h3⟩
       ·exact .inr ⟨d,abN _ (abN _ hd),h2⟩)
     exact ⟨abq,r2,r3⟩
theorem xM {eps:Dyadic}{g bu:Int}{m:Nat}:∀(f n:Nat) (st:List CV) (l:List SR) (R:RV) (k:Int),yw eps g bu f n st l R k 0→yw eps g (bu+m) f n st l R k 0
 |0,_,[],_,_,_,h=>h
 |_+1,_,[],_,_,_,h=>h
 |0,_,_::_,_,_,_,h=>h.elim
 |f+1,n,c::st,l,R,k,h=>by
  rw [yw] at h ⊢;by_cases hb:bu<n
  ·rw [abx hb] at h;exact absurd h.2.2 abr
  ·rw [abw hb] at h;rw [abw abq];obtain ⟨ho,h⟩:=h;refine ⟨ho, ?_⟩;by_cases h0:gB c.f c.g=0
   ·rw [abx h0] at h ⊢;refine ⟨h.1, ?_⟩;by_cases hn:st=[]
    ·rw [abx hn] at h ⊢;exact h.2
    ·rw [abw hn] at h ⊢;exact xM f _ _ _ _ _ h.2
   ·rw [abw h0] at h ⊢;by_cases h1:mq c.g eps=0
    ·rw [abx h1] at h ⊢;exact h
    ·rw [abw h1] at h ⊢;obtain ⟨a,s,h2,h3,h4,h⟩:=h;exact ⟨a,s,h2,h3,h4,xM f _ _ _ _ _ h⟩
theorem HG:∀(n:Nat) (b:List SR),b.length=n+1→∃(a:Nat),pb b (a:Int)∧a<b.length
 |0,b,h=>by
  match b,h with
  |[s],_=>exact ⟨0,vM (b:=[]) s,Nat.zero_lt_one⟩
 |n+1,b,h=>by
  obtain ⟨l,s,rfl⟩:∃l s,b=l++[s]:=⟨b.dropLast,b.getLast (by intro h1;rw [h1] at h;cases h),(List.dropLast_concat_getLast _).symm⟩;have hl:l.length=n+1:=by rw [abJ] at h;simpa using h
  obtain ⟨a,ha,hal⟩:=HG n l hl
  rcases ha with ⟨h1,_⟩|⟨m,u,hu,hm,g1,g2⟩
  ·rw [h1] at hl;cases hl
  ·obtain rfl:a=m:=abq;by_cases hw:u.wid<s.wid
   ·exact ⟨l.length,D9 g1 hw,by rw [abJ];exact Nat.lt_succ_self _⟩
   ·exact ⟨a,Ff hu g1 g2 hw,by rw [abJ];omega⟩
theorem QF {b:List SR}{v w:Int} (h:pb b v) (h':pb b w):v=w:=by
 rcases h with ⟨h1,h2⟩|⟨m,u,hu,hm,g1,g2⟩
 ·rcases h' with ⟨_,h3⟩|⟨m',u',hu',_⟩
  ·omega
  ·rw [h1] at hu';cases hu'
 ·rcases h' with ⟨h1,_⟩|⟨m',u',hu',hm',g1',g2'⟩
  ·rw [h1] at hu;cases hu
  ·rcases Nat.lt_trichotomy m m' with hlt|rfl|hlt
   ·exact absurd (g2' m u hlt hu) (g1 m' u' hu')
   ·omega
   ·exact absurd (g2 m' u' hlt hu') (g1' m u hu)
theorem sP:∀D:List Nat,iI D D=D
 |[]=>rfl
 |d::D=>by
  show max d d::iI D D=_;rw [sP D,Nat.max_self]
theorem o0 {B:Nat}:∀D:List Nat,(∀d∈D,d≤B)→ah D≤(B+1)^D.length
 |[],_=>abD _
 |d::D,h=>by
  rw [ah,ab0,acr,abU];exact acR (o0 D fun x hx=>h x (abN _ hx)) (by have:=h d abF;omega)
structure mr (p q:List TR) (b0:List SR) (n:Nat) (c:CV):Prop where
 on:QT p q b0 c
 fin:∀s∈c.b,s.fin (124+2*n)
 d3:c.D.length≤3
 d0:c.D.length≠0
 d2:∀d∈c.D,d≤2
 zx:∀x∈c.X,Sz (50000+300*n) x
 zy:∀x∈c.Y,Sz (50000+300*n) x
theorem mr.mono {q:List TR}{c:CV} (h:mr p q b0 n c) (hm:n≤m):mr p q b0 m c:=
 ⟨h.on,fun s hs=>⟨⟨(h.fin s hs).1.ok,(h.fin s hs).1.sz.mono abq⟩,(h.fin s hs).2.ok,(h.fin s hs).2.sz.mono abq⟩,h.d3,h.d0,h.d2,fun x hx=>(h.zx x hx).mono abq,fun x hx=>(h.zy x hx).mono abq⟩
theorem mr.Fs {q:List TR}{c:CV} (h:mr p q b0 n c):ah c.D≤27:=
 abW (o0 c.D h.d2) (abW (ach abr h.d3) abr)
theorem mr.ok {q:List TR}{c:CV} (h:mr p q b0 n c) (hn:n≤50):c.ok:=by
 have hc:=h.Fs;have h3:=h.d3;have hm:=h.mono hn;have hup:∀Z:List Dyadic,Z.length=ah c.D→(∀x∈Z,Sz (50000+300*50) x)→∀x∈kz c.D (oW c.D Z),Sz 250000 x:=fun Z hl hz x hx=>by
  have hns:(oW c.D Z).ns=c.D:=iS _;have hcs:(oW c.D Z).cs.map NR.d=Z:=by show (Z.map nR).map NR.d=_;rw [ack];exact (acT fun y _=>a6 y).trans (adR _)
  unfold kz at hx;rw [hns,hcs] at hx;have h1:=AB (ns:=c.D) (D:=c.D) (xs:=Z) (k:=50000+300*50) hz rfl abq (fun d hd=>by have:=h.d2 d hd;omega) x hx;have h2:ah (ix c.D c.D)≤ah c.D:=pR (oN rfl) fun i a b ha hb=>by
   rw [rC hb hb] at ha;have:=aca ha;omega
  have h3:ah (ix c.D c.D)*ah c.D≤27*27:=acR abq hc;exact h1.mono abq
 refine ⟨fun s hs=>⟨⟨(hm.fin s hs).1.ok,(hm.fin s hs).1.sz.mono abr⟩,(hm.fin s hs).2.ok,(hm.fin s hs).2.sz.mono abr⟩,by have:=h.on.p.bl;omega,abq,fun d hd=>by have:=h.d2 d hd;omega,abq,h.on.p.len,h.on.q.len,fun x hx=>(hm.zx x hx).mono abr,fun x hx=>(hm.zy x hx).mono abr,fun _=> ?_⟩;have e:maxD [c.f,c.g]=c.D:=by
  show iI (iI ((a0 c.D).map Int.toNat) ((a0 c.D).map Int.toNat)) ((a0 c.D).map Int.toNat)=_;rw [iS,sP,sP]
 rw [e];exact ⟨hup c.X h.on.p.len hm.zx,hup c.Y h.on.q.len hm.zy⟩
theorem mr.half {q:List TR}{a:Nat}{c:CV}{s:SR} (h:mr p q b0 n c) (hn:n≤50) (hs:c.b[a]?=some s) (u:Bool):mr p q b0 (n+1) (c.half a s u):=by
 have ha:=(abM.1 hs).1;have hbl:=h.on.p.bl;refine ⟨h.on.half hs u,fun z hz=> ?_,h.d3,h.d0,h.d2,fun x hx=> ?_,fun x hx=> ?_⟩
 ·have:=O8 (u:=u) h.fin abq hs z hz;rwa [show 124+2*n+2=124+2*(n+1) by omega] at this
 ·exact (HY (D:=2) abq h.d2 abr h.on.p.len oF.1 oF.2 h.zx x hx).mono abq
 ·exact (HY (D:=2) abq h.d2 abr h.on.q.len oF.1 oF.2 h.zy x hx).mono abq
theorem Hj {p q:List TR}{b0:List SR}{eps:Dyadic}{g bu:Int} (hg1: -1000≤g) (hg2:g≤1000) (hbu:bu≤40):∀(f n:Nat) (st:List CV) (l:List SR),(∀c∈st,mr p q b0 n c)→bu+1<n+f→((n:Int)≤bu+1∨0<f)→∃R k e,yw eps g bu f n st l R k e
 |0,n,[],l,_,_,_=>⟨LK,0,3,rfl,rfl,rfl⟩
 |f+1,n,[],l,_,_,_=>⟨LK,0,3,rfl,rfl,rfl⟩
 |0,n,c::st,l,h,hf,hn=>by
  exfalso;omega
 |f+1,n,c::st,l,h,hf,_=>by
  by_cases hb:bu<n
  ·exact ⟨LK,0,3,by rw [yw,abx hb];exact ⟨rfl,rfl,rfl⟩⟩
  ·have hc:=h c abF;have ho:=hc.ok abq;have hst:∀d∈st,mr p q b0 (n+1) d:=fun d hd=>(h d (abN _ hd)).mono abq;by_cases h0:gB c.f c.g=0
   ·have hv:=Ah (g:=g) ho h0 hg1 hg2;by_cases hn:st=[]
    ·exact ⟨_,_,_,by rw [yw,abw hb,abx h0,abx hn];exact ⟨ho,⟨hv.1.ok,hv.2.ok⟩,rfl,rfl,rfl⟩⟩
    ·obtain ⟨R,k,e,hE⟩:=Hj hg1 hg2 hbu f (n+1) st (l++[eD c.f c.g g]) hst abq abq;exact ⟨R,k,e,by rw [yw,abw hb,abx h0,abw hn];exact ⟨ho,⟨hv.1.ok,hv.2.ok⟩,hE⟩⟩
   ·by_cases h1:mq c.g eps=0
    ·exact ⟨_,_,_,by rw [yw,abw hb,abw h0,abx h1];exact ⟨ho,rfl,rfl,rfl⟩⟩
    ·have hbl:=hc.on.p.bl;have AJ:=hc.d0;obtain ⟨a,ha,hal⟩:=HG (c.b.length-1) c.b abq;obtain ⟨s,hs⟩:=ai hal;obtain ⟨R,k,e,hE⟩:=Hj hg1 hg2 hbu f (n+1) (c.half a s false::c.half a s true::st) l (fun d hd=>by
      rcases abO.1 hd with rfl|hd
      ·exact hc.half abq hs false
      ·rcases abO.1 hd with rfl|hd
       ·exact hc.half abq hs true
       ·exact hst d hd) abq abq
     exact ⟨R,k,e,by rw [yw,abw hb,abw h0,abw h1];exact ⟨ho,a,s,fun v hv=>QF hv ha,hs,abq,hE⟩⟩
theorem VI {p:PX}{b:List SR}{ns:List Nat} (h:D0 p b 27 9) (hF:n0 p b ns) (h0:(cU p (a7 b)).1=0) (hns:ns=bY p.v p.ts) (h2:∀d∈ns,d≤2):DG ns (mR ns (cU p (a7 b)).2):=by
 have hs:=(h.small abr abr hF h0).2;have hc:=h.Fs hF.e;refine ⟨by rw [hF.nl];exact hF.sY,hF.low,by rw [hns];omega,Bo _ _,fun x hx=>(hs x hx).mono abr⟩
theorem xR {p q:PX}{b:List SR} (sp:D0 p b 27 9) (sq:D0 q b 27 9) (hb3:b.length≤3) (h2p:p.e=0→∀d∈bY p.v p.ts,d≤2) (h2q:q.e=0→∀d∈bY q.v q.ts,d≤2) (hE:lj p q b=0):
  (n0 p b (bY p.v p.ts)∧n0 q b (bY q.v q.ts))∧jF p b []=0∧jF q b []=0∧mr p.ts q.ts b 1 (k7 p q b):=by
 unfold lj at hE;by_cases h1:jF p b []≠0
 ·rw [abx h1] at hE;exact absurd hE h1
 rw [abw h1] at hE;by_cases h2:jF q b []≠0
 ·rw [abx h2] at hE;exact absurd hE h2
 rw [abw h2] at hE;replace h1:=ac7.1 h1;replace h2:=ac7.1 h2;obtain ⟨a1,a2⟩:=sQ h1;obtain ⟨c1,c2⟩:=sQ h2;have hFp:n0 p b (bY p.v p.ts):=(wU a1).2;have hFq:n0 q b (bY q.v q.ts):=(wU c1).2;have op:=WY (Uc hFp (IA hFp a2 sp.ok sp.box abr (sp.grow abr hFp.e)));have oq:=WY (Uc hFq (IA hFq c2 sq.ok sq.box abr (sq.grow abr hFq.e)));have zp:=(sp.small abr abr hFp a2).2;have zq:=(sq.small abr abr hFq c2).2;refine ⟨⟨hFp,hFq⟩,h1,h2, ?_⟩;have np:(eW p b).ns=bY p.v p.ts:=iS _;have nq:(eW q b).ns=bY q.v q.ts:=iS _;have csp:(eW p b).cs.map NR.d=mR (bY p.v p.ts) (cU p (a7 b)).2:=by unfold eW oW;rw [ack];exact (acT fun y _=>a6 y).trans (adR _)
 have csq:(eW q b).cs.map NR.d=mR (bY q.v q.ts) (cU q (a7 b)).2:=by unfold eW oW;rw [ack];exact (acT fun y _=>a6 y).trans (adR _)
 have lf:(eW p b).ds.length=(eW p b).n∧(eW p b).cs.length=(eW p b).m:=⟨bZ _,abH _⟩;have lg:(eW q b).ds.length=(eW q b).n∧(eW q b).cs.length=(eW q b).m:=⟨bZ _,abH _⟩;have hln:∀x∈[eW p b,eW q b],x.ds.length=x.n:=by simpa using ⟨lf.1,lg.1⟩
 obtain ⟨hlk,_,hc⟩:=mu hE hln;obtain ⟨r1,r2,r3⟩:=kD hlk hln (eW p b) (by simp);obtain ⟨s1,s2, -⟩:=kD hlk hln (eW q b) (by simp);have hD2:=PU (B:=2) (f:=eW p b) (g:=eW q b) (by rw [np];exact h2p hFp.e) (by rw [nq];exact h2q hFq.e);have lx:=kN r1 r2;have ly:=kN s1 s2;have hlp:=hFp.nl;have hbp:=hFp.pos;have raise:∀(g:PX) (l:List TR),(eW g b).ns=bY g.v g.ts→(eW g b).cs.map NR.d=mR (bY g.v g.ts) (cU g (a7 b)).2→(maxD [eW p b,eW q b]).length=(eW g b).ns.length→(∀(i x y:Nat),(eW g b).ns[i]?=some x→(maxD [eW p b,eW q b])[i]?=some y→x≤y)→Qd l (bY g.v g.ts) (b.map SR.f) (mR (bY g.v g.ts) (cU g (a7 b)).2)→(∀x∈mR (bY g.v g.ts) (cU g (a7 b)).2,Sz 47000 x)→ah (bY g.v g.ts)≤27→
   Qd l (maxD [eW p b,eW q b]) (b.map SR.f) (kz (maxD [eW p b,eW q b]) (eW g b))∧∀x∈kz (maxD [eW p b,eW q b]) (eW g b),Sz (50000+300*1) x:=fun g l hn hcs hl hle ho hz hcn=>by
  refine ⟨⟨kN hl hle,by rw [hl,hn];exact ho.bl,ho.up,fun ts ht=> ?_⟩,fun x hx=> ?_⟩
  ·have:=tp (ns:=(eW g b).ns) (D:=maxD [eW p b,eW q b]) (xs:=(eW g b).cs.map NR.d) (ts:=ts) hl.symm hle ht;show eS _ (oT _ _ _) _=_;rw [this,hcs,hn];exact ho.vl ts (by rw [ht,hl,hn])
  ·have hD27:=abW (o0 _ hD2) (ach (show 0<2+1 by decide) (show (maxD [eW p b,eW q b]).length≤3 by rw [r1,np];omega));have h1:=AB (ns:=(eW g b).ns) (D:=maxD [eW p b,eW q b]) (xs:=(eW g b).cs.map NR.d) (k:=47000) (by rw [hcs];exact hz) hl.symm (by rw [r1,np];omega) r3 x hx;have h2:ah (ix (maxD [eW p b,eW q b]) (eW g b).ns)≤ah (maxD [eW p b,eW q b]):=pR (oN hl) fun i a c ha hb=>by
    obtain ⟨y,hy⟩:=ai (l:=(eW g b).ns) (k:=i) (by have:=(abM.1 hb).1;omega);rw [rC hb hy] at ha;have:=aca ha;omega
   have h3:ah (ix (maxD [eW p b,eW q b]) (eW g b).ns)*ah (eW g b).ns≤(2+1)^3*27:=acR abq (by rw [hn];exact hcn);exact h1.mono abq
 obtain ⟨x1,x2⟩:=raise p p.ts np csp r1 r2 op zp (sp.Fs hFp.e);obtain ⟨y1,y2⟩:=raise q q.ts nq csq s1 s2 oq zq (sq.Fs hFq.e);refine ⟨⟨x1,y1,fun i s z hs hz=> ?_,abH _⟩,fun s hs=> ?_,by show (maxD _).length≤3;rw [r1,np];omega,by show (maxD _).length≠0;rw [r1,np];omega,hD2,x2,y2⟩
 ·have hs:(b.map SR.f)[i]?=some s:=hs;rw [abI,hz] at hs;have hs:z.f=s:=aca hs;have hup:z.lo.d<z.hi.d:=LS hFp.box (abz hz);obtain ⟨m,e0,e1,e2,e3,e4,e5⟩:=kq hup;rw [←hs,e2,e3];constructor<;>grind
 ·obtain ⟨z,hz,rfl⟩:=abL.1 hs;have:=SR.qb (sp.box z hz) abr;exact ⟨⟨this.1.ok,this.1.sz.mono abr⟩,this.2.ok,this.2.sz.mono abr⟩
variable {bu:Int}{eps:NR}{q:Nat}
theorem SD {v:Int} (h:jR v ts=0) (hs:∀t∈ts,t.m.size≤3) (hx:∀t∈ts,∀c∈t.m.data.toList,c.toNat≤2):ah (bY v ts)≤27:=by
 have hl:=(oO h).2.1
 cases ts with
 |nil=>
  have h1:=o0 (B:=0) (bY v []) (AF h fun t ht=>absurd ht acS);rw [Nat.one_pow] at h1;omega
 |cons t ts=>
  have h1:=o0 (B:=2) _ (AF h hx);have h2:=(cv h).2.2.1 t abF;unfold fY at h2;rw [abS,ab1] at h2;have h3:=hs t abF;exact abW h1 (abW (ach abr (show (bY v (t::ts)).length≤3 by omega)) abr)
theorem Fg {p:PX}{b:List SR} (h1:p.ts.length≤5) (h2:iO 124 p.ts) (h3:∀t∈p.ts,t.m.size≤3∧∀c∈t.m.data.toList,c.toNat≤2) (hb:∀s∈b,s.fin 124):D0 p b 27 9∧(p.e=0→∀d∈bY p.v p.ts,d≤2):=
 ⟨⟨abq,h2,fun t ht=>abW (h3 t ht).1 abr,fun t ht c hc=>abW ((h3 t ht).2 c hc) abr,hb,fun h=>SD h (fun t ht=>(h3 t ht).1) fun t ht=>(h3 t ht).2,abr⟩,fun h=>AF h fun t ht=>(h3 t ht).2⟩
theorem Qu {p q:PX}{b:List SR}{g:Int} (sp:D0 p b 27 9) (sq:D0 q b 27 9) (hb3:b.length≤3) (h2p:p.e=0→∀d∈bY p.v p.ts,d≤2) (h2q:q.e=0→∀d∈bY q.v q.ts,d≤2) (hg1: -1000≤g) (hg2:g≤1000) (hbu:bu≤35):
  ∃R k e,lM p q b eps g bu 40 R k e:=by
 by_cases h1:lj p q b=0
 ·by_cases h2:eps.i.sign≤0
  ·exact ⟨LK,0,1,by unfold lM;rw [abw (fun h=>h h1),abx h2];exact ⟨rfl,rfl,rfl⟩⟩
  ·obtain ⟨_,_,_,hG⟩:=xR sp sq hb3 h2p h2q h1;obtain ⟨R,k,e,h⟩:=Hj (eps:=eps.d) (bu:=bu) hg1 hg2 abq 40 1 [k7 p q b] [] (fun c hc=>by rw [abX.1 hc];exact hG) abq abq;exact ⟨R,k,e,by unfold lM;rw [abw (fun h=>h h1),abw h2];exact h⟩
 ·exact ⟨LK,0,_,by unfold lM;rw [abx h1];exact ⟨rfl,rfl,rfl⟩⟩
theorem KK {p q:PX}{b:List SR}{g:Int}{f:Nat}{R:RV}{k:Int} (m:Nat) (h:lM p q b eps g bu f R k 0):lM p q b eps g (bu+m) f R k 0:=by
 unfold lM at h ⊢;by_cases h1:lj p q b=0
 ·rw [abw (fun h=>h h1)] at h ⊢;by_cases h2:eps.i.sign≤0
  ·rw [abx h2] at h;exact absurd h.2.2 abr
  ·rw [abw h2] at h ⊢;exact xM _ _ _ _ _ _ h
 ·rw [abx h1] at h;exact absurd h.2.2.symm h1
theorem BO {eps:Dyadic}{g bu:Int}:∀(f n:Nat) (st:List CV) (l:List SR) (R:RV) (k e:Int),e≠0→yw eps g bu f n st l R k e→R=LK∧k=0
 |0,_,[],_,_,_,_,_,h=>⟨h.1,h.2.1⟩
 |_+1,_,[],_,_,_,_,_,h=>⟨h.1,h.2.1⟩
 |0,_,_::_,_,_,_,_,_,h=>h.elim
 |f+1,n,c::st,l,R,k,e,he,h=>by
  rw [yw] at h;by_cases hb:bu<n
  ·rw [abx hb] at h;exact ⟨h.1,h.2.1⟩
  ·rw [abw hb] at h;obtain ⟨_,h⟩:=h;by_cases h0:gB c.f c.g=0
   ·rw [abx h0] at h;obtain ⟨_,h⟩:=h;by_cases hn:st=[]
    ·rw [abx hn] at h;exact absurd h.2.2 he
    ·rw [abw hn] at h;exact BO f _ _ _ _ _ _ he h
   ·rw [abw h0] at h;by_cases h1:mq c.g eps=0
    ·rw [abx h1] at h;exact absurd h.2.2 he
    ·rw [abw h1] at h;obtain ⟨a,s,_,_,_,h⟩:=h;exact BO f _ _ _ _ _ _ he h
theorem P9 {p q:PX}{b:List SR}{g:Int}{f:Nat}{R:RV}{k e:Int} (he:e≠0) (h:lM p q b eps g bu f R k e):R=LK∧k=0:=by
 unfold lM at h;split at h
 ·exact ⟨h.1,h.2.1⟩
 ·split at h
  ·exact ⟨h.1,h.2.1⟩
  ·exact BO _ _ _ _ _ _ _ he h
theorem XY (b:List SR) (xs:List Dyadic):vj (b.map SR.f) xs=vj b xs:=by
 unfold vj;refine acp fun i=> ?_;rw [adj,adj,abI]
 cases b[i]? with
 |none=>rfl
 |some s=>
  show some (s.f.L+(s.f.H-s.f.L)*_)=some _;rw [SR.WW,SR.X7]
theorem Kb {p q:PX}{b:List SR}{g:Int}{R:RV}{k:Int}{us:List Dyadic} (sp:D0 p b 27 9) (sq:D0 q b 27 9) (hb3:b.length≤3) (h2p:p.e=0→∀d∈bY p.v p.ts,d≤2) (h2q:q.e=0→∀d∈bY q.v q.ts,d≤2) (hg1: -1000≤g) (hg2:g≤1000)
  (hu:us.length=b.length) (hus:∀t∈us,0≤t∧t<1) (h:lM p q b eps g bu 40 R k 0):
  (n0 p b (bY p.v p.ts)∧n0 q b (bY q.v q.ts))∧1≤k∧k≤bu∧XW p.ts q.ts b eps.d (vj b us) R:=by
 unfold lM at h;by_cases h1:lj p q b=0
 ·rw [abw (fun h=>h h1)] at h;by_cases h2:eps.i.sign≤0
  ·rw [abx h2] at h;exact absurd h.2.2 abr
  ·rw [abw h2] at h;obtain ⟨hF,_,_,hG⟩:=xR sp sq hb3 h2p h2q h1;refine ⟨hF,yh hg1 hg2 40 1 _ _ R k h (fun c hc=>by rw [abX.1 hc];exact hG.on) (fun s hs=>absurd hs acS) (.inr ⟨_,abX.2 rfl,us, ?_,hus,XY b us⟩)⟩;have e1:(k7 p q b).b.length=b.length:=abH _;have e2:=hG.on.p.bl;omega
 ·rw [abx h1] at h;exact absurd h.2.2.symm h1
theorem Mb {v:Int}{xs:List NR} (hp:jR v ts=0) (hv:v=(xs.length:Int)) (hq:q≤1000) (hx:∀x∈xs,Sz q x.d) (ht:iO q ts):Sz 1700000 (iG (xs.map NR.d) ts):=by
 obtain ⟨h1,h2,h3,_⟩:=cv hp;have hf:=(fN.1 h1).2;have hm:∀t∈ts,t.m.size=xs.length:=fun t h=>by
  have:=h3 t h;exact V9
 have h4:=FH hm ts.length (abD _);rw [aez] at h4;rw [←h4];exact (FF hq hx ht (fun t h=>(adl.1 (h3 t h)).1) abq _).mono abq
theorem IE {p:PX}{b:List SR} (sp:D0 p b 27 9) (h2:p.e=0→∀d∈bY p.v p.ts,d≤2):(nH p b (o8 p [])=0→fH (124+124+16394) (bY p.v p.ts) (124+1)≤440000)∧(jF p b []=0→DG (eW p b).ns ((eW p b).cs.map NR.d)):=by
 refine ⟨fun h=>sp.grow abr (wU h).2.e,fun h=> ?_⟩;obtain ⟨a1,a2⟩:=sQ h;have hF:n0 p b (bY p.v p.ts):=(wU a1).2;have hn:(eW p b).ns=bY p.v p.ts:=iS _;have hc:(eW p b).cs.map NR.d=mR (bY p.v p.ts) (cU p (a7 b)).2:=by unfold eW oW;rw [ack];exact (acT fun y _=>a6 y).trans (adR _)
 rw [hn,hc];exact VI sp hF a2 rfl (h2 hF.e)
theorem uO (p q:PX) (L:Option Addr) (n c:Nat) (b:List SR) (eps:NR) (g bu:Int) (T:Option Addr) (m d:Nat) (t:List Nat) (w:World) (hT:dq w) (hp:p.at_ w) (hcp:p.n≤p.c) (hq:q.at_ w) (hcq:q.n≤q.c) (hB:Sl w L n 6 (ar SR.cells b)) (hg1: -9223372036854775808≤g) (hg2:g≤9223372036854775807) (hb1: -9223372036854775808≤bu) (hb2:bu≤9223372036854775807) (hS:Sl w T m 1 (ie t)) (ht:∀c∈t,c<256):
  Calls Tryz.prog 5 #[.agg #[.int .i64 p.v,.slice p.A p.n p.c],.agg #[.int .i64 q.v,.slice q.A q.n q.c],.slice L n c,.agg #[.bool eps.neg,.string eps.aO,.int .i64 eps.e],.int .i64 g,.int .i64 bu,.slice T m d] w fun r w'=>r=.returned (.bool true)∧Below w.heap.size w w':=by
 have hh:=Hp.start w;have hlb:b.length=n:=hB.aX SR.len abr;refine ae (N:=172) (l:=[.agg #[.int .i64 p.v,.slice p.A p.n p.c],.agg #[.int .i64 q.v,.slice q.A q.n q.c],.slice L n c,.agg #[.bool eps.neg,.string eps.aO,.int .i64 eps.e],.int .i64 g,.int .i64 bu,.slice T m d]) Tryz.func5 rfl rfl (by simp) ?_;refine lK ?_;intro b7 w7 hh b8 w8 hh b10 w10 hh;refine au (rl p.v p.A p.n p.c p.ts _ (hp.ext hh.below)) ak.out rfl abr ?_;rintro e_ w29 ⟨v1,rfl,hv1,hb_⟩;refine ⟨_,rfl, ?_⟩;replace hh:=hh.ext hb_
 cases v1 with
 |true=>
  exact Vf
 |false=>
  refine aj ?_;refine au (rl q.v q.A q.n q.c q.ts _ (hq.ext hh.below)) ak.out rfl abr ?_;rintro e_ w32 ⟨v2,rfl,hv2,hb_⟩;refine ⟨_,rfl, ?_⟩;replace hh:=hh.ext hb_
  cases v2 with
  |true=>
   exact Vf
  |false=>
   refine aj ?_;refine au (Cu L n c b eps g bu _ (hB.ext hh.below)) ak.out rfl abr ?_;rintro e_ w39 ⟨v3,rfl,hv3,hb_⟩;refine ⟨_,rfl, ?_⟩;replace hh:=hh.ext hb_
   cases v3 with
   |true=>
    exact Vf
   |false=>
    obtain ⟨p1,p2,p3⟩:=hv1 rfl;obtain ⟨q1,q2,q3⟩:=hv2 rfl;obtain ⟨b3,hbx,he1,he2,g1,g2,b4⟩:=hv3 rfl;clear hv1 hv2 hv3;have hpl:=hp.ln;have hql:=hq.ln;obtain ⟨sp,h2p⟩:=Fg (p:=p) (b:=b) abq p2 p3 hbx;obtain ⟨sq,h2q⟩:=Fg (p:=q) (b:=b) abq q2 q3 hbx;have lp:=sp.jz hp hcp;have lq:=sq.jz hq hcq;obtain ⟨gp,fp⟩:=IE sp h2p;obtain ⟨gq,fq⟩:=IE sq h2q;obtain ⟨R,k,e,hR⟩:=Qu (eps:=eps) (g:=g) (bu:=bu) sp sq abq h2p h2q abq abq abq;have henc:=fun bu' hb1 hb2 hR w1 hT1 hb=>ql p q L n c b eps g bu' 40 R k e 124 w1 hT1 (hp.ext hb) lp (hq.ext hb) lq (hB.ext hb) hbx abq abr gp gq fp fq he1 abq abq hb1 hb2 hR;have henc1:=henc bu hb1 abq hR;refine aj ?_;refine au (henc1 _ (hT.hp hh) hh.below) ak.out rfl abr ?_;rintro e_ w49 ⟨A1,m1,c1,rfl,h3⟩;refine ⟨_,rfl, ?_⟩;replace hh:=hh.join h3;simp only [abE,abC] at hh;clear h3 henc1;obtain ⟨rk,rs,ra⟩:=R;by_cases h0:e=0
    ·subst h0;have henc2:=henc (bu+5) abq abq (KK 5 hR);have hsame:=fun A B ca cb w1=>lY ⟨rk,rs,ra⟩ A B m1 ca cb w1;refine bX ?_;intro b15 w15 hh ws hh;refine au (henc2 _ (hT.hp hh) hh.below) ak.out rfl abr ?_;rintro e_ w73 ⟨A2,m2,c2,rfl,h3⟩;refine ⟨_,rfl, ?_⟩;replace hh:=hh.join h3;simp only [abE,abC] at hh;clear h3 henc2 henc;have hm1:=(hh.ao (i:=2) rfl).aX NR.len abr;have hm2:=(hh.ao (i:=0) rfl).aX NR.len abr;obtain ⟨tn,htn⟩:∃tn,tn=(List.range n).map fun i=>nR (LI t i):=⟨_,rfl⟩;have hlen:tn.length=n:=by rw [htn,abH,adn]
     have htv:∀s∈tn,(s.ok∧Sz 124 s.d)∧0≤s.d∧s.d<1:=fun s hs=>by
      rw [htn] at hs;obtain ⟨i,_,rfl⟩:=abL.1 hs;obtain ⟨z1,z2,z3⟩:=PO t ht i;rw [a6];exact ⟨⟨z1.ok abr,z1.mono abr⟩,z2,z3⟩
     obtain ⟨⟨hFp,hFq⟩,hk1,hk2,hE⟩:=Kb (us:=tn.map NR.d) sp sq abq h2p h2q abq abq (by rw [abH];omega) (fun x hx=>by
      obtain ⟨s,hs,rfl⟩:=abL.1 hx;exact (htv s hs).2) hR
     have hm3:m1≤3:=by
      rcases hE with ⟨_,h4,_⟩|⟨_,_,h4⟩
      ·replace h4:ra=[]:=h4;rw [h4] at hm1;exact abW (Nat.le_of_eq hm1.symm) abr
      ·have h5:=h4.len;replace h5:ra.length=b.length:=h5;omega
     obtain rfl:m1=m2:=hm1.symm.trans hm2;have hsz:∀ys:List NR,ys.length=n→(∀y∈ys,Sz 1000 y.d)→(tW p n=0∧uh p ys=nR (iG (ys.map NR.d) p.ts)∧Sz 1700000 (iG (ys.map NR.d) p.ts))∧tW q n=0∧uh q ys=nR (iG (ys.map NR.d) q.ts)∧Sz 1700000 (iG (ys.map NR.d) q.ts):=fun ys hy hz=>by
      obtain ⟨x1,x2⟩:=EW (p:=p) (ys:=ys) hFp.e (by rw [hFp.v];omega);obtain ⟨x3,x4⟩:=EW (p:=q) (ys:=ys) hFq.e (by rw [hFq.v];omega);rw [hy] at x1 x3;exact ⟨⟨x1,x2,Mb hFp.e (by rw [hFp.v];omega) abr hz (p2.mono abr)⟩,x3,x4,Mb hFq.e (by rw [hFq.v];omega) abr hz (q2.mono abr)⟩
     refine bX ?_;intro b18 w18 hh ws hh;refine aZ hh (hsame _ _ _ _ _ (hh.ao (i:=3) rfl) (hh.ao (i:=1) rfl) abq) rfl ?_;intro w87 hh
     rcases hE with ⟨h4,h5,h6,h7⟩|⟨h4,h5,h6⟩
     ·obtain rfl:rk=1:=h4;obtain rfl:ra=[]:=h5;obtain rfl:m1=0:=hm1.symm;have hpl2:∀y∈b.mapIdx (fun i s=>ig tn i s.f),y.ok∧Sz 300 y.d:=OA hbx (fun x hx=>(htv x hx).1.2) abq;have hpn:(b.mapIdx fun i s=>ig tn i s.f).length=n:=by rw [List.length_mapIdx];exact hlb
      obtain ⟨⟨x1,x2,x3⟩,x4,x5,x6⟩:=hsz _ hpn fun y hy=>(hpl2 y hy).2.mono abr;rw [Ox abq] at x2 x3 x5 x6;have hat:=fun w1 hT1 hb1=>KO T m d n t w1 hT1 (hS.ext hb1) ht abq;rw [←htn] at hat;have hplc:=fun A cc w1 hT1 hb hS1=>Ba L n c b A n cc tn 124 w1 hT1 (hB.ext hb) hbx hS1 (fun x hx=>(htv x hx).1) abq abq abr;have hev1:=fun A cc w1 hT1 hb hS1=>oE p (b.mapIdx fun i s=>ig tn i s.f) A n cc 300 w1 hT1 (hp.ext hb) ⟨lp.n,lp.cap,lp.ok.mono abr,lp.sz⟩ hS1 hpn hpl2 abr;have hev2:=fun A cc w1 hT1 hb hS1=>oE q (b.mapIdx fun i s=>ig tn i s.f) A n cc 300 w1 hT1 (hq.ext hb) ⟨lq.n,lq.cap,lq.ok.mono abr,lq.sz⟩ hS1 hpn hpl2 abr;rw [x1,x2] at hev1;rw [x4,x5] at hev2;have hbw:=fun w1 hT1=>xL rs (nR (iG (vj b (tn.map NR.d)) p.ts)) (nR (iG (vj b (tn.map NR.d)) q.ts)) 1700000 w1 hT1 ⟨⟨h7.1.ok,h7.1.sz.mono abr⟩,h7.2.ok,h7.2.sz.mono abr⟩ (x3.ok abr) (by rw [a6];exact x3) (x6.ok abr) (by rw [a6];exact x6) abr (by rw [a6,a6];exact h6);clear htn h6 h7 x1 x2 x3 x4 x5 x6 hsz hsame;generalize iG (vj b (tn.map NR.d)) p.ts=V1 at*;generalize iG (vj b (tn.map NR.d)) q.ts=V2 at*;generalize (b.mapIdx fun i s=>ig tn i s.f)=pt at*;refine aj ?_
      refine au (hat _ (hT.hp hh) hh.below) ak.out rfl abr ?_;rintro e_ w106 ⟨A3,c3,rfl,h3⟩;refine ⟨_,rfl, ?_⟩;replace hh:=hh.join h3;simp only [abE,abC] at hh;clear h3;refine au (hplc _ _ _ (hT.hp hh) hh.below (hh.ao (i:=0) rfl)) ak.out rfl abr ?_;rintro e_ w107 ⟨A107,c107,rfl,hown_,hb_⟩;refine ⟨_,rfl, ?_⟩;replace hh:=hh.aD (x:=.row _ _ _ _ _ _) hb_ hown_;refine aj ?_;refine aZ hh (hev1 _ _ _ (hT.hp hh) hh.below (hh.ao (i:=0) rfl)) rfl ?_;intro w111 hh;refine bX ?_;intro b22 w22 hh ws hh;refine aZ hh (hev2 _ _ _ (hT.hp hh) hh.below (hh.ao (i:=1) rfl)) rfl ?_;intro w117 hh;refine bX ?_;intro b24 w24 hh ws hh;refine aZ hh (hbw _ (hT.hp hh)) rfl ?_;intro w137 hh;refine aj ?_;refine aZ hh (kK _ (hT.hp hh)) rfl ?_;intro w140 hh;refine aj ?_;exact ⟨rfl,hh.below⟩
     ·obtain rfl:rk=2:=h4;have hpn:ra.length=n:=by have:ra.length=b.length:=h6.len;omega
      have hnum:∀y∈ra,y.ok∧Sz 1000 y.d:=h6.num;obtain ⟨-,x4,x5,x6⟩:=hsz _ hpn fun y hy=>(hnum y hy).2;obtain rfl:m1=n:=hm1.symm.trans hpn;have hnear:kH (iG (ra.map NR.d) q.ts)<eps.d:=h6.ZG;have hin:hasB b ra=true:=h6.has;have hev2:=fun A cc w1 hT1 hb hS1=>oE q ra A m1 cc 1000 w1 hT1 (hq.ext hb) ⟨lq.n,lq.cap,lq.ok.mono abr,lq.sz⟩ hS1 hpn hnum abr;rw [x4,x5] at hev2;have zA:Sz 1700000 (kH (iG (ra.map NR.d) q.ts)):=Sz.kH x6;have hok:=x6.ok (show 1700000≤3999990 by decide);have hok2:=zA.ok (show 1700000≤3999990 by decide);have hab:=fun w1 hT1=>xf (nR (iG (ra.map NR.d) q.ts)) w1 hT1 (by have:=hok.1;omega) (by have:=hok.2.1;omega) (by have:=hok.2.2;omega);rw [a6] at hab;rw [show (if iG (ra.map NR.d) q.ts<0 then -iG (ra.map NR.d) q.ts else iG (ra.map NR.d) q.ts)=kH (iG (ra.map NR.d) q.ts) from rfl] at hab;have hcm:=fun w1 hT1=>gh (nR (kH (iG (ra.map NR.d) q.ts))) eps w1 hT1 hok2 he1;rw [a6,nk hnear] at hcm;have hhas:=fun A cc w1 hT1 hb hS1=>GY L m1 c b A m1 cc ra 124 w1 hT1 (hB.ext hb) hS1 hbx (fun y hy=>(hnum y hy).1) abq abq abr;rw [hin] at hhas;clear hsz hsame hnear zA x4 x5 x6 hok hok2
      generalize kH (iG (ra.map NR.d) q.ts)=V3 at*;generalize iG (ra.map NR.d) q.ts=V2 at*;refine aj ?_;refine aZ hh (hev2 _ _ _ (hT.hp hh) hh.below (hh.ao (i:=3) rfl)) rfl ?_;intro w146 hh;refine bX ?_;intro b26 w26 hh ws hh;refine aC 17 [[(15,none)],[(149,some 0)],[(150,some 1)],[(151,some 2)],[(2,none),(152,some 3)],[(15,none),(152,some 3)],[(154,some 5),(152,some 3)],[(153,some 4),(155,some 6),(152,some 3)],[(152,some 3),(156,some 7)],[(157,some 8)],[(27,none),(158,some 9)],[(159,some 10),(158,some 9)],[(158,some 9),(160,some 11)],[(161,some 12)],[(26,none),(162,some 13)],[(163,some 14),(162,some 13)],[(10,none),(162,some 13)]] [(16,165),(15,164),(14,163),(13,162),(12,161),(11,160),(10,159),(9,158),(8,157),(7,156),(6,155),(5,154),(4,153),(3,152),(2,151),(1,150),(0,149)] hh mixed abt ?_;refine dw ?_;refine fF 3 ?_;refine tm ?_;refine ml ?_;refine dG (fO ?_);refine dG (dw ?_);refine dG (fF 3 ?_)
      refine di (i:=7) rfl (fun ρ1 w1 hj hR=>(show ρ1 152=Value.bool _ from hR.2.2.1)) (fun ρ1 w1 hj hR=>aR ak.out (aq (show ρ1 153=Value.slice _ _ _ from hR.1) (aq (show ρ1 155=Value.slice _ _ _ from hR.2.1) aY))) (fun w1 hj=>hhas _ _ _ (hT.hp hj.hp) hj.hp.below (hj.hp.ao (i:=4) rfl)) ?_;refine Iz ?_;refine ml ?_;refine dG (dp ?_);refine dG (tm ?_);refine Iz ?_;refine ml ?_;refine dG (da 0 [_,_,_] ?_);refine di (i:=15) rfl (fun ρ1 w1 hj hR=>(show ρ1 162=Value.bool _ from hR.2.1)) (fun ρ1 w1 hj hR=>aR ak.out (aq (show ρ1 163=Value.agg (List.toArray _) from hR.1) aY)) (fun w1 hj=>hab _ (hT.hp hj.hp)) ?_;refine dG (da 5 [_,_,_] ?_);refine av ?_;intro f W hJ hV;have hb_15:=hJ.bl;obtain ⟨v165,v164,v163,v162,v161,v160,v159,v158,v157,v156,v155,v154,v153,v152,v151,v150,v149,_⟩:=hV;replace hh:=hJ.hp;refine ay (aQ (aa v165 (aa v164 (aa v163 (aa v162 (aa v161 (aa v160 (aa v159 (aa v158 (aa v157 (aa v156 (aa v155 (aa v154 (aa v153 (aa v152 (aa v151 (aa v150 (aa v149 aw)))))))))))))))))) ?_;dsimp only [bA];clear hJ;refine aj ?_;refine aZ hh (hcm _ (hT.hp hh)) rfl ?_;intro w166 hh;refine aj ?_;refine aZ hh (kK _ (hT.hp hh)) rfl ?_;intro w170 hh
      refine aj ?_;exact ⟨rfl,hh.below⟩
    ·obtain ⟨hz,rfl⟩:=P9 h0 hR;obtain rfl:rk=0:=acm RV.k hz;refine bX ?_;intro b15 w15 hh ws hh;refine aZ hh (kK _ (hT.hp hh)) rfl ?_;intro w63 hh;refine aj ?_;exact ⟨rfl,hh.below⟩
end Go.Proofs.YtmchncaiffbpaaaGreatDoor
namespace Go.Proofs.YtmchncaiffbpaaaGreatDoor.ratioTrue
open Go.ChangeShapes Go.WideShapes Go.ChangeAt Go.RowKit Go.ChangeMaps
theorem own:ownKnob Tryz.prog.godebug=none:=by kernel_rfl
set_option maxRecDepth 100000 in
theorem lifted (os:Os) (started:os.Started) (H:Type) (enc:TypeId×Value→H):
  ReturnsInHanded {} Tryz.checked os 5 .any (fun w args=>(Rows.ratioTrueSpec.pre enc Tryz.prog Tryz.f5 Rows.ratioTrueRow.domain false w args∧laidMetH Tryz.prog Rows.ratioTrueRow.laid w)∧sizedMet enc Tryz.prog Tryz.f5 (OpenSpec.ofChange Rows.ratioTrueSpec) false w args)
   (Rows.ratioTrueSpec.post enc Tryz.prog Tryz.f5 false true false false):=by
 refine returnsInHanded_of_change_and (C:=Tryz.checked) (X:=fun w _=>laidMetH Tryz.prog Rows.ratioTrueRow.laid w) (fun _ _ _ hh h=>h.of_heap hh) own started abt Tryz.func5
  (ChangeSpec.witness_shaped (enc:=enc) (C:=Tryz.checked) (os:=os) (X:=fun w _=>laidMetH Tryz.prog Rows.ratioTrueRow.laid w) false (World.laidAll Tryz.prog os Rows.ratioTrueRow.laid) #[.agg #[.int .i64 0,.slice none 0 0],.agg #[.int .i64 0,.slice none 0 0],.slice none 0 0,.agg #[.bool false,.string ⟨#[]⟩,.int .i64 0],.int .i64 0,.int .i64 0,.slice none 0 0] 8 (World.laidAll_os _ _ _)
   (World.shaped_of_ZipB abt abt) abt abt abt
   (by rw [MakeChecks.laidMetH_plain _ _ _ abt];exact laidMet_laidAll _ abt abt)) ?_
 intro W base args ds gs before hval0 hW hc _ hL _;have hval:∀(j:Nat) t v,Tryz.f5.params[j]?=some t→args[j]?=some v→Value.okWide Tryz.prog W .any base t v:=hval0;have hW':=hW;obtain ⟨p,q,hA0,hV,rfl,hfz,hnd⟩:=hW;have hA:DataW.TrodAll enc Tryz.prog W 0 (fun _=>true) true Tryz.f5.params.toList args.toList ds p:=hA0;rw [Tryz.params5] at hA hval;obtain ⟨v0,vs0,d0,ds0,p0,q0,hargs,rfl,rfl,h0,r0⟩:=trodAll_cons hA;obtain ⟨v1,vs1,d1,ds1,p1,q1,rfl,rfl,rfl,h1,r1⟩:=trodAll_cons r0;obtain ⟨v2,vs2,d2,ds2,p2,q2,rfl,rfl,rfl,h2,r2⟩:=trodAll_cons r1;obtain ⟨v3,vs3,d3,ds3,p3,q3,rfl,rfl,rfl,h3,r3⟩:=trodAll_cons r2;obtain ⟨v4,vs4,d4,ds4,p4,q4,rfl,rfl,rfl,h4,r4⟩:=trodAll_cons r3;obtain ⟨v5,vs5,d5,ds5,p5,q5,rfl,rfl,rfl,h5,r5⟩:=trodAll_cons r4;obtain ⟨v6,vs6,d6,ds6,p6,q6,rfl,rfl,rfl,h6,r6⟩:=trodAll_cons r5;obtain ⟨rfl,rfl,rfl⟩:=trodAll_nil r6;obtain rfl:args= #[v0,v1,v2,v3,v4,v5,v6]:=by cases args;simp_all
 obtain ⟨rfl,rfl⟩:=trodVars_none hV;obtain ⟨f0,rfl,hS0,hR0⟩:=Au (hval 0 52 v0 rfl rfl) h0;obtain ⟨f1,rfl,hS1,hR1⟩:=Au (hval 1 52 v1 rfl rfl) h1;obtain ⟨A2,n2,c2,l2,rfl,hS2,_⟩:=Ns (hval 2 54 v2 rfl rfl) h2;obtain ⟨x3,rfl,_,_⟩:=Mi (hval 3 33 v3 rfl rfl) h3;obtain ⟨x4,rfl,rfl,rfl,b4⟩:=open_int Tryz.underlying3 (hval 4 3 v4 rfl rfl) h4;obtain ⟨x5,rfl,rfl,rfl,b5⟩:=open_int Tryz.underlying3 (hval 5 3 v5 rfl rfl) h5;obtain ⟨A6,n6,c6,l6,rfl,hS6,hI6⟩:=FP (hval 6 26 v6 rfl rfl) h6;refine (uO f0 f1 A2 n2 c2 l2 x3 x4 x5 A6 n6 c6 l6 W (D4 hL) hS0 hR0 hS1 hR1 hS2 (bounds_i64 b4).1 (bounds_i64 b4).2 (bounds_i64 b5).1 (bounds_i64 b5).2 hS6 hI6).mono fun e W' ⟨he,hb⟩=> ?_;subst he;exact ⟨_,rfl,OJ hW' rfl abt (by rw [Tryz.params5];exact ads abt) abt Tryz.underlying4 rfl rfl rfl hb⟩
set_option maxHeartbeats 8000000 in
theorem row_holds:Rows.RatioTrueSaid:=
 OpenClaim.holds_of_wide 5 Tryz.f5 rfl rfl rfl rfl rfl rfl rfl ⟨rfl,rfl,rfl,rfl,rfl⟩ rfl rfl rfl rfl rfl (by as_aux_lemma=>kernel_rfl) Tryz.func5 (by rw [joinedFacts];simp only [abS];and_intros<;>as_aux_lemma=>kernel_rfl)
  (ads (by as_aux_lemma=>kernel_rfl)) (by unfold Func.isWrapper;first|(rw [abx (by decide+kernel)];kernel_rfl)|(rw [abw (by decide+kernel)];exact ⟨rfl,rfl⟩))
  (fun os started H enc _=>lifted os started H enc)
set_option maxHeartbeats 8000000 in
theorem holds:Rows.RatioTrueCardSaid:=
 Claim7.holds_tied_plain_at .later [] [.data,.data,.pinned] true (true, "ecf3ceebdc447751b8c20a115345f3577276edbf64951cb3738b238e6a07027b") false row_holds (fun _ h=>by cases h) (by as_aux_lemma=>kernel_rfl) (fun _ h=>by cases h) ratioTrue_row_tie rfl ⟨rfl,rfl⟩ (by as_aux_lemma=>kernel_rfl) rfl
  (fun f fn hf hfn=>by
   obtain rfl:f=5:=aca ((show Tryz.prog.funcNamed "ogee/ogeelaw20.RatioTrue" =some 5 by as_aux_lemma=>kernel_rfl).symm.trans hf)|>.symm;obtain rfl:fn=Tryz.f5:=(aca (Tryz.func5.symm.trans hfn)).symm;exact ⟨by as_aux_lemma=>kernel_rfl,fun j t ht=>by
    rw [Tryz.params5] at ht;have hm:t∈[52,52,54,33,3,3,26]:=by simpa using Array.mem_of_getElem? ht
    have hall:([52,52,54,33,3,3,26].all fun u=> !Tryz.prog.wantsStandIn u)=true:=by as_aux_lemma=>kernel_rfl
    exact (show Tryz.prog.wantsStandIn t=false by simpa using ab6.1 hall t hm)⟩)
  (by as_aux_lemma=>kernel_rfl)
#print axioms holds
end Go.Proofs.YtmchncaiffbpaaaGreatDoor.ratioTrue
