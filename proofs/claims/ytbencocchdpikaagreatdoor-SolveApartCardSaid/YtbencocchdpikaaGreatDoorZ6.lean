/- Lemmas for solveApart, part 6. -/
import Derived.RangeFuncFrom
import Derived.RangeFuncCalls
import Derived.RangeFuncLeaves
import Derived.Shelf.Abstract
import Derived.Test.YtbencocchdpikaaGreatDoorZ5
set_option linter.all false
set_option maxHeartbeats 0
namespace Go.Proofs.YtbencocchdpikaaGreatDoor
open Go.Proofs.Tryz
open Go.RowKit
def Kj(a b:List Dyadic):List Dyadic:=List.zipWith (· + ·) a b
def SM:List (List Dyadic)->List Dyadic
 |[]=>[]
 |x::l=>l.foldl Kj x
def Zm{a b:List Dyadic}(h:a.length=b.length):(Kj a b).length=a.length:=by simp[Kj,h]
def bW{a b:List Dyadic}{i:Nat}{x y:Dyadic}(h1:a[i]?=some x)(h2:b[i]?=some y):(Kj a b)[i]?=some (x+y):=by
 unfold Kj;rw[n9,h1,h2]
variable {j:Nat}
def As(a b:List Dyadic)(j:Nat):List Dyadic:=(Kj a b).take j++a.drop j
def MR{a b:List Dyadic}{x y:Dyadic}(h:a.length=b.length)(C:a[j]?=some x)(hy:b[j]?=some y):(As a b j).set j (x+y)=As a b (j+1):=by
 have hj:=(x'.1 C).1;unfold As;have Q:((Kj a b).take j).length=j:=by rw[p',Zm h];omega
 rw[de C,ja (bW C hy),F8 _ _ Z',Q,u_];simp
def AV{a b:List Dyadic}{x:Dyadic}(h:a.length=b.length)(C:a[j]?=some x):(As a b j)[j]?=some x:=by
 have hj:=(x'.1 C).1;have Q:((Kj a b).take j).length=j:=by rw[p',Zm h];omega
 unfold As;exact abb
def yS{a b:List Dyadic}(h:a.length=b.length)(hj:j<=a.length):(As a b j).length=a.length:=by
 unfold As;rw[y',p',Zm h,j_];omega
def jO{a b:List Dyadic}(h:a.length=b.length)(hj:j=a.length):As a b j=Kj a b:=by
 unfold As;rw[w' (by rw[Zm h];omega),P8 Z',M_]
def UE:∀{a b:List Nat},a.length=b.length->ea (Kg a b)<=ea a
 |[],[],_=>E' _
 |[],_::_,h=>by simp at h
 |_::_,[],h=>by simp at h
 |x::a,y::b,h=>G9 (show x-y+1<=x+1 by omega) (UE (by simpa using h))
variable {k:Nat}
def QA{k:Nat}:∀(ls:List (List Dyadic))(a:List Dyadic)(j:Nat),(∀x∈a,Sz (k+j) x)->(∀l∈ls,∀x∈l,Sz k x)->∀x∈ls.foldl Kj a,Sz (k+j+ls.length) x
 |[],_,_,h,_=>h
 |l::ls,a,j,h,h2=>λx C=>by
  have:=QA (k:=k) ls (Kj a l) (j+1) (λy hy=>by
   obtain⟨i,hi⟩:=C_.1 hy;unfold Kj at hi;rw[n9] at hi
   cases G:a[i]? with
   |none=>rw[G] at hi;cases hi
   |some p=>
    cases z:l[i]? with
    |none=>rw[G,z] at hi;cases hi
    |some q=>
     rw[G,z] at hi;have P:p+q=y:=i' hi;rw[<-P];exact(h p (N' G)).add ((h2 l I' q (N' z)).mono Z')) (λm hm=>h2 m (L' _ hm)) x C
  exact this.mono (by rw[T_];omega)
def fw:∀(ls:List (List Dyadic))(a:List Dyadic),(∀l∈ls,l.length=a.length)->(ls.foldl Kj a).length=a.length
 |[],_,_=>rfl
 |l::ls,a,h=>(by have h1:=Zm (h l I').symm;rw[S8,fw ls (Kj a l) λm hm=>by rw[h1];exact h m (L' _ hm),h1])
def jS{f:FX}{D:List Nat}(Q:f.Ug k)(he:f.e=0)(hm:f.cs.length<=200)(u:k<=90000)(hlen:D.length=f.ns.length)(r:∀d∈D,d<=127)(E:ea D<=4096):∀x∈gi D f,Sz 1000000 x:=λx C=>by
 obtain⟨_,_,m,_,h,_⟩:=FX.fv he;have K:=UE hlen;have hmul:ea (Kg D f.ns)*ea f.ns<=4096*200:=G9 Z' Z';have:=pB (eJ (ds:=f.ns.reverse) (es:=(Kg D f.ns).reverse) (xs:=f.cs.map NR.da) (ys:=(Wr (Kg D f.ns)).map nD) (k1:=k) (k2:=1600) (λy hy=>by
  obtain⟨c,o,rfl⟩:=B'.1 hy;exact(Q.num c o).2) (λy hy=>by
  obtain⟨c,o,rfl⟩:=B'.1 hy;refine iK o (by rw[Gw hlen];omega) λd T=> ?_;obtain⟨i,hi⟩:=C_.1 T;unfold Kg at hi;rw[n9] at hi
  cases G:D[i]? with
  |none=>rw[G] at hi;cases hi
  |some p=>
   cases z:f.ns[i]? with
   |none=>rw[G,z] at hi;cases hi
   |some q=>
    rw[G,z] at hi;have P:p-q=d:=i' hi;have:=r p (N' G);omega) (ea (Kg D f.ns))) x C
 rw[GJ,Cc] at this;exact this.mono Z'
def cL{f:FX}{D:List Nat}(hlen:D.length=f.ns.length)(hle:∀(i x y:Nat),f.ns[i]?=some x->D[i]?=some y->x<=y):(gi D f).length=ea D:=by
 unfold gi ni DA;rw[ai,av hlen.symm hle]
variable {fs:List FX}
def Su(h:vh fs=0)(m:∀f∈fs,f.ds.length=f.n):∀f∈fs,(maxD fs).length=f.ns.length/\(∀(i x y:Nat),f.ns[i]?=some x->(maxD fs)[i]?=some y->x<=y)/\∀d∈maxD fs,d<=127:=λf hm=>by
 obtain⟨E,Qk,c⟩:=Rr h;obtain⟨f0,q,rfl⟩:=j7 E;have a:∀g∈f0::q,g.ns.length=f0.n:=λg s=>(by unfold FX.ns;rw[D',m g s,c g s];rfl);have e:maxD (f0::q)=((f0::q).map FX.ns).foldl Ii f0.ns:=(by unfold maxD;rw[List.foldl_map];rfl);have J:=a f0 I';obtain⟨h1,_,G⟩:=MB ((f0::q).map FX.ns) f0.ns λl Q=>(by obtain⟨g,s,rfl⟩:=B'.1 Q;rw[a g s,J]);rw[e];refine⟨by rw[h1,J,a f hm],G f.ns (B'.2 ⟨f,hm,rfl⟩),bC 127 _ _ (FX.fv (Qk f0 I')).2.2.2.1 λl Q=> ?_⟩;obtain⟨g,s,rfl⟩:=B'.1 Q;exact(FX.fv (Qk g s)).2.2.2.1
def KI(L)(n c:Nat)(fs)(k:Nat)(w)(hT:Gc w)(hL:Sl w L n 2 (ia FX.cells fs))(hn:n<=1000)(hf:∀f∈fs,f.at_ w)(S:∀f∈fs,f.Ug k)(hm:∀f∈fs,f.m<=200)(hk:k<=90000):Calls prog 224 #[.slice L n c] w λr V=>(qb fs≠0/\r=CP (qb fs)/\Below w.heap.size w V)\/(qb fs=0/\∃g:FX,jZ (maxD fs) (SM (fs.map (gi (maxD fs)))) g/\r=.returned (.tuple #[g.V,.int .i64 0])/\Hp w [g.gg,g.Kf] V):=by
 have I:=Hp.start w;have C:=hL.sa FX.len V';have p:=λZ P R=>Sy L n c fs k Z P (hL.ext R) hn (λf hm=>(hf f hm).ext R) S hm hk;by_cases J:qb fs=0
 .have hlk:vh fs=0:=by
   unfold qb at J;split at J
   .rename_i h;exact absurd J h
   rename_i h;simpa using h
  obtain⟨hne,Qk,_⟩:=Rr hlk;obtain⟨f0,q,rfl⟩:=j7 hne;have hD4:ea (maxD (f0::q))<=4096:=by
   unfold qb at J;rw[Q' Z'] at J;split at J
   .cases J
   omega
  have o:∀f∈f0::q,f.cs.length<=200/\(maxD (f0::q)).length=f.ns.length/\(∀d∈maxD (f0::q),d<=127)/\(gi (maxD (f0::q)) f).length=ea (maxD (f0::q)):=λf E=>(by obtain⟨h1,h2,h3⟩:=Su hlk (λg z=>by have:=(hf g z).dg.1;rw[Cb] at this;omega) f E;have h4:=(hf f E).nm.sa NR.len V';have h5:=hm f E;exact⟨Z',h1,h3,cL h1 h2⟩);have G:=λf hm=>jS (S f hm) (Qk f hm) (o f hm).1 hk (o f hm).2.1 (o f hm).2.2.1 hD4;have hxl:=λf hm=>(o f hm).2.2.2;rw[J] at p;generalize maxD (f0::q)=D at*;have F:=λZ P R=>(p Z P R).mono λr V h=>show ∃(A:Option Addr)(a T u go b0:Nat)(K:Option Addr)(gs:List FX),r=.returned (.tuple #[.slice A n a,.int .i64 0])/\gs.length=q.length/\T=D.length/\(∀(i:Nat)(f g:FX),q[i]?=some f->gs[i]?=some g->jZ D (gi D f) g)/\
    Hp Z (.row A n a 78 2 (ia FX.cells (⟨K,T,u,some ⟨go,0,none⟩,ea D,b0,Ha D,(gi D f0).map nR⟩::gs))::.row (some ⟨go,0,none⟩) (ea D) b0 30 3 (ia NR.cells ((gi D f0).map nR))::.row K T u 3 1 (Pa (Ha D))::Ij gs.reverse) V from by
   obtain h|⟨_,A,a,gs,h1,h2,h3,h4⟩:=h
   .exact absurd rfl h.1
   obtain⟨g0,gs,rfl⟩:=j7 (l:=gs) (by intro e;rw[e] at h2;rw[<-C] at h2;cases h2);obtain⟨e1,e2,e3,e4⟩:=h3 0 f0 g0 rfl rfl;rw[m8,kB] at h4;have h5:=h4.perm (H':=.row A n a 78 2 (ia FX.cells (g0::gs))::g0.gg::g0.Kf::Ij gs.reverse) (.cons _ y7);obtain⟨K,T,u,B0,m0,b0,ds0,cs0⟩:=g0
   cases e1;cases e2;cases e4
   obtain⟨go,rfl⟩:=h5.kb (i:=1) rfl (Pb D);exact⟨A,a,T,u,go,b0,K,gs,h1,by rw[<-C] at h2;simpa using h2,e3,λi f g hf z=>h3 (i+1) f g hf z,h5⟩
  have hnp:q.length+1=n:=C;refine Ca func224 ?_;refine Bb ?_;intro b2 w2 I;refine Wi (F _ (hT.hp I) I.below) ?_;rintro e_ w13 ⟨A,a,T,u,go,b0,K,gs,rfl,hgl,hn0,hup,h2⟩;refine⟨_,rfl, ?_⟩;replace I:=(I.join h2).perm y7;obtain⟨Q,rfl⟩:=I.kb (i:=1) rfl Z';have hca:=I.me (i:=1) rfl;refine fa ?_;refine sv (Ka (vs:=[_,_]) pa.out rfl (I.Wc (i:=1) rfl FX.len V' (show(_::gs)[0]?=some _ from rfl)) rfl) ?_;refine yb ?_;intro b6 w6 I ws I;refine BS ?_;have hx0:=hxl f0 I';have hxi:∀(i:Nat),(((q.take i).map (gi D)).foldl Kj (gi D f0)).length=ea D:=λi=>(by rw[fw _ _ λl S=> ?_,hx0];obtain⟨f,t,rfl⟩:=B'.1 S;rw[hx0,hxl f (L' _ (x9 t))]);have hzi:∀(i:Nat),∀x∈((q.take i).map (gi D)).foldl Kj (gi D f0),Sz 1001000 x:=λi x hx=>by
   refine(QA (k:=1000000) _ _ 0 (G f0 I') (λl S=> ?_) x hx).mono ?_
   .obtain⟨f,t,rfl⟩:=B'.1 S;exact G f (L' _ (x9 t))
   rw[D',p'];omega
  refine bf 26 (λv V=>∃i:Nat,i<=n-1/\v=.int .i64 i/\Hp w (.blk b6 78 [.slice K T u,.slice (some ⟨go,0,none⟩) (ea D) b0] (0,0)::.blk b2 78 [.slice none 0 0,.slice none 0 0] (0,0)::.row (some ⟨Q,0,none⟩) n a 78 2 (ia FX.cells (⟨K,T,u,some ⟨go,0,none⟩,ea D,b0,Ha D,(gi D f0).map nR⟩::gs))::.row (some ⟨go,0,none⟩) (ea D) b0 30 3 (ia NR.cells ((((q.take i).map (gi D)).foldl Kj (gi D f0)).map nR))::.row K T u 3 1 (Pa (Ha D))::Ij gs.reverse) V) (λv _=>n-1-(intOf v).toNat) ?_ ?_
  .exact⟨0,J' _,rfl,I⟩
  clear I;rintro ρ' v V ⟨i,hi,rfl,I⟩;by_cases hlt:i<n-1
  .obtain⟨f,hx⟩:=aa (l:=q) (k:=i) Z';obtain⟨g,z⟩:=aa (l:=gs) (k:=i) Z';obtain⟨A1,n1,a1,B1,m1,b1,ds1,cs1⟩:=g;obtain⟨e1,e2,e3,e4⟩:=hup i f _ hx z
   cases e1;cases e2;cases e4
   have hmem:=y8.2 (N' z);have hbk:Sl V (if a=1 then some ⟨Q,0,none⟩ else(some ⟨Q,0,none⟩:Option Addr).map (·.add (1*2))) (n-1) 2 (ia FX.cells gs):=(I.ma (i:=2) rfl).back Z' hca;obtain⟨ab,hAb,sb⟩:=hbk.at_ Z';have Qk:Value.slice (if a=1 then some ⟨Q,0,none⟩ else(some ⟨Q,0,none⟩:Option Addr).map (·.add (1*2))) (n-1) (a-1)=.slice (some ab) (n-1) (a-1):=by rw[hAb]
   have hfX:((q.take (i+1)).map (gi D)).foldl Kj (gi D f0)=Kj (((q.take i).map (gi D)).foldl Kj (gi D f0)) (gi D f):=by rw[ja hx,G_,p8];rfl
   have hxa:=hxi i;have hza:=hzi i;have hzb:=G f (L' _ (N' hx));generalize ((q.take i).map (gi D)).foldl Kj (gi D f0)=X at*;refine fa ?_;refine sv (pb (k:=i) Qa.out pa.size Qk rfl Z' Z') ?_;refine sv (Ka (vs:=[_,_]) pa.out rfl (show Rd _ _ [.slice A1 n1 a1,.slice B1 (ea D) b1] from sb.recAt FX.len z) rfl) ?_;refine yb ?_;intro b8 w8 I ws I;refine bf 33 (λv V=>∃j:Nat,j<=ea D/\v=.int .i64 j/\Hp w (.blk b8 78 [.slice A1 n1 a1,.slice B1 (ea D) b1] (0,0)::.blk b6 78 [.slice K T u,.slice (some ⟨go,0,none⟩) (ea D) b0] (0,0)::.blk b2 78 [.slice none 0 0,.slice none 0 0] (0,0)::.row (some ⟨Q,0,none⟩) n a 78 2 (ia FX.cells (⟨K,T,u,some ⟨go,0,none⟩,ea D,b0,Ha D,(gi D f0).map nR⟩::gs))::.row (some ⟨go,0,none⟩) (ea D) b0 30 3 (ia NR.cells ((As X (gi D f) j).map nR))::.row K T u 3 1 (Pa (Ha D))::Ij gs.reverse) V) (λv _=>ea D-(intOf v).toNat) ?_ ?_
   .exact⟨0,J' _,rfl,I⟩
   clear I;rintro ρ2 v w2 ⟨j,hj,rfl,I⟩;have hsB:=ee (I.own _ (u9 [_,_,_,_,_,_] (gO hmem).1));have hyl:(gi D f).length=ea D:=(by have:=hsB.sa NR.len V';simpa using this);by_cases hjn:j<ea D
   .obtain⟨x,H⟩:=aa (l:=X) (k:=j) Z';obtain⟨y,N⟩:=aa (l:=gi D f) (k:=j) Z';obtain⟨a9,hA9,s9⟩:=hsB.at_ (by show 0<ea D;omega);have hev9:Value.slice B1 (ea D) b1=.slice (some a9) (ea D) b1:=by rw[show B1=some a9 from hA9]
    have zx:=hza x (N' H);have zy:=hzb y (N' N);have hon:((As X (gi D f) j).map nR)[j]?=some (nR x):=by rw[z',AV Z' H];rfl
    have hyn:((gi D f).map nR)[j]?=some (nR y):=by rw[z',N];rfl
    have hset:=MR (a:=X) (b:=gi D f) Z' H N;have s:=λA cc Z P hS1=>zf A 2 cc [nR x,nR y] Z P hS1 (by simpa using⟨zx.ok Z',zy.ok Z'⟩) 1001000 (by simpa[Ga] using⟨zx,zy.mono Z'⟩) Z';rw[show Vl ([nR x,nR y].map NR.da)=x+y by simp only[I_,R9,Ga,Sh]] at s;have hll:((As X (gi D f) j).map nR).length=ea D:=by rw[D',yS Z' Z',hxa]
    generalize As X (gi D f) j=M at*;have hrl:=Wd NR.len (M.map nR);refine fa ?_;refine sv (pb (k:=j) Qa.out pa.size hev9 rfl Z' Z') ?_;refine sv (Ka (vs:=[_,_,_]) pa.out rfl (s9.recAt NR.len hyn) rfl) ?_;refine yb ?_;intro b10 w10 I ws I;refine ud 11 I ?_;refine Xr (j) ?_;refine Fj [_,_,_] (λ_ hj=>hj.hp.Wc (f:=NR.cells) (x:=nR x) (l:=M.map nR) (i:=5) rfl NR.len V' hon) ?_;refine wb ?_;refine Wp [_,_,_,_,_,_] ?_;refine Ja (i:=10) (Is (.agg #[.bool (nR (x+y)).neg,.string (nR (x+y)).Va,.int .i64 (nR (x+y)).e])) Is.ext ?_ ?_
    .intro U Z hj hR;obtain⟨Y,c47,h47,s47⟩:=hR.1;exact ib rfl (La fi (qa h47 Wa)) (s Y c47 _ (hT.hp hj.hp) s47) (λ_ _ hq=>⟨_,hq.1,hq.2,rfl⟩)
    refine Fa ?_;intro f W hJ hV;obtain⟨v48,v47,v46,v45,v44,v43,v42,v41,v40,v39,v38,_⟩:=hV;obtain⟨Y,c47,e47,f47⟩:Rows _ _ _ (f 9) W:=v47;replace I:=hJ.hp;refine lg ?_;refine fa ?_;refine Xa I (i:=5) (vs:=[_,_,_]) rfl rfl (Hd rfl) rfl pa.out rfl Z' rfl ?_;refine Nr ?_;intro ws I;rw[show db (ia NR.cells (M.map nR)) (j*3) [.bool (nR (x+y)).neg,.string (nR (x+y)).Va,.int .i64 (nR (x+y)).e]=ia NR.cells ((M.map nR).set j (nR (x+y))) from Jd NR.len Z',<-B9,hset] at I;refine fa ?_;replace I:=I.sub (G' _ (O' _ (O' _ (O' _ (O' _ (O' _ (O' _ (P_ _))))))));refine⟨⟨j+1,Z',rfl,I⟩,by show ea D-(j+1)<ea D-j;omega, ?_⟩;exact Wb
   obtain rfl:j=ea D:=Z';rw[jO Z' Z',<-hfX] at I;refine fa ?_;replace I:=I.sub (G' _ (O' _ (O' _ (O' _ (O' _ (O' _ (P_ _)))))));refine⟨⟨i+1,Z',rfl,I⟩,by show n-1-(i+1)<n-1-i;omega, ?_⟩;exact Wb
  obtain rfl:i=n-1:=Z';rw[w' Z'] at I;refine LO ?_;intro ws I;exact .inr ⟨J,⟨K,T,u,some ⟨go,0,none⟩,ea D,b0,Ha D,_⟩,⟨rfl,rfl,hn0,rfl⟩,rfl,I.sub (.cons _ (.cons _ (.cons _ (B6 [_,_] _))))⟩
 have F:=λZ P R=>(p Z P R).mono λr V h=>show r=.returned (.tuple #[.slice none 0 0,.int .i64 (qb fs)])/\Below Z.heap.size Z V from by
  obtain h|h:=h
  .exact h.2
  exact absurd h.1 J
 generalize qb fs=e at*;refine Ca func224 ?_;refine Bb ?_;intro b2 w2 I;refine cd I (F _ (hT.hp I) I.below) ?_;intro w13 I;refine CR ?_;intro ws I;exact .inl ⟨J,rfl,I.below⟩
def agM(f g:FX):Int:=if vh [f,g]≠0 then vh [f,g] else if tB (Od f.ns g.ns)=true then 3 else 0
def aie(a b:List Nat)(j:Nat):List Nat:=(Od a b).take j++a.drop j
def KC(L:FX)(c:NR)(k:Nat)(w)(S:Gc w)(Y:L.at_ w)(g:L.Ug k)(hc:c.ok)(D:Sz k c.da)(hk:k<=90000):Calls prog 223 #[L.V,c.V] w λr V=>
   (L.e≠0/\r=CP L.e/\Below w.heap.size w V)\/
   (L.e=0/\∃p:FX,jZ L.ns (L.cs.map λx=>x.da*c.da) p/\r=.returned (.tuple #[p.V,.int .i64 0])/\Hp w [p.gg,p.Kf] V):=by
 have I:=Hp.start w;have K:=λZ P hb=>ml L k Z P (Y.ext hb) g;have o:=Y.dg.1;rw[Cb] at o;have hlmf:=Y.nm.sa NR.len V';have hn20:=g.n20;have hm60:=g.m60;by_cases J:L.e=0
 .obtain⟨df,cf,hf12,E,hfc,_⟩:=FX.fv J;refine Ca func223 ?_;refine Am ?_;intro b2 w2 I b3 w3 I b4 w4 I;refine cd I (K _ (S.hp I) I.below) ?_;intro w11 I;refine fa ?_;refine WQ ?_;intro h z w18 I;refine yb ?_;intro b7 w7 I ws I;replace I:=I.rb 30 3;refine bf 23 (λv V=>∃(i X:Nat)(A:Option Addr),i<=L.m/\v=.int .i64 i/\Hp w [.row A i X 30 3 (ia NR.cells (((L.cs.take i).map λx=>x.da*c.da).map nR)),.blk b7 78 [.slice h L.n z,.slice A i X] (0,0),.row h L.n z 3 1 (Pa L.ds),.blk b4 78 [.slice none 0 0,.slice none 0 0] (0,0),.blk b3 30 [.bool c.neg,.string c.Va,.int .i64 c.e] (0,0),.blk b2 78 [.slice L.A L.n L.a,.slice L.B L.m L.b] (0,0)] V) (λv _=>L.m-(intOf v).toNat) ?_ ?_
  .exact⟨0,0,none,J' _,rfl,I⟩
  clear I;rintro ρ' v V ⟨i,X,A,hi,rfl,I⟩;by_cases hlt:i<L.m
  .obtain⟨x,F⟩:=aa (l:=L.cs) (k:=i) Z';obtain⟨H,Q⟩:=g.num x (N' F);obtain⟨a2,C,s2⟩:=Y.nm.at_ Z';have j:Value.slice L.B L.m L.b=.slice (some a2) L.m L.b:=by rw[C]
   have hmul:=λA cc Z P N=>Td A 2 cc [x,c] Z P N (by simpa using⟨H,hc⟩) k (by simpa using⟨Q,D⟩) Z' Z';rw[show Re ([x,c].map NR.da)=x.da*c.da by show 1*x.da*c.da=_;rw[x8]] at hmul;refine fa ?_;refine sv (pb (k:=i) Qa.out pa.size j rfl Z' Z') ?_;refine sv (Ka (vs:=[_,_,_]) pa.out rfl ((s2.ext I.below).recAt NR.len F) rfl) ?_;refine yb ?_;intro b9 w9 I ws I;refine ud 7 I ?_;refine Wp [_,_,_,_,_,_] ?_;refine Ja (i:=5) (Is (.agg #[.bool (nR (x.da*c.da)).neg,.string (nR (x.da*c.da)).Va,.int .i64 (nR (x.da*c.da)).e])) Is.ext ?_ ?_
   .intro U Z hj hR;obtain⟨s,G,y,R⟩:=hR.1;exact ib rfl (La fi (qa y Wa)) (hmul s G _ (S.hp hj.hp) R) (λ_ _ hq=>⟨_,hq.1,hq.2,rfl⟩)
   refine Wp [_,_,_] ?_;refine Fa ?_;intro f W hJ hV;obtain⟨v33,v32,T,v30,v29,v28,v27,_⟩:=hV;obtain⟨s,G,t,f31⟩:Rows _ _ _ (f 4) W:=T;obtain⟨A33,c33,u,f33⟩:Rows _ _ _ (f 6) W:=v33;replace I:=hJ.hp;refine lg ?_;refine mb I (i:=1) rfl rfl rfl (f33) Qa.out pa.out rfl V' (by first|rfl|exact Nb _|exact xb _|exact Da _|exact Ia NR.one _) Z' Z' V' ?_;intro M q w34 I;simp only[j',t_] at I;refine Bb ?_;intro ws I;replace I:=I.sub (G' _ (O' _ (O' _ (O' _ (O' _ (O' _ (O' _ Z_)))))));refine⟨⟨i+1,q,M,Z',rfl, ?_⟩,by show L.m-(i+1)<L.m-i;omega, ?_⟩
   .rw[ja F,G_,G_,Aa];exact I
   exact Wb
  obtain rfl:i=L.m:=Z';rw[w' Z'] at I;refine Bb ?_;intro ws I;replace I:=I.sub (O' _ (G' _ (O' _ (O' _ (G' _ (G' _ Z_))))));refine Cr ?_;exact .inr ⟨J,⟨h,L.n,z,A,L.m,X,L.ds,_⟩,⟨df,rfl,by show L.n=L.ns.length;unfold FX.ns;rw[D'];omega,by show L.m=ea L.ns;omega⟩,rfl,I.sub (B6 [_,_] _)⟩
 refine Ca func223 ?_;refine Am ?_;intro b2 w2 I b3 w3 I b4 w4 I;refine cd I (K _ (S.hp I) I.below) ?_;intro w11 I;refine CR ?_;intro ws I;exact .inl ⟨J,rfl,I.below⟩
def chD(n:Nat)(k:Int):Dyadic:=if k<0\/(n:Int)<k then 0 else nD (bin n k.toNat)
def agW(ns:List Nat):List ByteArray:=(aao (Ha ns)).map fX
def prW(ds es:List Nat)(xs ys:List Dyadic)(i m:Nat):List (Nat×Dyadic):=(List.range m).map λk=>(Jc (md ds es) (md (Ya ds i) (Ya es k)),(xs[i]?).getD 0*(ys[k]?).getD 0)
def prI(ds es:List Nat)(xs ys:List Dyadic)(i:Nat):List (Nat×Dyadic):=(List.range i).flatMap λi=>prW ds es xs ys i (ea es)
def bS(rs:List Nat):List UInt8:=(Ha rs).map PA
def QX(ns:List Nat)(a:Nat):List Nat:=ns.set a (ns.getD a 0+1)
def upY(ns:List Nat)(a:Nat)(xs:List Dyadic):List Dyadic:=(List.range (ea (QX ns a))).map λp=>co ns.reverse xs (Ya (QX ns a).reverse p)+if 0<(Ya (QX ns a).reverse p).getD (ns.length-1-a) 0 then co ns.reverse xs (afG (Ya (QX ns a).reverse p) (ns.length-1-a)) else 0
def Vk:∀(ds rs:List Nat),ph ds rs↔rs.length=ds.length/\∀(i d r:Nat),ds[i]?=some d->rs[i]?=some r->r<=d
 |[],[]=>by simp[ph]
 |[],_::_=>by simp[ph]
 |_::_,[]=>by simp[ph]
 |d::ds,r::rs=>by
  rw[ph,Vk ds rs];constructor
  .rintro ⟨h1,h2,G⟩;refine⟨by rw[T_,T_,h2],λi e s he K=> ?_⟩
   cases i with
   |zero=>cases he;cases K;exact h1
   |succ i=>exact G i e s he K
  rintro ⟨h1,h2⟩;exact⟨h2 0 d r rfl rfl,by simpa using h1,λi e s he K=>h2 (i+1) e s he K⟩
def Mid(ns:List Nat)(xs:List Dyadic)(cs:List Nat)(b:List Dyadic):Prop:=b.length=ea cs/\cs.length=ns.length/\(∀(i n c:Nat),ns[i]?=some n->cs[i]?=some c->n<=c)/\∀row:List Nat,row.length=ns.length->co cs.reverse b row=upS (Kg cs ns).reverse (co ns.reverse xs) row
def agx(w:World)(b i:Nat):Int:=match w.cell? ⟨b,0,none⟩ with
 |some (.slice (some a) _ _)=>match w.cell? (a.add (i*1)) with
  |some (.int _ z)=>z
  |_=>0
 |_=>0
structure RS(ns ts:List Nat)(xs:List Dyadic)(k n:Nat)(F FC:Option Addr)(c1 c2 i T:Nat)(cur:List Nat)(zs:List Dyadic)(A B:Option Addr)(ca cb:Nat)(R:List HE)(w:World):Prop where
 lj:Mid ns xs cur zs
 le:∀(j c t:Nat),cur[j]?=some c->ts[j]?=some t->c<=t
 eq:∀(j c t:Nat),j<i->cur[j]?=some c->ts[j]?=some t->c=t
 sz:∀x∈zs,Sz (k+T) x
 src:(A=F/\ca=c1/\B=FC/\cb=c2/\cur=ns/\zs=xs)\/R=[.row B (ea cur) cb 30 3 (ia NR.cells (zs.map nR)),.row A n ca 3 1 (Pa (Ha cur))]
 rd:∀(H:List HE)(V:World),Hp w (H++R) V->Sl V A n 1 (Pa (Ha cur))/\Sl V B (ea cur) 3 (ia NR.cells (zs.map nR))
variable {w:World}
def FX.at_.ln{g:FX}(h:g.at_ w):g.ds.length=g.n/\g.cs.length=g.m:=⟨by have:=h.dg.1;rw[Cb] at this;omega,h.nm.sa NR.len V'⟩
def Kept(fs:List FX)(R:List HE)(g:FX):Prop:=g∈fs\/(g.gg∈R/\g.Kf∈R)
variable {E:Int}
def acn(E:Int)(D:List Nat):List Int:=if E=0 then Ha D else[]
def aex(E:Int)(ys:List Dyadic):List NR:=if E=0 then ys.map nR else[]
structure Out(E:Int)(D:List Nat)(ys:List Dyadic)(g:FX):Prop where
 ds:g.ds=acn E D
 cs:g.cs=aex E ys
 n:g.n<=100000
 m:g.m<=1000000
def FX.nil:FX:=⟨none,0,0,none,0,0,[],[]⟩
variable {w0:World}
def Hp.yQ{H:List HE}(h:Hp w0 H w):Hp w0 (FX.nil.gg::FX.nil.Kf::H) w:=(h.rb 3 1).rb 30 3
def Out.err{D:List Nat}{ys:List Dyadic}(h:E≠0):Out E D ys FX.nil:=⟨by unfold acn;rw[Q' h];rfl,by unfold aex;rw[Q' h];rfl,J' _,J' _⟩
def jZ.out{D:List Nat}{ys:List Dyadic}{g:FX}(h:jZ D ys g)(h1:D.length<=1000)(h2:ea D<=4096):Out 0 D ys g:=⟨h.ds,h.cs,by rw[h.n];omega,by rw[h.m];omega⟩
def Jt{fs:List FX}(h:qb fs=0)(m:∀f∈fs,f.ds.length=f.n):vh fs=0/\(maxD fs).length<=1000/\ea (maxD fs)<=4096:=by
 have j:vh fs=0:=by
  unfold qb at h;split at h
  .rename_i h2;exact absurd h h2
  rename_i h2;simpa using h2
 obtain⟨E,Qk,_⟩:=Rr j;obtain⟨f0,q,rfl⟩:=j7 E;have h1:=(Su j m f0 I').1;have h2:=(FX.fv (Qk f0 I')).2.2.1;refine⟨j,Z', ?_⟩;unfold qb at h;rw[Q' Z'] at h;split at h
 .cases h
 omega
def afi(f:FX)(es:List Int):Int:=if f.e≠0 then f.e else vN f.ds es
def vQ(f:FX)(c:NR)(k:Nat)(w)(S:Gc w)(Y:f.at_ w)(j:f.Ug k)(E:c.ok)(i:Sz k c.da)(u:k<=90000):Calls prog 223 #[f.V,c.V] w λr V=>∃g:FX,Out f.e f.ns (f.cs.map λx=>x.da*c.da) g/\r=.returned (.tuple #[g.V,.int .i64 f.e])/\Hp w [g.gg,g.Kf] V:=by
 refine(KC f c k w S Y j E i u).mono λr V h=> ?_;obtain⟨h,rfl,F⟩|⟨h,p,hp,rfl,h2⟩:=h
 .exact⟨FX.nil,.err h,rfl,((Hp.start w).ext F).yQ⟩
 rw[h];obtain⟨_,_,G,_,_,z⟩:=FX.fv h;exact⟨p,hp.out Z' z,rfl,h2⟩
def aa4(L)(n c:Nat)(fs)(k:Nat)(w)(S:Gc w)(d:Sl w L n 2 (ia FX.cells fs))(e:n<=1000)(Y:∀f∈fs,f.at_ w)(Q:∀f∈fs,f.Ug k)(hm:∀f∈fs,f.m<=200)(u:k<=90000):Calls prog 224 #[.slice L n c] w λr V=>∃g:FX,Out (qb fs) (maxD fs) (SM (fs.map (gi (maxD fs)))) g/\r=.returned (.tuple #[g.V,.int .i64 (qb fs)])/\Hp w [g.gg,g.Kf] V:=by
 refine(KI L n c fs k w S d e Y Q hm u).mono λr V h=> ?_;obtain⟨h,rfl,F⟩|⟨h,p,hp,rfl,h2⟩:=h
 .exact⟨FX.nil,.err h,rfl,((Hp.start w).ext F).yQ⟩
 obtain⟨_,G,z⟩:=Jt h λf hm=>(Y f hm).ln.1;rw[h];exact⟨p,hp.out G z,rfl,h2⟩
def FX.key(f:FX):List Int×List NR×Nat:=(f.ds,f.cs,f.n)
def BR:∀{fs gs:List FX},fs.map FX.key=gs.map FX.key->vh fs=vh gs/\qb fs=qb gs/\maxD fs=maxD gs/\∀D,fs.map (gi D)=gs.map (gi D):=λ{fs gs} h=>by
 have N:∀(p:List Int×List NR×Nat->Bool)(l:List FX),l.any (λf=>p f.key)=(l.map FX.key).any p:=λp l=>by rw[List.any_map];rfl
 have B:fs.map FX.n=gs.map FX.n:=(by have:=Y_ (List.map (λx:List Int×List NR×Nat=>x.2.2)) h;rwa[A_,A_] at this);have Q:fs.length=gs.length:=by have:=Y_ List.length h;simpa using this
 have i:vh fs=vh gs:=by
  have W:xO fs=xO gs:=(by have a:=N (λx=>decide (x.2.2≠(fs.map FX.n).headD 0)) fs;have b:=N (λx=>decide (x.2.2≠(fs.map FX.n).headD 0)) gs;rw[h,<-b] at a;unfold xO;rw[<-B];exact a);have Y:(fs.find? (λf=>decide (f.e≠0))).map FX.key=(gs.find? (λf=>decide (f.e≠0))).map FX.key:=by
   have a:∀l:List FX,(l.find? (λf=>decide (f.e≠0))).map FX.key=(l.map FX.key).find? (λx=>decide (fE x.1 x.2.1≠0)):=λl=>by rw[List.find?_map];rfl
   rw[a,a,h]
  unfold vh;rw[W,Q]
  cases h1:fs.find? (λf=>decide (f.e≠0)) with
  |none=>
   rw[h1] at Y
   cases h2:gs.find? (λf=>decide (f.e≠0)) with
   |none=>rfl
   |some g=>rw[h2] at Y;cases Y
  |some f=>
   rw[h1] at Y
   cases h2:gs.find? (λf=>decide (f.e≠0)) with
   |none=>rw[h2] at Y;cases Y
   |some g=>
    rw[h2] at Y;have u:f.key=g.key:=i' Y;unfold FX.key at u;show fE f.ds f.cs=fE g.ds g.cs;injection u with a b
    injection b with b c
    rw[a,b]
 have o:maxD fs=maxD gs:=by
  have a:∀l:List FX,maxD l=(l.map FX.key).foldl (λa x=>Ii a (x.1.map Int.toNat)) (((l.map FX.key).map λx=>x.1.map Int.toNat).headD []):=λl=>by unfold maxD;rw[List.foldl_map,A_];rfl
  rw[a,a,h]
 refine⟨i,by unfold qb;rw[i,o],o,λD=> ?_⟩;have a:∀l:List FX,l.map (gi D)=(l.map FX.key).map λx=>ni (x.1.map Int.toNat) D (x.2.1.map NR.da):=λl=>by rw[A_];rfl
 rw[a,a,h]
variable {K:Nat}
def CI{x y:Dyadic}(p:Int)(C:Sz K x)(hy:Sz K y)(h1: -1000<=p)(h2:p<=1000):Sz (4*K+2014) (aH x y p):=by
 obtain⟨J,o,n⟩:=C.nr;obtain⟨X,Y,b⟩:=hy.nr;have F:=Yg (nR x).neg (nR x).Va;have s:Ea (jy (nR x) (nR y) p).natAbs<=4*K+1007:=by
  unfold jy;split
  .have:=si (nR x).i ((nR x).e-(nR y).e+p).toNat;unfold NR.i at*;omega
  unfold NR.i;omega
 have g:Ea (oO (nR x) (nR y) p).natAbs<=4*K+1007:=by
  unfold oO;split
  .refine d' (Zb (l_ (E7 _ _) ?_)) s;rw[Int.natAbs_neg];exact Ab _
  exact d' (Zb (l_ (E7 _ _) (Ab _))) s
 unfold aH;generalize oO (nR x) (nR y) p=q at*;have G:=Sz.raw (a:=⟨iN q,iM q, -p⟩) (m:=4*K+1014) (E:=1000) (by show 8*(iM q).size<=_;rw[sc];omega) (by show -((1000:Nat):Int)<= -p;omega) (by show -p<=((1000:Nat):Int);omega);have z:(NR.mk (iN q) (iM q) (-p)).da=Dyadic.ofIntWithPrec q p:=(by unfold NR.da NR.i;rw[Uc,M7]);rw[z] at G;exact G.mono Z'
def AP(f g:FX):Int:=if qb [f,g]=0 then(if gm ((gi (maxD [f,g]) g).map nR)=0 then 4 else 0) else qb [f,g]
def SR0:SR:=⟨⟨false,ByteArray.mk #[],0⟩,⟨false,ByteArray.mk #[],0⟩⟩
def acF(X Y:List Dyadic)(p:Int):List SR:=List.zipWith (λx y=>xD x y p) X Y
def lH(f g:FX)(p:Int):SR:=if AP f g=0 then AY (acF (gi (maxD [f,g]) f) (gi (maxD [f,g]) g) p) else SR0
def Qk:List Dyadic->Dyadic->Dyadic
 |[],_=>0
 |c::cs,t=>c+t*Qk cs t
def Og:List Nat->List Dyadic->Dyadic
 |a::s,x::xs=>x^a*Og s xs
 |_,_=>1
def mi(n:Nat):(1:Dyadic)^n=1:=by
 induction n with
 |zero=>grind
 |succ n W=>grind
def abT(f:Dyadic->Dyadic):Prop:=∃l:List Dyadic,∀t,f t=Qk l t
def adD:List Dyadic->List Dyadic->List Dyadic
 |[],b=>b
 |x::a,[]=>x::a
 |x::a,y::b=>(x+y)::adD a b
def afA:List Dyadic->List Dyadic->List Dyadic
 |[],_=>[]
 |x::a,b=>adD (b.map λy=>x*y) (0::afA a b)
def D1(F:Dyadic->Dyadic)(a b:Dyadic):Prop:=∃R,abT R/\∀h,F h=a+h*b+h*h*R h
def mg(d:Nat)(a b:Dyadic)(i k:Nat):Dyadic:=if k<i then 0 else nD (bin (d-i) (k-i))*a^i*b^(k-i)
variable {xs:List Dyadic}
def Bj(xs:List Dyadic)(i:Nat):Dyadic:=(xs[i]?).getD 0
def bp(d:Nat)(M:Nat->Nat->Dyadic)(xs:List Dyadic):List Dyadic:=(List.range (d+1)).map λk=>sm (List.range (d+1)) λi=>Bj xs i*M i k
def Nj(d:Nat)(a b:Dyadic)(xs:List Dyadic)(i j:Nat):List Dyadic:=(List.range (d+1)).map λk=>sm (List.range i) (λm=>Bj xs m*mg d a b m k)+if i<=k/\k<i+j then Bj xs i*mg d a b i k else 0
def Hm(d:Nat)(a b)(xs)(i j:Nat):(Nj d a b xs i j).length=d+1:=by simp[Nj]
def yH(d:Nat)(a b)(xs):Nj d a b xs 0 0=List.replicate (d+1) 0:=by
 unfold Nj;refine List.eq_replicate_iff.2 ⟨by simp,λx C=> ?_⟩;obtain⟨k,_,rfl⟩:=B'.1 C;rw[Q' Z',U7];rfl
def SB{d i:Nat}{a b:Dyadic}(h:k<=d):(Nj d a b xs i j)[k]?=some (sm (List.range i) (λm=>Bj xs m*mg d a b m k)+if i<=k/\k<i+j then Bj xs i*mg d a b i k else 0):=by
 unfold Nj;exact abi
def qP{d i:Nat}{a b:Dyadic}{o:Dyadic}(h:i+j<=d)(W:(Nj d a b xs i j)[i+j]?=some o):(Nj d a b xs i j).set (i+j) (o+Bj xs i*mg d a b i (i+j))=Nj d a b xs i (j+1):=by
 rw[SB h,Q' Z',U7] at W;have W:=i' W;subst W;refine g_ λk=> ?_;rw[L9,Hm];by_cases u:k<=d
 .rw[SB u,SB u];by_cases e:i+j=k
  .subst e;rw[P' rfl,P' Z',P' Z']
  rw[Q' e];by_cases h2:i<=k/\k<i+j
  .rw[P' h2,P' Z']
  rw[Q' h2,Q' Z']
 rw[Q' Z',K_ (by rw[Hm];omega),K_ (by rw[Hm];omega)]
def wO{d i:Nat}{a b:Dyadic}(h:i<=d):Nj d a b xs i (d-i+1)=Nj d a b xs (i+1) 0:=by
 unfold Nj;refine z9 λk u=> ?_;have u:=S_.1 u;rw[Q' (show ¬(i+1<=k/\k<i+1+0) by omega),U7,A9,ck];by_cases h2:i<=k
 .rw[P' Z']
 rw[Q' Z'];unfold mg;rw[P' (show k<i by omega),N6]
def KN(d:Nat)(a b)(xs):Nj d a b xs (d+1) 0=bp d (mg d a b) xs:=by
 unfold Nj bp;refine z9 λk _=> ?_;rw[Q' Z',U7]
def Sz.aam{q:Nat}{a:Dyadic}(h:Sz q a){i d:Nat}(hi:i<=d):Sz (1+q*d) (a^i):=(Sz.pow h i).mono (by have:=D_ q hi;omega)
def BM{d i q:Nat}{a b:Dyadic}(M:Sz q a)(F:Sz q b)(T:d<=127)(u:k<=d):Sz (130+2*(q*d)) (mg d a b i k):=by
 unfold mg;split
 .exact Sz.zero _
 refine(((Cw (d-i) (k-i) Z').mul (M.aam (show i<=d by omega))).mul (F.aam (show k-i<=d by omega))).mono Z'
def YS(h:∀x∈xs,Sz k x)(i:Nat):Sz k (Bj xs i):=by
 unfold Bj;exact T1
def pV{d i q:Nat}{a b:Dyadic}(C:∀x∈xs,Sz K x)(M:Sz q a)(F:Sz q b)(T:d<=127)(hi:i<=d+1):∀x∈Nj d a b xs i j,Sz (K+130+2*(q*d)+130) x:=λx Q=>by
 obtain⟨k,u,rfl⟩:=B'.1 Q;have u:=S_.1 u;have h1:∀m,Sz (K+(130+2*(q*d))) (Bj xs m*mg d a b m k):=λm=>(YS C m).mul (BM M F T Z');have h2:=fU (l:=List.range i) (f:=λm=>Bj xs m*mg d a b m k) (k:=K+(130+2*(q*d))) λm _=>h1 m;rw[V9] at h2;refine(h2.add (y:=if i<=k/\k<i+j then Bj xs i*mg d a b i k else 0) ?_).mono Z';split
 .exact(h1 i).mono Z'
 exact Sz.zero _
section
variable (A:List Nat)(d:Nat)(φ:List Dyadic->List Dyadic)
def stS(X:List Dyadic)(q f i:Nat):List Dyadic:=(List.range X.length).map λp=>
 if p/ea A/(d+1)=q/\(p % ea A<f\/p % ea A=f/\p/ea A % (d+1)<i) then Bj (φ (Jf A d X (p % ea A) q)) (p/ea A % (d+1)) else Bj X p
def aif(X:List Dyadic)(q:Nat):List Dyadic:=stS A d φ X q (ea A) 0
end
variable {A:List Nat}{d:Nat}
def kv{f q:Nat}(Y:f<ea A)(u:k<=d):ic A d f k q % ea A=f/\ic A d f k q/ea A % (d+1)=k/\ic A d f k q/ea A/(d+1)=q:=by
 unfold ic;have R:=Pb A;rw[W8,E_ Y,K9 _ _ R,s_ Y,U_,W8,E_ Z',K9 _ _ Z',s_ Z',U_];exact⟨rfl,rfl,rfl⟩
def QB(p:Nat):ic A d (p % ea A) (p/ea A % (d+1)) (p/ea A/(d+1))=p:=by
 unfold ic;rw[m7,m7]
def TF{l:List Dyadic}(h:k<l.length):l[k]?=some (Bj l k):=by
 unfold Bj;rw[U8 h];rfl
def alS(A:List Nat)(d:Nat)(B:List Nat)(M:Nat->Nat->Dyadic)(xs:List Dyadic)(j:Nat):List Dyadic:=(List.range xs.length).map λp=>if p/ea A/(d+1)<j then Bj (ui (A++d::B) A.length M xs) p else Bj xs p
variable {F:Nat}
section
variable (A:List Nat)(d L:Nat)(φ:List Dyadic->List Dyadic)
def tk(p:Nat):Nat:=ic A d (p % ea A) 0 (p/ea A/(d+1))
def dj(X:List Dyadic)(F i:Nat):List Dyadic:=(List.range X.length).map λp=>
 if p/ea A % (d+1)<L/\(tk A d p<F\/tk A d p=F/\p/ea A % (d+1)<i) then Bj (φ (Jf A d X (p % ea A) (p/ea A/(d+1)))) (p/ea A % (d+1)) else Bj X p
end
variable {L:Nat}{φ:List Dyadic->List Dyadic}{X:List Dyadic}
def Fh(F i:Nat):(dj A d L φ X F i).length=X.length:=by simp[dj]
def Ko{i p:Nat}(h:p<X.length):(dj A d L φ X F i)[p]?=some (if p/ea A % (d+1)<L/\(tk A d p<F\/tk A d p=F/\p/ea A % (d+1)<i) then Bj (φ (Jf A d X (p % ea A) (p/ea A/(d+1)))) (p/ea A % (d+1)) else Bj X p):=by
 unfold dj;rw[z',f_ h];rfl
def GG{i G:Nat}(h:∀p,p<X.length->p/ea A % (d+1)<L->((tk A d p<F\/tk A d p=F/\p/ea A % (d+1)<i)↔(tk A d p<G\/tk A d p=G/\p/ea A % (d+1)<j))):dj A d L φ X F i=dj A d L φ X G j:=by
 refine g_ λp=> ?_;by_cases hp:p<X.length
 .rw[Ko hp,Ko hp];congr 1;by_cases a:p/ea A % (d+1)<L
  .by_cases h1:tk A d p<F\/tk A d p=F/\p/ea A % (d+1)<i
   .rw[P' ⟨a,h1⟩,P' ⟨a,(h p hp a).1 h1⟩]
   rw[Q' (λh=>h1 h.2),Q' (λh2=>h1 ((h p hp a).2 h2.2))]
  rw[Q' (λh=>a h.1),Q' (λh=>a h.1)]
 rw[K_ (by rw[Fh];omega),K_ (by rw[Fh];omega)]
def RN:dj A d L φ X 0 0=X:=by
 refine g_ λp=> ?_;by_cases h:p<X.length
 .rw[Ko h,Q' Z',TF h]
 rw[K_ (by rw[Fh];omega),K_ Z']
def JI{f q:Nat}(Y:f<ea A):ic A d f 0 q % ea A=f/\ic A d f 0 q/ea A % (d+1)=0/\ic A d f 0 q/ea A/(d+1)=q:=kv Y (J' _)
def JO{f q:Nat}(Y:f<ea A)(u:k<=d):tk A d (ic A d f k q)=ic A d f 0 q:=by
 obtain⟨h1,_,G⟩:=kv (q:=q) Y u;unfold tk;rw[h1,G]
def lN(h:F/ea A % (d+1)≠0):dj A d L φ X F 0=dj A d L φ X (F+1) 0:=GG λp _ _=>by
 have E:tk A d p≠F:=λe=>(by have:=(JI (d:=d) (q:=p/ea A/(d+1)) (Q_ p (Pb A))).2.1;unfold tk at e;rw[e] at this;exact h this);omega
def QM{i:Nat}(h:L<=i):dj A d L φ X F i=dj A d L φ X (F+1) 0:=GG λp _ a=>by omega
def HS{f q i:Nat}(Y:f<ea A)(S:i<L)(hi:i<=d):(dj A d L φ X (ic A d f 0 q) i).set (ic A d f i q) (Bj (φ (Jf A d X f q)) i)=dj A d L φ X (ic A d f 0 q) (i+1):=by
 obtain⟨h1,h2,G⟩:=kv (q:=q) Y hi;refine g_ λp=> ?_;rw[L9,Fh];by_cases hp:p<X.length
 .rw[Ko hp,Ko hp];by_cases e:ic A d f i q=p
  .subst e;rw[P' rfl,P' hp,h1,h2,G,JO Y hi,P' ⟨S,.inr ⟨rfl,Nat.lt_succ_self i⟩⟩]
  rw[Q' e];have E:¬(tk A d p=ic A d f 0 q/\p/ea A % (d+1)=i):=λ⟨a,b⟩=>(by have N:=JI (d:=d) (q:=p/ea A/(d+1)) (Q_ p (Pb A));have g:=JI (d:=d) (q:=q) Y;unfold tk at a;rw[a] at N;have:=QB (A:=A) (d:=d) p;rw[b,<-N.1,<-N.2.2,g.1,g.2.2] at this;exact e this);congr 1;by_cases c:p/ea A % (d+1)<L/\(tk A d p<ic A d f 0 q\/tk A d p=ic A d f 0 q/\p/ea A % (d+1)<i)
  .rw[P' c,P' ⟨c.1,Z'⟩]
  rw[Q' c,Q' (λh=>c ⟨h.1,Z'⟩)]
 rw[K_ (by rw[Fh];omega)];by_cases e:ic A d f i q=p
 .rw[P' e,e,Q' hp,K_ (by rw[Fh];omega)]
 rw[Q' e,K_ (by rw[Fh];omega)]
def SO{B:List Nat}{p:Nat}(t:X.length=ea (A++d::B))(hp:p<X.length):(dj A d L φ X X.length 0)[p]?=some (if p/ea A % (d+1)<L then Bj (φ (Jf A d X (p % ea A) (p/ea A/(d+1)))) (p/ea A % (d+1)) else Bj X p):=by
 rw[Ko hp];have D:tk A d p<X.length:=by
  have h1:=QB (A:=A) (d:=d) p;have h2:tk A d p<=p:=by
   conv=>rhs;rw[<-h1]
   unfold tk ic;have:=D_ (ea A) (show 0+(d+1)*(p/ea A/(d+1))<=p/ea A % (d+1)+(d+1)*(p/ea A/(d+1)) by omega);omega
  omega
 congr 1;by_cases h:p/ea A % (d+1)<L
 .rw[P' ⟨h,.inl D⟩,P' h]
 rw[Q' (λh2=>h h2.1),Q' h]
def aba{B:List Nat}{M:Nat->Nat->Dyadic}(t:X.length=ea (A++d::B)):dj A d (d+1) (bp d M) X X.length 0=ui (A++d::B) A.length M X:=by
 refine g_ λp=> ?_;by_cases hp:p<X.length
 .obtain⟨f,k,q,Y,u,R,rfl⟩:=wI (A:=A) (d:=d) (B:=B) (by rw[<-t];exact hp);obtain⟨h1,h2,G⟩:=kv (q:=q) Y u;rw[SO t hp,h1,h2,G,P' Z'];have N:(bp d M (Jf A d X f q))[k]?=some (sm (List.range (d+1)) λi=>Bj (Jf A d X f q) i*M i k):=(by unfold bp;exact abi);rw[uQ M X Y u R];congr 1;show((bp d M (Jf A d X f q))[k]?).getD 0=_;rw[N];refine Ua λi hi=> ?_;have hi:=S_.1 hi;show((Jf A d X f q)[i]?).getD 0*_=_;unfold Jf;rw[z',f_ hi];rfl
 rw[K_ (by rw[Fh];omega),K_ (by rw[Lw,<-t];omega)]
abbrev wJ(D:Nat):Deferred:={ target:=.collected D,args:= #[] }
abbrev agG(M:List Nat):List HE:=M.map λD=>.ob D (.deferred (some []))
abbrev Kd:=Exit->List Nat->Rf->World->Prop
structure WD(P:Program)(N:Nat)(c:Code)(Q:Kd)(O:Rf)(w:World):Prop where
 out:∀(M:List Nat) a,kg N (M.map wJ) a O->∀n,c.wpIn Fence.wide n P (λe a' V=>∃M' ρ',kg N ((M'++M).map wJ) a' ρ'/\Q e M' ρ' V) a w
def ahj(next:List Nat->Rf->World->Prop)(Q:Kd):Kd
 |.normal,M,O,w=>next M O w
 |e,M,O,w=>Q e M O w
def ag5(M:List Nat)(Q:Kd):Kd:=λe l O w=>Q e (l++M) O w
def aiw(id:Nat)(Q:Kd):Kd
 |.exit b,M,O,w=>if b=id then Q .normal M O w else Q (.exit b) M O w
 |e,M,O,w=>Q e M O w
def ahK(Q:Kd):Kq:=λe O w=>Q e [] O w
def agL{α:Type}(m:World->World->Prop)(I:List α->World->Prop)(pre:List α)(x:α)(W:World):Kq
 |.normal,_,c=>KeepsOthers W c/\m W c/\I (pre++[x]) c
 |_,_,_=>False
def aip:Kq:=λ_ _ _=>False
def aio(P:Program)(fn:Func)(R:Ending->World->Prop):Kd:=λe M O w=>
 (e=.normal\/e=.ret)/\∀tmps:Array Value,(∀i,tmps.getD i undef=O i)->∀n,LeavesInM Fence.wide n P fn tmps R (M.map wJ) .returning w
def HE.cel:HE->Bool
 |.ob _ _=>false
 |_=>true
def afc(base:Nat)(ids:List Nat)(w:World)(k:Nat):Option HE:=if base<=k/\ids.contains k=false then(w.heap[k]?).map λo=>.ob k o else none
def ail(base:Nat)(ids:List Nat)(w:World):List HE:=(List.range w.heap.size).filterMap (afc base ids w)
variable {O:Rf}{P:Program}{lo:Operand}{n:Nat}{pos:String}{z:Int}
def abx{d:Option Nat}{ty:TypeId}{af:Array Edge}{g:Option (Nat×Bool)}{t e:TypeId}{x hi mx:Operand}{b:Addr}{c l h q sz:Nat}{k1 k2 F:IntKind}{a N:Int} (S:P.underlying t=some (.slice e))(M:(P.info? e).map (·.size)=some sz)(C:ev O x=.slice (some b) n c)(p:ev O lo=.int k1 a)(f:ev O hi=.int k2 N)(W:ev O mx=.int F z)(j:a=(l:Int))(L:N=(h:Int))(X:z=(q:Int)) (h1:l<=h)(h2:h<=q)(G:q<=c)(m:l<q):(execOp (ev O) ⟨d,.slice t x (some lo) (some hi) (some mx),ty,pos,af,g⟩).run P w=.ok (.value (.slice (some (b.add (l*sz))) (h-l) (q-l))) w:=by
 obtain⟨i,H,v⟩:=y9.1 M;subst j L X v;have J:(l:Int)<=h:=Z';have o:(h:Int)<=q:=Z';have k:(q:Int)<=c:=Z';have Q:¬q=l:=Z';have E:¬q-l=0:=Z';simp[execOp,C,Instr.sliceAt,Instr.slice,run_underlying S,Instr.sliceBounds,Instr.sliceBound,asIntOf,p,f,W,h1,h2,G,Q,E,sizeOf,typeInfo,H]
def agr(T j:Nat)(W c:World):Prop:=c.cell? ⟨T,0,none⟩=W.cell? ⟨T,0,none⟩/\c.cell? ⟨j,0,none⟩=W.cell? ⟨j,0,none⟩
def dz(N:Nat):Bg N [.bool false,.string (ByteArray.mk #[]),.int .i64 0]=ia NR.cells ((List.replicate N (0:Dyadic)).map nR):=by
 rw[KD,Hx]
structure Val(q:Nat)(s:NR)(x:Dyadic):Prop where
 ok:s.ok
 Va:s.Va.size<=2001
 da:s.da=x
 sz:Sz q x
def ahM(l:List Dyadic)(i:Nat):List Dyadic:=(List.range l.length).map λk=>if k<i\/l.length<=k+i then Bj l (l.length-1-k) else Bj l k
variable {W Z:World}{base:Nat}
def SD(base:Nat)(E:Int)(D:List Nat)(ys:List Dyadic):VP:=λv W=>∃(g:FX)(Z:World),v=.agg #[.slice g.A g.n g.a,.slice g.B g.m g.b]/\Out E D ys g/\base<=Z.heap.size/\Hp Z [g.gg,g.Kf] W
def SD.ext{D:List Nat}{ys:List Dyadic}(v:Value)(w V)(h:SD base E D ys v w)(F:Below w.heap.size w V):SD base E D ys v V:=let⟨g,Z,h1,h2,G,z⟩:=h;⟨g,Z,h1,h2,G,z.ext F⟩
def yI(base:Nat)(E:Int)(D:List Nat)(ys:List Dyadic):VP:=λv W=>∃(g:FX)(Z:World),v=.tuple #[.agg #[.slice g.A g.n g.a,.slice g.B g.m g.b],.int .i64 E]/\Out E D ys g/\base<=Z.heap.size/\Hp Z [g.gg,g.Kf] W
def yI.ext{D:List Nat}{ys:List Dyadic}(v:Value)(w V)(h:yI base E D ys v w)(F:Below w.heap.size w V):yI base E D ys v V:=let⟨g,Z,h1,h2,G,z⟩:=h;⟨g,Z,h1,h2,G,z.ext F⟩
variable {fz:Nat×Nat}
def FX.ne{g:FX}{b:Nat}{t:TypeId}{cs:Array Value}(h:Hp Z [g.gg,g.Kf] W)(G:W.heap[b]?=some (.cells cs t fz))(h1:30≠t)(h2:3≠t):∀x∈[g.gg,g.Kf],x.id≠some b:=λx C=>by
 have Q:=h.own x C;obtain rfl|C:=u'.1 C
 .exact mJ Q G h1
 obtain rfl:=q'.1 C;exact mJ Q G h2
instance:pa prog 199 1 false 8 [.nilFunc]:={}
def agX(n m:Nat)(ds:List Int)(cs:List NR):VP:=λv W=>∃A a B b,v=.agg #[.slice A n a,.slice B m b]/\n<=a/\Sl W A n 1 (Pa ds)/\Sl W B m 3 (ia NR.cells cs)
instance:pa prog 199 1 false 8 [.nilFunc]:={}
def aaV(up:Bool)(s:Dyadic)(ns:List Nat)(a:Nat)(xs:List Dyadic):List Dyadic:=ui ns.reverse (ns.length-1-a) (if up then acz (ns.getD a 0) s else acK (ns.getD a 0) s) xs
def Sm(L:FX)(N:Int):Int:=if L.e≠0 then L.e else if N<0\/(L.n:Int)<=N then 1 else 0
def ahD(e:Int):Ending:=.returned (.tuple #[.agg #[.slice none 0 0,.slice none 0 0],.agg #[.slice none 0 0,.slice none 0 0],.int .i64 e])
def EW(n:Nat)(h:Int):Bool:=decide (h<0\/(n:Int)<=h.tdiv 2)
def aef(ns:List Nat)(xs:List Dyadic)(h:Int):List Dyadic:=aaV (decide (h % 2=1)) (ti (-1)) ns (h/2).toNat xs
def ag6(ns:List Nat)(xs:List Dyadic)(K:List Int):List Dyadic:=K.foldl (aef ns) xs
variable {α β:Type}
def bG{l:List α}{f g:α->List β}(h:∀a∈l,f a=g a):l.flatMap f=l.flatMap g:=by
 rw[List.flatMap_def,List.flatMap_def,z9 h]
def yt(m n:Nat):List.range (m*n)=(List.range n).flatMap λq=>(List.range m).map λr=>r+m*q:=by
 induction n with
 |zero=>rfl
 |succ n W=>
  rw[o9,List.range_add,W,A9,c8,U5];congr 1;exact z9 λr _=>O8 _ _
def abp(d t:Nat)(S:t<=d)(G:Nat->List α):(List.range (d+1)).flatMap (λk=>if k=t then G k else[])=G t:=by
 have none:∀n,n<=t->(List.range n).flatMap (λk=>if k=t then G k else[])=[]:=λn B=>(by refine List.flatMap_eq_nil_iff.2 λk u=> ?_;have:=S_.1 u;rw[Q' Z'])
 induction d with
 |zero=>
  obtain rfl:t=0:=Z';simp
 |succ d W=>
  rw[A9,c8,U5];by_cases h:t=d+1
  .subst h;rw[none _ (E' _),P' rfl,F']
  rw[W Z',Q' Z',M_]
def QK(A B:List Nat)(d t:Nat):List Nat:=(List.range (ea B)).flatMap λq=>(List.range (ea A)).map λf=>ic A d f t q
def EE(A:List Nat)(B)(d t:Nat)(S:t<=d):(List.range (ea (A++d::B))).filter (λp=>decide (p/ea A % (d+1)=t))=QK A B d t:=by
 have R:=Pb A;rw[Qc,ea,yt,List.filter_flatMap];have N:∀x,((List.range (ea A)).map λf=>f+ea A*x).filter (λp=>decide (p/ea A % (d+1)=t))=if x % (d+1)=t then(List.range (ea A)).map λf=>f+ea A*x else[]:=λx=>by
  by_cases h:x % (d+1)=t
  .rw[P' h];refine y6.2 λp hp=> ?_;obtain⟨f,Y,rfl⟩:=B'.1 hp;have Y:=S_.1 Y;rw[K9 _ _ R,s_ Y,U_,m' h]
  rw[Q' h];refine j6.2 λp hp=> ?_;obtain⟨f,Y,rfl⟩:=B'.1 hp;have Y:=S_.1 Y;rw[K9 _ _ R,s_ Y,U_,decide_eq_true_iff];exact h
 simp only[N];rw[yt,List.flatMap_assoc];unfold QK;congr 1;funext q;rw[List.flatMap_map];have L:∀k∈List.range (d+1),(if(k+(d+1)*q) % (d+1)=t then(List.range (ea A)).map (λf=>f+ea A*(k+(d+1)*q)) else[])=if k=t then(List.range (ea A)).map (λf=>ic A d f k q) else[]:=λk u=>(by have:=S_.1 u;rw[W8,E_ this];rfl)
 rw[bG L,abp d t S λk=>(List.range (ea A)).map λf=>ic A d f k q]
def Du(A B:List Nat)(d t:Nat)(xs:List Dyadic):List Dyadic:=(QK A B d t).map λp=>(xs[p]?).getD 0
def tX(d k:Nat)(u:k<=d)(F:Nat->Dyadic):sm (List.range (d+1)) (λi=>F i*(if i=k then 1 else 0))=F k:=by
 rw[Ua (g:=λi=>if i=k then F k else 0) λi _=> ?_,cm,P' Z'];split
 .rename_i h;rw[h,Dyadic.mul_one]
 exact N6 _
def KE:∀(A:List Nat)(d:Nat)(B:List Nat)(F:List Nat->Dyadic),sR (A++d::B) F=sm (List.range (d+1)) λr=>sR (A++B) λrow=>F (row.take A.length++r::row.drop A.length)
 |[],d,B,F=>(by rw[F',F',sR];refine Ua λr _=>Pm λrow _=> ?_;simp)
 |e::A,d,B,F=>(by rw[C',C',sR,Ua λx _=>KE A d B λrow=>F (x::row),Tq];refine Ua λr _=> ?_;rw[sR];refine Ua λx _=>Pm λrow _=> ?_;simp)
def Fw:∀{A l:List Nat}{ta:List Dyadic} (d r:Nat) (t:Dyadic) (B b:List Nat) (tb:List Dyadic),l.length=A.length->ta.length=A.length->Yi (A++d::B) (l++r::b) (ta++t::tb)=Yi (A++B) (l++b) (ta++tb)*Mi d r t
 |[],[],[],d,r,t,B,b,tb,_,_=>(by show Mi d r t*Yi B b tb=Yi B b tb*Mi d r t;grind)
 |[],_::_,_,_,_,_,_,_,_,h,_=>by cases h
 |[],[],_::_,_,_,_,_,_,_,_,h=>by cases h
 |_::_,[],_,_,_,_,_,_,_,h,_=>by cases h
 |_::_,_::_,[],_,_,_,_,_,_,_,h=>by cases h
 |a::A,x::l,u::ta,d,r,t,B,b,tb,h1,h2=>(by show Mi a x u*Yi (A++d::B) (l++r::b) (ta++t::tb)=Mi a x u*Yi (A++B) (l++b) (ta++tb)*Mi d r t;rw[Fw d r t B b tb (by simpa using h1) (by simpa using h2)];grind)
def aaC(A:List Nat)(d:Nat)(B:List Nat)(X:List Dyadic)(ta tb:List Dyadic)(r:Nat):Dyadic:=sR (A++B) λrow=>co (A++d::B) X (row.take A.length++r::row.drop A.length)*Yi (A++B) row (ta++tb)
def HO{A:List Nat}{d:Nat}{B:List Nat}{X ta tb:List Dyadic}{t:Dyadic}(M:ta.length=A.length):sf (A++d::B) X (ta++t::tb)=sm (List.range (d+1)) λr=>aaC A d B X ta tb r*Mi d r t:=by
 rw[lL,KE];refine Ua λr _=> ?_;unfold aaC;rw[<-OQ];refine Pm λrow H=> ?_;have Q:=bo H;rw[y'] at Q;rw[Fw d r t B _ tb (by rw[p'];omega) M,q_];grind
def IK:∀{A:List Nat}{d r:Nat}{B row:List Nat},ph (A++B) row->r<=d->ph (A++d::B) (row.take A.length++r::row.drop A.length)
 |[],d,r,B,row,h,H=>by simpa using⟨H,h⟩
 |a::A,d,r,B,[],h,H=>by cases h
 |a::A,d,r,B,x::row,h,H=>⟨h.1,by simpa using IK (A:=A) h.2 H⟩
def lX{A B row:List Nat}{d r:Nat}(Q:A.length<=row.length):Jc (A++d::B) (row.take A.length++r::row.drop A.length)=ic A d (Jc A (row.take A.length)) r (Jc B (row.drop A.length)):=by
 rw[bk (by rw[p'];omega)];rfl
def jx:∀{A B l b:List Nat},l.length=A.length->(ph (A++B) (l++b)↔ph A l/\ph B b)
 |[],B,[],b,_=>by simp[ph]
 |[],_,_::_,_,h=>by cases h
 |_::_,_,[],_,h=>by cases h
 |a::A,B,x::l,b,h=>(by show x<=a/\ph (A++B) (l++b)↔(x<=a/\ph A l)/\ph B b;rw[jx (by simpa using h),and_assoc])
def ZO{A B row:List Nat}(h:ph (A++B) row):ph A (row.take A.length)/\ph B (row.drop A.length):=by
 have Q:=bo h;rw[y'] at Q;refine(jx (by rw[p'];omega)).1 ?_;rw[q_];exact h
def abQ{A B row:List Nat}{d r:Nat}{X:List Dyadic}(h:ph (A++B) row)(H:r<=d):co (A++d::B) X (row.take A.length++r::row.drop A.length)=(X[ic A d (Jc A (row.take A.length)) r (Jc B (row.drop A.length))]?).getD 0:=by
 have Q:=bo h;rw[y'] at Q;rw[mA (IK h H),lX Z']
def sF(A B)(d t:Nat)(xs:List Dyadic):Du A B d t xs=(List.range (ea (A++B))).map λp=>(xs[ic A d (p % ea A) t (p/ea A)]?).getD 0:=by
 have R:=Pb A;unfold Du QK;rw[Qc,yt,List.map_flatMap,List.map_flatMap];refine bG λq _=> ?_;rw[A_,A_];refine z9 λf Y=> ?_;have Y:=S_.1 Y;show(xs[ic A d f t q]?).getD 0=(xs[ic A d ((f+ea A*q) % ea A) t ((f+ea A*q)/ea A)]?).getD 0;rw[W8,E_ Y,K9 _ _ R,s_ Y,U_]
def QO(A B)(d t:Nat)(xs):(Du A B d t xs).length=ea (A++B):=by
 rw[sF,D',V9]
def vW{A B:List Nat}{d t:Nat}{p:Nat}(h:p<ea (A++B)):(Du A B d t xs)[p]?=some ((xs[ic A d (p % ea A) t (p/ea A)]?).getD 0):=by
 rw[sF,z',f_ h];rfl
def bX{A B row:List Nat}{d t:Nat}(S:t<=d)(h:ph (A++B) row):co (A++B) (Du A B d t xs) row=co (A++d::B) xs (row.take A.length++t::row.drop A.length):=by
 have Q:=bo h;rw[y'] at Q;obtain⟨h1,h2⟩:=ZO h;have R:=Th h1;have hp:Jc (A++B) row=Jc A (row.take A.length)+ea A*Jc B (row.drop A.length):=by
  conv=>lhs;rw[<-q_ A.length row]
  exact bk (by rw[p'];omega)
 rw[mA h,vW (Th h),abQ h S,hp,W8,E_ R,K9 _ _ (Pb A),s_ R,U_];rfl
def IQ{d r:Nat}(H:r<=d)(side:Nat)(K:side<=1):Mi d r (nD side)=if r=d*side then 1 else 0:=by
 unfold Mi;rcases(by omega:side=0\/side=1) with rfl|rfl
 .rw[Vu,A8,show(1:Dyadic)-0=1 by grind,mi];by_cases h:r=0
  .subst h;rw[P' rfl,D7];grind
  obtain⟨s,rfl⟩:∃s,r=s+1:=⟨r-1,Z'⟩;rw[Q' h,u7];grind
 rw[Pt,X_,show(1:Dyadic)-1=0 by grind,mi];by_cases h:r=d
 .subst h;rw[P' rfl,u_,D7];grind
 obtain⟨s,K⟩:∃s,d-r=s+1:=⟨d-r-1,Z'⟩;rw[Q' h,K,u7];grind
def xT{A B:List Nat}{d side:Nat}{ta tb:List Dyadic}(K:side<=1)(M:ta.length=A.length):sf (A++B) (Du A B d (d*side) xs) (ta++tb)=sf (A++d::B) xs (ta++nD side::tb):=by
 have S:d*side<=d:=(by rcases(by omega:side=0\/side=1) with rfl|rfl<;>omega);rw[HO M,Ua λr H=>by rw[IQ (by have:=S_.1 H;omega) side K],tX d (d*side) S,lL];unfold aaC;exact Pm λrow H=>by rw[bX S H]
def C2:List Nat->List Nat->List Nat
 |[],_=>[]
 |_::_,[]=>[]
 |d::ds,k::a=>d*k::C2 ds a
def afS(a:Int):IntKind.i64.wrap (BitVec.ofInt IntKind.i64.bits a &&& BitVec.ofInt IntKind.i64.bits 1).toNat=a % 2:=by
 have h1:(BitVec.ofInt IntKind.i64.bits a &&& BitVec.ofInt IntKind.i64.bits 1).toNat=(a % 2).toNat:=(by show(BitVec.ofInt 64 a &&& BitVec.ofInt 64 1).toNat=_;rw[BitVec.toNat_and,show(BitVec.ofInt 64 1).toNat=2^1-1 by decide,Nat.and_two_pow_sub_one_eq_mod,BitVec.toNat_ofInt];omega);rw[h1,yj Z' Z'];omega
variable {N ty:Nat}{ops:Array Oper}{Q:Kq}{rest:List Oper}{af:Array Edge}
def cI{t u:Nat}{x y:Operand}{a:Int}(C:ev O x=.int .i64 a)(hy:ev O y=.int .i64 1)(L:d<N)(p:WL .plain P N ops Q rest (jd O d (.int .i64 (a % 2))) w):WL .plain P N ops Q (⟨some d,.binOp .and t x y u,ty,pos,af,none⟩::rest) O w:=
 ub rfl rfl L (by rw[DZ C hy,afS]) p
def cnE(L:FX)(bits:Int):Int:=if L.e≠0 then L.e else if bits<0\/((2^L.n:Nat):Int)<=bits then 1 else 0
def Aw(k i:Nat):Nat:=k/2^i % 2
def lM(n k:Nat):List Nat:=(List.range n).map (Aw k)
def cnP(ns:List Nat)(k:Nat):Nat:=Jc ns.reverse (C2 ns (lM ns.length k)).reverse
def cnV(L:FX)(bits:Int):NR:=if cnE L bits=0 then(L.cs[cnP L.ns bits.toNat]?).getD (nR 0) else nR 0
def Fe(x:Dyadic):Dyadic:=if x<0 then -x else x
def j0(g:FX)(eps:Dyadic):Option Nat:=(List.range (2^g.n)).find? λk:Nat=>decide (Fe (cnV g (k:Int)).da<eps)
def acV(g:FX)(eps:Dyadic):Int:=if g.e≠0 then g.e else if(j0 g eps).isSome=true then 0 else 4
def adU(g:FX)(eps:Dyadic):Nat:=if g.e≠0 then 0 else(j0 g eps).getD 0
def Sz.Fe{k:Nat}{x:Dyadic}(h:Sz k x):Sz k (Fe x):=by
 unfold Go.Proofs.YtbencocchdpikaaGreatDoor.Fe;split
 .exact h.neg
 exact h
def Ok(b:List SR):Int:=if b.any (λs=> !decide (s.lo.da<s.hi.da)) then 5 else if b.length=0 then 1 else 0
def xV(x y):(0<=We x y)↔¬x<y:=by
 obtain h|h|h:=jP x y
 .rw[Zl h];exact⟨λh2=>by omega,λh2=>absurd h h2⟩
 .rw[h,Jo];exact⟨λ_=>by grind,λ_=>by omega⟩
 rw[Bp h];exact⟨λ_=>by grind,λ_=>by omega⟩
def iC(L:Option Addr)(n c:Nat)(b:List SR)(w:World)(S:Gc w)(J:Sl w L n 6 (ia SR.cells b))(F:∀s∈b,s.ok)(p:n<=1000000):Zc 16 #[.slice L n c] w (.int .i64 (Ok b)):=by
 have I:=Hp.start w;have m:=J.sa SR.len V';refine Ca func16 ?_;refine fa ?_;refine bf 7 (λv V=>∃i:Nat,i<=n/\v=.int .i64 i/\(b.take i).any (λs=> !decide (s.lo.da<s.hi.da))=false/\Hp w [] V) (λv _=>n-(intOf v).toNat) ?_ ?_
 .exact⟨0,J' _,rfl,rfl,I⟩
 clear I;rintro ρ' v V ⟨i,hi,rfl,X,I⟩;by_cases a:i<n
 .obtain⟨s,K⟩:=aa (l:=b) (k:=i) Z';have ms:=N' K;obtain⟨j,rfl,H⟩:=J.at_ Z';have E:=λZ P=>Sd s.lo s.hi Z P (F s ms).1 (F s ms).2;have e:=xV s.lo.da s.hi.da;generalize We s.lo.da s.hi.da=B at*;by_cases g:0<=B
  .refine XG ?_;refine yb ?_;intro D y I ws I;refine cd I (E _ (S.hp I)) ?_;intro f I;refine fa ?_;have:b.any (λs=> !decide (s.lo.da<s.hi.da))=true:=W9.2 ⟨s,ms,by rw[k' (e.1 g)];rfl⟩;exact⟨by rw[Ok,P' this],I.below⟩
  refine XG ?_;refine yb ?_;intro D y I ws I;refine cd I (E _ (S.hp I)) ?_;intro f I;refine fa ?_;replace I:=I.sub (G' _ Z_);refine⟨⟨i+1,Z',rfl, ?_,I⟩,by show n-(i+1)<n-i;omega, ?_⟩
  .rw[ja K,B8,X,z_,k8,O7,Bool.or_false,m' (by have:¬¬s.lo.da<s.hi.da:=λh=>g (e.2 h);exact Z7.1 this)];rfl
  exact Wb
 rw[w' Z'] at X;by_cases o:n=0
 .refine fa ?_;exact⟨by rw[Ok,X,Q' (by simp),P' Z'],I.below⟩
 refine fa ?_;exact⟨by rw[Ok,X,Q' (by simp),Q' Z'],I.below⟩
def Wj(L)(n c:Nat)(b)(w)(S:Gc w)(J:Sl w L n 6 (ia SR.cells b))(F:∀s∈b,s.ok)(B:n<=1000000):Calls prog 72 #[.slice L n c] w λr V=>∃A c',r=.returned (.slice A n c')/\V.ownsRow w.heap.size 36 6 (.slice A n c') n (ia SR.cells (b.map SR.f))/\Below w.heap.size w V:=by
 refine XL ?_;intro I m;refine Ca func72 ?_;refine fa ?_;replace I:=I.rb 36 6;refine Fi 3 8 (λy v V=>∃(i e:Nat)(A:Option Addr),i<=n/\v=.int .i64 i/\y=.slice A i e/\Hp w [.row A i e 36 6 (ia SR.cells ((b.take i).map SR.f))] V) (λ_ v _=>n-(intOf v).toNat) ?_ ?_
 .exact⟨0,0,none,J' _,rfl,rfl,I⟩
 clear I;rintro ρ' y v V ⟨i,e,A,hi,rfl,rfl,I⟩;by_cases D:i<n
 .obtain⟨s,K⟩:=aa (l:=b) (k:=i) Z';have ms:=N' K;obtain⟨g,rfl,H⟩:=J.at_ Z';refine XG ?_;refine yb ?_;intro R h I ws I;refine cd I (YC s _ (S.hp I) (F s ms)) ?_;intro Y I;refine SK ?_;intro x a I;refine yw ?_;intro o C d I;refine XO ?_;intro I;replace I:=I.sub (G' _ (O' _ Z_));refine⟨⟨i+1,C,o,Z',rfl,rfl, ?_⟩,by show n-(i+1)<n-i;omega, ?_⟩
  .rw[ja K,G_,Aa];exact I
  exact Wb
 refine cZ ?_;intro I;exact⟨_,_,rfl,I.at_ (i:=0) rfl,I.below⟩
def hasB(b:List SR)(p:List NR):Bool:=decide (b.length=p.length) && (b.zip p).all λx=>x.1.has x.2.da
def Eo(a b:List SR):Bool:=decide (a.length=b.length) && (a.zip b).all λx=>x.2.has x.1.lo.da && x.2.has x.1.hi.da
theorem Cy(L:Option Addr)(n c:Nat)(b:List SR)(M:Option Addr)(m Y:Nat)(p:List SR)(k:Nat)(w:World)(S:Gc w)(J:Sl w L n 6 (ia SR.cells b))(z:Sl w M m 6 (ia SR.cells p))(F:∀s∈b,s.ok)(hp:∀a∈p,a.fin k)(hn:n<=1000000)(hm:m<=1000000)(u:k<=3000000):Zc 24 #[.slice L n c,.slice M m Y] w (.bool (Eo b p)):=by
 have I:=Hp.start w;have t:=J.sa SR.len V';have r:=z.sa SR.len V';unfold Eo;by_cases y:n=m
 .subst y;rw[m' Z',L7];refine Ca (l:=[.slice L n c,.slice M n Y]) func24 ?_;refine fa ?_;refine bf 14 (λv V=>∃i:Nat,i<=n/\v=.int .i64 i/\((b.take i).zip (p.take i)).all (λx=>x.2.has x.1.lo.da && x.2.has x.1.hi.da)=true/\Hp w [] V) (λv _=>n-(intOf v).toNat) ?_ ?_
  .exact⟨0,J' _,rfl,rfl,I⟩
  clear I;rintro ρ' v V ⟨i,hi,rfl,X,I⟩;by_cases D:i<n
  .obtain⟨s,K⟩:=aa (l:=b) (k:=i) Z';obtain⟨a,e⟩:=aa (l:=p) (k:=i) Z';obtain⟨ad,rfl,H⟩:=J.at_ Z';obtain⟨q,rfl,G⟩:=z.at_ Z';have E:=λZ P=>tw s a k Z P (F s (N' K)) (hp a (N' e)) u;have A:(b.take (i+1)).zip (p.take (i+1))=(b.take i).zip (p.take i)++[(s,a)]:=(by rw[ja K,ja e,List.zip_append (by simp;omega)];rfl);have T:(s,a)∈b.zip p:=N' (i:=i) (by rw[T7];exact⟨K,e⟩)
   cases g:(a.has s.lo.da && a.has s.hi.da) with
   |true=>
    rw[g] at E;refine XG ?_;refine CY ?_;(unhygienic intros)
    refine Fj [_,_,_,_,_,_] (λ_ hj=>(G.ext hj.hp.below).recAt SR.len e) ?_;refine Fa ?_;intro f W Q o;have C:=Q.bl;obtain⟨v23,R,N,v20,B,_⟩:=o;replace I:=Q.hp;refine lg ?_;clear Q;refine cd I (E _ (S.hp I)) ?_;intro h I;refine fa ?_;replace I:=I.sub (G' _ Z_);refine⟨⟨i+1,Z',rfl,by rw[A,F6,X];simpa using g,I⟩,by show n-(i+1)<n-i;omega, ?_⟩;exact Wb
   |false=>
    rw[g] at E;refine XG ?_;refine CY ?_;(unhygienic intros)
    refine Fj [_,_,_,_,_,_] (λ_ hj=>(G.ext hj.hp.below).recAt SR.len e) ?_;refine dn ?_;intro W I;refine cd I (E _ (S.hp I)) ?_;intro h I;refine fa ?_;have:(b.zip p).all (λx=>x.2.has x.1.lo.da && x.2.has x.1.hi.da)=false:=List.all_eq_false.2 ⟨(s,a),T,by simp only[g];exact Bool.false_ne_true⟩;exact⟨by rw[this],I.below⟩
  rw[w' Z',w' Z'] at X;refine fa ?_;exact⟨by rw[X],I.below⟩
 rw[k' Z',Y6];refine Ca func24 ?_;refine fa ?_;exact⟨rfl,I.below⟩
def SR.szw{s:SR}(h:s.fin k):Sz (k+1) s.wid:=(SR.szH h).sub (SR.szL h)
variable {b:List SR}
def ahX(b:List SR):Dyadic:=Re (b.map SR.wid)
def qm(b:List SR)(v:Int):Prop:=(b=[]/\v= -1)\/∃(m:Nat)(s:SR),b[m]?=some s/\v=m/\(∀(j:Nat)(t:SR),b[j]?=some t->¬s.wid<t.wid)/\∀(j:Nat)(t:SR),j<m->b[j]?=some t->t.wid<s.wid
def Tv(s:SR):qm (List.take 0 b++[s]) 0:=by
 refine .inr ⟨0,s,rfl,rfl,λj t h=> ?_,λj t h=>absurd h (Nat.not_lt_zero _)⟩
 match j,h with
 |0,h=>cases h;grind
def fG{l:List SR}{u s:SR}(h1:∀(j:Nat)(t:SR),l[j]?=some t->¬u.wid<t.wid)(g:u.wid<s.wid):qm (l++[s]) (l.length:Nat):=by
 have G:∀(j:Nat)(t:SR),j<l.length->(l++[s])[j]?=some t->t.wid<s.wid:=λj t hj h=>(by rw[m9 hj] at h;have:=h1 j t h;grind);refine .inr ⟨l.length,s,by simp,rfl,λj t h=> ?_,G⟩;by_cases hj:j<l.length
 .have:=G j t hj h;grind
 rw[S9 Z'] at h
 match j-l.length,h with
 |0,h=>cases h;grind
def EG{l:List SR}{u s:SR}(hu:l[j]?=some u)(h1:∀(j:Nat)(t:SR),l[j]?=some t->¬u.wid<t.wid)(h2:∀(i:Nat)(t:SR),i<j->l[i]?=some t->t.wid<u.wid)(g:¬u.wid<s.wid):qm (l++[s]) (j:Nat):=by
 have hj:=(x'.1 hu).1;refine .inr ⟨j,u,by rw[m9 hj];exact hu,rfl,λi t h=> ?_,λi t hi h=>h2 i t hi (by rwa[m9 Z'] at h)⟩;by_cases hi:i<l.length
 .exact h1 i t (by rwa[m9 hi] at h)
 rw[S9 Z'] at h
 match i-l.length,h with
 |0,h=>cases h;exact g
def yy(L)(n c:Nat)(b)(k:Nat)(w)(S:Gc w)(hS:Sl w L n 6 (ia SR.cells b))(F:∀s∈b,s.fin k)(hn:n<=1000000)(hk:k<=3000000):Calls prog 74 #[.slice L n c] w λr V=>(∃v,r=.returned (.int .i64 v)/\qm b v)/\Below w.heap.size w V:=by
 have I:=Hp.start w;have hln:=hS.sa SR.len V';refine Ca func74 ?_;refine fa ?_;refine Fi 3 8 (λv3 v V=>∃(i:Nat)(m:Int),i<=n/\v=.int .i64 i/\v3=.int .i64 m/\qm (b.take i) m/\Hp w [] V) (λ_ v _=>n-(intOf v).toNat) ?_ ?_
 .exact⟨0, -1,J' _,rfl,rfl,.inl ⟨rfl,rfl⟩,I⟩
 clear I;rintro ρ' v3 v V ⟨i,m,hi,rfl,rfl,p,I⟩;by_cases hlt:i<n
 .obtain⟨s,K⟩:=aa (l:=b) (k:=i) Z';have ms:=N' K;obtain⟨ad,rfl,H⟩:=hS.at_ Z';obtain⟨h0,rfl⟩|⟨j,u,hu,rfl,t,x⟩:=p
  .have N:i=0:=(by have:=Y_ List.length h0;rw[p',B7] at this;omega);subst N;refine XG ?_;refine yb ?_;intro J w5 I ws I;refine ud 9 I ?_;refine Fa ?_;intro f W Q d;have R:=Q.bl;obtain⟨D,v20,C,Y,X,M,B,A,y,_⟩:=d;replace I:=Q.hp;refine lg ?_;refine fa ?_;replace I:=I.sub (G' _ Z_);refine⟨⟨0+1,0,Z',rfl,rfl, ?_,I⟩,by show n-(0+1)<n-0;omega, ?_⟩
   .rw[ja K];exact Tv s
   exact Wb
  have z:j<i:=(by have:=x'.1 hu;obtain⟨h,_⟩:=this;rw[p'] at h;omega);have a:b[j]?=some u:=by rw[<-hu,List.getElem?_take_of_lt z]
  have q:=λZ P=>gk s k Z P (F s ms) hk;have o:=λZ P=>gk u k Z P (F u (N' a)) hk;have T:=λZ P=>Sd (nR s.wid) (nR u.wid) Z P ((SR.szw (F s ms)).ok Z') ((SR.szw (F u (N' a))).ok Z');simp only[Ga] at T;have e:=Tu s.wid u.wid;generalize We s.wid u.wid=cc at*;by_cases g:0<cc
  .refine XG ?_;refine H2 ?_;intro J w5 I ws I;refine Fa ?_;intro f W Q d;have R:=Q.bl;obtain⟨D,v20,C,Y,X,M,B,A,y,_⟩:=d;replace I:=Q.hp;refine lg ?_;refine S1 ?_;intro E I G I;refine⟨⟨i+1,i,Z',rfl,rfl, ?_,I⟩,by show n-(i+1)<n-i;omega, ?_⟩
   .have:=fG (s:=s) t (e.1 g);rwa[p',P9 Z',<-ja K] at this
   exact Wb
  refine XG ?_;refine H2 ?_;intro J w5 I ws I;refine dn ?_;intro W I;refine S1 ?_;intro E I G I;refine⟨⟨i+1,j,Z',rfl,rfl, ?_,I⟩,by show n-(i+1)<n-i;omega, ?_⟩
  .rw[ja K];exact EG hu t x λh=>g (e.2 h)
  exact Wb
 obtain rfl:i=n:=Z';rw[w' Z'] at p;refine fa ?_;exact⟨⟨_,rfl,p⟩,I.below⟩
def Fm(L)(n c:Nat)(b)(g:FuncId)(cap)(G:Nat->SR->NR)(w)(S:Gc w)(J:Sl w L n 6 (ia SR.cells b))(F:∀s∈b,s.ok)(B:n<=1000000)[la prog g] (j:∀(i:Nat)(s:SR)(Z:World),i<n->b[i]?=some s->Below w.heap.size w Z->Gc Z->Calls prog g (.int .i64 i::.agg s.f.cells.toArray::cap).toArray Z λr V=>r=.returned (.agg #[.bool (G i s).neg,.string (G i s).Va,.int .i64 (G i s).e])/\Below Z.heap.size Z V):Calls prog 61 #[.slice L n c,.func (.func g) #[] cap.toArray] w λr V=>∃A c',r=.returned (.slice A n c')/\V.ownsRow w.heap.size 30 3 (.slice A n c') n (ia NR.cells (b.mapIdx G))/\Below w.heap.size w V:=by
 refine XL ?_;intro I m;refine Ca func61 ?_;refine fa ?_;refine Tc (Wj L n c b _ (S.hp I) (J.ext I.below) F B) la.out rfl V' ?_;rintro H P ⟨C,X,rfl,t,M⟩;refine iq ?_;intro I;refine fa ?_;replace I:=I.rb 30 3;refine Fi 5 11 (λy v V=>∃(i a:Nat)(A:Option Addr),i<=n/\v=.int .i64 i/\y=.slice A i a/\Hp w [.row A i a 30 3 (ia NR.cells ((b.take i).mapIdx G)),.row C n X 36 6 (ia SR.cells (b.map SR.f))] V) (λ_ v _=>n-(intOf v).toNat) ?_ ?_
 .exact⟨0,0,none,J' _,rfl,rfl,I⟩
 clear I;rintro ρ' y v V ⟨i,a,A,hi,rfl,rfl,I⟩;by_cases D:i<n
 .obtain⟨s,K⟩:=aa (l:=b) (k:=i) Z';have ms:=N' K;have d:(b.map SR.f)[i]?=some s.f:=by rw[z',K];rfl
  obtain⟨E,rfl⟩:=I.kb (i:=1) rfl Z';refine fa ?_;refine sv (Ka (vs:=[_,_,_,_,_,_]) pa.out rfl (I.Wc (f:=SR.cells) (x:=s.f) (l:=b.map SR.f) (i:=1) rfl SR.len V' d) rfl) ?_;refine yb ?_;intro z N I ws I;refine Hh (j i s _ D K I.below (S.hp I)) la.out rfl rfl V' ?_;rintro H o ⟨rfl,M⟩;refine Xq ?_;intro I;refine Nm ?_;intro h q I;refine yw ?_;intro T p u I;refine XO ?_;intro I;replace I:=I.sub (G' _ (O' _ (O' _ Z_)));refine⟨⟨i+1,p,T,Z',rfl,rfl, ?_⟩,by show n-(i+1)<n-i;omega, ?_⟩
  .rw[ja K,List.mapIdx_concat,p',P9 Z',Aa];exact I
  exact Wb
 refine cZ ?_;intro I;exact⟨_,_,rfl,I.at_ (i:=0) rfl,I.below⟩
def qF(i:Int)(s:SR)(k:Nat)(w)(S:Gc w)(K:s.fin k)(u:k<=3000000):Zc 218 #[.int .i64 i,.agg s.cells.toArray] w (.agg #[.bool (nR s.lj).neg,.string (nR s.lj).Va,.int .i64 (nR s.lj).e]):=by
 have I:=Hp.start w;refine Ca func218 ?_;refine yb ?_;intro j p I D y I;refine cd I (du s k _ (S.hp I) K u) ?_;intro A I;refine VI ?_;intro ws I;exact⟨rfl,I.below⟩
def iI(L)(n c:Nat)(b)(k:Nat)(w)(S:Gc w)(J:Sl w L n 6 (ia SR.cells b))(F:∀s∈b,s.fin k)(B:n<=1000000)(u:k<=3000000):Calls prog 142 #[.slice L n c] w λr V=>∃A c',r=.returned (.slice A n c')/\V.ownsRow w.heap.size 30 3 (.slice A n c') n (ia NR.cells (b.mapIdx λ_ s=>nR s.f.lj))/\Below w.heap.size w V:=by
 have I:=Hp.start w;refine Ca func142 ?_;refine fa ?_;refine cr I (Fm L n c b 218 [] (λ_ s=>nR s.f.lj) _ (S.hp I) (J.ext I.below) (λs h=>⟨(F s h).1.ok,(F s h).2.ok⟩) B (λi s Z hi K _ P=>qF i s.f k Z P (SR.Im (F s (N' K)) u) u)) ?_;intro t H y I;exact jE
def SR.half(s:SR)(m:NR)(u:Bool):SR:=if u then⟨m,s.hi⟩ else⟨s.lo,m⟩
def mu(s:SR)(m:NR)(u:Bool)(w):Zc 148 #[.agg #[.bool s.lo.neg,.string s.lo.Va,.int .i64 s.lo.e,.bool s.hi.neg,.string s.hi.Va,.int .i64 s.hi.e,.bool m.neg,.string m.Va,.int .i64 m.e],.bool u] w (.agg (s.half m u).cells.toArray):=by
 have I:=Hp.start w
 cases u with
 |true=>
  refine Ca (l:=[.agg #[.bool s.lo.neg,.string s.lo.Va,.int .i64 s.lo.e,.bool s.hi.neg,.string s.hi.Va,.int .i64 s.hi.e,.bool m.neg,.string m.Va,.int .i64 m.e],.bool true]) func148 ?_;exact adF
 |false=>
  refine Ca (l:=[.agg #[.bool s.lo.neg,.string s.lo.Va,.int .i64 s.lo.e,.bool s.hi.neg,.string s.hi.Va,.int .i64 s.hi.e,.bool m.neg,.string m.Va,.int .i64 m.e],.bool false]) func148 ?_;exact adF
def Cu(L)(n c a:Nat)(b)(s:SR)(w)(J:Sl w L n 6 (ia SR.cells b))(B:n<=1000000)(M:a<n):Calls prog 147 #[.slice L n c,.int .i64 a,.agg s.cells.toArray] w λr V=>∃A c',r=.returned (.slice A n c')/\V.ownsRow w.heap.size 36 6 (.slice A n c') n (ia SR.cells (b.set a s))/\Below w.heap.size w V:=by
 refine XL ?_;intro I m;have d:=Wd SR.len b;refine Ca func147 ?_;refine Bb ?_;intro R v I;refine qG ?_;intro z G I;refine fa ?_;refine tK I (i:=0) (o:=0) rfl rfl rfl (J.ext I.below) Qa.out pa.out (by rw[Ni,Nat.min_self];show 0+n*6<=n*6;omega) (Ia SR.one _) V' ?_;intro f I;skip;have N:∀xs:List Value,xs.length=n*6->db xs 0 ((ia SR.cells b).take (min n n*6))=ia SR.cells b:=λxs C=>(by rw[Nat.min_self,w' Z',db,Y8,F',P8 Z',M_]);rw[j',N _ (by rw[Ni];rfl)] at I;refine fa ?_;refine Xa I (i:=0) (vs:=[_,_,_,_,_,_]) rfl rfl (Hd rfl) rfl pa.out rfl Z' rfl ?_;intro ws I;simp only[j'] at I;rw[show db (ia SR.cells b) (a*6) [.bool s.lo.neg,.string s.lo.Va,.int .i64 s.lo.e,.bool s.hi.neg,.string s.hi.Va,.int .i64 s.hi.e]=ia SR.cells (b.set a s) from Jd SR.len Z'] at I;exact jE
def yh(k:Int)(i:Nat):Bool:=decide (0<k) && (decide (i<62) && decide (k.fdiv (2^i) % 2=1))
def Qv(i:Nat)(s:SR)(p:Addr)(k:Int)(w:World)(hi:i<=1000000)(hp:w.cell? p=some (.int .i64 k)):Zc 86 #[.int .i64 i,.agg s.cells.toArray,.pointer (some p)] w (.agg #[.bool (cond (yh k i) s.hi s.lo).neg,.string (cond (yh k i) s.hi s.lo).Va,.int .i64 (cond (yh k i) s.hi s.lo).e]):=by
 have I:=Hp.start w;have Y:min (i:Int).toNat IntKind.i64.bits=min i 64:=rfl;unfold yh;by_cases J:0<k
 .rw[m' J,L7];by_cases h1:i<62
  .rw[m' h1,L7];have K:min (i:Int).toNat IntKind.i64.bits=i:=by rw[Y];omega
   by_cases g:k.fdiv (2^i) % 2=1
   .rw[m' g];refine CZ ?_;intro D y I R v I;refine VI ?_;intro ws I;exact⟨rfl,I.below⟩
   rw[k' g];refine CZ ?_;intro D y I R v I;refine VI ?_;intro ws I;exact⟨rfl,I.below⟩
  rw[k' h1,Y6];refine Ca func86 ?_;exact abM
 rw[k' J,Y6];refine Ca func86 ?_;exact abM
def ep(L)(n c:Nat)(b)(k:Int)(w)(S:Gc w)(J:Sl w L n 6 (ia SR.cells b))(F:∀s∈b,s.ok)(B:n<=1000000):Calls prog 30 #[.slice L n c,.int .i64 k] w λr V=>∃A c',r=.returned (.slice A n c')/\V.ownsRow w.heap.size 30 3 (.slice A n c') n (ia NR.cells (b.mapIdx λi s=>cond (yh k i) s.f.hi s.f.lo))/\Below w.heap.size w V:=by
 have I:=Hp.start w;refine Ca func30 ?_;refine Bb ?_;intro j p I;refine Bu ?_;refine lW I (Fm L n c b 86 [.pointer (some ⟨j,0,none⟩)] (λi s=>cond (yh k i) s.f.hi s.f.lo) _ (S.hp I) (J.ext I.below) F B (λi s Z hi _ a _=>Qv i s.f ⟨j,0,none⟩ k Z Z' ((a.cell (Wl (I.se (i:=0) rfl rfl))).trans (I.se (i:=0) rfl rfl)))) rfl ?_;intro d H e I;exact jE
def oC(L)(n c:Nat)(b)(a:Nat)(s:SR)(k:Nat)(w)(S:Gc w)(J:Sl w L n 6 (ia SR.cells b))(F:∀s∈b,s.fin k)(o:n<=1000000)(u:k<=3000000)(K:b[a]?=some s):Calls prog 77 #[.slice L n c,.int .i64 a] w λr V=>∃A X B Y,r=.returned (.tuple #[.slice A n X,.slice B n Y,.int .i64 0])/\Hp w [.row B n Y 36 6 (ia SR.cells ((b.map SR.f).set a (s.f.half (nR s.f.lj) true))),.row A n X 36 6 (ia SR.cells ((b.map SR.f).set a (s.f.half (nR s.f.lj) false)))] V:=by
 have I:=Hp.start w;have R:=J.sa SR.len V';have E:a<n:=by have:=(x'.1 K).1;omega
 have d:(b.map SR.f)[a]?=some s.f:=by rw[z',K];rfl
 have j:=λZ P=>du s.f k Z P (SR.Im (F s (N' K)) u) u;refine Ca func77 ?_;refine fa ?_;refine cr I (Wj L n c b _ (S.hp I) (J.ext I.below) (λs h=>⟨(F s h).1.ok,(F s h).2.ok⟩) o) ?_;intro t m w17 I;obtain⟨y,rfl⟩:=I.kb (i:=0) rfl Z';refine fa ?_;refine ud 11 I ?_;refine Xr (a) ?_;refine Fj [_,_,_,_,_,_] (λ_ hj=>hj.hp.Wc (f:=SR.cells) (x:=s.f) (l:=b.map SR.f) (i:=0) rfl SR.len V' d) ?_;refine wb ?_;refine Xr (a) ?_;refine Fj [_,_,_,_,_,_] (λ_ hj=>hj.hp.Wc (f:=SR.cells) (x:=s.f) (l:=b.map SR.f) (i:=0) rfl SR.len V' d) ?_;refine dC (λ_ hj=>j _ (S.hp hj.hp)) ?_;refine wb ?_;refine Ja (i:=10) (Ob _ 180 _) Ob.ext (λU Z hj hR=>Pg pa.out hj.bl (λv w2 h F=>⟨F,h⟩)) ?_;refine Fa ?_;intro f W Q e;obtain⟨v7,v27,v26,v25,v24,v23,v22,v21,v20,v19,v18,_⟩:=e;obtain⟨b7,M,g,D⟩:Ob _ _ _ (f 10) W:=v7;replace I:=Q.newVar I g D;refine lg ?_;refine Bb ?_;intro ws I;refine ud 9 I ?_;refine dC (λ_ hj=>mu s.f (nR s.f.lj) false _) ?_;refine Ja (i:=4) (Iu ws.heap.size 36 n 6 (ia SR.cells ((b.map SR.f).set a (s.f.half (nR s.f.lj) false)))) (Iu.ext) ?_ ?_
 .intro U Z hj hR;exact ib rfl (La fi (qa hR.1 (qa hR.2.1 (qa hR.2.2.1 Wa)))) (Cu (some ⟨y,0,none⟩) n m a (b.map SR.f) _ Z (hj.hp.ma (i:=1) rfl) o E) (λ_ _ ⟨A,c,hq,T,F⟩=>⟨_,hq,F,A,c,rfl,El T hj.bl.size⟩)
 refine wb ?_;refine dC (λ_ hj=>mu s.f (nR s.f.lj) true _) ?_;refine Fa ?_;intro f W Q e;obtain⟨v36,v35,v34,v33,q,v31,v30,v29,v28,_⟩:=e;obtain⟨z,G,p,N⟩:Iu _ _ _ _ _ (f 4) W:=q;replace I:=JJ.XI I Q.hp N;refine lg ?_;refine cr I (Cu (some ⟨y,0,none⟩) n m a (b.map SR.f) _ _ (I.ma (i:=2) rfl) o E) ?_;intro C H w37 I;refine aL (aL (aI (na (Gj ?_))));replace I:=I.sub (O' _ (O' _ (G' _ (G' _ Z_))));refine qa3 ?_;exact⟨_,_,_,_,rfl,I⟩
def Oo(D:List Nat)(X:List Dyadic):FX:=⟨none,D.length,0,none,X.length,0,Ha D,X.map nR⟩
structure CV where
 b:List SR
 D:List Nat
 X:List Dyadic
 Y:List Dyadic
def CV.f(c:CV):FX:=Oo c.D c.X
def CV.g(c:CV):FX:=Oo c.D c.Y
def CV.half(c:CV)(a:Nat)(s:SR)(u:Bool):CV:=⟨(c.b.map SR.f).set a (s.f.half (nR s.f.lj) u),c.D,aaV u (ti (-1)) c.D a c.X,aaV u (ti (-1)) c.D a c.Y⟩
structure CV.ok(c:CV):Prop where
 bx:∀s∈c.b,s.fin 1000
 yW:c.b.length<=20
 d12:c.D.length<=12
 d127:∀d∈c.D,d<=127
 nK:ea c.D<=200
 lx:c.X.length=ea c.D
 ly:c.Y.length=ea c.D
 zx:∀x∈c.X,Sz 90000 x
 zy:∀x∈c.Y,Sz 90000 x
 up:qb [c.f,c.g]=0->(∀x∈gi (maxD [c.f,c.g]) c.f,Sz 250000 x)/\∀x∈gi (maxD [c.f,c.g]) c.g,Sz 250000 x
structure CX where
 Tf:Option Addr
 n:Nat
 c:Nat
 f:FX
 g:FX
 v:CV
def CX.cells(x:CX):List Value:=[.slice x.Tf x.n x.c,.slice x.f.A x.f.n x.f.a,.slice x.f.B x.f.m x.f.b,.slice x.g.A x.g.n x.g.a,.slice x.g.B x.g.m x.g.b]
def CX.rows(x:CX):List HE:=[.row x.Tf x.n x.c 36 6 (ia SR.cells x.v.b),x.f.gg,x.f.Kf,x.g.gg,x.g.Kf]
structure FX.is(f:FX)(D:List Nat)(X:List Dyadic):Prop where
 ds:f.ds=Ha D
 cs:f.cs=X.map nR
structure CX.fit(x:CX):Prop where
 f:x.f.is x.v.D x.v.X
 g:x.g.is x.v.D x.v.Y
structure FX.held(f:FX)(w:World):Prop where
 at_:f.at_ w
 cap:f.n<=f.a
structure CX.at_(x:CX)(w:World):Prop where
 b:Sl w x.Tf x.n 6 (ia SR.cells x.v.b)
 f:x.f.held w
 g:x.g.held w
def FX.is.key{f:FX}{D:List Nat}{X:List Dyadic}(h:f.is D X)(M:f.at_ w):f.n=D.length/\f.m=X.length:=by
 obtain⟨h1,h2⟩:=M.ln;rw[h.ds,Ub] at h1;rw[h.cs,D'] at h2;exact⟨h1.symm,h2.symm⟩
def FX.is.e{f:FX}{D:List Nat}{X:List Dyadic}(h:f.is D X)(m:D.length<=12)(g:∀d∈D,d<=127)(C:X.length=ea D)(E:ea D<=4096):f.e=0:=by
 unfold FX.e;rw[h.ds,h.cs];exact(FV.mk rfl rfl m g C E:FV (Ha D) (X.map nR) D X).ok
def FX.is.Ug{f:FX}{D:List Nat}{X:List Dyadic}(h:f.is D X)(M:f.at_ w)(m:D.length<=12)(C:X.length=ea D)(E:ea D<=4096)(o:∀x∈X,Sz k x)(u:k<=3000000):f.Ug k:=by
 obtain⟨h1,h2⟩:=h.key M;refine⟨Z',Z',λc E=> ?_⟩;rw[h.cs] at E;obtain⟨d,T,rfl⟩:=B'.1 E;rw[Ga];exact⟨(o d T).ok Z',o d T⟩
def mulM(a b:ByteArray):ByteArray:=str (mulL a.data.toList b.data.toList).1
def kn(a b:ByteArray):Int:=(mulL a.data.toList b.data.toList).2
def Zs(x y:TR):TR:=⟨mulM x.m y.m,nR (x.c.da*y.c.da)⟩
variable {p:List TR}
def Jb(p q:List TR):List TR:=p.flatMap λx=>q.map (Zs x)
def Qt(p q:List TR):List Int:=p.flatMap λx=>q.map λy=>kn x.m y.m
def Ef(p q:List TR):Int:=if 65536<p.length*q.length then 3 else match(Qt p q).find? λe=>decide (e≠0) with|some e=>e|none=>if 4096<(oa (Jb p q)).length then 3 else 0
def uE{α β:Type}{f:α->List β}{k:Nat}:∀{l:List α},(∀x∈l,(f x).length=k)->(l.flatMap f).length=l.length*k
 |[],_=>by simp
 |x::l,h=>(by rw[l8,y',h x I',uE λy hy=>h y (L' _ hy),T_,H9,O8])
def ij(p q):(Jb p q).length=p.length*q.length:=uE λx _=>D' _
def qs{a:Type}{f:α->β->a}{p:List α}{q:List β}{i:Nat}{x:α}(C:p[i]?=some x):((p.take (i+1)).flatMap λx=>q.map (f x))=((p.take i).flatMap λx=>q.map (f x))++(q.take q.length).map (f x):=by
 rw[ja C,c8,w' (E' _)];simp
def MH{a:Type}{f:α->β->a}{p:List α}{q:List β}{i:Nat}{x:α}{y:β}(C:p[i]?=some x)(hy:q[j]?=some y):
  ∃R,(p.flatMap λx=>q.map (f x))=(((p.take i).flatMap λx=>q.map (f x))++(q.take j).map (f x))++f x y::R:=by
 refine⟨(q.drop (j+1)).map (f x)++(p.drop (i+1)).flatMap λx=>q.map (f x), ?_⟩;have N:p=p.take i++x::p.drop (i+1):=by rw[<-de C,q_]
 have L:q=q.take j++y::q.drop (j+1):=by rw[<-de hy,q_]
 have X:q.map (f x)=(q.take j).map (f x)++f x y::(q.drop (j+1)).map (f x):=(by rw[<-I_,<-G_,<-L])
 calc (p.flatMap λx=>q.map (f x))=(p.take i++x::p.drop (i+1)).flatMap λx=>q.map (f x):=by rw[<-N]
  _=_:=by rw[c8,l8,X];simp
def Nq{q:List TR}(hp:ug k p)(R:ug j q)(h:k+j<=1000000):ug (k+j) (Jb p q):=λt S=>by
 obtain⟨x,C,S⟩:=E8.1 S;obtain⟨y,hy,rfl⟩:=B'.1 S;have K:=(hp x C).2.mul (R y hy).2;exact⟨K.ok Z',by show Sz _ (nR _).da;rw[Ga];exact K⟩
def ZN(a b):(mulM a b).size<=b.size:=by
 unfold mulM;rw[yg];unfold mulL;split
 .rename_i l Q;have:=(GA Q).2.2;have z:l.length<=b.data.toList.length:=by rw[this.2,R7,Oc,Oc];omega
  have P:(YU l).length<=l.length:=by unfold YU;split<;>simp
  rw[Hc];exact d' P z
 exact J' _
def sI(c)(f:ByteArray->Dyadic)(l:List TR):wS (λm=>c*f m) l=c*wS f l:=by
 induction l with
 |nil=>exact(N6 _).symm
 |cons t l W=>rw[wS,wS,W];grind
def HQ(f:ByteArray->Dyadic)(x)(q:List TR):wS f (q.map (Zs x))=x.c.da*wS (λb=>f (mulM x.m b)) q:=by
 induction q with
 |nil=>exact(N6 _).symm
 |cons t q W=>
  rw[I_,wS,W,wS];show(nR _).da*f (mulM x.m t.m)+_=_;rw[Ga];grind
def AF(f:ByteArray->Dyadic)(q):∀p:List TR,wS f (Jb p q)=wS (λa=>wS (λb=>f (mulM a b)) q) p
 |[]=>rfl
 |t::p=>(by show wS f (q.map (Zs t)++Jb p q)=_;rw[Xn,HQ,AF f q p,wS])
def vp(c:Dyadic)(t:TR):TR:=⟨t.m,nR (t.c.da*c)⟩
variable {ts:List TR}
def Gb{v:Int}(h:vf v ts=0):Tg v=true/\ts.length<=4096/\(∀t∈ts,Qd v t=true)/\Canon ts:=by
 unfold vf at h
 cases Y:Tg v with
 |false=>rw[Y,P' rfl] at h;omega
 |true=>
  rw[Q' (by rw[Y];decide)] at h;by_cases z:4096<ts.length
  .rw[P' z] at h;omega
  rw[Q' z] at h;by_cases W:okB v ts=true
  .unfold okB at W;rw[l'] at W;have s:∀t∈ts,Vo v t=true:=L_.1 W.1;refine⟨rfl,Z',λt S=> ?_,Gr.1 W.2,λt S=> ?_,λt S=> ?_⟩
   .exact(j9.1 (s t S)).1
   .exact oJ (j9.1 (j9.1 (s t S)).2).1
   exact((jv _).1 (j9.1 (j9.1 (s t S)).2).2).symm
  rw[Q' W] at h;omega
def TK{v:Int}(Y:Tg v=true)(z:ts.length<=4096)(hm:∀t∈ts,Qd v t=true)(E:Canon ts):vf v ts=0:=by
 unfold vf;rw[Q' (by rw[Y];decide),Q' Z',P'];unfold okB;rw[l'];refine⟨L_.2 λt S=> ?_,Gr.2 E.au⟩;show(Qd v t && (Ap t && nfB t.c))=true;rw[hm t S,(jv _).2 (E.nf t S).symm];unfold Ap;rw[k' (E.nz t S)];rfl
def aaq{v:Int}{s t:TR}(h:s.m=t.m)(K:Qd v s=true):Qd v t=true:=by unfold Qd at K |-;rwa[<-h]
def Pl{v:Int}{l:List TR}(h:∀t∈l,Qd v t=true):∀t∈oa l,Qd v t=true:=λt S=>by
 obtain⟨s,K,e⟩:=Ci t S;exact aaq e (h s K)
def Ce{v:Int}{l:List TR}(Y:Tg v=true)(z:(oa l).length<=4096)(hm:∀t∈l,Qd v t=true):vf v (oa l)=0:=TK Y z (Pl hm) (tf l)
def xS{v:Int}{x y:TR}(C:Qd v x=true)(h:kn x.m y.m=0):Qd v (Zs x y)=true:=by
 unfold Qd at C |-;rw[l',h'] at C;obtain⟨_,_,G,z,P⟩:=Pn h;rw[l',h'];have L:=Y_ List.length P;rw[Oc,R7,Oc,Oc,G,Nat.min_self] at L;refine⟨?_, ?_⟩
 .show ke (mulM x.m y.m).data.toList=true;unfold mulM;rw[vc];exact z
 show((mulM x.m y.m).size:Int)=v;unfold mulM;rw[yg,L,<-Hc];exact C.2
def Qn{v:Int}{q:List TR}(hp:∀t∈p,Qd v t=true)(h:∀e∈Qt p q,e=0):∀t∈Jb p q,Qd v t=true:=λt S=>by
 obtain⟨x,C,S⟩:=E8.1 S;obtain⟨y,hy,rfl⟩:=B'.1 S;exact xS (hp x C) (h _ (E8.2 ⟨x,C,B'.2 ⟨y,hy,rfl⟩⟩))
def Uj{q:List TR}(h:Ef p q=0):p.length*q.length<=65536/\(∀e∈Qt p q,e=0)/\(oa (Jb p q)).length<=4096:=by
 unfold Ef at h;by_cases L:65536<p.length*q.length
 .rw[P' L] at h;omega
 rw[Q' L] at h;split at h
 .rename_i e he;have:=K6 he;rw[h'] at this;exact absurd h this
 rename_i he;refine⟨Z',λe hm=> ?_, ?_⟩
 .have:=a8.1 he e hm;simpa using this
 by_cases z:4096<(oa (Jb p q)).length
 .rw[P' z] at h;omega
 omega
def Uf(X:List PX):Int:=(X.map PX.v).headD 0
def IG(X:List PX):List TR:=X.flatMap PX.ts
def cU(X:List PX):Int:=if Qf X=0 then Bf (IG X) else Qf X
def XC{X:List PX}(h:Qf X=0):X≠[]/\(∀g∈X,g.e=0)/\∀g∈X,g.v=Uf X:=by
 unfold Qf at h;exact acW
def dD{α β:Type}{f:α->List β}{B:Nat}:∀{l:List α},(∀x∈l,(f x).length<=B)->(l.flatMap f).length<=l.length*B
 |[],_=>by simp
 |x::l,h=>(by rw[l8,y',T_,H9];have h1:=h x I';have h2:=dD λy hy=>h y (L' _ hy);omega)
def PN{f:α->List β}{l:List α}{i:Nat}{x:α}(h:l[i]?=some x):(l.take (i+1)).flatMap f=(l.take i).flatMap f++f x:=by
 rw[ja h,c8];simp
def mH{l k:List TR}(h:oa l=oa k):Bf l=Bf k:=by unfold Bf;rw[h]
def Tk{X:List PX}{g:PX}(h:X[0]?=some g):Uf X=g.v:=by
 obtain _|⟨f,l⟩:=X
 .cases h
 have:f=g:=by simpa using h
 rw[<-this];rfl
def nx(L)(n c:Nat)(X)(k:Nat)(w)(S:Gc w)(q:Sl w L n 2 (ia PX.cells X))(hn:n<=100)(Y:∀g∈X,g.at_ w)(Q:∀g∈X,g.Ug k)(hk:k<=2999000):Calls prog 70 #[.slice L n c] w λr V=>∃g:PX,Gf (cU X) (Uf X) (oa (IG X)) g/\r=.returned (.tuple #[g.V,.int .i64 (cU X)])/\Hp w [g.row] V:=by
 have I:=Hp.start w;have hln:=q.sa PX.len V';have j:=λZ P G=>vu L n c X k Z P (q.ext G) Z' (λg s=>(Y g s).ext G) Q;unfold cU;by_cases J:Qf X=0
 .rw[P' J];rw[J] at j;obtain⟨E,Qk,hvv⟩:=XC J;have p:=List.length_pos_iff.2 E;obtain⟨g0,N⟩:=aa (l:=X) (k:=0) p;rw[Tk N];have hfl:(IG X).length<=X.length*4096:=dD λg s=>(Gb (Qk g s)).2.1;obtain⟨ad,rfl,H⟩:=q.at_ Z';refine Ca (l:=[.slice (some ad) n c]) func70 ?_;refine Bb ?_;intro F w2 I;refine cd I (j _ (S.hp I) I.below) ?_;intro w9 I;refine fa ?_;replace I:=I.rb 72 4;refine Fi 5 16 (λa x V=>∃(i:Nat)(M:List TR)(T:Option Addr)(c':Nat),i<=n/\x=.int .i64 i/\a=.slice T M.length c'/\MD (k+i) ((X.take i).flatMap PX.ts) M/\Hp w [.row T M.length c' 72 4 (ia TR.cells M),.blk F 24 [.int .i64 0,.slice none 0 0] (0,0)] V) (λ_ x _=>n-(intOf x).toNat) ?_ ?_
  .exact⟨0,[],none,0,J' _,rfl,rfl,MD.self I6 (λt ht=>nomatch ht),I⟩
  clear I;rintro ρ' a_ x_ V ⟨i,M,T,c',hi,rfl,rfl,d,I⟩;have y:((X.take i).flatMap PX.ts).length<=i*4096:=(by have:=dD (f:=PX.ts) (B:=4096) (l:=X.take i) λg s=>(Gb (Qk g (x9 s))).2.1;rwa[p',P9 Z'] at this);have u:=d.len;by_cases hlt:i<n
  .obtain⟨g,D⟩:=aa (l:=X) (k:=i) Z';have b:=N' D;have h:=Q g b;have m:=Gb (Qk g b);have z:=h.cap;have C:=h.n;refine fa ?_;refine sv (Ka (vs:=[_,_]) pa.out rfl ((H.ext I.below).recAt PX.len D) rfl) ?_;refine yb ?_;intro b7 w7 I ws I;refine te (Mr T M.length c' M g.A g.n g.c g.ts (k+i) _ (S.hp I) (I.ma (i:=1) rfl) ((Y g b).ext I.below) (I.me (i:=1) rfl) z Z' C Z' d.au m.2.2.2.au d.ok (h.ok.mono Z')) rfl ?_;rintro e_ w23 ⟨L2,R,c2,K,rfl,h3⟩;refine⟨_,rfl, ?_⟩;refine RT ?_;intro I;refine fa ?_;replace I:=I.sub (O' _ (G' _ (G' _ (O' _ Z_))));refine⟨⟨i+1,L2,R,c2,Z',rfl,rfl, ?_,I⟩,by show n-(i+1)<n-i;omega, ?_⟩
   .rw[PN D];exact d.mU (MD.self m.2.2.2.au (h.ok.mono Z':ug (k+i) g.ts)) K Z'
   exact Wb
  obtain rfl:i=n:=Z';rw[w' Z'] at d y u;have o:oa M=oa (IG X):=uB d.co;have W:=mH o;refine fa ?_;refine sv (Ba pa.out rfl (Kb I.below ((H.recAt PX.len N) 0 _ rfl))) ?_;refine mL ?_;refine te (Xj _ T M.length c' M (k+i) _ S I rfl Z' Z' d.ok) rfl ?_;rintro e_ w30 ⟨g,og,rfl,I⟩;refine⟨_,rfl, ?_⟩;refine LO ?_;intro ws I;rw[<-W,<-o];exact yR
 rw[Q' J];generalize Qf X=e at*;refine Ca func70 ?_;refine Bb ?_;intro F w2 I;refine cd I (j _ (S.hp I) I.below) ?_;intro w9 I;refine CR ?_;exact abY
def im(s:ByteArray)(i:Nat):Int:=match s.data.toList[i]? with|some c=>c.toNat|none=>0
variable {m:Nat}
def UF(l:List TR)(i:Nat):Int:=l.foldl (λm t=>max m (im t.m i)) 0
def vm(m:Nat)(l:List TR):List Int:=(List.range m).map (UF l)
def Jy(v:Int)(ts:List TR):List Int:=if vf v ts=0 then vm v.toNat ts else[]
def Mf(m:Nat)(l):(vm m l).length=m:=by unfold vm;rw[D',V9]
def vv(l)(h:j<m):(vm m l)[j]?=some (UF l j):=by
 unfold vm;rw[z',f_ h];rfl
def sw(l:List TR)(t:TR)(i:Nat):UF (l++[t]) i=max (UF l i) (im t.m i):=by unfold UF;rw[p8];rfl
def iQ{s:ByteArray}{i:Nat}{c:UInt8}(h:s.data.toList[i]?=some c):im s i=c.toNat:=by unfold im;rw[h]
def qW{A B:List α}{y:α}(h:A.length=B.length)(hy:B[j]?=some y):(B.take j++A.drop j).set j y=B.take (j+1)++A.drop (j+1):=by
 have hj:=(x'.1 hy).1;have Q:(B.take j).length=j:=by rw[p'];omega
 obtain⟨x,C⟩:=aa (l:=A) (k:=j) Z';rw[de C,ja hy,F8 _ _ Z',Q,u_];simp
def pX{A B:List α}{x:α}(h:A.length=B.length)(C:A[j]?=some x):(B.take j++A.drop j)[j]?=some x:=by
 have hj:=(x'.1 C).1;have Q:(B.take j).length=j:=by rw[p'];omega
 exact abb
def uT(m:Nat):Bg m [.int .i64 0]=Pa (vm m []):=by
 have h1:∀n,Bg n [.int .i64 0]=Pa (List.replicate n 0):=λn=>by
  induction n with
  |zero=>rfl
  |succ n W=>rw[Bg,W,S7];rfl
 rw[h1];congr 1;apply g_;intro i;by_cases h:i<m
 .rw[vv [] h,X5,P' h];rfl
 rw[K_ (by rw[Q9];omega),K_ (by rw[Mf];omega)]
def Rt(p:PX)(k:Nat)(w:World)(S:Gc w)(hp:p.at_ w)(D:p.Ug k):Calls prog 161 #[.agg #[.int .i64 p.v,.slice p.A p.n p.c]] w λr V=>∃A c,r=.returned (.slice A (Jy p.v p.ts).length c)/\Hp w [.row A (Jy p.v p.ts).length c 3 1 (Pa (Jy p.v p.ts))] V:=by
 have I:=Hp.start w;have K:=λZ P hb=>Zj p k Z P (hp.ext hb) D;by_cases J:p.e=0
 .rw[show Jy p.v p.ts=vm p.v.toNat p.ts from P' J,Mf];rw[J] at K;obtain⟨Y,h4,L,_⟩:=Gb J;have s:p.ts.length=p.n:=hp.ln;obtain⟨pv,H,E,R,ts⟩:=p;replace Y:=Xe.1 Y;replace L:∀t∈ts,Qd pv t=true:=L;replace hp:Sl w H E 4 (ia TR.cells ts):=hp;have q:∀t∈ts,t.m.size<=100000:=D.sz;have hn:=D.n;replace hn:E<=1000000:=hn;replace s:ts.length=E:=s;obtain⟨m,rfl⟩:∃m:Nat,pv=(m:Int):=⟨pv.toNat,by show pv=_;have:0<=pv:=Y.1;omega⟩;replace Y:m<=12:=by have h9:(m:Int)<=12:=Y.2;omega
  show Calls _ _ _ _ λr V=>∃A c,r=.returned (.slice A m c)/\Hp w [.row A m c 3 1 (Pa (vm m ts))] V;refine Ca (l:=[.agg #[.int .i64 m,.slice H E R]]) func161 ?_;refine Bb ?_;intro G Z I;refine cd I (K _ (S.hp I) I.below) ?_;intro w9 I;refine fa ?_;refine Ee (n:=m) I rfl rfl Z' Z' Qa.out pa.out rfl Z' Z' V' ?_;intro Q w13 I;refine fa ?_;rw[uT] at I;refine bf 17 (λv V=>∃i:Nat,i<=E/\v=.int .i64 i/\Hp w [.row (some ⟨Q,0,none⟩) m m 3 1 (Pa (vm m (ts.take i))),.blk G 24 [.int .i64 m,.slice H E R] (0,0)] V) (λv _=>E-(intOf v).toNat) ?_ ?_
  .exact⟨0,J' _,rfl,I⟩
  clear I;rintro ρ' v V ⟨i,hi,rfl,I⟩;by_cases hlt:i<E
  .obtain⟨x,C⟩:=aa (l:=ts) (k:=i) Z';obtain⟨ad,rfl,hr⟩:=hp.at_ Z';have F:=N' C;have B:=q x F;have W:=j9.1 (L x F);have X:x.m.size=m:=by have:=O9 W.2;omega
   have z:x.m.data.toList.length=m:=by rw[<-Hc];exact X
   have hex:Si x.m.data.toList=ints x.m.data.toList:=Ek W.1;have d:(Si x.m.data.toList).length=m:=by rw[hex,Oc];exact z
   have N:(vm m (ts.take i)).length=(vm m (ts.take (i+1))).length:=by rw[Mf,Mf]
   refine VJ ?_;refine yb ?_;intro b5 w5 I ws I;refine cr I (yi x.m _ B) ?_;intro h b w23 I;rw[d] at I |-;refine fa ?_;refine bf 25 (λv V=>∃j:Nat,j<=m/\v=.int .i64 j/\Hp w [.row h m b 3 1 (Pa (Si x.m.data.toList)),.blk b5 72 [.string x.m,.bool x.c.neg,.string x.c.Va,.int .i64 x.c.e] (0,0),.row (some ⟨Q,0,none⟩) m m 3 1 (Pa ((vm m (ts.take (i+1))).take j++(vm m (ts.take i)).drop j)),.blk G 24 [.int .i64 m,.slice (some ad) E R] (0,0)] V) (λv _=>m-(intOf v).toNat) ?_ ?_
   .exact⟨0,J' _,rfl,I⟩
   clear I;rintro ρ2 v w2 ⟨j,hj,rfl,I⟩;by_cases f:j<m
   .obtain⟨e,he⟩:=aa (l:=x.m.data.toList) (k:=j) Z';have T:(Si x.m.data.toList)[j]?=some (e.toNat:Int):=by rw[hex];exact XX he
    have ho:=pX N (vv (ts.take i) f);have a:=qW N (vv (ts.take (i+1)) f);have u:UF (ts.take (i+1)) j=max (UF (ts.take i) j) (e.toNat:Int):=by rw[ja C,sw,iQ he]
    rw[u] at a;have o:((vm m (ts.take (i+1))).take j++(vm m (ts.take i)).drop j).length=m:=by rw[y',p',j_,Mf,Mf];omega
    generalize (vm m (ts.take (i+1))).take j++(vm m (ts.take i)).drop j=M at*;have hee2:=Ic T;have ho2:=Ic ho;have hll:(Pa M).length=m:=by rw[Cb];exact o
    obtain⟨g,rfl⟩:=I.kb (i:=0) rfl Z';refine fa ?_;refine eG ?_;refine wM ?_;have y:(if(e.toNat:Int)>UF (ts.take i) j then(e.toNat:Int) else UF (ts.take i) j)=max (UF (ts.take i) j) (e.toNat:Int):=by split<;>omega
    refine Xa I (i:=2) (vs:=[_]) rfl rfl (Xb rfl) rfl pa.out rfl Z' rfl ?_;refine Nr ?_;intro ws I;rw[y,Tj _ (by rw[<-Cb];omega),a] at I;refine fa ?_;refine⟨⟨j+1,Z',rfl,I⟩,by show m-(j+1)<m-j;omega, ?_⟩;exact Wb
   obtain rfl:j=m:=Z';rw[w' (by rw[Mf];omega),P8 (by rw[Mf];omega),M_] at I;refine fa ?_;replace I:=I.sub (G' _ (G' _ (O' _ (O' _ Z_))));refine⟨⟨i+1,Z',rfl,I⟩,by show E-(i+1)<E-i;omega, ?_⟩;exact Wb
  obtain rfl:i=E:=Z';rw[w' Z'] at I;refine fa ?_;exact⟨_,_,rfl,I.sub (O' _ (m_ _))⟩
 rw[show Jy p.v p.ts=[] from Q' J];refine Ca func161 ?_;refine Bb ?_;intro G Z I;refine cd I (K _ (S.hp I) I.below) ?_;intro w9 I;refine fa ?_;exact⟨none,0,rfl,(I.sub (m_ _)).rb 3 1⟩
def dw(dg ds:List Int):Bool:=(dg.zip ds).any λq=>decide (q.2<q.1\/127<q.2)
def Il(p:PX)(b:List SR)(ds:List Int):Int:=
 if p.e≠0 then p.e else if Ok b≠0 then Ok b else if(b.length:Int)≠p.v\/(ds.length:Int)≠p.v then 1 else if dw (Jy p.v p.ts) ds=true then 1 else if Ng 1 ds=0 then 3 else 0
def dK{a:List α}{b:List β}{i:Nat}{x:α}{y:β}(C:a[i]?=some x)(hy:b[i]?=some y):(a.zip b)[i]?=some (x,y):=by
 rw[T7];exact⟨C,hy⟩
def Ox(p:PX)(L)(n c:Nat)(b)(M)(m mc:Nat)(ds)(k:Nat)(w)(S:Gc w)(hp:p.at_ w)(lp:p.Ug k)(hB:Sl w L n 6 (ia SR.cells b))(F:∀s∈b,s.ok)(hn:n<=1000000)(E:Sl w M m 1 (Pa ds))(hm:m<=1000000):Zc 162 #[p.V,.slice L n c,.slice M m mc] w (.int .i64 (Il p b ds)):=by
 have I:=Hp.start w;have K:=λZ P F=>Zj p k Z P (hp.ext F) lp;have t:=λZ P J=>iC L n c b Z P (hB.ext J) F hn;have g:=λZ P F=>Rt p k Z P (hp.ext F) lp;have hbl:b.length=n:=hB.sa SR.len V';have hdl:ds.length=m:=by have:=E.1;rw[Cb] at this;omega
 unfold Il;by_cases T:p.e≠0
 .rw[P' T];generalize p.e=e at*;refine Ca func162 ?_;refine Bb ?_;intro j B I;refine cd I (K _ (S.hp I) I.below) ?_;intro W I;refine fa ?_;exact⟨rfl,I.below⟩
 rw[Q' T];have r:p.e=0:=Z';rw[r] at K;by_cases h1:Ok b≠0
 .rw[P' h1];generalize Ok b=e at*;exact abg
 rw[Q' h1];rw[show Ok b=0 by omega] at t;by_cases h2:(b.length:Int)≠p.v
 .rw[P' (.inl h2)];exact abg
 by_cases Y:(ds.length:Int)≠p.v
 .rw[P' (.inr Y)];exact abg
 rw[Q' (λh=>h.elim h2 Y)];have o:(Jy p.v p.ts).length=m:=(by unfold Jy;rw[P' (show vf p.v p.ts=0 from r),Mf];omega);have hzl:((Jy p.v p.ts).zip ds).length=m:=by rw[List.length_zip];omega
 have d:dw (Jy p.v p.ts) ds=((Jy p.v p.ts).zip ds).any λq=>decide (q.2<q.1\/127<q.2):=rfl;generalize Jy p.v p.ts=dg at*;rw[o] at g;refine gZ ?_;intro j B I W I D I;refine Wi (g _ (S.hp I) I.below) ?_;rintro e_ w34 ⟨G,gc,rfl,h4⟩;refine FE ?_;intro I;refine fa ?_;refine bf 36 (λv V=>∃i:Nat,i<=m/\v=.int .i64 i/\((dg.zip ds).take i).any (λq=>decide (q.2<q.1\/127<q.2))=false/\Hp w [.row G m gc 3 1 (Pa dg),.blk j 24 [.int .i64 p.v,.slice p.A p.n p.c] (0,0)] V) (λv _=>m-(intOf v).toNat) ?_ ?_
 .exact⟨0,J' _,rfl,rfl,I⟩
 clear I;rintro ρ' v V ⟨i,hi,rfl,X,I⟩;by_cases hlt:i<m
 .obtain⟨x,hx⟩:=aa (l:=dg) (k:=i) Z';obtain⟨y,hy⟩:=aa (l:=ds) (k:=i) Z';have Q:=dK hx hy;have hx2:=Ic hx;have a:=Ic hy;have hll:(Pa dg).length=m:=by rw[Cb];exact o
  obtain⟨ad,rfl,H⟩:=E.at_ Z';obtain⟨g0,rfl⟩:=I.kb (i:=0) rfl Z';by_cases u:y<x
  .refine fa ?_;refine pI ?_;refine vE ?_;refine fa ?_;rw[P' (by rw[d];exact W9.2 ⟨_,N' Q,m' (.inl u)⟩)];exact⟨rfl,I.below⟩
  by_cases z:127<y
  .refine fa ?_;refine pI ?_;refine vE ?_;refine fa ?_;refine vE ?_;refine fa ?_;rw[P' (by rw[d];exact W9.2 ⟨_,N' Q,m' (.inr z)⟩)];exact⟨rfl,I.below⟩
  refine fa ?_;refine pI ?_;refine vE ?_;refine fa ?_;refine vE ?_;refine fa ?_;refine⟨⟨i+1,Z',rfl,by rw[ja Q,B8,X,k8,O7,k' (λh=>h.elim u z)];rfl,I⟩,by show m-(i+1)<m-i;omega, ?_⟩;exact Wb
 rw[w' Z'] at X;rw[Q' (by rw[d,X];decide)];have f:=λZ F=>uf M m mc ds Z (E.ext F) hm;refine fa ?_;by_cases C:Ng 1 ds=0
 .rw[P' C];rw[C] at f;refine cd I (f _ I.below) ?_;intro R I;refine fa ?_;exact⟨rfl,I.below⟩
 rw[Q' C];generalize Ng 1 ds=N at*;refine cd I (f _ I.below) ?_;intro R I;refine fa ?_;exact⟨rfl,I.below⟩
def GQ{q:List TR}(h:65536<p.length*q.length):Ef p q=3:=by unfold Ef;rw[P' h]
def bV{q:List TR}{e:Int}(L:¬65536<p.length*q.length){a b:List Int}(h:Qt p q=a++e::b)(M:∀x∈a,x=0)(he:e≠0):Ef p q=e:=by
 unfold Ef;rw[Q' L,h,List.find?_append,zh (E9.2 λx C=>by simp[M x C]),V5 (p:=λe:Int=>decide (e≠0)) (by simpa using he)];rfl
def zD{q:List TR}(L:¬65536<p.length*q.length)(h:∀x∈Qt p q,x=0):Ef p q=Bf (Jb p q):=by
 unfold Ef Bf;rw[Q' L,zh (E9.2 λx C=>by simp[h x C])]
def xB(p q:PX)(k k2:Nat)(w:World)(hT:Gc w)(hp:p.at_ w)(hq:q.at_ w)(lp:p.Ug k)(lq:q.Ug k2)(hk:k+k2<=900000):Calls prog 322 #[.agg #[.int .i64 p.v,.slice p.A p.n p.c],.agg #[.int .i64 q.v,.slice q.A q.n q.c]] w λr V=>∃g:PX,Gf (Ef p.ts q.ts) p.v (oa (Jb p.ts q.ts)) g/\r=.returned (.tuple #[.agg #[.int .i64 g.v,.slice g.A g.n g.c],.int .i64 (Ef p.ts q.ts)])/\Hp w [g.row] V:=by
 have I:=Hp.start w;obtain⟨pv,pA,E,pc,X⟩:=p;obtain⟨qv,qA,J,qc,Q⟩:=q;have B:X.length=E:=hp.ln;have D:Q.length=J:=hq.ln;have hpn:E<=1000000:=lp.n;have hqn:J<=1000000:=lq.n;have Y:ug k X:=lp.ok;have okq:ug k2 Q:=lq.ok;have szp:∀t∈X,t.m.size<=100000:=lp.sz;have szq:∀t∈Q,t.m.size<=100000:=lq.sz;replace hp:Sl w pA E 4 (ia TR.cells X):=hp;replace hq:Sl w qA J 4 (ia TR.cells Q):=hq;clear lp lq;show Calls _ _ _ _ λr V=>∃g:PX,Gf (Ef X Q) pv (oa (Jb X Q)) g/\r=.returned (.tuple #[.agg #[.int .i64 g.v,.slice g.A g.n g.c],.int .i64 (Ef X Q)])/\Hp w [g.row] V;have hmm:E*J<=1000000*1000000:=G9 hpn hqn;obtain⟨m,hm⟩:∃m,m=E*J:=⟨_,rfl⟩;have hmi:(E:Int)*(J:Int)=(m:Int):=by rw[hm];exact(F9 _ _).symm
 by_cases h6:65536<m
 .rw[GQ (by rw[B,D,<-hm];exact h6)];refine Ca (l:=[.agg #[.int .i64 pv,.slice pA E pc],.agg #[.int .i64 qv,.slice qA J qc]]) func322 ?_;refine WU ?_;intro b2 w2 I b3 w3 I b4 w4 I ws I;exact tM
 have P:¬65536<X.length*Q.length:=by rw[B,D,<-hm];exact h6
 refine Ca (l:=[.agg #[.int .i64 pv,.slice pA E pc],.agg #[.int .i64 qv,.slice qA J qc]]) func322 ?_;refine Am ?_;intro b2 w2 I b3 w3 I b4 w4 I;replace I:=I.rb 72 4;have o:∀i,((X.take i).flatMap λx=>Q.map (Zs x)).length<=65536:=λi=>(by have h1:(Jb X Q).length=((X.take i).flatMap λx=>Q.map (Zs x)).length+((X.drop i).flatMap λx=>Q.map (Zs x)).length:=(by unfold Jb;rw[<-y',<-c8,q_]);rw[ij] at h1;omega);refine Fi 6 25 (λa x V=>∃(i:Nat)(M:List TR)(T:Option Addr)(c':Nat),i<=E/\x=.int .i64 i/\a=.slice T M.length c'/\M=((X.take i).flatMap λx=>Q.map (Zs x))/\(∀e∈((X.take i).flatMap λx=>Q.map λy=>kn x.m y.m),e=0)/\Hp w [.row T M.length c' 72 4 (ia TR.cells M),.blk b4 24 [.int .i64 0,.slice none 0 0] (0,0),.blk b3 24 [.int .i64 qv,.slice qA J qc] (0,0),.blk b2 24 [.int .i64 pv,.slice pA E pc] (0,0)] V) (λ_ x _=>E-(intOf x).toNat) ?_ ?_
 .exact⟨0,[],none,0,J' _,rfl,rfl,rfl,λe he=>(nomatch he),I⟩
 clear I;rintro ρ' a_ x_ V ⟨i,M,T,c',hi,rfl,rfl,s,hz,I⟩;have hMl:=o i;rw[<-s] at hMl;by_cases hlt:i<E
 .obtain⟨x,C⟩:=aa (l:=X) (k:=i) Z';obtain⟨ad,rfl,hr⟩:=hp.at_ Z';have H:=N' C;have K:=Y x H;have hxs:=szp x H;refine fa ?_;refine EP ?_;refine yb ?_;intro b8 w8 I ws I;replace I:=I.perm (W_ (l₁:=[_]));simp only[C',F'] at I;refine Fi 6 32 (λa z V=>∃(j:Nat)(N:List TR)(T:Option Addr)(c':Nat),j<=J/\z=.int .i64 j/\a=.slice T N.length c'/\N=M++(Q.take j).map (Zs x)/\(∀e∈(Q.take j).map (λy=>kn x.m y.m),e=0)/\Hp w [.row T N.length c' 72 4 (ia TR.cells N),.blk b8 72 [.string x.m,.bool x.c.neg,.string x.c.Va,.int .i64 x.c.e] (0,0),.blk b4 24 [.int .i64 0,.slice none 0 0] (0,0),.blk b3 24 [.int .i64 qv,.slice qA J qc] (0,0),.blk b2 24 [.int .i64 pv,.slice (some ad) E pc] (0,0)] V) (λ_ z _=>J-(intOf z).toNat) ?_ ?_
  .refine⟨0,M,T,c',J' _,rfl,rfl,by simp,λe he=>(nomatch he),I⟩
  clear I;rintro ρ2 a2 x2 w2 ⟨j,N,A2,c2,hj,rfl,rfl,hN,b,I⟩;by_cases hjn:j<J
  .obtain⟨y,hy⟩:=aa (l:=Q) (k:=j) Z';obtain⟨ad2,rfl,G⟩:=hq.at_ Z';have L:=N' hy;have S:=okq y L;have hys:=szq y L;have hmul:∀Z,Zc 326 #[.string x.m,.string y.m] Z (.tuple #[.string (mulM x.m y.m),.int .i64 (kn x.m y.m)]):=λZ=>CO x.m y.m Z hxs hys;have F:=λA cc Z hT1 hS1=>Td A 2 cc [x.c,y.c] Z hT1 hS1 (by simpa using⟨K.1,S.1⟩) (k+k2) (by simpa using⟨K.2.mono Z',S.2.mono Z'⟩) Z' V';rw[show Re ([x.c,y.c].map NR.da)=x.c.da*y.c.da by show 1*x.c.da*y.c.da=_;rw[x8]] at F;refine ad3 ?_;intro R hR hzz;have hNl:N.length<65536:=(by have h1:=o (i+1);rw[qs C,y',<-s] at h1;rw[hN,y'];simp at h1 |-;omega);by_cases he:kn x.m y.m=0
   .refine fa ?_;refine sv (Ka (vs:=[_,_,_,_]) pa.out rfl ((G.ext I.below).recAt TR.len hy) rfl) ?_;refine yb ?_;intro b10 w10 I ws I;refine cd I (hmul _) ?_;intro w41 I;refine fa ?_;refine jr ?_;intro b54 w54 I;refine cd I (F _ _ _ (hT.hp I) (I.ma (i:=0) rfl)) ?_;intro w55 I;refine fa ?_;refine vF ?_;intro b57 w57 I;refine oE ?_;intro A58 c58 w58 I;refine XO ?_;intro I;have e1:ia TR.cells N++[.string (mulM x.m y.m),.bool (nR (x.c.da*y.c.da)).neg,.string (nR (x.c.da*y.c.da)).Va,.int .i64 (nR (x.c.da*y.c.da)).e]=ia TR.cells (N++[Zs x y]):=by rw[Aa,Jj];rfl
    replace I:=show Hp w (_::_::.row A58 (N.length+1) c58 72 4 (ia TR.cells N++[.string (mulM x.m y.m),.bool (nR (x.c.da*y.c.da)).neg,.string (nR (x.c.da*y.c.da)).Va,.int .i64 (nR (x.c.da*y.c.da)).e])::_) w58 from I;rw[e1] at I;replace I:=I.sub (G' _ (G' _ (O' _ (O' _ (O' _ (O' _ (O' _ Z_)))))));refine⟨⟨j+1,N++[Zs x y],_,_,Z',rfl,by rw[y'];rfl,by rw[hN,ja hy,G_,H_];rfl,λe h=> ?_, ?_⟩,by show J-(j+1)<J-j;omega, ?_⟩
    .rw[ja hy,G_,O_] at h;obtain h|h:=h
     .exact b e h
     rw[q'.1 h];exact he
    .rw[y'];exact I
    exact Wb
   rw[bV P hR hzz he];generalize kn x.m y.m=e at*;refine fa ?_;refine sv (Ka (vs:=[_,_,_,_]) pa.out rfl ((G.ext I.below).recAt TR.len hy) rfl) ?_;refine yb ?_;intro b10 w10 I ws I;refine cd I (hmul _) ?_;intro w41 I;refine Bb ?_;intro ws I;refine pP ?_;exact abW
  obtain rfl:j=J:=Z';rw[w' Z'] at b hN;refine fa ?_;replace I:=I.sub (O' _ (G' _ (O' _ (O' _ (O' _ Z_)))));refine⟨⟨i+1,N,A2,c2,Z',rfl,rfl,by rw[qs C,<-s,w' Z'];exact hN,λe h=> ?_,I⟩,by show E-(i+1)<E-i;omega, ?_⟩
  .rw[qs (f:=λ(x y:TR)=>kn x.m y.m) C,O_,X6] at h;obtain h|h:=h
   .exact hz e h
   exact b e h
  exact Wb
 obtain rfl:i=E:=Z';rw[w' Z'] at hz s;have u:M=Jb X Q:=s;rw[zD P hz,<-u];have W:=Nq Y okq Z';rw[<-u] at W;refine fa ?_;refine te (Xj pv T M.length c' M (k+k2) _ hT I rfl Z' Z' W) rfl ?_;rintro e_ w64 ⟨g,og,rfl,I⟩;refine⟨_,rfl, ?_⟩;refine Bb ?_;refine acZ ?_;intro ws I;exact yR
def Bl(base:Nat)(E v:Int)(ts:List TR):VP:=λx W=>∃(g:PX)(Z:World),x=.agg #[.int .i64 g.v,.slice g.A g.n g.c]/\Gf E v ts g/\base<=Z.heap.size/\Hp Z [g.row] W
def Bl.ext{v:Int}(x:Value)(w V)(h:Bl base E v ts x w)(F:Below w.heap.size w V):Bl base E v ts x V:=let⟨g,Z,h1,h2,G,z⟩:=h;⟨g,Z,h1,h2,G,z.ext F⟩
def en(base:Nat)(E v:Int)(ts:List TR):VP:=λx W=>∃(g:PX)(Z:World),x=.tuple #[.agg #[.int .i64 g.v,.slice g.A g.n g.c],.int .i64 E]/\Gf E v ts g/\base<=Z.heap.size/\Hp Z [g.row] W
def en.ext{v:Int}(x:Value)(w V)(h:en base E v ts x w)(F:Below w.heap.size w V):en base E v ts x V:=let⟨g,Z,h1,h2,G,z⟩:=h;⟨g,Z,h1,h2,G,z.ext F⟩
def YG(base:Nat)(v:Int)(ts:List TR):VP:=λx W=>∃(g:PX)(Z:World),x=.slice g.A g.n g.c/\Gf 0 v ts g/\base<=Z.heap.size/\Hp Z [g.row] W
def YG.ext{v:Int}(x:Value)(w V)(h:YG base v ts x w)(F:Below w.heap.size w V):YG base v ts x V:=let⟨g,Z,h1,h2,G,z⟩:=h;⟨g,Z,h1,h2,G,z.ext F⟩
def PX.ne{g:PX}{b:Nat}{t:TypeId}{cs:Array Value}(h:Hp Z [g.row] W)(G:W.heap[b]?=some (.cells cs t fz))(h1:72≠t):∀x∈[g.row],x.id≠some b:=λx C=>by
 have Q:=h.own x C;obtain rfl:=q'.1 C;exact mJ Q G h1
def Ki(a:List TR×Int)(g:PX):List TR×Int:=if a.2=0 then(oa (Jb a.1 g.ts),Ef a.1 g.ts) else a
def aeb(X:List PX):List TR×Int:=match X with|[]=>([],0)|g::l=>l.foldl Ki (g.ts,0)
def dL(X:List PX):Int:=if Qf X=0 then(aeb X).2 else Qf X
def OE{a:List TR×Int}(h:a.2≠0):∀l:List PX,l.foldl Ki a=a
 |[]=>rfl
 |g::l=>(by rw[S8,show Ki a g=a by unfold Ki;rw[Q' h]];exact OE h l)
def ZM{l:List PX}{a:List TR×Int}{i:Nat}{g:PX}(C:l[i]?=some g)(J:((l.take i).foldl Ki a).2=0)(h:Ef ((l.take i).foldl Ki a).1 g.ts≠0):(l.foldl Ki a).2=Ef ((l.take i).foldl Ki a).1 g.ts:=by
 have e:l=l.take i++g::l.drop (i+1):=by rw[<-de C,q_]
 have L:l.foldl Ki a=(l.drop (i+1)).foldl Ki (Ki ((l.take i).foldl Ki a) g):=by
  conv=>lhs;rw[e]
  rw[p8,S8]
 rw[L];have X:Ki ((l.take i).foldl Ki a) g=(oa (Jb ((l.take i).foldl Ki a).1 g.ts),Ef ((l.take i).foldl Ki a).1 g.ts):=P' J;rw[X,OE h]
def qO{l:List PX}{a:List TR×Int}{i:Nat}{g:PX}(C:l[i]?=some g)(J:((l.take i).foldl Ki a).2=0):(l.take (i+1)).foldl Ki a=(oa (Jb ((l.take i).foldl Ki a).1 g.ts),Ef ((l.take i).foldl Ki a).1 g.ts):=by
 rw[ja C,p8,S8,List.foldl_nil];exact P' J
def pM{q:List TR}(hp:ug k p)(R:ug j q)(sq:∀t∈q,t.m.size<=100000)(h:Ef p q=0)(u:k+j<=900000):ug (k+j+65536) (oa (Jb p q))/\∀t∈oa (Jb p q),t.m.size<=100000:=by
 obtain⟨L,_,z⟩:=Uj h;have W:=Nq hp R Z';have o:=Vn λt S=>(W t S).2;rw[ij] at o;refine⟨λt S=> ?_,λt S=> ?_⟩
 .have:Sz (k+j+65536) t.c.da:=(o t S).mono Z';refine⟨?_,this⟩;rw[(tf _).nf t S];exact this.ok Z'
 obtain⟨s,K,e⟩:=Ci t S;obtain⟨x,C,K⟩:=E8.1 K;obtain⟨y,hy,rfl⟩:=B'.1 K;rw[<-e];exact d' (ZN _ _) (sq y hy)
def QF(L:Option Addr)(n c:Nat)(X:List PX)(k s:Nat)(w:World)(hT:Gc w)(hL:Sl w L n 2 (ia PX.cells X))(hcn:n<=c)(hn:n<=8)(hf:∀g∈X,g.at_ w)(hl:∀g∈X,g.Ug k)(hs:k+65536<=s)(hk:k+k+(n-2)*s<=900000):Calls prog 306 #[.slice L n c] w λr V=>∃g:PX,Gf (dL X) (Uf X) (aeb X).1 g/\r=.returned (.tuple #[.agg #[.int .i64 g.v,.slice g.A g.n g.c],.int .i64 (dL X)])/\Hp w [g.row] V:=by
 have I:=Hp.start w;have hln:=hL.sa PX.len V';have j:=λZ hT1 F=>vu L n c X k Z hT1 (hL.ext F) Z' (λg hg=>(hf g hg).ext F) hl;unfold dL;by_cases J:Qf X=0
 .rw[P' J];rw[J] at j;obtain⟨hne,Qk,hvv⟩:=XC J;obtain⟨R,N,rfl⟩:=j7 hne;rw[Tk (g:=R) rfl];have hnp:N.length+1=n:=hln;obtain⟨y,rfl,hr⟩:=hL.at_ Z';have G:R∈R::N:=I';have p:=hl R G;have B:(R::N)[0]?=some R:=rfl;show Calls _ _ _ _ λr V=>∃g:PX,Gf (N.foldl Ki (R.ts,0)).2 R.v (N.foldl Ki (R.ts,0)).1 g/\r=.returned (.tuple #[.agg #[.int .i64 g.v,.slice g.A g.n g.c],.int .i64 (N.foldl Ki (R.ts,0)).2])/\Hp w [g.row] V;refine Ca (l:=[.slice (some y) n c]) func306 ?_;refine Bb ?_;intro b2 w2 I;refine cd I (j _ (hT.hp I) I.below) ?_;intro t I;refine fa ?_;refine Ak 11 I ?_;refine eI ?_;refine Ui (0) ?_;refine Wy ?_;refine uo (λ_ hj=>Kb hj.hp.below ((hr.recAt PX.len B) 0 _ rfl)) ?_;refine eI ?_;refine Ui (0) ?_;refine Wy ?_;refine uo (λ_ hj=>Kb hj.hp.below ((hr.recAt PX.len B) 1 _ rfl)) ?_;refine Ja (i:=8) (YG t.heap.size R.v R.ts) (YG.ext) ?_ ?_
  .intro U Z hj hR;exact ib rfl (La fi (qa (show U 23=Value.slice _ _ _ from hR.1) Wa)) (Yl R.A R.n R.c R.ts Z ((hf R G).ext hj.hp.below) p.n) (λ_ _ ⟨A,c,hq,ho,F⟩=>⟨_,hq,F,⟨R.v,A,R.n,c,R.ts⟩,Z,rfl,⟨rfl,rfl⟩,hj.bl.size,(Hp.start Z).pd (x:=.row _ _ _ _ _ _) F ho⟩)
  refine Ja (i:=9) (Bl t.heap.size 0 R.v R.ts) (Bl.ext) ?_ ?_
  .intro U Z hj hR;exact let⟨g,u,e,o,q,h⟩:=hR.2.1;wc rfl (yC (cs:=[_,_]) pa.out Hi.out (Eb (show U 19=Value.int _ _ from hR.1) (Eb e ae)) rfl) ⟨Below.refl _ _,g,u,by rw[show g.v=R.v from o.v],o,q,h⟩
  refine Ja (i:=10) (Ob _ 24 _) Ob.ext (λU Z hj hR=>Pg pa.out hj.bl (λv w2 h F=>⟨F,h⟩)) ?_;refine Fa ?_;intro f W hJ hV;obtain⟨v5,v25,v24,v23,v22,v21,v20,v19,v18,v17,v16,_⟩:=hV;obtain⟨g24,u24,e24, -⟩:=v24;obtain⟨g25,u25,e25,Y,q25,C⟩:=v25;obtain⟨b5,e5,hl5,E⟩:Ob _ _ _ (f 10) W:=v5;replace I:=hJ.Ls I hl5 E q25 C (PX.ne C E V');refine lg ?_;clear e24 e25 e5 hJ;simp only[C',F'] at I;obtain⟨gv,gA,z,gc,gts⟩:=g25;obtain rfl:R.v=gv:=Y.v.symm;obtain rfl:R.ts=gts:=Y.ts.symm;replace I:=show Hp w (_::.row gA z gc 72 4 (ia TR.cells R.ts)::_) W from I;have hgn:R.ts.length=z:=(I.ma (i:=1) rfl).sa TR.len V';have hgc:z<=gc:=I.me (i:=1) rfl;refine Bb ?_;intro ws I;refine BS ?_;replace I:=I.perm (W_ (l₁:=[_]));simp only[C',F'] at I;refine bf 29 (λv V=>∃(i:Nat)(g:PX),i<=n-1/\v=.int .i64 i/\((N.take i).foldl Ki (R.ts,0)).2=0/\g.v=R.v/\g.ts=((N.take i).foldl Ki (R.ts,0)).1/\g.Ug (k+i*s)/\Hp w [.row g.A g.n g.c 72 4 (ia TR.cells g.ts),.blk b5 24 [.int .i64 g.v,.slice g.A g.n g.c] (0,0),.blk b2 24 [.int .i64 0,.slice none 0 0] (0,0)] V) (λv _=>n-1-(intOf v).toNat) ?_ ?_
  .exact⟨0,⟨R.v,gA,z,gc,R.ts⟩,J' _,rfl,rfl,rfl,rfl,⟨by show z<=1000000;have:=p.n;have h9:=(hf R G).ln;omega,hgc,p.ok.mono (by rw[C7];omega),p.sz⟩,I⟩
  clear I;rintro ρ' v V ⟨i,g,hi,rfl,hz,P,m,H,I⟩;by_cases hlt:i<n-1
  .obtain⟨f,hx⟩:=aa (l:=N) (k:=i) Z';have M:f∈R::N:=L' _ (N' hx);have his:i*s<=(n-2)*s:=c_ _ Z';have his1:=H9 i s;have hbk:Sl w (if c=1 then some y else(some y:Option Addr).map (·.add (1*2))) (n-1) 2 (ia PX.cells N):=hL.back Z' hcn;obtain⟨ab,hAb,sb⟩:=hbk.at_ Z';have Qk:Value.slice (if c=1 then some y else(some y:Option Addr).map (·.add (1*2))) (n-1) (c-1)=.slice (some ab) (n-1) (c-1):=by rw[hAb]
   have K:=hl f M;have d:=qO (a:=(R.ts,0)) hx hz;have Q:=ZM (a:=(R.ts,0)) hx hz;rw[<-m] at d Q;refine fa ?_;refine sv (pb (k:=i) Qa.out pa.size Qk rfl Z' Z') ?_;refine sv (Ka (vs:=[_,_]) pa.out rfl (show Rd _ _ [.int .i64 f.v,.slice f.A f.n f.c] from(sb.ext I.below).recAt PX.len hx) rfl) ?_;refine yb ?_;intro b7 w7 I ws I;refine te (xB g f (k+i*s) k _ (hT.hp I) (I.ma (i:=1) rfl) ((hf f M).ext I.below) H K Z') rfl ?_;rintro e_ w36 ⟨h,oh,rfl,h3⟩;refine⟨_,rfl, ?_⟩;refine RT ?_;intro I;by_cases he:Ef g.ts f.ts=0
   .obtain⟨hv,hA,D,b,T⟩:=h;rw[he] at oh;obtain rfl:g.v=hv:=oh.v.symm;obtain rfl:oa (Jb g.ts f.ts)=T:=oh.ts.symm;replace I:=show Hp w (.row hA D b 72 4 (ia TR.cells (oa (Jb g.ts f.ts)))::_) w36 from I;have hhn:(oa (Jb g.ts f.ts)).length=D:=(I.ma (i:=0) rfl).sa TR.len V';have hhc:D<=b:=I.me (i:=0) rfl;have h4:=(Uj he).2.2;have S:=pM H.ok K.ok K.sz he Z';refine Am ?_;intro b8 w8 I ws I ws I;replace I:=I.sub (G' _ (O' _ (G' _ (G' _ (O' _ (O' _ Z_))))));refine⟨⟨i+1,⟨g.v,hA,D,b,oa (Jb g.ts f.ts)⟩,Z',rfl,by rw[d];exact he,P,by rw[d],⟨by show D<=1000000;omega,hhc,S.1.mono (by rw[H9];omega),S.2⟩,I⟩,by show n-1-(i+1)<n-1-i;omega, ?_⟩;exact Wb
   rw[Q he];refine Am ?_;intro b8 w8 I ws I ws I;refine dP (Nc rfl (Mc (vs:=[_,_]) pa.out (I.Ra (i:=5) (n:=2) rfl rfl) rfl) (Ig (ji rfl) Xd)) ?_;exact abW
  obtain rfl:i=n-1:=Z';rw[w' Z'] at hz m;refine Bb ?_;refine mV ?_;intro ws I;rw[hz];exact⟨g,⟨P,m⟩,rfl,I.sub (O' _ (m_ _))⟩
 rw[Q' J];generalize Qf X=e at*;refine Ca func306 ?_;refine Bb ?_;intro b2 w2 I;refine cd I (j _ (hT.hp I) I.below) ?_;intro t I;refine Bb ?_;refine rn5 ?_;exact abY
def Fs{x:TR}(b):∀{a:List TR},(∀t∈a,eh t.m x.m=true)->bh (a++b) x=a++bh b x
 |[],_=>rfl
 |t::a,h=>(by rw[C',bh,P' (h t I'),Fs b λs K=>h s (L' _ K)];rfl)
def cQ{x:TR}{l:List TR}(h:∀t∈l,eh t.m x.m=true):bh l x=l++[⟨x.m,nR x.c.da⟩]:=by
 have:=Fs [] h;rwa[M_] at this
def GX{x t:TR}{l:List TR}{i:Nat}(C:l[i]?=some t)(h:∀s∈l.take i,eh s.m x.m=true)(h1:eh t.m x.m=false):bh l x=if t.m=x.m then l.take i++⟨x.m,nR (t.c.da+x.c.da)⟩::l.drop (i+1) else l.take i++⟨x.m,nR x.c.da⟩::l.drop i:=by
 have e:l=l.take i++t::l.drop (i+1):=by rw[<-de C,q_]
 have L:bh l x=l.take i++bh (t::l.drop (i+1)) x:=by
  conv=>lhs;rw[e]
  exact Fs _ h
 rw[L,bh,Q' (by rw[h1];decide),de C];by_cases he:t.m=x.m
 .rw[P' he,Q' (by rw[he,xg];decide)]
 rw[Q' he,P']
 cases h2:eh x.m t.m with
 |true=>rfl
 |false=>exact absurd (qo h1 h2) he
theorem lI(A:Option Addr)(n c:Nat)(l:List TR)(x:TR)(w:World)(J:Sl w A n 4 (ia TR.cells l))(y:n<=c)(hn:n<=1000000)(ho:∀t∈l,t.c.ok)(C:x.c.ok):Calls prog 232 #[.slice A n c,.agg #[.string x.m,.bool x.c.neg,.string x.c.Va,.int .i64 x.c.e]] w λr V=>∃A' c',r=.returned (.slice A' (bh l x).length c')/\Hp w [.row A' (bh l x).length c' 72 4 (ia TR.cells (bh l x))] V:=by
 have I:=Hp.start w;have hln:=J.sa TR.len V';have o:=λZ=>Kn x.c Z (by have:=C.1;omega) (by have:=C.2.1;omega) (by have:=C.2.2;omega);refine Ca func232 ?_;refine Bb ?_;intro b3 w3 I;refine bf 5 (λv V=>∃i:Nat,i<=n/\v=.int .i64 i/\(∀t∈l.take i,eh t.m x.m=true)/\Hp w [.blk b3 72 [.string x.m,.bool x.c.neg,.string x.c.Va,.int .i64 x.c.e] (0,0)] V) (λv _=>n-(intOf v).toNat) ?_ ?_
 .exact aal
 clear I;rintro ρ' v V ⟨i,hi,rfl,X,I⟩;by_cases hlt:i<n
 .obtain⟨t,S⟩:=aa (l:=l) (k:=i) Z';obtain⟨ad,rfl,H⟩:=J.at_ Z';have hto:=ho t (N' S)
  cases p:eh t.m x.m with
  |true=>
   have Y:Op.bytesLess t.m.toList x.m.toList=true:=by rw[Kk,p]
   refine fa ?_;refine bY ?_;(unhygienic intros)
   have j:=Q.bl;obtain⟨v18,v17,v16,v15,v14,v13,v12,v11,v10,v9,v8,v7,_⟩:=a;replace I:=Q.hp;refine lg ?_;clear Q;refine gT ?_;refine sv (Bs rfl rfl) ?_;refine fa ?_;rw[Y];refine fa ?_;refine⟨⟨i+1,Z',rfl,λs K=> ?_,I⟩,by show n-(i+1)<n-i;omega, ?_⟩
   .rw[ja S] at K;obtain K|K:=O_.1 K
    .exact X s K
    rw[q'.1 K];exact p
   exact Wb
  |false=>
   have Y:Op.bytesLess t.m.toList x.m.toList=false:=by rw[Kk,p]
   have D:=GX S X p;have N:=J.front (m:=i) Z';rw[show(ia TR.cells l).take (i*4)=ia TR.cells (l.take i) from qh TR.len l i] at N;have o1:=Ia TR.one (l.take i);refine fa ?_;refine bY ?_;(unhygienic intros)
   have j:=Q.bl;obtain⟨v18,v17,v16,v15,v14,v13,v12,v11,v10,v9,v8,v7,_⟩:=a;replace I:=Q.hp;refine lg ?_;clear Q;refine gT ?_;refine sv (Bs rfl rfl) ?_;refine fa ?_;rw[Y];refine fa ?_;refine JF ?_;intro G w23 I;refine fa ?_;refine sv (Rh (h:=i) Qa.out pa.size rfl rfl Z' Z') ?_;refine mb I (i:=0) rfl rfl rfl (N.ext I.below) Qa.out pa.out rfl V' ?one11 Z' Z' V' ?kk11
   case one11=>first|rfl|assumption|exact Da _|exact oneCells_u8s _
   intro q M w27 I;simp only[j'] at I;refine fa ?_;have hpl:=λZ=>fF t.c x.c Z hto C;by_cases he:t.m=x.m
   .rw[P' he] at D;have z:=J.back (l:=i+1) Z' y;rw[show(ia TR.cells l).drop ((i+1)*4)=ia TR.cells (l.drop (i+1)) from Yf TR.len l (i+1)] at z;have o2:=Ia TR.one (l.drop (i+1));refine bY ?_;(unhygienic intros)
    have R:=Q.bl;obtain⟨v39,v38,v37,v36,v35,v34,v33,v32,v31,v30,v29,v28,_⟩:=a;replace I:=Q.hp;refine lg ?_;clear Q;refine gT ?_
    (first|refine sv (Pj rfl rfl (by first|rfl|assumption|decide)) ?_|refine sv (Vj rfl rfl (by first|assumption|decide)) ?_)
    refine fa ?_;refine Ak 13 I ?_;refine wb ?_;refine Ui (i) ?_;refine Wy ?_;refine Fj [_,_,_] (λ_ hj=>((H.ext hj.hp.below).recAt TR.len S).drop 1) ?_;refine wb ?_;refine dC (λ_ hj=>hpl _) ?_;refine wb ?_;refine Wp [_,_,_,_] ?_;refine Fa ?_;intro f W Q a;obtain⟨v54,v53,v52,v51,v50,v49,v48,v47,v46,v45,v44,v43,v42,_⟩:=a;obtain⟨A54,c54,e54,f54⟩:Rows _ _ _ (f 12) W:=v54;replace I:=Q.hp;refine lg ?_;clear e54 Q;refine mb I (i:=0) rfl rfl rfl (f54) Qa.out pa.out rfl V' (by first|rfl|exact Nb _|exact xb _|exact Da _|exact Ia NR.one _) Z' Z' V' ?_;intro A55 c55 w55 I;simp only[j'] at I;refine fa ?_;refine ub rfl rfl V' (Nf Qa.out pa.size rfl rfl (l:=i+1) Z' Z' Z') ?_;refine mb I (i:=0) rfl rfl rfl (z.ext I.below) Qa.out pa.out rfl V' ?one12 Z' Z' V' ?kk12
    case one12=>first|rfl|assumption|exact Da _|exact oneCells_u8s _
    intro A61 c61 w61 I;simp only[j'] at I;refine fa ?_;have b:(bh l x).length=0+i+1+(n-(i+1)):=by rw[D,y',T_,p',j_];omega
    have L:ia TR.cells (bh l x)=[]++ia TR.cells (l.take i)++[.string x.m,.bool (nR (t.c.da+x.c.da)).neg,.string (nR (t.c.da+x.c.da)).Va,.int .i64 (nR (t.c.da+x.c.da)).e]++ia TR.cells (l.drop (i+1)):=by rw[D,Aa,uh,F',H_];rfl
    exact WZ
   rw[Q' he] at D;have z:=J.back (l:=i) Z' y;rw[show(ia TR.cells l).drop (i*4)=ia TR.cells (l.drop i) from Yf TR.len l i] at z;have o2:=Ia TR.one (l.drop i);refine bY ?_;(unhygienic intros)
   have R:=Q.bl;obtain⟨v39,v38,v37,v36,v35,v34,v33,v32,v31,v30,v29,v28,_⟩:=a;replace I:=Q.hp;refine lg ?_;clear Q;refine gT ?_
   (first|refine sv (Pj rfl rfl (by first|rfl|assumption|decide)) ?_|refine sv (Vj rfl rfl (by first|assumption|decide)) ?_)
   refine fa ?_;refine Ak 8 I ?_;refine wb ?_;refine dC (λ_ hj=>o _) ?_;refine wb ?_;refine Wp [_,_,_,_] ?_;refine Fa ?_;intro f W Q a;have hb_8:=Q.bl;obtain⟨B,v68,v67,v66,v65,v64,v63,v62,_⟩:=a;obtain⟨E,P,g,f69⟩:Rows _ _ _ (f 7) W:=B;replace I:=Q.hp;refine lg ?_;clear g Q;refine mY ?_;intro u T w70 I;simp only[j'] at I;refine fa ?_;refine ub rfl rfl V' (Nf Qa.out pa.size rfl rfl (l:=i) Z' Z' Z') ?_;refine mb I (i:=0) rfl rfl rfl (z.ext I.below) Qa.out pa.out rfl V' ?one13 Z' Z' V' ?kk13
   case one13=>first|rfl|assumption|exact Da _|exact oneCells_u8s _
   intro F c75 w75 I;simp only[j'] at I;refine fa ?_;have b:(bh l x).length=0+i+1+(n-i):=by rw[D,y',T_,p',j_];omega
   exact acs
 obtain rfl:i=n:=Z';have D:=cQ (x:=x) (l:=l) (by rwa[w' Z'] at X);rw[show l++[⟨x.m,nR x.c.da⟩]=l.take i++⟨x.m,nR x.c.da⟩::l.drop i by rw[w' Z',P8 Z']] at D;have N:=J.front (m:=i) Z';rw[show(ia TR.cells l).take (i*4)=ia TR.cells (l.take i) from qh TR.len l i] at N;have o1:=Ia TR.one (l.take i);have z:=J.back (l:=i) Z' y;rw[show(ia TR.cells l).drop (i*4)=ia TR.cells (l.drop i) from Yf TR.len l i] at z;have o2:=Ia TR.one (l.drop i);refine fa ?_;refine Ak 12 I ?_;refine wb ?_;refine dn ?_;intro W I;refine fa ?_;refine JF ?_;intro G w23 I;refine fa ?_;refine sv (Rh (h:=i) Qa.out pa.size rfl rfl Z' Z') ?_;refine mb I (i:=0) rfl rfl rfl (N.ext I.below) Qa.out pa.out rfl V' ?one14 Z' Z' V' ?kk14
 case one14=>first|rfl|assumption|exact Da _|exact oneCells_u8s _
 intro q M w27 I;simp only[j'] at I;refine fa ?_;refine Ak 12 I ?_;refine wb ?_;refine dn ?_;intro W I;refine fa ?_;refine Ak 8 I ?_;refine wb ?_;refine dC (λ_ hj=>o _) ?_;refine wb ?_;refine Wp [_,_,_,_] ?_;refine Fa ?_;intro f W Q a;obtain⟨B,v68,v67,v66,v65,v64,v63,v62,_⟩:=a;obtain⟨E,P,g,f69⟩:Rows _ _ _ (f 7) W:=B;replace I:=Q.hp;refine lg ?_;clear g Q;refine mY ?_;intro u T w70 I;simp only[j'] at I;refine fa ?_;refine ub rfl rfl V' (Nf Qa.out pa.size rfl rfl (l:=i) Z' Z' Z') ?_;refine mb I (i:=0) rfl rfl rfl (z.ext I.below) Qa.out pa.out rfl V' ?one15 Z' Z' V' ?kk15
 case one15=>first|rfl|assumption|exact Da _|exact oneCells_u8s _
 intro F c75 w75 I;simp only[j'] at I;refine fa ?_;have b:(bh l x).length=0+i+1+(i-i):=by rw[D,y',T_,p',j_];omega
 exact acs
def iA{l:List TR}(W:ug k l)(u:k+l.length<=3999980):ug (k+l.length) (xh l):=λt S=>by
 have h:=QG l (λt S=>(W t S).2) t S;exact⟨by rw[GD l t S];exact h.ok Z',h⟩
def az(v:Int)(A)(n c:Nat)(l)(k:Nat)(w)(J:Sl w A n 4 (ia TR.cells l))(hn:n<=100000)(W:ug k l)(hk:k+n<=3999980):Calls prog 160 #[.int .i64 v,.slice A n c] w λr V=>∃g:PX,Gf (Bf l) v (oa l) g/\r=.returned (.tuple #[g.V,.int .i64 (Bf l)])/\Hp w [g.row] V:=by
 have I:=Hp.start w;have P:=J.sa TR.len V';refine Ca func160 ?_;refine Bb ?_;intro D w4 I;replace I:=I.rb 72 4;refine Fi 6 7 (λa x V=>∃(i:Nat)(T:Option Addr)(c':Nat),i<=n/\x=.int .i64 i/\a=.slice T (xh (l.take i)).length c'/\Hp w [.row T (xh (l.take i)).length c' 72 4 (ia TR.cells (xh (l.take i))),.blk D 24 [.int .i64 0,.slice none 0 0] (0,0)] V) (λ_ x _=>n-(intOf x).toNat) ?_ ?_
 .exact⟨0,none,0,J' _,rfl,rfl,I⟩
 clear I;rintro ρ' a_ x_ V ⟨i,T,c',hi,rfl,rfl,I⟩;have e:=rA (l.take i);rw[p'] at e;by_cases R:i<n
 .obtain⟨x,C⟩:=aa (l:=l) (k:=i) Z';obtain⟨ad,rfl,hr⟩:=J.at_ Z';have M:=iA (l:=l.take i) (k:=k) (λt S=>W t (x9 S)) (by rw[p'];omega);refine VJ ?_;refine te (lI T (xh (l.take i)).length c' (xh (l.take i)) x _ (I.ma (i:=0) rfl) (I.me (i:=0) rfl) Z' (λt S=>(M t S).1) (W x (N' C)).1) rfl ?_;rintro e_ w21 ⟨u,Y,rfl,y⟩;refine⟨_,rfl, ?_⟩;replace I:=I.join y;simp only[C',F'] at I;rw[<-nh,<-ja C] at I |-;refine fa ?_;replace I:=I.sub (O' _ (G' _ (O' _ Z_)));refine⟨⟨i+1,u,Y,Z',rfl,rfl,I⟩,by show n-(i+1)<n-i;omega, ?_⟩;exact Wb
 obtain rfl:i=n:=Z';rw[w' Z'] at I e |-;have M:=iA W Z';have p:oa l=(xh l).filter Ap:=rfl;unfold Bf;rw[p];generalize xh l=G at*;obtain⟨m,hm⟩:∃m,m=G.length:=⟨_,rfl⟩;rw[<-hm] at I |-;refine fa ?_;replace I:=I.rb 72 4;refine Fi 8 9 (λa x V=>∃(j:Nat)(B:Option Addr)(d:Nat),j<=m/\x=.int .i64 j/\a=.slice B ((G.take j).filter Ap).length d/\Hp w [.row B ((G.take j).filter Ap).length d 72 4 (ia TR.cells ((G.take j).filter Ap)),.row T m c' 72 4 (ia TR.cells G),.blk D 24 [.int .i64 0,.slice none 0 0] (0,0)] V) (λ_ x _=>m-(intOf x).toNat) ?_ ?_
 .exact⟨0,none,0,J' _,rfl,rfl,I⟩
 clear I;rintro ρ2 a2 x2 w2 ⟨j,B,d,hj,rfl,rfl,I⟩;have K:((G.take j).filter Ap).length<=j:=d' (E6 _ _) (by rw[p'];omega);by_cases H:j<m
 .obtain⟨t,S⟩:=aa (l:=G) (k:=j) Z';have q:=M t (N' S);have z:=λZ=>mf t.c Z (by have:=q.1.1;omega);have b:t.c.i.sign=0↔t.c.da=0:=(by exact aas);obtain⟨g0,rfl⟩:=I.kb (i:=1) rfl Z';by_cases o:t.c.da=0
  .have hs:=b.2 o;have L:(G.take (j+1)).filter Ap=(G.take j).filter Ap:=(by rw[ja S,P7,List.filter_cons,Q' (by unfold Ap;rw[m' o];decide)];simp);refine N1 ?_;intro Q I;refine⟨⟨j+1,B,d,Z',rfl,by rw[L];rfl,by rw[L];exact I⟩,by show m-(j+1)<m-j;omega, ?_⟩;exact Wb
  have hs:¬t.c.i.sign=0:=λh=>o (b.1 h);have L:(G.take (j+1)).filter Ap=(G.take j).filter Ap++[t]:=(by rw[ja S,P7,List.filter_cons,P' (by unfold Ap;rw[k' o];rfl)];simp);refine N1 ?_;intro Q I;refine sv (Ka (vs:=[_,_,_,_]) pa.out rfl (I.Wc (f:=TR.cells) (x:=t) (l:=G) (i:=1) rfl TR.len V' S) rfl) ?_;refine vF ?_;intro X w40 I;refine Er ?_;intro E N w41 I;refine XO ?_;intro I;refine⟨⟨j+1,E,N,Z',rfl,by rw[L,y'];rfl,by rw[L,y',Aa,Jj];exact I⟩,by show m-(j+1)<m-j;omega, ?_⟩;exact Wb
 obtain rfl:j=m:=Z';rw[w' Z'] at I K |-;generalize G.filter Ap=F at*;by_cases s:4096<F.length
 .rw[P' s];refine abV ?_;intro ws I;exact NX
 rw[Q' s];refine abV ?_;intro ws I;exact⟨⟨v,B,F.length,d,F⟩,⟨rfl,rfl⟩,rfl,I.sub (O' _ (m_ _))⟩
def we(v:Int):ByteArray:=⟨(List.replicate v.toNat 0).toArray⟩
def Yk{v:Int}(h:0<=v):((we v).size:Int)=v:=by
 have:(we v).size=v.toNat:=by unfold we;show(List.replicate v.toNat (0:UInt8)).toArray.size=_;rw[z7,Q9]
 omega
def Mt(v:Int):ke (we v).data.toList=true:=by
 unfold ke we;rw[L_];intro c E;have:(⟨(List.replicate v.toNat (0:UInt8)).toArray⟩:ByteArray).data.toList=List.replicate v.toNat 0:=rfl;rw[this] at E;rw[(List.mem_replicate.1 E).2];decide
def CU{l:List TR}(h:l.length<=4096):Bf l=0:=by
 unfold Bf;have:=Vb l;rw[Q' Z']
def nG{v:Int}{t:TR}(Y:Tg v=true)(h:Qd v t=true):wi v [t]=0:=by
 unfold wi;rw[Q' (by rw[Y];simp[h]),Q' (by simp),CU (by simp)]
def PG(v:Int):Int:=if Tg v=false then 1 else 0
def Fl(v:Int)(c:NR)(k:Nat)(w)(hT:Gc w)(hc:c.ok/\Sz k c.da)(hk:k<=2999980):Calls prog 68 #[.int .i64 v,c.V] w λr V=>∃g:PX,Gf (PG v) v (oa [⟨we v,c⟩]) g/\r=.returned (.tuple #[g.V,.int .i64 (PG v)])/\Hp w [g.row] V:=by
 have I:=Hp.start w;have u:=λZ=>Un v Z
 cases Y:Tg v with
 |false=>
  rw[Y] at u;rw[show PG v=1 by unfold PG;rw[P' Y]];refine Ca func68 ?_;refine yb ?_;intro B w3 I D w4 I;refine cd I (u _) ?_;intro w7 I;refine CR ?_;intro ws I;exact NX
 |true=>
  rw[Y] at u;obtain⟨x,R⟩:=Xe.1 Y;have hm:wi v [⟨we v,c⟩]=0:=nG Y (by unfold Qd;rw[Mt,m' (Yk x)];rfl);have C:=λA G Z P N=>mn v A 1 G [⟨we v,c⟩] k Z P N V' Z' (λt S=>by rw[q'.1 S];exact hc) (λt S=>by rw[q'.1 S];have:=Yk x;show(we v).size<=_;omega);rw[hm] at C;rw[show PG v=0 by unfold PG;rw[Q' (by rw[Y];decide)]];refine Ca func68 ?_;refine yb ?_;intro B w3 I D w4 I;refine cd I (u _) ?_;intro w7 I;refine fa ?_;refine Sk [] [0,0,2,6,0,30,62,127,255,255,1023,2047] 7 [[(0,none)],[(0,none)],[(11,some 1)],[(12,some 2)],[(3,none)],[(13,some 3),(14,some 4)],[(15,some 5)]] [(6,16),(5,15),(4,14),(3,13),(2,12),(1,11),(0,10)] [([],4,[(6,16),(5,15),(4,14),(3,13),(2,12),(1,11),(0,10)])] I mixed U' U' V' ?_;refine nN ?_;refine nN ?_;refine Ja (i:=2) (vk v.toNat 1 (bj (List.replicate v.toNat 0))) (vk.ext) ?_ ?_
  .intro U Z hj hR;exact yv v.toNat ▸ UX (n:=v.toNat) (show U 11=Value.int _ _ from hR.1) (show U 11=Value.int _ _ from hR.1) Z' Z' Qa.out pa.out rfl Z' Z' (λ_ _ h1 h2=>⟨h2,h1⟩)
  refine Ja (i:=3) (Is (.string (we v))) (Is.ext) ?_ ?_
  .intro U Z hj hR;obtain⟨s,X,L⟩:=hR.1;exact let⟨g,e,o⟩:=hR.1;wc rfl (Li (l:=List.replicate v.toNat 0) Qa.out Qa.out Qa.out e o) ⟨Below.refl _ _,rfl⟩
  refine Ud 1 [_,_,_] ?_;refine YZ ?_;intro p_ z;obtain rfl:=z
  intro f W Q hV;have F:=Q.bl;obtain⟨p,j,K,b,h,v11,v10,_⟩:=hV;simp only[qe];have M:f 0=_:=v10;rw[M];have H:f 1=_:=v11;rw[H];obtain⟨s,X,L⟩:vk v.toNat 1 (bj (List.replicate v.toNat 0)) (f 2) W:=h;rw[X];have J:f 3=_:=b;rw[J];have a:f 4=_:=K;rw[a];have q:f 5=_:=j;rw[q];obtain⟨y,E,m,f16⟩:Rows _ _ _ (f 6) W:=p;rw[m];replace I:=Q.hp;refine Tc (C _ _ _ (hT.hp I) f16) fi rfl V' ?_;rintro e_ w17 ⟨g,og,rfl,T⟩;refine⟨_,rfl, ?_⟩;replace I:=I.join T;refine Kc ?_;simp only[C',F'] at I;refine vb (i:=8) (by repeat (first|exact Mb|refine lb ?_|refine Lb ?_|refine Sa ?_)) rfl U' U' U' (λ_=>vd (show _=Value.tuple (List.toArray _) from rfl) rfl) V' ?_;refine vb (i:=9) (by repeat (first|exact Mb|refine lb ?_|refine Lb ?_|refine Sa ?_)) rfl U' U' U' (λ_=>vd (show _=Value.tuple (List.toArray _) from rfl) rfl) V' ?_;refine Hg 10 V' U' V' U' U' ?_;refine LO ?_;intro ws I;exact yR
def Rk(v:Int)(x:Nat):ByteArray:=⟨((List.replicate v.toNat (0:UInt8)).set x 1).toArray⟩
def ct{v:Int}{x:Nat}(h:0<=v):((Rk v x).size:Int)=v:=by
 have:(Rk v x).size=v.toNat:=by unfold Rk;show((List.replicate v.toNat (0:UInt8)).set x 1).toArray.size=_;rw[z7,d_,Q9]
 omega
def xE(v:Int)(x:Nat):ke (Rk v x).data.toList=true:=by
 unfold ke;rw[L_];intro c E;have:(Rk v x).data.toList=(List.replicate v.toNat 0).set x 1:=rfl;rw[this] at E;obtain h|rfl:=R8 E
 .rw[(List.mem_replicate.1 h).2];decide
 decide
def AN{l:List UInt8}{i:Nat}{c:UInt8}(h:i<l.length):db (bj l) (i*1) [.int .u8 c.toNat]=bj (l.set i c):=by
 unfold db bj;rw[X_,x6,P' h,G_,I_,List.map_take,V6,H_];rfl
def Uv(v x:Int):Int:=if Tg v=false\/x<0\/v<=x then 1 else 0
def rH(v x:Int)(w)(L:Gc w):Calls prog 233 #[.int .i64 v,.int .i64 x] w λr V=>∃g:PX,Gf (Uv v x) v (oa [⟨Rk v x.toNat,nR ((1:Int):Dyadic)⟩]) g/\r=.returned (.tuple #[g.V,.int .i64 (Uv v x)])/\Hp w [g.row] V:=by
 have I:=Hp.start w;have u:=λZ=>Un v Z
 cases Y:Tg v with
 |false=>
  rw[Y] at u;rw[show Uv v x=1 by unfold Uv;rw[P' (.inl Y)]];exact wQ
 |true=>
  rw[Y] at u;obtain⟨G,h12⟩:=Xe.1 Y;by_cases a:x<0
  .rw[show Uv v x=1 by unfold Uv;rw[P' (.inr (.inl a))]];exact wQ
  by_cases F:v<=x
  .rw[show Uv v x=1 by unfold Uv;rw[P' (.inr (.inr F))]];exact wQ
  rw[show Uv v x=0 by unfold Uv;rw[Q' (by rintro (h|h|h);exact absurd (Y.symm.trans h) V';omega;omega)]];have hm:wi v [⟨Rk v x.toNat,nR ((1:Int):Dyadic)⟩]=0:=nG Y (by unfold Qd;rw[xE,m' (ct G)];rfl);have X:Sz 24 ((1:Int):Dyadic):=SW (m:=1) (e:=0) V' V' V';have C:=λA cc Z P N=>mn v A 1 cc [⟨Rk v x.toNat,nR ((1:Int):Dyadic)⟩] 24 Z P N V' Z' (λt S=>by rw[q'.1 S];exact⟨X.ok V',by show Sz 24 (nR _).da;rw[Ga];exact X⟩) (λt S=>by rw[q'.1 S];have:=ct (x:=x.toNat) G;show(Rk v x.toNat).size<=_;omega);rw[hm] at C;refine aad ?_;intro D B I E I;refine fa ?_;refine Ee (n:=(v.toNat)) I rfl rfl Z' Z' Qa.out pa.out rfl Z' Z' V' ?_;intro b21 w21 I;refine agl ?_;intro o ws I;refine Sk [] [0,0,2,0,14,30,63,127,127,511,1023] 6 [[(0,none)],[(6,none)],[(26,some 1)],[],[(27,some 2),(28,some 3)],[(29,some 4)]] [(5,30),(4,29),(3,28),(2,27),(1,26),(0,25)] [([],4,[(5,30),(4,29),(3,28),(2,27),(1,26),(0,25)])] I mixed U' U' V' ?_;refine nN ?_;refine eI ?_
  refine Ja (i:=2) (Is (.string ⟨(((List.replicate v.toNat 0).set x.toNat 1)).toArray⟩)) Is.ext ?_ ?_
  .intro U Z hj hR;exact wc rfl (Li (l:=((List.replicate v.toNat 0).set x.toNat 1)) Qa.out Qa.out Qa.out (show U 26=Value.slice _ _ _ from hR.1) (hj.hp.ma (i:=0) rfl)) ⟨Below.refl _ _,rfl⟩
  refine dC (λ_ hj=>ej 1 _ (L.hp hj.hp) V' V') ?_;refine YZ ?_;intro p_ z;obtain rfl:=z
  intro f W Q hV;have M:=Q.bl;obtain⟨v30,y,H,s,b,K,_⟩:=hV;simp only[qe];have T:f 0=_:=K;rw[T];have p:f 1=_:=b;rw[p];have j:f 2=_:=s;rw[j];have R:f 3=_:=H;rw[R];have J:f 4=_:=y;rw[J];obtain⟨A30,c30,q,f30⟩:Rows _ _ _ (f 5) W:=v30;rw[q];replace I:=Q.hp;refine Tc (C _ _ _ (L.hp I) f30) fi rfl V' ?_;rintro e_ w31 ⟨g,og,rfl,h3⟩;refine⟨_,rfl, ?_⟩;replace I:=I.join h3;refine Kc ?_;simp only[C',F'] at I;refine vb (i:=7) (by repeat (first|exact Mb|refine lb ?_|refine Lb ?_|refine Sa ?_)) rfl U' U' U' (λ_=>vd (show _=Value.tuple (List.toArray _) from rfl) rfl) V' ?_;refine vb (i:=8) (by repeat (first|exact Mb|refine lb ?_|refine Lb ?_|refine Sa ?_)) rfl U' U' U' (λ_=>vd (show _=Value.tuple (List.toArray _) from rfl) rfl) V' ?_;refine Hg 9 V' U' V' U' U' ?_;refine abV ?_;intro ws I;exact yR
def XA(v:Int)(A)(n c:Nat)(l)(k:Nat)(w)(J:Sl w A n 4 (ia TR.cells l))(B:n<=100000)(W:ug k l)(u:k+n<=3999980)(o:∀t∈l,t.m.size<=100000):Calls prog 93 #[.int .i64 v,.slice A n c] w λr V=>∃g:PX,Gf (wi v l) v (oa l) g/\r=.returned (.tuple #[g.V,.int .i64 (wi v l)])/\Hp w [g.row] V:=by
 have I:=Hp.start w;have a:=J.sa TR.len V'
 cases Y:Tg v with
 |false=>
  have e:¬(0<=v/\v<=12):=λh=>by rw[Xe.2 h] at Y;cases Y
  rw[show wi v l=1 by unfold wi;rw[P' (.inl Y)]];by_cases z:v<0
  .refine Ca func93 ?_;refine adi ?_;intro D y I ws I;exact NX
  refine Ca func93 ?_;refine adi ?_;intro D y I ws I;exact NX
 |true=>
  obtain⟨M,s⟩:=Xe.1 Y;refine Ca func93 ?_;refine Bb ?_;intro D y I;refine bf 6 (λx V=>∃i:Nat,i<=n/\x=.int .i64 i/\(l.take i).any (λt=> !Qd v t)=false/\Hp w [.blk D 24 [.int .i64 0,.slice none 0 0] (0,0)] V) (λx _=>n-(intOf x).toNat) ?_ ?_
  .exact⟨0,J' _,rfl,rfl,I⟩
  clear I;rintro ρ' Q V ⟨i,hi,rfl,X,I⟩;by_cases b:i<n
  .obtain⟨x,C⟩:=aa (l:=l) (k:=i) Z';obtain⟨p,rfl,H⟩:=J.at_ Z';have d:=o x (N' C);have K:∀Z,Zc 159 #[.string x.m,.int .i64 v] Z (.bool (Qd v x)):=λZ=>qJ x.m v Z Z'
   cases hm:Qd v x with
   |false=>
    rw[hm] at K;rw[show wi v l=1 by unfold wi;rw[P' (.inr (W9.2 ⟨x,N' C,by rw[hm];rfl⟩))]];refine dZ ?_;refine mI ?_;refine cd I (K _) ?_;intro T I;refine CR ?_;intro ws I;exact NX
   |true=>
    rw[hm] at K;refine dZ ?_;refine mI ?_;refine cd I (K _) ?_;intro T I;refine fa ?_;refine⟨⟨i+1,Z',rfl,by rw[ja C,B8,X,k8,O7,hm];rfl,I⟩,by show n-(i+1)<n-i;omega, ?_⟩;exact Wb
  rw[w' Z'] at X;have N:wi v l=if 65536<l.length then 3 else Bf l:=by unfold wi;rw[Q' (by rw[Y,X];decide)]
  by_cases L:65536<n
  .rw[N,P' Z'];refine CR ?_;intro ws I;exact NX
  rw[N,Q' Z'];refine fa ?_;refine Wi (az v A n c l k _ (J.ext I.below) B W u) ?_;rintro q j ⟨g,f,rfl,G⟩;refine rn9 ?_;intro I;refine LO ?_;intro ws I;exact⟨g,f,rfl,I.sub (O' _ (m_ _))⟩
def afn(p:PX)(n:Nat):List TR×Int:=(List.replicate n p).foldl Ki (oa [⟨we p.v,nR ((1:Int):Dyadic)⟩],0)
def agw(p:PX)(n:Int):Int:=if p.e=0 then(if n<0\/127<n then 1 else(afn p n.toNat).2) else p.e
def agK(X:List PX)(R:List HE)(g:PX):Prop:=(g∈X/\R=[])\/R=[g.row]
def ais(a:NR):Bool:=decide ((24:Int)<a.Va.size\/a.e< -300\/300<a.e)
structure SmT(ts:List TR):Prop where
 n:ts.length<=12
 ok:ug 492 ts
 sz:∀t∈ts,t.m.size<=50
def PX.norm(g:PX):PX:=⟨g.v,none,0,0,g.ts⟩
def ez(X:List PX):Qf (X.map PX.norm)=Qf X:=by
 have h1:(X.map PX.norm).find? (λg=>decide (g.e≠0))=(X.find? λg=>decide (g.e≠0)).map PX.norm:=List.find?_map ..;have h2:Oy (X.map PX.norm)=Oy X:=(by unfold Oy;rw[List.any_map,A_];rfl);unfold Qf;rw[h1,h2,D']
 cases X.find? (λg=>decide (g.e≠0))<;>rfl
def Ax(X:List PX):Uf (X.map PX.norm)=Uf X:=by unfold Uf;rw[A_];rfl
structure oN(ps os:List PX)(R:List HE):Prop where
 eq:∀(j:Nat)(g o:PX),ps[j]?=some g->os[j]?=some o->o.v=g.v/\o.ts=g.ts/\o.n=g.n
 my:∀o∈os,o.row∈R/\o.n<=o.c
def oN.add{X os:List PX}{R:List HE}{g o:PX}(h:oN X os R)(C:X[os.length]?=some g)(he:o.v=g.v/\o.ts=g.ts/\o.n=g.n)(E:o.n<=o.c):oN X (os++[o]) (o.row::R):=by
 refine⟨λj b a h1 h2=> ?_,λa h2=> ?_⟩
 .by_cases hj:j<os.length
  .rw[m9 hj] at h2;exact h.eq j b a h1 h2
  by_cases W:j=os.length
  .subst W;rw[S9 (E' _),u_] at h2;rw[C] at h1
   cases h1;cases h2
   exact he
  rw[K_ (by rw[y'];simp;omega)] at h2
  cases h2
 obtain h2|h2:=O_.1 h2
 .exact⟨L' _ (h.my a h2).1,(h.my a h2).2⟩
 rw[q'.1 h2];exact⟨I',E⟩
def oN.key{X os:List PX}{R:List HE}(h:oN X os R)(Q:os.length=X.length):os.map PX.norm=X.map PX.norm:=by
 apply g_;intro j;rw[z',z'];by_cases hj:j<os.length
 .obtain⟨o,W⟩:=aa hj;obtain⟨g,s⟩:=aa (l:=X) (k:=j) Z';obtain⟨N,L,_⟩:=h.eq j g o s W;rw[W,s];show some (PX.norm o)=some (PX.norm g);unfold PX.norm;rw[N,L]
 rw[K_ Z',K_ Z']
def OX{V:World}{H:List HE}{g:PX}(I:Hp w H V)(h:g.row∈H):g.at_ V:=ee (I.own g.row h)
def uO(p:PX)(c:Dyadic):Int:=if p.e=0 then Bf (p.ts.map (vp c)) else p.e
def pN{l X:List TR}{c:Dyadic}{i:Nat}{z:TR}(o:l[i]?=some z)(t:X=(l.take i).map (vp c)++l.drop i):X[i]?=some z/\X.set i ⟨z.m,nR (z.c.da*c)⟩=(l.take (i+1)).map (vp c)++l.drop (i+1):=by
 obtain⟨h1,h2⟩:=x'.1 o;have Q:((l.take i).map (vp c)).length=i:=by rw[D',p'];omega
 refine⟨?_, ?_⟩
 .rw[t,S9 Z',Q,u_,c9];exact o
 rw[ja o,G_,t,F8 _ _ Z',Q,u_,H_,de o];rfl
def kM{l:List TR}{c:Dyadic}(W:ug k l)(E:Sz j c)(u:k+j<=1000000):ug (k+j) (l.map (vp c)):=λt S=>by
 obtain⟨z,o,rfl⟩:=B'.1 S;have K:=(W z o).2.mul E;exact⟨K.ok Z',by show Sz _ (nR _).da;rw[Ga];exact K⟩
def lB(p:PX)(c:NR)(k:Nat)(w)(S:Gc w)(hp:p.at_ w)(h:p.Ug k)(E:c.ok/\Sz k c.da)(hk:k<=400000):Calls prog 234 #[p.V,c.V] w λr V=>∃g:PX,Gf (uO p c.da) p.v (oa (p.ts.map (vp c.da))) g/\r=.returned (.tuple #[g.V,.int .i64 (uO p c.da)])/\Hp w [g.row] V:=by
 have I:=Hp.start w;have K:=λZ P hb=>Zj p k Z P (hp.ext hb) h;unfold uO;by_cases J:p.e=0
 .rw[P' J];rw[J] at K;obtain⟨_,h4,_,_⟩:=Gb J;have hpl:p.ts.length=p.n:=hp.ln;refine Ca func234 ?_;refine Am ?_;intro T w2 I D w3 I H w4 I;refine cd I (K _ (S.hp I) I.below) ?_;intro B I;refine fa ?_;refine cr I (Yl p.A p.n p.c p.ts _ (hp.ext I.below) h.n) ?_;intro Y m w17 I;refine fa ?_;refine bf 20 (λv V=>∃(i:Nat)(X:List TR),i<=p.n/\v=.int .i64 i/\X=(p.ts.take i).map (vp c.da)++p.ts.drop i/\Hp w [.row Y p.n m 72 4 (ia TR.cells X),.blk H 24 [.int .i64 0,.slice none 0 0] (0,0),.blk D 30 [.bool c.neg,.string c.Va,.int .i64 c.e] (0,0),.blk T 24 [.int .i64 p.v,.slice p.A p.n p.c] (0,0)] V) (λv _=>p.n-(intOf v).toNat) ?_ ?_
  .exact⟨0,p.ts,J' _,rfl,rfl,I⟩
  clear I;rintro ρ' v V ⟨i,X,hi,rfl,t,I⟩;have y:X.length=p.n:=by rw[t,y',D',p',j_];omega
  by_cases hlt:i<p.n
  .obtain⟨z,M⟩:=aa (l:=p.ts) (k:=i) Z';obtain⟨a,q⟩:=pN M t;have C:=h.ok z (N' M);have F:=λA cc Z P N=>Td A 2 cc [z.c,c] Z P N (by simpa using⟨C.1,E.1⟩) k (by simpa using⟨C.2,E.2⟩) Z' V';rw[show Re ([z.c,c].map NR.da)=z.c.da*c.da by show 1*z.c.da*c.da=_;rw[x8]] at F;have hrl:=Wd TR.len X;obtain⟨g0,rfl⟩:=I.kb (i:=0) rfl Z';refine fa ?_;refine ud 10 I ?_;refine Xr (i) ?_;refine dfa ?_;refine Fj [_,_,_] (λ_ hj=>(hj.hp.Wc (f:=TR.cells) (x:=z) (l:=X) (i:=0) rfl TR.len V' a).drop 1) ?_;refine wb ?_;refine Wp [_,_,_,_,_,_] ?_;refine Ja (i:=9) (Is (.agg #[.bool (nR (z.c.da*c.da)).neg,.string (nR (z.c.da*c.da)).Va,.int .i64 (nR (z.c.da*c.da)).e])) Is.ext ?_ ?_
   .intro U Z hj hR;obtain⟨s,G,o,L⟩:=hR.1;exact ib rfl (La fi (qa o Wa)) (F s G _ (S.hp hj.hp) L) (λ_ _ R=>⟨_,R.1,R.2,rfl⟩)
   refine Fa ?_;intro f W Q hV;obtain⟨v32,u,v30,v29,v28,v27,v26,v25,v24,v23,_⟩:=hV;obtain⟨s,G,j,f31⟩:Rows _ _ _ (f 8) W:=u;replace I:=Q.hp;refine lg ?_;refine fa ?_;refine adu ?_;intro ws I;rw[nA a,q] at I;refine fa ?_;replace I:=I.sub (O' _ (O' _ (O' _ (O' _ Z_))));refine⟨⟨i+1,_,Z',rfl,rfl,I⟩,by show p.n-(i+1)<p.n-i;omega, ?_⟩;exact Wb
  obtain rfl:i=p.n:=Z';rw[w' Z',P8 Z',M_] at t;have b:=kM h.ok E.2 Z';rw[<-t] at b |-;refine fa ?_;refine te (Xj p.v Y p.n m X (k+k) _ S I y Z' Z' b) rfl ?_;rintro e_ w39 ⟨g,og,rfl,I⟩;refine⟨_,rfl, ?_⟩;refine LO ?_;intro ws I;exact yR
 rw[Q' J];refine Ca func234 ?_;refine Am ?_;intro T w2 I D w3 I H w4 I;refine cd I (K _ (S.hp I) I.below) ?_;intro B I;refine CR ?_;exact abY
abbrev ZT:=List (List UInt8×Int)
def zT(L:ZT):List TR:=L.map λx=>⟨str x.1,nR ((x.2:Int):Dyadic)⟩
def zS(L:ZT)(b:List UInt8):Int:=match L with|[]=>0|x::L=>(if x.1=b then x.2 else 0)+zS L b
def OV(a b:Int):((a+b:Int):Dyadic)=(a:Dyadic)+(b:Dyadic):=(nq a b 0).symm
def BW{a:Int}(h:(a:Dyadic)=0):a=0:=Xt (p:=0) h
def VA(m:ByteArray):∀L:ZT,hh (zT L) m=(zS L m.data.toList:Int)
 |[]=>rfl
 |x::L=>by
  show hh (⟨str x.1,nR ((x.2:Int):Dyadic)⟩::zT L) m=((if x.1=m.data.toList then x.2 else 0)+zS L m.data.toList:Int);rw[Se,VA m L,OV];congr 1;by_cases h:x.1=m.data.toList
  .rw[P' h,P' (by rw[h];exact RP m)];exact Ga _
  rw[Q' h,Q' (λe=>h (by rw[<-e];exact(vc _).symm))];rfl
def zC:ZT->Bool
 |[]=>true
 |[x]=> !decide (x.2=0)
 |x::y::L=> !decide (x.2=0) && (Op.bytesLess x.1 y.1 && zC (y::L))
def dR:∀{L:ZT},zC L=true->Canon (zT L):=λ{L} h=>by
 have h1:∀{L:ZT},zC L=true->Js (zT L)=true/\∀x∈L,x.2≠0:=λ{L}=>by
  induction L with
  |nil=>exact λ_=>⟨rfl,λx C=>nomatch C⟩
  |cons x L W=>
   intro h
   cases L with
   |nil=>exact⟨rfl,λy hy=>by rw[q'.1 hy];simpa[zC] using h⟩
   |cons y L=>
    simp only[zC,l',n8,T6] at h;obtain⟨i1,i2⟩:=W h.2.2;refine⟨?_,λz o=> ?_⟩
    .show(eh (str x.1) (str y.1) && Js (zT (y::L)))=true;rw[i1,show eh (str x.1) (str y.1)=true by unfold eh;rw[vc,vc];exact h.2.1];rfl
    obtain rfl|o:=u'.1 o
    .exact h.1
    exact i2 z o
 obtain⟨i1,i2⟩:=h1 h;refine⟨Gr.1 i1,λt S=> ?_,λt S=> ?_⟩
 .obtain⟨x,C,rfl⟩:=B'.1 S;show(nR _).da≠0;rw[Ga];exact λe=>i2 x C (BW e)
 obtain⟨x,C,rfl⟩:=B'.1 S;show nR _=nR (nR _).da;rw[Ga]
def zE(L K:ZT):Bool:=(L++K).all λx=>decide (zS L x.1=zS K x.1)
def YK{L:ZT}{b:List UInt8}(h:∀x∈L,x.1≠b):zS L b=0:=by
 induction L with
 |nil=>rfl
 |cons x L W=>rw[zS,Q' (h x I'),W λy hy=>h y (L' _ hy)];rfl
def adt{L K:ZT}(h:zE L K=true)(b:List UInt8):zS L b=zS K b:=by
 by_cases F:∃x∈L++K,x.1=b
 .obtain⟨x,C,rfl⟩:=F;exact O9 (L_.1 h x C)
 rw[YK λx C e=>F ⟨x,M9 _ C,e⟩,YK λx C e=>F ⟨x,u9 _ C,e⟩]
def cO{L K:ZT}(h:(zC K && zE K L)=true):oa (zT L)=zT K:=by
 rw[l'] at h;exact(Lt (dR h.1) λm=>by rw[VA,VA,adt h.2]).symm
def zP(P Q:ZT):ZT:=P.flatMap λx=>Q.map λy=>((mulL x.1 y.1).1,x.2*y.2)
def zPE(P Q:ZT):List Int:=P.flatMap λx=>Q.map λy=>(mulL x.1 y.1).2
def zJ(L:ZT):(zT L).length=L.length:=D' _
def zM(v:Int)(L:ZT):Bool:=L.all λx=>ke x.1 && decide ((x.1.length:Int)=v)
def aaA{v:Int}{L:ZT}(h:zM v L=true):∀t∈zT L,Qd v t=true:=λt S=>by
 obtain⟨x,C,rfl⟩:=B'.1 S;have:=L_.1 h x C;unfold Qd;show(ke (str x.1).data.toList && decide (((str x.1).size:Int)=v))=true;rw[vc,yg];exact this
def HV{v:Int}{L:ZT}(Y:Tg v=true)(h:zM v L=true)(B:L.length<=4096):wi v (zT L)=0:=by
 unfold wi;rw[Q',Q' (by rw[zJ];omega)]
 .unfold Bf;rw[Q'];have:=Vb (zT L);rw[zJ] at this;omega
 rintro (h1|h1)
 .rw[Y] at h1;cases h1
 obtain⟨t,S,h2⟩:=W9.1 h1;rw[aaA h t S] at h2
 cases h2
def zB(L:ZT):Bool:=L.all λx=>decide (x.2.natAbs<256) && decide (x.1.length<=50)
def jz{L:ZT}(h:zB L=true):ug 24 (zT L)/\∀t∈zT L,t.m.size<=50:=by
 refine⟨λt S=> ?_,λt S=> ?_⟩
 .obtain⟨x,C,rfl⟩:=B'.1 S;have:=j9.1 (L_.1 h x C);have z:Sz 24 ((x.2:Int):Dyadic):=SW (m:=x.2) (e:=0) (O9 this.1) V' V';exact⟨z.ok V',by show Sz 24 (nR _).da;rw[Ga];exact z⟩
 obtain⟨x,C,rfl⟩:=B'.1 S;have:=j9.1 (L_.1 h x C);show(str x.1).size<=50;rw[yg];exact O9 this.2
end Go.Proofs.YtbencocchdpikaaGreatDoor
