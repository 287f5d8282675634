/- Lemmas for ratioEncloses, part 5. -/
import Derived.Test.YtbencocchdpikaaGreatDoorZ4
set_option linter.all false
set_option maxHeartbeats 0
namespace Go.Proofs.YtbencocchdpikaaGreatDoor
open Go.Proofs.Tryz
open Go.RowKit
variable {ts:List TR}
structure PX where
 v:Int
 A:t6
 n:Nat
 c:Nat
 ts:List TR
abbrev PX.V(p:PX):Value:=.agg #[wd p.v,wn p.A p.n p.c]
def PX.row(g:PX):HE:=.row g.A g.n g.c 72 4 (la TR.cells g.ts)
variable {w:World}
def PX.at_(g:PX)(w:World):Prop:=Sl w g.A g.n 4 (la TR.cells g.ts)
def PX.at_.ext{g:PX}{V:World}(h:g.at_ w)(F:Below w.heap.size w V):g.at_ V:=Sl.ext h F
def PX.at_.ln{g:PX}(h:g.at_ w):g.ts.length=g.n:=Sl.Aa h TR.len V'
variable {E:Int}
structure se(E v:Int)(ts:List TR)(g:PX):Prop where
 v:g.v=if E=0 then v else 0
 ts:g.ts=if E=0 then ts else[]
def PX.nil:PX:=⟨0,none,0,0,[]⟩
def se.err{v:Int}(h:E≠0):se E v ts PX.nil:=⟨by rw[R' h];rfl,by rw[R' h];rfl⟩
variable {w0:World}
def Hp.Qw{H:List HE}(h:Hp w0 H w):Hp w0 (PX.nil.row::H) w:=h.yb 72 4
variable {G:List HE}
def gB(A)(n c:Nat)(l)(k:Nat)(w)(S:Nd w)(I:Hp w0 (.row A n c 72 4 (la TR.cells l)::G) w)(Q:l.length=n)(B:n<=1000000)(u:k+n<=3999980)(W:Gh k l):Calls prog 210 #[wn A n c,.func (.func 133) #[] #[],.func (.func 134) #[] #[]] w λr V=>∃(L:List TR)(T:t6)(c':Nat),MD (k+n) l L/\r=.returned (wn T L.length c')/\Hp w0 (.row T L.length c' 72 4 (la TR.cells L)::G) V:=by
 refine(kp k n A n c l w (F' _) S (I.ka (i:=0) rfl) (I.Ae (i:=0) rfl) B u W).mono λr V h=> ?_;obtain⟨h1,rfl,F⟩|⟨h1,L,T,c',hm,rfl,a⟩:=h
 .exact⟨l,A,c,(MD.self (DC Z') W).mono Z',by rw[Q],by rw[Q];exact I.ext F⟩
 refine⟨L,T,c',hm,rfl, ?_⟩;exact(I.join a).sub (P' _ (L' _ (u_ _)))
def zeT(t:TR):Bool:=decide (t.c.fa=0)
def rL(l:List TR):(l.filter λz=> !zeT z)=l.filter Gq:=rfl
variable {o:Nat}
def GD(z:TR)(w):Zc 211 #[.agg #[wt z.m,ww z.c.neg,wt z.c.Ra,wd z.c.e]] w (ww (zeT z)):=by
 have I:=Hp.start w;refine Ga func211 ?_;refine Gb ?_;intro G Z I;refine cd I (Jd z.c _) ?_;intro v I;have o:z.c.i.sign=0↔z.c.fa=0:=(by exact tY);unfold zeT;by_cases J:z.c.fa=0
 .have K:=o.2 J;rw[w' J];refine ea ?_;exact⟨rfl,I.below⟩
 have K:¬z.c.i.sign=0:=λh=>J (o.1 h);rw[m' J];refine ea ?_;exact⟨rfl,I.below⟩
def Qf(l:List TR):Int:=if 4096<(oa l).length then 3 else 0
def zG{xs ys:List Value}{v:Value}(h:xs[o]?=some v):xb xs o (v::ys)=xb xs (o+1) ys:=by
 unfold xb;rw[ja h,V_,show o+(ys.length+1)=o+1+ys.length by omega];simp
def nfT(t:TR):TR:=⟨t.m,nR t.c.fa⟩
def vC{X:List TR}{i:Nat}{z:TR}(h:X[i]?=some z)(y:NR):xb (la TR.cells X) (i*4+1) [ww y.neg,wt y.Ra,wd y.e]=la TR.cells (X.set i ⟨z.m,y⟩):=by
 have J:(la TR.cells X)[i*4]?=some (wt z.m):=by
  have h1:=eu TR.len h;have h2:(((la TR.cells X).drop (i*4)).take 4)[0]?=some (wt z.m):=by rw[h1];rfl
  rwa[List.getElem?_take_of_lt V',U8,N9] at h2
 rw[<-zG J];exact ve TR.len (y:=⟨z.m,y⟩) (z'.1 h).1
def Kl(v:Int)(A)(n c:Nat)(l)(k:Nat)(w)(S:Nd w0)(I:Hp w0 (.row A n c 72 4 (la TR.cells l)::G) w)(Q:l.length=n)(K:n<=1000000)(F:k+n<=3999980)(W:Gh k l):Calls prog 135 #[wd v,wn A n c] w λr V=>∃g:PX,se (Qf l) v (oa l) g/\r=.returned (.tuple #[g.V,wd (Qf l)])/\Hp w0 (g.row::G) V:=by
 refine Ga func135 ?_;refine Gb ?_;intro D w4 I;refine ab8 ?_;intro I;refine Vg (gB A n c l k _ (S.hp I) I Q K F W) ?_;rintro H w8 ⟨L,j,p,b,rfl,I⟩;refine⟨_,rfl, ?_⟩;have hlen:=b.len;refine Hi (iL j L.length p L _ zeT _ I rfl Z' (λz Z _=>GD z Z)) rfl ?_;rintro H w9 ⟨rfl,I⟩;refine⟨_,rfl, ?_⟩;rw[rL] at I |-;have u:(L.filter Gq).length<=L.length:=a6 _ _;have E:(oa l).length=(L.filter Gq).length:=by rw[<-b.oa,B']
 have s:=b.oa;have y:Gh (k+n) (L.filter Gq):=λt P=>b.ok t (A9.1 P).1;generalize hM:L.filter Gq=M at*;by_cases Y:4096<M.length
 .rw[show Qf l=3 by unfold Qf;rw[Q' Z']];refine Gb ?_;intro ws I;replace I:=I.sub (L' _ (P' _ (u_ _)));refine Vk ?_;exact⟨PX.nil,se.err V',rfl,(I.sub (d_ _ _)).Qw⟩
 rw[show Qf l=0 by unfold Qf;rw[R' Z']];refine ea ?_;refine rf 16 (λv V=>∃(i:Nat)(X:List TR),i<=M.length/\v=wd i/\X.length=M.length/\X=(M.take i).map nfT++M.drop i/\Hp w0 (.row j M.length p 72 4 (la TR.cells X)::.blk D 24 [wd 0,wn none 0 0] (0,0)::G) V) (λv _=>M.length-(intOf v).toNat) ?_ ?_
 .exact⟨0,M,N' _,rfl,rfl,rfl,I⟩
 clear I;rintro ρ' v V ⟨i,X,hi,rfl,B,a,I⟩;by_cases J:i<M.length
 .obtain⟨z,o⟩:=aa (l:=M) (k:=i) Z';have e:X[i]?=some z:=(by rw[a,R9 (by rw[B',q'];omega),B',q',T9 Z',t_,U8];exact o);have C:=y z (O' o);have h:X.set i ⟨z.m,nR z.c.fa⟩=(M.take (i+1)).map nfT++M.drop (i+1):=(by rw[ja o,q_,a,q8 _ _ (by rw[B',q'];omega),B',q',T9 Z',t_,J_];congr 1;obtain⟨h1,h2⟩:=z'.1 o;rw[m9 h1,h2];rfl);have N:=ee TR.len X;obtain⟨R,rfl⟩:=I.ib (i:=0) rfl Z';refine ea ?_;refine sv (Ua (vs:=[_,_,_]) pa.out rfl ((I.Wc (f:=TR.cells) (x:=z) (l:=X) (i:=0) rfl TR.len V' e).drop 1) rfl) ?_;refine Gd I (Wd z.c _ (S.hp I) (by have:=C.1.1;omega) (by have:=C.1.2.1;omega) (by have:=C.1.2.2;omega)) rfl ?_;intro T I;refine ea ?_;refine uO ?_;intro ws I;rw[vC e,h] at I;refine ea ?_;refine⟨⟨i+1,_,Z',rfl, ?_,rfl,I⟩,by show M.length-(i+1)<M.length-i;omega, ?_⟩
  .rw[<-h,I9,B]
  exact Sb
 obtain rfl:i=M.length:=Z';rw[G' (F' _),T8 (F' _),I_] at a;have q:X=oa l:=by rw[a];exact s
 rw[q] at I;refine GU ?_;intro ws I;exact⟨⟨v,j,M.length,p,oa l⟩,⟨rfl,rfl⟩,rfl,I.sub (P' _ (L' _ (u_ _)))⟩
def Sq(s:t7)(n:Int)(w)(K:s.size<=9223372036854775807):Zc 151 #[wt s,wd n] w (ww (Le s.data.toList && decide ((s.size:Int)=n))):=by
 refine Ga func151 ?_;refine ea ?_;refine rf 8 (λv V=>∃k:Nat,k<=s.size/\v=wd k/\Le (s.data.toList.take k)=true/\V=w) (λv _=>s.size-(intOf v).toNat) ?_ ?_
 .exact⟨0,N' _,rfl,rfl,rfl⟩
 rintro ρ' v V ⟨k,u,rfl,hm,rfl⟩;by_cases D:k<s.size
 .refine uZ ?_;intro c E F B;refine ea ?_;rw[KF E B];exact⟨rfl,Below.refl _ _⟩
 refine sr ?_;refine Ji (ia (qa (cF ?_)));refine N2 ?_;intro hm;rw[hm];exact⟨rfl,Below.refl _ _⟩
def yt(s:t7)(w)(K:s.size<=9223372036854775807):Zc 151 #[wt s,wd s.size] w (ww (Le s.data.toList)):=by
 have h:=Sq s s.size w K;simpa using h
def Mn(s:t7)(n:Int)(w:World)(K:s.size<=9223372036854775807):Zc 159 #[wt s,wd n] w (ww (Le s.data.toList && decide ((s.size:Int)=n))):=by
 refine Ga func159 ?_;refine ea ?_;refine rf 5 (λv V=>∃k:Nat,k<=s.size/\v=wd k/\Le (s.data.toList.take k)=true/\V=w) (λv _=>s.size-(intOf v).toNat) ?_ ?_
 .exact⟨0,N' _,rfl,rfl,rfl⟩
 rintro ρ' v V ⟨k,u,rfl,hm,rfl⟩;by_cases D:k<s.size
 .refine uZ ?_;intro c E F B;refine ea ?_;rw[KF E B];exact⟨rfl,Below.refl _ _⟩
 refine qa (sr (mI (mS ?_)));refine sv (Mv Qa.out rfl) ?_;refine Ji (ia (cF ?_));refine N2 ?_;intro hm;rw[hm];exact⟨rfl,Below.refl _ _⟩
def CU(A)(n c:Nat)(xs)(w)(p:Sl w A n 1 (Fa xs))(B:n<=100000):Zc 331 #[wn A n c] w (.tuple #[wt (str (RT xs)),wd (cW xs)]):=by
 have hlen:xs.length=n:=by have:=p.1;rw[Hb] at this;omega
 have I:=Hp.start w;refine Ga func331 ?_;refine ea ?_;refine Jh 4 9 (λb i V=>∃(k c':Nat)(T:t6),k<=n/\i=wd k/\b=wn T k c'/\(xs.take k).all Tb=true/\Hp w [.row T k c' 5 1 (jj ((xs.take k).map Wq))] V) (λ_ v _=>n-(intOf v).toNat) ?_ ?_
 .exact⟨0,0,none,N' _,rfl,rfl,rfl,I.yb _ _⟩
 clear I;rintro ρ' b i V ⟨k,c',T,u,rfl,rfl,X,I⟩;by_cases D:k<n
 .obtain⟨x,C⟩:=aa (l:=xs) (k:=k) Z';obtain⟨a,rfl,H⟩:=(p.ext I.below).at_ Z';by_cases J:x<0
  .refine LL ?_;intro N L;exact⟨rfl,I.below⟩
  by_cases h1:127<x
  .refine LL ?_;intro N L;exact⟨rfl,I.below⟩
  have y:Tb x=true:=by simp[Tb];omega
  refine ea ?_;refine pD ?_;refine ea ?_;refine xr ?_;intro e d I;refine pb I (i:=1) rfl rfl rfl (I.ka (i:=0) rfl) Qa.out pa.out rfl V' rfl Z' Z' V' ?_;intro h g q I;refine jB ?_;intro I;refine⟨⟨k+1,g,h,Z',rfl,rfl,HG C X y, ?_⟩,by show n-(k+1)<n-k;omega, ?_⟩
  .rw[OE Z' Z',jT C y] at I;exact I
  exact Sb
 obtain rfl:k=n:=Z';rw[G' Z'] at X I;obtain⟨N,L⟩:=iu X;refine ea ?_;refine sv (Pe Qa.out Qa.out Qa.out rfl (I.ka (i:=0) rfl)) ?_;refine ea ?_;rw[N,L];exact⟨rfl,I.below⟩
def Bj(s:t7)(w)(K:s.size<=100000):Calls prog 166 #[wt s] w λe V=>∃A c,e=.returned (wn A (Qj s.data.toList).length c)/\V.ownsRow w.heap.size 3 1 (wn A (Qj s.data.toList).length c) (Qj s.data.toList).length (Fa (Qj s.data.toList))/\Below w.heap.size w V:=by
 have I:=Hp.start w;have M:=td s
 cases hm:Le s.data.toList with
 |false=>
  refine Ga func166 ?_;refine ea ?_;refine Gd I (yt s _ Z') rfl ?_;intro z I;rw[hm];refine ea ?_;rw[VR hm];exact vR
 |true=>
  refine Ga func166 ?_;refine ea ?_;refine Gd I (yt s _ Z') rfl ?_;intro z I;rw[hm];refine ea ?_;refine RE I Qa.out rfl V' ?_;intro b W I;skip;refine ea ?_;refine rf 3 (λv V=>∃(k c':Nat)(T:t6),k<=s.size/\v=wn T k c'/\Hp w [.row T k c' 3 1 (Fa (ints (s.data.toList.take k))),.it b s k] V) (λv _=>s.size-lenOf v) ?_ ?_
  .exact⟨0,0,none,N' _,rfl,I.yb _ _⟩
  clear I;rintro ρ' v V ⟨k,c',T,u,rfl,I⟩;by_cases D:k<s.size
  .obtain⟨c,E⟩:=aa (l:=s.data.toList) (k:=k) Z';have B:=kq hm E;refine sr ?_;refine tE I (i:=1) rfl rfl E B V' ?_;intro d I;simp only[l',Z9] at I;skip;refine ea ?_;refine xr ?_;intro a J I;refine pb I (i:=1) rfl rfl rfl (I.ka (i:=0) rfl) Qa.out pa.out rfl V' rfl Z' Z' V' ?_;intro h o g I;refine jB ?_;intro I;rw[Rz E] at I;refine⟨⟨k+1,o,h,Z',rfl,I⟩,by show s.size-(k+1)<s.size-k;omega, ?_⟩;exact Sb
  refine ea ?_;refine IE I (i:=1) rfl rfl D V' ?_;skip;refine ea ?_;obtain rfl:k=s.size:=Z';rw[G' Z'] at I;have h1:=I.at_ (i:=0) rfl;rw[Wm hm,jd,<-M];exact⟨T,c',rfl,h1,I.below⟩
def Zx(a b:t7)(g:FuncId)(f:Int->Int->Int)(w:World)(T:a.size<=100000)(F:b.size<=100000)[ma prog g] (X:∀(x y:Int)(w:World),0<=x->x<=127->0<=y->y<=127->Zc g #[wd x,wd y] w (wd (f x y))):Calls prog 329 #[wt a,wt b,.func (.func g) #[] #[]] w λe V=>
   (Ch f a.data.toList b.data.toList=none/\e=.returned (.tuple #[wn none 0 0,ww false])/\Below w.heap.size w V)\/
   ∃l,Ch f a.data.toList b.data.toList=some l/\l.length=b.size/\∃A c,e=.returned (.tuple #[wn A l.length c,ww true])/\V.ownsRow w.heap.size 3 1 (wn A l.length c) l.length (Fa l)/\Below w.heap.size w V:=by
 have I:=Hp.start w;have N:=td a;have o:=td b
 cases j:Le a.data.toList with
 |false=>
  refine Ga func329 ?_;refine ea ?_;refine Lc (Bj b _ F) ma.out rfl V' ?_;rintro H W ⟨z,L,rfl,t,M⟩;refine Zt ?_;intro I;refine ea ?_;refine cdC I (yt a _ Z') rfl ?_;intro d I;rw[j];refine ea ?_;exact .inl ⟨by simp[Ch,j],rfl,I.below⟩
 |true=>
  cases n:(Le b.data.toList && decide ((b.size:Int)=a.size)) with
  |false=>
   refine Ga func329 ?_;refine ea ?_;refine Lc (Bj b _ F) ma.out rfl V' ?_;rintro H W ⟨z,L,rfl,t,M⟩;refine Zt ?_;intro I;refine abe ?_;intro d I E I;have:(Le b.data.toList && decide ((b.data.toList.length:Int)=a.data.toList.length))=false:=by rw[<-N,<-o];exact n
   exact .inl ⟨by simp only[Ch,j,this];rfl,rfl,I.below⟩
  |true=>
   have p:=n;simp only[Z_,Y_] at p;have Y:Ch f a.data.toList b.data.toList=some (List.zipWith f (ints a.data.toList) (ints b.data.toList)):=(by exact aeC);have G:=Wm j;have J:=Wm p.1;have m:(ints a.data.toList).length=(ints b.data.toList).length:=by rw[jd,jd];omega
   have hlb:=jd b.data.toList;have hla:=jd a.data.toList;have R:=Bj a;have P:=Bj b;rw[G] at R;rw[J] at P;generalize hia:ints a.data.toList=K at*;generalize hib:ints b.data.toList=B at*;have S:∀(k:Nat)(x:Int),K[k]?=some x->0<=x/\x<=127:=λk x h=>BM (l:=a.data.toList) (by rw[G];exact h);have s:∀(k:Nat)(x:Int),B[k]?=some x->0<=x/\x<=127:=λk x h=>BM (l:=b.data.toList) (by rw[J];exact h);clear G J;refine Ga func329 ?_;refine ea ?_;refine Lc (P _ F) ma.out rfl V' ?_;rintro H W ⟨z,L,rfl,t,M⟩;refine Zt ?_;intro I;refine abe ?_;intro d I E I;refine Lc (R _ T) ma.out rfl V' ?_;rintro H w26 ⟨r,u,rfl,t,M⟩;refine Zt ?_;intro I;refine ea ?_;refine rf 28 (λi V=>∃k:Nat,k<=B.length/\i=wd k/\Hp w [.row r K.length u 3 1 (Fa K),.row z B.length L 3 1 (Fa (Uo f K B k))] V) (λi _=>B.length-(intOf i).toNat) ?_ ?_
   .exact⟨0,N' _,rfl,by rw[nT];exact I⟩
   clear I t M;rintro ρ' i V ⟨k,hk,rfl,I⟩;by_cases D:k<B.length
   .obtain⟨x,C⟩:=aa (l:=K) (k:=k) Z';obtain⟨y,hy⟩:=aa D;have bx:=S k x C;have q:=s k y hy;have hx2:=Db C;have hy2:=Db (acI (f:=f) m hy);have hml:=cX (f:=f) m hk;have Q:=Hb (Uo f K B k);obtain⟨ga,rfl⟩:=I.ib (i:=0) rfl Z';obtain⟨gb,rfl⟩:=I.ib (i:=1) rfl Z';refine ea ?_;refine EF ?_;refine ea ?_;refine aD ?_;refine Mh (X x y _ bx.1 bx.2 q.1 q.2) ma.out rfl rfl V' ?_;rintro H w41 ⟨rfl,M⟩;refine Ps ?_;intro I;refine ea ?_;refine cO ?_;refine Uv ?_;intro ws I;refine ea ?_;rw[W_,KW m C hy] at I;refine⟨⟨k+1,Z',rfl,I⟩,by show _-(k+1)<_-k;omega, ?_⟩;exact Sb
   refine ea ?_;obtain rfl:k=B.length:=Z';rw[aV m] at I;have h1:=I.at_ (i:=1) rfl;have v:(List.zipWith f K B).length=B.length:=by simp[m]
   refine .inr ⟨_,Y,Z',z,L, ?_⟩;rw[v];exact⟨rfl,h1,I.below⟩
def UO(a b:t7)(g:FuncId)(f:Int->Int->Int)(w:World)(M:a.size<=100000)(F:b.size<=100000)[ma prog g] (s:∀(x y:Int)(w:World),0<=x->x<=127->0<=y->y<=127->Zc g #[wd x,wd y] w (wd (f x y))) (h:Ch f a.data.toList b.data.toList=none):Zc 329 #[wt a,wt b,.func (.func g) #[] #[]] w (.tuple #[wn none 0 0,ww false]):=(Zx a b g f w M F s).mono λe V R=>by
  obtain R|⟨l,Q,_⟩:=R
  .exact R.2
  rw[h] at Q;cases Q
def HO(a b:t7)(g:FuncId)(f:Int->Int->Int)(w:World)(M:a.size<=100000)(F:b.size<=100000)[ma prog g] (s:∀(x y:Int)(w:World),0<=x->x<=127->0<=y->y<=127->Zc g #[wd x,wd y] w (wd (f x y)))
  {l:t4}(h:Ch f a.data.toList b.data.toList=some l):
  Calls prog 329 #[wt a,wt b,.func (.func g) #[] #[]] w λe V=>∃A c,e=.returned (.tuple #[wn A l.length c,ww true])/\V.ownsRow w.heap.size 3 1 (wn A l.length c) l.length (Fa l)/\Below w.heap.size w V:=
 (Zx a b g f w M F s).mono λe V R=>by
  obtain⟨B,_⟩|⟨D,Q,_,R⟩:=R
  .rw[h] at B;cases B
  rw[h] at Q;injection Q with Q;subst Q;exact R
def pP{f:Int->Int->Int}{a b:List UInt8}{l:t4}(h:Ch f a b=some l):l.length<=b.length:=by
 unfold Ch at h;split at h
 .injection h with h;subst h;simp[ints];omega
 cases h
def JA(x y:Int)(w)(h1:0<=x)(h2:x<=127)(G:0<=y)(z:y<=127):Zc 330 #[wd x,wd y] w (wd (x+y)):=by
 refine Ga func330 ?_;refine ea ?_;exact⟨rfl,Below.refl _ _⟩
def UP(a b:t7)(w)(e:a.size<=100000)(F:b.size<=100000):Zc 326 #[wt a,wt b] w (.tuple #[wt (str (mulL a.data.toList b.data.toList).1),wd (mulL a.data.toList b.data.toList).2]):=by
 have I:=Hp.start w;have o:=td b
 cases d:Ch (· + ·) a.data.toList b.data.toList with
 |none=>
  refine Ga func326 ?_;refine ea ?_;refine cd I (UO a b _ _ _ e F JA d) ?_;intro c I;refine ea ?_;simp only[mulL,d];exact⟨rfl,I.below⟩
 |some l=>
  have Q:=pP d;refine Ga func326 ?_;refine ea ?_;refine Vg (HO a b _ _ _ e F JA d) ?_;rintro H c ⟨J,j,rfl,t,M⟩;refine Zt ?_;intro I;refine ea ?_;refine Gd I (CU _ _ _ _ _ (I.ka (i:=0) rfl) Z') rfl ?_;intro D I;refine ea ?_;simp only[mulL,d];exact⟨trivial,I.below⟩
def gh(v:Int):Bool:=decide (0<=v) && decide (v<=12)
def Yc{v:Int}:gh v=true↔0<=v/\v<=12:=by unfold gh;rw[Z_,Y_,Y_]
def pq(v:Int)(w):Zc 128 #[wd v] w (ww (gh v)):=by
 have I:=Hp.start w;unfold gh;by_cases h1:0<=v
 .rw[w' h1,Bool.true_and];by_cases h2:v<=12
  .rw[w' h2];exact mU
  rw[m' h2];exact mU
 rw[m' h1,k7];exact mU
def nfB(a:NR):Bool:=decide ((nR a.fa).neg=a.neg) && (decide ((nR a.fa).Ra=a.Ra) && decide ((nR a.fa).e=a.e))
def Hq(a:NR):nfB a=true↔nR a.fa=a:=by
 unfold nfB;rw[Z_,Z_,Y_,Y_,Y_];constructor
 .rintro ⟨h1,h2,G⟩;obtain⟨s,m,e⟩:=a;generalize nR (NR.fa ⟨s,m,e⟩)=b at*;obtain⟨s',p,e'⟩:=b;simp only at h1 h2 G;rw[h1,h2,G]
 intro h;rw[h];exact⟨rfl,rfl,rfl⟩
def Rj(v:Int)(t:TR):Bool:=Le t.m.data.toList && decide ((t.m.size:Int)=v) && (Gq t && nfB t.c)
def Du:List TR->Bool
 |[]=>true
 |[_]=>true
 |a::b::l=>Nh a.m b.m && Du (b::l)
def MB:∀(l:List TR)(p x:TR),Du (l++[p,x])=(Du (l++[p]) && Nh p.m x.m)
 |[],p,x=>by show(Nh p.m x.m && true)=(true && Nh p.m x.m);rw[Bool.and_true,Bool.true_and]
 |[a],p,x=>(by show(Nh a.m p.m && (Nh p.m x.m && true))=((Nh a.m p.m && true) && Nh p.m x.m);rw[Bool.and_true,Bool.and_true])
 |a::b::l,p,x=>(by show(Nh a.m b.m && Du ((b::l)++[p,x]))=((Nh a.m b.m && Du ((b::l)++[p])) && Nh p.m x.m);rw[MB (b::l) p x,Bool.and_assoc])
def WN:∀{l:List TR}{i:Nat}{p x:TR},Du l=true->l[i]?=some p->l[i+1]?=some x->Nh p.m x.m=true
 |[],i,p,x,_,h,_=>by simp at h
 |[a],i,p,x,_,_,h=>by simp at h
 |a::b::l,0,p,x,h,h1,h2=>(by simp only[q7,E8,i',n7] at h1 h2;subst h1 h2;exact(O8.1 h).1)
 |a::b::l,i+1,p,x,h,h1,h2=>(by rw[n7] at h1 h2;exact WN (O8.1 h).2 h1 h2)
def Et:∀{l:List TR},Du l=true↔xx l
 |[]=>⟨λ_=>q6,λ_=>rfl⟩
 |[a]=>⟨λ_=>m6 _ _,λ_=>rfl⟩
 |a::b::l=>by
  show(Nh a.m b.m && Du (b::l))=true↔_;rw[Z_,Et (l:=b::l)];constructor
  .rintro ⟨h1,h2⟩;refine l9.2 ⟨λt S=> ?_,h2⟩;obtain rfl|S:=y'.1 S
   .exact h1
   exact Rk h1 ((l9.1 h2).1 t S)
  intro h;have:=l9.1 h;exact⟨this.1 b E',this.2⟩
def okB(v:Int)(ts:List TR):Bool:=ts.all (Rj v) && Du ts
def Ye(v:Int)(ts:List TR):Int:=if gh v=false then 1 else if 4096<ts.length then 3 else if okB v ts=true then 0 else 1
def bI{v:Int}(h1:gh v=true)(h2:¬4096<ts.length)(h:okB v ts=false):Ye v ts=1:=by
 unfold Ye;rw[R' (by rw[h1];decide),R' h2,R' (by rw[h];decide)]
def jq{v:Int}{i:Nat}{x:TR}(C:ts[i]?=some x)(h:Rj v x=false):okB v ts=false:=by
 unfold okB;rw[T5];refine .inl (Q7.2 λh2=> ?_);rw[M_.1 h2 x (O' C)] at h
 cases h
def gG{v:Int}{i:Nat}{p x:TR}(hp:ts[i]?=some p)(C:ts[i+1]?=some x)(h:Nh p.m x.m=false):okB v ts=false:=by
 unfold okB;rw[T5];refine .inr (Q7.2 λh2=> ?_);rw[WN h2 hp C] at h
 cases h
theorem fF(v:Int)(A:t6)(n c:Nat)(ts:List TR)(w:World)(hT:Nd w)(hS:Sl w A n 4 (la TR.cells ts))(hn:n<=1000000)(ho:∀t∈ts,t.c.ok/\t.m.size<=100000):Zc 83 #[.agg #[wd v,wn A n c]] w (wd (Ye v ts)):=by
 have I:=Hp.start w;have hln:=hS.Aa TR.len V';have u:=λZ=>pq v Z
 cases hf:gh v with
 |false=>
  rw[hf] at u;rw[show Ye v ts=1 by unfold Ye;rw[Q' hf]];exact M1
 |true=>
  rw[hf] at u;by_cases h4:4096<n
  .rw[show Ye v ts=3 by unfold Ye;rw[R' (by rw[hf];decide),Q' Z']];exact M1
  have M:=λh=>bI (v:=v) (ts:=ts) hf Z' h;refine Ga func83 ?_;refine Gb ?_;intro b1 Z I;refine cd I (u _) ?_;intro w7 I;refine ea ?_;refine rf 16 (λx V=>∃i:Nat,i<=n/\x=wd i/\(ts.take i).all (Rj v)=true/\Du (ts.take i)=true/\Hp w [.blk b1 24 [wd v,wn A n c] (0,0)] V) (λx _=>n-(intOf x).toNat) ?_ ?_
  .exact⟨0,N' _,rfl,rfl,rfl,I⟩
  clear I;rintro ρ' x_ V ⟨i,hi,rfl,X,g,I⟩;by_cases hlt:i<n
  .obtain⟨x,C⟩:=aa (l:=ts) (k:=i) Z';obtain⟨ad,rfl,hr⟩:=hS.at_ Z';obtain⟨hxo,hxm⟩:=ho x (O' C);have K:=λZ=>Sq x.m v Z Z';have z:=λZ=>Jd x.c Z;have j:=λZ hT1=>Wd x.c Z hT1 (by have:=hxo.1;omega) (by have:=hxo.2.1;omega) (by have:=hxo.2.2;omega);have hzz:x.c.i.sign=0↔x.c.fa=0:=(by exact tY)
   cases hm:Le x.m.data.toList && decide ((x.m.size:Int)=v) with
   |false=>
    rw[hm] at K;rw[M (jq C (by unfold Rj;rw[hm];rfl))];refine MM ?_;refine Ib ?_;intro b4 w4 I ws I;refine gz [] [] 33 I ?_;refine ub ?_;refine dC (λ_ hj=>K _) ?_;exact adx
   |true=>
    rw[hm] at K;by_cases hz:x.c.fa=0
    .have hs:=hzz.2 hz;rw[M (jq C (by unfold Rj Gq;rw[hm,w' hz];rfl))];refine MM ?_;refine Ib ?_;intro b4 w4 I ws I;refine gz [] [] 33 I ?_;refine ub ?_;refine dC (λ_ hj=>K _) ?_;refine ub ?_;refine rZ ?_;exact adx
    have hs:¬x.c.i.sign=0:=λh=>hz (hzz.1 h);by_cases hnf:nR x.c.fa=x.c
    .have hgood:Rj v x=true:=by unfold Rj Gq;rw[hm,m' hz,(Hq x.c).2 hnf];rfl
     have T:(ts.take (i+1)).all (Rj v)=true:=by rw[ja C,z6,X];simp[hgood]
     by_cases h0:i=0
     .refine CW ?_;(unhygienic intros)
      refine aaj ?_;refine ub ?_;refine xa ?_;intro f W Q a _;have N:=Q.bl;obtain⟨v53,v52,v51,v50,v49,v48,v47,v46,v45,v44,v43,v42,v41,v40,v39,Y,S,R,P,L,J,F,D,v30,B,H,y,s,r,o,E,G,e,_⟩:=a;replace I:=Q.hp;refine Be ?_;clear Q;refine gS (gT ?_)
      (first|refine lB ?_|refine VC ?_)
      refine aaH ?_;(unhygienic intros)
      exact Sb
     obtain⟨q,hq⟩:∃q,i=q+1:=⟨i-1,Z'⟩;obtain⟨p,hp⟩:=aa (l:=ts) (k:=q) Z'
     cases b:Nh p.m x.m with
     |false=>
      rw[M (gG hp (hq ▸ C) b)];have hge:(!(Op.bytesLess p.m.toList x.m.toList))=true:=by rw[dk,b];rfl
      refine CW ?_;(unhygienic intros)
      refine GZ ?_;refine dG (Ym (λ_ hj=>((hr.ext hj.hp.below).recAt TR.len hp).cell (i:=0) rfl) ?_);refine ub ?_;refine xa ?_;intro f W Q a _;have N:=Q.bl;obtain⟨v53,v52,v51,v50,v49,v48,v47,v46,v45,v44,v43,v42,v41,v40,v39,Y,S,R,P,L,J,F,D,v30,B,H,y,s,r,o,E,G,e,_⟩:=a;replace I:=Q.hp;refine Be ?_;clear Q;refine gT ?_;refine sv (Nq rfl rfl) ?_;refine gT ?_
      (first|refine lB ?_|refine VC ?_)
      refine ea ?_;rw[hge];refine ea ?_;exact⟨rfl,I.below⟩
     |true=>
      have hge:(!(Op.bytesLess p.m.toList x.m.toList))=false:=by rw[dk,b];rfl
      refine CW ?_;(unhygienic intros)
      refine GZ ?_;refine dG (Ym (λ_ hj=>((hr.ext hj.hp.below).recAt TR.len hp).cell (i:=0) rfl) ?_);refine ub ?_;refine xa ?_;intro f W Q a _;have N:=Q.bl;obtain⟨v53,v52,v51,v50,v49,v48,v47,v46,v45,v44,v43,v42,v41,v40,v39,Y,S,R,P,L,J,F,D,v30,B,H,y,s,r,o,E,G,e,_⟩:=a;replace I:=Q.hp;refine Be ?_;clear Q;refine gT ?_;refine sv (Nq rfl rfl) ?_;refine gT ?_
      (first|refine lB ?_|refine VC ?_)
      refine ea ?_;rw[hge];refine YZ ?_;(unhygienic intros)
      exact Sb
    rw[M (jq C (by unfold Rj Gq;rw[hm,m' hz,Q7.2 (λh=>hnf ((Hq x.c).1 h))];rfl))];refine CW ?_;(unhygienic intros)
    refine yF (i:=18) rfl (λU Z hj hR=>(show U 33=Value.bool _ from hR.2.2.1)) (λU Z hj hR=>yN (show U 36=Value.agg (List.toArray _) from hR.1) (show U 38=Value.agg (List.toArray _) from hR.2.1) (by assumption)) ?_;refine ub ?_;refine dn2 ?_;intro W I;refine ea ?_;exact⟨rfl,I.below⟩
  rw[G' Z'] at X g;rw[show Ye v ts=0 by unfold Ye okB;rw[R' (by rw[hf];decide),R' Z',X,g];rfl];refine ea ?_;exact⟨rfl,I.below⟩
def yf(v:Int)(t:TR):Bool:=Le t.m.data.toList && decide ((t.m.size:Int)=v)
def MI(z:TR)(v:Int)(b:Nat)(w:World)(hp:w.cell? ⟨b,0,none⟩=some (wd v))(o:z.m.size<=100000):Zc 205 #[.agg #[wt z.m,ww z.c.neg,wt z.c.Ra,wd z.c.e],.pointer (some ⟨b,0,none⟩)] w (ww (!yf v z)):=by
 have I:=Hp.start w;have K:=λZ=>Sq z.m v Z Z';unfold yf;refine Ga func205 ?_;refine Gb ?_;intro T q I;refine sv (Ma pa.out rfl (Ab I.below hp)) ?_;refine cd I (K _) ?_;intro a I
 cases Le z.m.data.toList && decide ((z.m.size:Int)=v) with
 |false=>
  refine ea ?_;exact⟨rfl,I.below⟩
 |true=>
  refine ea ?_;exact⟨rfl,I.below⟩
def pB(A)(n c:Nat)(l)(v:Int)(b:Nat)(w)(J:Sl w A n 4 (la TR.cells l))(B:n<=1000000)(hp:w.cell? ⟨b,0,none⟩=some (wd v))(o:∀t∈l,t.m.size<=100000):Zc 204 #[wn A n c,.func (.func 205) #[] #[.pointer (some ⟨b,0,none⟩)]] w (ww (l.any λt=> !yf v t)):=
 WJ A n c l 205 [.pointer (some ⟨b,0,none⟩)] (λt=> !yf v t) w J B λz Z a F=>MI z v b Z (Ab F hp) (o z a)
def Fl(v:Int)(l:List TR):Int:=if gh v=false\/(l.any λt=> !yf v t)=true then 1 else if 65536<l.length then 3 else Qf l
def Yv(v:Int)(A:t6)(n c:Nat)(l:List TR)(k:Nat)(w:World)(S:Nd w)(J:Sl w A n 4 (la TR.cells l))(K:n<=1000000)(hk:k<=2999980)(j:Gh k l)(X:∀t∈l,t.m.size<=100000):Calls prog 129 #[wd v,wn A n c] w λr V=>∃g:PX,se (Fl v l) v (oa l) g/\r=.returned (.tuple #[.agg #[wd g.v,wn g.A g.n g.c],wd (Fl v l)])/\Hp w [g.row] V:=by
 have I:=Hp.start w;have e:=J.Aa TR.len V';have u:=λZ=>pq v Z;have E:=λb Z F hp=>pB A n c l v b Z (J.ext F) K hp X
 cases Y:gh v with
 |false=>
  rw[Y] at u;rw[show Fl v l=1 by unfold Fl;rw[Q' (.inl Y)]];refine Ga func129 ?_;refine Ib ?_;intro T x I D y I;refine cd I (u _) ?_;intro B I;refine Gb ?_;intro ws I;exact M0
 |true=>
  rw[Y] at u
  cases M:l.any λt=> !yf v t with
  |true=>
   rw[M] at E;rw[show Fl v l=1 by unfold Fl;rw[Q' (.inr M)]];exact aa4
  |false=>
   rw[M] at E;have N:Fl v l=if 65536<l.length then 3 else Qf l:=by unfold Fl;rw[R' (by rw[Y,M];decide)]
   by_cases h6:65536<n
   .rw[N,Q' Z'];exact aa4
   rw[N,R' Z'];refine Ga func129 ?_;refine Ib ?_;intro T x I D y I;refine cd I (u _) ?_;intro B I;refine ea ?_;refine JI ?_;refine ea ?_;refine cd I (E _ _ I.below (I.Dd (i:=1) (o:=0) rfl rfl)) ?_;intro d I;refine ea ?_;refine wh [] [0,0,2,7,15,15,63,127] 3 [[(2,none)],[(1,none)],[(20,some 1)]] [(2,21),(1,20),(0,19)] [([],4,[(2,21),(1,20),(0,19)])] I mixed U' U' V' ?_;refine QM 1 ?_;refine OA ?_;refine ua (i:=2) (Vr I.sz 72 n 4 (la TR.cells l)) (Vr.ext) ?_ ?_
   .intro U Z hj hR;exact rb rfl (Ha fi (na (show U 20=Value.slice _ _ _ from hR.1) Oa)) (kn A n c l Z (J.ext hj.hp.below) K) (λ_ _ ⟨A,c,P,j,F⟩=>⟨_,P,F,A,c,rfl,bh j hj.bl.size⟩)
   refine xa ?_;intro p_ z;simp only[y',i_,or_false] at z;obtain rfl:=z
   intro f W Q L;have R:=Q.bl;obtain⟨q,v20,p,_⟩:=L;simp only[Yf];have C:f 0=_:=p;rw[C];have s:f 1=_:=v20;rw[s];obtain⟨h,G,H,a⟩:Vr _ _ _ _ _ (f 2) W:=q;rw[H];replace I:=JJ.UE I Q.hp a;clear a;clear C s H Q;refine Lc (Kl v h n G l k _ S I e Z' Z' j) fi rfl V' ?_;rintro e_ w22 ⟨g,og,rfl,I⟩;refine⟨_,rfl, ?_⟩;refine Bd ?_;refine sc (i:=4) (by repeat (first|exact Nc|refine Rb ?_|refine Mc ?_|refine np_scope ?_)) rfl U' U' U' (λ_=>bc (show _=Value.tuple (List.toArray _) from rfl) rfl) V' ?_;refine sc (i:=5) (by repeat (first|exact Nc|refine Rb ?_|refine Mc ?_|refine np_scope ?_)) rfl U' U' U' (λ_=>bc (show _=Value.tuple (List.toArray _) from rfl) rfl) V' ?_;refine Mj 6 V' U' V' U' U' ?_;refine Gb ?_;refine abo ?_;intro ws I;exact Fu
def PX.cells(g:PX):List Value:=[wd g.v,wn g.A g.n g.c]
def PX.len(g):(PX.cells g).length=2:=rfl
structure PX.qf(g:PX)(k:Nat):Prop where
 n:g.n<=1000000
 cap:g.n<=g.c
 ok:Gh k g.ts
 sz:∀t∈g.ts,t.m.size<=100000
def PX.e(g:PX):Int:=Ye g.v g.ts
def Fq(g:PX)(k:Nat)(w)(a:Nd w)(h:g.at_ w)(Q:g.qf k):Zc 83 #[g.V] w (wd g.e):=
 fF g.v g.A g.n g.c g.ts w a h Q.n λt S=>⟨(Q.ok t S).1,Q.sz t S⟩
def Pw(X:List PX):Bool:=X.any λg=>decide (g.v≠(X.map PX.v).headD 0)
def Te(X:List PX):Int:=match X.find? (λg=>decide (g.e≠0)) with|some g=>g.e|none=>if X.length=0\/Pw X=true then 1 else 0
def sK(L)(n c:Nat)(X)(f:PX)(p:Addr)(w)(a:Sl w L n 2 (la PX.cells X))(hp:w.cell? p=some (wn L n c))(B:0<n):Zc 208 #[f.V,.pointer (some p)] w (ww (decide (f.v≠(X.map PX.v).headD 0))):=by
 have I:=Hp.start w;have m:=a.Aa PX.len V';obtain⟨g,X,rfl⟩:∃g l,X=g::l:=by
  cases X with
  |nil=>exact absurd m (by show ¬0=n;omega)
  |cons g l=>exact⟨g,l,rfl⟩
 obtain⟨h,rfl,H⟩:=a.at_ B;have e:(((g::X).map PX.v).headD 0)=g.v:=rfl;rw[e];have J:(g::X)[0]?=some g:=rfl;by_cases s:f.v=g.v
 .refine j0 ?_;intro T q I;refine xa ?_;intro f W Q d;have b:=Q.bl;obtain⟨G,Y,o,v6,u,v4,_⟩:=d;replace I:=Q.hp;refine Be ?_;exact qR
 refine j0 ?_;intro T q I;refine dn ?_;intro W I;exact JU
theorem wL(A:t6)(n c:Nat)(l:List PX)(g:FuncId)(cap:List Value)(p:PX->Bool)(w:World)(J:Sl w A n 2 (la PX.cells l))(B:n<=1000000)[ma prog g] (s:∀(z:PX)(Z:World),z∈l->Below w.heap.size w Z->Calls prog g (.agg #[wd z.v,wn z.A z.n z.c]::cap).toArray Z λr V=>r=.returned (ww (p z))/\Below Z.heap.size Z V):Calls prog 263 #[wn A n c,.func (.func g) #[] cap.toArray] w λr V=>∃v,r=.returned (wd v)/\(0<=v↔l.any p=true)/\Below w.heap.size w V:=by
 have I:=Hp.start w;have m:=J.Aa PX.len V';refine Ga func263 ?_;refine ea ?_;refine rf 8 (λv V=>∃i:Nat,i<=n/\v=wd i/\(l.take i).any p=false/\Hp w [] V) (λv _=>n-(intOf v).toNat) ?_ ?_
 .exact⟨0,N' _,rfl,rfl,I⟩
 clear I;rintro ρ' v V ⟨i,hi,rfl,X,I⟩;by_cases D:i<n
 .obtain⟨z,o⟩:=aa (l:=l) (k:=i) Z';obtain⟨d,rfl,H⟩:=J.at_ Z';have E:=λZ=>s z Z (O' o)
  cases a:p z with
  |true=>
   rw[a] at E;refine ea ?_;refine sv (Ua (vs:=[_,_]) pa.out rfl ((H.ext I.below).recAt PX.len o) rfl) ?_;refine fM ?_;(unhygienic intros)
   refine⟨_,rfl, ?_⟩;replace I:=I.ext M;exact aby
  |false=>
   rw[a] at E;refine ea ?_;refine sv (Ua (vs:=[_,_]) pa.out rfl ((H.ext I.below).recAt PX.len o) rfl) ?_;refine fM ?_;exact mM
 exact JX
def Xz(A)(n c:Nat)(l)(g:FuncId)(cap)(p:PX->Bool)(w)(b:Sl w A n 2 (la PX.cells l))(B:n<=1000000)[ma prog g] (s:∀(z:PX)(Z:World),z∈l->Below w.heap.size w Z->Calls prog g (z.V::cap).toArray Z λr V=>r=.returned (ww (p z))/\Below Z.heap.size Z V):Zc 207 #[wn A n c,.func (.func g) #[] cap.toArray] w (ww (l.any p)):=by
 have I:=Hp.start w;refine Ga func207 ?_;refine ea ?_;refine Lc (wL A n c l g cap p _ (b.ext I.below) B s) ma.out rfl V' ?_;rintro H e ⟨d,rfl,a,M⟩;exact ab7
def yw(L:t6)(n c:Nat)(X:List PX)(k:Nat)(w:World)(S:Nd w)(f:Sl w L n 2 (la PX.cells X))(B:n<=1000000)(Y:∀g∈X,g.at_ w)(Q:∀g∈X,g.qf k):Zc 131 #[wn L n c] w (wd (Te X)):=by
 have I:=Hp.start w;have o:=f.Aa PX.len V';refine Ga func131 ?_;refine Gb ?_;intro G Z I;refine rf 8 (λv V=>∃i:Nat,i<=n/\v=wd i/\(X.take i).any (λg=>decide (g.e≠0))=false/\Hp w [.blk G 47 [wn L n c] (0,0)] V) (λv _=>n-(intOf v).toNat) ?_ ?_
 .exact⟨0,N' _,rfl,rfl,I⟩
 clear I;rintro ρ' v V ⟨i,hi,rfl,a,I⟩;by_cases p:i<n
 .obtain⟨g,C⟩:=aa (l:=X) (k:=i) Z';have M:=O' C;have E:=λZ P F=>Fq g k Z P ((Y g M).ext F) (Q g M);obtain⟨r,rfl,H⟩:=f.at_ Z';by_cases he:g.e=0
  .refine LM ?_;refine Ib ?_;intro D y I ws I;refine cd I (E _ (S.hp I) I.below) ?_;intro m I;refine ea ?_;replace I:=I.sub (L' _ (P' _ j'));refine⟨⟨i+1,Z',rfl,by rw[ja C,S8,a,Q8,M8,m' Z'];rfl,I⟩,by show n-(i+1)<n-i;omega, ?_⟩;exact Sb
  refine LM ?_;refine Ib ?_;intro D y I ws I;refine cd I (E _ (S.hp I) I.below) ?_;intro m I;refine ea ?_;refine⟨?_,I.below⟩;unfold Te;rw[Pm a C (w' he)]
 rw[G' Z'] at a;have j:Te X=if X.length=0\/Pw X=true then 1 else 0:=by unfold Te;rw[Sg a]
 rw[j];by_cases J:n=0
 .exact hU
 have d:V.cell? ⟨G,0,none⟩=some (wn L n c):=I.Dd (i:=0) rfl rfl;have W:=λZ F=>Xz L n c X 208 [.pointer (some ⟨G,0,none⟩)] (λg=>decide (g.v≠(X.map PX.v).headD 0)) Z (f.ext (I.below.trans (F.mono I.below.size))) B (λz q s R=>sK L n c X z ⟨G,0,none⟩ q ((f.ext (I.below.trans (F.mono I.below.size))).ext R) (Ab R (Ab F d)) Z')
 cases A:Pw X with
 |true=>
  have b:X.any (λg=>decide (g.v≠(X.map PX.v).headD 0))=true:=A;refine KS ?_;intro W T I;exact⟨by rw[Q' (.inr rfl)],I.below⟩
 |false=>
  have b:X.any (λg=>decide (g.v≠(X.map PX.v).headD 0))=false:=A;exact N1
open Go.ChangeShapes Go.WideShapes Go.ChangeAt Go.RowKit Go.ChangeMaps
variable {W:World}{base fuel:Nat}{cs:List Value}
set_option maxRecDepth 100000 in
def OJ{H:Type}{enc:TypeId×Value->H}{sp:Nat->Bool}{held:Bool}{x:DataW H×List MemPlace}(h:DataW.trod enc prog W base sp held fuel 72 cs=some x):
  ∃t:TR,cs=t.cells/\True:=by
 have L:prog.cellsOf 72=4:=by kernel_rfl
 have X:prog.cellsOf 9=1:=by kernel_rfl
 have Y:prog.cellsOf 30=3:=by kernel_rfl
 obtain⟨C,j,n,_,Q,J,h1⟩:=trod_struct2 Tryz.underlying72 h;obtain⟨s,S,_,_⟩:=DataW.trod_string Tryz.underlying9 J;obtain⟨a,N,_⟩:=wq h1;rw[L] at Q
 match cs,Q with
 |[P,p,d,o],_=>
  simp only[X,Y] at S N;unfold NR.cells at N;simp at S N;obtain⟨N,b,c⟩:=N;subst S N b c;exact⟨⟨s,a⟩,rfl,trivial⟩
set_option maxRecDepth 100000 in
def FJ{H:Type}{enc:TypeId×Value->H}{sp:Nat->Bool}{held:Bool}{x:DataW H×List MemPlace}(h:DataW.trod enc prog W base sp held fuel 24 cs=some x):
  ∃g:PX,cs=g.cells/\(g.at_ W/\g.n<=g.c):=by
 have L:prog.cellsOf 24=2:=by kernel_rfl
 have X:prog.cellsOf 3=1:=by kernel_rfl
 have Y:prog.cellsOf 22=1:=by kernel_rfl
 obtain⟨C,j,n,_,Q,J,h1⟩:=trod_struct2 Tryz.underlying24 h;obtain⟨z,S,_,_⟩:=DataW.trod_int Tryz.underlying3 J;obtain⟨B,m,b,k,N,s1,_⟩:=kL TR.len V' Tryz.underlying22 U' (λ_ _ _ h=>OJ h) h1;rw[N] at h1;have d:=wO Tryz.underlying22 h1;rw[L] at Q
 match cs,Q with
 |[P,p],_=>
  simp only[X,Y] at S N;simp at S N;subst S N;exact⟨⟨z,B,m,b,k⟩,rfl,s1,d⟩
set_option maxRecDepth 100000 in
def xC{H:Type}{enc:TypeId×Value->H}{r:Reach}{b0:Nat}{sp:Nat->Bool}{held:Bool}{v:Value}{d:DataW H}{X:List MemPlace} (s:Value.okWide prog W r b0 24 v)(T:DataW.Trod enc prog W base sp held 24 v d X):∃g:PX,v=.agg #[wd g.v,wn g.A g.n g.c]/\g.at_ W/\g.n<=g.c:=by
 obtain⟨cs,rfl,_⟩:=okWide_struct Tryz.underlying24 s;obtain⟨fuel,Y⟩:=T;obtain⟨f,h1,h2⟩:=FJ Y;refine⟨f, ?_,h2⟩;have G:cs.toList=f.cells:=h1;rw[<-Array.toList_inj.1 (show cs.toList=(#[wd f.v,wn f.A f.n f.c]:Array Value).toList from G)]
structure SR where
 lo:NR
 hi:NR
def SR.cells(s:SR):List Value:=[ww s.lo.neg,wt s.lo.Ra,wd s.lo.e,ww s.hi.neg,wt s.hi.Ra,wd s.hi.e]
def SR.len(s):(SR.cells s).length=6:=rfl
def SR.one(s):(SR.cells s).all Value.oneCell'=true:=rfl
def aJ(x y:Dyadic):Dyadic:=if y<x then y else x
def bJ(x y:Dyadic):Dyadic:=if x<y then y else x
def TQ(x)(y:Dyadic):xc (λx y=>decide (x<y)) [x,y]=aJ x y:=by simp[xc,aJ]
def aR(x)(y:Dyadic):xc (λx y=>decide (y<x)) [x,y]=bJ x y:=by simp[xc,bJ]
def SR.pe(s:SR):Dyadic:=aJ s.lo.fa s.hi.fa
def SR.Zg(s:SR):Dyadic:=bJ s.lo.fa s.hi.fa
def SR.f(s:SR):SR:=⟨nR s.pe,nR s.Zg⟩
def SR.ok(s:SR):Prop:=s.lo.ok/\s.hi.ok
def SR.has(s:SR)(x:Dyadic):Bool:=decide (¬x<s.pe/\¬s.Zg<x)
def SR.wid(s:SR):Dyadic:=s.Zg-s.pe
def SR.ai(s:SR):Dyadic:=(s.lo.fa+s.hi.fa)*Ic (-1)
def abR(x)(y:Dyadic):aJ x y=x\/aJ x y=y:=by unfold aJ;split<;>simp
def acy(x)(y:Dyadic):bJ x y=x\/bJ x y=y:=by unfold bJ;split<;>simp
def PU(x)(y:Dyadic):¬bJ x y<aJ x y:=by unfold bJ aJ;split<;>split<;>grind
variable {k:Nat}
structure ql(k:Nat)(a:NR):Prop where
 ok:a.ok
 sz:Sz k a.fa
def SR.fin(k:Nat)(s:SR):Prop:=ql k s.lo/\ql k s.hi
def ql.of{x:Dyadic}(h:Sz k x)(u:k<=3000000):ql k (nR x):=⟨h.ok Z',by rw[Ta];exact h⟩
def SR.szL{s:SR}(h:s.fin k):Sz k s.pe:=by
 unfold SR.pe;obtain e|e:=abR s.lo.fa s.hi.fa<;>rw[e]
 .exact h.1.sz
 exact h.2.sz
def SR.szH{s:SR}(h:s.fin k):Sz k s.Zg:=by
 unfold SR.Zg;obtain e|e:=acy s.lo.fa s.hi.fa<;>rw[e]
 .exact h.1.sz
 exact h.2.sz
def SR.Bw{s:SR}(h:s.fin k)(u:k<=3000000):s.f.fin k:=⟨ql.of (SR.szL h) u,ql.of (SR.szH h) u⟩
def KA(L)(n c:Nat)(l)(w)(S:Nd w)(J:Sl w L n 3 (la NR.cells l))(Q:∀a∈l,a.ok)(B:n<=1000000):Zc 95 #[wn L n c] w (.agg (SR.cells ⟨nR (xc (λx y=>decide (x<y)) (l.map NR.fa)),nR (xc (λx y=>decide (y<x)) (l.map NR.fa))⟩).toArray):=by
 have I:=Hp.start w;refine Ga func95 ?_;refine Gb ?_;intro T q I;refine cd I (KJ L n c l _ (S.hp I) (J.ext I.below) Q B) ?_;intro b I;refine mL ?_;refine cd I (IJ L n c l _ (S.hp I) (J.ext I.below) Q B) ?_;intro A I;refine abu ?_;intro ws I;exact⟨rfl,I.below⟩
def Gz(s:SR)(w)(S:Nd w)(K:s.ok):Zc 126 #[.agg s.cells.toArray] w (.agg s.f.cells.toArray):=by
 have I:=Hp.start w;have E:=λL c Z P N=>KA L 2 c [s.lo,s.hi] Z P N (by simpa using show s.lo.ok/\s.hi.ok from K) Z';simp only[T_,f_,TQ,aR] at E;refine Ga func126 ?_;refine Ib ?_;intro G Z I T q I;refine bw ?_;intro t e I;refine cd I (E _ _ _ (S.hp I) (I.ka (i:=0) rfl)) ?_;intro o I;refine aaf ?_;intro ws I;exact⟨rfl,I.below⟩
def dF(s:SR)(w)(S:Nd w)(K:s.ok):Zc 136 #[.agg s.cells.toArray] w (.agg s.f.cells.toArray):=by
 have I:=Hp.start w;refine Ga func136 ?_;refine Ib ?_;intro G Z I T q I;refine cd I (Gz s _ (S.hp I) K) ?_;intro y I;refine abu ?_;intro ws I;exact⟨rfl,I.below⟩
def mr(s:SR)(k:Nat)(w)(S:Nd w)(K:s.fin k)(u:k<=3000000):Zc 65 #[.agg s.cells.toArray] w (.agg #[ww (nR s.wid).neg,wt (nR s.wid).Ra,wd (nR s.wid).e]):=by
 have I:=Hp.start w;have Y:=SR.Bw K u;have E:=λZ P=>Pr (nR s.Zg) (nR s.pe) Z P Y.2.ok Y.1.ok k Y.2.sz Y.1.sz Z';simp only[Ta] at E;refine Ga func65 ?_;refine Ib ?_;intro G Z I T q I;refine cd I (Gz s _ (S.hp I) ⟨K.1.ok,K.2.ok⟩) ?_;intro v I;refine Ib ?_;intro j p I ws I;refine cd I (E _ (S.hp I)) ?_;intro W I;refine wQ ?_;intro ws I;exact⟨rfl,I.below⟩
def VH(s:SR)(k:Nat)(w)(S:Nd w)(K:s.fin k)(u:k<=3000000):Zc 146 #[.agg s.cells.toArray] w (.agg #[ww (nR s.ai).neg,wt (nR s.ai).Ra,wd (nR s.ai).e]):=by
 have I:=Hp.start w;have E:=λL c Z P N=>Uh L 2 c [s.lo,s.hi] Z P N (by simpa using And.intro K.1.ok K.2.ok) k (by simpa using And.intro K.1.sz K.2.sz) Z';simp only[T_,f_,Zk] at E;have W:=(K.1.sz.add K.2.sz).ok Z';have l:=λZ P=>Yt (nR (s.lo.fa+s.hi.fa)) (-1) Z P (by have:=W.1;omega) (by have:=W.2;omega) (by have:=W.2;omega) Z' Z';rw[Ta] at l;refine Ga func146 ?_;refine Ib ?_;intro G Z I T q I;refine bw ?_;intro t a I;refine cd I (E _ _ _ (S.hp I) (I.ka (i:=0) rfl)) ?_;intro o I;refine cd I (l _ (S.hp I)) ?_;intro z I;refine wQ ?_;intro ws I;exact⟨rfl,I.below⟩
set_option maxRecDepth 100000 in
def CJ{H:Type}{enc:TypeId×Value->H}{sp:Nat->Bool}{held:Bool}{x:DataW H×List MemPlace}(h:DataW.trod enc prog W base sp held fuel 36 cs=some x):
  ∃a:SR,cs=a.cells/\True:=by
 have L:prog.cellsOf 36=6:=by kernel_rfl
 have X:prog.cellsOf 30=3:=by kernel_rfl
 obtain⟨C,j,n,_,Q,J,h1⟩:=trod_struct2 Tryz.underlying36 h;obtain⟨a,S,_⟩:=wq J;obtain⟨b,N,_⟩:=wq h1;rw[L] at Q
 match cs,Q with
 |[P,p,c,o,T,f],_=>
  simp only[X] at S N;simp[NR.cells] at S N;obtain⟨rfl,rfl,rfl⟩:=S;obtain⟨rfl,rfl,rfl⟩:=N;exact⟨⟨a,b⟩,rfl,trivial⟩
set_option maxRecDepth 100000 in
def XS{H:Type}{enc:TypeId×Value->H}{r:Reach}{b0:Nat}{sp:Nat->Bool}{held:Bool}{v:Value}{d:DataW H}{X:List MemPlace} (s:Value.okWide prog W r b0 26 v)(T:DataW.Trod enc prog W base sp held 26 v d X):∃(A:t6)(n c:Nat)(l:List SR),v=wn A n c/\Sl W A n 6 (la SR.cells l)/\∀a∈l,True:=
 AP SR.len V' Tryz.underlying26 U' (λ_ _ _ h=>CJ h) s T
variable {α:Type}
def sm{α:Type}:List α->(α->Dyadic)->Dyadic
 |[],_=>0
 |a::l,f=>f a+sm l f
def Lk(l m:List α)(f:α->Dyadic):sm (l++m) f=sm l f+sm m f:=by
 induction l with
 |nil=>simp[sm,k8]
 |cons a l W=>simp only[I',sm,W];grind
def Kj(l:List α)(a:α)(f:α->Dyadic):sm (l++[a]) f=sm l f+f a:=by
 rw[Lk];simp only[sm];grind
def Ea{l:List α}{f g:α->Dyadic}(h:∀a∈l,f a=g a):sm l f=sm l g:=by
 induction l with
 |nil=>rfl
 |cons a l W=>rw[sm,sm,h a E',W λb F=>h b (u' _ F)]
def sk{l:List α}{f:α->Dyadic}(h:∀a∈l,f a=0):sm l f=0:=by
 induction l with
 |nil=>rfl
 |cons a l W=>rw[sm,h a E',W λb F=>h b (u' _ F)];grind
def Ev(l:List α)(f g:α->Dyadic):sm l (λa=>f a+g a)=sm l f+sm l g:=by
 induction l with
 |nil=>simp[sm]
 |cons a l W=>simp only[sm,W];grind
def Ui(l:List α)(f:α->Dyadic)(c):sm l (λa=>f a*c)=sm l f*c:=by
 induction l with
 |nil=>simp only[sm];grind
 |cons a l W=>simp only[sm,W];grind
def cg(l:List α)(f:α->Dyadic)(c):sm l (λa=>c*f a)=c*sm l f:=by
 induction l with
 |nil=>simp only[sm];grind
 |cons a l W=>simp only[sm,W];grind
variable {β:Type}
def Po(l:List α)(g:α->β)(f:β->Dyadic):sm (l.map g) f=sm l λa=>f (g a):=by
 induction l with
 |nil=>rfl
 |cons a l W=>rw[T_,sm,sm,W]
def iA(l:List α)(g:α->List β)(f:β->Dyadic):sm (l.flatMap g) f=sm l λa=>sm (g a) f:=by
 induction l with
 |nil=>rfl
 |cons a l W=>rw[M7,Lk,sm,W]
def qk(l:List α)(m:List β)(f:α->β->Dyadic):sm l (λa=>sm m (f a))=sm m λb=>sm l λa=>f a b:=by
 induction l with
 |nil=>exact(sk λb _=>rfl).symm
 |cons a l W=>simp only[sm];rw[W,<-Ev]
def gP(l:List α)(p:α->Bool)(f:α->Dyadic)(h:∀a∈l,p a=false->f a=0):sm (l.filter p) f=sm l f:=by
 induction l with
 |nil=>rfl
 |cons a l W=>
  rw[sm,<-W λb F=>h b (u' _ F)]
  cases hp:p a with
  |true=>rw[List.filter_cons_of_pos hp,sm]
  |false=>rw[o6 (by rw[hp];exact Bool.false_ne_true),h a E' hp];grind
def Gk(n p:Nat)(c):sm (List.range n) (λq=>if q=p then c else 0)=if p<n then c else 0:=by
 induction n with
 |zero=>rw[R' Z'];rfl
 |succ n W=>
  rw[J8,Kj,W];obtain h|h|h:=u6 p n
  .rw[Q' h,R' (show ¬n=p by omega),Q' (show p<n+1 by omega)];grind
  .rw[R' (show ¬p<n by omega),Q' h.symm,Q' (show p<n+1 by omega)];grind
  rw[R' (show ¬p<n by omega),R' (show ¬n=p by omega),R' (show ¬p<n+1 by omega)];grind
variable {N:Nat}
def Qh(N:Nat)(L:List (Nat×Dyadic)):t5:=(List.range N).map λp=>sm L λq=>if q.1=p then q.2 else 0
def Kh(N:Nat)(L:List (Nat×Dyadic)):(Qh N L).length=N:=by simp[Qh]
def Oy(N:Nat):Qh N []=List.replicate N 0:=by
 refine List.ext_getElem (by simp[Qh]) λi h1 h2=> ?_;simp[Qh,sm]
def Zl{p:Nat}(L:List (Nat×Dyadic))(h:p<N):(Qh N L)[p]?=some (sm L λq=>if q.1=p then q.2 else 0):=by
 unfold Qh;rw[C',y_ h];rfl
def UB{p:Nat}{L:List (Nat×Dyadic)}{x v:Dyadic}(h:(Qh N L)[p]?=some x):(Qh N L).set p (x+v)=Qh N (L++[(p,v)]):=by
 have hp:p<N:=by have:=(z'.1 h).1;rwa[Kh] at this
 rw[Zl L hp] at h;refine s_ λi=> ?_;rw[g_];by_cases hi:p=i
 .subst hi;rw[Q' rfl,Kh,Q' hp,Zl _ hp,Kj,<-P_ h,Q' rfl]
 rw[R' hi];by_cases w:i<N
 .rw[Zl _ w,Zl _ w,Kj,R' hi];congr 1;grind
 rw[X_ (by rw[Kh];omega),X_ (by rw[Kh];omega)]
def yR{l:List α}{f:α->Dyadic}(h:∀a∈l,Sz k (f a)):Sz (k+l.length) (sm l f):=by
 induction l with
 |nil=>exact Sz.zero _
 |cons a l W=>
  have h1:=W λb F=>h b (u' _ F);have h2:=((h a E').mono (show k<=k+l.length by omega)).add h1;rw[sm,V_];exact h2.mono Z'
def bE{L:List (Nat×Dyadic)}(h:∀a∈L,Sz k a.2):∀x∈Qh N L,Sz (k+L.length) x:=λx C=>by
 obtain⟨p,_,rfl⟩:=x'.1 C;refine yR λa M=> ?_;split
 .exact h a M
 exact Sz.zero _
def da:t3->Nat
 |[]=>1
 |d::ds=>(d+1)*da ds
def Xa:t3->Nat->t3
 |[],_=>[]
 |d::ds,p=>p % (d+1)::Xa ds (p/(d+1))
def Ec:t3->t3->Nat
 |d::ds,r::rs=>r+(d+1)*Ec ds rs
 |_,_=>0
def Ah:t3->t3->Prop
 |[],[]=>True
 |d::ds,r::rs=>r<=d/\Ah ds rs
 |_,_=>False
def Wb(ds:t3):0<da ds:=by
 induction ds with
 |nil=>exact Nat.one_pos
 |cons d ds W=>exact H7 Z' W
def cf:∀(ds:t3)(p:Nat),(Xa ds p).length=ds.length
 |[],_=>rfl
 |d::ds,p=>by rw[Xa,V_,cf ds,V_]
def Vf:∀(ds:t3)(p:Nat),Ah ds (Xa ds p)
 |[],_=>trivial
 |d::ds,p=>⟨by have:=R_ p (show 0<d+1 by omega);omega,Vf ds _⟩
def Wo:∀{ds:t3}{p:Nat},p<da ds->Ec ds (Xa ds p)=p
 |[],p,h=>(by have:p<1:=h;show 0=p;omega)
 |d::ds,p,h=>by
  have h1:p/(d+1)<da ds:=by rw[S9 Z',d'];exact h
  rw[Xa,Ec,Wo h1,N7]
def Xg:∀{ds rs:t3},Ah ds rs->Ec ds rs<da ds
 |[],[],_=>Nat.one_pos
 |d::ds,r::rs,h=>(by have h1:=Xg h.2;have h2:=h.1;rw[Ec,da];have G:(d+1)*Ec ds rs+(d+1)<=(d+1)*da ds:=(by have:=O_ (d+1) (show Ec ds rs+1<=da ds by omega);rw[j_,W_] at this;exact this);omega)
def Cf:∀{ds rs:t3},Ah ds rs->Xa ds (Ec ds rs)=rs
 |[],[],_=>rfl
 |d::ds,r::rs,h=>(by have h2:=h.1;rw[Ec,Xa,V8,G_ Z',B9 _ _ Z',k_ Z',i',Cf h.2])
def St(d:Nat)(ds)(f:Nat->Dyadic):sm (List.range (da (d::ds))) f=sm (List.range (da ds)) λq=>sm (List.range (d+1)) λr=>f (r+(d+1)*q):=by
 have key:∀n,sm (List.range ((d+1)*n)) f=sm (List.range n) λq=>sm (List.range (d+1)) λr=>f (r+(d+1)*q):=λn=>by
  induction n with
  |zero=>rfl
  |succ n W=>
   rw[J8,Kj,<-W,p9,List.range_add,Lk,Po];congr 1;exact Ea λa _=>by rw[F8]
 exact key _
def zm(d:Int):t4:=(List.range (d.toNat+1)).map λ(k:Nat)=>(k:Int)
def ff:t4->List (t4)
 |[]=>[[]]
 |d::ds=>(zm d).flatMap λk=>(ff ds).map (k:: ·)
def Je(n:Nat):t4:=List.replicate n 0
def nxt:t4->t4->Option (t4)
 |d::ds,k::l=>match nxt ds l with
  |some D=>some (k::D)
  |none=>if k<d then some ((k+1)::Je l.length) else none
 |_,_=>none
def agc{α:Type}(f:α->Option α):α->List α->Prop
 |a,[b]=>b=a/\f a=none
 |a,b::L=>b=a/\∃c,f a=some c/\agc f c L
 |_,[]=>False
def Ys(n:Nat):(Je n).length=n:=by simp[Je]
def Ot:∀(ds:t4)(l:t4),l∈ff ds->l.length=ds.length
 |[],l,h=>by simp[ff] at h;simp[h]
 |d::ds,l,h=>(by simp only[ff,k9,x'] at h;obtain⟨k,_,D,h2,rfl⟩:=h;simp[Ot ds D h2])
def Zq(d:Int):∀ds:t4,ff (ds++[d])=(ff ds).flatMap λp=>(zm d).map λk=>p++[k]
 |[]=>by simp only[J',ff,M7,List.flatMap_nil,I_,T_,f_];induction zm d with
  |nil=>rfl
  |cons a l W=>simp[W]
 |e::ds=>(by simp only[I',ff,Zq d ds,List.map_flatMap,List.flatMap_assoc,List.flatMap_map,E_,Function.comp_def])
def xw(d:Int):(zm d).length=d.toNat+1:=by simp[zm]
def Nu(d:Int)(ds:t4):(ff (ds++[d])).length=(ff ds).length*(d.toNat+1):=by
 rw[Zq,List.length_flatMap];simp only[B',xw]
 induction ff ds with
 |nil=>simp
 |cons a l W=>simp[W,K8];omega
def MA:Int->t4->Bool
 |_,[]=>true
 |n,d::ds=>decide (0<=d) && (decide (d<=127) && (decide (n*(d+1)<=65536) && MA (n*(d+1)) ds))
def fX(l:t4):t7:=str (l.map Wq)
def Qy(ds:t4):List t7:=if MA 1 ds then(ff ds).map fX else[]
def XG:∀ds:t4,0<(ff ds).length
 |[]=>by simp[ff]
 |d::ds=>(by simp only[ff,zm,List.length_flatMap];rw[List.range_succ_eq_map];have:=XG ds;simp;omega)
def nJ:∀(ds:t4)(n:Int),MA n ds=true->∀d∈ds,0<=d/\d<=127
 |[],_,_,d,h=>by simp at h
 |e::ds,n,h,d,T=>by
  simp only[MA,Z_,Y_] at h;obtain rfl|T:=y'.1 T
  .exact⟨h.1,h.2.1⟩
  exact nJ ds _ h.2.2.2 d T
def TI{ds:t4}{d n:Int}(u:ds[k]?=some d)(h:MA 1 ds=MA n (ds.drop k))(F:(0<=d/\d<=127)/\n*(d+1)<=65536):
  MA 1 ds=MA (n*(d+1)) (ds.drop (k+1)):=by
 obtain⟨D,he⟩:=z'.1 u;rw[h,m9 D,he];simp[MA,F.1.1,F.1.2,F.2]
def Hx{ds:t4}{d n:Int}(u:ds[k]?=some d)(h:MA 1 ds=MA n (ds.drop k))(F:¬((0<=d/\d<=127)/\n*(d+1)<=65536)):MA 1 ds=false:=by
 obtain⟨D,he⟩:=z'.1 u;rw[h,m9 D,he];simp only[MA,T5,W6];obtain h1|h1:=Classical.em (0<=d)<;>obtain h2|h2:=Classical.em (d<=127)
 .exact .inr (.inr (.inl Z'))
 .exact .inr (.inl h2)
 .exact .inl h1
 exact .inl h1
def uj{ds:t4}{d:Int}(u:ds[k]?=some d)(J:0<=d):((ff (ds.take (k+1))).length:Int)=(ff (ds.take k)).length*(d+1):=by
 rw[ja u,Nu,m_];congr 1;omega
def Cy{ds:t4}(h:MA 1 ds=true):∀k,k<=ds.length->MA 1 ds=MA (ff (ds.take k)).length (ds.drop k)/\(ff (ds.take k)).length<=65536
 |0,_=>⟨by simp[ff],by simp[ff]⟩
 |k+1,u=>by
  obtain⟨h1,h2⟩:=Cy h k Z';obtain⟨d,T⟩:=aa (l:=ds) (k:=k) Z';have F:=nJ ds 1 h d (O' T);by_cases E:((ff (ds.take k)).length:Int)*(d+1)<=65536
  .have G:=TI T h1 ⟨F,E⟩;have z:=uj T F.1;rw[<-z] at G E;exact⟨G,Z'⟩
  have:=Hx T h1 λx=>E x.2;rw[h] at this;cases this
def gX(d:Int)(s:t7):List t7:=(zm d).map λq=>s++str [Wq q]
def QY{ds:t4}{d:Int}(u:ds[k]?=some d):(ff (ds.take (k+1))).map fX=((ff (ds.take k)).map fX).flatMap (gX d):=by
 rw[ja u,Zq,List.map_flatMap,List.flatMap_map];congr 1;funext p;simp only[gX,E_];apply J9;intro q _;simp only[Function.comp,fX,q_,Lx,T_,f_]
def vZ{d:Int}{s:t7}{q:Nat}(R:(q:Int)<=d):(gX d s)[q]?=some (s++str [Wq q]):=by
 simp only[gX,zm,E_,C',y_ (show q<d.toNat+1 by omega),n9,Function.comp]
def OO(d:Int)(s):(gX d s).length=d.toNat+1:=by simp[gX,zm]
variable {j:Nat}
def adE{d:Int}{S:List t7}{s:t7}(K:S[j]?=some s)(q:Nat):((S.take j).flatMap (gX d)++(gX d s).take q).length<=(S.flatMap (gX d)).length:=by
 have e:S.flatMap (gX d)=(S.take j).flatMap (gX d)++(gX d s++(S.drop (j+1)).flatMap (gX d)):=by
  obtain⟨h1,h2⟩:=z'.1 K
  conv=>lhs;rw[<-Y9 j S,m9 h1,h2]
  rw[r8,M7]
 rw[e];simp only[D',q'];omega
def tX{ds:t4}{s:t7}(K:((ff (ds.take k)).map fX)[j]?=some s):s.size<=k:=by
 have:=O' K;obtain⟨l,Q,rfl⟩:=x'.1 this;have:=Ot _ l Q;simp only[fX,eh,B'];simp at this;omega
def ah6(ls:t4)(k n:Nat):t4:=ls.take k++Je (n-k)
variable {n:Nat}
def bin:Nat->Nat->Nat
 |_,0=>1
 |0,_+1=>0
 |n+1,k+1=>bin n k+bin n (k+1)
def Uj(n:Nat):bin n 0=1:=by cases n<;>rfl
def Ts:∀{n k:Nat},n<k->bin n k=0
 |0,k+1,_=>rfl
 |n+1,k+1,h=>by rw[bin,Ts (show n<k by omega),Ts (show n<k+1 by omega)]
def Pz:∀n,bin n n=1
 |0=>rfl
 |n+1=>by rw[bin,Pz n,Ts (show n<n+1 by omega)]
def Uz:∀n k:Nat,bin n k<=2^n
 |n,0=>by rw[Uj];exact L_ V'
 |0,k+1=>N' _
 |n+1,k+1=>(by have h1:=Uz n k;have h2:=Uz n (k+1);rw[bin,B_];omega)
def Co(n:Nat):t3:=(List.range (n+1)).map (bin n)
def qy(n:Nat):(Co n).length=n+1:=by simp[Co]
def qx(h:k<=n):(Co n)[k]?=some (bin n k):=by
 unfold Co;exact ZS
def nD(n:Nat):Dyadic:=((n:Int):Dyadic)
def vD:nD 0=0:=rfl
def Ns:nD 1=1:=rfl
def Hv(a b:Nat):nD (a+b)=nD a+nD b:=by
 show Dyadic.ofIntWithPrec ((a+b:Nat):Int) 0=Dyadic.ofIntWithPrec (a:Int) 0+Dyadic.ofIntWithPrec (b:Int) 0;rw[qu,G9]
def ZK(a b:Nat):nD (a*b)=nD a*nD b:=by
 induction a with
 |zero=>rw[W7,vD];grind
 |succ a W=>rw[U9,Hv,Hv,W,Ns];grind
def GS(h:n<2^k):Sz k (nD n):=by
 refine⟨(n:Int)*2^k, ?_, ?_⟩
 .have:=Zp (n:Int) 0 k;rw[show(0:Int)+(k:Int)=k by omega] at this;rw[this];rfl
 rw[H8,S7,Int.natAbs_natCast,show 2*k=k+k by omega,Q_];exact m8 h (L_ V')
def As{α β:Type}{m:Nat}(hm:0<m)(g:α->List β):∀(l:List α)(p:Nat),(∀a∈l,(g a).length=m)->(l.flatMap g)[p]?=(l[p/m]?).bind λa=>(g a)[p % m]?
 |[],p,_=>by simp
 |a::l,p,h=>by
  have M:=h a E';rw[M7];by_cases hp:p<m
  .rw[o9 Z',k_ hp,G_ hp];rfl
  obtain⟨q,rfl⟩:∃q,p=q+m:=⟨p-m,Z'⟩;rw[R9 Z',M,Nat.add_sub_cancel,As hm g l q λb F=>h b (u' _ F),Nat.add_div_right _ hm,Nat.add_mod_right,n7]
def vp{α β:Type}{m:Nat}(g:α->List β):∀(l:List α),(∀a∈l,(g a).length=m)->(l.flatMap g).length=l.length*m
 |[],_=>by simp
 |a::l,h=>(by rw[M7,D',h a E',vp g l λb F=>h b (u' _ F),V_,U9,F8])
def sa(l:t3):t4:=l.map λ(n:Nat)=>(n:Int)
def Za(l):(sa l).length=l.length:=by simp[sa]
def jc{l:t3}{i:Nat}(h:l[i]?=some n):(sa l)[i]?=some (n:Int):=by simp[sa,h]
variable {rs:t3}
def Ey:∀(rs:t3),(ff (sa rs.reverse)).length=da rs/\∀p,p<da rs->(ff (sa rs.reverse))[p]?=some (sa (Xa rs p).reverse)
 |[]=>⟨rfl,λp h=>by obtain rfl:p=0:=(by have h2:p<1:=h;omega);rfl⟩
 |d::rs=>by
  obtain⟨h1,h2⟩:=Ey rs;have N:sa (d::rs).reverse=sa rs.reverse++[(d:Int)]:=by simp[sa]
  have hu:(zm (d:Int)).length=d+1:=by rw[xw];simp
  have s:∀a∈ff (sa rs.reverse),((zm (d:Int)).map λk=>a++[k]).length=d+1:=λa _=>by rw[B',hu]
  rw[N,Zq];refine⟨by rw[vp _ _ s,h1,da,d'],λp hp=> ?_⟩;have R:p/(d+1)<da rs:=by rw[S9 Z',d'];exact hp
  have H:p % (d+1)<d+1:=R_ _ Z';rw[As Z' _ _ _ s,h2 _ R];show((zm (d:Int)).map λk=>sa (Xa rs (p/(d+1))).reverse++[k])[p % (d+1)]?=_;rw[C',zm,C',y_ (by simpa using H)];simp[Xa,sa]
def lR(ds):(ff (sa ds)).length=da ds.reverse:=by
 have:=(Ey ds.reverse).1;rwa[I8] at this
def vW{ds:t3}{p:Nat}(h:p<da ds.reverse):(ff (sa ds))[p]?=some (sa (Xa ds.reverse p).reverse):=by
 have:=(Ey ds.reverse).2 p h;rwa[I8] at this
def Cq:∀{ds rs:t3},Ah ds rs->rs.length=ds.length
 |[],[],_=>rfl
 |_::_,_::_,h=>by rw[V_,V_,Cq h.2]
variable {r:Nat}
def My{ds:t3}{i d:Nat}(T:ds[i]?=some d)(H:rs[i]?=some r):Ec (ds.take (i+1)).reverse (rs.take (i+1)).reverse=r+(d+1)*Ec (ds.take i).reverse (rs.take i).reverse:=by
 rw[ja T,ja H];simp[Ec]
def dz{ds:t3}{i d:Nat}(T:ds[i]?=some d):da (ds.take (i+1)).reverse=(d+1)*da (ds.take i).reverse:=by
 rw[ja T];simp[da]
def zd(a:t3)(b):da (a++b)=da a*da b:=by
 induction a with
 |nil=>simp[da]
 |cons d a W=>rw[I',da,da,W,V9]
def qb(ds:t3):da ds.reverse=da ds:=by
 induction ds with
 |nil=>rfl
 |cons d ds W=>rw[Y8,zd,W,da,da,da,W_,d']
def we(ds:t3)(i:Nat):da (ds.take i)<=da ds:=by
 have:ds=ds.take i++ds.drop i:=(Y9 i ds).symm
 calc da (ds.take i)=da (ds.take i)*1:=(W_ _).symm
  _<=da (ds.take i)*da (ds.drop i):=O_ _ (Wb _)
  _=da ds:=by rw[<-zd,Y9]
def Zn(A)(n c:Nat)(ds)(w)(J:Sl w A n 1 (Fa ds))(a:n<=1000000):Calls prog 164 #[wn A n c] w λr V=>∃B c',r=.returned (wn B n c')/\V.ownsRow w.heap.size 3 1 (wn B n c') n (Fa ds)/\Below w.heap.size w V:=by
 have I:=Hp.start w;obtain _|b:=A
 .have y:n=0:=(by exact acm);subst y;have Q:ds=[]:=s9 (by simpa[Fa] using J.1);subst Q;refine Ga (l:=[wn none 0 c]) func164 ?_;exact eV
 refine Ga (l:=[wn (some b) n c]) func164 ?_;refine ea ?_;refine du ?_;intro R v I;refine mL ?_;refine pb I (i:=0) rfl rfl rfl (J.ext I.below) Qa.out pa.out rfl V' ?one1 Z' Z' V' ?kk1
 case one1=>first|rfl|assumption|exact Ja _|exact oneCells_u8s _
 intro d H e I;exact SS
def jo(A)(n c:Nat)(xs)(w)(J:Sl w A n 3 (la NR.cells xs))(e:n<=1000000):Calls prog 236 #[wn A n c] w λr V=>∃B c',r=.returned (wn B n c')/\V.ownsRow w.heap.size 30 3 (wn B n c') n (la NR.cells xs)/\Below w.heap.size w V:=by
 have I:=Hp.start w;obtain _|b:=A
 .have y:n=0:=(by exact acm);subst y;have Q:xs=[]:=s9 (by have:=J.Aa NR.len V';omega);subst Q;refine Ga (l:=[wn none 0 c]) func236 ?_;exact eV
 have a:((la NR.cells xs).all Value.oneCell')=true:=Pa NR.one _;refine Ga (l:=[wn (some b) n c]) func236 ?_;refine ea ?_;refine du ?_;intro R v I;refine mL ?_;refine pb I (i:=0) rfl rfl rfl (J.ext I.below) Qa.out pa.out rfl V' ?one2 Z' Z' V' ?kk2
 case one2=>first|rfl|assumption|exact Ja _|exact oneCells_u8s _
 intro d H f I;exact SS
theorem oL(A:t6)(n c:Nat)(l:t4)(g:FuncId)(cap:List Value)(p:Int->Bool)(w:World)(J:Sl w A n 1 (Fa l))(B:n<=1000000)[ma prog g] (s:∀(z:Int)(Z:World),z∈l->Below w.heap.size w Z->Calls prog g (wd z::cap).toArray Z λr V=>r=.returned (ww (p z))/\Below Z.heap.size Z V):Calls prog 239 #[wn A n c,.func (.func g) #[] cap.toArray] w λr V=>∃v,r=.returned (wd v)/\(0<=v↔l.any p=true)/\Below w.heap.size w V:=by
 have I:=Hp.start w;have m:l.length=n:=by have:=J.1;simpa[Fa] using this
 refine Ga func239 ?_;refine ea ?_;refine rf 8 (λv V=>∃i:Nat,i<=n/\v=wd i/\(l.take i).any p=false/\Hp w [] V) (λv _=>n-(intOf v).toNat) ?_ ?_
 .exact⟨0,N' _,rfl,rfl,I⟩
 clear I;rintro ρ' v V ⟨i,hi,rfl,X,I⟩;by_cases D:i<n
 .obtain⟨z,o⟩:=aa (l:=l) (k:=i) Z';have S:=Db o;obtain⟨d,rfl,H⟩:=J.at_ Z';have E:=λZ=>s z Z (O' o)
  cases a:p z with
  |true=>
   rw[a] at E;refine ea ?_;refine sv (Ma pa.out rfl ((H.ext I.below).Dl S)) ?_;refine fM ?_;(unhygienic intros)
   refine Ps ?_;intro I;exact aby
  |false=>
   rw[a] at E;refine ea ?_;refine sv (Ma pa.out rfl ((H.ext I.below).Dl S)) ?_;refine fM ?_;exact mM
 exact JX
def xK(A)(n c:Nat)(l)(g:FuncId)(cap)(p:Int->Bool)(w)(b:Sl w A n 1 (Fa l))(B:n<=1000000)[ma prog g] (s:∀(z:Int)(Z:World),z∈l->Below w.heap.size w Z->Calls prog g (wd z::cap).toArray Z λr V=>r=.returned (ww (p z))/\Below Z.heap.size Z V):Zc 171 #[wn A n c,.func (.func g) #[] cap.toArray] w (ww (l.any p)):=by
 have I:=Hp.start w;refine Ga func171 ?_;refine ea ?_;refine Lc (oL A n c l g cap p _ (b.ext I.below) B s) ma.out rfl V' ?_;rintro H e ⟨d,rfl,a,M⟩;exact ab7
theorem oK(A:t6)(n c:Nat)(l:List NR)(g:FuncId)(cap:List Value)(p:NR->Bool)(w:World)(J:Sl w A n 3 (la NR.cells l))(B:n<=1000000)[ma prog g] (s:∀(z:NR)(Z:World),z∈l->Below w.heap.size w Z->Calls prog g (.agg #[ww z.neg,wt z.Ra,wd z.e]::cap).toArray Z λr V=>r=.returned (ww (p z))/\Below Z.heap.size Z V):Calls prog 240 #[wn A n c,.func (.func g) #[] cap.toArray] w λr V=>∃v,r=.returned (wd v)/\(0<=v↔l.any p=true)/\Below w.heap.size w V:=by
 have I:=Hp.start w;have m:=J.Aa NR.len V';refine Ga func240 ?_;refine ea ?_;refine rf 8 (λv V=>∃i:Nat,i<=n/\v=wd i/\(l.take i).any p=false/\Hp w [] V) (λv _=>n-(intOf v).toNat) ?_ ?_
 .exact⟨0,N' _,rfl,rfl,I⟩
 clear I;rintro ρ' v V ⟨i,hi,rfl,X,I⟩;by_cases D:i<n
 .obtain⟨z,o⟩:=aa (l:=l) (k:=i) Z';obtain⟨f,rfl,H⟩:=J.at_ Z';have E:=λZ=>s z Z (O' o)
  cases a:p z with
  |true=>
   refine aa2 ?_;(unhygienic intros)
   refine Ps ?_;intro I;exact aby
  |false=>
   refine aa2 ?_;exact mM
 exact JX
def fJ(A)(n c:Nat)(l)(g:FuncId)(cap)(p:NR->Bool)(w)(b:Sl w A n 3 (la NR.cells l))(B:n<=1000000)[ma prog g] (s:∀(z:NR)(Z:World),z∈l->Below w.heap.size w Z->Calls prog g (z.V::cap).toArray Z λr V=>r=.returned (ww (p z))/\Below Z.heap.size Z V):Zc 173 #[wn A n c,.func (.func g) #[] cap.toArray] w (ww (l.any p)):=by
 have I:=Hp.start w;refine Ga func173 ?_;refine ea ?_;refine Lc (oK A n c l g cap p _ (b.ext I.below) B s) ma.out rfl V' ?_;rintro H f ⟨d,rfl,a,M⟩;exact ab7
def Lf:Int->t4->Int
 |n,[]=>n
 |n,d::ds=>if d<0\/127<d\/4096<n*(d+1) then 0 else Lf (n*(d+1)) ds
def Ww:Int->t4->Int
 |n,[]=>n
 |n,d::ds=>Ww (min (n*(d+1)) 4097) ds
def El(ds:t4):Int:=if ds.any (λd=> !Tb d) then -1 else Ww 1 ds
def Vw(a:NR):Bool:= !(((nR a.fa).neg==a.neg && (nR a.fa).Ra==a.Ra) && (nR a.fa).e==a.e)
def Om{a:NR}:Vw a=false↔nR a.fa=a:=by
 unfold Vw;rw[Bool.not_eq_false',Il]
def fE(ds:t4)(cs:List NR):Int:=
 if 12<ds.length\/ds.any (λd=> !Tb d)=true then 1 else if Lf 1 ds=0 then 3 else if(cs.length:Int)≠Lf 1 ds then 1 else if cs.any Vw=true then 1 else 0
def xv{ds:t4}(h:ds.any (λd=> !Tb d)=false):∃ns:t3,ds=sa ns/\∀n∈ns,n<=127:=by
 refine⟨ds.map Int.toNat, ?_,λn B=> ?_⟩
 .unfold sa;rw[E_];refine(m7 ds).symm.trans (J9 λd T=> ?_);have:=P9.1 h d T;simp[Tb] at this;show d=((d.toNat:Nat):Int);omega
 obtain⟨d,T,rfl⟩:=x'.1 B;have:=P9.1 h d T;simp[Tb] at this;omega
def kK{ns:t3}(h:∀n∈ns,n<=127):(sa ns).any (λd=> !Tb d)=false:=by
 rw[P9];intro d T;obtain⟨n,B,rfl⟩:=x'.1 T;have:=h n B;simp[Tb];omega
def Ih:∀(ns:t3)(n:Nat),1<=n->n<=4096->(∀d∈ns,d<=127)->Lf n (sa ns)=if n*da ns<=4096 then((n*da ns:Nat):Int) else 0
 |[],n,_,h,_=>by show(n:Int)=_;rw[da,W_,Q' h]
 |d::ns,n,h1,h2,G=>by
  show(if(d:Int)<0\/127<(d:Int)\/4096<(n:Int)*((d:Int)+1) then 0 else Lf ((n:Int)*((d:Int)+1)) (sa ns))=_;have T:=G d E';have N:(n:Int)*((d:Int)+1)=((n*(d+1):Nat):Int):=by rw[m_,G9];rfl
  rw[N];by_cases s:n*(d+1)<=4096
  .rw[R' Z',Ih ns (n*(d+1)) (H7 h1 Z') s λx C=>G x (u' _ C),da,V9]
  have z:n*(d+1)*1<=n*(d+1)*da ns:=O_ _ (Wb ns);rw[Q' Z',R'];rw[da,<-V9];omega
def Ko:∀(ns:t3)(n:Nat),1<=n->n<=4097->Ww n (sa ns)=((min (n*da ns) 4097:Nat):Int)
 |[],n,_,h=>by show(n:Int)=_;rw[da,W_,T9 h]
 |d::ns,n,h1,h2=>by
  show Ww (min ((n:Int)*((d:Int)+1)) 4097) (sa ns)=_;have N:min ((n:Int)*((d:Int)+1)) 4097=((min (n*(d+1)) 4097:Nat):Int):=by
   have:(n:Int)*((d:Int)+1)=((n*(d+1):Nat):Int):=by rw[m_,G9];rfl
   rw[this];omega
  have hp:=H7 h1 (show 0<d+1 by omega);rw[N,Ko ns _ Z' Z',da,<-V9];by_cases s:n*(d+1)<=4097
  .rw[T9 s]
  have z:n*(d+1)*1<=n*(d+1)*da ns:=O_ _ (Wb ns);have P:4097*1<=4097*da ns:=O_ _ (Wb ns);rw[Nat.min_eq_right (by omega:4097<=n*(d+1)),Nat.min_eq_right Z',Nat.min_eq_right Z']
def GM:∀(ds:t4)(n:Int),1<=n->n<=4096->0<=Lf n ds/\Lf n ds<=4096
 |[],n,_,h=>by show 0<=n/\n<=4096;omega
 |d::ds,n,h1,h2=>by
  rw[Lf];split
  .omega
  rename_i s;have:1*1<=n*(d+1):=P6 h1 Z' V' Z';exact GM ds _ Z' Z'
variable {xs:t5}
structure FV(ds:t4)(cs:List NR)(ns:t3)(xs:t5):Prop where
 deg:ds=sa ns
 num:cs=xs.map nR
 VT:ns.length<=12
 low:∀n∈ns,n<=127
 len:xs.length=da ns
 max:da ns<=4096
def GQ{ds:t4}{cs:List NR}(h:fE ds cs=0):∃ns xs,FV ds cs ns xs/\xs=cs.map NR.fa:=by
 unfold fE at h;split at h
 .cases h
 rename_i h1;split at h
 .cases h
 rename_i h2;split at h
 .cases h
 rename_i G;split at h
 .cases h
 rename_i z;have F:ds.any (λd=> !Tb d)=false:=by
  cases C:ds.any (λd=> !Tb d) with
  |false=>rfl
  |true=>exact absurd (.inr C) h1
 obtain⟨ns,rfl,Q⟩:=xv F;have E:=Ih ns 1 V' V' Q;rw[R8] at E;have q:Lf ((1:Nat):Int) (sa ns)=Lf 1 (sa ns):=rfl;rw[q] at E;have o:da ns<=4096:=(by apply N8;intro s;rw[R' s] at E;exact h2 E);rw[Q' o] at E;have hlen:cs.length=da ns:=(by have:(cs.length:Int)=Lf 1 (sa ns):=C9.1 G;rw[E] at this;omega);refine⟨ns,cs.map NR.fa,⟨rfl, ?_,(by have h2:¬12<(sa ns).length:=λh=>h1 (.inl h);rw[Za] at h2;omega),Q,by rw[B',hlen],o⟩,rfl⟩;rw[E_];refine(m7 cs).symm.trans (J9 λa M=> ?_);have P:Vw a=false:=by
  cases C:Vw a with
  |false=>rfl
  |true=>exact absurd (E9.2 ⟨a,M,C⟩) z
 exact(Om.1 P).symm
def FV.ok{ds:t4}{cs:List NR}{ns:t3}(h:FV ds cs ns xs):fE ds cs=0:=by
 obtain⟨rfl,rfl,h1,h2,G,z⟩:=h;have E:=Ih ns 1 V' V' h2;rw[R8,Q' z] at E;have q:Lf ((1:Nat):Int) (sa ns)=Lf 1 (sa ns):=rfl;rw[q] at E;have hp:=Wb ns;unfold fE;rw[R',R' Z',R' (by rw[B'];omega),R']
 .rw[E9];rintro ⟨a,M,C⟩;obtain⟨x,_,rfl⟩:=x'.1 M;have:Vw (nR x)=false:=Om.2 (by rw[Ta]);rw[this] at C
  cases C
 rw[Za,kK h2];rintro (h|h)
 .omega
 cases h
def tg(A)(n c:Nat)(ds)(w)(J:Sl w A n 1 (Fa ds))(B:n<=1000000):Zc 165 #[wn A n c] w (wd (Lf 1 ds)):=by
 have I:=Hp.start w;have m:ds.length=n:=by have:=J.1;simpa[Fa] using this
 refine Ga func165 ?_;refine ea ?_;refine Jh 3 8 (λy v V=>∃(i:Nat)(q:Int),i<=n/\v=wd i/\y=wd q/\1<=q/\q<=4096/\Lf 1 ds=Lf q (ds.drop i)/\Hp w [] V) (λ_ v _=>n-(intOf v).toNat) ?_ ?_
 .exact⟨0,1,N' _,rfl,rfl,Z',Z',rfl,I⟩
 clear I;rintro ρ' y v V ⟨i,q,hi,rfl,rfl,M,s,E,I⟩;by_cases D:i<n
 .obtain⟨d,T⟩:=aa (l:=ds) (k:=i) Z';have S:=Db T;obtain⟨b,rfl,H⟩:=J.at_ Z';rw[Wf T,Lf] at E;by_cases h1:d<0
  .rw[Q' (.inl h1)] at E;refine Xv ?_;exact⟨by rw[E],I.below⟩
  by_cases h2:127<d
  .rw[Q' (.inr (.inl h2))] at E;refine Xv ?_;exact⟨by rw[E],I.below⟩
  have z:1*1<=q*(d+1):=P6 M Z' V' Z';have K:q*(d+1)<=4096*128:=P6 s Z' Z' V';by_cases G:4096<q*(d+1)
  .rw[Q' (.inr (.inr G))] at E;refine Xv ?_;exact⟨by rw[E],I.below⟩
  rw[R' Z'] at E;refine Xv ?_;refine⟨⟨i+1,_,Z',rfl,rfl,Z',Z',E,I⟩,by show n-(i+1)<n-i;omega, ?_⟩;exact Sb
 rw[T8 Z'] at E;refine ea ?_;exact⟨by rw[E];rfl,I.below⟩
def XK(d:Int)(w):Zc 172 #[wd d] w (ww (!Tb d)):=by
 have I:=Hp.start w;by_cases h1:d<0
 .refine Ga func172 ?_;refine ea ?_;refine⟨?_,I.below⟩;unfold Tb;rw[m' (show ¬0<=d by omega)];rfl
 by_cases h2:127<d
 .refine Ga func172 ?_;refine ea ?_;refine⟨?_,I.below⟩;unfold Tb;rw[m' (show ¬d<=127 by omega),Bool.and_false];rfl
 refine Ga func172 ?_;refine ea ?_;refine⟨?_,I.below⟩;unfold Tb;rw[w' (show 0<=d by omega),w' (show d<=127 by omega)];rfl
def LK(a:NR)(w)(S:Nd w)(M:a.ok):Zc 174 #[a.V] w (ww (Vw a)):=by
 have I:=Hp.start w;have Y:=λZ P=>Wd a Z P (by have:=M.1;omega) (by have:=M.2;omega) (by have:=M.2;omega)
 cases C:Vw a with
 |false=>
  have he:=Om.1 C;refine Ga func174 ?_;refine Gb ?_;intro G Z I;refine Od 3 I ?_;refine dC (λ_ hj=>Y _ (S.hp hj.hp)) ?_;refine ub ?_;refine xa ?_;intro f W Q b;have A:=Q.bl;obtain⟨u,v4,y,_⟩:=b;replace I:=Q.hp;refine Be ?_;refine Xt rfl rfl (by first|assumption|rfl) V' ?_;refine ea ?_;exact⟨rfl,I.below⟩
 |true=>
  have he:¬nR a.fa=a:=λh=>by rw[Om.2 h] at C;cases C
  refine Ga func174 ?_;refine Gb ?_;intro G Z I;refine Od 3 I ?_;refine dC (λ_ hj=>Y _ (S.hp hj.hp)) ?_;refine ub ?_;refine dn ?_;intro W I;refine dx rfl rfl (by assumption) V' ?_;refine ea ?_;exact⟨rfl,I.below⟩
theorem EB(A B:t6)(n c m Y:Nat)(ds:t4)(cs:List NR)(w:World)(S:Nd w)(J:Sl w A n 1 (Fa ds))(e:Sl w B m 3 (la NR.cells cs))(b:n<=1000000)(hm:m<=1000000)(r:∀a∈cs,a.ok):Zc 96 #[.agg #[wn A n c,wn B m Y]] w (wd (fE ds cs)):=by
 have I:=Hp.start w;have u:ds.length=n:=by have:=J.1;simpa[Fa] using this
 have s:=e.Aa NR.len V';have h1:=λZ N=>xK A n c ds 172 [] (λd=> !Tb d) Z N b (λz q _ F=>XK z q);have h2:=λZ (P:Nd Z) N=>fJ B m Y cs 174 [] Vw Z N hm (λz q v F=>LK z q (P.ext F) (r z v));have x:=GM ds 1 Z' Z';unfold fE;by_cases T:12<n
 .refine Ga func96 ?_;refine Gb ?_;intro G Z I;exact⟨by rw[Q' (.inl Z')],I.below⟩
 cases j:ds.any (λd=> !Tb d) with
 |true=>
  refine Ga func96 ?_;refine Gb ?_;intro G Z I;refine cd I (h1 _ (J.ext I.below)) ?_;intro t I;rw[j];refine ea ?_;exact⟨by rw[Q' (.inr rfl)],I.below⟩
 |false=>
  rw[R' (λh=>h.elim (λh=>by omega) (λh=>by cases h))];by_cases K:Lf 1 ds=0
  .refine Ga func96 ?_;refine Gb ?_;intro G Z I;refine cd I (h1 _ (J.ext I.below)) ?_;intro t I;rw[j];refine ea ?_;refine cd I (tg A n c ds _ (J.ext I.below) b) ?_;intro g I;refine ea ?_;exact⟨by rw[Q' K],I.below⟩
  rw[R' K];by_cases X:(m:Int)=Lf 1 ds
  .rw[R' (show ¬(cs.length:Int)≠Lf 1 ds by omega)]
   cases D:cs.any Vw with
   |true=>
    refine acH ?_;(unhygienic intros)
    refine xa ?_;intro f W Q i;have R:=Q.bl;obtain⟨M,E,l,k,v20,p,_⟩:=i;replace I:=Q.hp;refine Be ?_;clear Q;refine ea ?_;refine cd I (h2 _ (S.hp I) (e.ext I.below)) ?_;intro o I;rw[D];refine ea ?_;exact⟨by rw[Q' rfl],I.below⟩
   |false=>
    refine acH ?_;(unhygienic intros)
    refine xa ?_;intro f W Q i;have R:=Q.bl;obtain⟨M,E,l,k,v20,p,_⟩:=i;replace I:=Q.hp;refine Be ?_;clear Q;refine ea ?_;refine cd I (h2 _ (S.hp I) (e.ext I.below)) ?_;intro o I;rw[D];refine ea ?_;exact⟨by rw[R' V'],I.below⟩
  rw[Q' (show(cs.length:Int)≠Lf 1 ds by omega)];refine acH ?_;(unhygienic intros)
  refine dn ?_;intro W I;refine ea ?_;exact⟨rfl,I.below⟩
def okZ:t3->t3->Bool
 |[],[]=>true
 |d::ds,r::rs=>decide (r<=d) && okZ ds rs
 |_,_=>false
def oF:∀(ds rs:t3),okZ ds rs=true↔Ah ds rs
 |[],[]=>by simp[okZ,Ah]
 |[],_::_=>by simp[okZ,Ah]
 |_::_,[]=>by simp[okZ,Ah]
 |d::ds,r::rs=>by rw[okZ,Ah,Z_,Y_,oF ds rs]
def co(ds:t3)(xs:t5)(row:t3):Dyadic:=if okZ ds row then(xs[Ec ds row]?).getD 0 else 0
def Iy{ds:t3}{row:t3}(h:Ah ds row):co ds xs row=(xs[Ec ds row]?).getD 0:=by
 unfold co;rw[Q' ((oF _ _).2 h)]
def cG{ds:t3}{row:t3}(h:¬Ah ds row):co ds xs row=0:=by
 unfold co;rw[R' λe=>h ((oF _ _).1 e)]
def Xx{ds:t3}{p:Nat}(h:p<da ds):co ds xs (Xa ds p)=(xs[p]?).getD 0:=by
 rw[Iy (Vf ds p),Wo h]
variable {ys:t5}
def TV{ds:t3}(C:xs.length=da ds)(hy:ys.length=da ds)(h:∀row,Ah ds row->co ds xs row=co ds ys row):xs=ys:=by
 refine List.ext_getElem (by rw[C,hy]) λp h1 h2=> ?_;have G:=h (Xa ds p) (Vf ds p);rw[Xx Z',Xx Z',D9 h1,D9 h2] at G;exact G
def Bc:t3->t3->t3
 |a::l,b::m=>(a+b)::Bc l m
 |_,_=>[]
variable {es:t3}
def Ut:∀{ds es rs a:t3},Ah ds rs->Ah es a->ds.length=es.length->Ah (Bc ds es) (Bc rs a)
 |[],[],[],[],_,_,_=>trivial
 |[],_::_,_,_,_,_,h=>by simp at h
 |_::_,[],_,_,_,_,h=>by simp at h
 |d::ds,e::es,r::rs,j::a,h1,h2,G=>⟨by have:=h1.1;have:=h2.1;omega,Ut h1.2 h2.2 (by simpa using G)⟩
def Zy:∀{a b:t3},a.length=b.length->(Bc a b).length=a.length
 |[],[],_=>rfl
 |_::a,_::b,h=>by rw[Bc,V_,V_,Zy (by simpa using h)]
def rB:(t3->Dyadic)->t3->t3->Dyadic
 |F,r::rs,j::a=>if j<=r then rB (λt=>F ((r-j)::t)) rs a else 0
 |F,[],[]=>F []
 |_,_,_=>0
def DG:∀{rs a:t3} (F:t3->Dyadic),rs.length=a.length->rB F (Bc rs a) a=F rs
 |[],[],_,_=>rfl
 |r::rs,j::a,F,h=>(by rw[Bc,rB,Q' Z',DG _ (by simpa using h),Nat.add_sub_cancel])
def FL:∀{rs a:t3}{F:t3->Dyadic},rs.length=a.length->(∀t,Bc t a=rs->t.length=a.length->F t=0)->rB F rs a=0
 |[],[],F,_,h=>h [] rfl rfl
 |r::rs,j::a,F,Q,h=>by
  rw[rB];split
  .exact FL (by simpa using Q) λt S s=>h _ (by rw[Bc,S];congr 1;omega) (by rw[V_,V_,s])
  rfl
def nG:∀{a b c:t3},a.length=c.length->b.length=c.length->Bc a c=Bc b c->a=b
 |[],[],[],_,_,_=>rfl
 |[],_::_,_,h1,h2,_=>by rw[<-h1] at h2;simp at h2
 |_::_,[],_,h1,h2,_=>by rw[<-h2] at h1;simp at h1
 |x::a,y::b,z::c,h1,h2,h=>(by rw[Bc,Bc,U6] at h;rw[show x=y by omega,nG (by simpa using h1) (by simpa using h2) h.2])
def bW:t3->t3->Nat
 |m::ms,j::a=>bin m j*bW ms a
 |_,_=>1
def ON:t3->(t3->Dyadic)->t3->Dyadic
 |m::ms,F,r::rs=>sm (List.range (m+1)) λj=>if j<=r then nD (bin m j)*ON ms (λt=>F ((r-j)::t)) rs else 0
 |_,F,row=>F row
def LF:∀(ms rs:t3)(F:t3->Dyadic),rs.length=ms.length->sm (List.range (da ms)) (λk=>nD (bW ms (Xa ms k))*rB F rs (Xa ms k))=ON ms F rs
 |[],[],F,_=>(by show nD 1*F []+0=F [];rw[Ns];grind)
 |m::ms,r::rs,F,h=>by
  rw[St,qk,ON];refine Ea λj hj=> ?_;have W:j<m+1:=S_.1 hj;have T:∀k,Xa (m::ms) (j+(m+1)*k)=j::Xa ms k:=λk=>(by rw[Xa,V8,G_ W,B9 _ _ Z',k_ W,i']);split
  .rename_i a;rw[<-LF ms rs _ (by simpa using h),<-cg];refine Ea λk _=> ?_;rw[T,bW,rB,Q' a,ZK];grind
  rename_i a;refine sk λk _=> ?_;rw[T,rB,R' a];grind
def au(ds es:t3)(xs ys:t5):List (Nat×Dyadic):=(List.range (da es)).flatMap λk=>(List.range (da ds)).map λi=>(Ec (Bc ds es) (Bc (Xa ds i) (Xa es k)),(xs[i]?).getD 0*(ys[k]?).getD 0)
def EX{ds:t3}(Q:ds.length=es.length){p:Nat}(hp:p<da (Bc ds es)):
  sm (au ds es xs ys) (λq=>if q.1=p then q.2 else 0)=sm (List.range (da es)) λk=>(ys[k]?).getD 0*rB (co ds xs) (Xa (Bc ds es) p) (Xa es k):=by
 unfold au;rw[iA];refine Ea λk u=> ?_;rw[Po];have W:(Xa (Bc ds es) p).length=(Xa es k).length:=by rw[cf,cf,Zy Q,Q]
 have a:∀i,i<da ds->(Ec (Bc ds es) (Bc (Xa ds i) (Xa es k))=p↔Bc (Xa ds i) (Xa es k)=Xa (Bc ds es) p):=λi _=>by
  constructor
  .intro h;rw[<-h,Cf (Ut (Vf _ _) (Vf _ _) Q)]
  intro h;rw[h,Wo hp]
 by_cases hex:∃i,i<da ds/\Bc (Xa ds i) (Xa es k)=Xa (Bc ds es) p
 .obtain⟨i0,N,he⟩:=hex;rw[<-he,DG _ (by rw[cf,cf,Q]),Xx N];have:sm (List.range (da ds)) (λi=>if Ec (Bc ds es) (Bc (Xa ds i) (Xa es k))=p then(xs[i]?).getD 0*(ys[k]?).getD 0 else 0)=sm (List.range (da ds)) λi=>if i=i0 then(xs[i0]?).getD 0*(ys[k]?).getD 0 else 0:=by
   refine Ea λi hi=> ?_;have v:=S_.1 hi;by_cases b:i=i0
   .subst b;rw[Q' rfl,Q' ((a i v).2 he)]
   rw[R' b,R'];intro h;apply b;have h1:=nG (by rw[cf,cf,Q]) (by rw[cf,cf,Q]) (((a i v).1 h).trans he.symm);rw[<-Wo v,<-Wo N,h1]
  rw[this,Gk,Q' N];grind
 have J:rB (co ds xs) (Xa (Bc ds es) p) (Xa es k)=0:=FL W λt S s=>by
  by_cases y:Ah ds t
  .exact absurd ⟨Ec ds t,Xg y,by rw[Cf y];exact S⟩ hex
  exact cG y
 rw[J,sk λi hi=>by rw[R' λh=>hex ⟨i,S_.1 hi,(a i (S_.1 hi)).1 h⟩]];grind
def np(n:Nat)(f:Nat->Dyadic):sm (List.range (n+1)) f=f 0+sm (List.range n) λj=>f (j+1):=by
 induction n with
 |zero=>simp only[J8,List.range_zero,J',sm]
 |succ n W=>rw[J8,Kj,W,J8 (n:=n),Kj];grind
def ack(j r:Nat)(G:Nat->Dyadic):sm (List.range (j+1+1)) (λi=>if i<=r then nD (bin (j+1) i)*G (r-i) else 0)=
  sm (List.range (j+1)) (λi=>if i<=r then nD (bin j i)*G (r-i) else 0)+if 0<r then sm (List.range (j+1)) (λi=>if i<=r-1 then nD (bin j i)*G (r-1-i) else 0) else 0:=by
 have S:∀i,(if i+1<=r then nD (bin (j+1) (i+1))*G (r-(i+1)) else 0)=(if i+1<=r then nD (bin j i)*G (r-(i+1)) else 0)+(if i+1<=r then nD (bin j (i+1))*G (r-(i+1)) else 0):=λi=>by
  split
  .rw[bin,Hv];grind
  grind
 rw[np,Q' (N' _),Uj,Ea (g:=λi=>(if i+1<=r then nD (bin j i)*G (r-(i+1)) else 0)+(if i+1<=r then nD (bin j (i+1))*G (r-(i+1)) else 0)) λi _=>S i,Ev];have N:sm (List.range (j+1)) (λi=>if i<=r then nD (bin j i)*G (r-i) else 0)=nD 1*G (r-0)+sm (List.range (j+1)) (λi=>if i+1<=r then nD (bin j (i+1))*G (r-(i+1)) else 0):=(by have h2:sm (List.range (j+1)) (λi=>if i+1<=r then nD (bin j (i+1))*G (r-(i+1)) else 0)=sm (List.range j) (λi=>if i+1<=r then nD (bin j (i+1))*G (r-(i+1)) else 0):=(by rw[J8,Kj,Ts (show j<j+1 by omega),vD];split<;>grind);rw[h2,np,Q' (N' _),Uj]);rw[N];have L:sm (List.range (j+1)) (λi=>if i+1<=r then nD (bin j i)*G (r-(i+1)) else 0)=if 0<r then sm (List.range (j+1)) (λi=>if i<=r-1 then nD (bin j i)*G (r-1-i) else 0) else 0:=by
  split
  .refine Ea λi _=> ?_;by_cases h:i+1<=r
   .rw[Q' h,Q' Z',show r-(i+1)=r-1-i by omega]
   rw[R' h,R' Z']
  exact sk λi _=>by rw[R' Z']
 rw[<-L];grind
def vk(row:t3)(a:Nat):t3:=row.set a (row.getD a 0-1)
def xI:∀(ms row:t3)(a:Nat)(F:t3->Dyadic),a<ms.length->ms.length=row.length->
  ON (ms.set a (ms.getD a 0+1)) F row=ON ms F row+if 0<row.getD a 0 then ON ms F (vk row a) else 0
 |m::ms,r::rs,0,F,_,_=>(by have h:=ack m r λx=>ON ms (λt=>F (x::t)) rs;simpa[ON,vk] using h)
 |m::ms,r::rs,a+1,F,h,Q=>by
  have W:=λj=>xI ms rs a (λt=>F ((r-j)::t)) (by simpa using h) (by simpa using Q);simp only[Z9,List.getD_cons_succ,vk,ON] at W |-;by_cases hp:0<rs.getD a 0
  .rw[Q' hp,<-Ev];refine Ea λj _=> ?_;split
   .rw[W,Q' hp];grind
   grind
  rw[R' hp];have:∀x:Dyadic,x+0=x:=λx=>by grind
  rw[this];refine Ea λj _=> ?_;split
  .rw[W,R' hp,this]
  rfl
def OH:∀(ms row:t3)(F:t3->Dyadic),(∀m∈ms,m=0)->ON ms F row=F row
 |[],_,F,_=>rfl
 |_::_,[],F,_=>rfl
 |m::ms,r::rs,F,h=>(by obtain rfl:=h m E';rw[ON];show(if 0<=r then nD 1*ON ms (λt=>F ((r-0)::t)) rs else 0)+0=_;rw[Q' (N' _),OH ms rs _ λx C=>h x (u' _ C),Ns,Nat.sub_zero];grind)
def Ho(n:Nat):List NR:=(Co n).map λk=>nR (nD k)
def OT(n:Nat):(Ho n).length=n+1:=by simp[Ho,qy]
def On(h:k<=n):(Ho n)[k]?=some (nR (nD (bin n k))):=by
 unfold Ho;rw[C',qx h];rfl
def Nv(n k:Nat)(h:n<=127):Sz 128 (nD (bin n k)):=GS (X9 (Uz n k) (Nat.pow_lt_pow_right V' Z'))
def vr(n:Nat)(w)(S:Nd w)(hn:n<=127):Calls prog 237 #[wd n] w λr V=>∃A c',r=.returned (wn A (n+1) c')/\V.ownsRow w.heap.size 30 3 (wn A (n+1) c') (n+1) (la NR.cells (Ho n))/\Below w.heap.size w V:=by
 have I:=Hp.start w;refine Ga func237 ?_;refine ea ?_;refine DL ?_;intro w6 I;refine Nm ?_;intro b7 w7 I;refine ea ?_;refine Jh 3 9 (λy v V=>∃(i c:Nat)(A:t6),i<=n/\v=wd i/\y=wn A (i+1) c/\Hp w [.row A (i+1) c 30 3 (la NR.cells (Ho i))] V) (λ_ v _=>n-(intOf v).toNat) ?_ ?_
 .exact⟨0,_,_,N' _,rfl,rfl,I⟩
 clear I;rintro ρ' y v V ⟨i,c,A,hi,rfl,rfl,I⟩;by_cases hlt:i<n
 .refine ea ?_;refine DL ?_;intro w11 I;refine Nm ?_;intro u w12 I;refine ea ?_;refine Jh 4 5 (λv4 v V=>∃(k H:Nat)(B:t6),k<=i/\v=wd ((k+1:Nat):Int)/\v4=wn B (k+1) H/\Hp w [.row B (k+1) H 30 3 (la NR.cells ((Ho (i+1)).take (k+1))),.row A (i+1) c 30 3 (la NR.cells (Ho i))] V) (λ_ v _=>i+1-(intOf v).toNat) ?_ ?_
  .refine⟨0,_,_,N' _,rfl,rfl, ?_⟩;rw[show(Ho (i+1)).take (0+1)=[nR (nD 1)] by rw[ja (On (N' _)),Uj];rfl];exact I
  clear I;rintro ρ2 v4 v w2 ⟨k,H,B,hk,rfl,rfl,I⟩;by_cases hlk:k<i
  .have E:=On (n:=i) (k:=k) Z';have L:=On (n:=i) (k:=k+1) Z';have X:=On (n:=i+1) (k:=k+1) Z';have q:=Nv i k Z';have s:=Nv i (k+1) Z';have a:=λA z Z P N=>Uh A 2 z [nR (nD (bin i k)),nR (nD (bin i (k+1)))] Z P N (by simpa using⟨q.ok Z',s.ok Z'⟩) 128 (by simpa[Ta] using⟨q,s⟩) Z';rw[show Mo ([nR (nD (bin i k)),nR (nD (bin i (k+1)))].map NR.fa)=nD (bin (i+1) (k+1)) by simp only[T_,f_,Ta,Zk,bin,Hv]] at a;obtain⟨go,rfl⟩:=I.ib (i:=1) rfl Z';refine ea ?_;refine Od 13 I ?_;refine Ku (k) ?_;refine fk [_,_,_] (λ_ hj=>hj.hp.Wc (f:=NR.cells) (x:=nR (nD (bin i k))) (l:=Ho i) (i:=1) rfl NR.len V' E) ?_;refine ub ?_;refine Ku ((k+1)) ?_;refine fk [_,_,_] (λ_ hj=>hj.hp.Wc (f:=NR.cells) (x:=nR (nD (bin i (k+1)))) (l:=Ho i) (i:=1) rfl NR.len V' L) ?_;refine Nw [_,_,_,_,_,_] ?_;refine ua (i:=11) (Is (.agg #[ww (nR (nD (bin (i+1) (k+1)))).neg,wt (nR (nD (bin (i+1) (k+1)))).Ra,wd (nR (nD (bin (i+1) (k+1)))).e])) Is.ext ?_ ?_
   .intro U Z hj hR;obtain⟨b,D,h,j⟩:=hR.1;exact rb rfl (Ha fi (na h Oa)) (a b D _ (S.hp hj.hp) j) (λ_ _ R=>⟨_,R.1,R.2,rfl⟩)
   refine Nw [_,_,_] ?_;refine xa ?_;intro f W Q T;obtain⟨p,v30,m,v28,v27,v26,v25,v24,v23,v22,v21,v20,v19,_⟩:=T;obtain⟨b,D,J,f29⟩:Rows _ _ _ (f 10) W:=m;obtain⟨t,G,g,f31⟩:Rows _ _ _ (f 12) W:=p;replace I:=Q.hp;refine Be ?_;refine pb I (i:=0) rfl rfl rfl (f31) Qa.out pa.out rfl V' (by first|rfl|exact kc _|exact Mb _|exact Ja _|exact Pa NR.one _) Z' Z' V' ?_;intro o C w32 I;simp only[l'] at I;refine ea ?_;replace I:=I.sub (P' _ (P' _ j'));refine⟨⟨k+1,C,o,Z',rfl,rfl, ?_⟩,by show i+1-(k+1+1)<i+1-(k+1);omega, ?_⟩
   .rw[ja X,Na];exact I
   exact Sb
  obtain rfl:k=i:=Z';have X:=On (n:=k+1) (k:=k+1) (F' _);refine ea ?_;refine DL ?_;intro w34 I;refine Nm ?_;intro M w35 I;refine Yl ?_;intro F Y w36 I;refine jB ?_;intro I;replace I:=I.sub (P' _ (L' _ j'));refine⟨⟨k+1,Y,F,Z',rfl,rfl, ?_⟩,by show n-(k+1)<n-k;omega, ?_⟩
  .have K:Ho (k+1)=(Ho (k+1)).take (k+1)++[nR (nD (bin (k+1) (k+1)))]:=(by rw[<-ja X,G' (by rw[OT];omega)]);rw[K,Na,Pz];exact I
  exact Sb
 obtain rfl:i=n:=Z';exact cz
def zw(ds:t3):t3:=(List.range (da ds.reverse)).map λp=>bW ds.reverse (Xa ds.reverse p)
def KG(ds:t3)(d:Nat):zw (ds++[d])=(zw ds).flatMap λx=>(Co d).map (x* ·):=by
 have Q:∀a∈zw ds,((Co d).map (a* ·)).length=d+1:=λa _=>by rw[B',qy]
 refine s_ λp=> ?_;rw[As Z' _ _ _ Q];unfold zw;rw[l8,List.reverse_singleton,List.singleton_append];by_cases hp:p<da (d::ds.reverse)
 .have R:p/(d+1)<da ds.reverse:=by rw[S9 Z',d'];exact hp
  have H:p % (d+1)<=d:=by have:=R_ p (show 0<d+1 by omega);omega
  rw[C',y_ hp,C',y_ R];simp only[n9,A6,C',qx H,Xa,bW,d']
 have R:¬p/(d+1)<da ds.reverse:=by rw[S9 Z',d'];exact hp
 rw[X_ (by simp;omega),X_ (l:=List.map _ _) (by simp;omega)];rfl
def RL(ds):(zw ds).length=da ds:=by simp[zw,qb]
def EO(ds:t3):List NR:=(zw ds).map λk=>nR (nD k)
def PV:∀(ds row:t3),(∀d∈ds,d<=127)->bW ds row<=2^(127*ds.length)
 |[],_,_=>by show 1<=1;exact F' _
 |d::ds,[],_=>by show 1<=_;exact L_ V'
 |d::ds,r::rs,h=>(by have h1:bin d r<=2^127:=p' (Uz d r) (K_ V' (h d E'));have h2:=PV ds rs λx C=>h x (u' _ C);rw[bW,V_,p9,F8,Q_];exact O9 h1 h2)
variable {m:Nat}
def acw(h:n<=2^m)(u:m<k):Sz k (nD n):=GS (X9 h (Nat.pow_lt_pow_right V' u))
def OR{ds:t3}{x:Nat}(h:x∈zw ds)(h1:ds.length<=12)(h2:∀d∈ds,d<=127):Sz 1600 (nD x):=by
 obtain⟨p,_,rfl⟩:=x'.1 h;have G:=PV ds.reverse (Xa ds.reverse p) λd T=>h2 d (s8.1 T);exact acw G (by rw[r'];omega)
def sX(ds:t3)(d j:Nat):t3:=((zw ds).take j).flatMap λx=>(Co d).map (x* ·)
def BQ{ds:t3}{d x:Nat}(h:(zw ds)[j]?=some x):sX ds d (j+1)=sX ds d j++(Co d).map (x* ·):=by
 unfold sX;rw[ja h,r8,List.flatMap_singleton]
def xp(A)(n c:Nat)(ns)(w)(S:Nd w)(J:Sl w A n 1 (Fa (sa ns)))(h12:ns.length<=12)(g:∀d∈ns,d<=127)(o:da ns<=4096):Calls prog 265 #[wn A n c] w λr V=>∃B c',r=.returned (wn B (da ns) c')/\V.ownsRow w.heap.size 30 3 (wn B (da ns) c') (da ns) (la NR.cells (EO ns))/\Below w.heap.size w V:=by
 have I:=Hp.start w;have hln:ns.length=n:=by have:=J.1;simpa[Fa,sa] using this
 have E:=Ih ns 1 V' V' g;rw[R8,Q' o] at E;have s:Lf ((1:Nat):Int) (sa ns)=Lf 1 (sa ns):=rfl;rw[s] at E;have X:=Wb ns;have D:=λZ a=>tg A n c (sa ns) Z a Z';rw[E] at D;refine Ga func265 ?_;refine ea ?_;refine cd I (D _ (J.ext I.below)) ?_;intro w16 I;refine ea ?_;refine DL ?_;intro w19 I;refine Nm ?_;intro KX w20 I;refine ea ?_;refine Jh 3 23 (λv3 v V=>∃(i h:Nat)(B:t6),i<=n/\v=wd i/\v3=wn B (da (ns.take i)) h/\Hp w [.row B (da (ns.take i)) h 30 3 (la NR.cells (EO (ns.take i)))] V) (λ_ v _=>n-(intOf v).toNat) ?_ ?_
 .exact⟨0,_,_,N' _,rfl,rfl,I⟩
 clear I;rintro ρ' v3 v V ⟨i,h,B,hi,rfl,rfl,I⟩;by_cases hlt:i<n
 .obtain⟨d,T⟩:=aa (l:=ns) (k:=i) Z';have u:=Db (jc T);have Y:=g d (O' T);have H:(ns.take i).length<=12:=by rw[q'];omega
  have K:∀d∈ns.take i,d<=127:=λd T=>g d (Z8 T);have hct:=we ns (i+1);have W:=we ns i;have z:da (ns.take (i+1))=da (ns.take i)*(d+1):=by rw[ja T,zd];simp[da]
  have b:EO (ns.take (i+1))=(sX (ns.take i) d (da (ns.take i))).map λk=>nR (nD k):=(by unfold EO sX;rw[ja T,KG,G' (l:=zw (ns.take i)) (by rw[RL];exact F' _)]);generalize hds:ns.take i=ds at*;generalize hN:da ds=N at*;obtain⟨ad,rfl,hr⟩:=J.at_ Z';refine ea ?_;refine sv (Ma pa.out rfl ((hr.ext I.below).Dl u)) ?_;refine ea ?_;replace I:=I.yb 30 3;refine Jh 6 29 (λv6 v V=>∃(j P:Nat)(C:t6),j<=N/\v=wd j/\v6=wn C (j*(d+1)) P/\Hp w [.row C (j*(d+1)) P 30 3 (la NR.cells ((sX ds d j).map λk=>nR (nD k))),.row B N h 30 3 (la NR.cells (EO ds))] V) (λ_ v _=>N-(intOf v).toNat) ?_ ?_
  .refine⟨0,0,none,N' _,rfl, ?_, ?_⟩
   .rw[W7];rfl
   rw[W7];exact I
  clear I;rintro ρ2 v6 v w2 ⟨j,P,C,hj,rfl,rfl,I⟩;by_cases G:j<N
  .obtain⟨x,L⟩:=aa (l:=zw ds) (k:=j) (by rw[RL];omega);have Q:(EO ds)[j]?=some (nR (nD x)):=by unfold EO;rw[C',L];rfl
   have zx:=OR (O' L) H K;have y:(j+1)*(d+1)<=N*(d+1):=n_ _ G;rw[U9] at y;obtain⟨go,rfl⟩:=I.ib (i:=1) rfl Z';refine ea ?_;refine sv (Ua (vs:=[_,_,_]) pa.out rfl (I.Wc (f:=NR.cells) (x:=nR (nD x)) (l:=EO ds) (i:=1) rfl NR.len V' Q) rfl) ?_;refine Ib ?_;intro b8 w8 I ws I;refine cr I (vr d _ (S.hp I) Y) ?_;intro M p w34 I;refine ea ?_;refine Jh 6 36 (λv6 v V=>∃(k P:Nat)(C:t6),k<=d+1/\v=wd k/\v6=wn C (j*(d+1)+k) P/\Hp w [.row M (d+1) p 30 3 (la NR.cells (Ho d)),.blk b8 30 [ww (nR (nD x)).neg,wt (nR (nD x)).Ra,wd (nR (nD x)).e] (0,0),.row C (j*(d+1)+k) P 30 3 (la NR.cells ((sX ds d j++((Co d).take k).map (x* ·)).map λk=>nR (nD k))),.row (some ⟨go,0,none⟩) N h 30 3 (la NR.cells (EO ds))] V) (λ_ v _=>d+1-(intOf v).toNat) ?_ ?_
   .refine⟨0,P,C,N' _,rfl,rfl, ?_⟩;rw[x9,f_,I_];exact I
   clear I;rintro ρ3 v6 v w3 ⟨k,P,C,hk,rfl,rfl,I⟩;by_cases hkd:k<d+1
   .have t:=qx (n:=d) (k:=k) Z';have R:=On (n:=d) (k:=k) Z';have zb:=Nv d k Y;have hmul:=λA cc Z q a=>Rh A 2 cc [nR (nD x),nR (nD (bin d k))] Z q a (by simpa using⟨zx.ok Z',zb.ok Z'⟩) 1600 (by simpa[Ta] using⟨zx,zb.mono Z'⟩) Z' Z';rw[show pj ([nR (nD x),nR (nD (bin d k))].map NR.fa)=nD (x*bin d k) by rw[ZK];show 1*(nR (nD x)).fa*(nR (nD (bin d k))).fa=_;rw[Ta,Ta,R7]] at hmul;obtain⟨ga,rfl⟩:=I.ib (i:=0) rfl Z';refine ea ?_;refine sv (Ua (vs:=[_,_,_]) pa.out rfl (I.Wc (f:=NR.cells) (x:=nR (nD (bin d k))) (l:=Ho d) (i:=0) rfl NR.len V' R) rfl) ?_;refine Ib ?_;intro b10 w10 I ws I;refine bw ?_;intro b43 w43 I;refine cd I (hmul _ _ _ (S.hp I) (I.ka (i:=0) rfl)) ?_;intro w44 I;refine Nm ?_;intro b45 w45 I;refine aav ?_;intro m F w46 I;refine jB ?_;intro I;replace I:=I.sub (L' _ (L' _ (P' _ (P' _ (P' _ (P' _ j'))))));refine⟨⟨k+1,F,m,Z',rfl,rfl, ?_⟩,by show d+1-(k+1)<d+1-k;omega, ?_⟩
    .have e:(sX ds d j++((Co d).take (k+1)).map (x* ·)).map (λk=>nR (nD k))=(sX ds d j++((Co d).take k).map (x* ·)).map (λk=>nR (nD k))++[nR (nD (x*bin d k))]:=by rw[ja t];simp
     rw[e,Na];exact I
    exact Sb
   obtain rfl:k=d+1:=Z';rw[G' (by rw[qy];omega),<-BQ L] at I;refine ea ?_;replace I:=I.sub (L' _ (L' _ (P' _ (P' _ j'))));refine⟨⟨j+1,P,C,Z',rfl, ?_, ?_⟩,by show N-(j+1)<N-j;omega, ?_⟩
   .rw[U9];rfl
   .rw[U9];exact I
   exact Sb
  obtain rfl:j=N:=Z';rw[<-b,<-z] at I;rw[<-z];refine ea ?_;replace I:=I.sub (P' _ (L' _ j'));refine⟨⟨i+1,P,C,Z',rfl,rfl,I⟩,by show n-(i+1)<n-i;omega, ?_⟩;exact Sb
 obtain rfl:i=n:=Z';rw[G' Z'] at I |-;exact cz
def vg(d r:Nat)(t:Dyadic):Dyadic:=t^r*(1-t)^(d-r)
def dj:t3->t3->t5->Dyadic
 |d::ds,r::rs,t::ts=>vg d r t*dj ds rs ts
 |_,_,_=>1
def Ug(ds:t3)(xs:t5)(ts:t5):Dyadic:=sm (List.range (da ds)) λp=>(xs[p]?).getD 0*dj ds (Xa ds p) ts
def adA(d:Nat)(t:Dyadic)(m:Nat)(xs:t5):t5:=(List.range m).map λq=>sm (List.range (d+1)) λr=>(xs[r+(d+1)*q]?).getD 0*vg d r t
def ae6:t3->t5->t5->t5
 |d::ds,t::ts,xs=>ae6 ds ts (adA d t (da ds) xs)
 |_,_,xs=>xs
def xj(t:Dyadic)(a b:Nat):t^(a+b)=t^a*t^b:=by
 induction b with
 |zero=>rw[N9];grind
 |succ b W=>rw[<-P7];grind
def oT{d e a b:Nat}(t:Dyadic)(h1:a<=d)(h2:b<=e):vg (d+e) (a+b) t=vg d a t*vg e b t:=by
 unfold vg;rw[show d+e-(a+b)=(d-a)+(e-b) by omega,xj,xj];grind
def gH:∀{ds es rs a:t3} (ts:t5),Ah ds rs->Ah es a->ds.length=es.length->dj (Bc ds es) (Bc rs a) ts=dj ds rs ts*dj es a ts
 |[],[],[],[],_,_,_,_=>by show(1:Dyadic)=1*1;grind
 |[],_::_,_,_,_,_,_,h=>by simp at h
 |_::_,[],_,_,_,_,_,h=>by simp at h
 |d::ds,e::es,r::rs,j::a,[],_,_,_=>by show(1:Dyadic)=1*1;grind
 |d::ds,e::es,r::rs,j::a,t::ts,h1,h2,G=>(by rw[Bc,Bc,dj,dj,dj,oT t h1.1 h2.1,gH ts h1.2 h2.2 (by simpa using G)];grind)
def VY(L:List (Nat×Dyadic))(g:Nat->Dyadic)(h:∀q∈L,q.1<N):sm (List.range N) (λp=>((Qh N L)[p]?).getD 0*g p)=sm L λq=>q.2*g q.1:=by
 have a:sm (List.range N) (λp=>((Qh N L)[p]?).getD 0*g p)=sm (List.range N) λp=>sm L λq=>if p=q.1 then q.2*g q.1 else 0:=by
  refine Ea λp hp=> ?_;rw[Zl _ (S_.1 hp),F9,<-Ui];refine Ea λq _=> ?_;by_cases R:q.1=p
  .subst R;rw[Q' rfl,Q' rfl]
  rw[R' R,R' λe=>R e.symm];grind
 rw[a,qk];refine Ea λq R=> ?_;rw[Gk,Q' (h q R)]
def cS{ds:t3}(Q:ds.length=es.length):∀q∈au ds es xs ys,q.1<da (Bc ds es):=λq R=>by
 unfold au at R;obtain⟨k,_,R⟩:=k9.1 R;obtain⟨i,_,rfl⟩:=x'.1 R;exact Xg (Ut (Vf _ _) (Vf _ _) Q)
def HS{ds:t3}{ts:t5}(Q:ds.length=es.length):Ug (Bc ds es) (Qh (da (Bc ds es)) (au ds es xs ys)) ts=Ug ds xs ts*Ug es ys ts:=by
 unfold Ug;rw[VY _ (λp=>dj (Bc ds es) (Xa (Bc ds es) p) ts) (cS Q)];unfold au;rw[iA,<-cg];refine Ea λk _=> ?_;rw[Po,<-Ui];refine Ea λi _=> ?_;rw[Cf (Ut (Vf _ _) (Vf _ _) Q),gH ts (Vf _ _) (Vf _ _) Q];grind
def HH(n:Nat)(a b):sm (List.range (n+1)) (λk=>nD (bin n k)*a^k*b^(n-k))=(a+b)^n:=by
 induction n with
 |zero=>show nD 1*a^0*b^0+0=(a+b)^0;rw[Ns];grind
 |succ n W=>
  have L:∀k,nD (bin (n+1) (k+1))*a^(k+1)*b^(n+1-(k+1))=nD (bin n k)*a^k*b^(n-k)*a+nD (bin n (k+1))*a^(k+1)*b^(n-k):=λk=>(by rw[bin,Hv,show n+1-(k+1)=n-k by omega];grind);rw[np,Ea (g:=λk=>nD (bin n k)*a^k*b^(n-k)*a+nD (bin n (k+1))*a^(k+1)*b^(n-k)) λk _=>L k,Ev,Ui,W,Uj];have X:sm (List.range (n+1)) (λk=>nD (bin n (k+1))*a^(k+1)*b^(n-k))=sm (List.range n) (λk=>nD (bin n (k+1))*a^(k+1)*b^(n-(k+1)))*b:=by
   rw[J8,Kj,Ts (show n<n+1 by omega),vD,<-Ui];have:∀x y:Dyadic,x+0*y*b^(n-n)=x:=λx y=>by grind
   rw[this];refine Ea λk u=> ?_;have B:=S_.1 u;rw[show n-k=(n-(k+1))+1 by omega];grind
  have E:(a+b)^n=nD 1*a^0*b^(n-0)+sm (List.range n) (λk=>nD (bin n (k+1))*a^(k+1)*b^(n-(k+1))):=(by rw[<-W,np,Uj]);rw[X];have H:(a+b)^(n+1)=(a+b)^n*a+(a+b)^n*b:=by grind
  rw[H];generalize J:sm (List.range n) (λk=>nD (bin n (k+1))*a^(k+1)*b^(n-(k+1)))=S at*;rw[E,show n+1-0=n+1 by omega,show n-0=n by omega,Ns];grind
def LN:∀(ds:t3)(ts:t5),ts.length=ds.length->sm (List.range (da ds)) (λp=>nD (bW ds (Xa ds p))*dj ds (Xa ds p) ts)=1
 |[],[],_=>by show nD 1*1+0=1;rw[Ns];grind
 |d::ds,t::ts,h=>by
  have W:=LN ds ts (by simpa using h);rw[St,Ea (g:=λq=>(nD (bW ds (Xa ds q))*dj ds (Xa ds q) ts)*1) λq _=> ?_]
  .rw[Ui,W];grind
  have F:=HH d t (1-t);rw[show t+(1-t)=(1:Dyadic) by grind] at F;have h1:(1:Dyadic)^d=1:=by
   clear F W
   induction d with
   |zero=>grind
   |succ d W=>grind
  rw[h1] at F;rw[<-F,<-cg];refine Ea λr H=> ?_;have G:=S_.1 H;rw[Xa,V8,G_ G,B9 _ _ Z',k_ G,i',dj,bW,ZK,vg];grind
def sR:t3->(t3->Dyadic)->Dyadic
 |[],F=>F []
 |d::ds,F=>sm (List.range (d+1)) λr=>sR ds λrow=>F (r::row)
def aaE:∀(ds:t3)(F:t3->Dyadic),sm (List.range (da ds)) (λp=>F (Xa ds p))=sR ds F
 |[],F=>by show F []+0=F [];grind
 |d::ds,F=>(by rw[St,qk,sR];refine Ea λr H=> ?_;have G:=S_.1 H;rw[<-aaE ds];refine Ea λq _=> ?_;rw[Xa,V8,G_ G,B9 _ _ Z',k_ G,i'])
def Np:∀{ds:t3}{F G:t3->Dyadic},(∀row,Ah ds row->F row=G row)->sR ds F=sR ds G
 |[],F,G,h=>h [] trivial
 |d::ds,F,G,h=>(by rw[sR,sR];refine Ea λr H=>Np λrow K=>h _ ⟨by have:=S_.1 H;omega,K⟩)
def H2{α:Type}:∀(ds:t3)(l:List α)(F:α->t3->Dyadic),sR ds (λrow=>sm l λa=>F a row)=sm l λa=>sR ds (F a)
 |[],_,_=>rfl
 |d::ds,l,F=>(by rw[sR];simp only[sR];rw[qk l,Ea λr _=>H2 ds l λa row=>F a (r::row)])
def BD:∀(ds:t3)(F:t3->Dyadic)(c:Dyadic),sR ds (λrow=>F row*c)=sR ds F*c
 |[],_,_=>rfl
 |d::ds,F,c=>(by rw[sR,sR,<-Ui];exact Ea λr _=>BD ds _ c)
variable {M:Nat->Nat->Dyadic}
def re(ds:t3)(a:Nat)(M:Nat->Nat->Dyadic)(xs:t5):t5:=(List.range (da ds)).map λp=>sm (List.range (ds.getD a 0+1)) λi=>co ds xs ((Xa ds p).set a i)*M i ((Xa ds p).getD a 0)
def Fj(ds)(a:Nat)(M:Nat->Nat->Dyadic)(xs):(re ds a M xs).length=da ds:=by simp[re]
def bC{ds row:t3}(a:Nat)(M:Nat->Nat->Dyadic)(xs)(h:Ah ds row):co ds (re ds a M xs) row=sm (List.range (ds.getD a 0+1)) λi=>co ds xs (row.set a i)*M i (row.getD a 0):=by
 rw[Iy h];unfold re;rw[C',y_ (Xg h)];simp only[n9,F9,Cf h]
def bO:∀{ds row:t3}{a i:Nat},Ah ds row->i<=ds.getD a 0->Ah ds (row.set a i)
 |[],[],_,_,_,_=>trivial
 |d::ds,r::rs,0,i,h,hi=>⟨hi,h.2⟩
 |d::ds,r::rs,a+1,i,h,hi=>⟨h.1,bO (a:=a) h.2 (by simpa using hi)⟩
def vB(d:Nat)(s:Dyadic)(i k:Nat):Dyadic:=if k<i then 0 else nD (bin (d-i) (k-i))*s^i*(1-s)^(k-i)
def sB(d:Nat)(s:Dyadic)(i k:Nat):Dyadic:=if i<k then 0 else nD (bin i (i-k))*s^(i-k)*(1-s)^(d-i)
def ZU(d i:Nat)(hi:i<=d)(f:Nat->Dyadic):sm (List.range (d+1)) (λk=>if k<i then 0 else f (k-i))=sm (List.range (d-i+1)) f:=by
 obtain⟨m,rfl⟩:∃m,d=i+m:=⟨d-i,Z'⟩;rw[show i+m-i+1=m+1 by omega,show i+m+1=i+(m+1) by omega,List.range_add,Lk,Po,sk λk u=>by rw[Q' (S_.1 u)]];have:∀x:Dyadic,0+x=x:=λx=>by grind
 rw[this];exact Ea λk _=>by rw[R' Z',Nat.add_sub_cancel_left]
def IW{d i:Nat}(s t)(h:i<=d):sm (List.range (d+1)) (λk=>vB d s i k*vg d k t)=vg d i (s*t):=by
 have F:=HH (d-i) ((1-s)*t) (1-t);have N:(1-s)*t+(1-t)=1-s*t:=by grind
 rw[N] at F;have w:∀(x y:Dyadic)(n:Nat),(x*y)^n=x^n*y^n:=λx y n=>(by exact OL);have L:vg d i (s*t)=s^i*t^i*(1-s*t)^(d-i):=by unfold vg;rw[w]
 rw[L,<-F,<-cg,<-ZU d i h λk=>s^i*t^i*(nD (bin (d-i) k)*((1-s)*t)^k*(1-t)^(d-i-k))];refine Ea λk u=> ?_;have B:=S_.1 u;unfold vB;by_cases j:k<i
 .rw[Q' j,Q' j];grind
 rw[R' j,R' j,vg,w,show d-i-(k-i)=d-k by omega];have X:t^k=t^i*t^(k-i):=by rw[<-xj,show i+(k-i)=k by omega]
 rw[X];grind
def zU(n:Nat):∀f:Nat->Dyadic,sm (List.range (n+1)) f=sm (List.range (n+1)) λk=>f (n-k):=by
 induction n with
 |zero=>intro f;rfl
 |succ n W=>
  intro f;have e:sm (List.range (n+1+1)) (λk=>f (n+1-k))=f (n+1)+sm (List.range (n+1)) λk=>f (n-k):=(by rw[np];congr 1;exact Ea λk _=>by rw[show n+1-(k+1)=n-k by omega]);rw[J8,Kj,W f,<-J8,e];grind
def eX{d i:Nat}(s t)(h:i<=d):sm (List.range (d+1)) (λk=>sB d s i k*vg d k t)=vg d i (s+(1-s)*t):=by
 have F:=HH i (s*(1-t)) t;have N:s*(1-t)+t=s+(1-s)*t:=by grind
 rw[N] at F;have w:∀(x y:Dyadic)(n:Nat),(x*y)^n=x^n*y^n:=λx y n=>(by exact OL);have L:vg d i (s+(1-s)*t)=(s+(1-s)*t)^i*((1-s)^(d-i)*(1-t)^(d-i)):=(by unfold vg;rw[<-w];congr 2;grind);rw[L,<-F];have X:∀f:Nat->Dyadic,sm (List.range (d+1)) (λk=>if i<k then 0 else f (i-k))=sm (List.range (i+1)) f:=λf=>by
  obtain⟨m,rfl⟩:∃m,d=i+m:=⟨d-i,Z'⟩;rw[show i+m+1=(i+1)+m by omega,List.range_add,Lk,Po,sk (l:=List.range m) λk _=>by rw[Q' Z']];have J:∀x:Dyadic,x+0=x:=λx=>by grind
  rw[J];rw[zU i f];refine Ea λk u=> ?_;have B:=S_.1 u;rw[R' Z']
 rw[<-Ui,<-X λk=>nD (bin i k)*(s*(1-t))^k*t^(i-k)*((1-s)^(d-i)*(1-t)^(d-i))];refine Ea λk u=> ?_;have B:=S_.1 u;unfold sB;by_cases j:i<k
 .rw[Q' j,Q' j];grind
 rw[R' j,R' j,vg,w,show i-(i-k)=k by omega];have E:(1-t)^(d-k)=(1-t)^(i-k)*(1-t)^(d-i):=by rw[<-xj,show i-k+(d-i)=d-k by omega]
 rw[E];grind
def KN(ds)(xs)(ts:t5):Ug ds xs ts=sR ds λrow=>co ds xs row*dj ds row ts:=by
 rw[<-aaE];unfold Ug;exact Ea λp hp=>by rw[Xx (S_.1 hp)]
def gC:∀(ds:t3)(a:Nat)(M:Nat->Nat->Dyadic)(G:t3->Dyadic)(ts:t5)(t f:Dyadic),a<ds.length->ts.length=ds.length->(∀i,i<=ds.getD a 0->sm (List.range (ds.getD a 0+1)) (λk=>M i k*vg (ds.getD a 0) k t)=vg (ds.getD a 0) i f)->
  sR ds (λrow=>sm (List.range (ds.getD a 0+1)) (λi=>G (row.set a i)*M i (row.getD a 0))*dj ds row (ts.set a t))=sR ds λrow=>G row*dj ds row (ts.set a f)
 |d::ds,0,M,G,u::ts,t,f,_,_,h=>(by simp only[sR,List.getD_cons_zero,l',dj] at h |-;have N:∀r,sR ds (λrow=>sm (List.range (d+1)) (λi=>G (i::row)*M i r)*(vg d r t*dj ds row ts))=sm (List.range (d+1)) λi=>sR ds (λrow=>G (i::row)*dj ds row ts)*(M i r*vg d r t):=λr=>(by rw[Ea (l:=List.range (d+1)) (g:=λi=>sR ds λrow=>G (i::row)*dj ds row ts*(M i r*vg d r t)) λi _=>(BD ds _ _).symm,<-H2];refine Np λrow _=> ?_;rw[<-Ui];exact Ea λi _=>by grind);rw[Ea λr _=>N r,qk];refine Ea λi hi=> ?_;have v:=S_.1 hi;rw[cg,h i Z',<-BD];exact Np λrow _=>by grind)
 |d::ds,a+1,M,G,u::ts,t,f,h1,h2,h=>(by simp only[sR,List.getD_cons_succ,Z9,dj] at h |-;refine Ea λr _=> ?_;have W:=gC ds a M (λrow=>G (r::row)) ts t f (by simpa using h1) (by simpa using h2) h;have N:∀(F:t3->Dyadic)(us:t5),sR ds (λrow=>F row*(vg d r u*dj ds row us))=sR ds (λrow=>F row*dj ds row us)*vg d r u:=λF us=>(by rw[<-BD];exact Np λrow _=>by grind);rw[N,N,W])
def rD{ds:t3}{a:Nat}{ts:t5}{t f:Dyadic}(b:a<ds.length)(Q:ts.length=ds.length) (h:∀i,i<=ds.getD a 0->sm (List.range (ds.getD a 0+1)) (λk=>M i k*vg (ds.getD a 0) k t)=vg (ds.getD a 0) i f):Ug ds (re ds a M xs) (ts.set a t)=Ug ds xs (ts.set a f):=by
 rw[KN,KN,<-gC ds a M (co ds xs) ts t f b Q h];exact Np λrow K=>by rw[bC a M xs K]
def Dw:∀{A B x y:t3},x.length=A.length->Ec (A++B) (x++y)=Ec A x+da A*Ec B y
 |[],B,[],y,_=>by rw[J',J',da,R8];show _=0+_;rw[i']
 |d::A,B,r::x,y,h=>(by rw[I',I',Ec,Ec,da,Dw (by simpa using h),j_,V9,P7])
def Tv:∀(A B:t3)(p:Nat),Xa (A++B) p=Xa A p++Xa B (p/da A)
 |[],B,p=>by rw[J',da,y8];rfl
 |d::A,B,p=>by rw[I',Xa,Xa,Tv A B,da,u9];rfl
def JH:∀(A:t3)(f q:Nat),Xa A (f+da A*q)=Xa A f
 |[],_,_=>rfl
 |d::A,f,q=>(by rw[Xa,Xa,da,V9,V8,B9 _ _ Z',JH A])
variable {A:t3}{d:Nat}
def Ob(A:t3)(d f k q:Nat):Nat:=f+da A*(k+(d+1)*q)
variable {B:t3}
def Yo{f q:Nat}(Y:f<da A)(u:k<=d)(R:q<da B):Ob A d f k q<da (A++d::B):=by
 rw[zd,da,Ob];have h1:k+(d+1)*q+1<=(d+1)*da B:=(by have:(d+1)*(q+1)<=(d+1)*da B:=O_ _ R;rw[p9] at this;omega);have h2:=O_ (da A) h1;rw[p9] at h2;omega
def iD{f q:Nat}(Y:f<da A)(u:k<=d):Xa (A++d::B) (Ob A d f k q)=Xa A f++k::Xa B q:=by
 unfold Ob;rw[Tv,JH,B9 _ _ (Wb A),k_ Y,i',Xa,V8,G_ Z',B9 _ _ Z',k_ Z',i']
def Nn{p:Nat}(h:p<da (A++d::B)):∃f k q,f<da A/\k<=d/\q<da B/\p=Ob A d f k q:=by
 rw[zd,da] at h;have R:=Wb A;refine⟨p % da A,p/da A % (d+1),p/da A/(d+1),R_ _ R,by have:=R_ (p/da A) (show 0<d+1 by omega);omega, ?_, ?_⟩
 .rw[S9 Z',S9 R,d',d' (da B)];exact h
 unfold Ob;rw[N7,N7]
def lG(x:t3)(y)(k:Nat):(x++k::y).getD x.length 0=k:=by
 rw[o_,R9 (F' _),t_];rfl
def pK(x:t3)(y)(k i:Nat):(x++k::y).set x.length i=x++i::y:=by
 rw[q8 _ _ (F' _),t_,l']
def nc(A:t3)(d:Nat)(xs:t5)(f q:Nat):t5:=(List.range (d+1)).map λi=>(xs[Ob A d f i q]?).getD 0
def Ix{f q:Nat}(M:Nat->Nat->Dyadic)(xs)(Y:f<da A)(u:k<=d)(R:q<da B):(re (A++d::B) A.length M xs)[Ob A d f k q]?=some (sm (List.range (d+1)) λi=>(xs[Ob A d f i q]?).getD 0*M i k):=by
 have hp:=Yo (B:=B) Y u R;unfold re;rw[C',y_ hp];simp only[n9];rw[iD Y u,lG];have Q:=cf A f;rw[show((Xa A f++k::Xa B q).getD A.length 0)=k by rw[<-Q];exact lG _ _ _];congr 1;refine Ea λi hi=> ?_;have v:i<=d:=by have:=S_.1 hi;omega
 rw[show(Xa A f++k::Xa B q).set A.length i=Xa A f++i::Xa B q by rw[<-Q];exact pK _ _ _ _,<-iD (B:=B) Y v,Xx (Yo Y v R)]
def BG(A)(n c:Nat)(ns)(w)(J:Sl w A n 1 (Fa (sa ns)))(B:n<=1000)(g:∀d∈ns,d<=255)(o:da ns<=1000000):Zc 300 #[wn A n c] w (wd (da ns:Nat)):=by
 have I:=Hp.start w;have m:ns.length=n:=by have:=J.1;simpa[Fa,sa] using this
 refine Ga func300 ?_;refine ea ?_;refine Jh 3 8 (λy v V=>∃i:Nat,i<=n/\v=wd i/\y=wd (da (ns.take i):Nat)/\Hp w [] V) (λ_ v _=>n-(intOf v).toNat) ?_ ?_
 .exact⟨0,N' _,rfl,rfl,I⟩
 clear I;rintro ρ' y v V ⟨i,hi,rfl,rfl,I⟩;by_cases D:i<n
 .obtain⟨d,T⟩:=aa (l:=ns) (k:=i) Z';have S:=Db (jc T);have r:=g d (O' T);obtain⟨b,rfl,H⟩:=J.at_ Z';have x:=we ns (i+1);have W:=we ns i;have z:da (ns.take (i+1))=da (ns.take i)*(d+1):=by rw[ja T,zd];simp[da]
  have N:((da (ns.take i):Nat):Int)*((d:Int)+1)=((da (ns.take (i+1)):Nat):Int):=by rw[z,m_,G9];rfl
  refine Xv ?_;rw[N];refine⟨⟨i+1,Z',rfl,rfl,I⟩,by show n-(i+1)<n-i;omega, ?_⟩;exact Sb
 refine ea ?_;rw[G' Z'];exact⟨rfl,I.below⟩
def er(ns:t3):Bool:=ns.any (λd=>decide (127<d))||decide (4096<da ns)
def HK(A)(n c:Nat)(ns)(w)(J:Sl w A n 1 (Fa (sa ns)))(B:n<=1000)(g:∀d∈ns,d<=1000):Zc 273 #[wn A n c] w (ww (er ns)):=by
 have I:=Hp.start w;have m:ns.length=n:=by have:=J.1;simpa[Fa,sa] using this
 refine Ga func273 ?_;refine ea ?_;refine Jh 3 8 (λy v V=>∃i:Nat,i<=n/\v=wd i/\y=wd (da (ns.take i):Nat)/\da (ns.take i)<=4096/\(ns.take i).any (λd=>decide (127<d))=false/\Hp w [] V) (λ_ v _=>n-(intOf v).toNat) ?_ ?_
 .exact⟨0,N' _,rfl,rfl,by show 1<=4096;decide,rfl,I⟩
 clear I;rintro ρ' y v V ⟨i,hi,rfl,rfl,W,X,I⟩;by_cases D:i<n
 .obtain⟨d,T⟩:=aa (l:=ns) (k:=i) Z';have S:=Db (jc T);have r:=g d (O' T);obtain⟨b,rfl,H⟩:=J.at_ Z';have x:=we ns (i+1);have z:da (ns.take (i+1))=da (ns.take i)*(d+1):=by rw[ja T,zd];simp[da]
  have E:da (ns.take i)*(d+1)<=4096*1001:=O9 W Z';have N:((da (ns.take i):Nat):Int)*((d:Int)+1)=((da (ns.take (i+1)):Nat):Int):=by rw[z,m_,G9];rfl
  by_cases h1:127<d
  .refine Xv ?_;refine⟨?_,I.below⟩;unfold er;rw[E9.2 ⟨d,O' T,w' h1⟩];rfl
  by_cases h2:4096<da (ns.take (i+1))
  .refine Xv ?_;refine⟨?_,I.below⟩;unfold er;rw[w' (show 4096<da ns by omega),Bool.or_true]
  refine Xv ?_;rw[N];refine⟨⟨i+1,Z',rfl,rfl,Z', ?_,I⟩,by show n-(i+1)<n-i;omega, ?_⟩
  .rw[ja T,S8,X,Q8,M8,m' h1];rfl
  exact Sb
 rw[G' Z'] at W X;refine ea ?_;refine⟨?_,I.below⟩;unfold er;rw[X,m' Z'];rfl
def XD{l:List α}(Q:l.length=n)(u:k<n):l[n-1-k]?=l.reverse[k]?:=by rw[l_ Z',Q]
def rQ:∀{X Y:t3}{d r:Nat},X.length=Y.length->Ec (X++[d]) (Y++[r])=Ec X Y+da X*r:=λ{X Y d r} h=>by
 rw[Dw h.symm];simp[Ec]
def Xm(X:t3)(d:Nat):da (X++[d])=da X*(d+1):=by rw[zd];simp[da]
def RD:∀{R:t3}{k d:Nat} (p:Nat),R[k]?=some d->(Xa R p)[k]?=some (p/da (R.take k) % (d+1))
 |[],_,_,_,h=>by simp at h
 |e::R,0,d,p,h=>by
  obtain rfl:e=d:=by simpa using h
  show some (p % (e+1))=_;rw[x9,da,y8]
 |e::R,k+1,d,p,h=>(by show(Xa R (p/(e+1)))[k]?=_;rw[RD (p/(e+1)) (by simpa using h),J7,da,u9])
def UL:∀{a b:t3}{k x y:Nat},a[k]?=some x->b[k]?=some y->(Bc a b)[k]?=some (x+y)
 |[],_,_,_,_,h,_=>by simp at h
 |_::_,[],_,_,_,_,h=>by simp at h
 |p::a,q::b,0,x,y,h1,h2=>by
  obtain rfl:p=x:=by simpa using h1
  obtain rfl:q=y:=by simpa using h2
  rfl
 |p::a,q::b,k+1,x,y,h1,h2=>(by show(Bc a b)[k]?=_;exact UL (by simpa using h1) (by simpa using h2))
def QI:∀{ds rs:t3} (k:Nat),Ah ds rs->Ah (ds.take k) (rs.take k)
 |[],[],_,_=>by simp[Ah]
 |_::_,_::_,0,_=>trivial
 |d::ds,r::rs,k+1,h=>⟨h.1,QI k h.2⟩
def wA:∀{ds rs:t3}{k d r:Nat},Ah ds rs->ds[k]?=some d->rs[k]?=some r->r<=d
 |[],_,_,_,_,_,h,_=>by simp at h
 |_::_,[],_,_,_,_,_,h=>by simp at h
 |d::ds,r::rs,0,_,_,h,h1,h2=>(by simp only[q7,E8] at h1 h2;subst h1 h2;exact h.1)
 |d::ds,r::rs,k+1,_,_,h,h1,h2=>wA (k:=k) h.2 (by simpa using h1) (by simpa using h2)
def EE(F T Y)(n X L N:Nat)(ns ts a)(p:Nat)(w)(P:Sl w F n 1 (Fa (sa ns)))(r:Sl w T n 1 (Fa (sa ts)))(s:Sl w Y n 1 (Fa (sa a))) (hn:n<=1000)(y:Ah ts.reverse (Bc (Xa ns.reverse p) a.reverse))(B:da ts<=1000000)(g:∀d∈ns,d<=1000)(M:∀d∈ts,d<=1000)(hp:p<=1000000):Zc 302 #[wn F n X,wn T n L,wn Y n N,wd p] w (wd (Ec ts.reverse (Bc (Xa ns.reverse p) a.reverse):Nat)):=by
 have I:=Hp.start w;have u:ns.length=n:=by have:=P.1;simpa[Fa,sa] using this
 have b:ts.length=n:=by have:=r.1;simpa[Fa,sa] using this
 have e:a.length=n:=by have:=s.1;simpa[Fa,sa] using this
 generalize K:Bc (Xa ns.reverse p) a.reverse=row at*;have A:row.length=n:=by rw[<-K,Zy (by rw[cf,r',r',u,e]),cf,r',u]
 refine Ga func302 ?_;refine ea ?_;refine qU [3,9,10,11,12,16,17,18,19,20,21,22,23,24,25,26,27,28,29,30,31,32,33,34,35,36,37,38,39,40,41,42,43,44,45,46,47,48,49,50] 3 9 10 11 (λE G v10 v V=>∃k:Nat,k<=n/\v=wd ((n:Int)-1-k)/\E=wd (p/da (ns.reverse.take k):Nat)/\G=wd (Ec (ts.reverse.take k) (row.take k):Nat)/\v10=wd (da (ts.reverse.take k):Nat)/\Hp w [] V) (λ_ _ _ v _=>(intOf v+1).toNat) ?_ ?_
 .refine⟨0,N' _, ?_, ?_,rfl,rfl,I⟩
  .exact W2
  rw[x9,da,y8];rfl
 clear I;rintro ρ' E G v10 v V ⟨k,hk,rfl,rfl,rfl,rfl,I⟩;by_cases D:k<n
 .obtain⟨d,f⟩:=aa (l:=ns.reverse) (k:=k) (by rw[r'];omega);obtain⟨t,S⟩:=aa (l:=ts.reverse) (k:=k) (by rw[r'];omega);obtain⟨j,hj⟩:=aa (l:=a.reverse) (k:=k) (by rw[r'];omega);have h:=XD u D;have c:=XD b D;have z:=XD e D;rw[f] at h;rw[S] at c;rw[hj] at z;have hgd:=Db (jc h);have hgt:=Db (jc c);have hgj:=Db (jc z);have hd2:=g d (O' h);have ht2:=M t (O' c);have H:row[k]?=some (p/da (ns.reverse.take k) % (d+1)+j):=by rw[<-K];exact UL (RD p f) hj
  have hrt:=wA y S H;have hcp:=Wb (ns.reverse.take k);have hq:p/da (ns.reverse.take k)<=p:=B8 _ _;have x:=we ts.reverse (k+1);rw[qb,ja S,Xm] at x;have hck:da (ts.reverse.take k)*1<=da (ts.reverse.take k)*(t+1):=O_ _ Z';have hhl:Ec (ts.reverse.take k) (row.take k)<da (ts.reverse.take k):=Xg (QI k y);have Q:((p/da (ns.reverse.take k):Nat):Int) % ((d:Int)+1)=((p/da (ns.reverse.take k) % (d+1):Nat):Int):=by rw[Int.natCast_emod];rfl
  have R:((p/da (ns.reverse.take k):Nat):Int)/((d:Int)+1)=((p/da (ns.reverse.take (k+1)):Nat):Int):=by rw[ja f,Xm,<-u9,Int.natCast_ediv];rfl
  have o:Ec (ts.reverse.take (k+1)) (row.take (k+1))=Ec (ts.reverse.take k) (row.take k)+da (ts.reverse.take k)*(p/da (ns.reverse.take k) % (d+1)+j):=by rw[ja S,ja H,rQ (by rw[q',q',r',b,A])]
  have e3:(((p/da (ns.reverse.take k) % (d+1):Nat):Int)+(j:Int))*((da (ts.reverse.take k):Nat):Int)=((da (ts.reverse.take k)*(p/da (ns.reverse.take k) % (d+1)+j):Nat):Int):=by rw[d',m_,G9]
  have e4:((da (ts.reverse.take k):Nat):Int)*((t:Int)+1)=((da (ts.reverse.take (k+1)):Nat):Int):=by rw[ja S,Xm,m_,G9];rfl
  have hb3:da (ts.reverse.take k)*(p/da (ns.reverse.take k) % (d+1)+j)<=da (ts.reverse.take k)*(t+1):=O_ _ Z';have hc5:da (ts.reverse.take (k+1))=da (ts.reverse.take k)*(t+1):=by rw[ja S,Xm]
  generalize p/da (ns.reverse.take k)=q at*;generalize q % (d+1)=m at*;generalize da (ts.reverse.take k)=C at*;generalize Ec (ts.reverse.take k) (row.take k)=J at*;obtain⟨a1,rfl,s1⟩:=P.at_ Z';obtain⟨a2,rfl,s2⟩:=r.at_ Z';obtain⟨a3,rfl,s3⟩:=s.at_ Z';refine ea ?_;refine Od 11 I ?_;refine Wi ((n-1-k)) ?_;refine Ba (i:=4) (λU Z hj hR=>Ma pa.out (show U 23=Value.pointer _ from hR.1) ((s1.ext hj.hp.below).Dl (by assumption))) ?_;refine ub ?_;refine Ba (i:=6) (λU Z hj hR=>Oo (show U 20=Value.int _ _ from hR.1) (show U 25=Value.int _ _ from hR.2.1) Z' Z') ?_;refine ub ?_;refine Wi ((n-1-k)) ?_;refine Ba (i:=10) (λU Z hj hR=>Ma pa.out (show U 29=Value.pointer _ from hR.1) ((s3.ext hj.hp.below).Dl (by assumption))) ?_;refine dn ?_;intro W I;rw[Q];refine al (aI (ia (sr (mI (mL (mI ?_))))));refine wV ?_;refine al ?_;refine sv (Lr rfl rfl Z' Z' Z') ?_;refine aI (ia (sr (mI (mI (mI ?_)))));refine mulC ?_;refine al (aI (ia (mb (mI (mL (mI ?_))))));refine sv (Eb (k:=(n-1-k)) Qa.out pa.size rfl rfl Z' Z') ?_;refine sM ?_;refine ea ?_
  refine⟨⟨k+1,Z', ?_, ?_, ?_, ?_,I⟩,by show((n:Int)-1-(k:Int)-1+1).toNat<((n:Int)-1-(k:Int)+1).toNat;omega, ?_⟩
  .exact aak
  .exact C_ (Value.int IntKind.i64) R
  .exact C_ (Value.int IntKind.i64) (show(J:Int)+((m:Int)+(j:Int))*(C:Int)=_ by rw[e3,o,G9])
  .exact C_ (Value.int IntKind.i64) e4
  exact Sb
 obtain rfl:k=n:=Z';refine ea ?_;rw[G' (by rw[r'];omega),G' Z'];exact⟨rfl,I.below⟩
def Bz(a:t4)(x y:Int)(b)(n:Nat)(h:a.length=n):(a++x::b).set n y=a++y::b:=by
 subst h;rw[q8 _ _ (F' _),t_,l']
def Hy(F)(n X:Nat)(ns)(p:Nat)(w)(P:Sl w F n 1 (Fa (sa ns)))(B:n<=1000)(b:∀d∈ns,d<=1000)(hp:p<=1000000):Calls prog 301 #[wn F n X,wd p] w λr V=>∃A c',r=.returned (wn A n c')/\V.ownsRow w.heap.size 3 1 (wn A n c') n (Fa (sa (Xa ns.reverse p).reverse))/\Below w.heap.size w V:=by
 have I:=Hp.start w;have u:ns.length=n:=by have:=P.1;simpa[Fa,sa] using this
 have W:(Xa ns.reverse p).length=n:=by rw[cf,r',u]
 refine Ga func301 ?_;refine ea ?_;refine ZB ?_;intro C z I;refine ea ?_;have M:hh n [Value.int .i64 0]=Fa (Je n):=by rw[nt];simp[Fa,Je]
 rw[M] at I;refine Jh 1 6 (λv1 v V=>∃k:Nat,k<=n/\v=wd ((n:Int)-1-k)/\v1=wd (p/da (ns.reverse.take k):Nat)/\Hp w [.row (some ⟨C,0,none⟩) n n 3 1 (Fa (Je (n-k)++sa ((Xa ns.reverse p).take k).reverse))] V) (λ_ v _=>(intOf v+1).toNat) ?_ ?_
 .refine⟨0,N' _, ?_, ?_, ?_⟩
  .exact W2
  .rw[x9,da,y8];rfl
  rw[x9];simpa[sa] using I
 clear I;rintro ρ' v1 v V ⟨k,f,rfl,rfl,I⟩;by_cases D:k<n
 .obtain⟨d,T⟩:=aa (l:=ns.reverse) (k:=k) (by rw[r'];omega);have h:=XD u D;rw[T] at h;have j:=Db (jc h);have c:=b d (O' h);have a:=RD p T;have R:p/da (ns.reverse.take k)<=p:=B8 _ _;have N:((p/da (ns.reverse.take k):Nat):Int) % ((d:Int)+1)=((p/da (ns.reverse.take k) % (d+1):Nat):Int):=by rw[Int.natCast_emod];rfl
  have L:((p/da (ns.reverse.take k):Nat):Int)/((d:Int)+1)=((p/da (ns.reverse.take (k+1)):Nat):Int):=by rw[ja T,Xm,<-u9,Int.natCast_ediv];rfl
  have hlen:(Je (n-k)++sa ((Xa ns.reverse p).take k).reverse).length=n:=by simp[Je,sa,W];omega
  have e:(Fa (Je (n-k)++sa ((Xa ns.reverse p).take k).reverse)).length=n:=by rw[Hb,hlen]
  generalize p/da (ns.reverse.take k)=q at*;obtain⟨J,rfl,s1⟩:=P.at_ Z';refine qa (sr (mI ?_));refine Sy (ia (cT (db (Va (qa (Pc (sr (mL (mI (mI (mL (mI ?_))))))))))));refine wV ?_;refine al ?_;refine sv (Oo rfl rfl Z' Z') ?_;refine sv (Kc (k:=(n-1-k)) Qa.out pa.size rfl rfl Z' Z') ?_;rw[N];refine Lb I (i:=0) (vs:=[_]) rfl rfl (Ac rfl) rfl pa.out rfl Z' rfl ?_;intro ws I;simp only[l'] at I;rw[ek _ Z'] at I;refine ia (mb (mI (mL (mI ?_))));refine wV ?_;refine ea ?_;refine⟨⟨k+1,Z', ?_, ?_, ?_⟩,by show((n:Int)-1-(k:Int)-1+1).toNat<((n:Int)-1-(k:Int)+1).toNat;omega, ?_⟩
  .exact aak
  .exact C_ (Value.int IntKind.i64) L
  .have H:(Je (n-k)++sa ((Xa ns.reverse p).take k).reverse).set (n-1-k) ((q % (d+1):Nat):Int)=Je (n-(k+1))++sa ((Xa ns.reverse p).take (k+1)).reverse:=(by have o:Je (n-k)=Je (n-(k+1))++[0]:=(by unfold Je;rw[show n-k=n-(k+1)+1 by omega,List.replicate_succ']);rw[o,J_,List.singleton_append,Bz _ _ _ _ _ (by rw[Ys];omega),ja a];simp[sa]);rw[H] at I;exact I
  exact Sb
 obtain rfl:k=n:=Z';rw[G' Z',t_] at I;exact cz
def me(a b:t3):t3:=List.zipWith (· + ·) a b
def dT{a b:t3}(h:a.length=b.length):(me a b).length=a.length:=by simp[me,h]
def vN{a b:t3}{i x y:Nat}(h1:a[i]?=some x)(h2:b[i]?=some y):(me a b)[i]?=some (x+y):=by
 unfold me;rw[A8,h1,h2]
def XM:∀(a b:t3),Bc a b=me a b
 |[],[]=>rfl
 |[],_::_=>rfl
 |_::_,[]=>rfl
 |x::a,y::b=>by rw[Bc,XM a b];rfl
def So{a b:t3}(h:a.length=b.length):Bc a.reverse b.reverse=(me a b).reverse:=by
 rw[XM];exact(List.reverse_zipWith h).symm
def jQ{L M:List (Nat×Dyadic)}(h:∀q∈M,q.2=0):Qh N (L++M)=Qh N L:=by
 unfold Qh;refine J9 λp _=> ?_;rw[Lk,sk (l:=M) λq R=>by rw[h q R];split<;>rfl];grind
def dH(N:Nat):hh N [ww false,wt (ByteArray.mk #[]),wd 0]=la NR.cells ((Qh N []).map nR):=by
 rw[Oy,List.map_replicate]
 induction N with
 |zero=>rfl
 |succ n W=>rw[a8,ri,<-W];rfl
def ax(ds es:t3)(xs ys:t5)(k:Nat):List (Nat×Dyadic):=(List.range k).flatMap λk=>(List.range (da ds)).map λi=>(Ec (Bc ds es) (Bc (Xa ds i) (Xa es k)),(xs[i]?).getD 0*(ys[k]?).getD 0)
def Vz(ds es)(xs ys)(k:Nat):ax ds es xs ys (k+1)=ax ds es xs ys k++(List.range (da ds)).map λi=>(Ec (Bc ds es) (Bc (Xa ds i) (Xa es k)),(xs[i]?).getD 0*(ys[k]?).getD 0):=by
 unfold ax;rw[J8,r8,List.flatMap_singleton]
def DN(ds es)(xs ys)(k:Nat):(ax ds es xs ys k).length=k*da ds:=by
 unfold ax;rw[vp (m:=da ds) _ _ λa _=>by simp,g8]
variable {k1 k2:Nat}
def AK{ds:t3}(C:∀x∈xs,Sz k1 x)(hy:∀y∈ys,Sz k2 y)(k:Nat):∀q∈ax ds es xs ys k,Sz (k1+k2) q.2:=λq R=>by
 unfold ax at R;obtain⟨j,_,R⟩:=k9.1 R;obtain⟨i,_,rfl⟩:=x'.1 R;refine Sz.mul ?_ ?_
 .cases h:xs[i]? with
  |none=>exact Sz.zero _
  |some x=>exact C x (O' h)
 cases h:ys[j]? with
 |none=>exact Sz.zero _
 |some y=>exact hy y (O' h)
variable {ms:t3}
def PG{ns:t3}(Q:ns.length=ms.length)(i k:Nat):Ah (me ns ms).reverse (Bc (Xa ns.reverse i) (Xa ms.reverse k)):=by
 rw[<-So Q];exact Ut (Vf _ _) (Vf _ _) (by rw[r',r',Q])
def Eu(ns ms:t3)(xs ys:t5):t5:=Qh (da (me ns ms)) (ax ns.reverse ms.reverse xs ys (da ms))
def zF(F FC G GC:t6)(n M c2 P c4:Nat)(ns ms:t3)(xs ys:t5)(k1 k2:Nat)(w:World)(hT:Nd w) (hF:Sl w F n 1 (Fa (sa ns)))(hFC:Sl w FC (da ns) 3 (la NR.cells (xs.map nR)))(hG:Sl w G n 1 (Fa (sa ms)))(hGC:Sl w GC (da ms) 3 (la NR.cells (ys.map nR))) (hn:n<=12)(Y:∀d∈ns,d<=127)(S:∀d∈ms,d<=127)(hN:da (me ns ms)<=4096)(hM:da ms*da ns<=1000000)(hx:∀x∈xs,Sz k1 x)(hy:∀y∈ys,Sz k2 y)(hk:k1+k2<=100000):Calls prog 274 #[.agg #[wn F n M,wn FC (da ns) c2],.agg #[wn G n P,wn GC (da ms) c4]] w λr V=>∃A a B b,r=.returned (.agg #[wn A n a,wn B (da (me ns ms)) b])/\Hp w [.row B (da (me ns ms)) b 30 3 (la NR.cells ((Eu ns ms xs ys).map nR)),.row A n a 3 1 (Fa (sa (me ns ms)))] V:=by
 have I:=Hp.start w;have hl1:ns.length=n:=by have:=hF.1;simpa[Fa,sa] using this
 have hl2:ms.length=n:=by have:=hG.1;simpa[Fa,sa] using this
 have hlx:xs.length=da ns:=by have:=hFC.Aa NR.len V';simpa using this
 have hly:ys.length=da ms:=by have:=hGC.Aa NR.len V';simpa using this
 have hpn:=Wb ns;have hpm:=Wb ms;have hMn:1*da ns<=da ms*da ns:=n_ _ hpm;have hMm:da ms*1<=da ms*da ns:=O_ _ hpn;obtain⟨a4,rfl,s4⟩:=hGC.at_ hpm;obtain⟨a5,rfl,s5⟩:=hFC.at_ hpn;have hla:(me ns ms).length=n:=by rw[dT Z',hl1]
 have s:∀d∈me ns ms,d<=254:=λd T=>(by obtain⟨i,hi⟩:=r_.1 T;have hi2:=(z'.1 hi).1;obtain⟨x,c⟩:=aa (l:=ns) (k:=i) Z';obtain⟨y,g⟩:=aa (l:=ms) (k:=i) Z';rw[vN c g] at hi;have:=Y x (O' c);have:=S y (O' g);have:=P_ hi;omega);have hzr:hh n [Value.int .i64 0]=Fa (Je n):=by rw[nt];simp[Fa,Je]
 refine Ga (l:=[.agg #[wn F n M,wn (some a5) (da ns) c2],.agg #[wn G n P,wn (some a4) (da ms) c4]]) func274 ?_;refine Ii ?_;intro b2 w2 I b3 w3 I b4 w4 I;refine ZB ?_;intro t w16 I;refine Ib ?_;intro b5 w5 I ws I;rw[hzr] at I;refine rf 21 (λv V=>∃i:Nat,i<=n/\v=wd i/\Hp w [.blk b5 78 [wn (some ⟨t,0,none⟩) n n,wn none 0 0] (0,0),.row (some ⟨t,0,none⟩) n n 3 1 (Fa (sa ((me ns ms).take i)++Je (n-i))),.blk b4 78 [wn none 0 0,wn none 0 0] (0,0),.blk b3 78 [wn G n P,wn (some a4) (da ms) c4] (0,0),.blk b2 78 [wn F n M,wn (some a5) (da ns) c2] (0,0)] V) (λv _=>n-(intOf v).toNat) ?_ ?_
 .exact⟨0,N' _,rfl,I⟩
 clear I;rintro ρ' v V ⟨i,hi,rfl,I⟩;by_cases hlt:i<n
 .obtain⟨x,c⟩:=aa (l:=ns) (k:=i) Z';obtain⟨y,g⟩:=aa (l:=ms) (k:=i) Z';have hgx:=Db (jc c);have hgy:=Db (jc g);have hxy:=vN c g;have hx2:=Y x (O' c);have hy2:=S y (O' g);have htl:(sa ((me ns ms).take i)).length=i:=by rw[Za,q'];omega
  have hil:(Fa (sa ((me ns ms).take i)++Je (n-i))).length=n:=by rw[Hb,D',htl,Ys];omega
  obtain⟨a1,rfl,s1⟩:=hF.at_ Z';obtain⟨a2,rfl,s2⟩:=hG.at_ Z';refine ea ?_;refine qh 14 I ?_;refine ub ?_;refine Wi (i) ?_;refine Ba (i:=7) (λU Z hj hR=>Ma pa.out (show U 30=Value.pointer _ from hR.1) ((s1.ext hj.hp.below).Dl (by assumption))) ?_;refine ub ?_;refine Wi (i) ?_;refine Ba (i:=12) (λU Z hj hR=>Ma pa.out (show U 35=Value.pointer _ from hR.1) ((s2.ext hj.hp.below).Dl (by assumption))) ?_;refine ub ?_;refine dn ?_;intro W I;refine ea ?_;refine cO ?_;intro ws I;simp only[l',Z9] at I;rw[ek _ (by rw[<-Hb,hil];exact hlt)] at I;have e5:(sa ((me ns ms).take i)++Je (n-i)).set i ((x:Int)+(y:Int))=sa ((me ns ms).take (i+1))++Je (n-(i+1)):=(by have hz:Je (n-i)=0::Je (n-(i+1)):=(by unfold Je;rw[show n-i=n-(i+1)+1 by omega,a8]);rw[hz,Bz _ _ _ _ _ htl,ja hxy];simp[sa]);rw[e5] at I;refine ea ?_;exact aC
 obtain rfl:i=n:=Z';rw[G' Z',t_] at I;replace I:Hp w [.blk b5 78 [wn (some ⟨t,0,none⟩) i i,wn none 0 0] (0,0),.row (some ⟨t,0,none⟩) i i 3 1 (Fa (sa (me ns ms))),.blk b4 78 [wn none 0 0,wn none 0 0] (0,0),.blk b3 78 [wn G i P,wn (some a4) (da ms) c4] (0,0),.blk b2 78 [wn F i M,wn (some a5) (da ns) c2] (0,0)] V:=(by have:sa (me ns ms)++Je 0=sa (me ns ms):=I_ _;rw[this] at I;exact I);have hsz:=λZ N=>BG (some ⟨t,0,none⟩) i i (me ns ms) Z N Z' (λd T=>by have:=s d T;omega) Z';have K:=dH (da (me ns ms));refine ea ?_;refine cd I (hsz _ (I.ka (i:=1) rfl)) ?_;intro w42 I;refine Jf (n:=(da (me ns ms))) I rfl rfl Z' Z' Qa.out pa.out rfl Z' Z' V' ?_;intro o w43 I;refine Gb ?_;intro ws I;rw[K] at I;clear hsz K hzr;have C:Qh (da (me ns ms)) []=Qh (da (me ns ms)) (ax ns.reverse ms.reverse xs ys 0):=rfl;rw[C] at I;unfold Eu;have hk12:=hk;clear hk;refine rf 48 (λv V=>∃k:Nat,k<=da ms/\v=wd k/\Hp w [.row (some ⟨o,0,none⟩) (da (me ns ms)) (da (me ns ms)) 30 3 (la NR.cells ((Qh (da (me ns ms)) (ax ns.reverse ms.reverse xs ys k)).map nR)),.blk b5 78 [wn (some ⟨t,0,none⟩) i i,wn (some ⟨o,0,none⟩) (da (me ns ms)) (da (me ns ms))] (0,0),.row (some ⟨t,0,none⟩) i i 3 1 (Fa (sa (me ns ms))),.blk b4 78 [wn none 0 0,wn none 0 0] (0,0),.blk b3 78 [wn G i P,wn (some a4) (da ms) c4] (0,0),.blk b2 78 [wn F i M,wn (some a5) (da ns) c2] (0,0)] V) (λv _=>da ms-(intOf v).toNat) ?_ ?_
 .exact⟨0,N' _,rfl,I⟩
 clear I C;rintro ρ2 v w2 ⟨k,hk,rfl,I⟩;by_cases hkm:k<da ms
 .obtain⟨L,E⟩:=aa (l:=ys) (k:=k) Z';have hyn:(ys.map nR)[k]?=some (nR L):=by rw[C',E];rfl
  have zy:=hy L (O' E);have p:=λZ=>Jd (nR L) Z;rw[NR.sign,Ta] at p;by_cases hy0:L=0
  .subst hy0;rw[Pv] at p;refine ea ?_;refine sv (Ua (vs:=[_,_,_]) pa.out rfl ((s4.ext I.below).recAt NR.len hyn) rfl) ?_;refine Ib ?_;intro b8 w8 I ws I;refine cd I (p _) ?_;intro w54 I;refine ea ?_;replace I:=I.sub (L' _ (P' _ (P' _ (P' _ (P' _ (P' _ (P' _ j')))))));refine⟨⟨k+1,Z',rfl, ?_⟩,by show da ms-(k+1)<da ms-k;omega, ?_⟩
   .rw[Vz,jQ λq R=> ?_]
    .exact I
    obtain⟨i,_,rfl⟩:=x'.1 R;show(xs[i]?).getD 0*(ys[k]?).getD 0=0;rw[E];show(xs[i]?).getD 0*0=0;grind
   exact Sb
  have hne:uf L 0≠0:=by
   obtain h|h|h:=FN L 0
   .rw[sj h];decide
   .exact absurd h hy0
   rw[Yn h];decide
  generalize uf L 0=sg at*;refine ea ?_;refine sv (Ua (vs:=[_,_,_]) pa.out rfl ((s4.ext I.below).recAt NR.len hyn) rfl) ?_;refine Ib ?_;intro b8 w8 I ws I;refine cd I (p _) ?_;intro w54 I;refine ea ?_;refine vU I (Hy G i P ms k _ (hG.ext I.below) Z' (λd T=>by have:=S d T;omega) Z') rfl ?_;intro A59 c59 w59 I;refine ea ?_;refine rf 63 (λv V=>∃j:Nat,j<=da ns/\v=wd j/\Hp w [.row A59 i c59 3 1 (Fa (sa (Xa ms.reverse k).reverse)),.blk b8 30 [ww (nR L).neg,wt (nR L).Ra,wd (nR L).e] (0,0),.row (some ⟨o,0,none⟩) (da (me ns ms)) (da (me ns ms)) 30 3 (la NR.cells ((Qh (da (me ns ms)) (ax ns.reverse ms.reverse xs ys k++(List.range j).map (λi=>(Ec (Bc ns.reverse ms.reverse) (Bc (Xa ns.reverse i) (Xa ms.reverse k)),(xs[i]?).getD 0*(ys[k]?).getD 0)))).map nR)),.blk b5 78 [wn (some ⟨t,0,none⟩) i i,wn (some ⟨o,0,none⟩) (da (me ns ms)) (da (me ns ms))] (0,0),.row (some ⟨t,0,none⟩) i i 3 1 (Fa (sa (me ns ms))),.blk b4 78 [wn none 0 0,wn none 0 0] (0,0),.blk b3 78 [wn G i P,wn (some a4) (da ms) c4] (0,0),.blk b2 78 [wn F i M,wn (some a5) (da ns) c2] (0,0)] V) (λv _=>da ns-(intOf v).toNat) ?_ ?_
  .refine⟨0,N' _,rfl, ?_⟩;rw[List.range_zero,f_,I_];exact I
  clear I;rintro ρ3 v w3 ⟨j,hj,rfl,I⟩;by_cases hjn:j<da ns
  .obtain⟨J,hxj⟩:=aa (l:=xs) (k:=j) Z';have hxn:(xs.map nR)[j]?=some (nR J):=by rw[C',hxj];rfl
   have zx:=hx J (O' hxj);have hpl:=λZ h1 h2 h3=>EE F (some ⟨t,0,none⟩) A59 i M i c59 ns (me ns ms) (Xa ms.reverse k).reverse j Z h1 h2 h3 Z' (by rw[I8];exact PG Z' _ _) Z' (λd T=>by have:=Y d T;omega) (λd T=>by have:=s d T;omega) Z';simp only[I8,<-So (show ns.length=ms.length by omega)] at hpl;have hplt:Ec (Bc ns.reverse ms.reverse) (Bc (Xa ns.reverse j) (Xa ms.reverse k))<da (me ns ms):=(by have:=Xg (PG (show ns.length=ms.length by omega) j k);rwa[qb,<-So (show ns.length=ms.length by omega)] at this);obtain⟨nx,hold⟩:=aa (l:=Qh (da (me ns ms)) (ax ns.reverse ms.reverse xs ys k++(List.range j).map (λi=>(Ec (Bc ns.reverse ms.reverse) (Bc (Xa ns.reverse i) (Xa ms.reverse k)),(xs[i]?).getD 0*(ys[k]?).getD 0)))) (by rw[Kh];exact hplt);have hlen:(ax ns.reverse ms.reverse xs ys k++(List.range j).map (λi=>(Ec (Bc ns.reverse ms.reverse) (Bc (Xa ns.reverse i) (Xa ms.reverse k)),(xs[i]?).getD 0*(ys[k]?).getD 0))).length<=1000000:=by
    rw[D',DN,B',g8,qb];have:k*da ns+da ns<=da ms*da ns:=by rw[<-U9];exact n_ _ hkm
    omega
   have m:Sz 1200000 nx:=by
    refine(bE (k:=k1+k2) (λq R=> ?_) nx (O' hold)).mono Z';obtain R|R:=A_.1 R
    .exact AK hx hy k q R
    refine AK (ds:=ns.reverse) (es:=ms.reverse) hx hy (k+1) q ?_;rw[Vz];obtain⟨u,hu,rfl⟩:=x'.1 R;exact H_ _ (x'.2 ⟨u,S_.2 (by have:=S_.1 hu;rw[qb];omega),rfl⟩)
   have hon:((Qh (da (me ns ms)) (ax ns.reverse ms.reverse xs ys k++(List.range j).map (λi=>(Ec (Bc ns.reverse ms.reverse) (Bc (Xa ns.reverse i) (Xa ms.reverse k)),(xs[i]?).getD 0*(ys[k]?).getD 0)))).map nR)[Ec (Bc ns.reverse ms.reverse) (Bc (Xa ns.reverse j) (Xa ms.reverse k))]?=some (nR nx):=by rw[C',hold];rfl
   have zxy:Sz 100000 (J*L):=(zx.mul zy).mono hk12;have hmul:=λA cc Z Q N=>Rh A 2 cc [nR J,nR L] Z Q N (by simpa using⟨zx.ok Z',zy.ok Z'⟩) 100000 (by simpa[Ta] using⟨zx.mono Z',zy.mono Z'⟩) Z' Z';rw[show pj ([nR J,nR L].map NR.fa)=J*L by show 1*(nR J).fa*(nR L).fa=_;rw[Ta,Ta,R7]] at hmul;have H:=λA cc Z Q N=>Uh A 2 cc [nR nx,nR (J*L)] Z Q N (by simpa using⟨m.ok Z',zxy.ok Z'⟩) 1200000 (by simpa[Ta] using⟨m,zxy.mono Z'⟩) Z';rw[show Mo ([nR nx,nR (J*L)].map NR.fa)=nx+J*L by simp only[T_,f_,Ta,Zk]] at H;have D:=UB (v:=J*L) hold;have z:ax ns.reverse ms.reverse xs ys k++(List.range (j+1)).map (λi=>(Ec (Bc ns.reverse ms.reverse) (Bc (Xa ns.reverse i) (Xa ms.reverse k)),(xs[i]?).getD 0*(ys[k]?).getD 0))=ax ns.reverse ms.reverse xs ys k++(List.range j).map (λi=>(Ec (Bc ns.reverse ms.reverse) (Bc (Xa ns.reverse i) (Xa ms.reverse k)),(xs[i]?).getD 0*(ys[k]?).getD 0))++[(Ec (Bc ns.reverse ms.reverse) (Bc (Xa ns.reverse j) (Xa ms.reverse k)),J*L)]:=(by rw[J8,q_,<-J_];simp only[T_,f_,hxj,E,F9]);have hfin:Qh (da (me ns ms)) (ax ns.reverse ms.reverse xs ys k++(List.range (j+1)).map (λi=>(Ec (Bc ns.reverse ms.reverse) (Bc (Xa ns.reverse i) (Xa ms.reverse k)),(xs[i]?).getD 0*(ys[k]?).getD 0)))=_:=(C_ _ z).trans D.symm;clear D z m;have hll:((Qh (da (me ns ms)) (ax ns.reverse ms.reverse xs ys k++(List.range j).map (λi=>(Ec (Bc ns.reverse ms.reverse) (Bc (Xa ns.reverse i) (Xa ms.reverse k)),(xs[i]?).getD 0*(ys[k]?).getD 0)))).map nR).length=da (me ns ms):=by rw[B',Kh]
   generalize Ec (Bc ns.reverse ms.reverse) (Bc (Xa ns.reverse j) (Xa ms.reverse k))=pl at*;generalize Qh (da (me ns ms)) (ax ns.reverse ms.reverse xs ys k++(List.range j).map (λi=>(Ec (Bc ns.reverse ms.reverse) (Bc (Xa ns.reverse i) (Xa ms.reverse k)),(xs[i]?).getD 0*(ys[k]?).getD 0)))=X at*;have hrl:=ee NR.len (X.map nR);refine ea ?_;refine sv (Ua (vs:=[_,_,_]) pa.out rfl ((s5.ext I.below).recAt NR.len hxn) rfl) ?_;refine Ib ?_;intro b11 w11 I ws I;refine cd I (hpl _ (hF.ext I.below) (I.ka (i:=5) rfl) (I.ka (i:=1) rfl)) ?_;intro w74 I;refine ea ?_;refine qh 14 I ?_;refine ub ?_;refine Ku (pl) ?_;refine fk [_,_,_] (λ_ hj=>hj.hp.Wc (f:=NR.cells) (x:=nR nx) (l:=X.map nR) (i:=3) rfl NR.len V' hon) ?_;refine ub ?_;refine Nw [_,_,_,_,_,_] ?_;refine ua (i:=11) (Is (.agg #[ww (nR (J*L)).neg,wt (nR (J*L)).Ra,wd (nR (J*L)).e])) Is.ext ?_ ?_
   .intro U Z hj hR;obtain⟨A85,c85,h85,s85⟩:=hR.1;exact rb rfl (Ha fi (na h85 Oa)) (hmul A85 c85 _ (hT.hp hj.hp) s85) (λ_ _ R=>⟨_,R.1,R.2,rfl⟩)
   refine Nw [_,_,_,_,_,_] ?_;refine ua (i:=13) (Is (.agg #[ww (nR (nx+J*L)).neg,wt (nR (nx+J*L)).Ra,wd (nR (nx+J*L)).e])) Is.ext ?_ ?_
   .intro U Z hj hR;obtain⟨A87,c87,h87,s87⟩:=hR.1;exact rb rfl (Ha fi (na h87 Oa)) (H A87 c87 _ (hT.hp hj.hp) s87) (λ_ _ R=>⟨_,R.1,R.2,rfl⟩)
   refine xa ?_;intro f W hJ hV;obtain⟨v88,v87,v86,v85,v84,v83,v82,v81,v80,v79,v78,v77,v76,v75,_⟩:=hV;obtain⟨A85,c85,e85,f85⟩:Rows _ _ _ (f 10) W:=v85;obtain⟨A87,c87,e87,f87⟩:Rows _ _ _ (f 12) W:=v87;replace I:=hJ.hp;refine Be ?_;clear e85 e87 hJ;refine ea ?_;refine tT ?_;intro ws I;simp only[l',Z9] at I;rw[show xb (la NR.cells (X.map nR)) (pl*3) [ww (nR (nx+J*L)).neg,wt (nR (nx+J*L)).Ra,wd (nR (nx+J*L)).e]=la NR.cells ((X.map nR).set pl (nR (nx+J*L))) from ve NR.len Z',<-c9] at I;refine ea ?_;replace I:=I.sub (L' _ (P' _ (P' _ (P' _ (P' _ (P' _ (P' _ (P' _ (P' _ j')))))))));refine⟨⟨j+1,Z',rfl,by rw[hfin];exact I⟩,by show da ns-(j+1)<da ns-j;omega, ?_⟩;exact Sb
  obtain rfl:j=da ns:=Z';rw[show ax ns.reverse ms.reverse xs ys k++(List.range (da ns)).map (λi=>(Ec (Bc ns.reverse ms.reverse) (Bc (Xa ns.reverse i) (Xa ms.reverse k)),(xs[i]?).getD 0*(ys[k]?).getD 0))=ax ns.reverse ms.reverse xs ys (k+1) by rw[Vz,qb]] at I;refine ea ?_;replace I:=I.sub (L' _ (L' _ (P' _ (P' _ (P' _ (P' _ (P' _ (P' _ j'))))))));refine⟨⟨k+1,Z',rfl,I⟩,by show da ms-(k+1)<da ms-k;omega, ?_⟩;exact Sb
 obtain rfl:k=da ms:=Z';refine Gb ?_;intro ws I;replace I:=I.sub (P' _ (L' _ (P' _ (P' _ (L' _ (L' _ j'))))));refine OV ?_;exact⟨_,_,_,_,rfl,I.sub (P' _ (P' _ (N_ _)))⟩
end Go.Proofs.YtbencocchdpikaaGreatDoor
