/- Lemmas for ratioEncloses, part 8. -/
import Derived.Test.YtbencocchdpikaaGreatDoorZ7
set_option linter.all false
set_option maxHeartbeats 0
namespace Go.Proofs.YtbencocchdpikaaGreatDoor
open Go.Proofs.Tryz
open Go.RowKit
def XY(L:FX)(N:Int)(k q:Nat)(w)(S:Nd w)(Y:L.at_ w)(t:L.qf k)(X:L.n<=L.a)(K:Sz q (Ic (-1)))(g:Sz q (1-Ic (-1)))(R:q<=2000)(u:L.e=0->∀d∈L.ns,k+L.m*(260+2*(q*d))<=300000)(J:Qo L N≠0):Calls prog 98 #[L.V,wd N] w λr V=>Below w.heap.size w V/\r=abQ (Qo L N):=by
 refine aaQ ?_;intro I x l;have E:∀Z,Nd Z->Below w.heap.size w Z->Calls prog 175 #[L.V,wd N,.agg #[ww (nR (Ic (-1))).neg,wt (nR (Ic (-1))).Ra,wd (nR (Ic (-1))).e]] Z λr V=>r=abQ (Qo L N)/\Below Z.heap.size Z V:=λZ P F=>(zz L N (nR (Ic (-1))) (Ic (-1)) k q Z P (Y.ext F) t X (NN.of K R) g R u).mono λr V ⟨h1,h2⟩=>by
  obtain⟨_,h2⟩|⟨h2,_⟩:=h2
  .exact⟨h2,h1⟩
  exact absurd h2 J
 refine Ga func98 ?_;refine Ii ?_;intro T w2 I D w4 I H w5 I;refine tZ ?_;intro p_ z;obtain rfl:=z
 intro f W Q s;have p:=Q.bl;obtain⟨v10,G,y,v,_⟩:=s;simp only[Yf];have j:f 0=_:=v;rw[j];have h:f 1=_:=y;rw[h];have o:f 2=_:=G;rw[o];have M:f 3=_:=v10;rw[M];replace I:=Q.hp;refine Lc (E _ (S.hp I) I.below) fi rfl V' ?_;rintro e_ C ⟨rfl,c⟩;refine⟨_,rfl, ?_⟩;replace I:=I.ext c;refine Bd ?_;refine sc (i:=5) (by repeat (first|exact Nc|refine Rb ?_|refine Mc ?_)) rfl U' U' U' (λ_=>bc (show _=Value.tuple (List.toArray _) from rfl) rfl) V' ?_;refine sc (i:=6) (by repeat (first|exact Nc|refine Rb ?_|refine Mc ?_)) rfl U' U' U' (λ_=>bc (show _=Value.tuple (List.toArray _) from rfl) rfl) V' ?_;refine sc (i:=7) (by repeat (first|exact Nc|refine Rb ?_|refine Mc ?_)) rfl U' U' U' (λ_=>bc (show _=Value.tuple (List.toArray _) from rfl) rfl) V' ?_;refine gM ?_;refine Ib ?_;intro ws I ws I;refine pR ?_;exact⟨I.below,rfl⟩
def SB(L:FX)(N:Int)(k q:Nat)(w)(S:Nd w)(Y:L.at_ w)(K:L.qf k)(X:L.n<=L.a)(hs:Sz q (Ic (-1)))(g:Sz q (1-Ic (-1)))(R:q<=2000)(H:L.e=0->∀d∈L.ns,k+L.m*(260+2*(q*d))<=300000)(v:Qo L N=0):Calls prog 98 #[L.V,wd N] w λr V=>∃c J D G s o y T,r=.returned (.tuple #[.agg #[wn c L.n J,wn D L.m G],.agg #[wn s L.n o,wn y L.m T],wd 0])/\Hp w [.row y L.m T 30 3 (la NR.cells ((jk true (Ic (-1)) L.ns N.toNat (L.cs.map NR.fa)).map nR)),.row s L.n o 3 1 (Fa L.ds),.row c L.n J 3 1 (Fa L.ds),.row D L.m G 30 3 (la NR.cells ((jk false (Ic (-1)) L.ns N.toNat (L.cs.map NR.fa)).map nR))] V:=by
 refine aaQ ?_;intro I x l;have E:∀Z,Nd Z->Below w.heap.size w Z->Calls prog 175 #[L.V,wd N,.agg #[ww (nR (Ic (-1))).neg,wt (nR (Ic (-1))).Ra,wd (nR (Ic (-1))).e]] Z λr V=>∃c J D G s o y T,r=.returned (.tuple #[.agg #[wn c L.n J,wn D L.m G],.agg #[wn s L.n o,wn y L.m T],wd 0])/\Hp Z [.row y L.m T 30 3 (la NR.cells ((jk true (Ic (-1)) L.ns N.toNat (L.cs.map NR.fa)).map nR)),.row s L.n o 3 1 (Fa L.ds),.row c L.n J 3 1 (Fa L.ds),.row D L.m G 30 3 (la NR.cells ((jk false (Ic (-1)) L.ns N.toNat (L.cs.map NR.fa)).map nR))] V:=λZ P F=>(zz L N (nR (Ic (-1))) (Ic (-1)) k q Z P (Y.ext F) K X (NN.of hs R) g R H).mono λr V ⟨h1,h2⟩=>by
  obtain⟨h2,_⟩|⟨_,h2⟩:=h2
  .exact absurd v h2
  exact h2
 refine Ga func98 ?_;refine Ii ?_;intro T w2 I b4 w4 I b5 w5 I;refine tZ ?_;intro p_ z;obtain rfl:=z
 intro f W Q C;have t:=Q.bl;obtain⟨v10,v9,v8,v7,_⟩:=C;simp only[Yf];have j:f 0=_:=v7;rw[j];have h:f 1=_:=v8;rw[h];have p:f 2=_:=v9;rw[p];have M:f 3=_:=v10;rw[M];replace I:=Q.hp;refine Lc (E _ (S.hp I) I.below) fi rfl V' ?_;rintro e_ w11 ⟨c,J,D,G,s,o,y,u,rfl,h2⟩;refine⟨_,rfl, ?_⟩;replace I:=I.join h2;simp only[I',J'] at I;refine Bd ?_;refine sc (i:=5) (by repeat (first|exact Nc|refine Rb ?_|refine Mc ?_)) rfl U' U' U' (λ_=>bc (show _=Value.tuple (List.toArray _) from rfl) rfl) V' ?_;refine sc (i:=6) (by repeat (first|exact Nc|refine Rb ?_|refine Mc ?_)) rfl U' U' U' (λ_=>bc (show _=Value.tuple (List.toArray _) from rfl) rfl) V' ?_;refine sc (i:=7) (by repeat (first|exact Nc|refine Rb ?_|refine Mc ?_)) rfl U' U' U' (λ_=>bc (show _=Value.tuple (List.toArray _) from rfl) rfl) V' ?_;refine gM ?_;refine Ib ?_;intro ws I ws I;refine YH (jb rfl (kb (vs:=[_,_]) pa.out (I.wa (i:=5) (n:=2) rfl rfl) rfl) (jb rfl (kb (vs:=[_,_]) pa.out (I.wa (i:=4) (n:=2) rfl rfl) rfl) (Dc (Sc rfl) Ub))) ?_
 replace I:=I.sub (P' _ (P' _ (P' _ (P' _ (L' _ (L' _ (L' _ j')))))));exact⟨_,_,_,_,_,_,_,_,rfl,I⟩
variable {M:Nat->Nat->Dyadic}{k:Nat}{xs:t5}
def QG{A:t3}{d:Nat}{B:t3}{G:Nat}(b:xs.length=da (A++d::B))(C:∀x∈xs,Sz k x) (a:∀ls:t5,ls.length=d+1->(∀x∈ls,Sz k x)->∀x∈Md d M ls,Sz (k+G) x):∀x∈re (A++d::B) A.length M xs,Sz (k+G) x:=λx Q=>by
 obtain⟨p,hp⟩:=r_.1 Q;have s:=(z'.1 hp).1;rw[Fj] at s;obtain⟨f,j,q,Y,hj,R,rfl⟩:=Nn (A:=A) (d:=d) (B:=B) (p:=p) Z';rw[Ix M xs Y hj R] at hp;have hp:=P_ hp;have o:(nc A d xs f q).length=d+1:=by simp[nc]
 refine a (nc A d xs f q) o (λy hy=> ?_) x (O' (i:=j) ?_)
 .obtain⟨i,_,rfl⟩:=x'.1 hy;exact bs C _
 rw[ju hj,<-hp];congr 1;refine Ea λi hi=> ?_;have hi:=S_.1 hi;congr 1;show((nc A d xs f q)[i]?).getD 0=_;unfold nc;rw[C',y_ hi];rfl
def PQ(up:Bool)(s)(ns)(a:Nat)(xs):(jk up s ns a xs).length=da ns:=by
 unfold jk;rw[Fj,qb]
def uN{up:Bool}{s:Dyadic}{ns:t3}{a q D:Nat}(M:a<ns.length)(T:∀d∈ns,d<=D)(r:D<=127)(Q:xs.length=da ns)(K:Sz q s)(m:Sz q (1-s))(C:∀x∈xs,Sz k x):∀x∈jk up s ns a xs,Sz (k+(260+2*(q*D))) x:=λx h=>by
 obtain⟨pre,dd,E,l,c,j,p⟩:=Gy M;have b:dd<=D:=T dd (by rw[l];exact H_ _ E');have S:q*dd<=q*D:=O_ _ b;have H:ns.reverse=E.reverse++dd::pre.reverse:=by rw[l,l8,Y8,J_];rfl
 have f:xs.length=da (E.reverse++dd::pre.reverse):=by rw[<-H,qb,Q]
 unfold jk at h;have e:E.reverse.length=E.length:=r';rw[p,j,H,<-e] at h
 cases up with
 |true=>exact(QG f C (λls h1 h2=>eS Z' K m ls k h1 h2) x h).mono Z'
 |false=>exact(QG f C (λls _ h2=>HT Z' K m ls k h2) x h).mono Z'
def ad9(ns:t3)(xs:t5)(h:Int):t5:=jk (decide (h % 2=1)) (Ic (-1)) ns (h/2).toNat xs
def agH(ns:t3)(xs:t5)(K:t4):t5:=K.foldl (ad9 ns) xs
def adk(A B:t3)(d t:Nat):t3:=(List.range (da B)).flatMap λq=>(List.range (da A)).map λf=>Ob A d f t q
def ag0(A B:t3)(d t:Nat)(xs:t5):t5:=(adk A B d t).map λp=>(xs[p]?).getD 0
def ah4(A:t3)(d:Nat)(B:t3)(X:t5)(ta tb:t5)(r:Nat):Dyadic:=sR (A++B) λrow=>co (A++d::B) X (row.take A.length++r::row.drop A.length)*dj (A++B) row (ta++tb)
def Tm:t3->t3->t3
 |[],_=>[]
 |_::_,[]=>[]
 |d::ds,k::a=>d*k::Tm ds a
def vI:∀(ds a:t3),a.length=ds.length->(∀k∈a,k<=1)->Ah ds (Tm ds a)
 |[],[],_,_=>trivial
 |[],_::_,h,_=>by cases h
 |_::_,[],h,_=>by cases h
 |d::ds,k::a,h,G=>(by refine⟨?_,vI ds a (by simpa using h) λx C=>G x (u' _ C)⟩;have:=G k E';rcases(by omega:k=0\/k=1) with rfl|rfl<;>omega)
def agj(a:Int):IntKind.i64.wrap (BitVec.ofInt IntKind.i64.bits a &&& BitVec.ofInt IntKind.i64.bits 1).toNat=a % 2:=by
 have h1:(BitVec.ofInt IntKind.i64.bits a &&& BitVec.ofInt IntKind.i64.bits 1).toNat=(a % 2).toNat:=(by show(BitVec.ofInt 64 a &&& BitVec.ofInt 64 1).toNat=_;rw[BitVec.toNat_and,show(BitVec.ofInt 64 1).toNat=2^1-1 by decide,Nat.and_two_pow_sub_one_eq_mod,BitVec.toNat_ofInt];omega);rw[h1,ck Z' Z'];omega
variable {P:Program}{N d ty:Nat}{ops:Array Oper}{Q:Kq}{O:Rf}{w:World}{rest:List Oper}{pos:String}{af:Array Edge}
def CS{t u:Nat}{x y:Operand}{a:Int}(C:ev O x=wd a)(hy:ev O y=wd 1)(L:d<N)(p:WL .plain P N ops Q rest (vd O d (wd (a % 2))) w):WL .plain P N ops Q (⟨some d,.binOp .and t x y u,ty,pos,af,none⟩::rest) O w:=
 Jb rfl rfl L (by rw[C1 C hy,agj]) p
def GJ(L:FX)(bits:Int):Int:=if L.e≠0 then L.e else if bits<0\/((2^L.n:Nat):Int)<=bits then 1 else 0
def Dm(k i:Nat):Nat:=k/2^i % 2
variable {n:Nat}
def yo(n k:Nat):t3:=(List.range n).map (Dm k)
def cnP(ns:t3)(k:Nat):Nat:=Ec ns.reverse (Tm ns (yo ns.length k)).reverse
def xm(L:FX)(bits:Int):NR:=if GJ L bits=0 then(L.cs[cnP L.ns bits.toNat]?).getD (nR 0) else nR 0
def Tq:∀(ds a:t3),Tm ds a=List.zipWith (· * ·) ds a
 |[],_=>by rw[Tm];rfl
 |_::_,[]=>by rw[Tm];rfl
 |d::ds,k::a=>by rw[Tm,Tq ds a];rfl
def Qv(n k:Nat):(yo n k).length=n:=by unfold yo;simp
def cQ:∀b∈yo n k,b<=1:=λb F=>by
 obtain⟨i,_,rfl⟩:=x'.1 F;unfold Dm;omega
def JM(h:n<=12):IntKind.i64.wrap ((1:Int)*2^(min ((n:Int)).toNat IntKind.i64.bits))=((2^n:Nat):Int):=by
 have:∀m:Nat,m<=12->IntKind.i64.wrap ((1:Int)*2^(min ((m:Int)).toNat IntKind.i64.bits))=((2^m:Nat):Int):=by decide
 exact this n h
theorem KD(L:FX)(bits:Int)(k:Nat)(w:World)(H:Nd w)(Y:L.at_ w)(hl:L.qf k)(g: -9223372036854775808<=bits)(hb2:bits<=9223372036854775807):Zc 97 #[.agg #[wn L.A L.n L.a,wn L.B L.m L.b],wd bits] w (.tuple #[.agg #[ww (xm L bits).neg,wt (xm L bits).Ra,wd (xm L bits).e],wd (GJ L bits)]):=by
 have I:=Hp.start w;have hln:=Y.ln.1;have hlm:=Y.ln.2;have K:=λZ hT1 hb=>Uq L k Z hT1 (Y.ext hb) hl;have Q:=hl.w1;by_cases J:L.e≠0
 .have eE:GJ L bits=L.e:=Q' J;unfold xm;rw[eE,R' J];generalize L.e=E at*;exact j3
 replace J:L.e=0:=C9.1 J;obtain⟨M,hnum,h12,p,hcnt,hmax⟩:=FX.fv J;refine zZ ?_;(unhygienic intros)
 rw[J] at K;have r:=JM (n:=L.n) Z';by_cases f:bits<0
 .have s:GJ L bits=1:=by rw[F];exact Q' (.inl f)
  unfold xm;rw[s,R' V'];exact j3
 by_cases P:((2^L.n:Nat):Int)<=bits
 .have s:GJ L bits=1:=by rw[F];exact Q' (.inr P)
  unfold xm;rw[s,R' V'];refine Ga func97 ?_;refine Ib ?_;intro C w2 I D w4 I;refine cd I (K _ (H.hp I) I.below) ?_;intro t I;refine ea ?_;refine sv (OM rfl rfl Z') ?_;rw[r];generalize ((2^L.n:Nat):Int)=h at*;refine Gb ?_;exact ac0
 have s:GJ L bits=0:=by rw[F];exact R' λc=>c.elim f P
 unfold xm;rw[s,Q' rfl];clear F s;obtain⟨q,rfl⟩:∃q:Nat,bits=q:=⟨bits.toNat,Z'⟩;rw[z9];have hsD:Sl w L.A L.n 1 (Fa (sa L.ns)):=by rw[<-M];exact Y.dg
 unfold cnP;have hel:(Tm L.ns (yo L.ns.length q)).length=L.n:=by rw[Tq,S6,Qv];omega
 have o:∀j d,L.ns[j]?=some d->(Tm L.ns (yo L.ns.length q))[j]?=some (d*Dm q j):=λj d T=>(by exact ada);have hok:=vI L.ns (yo L.ns.length q) (Qv _ _) cQ;generalize Tm L.ns (yo L.ns.length q)=es at*;refine Ga (l:=[.agg #[wn L.A L.n L.a,wn L.B L.m L.b],wd (q:Int)]) func97 ?_;refine Ib ?_;intro C w2 I D w4 I;refine cd I (K _ (H.hp I) I.below) ?_;intro t I;refine ea ?_;refine sv (OM rfl rfl Z') ?_;rw[r];generalize hZZ:((2^L.n:Nat):Int)=h at*;refine ea ?_;refine Jh 7 30 (λa v V=>∃(j z:Nat),j<=L.n/\v=wd j/\a=wd z/\z=Ec (L.ns.take j).reverse (es.take j).reverse/\z<da (L.ns.take j)/\Hp w [.blk D 30 [ww false,wt ⟨#[]⟩,wd 0] (0,0),.blk C 78 [wn L.A L.n L.a,wn L.B L.m L.b] (0,0)] V) (λ_ v _=>L.n-(intOf v).toNat) ?_ ?_
 .exact yU
 clear I;rintro ρ3 a_ v w3 ⟨j,z,hj,rfl,rfl,hz,y,I⟩;by_cases hjn:j<L.n
 .obtain⟨d,T⟩:=aa (l:=L.ns) (k:=j) Z';have hr:=o j d T;have hd7:=p d (O' T);have hgD:(Fa (sa L.ns))[j]?=some (wd (d:Int)):=Db (jc T);have u:=My T hr;have hcs:=dz T;rw[qb,qb] at hcs;rw[<-hz] at u;have hct:=we L.ns (j+1);have g:Dm q j<=1:=by unfold Dm;omega
  have hdb:d*Dm q j<=d:=(by have:=O_ d g;omega);have hnew:d*Dm q j+(d+1)*z<(d+1)*da (L.ns.take j):=(by have:(d+1)*(z+1)<=(d+1)*da (L.ns.take j):=O_ _ y;rw[p9] at this;omega);have hpr:(z:Int)*((d:Int)+1)=(((d+1)*z:Nat):Int):=by rw[d',m_,G9];rfl
  have R:(d:Int)*((Dm q j:Nat):Int)=((d*Dm q j:Nat):Int):=by rw[m_]
  have X:((q:Int).fdiv (2^(min ((j:Int)).toNat IntKind.i64.bits))) % 2=((Dm q j:Nat):Int):=(by have hm2:min ((j:Int)).toNat IntKind.i64.bits=j:=(by show min j 64=j;omega);rw[hm2,U5 _ (by exact y7 (o8 V'))];unfold Dm;rw[Int.natCast_emod,Int.natCast_ediv,y6];rfl);obtain⟨ad,hMe,S⟩:=(hsD.ext I.below).at_ Z';have Ij:Value.slice L.A L.n L.a=wn (some ad) L.n L.a:=by rw[hMe]
  refine iU ?_;refine sv (Ma pa.out rfl (S.Dl hgD)) ?_;refine ea ?_;refine sv (eU rfl rfl Z') ?_;refine CS rfl rfl V' ?_;rw[X];refine ea ?_;rw[hpr,R];refine⟨⟨j+1,d*Dm q j+(d+1)*z,Z',rfl, ?_,u.symm,Z',I⟩,by show L.n-(j+1)<L.n-j;omega, ?_⟩
  .show Value.int IntKind.i64 ((((d+1)*z:Nat):Int)+((d*Dm q j:Nat):Int))=_;rw[show(((d+1)*z:Nat):Int)+((d*Dm q j:Nat):Int)=((d*Dm q j+(d+1)*z:Nat):Int) by omega]
  exact Sb
 obtain rfl:j=L.n:=Z';rw[G' Z',G' Z'] at hz;rw[G' Z'] at y;obtain⟨x,hx⟩:=aa (l:=L.cs) (k:=z) Z';obtain⟨N,W,sC⟩:=Y.nm.at_ Z';have G:Value.slice L.B L.m L.b=wn (some N) L.m L.b:=by rw[W]
 rw[<-hz,hx,F9];refine ea ?_;refine Z1 ?_;exact ac0
def Eh(x:Dyadic):Dyadic:=if x<0 then -x else x
def nu(g:FX)(eps:Dyadic):Option Nat:=(List.range (2^g.n)).find? λk:Nat=>decide (Eh (xm g (k:Int)).fa<eps)
def Gm(g:FX)(eps:Dyadic):Int:=if g.e≠0 then g.e else if(nu g eps).isSome=true then 0 else 4
def gl(g:FX)(eps:Dyadic):Nat:=if g.e≠0 then 0 else(nu g eps).getD 0
def Sz.Eh{k:Nat}{x:Dyadic}(h:Sz k x):Sz k (Eh x):=by
 unfold Go.Proofs.YtbencocchdpikaaGreatDoor.Eh;split
 .exact h.neg
 exact h
def qT{L:FX}{bits:Int}(Q:L.qf k):(xm L bits).ok/\Sz k (xm L bits).fa:=by
 have o:(nR 0).ok/\Sz k (nR 0).fa:=⟨(Sz.zero 1).ok Z',by rw[Ta];exact Sz.zero k⟩;unfold xm;split
 .cases h:L.cs[cnP L.ns bits.toNat]? with
  |none=>exact o
  |some c=>exact Q.num c (O' h)
 exact o
theorem pL(g:FX)(eps:NR)(k:Nat)(w)(S:Nd w)(s:g.at_ w)(t:g.qf k)(he:eps.ok)(hk:k<=3000000):Zc 41 #[g.V,eps.V] w (.tuple #[wd (gl g eps.fa:Nat),wd (Gm g eps.fa)]):=by
 have I:=Hp.start w;have K:=λZ P F=>Uq g k Z P (s.ext F) t;unfold gl Gm;by_cases J:g.e≠0
 .rw[Q' J,Q' J];generalize g.e=E at*;refine Ga func41 ?_;refine Ib ?_;intro z w2 I H w3 I;refine cd I (K _ (S.hp I) I.below) ?_;intro y I;refine ea ?_;exact⟨rfl,I.below⟩
 rw[R' J,R' J];replace J:g.e=0:=C9.1 J;rw[J] at K;have c:g.n<=12:=(by have h1:=(FX.fv J).2.2.1;have h2:=s.ln.1;unfold FX.ns at h1;rw[B'] at h1;omega);have u:=JM c;have h63:2^g.n<=4096:=K_ (n:=2) Z' c;have R:nu g eps.fa=(List.range (2^g.n)).find? λk:Nat=>decide (Eh (xm g (k:Int)).fa<eps.fa):=rfl;refine Ga func41 ?_;refine Ib ?_;intro z w2 I H w3 I;refine cd I (K _ (S.hp I) I.below) ?_;intro y I;refine ea ?_;refine sv (OM rfl rfl Z') ?_;rw[u];generalize 2^g.n=M at*;refine ea ?_;refine rf 19 (λv V=>∃i:Nat,i<=M/\v=wd i/\(∀j,j<i->¬Eh (xm g (j:Int)).fa<eps.fa)/\Hp w [.blk H 30 [ww eps.neg,wt eps.Ra,wd eps.e] (0,0),.blk z 78 [wn g.A g.n g.a,wn g.B g.m g.b] (0,0)] V) (λv _=>M-(intOf v).toNat) ?_ ?_
 .exact⟨0,N' _,rfl,λj hj=>absurd hj (A7 _),I⟩
 clear I;rintro ρ' v V ⟨i,hi,rfl,X,I⟩;by_cases D:i<M
 .obtain⟨q,c2⟩:=qT (bits:=(i:Int)) t;have p:=λZ P F=>KD g (i:Int) k Z P (s.ext F) t Z' Z';have o:=λZ P=>KK (xm g (i:Int)) Z P (by have:=q.1;omega) (by have:=q.2.1;omega) (by have:=q.2.2;omega);have l:=λZ P=>Xn (nR (Eh (xm g (i:Int)).fa)) eps Z P (c2.Eh.ok Z') he;rw[Ta] at l;have x:=Sn (Eh (xm g (i:Int)).fa) eps.fa;have hcb: -1<=uf (Eh (xm g (i:Int)).fa) eps.fa/\uf (Eh (xm g (i:Int)).fa) eps.fa<=1:=HY _ _;by_cases T:Eh (xm g (i:Int)).fa<eps.fa
  .have N:nu g eps.fa=some i:=(by rw[R,List.find?_range_eq_some];exact⟨w' T,S_.2 D,λj hj=>by simpa using X j hj⟩);rw[N];replace x:=x.2 T;generalize uf (Eh (xm g (i:Int)).fa) eps.fa=C at*;refine P0 ?_;(unhygienic intros)
   refine xa ?_;intro f W Q hV;have Y:=Q.bl;obtain⟨v30,v29,v28,_⟩:=hV;replace I:=Q.hp;refine Be ?_;refine cd I (l _ (S.hp I)) ?_;intro L I;refine ea ?_;exact⟨rfl,I.below⟩
  replace x:¬uf (Eh (xm g (i:Int)).fa) eps.fa<0:=λh=>T (x.1 h);have r:∀j,j<i+1->¬Eh (xm g (j:Int)).fa<eps.fa:=λj hj=>by
   obtain h|h:=z_ j i
   .exact X j h
   obtain rfl:j=i:=Z';exact T
  generalize uf (Eh (xm g (i:Int)).fa) eps.fa=C at*;refine P0 ?_;(unhygienic intros)
  refine dn ?_;intro W I;refine cd I (l _ (S.hp I)) ?_;intro L I;refine AV ?_;intro I;refine⟨⟨i+1,Z',rfl,r,I⟩,by show M-(i+1)<M-i;omega, ?_⟩;exact Sb
 obtain rfl:i=M:=Z';have N:nu g eps.fa=none:=(by rw[R,List.find?_range_eq_none];exact λj hj=>by simpa using X j hj);rw[N];refine ea ?_;exact⟨rfl,I.below⟩
def lj(b:List SR):Int:=if b.any (λs=> !decide (s.lo.fa<s.hi.fa)) then 5 else if b.length=0 then 1 else 0
def sF(x y):(0<=uf x y)↔¬x<y:=by
 obtain h|h|h:=FN x y
 .rw[sj h];exact⟨λh2=>by omega,λh2=>absurd h h2⟩
 .rw[h,Pv];exact⟨λ_=>by grind,λ_=>by omega⟩
 rw[Yn h];exact⟨λ_=>by grind,λ_=>by omega⟩
def ED(L:t6)(n c:Nat)(b:List SR)(w:World)(S:Nd w)(J:Sl w L n 6 (la SR.cells b))(F:∀s∈b,s.ok)(p:n<=1000000):Zc 16 #[wn L n c] w (wd (lj b)):=by
 have I:=Hp.start w;have m:=J.Aa SR.len V';refine Ga func16 ?_;refine ea ?_;refine rf 7 (λv V=>∃i:Nat,i<=n/\v=wd i/\(b.take i).any (λs=> !decide (s.lo.fa<s.hi.fa))=false/\Hp w [] V) (λv _=>n-(intOf v).toNat) ?_ ?_
 .exact⟨0,N' _,rfl,rfl,I⟩
 clear I;rintro ρ' v V ⟨i,hi,rfl,X,I⟩;by_cases a:i<n
 .obtain⟨s,K⟩:=aa (l:=b) (k:=i) Z';have ms:=O' K;obtain⟨j,rfl,H⟩:=J.at_ Z';have E:=λZ P=>Xn s.lo s.hi Z P (F s ms).1 (F s ms).2;have e:=sF s.lo.fa s.hi.fa;generalize uf s.lo.fa s.hi.fa=B at*;by_cases g:0<=B
  .refine Vt ?_;refine Ib ?_;intro D y I ws I;refine cd I (E _ (S.hp I)) ?_;intro f I;exact adf
  refine Vt ?_;refine Ib ?_;intro D y I ws I;refine cd I (E _ (S.hp I)) ?_;intro f I;refine ea ?_;replace I:=I.sub (L' _ j');exact A0
 rw[G' Z'] at X;by_cases o:n=0
 .refine ea ?_;exact⟨by rw[lj,X,R' (by simp),Q' Z'],I.below⟩
 refine ea ?_;exact⟨by rw[lj,X,R' (by simp),R' Z'],I.below⟩
def Ol(L)(n c:Nat)(b)(w)(S:Nd w)(J:Sl w L n 6 (la SR.cells b))(F:∀s∈b,s.ok)(B:n<=1000000):Calls prog 72 #[wn L n c] w λr V=>∃A c',r=.returned (wn A n c')/\V.ownsRow w.heap.size 36 6 (wn A n c') n (la SR.cells (b.map SR.f))/\Below w.heap.size w V:=by
 refine SI ?_;intro I m;refine Ga func72 ?_;refine ea ?_;replace I:=I.yb 36 6;refine Jh 3 8 (λy v V=>∃(i e:Nat)(A:t6),i<=n/\v=wd i/\y=wn A i e/\Hp w [.row A i e 36 6 (la SR.cells ((b.take i).map SR.f))] V) (λ_ v _=>n-(intOf v).toNat) ?_ ?_
 .exact⟨0,0,none,N' _,rfl,rfl,I⟩
 clear I;rintro ρ' y v V ⟨i,e,A,hi,rfl,rfl,I⟩;by_cases D:i<n
 .obtain⟨s,K⟩:=aa (l:=b) (k:=i) Z';have ms:=O' K;obtain⟨g,rfl,H⟩:=J.at_ Z';refine Vt ?_;refine Ib ?_;intro R h I ws I;refine cd I (dF s _ (S.hp I) (F s ms)) ?_;intro Y I;refine yC ?_;intro x a I;refine EC ?_;intro o C d I;refine jB ?_;intro I;replace I:=I.sub (L' _ (P' _ j'));refine⟨⟨i+1,C,o,Z',rfl,rfl, ?_⟩,by show n-(i+1)<n-i;omega, ?_⟩
  .rw[ja K,q_,Na];exact I
  exact Sb
 exact VW
def hasB(b:List SR)(p:List NR):Bool:=decide (b.length=p.length) && (b.zip p).all λx=>x.1.has x.2.fa
def afy(a b:List SR):Bool:=decide (a.length=b.length) && (a.zip b).all λx=>x.2.has x.1.lo.fa && x.2.has x.1.hi.fa
def SR.szw{s:SR}(h:s.fin k):Sz (k+1) s.wid:=(SR.szH h).sub (SR.szL h)
variable {b:List SR}
def ahB(b:List SR):Dyadic:=pj (b.map SR.wid)
variable {j:Nat}
def Cm(b:List SR)(v:Int):Prop:=(b=[]/\v= -1)\/∃(m:Nat)(s:SR),b[m]?=some s/\v=m/\(∀(j:Nat)(t:SR),b[j]?=some t->¬s.wid<t.wid)/\∀(j:Nat)(t:SR),j<m->b[j]?=some t->t.wid<s.wid
def ey(s:SR):Cm (List.take 0 b++[s]) 0:=by
 refine .inr ⟨0,s,rfl,rfl,λj t h=> ?_,λj t h=>absurd h (A7 _)⟩
 match j,h with
 |0,h=>cases h;grind
def rI{l:List SR}{u s:SR}(h1:∀(j:Nat)(t:SR),l[j]?=some t->¬u.wid<t.wid)(g:u.wid<s.wid):Cm (l++[s]) (l.length:Nat):=by
 have G:∀(j:Nat)(t:SR),j<l.length->(l++[s])[j]?=some t->t.wid<s.wid:=λj t hj h=>(by rw[o9 hj] at h;have:=h1 j t h;grind);refine .inr ⟨l.length,s,by simp,rfl,λj t h=> ?_,G⟩;by_cases hj:j<l.length
 .have:=G j t hj h;grind
 rw[R9 Z'] at h
 match j-l.length,h with
 |0,h=>cases h;grind
def yH{l:List SR}{u s:SR}(hu:l[j]?=some u)(h1:∀(j:Nat)(t:SR),l[j]?=some t->¬u.wid<t.wid)(h2:∀(i:Nat)(t:SR),i<j->l[i]?=some t->t.wid<u.wid)(g:¬u.wid<s.wid):Cm (l++[s]) (j:Nat):=by
 have hj:=(z'.1 hu).1;refine .inr ⟨j,u,by rw[o9 hj];exact hu,rfl,λi t h=> ?_,λi t hi h=>h2 i t hi (by rwa[o9 Z'] at h)⟩;by_cases hi:i<l.length
 .exact h1 i t (by rwa[o9 hi] at h)
 rw[R9 Z'] at h
 match i-l.length,h with
 |0,h=>cases h;exact g
def tB(L)(n c:Nat)(b)(k:Nat)(w)(S:Nd w)(hS:Sl w L n 6 (la SR.cells b))(F:∀s∈b,s.fin k)(hn:n<=1000000)(hk:k<=3000000):Calls prog 74 #[wn L n c] w λr V=>(∃v,r=.returned (wd v)/\Cm b v)/\Below w.heap.size w V:=by
 have I:=Hp.start w;have hln:=hS.Aa SR.len V';refine Ga func74 ?_;refine ea ?_;refine Jh 3 8 (λv3 v V=>∃(i:Nat)(m:Int),i<=n/\v=wd i/\v3=wd m/\Cm (b.take i) m/\Hp w [] V) (λ_ v _=>n-(intOf v).toNat) ?_ ?_
 .exact⟨0, -1,N' _,rfl,rfl,.inl ⟨rfl,rfl⟩,I⟩
 clear I;rintro ρ' v3 v V ⟨i,m,hi,rfl,rfl,p,I⟩;by_cases hlt:i<n
 .obtain⟨s,K⟩:=aa (l:=b) (k:=i) Z';have ms:=O' K;obtain⟨ad,rfl,H⟩:=hS.at_ Z';obtain⟨h0,rfl⟩|⟨j,u,hu,rfl,t,x⟩:=p
  .have N:i=0:=(by have:=C_ List.length h0;rw[q',G7] at this;omega);subst N;refine Vt ?_;refine Ib ?_;intro J w5 I ws I;refine Od 9 I ?_;refine xa ?_;intro f W Q d;have R:=Q.bl;obtain⟨D,v20,C,Y,X,M,B,A,y,_⟩:=d;replace I:=Q.hp;refine Be ?_;refine ea ?_;replace I:=I.sub (L' _ j');refine⟨⟨0+1,0,Z',rfl,rfl, ?_,I⟩,by show n-(0+1)<n-0;omega, ?_⟩
   .rw[ja K];exact ey s
   exact Sb
  have z:j<i:=(by have:=z'.1 hu;obtain⟨h,_⟩:=this;rw[q'] at h;omega);have a:b[j]?=some u:=by rw[<-hu,List.getElem?_take_of_lt z]
  have q:=λZ P=>mr s k Z P (F s ms) hk;have o:=λZ P=>mr u k Z P (F u (O' a)) hk;have T:=λZ P=>Xn (nR s.wid) (nR u.wid) Z P ((SR.szw (F s ms)).ok Z') ((SR.szw (F u (O' a))).ok Z');simp only[Ta] at T;have e:=At s.wid u.wid;generalize uf s.wid u.wid=cc at*;by_cases g:0<cc
  .refine Vt ?_;refine abf ?_;intro J w5 I ws I;refine xa ?_;intro f W Q d;have R:=Q.bl;obtain⟨D,v20,C,Y,X,M,B,A,y,_⟩:=d;replace I:=Q.hp;refine Be ?_;refine aay ?_;intro E I G I;refine⟨⟨i+1,i,Z',rfl,rfl, ?_,I⟩,by show n-(i+1)<n-i;omega, ?_⟩
   .have:=rI (s:=s) t (e.1 g);rwa[q',T9 Z',<-ja K] at this
   exact Sb
  refine Vt ?_;refine abf ?_;intro J w5 I ws I;refine dn ?_;intro W I;refine aay ?_;intro E I G I;refine⟨⟨i+1,j,Z',rfl,rfl, ?_,I⟩,by show n-(i+1)<n-i;omega, ?_⟩
  .rw[ja K];exact yH hu t x λh=>g (e.2 h)
  exact Sb
 obtain rfl:i=n:=Z';rw[G' Z'] at p;refine ea ?_;exact⟨⟨_,rfl,p⟩,I.below⟩
def UF(L)(n c:Nat)(b)(g:FuncId)(cap)(G:Nat->SR->NR)(w)(S:Nd w)(J:Sl w L n 6 (la SR.cells b))(F:∀s∈b,s.ok)(B:n<=1000000)[ma prog g] (j:∀(i:Nat)(s:SR)(Z:World),i<n->b[i]?=some s->Below w.heap.size w Z->Nd Z->Calls prog g (wd i::.agg s.f.cells.toArray::cap).toArray Z λr V=>r=.returned (.agg #[ww (G i s).neg,wt (G i s).Ra,wd (G i s).e])/\Below Z.heap.size Z V):Calls prog 61 #[wn L n c,.func (.func g) #[] cap.toArray] w λr V=>∃A c',r=.returned (wn A n c')/\V.ownsRow w.heap.size 30 3 (wn A n c') n (la NR.cells (b.mapIdx G))/\Below w.heap.size w V:=by
 refine SI ?_;intro I m;refine Ga func61 ?_;refine ea ?_;refine Lc (Ol L n c b _ (S.hp I) (J.ext I.below) F B) ma.out rfl V' ?_;rintro H P ⟨C,X,rfl,t,M⟩;refine Zt ?_;intro I;refine ea ?_;replace I:=I.yb 30 3;refine Jh 5 11 (λy v V=>∃(i a:Nat)(A:t6),i<=n/\v=wd i/\y=wn A i a/\Hp w [.row A i a 30 3 (la NR.cells ((b.take i).mapIdx G)),.row C n X 36 6 (la SR.cells (b.map SR.f))] V) (λ_ v _=>n-(intOf v).toNat) ?_ ?_
 .exact⟨0,0,none,N' _,rfl,rfl,I⟩
 clear I;rintro ρ' y v V ⟨i,a,A,hi,rfl,rfl,I⟩;by_cases D:i<n
 .obtain⟨s,K⟩:=aa (l:=b) (k:=i) Z';have ms:=O' K;have d:(b.map SR.f)[i]?=some s.f:=by rw[C',K];rfl
  obtain⟨E,rfl⟩:=I.ib (i:=1) rfl Z';refine ea ?_;refine sv (Ua (vs:=[_,_,_,_,_,_]) pa.out rfl (I.Wc (f:=SR.cells) (x:=s.f) (l:=b.map SR.f) (i:=1) rfl SR.len V' d) rfl) ?_;refine Ib ?_;intro z N I ws I;refine Mh (j i s _ D K I.below (S.hp I)) ma.out rfl rfl V' ?_;rintro H o ⟨rfl,M⟩;refine Ps ?_;intro I;refine Nm ?_;intro h q I;refine EC ?_;intro T p u I;refine jB ?_;intro I;replace I:=I.sub (L' _ (P' _ (P' _ j')));refine⟨⟨i+1,p,T,Z',rfl,rfl, ?_⟩,by show n-(i+1)<n-i;omega, ?_⟩
  .rw[ja K,List.mapIdx_concat,q',T9 Z',Na];exact I
  exact Sb
 exact VW
def SR.half(s:SR)(m:NR)(u:Bool):SR:=if u then⟨m,s.hi⟩ else⟨s.lo,m⟩
def ew(s:SR)(m:NR)(u:Bool)(w):Zc 148 #[.agg #[ww s.lo.neg,wt s.lo.Ra,wd s.lo.e,ww s.hi.neg,wt s.hi.Ra,wd s.hi.e,ww m.neg,wt m.Ra,wd m.e],ww u] w (.agg (s.half m u).cells.toArray):=by
 have I:=Hp.start w
 cases u with
 |true=>
  refine Ga (l:=[.agg #[ww s.lo.neg,wt s.lo.Ra,wd s.lo.e,ww s.hi.neg,wt s.hi.Ra,wd s.hi.e,ww m.neg,wt m.Ra,wd m.e],ww true]) func148 ?_;refine Ii ?_;intro T q I D y I ws I;exact rW
 |false=>
  refine Ga (l:=[.agg #[ww s.lo.neg,wt s.lo.Ra,wd s.lo.e,ww s.hi.neg,wt s.hi.Ra,wd s.hi.e,ww m.neg,wt m.Ra,wd m.e],ww false]) func148 ?_;refine Ii ?_;intro T q I D y I ws I;exact rW
def Fw(L)(n c a:Nat)(b)(s:SR)(w)(J:Sl w L n 6 (la SR.cells b))(B:n<=1000000)(M:a<n):Calls prog 147 #[wn L n c,wd a,.agg s.cells.toArray] w λr V=>∃A c',r=.returned (wn A n c')/\V.ownsRow w.heap.size 36 6 (wn A n c') n (la SR.cells (b.set a s))/\Below w.heap.size w V:=by
 refine SI ?_;intro I m;have d:=ee SR.len b;refine Ga func147 ?_;refine Gb ?_;intro R v I;refine ZB ?_;intro z G I;refine ea ?_;refine WM I (i:=0) (o:=0) rfl rfl rfl (J.ext I.below) Qa.out pa.out (by rw[ak,Nat.min_self];show 0+n*6<=n*6;omega) (Pa SR.one _) V' ?_;intro f I;skip;have N:∀xs:List Value,xs.length=n*6->xb xs 0 ((la SR.cells b).take (min n n*6))=la SR.cells b:=λxs C=>(by rw[Nat.min_self,G' Z',xb,x9,J',T8 Z',I_]);rw[l',N _ (by rw[ak];rfl)] at I;refine ea ?_;refine Lb I (i:=0) (vs:=[_,_,_,_,_,_]) rfl rfl (Xe rfl) rfl pa.out rfl Z' rfl ?_;intro ws I;simp only[l'] at I;rw[show xb (la SR.cells b) (a*6) [ww s.lo.neg,wt s.lo.Ra,wd s.lo.e,ww s.hi.neg,wt s.hi.Ra,wd s.hi.e]=la SR.cells (b.set a s) from ve SR.len Z'] at I;exact cz
def il(k:Int)(i:Nat):Bool:=decide (0<k) && (decide (i<62) && decide (k.fdiv (2^i) % 2=1))
def Mz(i:Nat)(s:SR)(p:Addr)(k:Int)(w:World)(hi:i<=1000000)(hp:w.cell? p=some (wd k)):Zc 86 #[wd i,.agg s.cells.toArray,.pointer (some p)] w (.agg #[ww (cond (il k i) s.hi s.lo).neg,wt (cond (il k i) s.hi s.lo).Ra,wd (cond (il k i) s.hi s.lo).e]):=by
 have I:=Hp.start w;have Y:min (i:Int).toNat IntKind.i64.bits=min i 64:=rfl;unfold il;by_cases J:0<k
 .rw[w' J,Bool.true_and];by_cases h1:i<62
  .rw[w' h1,Bool.true_and];have K:min (i:Int).toNat IntKind.i64.bits=i:=by rw[Y];omega
   by_cases g:k.fdiv (2^i) % 2=1
   .rw[w' g];refine U2 ?_;intro D y I R v I;refine ZD ?_;intro ws I;exact⟨rfl,I.below⟩
   rw[m' g];refine U2 ?_;intro D y I R v I;refine ZD ?_;intro ws I;exact⟨rfl,I.below⟩
  rw[m' h1,k7];exact aeh
 rw[m' J,k7];exact aeh
def fB(L)(n c:Nat)(b)(k:Int)(w)(S:Nd w)(J:Sl w L n 6 (la SR.cells b))(F:∀s∈b,s.ok)(B:n<=1000000):Calls prog 30 #[wn L n c,wd k] w λr V=>∃A c',r=.returned (wn A n c')/\V.ownsRow w.heap.size 30 3 (wn A n c') n (la NR.cells (b.mapIdx λi s=>cond (il k i) s.f.hi s.f.lo))/\Below w.heap.size w V:=by
 have I:=Hp.start w;refine Ga func30 ?_;refine Gb ?_;intro j p I;refine JI ?_;refine vU I (UF L n c b 86 [.pointer (some ⟨j,0,none⟩)] (λi s=>cond (il k i) s.f.hi s.f.lo) _ (S.hp I) (J.ext I.below) F B (λi s Z hi _ a _=>Mz i s.f ⟨j,0,none⟩ k Z Z' ((a.cell (cn (I.Dd (i:=0) rfl rfl))).trans (I.Dd (i:=0) rfl rfl)))) rfl ?_;intro d H e I;exact cz
def VE(L)(n c:Nat)(b)(a:Nat)(s:SR)(k:Nat)(w)(S:Nd w)(J:Sl w L n 6 (la SR.cells b))(F:∀s∈b,s.fin k)(o:n<=1000000)(u:k<=3000000)(K:b[a]?=some s):Calls prog 77 #[wn L n c,wd a] w λr V=>∃A X B Y,r=.returned (.tuple #[wn A n X,wn B n Y,wd 0])/\Hp w [.row B n Y 36 6 (la SR.cells ((b.map SR.f).set a (s.f.half (nR s.f.ai) true))),.row A n X 36 6 (la SR.cells ((b.map SR.f).set a (s.f.half (nR s.f.ai) false)))] V:=by
 have I:=Hp.start w;have R:=J.Aa SR.len V';have E:a<n:=by have:=(z'.1 K).1;omega
 have d:(b.map SR.f)[a]?=some s.f:=by rw[C',K];rfl
 have j:=λZ P=>VH s.f k Z P (SR.Bw (F s (O' K)) u) u;refine Ga func77 ?_;refine ea ?_;refine cr I (Ol L n c b _ (S.hp I) (J.ext I.below) (λs h=>⟨(F s h).1.ok,(F s h).2.ok⟩) o) ?_;intro t m w17 I;obtain⟨y,rfl⟩:=I.ib (i:=0) rfl Z';refine ea ?_;refine Od 11 I ?_;refine Ku (a) ?_;refine fk [_,_,_,_,_,_] (λ_ hj=>hj.hp.Wc (f:=SR.cells) (x:=s.f) (l:=b.map SR.f) (i:=0) rfl SR.len V' d) ?_;refine ub ?_;refine Ku (a) ?_;refine fk [_,_,_,_,_,_] (λ_ hj=>hj.hp.Wc (f:=SR.cells) (x:=s.f) (l:=b.map SR.f) (i:=0) rfl SR.len V' d) ?_;refine dC (λ_ hj=>j _ (S.hp hj.hp)) ?_;refine ub ?_;refine ua (i:=10) (Sa _ 180 _) Sa.ext (λU Z hj hR=>Xc pa.out hj.bl (λv w2 h F=>⟨F,h⟩)) ?_;refine xa ?_;intro f W Q e;obtain⟨v7,v27,v26,v25,v24,v23,v22,v21,v20,v19,v18,_⟩:=e;obtain⟨b7,M,g,D⟩:Sa _ _ _ (f 10) W:=v7;replace I:=Q.newVar I g D;refine Be ?_;refine Gb ?_;intro ws I;refine Od 9 I ?_;refine dC (λ_ hj=>ew s.f (nR s.f.ai) false _) ?_;refine ua (i:=4) (Vr ws.heap.size 36 n 6 (la SR.cells ((b.map SR.f).set a (s.f.half (nR s.f.ai) false)))) (Vr.ext) ?_ ?_
 .intro U Z hj hR;exact rb rfl (Ha fi (na hR.1 (na hR.2.1 (na hR.2.2.1 Oa)))) (Fw (some ⟨y,0,none⟩) n m a (b.map SR.f) _ Z (hj.hp.ka (i:=1) rfl) o E) (λ_ _ ⟨A,c,hq,T,F⟩=>⟨_,hq,F,A,c,rfl,bh T hj.bl.size⟩)
 refine ub ?_;refine dC (λ_ hj=>ew s.f (nR s.f.ai) true _) ?_;refine xa ?_;intro f W Q e;obtain⟨v36,v35,v34,v33,q,v31,v30,v29,v28,_⟩:=e;obtain⟨z,G,p,N⟩:Vr _ _ _ _ _ (f 4) W:=q;replace I:=JJ.UE I Q.hp N;refine Be ?_;refine cr I (Fw (some ⟨y,0,none⟩) n m a (b.map SR.f) _ _ (I.ka (i:=2) rfl) o E) ?_;intro C H w37 I;refine aL (aL (aI (ia (je ?_))));replace I:=I.sub (P' _ (P' _ (L' _ (L' _ j'))));refine qa3 ?_;exact⟨_,_,_,_,rfl,I⟩
variable {K:Value->World->Prop}{o:Nat}
def aeI{o:Oper}{K':Value->World->Prop}(h:OG P ops o O w K)(u:∀v V,K v V->K' v V):OG P ops o O w K':=⟨λa next Q M B=>h.out a next Q M λv V h2=>B v V (u v V h2)⟩
variable {G:List HE}{by':Nat}{ag:Bool}{cs vs zc:List Value}{fz:Nat×Nat}{w0:World}
def oQ{H:List HE}{ty:TypeId}{af:Array Edge}(I:Hp w0 H w){t f:TypeId}{x y:Operand}{i b:Nat}{v:Value}(C:ev O x=.pointer (some ⟨b,o,none⟩))(hi:H[i]?=some (.blk b f cs fz)) (hy:ev O y=v)(E:v.cells=vs.toArray)(S:sd P t=some (n,ag,by',zc))(c:vs.length=n)(W:o+n<=cs.length)(h1:(vs.all Value.oneCell')=true):OG P ops ⟨none,.store t x y,ty,pos,af,none⟩ O w λv V=>Hp w0 (H.set i (.blk b f (xb cs o vs) fz)) V/\Is undef v V:=by
 have F:=I.at_ hi;obtain⟨V,d,Y,s,K⟩:=Pf (P:=P) (b:=b) (t:=f) (fz:=fz) o vs 0 cs w F.2.1 F.2.2 Z' (by simpa using h1);refine⟨λa next Q M B=> ?_⟩;rw[Q' (by simp[Region.wanted])];refine .inl ?_;have G:(execOp (ev O) ⟨none,.store t x y,ty,pos,af,none⟩).run P w=.ok .skip V:=by simp[execOp,C,hy,Instr.storeAt,Instr.sureAddr,storeVar,qe S,c,E,d]
 unfold Oper.wp;rw[vF M,G];exact B undef V ⟨I.grown hi s (.inl rfl) ⟨F.1,by simpa using Y,by rw[Qe Z'];exact F.2.2⟩,rfl⟩
variable {X:t5}
def YP{Q:Kq}{D:List Deferred}{id:Nat}{l:List Oper}(M:t3)(m X:Nat)(src:List (List (Nat×Option Nat)))(ds:List (Nat×Nat)){x:HE}(I:Hp w0 (x::G) w)(y:HE)(hm:P.follows .mixedOrders=true)(a:Lh l m N src ds [] M=true)(t:X<m) (h:DX P l.toArray (JC w0 G) O (λB=>∃o s g,l[X]?=some o/\src[X]?=some s/\(∀v w V,g v w->Below w.heap.size w V->g v V)/\(∀U Z,Hp w0 (x::G) Z->Oc B O U Z s->OG P l.toArray o U Z λv q=>Hp w0 (y::G) q/\g v q)/\
   DX P l.toArray (JC w0 G) O (λj=>Sts j ((List.range m).filter (· !=X))/\∀f V,Hp w0 (y::G) V->ao j f V ds->WL ⟨none,D,false⟩ P N l.toArray Q (l.drop m) (Yf O f ds) V) (X+1) (ke B X g) ((l.take m).drop (X+1)) (src.drop (X+1))) 0 fW (l.take X) (src.take X)):WC ⟨none,D,false⟩ P N (.region id l.toArray true) Q O w:=
 xQ M m X src ds I (λW=>Hp w0 (y::G) W) (L' _ (u_ _)) hm a t (λ_ _ h F=>h.ext F) (λ_ h=>h.sub (L' _ (u_ _))) h
def Lo:Sz 2 (Ic (-1))/\Sz 2 (1-Ic (-1)):=⟨(show Sz 1 (Ic (-1)) from⟨1,by decide+kernel,V'⟩).mono Z',Sz.one.sub (show Sz 1 (Ic (-1)) from⟨1,by decide+kernel,V'⟩)⟩
def xn(D:t3)(X:t5):FX:=⟨none,D.length,0,none,X.length,0,sa D,X.map nR⟩
structure CV where
 b:List SR
 D:t3
 X:t5
 Y:t5
def CV.f(c:CV):FX:=xn c.D c.X
def CV.g(c:CV):FX:=xn c.D c.Y
def CV.half(c:CV)(a:Nat)(s:SR)(u:Bool):CV:=⟨(c.b.map SR.f).set a (s.f.half (nR s.f.ai) u),c.D,jk u (Ic (-1)) c.D a c.X,jk u (Ic (-1)) c.D a c.Y⟩
structure CV.ok(c:CV):Prop where
 bx:∀s∈c.b,s.fin 1000
 KX:c.b.length<=20
 d12:c.D.length<=12
 d127:∀d∈c.D,d<=127
 NA:da c.D<=200
 lx:c.X.length=da c.D
 ly:c.Y.length=da c.D
 zx:∀x∈c.X,Sz 90000 x
 zy:∀x∈c.Y,Sz 90000 x
 up:Nb [c.f,c.g]=0->(∀x∈kj (maxD [c.f,c.g]) c.f,Sz 250000 x)/\∀x∈kj (maxD [c.f,c.g]) c.g,Sz 250000 x
structure CX where
 pe:t6
 n:Nat
 c:Nat
 f:FX
 g:FX
 v:CV
def CX.cells(x:CX):List Value:=[wn x.pe x.n x.c,wn x.f.A x.f.n x.f.a,wn x.f.B x.f.m x.f.b,wn x.g.A x.g.n x.g.a,wn x.g.B x.g.m x.g.b]
def CX.len(x:CX):(CX.cells x).length=5:=rfl
def CX.rows(x:CX):List HE:=[.row x.pe x.n x.c 36 6 (la SR.cells x.v.b),x.f.mh,x.f.gg,x.g.mh,x.g.gg]
structure FX.is(f:FX)(D:t3)(X:t5):Prop where
 ds:f.ds=sa D
 cs:f.cs=X.map nR
structure CX.fit(x:CX):Prop where
 f:x.f.is x.v.D x.v.X
 g:x.g.is x.v.D x.v.Y
structure FX.held(f:FX)(w:World):Prop where
 at_:f.at_ w
 cap:f.n<=f.a
def FX.held.of{f:FX}{H:List HE}(h:Hp w0 H w)(E:f.mh∈H)(T:f.gg∈H):f.held w:=by
 obtain⟨i,hi⟩:=r_.1 T;exact⟨⟨xg (h.own _ T),xg (h.own _ E)⟩,h.Ae hi⟩
structure CX.at_(x:CX)(w:World):Prop where
 b:Sl w x.pe x.n 6 (la SR.cells x.v.b)
 f:x.f.held w
 g:x.g.held w
def CX.at_.of{x:CX}{H:List HE}(h:Hp w0 H w)(hm:∀y∈x.rows,y∈H):x.at_ w:=
 ⟨xg (h.own (.row x.pe x.n x.c 36 6 (la SR.cells x.v.b)) (hm _ E')),.of h (hm _ (by simp[CX.rows])) (hm _ (by simp[CX.rows])),.of h (hm _ (by simp[CX.rows])) (hm _ (by simp[CX.rows]))⟩
def FX.held.ext{f:FX}{V:World}(h:f.held w)(F:Below w.heap.size w V):f.held V:=⟨h.at_.ext F,h.cap⟩
def CX.at_.ext{x:CX}{V:World}(h:x.at_ w)(F:Below w.heap.size w V):x.at_ V:=⟨h.b.ext F,h.f.ext F,h.g.ext F⟩
def FX.is.key{f:FX}{D:t3}(h:f.is D X)(M:f.at_ w):f.n=D.length/\f.m=X.length:=by
 obtain⟨h1,h2⟩:=M.ln;rw[h.ds,Za] at h1;rw[h.cs,B'] at h2;exact⟨h1.symm,h2.symm⟩
def Yg(D):(sa D).map Int.toNat=D:=xf D
def FX.is.e{f:FX}{D:t3}(h:f.is D X)(m:D.length<=12)(g:∀d∈D,d<=127)(C:X.length=da D)(E:da D<=4096):f.e=0:=by
 unfold FX.e;rw[h.ds,h.cs];exact(FV.mk rfl rfl m g C E:FV (sa D) (X.map nR) D X).ok
def FX.is.qf{f:FX}{D:t3}(h:f.is D X)(M:f.at_ w)(m:D.length<=12)(C:X.length=da D)(E:da D<=4096)(o:∀x∈X,Sz k x)(u:k<=3000000):f.qf k:=by
 obtain⟨h1,h2⟩:=h.key M;refine⟨Z',Z',λc E=> ?_⟩;rw[h.cs] at E;obtain⟨d,T,rfl⟩:=x'.1 E;rw[Ta];exact⟨(o d T).ok Z',o d T⟩
def oE(x:CX)(a:Nat)(s)(w)(S:Nd w)(C:x.at_ w)(j:x.fit)(k:x.v.ok)(hW:∀v,Cm x.v.b v->v=(a:Int))(hs:x.v.b[a]?=some s)(had:a<x.v.D.length):Calls prog 42 #[.agg x.cells.toArray] w λr V=>∃(lo up:CX)(R:List HE),r=.returned (.tuple #[.agg lo.cells.toArray,.agg up.cells.toArray])/\lo.v=x.v.half a s false/\up.v=x.v.half a s true/\lo.fit/\up.fit/\(∀y∈lo.rows++up.rows,y∈R)/\Hp w R V:=by
 have I:=Hp.start w;obtain⟨l,Q,hcnt⟩:=(⟨k.d12,k.d127,k.NA⟩:_/\_/\_);have hbn:x.v.b.length=x.n:=C.b.Aa SR.len V';have hb20:=k.KX;have ln1:=j.f.key C.f.at_;have ln2:=j.g.key C.g.at_;have lm1:=j.f.qf C.f.at_ l k.lx Z' k.zx V';have lm2:=j.g.qf C.g.at_ l k.ly Z' k.zy V';have e1:=j.f.e l Q k.lx Z';have e2:=j.g.e l Q k.ly Z';have hlx:=k.lx;have hly:=k.ly;have n1:x.f.ns=x.v.D:=by unfold FX.ns;rw[j.f.ds];exact Yg _
 have n2:x.g.ns=x.v.D:=by unfold FX.ns;rw[j.g.ds];exact Yg _
 have hw:=λZ P F=>tB x.pe x.n x.c x.v.b 1000 Z P (C.b.ext F) k.bx Z' V';have hha:=λZ P F=>VE x.pe x.n x.c x.v.b a s 1000 Z P (C.b.ext F) k.bx Z' V' hs;have M:=λZ P F=>SB x.f (a:Int) 90000 2 Z P (C.f.at_.ext F) lm1 C.f.cap Lo.1 Lo.2 V' (λ_ d T=>by
  rw[n1] at T;have:=Q d T;have:=O9 (show x.f.m<=200 by omega) (show 260+2*(2*d)<=768 by omega);omega) (by unfold Qo;rw[R' (λh=>h e1),R' Z'])
 have N:=λZ P F=>SB x.g (a:Int) 90000 2 Z P (C.g.at_.ext F) lm2 C.g.cap Lo.1 Lo.2 V' (λ_ d T=>by
  rw[n2] at T;have:=Q d T;have:=O9 (show x.g.m<=200 by omega) (show 260+2*(2*d)<=768 by omega);omega) (by unfold Qo;rw[R' (λh=>h e2),R' Z'])
 have m1:x.f.cs.map NR.fa=x.v.X:=by rw[j.f.cs,E_];exact(J9 λy _=>Ta y).trans (p8 _)
 have m2:x.g.cs.map NR.fa=x.v.Y:=by rw[j.g.cs,E_];exact(J9 λy _=>Ta y).trans (p8 _)
 rw[n1,m1,z9] at M;rw[n2,m2,z9] at N;refine Ga func42 ?_;refine Ii ?_;intro b1 Z I b2 w2 I b3 w3 I;refine Vg (hw _ (S.hp I) I.below) ?_;rintro e_ w16 ⟨⟨v,rfl,hv⟩,hb_⟩;refine⟨_,rfl, ?_⟩;obtain rfl:=hW v hv;replace I:=I.ext hb_;refine ea ?_;refine Vg (hha _ (S.hp I) I.below) ?_;rintro e_ w21 ⟨A,cA,B,cB,rfl,G⟩;refine rn9 ?_;intro I;refine ea ?_;refine Vg (M _ (S.hp I) I.below) ?_;rintro e_ w29 ⟨A1,a1,B1,o,A2,a2,B2,b2_,rfl,G⟩;refine rn9 ?_;intro I;refine Kx ?_;intro b8 w8 I b9 w9 I ws I ws I;refine Vg (N _ (S.hp I) I.below) ?_;rintro e_ w37 ⟨A3,a3,B3,p,A4,a4,B4,b4_,rfl,G⟩;refine rn9 ?_;intro I;refine Kx ?_;intro b11 w11 I b12 w12 I ws I ws I;refine agm ?_;intro I;refine YP [0,0,0,7,0,0,0,112,15,511] 9 8 [[(5,none)],[(8,none)],[(11,none)],[(41,some 0),(42,some 1),(43,some 2)],[(6,none)],[(9,none)],[(12,none)],[(45,some 4),(46,some 5),(47,some 6)],[(2,none),(44,some 3)]] [(7,48),(6,47),(5,46),(4,45),(3,44),(2,43),(1,42),(0,41)] I (.blk b2 84 [wn A x.n cA,wn A1 x.f.n a1,wn B1 x.f.m o,wn A3 x.g.n a3,wn B3 x.g.m p] (0,0)) mixed U' V' ?_
 refine OA ?_;refine fk [_,_] (λ_ hj=>hj.hp.wa (i:=7) (n:=2) rfl rfl) ?_;refine fk [_,_] (λ_ hj=>hj.hp.wa (i:=1) (n:=2) rfl rfl) ?_;refine dB [_,_,_,_,_] ?_;refine OA ?_;refine fk [_,_] (λ_ hj=>hj.hp.wa (i:=6) (n:=2) rfl rfl) ?_;refine fk [_,_] (λ_ hj=>hj.hp.wa (i:=0) (n:=2) rfl rfl) ?_;refine dB [_,_,_,_,_] ?_;refine xa ?_;refine⟨_,_,Is undef,rfl,rfl,Is.ext, ?_, ?_⟩
 .intro U Z I hR;exact aeI (oQ I (i:=0) (vs:=[_,_,_,_,_]) (show U 2=Value.pointer _ from hR.1) rfl (show U 44=Value.agg (List.toArray _) from hR.2.1) rfl pa.out rfl V' rfl) (λ_ _ h=>h)
 refine xa ?_;refine⟨by repeat (first|exact trivial|refine⟨λ_ _ _ h_=>h_, ?_⟩), ?_⟩;rintro f W I hV;obtain⟨v48,v47,v46,v45,v44,v43,v42,v41,_⟩:=hV;simp only[Yf];have q:f 0=_:=v41;rw[q];have t:f 1=_:=v42;rw[t];have u:f 2=_:=v43;rw[u];have z:f 3=_:=v44;rw[z];have E:f 4=_:=v45;rw[E];have H:f 5=_:=v46;rw[H];have J:f 6=_:=v47;rw[J];have K:f 7=_:=v48;rw[K];refine Gb ?_;intro ws I;refine kB (jb rfl (kb (vs:=[_,_,_,_,_]) pa.out (I.wa (i:=0) (n:=5) rfl rfl) rfl) (jb rfl (kb (vs:=[_,_,_,_,_]) pa.out (I.wa (i:=15) (n:=5) rfl rfl) rfl) Ub)) ?_;refine⟨⟨A,x.n,cA,⟨A1,x.f.n,a1,B1,x.f.m,o,x.f.ds,(x.v.half a s false).X.map nR⟩,⟨A3,x.g.n,a3,B3,x.g.m,p,x.g.ds,(x.v.half a s false).Y.map nR⟩,x.v.half a s false⟩,⟨B,x.n,cB,⟨A2,x.f.n,a2,B2,x.f.m,b2_,x.f.ds,(x.v.half a s true).X.map nR⟩,⟨A4,x.g.n,a4,B4,x.g.m,b4_,x.g.ds,(x.v.half a s true).Y.map nR⟩,x.v.half a s true⟩,_,rfl,rfl,rfl,⟨⟨j.f.ds,rfl⟩,j.g.ds,rfl⟩,⟨⟨j.f.ds,rfl⟩,j.g.ds,rfl⟩,λy hy=> ?_,I⟩
 simp only[CX.rows,FX.mh,FX.gg,I',J',y',i_,or_false] at hy |-;obtain rfl|rfl|rfl|rfl|rfl|rfl|rfl|rfl|rfl|rfl:=hy<;>simp[CV.half]
def mulM(a b:t7):t7:=str (mulL a.data.toList b.data.toList).1
def Gl(a b:t7):Int:=(mulL a.data.toList b.data.toList).2
def yp(x y:TR):TR:=⟨mulM x.m y.m,nR (x.c.fa*y.c.fa)⟩
def Cb(p q:List TR):List TR:=p.flatMap λx=>q.map (yp x)
def Kw(p q:List TR):t4:=p.flatMap λx=>q.map λy=>Gl x.m y.m
def Ce(p q:List TR):Int:=if 65536<p.length*q.length then 3 else match(Kw p q).find? λe=>decide (e≠0) with|some e=>e|none=>if 4096<(oa (Cb p q)).length then 3 else 0
variable {α β:Type}
def sH{α β:Type}{f:α->List β}{k:Nat}:∀{l:List α},(∀x∈l,(f x).length=k)->(l.flatMap f).length=l.length*k
 |[],_=>by simp
 |x::l,h=>(by rw[M7,D',h x E',sH λy hy=>h y (u' _ hy),V_,U9,F8])
def Pk(p q):(Cb p q).length=p.length*q.length:=sH λx _=>B' _
def Rm{a:Type}{f:α->β->a}{p:List α}{q:List β}{i:Nat}{x:α}(C:p[i]?=some x):((p.take (i+1)).flatMap λx=>q.map (f x))=((p.take i).flatMap λx=>q.map (f x))++(q.take q.length).map (f x):=by
 rw[ja C,r8,G' (F' _)];simp
def eJ{a:Type}{f:α->β->a}{p:List α}{q:List β}{i:Nat}{x:α}{y:β}(C:p[i]?=some x)(hy:q[j]?=some y):
  ∃R,(p.flatMap λx=>q.map (f x))=(((p.take i).flatMap λx=>q.map (f x))++(q.take j).map (f x))++f x y::R:=by
 refine⟨(q.drop (j+1)).map (f x)++(p.drop (i+1)).flatMap λx=>q.map (f x), ?_⟩;have N:p=p.take i++x::p.drop (i+1):=by rw[<-Wf C,Y9]
 have L:q=q.take j++y::q.drop (j+1):=by rw[<-Wf hy,Y9]
 have X:q.map (f x)=(q.take j).map (f x)++f x y::(q.drop (j+1)).map (f x):=(by rw[<-T_,<-q_,<-L])
 calc (p.flatMap λx=>q.map (f x))=(p.take i++x::p.drop (i+1)).flatMap λx=>q.map (f x):=by rw[<-N]
  _=_:=by rw[r8,M7,X];simp
def Tp{p q:List TR}(hp:Gh k p)(R:Gh j q)(h:k+j<=1000000):Gh (k+j) (Cb p q):=λt S=>by
 obtain⟨x,C,S⟩:=k9.1 S;obtain⟨y,hy,rfl⟩:=x'.1 S;have K:=(hp x C).2.mul (R y hy).2;exact⟨K.ok Z',by show Sz _ (nR _).fa;rw[Ta];exact K⟩
def yP(a b):(mulM a b).size<=b.size:=by
 unfold mulM;rw[eh];unfold mulL;split
 .rename_i l Q;have:=(YB Q).2.2;have z:l.length<=b.data.toList.length:=by rw[this.2,S6,jd,jd];omega
  have P:(RT l).length<=l.length:=by unfold RT;split<;>simp
  rw[td];exact p' P z
 exact N' _
def NJ(c)(f:t7->Dyadic)(l:List TR):wS (λm=>c*f m) l=c*wS f l:=by
 induction l with
 |nil=>exact(a7 _).symm
 |cons t l W=>rw[wS,wS,W];grind
def FR(f:t7->Dyadic)(x)(q:List TR):wS f (q.map (yp x))=x.c.fa*wS (λb=>f (mulM x.m b)) q:=by
 induction q with
 |nil=>exact(a7 _).symm
 |cons t q W=>
  rw[T_,wS,W,wS];show(nR _).fa*f (mulM x.m t.m)+_=_;rw[Ta];grind
def FI(f:t7->Dyadic)(q):∀p:List TR,wS f (Cb p q)=wS (λa=>wS (λb=>f (mulM a b)) q) p
 |[]=>rfl
 |t::p=>(by show wS f (q.map (yp t)++Cb p q)=_;rw[Bm,FR,FI f q p,wS])
def Fo(c:Dyadic)(t:TR):TR:=⟨t.m,nR (t.c.fa*c)⟩
variable {ts:List TR}
def Kb{v:Int}(h:Ye v ts=0):gh v=true/\ts.length<=4096/\(∀t∈ts,yf v t=true)/\Canon ts:=by
 unfold Ye at h
 cases Y:gh v with
 |false=>rw[Y,Q' rfl] at h;omega
 |true=>
  rw[R' (by rw[Y];decide)] at h;by_cases z:4096<ts.length
  .rw[Q' z] at h;omega
  rw[R' z] at h;by_cases W:okB v ts=true
  .unfold okB at W;rw[Z_] at W;have s:∀t∈ts,Rj v t=true:=M_.1 W.1;refine⟨rfl,Z',λt S=> ?_,Et.1 W.2,λt S=> ?_,λt S=> ?_⟩
   .exact(O8.1 (s t S)).1
   .exact cL (O8.1 (O8.1 (s t S)).2).1
   exact((Hq _).1 (O8.1 (O8.1 (s t S)).2).2).symm
  rw[R' W] at h;omega
def qM{v:Int}(Y:gh v=true)(z:ts.length<=4096)(hm:∀t∈ts,yf v t=true)(E:Canon ts):Ye v ts=0:=by
 unfold Ye;rw[R' (by rw[Y];decide),R' Z',Q'];unfold okB;rw[Z_];refine⟨M_.2 λt S=> ?_,Et.2 E.nw⟩;show(yf v t && (Gq t && nfB t.c))=true;rw[hm t S,(Hq _).2 (E.nf t S).symm];unfold Gq;rw[m' (E.nz t S)];rfl
def acS{v:Int}{s t:TR}(h:s.m=t.m)(K:yf v s=true):yf v t=true:=by unfold yf at K |-;rwa[<-h]
def Jn{v:Int}{l:List TR}(h:∀t∈l,yf v t=true):∀t∈oa l,yf v t=true:=λt S=>by
 obtain⟨s,K,e⟩:=ll t S;exact acS e (h s K)
def pg{v:Int}{l:List TR}(Y:gh v=true)(z:(oa l).length<=4096)(hm:∀t∈l,yf v t=true):Ye v (oa l)=0:=qM Y z (Jn hm) (Me l)
def RQ{v:Int}{x y:TR}(C:yf v x=true)(h:Gl x.m y.m=0):yf v (yp x y)=true:=by
 unfold yf at C |-;rw[Z_,Y_] at C;obtain⟨_,_,G,z,P⟩:=Bq h;rw[Z_,Y_];have L:=C_ List.length P;rw[jd,S6,jd,jd,G,Nat.min_self] at L;refine⟨?_, ?_⟩
 .show Le (mulM x.m y.m).data.toList=true;unfold mulM;rw[ed];exact z
 show((mulM x.m y.m).size:Int)=v;unfold mulM;rw[eh,L,<-td];exact C.2
def Up{v:Int}{p q:List TR}(hp:∀t∈p,yf v t=true)(h:∀e∈Kw p q,e=0):∀t∈Cb p q,yf v t=true:=λt S=>by
 obtain⟨x,C,S⟩:=k9.1 S;obtain⟨y,hy,rfl⟩:=x'.1 S;exact RQ (hp x C) (h _ (k9.2 ⟨x,C,x'.2 ⟨y,hy,rfl⟩⟩))
def Vl{p q:List TR}(h:Ce p q=0):p.length*q.length<=65536/\(∀e∈Kw p q,e=0)/\(oa (Cb p q)).length<=4096:=by
 unfold Ce at h;by_cases L:65536<p.length*q.length
 .rw[Q' L] at h;omega
 rw[R' L] at h;split at h
 .rename_i e he;have:=List.find?_some he;rw[Y_] at this;exact absurd h this
 rename_i he;refine⟨Z',λe hm=> ?_, ?_⟩
 .have:=List.find?_eq_none.1 he e hm;simpa using this
 by_cases z:4096<(oa (Cb p q)).length
 .rw[Q' z] at h;omega
 omega
def Ff(X:List PX):Int:=(X.map PX.v).headD 0
def ez(X:List PX):List TR:=X.flatMap PX.ts
def iB(X:List PX):Int:=if Te X=0 then Qf (ez X) else Te X
def Hu{X:List PX}(h:Te X=0):X≠[]/\(∀g∈X,g.e=0)/\∀g∈X,g.v=Ff X:=by
 unfold Te at h;exact aeB
def Dx{α β:Type}{f:α->List β}{B:Nat}:∀{l:List α},(∀x∈l,(f x).length<=B)->(l.flatMap f).length<=l.length*B
 |[],_=>by simp
 |x::l,h=>(by rw[M7,D',V_,U9];have h1:=h x E';have h2:=Dx λy hy=>h y (u' _ hy);omega)
def NB{f:α->List β}{l:List α}{i:Nat}{x:α}(h:l[i]?=some x):(l.take (i+1)).flatMap f=(l.take i).flatMap f++f x:=by
 rw[ja h,r8];simp
def wJ{l k:List TR}(h:oa l=oa k):Qf l=Qf k:=by unfold Qf;rw[h]
def aj{X:List PX}{g:PX}(h:X[0]?=some g):Ff X=g.v:=by
 obtain _|⟨f,l⟩:=X
 .cases h
 have:f=g:=by simpa using h
 rw[<-this];rfl
def EA(L)(n c:Nat)(X)(k:Nat)(w)(S:Nd w)(q:Sl w L n 2 (la PX.cells X))(hn:n<=100)(Y:∀g∈X,g.at_ w)(Q:∀g∈X,g.qf k)(hk:k<=2999000):Calls prog 70 #[wn L n c] w λr V=>∃g:PX,se (iB X) (Ff X) (oa (ez X)) g/\r=.returned (.tuple #[g.V,wd (iB X)])/\Hp w [g.row] V:=by
 have I:=Hp.start w;have hln:=q.Aa PX.len V';have j:=λZ P G=>yw L n c X k Z P (q.ext G) Z' (λg s=>(Y g s).ext G) Q;unfold iB;by_cases J:Te X=0
 .rw[Q' J];rw[J] at j;obtain⟨E,Ij,hvv⟩:=Hu J;have p:=E7.2 E;obtain⟨g0,N⟩:=aa (l:=X) (k:=0) p;rw[aj N];have hfl:(ez X).length<=X.length*4096:=Dx λg s=>(Kb (Ij g s)).2.1;obtain⟨ad,rfl,H⟩:=q.at_ Z';refine Ga (l:=[wn (some ad) n c]) func70 ?_;refine Gb ?_;intro F w2 I;refine cd I (j _ (S.hp I) I.below) ?_;intro w9 I;refine ea ?_;replace I:=I.yb 72 4;refine Jh 5 16 (λa x V=>∃(i:Nat)(M:List TR)(T:t6)(c':Nat),i<=n/\x=wd i/\a=wn T M.length c'/\MD (k+i) ((X.take i).flatMap PX.ts) M/\Hp w [.row T M.length c' 72 4 (la TR.cells M),.blk F 24 [wd 0,wn none 0 0] (0,0)] V) (λ_ x _=>n-(intOf x).toNat) ?_ ?_
  .exact⟨0,[],none,0,N' _,rfl,rfl,MD.self q6 (λt ht=>nomatch ht),I⟩
  clear I;rintro ρ' a_ x_ V ⟨i,M,T,c',hi,rfl,rfl,d,I⟩;have y:((X.take i).flatMap PX.ts).length<=i*4096:=(by have:=Dx (f:=PX.ts) (B:=4096) (l:=X.take i) λg s=>(Kb (Ij g (Z8 s))).2.1;rwa[q',T9 Z'] at this);have u:=d.len;by_cases hlt:i<n
  .obtain⟨g,D⟩:=aa (l:=X) (k:=i) Z';have b:=O' D;have h:=Q g b;have m:=Kb (Ij g b);have z:=h.cap;have C:=h.n;refine ea ?_;refine sv (Ua (vs:=[_,_]) pa.out rfl ((H.ext I.below).recAt PX.len D) rfl) ?_;refine Ib ?_;intro b7 w7 I ws I;refine Hi (Bu T M.length c' M g.A g.n g.c g.ts (k+i) _ (S.hp I) (I.ka (i:=1) rfl) ((Y g b).ext I.below) (I.Ae (i:=1) rfl) z Z' C Z' d.nw m.2.2.2.nw d.ok (h.ok.mono Z')) rfl ?_;rintro e_ w23 ⟨L2,R,c2,K,rfl,h3⟩;refine⟨_,rfl, ?_⟩;refine ET ?_;intro I;refine ea ?_;replace I:=I.sub (P' _ (L' _ (L' _ (P' _ j'))));refine⟨⟨i+1,L2,R,c2,Z',rfl,rfl, ?_,I⟩,by show n-(i+1)<n-i;omega, ?_⟩
   .rw[NB D];exact d.MR (MD.self m.2.2.2.nw (h.ok.mono Z':Gh (k+i) g.ts)) K Z'
   exact Sb
  obtain rfl:i=n:=Z';rw[G' Z'] at d y u;have o:oa M=oa (ez X):=xE d.co;have W:=wJ o;refine ea ?_;refine sv (Ma pa.out rfl (Ab I.below ((H.recAt PX.len N) 0 _ rfl))) ?_;refine mL ?_;refine Hi (Kl _ T M.length c' M (k+i) _ S I rfl Z' Z' d.ok) rfl ?_;rintro e_ w30 ⟨g,og,rfl,I⟩;refine⟨_,rfl, ?_⟩;refine GU ?_;intro ws I;rw[<-W,<-o];exact Fu
 rw[R' J];generalize Te X=e at*;refine Ga func70 ?_;refine Gb ?_;intro F w2 I;refine cd I (j _ (S.hp I) I.below) ?_;intro w9 I;refine gJ ?_;exact OU
def xo(s:t7)(i:Nat):Int:=match s.data.toList[i]? with|some c=>c.toNat|none=>0
variable {m:Nat}
def cw(l:List TR)(i:Nat):Int:=l.foldl (λm t=>max m (xo t.m i)) 0
def Gj(m:Nat)(l:List TR):t4:=(List.range m).map (cw l)
def Pj(v:Int)(ts:List TR):t4:=if Ye v ts=0 then Gj v.toNat ts else[]
def zf(m:Nat)(l):(Gj m l).length=m:=by unfold Gj;rw[B',g8]
def cx(l)(h:j<m):(Gj m l)[j]?=some (cw l j):=by
 unfold Gj;rw[C',y_ h];rfl
def uu(l:List TR)(t:TR)(i:Nat):cw (l++[t]) i=max (cw l i) (xo t.m i):=by unfold cw;rw[u7];rfl
def JG{s:t7}{i:Nat}{c:UInt8}(h:s.data.toList[i]?=some c):xo s i=c.toNat:=by unfold xo;rw[h]
def bY{A B:List α}{y:α}(h:A.length=B.length)(hy:B[j]?=some y):(B.take j++A.drop j).set j y=B.take (j+1)++A.drop (j+1):=by
 have hj:=(z'.1 hy).1;have Q:(B.take j).length=j:=by rw[q'];omega
 obtain⟨x,C⟩:=aa (l:=A) (k:=j) Z';rw[Wf C,ja hy,q8 _ _ Z',Q,t_];simp
def QW{A B:List α}{x:α}(h:A.length=B.length)(C:A[j]?=some x):(B.take j++A.drop j)[j]?=some x:=by
 have hj:=(z'.1 C).1;have Q:(B.take j).length=j:=by rw[q'];omega
 exact aa7
def HQ(m:Nat):hh m [wd 0]=Fa (Gj m []):=by
 have h1:∀n,hh n [wd 0]=Fa (List.replicate n 0):=λn=>by
  induction n with
  |zero=>rfl
  |succ n W=>rw[hh,W,a8];rfl
 rw[h1];congr 1;apply s_;intro i;by_cases h:i<m
 .rw[cx [] h,k6,Q' h];rfl
 rw[X_ (by rw[M9];omega),X_ (by rw[zf];omega)]
def Zv(p:PX)(k:Nat)(w:World)(S:Nd w)(hp:p.at_ w)(D:p.qf k):Calls prog 161 #[.agg #[wd p.v,wn p.A p.n p.c]] w λr V=>∃A c,r=.returned (wn A (Pj p.v p.ts).length c)/\Hp w [.row A (Pj p.v p.ts).length c 3 1 (Fa (Pj p.v p.ts))] V:=by
 have I:=Hp.start w;have K:=λZ P hb=>Fq p k Z P (hp.ext hb) D;by_cases J:p.e=0
 .rw[show Pj p.v p.ts=Gj p.v.toNat p.ts from Q' J,zf];rw[J] at K;obtain⟨Y,h4,L,_⟩:=Kb J;have s:p.ts.length=p.n:=hp.ln;obtain⟨pv,H,E,R,ts⟩:=p;replace Y:=Yc.1 Y;replace L:∀t∈ts,yf pv t=true:=L;replace hp:Sl w H E 4 (la TR.cells ts):=hp;have q:∀t∈ts,t.m.size<=100000:=D.sz;have hn:=D.n;replace hn:E<=1000000:=hn;replace s:ts.length=E:=s;obtain⟨m,rfl⟩:∃m:Nat,pv=(m:Int):=⟨pv.toNat,by show pv=_;have:0<=pv:=Y.1;omega⟩;replace Y:m<=12:=by have h9:(m:Int)<=12:=Y.2;omega
  show Calls _ _ _ _ λr V=>∃A c,r=.returned (wn A m c)/\Hp w [.row A m c 3 1 (Fa (Gj m ts))] V;refine Ga (l:=[.agg #[wd m,wn H E R]]) func161 ?_;refine Gb ?_;intro G Z I;refine cd I (K _ (S.hp I) I.below) ?_;intro w9 I;refine ea ?_;refine Jf (n:=m) I rfl rfl Z' Z' Qa.out pa.out rfl Z' Z' V' ?_;intro Q w13 I;refine ea ?_;rw[HQ] at I;refine rf 17 (λv V=>∃i:Nat,i<=E/\v=wd i/\Hp w [.row (some ⟨Q,0,none⟩) m m 3 1 (Fa (Gj m (ts.take i))),.blk G 24 [wd m,wn H E R] (0,0)] V) (λv _=>E-(intOf v).toNat) ?_ ?_
  .exact⟨0,N' _,rfl,I⟩
  clear I;rintro ρ' v V ⟨i,hi,rfl,I⟩;by_cases hlt:i<E
  .obtain⟨x,C⟩:=aa (l:=ts) (k:=i) Z';obtain⟨ad,rfl,hr⟩:=hp.at_ Z';have F:=O' C;have B:=q x F;have W:=O8.1 (L x F);have X:x.m.size=m:=by have:=j9 W.2;omega
   have z:x.m.data.toList.length=m:=by rw[<-td];exact X
   have hex:Qj x.m.data.toList=ints x.m.data.toList:=Wm W.1;have d:(Qj x.m.data.toList).length=m:=by rw[hex,jd];exact z
   have N:(Gj m (ts.take i)).length=(Gj m (ts.take (i+1))).length:=by rw[zf,zf]
   refine MM ?_;refine Ib ?_;intro b5 w5 I ws I;refine cr I (Bj x.m _ B) ?_;intro h b w23 I;rw[d] at I |-;refine ea ?_;refine rf 25 (λv V=>∃j:Nat,j<=m/\v=wd j/\Hp w [.row h m b 3 1 (Fa (Qj x.m.data.toList)),.blk b5 72 [wt x.m,ww x.c.neg,wt x.c.Ra,wd x.c.e] (0,0),.row (some ⟨Q,0,none⟩) m m 3 1 (Fa ((Gj m (ts.take (i+1))).take j++(Gj m (ts.take i)).drop j)),.blk G 24 [wd m,wn (some ad) E R] (0,0)] V) (λv _=>m-(intOf v).toNat) ?_ ?_
   .exact⟨0,N' _,rfl,I⟩
   clear I;rintro ρ2 v w2 ⟨j,hj,rfl,I⟩;by_cases f:j<m
   .obtain⟨e,he⟩:=aa (l:=x.m.data.toList) (k:=j) Z';have T:(Qj x.m.data.toList)[j]?=some (e.toNat:Int):=by rw[hex];exact pE he
    have ho:=QW N (cx (ts.take i) f);have a:=bY N (cx (ts.take (i+1)) f);have u:cw (ts.take (i+1)) j=max (cw (ts.take i) j) (e.toNat:Int):=by rw[ja C,uu,JG he]
    rw[u] at a;have o:((Gj m (ts.take (i+1))).take j++(Gj m (ts.take i)).drop j).length=m:=by rw[D',q',Q9,zf,zf];omega
    generalize (Gj m (ts.take (i+1))).take j++(Gj m (ts.take i)).drop j=M at*;have hee2:=Db T;have ho2:=Db ho;have hll:(Fa M).length=m:=by rw[Hb];exact o
    obtain⟨g,rfl⟩:=I.ib (i:=0) rfl Z';refine ea ?_;refine EF ?_;refine EN ?_;have y:(if(e.toNat:Int)>cw (ts.take i) j then(e.toNat:Int) else cw (ts.take i) j)=max (cw (ts.take i) j) (e.toNat:Int):=by split<;>omega
    refine Lb I (i:=2) (vs:=[_]) rfl rfl (Ac rfl) rfl pa.out rfl Z' rfl ?_;refine Uv ?_;intro ws I;rw[y,ek _ (by rw[<-Hb];omega),a] at I;refine ea ?_;refine⟨⟨j+1,Z',rfl,I⟩,by show m-(j+1)<m-j;omega, ?_⟩;exact Sb
   obtain rfl:j=m:=Z';rw[G' (by rw[zf];omega),T8 (by rw[zf];omega),I_] at I;refine ea ?_;replace I:=I.sub (L' _ (L' _ (P' _ (P' _ j'))));refine⟨⟨i+1,Z',rfl,I⟩,by show E-(i+1)<E-i;omega, ?_⟩;exact Sb
  obtain rfl:i=E:=Z';rw[G' Z'] at I;exact abK
 rw[show Pj p.v p.ts=[] from R' J];refine Ga func161 ?_;refine Gb ?_;intro G Z I;refine cd I (K _ (S.hp I) I.below) ?_;intro w9 I;refine ea ?_;exact⟨none,0,rfl,(I.sub (N_ _)).yb 3 1⟩
def rm(dg ds:t4):Bool:=(dg.zip ds).any λq=>decide (q.2<q.1\/127<q.2)
def Cg(p:PX)(b:List SR)(ds:t4):Int:=
 if p.e≠0 then p.e else if lj b≠0 then lj b else if(b.length:Int)≠p.v\/(ds.length:Int)≠p.v then 1 else if rm (Pj p.v p.ts) ds=true then 1 else if Lf 1 ds=0 then 3 else 0
def Ax{a:List α}{b:List β}{i:Nat}{x:α}{y:β}(C:a[i]?=some x)(hy:b[i]?=some y):(a.zip b)[i]?=some (x,y):=by
 rw[p7];exact⟨C,hy⟩
def mz(p:PX)(L)(n c:Nat)(b)(M)(m mc:Nat)(ds)(k:Nat)(w)(S:Nd w)(hp:p.at_ w)(lp:p.qf k)(hB:Sl w L n 6 (la SR.cells b))(F:∀s∈b,s.ok)(hn:n<=1000000)(E:Sl w M m 1 (Fa ds))(hm:m<=1000000):Zc 162 #[p.V,wn L n c,wn M m mc] w (wd (Cg p b ds)):=by
 have I:=Hp.start w;have K:=λZ P F=>Fq p k Z P (hp.ext F) lp;have t:=λZ P J=>ED L n c b Z P (hB.ext J) F hn;have g:=λZ P F=>Zv p k Z P (hp.ext F) lp;have hbl:b.length=n:=hB.Aa SR.len V';have hdl:ds.length=m:=by have:=E.1;rw[Hb] at this;omega
 unfold Cg;by_cases T:p.e≠0
 .rw[Q' T];generalize p.e=e at*;refine Ga func162 ?_;refine Gb ?_;intro j B I;refine cd I (K _ (S.hp I) I.below) ?_;intro W I;refine ea ?_;exact⟨rfl,I.below⟩
 rw[R' T];have r:p.e=0:=Z';rw[r] at K;by_cases h1:lj b≠0
 .rw[Q' h1];generalize lj b=e at*;exact PR
 rw[R' h1];rw[show lj b=0 by omega] at t;by_cases h2:(b.length:Int)≠p.v
 .rw[Q' (.inl h2)];exact PR
 by_cases Y:(ds.length:Int)≠p.v
 .rw[Q' (.inr Y)];exact PR
 rw[R' (λh=>h.elim h2 Y)];have o:(Pj p.v p.ts).length=m:=(by unfold Pj;rw[Q' (show Ye p.v p.ts=0 from r),zf];omega);have hzl:((Pj p.v p.ts).zip ds).length=m:=by rw[List.length_zip];omega
 have d:rm (Pj p.v p.ts) ds=((Pj p.v p.ts).zip ds).any λq=>decide (q.2<q.1\/127<q.2):=rfl;generalize Pj p.v p.ts=dg at*;rw[o] at g;refine PZ ?_;intro j B I W I D I;refine Vg (g _ (S.hp I) I.below) ?_;rintro e_ w34 ⟨G,gc,rfl,h4⟩;refine qG ?_;intro I;refine ea ?_;refine rf 36 (λv V=>∃i:Nat,i<=m/\v=wd i/\((dg.zip ds).take i).any (λq=>decide (q.2<q.1\/127<q.2))=false/\Hp w [.row G m gc 3 1 (Fa dg),.blk j 24 [wd p.v,wn p.A p.n p.c] (0,0)] V) (λv _=>m-(intOf v).toNat) ?_ ?_
 .exact⟨0,N' _,rfl,rfl,I⟩
 clear I;rintro ρ' v V ⟨i,hi,rfl,X,I⟩;by_cases hlt:i<m
 .obtain⟨x,hx⟩:=aa (l:=dg) (k:=i) Z';obtain⟨y,hy⟩:=aa (l:=ds) (k:=i) Z';have Q:=Ax hx hy;have hx2:=Db hx;have a:=Db hy;have hll:(Fa dg).length=m:=by rw[Hb];exact o
  obtain⟨ad,rfl,H⟩:=E.at_ Z';obtain⟨g0,rfl⟩:=I.ib (i:=0) rfl Z';by_cases u:y<x
  .refine ea ?_;refine tJ ?_;refine DH ?_;refine ea ?_;rw[Q' (by rw[d];exact E9.2 ⟨_,O' Q,w' (.inl u)⟩)];exact⟨rfl,I.below⟩
  by_cases z:127<y
  .refine ea ?_;refine tJ ?_;refine DH ?_;refine ea ?_;refine DH ?_;refine ea ?_;rw[Q' (by rw[d];exact E9.2 ⟨_,O' Q,w' (.inr z)⟩)];exact⟨rfl,I.below⟩
  refine ea ?_;refine tJ ?_;refine DH ?_;refine ea ?_;refine DH ?_;refine ea ?_;refine⟨⟨i+1,Z',rfl,by rw[ja Q,S8,X,Q8,M8,m' (λh=>h.elim u z)];rfl,I⟩,by show m-(i+1)<m-i;omega, ?_⟩;exact Sb
 rw[G' Z'] at X;rw[R' (by rw[d,X];decide)];have f:=λZ F=>tg M m mc ds Z (E.ext F) hm;refine ea ?_;by_cases C:Lf 1 ds=0
 .rw[Q' C];rw[C] at f;refine cd I (f _ I.below) ?_;intro R I;refine ea ?_;exact⟨rfl,I.below⟩
 rw[R' C];generalize Lf 1 ds=N at*;refine cd I (f _ I.below) ?_;intro R I;refine ea ?_;exact⟨rfl,I.below⟩
def EG{p q:List TR}(h:65536<p.length*q.length):Ce p q=3:=by unfold Ce;rw[Q' h]
def kM{p q:List TR}{e:Int}(L:¬65536<p.length*q.length){a b:t4}(h:Kw p q=a++e::b)(M:∀x∈a,x=0)(he:e≠0):Ce p q=e:=by
 unfold Ce;rw[R' L,h,List.find?_append,Sg (P9.2 λx C=>by simp[M x C]),List.find?_cons_of_pos (p:=λe:Int=>decide (e≠0)) (by simpa using he)];rfl
def vy{p q:List TR}(L:¬65536<p.length*q.length)(h:∀x∈Kw p q,x=0):Ce p q=Qf (Cb p q):=by
 unfold Ce Qf;rw[R' L,Sg (P9.2 λx C=>by simp[h x C])]
end Go.Proofs.YtbencocchdpikaaGreatDoor
