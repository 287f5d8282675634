/- Lemmas for ratioEncloses, part 6. -/
import Derived.Test.YtbencocchdpikaaGreatDoorZ5
set_option linter.all false
set_option maxHeartbeats 0
namespace Go.Proofs.YtbencocchdpikaaGreatDoor
open Go.Proofs.Tryz
open Go.RowKit
structure FX where
 A:t6
 n:Nat
 a:Nat
 B:t6
 m:Nat
 b:Nat
 ds:t4
 cs:List NR
abbrev FX.V(f:FX):Value:=.agg #[wn f.A f.n f.a,wn f.B f.m f.b]
def FX.cells(f:FX):List Value:=[wn f.A f.n f.a,wn f.B f.m f.b]
def FX.len(f):(FX.cells f).length=2:=rfl
def FX.v(f:FX):Value:=.agg #[wn f.A f.n f.a,wn f.B f.m f.b]
variable {w:World}
structure FX.at_(f:FX)(w:World):Prop where
 dg:Sl w f.A f.n 1 (Fa f.ds)
 nm:Sl w f.B f.m 3 (la NR.cells f.cs)
def FX.at_.ext{f:FX}{V:World}(h:f.at_ w)(F:Below w.heap.size w V):f.at_ V:=⟨h.dg.ext F,h.nm.ext F⟩
structure FX.qf(f:FX)(k:Nat):Prop where
 w1:f.n<=1000
 m60:f.m<=100000
 num:∀c∈f.cs,c.ok/\Sz k c.fa
def FX.e(f:FX):Int:=fE f.ds f.cs
def Uq(f:FX)(k:Nat)(w)(S:Nd w)(h:f.at_ w)(Q:f.qf k):Zc 96 #[f.V] w (wd f.e):=
 EB f.A f.B f.n f.a f.m f.b f.ds f.cs w S h.dg h.nm (by have:=Q.w1;omega) (by have:=Q.m60;omega) λa M=>(Q.num a M).1
def YF(fs:List FX):Bool:=fs.any λf=>decide (f.n≠(fs.map FX.n).headD 0)
def Fg(fs:List FX):Int:=match fs.find? (λf=>decide (f.e≠0)) with|some f=>f.e|none=>if fs.length=0\/YF fs=true then 1 else 0
def GK(L)(n c:Nat)(fs)(f:FX)(p:Addr)(w)(e:Sl w L n 2 (la FX.cells fs))(hp:w.cell? p=some (wn L n c))(o:0<n):Zc 272 #[f.V,.pointer (some p)] w (ww (decide (f.n≠(fs.map FX.n).headD 0))):=by
 have I:=Hp.start w;have d:=e.Aa FX.len V';obtain⟨g,fs,rfl⟩:∃g l,fs=g::l:=by
  cases fs with
  |nil=>exact absurd d (by show ¬0=n;omega)
  |cons g l=>exact⟨g,l,rfl⟩
 obtain⟨r,rfl,H⟩:=e.at_ o;have k:(((g::fs).map FX.n).headD 0)=g.n:=rfl;rw[k];have J:(g::fs)[0]?=some g:=rfl;by_cases s:f.n=g.n
 .refine ZZ ?_;intro T q I;refine xa ?_;intro f W Q j;have h:=Q.bl;obtain⟨v11,v10,G,Y,t,v6,u,v4,_⟩:=j;replace I:=Q.hp;refine Be ?_;exact qR
 refine ZZ ?_;intro T q I;refine dn ?_;intro W I;exact JU
theorem sJ(A)(n c:Nat)(l)(g:FuncId)(cap)(p:FX->Bool)(w)(J:Sl w A n 2 (la FX.cells l))(t:n<=1000000)[ma prog g] (s:∀(z:FX)(Z:World),z∈l->Below w.heap.size w Z->Calls prog g (z.V::cap).toArray Z λr V=>r=.returned (ww (p z))/\Below Z.heap.size Z V):Calls prog 212 #[wn A n c,.func (.func g) #[] cap.toArray] w λr V=>∃v,r=.returned (wd v)/\(0<=v↔l.any p=true)/\Below w.heap.size w V:=by
 have I:=Hp.start w;have j:=J.Aa FX.len V';refine Ga func212 ?_;refine afN ?_;clear I;rintro ρ' v V ⟨i,hi,rfl,X,I⟩;by_cases D:i<n
 .obtain⟨z,o⟩:=aa (l:=l) (k:=i) Z';obtain⟨q,rfl,H⟩:=J.at_ Z';have E:=λZ=>s z Z (O' o)
  cases d:p z with
  |true=>
   refine aaq ?_;(unhygienic intros)
   refine Ps ?_;intro I;refine ea ?_;exact⟨_,rfl,⟨λ_=>E9.2 ⟨z,O' o,d⟩,λ_=>by omega⟩,I.below⟩
  |false=>
   refine aaq ?_;(unhygienic intros)
   refine Ps ?_;intro I;refine ea ?_;refine⟨⟨i+1,Z',rfl,by rw[ja o,S8,X,Q8,M8,d];rfl,I⟩,by show n-(i+1)<n-i;omega, ?_⟩;exact Sb
 exact JX
def pJ(A)(n c:Nat)(l)(g:FuncId)(cap)(p:FX->Bool)(w)(e:Sl w A n 2 (la FX.cells l))(f:n<=1000000)[ma prog g] (s:∀(z:FX)(Z:World),z∈l->Below w.heap.size w Z->Calls prog g (z.V::cap).toArray Z λr V=>r=.returned (ww (p z))/\Below Z.heap.size Z V):Zc 137 #[wn A n c,.func (.func g) #[] cap.toArray] w (ww (l.any p)):=by
 have I:=Hp.start w;refine Ga func137 ?_;refine ea ?_;refine Lc (sJ A n c l g cap p _ (e.ext I.below) f s) ma.out rfl V' ?_;rintro H j ⟨i,rfl,d,M⟩;refine Ps ?_;intro I
 cases X:l.any p with
 |true=>
  have J:=d.2 X;refine ea ?_;exact⟨rfl,I.below⟩
 |false=>
  have J:¬0<=i:=λh=>by rw[d.1 h] at X;cases X
  refine ea ?_;exact⟨rfl,I.below⟩
def MG(L)(n c:Nat)(fs)(k:Nat)(w)(S:Nd w)(d:Sl w L n 2 (la FX.cells fs))(B:n<=1000000)(Y:∀f∈fs,f.at_ w)(Q:∀f∈fs,f.qf k):Zc 225 #[wn L n c] w (wd (Fg fs)):=by
 have I:=Hp.start w;have m:=d.Aa FX.len V';refine Ga func225 ?_;refine Gb ?_;intro G Z I;refine rf 8 (λv V=>∃i:Nat,i<=n/\v=wd i/\(fs.take i).any (λf=>decide (f.e≠0))=false/\Hp w [.blk G 95 [wn L n c] (0,0)] V) (λv _=>n-(intOf v).toNat) ?_ ?_
 .exact⟨0,N' _,rfl,rfl,I⟩
 clear I;rintro ρ' v V ⟨i,hi,rfl,X,I⟩;by_cases o:i<n
 .obtain⟨f,C⟩:=aa (l:=fs) (k:=i) Z';have M:=O' C;have E:=λZ P F=>Uq f k Z P ((Y f M).ext F) (Q f M);obtain⟨p,rfl,H⟩:=d.at_ Z';by_cases he:f.e=0
  .refine gN ?_;refine Ib ?_;intro D y I ws I;refine cd I (E _ (S.hp I) I.below) ?_;intro g I;refine ea ?_;replace I:=I.sub (L' _ (P' _ j'));exact kS
  refine gN ?_;refine Ib ?_;intro D y I ws I;refine cd I (E _ (S.hp I) I.below) ?_;intro g I;refine ea ?_;refine⟨?_,I.below⟩;unfold Fg;rw[Pm X C (w' he)]
 rw[G' Z'] at X;have j:Fg fs=if fs.length=0\/YF fs=true then 1 else 0:=by unfold Fg;rw[Sg X]
 rw[j];by_cases J:n=0
 .exact hU
 have a:V.cell? ⟨G,0,none⟩=some (wn L n c):=I.Dd (i:=0) rfl rfl;have W:=λZ F=>pJ L n c fs 272 [.pointer (some ⟨G,0,none⟩)] (λf=>decide (f.n≠(fs.map FX.n).headD 0)) Z (d.ext (I.below.trans (F.mono I.below.size))) B (λz q r R=>GK L n c fs z ⟨G,0,none⟩ q ((d.ext (I.below.trans (F.mono I.below.size))).ext R) (Ab R (Ab F a)) Z')
 cases A:YF fs with
 |true=>
  have b:fs.any (λf=>decide (f.n≠(fs.map FX.n).headD 0))=true:=A;refine KS ?_;intro W T I;exact⟨by rw[Q' (.inr rfl)],I.below⟩
 |false=>
  have b:fs.any (λf=>decide (f.n≠(fs.map FX.n).headD 0))=false:=A;exact N1
open Go.ChangeShapes Go.WideShapes Go.ChangeAt Go.RowKit Go.ChangeMaps
variable {Y:Nat}
def aeJ{P v K T:Nat}(A:0<v)(y:0<K)(S:P/K=T)(g:v*K<=Y):P/Y<=T/v:=by
 rw[<-S,u9,d' K v];exact Nat.div_le_div_left g (H7 A y)
def LS{P q:Nat}(g:0<Y)(h:P/Y<=q)(R:q*Y<=P):q=P/Y:=Nat.le_antisymm ((Nat.le_div_iff_mul_le g).2 R) h
def C2{P q:Nat}(g:0<Y)(R:P<q*Y):P/Y<=q-1:=by
 have:=(S9 g).2 R;omega
structure Uy(u c y1 y0 q rh:Nat):Prop where
 e:q*y1+rh=u
 le:(4294967296*u+c)/(4294967296*y1+y0)<=q
 sm:q<=4294967297
variable {C j:Nat}
def Nz{u c:Nat}(h1:2147483648<=j)(J:C<4294967296)(E:c<4294967296)(hu:u<4294967296*j+C):Uy u c j C (u/j) (u % j):=by
 have a:=L9 u j;refine⟨by rw[d'];exact a, ?_, ?_⟩
 .refine aeJ (K:=4294967296) Z' V' (T:=u) ?_ Z';omega
 have:u/j<4294967298:=(by rw[S9 Z'];omega);omega
def zO{u c q d:Nat}(h1:2147483648<=j)(hu:u<4294967296*j+C)(E:c<4294967296)(h:Uy u c j C q d)(F:4294967296<=q\/4294967296*d+c<q*C):1<=q/\Uy u c j C (q-1) (d+j):=by
 obtain⟨e,hle,D⟩:=h;have R:1<=q:=by
  obtain F|F:=F
  .omega
  obtain J|J:=a9 q
  .rw[J,W7] at F;omega
  exact J
 obtain⟨p,rfl⟩:∃p,q=p+1:=⟨q-1,Z'⟩;rw[U9] at e;refine⟨R,⟨by rw[Nat.add_sub_cancel];omega, ?_,Z'⟩⟩;have g:0<4294967296*j+C:=Z';obtain F|F:=F
 .have:(4294967296*u+c)/(4294967296*j+C)<4294967296:=(by rw[S9 g];omega);omega
 refine C2 g ?_;have L:(p+1)*(4294967296*j+C)=4294967296*((p+1)*j)+(p+1)*C:=by rw[j_,L7]
 rw[L,U9 p j];omega
def tC{u c q d:Nat}(h1:2147483648<=j)(J:C<4294967296)(h:Uy u c j C q d)(F:q*C<=4294967296*d+c):q=(4294967296*u+c)/(4294967296*j+C):=by
 obtain⟨e,hle,D⟩:=h;refine LS Z' hle ?_;have L:q*(4294967296*j+C)=4294967296*(q*j)+q*C:=by rw[j_,L7]
 rw[L];omega
def xJ{u c q d:Nat}(h1:2147483648<=j)(J:C<4294967296)(h:Uy u c j C q d)(R:q<=4294967296)(F:4294967296<=d):q=(4294967296*u+c)/(4294967296*j+C):=by
 refine tC h1 J h ?_;have h2:q*C<=4294967295*q:=by rw[d' 4294967295];exact O_ q Z'
 omega
variable {m r:Nat}
def rH{a c:Nat}(h:a+c=m+r)(H:r<18446744073709551616):((a % 18446744073709551616+c) % 18446744073709551616+18446744073709551616-m % 18446744073709551616) % 18446744073709551616=r:=by omega
def lK{hi X L y:Nat}(hy:0<y)(h1:X<4294967296)(J:L<4294967296):4294967296*((4294967296*hi+X)/y)+(4294967296*((4294967296*hi+X) % y)+L)/y=(18446744073709551616*hi+(4294967296*X+L))/y/\(4294967296*((4294967296*hi+X) % y)+L) % y=(18446744073709551616*hi+(4294967296*X+L)) % y:=by
 have T:=L9 (4294967296*hi+X) y;generalize (4294967296*hi+X)/y=q at*;generalize (4294967296*hi+X) % y=r at*;have e:18446744073709551616*hi+(4294967296*X+L)=y*(4294967296*q)+(4294967296*r+L):=(by rw[L7];omega);rw[e,Nat.mul_add_div hy,Nat.mul_add_mod];exact⟨rfl,rfl⟩
def lJ{xs:t3}{a p P:Nat}(h1:xs[a+m]?=some P)(h2:xs[a+(m+1)]?=some p):(xs.drop a).take (m+2)=(xs.drop a).take m++[P,p]:=by
 have N:(xs.drop a)[m]?=some P:=by rw[U8];exact h1
 have L:(xs.drop a)[m+1]?=some p:=by rw[U8];exact h2
 rw[ja L,ja N,J_];rfl
variable {B:Nat}
def FQ{xs:t3}{a p P:Nat}(C:Dg B xs)(E:0<B)(h1:xs[a+m]?=some P)(h2:xs[a+(m+1)]?=some p):Ka B ((xs.drop a).take (m+2))/B^m=B*p+P:=by
 have Q:=(z'.1 h2).1;have hlen:((xs.drop a).take m).length=m:=by rw[q',Q9];omega
 have D:=ug ((C.drop a).take m);rw[hlen] at D;rw[lJ h1 h2,Jc,hlen,B9 _ _ (L_ E),k_ D];show 0+(P+B*(p+B*0))=_;rw[x8,N9,i',F8]
def ZJ{ys:t3}{v:Nat}(h:ys[m]?=some v)(Q:ys.length=m+1):v*B^m<=Ka B ys:=by
 have e:ys=ys.take m++[v]:=by rw[<-ja h,G' Z']
 rw[e,Jc,q',T9 Z'];show v*B^m<=_+B^m*(v+B*0);rw[x8,N9,d'];exact Nat.le_add_left _ _
def cK(B p P v:Nat):Nat:=if p<v then(B*p+P)/v else B-1
variable {n:Nat}
def acF{xs ys:t3}{a p P v:Nat}(C:Dg B xs)(E:1<B)(h1:xs[a+m]?=some P)(h2:xs[a+(m+1)]?=some p)(A:ys[m]?=some v)(Q:ys.length=m+1)(M:0<v)(f:Ka B ((xs.drop a).take (m+2))/Ka B ys<B):Ka B ((xs.drop a).take (m+2))/Ka B ys<=cK B p P v/\cK B p P v<B:=by
 have J:=C.at_ h1;unfold cK;by_cases D:p<v
 .rw[Q' D];refine⟨aeJ M (L_ (n:=m) Z') (FQ C Z' h1 h2) (ZJ A Q), ?_⟩;rw[S9 M];have:B*(p+1)<=B*v:=O_ B D;rw[p9] at this;omega
 rw[R' D];omega
def oU{xs:t3}{a:Nat}(M:a+n<=xs.length)(H:r<B^n):Ka B (xs.take a++Fb B n r++xs.drop (a+n))+B^a*Ka B ((xs.drop a).take n)=Ka B xs+B^a*r:=by
 have h1:xs=xs.take a++(xs.drop a).take n++xs.drop (a+n):=(by rw[J_,<-U7,Y9,Y9]);have x:(xs.take a).length=a:=by rw[q'];omega
 have m:((xs.drop a).take n).length=n:=by rw[q',Q9];omega
 have j:(Fb B n r).length=n:=Da _ _;have N:Ka B xs=Ka B (xs.take a)+B^a*(Ka B ((xs.drop a).take n)+B^n*Ka B (xs.drop (a+n))):=by
  conv=>lhs;rw[h1]
  rw[J_,Jc,Jc,x,m]
 rw[N,J_,Jc,Jc,x,j,Pb H];simp only[j_];omega
variable {next:Rf->World->Prop}{ro:Mode}{P:Program}{N:Nat}{Q:Kq}{O:Rf}
def az{c:Code}{id:Nat}(mods)(s0:Nat)(J:Value->World->Prop)(E:WC ro P N c (Fs id (Xd (λK q=>J (K s0) q/\Gg mods K O) Q)) O w) (B:∀ρ' v0 V,J v0 V->next (vd (mask mods ρ' O) s0 v0) V):WC ro P N c (Fs id (Xd next Q)) O w:=
 E.mono λe K q R=>by
  have key:J (K s0) q/\Gg mods K O->next K q:=λh=>(by have:=B K (K s0) q h.1;rwa[th h.2,Hf] at this)
  cases e with
  |normal=>exact key R
  |exit i=>
   by_cases h:i=id
   .subst h;simp only[Fs,Xd,if_true] at R |-;exact key R
   simp only[Fs,Xd,R' h] at R |-;exact R
  |_=>exact R
def vq{a c:Code}(mods)(J:World->Prop)(E:WC ro P N a (Xd (λK q=>J q/\Gg mods K O) Q) O w)(B:∀ρ' V,J V->WC ro P N c Q (mask mods ρ' O) V):WC ro P N (.seq a c) Q O w:=
 qa (E.mono λe K q R=>by
  cases e with
  |normal=>
   have:=B K q R.1;rwa[th R.2] at this
  |_=>exact R)
def zI(hi lo y:Nat)(w:World)(hy:9223372036854775808<=y)(A:y<18446744073709551616)(hh1:hi<y)(hl:lo<18446744073709551616):Zc 320 #[.int .u64 hi,.int .u64 lo,.int .u64 y] w (.tuple #[.int .u64 ((18446744073709551616*hi+lo)/y:Nat),.int .u64 ((18446744073709551616*hi+lo) % y:Nat)]):=by
 have I:=Hp.start w;by_cases h0:hi=0
 .subst h0;rw[x8,i'];refine Ga (l:=[.int .u64 ((0:Nat):Int),.int .u64 lo,.int .u64 y]) func320 ?_;refine ea ?_;refine qh 7 I ?_;refine ub ?_;refine Ba (i:=2) (λU Z hj hR=>dK (show U 28=Value.int _ _ from hR.1) (show U 29=Value.int _ _ from hR.2.1) Z' (by first|assumption|omega)) ?_;refine ub ?_;refine Ba (i:=5) (λU Z hj hR=>ME (show U 31=Value.int _ _ from hR.1) (show U 32=Value.int _ _ from hR.2.1) Z') ?_;refine daI ?_;refine dn ?_;intro W I;refine ea ?_;exact⟨rfl,I.below⟩
 have F:(64:Int)-(Wa y:Int)=((0:Nat):Int):=(by have:=uD (n:=y) (k:=64) A hy;omega);have E:=λZ=>Ir y Z A;rw[F] at E;refine Ga func320 ?_;refine ea ?_;refine cd I (E _) ?_;intro w35 I;have em:∀z:Nat,z &&& 4294967295=z % 4294967296:=λz=>Nat.and_two_pow_sub_one_eq_mod z 32;have s0:∀z:Nat,z<18446744073709551616->z*2^((0:Nat):Int).toNat % 18446744073709551616=z:=λz hz=>(by show z*1 % _=z;rw[W_];exact G_ hz);have Y:lo/2^(((64+18446744073709551616-0) % 18446744073709551616:Nat):Int).toNat=0:=k_ hl;have z65:lo/2^(((64+18446744073709551616-0) % 18446744073709551616:Nat):Int).toNat<18446744073709551616:=by rw[Y];decide
 obtain⟨j,hy1⟩:∃j,y/4294967296=j:=⟨_,rfl⟩;obtain⟨C,hy0⟩:∃C,y % 4294967296=C:=⟨_,rfl⟩;obtain⟨X,J⟩:∃X,lo/4294967296=X:=⟨_,rfl⟩;obtain⟨L,H⟩:∃L,lo % 4294967296=L:=⟨_,rfl⟩;have P:y=4294967296*j+C:=Z';have K:lo=4294967296*X+L:=Z';have g:2147483648<=j:=Z';have b0:C<4294967296:=Z';have d1:X<4294967296:=Z';have d0:L<4294967296:=Z';refine vA ?_;refine ea ?_;refine sv (qp rfl rfl Z') ?_;refine ea ?_;rw[s0 y A];refine ea ?_;refine AR ?_;refine sv (qp rfl rfl Z') ?_;refine ea ?_;refine sv (Rs (a:=64) rfl rfl Z') ?_;refine sv (Es rfl rfl Z') ?_;refine sv (V1 rfl rfl (by first|assumption|omega) (by first|assumption|omega)) ?_;refine ea ?_;refine sv (qp rfl rfl Z') ?_;refine ea ?_;rw[s0 hi Z',s0 lo hl,Y,Nat.or_zero,em y,hy1,hy0];refine ea ?_;refine AR ?_;rw[em lo,J,H];clear em s0 Y z65 F E;have e:=Nz (u:=hi) g b0 d1 Z';refine aah ?_;have B:(hi+18446744073709551616-hi/j*j % 18446744073709551616) % 18446744073709551616=hi % j:=(by have h1:=L9 hi j;rw[d'] at h1;omega);rw[B];clear B;refine az [15,16,67,68,69,70,71,72,73,74,75,76,77,78,79,80,81,82,83,84,85] 15 (λv V=>v=.int .u64 ((4294967296*hi+X)/y:Nat)/\Hp w [] V) ?_ ?_
 .refine Jh 15 16 (λa b V=>∃q d:Nat,a=.int .u64 q/\b=.int .u64 d/\Uy hi X j C q d/\d<4294967296/\Hp w [] V) (λa _ _=>(intOf a).toNat) ?_ ?_
  .exact⟨_,_,rfl,rfl,e,by have:=R_ hi (show 0<j by omega);omega,I⟩
  clear I e;rintro ρ' a_ b_ V ⟨q,d,rfl,rfl,o,hr,I⟩;have Q:=o.sm;have t:q<4294967296->q*C<18446744073709551616:=λh=>(by have h2:q*C<=q*4294967295:=O_ q Z';omega);by_cases F:4294967296<=q\/4294967296*d+X<q*C
  .exact aag
  exact nZ
 skip;clear I e;rintro ρ' v V ⟨rfl,I⟩;obtain⟨t1,t2⟩:=lK (hi:=hi) (by omega:0<y) d1 d0;have hdm:=L9 (4294967296*hi+X) y;have hr1:=R_ (4294967296*hi+X) (by omega:0<y);have hqs:(4294967296*hi+X)/y<4294967296:=(by rw[S9 Z'];omega);generalize (4294967296*hi+X)/y=D at*;generalize (4294967296*hi+X) % y=M at*;have e:=Nz (u:=M) g b0 d0 Z';refine ea ?_;refine W0 ?_;refine ea ?_;rw[rH (a:=hi*4294967296) (m:=D*y) (r:=M) (by rw[d' hi,d' D];omega) Z'];refine aah ?_;have B:(M+18446744073709551616-M/j*j % 18446744073709551616) % 18446744073709551616=M % j:=(by have h1:=L9 M j;rw[d'] at h1;omega);rw[B];clear B;refine az [16,18,102,103,104,105,106,107,108,109,110,111,112,113,114,115,116,117,118,119,120] 18 (λv V=>v=.int .u64 ((4294967296*M+L)/y:Nat)/\Hp w [] V) ?_ ?_
 .refine Jh 18 16 (λa b V=>∃q d:Nat,a=.int .u64 q/\b=.int .u64 d/\Uy M L j C q d/\d<4294967296/\Hp w [] V) (λa _ _=>(intOf a).toNat) ?_ ?_
  .exact⟨_,_,rfl,rfl,e,by have:=R_ M (show 0<j by omega);omega,I⟩
  clear I e;rintro ρ' a_ b_ V ⟨q,d,rfl,rfl,o,hr,I⟩;have Q:=o.sm;have t:q<4294967296->q*C<18446744073709551616:=λh=>(by have h2:q*C<=q*4294967295:=O_ q Z';omega);by_cases F:4294967296<=q\/4294967296*d+L<q*C
  .exact aag
  exact nZ
 skip;clear I e;rintro ρ' v V ⟨rfl,I⟩;have hdm2:=L9 (4294967296*M+L) y;have G:=R_ (4294967296*M+L) (by omega:0<y);have hq2:(4294967296*M+L)/y<4294967296:=(by rw[S9 Z'];omega);generalize (4294967296*M+L)/y=q2 at*;generalize (4294967296*M+L) % y=r2 at*;rw[<-K] at t1 t2;have e1:(D*4294967296 % 18446744073709551616+q2) % 18446744073709551616=(18446744073709551616*hi+lo)/y:=by rw[d' D];omega
 have e2:=rH (a:=M*4294967296) (c:=L) (m:=q2*y) (r:=r2) (by rw[d' M,d' q2];omega) Z';have e3:r2/2^((0:Nat):Int).toNat=(18446744073709551616*hi+lo) % y:=(by show r2/1=_;rw[y8];exact t2);refine ea ?_;refine sv (Fh (b:=4294967296) rfl rfl) ?_;refine mI ?_;refine sv (zg rfl rfl) ?_;refine mI ?_;refine W0 ?_;refine mI ?_;refine sv (Es rfl rfl Z') ?_;refine ea ?_;rw[e1,e2,e3];exact⟨rfl,I.below⟩
def rv{a c:Code}(mods)(s0:Nat)(J:Value->World->Prop)(E:WC ro P N a (Xd (λK q=>J (K s0) q/\Gg mods K O) Q) O w)(B:∀ρ' v0 V,J v0 V->WC ro P N c Q (vd (mask mods ρ' O) s0 v0) V):WC ro P N (.seq a c) Q O w:=
 qa (E.mono λe K q R=>by
  cases e with
  |normal=>
   have:=B K (K s0) q R.1;rwa[th R.2,Hf] at this
  |_=>exact R)
variable {o:Nat}{lo:Operand}{pos:String}
def AQ{d:Option Nat}{ty:TypeId}{af:Array Edge}{g:Option (Nat×Bool)}{t e:TypeId}{x hi:Operand}{b c l h sz:Nat}{k k2:IntKind}{m N:Int}(S:P.underlying t=some (.slice e))(M:(P.info? e).map (·.size)=some sz)(C:ev O x=.slice (some ⟨b,o,none⟩) n c)(p:ev O lo=.int k m)(f:ev O hi=.int k2 N) (hm:m=(l:Int))(K:N=(h:Int))(h1:l<=h)(h2:h<=c)(G:l<c):(execOp (ev O) ⟨d,.slice t x (some lo) (some hi) none,ty,pos,af,g⟩).run P w=.ok (.value (.slice (some ⟨b,o+l*sz,none⟩) (h-l) (c-l))) w:=by
 rw[Th (lo:=some lo) (hi:=some hi) (l:=l) (h:=h) S M C ⟨k,m,p,hm⟩ ⟨k2,N,f,K⟩ h1 h2,R' Z'];simp only[n9,Fe]
def SF{mods:t3}{U:Rf}{d:Nat}{v:Value}(T:mods.contains d=true)(h:Gg mods U O):Gg mods U (vd O d v):=λi hi=>by
 rw[si O (λe=>by rw[e,T] at hi;cases hi)];exact h i hi
def Si(ys:t3)(q:Nat):t3:=ah 18446744073709551616 (List.replicate (ys.length+1) 0) ys q 0
def wv(ys)(q:Nat):(Si ys q).length=ys.length+1:=by
 unfold Si;rw[Qn,M9]
def vz(ys)(q:Nat):Dg 18446744073709551616 (Si ys q):=Yz Z' _ _ _ _
def Kv{ys:t3}{q:Nat}(hy:Dg 18446744073709551616 ys)(R:q<18446744073709551616):Ka 18446744073709551616 (Si ys q)=Ka 18446744073709551616 ys*q:=by
 have h1:=ug hy;have h2:Ka 18446744073709551616 ys*q<18446744073709551616^(ys.length+1):=(by rw[B_];exact L6 h1 R);unfold Si;rw[vv Z' _ _ _ _ (by rw[Dj,M9];omega),Dj];omega
variable {cy:Nat}
def PH(X Yb A)(N C n cy c q:Nat)(ys a)(w)(p:Sl w Yb n 1 (oc ys))(j:Sl w A (n+1) 1 (oc a))(Q:Dg 18446744073709551616 ys)(J:Dg 18446744073709551616 a)(D:n+1<=c)(hn:n<=100000000)(M:0<Ka 18446744073709551616 ys)(R:Ka 18446744073709551616 a<q*Ka 18446744073709551616 ys)(x:q<18446744073709551616):Calls prog 321 #[.agg #[wn X N C,wn Yb n cy],wn A (n+1) c,.int .u64 (q:Int)] w λe V=>∃b,e=.returned (.tuple #[.int .u64 ((Ka 18446744073709551616 a/Ka 18446744073709551616 ys:Nat):Int),wn (some ⟨b,0,none⟩) (n+1) (n+1)])/\Hp w [.row (some ⟨b,0,none⟩) (n+1) (n+1) 223 1 (oc (Si ys (Ka 18446744073709551616 a/Ka 18446744073709551616 ys)))] V:=by
 have I:=Hp.start w;have t:ys.length=n:=by have:=p.1;rw[La] at this;omega
 have G:a.length=n+1:=by have:=j.1;rw[La] at this;omega
 refine Ga func321 ?_;refine Gb ?_;intro B w3 I;refine rf 2 (λv V=>∃q:Nat,v=.int .u64 q/\Ka 18446744073709551616 a<q*Ka 18446744073709551616 ys/\q<18446744073709551616/\Hp w [.blk B 311 [wn X N C,wn Yb n cy] (0,0)] V) (λv _=>(intOf v).toNat) ?_ ?_
 .exact⟨q,rfl,R,x,I⟩
 clear I R x;rintro ρ' v V ⟨q,rfl,R,x,I⟩;have H:1<=q:=by
  obtain h|h:=a9 q
  .rw[h,W7] at R;omega
  exact h
 have S:(q+18446744073709551616-1) % 18446744073709551616=q-1:=Z';have P:=C2 M R;refine ea ?_;refine adh ?_;rw[S];have d:=Kv Q (q:=q-1) Z';refine ea ?_;refine Jf (n:=n+1) I rfl rfl Z' Z' Qa.out pa.out rfl Z' Z' V' ?_;intro f L I;refine ea ?_;rw[ml] at I;have E:=Zo (c':=n+1) (ny:=n) (cy:=cy) (m:=q-1) (Y:=Yb) [] (List.replicate (n+1) 0) [] ys _ (by rw[J',I_];exact I) (λZ cs h=>p.ext h.below) (Dg.Je Z' _) Q Z' (by rw[M9];omega) Z';have o:ah 18446744073709551616 (List.replicate (n+1) 0) ys (q-1) 0=Si ys (q-1):=by unfold Si;rw[t]
 rw[J',I_,M9,o] at E;have r:=wv ys (q-1);rw[t] at r;have g:=vz ys (q-1);refine Vg (E) ?_;rintro e_ w_ ⟨rfl,I⟩;refine⟨_,rfl, ?_⟩;generalize u:Si ys (q-1)=y at*;have K:=I.ka (i:=0) rfl;have F:=Ie y;refine ea ?_;refine Gd I (fg _ _ _ y _ (I.ka (i:=0) rfl) (F' _) Z') rfl ?_;intro T I;refine mL ?_;refine Gd I (Nr _ _ _ _ _ _ (fe y) a _ (Sl.Qs (I.ka (i:=0) rfl)) (j.ext I.below) g.cut J Z' D Z' Z') rfl ?_;intro W I;rw[Ni,d];rw[d'] at d |-;by_cases l:(q-1)*Ka 18446744073709551616 ys<=Ka 18446744073709551616 a
 .have k:=LS M P l;have s:Gi ((q-1)*Ka 18446744073709551616 ys) (Ka 18446744073709551616 a)<=0:=by
   unfold Gi;split
   .decide
   rw[R' Z'];decide
  generalize Gi ((q-1)*Ka 18446744073709551616 ys) (Ka 18446744073709551616 a)=z at*;rw[<-k,u];refine ea ?_;exact⟨f,rfl,I.sub (.cons_cons _ (N_ _))⟩
 have s:Gi ((q-1)*Ka 18446744073709551616 ys) (Ka 18446744073709551616 a)=1:=lu Z';rw[s];refine ea ?_;replace I:=I.sub (L' _ (P' _ j'));refine⟨⟨q-1,rfl,Z',Z',I⟩,by show((q-1:Nat):Int).toNat<(q:Int).toNat;omega, ?_⟩;exact Sb
def Gc(xs:t3)(a n:Nat):t3:=(xs.drop a).take (n+1)
variable {w0:World}
def pF{H:List HE}{b v:Nat}{Yb:Option Addr}(a:Nat)(xs ys)(w)(I:Hp w0 (.row (some ⟨b,0,none⟩) N C 223 1 (oc xs)::H) w) (hy:∀Z cs,Hp w0 (.row (some ⟨b,0,none⟩) N C 223 1 cs::H) Z->Sl Z Yb n 1 (oc ys))(d:Dg 18446744073709551616 xs)(Q:Dg 18446744073709551616 ys)(y:n=m+1)(A:ys[m]?=some v)(hv2:9223372036854775808<=v)(ha:a+n<N)(hN:N<=100000000)(hP:Ka 18446744073709551616 (Gc xs a n)/Ka 18446744073709551616 ys<18446744073709551616):Calls prog 304 #[.agg #[.slice (some ⟨b,0,none⟩) N C,.slice Yb n cy],.int .i64 (a:Int)] w λe V=>e=.returned (.int .u64 ((Ka 18446744073709551616 (Gc xs a n)/Ka 18446744073709551616 ys:Nat):Int))/\Hp w0 (.row (some ⟨b,0,none⟩) N C 223 1 (oc (xs.take a++Fb 18446744073709551616 (n+1) (Ka 18446744073709551616 (Gc xs a n) % Ka 18446744073709551616 ys)++xs.drop (a+(n+1))))::H) V:=by
 have t:ys.length=n:=by have:=(hy _ _ I).1;rw[La] at this;omega
 have hxl:xs.length=N:=by have:=(I.ka (i:=0) rfl).1;rw[La] at this;omega
 have hcap:=I.pf (i:=0) rfl;obtain⟨p,F⟩:=aa (l:=xs) (k:=a+n) Z';obtain⟨P,S⟩:=aa (l:=xs) (k:=a+m) Z';have gx1:=oe F;have gx0:=oe S;have gv:=oe A;have bx1:=d.at_ F;have bx0:=d.at_ S;have bv:=Q.at_ A;obtain⟨e1,e2⟩:=acF (a:=a) (m:=m) d V' S (by rw[<-y];exact F) A Z' Z' (by unfold Gc at hP;rw[y] at hP;exact hP);rw[show(xs.drop a).take (m+2)=Gc xs a n by unfold Gc;rw[y]] at e1;obtain⟨X,hYa,hYr⟩:=(hy _ _ I).at_ Z';subst hYa;refine Ga (l:=[.agg #[.slice (some ⟨b,0,none⟩) N C,.slice (some X) n cy],.int .i64 (a:Int)]) func304 ?_;have g:∀(e:HE) Z,Hp w0 (e::.row (some ⟨b,0,none⟩) N C 223 1 (oc xs)::H) Z->Sl Z (some X) n 1 (oc ys):=λe Z h=>hy Z _ (h.sub (L' _ (u_ _)));refine sr ?_;refine ar I [_,_] ?_;intro b2 w2 I;refine aI (ia (sr (Sk ?_)));refine im I 0 ?_;refine Df (aI (ia (sr (Sk ?_))));refine im I 0 ?_;refine mI (mI ?_);refine al ?_;refine sv (Eb (k:=a+n) Qa.out pa.size rfl rfl Z' Z') ?_;refine sv (Ma pa.out rfl ((I.ka (i:=1) rfl).fP F)) ?_;refine aI (ia (sr (aI (ia ?_))))
 refine rv [7,20,21,22,23,24,25,26,27,28,29,30,31,32,33,34,35,36,37,38,39,40,41,42,43,44,45,46] 7 (λe V=>e=.int .u64 (cK 18446744073709551616 p P v:Nat)/\Hp w0 (.blk b2 311 [.slice (some ⟨b,0,none⟩) N C,.slice (some X) n cy] (0,0)::.row (some ⟨b,0,none⟩) N C 223 1 (oc xs)::H) V) ?_ ?_
 .by_cases D:p<v
  .have u:=λZ=>zI p P v Z hv2 bv D bx0;have hq:(18446744073709551616*p+P)/v=cK 18446744073709551616 p P v:=(Q' D).symm;rw[hq] at u;refine aal ?_;refine Od 20 I ?_;refine ua (i:=7) (Is (.pointer (some (Addr.add ⟨b,0,none⟩ ((a+m)*1))))) (Is.ext) ?_ ?_
   .intro U Z hj hR;exact ic rfl (Eb (k:=a+m) Qa.out pa.size (show U 31=Value.slice _ _ _ from hR.1) (show U 35=Value.int _ _ from hR.2.1) Z' Z') ⟨Below.refl _ _,rfl⟩
   refine Ym (λ_ hj=>(hj.hp.ka (i:=1) rfl).fP S) ?_;refine ub ?_;refine ua (i:=13) (Is (.pointer (some (X.add (m*1))))) (Is.ext) ?_ ?_
   .intro U Z hj hR;exact ic rfl (Eb (k:=m) Qa.out pa.size (show U 39=Value.slice _ _ _ from hR.1) (show U 41=Value.int _ _ from hR.2.1) Z' Z') ⟨Below.refl _ _,rfl⟩
   refine Ym (λ_ hj=>(g _ _ hj.hp).fP A) ?_;refine dC (λ_ hj=>u _) ?_;refine ub ?_;refine dn ?_;intro W I;refine ea ?_;refine⟨⟨rfl,I⟩, ?_⟩;repeat refine qd rfl ?_
   exact SF rfl λ_ _=>rfl
  have hq:18446744073709551616-1=cK 18446744073709551616 p P v:=(R' D).symm;refine aal ?_;refine⟨⟨?_,I⟩, ?_⟩
  .rw[<-hq];rfl
  repeat refine qd rfl ?_
  exact SF rfl λ_ _=>rfl
 skip;rintro ρ' R V ⟨rfl,I⟩;generalize cK 18446744073709551616 p P v=q at*;have x:q<18446744073709551616:=Z';have hmd:=Kv Q x;have hml:=wv ys q;rw[t] at hml;have hmg:=vz ys q;have hmL:ah 18446744073709551616 (List.replicate (n+1) 0) ys q 0=Si ys q:=by unfold Si;rw[t]
 have L:(Gc xs a n).length=n+1:=by unfold Gc;rw[q',Q9];omega
 have J:Dg 18446744073709551616 (Gc xs a n):=(d.drop a).take (n+1);have M:0<Ka 18446744073709551616 ys:=(by have h1:=ZJ (B:=18446744073709551616) A Z';have h2:0<v*18446744073709551616^m:=H7 Z' (L_ V');omega);refine ea ?_;refine Jb rfl rfl V' (AQ (l:=a) (h:=a+(n+1)) Qa.out pa.size rfl rfl rfl rfl Z' Z' Z' Z') ?_;refine ea ?_;refine Jf (n:=n+1) I rfl rfl Z' Z' Qa.out pa.out rfl Z' Z' V' ?_;intro b57 w57 I;refine ea ?_;rw[ml] at I;rw[show 0+a*1=a by omega,show a+(n+1)-a=n+1 by omega];have o:∀Z,Sl Z (some ⟨b,0,none⟩) N 1 (oc xs)->Sl Z (some ⟨b,a,none⟩) (n+1) 1 (oc (Gc xs a n)):=λZ h=>(by have h2:=(h.FT (k:=a) Z').WQ (k:=n+1) Z';rw[Fe,i',W_] at h2;exact h2);have hsp:xs.take a++Gc xs a n++xs.drop (a+(n+1))=xs:=by unfold Gc;rw[J_,<-U7,Y9,Y9]
 have E:(xs.take a).length=a:=by rw[q'];omega
 have hdm:=L9 (Ka 18446744073709551616 (Gc xs a n)) (Ka 18446744073709551616 ys);have hml2:=R_ (Ka 18446744073709551616 (Gc xs a n)) M;have hmQ:=Kv Q hP;have hlQ:=wv ys (Ka 18446744073709551616 (Gc xs a n)/Ka 18446744073709551616 ys);rw[t] at hlQ;have j:=vz ys (Ka 18446744073709551616 (Gc xs a n)/Ka 18446744073709551616 ys);have r:=xG (B:=18446744073709551616) Z' (Gc xs a n) (Si ys (Ka 18446744073709551616 (Gc xs a n)/Ka 18446744073709551616 ys)) 0 J j Z' Z';have K:Xr 18446744073709551616 (Gc xs a n) (Si ys (Ka 18446744073709551616 (Gc xs a n)/Ka 18446744073709551616 ys)) 0=Fb 18446744073709551616 (n+1) (Ka 18446744073709551616 (Gc xs a n) % Ka 18446744073709551616 ys):=(by have h1:=pt (qN (B:=18446744073709551616) Z' (Gc xs a n) (Si ys (Ka 18446744073709551616 (Gc xs a n)/Ka 18446744073709551616 ys)) 0);rw[fH,L] at h1;rw[<-h1];congr 1;omega);have G:∀T Z,Hp w0 (.row (some ⟨b,0,none⟩) N C 223 1 (oc xs)::T) Z->Hp w0 (.row (some ⟨b,0,none⟩) N C 223 1 (oc (xs.take a++Gc xs a n++xs.drop (a+(n+1))))::T) Z:=λT Z h=>by rw[hsp];exact h
 have hc:=Zo (c':=n+1) (ny:=n) (cy:=cy) (m:=q) (Y:=some X) [] (List.replicate (n+1) 0) [] ys _ (by rw[J',I_];exact I) (λZ cs h=>hy Z _ (h.sub (L' _ (L' _ (u_ _))))) (Dg.Je Z' _) Q x (by rw[M9];omega) Z';rw[J',I_,M9,hmL] at hc;refine Vg (hc) ?_;rintro R w_ ⟨rfl,I⟩;refine⟨_,rfl, ?_⟩;have hcl:=Ie (Si ys q);refine ea ?_;refine Gd I (fg _ _ _ (Si ys q) _ (I.ka (i:=0) rfl) (F' _) Z') rfl ?_;intro w64 I;refine mL ?_;refine Gd I (Nr _ _ _ _ _ _ (fe (Si ys q)) (Gc xs a n) _ (Sl.Qs (I.ka (i:=0) rfl)) (o _ (I.ka (i:=2) rfl)) hmg.cut J Z' Z' Z' Z') rfl ?_;intro w66 I;rw[Ni,hmd];by_cases f:q*Ka 18446744073709551616 ys<=Ka 18446744073709551616 (Gc xs a n)
 .have hqe:=LS M e1 f;have s:Gi (Ka 18446744073709551616 ys*q) (Ka 18446744073709551616 (Gc xs a n))<=0:=by
   rw[d'];unfold Gi;split
   .decide
   rw[R' Z'];decide
  generalize Gi (Ka 18446744073709551616 ys*q) (Ka 18446744073709551616 (Gc xs a n))=z at*;subst hqe;refine ea ?_;replace I:=I.front 2 rfl;replace I:=G _ _ I;have c:=ep (c':=C-a) (ny:=n+1) (cy:=n+1) (Y:=some ⟨b57,0,none⟩) (xs.take a) (Gc xs a n) (xs.drop (a+(n+1))) (Si ys (Ka 18446744073709551616 (Gc xs a n)/Ka 18446744073709551616 ys)) _ I (λZ cs h=>h.ka (i:=1) rfl) J j Z' Z' r.2;exact adF
 have s:Gi (Ka 18446744073709551616 ys*q) (Ka 18446744073709551616 (Gc xs a n))=1:=lu (by rw[d'];omega);rw[s];refine ea ?_;refine Hi (PH (some ⟨b,0,none⟩) (some X) (some ⟨b,a,none⟩) N C n cy (C-a) q ys (Gc xs a n) _ (hy _ _ (I.sub (L' _ (L' _ (u_ _))))) (o _ (I.ka (i:=2) rfl)) Q J Z' Z' M Z' x) rfl ?_;rintro R w72 ⟨bm,rfl,h4⟩;refine qG ?_;intro I;replace I:=I.sub (P' _ (L' _ (P' _ (P' _ (u_ _)))));refine ea ?_;replace I:=I.front 2 rfl;replace I:=G _ _ I;have c:=ep (c':=C-a) (ny:=n+1) (cy:=n+1) (Y:=some ⟨bm,0,none⟩) (xs.take a) (Gc xs a n) (xs.drop (a+(n+1))) (Si ys (Ka 18446744073709551616 (Gc xs a n)/Ka 18446744073709551616 ys)) _ I (λZ cs h=>h.ka (i:=1) rfl) J j Z' Z' r.2;exact adF
variable {k:Nat}
def xN(k:Nat):18446744073709551616^k=2^(64*k):=by
 rw[show(18446744073709551616:Nat)=2^64 by decide,<-W9]
def tS{b d:Nat}(F:b≠0)(Q:(ya 18446744073709551616 b).length=m+1)(T:(ya 18446744073709551616 b)[m]?=some d):Wa d<=64/\(ya 18446744073709551616 (b*2^(64-Wa d))).length=m+1/\∃v,(ya 18446744073709551616 (b*2^(64-Wa d)))[m]?=some v/\9223372036854775808<=v:=by
 have s:=Ig b;have a:d<18446744073709551616:=s.at_ T;have Y:Wa d<=64:=Uc (by simpa using a);have e:ya 18446744073709551616 b=(ya 18446744073709551616 b).take m++[d]:=by rw[<-ja T,G' Z']
 have PA:d≠0:=λh=>(by have h1:=ze b;rw[e,h] at h1;have h2:(ya 18446744073709551616 b).getLast?≠some 0:=(te Z' b).2;rw[e,h] at h2;simp at h2);have E:Wa b=64*m+Wa d:=(by have h1:=wI (B:=18446744073709551616) (b:=64) (m:=m) V' (s.take m) (by rw[q'];omega) PA;rw[<-e,ze] at h1;exact h1);have h1:=wc b;have h2:=jE F;have G:=Gp PA;have P:b*2^(64-Wa d)<18446744073709551616^(m+1):=(by rw[xN,show 64*(m+1)=Wa b+(64-Wa d) by omega,Q_];exact m8 h1 (L_ V'));have p:18446744073709551616^m*9223372036854775808<=b*2^(64-Wa d):=(by have z:18446744073709551616^m*9223372036854775808=2^(Wa b-1)*2^(64-Wa d):=(by rw[xN,show(9223372036854775808:Nat)=2^63 by decide,<-Q_,<-Q_];congr 1;omega);rw[z];exact n_ _ h2);generalize b*2^(64-Wa d)=y at*;have c:0<18446744073709551616^m:=L_ V';have hlen:(ya 18446744073709551616 y).length=m+1:=by
  have J:=jg (B:=18446744073709551616) Z' P;have o:=zn (B:=18446744073709551616) Z' y;obtain h|h:=z_ (ya 18446744073709551616 y).length (m+1)
  .have n:18446744073709551616^(ya 18446744073709551616 y).length<=18446744073709551616^m:=K_ V' Z';omega
  omega
 refine⟨Y,hlen,_,HA Z' Z', ?_⟩;have A:y/18446744073709551616^m<18446744073709551616:=(by rw[S9 c,d',<-B_];exact P);rw[G_ A,Nat.le_div_iff_mul_le c,d'];exact p
structure tR(A Y N n k:Nat)(X O:t3):Prop where
 xd:Dg 18446744073709551616 X
 xl:X.length=N
 od:Dg 18446744073709551616 O
 ol:O.length=N-n
 oz:∀i,i<k->O[i]?=some 0
 e:Ka 18446744073709551616 O*Y+Ka 18446744073709551616 X=A
 r:Ka 18446744073709551616 (X.drop k)<Y
def tP{A:Nat}{X O ys:t3}(hy:Dg 18446744073709551616 ys)(d:ys.length=n)(u:k+1<=N-n)(j:n<=N)(h:tR A (Ka 18446744073709551616 ys) N n (k+1) X O):Ka 18446744073709551616 (Gc X k n)/Ka 18446744073709551616 ys<18446744073709551616/\tR A (Ka 18446744073709551616 ys) N n k (X.take k++Fb 18446744073709551616 (n+1) (Ka 18446744073709551616 (Gc X k n) % Ka 18446744073709551616 ys)++X.drop (k+(n+1))) (O.set k (Ka 18446744073709551616 (Gc X k n)/Ka 18446744073709551616 ys)):=by
 obtain⟨xd,xl,od,ol,oz,e,H⟩:=h;obtain⟨x,C⟩:=aa (l:=X) (k:=k) Z';have o:=xd.at_ C;have c:=ug hy;rw[d] at c;have hR:=OS (B:=18446744073709551616) (xd.drop (k+1)) n (by rw[Q9];omega);rw[G_ (show Ka 18446744073709551616 (X.drop (k+1))<18446744073709551616^n by omega)] at hR;have f:Ka 18446744073709551616 (Gc X k n)=x+18446744073709551616*Ka 18446744073709551616 (X.drop (k+1)):=(by unfold Gc;rw[Wf C,J7];show x+18446744073709551616*_=_;rw[hR]);have p:Ka 18446744073709551616 (X.drop (k+(n+1)))=0:=(by rw[show k+(n+1)=(k+1)+n by omega,<-U7,II (xd.drop (k+1)) n V',k_ Z']);have M:0<Ka 18446744073709551616 ys:=Z';have R:Ka 18446744073709551616 (Gc X k n)/Ka 18446744073709551616 ys<18446744073709551616:=(by rw[S9 M,f];have h1:18446744073709551616*(Ka 18446744073709551616 (X.drop (k+1))+1)<=18446744073709551616*Ka 18446744073709551616 ys:=O_ _ H;rw[p9] at h1;omega);have hm:=R_ (Ka 18446744073709551616 (Gc X k n)) M;have F:=L9 (Ka 18446744073709551616 (Gc X k n)) (Ka 18446744073709551616 ys);have g:Ka 18446744073709551616 (Gc X k n) % Ka 18446744073709551616 ys<18446744073709551616^(n+1):=(by rw[B_];have:18446744073709551616^n*1<=18446744073709551616^n*18446744073709551616:=O_ _ V';omega);have W:=oU (B:=18446744073709551616) (xs:=X) (a:=k) (n:=n+1) Z' g;have b:=XL (B:=18446744073709551616) O k (Ka 18446744073709551616 (Gc X k n)/Ka 18446744073709551616 ys) (oz k Z');have D:(X.take k).length=k:=by rw[q'];omega
 have m:(X.drop k).take (n+1)=Gc X k n:=rfl;rw[m] at W;refine⟨R, ?_, ?_,od.dR k R,by rw[I9];exact ol,λi hi=> ?_, ?_, ?_⟩
 .exact((xd.take k).append (Ke V' _ _)).append (xd.drop _)
 .rw[D',D',D,Da,Q9];omega
 .rw[g_,R' Z'];exact oz i Z'
 .generalize Ka 18446744073709551616 (Gc X k n)/Ka 18446744073709551616 ys=q at*;generalize Ka 18446744073709551616 (Gc X k n) % Ka 18446744073709551616 ys=r at*;rw[x8,N9] at b;rw[b,K8];have P:18446744073709551616^k*q*Ka 18446744073709551616 ys+18446744073709551616^k*r=18446744073709551616^k*Ka 18446744073709551616 (Gc X k n):=(by rw[<-F,j_,V9,d' q]);omega
 rw[J_,List.drop_append,D,t_,T8 Z',J',T7,Jc,p,x8,N9,Pb g];exact hm
def nQ{A:Nat}{X:t3}(xd:Dg 18446744073709551616 X)(xl:X.length=N)(R:Ka 18446744073709551616 X=A)(B:1<=n)(j:n+1<=N)(o:A<18446744073709551616^(N-1))(g:18446744073709551616^(n-1)<=Y):tR A Y N n (N-n) X (List.replicate (N-n) 0):=by
 refine⟨xd,xl,Dg.Je V' _,M9,λi hi=>by rw[k6,Q' hi],by rw[Dj];omega, ?_⟩;rw[II xd _ V',R];refine c_ ?_ g;rw[S9 (L_ V'),<-Q_,show n-1+(N-n)=N-1 by omega];exact o
def MY{a b s:Nat}{X O:t3}(F:0<b)(g:Y=b*2^s)(h:tR (a*2^s) Y N n 0 X O):Ka 18446744073709551616 O=a/b/\Ka 18446744073709551616 X/2^s=a % b:=by
 have hp:0<2^s:=L_ V';have he:=h.e;have H:=h.r;rw[T7] at H;subst g;have h1:Ka 18446744073709551616 X % 2^s=0:=by
  have h2:(Ka 18446744073709551616 O*(b*2^s)+Ka 18446744073709551616 X) % 2^s=0:=by rw[he];exact Nat.mul_mod_left _ _
  rw[<-V9,Nat.mul_add_mod_self_right] at h2;exact h2
 have h2:=L9 (Ka 18446744073709551616 X) (2^s);rw[h1,N9] at h2;generalize Ka 18446744073709551616 X/2^s=r at*;rw[<-h2,d' _ r] at he H;have G:Ka 18446744073709551616 O*b+r=a:=(by refine Nat.eq_of_mul_eq_mul_right hp ?_;rw[K8,V9];exact he);have z:r<b:=Nat.lt_of_mul_lt_mul_right H;have P:=(Nat.div_mod_unique (a:=a) (b:=b) (c:=r) (d:=Ka 18446744073709551616 O) F).2 ⟨by rw[d' b];omega,z⟩;exact⟨P.1.symm,P.2.symm⟩
def JD(a b:t7)(w:World)(ha:a.size<=100000000)(hb:b.size<=100000000)(S:bN b≠0):Zc 275 #[wt a,wt b] w (.tuple #[wt (sN (bN a/bN b)),wt (sN (bN a % bN b)),ww true]):=by
 have I:=Hp.start w;have h1:=bg a;have h2:=bg b;have hyn:(ya 18446744073709551616 (bN b)).length≠0:=λh=>S ((yu Z').1 (s9 h));by_cases D:bN a<bN b
 .refine Ga func275 ?_;refine ea ?_;refine kX I (Tc a _ Z') rfl ?_;intro P Q w14 I;refine mS ?_;refine kX I (Tc b _ Z') rfl ?_;intro M R w16 I;refine ea ?_;refine fI ?_;intro w24 I;rw[ze,ze,Xl D];refine ea ?_;refine Gd I (Ef _ _ _ (ya 18446744073709551616 (bN a)) _ (I.ka (i:=1) rfl) (Ig _) (I.pf (i:=1) rfl) Z') rfl ?_;intro w27 I;rw[ze];refine ea ?_;rw[k_ D,G_ D,pk];exact⟨rfl,I.below⟩
 have hc:¬Gi (bN a) (bN b)<0:=by unfold Gi;split<;>(try split)<;>omega
 obtain⟨m,hm⟩:∃m,(ya 18446744073709551616 (bN b)).length=m+1:=⟨(ya 18446744073709551616 (bN b)).length-1,Z'⟩;obtain⟨d,hd⟩:=aa (l:=ya 18446744073709551616 (bN b)) (k:=m) Z';obtain⟨hbl,hlen,v,hv,hv2⟩:=tS S hm hd;have E:=λZ=>Ir d Z ((Ig _).at_ hd);obtain⟨s,hs⟩:∃s,s=64-Wa d:=⟨_,rfl⟩;rw[show(64:Int)-(Wa d:Int)=((64-Wa d:Nat):Int) by omega] at E;rw[<-hs] at E hlen hv;have F:s<=64:=Z';refine Ga func275 ?_;refine ea ?_;refine kX I (Tc a _ Z') rfl ?_;intro P Q w14 I;refine mS ?_;refine kX I (Tc b _ Z') rfl ?_;intro M R w16 I;refine ea ?_;refine fI ?_;intro w24 I;rw[ze,ze];refine Ji (aB (ia (cF (db (Dp (Va (sr (mL (mL (Df ?_))))))))));refine su ?_;refine sv (Eb (k:=m) Qa.out pa.size rfl rfl Z' Z') ?_;refine sv (Ma pa.out rfl ((I.ka (i:=0) rfl).fP hd)) ?_;refine cd I (E _) ?_;intro w34 I;refine ea ?_;refine vU I (Jv _ _ _ s (ya 18446744073709551616 (bN a)) _ (I.ka (i:=1) rfl) (Ig _) Z' Z') rfl ?_;intro A37 c37 w37 I;rw[ze] at I |-;have p:bN a*2^s<18446744073709551616^((ya 18446744073709551616 (bN a)).length+1):=(by have q1:=zn (B:=18446744073709551616) Z' (bN a);have q2:2^s<=2^64:=K_ V' F;rw[B_];exact c_ (m8 q1 (L_ V')) (O_ _ q2));have hla:=jg (B:=18446744073709551616) Z' p;have hmono:=Jj (B:=18446744073709551616) Z' (x6 D);generalize hlx:(ya 18446744073709551616 (bN a)).length=lx at*;refine ea ?_;refine Hi (dm _ _ _ (lx+2) (ya 18446744073709551616 (bN a*2^s)) _ (I.ka (i:=0) rfl) Z' Z') rfl ?_;rintro e_ w_ ⟨y,rfl,f,hb_⟩;refine⟨_,rfl, ?_⟩;replace I:=I.Ed (x:=.row _ _ _ _ _ _) hb_ f;have e2:max (lx+2) (ya 18446744073709551616 (bN a*2^s)).length=lx+2:=Z';rw[e2] at I |-;refine ea ?_;refine vU I (Jv _ _ _ s (ya 18446744073709551616 (bN b)) _ (I.ka (i:=2) rfl) (Ig _) Z' Z') rfl ?_;intro g t w44 I;rw[ze] at I |-;have L:=Ig (bN b*2^s);have hyv:=ze (bN b*2^s);generalize ya 18446744073709551616 (bN b*2^s)=ys at*;rw[hlen] at I |-;have hxw:Dg 18446744073709551616 (ya 18446744073709551616 (bN a*2^s)++List.replicate (lx+2-(ya 18446744073709551616 (bN a*2^s)).length) 0):=(Ig _).append (Dg.Je V' _);have hxv:Ka 18446744073709551616 (ya 18446744073709551616 (bN a*2^s)++List.replicate (lx+2-(ya 18446744073709551616 (bN a*2^s)).length) 0)=bN a*2^s:=by rw[Jc,Dj,ze,x8,N9]
 have hxl:(ya 18446744073709551616 (bN a*2^s)++List.replicate (lx+2-(ya 18446744073709551616 (bN a*2^s)).length) 0).length=lx+2:=by rw[D',M9];omega
 generalize ya 18446744073709551616 (bN a*2^s)++List.replicate (lx+2-(ya 18446744073709551616 (bN a*2^s)).length) 0=X0 at*;have hY1:18446744073709551616^m<=Ka 18446744073709551616 ys:=(by have q1:=ZJ (B:=18446744073709551616) hv hlen;have q2:1*18446744073709551616^m<=v*18446744073709551616^m:=n_ _ Z';omega);have G:=nQ (N:=lx+2) (n:=m+1) hxw hxl hxv Z' Z' p hY1;refine Ib ?_;intro z w10 I ws I;replace I:=show Hp w (.blk z 311 [wn (some ⟨y,0,none⟩) (lx+2) (lx+2),wn g (m+1) t] (0,0)::_) _ from I;replace I:=I.sub (P' _ (P' _ (P' _ (L' _ (L' _ (L' _ j'))))));refine ea ?_;refine Jf (n:=lx+2-(m+1)) I rfl rfl Z' Z' Qa.out pa.out rfl Z' Z' V' ?_;intro o w53 I;refine ea ?_;rw[ml] at I;have hK0:lx+2-(m+1)+(m+1)=lx+2:=Z';generalize hK:lx+2-(m+1)=K at*;refine ae1 ?_;intro I;replace I:=I.perm (U_ (l₁:=[_,_]));simp only[I',J'] at I;replace I:=I.perm (U_ (l₁:=[_,_,_]));simp only[I',J'] at I;refine rf 12 (λe V=>∃(k:Nat)(X O:t3),k<=K/\e=wd ((k:Int)-1)/\tR (bN a*2^s) (Ka 18446744073709551616 ys) (lx+2) (m+1) k X O/\Hp w [.row (some ⟨y,0,none⟩) (lx+2) (lx+2) 223 1 (oc X),.row (some ⟨o,0,none⟩) K K 223 1 (oc O),.blk z 311 [wn (some ⟨y,0,none⟩) (lx+2) (lx+2),wn g (m+1) t] (0,0),.row g (m+1) t 223 1 (oc ys)] V) (λe _=>(intOf e+1).toNat) ?_ ?_
 .exact⟨K,X0,_,F' _,rfl,G,I⟩
 clear I G;rintro ρ' e_ V ⟨k,X,O,hk,rfl,r,I⟩;by_cases hk0:0<k
 .obtain⟨k,rfl⟩:∃j,k=j+1:=⟨k-1,Z'⟩;obtain⟨hq,T⟩:=tP L hlen Z' Z' r;have hdc:=pF (C:=lx+2) (cy:=t) (Yb:=g) k X ys _ I (λZ cs h=>h.ka (i:=3) rfl) r.xd L rfl hv hv2 Z' Z' hq;have Y:=r.ol;rw[hK] at Y;rw[show((k+1:Nat):Int)-1=(k:Int) by omega];generalize Ka 18446744073709551616 (Gc X k (m+1))/Ka 18446744073709551616 ys=q at*;generalize X.take k++Fb 18446744073709551616 (m+1+1) (Ka 18446744073709551616 (Gc X k (m+1)) % Ka 18446744073709551616 ys)++X.drop (k+(m+1+1))=X2 at*;refine ea ?_;refine Vg (hdc) ?_;rintro e_ w_ ⟨rfl,I⟩;refine⟨_,rfl, ?_⟩;refine ea ?_;refine Lb I (i:=1) (vs:=[_]) rfl rfl (Ac rfl) rfl pa.out rfl (by rw[La];omega) rfl ?_;refine Uv ?_;intro ws I;rw[W_,Cc (by rw[La];omega),Og] at I;refine ea ?_;refine⟨⟨k,X2,O.set k q,Z',rfl,T,I⟩,by show((k:Int)-1+1).toNat<((k:Int)+1).toNat;omega, ?_⟩;exact Sb
 obtain rfl:k=0:=Z';obtain⟨r1,r2⟩:=MY Z' hyv r;refine ea ?_;have u:=λZ h1=>Wv (some ⟨y,0,none⟩) (fe X).length (lx+2) s (fe X) Z (Sl.Qs (n:=lx+2) h1) r.xd.cut (by have:=Ie X;have:=r.xl;omega) (by have:=Ie X;have:=r.xl;omega) Z';rw[Ni,r2] at u;have J:=λZ h1=>Ef (some ⟨o,0,none⟩) K K O Z h1 r.od (F' _) Z';rw[r1] at J;have H:=λA c Z h1 h2 h3=>Ef A (ya 18446744073709551616 (bN a % bN b)).length c (ya 18446744073709551616 (bN a % bN b)) Z h1 (Ig _) h2 h3;rw[ze] at H;refine qh 6 I ?_;refine OA ?_;refine dC (λ_ hj=>J _ (hj.hp.ka (i:=1) rfl)) ?_;refine ub ?_;refine dC (λ_ hj=>fg _ _ _ X _ (hj.hp.ka (i:=0) rfl) (F' _) Z') ?_;refine Gv ?_;refine dn ?_;intro W I;refine cr I (u _ (I.ka (i:=0) rfl)) ?_;intro A73 c73 w73 I;refine Gd I (H _ _ _ (I.ka (i:=0) rfl) (I.pf (i:=0) rfl) (by have:=Jj (B:=18446744073709551616) Z' (O6 (R_ (bN a) (Nat.pos_of_ne_zero S)));omega)) rfl ?_;intro w74 I;refine ea ?_;exact⟨rfl,I.below⟩
def Cz(z:Int)(B:Nat)(q r:Int)(h:r+B*q=z)(J:0<=r)(h1:r<B):z/B=q:=((Int.ediv_emod_unique Z').2 ⟨h,J,h1⟩).1
def kJ(s:Bool)(a b:t7)(w:World)(ha:a.size<=10000000)(hb:b.size<=10000000)(o:bN b≠0):Calls prog 227 #[.agg #[ww s,wt a],.agg #[ww false,wt b]] w λe V=>∃x y,e=.returned (.tuple #[.agg #[ww (iN (iv s a/bN b)),wt (iM (iv s a/bN b))],.agg #[ww x,wt y],ww true])/\Below w.heap.size w V:=by
 have I:=Hp.start w;have hba:=Xf a;have hmod:bN a % bN b<bN b:=R_ _ Z';have F:bN b*(bN a/bN b)+bN a % bN b=bN a:=L9 _ _;have m:(bN b:Int)*((bN a/bN b:Nat):Int)+((bN a % bN b:Nat):Int)=(bN a:Int):=by rw[<-m_,<-G9,F]
 have u:=λZ=>JD a b Z Z' Z' o;generalize hq:bN a/bN b=q at*;generalize hr:bN a % bN b=r at*;have S:iv false (sN q)=(q:Int):=by unfold iv;rw[Af,R' (by simp)]
 cases s with
 |false=>
  have X:iv false a=(bN a:Int):=by unfold iv;rw[R' (by simp)]
  have k:=Cz (iv false a) (bN b) q r (by rw[X,<-m];omega) Z' Z';rw[k];have L:=λZ=>Di false (sN q) Z;rw[S] at L;refine Ga (l:=[.agg #[ww false,wt a],.agg #[ww false,wt b]]) func227 ?_;refine Kx ?_;intro T w2 I b3 w3 I D w4 I R w5 I;refine cd I (u _) ?_;intro j I;refine Ib ?_;intro ws I ws I;replace I:=show Hp w (.blk R 28 [ww false,wt (sN r)] (0,0)::.blk D 28 [ww false,wt (sN q)] (0,0)::_) _ from I;refine ea ?_;refine sv (ki Qa.out rfl rfl) ?_;refine ea ?_;exact zW4
 |true=>
  have X:iv true a= -(bN a:Int):=by unfold iv;rw[Q' rfl]
  by_cases G:r=0
  .have E:sN r=ByteArray.mk #[]:=by rw[G,pk]
   have k:=Cz (iv true a) (bN b) (-(q:Int)) 0 (by rw[X,<-m,G,j8];omega) Z' Z';rw[k];have Y:=λZ=>vj false (sN q) Z;have L:=λZ=>Di (iN (-(q:Int))) (iM (-(q:Int))) Z;rw[S] at Y;rw[Cd] at L;refine Ga (l:=[.agg #[ww true,wt a],.agg #[ww false,wt b]]) func227 ?_;refine Kx ?_;intro T w2 I b3 w3 I D w4 I R w5 I;refine cd I (u _) ?_;intro j I;refine Ib ?_;intro ws I ws I;replace I:=show Hp w (.blk R 28 [ww false,wt (sN r)] (0,0)::.blk D 28 [ww false,wt (sN q)] (0,0)::_) _ from I;refine ea ?_
   (first|refine sv (Bi rfl rfl (by first|rfl|assumption|decide)) ?_|refine sv (xi rfl rfl (by first|assumption|decide)) ?_)
   refine ea ?_;refine sv (ki Qa.out rfl rfl) ?_;refine ea ?_;refine cd I (Y _) ?_;intro N I;refine Gb ?_;intro ws I;exact zW4
  have E:¬sN r=ByteArray.mk #[]:=λh=>G (MK (h.trans pk.symm));have k:=Cz (iv true a) (bN b) (-((q:Int)+1)) ((bN b:Int)-(r:Int)) (by rw[X,<-m,j8,Int.mul_add];omega) Z' Z';rw[k];have hqz:(sN q).size<=10000000:=by rw[Ki,<-hq];have:=Uc (X9 (B8 (bN a) (bN b)) (wc (bN a)));omega
  have hrz:(sN r).size<=10000000:=by rw[Ki,<-hr];have:=Uc (X9 (Nat.mod_le (bN a) (bN b)) (wc (bN a)));omega
  have e1:([IR.mk false (sN q),iR 1].map IR.v).sum=(q:Int)+1:=(by simp only[T_,f_,l7,List.sum_nil,ab9];simp only[IR.v,S];omega);have p:=λZ=>Qm 1 Z V' V';have J:=λA Z h1=>Js A 2 2 [IR.mk false (sN q),iR 1] Z h1 V' (by intro x H;obtain rfl|H:=y'.1 H;exact(show(sN q).size<=100000000 by omega);rw[k'.1 H];exact(by decide+kernel));rw[e1] at J;have C:=λZ=>Ls false false b (sN r) Z Z' Z';have Y:=λZ=>vj (iN ((q:Int)+1)) (iM ((q:Int)+1)) Z;rw[Cd] at Y;have L:=λZ=>Di (iN (-((q:Int)+1))) (iM (-((q:Int)+1))) Z;rw[Cd] at L;refine Ga (l:=[.agg #[ww true,wt a],.agg #[ww false,wt b]]) func227 ?_;refine Kx ?_;intro T w2 I b3 w3 I D w4 I R w5 I;refine cd I (u _) ?_;intro j I;refine Ib ?_;intro ws I ws I;replace I:=show Hp w (.blk R 28 [ww false,wt (sN r)] (0,0)::.blk D 28 [ww false,wt (sN q)] (0,0)::_) _ from I;refine ea ?_
  (first|refine sv (Bi rfl rfl (by first|rfl|assumption|decide)) ?_|refine sv (xi rfl rfl (by first|assumption|decide)) ?_)
  refine ea ?_;refine qh 2 I ?_;refine ub ?_;refine dC (λ_ hj=>p _) ?_;refine dn ?_;intro W I;refine ym ?_;intro b34 w34 I;refine cd I (J _ _ (I.ka (i:=0) rfl)) ?_;intro w35 I;refine Gb ?_;intro ws I;refine cd I (C _) ?_;intro w40 I;refine Gb ?_;intro ws I;refine sv (ki Qa.out rfl rfl) ?_;refine ea ?_;refine cd I (Y _) ?_;intro N I;refine Gb ?_;intro ws I;refine aaT ?_;refine Ee 2 [_,_] ?_;refine dC (λ_ hj=>L _) ?_;refine Ee 1 [_,_] ?_;refine xa ?_;intro p_ z;simp only[y',i_,or_false] at z;obtain rfl|rfl:=z
  .intro f W Q d;have P:=Q.bl;obtain⟨c,t,_⟩:=d;simp only[Yf];have K:f 0=_:=t;rw[K];have g:f 1=_:=c;rw[g];replace I:=Q.hp;clear K g Q;refine pd I 2 [_,_] ?_;intro ws I;replace I:Hp _ (_::_::.blk _ _ [_,_] _::_) _:=I;refine Bd ?_;refine Oe (i:=2) U' rfl ?_;refine vf I 1 [_,_] ?_;exact ae2
  intro f W Q d;have P:=Q.bl;obtain⟨B,c,t,_⟩:=d;simp only[Yf];have K:f 0=_:=t;rw[K];have g:f 1=_:=c;rw[g];have M:f 2=_:=B;rw[M];replace I:=Q.hp;clear K g M Q;refine pd I 2 [_,_] ?_;intro ws I;replace I:Hp _ (_::_::.blk _ _ [_,_] _::_) _:=I;exact ae2
def Uw(a b:NR)(p:Int):Int:=if 0<=a.e-b.e+p then a.i*2^(a.e-b.e+p).toNat else a.i
def Ow(a b:NR)(p:Int):Int:=if 0<=a.e-b.e+p then b.i else b.i*2^(-(a.e-b.e+p)).toNat
def UA(a b:NR)(p:Int):Int:=if Ow a b p<0 then -Uw a b p / -Ow a b p else Uw a b p/Ow a b p
def gu(x y:Dyadic)(p:Int):Dyadic:=Dyadic.ofIntWithPrec (UA (nR x) (nR y) p) p
def JT(i j p:Int):Dyadic.ofIntWithPrec i p<=Dyadic.ofIntWithPrec j p↔i<=j:=by
 have h:=Yk j i p;constructor
 .intro h1;have:¬Dyadic.ofIntWithPrec j p<Dyadic.ofIntWithPrec i p:=by grind
  rw[h] at this;omega
 intro h1;have:¬Dyadic.ofIntWithPrec j p<Dyadic.ofIntWithPrec i p:=by rw[h];omega
 grind
def tq(x:Dyadic)(y)(p:Int):∃K:Int,x=Dyadic.ofIntWithPrec (Uw (nR x) (nR y) p) (p+K)/\y=Dyadic.ofIntWithPrec (Ow (nR x) (nR y) p) K:=by
 have C:=Ta x;have hy:=Ta y;unfold NR.fa at C hy;generalize nR x=a at*;generalize nR y=b at*;subst C hy;unfold Uw Ow;by_cases h:0<=a.e-b.e+p
 .rw[Q' h,Q' h];exact⟨-b.e,dh _ Z',rfl⟩
 rw[R' h,R' h];exact⟨-a.e-p,C_ _ Z',dh _ Z'⟩
def UM{x y:Dyadic}(p:Int)(hy:0<y):gu x y p*y<=x:=by
 obtain⟨K,h1,h2⟩:=tq x y p;unfold gu UA;generalize Uw (nR x) (nR y) p=M at*;generalize Ow (nR x) (nR y) p=D at*;have r:0<D:=(by rw[h2,<-jf K,Yk] at hy;exact hy);rw[R' Z',h1,h2,uk,JT];exact Int.ediv_mul_le M Z'
def nM{x y:Dyadic}(p:Int)(hy:y<0):x<=gu x y p*y:=by
 obtain⟨K,h1,h2⟩:=tq x y p;unfold gu UA;generalize Uw (nR x) (nR y) p=M at*;generalize Ow (nR x) (nR y) p=D at*;have r:D<0:=(by rw[h2,<-jf K,Yk] at hy;exact hy);rw[Q' r,h1,h2,uk,JT];have G:=Int.ediv_mul_le (-M) (b:= -D) Z';rw[j8] at G;omega
def rP{ro:Mode}{Q:Kq}{a c:Code}(mods)(s0 s1:Nat)(J:Value->Value->World->Prop)(E:WC ro P N a (Xd (λK q=>J (K s0) (K s1) q/\Gg mods K O) Q) O w)(B:∀ρ' v0 v1 V,J v0 v1 V->WC ro P N c Q (vd (vd (mask mods ρ' O) s0 v0) s1 v1) V):WC ro P N (.seq a c) Q O w:=
 qa (E.mono λe K q R=>by
  cases e with
  |normal=>
   have:=B K (K s0) (K s1) q R.1;rwa[th R.2,Hf,Hf] at this
  |_=>exact R)
def eg(z:Int)(k:Nat):Wa (z*2^k).natAbs<=Wa z.natAbs+k:=by
 rw[H8,S7];exact zh _ _
def Hw(s:Bool)(a:t7)(d:Nat)(h:a.size<=n):(iM (iv s a/(d:Int))).size<=n:=by
 have h1:=mf s a;have G:Wa (iv s a/(d:Int)).natAbs<=Wa (iv s a).natAbs:=Uc (X9 (x7 _ _) (wc _));rw[yc];omega
def aco{x y:Dyadic}{p:Int}(J:y≠0):Ow (nR x) (nR y) p≠0:=λh=>by
 obtain⟨K,_,h2⟩:=tq x y p;rw[h,jf] at h2;exact J h2
theorem Vv(x y:Dyadic)(p:Int)(w:World)(hT:Nd w)(hx:(nR x).ok)(hy:(nR y).ok)(J:y≠0)(hp1: -1000<=p)(hp2:p<=1000):Zc 155 #[.agg #[ww (nR x).neg,wt (nR x).Ra,wd (nR x).e],.agg #[ww (nR y).neg,wt (nR y).Ra,wd (nR y).e],wd p] w (.agg #[ww (nR (gu x y p)).neg,wt (nR (gu x y p)).Ra,wd (nR (gu x y p)).e]):=by
 have I:=Hp.start w;have hD0:=aco (x:=x) (p:=p) J;unfold gu;have ba:=mf (nR x).neg (nR x).Ra;have bb:=mf (nR y).neg (nR y).Ra;obtain⟨a1,a2,a3⟩:=hx;obtain⟨c1,c2,c3⟩:=hy;generalize nR x=a at*;generalize nR y=b at*;obtain⟨n,D⟩:∃n,n=a.e-b.e+p:=⟨_,rfl⟩;have hsa:=λZ P=>Dk a.neg a.Ra n Z P Z' Z' Z';have hsb:=λZ P=>Dk b.neg b.Ra (-n) Z P Z' Z' Z';refine Ga (l:=[.agg #[ww a.neg,wt a.Ra,wd a.e],.agg #[ww b.neg,wt b.Ra,wd b.e],wd p]) func155 ?_;refine sr ?_;refine ar I [_,_,_] ?_;intro b3 w3 I;refine ar I [_,_,_] ?_;intro b4 w4 I;refine ik I ?_;intro b6 w6 I;refine ia (sr (Sk ?_));refine im I 2 ?_;refine Sk ?_;refine im I 1 ?_;refine su (mI ?_);refine al (aI (ia ?_));rw[<-D];refine rP [8,9,20,21,22,23] 8 9 (λu v V=>∃c C,u=.pointer (some ⟨c,0,none⟩)/\v=.pointer (some ⟨C,0,none⟩)/\Hp w [.blk C 28 [ww b.neg,wt b.Ra] (0,0),.blk c 28 [ww a.neg,wt a.Ra] (0,0),.blk b6 30 [ww false,wt (ByteArray.mk #[]),wd 0] (0,0)] V) ?_ ?_
 .refine bK [4,5] [2,3] [0,1,0,4,0,0,51,127] 6 [[(3,none)],[(20,some 0)],[(4,none)],[(22,some 2)],[],[]] [(5,9),(4,8),(3,23),(2,22),(1,21),(0,20)] [([],3,[(5,9),(4,8),(1,21),(0,20)]),([2],2,[(5,9),(4,8),(2,22),(1,21),(0,20)]),([2,3],1,[(5,9),(4,8),(3,23),(2,22),(1,21),(0,20)])] I mixed U' U' V' (Lq rfl pa.out (Lq rfl pa.out Jo)) rfl ?_;refine XJ ?_;refine Ee 2 [_,_] ?_;refine XJ ?_;refine Ee 1 [_,_] ?_;refine ua (i:=4) (Sa _ 28 _) Sa.ext (λU Z hj hR=>Xc pa.out hj.bl (λv w2 h hb=>⟨hb,h⟩)) ?_;refine ua (i:=5) (Sa _ 28 _) Sa.ext (λU Z hj hR=>Xc pa.out hj.bl (λv w2 h hb=>⟨hb,h⟩)) ?_;refine xa ?_;intro p_ F;simp only[y',i_,or_false] at F;obtain rfl|rfl|rfl:=F
  .intro f W Q B r;have k:=Q.bl;obtain⟨X,Y,j,v20,_⟩:=B;simp only[Yf];have s:f 0=_:=v20;rw[s];have H:f 1=_:=j;rw[H];obtain⟨c,L,T,R⟩:Sa _ _ _ (f 4) W:=Y;obtain⟨C,g,m,A⟩:Sa _ _ _ (f 5) W:=X;have E:=CD (r 4 V' 5 V' V' V' V') L g;replace I:=Q.qq I T R m A E;clear r E;rw[L,g];clear s H L g Q;refine acu ?_;intro ws I;refine Bd ?_;refine Oe (i:=2) U' rfl ?_;refine Sk ?_;exact aeL
  .intro f W Q B r;have k:=Q.bl;obtain⟨X,Y,G,j,v20,_⟩:=B;refine VB ?_;(unhygienic intros)
   obtain⟨c,L,T,R⟩:Sa _ _ _ (f 4) W:=Y;obtain⟨C,g,m,A⟩:Sa _ _ _ (f 5) W:=X;have E:=CD (r 4 V' 5 V' V' V' V') L g;replace I:=Q.qq I T R m A E;clear r E;rw[L,g];clear s H o L g Q;refine acu ?_;intro ws I;exact aeL
  intro f W Q B r;have k:=Q.bl;obtain⟨X,Y,v23,G,j,v20,_⟩:=B;refine VB ?_;(unhygienic intros)
  have z:f 3=_:=v23;rw[z];obtain⟨c,L,T,R⟩:Sa _ _ _ (f 4) W:=Y;obtain⟨C,g,m,A⟩:Sa _ _ _ (f 5) W:=X;have E:=CD (r 4 V' 5 V' V' V' V') L g;replace I:=Q.qq I T R m A E;clear r E;rw[L,g];clear s H o z L g Q;refine acu ?_;intro ws I;refine S0 ?_;(unhygienic intros)
  repeat refine qd rfl ?_
  exact λ_ _=>rfl
 rintro ρ' _ _ V ⟨c,C,rfl,rfl,I⟩;refine vq [24,25,26,27,28,29,30,31,32] (λV=>∃s1 q s2 N,Hp w [.blk C 28 [ww s2,wt N] (0,0),.blk c 28 [ww s1,wt q] (0,0),.blk b6 30 [ww false,wt (ByteArray.mk #[]),wd 0] (0,0)] V/\iv s1 q=Uw a b p/\iv s2 N=Ow a b p/\q.size<=9000000/\N.size<=9000000) ?_ ?_
 .by_cases J:0<=n
  .refine ea ?_;refine cd I (hsa _ (hT.ext I.below)) ?_;intro w28 I;refine Gb ?_;intro ws I;refine⟨⟨_,_,_,_,I, ?_, ?_, ?_, ?_⟩, ?_⟩
   .rw[Cd];unfold Uw BF;rw[<-D,Q' J,Q' J];rfl
   .unfold Ow;rw[<-D,Q' J];rfl
   .rw[yc,BF,Q' J];have:=eg (iv a.neg a.Ra) n.toNat;omega
   .omega
   repeat refine qd rfl ?_
   exact λ_ _=>rfl
  refine ea ?_;refine cd I (hsb _ (hT.ext I.below)) ?_;intro w32 I;refine Gb ?_;intro ws I;refine⟨⟨_,_,_,_,I, ?_, ?_, ?_, ?_⟩, ?_⟩
  .unfold Uw;rw[<-D,R' J];rfl
  .rw[Cd];unfold Ow BF;rw[<-D,R' J,Q' Z'];rfl
  .omega
  .rw[yc,BF,Q' Z'];have:=eg (iv b.neg b.Ra) (-n).toNat;omega
  repeat refine qd rfl ?_
  exact λ_ _=>rfl
 rintro ρ' V ⟨s1,q,s2,N,I,e1,e2,z1,z2⟩;rw[<-e2] at hD0;unfold UA;rw[<-e1,<-e2];refine vq [33,34,35,36,37,38,39] (λV=>∃S t M,Hp w [.blk C 28 [ww false,wt M] (0,0),.blk c 28 [ww S,wt t] (0,0),.blk b6 30 [ww false,wt (ByteArray.mk #[]),wd 0] (0,0)] V/\(if iv s2 N<0 then -iv s1 q / -iv s2 N else iv s1 q/iv s2 N)=iv S t/bN M/\bN M≠0/\t.size<=9000000/\M.size<=9000000) ?_ ?_
 .by_cases r:iv s2 N<0
  .have hs:(iv s2 N).sign= -1:=g9 r;have hng:=λZ=>vj s1 q Z;have d:=λZ=>vj s2 N Z;have ef:iN (-(iv s2 N))=false:=by unfold iN;exact m' Z'
   have eb:(bN (iM (-(iv s2 N))):Int)= -(iv s2 N):=(by have:=Cd (-(iv s2 N));rw[ef] at this;exact this);rw[ef] at d;refine ea ?_;refine cd I (zi s2 N _) ?_;intro w34 I;rw[hs];refine ea ?_;refine qh 3 I ?_;refine ub ?_;refine dC (λ_ hj=>hng _) ?_;refine ub ?_;refine dn ?_;intro W I;refine cd I (d _) ?_;intro w39 I;refine Ib ?_;intro ws I ws I;refine⟨⟨_,_,_,I, ?_, ?_, ?_, ?_⟩, ?_⟩
   .rw[Q' r,Cd,eb]
   .omega
   .exact p' (Wj _ _) z1
   .exact p' (Wj _ _) z2
   repeat refine qd rfl ?_
   exact λ_ _=>rfl
  have hp:0<iv s2 N:=Z';have hs:(iv s2 N).sign=1:=X8 hp
  cases s2 with
  |true=>unfold iv at hp;rw[Q' rfl] at hp;omega
  |false=>
   have eb:iv false N=(bN N:Int):=rfl;refine ea ?_;refine cd I (zi false N _) ?_;intro w34 I;rw[hs];refine ea ?_;refine⟨⟨_,_,_,I, ?_, ?_, ?_, ?_⟩, ?_⟩
   .rw[R' r,eb]
   .omega
   .exact z1
   .exact z2
   repeat refine qd rfl ?_
   exact λ_ _=>rfl
 rintro ρ' V ⟨s3,K,m4,I,e3,hb0,z3,z4⟩;rw[e3];refine ea ?_;refine Hi (kJ s3 K m4 _ Z' Z' hb0) rfl ?_;rintro e_ w43 ⟨x,y,rfl,hb_⟩;refine⟨_,rfl, ?_⟩;replace I:=I.ext hb_;refine Kx ?_;intro b10 w10 I b11 w11 I ws I ws I;have hq:(iM (iv s3 K/bN m4)).size<=9000000:=Hw s3 K _ z3;refine Gd I (qg (iN (iv s3 K/bN m4)) (iM (iv s3 K/bN m4)) (-p) _ (hT.hp I) Z' Z' Z') rfl ?_;intro w50 I;refine Gb ?_;intro ws I;refine dJ (jb rfl (kb (vs:=[_,_,_]) pa.out (I.wa (i:=4) (n:=3) rfl rfl) rfl) Ub) ?_;exact⟨by rw[Cd,O7],I.below⟩
def dr(x y:Dyadic)(p:Int):SR:=⟨nR (gu x y p),nR (-gu (-x) y p)⟩
def TO(a b:NR)(p:Int)(w)(S:Nd w)(M:a.ok)(F:b.ok)(C:(nR a.fa).ok)(c:(nR (-a.fa)).ok)(hy:(nR b.fa).ok)(J:b.fa≠0)(R:(nR (gu (-a.fa) b.fa p)).ok)(L: -1000<=p)(H:p<=1000):Zc 90 #[a.V,b.V,wd p] w (.tuple #[.agg (SR.cells (dr a.fa b.fa p)).toArray,wd 0]):=by
 have I:=Hp.start w;obtain⟨m,o,q⟩:=M;obtain⟨X,Y,y⟩:=F;have j:=λZ P=>Wd a Z P Z' Z' Z';have f:=λZ P=>Wd b Z P Z' Z' Z';have g:¬(nR b.fa).i.sign=0:=λh=>(by rw[NR.sign,Ta] at h;have h1:=(Sn b.fa 0);have h2:=(At b.fa 0);rw[h] at h1 h2;have z:¬b.fa<0:=λh=>absurd (h1.2 h) V';have A:¬0<b.fa:=λh=>absurd (h2.2 h) V';exact J (by grind));have s:=λZ P=>Kn (nR a.fa) Z P (by have:=C.1;omega) (by have:=C.2.1;omega) (by have:=C.2.2;omega);have D:=λZ P=>Kn (nR (gu (-a.fa) b.fa p)) Z P (by have:=R.1;omega) (by have:=R.2.1;omega) (by have:=R.2.2;omega);rw[Ta] at s D;have u:=λZ P=>Vv a.fa b.fa p Z P C hy J L H;have k:=λZ P=>Vv (-a.fa) b.fa p Z P c hy J L H;refine Ga func90 ?_;refine Ii ?_;intro r B I v E I x K I;refine Od 3 I ?_;refine dC (λ_ hj=>j _ (S.hp hj.hp)) ?_;refine ub ?_;refine dn ?_;intro W I;refine cd I (f _ (S.hp I)) ?_;intro t I;refine Ib ?_;intro ws I ws I;refine cd I (Jd (nR b.fa) _) ?_;intro l I;refine ea ?_;refine Od 8 I ?_;refine dC (λ_ hj=>u _ (S.hp hj.hp)) ?_;refine ub ?_;refine dC (λ_ hj=>s _ (S.hp hj.hp)) ?_;refine ub ?_;refine dn ?_;intro W I;refine cd I (k _ (S.hp I)) ?_;intro T I;refine cd I (D _ (S.hp I)) ?_;intro G I;refine Gb ?_;intro ws I;refine kB (jb rfl (kb (vs:=[_,_,_,_,_,_]) pa.out (I.wa (i:=0) (n:=6) rfl rfl) rfl) (Dc (Sc rfl) Ub)) ?_;exact⟨rfl,I.below⟩
def Jg(l:List SR):List NR:=l.flatMap λs=>[s.lo,s.hi]
def Se(l:List SR):SR:=⟨nR (xc (λx y=>decide (x<y)) ((Jg l).map NR.fa)),nR (xc (λx y=>decide (y<x)) ((Jg l).map NR.fa))⟩
def Iz(L)(n c:Nat)(l)(w)(S:Nd w)(J:Sl w L n 6 (la SR.cells l))(Q:∀s∈l,s.ok)(B:n<=100000):Zc 40 #[wn L n c] w (.agg (SR.cells (Se l)).toArray):=by
 have I:=Hp.start w;have m:=J.Aa SR.len V';have x:=λA c' Z P N=>KA A (2*n) c' (Jg l) Z P N (λa M=>by
  obtain⟨s,K,M⟩:=k9.1 M;obtain rfl|M:=y'.1 M
  .exact(Q s K).1
  rw[k'.1 M];exact(Q s K).2) Z'
 refine Ga func40 ?_;refine Gb ?_;intro T j I;replace I:=I.yb 30 3;refine Jh 3 8 (λy v V=>∃(i e:Nat)(A:t6),i<=n/\v=wd i/\y=wn A (2*i) e/\Hp w [.row A (2*i) e 30 3 (la NR.cells (Jg (l.take i))),.blk T 36 [ww false,wt (ByteArray.mk #[]),wd 0,ww false,wt (ByteArray.mk #[]),wd 0] (0,0)] V) (λ_ v _=>n-(intOf v).toNat) ?_ ?_
 .exact⟨0,0,none,N' _,rfl,rfl,I⟩
 clear I;rintro ρ' y v V ⟨i,e,A,hi,rfl,rfl,I⟩;by_cases D:i<n
 .obtain⟨s,K⟩:=aa (l:=l) (k:=i) Z';obtain⟨f,rfl,H⟩:=J.at_ Z';refine Vt ?_;refine Ib ?_;intro R o I ws I;refine bw ?_;intro b d I;refine EC ?_;intro h z g I;refine jB ?_;intro I;replace I:=I.sub (L' _ (P' _ (P' _ j')));refine⟨⟨i+1,z,h,Z',rfl,rfl, ?_⟩,by show n-(i+1)<n-i;omega, ?_⟩
  .rw[ja K,Jg,r8,Na];exact I
  exact Sb
 obtain rfl:i=n:=Z';rw[G' Z'] at I;refine ea ?_;refine cd I (x _ _ _ (S.hp I) (I.ka (i:=0) rfl)) ?_;intro q I;refine aaf ?_;intro ws I;exact⟨rfl,I.below⟩
def Ux(out:Int):t4->Int
 |[]=>out
 |s::r=>if out=2\/out=s then Ux s r else 0
def Gr(l:List NR):Int:=Ux 2 (l.map λa=>a.i.sign)
def oI(L)(n c:Nat)(l)(w)(J:Sl w L n 3 (la NR.cells l))(B:n<=1000000):Zc 154 #[wn L n c] w (wd (Gr l)):=by
 have I:=Hp.start w;have m:=J.Aa NR.len V';refine Ga func154 ?_;refine ea ?_;refine Jh 3 9 (λy v V=>∃(i:Nat)(o:Int),i<=n/\v=wd i/\y=wd o/\Gr l=Ux o ((l.drop i).map λa=>a.i.sign)/\ -2<=o/\o<=2/\Hp w [] V) (λ_ v _=>n-(intOf v).toNat) ?_ ?_
 .exact⟨0,2,N' _,rfl,rfl,rfl,V',V',I⟩
 clear I;rintro ρ' y v V ⟨i,o,hi,rfl,rfl,e,d,q,I⟩;by_cases D:i<n
 .obtain⟨a,M⟩:=aa (l:=l) (k:=i) Z';obtain⟨f,rfl,H⟩:=J.at_ Z';rw[m9 Z',(z'.1 M).2,T_,Ux] at e;have F:=Yi a.i;by_cases h2:o=2
  .rw[Q' (.inl h2)] at e;exact oZ
  by_cases G:o=a.i.sign
  .rw[Q' (.inr G)] at e;exact oZ
  rw[R' Z'] at e;refine QZ ?_;intro R b I ws I Y I;generalize a.i.sign=g at*;refine ea ?_;exact⟨by rw[e],I.below⟩
 obtain rfl:i=n:=Z';rw[l6 Z'] at e;refine ea ?_;exact⟨by rw[e];rfl,I.below⟩
def Lw(f:FX)(k:Nat)(w)(S:Nd w)(h:f.at_ w)(Q:f.qf k)(he:f.e=0):Zc 89 #[f.V] w (.tuple #[wd (Gr f.cs),wd 0]):=by
 have I:=Hp.start w;have E:=λZ P t=>Uq f k Z P (h.ext t) Q;rw[he] at E;refine Ga func89 ?_;refine Gb ?_;intro G Z I;refine cd I (E _ (S.hp I) I.below) ?_;intro c I;refine ea ?_;refine Gd I (oI f.B f.m f.b f.cs _ (h.nm.ext I.below) (by have:=Q.m60;omega)) rfl ?_;intro W I;refine ea ?_;exact⟨rfl,I.below⟩
def km(p:Int×Int):Bool:=decide (p.2<p.1\/127<p.2)
def Qu(ds es:t4):Int:=if es.length≠ds.length then 1 else if(ds.zip es).any km=true then 1 else if 4096<da (es.map Int.toNat) then 3 else 0
def xe(a b:t3):t3:=List.zipWith (· - ·) a b
def Xi(ns ts:t3)(xs:t5):t5:=Eu ns (xe ts ns) xs ((zw (xe ts ns)).map nD)
def rn:∀{ns ts:t3},ns.length=ts.length->(∀(i n t:Nat),ns[i]?=some n->ts[i]?=some t->n<=t)->me ns (xe ts ns)=ts
 |[],[],_,_=>rfl
 |[],_::_,h,_=>by simp at h
 |_::_,[],h,_=>by simp at h
 |n::ns,t::ts,h,h2=>(by have J:=h2 0 n t rfl rfl;have W:=rn (ns:=ns) (ts:=ts) (by simpa using h) λi a b M F=>h2 (i+1) a b M F;show(n+(t-n))::me ns (xe ts ns)=_;rw[W,show n+(t-n)=t by omega])
def qi:∀{a b:t3},a.length=b.length->(∀(i x y:Nat),a[i]?=some x->b[i]?=some y->x<=y)->da a<=da b
 |[],[],_,_=>F' _
 |[],_::_,h,_=>by simp at h
 |_::_,[],h,_=>by simp at h
 |x::a,y::b,h,h2=>(by have J:=h2 0 x y rfl rfl;rw[da,da];exact O9 Z' (qi (by simpa using h) λi p q hp R=>h2 (i+1) p q hp R))
def Nt{a b:t3}{i x y:Nat}(h1:a[i]?=some x)(h2:b[i]?=some y):(xe a b)[i]?=some (x-y):=by
 unfold xe;rw[A8,h1,h2]
def ij{a b:t3}(h:a.length=b.length):(xe a b).length=a.length:=by simp[xe,h]
def dif(es ds:t4):t4:=List.zipWith (· - ·) es ds
def abv{es ds:t4}{i:Nat}{x y:Int}(h1:es[i]?=some x)(h2:ds[i]?=some y):(dif es ds)[i]?=some (x-y):=by
 unfold dif;rw[A8,h1,h2]
def fO:∀{ts ns:t3},ns.length=ts.length->(∀(i n t:Nat),ns[i]?=some n->ts[i]?=some t->n<=t)->dif (sa ts) (sa ns)=sa (xe ts ns)
 |[],[],_,_=>rfl
 |[],_::_,h,_=>by simp at h
 |_::_,[],h,_=>by simp at h
 |t::ts,n::ns,h,h2=>(by have J:=h2 0 n t rfl rfl;have W:=fO (ns:=ns) (ts:=ts) (by simpa using h) λi a b M F=>h2 (i+1) a b M F;show((t:Int)-(n:Int))::dif (sa ts) (sa ns)=((t-n:Nat):Int)::sa (xe ts ns);rw[W,show(t:Int)-(n:Int)=((t-n:Nat):Int) by omega])
def gU{ns:t3}{es:t4}(Q:es.length=(sa ns).length)(F:((sa ns).zip es).any km=false):∃ts:t3,es=sa ts/\ns.length=ts.length/\(∀(i n t:Nat),ns[i]?=some n->ts[i]?=some t->n<=t)/\∀t∈ts,t<=127:=by
 have key:∀(i:Nat)(d:Int),es[i]?=some d->∃n,ns[i]?=some n/\(n:Int)<=d/\d<=127:=λi d T=>(by have hi:=(z'.1 T).1;rw[Q,Za] at hi;obtain⟨n,B⟩:=aa hi;have o:((n:Int),d)∈(sa ns).zip es:=O' (i:=i) (by rw[p7];exact⟨jc B,T⟩);have:=P9.1 F _ o;simp[km] at this;exact⟨n,B,Z',Z'⟩);refine⟨es.map Int.toNat, ?_,by rw[B',Q,Za],λi n t B S=> ?_,λt S=> ?_⟩
 .unfold sa;rw[E_];refine(m7 es).symm.trans (J9 λd T=> ?_);obtain⟨i,hi⟩:=r_.1 T;obtain⟨n,_,h1,_⟩:=key i d hi;show d=((d.toNat:Nat):Int);omega
 .rw[C'] at S
  cases T:es[i]? with
  |none=>rw[T] at S;cases S
  |some d=>
   rw[T] at S;obtain rfl:d.toNat=t:=by simpa using S
   obtain⟨q,a,h1,_⟩:=key i d T;rw[B] at a;obtain rfl:=P_ a;omega
 obtain⟨d,T,rfl⟩:=x'.1 S;obtain⟨i,hi⟩:=r_.1 T;obtain⟨n,_,h1,h2⟩:=key i d hi;omega
def xf(ts):(sa ts).map Int.toNat=ts:=by
 unfold sa;rw[E_];exact m7 ts
def jI(e:Int):Ending:=.returned (.tuple #[.agg #[wn none 0 0,wn none 0 0],wd e])
def Zs{ds es:t4}{i:Nat}{d e:Int}(h:((ds.take i).zip (es.take i)).any km=false)(T:ds[i]?=some d)(he:es[i]?=some e)(F:km (d,e)=false):((ds.take (i+1)).zip (es.take (i+1))).any km=false:=by
 rw[ja T,ja he,List.zip_append (by have:=(z'.1 T).1;have:=(z'.1 he).1;simp;omega),S8,h];show(false||([(d,e)].any km))=false;rw[Q8,F];rfl
def xD(f:FX)(E:t6)(q cE:Nat)(es:t4)(k:Nat)(w:World)(hT:Nd w)(hf:f.at_ w)(hl:f.qf k)(hE:Sl w E q 1 (Fa es))(hq:q<=1000)(hk:k<=90000) (hM:f.e=0->Qu f.ds es=0->da (es.map Int.toNat)*da (f.ds.map Int.toNat)<=1000000):Calls prog 226 #[.agg #[wn f.A f.n f.a,wn f.B f.m f.b],wn E q cE] w λr V=>((f.e≠0/\r=jI f.e\/f.e=0/\Qu f.ds es≠0/\r=jI (Qu f.ds es))/\Below w.heap.size w V)\/(f.e=0/\Qu f.ds es=0/\∃(A:t6)(a:Nat)(B:t6)(b:Nat),r=.returned (.tuple #[.agg #[wn A q a,wn B (da (es.map Int.toNat)) b],wd 0])/\Hp w [.row B (da (es.map Int.toNat)) b 30 3 (la NR.cells ((Xi (f.ds.map Int.toNat) (es.map Int.toNat) (f.cs.map NR.fa)).map nR)),.row A q a 3 1 (Fa es)] V):=by
 have I:=Hp.start w;have s:f.ds.length=f.n:=by have:=hf.dg.1;simpa[Fa] using this
 have Y:es.length=q:=by have:=hE.1;simpa[Fa] using this
 have hlm:=hf.nm.Aa NR.len V';have R:=λZ N hb=>Uq f k Z N (hf.ext hb) hl;have hn20:=hl.w1;by_cases J:f.e=0
 .by_cases h1:q=f.n
  .obtain⟨ns,xs,hv,hxs⟩:=GQ J;refine Ga func226 ?_;refine Ib ?_;intro b2 w2 I b4 w4 I;refine cd I (R _ (hT.hp I) I.below) ?_;intro w11 I;refine Ib ?_;intro b7 w7 I ws I;replace I:=I.yb 3 1;refine rf 26 (λv V=>∃(i c7:Nat)(A:t6),i<=q/\v=wd i/\((f.ds.take i).zip (es.take i)).any km=false/\Hp w [.row A i c7 3 1 (Fa ((dif es f.ds).take i)),.blk b7 78 [wn A i c7,wn none 0 0] (0,0),.blk b4 78 [wn none 0 0,wn none 0 0] (0,0),.blk b2 78 [wn f.A f.n f.a,wn f.B f.m f.b] (0,0)] V) (λv _=>q-(intOf v).toNat) ?_ ?_
   .exact⟨0,0,none,N' _,rfl,rfl,I⟩
   clear I;rintro ρ' v V ⟨i,c7,A,hi,rfl,X,I⟩;by_cases hlt:i<q
   .obtain⟨d,T⟩:=aa (l:=f.ds) (k:=i) Z';obtain⟨e,he⟩:=aa (l:=es) (k:=i) Z';have hgd:=Db T;have hge:=Db he;have hde:=abv he T;obtain⟨a1,hA1,s1⟩:=hf.dg.at_ Z';obtain⟨a2,rfl,s2⟩:=hE.at_ Z';have hdn:0<=d/\d<=127:=(by have M:=hv.deg;rw[M] at T;have g:=hv.low;obtain⟨nn,o⟩:=aa (l:=ns) (k:=i) (by rw[<-Za,<-M,s];omega);rw[jc o] at T;have:=g nn (O' o);have:=P_ T;omega);have u:km (d,e)=true->Qu f.ds es=1:=λhb=>(by unfold Qu;rw[R' Z',Q'];exact E9.2 ⟨(d,e),O' (i:=i) (by rw[p7];exact⟨T,he⟩),hb⟩);rw[hA1] at I;by_cases h2:e<d
    .have D:=u (by unfold km;rw[w'];exact .inl h2);exact ae7
    by_cases h3:127<e
    .have D:=u (by unfold km;rw[w'];exact .inr h3);exact ae7
    refine ea ?_;refine aa6 ?_;refine ea ?_;refine qh 10 I ?_;refine ub ?_;refine Wi (i) ?_;refine Ba (i:=7) (λU Z hj hR=>Ma pa.out (show U 49=Value.pointer _ from hR.1) ((s1.ext hj.hp.below).Dl (by assumption))) ?_;refine ub ?_;refine Nw [_] ?_;refine xa ?_;intro f W hJ hV;obtain⟨v52,v51,v50,v49,v48,v47,v46,v45,v44,v43,_⟩:=hV;obtain⟨A52,c52,e52,f52⟩:Rows _ _ _ (f 9) W:=v52;replace I:=hJ.hp;refine Be ?_;clear e52 hJ;refine pb I (i:=0) rfl rfl rfl (f52) Qa.out pa.out rfl V' (by first|rfl|exact kc _|exact Mb _|exact Ja _|exact Pa NR.one _) Z' Z' V' ?_;intro A53 c53 w53 I;simp only[l'] at I;refine Gb ?_;intro ws I;rw[<-hA1] at I;replace I:=I.sub (P' _ (P' _ (P' _ (P' _ j'))));refine⟨⟨i+1,c53,A53,Z',rfl,Zs X T he (by unfold km;rw[m'];show ¬(e<d\/127<e);omega), ?_⟩,by show q-(i+1)<q-i;omega, ?_⟩
    .rw[ja hde,Qp];exact I
    exact Sb
   obtain rfl:i=q:=Z';rw[G' Z',G' Z'] at X;have M:=hv.deg;have H:=hv.num;have g:=hv.low;have hlen:=hv.len;have hfew:=hv.VT;rw[M] at X s;obtain⟨ts,rfl,G,hle,h⟩:=gU (by rw[s];omega) X;have hnl:ns.length=f.n:=by rw[<-Za];exact s
   have htn:(sa ts).map Int.toNat=ts:=xf ts;have o:f.ds.map Int.toNat=ns:=by rw[M];exact xf ns
   have K:Qu f.ds (sa ts)=if 4096<da ts then 3 else 0:=(by unfold Qu;rw[M,R' (by rw[Za,Za];omega),R' (by rw[X];decide),htn])
   rw[htn,o] at hM;rw[htn,o,K,<-hxs];rw[K] at hM;have P:=λZ hS1=>HK E i cE ts Z hS1 hq (λd T=>by have:=h d T;omega);have hany:ts.any (λd=>decide (127<d))=false:=P9.2 λd T=>by have:=h d T;simp;omega
   by_cases h4:4096<da ts
   .have Q:er ts=true:=by unfold er;rw[w' h4,Bool.or_true]
    rw[Q] at P;rw[Q' h4];refine ea ?_;refine cd I (P _ (hE.ext I.below)) ?_;intro w57 I;refine Gb ?_;intro ws I;refine Jw ?_;exact .inl ⟨.inr ⟨J,V',rfl⟩,I.below⟩
   have Q:er ts=false:=by unfold er;rw[hany,m' h4];rfl
   rw[Q] at P;rw[R' h4] at hM;rw[R' h4];have hM2:=hM J rfl;have hsl:(xe ts ns).length=i:=by rw[ij Z',<-Za];exact Y
   have p:∀d∈xe ts ns,d<=127:=λd T=>(by obtain⟨j,hj⟩:=r_.1 T;have hj2:=(z'.1 hj).1;obtain⟨x,C⟩:=aa (l:=ts) (k:=j) (by rw[Za] at Y;omega);obtain⟨y,hy⟩:=aa (l:=ns) (k:=j) Z';rw[Nt C hy] at hj;have:=h x (O' C);have:=P_ hj;omega);have hcs:da (xe ts ns)<=da ts:=qi (by rw[hsl,<-Za];exact Y.symm) λj x y C hy=>(by have hj2:=(z'.1 C).1;obtain⟨z,hz⟩:=aa (l:=ns) (k:=j) Z';rw[Nt hy hz] at C;have:=P_ C;omega);have t:me ns (xe ts ns)=ts:=rn G hle;have F:dif (sa ts) f.ds=sa (xe ts ns):=by rw[M];exact fO G hle
   have hwn:EO (xe ts ns)=((zw (xe ts ns)).map nD).map nR:=by unfold EO;rw[E_];rfl
   have L:(xe ts ns).length<=12:=Z';have hwz:∀y∈(zw (xe ts ns)).map nD,Sz 1600 y:=λy hy=>(by obtain⟨x,C,rfl⟩:=x'.1 hy;exact OR C L p);have hxz:∀x∈xs,Sz k x:=λx C=>(by rw[hxs] at C;obtain⟨c,hc,rfl⟩:=x'.1 C;exact(hl.num c hc).2);have hpair:da (xe ts ns)*da ns<=da ts*da ns:=n_ _ hcs;have hfm:f.m=da ns:=by rw[<-hlm,H,B',hlen]
   have htm:=λZ N A B c3 c4 h1 h2 h3 h4'=>zF f.A f.B A B i f.a f.b c3 c4 ns (xe ts ns) xs ((zw (xe ts ns)).map nD) k 1600 Z N h1 h2 h3 h4' Z' g p (by rw[t];omega) Z' hxz hwz Z';rw[t] at htm;have S:=hf.dg;have hnm:=hf.nm;rw[M] at S;rw[H,hfm] at hnm;rw[G' (by rw[F,Za];omega),F] at I;rw[hfm] at I;rw[show f.n=i by omega] at I S;refine ea ?_;refine cd I (P _ (hE.ext I.below)) ?_;intro w57 I;refine ea ?_;refine vU I (xp A i c7 (xe ts ns) _ (hT.hp I) (I.ka (i:=0) rfl) L p Z') rfl ?_;intro A61 c61 w61 I;rw[hwn] at I;refine Gb ?_;intro ws I;refine Vg (htm _ (hT.hp I) _ _ _ _ (S.ext I.below) (hnm.ext I.below) (I.ka (i:=1) rfl) (I.ka (i:=0) rfl)) ?_;rintro e_ w65 ⟨Ar,cr,Br,br,rfl,h2⟩;refine⟨_,rfl, ?_⟩;replace I:=I.join h2;clear h2;refine Gb ?_;intro ws I;refine fU ?_;exact .inr ⟨J,rfl,_,_,_,_,rfl,I.sub (P' _ (P' _ (N_ _)))⟩
  have K:Qu f.ds es=1:=by unfold Qu;rw[Q' Z']
  refine Ga func226 ?_;refine Ib ?_;intro b2 w2 I b4 w4 I;refine cd I (R _ (hT.hp I) I.below) ?_;intro w11 I;refine Gb ?_;intro ws I;refine Vk ?_;exact .inl ⟨.inr ⟨J,by rw[K];decide,by rw[K];rfl⟩,I.below⟩
 refine Ga func226 ?_;refine Ib ?_;intro b2 w2 I b4 w4 I;refine cd I (R _ (hT.hp I) I.below) ?_;intro w11 I;refine Gb ?_;intro ws I;refine Vk ?_;exact .inl ⟨.inl ⟨J,rfl⟩,I.below⟩
def FX.mh(f:FX):HE:=.row f.B f.m f.b 30 3 (la NR.cells f.cs)
def FX.gg(f:FX):HE:=.row f.A f.n f.a 3 1 (Fa f.ds)
def HL:List FX->List HE
 |[]=>[]
 |f::fs=>f.mh::f.gg::HL fs
def Hp.Hg{H:List HE}(h:Hp w0 H w){f:FX}(h1:f.mh∈H)(h2:f.gg∈H):f.at_ w:=⟨xg (h.own _ h2),xg (h.own _ h1)⟩
def ig(a b:t3):t3:=List.zipWith max a b
def maxD(fs:List FX):t3:=fs.foldl (λa f=>ig a (f.ds.map Int.toNat)) ((fs.map λf=>f.ds.map Int.toNat).headD [])
def Nb(fs:List FX):Int:=if Fg fs≠0 then Fg fs else if 4096<da (maxD fs) then 3 else 0
def Xq{fs:List FX}(h:Fg fs=0):fs≠[]/\(∀f∈fs,f.e=0)/\∀f∈fs,f.n=(fs.map FX.n).headD 0:=by
 unfold Fg at h;exact aeB
def Ep{a b:t3}(h:a.length=b.length):(ig a b).length=a.length:=by simp[ig,h]
def kF{a b:t3}{i x y:Nat}(h1:a[i]?=some x)(h2:b[i]?=some y):(ig a b)[i]?=some (max x y):=by
 unfold ig;rw[A8,h1,h2]
def Xw:∀(ls:List (t3))(a:t3),(∀l∈ls,l.length=a.length)->(ls.foldl ig a).length=a.length/\(∀(i x y:Nat),a[i]?=some x->(ls.foldl ig a)[i]?=some y->x<=y)/\∀l∈ls,∀(i x y:Nat),l[i]?=some x->(ls.foldl ig a)[i]?=some y->x<=y
 |[],a,_=>⟨rfl,λi x y h1 h2=>by have G:a[i]?=some y:=h2;rw[h1] at G;cases G;exact F' _,λ_ h=>nomatch h⟩
 |l::ls,a,h=>by
  have Q:=h l E';have h2:=Ep Q.symm;obtain⟨G,b,P⟩:=Xw ls (ig a l) λm hm=>by rw[h2];exact h m (u' _ hm)
  refine⟨by rw[Y7,G,h2],λi x y C hy=> ?_,λm hm i x y C hy=> ?_⟩
  .have hi:=(z'.1 C).1;obtain⟨z,o⟩:=aa (l:=l) (k:=i) Z';have:=b i (max x z) y (kF C o) hy;omega
  obtain rfl|hm:=y'.1 hm
  .have hi:=(z'.1 C).1;obtain⟨z,o⟩:=aa (l:=a) (k:=i) Z';have:=b i (max z x) y (kF o C) hy;omega
  exact P m hm i x y C hy
def qF(B:Nat):∀(ls:List (t3))(a:t3),(∀x∈a,x<=B)->(∀l∈ls,∀x∈l,x<=B)->∀x∈ls.foldl ig a,x<=B
 |[],_,h,_=>h
 |l::ls,a,h,h2=>qF B ls (ig a l) (λx C=>by
   obtain⟨i,hi⟩:=r_.1 C;unfold ig at hi;rw[A8] at hi
   cases G:a[i]? with
   |none=>rw[G] at hi;cases hi
   |some p=>
    cases z:l[i]? with
    |none=>rw[G,z] at hi;cases hi
    |some q=>
     rw[G,z] at hi;have P:max p q=x:=by simpa using hi
     have:=h p (O' G);have:=h2 l E' q (O' z);omega) λm hm=>h2 m (u' _ hm)
def FX.ns(f:FX):t3:=f.ds.map Int.toNat
def FX.fv{f:FX}(h:f.e=0):f.ds=sa f.ns/\f.cs=(f.cs.map NR.fa).map nR/\f.ns.length<=12/\(∀d∈f.ns,d<=127)/\f.cs.length=da f.ns/\da f.ns<=4096:=by
 obtain⟨ns,xs,A,J⟩:=GQ h;obtain⟨h1,h2,G,z,P,L⟩:=A;have e:f.ns=ns:=by unfold FX.ns;rw[h1];exact xf ns
 subst J;rw[e];exact⟨h1,h2,G,z,by simpa using P,L⟩
structure aM(D:t3)(ys:t5)(g:FX):Prop where
 ds:g.ds=sa D
 cs:g.cs=ys.map nR
 n:g.n=D.length
 m:g.m=da D
def kj(D:t3)(f:FX):t5:=Xi f.ns D (f.cs.map NR.fa)
def Qt(a b:t3)(j:Nat):t3:=(ig a b).take j++a.drop j
def MU{a b:t3}{x y:Nat}(h:a.length=b.length)(C:a[j]?=some x)(hy:b[j]?=some y):(sa (Qt a b j)).set j ((max x y:Nat):Int)=sa (Qt a b (j+1)):=by
 have hj:=(z'.1 C).1;unfold Qt;rw[Wf C,ja (kF C hy)];have Q:(sa ((ig a b).take j)).length=j:=by rw[Za,q',Ep h];omega
 have N:sa ((ig a b).take j++x::a.drop (j+1))=sa ((ig a b).take j)++(x:Int)::sa (a.drop (j+1)):=by simp[sa]
 rw[N,Bz _ _ _ _ _ Q];simp[sa]
def IL{a b:t3}{x:Nat}(h:a.length=b.length)(C:a[j]?=some x):(Qt a b j)[j]?=some x:=by
 have hj:=(z'.1 C).1;have Q:((ig a b).take j).length=j:=by rw[q',Ep h];omega
 unfold Qt;exact aa7
def GI{a b:t3}(h:a.length=b.length)(hj:j<=a.length):(Qt a b j).length=a.length:=by
 unfold Qt;rw[D',q',Ep h,Q9];omega
def AB(L)(n c:Nat)(fs)(k:Nat)(w)(hT:Nd w)(hL:Sl w L n 2 (la FX.cells fs))(hn:n<=1000)(hf:∀f∈fs,f.at_ w)(Y:∀f∈fs,f.qf k)(hm:∀f∈fs,f.m<=200)(hk:k<=90000):Calls prog 153 #[wn L n c] w λr V=>(Nb fs≠0/\r=.returned (.tuple #[wn none 0 0,wd (Nb fs)])/\Below w.heap.size w V)\/(Nb fs=0/\∃(A:t6)(a:Nat)(gs:List FX),r=.returned (.tuple #[wn A n a,wd 0])/\gs.length=n/\(∀(i:Nat)(f g:FX),fs[i]?=some f->gs[i]?=some g->aM (maxD fs) (kj (maxD fs) f) g)/\Hp w (.row A n a 78 2 (la FX.cells gs)::HL gs.reverse) V):=by
 have I:=Hp.start w;have hln:=hL.Aa FX.len V';have hlk:=λZ P F=>MG L n c fs k Z P (hL.ext F) Z' (λf hm=>(hf f hm).ext F) Y;unfold Nb;by_cases h0:Fg fs=0
 .obtain⟨hne,Ij,hnv⟩:=Xq h0;obtain⟨f0,N⟩:=aa (l:=fs) (k:=0) (E7.2 hne);have G:=O' N;have hnn:∀f∈fs,f.n=f0.n:=λf hm=>(by rw[hnv f hm];exact CT);have X:∀f∈fs,f.ns.length=f0.n:=λf hm=>(by have h1:=(hf f hm).dg.1;rw[Hb] at h1;have h2:=hnn f hm;unfold FX.ns;rw[B'];omega);have z:∀f∈fs,∀d∈f.ns,d<=127:=λf hm=>(FX.fv (Ij f hm)).2.2.2.1;have e:∀f∈fs,f.ds=sa f.ns:=λf hm=>(FX.fv (Ij f hm)).1;have h12:f0.n<=12:=by have:=(FX.fv (Ij f0 G)).2.2.1;rw[X f0 G] at this;exact this
  have J:maxD fs=(fs.map FX.ns).foldl ig f0.ns:=(by unfold maxD;rw[List.foldl_map];congr 1;exact CT);obtain⟨ad,rfl,hr⟩:=hL.at_ (by have:=(z'.1 N).1;omega);have hn0:0<n:=by have:=(z'.1 N).1;omega
  rw[R' Z'];have S:=X f0 G;have hF:=λi=>Xw ((fs.take i).map FX.ns) f0.ns λl Y=>(by obtain⟨f,Q,rfl⟩:=x'.1 Y;rw[X f (Z8 Q),S]);refine Ga (l:=[wn (some ad) n c]) func153 ?_;refine ea ?_;refine cd I (hlk _ (hT.hp I) I.below) ?_;intro w16 I;refine ea ?_;refine sv (Ma pa.out rfl (Ab I.below ((hr.recAt FX.len N) 0 _ rfl))) ?_;refine vU I (Zn f0.A f0.n f0.a f0.ds _ ((hf f0 G).dg.ext I.below) (by have:=(Y f0 G).w1;omega)) rfl ?_;intro W K w24 I;refine ea ?_;rw[e f0 G] at I;refine rf 27 (λv V=>∃i:Nat,i<=n/\v=wd i/\Hp w [.row W f0.n K 3 1 (Fa (sa (((fs.take i).map FX.ns).foldl ig f0.ns)))] V) (λv _=>n-(intOf v).toNat) ?_ ?_
  .exact⟨0,N' _,rfl,I⟩
  clear I;rintro ρ' v V ⟨i,hi,rfl,I⟩;by_cases hlt:i<n
  .obtain⟨f,C⟩:=aa (l:=fs) (k:=i) Z';have M:=O' C;have R:((fs.take (i+1)).map FX.ns).foldl ig f0.ns=ig (((fs.take i).map FX.ns).foldl ig f0.ns) f.ns:=by rw[ja C,q_,u7];rfl
   have hal:=(hF i).1;generalize ((fs.take i).map FX.ns).foldl ig f0.ns=a at*;have E:a.length=f.ns.length:=by rw[hal,S,X f M]
   have hfd:=e f M;have hfn:=hnn f M;have hfl:=X f M;refine JS ?_;refine Ib ?_;intro b7 w7 I ws I;refine rf 34 (λv V=>∃j:Nat,j<=f0.n/\v=wd j/\Hp w [.blk b7 78 [wn f.A f.n f.a,wn f.B f.m f.b] (0,0),.row W f0.n K 3 1 (Fa (sa (Qt a f.ns j)))] V) (λv _=>f0.n-(intOf v).toNat) ?_ ?_
   .refine⟨0,N' _,rfl, ?_⟩;show Hp w [_,.row W f0.n K 3 1 (Fa (sa (List.take 0 _++List.drop 0 a)))] _;rw[x9,J',T7];exact I
   clear I;rintro ρ2 v w2 ⟨j,hj,rfl,I⟩;by_cases hjn:j<f0.n
   .obtain⟨x,hxa⟩:=aa (l:=a) (k:=j) Z';obtain⟨y,hyb⟩:=aa (l:=f.ns) (k:=j) Z';have hgx:=Db (jc (IL E hxa));have hgy:(Fa f.ds)[j]?=some (wd (y:Int)):=by rw[hfd];exact Db (jc hyb)
    have hml:(Fa (sa (Qt a f.ns j))).length=f0.n:=by rw[Hb,Za,GI E Z'];omega
    obtain⟨a2,hA2,s2⟩:=(hf f M).dg.at_ Z';have Ij:Value.slice f.A f.n f.a=wn (some a2) f.n f.a:=by rw[hA2]
    obtain⟨gd,rfl⟩:=I.ib (i:=1) rfl Z';refine iU ?_;refine sv (Ma pa.out rfl (Ab I.below (s2.Dl hgy))) ?_;refine ea ?_;refine aD ?_;refine ea ?_;have hmx:(if(y:Int)>(x:Int) then(y:Int) else(x:Int))=((max x y:Nat):Int):=by split<;>omega
    refine cO ?_;refine Uv ?_;intro ws I;exact W1
   obtain rfl:j=f0.n:=Z';have hmf:Qt a f.ns f0.n=ig a f.ns:=(by exact aa1);rw[hmf,<-R] at I;refine ea ?_;replace I:=I.sub (L' _ (P' _ j'));exact aC
  obtain rfl:i=n:=Z';have hDl:=(hF i).1;have hDg:=λ(f:FX) (hm:f∈fs)=>(hF i).2.2 f.ns (x'.2 ⟨f,by rw[G' Z'];exact hm,rfl⟩);have hDb:=qF 127 ((fs.take i).map FX.ns) f0.ns (z f0 G) λl Y=>(by obtain⟨f,Q,rfl⟩:=x'.1 Y;exact z f (Z8 Q));rw[G' Z',<-J] at hDl hDb I;simp only[G' (show fs.length<=i by omega),<-J] at hDg;generalize maxD fs=D at*;have hrz:∀f∈fs,Qu f.ds (sa D)=if 4096<da D then 3 else 0:=λf hm=>(by unfold Qu;have e1:(f.ds.zip (sa D)).any km=false:=P9.2 λp hp=>(by obtain⟨j,hj⟩:=r_.1 hp;rw[p7] at hj;obtain⟨j1,j2⟩:=hj;rw[e f hm] at j1;unfold sa at j1 j2;rw[C'] at j1 j2;obtain⟨x,C,hx2⟩:=y9.1 j1;obtain⟨y,hy,hy2⟩:=y9.1 j2;have:=hDg f hm j x y C hy;have:=hDb y (O' hy);unfold km;rw[Y_];omega);rw[R' (by rw[Za,e f hm,Za,X f hm];omega),R' (by rw[e1];decide),xf])
  refine ea ?_;replace I:=I.yb 78 2;refine Jh 10 52 (λv10 v V=>∃(j s:Nat)(A:t6)(gs:List FX),j<=i/\v=wd j/\v10=wn A j s/\gs.length=j/\(0<j->¬4096<da D)/\(∀(t:Nat)(f g:FX),fs[t]?=some f->gs[t]?=some g->aM D (kj D f) g)/\Hp w (.row A j s 78 2 (la FX.cells gs)::.row W f0.n K 3 1 (Fa (sa D))::HL gs.reverse) V) (λ_ v _=>i-(intOf v).toNat) ?_ ?_
  .exact⟨0,0,none,[],N' _,rfl,rfl,rfl,λh=>absurd h (Nat.lt_irrefl 0),λt f g _ h=>by simp at h,I⟩
  clear I;rintro ρ' v10 v V ⟨j,s,A,gs,hj,rfl,rfl,u,hno,hup,I⟩;by_cases hlt:j<i
  .obtain⟨f,C⟩:=aa (l:=fs) (k:=j) Z';have M:=O' C;refine JS ?_;refine Ib ?_;intro b12 w12 I ws I;have o:=λZ P F hE=>xD f W f0.n K (sa D) k Z P ((hf f M).ext F) (Y f M) hE Z' hk;rw[hrz f M,xf] at o;by_cases H:4096<da D
   .rw[Q' H] at o;have hra:=λZ P F hE=>(o Z P F hE λ_ h=>nomatch h).mono λr V h=>show r=jI 3/\Below Z.heap.size Z V from(by exact aad);refine cd I (hra _ (hT.hp I) I.below (I.ka (i:=2) rfl)) ?_;intro w59 I;refine Ib ?_;intro b13 w13 I ws I;rw[Q' H];exact .inl ⟨V',rfl,I.below⟩
   rw[R' H] at o;have hnn2:f.ds.map Int.toNat=f.ns:=rfl;rw[hnn2] at o;have hfc:da f.ns<=200:=(by have h1:=(FX.fv (Ij f M)).2.2.2.2.1;have h2:=(hf f M).nm.Aa NR.len V';have h3:=hm f M;omega);have hmul:da D*da f.ns<=1000000:=p' (O9 (x6 H) hfc) V';have hra:=λZ P F hE=>(o Z P F hE λ_ _=>hmul).mono λr V h=>show ∃g:FX,aM D (kj D f) g/\r=.returned (.tuple #[g.V,wd 0])/\Hp Z [g.mh,g.gg] V from by
    obtain⟨h|h,hb2⟩|⟨_,_,A1,a1,B1,b1,rfl,h2⟩:=h
    .exact absurd (Ij f M) h.1
    .exact absurd rfl h.2.1
    exact⟨⟨A1,f0.n,a1,B1,da D,b1,sa D,_⟩,⟨rfl,rfl,by rw[<-S];exact hDl.symm,rfl⟩,rfl,h2⟩
   refine Vg (hra _ (hT.hp I) I.below (I.ka (i:=2) rfl)) ?_;rintro e_ w59 ⟨g,hu,rfl,h2⟩;refine⟨_,rfl, ?_⟩;replace I:=I.join h2;refine Ib ?_;intro b13 w13 I ws I;refine SN ?_;intro b67 w67 I;refine aav ?_;intro A68 c68 w68 I;simp only[Z9] at I;replace I:=I.sub (d_ _ _);refine ea ?_;replace I:=I.sub (L' _ (P' _ (P' _ (L' _ (P' _ (P' _ (u_ _)))))));replace I:=I.perm (H':=.row A68 (j+1) c68 78 2 (la FX.cells (gs++[g]))::.row W f0.n K 3 1 (Fa (sa D))::HL (gs++[g]).reverse) (by
    rw[l8,Na];exact List.perm_append_comm_assoc [g.mh,g.gg] [_,_] _)
   refine⟨⟨j+1,c68,A68,gs++[g],Z',rfl,rfl,by rw[D',u];rfl,λ_=>H,λt f' g' T q=> ?_,I⟩,by show i-(j+1)<i-j;omega, ?_⟩
   .by_cases ht:t<j
    .rw[o9 Z'] at q;exact hup t f' g' T q
    have htl:=(z'.1 q).1;rw[D',u] at htl;obtain rfl:t=j:=by have:t<j+1:=htl;omega
    rw[R9 Z',u,t_] at q;rw[C] at T;obtain rfl:=P_ T;obtain rfl:g=g':=P_ q;exact hu
   exact Sb
  obtain rfl:j=i:=Z';have H:=hno Z';refine ea ?_;rw[R' H];exact .inr ⟨rfl,A,s,gs,rfl,u,hup,I.sub (P' _ (d_ _ _))⟩
 rw[Q' h0];refine Ga func153 ?_;refine ea ?_;refine cd I (hlk _ (hT.hp I) I.below) ?_;intro w16 I;refine ea ?_;exact .inl ⟨h0,rfl,I.below⟩
theorem iH(f g:FX)(k:Nat)(w:World)(hT:Nd w)(hf:f.at_ w)(hg:g.at_ w)(R:f.qf k)(S:g.qf k)(Y:f.m<=200)(hmg:g.m<=200)(hk:k<=90000):Calls prog 88 #[.agg #[wn f.A f.n f.a,wn f.B f.m f.b],.agg #[wn g.A g.n g.a,wn g.B g.m g.b]] w λr V=>
   (Nb [f,g]≠0/\r=.returned (.tuple #[.agg #[wn none 0 0,wn none 0 0],.agg #[wn none 0 0,wn none 0 0],wd (Nb [f,g])])/\Below w.heap.size w V)\/
   (Nb [f,g]=0/\∃x y:FX,aM (maxD [f,g]) (kj (maxD [f,g]) f) x/\aM (maxD [f,g]) (kj (maxD [f,g]) g) y/\r=.returned (.tuple #[.agg #[wn x.A x.n x.a,wn x.B x.m x.b],.agg #[wn y.A y.n y.a,wn y.B y.m y.b],wd 0])/\Hp w [y.mh,y.gg,x.mh,x.gg] V):=by
 have I:=Hp.start w;have X:∀x∈[f,g],x.at_ w/\x.qf k/\x.m<=200:=by simpa using⟨⟨hf,R,Y⟩,hg,S,hmg⟩
 have u:=λA c Z P N F=>AB A 2 c [f,g] k Z P N V' (λx C=>(X x C).1.ext F) (λx C=>(X x C).2.1) (λx C=>(X x C).2.2) hk;generalize Nb [f,g]=e at*;generalize maxD [f,g]=D at*;by_cases J:e=0
 .have p:=λA c Z P N F=>(u A c Z P N F).mono λr V h=>show ∃(B:t6)(a:Nat)(x y:FX),aM D (kj D f) x/\aM D (kj D g) y/\r=.returned (.tuple #[wn B 2 a,wd 0])/\Hp Z [.row B 2 a 78 2 (la FX.cells [x,y]),y.mh,y.gg,x.mh,x.gg] V from by
   obtain h|⟨_,B,a,gs,h1,h2,h3,h4⟩:=h
   .exact absurd J h.1
   obtain⟨x,y,rfl⟩:∃x y,gs=[x,y]:=by
    match gs,h2 with
    |[x,y],_=>exact⟨x,y,rfl⟩
   exact⟨B,a,x,y,h3 0 f x rfl rfl,h3 1 g y rfl rfl,h1,h4⟩
  refine Ga func88 ?_;refine Kx ?_;intro b2 w2 I b3 w3 I b4 w4 I b5 w5 I;refine ym ?_;intro v w11 I;refine Vg (p _ _ _ (hT.hp I) (I.ka (i:=0) rfl) I.below) ?_;rintro e_ w12 ⟨B,a,x,y,C,hy,rfl,h2⟩;refine⟨_,rfl, ?_⟩;replace I:=I.join h2;obtain⟨go,rfl⟩:=I.ib (i:=0) rfl Z';refine ea ?_;have hx0:[x,y][0]?=some x:=rfl;have K:[x,y][1]?=some y:=rfl;refine wh [3,4,5] [0,1,3,0,8,24,7,127,255] 6 [[(7,none)],[(20,some 0)],[(21,some 1)],[(7,none)],[(23,some 3)],[(24,some 4)]] [(5,25),(4,24),(3,23),(2,22),(1,21),(0,20)] [([],5,[(2,22),(1,21),(0,20)]),([3],4,[(3,23),(2,22),(1,21),(0,20)]),([3,4],3,[(4,24),(3,23),(2,22),(1,21),(0,20)]),([3,4,5],2,[(5,25),(4,24),(3,23),(2,22),(1,21),(0,20)])] I mixed U' U' V' ?_;refine OA ?_;refine Ba (i:=1) (λU Z hj hR=>Vb Qa.out pa.size (show U 20=Value.slice _ _ _ from hR.1) rfl Z' Z') ?_;refine fk [_,_] (λ_ hj=>hj.hp.Wc (f:=FX.cells) (x:=x) (l:=[x,y]) (i:=0) rfl FX.len V' hx0) ?_;refine OA ?_;refine Ba (i:=4) (λU Z hj hR=>Vb Qa.out pa.size (show U 23=Value.slice _ _ _ from hR.1) rfl Z' Z') ?_
  refine fk [_,_] (λ_ hj=>hj.hp.Wc (f:=FX.cells) (x:=y) (l:=[x,y]) (i:=0) rfl FX.len V' K) ?_;refine xa ?_;intro p_ z;simp only[y',i_,or_false] at z;obtain rfl|rfl|rfl|rfl:=z
  .intro f W Q d;have t:=Q.bl;obtain⟨G,j,v20,_⟩:=d;refine VB ?_;(unhygienic intros)
   replace I:=Q.hp;clear s H o Q;refine pd I 7 [_,_] ?_;intro ws I;replace I:Hp _ (_::_::_::_::_::_::_::.blk _ _ [_,_] _::_) _:=I;refine Bd ?_;refine Oe (i:=3) U' rfl ?_;refine mL ?_;exact S2
  .intro f W Q d;have t:=Q.bl;obtain⟨E,G,j,v20,_⟩:=d;refine VB ?_;(unhygienic intros)
   have q:f 3=_:=E;rw[q];replace I:=Q.hp;clear s H o q Q;refine pd I 7 [_,_] ?_;intro ws I;replace I:Hp _ (_::_::_::_::_::_::_::.blk _ _ [_,_] _::_) _:=I;exact S2
  .intro f W Q d;have t:=Q.bl;obtain⟨M,E,G,j,v20,_⟩:=d;refine VB ?_;(unhygienic intros)
   have q:f 3=_:=E;rw[q];have L:f 4=_:=M;rw[L];replace I:=Q.hp;clear s H o q L Q;refine pd I 7 [_,_] ?_;intro ws I;replace I:Hp _ (_::_::_::_::_::_::_::.blk _ _ [_,_] _::_) _:=I;exact D0
  intro f W Q d;have t:=Q.bl;obtain⟨v25,M,E,G,j,v20,_⟩:=d;refine VB ?_;(unhygienic intros)
  have q:f 3=_:=E;rw[q];have L:f 4=_:=M;rw[L];have T:f 5=_:=v25;rw[T];replace I:=Q.hp;clear s H o q L T Q;refine pd I 7 [_,_] ?_;intro ws I;replace I:Hp _ (_::_::_::_::_::_::_::.blk _ _ [_,_] _::_) _:=I;exact zW7
 have p:=λA c Z P N F=>(u A c Z P N F).mono λr V h=>show r=.returned (.tuple #[wn none 0 0,wd e])/\Below Z.heap.size Z V from by
  obtain h|h:=h
  .exact h.2
  exact absurd h.1 J
 refine Ga func88 ?_;refine Kx ?_;intro b2 w2 I b3 w3 I b4 w4 I b5 w5 I;refine ym ?_;intro v w11 I;refine cd I (p _ _ _ (hT.hp I) (I.ka (i:=0) rfl) I.below) ?_;intro w12 I;refine Ib ?_;intro ws I ws I;refine YH (jb rfl (kb (vs:=[_,_]) pa.out (I.wa (i:=2) (n:=2) rfl rfl) rfl) (jb rfl (kb (vs:=[_,_]) pa.out (I.wa (i:=1) (n:=2) rfl rfl) rfl) (Dc (Sc rfl) Ub))) ?_;exact .inl ⟨J,rfl,I.below⟩
def abl(a b:t5):t5:=List.zipWith (· + ·) a b
def ahI:List (t5)->t5
 |[]=>[]
 |x::l=>l.foldl abl x
def ahl(a b:t5)(j:Nat):t5:=(abl a b).take j++a.drop j
def Ak{f:FX}{D:t3}(hlen:D.length=f.ns.length)(hle:∀(i x y:Nat),f.ns[i]?=some x->D[i]?=some y->x<=y):(kj D f).length=da D:=by
 unfold kj Xi Eu;rw[Kh,rn hlen.symm hle]
variable {fs:List FX}
def yh(h:Fg fs=0)(m:∀f∈fs,f.ds.length=f.n):∀f∈fs,(maxD fs).length=f.ns.length/\(∀(i x y:Nat),f.ns[i]?=some x->(maxD fs)[i]?=some y->x<=y)/\∀d∈maxD fs,d<=127:=λf hm=>by
 obtain⟨E,Ij,c⟩:=Xq h;obtain⟨f0,q,rfl⟩:=g6 E;have a:∀g∈f0::q,g.ns.length=f0.n:=λg s=>(by unfold FX.ns;rw[B',m g s,c g s];rfl);have e:maxD (f0::q)=((f0::q).map FX.ns).foldl ig f0.ns:=(by unfold maxD;rw[List.foldl_map];rfl);have J:=a f0 E';obtain⟨h1,_,G⟩:=Xw ((f0::q).map FX.ns) f0.ns λl Q=>(by obtain⟨g,s,rfl⟩:=x'.1 Q;rw[a g s,J]);rw[e];refine⟨by rw[h1,J,a f hm],G f.ns (x'.2 ⟨f,hm,rfl⟩),qF 127 _ _ (FX.fv (Ij f0 E')).2.2.2.1 λl Q=> ?_⟩;obtain⟨g,s,rfl⟩:=x'.1 Q;exact(FX.fv (Ij g s)).2.2.2.1
def agK(f g:FX):Int:=if Fg [f,g]≠0 then Fg [f,g] else if er (me f.ns g.ns)=true then 3 else 0
def ahj(a b:t3)(j:Nat):t3:=(me a b).take j++a.drop j
def uP(A)(n c:Nat)(xs)(w)(p:Sl w A n 1 (Fa xs))(B:n<=100000):Zc 309 #[wn A n c] w (.tuple #[wt (str (RT xs)),wd (cW xs)]):=by
 have hlen:xs.length=n:=by have:=p.1;rw[Hb] at this;omega
 have I:=Hp.start w;refine Ga func309 ?_;refine ea ?_;refine Jh 4 5 (λb i V=>∃(k:Nat),k<=n/\i=wd k/\b=wt (str ((xs.take k).map Wq))/\(xs.take k).all Tb=true/\Hp w [] V) (λ_ v _=>n-(intOf v).toNat) ?_ ?_
 .exact⟨0,N' _,rfl,rfl,rfl,I⟩
 clear I;rintro ρ' b i V ⟨k,u,rfl,rfl,X,I⟩;by_cases D:k<n
 .obtain⟨x,C⟩:=aa (l:=xs) (k:=k) Z';obtain⟨d,rfl,H⟩:=(p.ext I.below).at_ Z';by_cases J:x<0
  .refine LL ?_;intro N L;exact⟨rfl,I.below⟩
  by_cases h1:127<x
  .refine ea ?_;refine pD ?_;refine LL ?_;intro N L;exact⟨rfl,I.below⟩
  have y:Tb x=true:=by simp[Tb];omega
  refine ea ?_;refine pD ?_;refine ea ?_;refine pD ?_;refine ea ?_;refine pD ?_;refine ea ?_;refine xr ?_;intro E P I;rw[OE Z' Z'] at I;have a:Sl P (some ⟨E,0,none⟩) 1 1 (jj [Wq x]):=(by have:=I.ka (i:=0) rfl;rw[rq y] at this;exact this);refine sv (Pe Qa.out Qa.out Qa.out rfl (a)) ?_;replace I:=I.sub (d_ _ _);refine sv (J0 rfl rfl (by rw[eh];show _+1<=_;simp;omega)) ?_;refine ea ?_;have S:str ((xs.take k).map Wq)++ByteArray.mk #[Wq x]=str ((xs.take (k+1)).map Wq):=(by rw[show ByteArray.mk #[Wq x]=str [Wq x] from rfl,Lx,ja C,q_];rfl);refine⟨⟨k+1,Z',rfl,C_ Value.string S,HG C X y,I⟩,by show n-(k+1)<n-k;omega, ?_⟩;exact Sb
 obtain rfl:k=n:=Z';rw[G' Z'] at X;obtain⟨N,L⟩:=iu X;refine ea ?_;rw[N,L,G' Z'];exact⟨rfl,I.below⟩
def OB(s:t7)(w)(K:s.size<=9223372036854775807):Zc 159 #[wt s,wd s.size] w (ww (Le s.data.toList)):=by
 have h:=Mn s s.size w K;simpa using h
def qJ(a b:t7)(w)(M:a.size<=100000)(K:b.size<=100000):Zc 284 #[wt a,wt b] w (.tuple #[wt (str (mulL a.data.toList b.data.toList).1),wd (mulL a.data.toList b.data.toList).2]):=by
 have I:=Hp.start w;have N:=td a;have o:=td b
 cases j:Le a.data.toList with
 |false=>
  refine Ga func284 ?_;refine ea ?_;refine Gd I (OB a _ Z') rfl ?_;intro t I;rw[j];refine ea ?_;have:Ch (· + ·) a.data.toList b.data.toList=none:=by simp[Ch,j]
  simp only[mulL,this];exact⟨rfl,I.below⟩
 |true=>
  cases n:(Le b.data.toList && decide ((b.size:Int)=a.size)) with
  |false=>
   refine XZ ?_;intro t I D I;have h2:(Le b.data.toList && decide ((b.data.toList.length:Int)=a.data.toList.length))=false:=by rw[<-N,<-o];exact n
   have:Ch (· + ·) a.data.toList b.data.toList=none:=by simp only[Ch,j,h2];rfl
   simp only[mulL,this];exact⟨rfl,I.below⟩
  |true=>
   have p:=n;simp only[Z_,Y_] at p;have Y:Ch (· + ·) a.data.toList b.data.toList=some (List.zipWith (· + ·) (ints a.data.toList) (ints b.data.toList)):=(by exact aeC);have r:(List.zipWith (· + ·) (ints a.data.toList) (ints b.data.toList)).length=a.size:=by simp[ints];omega
   refine XZ ?_;intro t I D I;refine Jh 6 7 (λv i V=>∃(k c':Nat)(T:t6),k<=a.size/\i=wd k/\v=wn T k c'/\Hp w [.row T k c' 3 1 (Fa ((List.zipWith (· + ·) (ints a.data.toList) (ints b.data.toList)).take k))] V) (λ_ i _=>a.size-(intOf i).toNat) ?_ ?_
   .exact⟨0,0,none,N' _,rfl,rfl,I.yb _ _⟩
   clear I;rintro ρ' v i V ⟨k,c',T,R,rfl,rfl,I⟩;by_cases h:k<a.size
   .obtain⟨x,C⟩:=aa (l:=a.data.toList) (k:=k) Z';obtain⟨y,hy⟩:=aa (l:=b.data.toList) (k:=k) Z';have bx:=kq j C;have q:=kq p.1 hy;refine ea ?_;refine Od 11 I ?_;refine Ba (i:=3) (λU Z hj hR=>ng Qa.out (show U 27=Value.string _ from hR.1) (show U 28=Value.int _ _ from hR.2.1) Z' (by assumption)) ?_;refine Ba (i:=4) (λU Z hj hR=>jh Qa.out Qa.out (show U 29=Value.int _ _ from hR.1) Z' Z') ?_;refine ub ?_;refine Ba (i:=7) (λU Z hj hR=>ng Qa.out (show U 31=Value.string _ from hR.1) (show U 32=Value.int _ _ from hR.2.1) Z' (by assumption)) ?_;refine Ba (i:=8) (λU Z hj hR=>jh Qa.out Qa.out (show U 33=Value.int _ _ from hR.1) Z' Z') ?_;refine ub ?_;refine Nw [_] ?_;refine xa ?_;intro f W Q g;obtain⟨d,G,L,E,B,A,v30,u,H,s,z,_⟩:=g;obtain⟨F,e,m,f36⟩:Rows _ _ _ (f 10) W:=d;replace I:=Q.hp;refine Be ?_;refine pb I (i:=0) rfl rfl rfl (f36) Qa.out pa.out rfl V' rfl Z' Z' V' ?_;intro P c S I;simp only[l'] at I;refine ea ?_;refine⟨⟨k+1,c,P,Z',rfl,rfl, ?_⟩,by show a.size-(k+1)<a.size-k;omega, ?_⟩
    .rw[ja (qL (pE C) (pE hy)),Qp];exact I
    exact Sb
   refine ea ?_;obtain rfl:k=a.size:=Z';rw[G' Z'] at I;refine Gd I (uP _ _ _ _ _ (I.ka (i:=0) rfl) Z') rfl ?_;intro J I;refine ea ?_;simp only[mulL,Y];exact⟨trivial,I.below⟩
def uQ(l:List t7)(x):xk l++[wt x]=xk (l++[x]):=by simp[xk]
def YK(D)(n c:Nat)(ds)(w)(N:Sl w D n 1 (Fa ds))(hn:n<=100000):Calls prog 184 #[wn D n c] w λe V=>∃A c,e=.returned (wn A (Qy ds).length c)/\V.ownsRow w.heap.size 9 1 (wn A (Qy ds).length c) (Qy ds).length (xk (Qy ds))/\Below w.heap.size w V:=by
 have hdl:ds.length=n:=by have:=N.1;rw[Hb] at this;omega
 have I:=Hp.start w;refine Ga func184 ?_;refine ea ?_;refine Jh 3 4 (λp i V=>∃(k:Nat),k<=n/\i=wd k/\p=wd (ff (ds.take k)).length/\(ff (ds.take k)).length<=65536/\MA 1 ds=MA (ff (ds.take k)).length (ds.drop k)/\w=V) (λ_ i _=>n-(intOf i).toNat) ?_ ?_
 .exact⟨0,N' _,rfl,rfl,by simp[ff],rfl,rfl⟩
 rintro ρ' p i V ⟨k,hk,rfl,rfl,hsz,y,rfl⟩;by_cases hlt:k<n
 .obtain⟨d,a⟩:=aa (l:=ds) (k:=k) Z';obtain⟨ad,rfl,H⟩:=N.at_ Z';have hpos:=XG (ds.take k);by_cases t:0<=d/\d<=127
  .have hm1:(0:Int)<=(ff (ds.take k)).length*(d+1):=Int.mul_nonneg Z' Z';have hm2:((ff (ds.take k)).length:Int)*(d+1)<=65536*128:=P6 Z' Z' Z' Z';by_cases R:((ff (ds.take k)).length:Int)*(d+1)<=65536
   .have z:=TI a y ⟨t,R⟩;rw[<-uj a t.1] at z;have hl2:=uj a t.1;refine kr ?_;refine kr ?_;refine kr ?_;refine ea ?_;refine⟨⟨k+1,Z',rfl,by rw[hl2];rfl,Z',z,rfl⟩,by show n-(k+1)<n-k;omega, ?_⟩;exact Sb
   have r:=Hx a y λh=>R h.2;refine kr ?_;refine kr ?_;refine kr ?_;refine ea ?_;simp only[Qy,r];exact vR
  have r:=Hx a y λh=>t h.1;refine kr ?_;by_cases h0:d<0
  .refine ea ?_;simp only[Qy,r];exact vR
  refine kr ?_;refine ea ?_;simp only[Qy,r];exact vR
 obtain rfl:n=k:=Z';rw[T8 Z'] at y;have y:MA 1 ds=true:=y;have Q:=nJ ds 1 y;have M:Qy ds=(ff ds).map fX:=by simp only[Qy,y,if_true]
 refine ea ?_;refine xR ?_;intro b37 w37 I;refine ea ?_;refine Jh 5 6 (λv i V=>∃(k:Nat)(A:t6)(c':Nat),k<=n/\i=wd k/\v=wn A ((ff (ds.take k)).map fX).length c'/\Hp w [.row A ((ff (ds.take k)).map fX).length c' 9 1 (xk ((ff (ds.take k)).map fX))] V) (λ_ i _=>n-(intOf i).toNat) ?_ ?_
 .exact⟨0,_,_,N' _,rfl,rfl,I⟩
 clear I hsz hk;rintro ρ2 v i V ⟨k,A,c',hk,rfl,rfl,I⟩;by_cases hlt:k<n
 .obtain⟨d,a⟩:=aa (l:=ds) (k:=k) Z';have bd:=Q d (O' a);have g:=QY a;have P:=(Cy y (k+1) Z').2;have T:(((ff (ds.take k)).map fX).flatMap (gX d)).length<=65536:=by rw[<-g,B'];exact P
  have hsm:∀(j:Nat)(s:t7),((ff (ds.take k)).map fX)[j]?=some s->s.size<=k:=λj s h=>tX h;have hS:=(Cy y k Z').2;rw[<-B' (f:=fX)] at hS;generalize (ff (ds.take k)).map fX=S at*;refine ea ?_;replace I:=I.yb 9 1;refine Jh 7 8 (λv j V=>∃(o:Nat)(B:t6)(Y:Nat),o<=S.length/\j=wd o/\v=wn B ((S.take o).flatMap (gX d)).length Y/\Hp w [.row B ((S.take o).flatMap (gX d)).length Y 9 1 (xk ((S.take o).flatMap (gX d))),.row A S.length c' 9 1 (xk S)] V) (λ_ j _=>S.length-(intOf j).toNat) ?_ ?_
  .exact⟨0,none,0,N' _,rfl,rfl,I⟩
  clear I;rintro ρ3 v j V ⟨j,B,Y,hj,rfl,rfl,I⟩;by_cases hlj:j<S.length
  .obtain⟨s,K⟩:=aa hlj;have hss:=hsm j s K;have hs2:=Gu K;have hlS:=Bp S;refine ea ?_;refine Jh 7 9 (λv q V=>∃(m:Nat)(B:t6)(Y:Nat),m<=d.toNat+1/\q=wd m/\v=wn B ((S.take j).flatMap (gX d)++(gX d s).take m).length Y/\Hp w [.row B ((S.take j).flatMap (gX d)++(gX d s).take m).length Y 9 1 (xk ((S.take j).flatMap (gX d)++(gX d s).take m)),.row A S.length c' 9 1 (xk S)] V) (λ_ q _=>d.toNat+1-(intOf q).toNat) ?_ ?_
   .exact⟨0,B,Y,N' _,rfl,by rw[x9,I_];rfl,by rw[x9,I_];exact I⟩
   clear I;rintro ρ4 v q V ⟨q,B,Y,hq,rfl,rfl,I⟩;obtain⟨ad,rfl,H⟩:=(N.ext I.below).at_ Z';by_cases hlq:q<d.toNat+1
   .have b:(q:Int)<=d:=Z';have hqo:Tb (q:Int)=true:=by simp[Tb];omega
    have hgb:=adE (d:=d) K q;have hcat:s.size+(ByteArray.mk [Wq (q:Int)].toArray).size<=9223372036854775807:=by show s.size+1<=_;omega
    obtain⟨go,rfl⟩:=I.ib (i:=1) rfl Z';refine kr ?_;refine ea ?_;refine Od 11 I ?_;refine Ba (i:=3) (λU Z hj hR=>Kc Qa.out pa.size (show U 59=Value.slice _ _ _ from hR.1) (show U 60=Value.int _ _ from hR.2.1) rfl Z') ?_;refine Ba (i:=4) (λU Z hj hR=>Ma pa.out (show U 61=Value.pointer _ from hR.1) (hj.hp.Pd (i:=1) rfl (by rw[W_];exact hs2))) ?_;refine Gv ?_;refine Ba (i:=6) (λU Z hj hR=>Cl Qa.out Qa.out (show U 63=Value.int _ _ from hR.1)) ?_;refine Nw [_] ?_;refine ua (i:=8) (Is (wt ⟨([Wq (q:Int)]).toArray⟩)) Is.ext ?_ ?_
    .intro U Z hj hR;obtain⟨u,x,L,C⟩:=hR.1;exact ic rfl (Pe (l:=[Wq (q:Int)]) Qa.out Qa.out Qa.out L (by rw[OE Z' Z',rq hqo] at C;exact C)) ⟨Below.refl _ _,rfl⟩
    refine Ba (i:=9) (λU Z hj hR=>J0 (show U 62=Value.string _ from hR.1) (show U 66=Value.string _ from hR.2.1) (by first|omega|assumption|(simp only[eh,td];omega))) ?_;refine Nw [_] ?_;refine xa ?_;intro f W hJ hV;obtain⟨v68,v67,v66,v65,v64,v63,v62,v61,v60,v59,v58,_⟩:=hV;obtain⟨u,x,G,f65⟩:Rows _ _ _ (f 7) W:=v65;obtain⟨A68,c68,J,f68⟩:Rows _ _ _ (f 10) W:=v68;replace I:=hJ.hp;refine Be ?_;refine pb I (i:=0) rfl rfl rfl (f68) Qa.out pa.out rfl V' rfl Z' Z' V' ?_;intro E F w69 I;simp only[l'] at I;refine ea ?_;have e1:xk ((S.take j).flatMap (gX d)++(gX d s).take q)++[wt (s++ByteArray.mk [Wq (q:Int)].toArray)]=xk ((S.take j).flatMap (gX d)++(gX d s).take (q+1)):=(by rw[uQ,ja (vZ b),J_];rfl);have e2:((S.take j).flatMap (gX d)++(gX d s).take q).length+1=((S.take j).flatMap (gX d)++(gX d s).take (q+1)).length:=(by rw[ja (vZ (s:=s) b)];simp;omega);rw[e1,e2] at I;refine⟨⟨q+1,E,F,Z',rfl,by rw[<-e2];rfl,I⟩,by show d.toNat+1-(q+1)<d.toNat+1-q;omega, ?_⟩;exact Sb
   refine kr ?_;refine ea ?_;obtain rfl:q=d.toNat+1:=Z';have e3:(S.take j).flatMap (gX d)++(gX d s).take (d.toNat+1)=(S.take (j+1)).flatMap (gX d):=(by rw[G' (l:=gX d s) (by rw[OO];omega),ja K,r8];simp);rw[e3] at I |-;refine⟨⟨j+1,B,Y,Z',rfl,rfl,I⟩,by show S.length-(j+1)<S.length-j;omega, ?_⟩;exact Sb
  refine ea ?_;rw[G' (l:=S) Z',<-g] at I |-;refine⟨⟨k+1,B,Y,Z',rfl,rfl,I.sub (.cons_cons _ (N_ _))⟩,by show n-(k+1)<n-k;omega, ?_⟩;exact Sb
 refine ea ?_;have X:ff (ds.take k)=ff ds:=by rw[G' (l:=ds) Z']
 have h1:=I.at_ (i:=0) rfl;rw[M,<-X];exact⟨A,c',rfl,h1,I.below⟩
def Lj(A:t6)(n c:Nat)(ds:t4)(w:World)(J:Sl w A n 1 (Fa ds))(B:n<=1000000):Zc 102 #[wn A n c] w (wd (El ds)):=by
 have I:=Hp.start w;have m:ds.length=n:=by have:=J.1;simpa[Fa] using this
 unfold El;refine Ga func102 ?_;refine ea ?_;refine rf 4 (λv V=>∃i:Nat,i<=n/\v=wd i/\(ds.take i).any (λd=> !Tb d)=false/\Hp w [] V) (λv _=>n-(intOf v).toNat) ?_ ?_
 .exact⟨0,N' _,rfl,rfl,I⟩
 clear I;rintro ρ' v V ⟨i,hi,rfl,X,I⟩;by_cases D:i<n
 .obtain⟨d,T⟩:=aa (l:=ds) (k:=i) Z';have S:=Db T;obtain⟨b,rfl,H⟩:=J.at_ Z';have M:(!Tb d)=true->ds.any (λd=> !Tb d)=true:=λh=>E9.2 ⟨d,O' T,h⟩;by_cases h1:d<0
  .refine ea ?_;refine mw ?_;rw[M (by simp[Tb];omega),Q' rfl];exact⟨rfl,I.below⟩
  by_cases h2:127<d
  .refine ea ?_;refine mw ?_;refine mw ?_;rw[M (by simp[Tb];omega),Q' rfl];exact⟨rfl,I.below⟩
  refine ea ?_;refine mw ?_;refine mw ?_;refine⟨⟨i+1,Z',rfl, ?_,I⟩,by show n-(i+1)<n-i;omega, ?_⟩
  .rw[ja T,S8,X,Q8,M8,Tb,w' Z',w' Z'];rfl
  exact Sb
 rw[G' Z'] at X;rw[X,R' V'];obtain⟨ns,e,g⟩:=xv X;have F:∀(j:Nat)(d:Int),ds[j]?=some d->0<=d/\d<=127:=λj d T=>(by have:=P9.1 X d (O' T);simp[Tb] at this;omega);refine ea ?_;refine Jh 3 5 (λy v V=>∃(i:Nat)(q:Int),i<=n/\v=wd i/\y=wd q/\0<=q/\q<=4097/\Ww 1 ds=Ww q (ds.drop i)/\Hp w [] V) (λ_ v _=>n-(intOf v).toNat) ?_ ?_
 .exact⟨0,1,N' _,rfl,rfl,Z',Z',rfl,I⟩
 clear I;rintro o y v p ⟨j,q,hj,rfl,rfl,a,s,E,I⟩;by_cases f:j<n
 .obtain⟨d,T⟩:=aa (l:=ds) (k:=j) Z';have S:=Db T;have W:=F j d T;obtain⟨b,rfl,H⟩:=J.at_ Z';rw[Wf T,Ww] at E;have z:0*0<=q*(d+1):=P6 a Z' V' Z';have K:q*(d+1)<=4097*128:=P6 s Z' Z' V';refine ea ?_;refine mw ?_;refine⟨⟨j+1,_,Z',rfl,rfl,by split<;>omega,by split<;>omega,by rw[E,show min (q*(d+1)) 4097=if 4097<q*(d+1) then 4097 else q*(d+1) by split<;>omega],I⟩,by show n-(j+1)<n-j;omega, ?_⟩;exact Sb
 rw[T8 Z'] at E;refine ea ?_;exact⟨by rw[E];rfl,I.below⟩
def wU{ds:t4}(h:ds.any (λd=> !Tb d)=false):(Lf 1 ds=0↔4096<El ds)/\(Lf 1 ds≠0->Lf 1 ds=El ds)/\1<=El ds:=by
 obtain⟨ns,rfl,g⟩:=xv h;have h1:=Ih ns 1 V' V' g;have h2:=Ko ns 1 V' V';have hp:=Wb ns;rw[R8] at h1 h2;unfold El;rw[h,R' V'];have N:Lf ((1:Nat):Int) (sa ns)=Lf 1 (sa ns):=rfl;have L:Ww ((1:Nat):Int) (sa ns)=Ww 1 (sa ns):=rfl;rw[N] at h1;rw[L] at h2;rw[h1,h2];split<;>omega
def zr(A B:t6)(n c m Y:Nat)(ds:t4)(cs:List NR)(w:World)(J:Sl w A n 1 (Fa ds))(z:Sl w B m 3 (la NR.cells cs))(b:n<=1000000)(E:∀a∈cs,a.ok):Zc 116 #[.agg #[wn A n c,wn B m Y]] w (wd (fE ds cs)):=by
 have I:=Hp.start w;have r:ds.length=n:=by have:=J.1;simpa[Fa] using this
 have p:=z.Aa NR.len V';unfold fE;by_cases g1:12<n
 .refine sG ?_;intro G Z I e I;exact hU
 cases j:ds.any (λd=> !Tb d) with
 |true=>
  have P:El ds= -1:=by unfold El;rw[j,Q' rfl]
  refine sG ?_;intro G Z I e I;rw[P];refine ea ?_;exact⟨by rw[Q' (.inr rfl)],I.below⟩
 |false=>
  rw[R' (λh=>h.elim (λh=>by omega) (λh=>by cases h))];obtain⟨k1,k2,k3⟩:=wU j;by_cases K:Lf 1 ds=0
  .have N:=k1.1 K;refine sG ?_;intro G Z I e I;refine ea ?_;exact⟨by rw[Q' K],I.below⟩
  have N:¬4096<El ds:=λh=>K (k1.2 h);rw[R' K,k2 K];by_cases g4:(m:Int)=El ds
  .rw[R' (show ¬(cs.length:Int)≠El ds by omega)];refine sG ?_;intro G Z I e I;refine ea ?_;refine rf 4 (λv V=>∃i:Nat,i<=m/\v=wd i/\(cs.take i).any Vw=false/\Hp w [.blk G 78 [wn A n c,wn B m Y] (0,0)] V) (λv _=>m-(intOf v).toNat) ?_ ?_
   .exact⟨0,N' _,rfl,rfl,I⟩
   clear I;rintro ρ' v V ⟨i,hi,rfl,X,I⟩;by_cases s:i<m
   .obtain⟨x,C⟩:=aa (l:=cs) (k:=i) Z';have u:=E x (O' C);have g:=λZ=>ue x Z (by have:=u.1;omega) (by have:=u.2;omega) (by have:=u.2;omega);obtain⟨ad,rfl,H⟩:=z.at_ Z'
    cases D:Vw x with
    |true=>
     have he:¬nR x.fa=x:=λh=>by rw[Om.2 h] at D;cases D
     refine aeU ?_;refine xa ?_;intro f W Q o;have q:=Q.bl;obtain⟨v38,v37,T,S,R,M,L,F,v30,y,t,_⟩:=o;replace I:=Q.hp;refine Be ?_;clear Q;refine dx rfl rfl (by assumption) V' ?_;refine ea ?_;exact⟨by rw[Q' (E9.2 ⟨x,O' C,D⟩)],I.below⟩
    |false=>
     have he:=Om.1 D;refine aeU ?_;refine dn ?_;intro W I;refine Xt rfl rfl (by first|assumption|rfl) V' ?_;refine ea ?_;refine⟨⟨i+1,Z',rfl,by rw[ja C,S8,X,Q8,M8,D];rfl,I⟩,by show m-(i+1)<m-i;omega, ?_⟩;exact Sb
   rw[G' Z'] at X;refine ea ?_;exact⟨by rw[X,R' V'],I.below⟩
  rw[Q' (show(cs.length:Int)≠El ds by omega)];refine sG ?_;intro G Z I e I;refine ea ?_;exact⟨rfl,I.below⟩
def QA(n:Nat)(k:Int):Dyadic:=if k<0\/(n:Int)<k then 0 else nD (bin n k.toNat)
def FK(k:Int)(h:n<=127):Sz 128 (QA n k):=by
 unfold QA;split
 .exact Sz.zero _
 exact GS (X9 (Uz n _) (Nat.pow_lt_pow_right V' Z'))
set_option maxRecDepth 10000 in
def Qx:∀(n:Nat)(N k:Int)(w:World),n<=127->N=n-> -1000<=k->k<=1000->
  Zc 107 #[wd N,wd k] w (.agg #[ww (nR (QA n k)).neg,wt (nR (QA n k)).Ra,wd (nR (QA n k)).e]):=by
 intro n
 induction n with
 |zero=>
  intro N k w B L h1 h2;have I:=Hp.start w;by_cases o:k<0\/N<k
  .have e:QA 0 k=0:=by unfold QA;rw[Q' Z']
   exact adS
  obtain rfl:k=0:=Z';have e:QA 0 0=((1:Int):Dyadic):=rfl;rw[e];refine Ga (l:=[wd N,wd 0]) func107 ?_;exact abt
 |succ n W=>
  intro N k w B L h1 h2;have I:=Hp.start w;by_cases o:k<0\/N<k
  .have e:QA (n+1) k=0:=by unfold QA;rw[Q' Z']
   exact adS
  by_cases K:k=0\/k=N
  .have e:QA (n+1) k=((1:Int):Dyadic):=by
    unfold QA;rw[R' Z'];obtain rfl|h:=K
    .rw[show Int.toNat 0=0 from rfl,Uj];rfl
    rw[show k.toNat=n+1 by omega,Pz];rfl
   rw[e];by_cases m:k=0
   .refine Ga func107 ?_;exact abt
   refine Ga func107 ?_;exact abt
  obtain⟨j,rfl⟩:∃j:Nat,k=((j+1:Nat):Int):=⟨(k-1).toNat,Z'⟩;have X:=FK (n:=n) (((j+1:Nat):Int)-1) Z';have r:=FK (n:=n) ((j+1:Nat):Int) Z';have e:QA n (((j+1:Nat):Int)-1)+QA n ((j+1:Nat):Int)=QA (n+1) ((j+1:Nat):Int):=(by unfold QA;rw[R' Z',R' Z',R' Z',<-Hv,show(((j+1:Nat):Int)-1).toNat=j by omega,z9];rfl);have s:=λZ=>nh (nR (QA n (((j+1:Nat):Int)-1))) (nR (QA n ((j+1:Nat):Int))) Z (X.ok Z') (r.ok Z');rw[Ta,Ta,e] at s;refine Ga (l:=[wd N,wd ((j+1:Nat):Int)]) func107 ?_;refine Gb ?_;intro D y I;refine Gd I (W (N-1) (((j+1:Nat):Int)-1) _ Z' Z' Z' Z') rfl ?_;intro G I;refine ea ?_;refine Gd I (W (N-1) ((j+1:Nat):Int) _ Z' Z' Z' Z') rfl ?_;intro p I;refine cd I (s _) ?_;intro P I;refine ZD ?_;intro ws I;exact⟨rfl,I.below⟩
def eM:∀(ns:t3)(n:Nat),(∀d∈ns,d<=127)->n*da ns<=65536->1<=n->MA n (sa ns)=true
 |[],_,_,_,_=>rfl
 |d::ns,n,h,E,h1=>by
  have T:=h d E';have N:(n:Int)*((d:Int)+1)=((n*(d+1):Nat):Int):=by rw[m_,G9];rfl
  rw[da,<-V9] at E;have h2:n*(d+1)*1<=n*(d+1)*da ns:=O_ _ (Wb ns);have W:=eM ns (n*(d+1)) (λx C=>h x (u' _ C)) E (H7 h1 Z');show(decide (0<=(d:Int)) && (decide ((d:Int)<=127) && (decide ((n:Int)*((d:Int)+1)<=65536) && MA ((n:Int)*((d:Int)+1)) (sa ns))))=true;rw[N,W,w' Z',w' Z',w' Z'];rfl
def pr(ns:t3):List t7:=(ff (sa ns)).map fX
def xP(ns):(pr ns).length=da ns:=by unfold pr;rw[B',lR,qb]
def ZG{ns:t3}{p:Nat}(h:p<da ns):(pr ns)[p]?=some (fX (sa (Xa ns.reverse p).reverse)):=by
 unfold pr;rw[C',vW (by rw[qb];exact h)];rfl
def Kt(A)(n c:Nat)(ns)(w)(J:Sl w A n 1 (Fa (sa ns)))(m:ns.length<=12)(g:∀d∈ns,d<=127)(o:da ns<=65536):Calls prog 105 #[wn A n c] w λr V=>∃B c',r=.returned (wn B (da ns) c')/\V.ownsRow w.heap.size 9 1 (wn B (da ns) c') (da ns) (xk (pr ns))/\Below w.heap.size w V:=by
 have I:=Hp.start w;have a:ns.length=n:=by have:=J.1;simpa[Fa,sa] using this
 have M:Qy (sa ns)=pr ns:=(by have h1:MA 1 (sa ns)=true:=eM ns 1 g (by rw[R8];exact o) (F' _);unfold Qy;rw[Q' h1];rfl);have E:=λZ N=>YK A n c (sa ns) Z N Z';rw[M,xP] at E;refine Ga func105 ?_;refine ea ?_;refine cr I (E _ (J.ext I.below)) ?_;intro t H y I;exact cz
def E0{l:t3}{i:Nat}(h:l[i]?=some r)(H:r<=255):∃c:UInt8,(fX (sa l)).data.toList[i]?=some c/\c.toNat=r:=by
 refine⟨Wq (r:Int), ?_, ?_⟩
 .unfold fX;rw[ed,C',jc h];rfl
 exact abL
def Yx(A)(n c:Nat)(ns)(rs:t3)(w)(J:Sl w A n 1 (Fa (sa ns)))(B:n<=1000)(o:da ns<=1000000)(Q:rs.length=ns.length)(y:∀(i d r:Nat),ns[i]?=some d->rs[i]?=some r->r<=d)(g:∀d∈ns,d<=255):Zc 194 #[wn A n c,wt (fX (sa rs))] w (wd (Ec ns.reverse rs.reverse)):=by
 have I:=Hp.start w;have m:ns.length=n:=by have:=J.1;simpa[Fa,sa] using this
 refine Ga func194 ?_;refine ea ?_;refine Jh 5 6 (λu v V=>∃(i q:Nat),i<=n/\v=wd i/\u=wd q/\q=Ec (ns.take i).reverse (rs.take i).reverse/\q<da (ns.take i)/\Hp w [] V) (λ_ v _=>n-(intOf v).toNat) ?_ ?_
 .exact yU
 clear I;rintro ρ' u v V ⟨i,q,hi,rfl,rfl,R,s,I⟩;by_cases f:i<n
 .obtain⟨d,T⟩:=aa (l:=ns) (k:=i) Z';obtain⟨r,H⟩:=aa (l:=rs) (k:=i) Z';have S:=Db (jc T);have j:=y i d r T H;have a:=g d (O' T);obtain⟨Y,D,z⟩:=E0 H Z';have h:(fX (sa rs)).data.toList[(i:Int).toNat]?=some Y:=D;have e:=My T H;have L:=dz T;rw[qb,qb] at L;rw[<-R] at e;have x:=we ns (i+1);have b:r+(d+1)*q<(d+1)*da (ns.take i):=(by have:(d+1)*(q+1)<=(d+1)*da (ns.take i):=O_ _ s;rw[p9] at this;omega);have F:(q:Int)*((d:Int)+1)=(((d+1)*q:Nat):Int):=by rw[d',m_,G9];rfl
  obtain⟨p,rfl,N⟩:=J.at_ Z';refine ea ?_;refine Od 11 I ?_;refine Wi (i) ?_;refine Ba (i:=4) (λU Z hj hR=>Ma pa.out (show U 16=Value.pointer _ from hR.1) ((N.ext hj.hp.below).Dl (by assumption))) ?_;refine ub ?_;refine Ba (i:=9) (λU Z hj hR=>ng Qa.out (show U 20=Value.string _ from hR.1) (show U 21=Value.int _ _ from hR.2.1) Z' (by assumption)) ?_;refine Ba (i:=10) (λU Z hj hR=>jh Qa.out Qa.out (show U 22=Value.int _ _ from hR.1) Z' Z') ?_;refine dn ?_;intro W I;refine ea ?_;rw[z,F];refine⟨⟨i+1,r+(d+1)*q,Z',rfl, ?_,e.symm,Z',I⟩,by show n-(i+1)<n-i;omega, ?_⟩
  .show Value.int IntKind.i64 ((((d+1)*q:Nat):Int)+(r:Int))=_;rw[show(((d+1)*q:Nat):Int)+(r:Int)=((r+(d+1)*q:Nat):Int) by omega]
  exact Sb
 obtain rfl:i=n:=Z';rw[G' Z',G' Z'] at R;refine ea ?_;exact⟨by rw[R],I.below⟩
def VX(ns):decide (El (sa ns)<0\/4096<El (sa ns))=er ns:=by
 unfold El er;have N:(sa ns).any (λd=> !Tb d)=ns.any λd=>decide (127<d):=by
  unfold sa;rw[List.any_map];refine C_ ns.any (funext λd=> ?_);show(!Tb (d:Int))=decide (127<d);by_cases h:127<d
  .rw[w' h];simp[Tb];omega
  rw[m' h];simp[Tb];omega
 rw[N]
 cases h:ns.any λd=>decide (127<d) with
 |true=>
  rw[Q' rfl];rfl
 |false=>
  rw[R' V',F_];have h2:=Ko ns 1 V' V';have G:Ww 1 (sa ns)=((min (1*da ns) 4097:Nat):Int):=h2;rw[G];refine decide_eq_decide.2 ?_;omega
def mJ(A)(n c:Nat)(ns)(w)(J:Sl w A n 1 (Fa (sa ns)))(B:n<=1000000):Zc 188 #[wn A n c] w (ww (er ns)):=by
 have I:=Hp.start w;have E:=λZ F=>Lj A n c (sa ns) Z (J.ext F) B;rw[<-VX];generalize El (sa ns)=q at*;by_cases h1:q<0
 .rw[w' (.inl h1)];exact abW
 by_cases h2:4096<q
 .rw[w' (.inr h2)];exact abW
 rw[m' Z'];exact abW
def prW(ds es:t3)(xs ys:t5)(i m:Nat):List (Nat×Dyadic):=(List.range m).map λk=>(Ec (Bc ds es) (Bc (Xa ds i) (Xa es k)),(xs[i]?).getD 0*(ys[k]?).getD 0)
def prI(ds es:t3)(xs ys:t5)(i:Nat):List (Nat×Dyadic):=(List.range i).flatMap λi=>prW ds es xs ys i (da es)
variable {rs:t3}
def bS(rs:t3):List UInt8:=(sa rs).map Wq
def VK{ns:t3}(h:Ah ns.reverse rs)(j d r:Nat)(h1:ns[j]?=some d)(h2:rs.reverse[j]?=some r):r<=d:=by
 have Q:=Cq h;rw[r'] at Q;have hj:=(z'.1 h1).1;rw[l_ Z'] at h2;refine wA h ?_ h2;rw[l_ Z',show ns.length-1-(rs.length-1-j)=j by omega];exact h1
def LP{ns:t3}(h:∀d∈ns,d<=127)(E:da ns<=4096):El (sa ns)=da ns:=by
 refine adp ?_;intro N h2 G;omega
def FM(h:rs[j]?=some r)(H:r<=255):jj ((bS rs).take (j+1))=jj ((bS rs).take j)++[.int .u8 (r:Int)]:=by
 have h1:(bS rs)[j]?=some (Wq (r:Int)):=by unfold bS;rw[C',jc h];rfl
 rw[ja h1];unfold jj;rw[q_,T_,f_];have:(Wq (r:Int)).toNat=r:=(by exact abL);rw[this]
def Zd(ns:t3)(a:Nat):t3:=ns.set a (ns.getD a 0+1)
variable {xs:t5}
def AM(ns:t3)(a:Nat)(xs:t5):t5:=(List.range (da (Zd ns a))).map λp=>co ns.reverse xs (Xa (Zd ns a).reverse p)+if 0<(Xa (Zd ns a).reverse p).getD (ns.length-1-a) 0 then co ns.reverse xs (vk (Xa (Zd ns a).reverse p) (ns.length-1-a)) else 0
def ML(ns)(a:Nat)(xs):(AM ns a xs).length=da (Zd ns a):=by simp[AM]
def acs{ns:t3}{a:Nat}{r:t3}(h:Ah (Zd ns a).reverse r):co (Zd ns a).reverse (AM ns a xs) r=co ns.reverse xs r+if 0<r.getD (ns.length-1-a) 0 then co ns.reverse xs (vk r (ns.length-1-a)) else 0:=by
 have h1:=Xg h;rw[qb] at h1;rw[Iy h];unfold AM;rw[C',y_ h1,n9,F9,Cf h]
def Ag:∀(ds rs:t3),Ah ds rs↔rs.length=ds.length/\∀(i d r:Nat),ds[i]?=some d->rs[i]?=some r->r<=d
 |[],[]=>by simp[Ah]
 |[],_::_=>by simp[Ah]
 |_::_,[]=>by simp[Ah]
 |d::ds,r::rs=>by
  rw[Ah,Ag ds rs];constructor
  .rintro ⟨h1,h2,G⟩;refine⟨by rw[V_,V_,h2],λi e s he K=> ?_⟩
   cases i with
   |zero=>cases he;cases K;exact h1
   |succ i=>exact G i e s he K
  rintro ⟨h1,h2⟩;exact⟨h2 0 d r rfl rfl,by simpa using h1,λi e s he K=>h2 (i+1) e s he K⟩
def Vm{l:t3}{a x:Nat}(h:a<l.length):(l.set a x).reverse=l.reverse.set (l.length-1-a) x:=by
 refine s_ λi=> ?_;by_cases hi:i<l.length
 .rw[l_ (by rw[I9];exact hi),g_,g_,I9,r',l_ hi];by_cases h2:a=l.length-1-i
  .rw[Q' h2,Q' Z',Q' Z',Q' Z']
  rw[R' h2,R' Z']
 exact abJ
def NQ{l:t3}{a:Nat}(h:a<l.length):l.reverse.getD (l.length-1-a) 0=l.getD a 0:=by
 rw[o_,o_,l_ Z',show l.length-1-(l.length-1-a)=a by omega]
def Vi(ns)(a:Nat):(Zd ns a).length=ns.length:=by simp[Zd]
def Ik{ns:t3}{a i:Nat}(M:a<ns.length):(Zd ns a)[i]?=if a=i then some (ns.getD a 0+1) else ns[i]?:=by
 unfold Zd;rw[g_];split
 .rfl
 rfl
def gW(ns:t3)(xs:t5)(cs:t3)(b:t5):Prop:=b.length=da cs/\cs.length=ns.length/\(∀(i n c:Nat),ns[i]?=some n->cs[i]?=some c->n<=c)/\∀row:t3,row.length=ns.length->co cs.reverse b row=ON (xe cs ns).reverse (co ns.reverse xs) row
def sub_self:∀(l:t3),∀x∈xe l l,x=0
 |[],_,h=>nomatch h
 |y::l,x,h=>by
  obtain h|h:=y'.1 h
  .rw[h];exact t_ y
  exact sub_self l x h
def gW.start{ns:t3}(h:xs.length=da ns):gW ns xs ns xs:=by
 refine⟨h,rfl,λi n c h1 h2=>by rw[h1] at h2;cases h2;exact F' _,λrow _=> ?_⟩;rw[OH _ _ _ λm hm=>sub_self ns m (s8.1 hm)]
def gW.step{ns cs:t3}{f:t5}{a:Nat}(h:gW ns xs cs f)(M:a<cs.length):gW ns xs (Zd cs a) (AM cs a f):=by
 obtain⟨h1,h2,b,z⟩:=h;refine⟨ML _ _ _,by rw[Vi,h2],λi n c B E=> ?_,λrow H=> ?_⟩
 .rw[Ik M] at E;split at E
  .rename_i e;subst e
   cases E
   obtain⟨c,E⟩:=aa M;have:=b a n c B E;rw[o_,E];exact Nat.le_succ_of_le this
  exact b i n c B E
 have N:(xe (Zd cs a) ns).reverse=(xe cs ns).reverse.set (cs.length-1-a) ((xe cs ns).reverse.getD (cs.length-1-a) 0+1):=by
  have Q:(xe cs ns).length=cs.length:=ij h2;have L:=NQ (l:=xe cs ns) (a:=a) Z';rw[Q] at L;rw[L,show cs.length-1-a=(xe cs ns).length-1-a by rw[Q],<-Vm Z'];congr 1;refine s_ λi=> ?_;rw[g_,Q];unfold xe;simp only[A8,Ik M,o_];obtain⟨c,E⟩:=aa M;obtain⟨n,B⟩:=aa (l:=ns) (k:=a) Z';have:=b a n c B E;by_cases hi:a=i
  .subst hi;rw[Q' rfl,Q' rfl,Q' M,B,E];show some (c+1-n)=some (c-n+1);congr 1;omega
  rw[R' hi,R' hi]
 rw[N,xI _ _ _ _ (by rw[r',ij h2];omega) (by rw[r',ij h2];omega),<-z row H];have W:(vk row (cs.length-1-a)).length=ns.length:=by unfold vk;rw[I9,H]
 rw[<-z _ W];by_cases y:Ah (Zd cs a).reverse row
 .exact acs y
 rw[cG y];have g:¬Ah cs.reverse row:=λh=>y (by
  rw[Ag] at h |-;refine⟨by rw[h.1,r',r',Vi],λi d r T G=> ?_⟩;unfold Zd at T;rw[Vm M,g_] at T;split at T
  .rename_i e;subst e;rw[Q' (by rw[r'];omega)] at T
   cases T
   obtain⟨c,E⟩:=aa M;have:=h.2 (cs.length-1-a) c r (by rw[l_ Z',show cs.length-1-(cs.length-1-a)=a by omega];exact E) G;rw[o_,E];exact Nat.le_succ_of_le this
  exact h.2 i d r T G)
 rw[cG g];have X:∀x:Dyadic,(0:Dyadic)=0+x↔x=0:=λx=>by grind
 rw[X];split
 .rename_i A;refine cG λh=>y ?_;rw[Ag] at h |-;refine⟨by rw[H,r',Vi,h2],λi d r T G=> ?_⟩;unfold Zd at T;rw[Vm M,g_] at T;unfold vk at h;split at T
  .rename_i e;subst e;rw[Q' (by rw[r'];omega)] at T
   cases T
   obtain⟨c,E⟩:=aa M;have:=h.2 (cs.length-1-a) c (row.getD (cs.length-1-a) 0-1) (by rw[l_ Z',show cs.length-1-(cs.length-1-a)=a by omega];exact E) (by rw[g_,Q' rfl,Q' Z']);rw[o_,G] at this;rw[o_,E];have j:r-1<=c:=this;show r<=c+1;omega
  rename_i e;exact h.2 i d r T (by rw[g_,R' e];exact G)
 rfl
def iV{ns ts:t3}{row:t3}(Q:ns.length=ts.length)(hle:∀(i n t:Nat),ns[i]?=some n->ts[i]?=some t->n<=t)(H:Ah ts.reverse row):co ts.reverse (Xi ns ts xs) row=ON (xe ts ns).reverse (co ns.reverse xs) row:=by
 have b:(xe ts ns).length=ts.length:=ij Q.symm;have a:Bc ns.reverse (xe ts ns).reverse=ts.reverse:=by rw[So Z',rn Q hle]
 have D:=Xg H;rw[Iy H];unfold Xi Eu;rw[rn Q hle];have h1:=D;rw[qb] at h1;rw[Zl _ h1,F9];have h2:=EX (ds:=ns.reverse) (es:=(xe ts ns).reverse) (xs:=xs) (ys:=(zw (xe ts ns)).map nD) (by rw[r',r'];omega) (p:=Ec ts.reverse row) (by rw[a];exact D);rw[a,Cf H] at h2;have G:au ns.reverse (xe ts ns).reverse xs ((zw (xe ts ns)).map nD)=ax ns.reverse (xe ts ns).reverse xs ((zw (xe ts ns)).map nD) (da (xe ts ns)):=(by unfold au ax;rw[qb (xe ts ns)]);rw[<-G,h2,<-LF _ _ _ (by rw[Cq H,r',r'];omega)];refine Ea λk u=> ?_;congr 1;unfold zw;rw[E_,C',y_ (S_.1 u)];rfl
def gW.done{ns ts:t3}{b:t5}(h:gW ns xs ts b):b=Xi ns ts xs:=by
 obtain⟨h1,h2,G,z⟩:=h;refine TV (ds:=ts.reverse) (by rw[qb];exact h1) (by
  unfold Xi Eu;rw[Kh,rn h2.symm G,qb]) λrow H=> ?_
 rw[z row (by rw[Cq H,r',h2]),iV h2.symm G H]
end Go.Proofs.YtbencocchdpikaaGreatDoor
