/- Lemmas for solveApart, part 5. -/
import Derived.Test.YtbencocchdpikaaGreatDoorZ4
set_option linter.all false
set_option maxHeartbeats 0
namespace Go.Proofs.YtbencocchdpikaaGreatDoor
open Go.Proofs.Tryz
def Ng:Int->List Int->Int
 |n,[]=>n
 |n,d::ds=>if d<0\/127<d\/4096<n*(d+1) then 0 else Ng (n*(d+1)) ds
def ady:Int->List Int->Int
 |n,[]=>n
 |n,d::ds=>ady (min (n*(d+1)) 4097) ds
def ahA(ds:List Int):Int:=if ds.any (λd=> !zd d) then -1 else ady 1 ds
def wy(a:NR):Bool:= !(((nR a.da).neg==a.neg && (nR a.da).Va==a.Va) && (nR a.da).e==a.e)
def Jq{a:NR}:wy a=false↔nR a.da=a:=by
 unfold wy;rw[Bool.not_eq_false',Zk]
def fE(ds:List Int)(cs:List NR):Int:=
 if 12<ds.length\/ds.any (λd=> !zd d)=true then 1 else if Ng 1 ds=0 then 3 else if(cs.length:Int)≠Ng 1 ds then 1 else if cs.any wy=true then 1 else 0
def MM{ds:List Int}(h:ds.any (λd=> !zd d)=false):∃ns:List Nat,ds=Ha ns/\∀n∈ns,n<=127:=by
 refine⟨ds.map Int.toNat, ?_,λn B=> ?_⟩
 .unfold Ha;rw[A_];refine(L6 ds).symm.trans (z9 λd T=> ?_);have:=E9.1 h d T;simp[zd] at this;show d=((d.toNat:Nat):Int);omega
 obtain⟨d,T,rfl⟩:=B'.1 B;have:=E9.1 h d T;simp[zd] at this;omega
def vI{ns:List Nat}(h:∀n∈ns,n<=127):(Ha ns).any (λd=> !zd d)=false:=by
 rw[E9];intro d T;obtain⟨n,B,rfl⟩:=B'.1 T;have:=h n B;simp[zd];omega
def Ti:∀(ns:List Nat)(n:Nat),1<=n->n<=4096->(∀d∈ns,d<=127)->Ng n (Ha ns)=if n*ea ns<=4096 then((n*ea ns:Nat):Int) else 0
 |[],n,_,h,_=>by show(n:Int)=_;rw[ea,X_,P' h]
 |d::ns,n,h1,h2,G=>by
  show(if(d:Int)<0\/127<(d:Int)\/4096<(n:Int)*((d:Int)+1) then 0 else Ng ((n:Int)*((d:Int)+1)) (Ha ns))=_;have T:=G d I';have N:(n:Int)*((d:Int)+1)=((n*(d+1):Nat):Int):=by rw[F9,V8];rfl
  rw[N];by_cases s:n*(d+1)<=4096
  .rw[Q' Z',Ti ns (n*(d+1)) (Q7 h1 Z') s λx C=>G x (L' _ C),ea,Z9]
  have z:n*(d+1)*1<=n*(d+1)*ea ns:=D_ _ (Pb ns);rw[P' Z',Q'];rw[ea,<-Z9];omega
def yK:∀(ds:List Int)(n:Int),1<=n->n<=4096->0<=Ng n ds/\Ng n ds<=4096
 |[],n,_,h=>by show 0<=n/\n<=4096;omega
 |d::ds,n,h1,h2=>by
  rw[Ng];split
  .omega
  rename_i s;have:1*1<=n*(d+1):=Int.mul_le_mul h1 Z' V' Z';exact yK ds _ Z' Z'
variable {xs:List Dyadic}
structure FV(ds:List Int)(cs:List NR)(ns:List Nat)(xs:List Dyadic):Prop where
 deg:ds=Ha ns
 num:cs=xs.map nR
 uZ:ns.length<=12
 low:∀n∈ns,n<=127
 len:xs.length=ea ns
 max:ea ns<=4096
def ZY{ds:List Int}{cs:List NR}(h:fE ds cs=0):∃ns xs,FV ds cs ns xs/\xs=cs.map NR.da:=by
 unfold fE at h;split at h
 .cases h
 rename_i h1;split at h
 .cases h
 rename_i h2;split at h
 .cases h
 rename_i G;split at h
 .cases h
 rename_i z;have F:ds.any (λd=> !zd d)=false:=by
  cases C:ds.any (λd=> !zd d) with
  |false=>rfl
  |true=>exact absurd (.inr C) h1
 obtain⟨ns,rfl,Q⟩:=MM F;have E:=Ti ns 1 V' V' Q;rw[C8] at E;have q:Ng ((1:Nat):Int) (Ha ns)=Ng 1 (Ha ns):=rfl;rw[q] at E;have o:ea ns<=4096:=(by apply L8;intro s;rw[Q' s] at E;exact h2 E);rw[P' o] at E;have hlen:cs.length=ea ns:=(by have:(cs.length:Int)=Ng 1 (Ha ns):=Z7.1 G;rw[E] at this;omega);refine⟨ns,cs.map NR.da,⟨rfl, ?_,(by have h2:¬12<(Ha ns).length:=λh=>h1 (.inl h);rw[Ub] at h2;omega),Q,by rw[D',hlen],o⟩,rfl⟩;rw[A_];refine(L6 cs).symm.trans (z9 λa M=> ?_);have P:wy a=false:=by
  cases C:wy a with
  |false=>rfl
  |true=>exact absurd (W9.2 ⟨a,M,C⟩) z
 exact(Jq.1 P).symm
def FV.ok{ds:List Int}{cs:List NR}{ns:List Nat}(h:FV ds cs ns xs):fE ds cs=0:=by
 obtain⟨rfl,rfl,h1,h2,G,z⟩:=h;have E:=Ti ns 1 V' V' h2;rw[C8,P' z] at E;have q:Ng ((1:Nat):Int) (Ha ns)=Ng 1 (Ha ns):=rfl;rw[q] at E;have hp:=Pb ns;unfold fE;rw[Q',Q' Z',Q' (by rw[D'];omega),Q']
 .rw[W9];rintro ⟨a,M,C⟩;obtain⟨x,_,rfl⟩:=B'.1 M;have:wy (nR x)=false:=Jq.2 (by rw[Ga]);rw[this] at C
  cases C
 rw[Ub,vI h2];rintro (h|h)
 .omega
 cases h
open Go.RowKit
def uf(A)(n c:Nat)(ds)(w)(J:Sl w A n 1 (Pa ds))(B:n<=1000000):Zc 165 #[.slice A n c] w (.int .i64 (Ng 1 ds)):=by
 have I:=Hp.start w;have m:ds.length=n:=by have:=J.1;simpa[Pa] using this
 refine Ca func165 ?_;refine fa ?_;refine Fi 3 8 (λy v V=>∃(i:Nat)(q:Int),i<=n/\v=.int .i64 i/\y=.int .i64 q/\1<=q/\q<=4096/\Ng 1 ds=Ng q (ds.drop i)/\Hp w [] V) (λ_ v _=>n-(intOf v).toNat) ?_ ?_
 .exact⟨0,1,J' _,rfl,rfl,Z',Z',rfl,I⟩
 clear I;rintro ρ' y v V ⟨i,q,hi,rfl,rfl,M,s,E,I⟩;by_cases D:i<n
 .obtain⟨d,T⟩:=aa (l:=ds) (k:=i) Z';have S:=Ic T;obtain⟨b,rfl,H⟩:=J.at_ Z';rw[de T,Ng] at E;by_cases h1:d<0
  .rw[P' (.inl h1)] at E;refine eu ?_;exact⟨by rw[E],I.below⟩
  by_cases h2:127<d
  .rw[P' (.inr (.inl h2))] at E;refine eu ?_;exact⟨by rw[E],I.below⟩
  have z:1*1<=q*(d+1):=Int.mul_le_mul M Z' V' Z';have K:q*(d+1)<=4096*128:=Int.mul_le_mul s Z' Z' V';by_cases G:4096<q*(d+1)
  .rw[P' (.inr (.inr G))] at E;refine eu ?_;exact⟨by rw[E],I.below⟩
  rw[Q' Z'] at E;refine eu ?_;refine⟨⟨i+1,_,Z',rfl,rfl,Z',Z',E,I⟩,by show n-(i+1)<n-i;omega, ?_⟩;exact Wb
 rw[P8 Z'] at E;refine fa ?_;exact⟨by rw[E];rfl,I.below⟩
def UI(d:Int)(w):Zc 172 #[.int .i64 d] w (.bool (!zd d)):=by
 have I:=Hp.start w;by_cases h1:d<0
 .refine Ca func172 ?_;refine fa ?_;refine⟨?_,I.below⟩;unfold zd;rw[k' (show ¬0<=d by omega)];rfl
 by_cases h2:127<d
 .refine Ca func172 ?_;refine fa ?_;refine⟨?_,I.below⟩;unfold zd;rw[k' (show ¬d<=127 by omega),Bool.and_false];rfl
 refine Ca func172 ?_;refine fa ?_;refine⟨?_,I.below⟩;unfold zd;rw[m' (show 0<=d by omega),m' (show d<=127 by omega)];rfl
def fH(a:NR)(w)(S:Gc w)(M:a.ok):Zc 174 #[a.V] w (.bool (wy a)):=by
 have I:=Hp.start w;have Y:=λZ P=>Yc a Z P (by have:=M.1;omega) (by have:=M.2;omega) (by have:=M.2;omega)
 cases C:wy a with
 |false=>
  have he:=Jq.1 C;refine Ca func174 ?_;refine Bb ?_;intro G Z I;refine ud 3 I ?_;refine dC (λ_ hj=>Y _ (S.hp hj.hp)) ?_;refine wb ?_;refine Fa ?_;intro f W Q b;have A:=Q.bl;obtain⟨u,v4,y,_⟩:=b;replace I:=Q.hp;refine lg ?_;refine VX rfl rfl (by first|assumption|rfl) V' ?_;refine fa ?_;exact⟨rfl,I.below⟩
 |true=>
  have he:¬nR a.da=a:=λh=>by rw[Jq.2 h] at C;cases C
  refine Ca func174 ?_;refine Bb ?_;intro G Z I;refine ud 3 I ?_;refine dC (λ_ hj=>Y _ (S.hp hj.hp)) ?_;refine wb ?_;refine dn ?_;intro W I;refine PV rfl rfl (by assumption) V' ?_;refine fa ?_;exact⟨rfl,I.below⟩
theorem Ay(A B:Option Addr)(n c m Y:Nat)(ds:List Int)(cs:List NR)(w:World)(S:Gc w)(J:Sl w A n 1 (Pa ds))(e:Sl w B m 3 (ia NR.cells cs))(b:n<=1000000)(hm:m<=1000000)(r:∀a∈cs,a.ok):Zc 96 #[.agg #[.slice A n c,.slice B m Y]] w (.int .i64 (fE ds cs)):=by
 have I:=Hp.start w;have u:ds.length=n:=by have:=J.1;simpa[Pa] using this
 have s:=e.sa NR.len V';have h1:=λZ N=>HI A n c ds 172 [] (λd=> !zd d) Z N b (λz q _ F=>UI z q);have h2:=λZ (P:Gc Z) N=>GH B m Y cs 174 [] wy Z N hm (λz q v F=>fH z q (P.ext F) (r z v));have x:=yK ds 1 Z' Z';unfold fE;by_cases T:12<n
 .refine Ca func96 ?_;refine Bb ?_;intro G Z I;exact⟨by rw[P' (.inl Z')],I.below⟩
 cases j:ds.any (λd=> !zd d) with
 |true=>
  refine Ca func96 ?_;refine Bb ?_;intro G Z I;refine cd I (h1 _ (J.ext I.below)) ?_;intro t I;rw[j];refine fa ?_;exact⟨by rw[P' (.inr rfl)],I.below⟩
 |false=>
  rw[Q' (λh=>h.elim (λh=>by omega) (λh=>by cases h))];by_cases K:Ng 1 ds=0
  .refine Ca func96 ?_;refine Bb ?_;intro G Z I;refine cd I (h1 _ (J.ext I.below)) ?_;intro t I;rw[j];refine fa ?_;refine cd I (uf A n c ds _ (J.ext I.below) b) ?_;intro g I;refine fa ?_;exact⟨by rw[P' K],I.below⟩
  rw[Q' K];by_cases X:(m:Int)=Ng 1 ds
  .rw[Q' (show ¬(cs.length:Int)≠Ng 1 ds by omega)]
   cases D:cs.any wy with
   |true=>
    refine aav ?_;(unhygienic intros)
    refine Fa ?_;intro f W Q i;have R:=Q.bl;obtain⟨M,E,l,k,v20,p,_⟩:=i;replace I:=Q.hp;refine lg ?_;clear Q;refine fa ?_;refine cd I (h2 _ (S.hp I) (e.ext I.below)) ?_;intro o I;rw[D];refine fa ?_;exact⟨by rw[P' rfl],I.below⟩
   |false=>
    refine aav ?_;(unhygienic intros)
    refine Fa ?_;intro f W Q i;have R:=Q.bl;obtain⟨M,E,l,k,v20,p,_⟩:=i;replace I:=Q.hp;refine lg ?_;clear Q;refine fa ?_;refine cd I (h2 _ (S.hp I) (e.ext I.below)) ?_;intro o I;rw[D];refine fa ?_;exact⟨by rw[Q' V'],I.below⟩
  rw[P' (show(cs.length:Int)≠Ng 1 ds by omega)];refine aav ?_;(unhygienic intros)
  refine dn ?_;intro W I;refine fa ?_;exact⟨rfl,I.below⟩
def okZ:List Nat->List Nat->Bool
 |[],[]=>true
 |d::ds,r::rs=>decide (r<=d) && okZ ds rs
 |_,_=>false
def RJ:∀(ds rs:List Nat),okZ ds rs=true↔ph ds rs
 |[],[]=>by simp[okZ,ph]
 |[],_::_=>by simp[okZ,ph]
 |_::_,[]=>by simp[okZ,ph]
 |d::ds,r::rs=>by rw[okZ,ph,l',h',RJ ds rs]
def co(ds:List Nat)(xs:List Dyadic)(row:List Nat):Dyadic:=if okZ ds row then(xs[Jc ds row]?).getD 0 else 0
def mA{ds:List Nat}{row:List Nat}(h:ph ds row):co ds xs row=(xs[Jc ds row]?).getD 0:=by
 unfold co;rw[P' ((RJ _ _).2 h)]
def LB{ds:List Nat}{p:Nat}(h:p<ea ds):co ds xs (Ya ds p)=(xs[p]?).getD 0:=by
 rw[mA (Xg ds p),KF h]
def abL{ds:List Nat}{ys:List Dyadic}(C:xs.length=ea ds)(hy:ys.length=ea ds)(h:∀row,ph ds row->co ds xs row=co ds ys row):xs=ys:=by
 refine List.ext_getElem (by rw[C,hy]) λp h1 h2=> ?_;have G:=h (Ya ds p) (Xg ds p);rw[LB Z',LB Z',U8 h1,U8 h2] at G;exact G
def md:List Nat->List Nat->List Nat
 |a::l,b::m=>(a+b)::md l m
 |_,_=>[]
def ov:∀{ds es rs a:List Nat},ph ds rs->ph es a->ds.length=es.length->ph (md ds es) (md rs a)
 |[],[],[],[],_,_,_=>trivial
 |[],_::_,_,_,_,_,h=>by simp at h
 |_::_,[],_,_,_,_,h=>by simp at h
 |d::ds,e::es,r::rs,j::a,h1,h2,G=>⟨by have:=h1.1;have:=h2.1;omega,ov h1.2 h2.2 (by simpa using G)⟩
def FG:∀{a b:List Nat},a.length=b.length->(md a b).length=a.length
 |[],[],_=>rfl
 |_::a,_::b,h=>by rw[md,T_,T_,FG (by simpa using h)]
def aga:(List Nat->Dyadic)->List Nat->List Nat->Dyadic
 |F,r::rs,j::a=>if j<=r then aga (λt=>F ((r-j)::t)) rs a else 0
 |F,[],[]=>F []
 |_,_,_=>0
def gR:List Nat->List Nat->Nat
 |m::ms,j::a=>bin m j*gR ms a
 |_,_=>1
def upS:List Nat->(List Nat->Dyadic)->List Nat->Dyadic
 |m::ms,F,r::rs=>sm (List.range (m+1)) λj=>if j<=r then nD (bin m j)*upS ms (λt=>F ((r-j)::t)) rs else 0
 |_,F,row=>F row
def ZE(ds es:List Nat)(xs ys:List Dyadic):List (Nat×Dyadic):=(List.range (ea es)).flatMap λk=>(List.range (ea ds)).map λi=>(Jc (md ds es) (md (Ya ds i) (Ya es k)),(xs[i]?).getD 0*(ys[k]?).getD 0)
def bE(n:Nat)(f:Nat->Dyadic):sm (List.range (n+1)) f=f 0+sm (List.range n) λj=>f (j+1):=by
 induction n with
 |zero=>simp only[A9,List.range_zero,F',sm]
 |succ n W=>rw[A9,ck,W,A9 (n:=n),ck];grind
def afG(row:List Nat)(a:Nat):List Nat:=row.set a (row.getD a 0-1)
variable {k n:Nat}
def tm(n:Nat):List NR:=(Hu n).map λk=>nR (nD k)
def QS(n:Nat):(tm n).length=n+1:=by simp[tm,Ov]
def Rl(h:k<=n):(tm n)[k]?=some (nR (nD (bin n k))):=by
 unfold tm;rw[z',mD h];rfl
def Cw(n k:Nat)(h:n<=127):Sz 128 (nD (bin n k)):=WY (l_ (oB n k) (Nat.pow_lt_pow_right V' Z'))
def cp(n:Nat)(w)(S:Gc w)(hn:n<=127):Calls prog 237 #[.int .i64 n] w λr V=>∃A c',r=.returned (.slice A (n+1) c')/\V.ownsRow w.heap.size 30 3 (.slice A (n+1) c') (n+1) (ia NR.cells (tm n))/\Below w.heap.size w V:=by
 have I:=Hp.start w;refine Ca func237 ?_;refine fa ?_;refine PK ?_;intro w6 I;refine Nm ?_;intro b7 w7 I;refine fa ?_;refine Fi 3 9 (λy v V=>∃(i c:Nat)(A:Option Addr),i<=n/\v=.int .i64 i/\y=.slice A (i+1) c/\Hp w [.row A (i+1) c 30 3 (ia NR.cells (tm i))] V) (λ_ v _=>n-(intOf v).toNat) ?_ ?_
 .exact⟨0,_,_,J' _,rfl,rfl,I⟩
 clear I;rintro ρ' y v V ⟨i,c,A,hi,rfl,rfl,I⟩;by_cases hlt:i<n
 .refine fa ?_;refine PK ?_;intro w11 I;refine Nm ?_;intro u w12 I;refine fa ?_;refine Fi 4 5 (λv4 v V=>∃(k H:Nat)(B:Option Addr),k<=i/\v=.int .i64 ((k+1:Nat):Int)/\v4=.slice B (k+1) H/\Hp w [.row B (k+1) H 30 3 (ia NR.cells ((tm (i+1)).take (k+1))),.row A (i+1) c 30 3 (ia NR.cells (tm i))] V) (λ_ v _=>i+1-(intOf v).toNat) ?_ ?_
  .refine⟨0,_,_,J' _,rfl,rfl, ?_⟩;rw[show(tm (i+1)).take (0+1)=[nR (nD 1)] by rw[ja (Rl (J' _)),pr];rfl];exact I
  clear I;rintro ρ2 v4 v w2 ⟨k,H,B,hk,rfl,rfl,I⟩;by_cases hlk:k<i
  .have E:=Rl (n:=i) (k:=k) Z';have L:=Rl (n:=i) (k:=k+1) Z';have X:=Rl (n:=i+1) (k:=k+1) Z';have q:=Cw i k Z';have s:=Cw i (k+1) Z';have a:=λA z Z P N=>zf A 2 z [nR (nD (bin i k)),nR (nD (bin i (k+1)))] Z P N (by simpa using⟨q.ok Z',s.ok Z'⟩) 128 (by simpa[Ga] using⟨q,s⟩) Z';rw[show Vl ([nR (nD (bin i k)),nR (nD (bin i (k+1)))].map NR.da)=nD (bin (i+1) (k+1)) by simp only[I_,R9,Ga,Sh,bin,rD]] at a;obtain⟨go,rfl⟩:=I.kb (i:=1) rfl Z';refine fa ?_;refine ud 13 I ?_;refine Xr (k) ?_;refine Fj [_,_,_] (λ_ hj=>hj.hp.Wc (f:=NR.cells) (x:=nR (nD (bin i k))) (l:=tm i) (i:=1) rfl NR.len V' E) ?_;refine wb ?_;refine Xr ((k+1)) ?_;refine Fj [_,_,_] (λ_ hj=>hj.hp.Wc (f:=NR.cells) (x:=nR (nD (bin i (k+1)))) (l:=tm i) (i:=1) rfl NR.len V' L) ?_;refine Wp [_,_,_,_,_,_] ?_;refine Ja (i:=11) (Is (.agg #[.bool (nR (nD (bin (i+1) (k+1)))).neg,.string (nR (nD (bin (i+1) (k+1)))).Va,.int .i64 (nR (nD (bin (i+1) (k+1)))).e])) Is.ext ?_ ?_
   .intro U Z hj hR;obtain⟨b,D,h,j⟩:=hR.1;exact ib rfl (La fi (qa h Wa)) (a b D _ (S.hp hj.hp) j) (λ_ _ R=>⟨_,R.1,R.2,rfl⟩)
   refine Wp [_,_,_] ?_;refine Fa ?_;intro f W Q T;obtain⟨p,v30,m,v28,v27,v26,v25,v24,v23,v22,v21,v20,v19,_⟩:=T;obtain⟨b,D,J,f29⟩:Rows _ _ _ (f 10) W:=m;obtain⟨t,G,g,f31⟩:Rows _ _ _ (f 12) W:=p;replace I:=Q.hp;refine lg ?_;refine mb I (i:=0) rfl rfl rfl (f31) Qa.out pa.out rfl V' (by first|rfl|exact Nb _|exact xb _|exact Da _|exact Ia NR.one _) Z' Z' V' ?_;intro o C w32 I;simp only[j'] at I;refine fa ?_;replace I:=I.sub (O' _ (O' _ Z_));refine⟨⟨k+1,C,o,Z',rfl,rfl, ?_⟩,by show i+1-(k+1+1)<i+1-(k+1);omega, ?_⟩
   .rw[ja X,Aa];exact I
   exact Wb
  obtain rfl:k=i:=Z';have X:=Rl (n:=k+1) (k:=k+1) (E' _);refine fa ?_;refine PK ?_;intro w34 I;refine Nm ?_;intro M w35 I;refine Er ?_;intro F Y w36 I;refine XO ?_;intro I;replace I:=I.sub (O' _ (G' _ Z_));refine⟨⟨k+1,Y,F,Z',rfl,rfl, ?_⟩,by show n-(k+1)<n-k;omega, ?_⟩
  .have K:tm (k+1)=(tm (k+1)).take (k+1)++[nR (nD (bin (k+1) (k+1)))]:=(by rw[<-ja X,w' (by rw[QS];omega)]);rw[K,Aa,tG];exact I
  exact Wb
 obtain rfl:i=n:=Z';exact jE
def Wr(ds:List Nat):List Nat:=(List.range (ea ds.reverse)).map λp=>gR ds.reverse (Ya ds.reverse p)
def RU(ds:List Nat)(d:Nat):Wr (ds++[d])=(Wr ds).flatMap λx=>(Hu d).map (x* ·):=by
 have Q:∀a∈Wr ds,((Hu d).map (a* ·)).length=d+1:=λa _=>by rw[D',Ov]
 refine g_ λp=> ?_;rw[Fv Z' _ _ _ Q];unfold Wr;rw[g7,List.reverse_singleton,List.singleton_append];by_cases hp:p<ea (d::ds.reverse)
 .have R:p/(d+1)<ea ds.reverse:=by rw[N9 Z',V_];exact hp
  have H:p % (d+1)<=d:=by have:=Q_ p (show 0<d+1 by omega);omega
  rw[z',f_ hp,z',f_ R];simp only[p9,u6,z',mD H,Ya,gR,V_]
 have R:¬p/(d+1)<ea ds.reverse:=by rw[N9 Z',V_];exact hp
 rw[K_ (by simp;omega),K_ (l:=List.map _ _) (by simp;omega)];rfl
def Zn(ds):(Wr ds).length=ea ds:=by simp[Wr,Cc]
def rv(ds:List Nat):List NR:=(Wr ds).map λk=>nR (nD k)
def qT:∀(ds row:List Nat),(∀d∈ds,d<=127)->gR ds row<=2^(127*ds.length)
 |[],_,_=>by show 1<=1;exact E' _
 |d::ds,[],_=>by show 1<=_;exact N_ V'
 |d::ds,r::rs,h=>(by have h1:bin d r<=2^127:=d' (oB d r) (J_ V' (h d I'));have h2:=qT ds rs λx C=>h x (L' _ C);rw[gR,T_,o9,O8,R_];exact G9 h1 h2)
variable {m:Nat}
def aa3(h:n<=2^m)(u:m<k):Sz k (nD n):=WY (l_ h (Nat.pow_lt_pow_right V' u))
def iK{ds:List Nat}{x:Nat}(h:x∈Wr ds)(h1:ds.length<=12)(h2:∀d∈ds,d<=127):Sz 1600 (nD x):=by
 obtain⟨p,_,rfl⟩:=B'.1 h;have G:=qT ds.reverse (Ya ds.reverse p) λd T=>h2 d (y8.1 T);exact aa3 G (by rw[F_];omega)
variable {j:Nat}
def LW(ds:List Nat)(d j:Nat):List Nat:=((Wr ds).take j).flatMap λx=>(Hu d).map (x* ·)
def ZP{ds:List Nat}{d x:Nat}(h:(Wr ds)[j]?=some x):LW ds d (j+1)=LW ds d j++(Hu d).map (x* ·):=by
 unfold LW;rw[ja h,c8,U5]
def Ym(A)(n c:Nat)(ns)(w)(S:Gc w)(J:Sl w A n 1 (Pa (Ha ns)))(h12:ns.length<=12)(g:∀d∈ns,d<=127)(o:ea ns<=4096):Calls prog 265 #[.slice A n c] w λr V=>∃B c',r=.returned (.slice B (ea ns) c')/\V.ownsRow w.heap.size 30 3 (.slice B (ea ns) c') (ea ns) (ia NR.cells (rv ns))/\Below w.heap.size w V:=by
 have I:=Hp.start w;have hln:ns.length=n:=by have:=J.1;simpa[Pa,Ha] using this
 have E:=Ti ns 1 V' V' g;rw[C8,P' o] at E;have s:Ng ((1:Nat):Int) (Ha ns)=Ng 1 (Ha ns):=rfl;rw[s] at E;have X:=Pb ns;have D:=λZ a=>uf A n c (Ha ns) Z a Z';rw[E] at D;refine Ca func265 ?_;refine fa ?_;refine cd I (D _ (J.ext I.below)) ?_;intro w16 I;refine fa ?_;refine PK ?_;intro w19 I;refine Nm ?_;intro yW w20 I;refine fa ?_;refine Fi 3 23 (λv3 v V=>∃(i h:Nat)(B:Option Addr),i<=n/\v=.int .i64 i/\v3=.slice B (ea (ns.take i)) h/\Hp w [.row B (ea (ns.take i)) h 30 3 (ia NR.cells (rv (ns.take i)))] V) (λ_ v _=>n-(intOf v).toNat) ?_ ?_
 .exact⟨0,_,_,J' _,rfl,rfl,I⟩
 clear I;rintro ρ' v3 v V ⟨i,h,B,hi,rfl,rfl,I⟩;by_cases hlt:i<n
 .obtain⟨d,T⟩:=aa (l:=ns) (k:=i) Z';have u:=Ic (ue T);have Y:=g d (N' T);have H:(ns.take i).length<=12:=by rw[p'];omega
  have K:∀d∈ns.take i,d<=127:=λd T=>g d (x9 T);have hct:=tg ns (i+1);have W:=tg ns i;have z:ea (ns.take (i+1))=ea (ns.take i)*(d+1):=by rw[ja T,Qc];simp[ea]
  have b:rv (ns.take (i+1))=(LW (ns.take i) d (ea (ns.take i))).map λk=>nR (nD k):=(by unfold rv LW;rw[ja T,RU,w' (l:=Wr (ns.take i)) (by rw[Zn];exact E' _)]);generalize hds:ns.take i=ds at*;generalize hN:ea ds=N at*;obtain⟨ad,rfl,hr⟩:=J.at_ Z';refine fa ?_;refine sv (Ba pa.out rfl ((hr.ext I.below).Yr u)) ?_;refine fa ?_;replace I:=I.rb 30 3;refine Fi 6 29 (λv6 v V=>∃(j P:Nat)(C:Option Addr),j<=N/\v=.int .i64 j/\v6=.slice C (j*(d+1)) P/\Hp w [.row C (j*(d+1)) P 30 3 (ia NR.cells ((LW ds d j).map λk=>nR (nD k))),.row B N h 30 3 (ia NR.cells (rv ds))] V) (λ_ v _=>N-(intOf v).toNat) ?_ ?_
  .refine⟨0,0,none,J' _,rfl, ?_, ?_⟩
   .rw[C7];rfl
   rw[C7];exact I
  clear I;rintro ρ2 v6 v w2 ⟨j,P,C,hj,rfl,rfl,I⟩;by_cases G:j<N
  .obtain⟨x,L⟩:=aa (l:=Wr ds) (k:=j) (by rw[Zn];omega);have Q:(rv ds)[j]?=some (nR (nD x)):=by unfold rv;rw[z',L];rfl
   have zx:=iK (N' L) H K;have y:(j+1)*(d+1)<=N*(d+1):=c_ _ G;rw[H9] at y;obtain⟨go,rfl⟩:=I.kb (i:=1) rfl Z';refine fa ?_;refine sv (Ka (vs:=[_,_,_]) pa.out rfl (I.Wc (f:=NR.cells) (x:=nR (nD x)) (l:=rv ds) (i:=1) rfl NR.len V' Q) rfl) ?_;refine yb ?_;intro b8 w8 I ws I;refine cr I (cp d _ (S.hp I) Y) ?_;intro M p w34 I;refine fa ?_;refine Fi 6 36 (λv6 v V=>∃(k P:Nat)(C:Option Addr),k<=d+1/\v=.int .i64 k/\v6=.slice C (j*(d+1)+k) P/\Hp w [.row M (d+1) p 30 3 (ia NR.cells (tm d)),.blk b8 30 [.bool (nR (nD x)).neg,.string (nR (nD x)).Va,.int .i64 (nR (nD x)).e] (0,0),.row C (j*(d+1)+k) P 30 3 (ia NR.cells ((LW ds d j++((Hu d).take k).map (x* ·)).map λk=>nR (nD k))),.row (some ⟨go,0,none⟩) N h 30 3 (ia NR.cells (rv ds))] V) (λ_ v _=>d+1-(intOf v).toNat) ?_ ?_
   .refine⟨0,P,C,J' _,rfl,rfl, ?_⟩;rw[Y8,R9,M_];exact I
   clear I;rintro ρ3 v6 v w3 ⟨k,P,C,hk,rfl,rfl,I⟩;by_cases hkd:k<d+1
   .have t:=mD (n:=d) (k:=k) Z';have R:=Rl (n:=d) (k:=k) Z';have zb:=Cw d k Y;have hmul:=λA cc Z q a=>Td A 2 cc [nR (nD x),nR (nD (bin d k))] Z q a (by simpa using⟨zx.ok Z',zb.ok Z'⟩) 1600 (by simpa[Ga] using⟨zx,zb.mono Z'⟩) Z' Z';rw[show Re ([nR (nD x),nR (nD (bin d k))].map NR.da)=nD (x*bin d k) by rw[SP];show 1*(nR (nD x)).da*(nR (nD (bin d k))).da=_;rw[Ga,Ga,x8]] at hmul;obtain⟨ga,rfl⟩:=I.kb (i:=0) rfl Z';refine fa ?_;refine sv (Ka (vs:=[_,_,_]) pa.out rfl (I.Wc (f:=NR.cells) (x:=nR (nD (bin d k))) (l:=tm d) (i:=0) rfl NR.len V' R) rfl) ?_;refine yb ?_;intro b10 w10 I ws I;refine jr ?_;intro b43 w43 I;refine cd I (hmul _ _ _ (S.hp I) (I.ma (i:=0) rfl)) ?_;intro w44 I;refine Nm ?_;intro b45 w45 I;refine FM ?_;intro m F w46 I;refine XO ?_;intro I;replace I:=I.sub (G' _ (G' _ (O' _ (O' _ (O' _ (O' _ Z_))))));refine⟨⟨k+1,F,m,Z',rfl,rfl, ?_⟩,by show d+1-(k+1)<d+1-k;omega, ?_⟩
    .have e:(LW ds d j++((Hu d).take (k+1)).map (x* ·)).map (λk=>nR (nD k))=(LW ds d j++((Hu d).take k).map (x* ·)).map (λk=>nR (nD k))++[nR (nD (x*bin d k))]:=by rw[ja t];simp
     rw[e,Aa];exact I
    exact Wb
   obtain rfl:k=d+1:=Z';rw[w' (by rw[Ov];omega),<-ZP L] at I;refine fa ?_;replace I:=I.sub (G' _ (G' _ (O' _ (O' _ Z_))));refine⟨⟨j+1,P,C,Z',rfl, ?_, ?_⟩,by show N-(j+1)<N-j;omega, ?_⟩
   .rw[H9];rfl
   .rw[H9];exact I
   exact Wb
  obtain rfl:j=N:=Z';rw[<-b,<-z] at I;rw[<-z];refine fa ?_;replace I:=I.sub (O' _ (G' _ Z_));refine⟨⟨i+1,P,C,Z',rfl,rfl,I⟩,by show n-(i+1)<n-i;omega, ?_⟩;exact Wb
 obtain rfl:i=n:=Z';rw[w' Z'] at I |-;exact jE
def Mi(d r:Nat)(t:Dyadic):Dyadic:=t^r*(1-t)^(d-r)
def Yi:List Nat->List Nat->List Dyadic->Dyadic
 |d::ds,r::rs,t::ts=>Mi d r t*Yi ds rs ts
 |_,_,_=>1
def sf(ds:List Nat)(xs:List Dyadic)(ts:List Dyadic):Dyadic:=sm (List.range (ea ds)) λp=>(xs[p]?).getD 0*Yi ds (Ya ds p) ts
def adh(d:Nat)(t:Dyadic)(m:Nat)(xs:List Dyadic):List Dyadic:=(List.range m).map λq=>sm (List.range (d+1)) λr=>(xs[r+(d+1)*q]?).getD 0*Mi d r t
def ac3:List Nat->List Dyadic->List Dyadic->List Dyadic
 |d::ds,t::ts,xs=>ac3 ds ts (adh d t (ea ds) xs)
 |_,_,xs=>xs
def jo(t:Dyadic)(a b:Nat):t^(a+b)=t^a*t^b:=by
 induction b with
 |zero=>rw[I9];grind
 |succ b W=>rw[<-n7];grind
def LR{d e a b:Nat}(t:Dyadic)(h1:a<=d)(h2:b<=e):Mi (d+e) (a+b) t=Mi d a t*Mi e b t:=by
 unfold Mi;rw[show d+e-(a+b)=(d-a)+(e-b) by omega,jo,jo];grind
variable {es:List Nat}
def ID:∀{ds es rs a:List Nat} (ts:List Dyadic),ph ds rs->ph es a->ds.length=es.length->Yi (md ds es) (md rs a) ts=Yi ds rs ts*Yi es a ts
 |[],[],[],[],_,_,_,_=>by show(1:Dyadic)=1*1;grind
 |[],_::_,_,_,_,_,_,h=>by simp at h
 |_::_,[],_,_,_,_,_,h=>by simp at h
 |d::ds,e::es,r::rs,j::a,[],_,_,_=>by show(1:Dyadic)=1*1;grind
 |d::ds,e::es,r::rs,j::a,t::ts,h1,h2,G=>(by rw[md,md,Yi,Yi,Yi,LR t h1.1 h2.1,ID ts h1.2 h2.2 (by simpa using G)];grind)
variable {N:Nat}
def iW(L:List (Nat×Dyadic))(g:Nat->Dyadic)(h:∀q∈L,q.1<N):sm (List.range N) (λp=>((gh N L)[p]?).getD 0*g p)=sm L λq=>q.2*g q.1:=by
 have a:sm (List.range N) (λp=>((gh N L)[p]?).getD 0*g p)=sm (List.range N) λp=>sm L λq=>if p=q.1 then q.2*g q.1 else 0:=by
  refine Ua λp hp=> ?_;rw[al _ (S_.1 hp),J9,<-ik];refine Ua λq _=> ?_;by_cases R:q.1=p
  .subst R;rw[P' rfl,P' rfl]
  rw[Q' R,Q' λe=>R e.symm];grind
 rw[a,Tq];refine Ua λq R=> ?_;rw[cm,P' (h q R)]
def fR{ds:List Nat}{ys:List Dyadic}(Q:ds.length=es.length):∀q∈ZE ds es xs ys,q.1<ea (md ds es):=λq R=>by
 unfold ZE at R;obtain⟨k,_,R⟩:=E8.1 R;obtain⟨i,_,rfl⟩:=B'.1 R;exact Th (ov (Xg _ _) (Xg _ _) Q)
def FQ{ds:List Nat}{ys ts:List Dyadic}(Q:ds.length=es.length):sf (md ds es) (gh (ea (md ds es)) (ZE ds es xs ys)) ts=sf ds xs ts*sf es ys ts:=by
 unfold sf;rw[iW _ (λp=>Yi (md ds es) (Ya (md ds es) p) ts) (fR Q)];unfold ZE;rw[TI,<-Vh];refine Ua λk _=> ?_;rw[Kt,<-ik];refine Ua λi _=> ?_;rw[Vg (ov (Xg _ _) (Xg _ _) Q),ID ts (Xg _ _) (Xg _ _) Q];grind
def TZ(n:Nat)(a b):sm (List.range (n+1)) (λk=>nD (bin n k)*a^k*b^(n-k))=(a+b)^n:=by
 induction n with
 |zero=>show nD 1*a^0*b^0+0=(a+b)^0;rw[Pt];grind
 |succ n W=>
  have L:∀k,nD (bin (n+1) (k+1))*a^(k+1)*b^(n+1-(k+1))=nD (bin n k)*a^k*b^(n-k)*a+nD (bin n (k+1))*a^(k+1)*b^(n-k):=λk=>(by rw[bin,rD,show n+1-(k+1)=n-k by omega];grind);rw[bE,Ua (g:=λk=>nD (bin n k)*a^k*b^(n-k)*a+nD (bin n (k+1))*a^(k+1)*b^(n-k)) λk _=>L k,bJ,ik,W,pr];have X:sm (List.range (n+1)) (λk=>nD (bin n (k+1))*a^(k+1)*b^(n-k))=sm (List.range n) (λk=>nD (bin n (k+1))*a^(k+1)*b^(n-(k+1)))*b:=by
   rw[A9,ck,Yu (show n<n+1 by omega),Vu,<-ik];have:∀x y:Dyadic,x+0*y*b^(n-n)=x:=λx y=>by grind
   rw[this];refine Ua λk u=> ?_;have B:=S_.1 u;rw[show n-k=(n-(k+1))+1 by omega];grind
  have E:(a+b)^n=nD 1*a^0*b^(n-0)+sm (List.range n) (λk=>nD (bin n (k+1))*a^(k+1)*b^(n-(k+1))):=(by rw[<-W,bE,pr]);rw[X];have H:(a+b)^(n+1)=(a+b)^n*a+(a+b)^n*b:=by grind
  rw[H];generalize J:sm (List.range n) (λk=>nD (bin n (k+1))*a^(k+1)*b^(n-(k+1)))=S at*;rw[E,show n+1-0=n+1 by omega,show n-0=n by omega,Pt];grind
def AB:∀(ds:List Nat)(ts:List Dyadic),ts.length=ds.length->sm (List.range (ea ds)) (λp=>nD (gR ds (Ya ds p))*Yi ds (Ya ds p) ts)=1
 |[],[],_=>by show nD 1*1+0=1;rw[Pt];grind
 |d::ds,t::ts,h=>by
  have W:=AB ds ts (by simpa using h);rw[nB,Ua (g:=λq=>(nD (gR ds (Ya ds q))*Yi ds (Ya ds q) ts)*1) λq _=> ?_]
  .rw[ik,W];grind
  have F:=TZ d t (1-t);rw[show t+(1-t)=(1:Dyadic) by grind] at F;have h1:(1:Dyadic)^d=1:=by
   clear F W
   induction d with
   |zero=>grind
   |succ d W=>grind
  rw[h1] at F;rw[<-F,<-Vh];refine Ua λr H=> ?_;have G:=S_.1 H;rw[Ya,W8,E_ G,K9 _ _ Z',s_ G,U_,Yi,gR,SP,Mi];grind
def sR:List Nat->(List Nat->Dyadic)->Dyadic
 |[],F=>F []
 |d::ds,F=>sm (List.range (d+1)) λr=>sR ds λrow=>F (r::row)
def sZ:∀(ds:List Nat)(F:List Nat->Dyadic),sm (List.range (ea ds)) (λp=>F (Ya ds p))=sR ds F
 |[],F=>by show F []+0=F [];grind
 |d::ds,F=>(by rw[nB,Tq,sR];refine Ua λr H=> ?_;have G:=S_.1 H;rw[<-sZ ds];refine Ua λq _=> ?_;rw[Ya,W8,E_ G,K9 _ _ Z',s_ G,U_])
def Pm:∀{ds:List Nat}{F G:List Nat->Dyadic},(∀row,ph ds row->F row=G row)->sR ds F=sR ds G
 |[],F,G,h=>h [] trivial
 |d::ds,F,G,h=>(by rw[sR,sR];refine Ua λr H=>Pm λrow K=>h _ ⟨by have:=S_.1 H;omega,K⟩)
def OQ:∀(ds:List Nat)(F:List Nat->Dyadic)(c:Dyadic),sR ds (λrow=>F row*c)=sR ds F*c
 |[],_,_=>rfl
 |d::ds,F,c=>(by rw[sR,sR,<-ik];exact Ua λr _=>OQ ds _ c)
def ui(ds:List Nat)(a:Nat)(M:Nat->Nat->Dyadic)(xs:List Dyadic):List Dyadic:=(List.range (ea ds)).map λp=>sm (List.range (ds.getD a 0+1)) λi=>co ds xs ((Ya ds p).set a i)*M i ((Ya ds p).getD a 0)
def Lw(ds)(a:Nat)(M:Nat->Nat->Dyadic)(xs):(ui ds a M xs).length=ea ds:=by simp[ui]
def MN{ds row:List Nat}(a:Nat)(M:Nat->Nat->Dyadic)(xs)(h:ph ds row):co ds (ui ds a M xs) row=sm (List.range (ds.getD a 0+1)) λi=>co ds xs (row.set a i)*M i (row.getD a 0):=by
 rw[mA h];unfold ui;rw[z',f_ (Th h)];simp only[p9,J9,Vg h]
def CK:∀{ds row:List Nat}{a i:Nat},ph ds row->i<=ds.getD a 0->ph ds (row.set a i)
 |[],[],_,_,_,_=>trivial
 |d::ds,r::rs,0,i,h,hi=>⟨hi,h.2⟩
 |d::ds,r::rs,a+1,i,h,hi=>⟨h.1,CK (a:=a) h.2 (by simpa using hi)⟩
def acK(d:Nat)(s:Dyadic)(i k:Nat):Dyadic:=if k<i then 0 else nD (bin (d-i) (k-i))*s^i*(1-s)^(k-i)
def acz(d:Nat)(s:Dyadic)(i k:Nat):Dyadic:=if i<k then 0 else nD (bin i (i-k))*s^(i-k)*(1-s)^(d-i)
def ad8(d i:Nat)(hi:i<=d)(f:Nat->Dyadic):sm (List.range (d+1)) (λk=>if k<i then 0 else f (k-i))=sm (List.range (d-i+1)) f:=by
 obtain⟨m,rfl⟩:∃m,d=i+m:=⟨d-i,Z'⟩;rw[show i+m-i+1=m+1 by omega,show i+m+1=i+(m+1) by omega,List.range_add,Ik,Kt,rq λk u=>by rw[P' (S_.1 u)]];have:∀x:Dyadic,0+x=x:=λx=>by grind
 rw[this];exact Ua λk _=>by rw[Q' Z',Nat.add_sub_cancel_left]
def lL(ds)(xs)(ts:List Dyadic):sf ds xs ts=sR ds λrow=>co ds xs row*Yi ds row ts:=by
 rw[<-sZ];unfold sf;exact Ua λp hp=>by rw[LB (S_.1 hp)]
def bk:∀{A B x y:List Nat},x.length=A.length->Jc (A++B) (x++y)=Jc A x+ea A*Jc B y
 |[],B,[],y,_=>by rw[F',F',ea,C8];show _=0+_;rw[U_]
 |d::A,B,r::x,y,h=>(by rw[C',C',Jc,Jc,ea,bk (by simpa using h),n_,Z9,n7])
def su:∀(A B:List Nat)(p:Nat),Ya (A++B) p=Ya A p++Ya B (p/ea A)
 |[],B,p=>by rw[F',ea,Y7];rfl
 |d::A,B,p=>by rw[C',Ya,Ya,su A B,ea,l9];rfl
def qE:∀(A:List Nat)(f q:Nat),Ya A (f+ea A*q)=Ya A f
 |[],_,_=>rfl
 |d::A,f,q=>(by rw[Ya,Ya,ea,Z9,W8,K9 _ _ Z',qE A])
variable {A:List Nat}{d:Nat}
def ic(A:List Nat)(d f k q:Nat):Nat:=f+ea A*(k+(d+1)*q)
variable {B:List Nat}
def yx{f q:Nat}(Y:f<ea A)(u:k<=d)(R:q<ea B):ic A d f k q<ea (A++d::B):=by
 rw[Qc,ea,ic];have h1:k+(d+1)*q+1<=(d+1)*ea B:=(by have:(d+1)*(q+1)<=(d+1)*ea B:=D_ _ R;rw[o9] at this;omega);have h2:=D_ (ea A) h1;rw[o9] at h2;omega
def sA{f q:Nat}(Y:f<ea A)(u:k<=d):Ya (A++d::B) (ic A d f k q)=Ya A f++k::Ya B q:=by
 unfold ic;rw[su,qE,K9 _ _ (Pb A),s_ Y,U_,Ya,W8,E_ Z',K9 _ _ Z',s_ Z',U_]
def wI{p:Nat}(h:p<ea (A++d::B)):∃f k q,f<ea A/\k<=d/\q<ea B/\p=ic A d f k q:=by
 rw[Qc,ea] at h;have R:=Pb A;refine⟨p % ea A,p/ea A % (d+1),p/ea A/(d+1),Q_ _ R,by have:=Q_ (p/ea A) (show 0<d+1 by omega);omega, ?_, ?_⟩
 .rw[N9 Z',N9 R,V_,V_ (ea B)];exact h
 unfold ic;rw[m7,m7]
def bF(x:List Nat)(y)(k:Nat):(x++k::y).getD x.length 0=k:=by
 rw[X9,S9 (E' _),u_];rfl
def xH(x:List Nat)(y)(k i:Nat):(x++k::y).set x.length i=x++i::y:=by
 rw[F8 _ _ (E' _),u_,j']
def Jf(A:List Nat)(d:Nat)(xs:List Dyadic)(f q:Nat):List Dyadic:=(List.range (d+1)).map λi=>(xs[ic A d f i q]?).getD 0
def uQ{f q:Nat}(M:Nat->Nat->Dyadic)(xs)(Y:f<ea A)(u:k<=d)(R:q<ea B):(ui (A++d::B) A.length M xs)[ic A d f k q]?=some (sm (List.range (d+1)) λi=>(xs[ic A d f i q]?).getD 0*M i k):=by
 have hp:=yx (B:=B) Y u R;unfold ui;rw[z',f_ hp];simp only[p9];rw[sA Y u,bF];have Q:=Jm A f;rw[show((Ya A f++k::Ya B q).getD A.length 0)=k by rw[<-Q];exact bF _ _ _];congr 1;refine Ua λi hi=> ?_;have v:i<=d:=by have:=S_.1 hi;omega
 rw[show(Ya A f++k::Ya B q).set A.length i=Ya A f++i::Ya B q by rw[<-Q];exact xH _ _ _ _,<-sA (B:=B) Y v,LB (yx Y v R)]
def iF(A)(n c:Nat)(ns)(w)(J:Sl w A n 1 (Pa (Ha ns)))(B:n<=1000)(g:∀d∈ns,d<=255)(o:ea ns<=1000000):Zc 300 #[.slice A n c] w (.int .i64 (ea ns:Nat)):=by
 have I:=Hp.start w;have m:ns.length=n:=by have:=J.1;simpa[Pa,Ha] using this
 refine Ca func300 ?_;refine fa ?_;refine Fi 3 8 (λy v V=>∃i:Nat,i<=n/\v=.int .i64 i/\y=.int .i64 (ea (ns.take i):Nat)/\Hp w [] V) (λ_ v _=>n-(intOf v).toNat) ?_ ?_
 .exact⟨0,J' _,rfl,rfl,I⟩
 clear I;rintro ρ' y v V ⟨i,hi,rfl,rfl,I⟩;by_cases D:i<n
 .obtain⟨d,T⟩:=aa (l:=ns) (k:=i) Z';have S:=Ic (ue T);have r:=g d (N' T);obtain⟨b,rfl,H⟩:=J.at_ Z';have x:=tg ns (i+1);have W:=tg ns i;have z:ea (ns.take (i+1))=ea (ns.take i)*(d+1):=by rw[ja T,Qc];simp[ea]
  have N:((ea (ns.take i):Nat):Int)*((d:Int)+1)=((ea (ns.take (i+1)):Nat):Int):=by rw[z,F9,V8];rfl
  refine eu ?_;rw[N];refine⟨⟨i+1,Z',rfl,rfl,I⟩,by show n-(i+1)<n-i;omega, ?_⟩;exact Wb
 refine fa ?_;rw[w' Z'];exact⟨rfl,I.below⟩
def tB(ns:List Nat):Bool:=ns.any (λd=>decide (127<d))||decide (4096<ea ns)
def dI(A)(n c:Nat)(ns)(w)(J:Sl w A n 1 (Pa (Ha ns)))(B:n<=1000)(g:∀d∈ns,d<=1000):Zc 273 #[.slice A n c] w (.bool (tB ns)):=by
 have I:=Hp.start w;have m:ns.length=n:=by have:=J.1;simpa[Pa,Ha] using this
 refine Ca func273 ?_;refine fa ?_;refine Fi 3 8 (λy v V=>∃i:Nat,i<=n/\v=.int .i64 i/\y=.int .i64 (ea (ns.take i):Nat)/\ea (ns.take i)<=4096/\(ns.take i).any (λd=>decide (127<d))=false/\Hp w [] V) (λ_ v _=>n-(intOf v).toNat) ?_ ?_
 .exact⟨0,J' _,rfl,rfl,by show 1<=4096;decide,rfl,I⟩
 clear I;rintro ρ' y v V ⟨i,hi,rfl,rfl,W,X,I⟩;by_cases D:i<n
 .obtain⟨d,T⟩:=aa (l:=ns) (k:=i) Z';have S:=Ic (ue T);have r:=g d (N' T);obtain⟨b,rfl,H⟩:=J.at_ Z';have x:=tg ns (i+1);have z:ea (ns.take (i+1))=ea (ns.take i)*(d+1):=by rw[ja T,Qc];simp[ea]
  have E:ea (ns.take i)*(d+1)<=4096*1001:=G9 W Z';have N:((ea (ns.take i):Nat):Int)*((d:Int)+1)=((ea (ns.take (i+1)):Nat):Int):=by rw[z,F9,V8];rfl
  by_cases h1:127<d
  .refine eu ?_;refine⟨?_,I.below⟩;unfold tB;rw[W9.2 ⟨d,N' T,m' h1⟩];rfl
  by_cases h2:4096<ea (ns.take (i+1))
  .refine eu ?_;refine⟨?_,I.below⟩;unfold tB;rw[m' (show 4096<ea ns by omega),Bool.or_true]
  refine eu ?_;rw[N];refine⟨⟨i+1,Z',rfl,rfl,Z', ?_,I⟩,by show n-(i+1)<n-i;omega, ?_⟩
  .rw[ja T,B8,X,k8,O7,k' h1];rfl
  exact Wb
 rw[w' Z'] at W X;refine fa ?_;refine⟨?_,I.below⟩;unfold tB;rw[X,k' Z'];rfl
variable {α:Type}
def YB{l:List α}(Q:l.length=n)(u:k<n):l[n-1-k]?=l.reverse[k]?:=by rw[z8 Z',Q]
def wN:∀{X Y:List Nat}{d r:Nat},X.length=Y.length->Jc (X++[d]) (Y++[r])=Jc X Y+ea X*r:=λ{X Y d r} h=>by
 rw[bk h.symm];simp[Jc]
def Ck(X:List Nat)(d:Nat):ea (X++[d])=ea X*(d+1):=by rw[Qc];simp[ea]
def HC:∀{R:List Nat}{k d:Nat} (p:Nat),R[k]?=some d->(Ya R p)[k]?=some (p/ea (R.take k) % (d+1))
 |[],_,_,_,h=>by simp at h
 |e::R,0,d,p,h=>by
  obtain rfl:e=d:=by simpa using h
  show some (p % (e+1))=_;rw[Y8,ea,Y7]
 |e::R,k+1,d,p,h=>(by show(Ya R (p/(e+1)))[k]?=_;rw[HC (p/(e+1)) (by simpa using h),X7,ea,l9])
def FJ:∀{a b:List Nat}{k x y:Nat},a[k]?=some x->b[k]?=some y->(md a b)[k]?=some (x+y)
 |[],_,_,_,_,h,_=>by simp at h
 |_::_,[],_,_,_,_,h=>by simp at h
 |p::a,q::b,0,x,y,h1,h2=>by
  obtain rfl:p=x:=by simpa using h1
  obtain rfl:q=y:=by simpa using h2
  rfl
 |p::a,q::b,k+1,x,y,h1,h2=>(by show(md a b)[k]?=_;exact FJ (by simpa using h1) (by simpa using h2))
def AG:∀{ds rs:List Nat} (k:Nat),ph ds rs->ph (ds.take k) (rs.take k)
 |[],[],_,_=>by simp[ph]
 |_::_,_::_,0,_=>trivial
 |d::ds,r::rs,k+1,h=>⟨h.1,AG k h.2⟩
def nU:∀{ds rs:List Nat}{k d r:Nat},ph ds rs->ds[k]?=some d->rs[k]?=some r->r<=d
 |[],_,_,_,_,_,h,_=>by simp at h
 |_::_,[],_,_,_,_,_,h=>by simp at h
 |d::ds,r::rs,0,_,_,h,h1,h2=>(by simp only[q7,g9] at h1 h2;subst h1 h2;exact h.1)
 |d::ds,r::rs,k+1,_,_,h,h1,h2=>nU (k:=k) h.2 (by simpa using h1) (by simpa using h2)
def jB(F T Y)(n X L N:Nat)(ns ts a)(p:Nat)(w)(P:Sl w F n 1 (Pa (Ha ns)))(r:Sl w T n 1 (Pa (Ha ts)))(s:Sl w Y n 1 (Pa (Ha a))) (hn:n<=1000)(y:ph ts.reverse (md (Ya ns.reverse p) a.reverse))(B:ea ts<=1000000)(g:∀d∈ns,d<=1000)(M:∀d∈ts,d<=1000)(hp:p<=1000000):Zc 302 #[.slice F n X,.slice T n L,.slice Y n N,.int .i64 p] w (.int .i64 (Jc ts.reverse (md (Ya ns.reverse p) a.reverse):Nat)):=by
 have I:=Hp.start w;have u:ns.length=n:=by have:=P.1;simpa[Pa,Ha] using this
 have b:ts.length=n:=by have:=r.1;simpa[Pa,Ha] using this
 have e:a.length=n:=by have:=s.1;simpa[Pa,Ha] using this
 generalize K:md (Ya ns.reverse p) a.reverse=row at*;have A:row.length=n:=by rw[<-K,FG (by rw[Jm,F_,F_,u,e]),Jm,F_,u]
 refine Ca func302 ?_;refine fa ?_;refine PT [3,9,10,11,12,16,17,18,19,20,21,22,23,24,25,26,27,28,29,30,31,32,33,34,35,36,37,38,39,40,41,42,43,44,45,46,47,48,49,50] 3 9 10 11 (λE G v10 v V=>∃k:Nat,k<=n/\v=.int .i64 ((n:Int)-1-k)/\E=.int .i64 (p/ea (ns.reverse.take k):Nat)/\G=.int .i64 (Jc (ts.reverse.take k) (row.take k):Nat)/\v10=.int .i64 (ea (ts.reverse.take k):Nat)/\Hp w [] V) (λ_ _ _ v _=>(intOf v+1).toNat) ?_ ?_
 .refine⟨0,J' _, ?_, ?_,rfl,rfl,I⟩
  .exact W0
  rw[Y8,ea,Y7];rfl
 clear I;rintro ρ' E G v10 v V ⟨k,hk,rfl,rfl,rfl,rfl,I⟩;by_cases D:k<n
 .obtain⟨d,f⟩:=aa (l:=ns.reverse) (k:=k) (by rw[F_];omega);obtain⟨t,S⟩:=aa (l:=ts.reverse) (k:=k) (by rw[F_];omega);obtain⟨j,hj⟩:=aa (l:=a.reverse) (k:=k) (by rw[F_];omega);have h:=YB u D;have c:=YB b D;have z:=YB e D;rw[f] at h;rw[S] at c;rw[hj] at z;have hgd:=Ic (ue h);have hgt:=Ic (ue c);have hgj:=Ic (ue z);have hd2:=g d (N' h);have ht2:=M t (N' c);have H:row[k]?=some (p/ea (ns.reverse.take k) % (d+1)+j):=by rw[<-K];exact FJ (HC p f) hj
  have hrt:=nU y S H;have hcp:=Pb (ns.reverse.take k);have hq:p/ea (ns.reverse.take k)<=p:=H8 _ _;have x:=tg ts.reverse (k+1);rw[Cc,ja S,Ck] at x;have hck:ea (ts.reverse.take k)*1<=ea (ts.reverse.take k)*(t+1):=D_ _ Z';have hhl:Jc (ts.reverse.take k) (row.take k)<ea (ts.reverse.take k):=Th (AG k y);have Q:((p/ea (ns.reverse.take k):Nat):Int) % ((d:Int)+1)=((p/ea (ns.reverse.take k) % (d+1):Nat):Int):=by rw[Int.natCast_emod];rfl
  have R:((p/ea (ns.reverse.take k):Nat):Int)/((d:Int)+1)=((p/ea (ns.reverse.take (k+1)):Nat):Int):=by rw[ja f,Ck,<-l9,Int.natCast_ediv];rfl
  have o:Jc (ts.reverse.take (k+1)) (row.take (k+1))=Jc (ts.reverse.take k) (row.take k)+ea (ts.reverse.take k)*(p/ea (ns.reverse.take k) % (d+1)+j):=by rw[ja S,ja H,wN (by rw[p',p',F_,b,A])]
  have e3:(((p/ea (ns.reverse.take k) % (d+1):Nat):Int)+(j:Int))*((ea (ts.reverse.take k):Nat):Int)=((ea (ts.reverse.take k)*(p/ea (ns.reverse.take k) % (d+1)+j):Nat):Int):=by rw[V_,F9,V8]
  have e4:((ea (ts.reverse.take k):Nat):Int)*((t:Int)+1)=((ea (ts.reverse.take (k+1)):Nat):Int):=by rw[ja S,Ck,F9,V8];rfl
  have hb3:ea (ts.reverse.take k)*(p/ea (ns.reverse.take k) % (d+1)+j)<=ea (ts.reverse.take k)*(t+1):=D_ _ Z';have hc5:ea (ts.reverse.take (k+1))=ea (ts.reverse.take k)*(t+1):=by rw[ja S,Ck]
  generalize p/ea (ns.reverse.take k)=q at*;generalize q % (d+1)=m at*;generalize ea (ts.reverse.take k)=C at*;generalize Jc (ts.reverse.take k) (row.take k)=J at*;obtain⟨a1,rfl,s1⟩:=P.at_ Z';obtain⟨a2,rfl,s2⟩:=r.at_ Z';obtain⟨a3,rfl,s3⟩:=s.at_ Z';refine fa ?_;refine ud 11 I ?_;refine Ui ((n-1-k)) ?_;refine Ma (i:=4) (λU Z hj hR=>Ba pa.out (show U 23=Value.pointer _ from hR.1) ((s1.ext hj.hp.below).Yr (by assumption))) ?_;refine wb ?_;refine Ma (i:=6) (λU Z hj hR=>rl (show U 20=Value.int _ _ from hR.1) (show U 25=Value.int _ _ from hR.2.1) Z' Z') ?_;refine wb ?_;refine Ui ((n-1-k)) ?_;refine Ma (i:=10) (λU Z hj hR=>Ba pa.out (show U 29=Value.pointer _ from hR.1) ((s3.ext hj.hp.below).Yr (by assumption))) ?_;refine dn ?_;intro W I;rw[Q];refine Gi (aI (na (sr (mI (mL (mI ?_))))));refine YP ?_;refine Gi ?_;refine sv (Rm rfl rfl Z' Z' Z') ?_;refine aI (na (sr (mI (mI (mI ?_)))));refine mulC ?_;refine Gi (aI (na (Hb (mI (mL (mI ?_))))));refine sv (pb (k:=(n-1-k)) Qa.out pa.size rfl rfl Z' Z') ?_;refine sv (Ba pa.out rfl ((s2.ext I.below).Yr (by assumption))) ?_;refine fa ?_
  refine⟨⟨k+1,Z', ?_, ?_, ?_, ?_,I⟩,by show((n:Int)-1-(k:Int)-1+1).toNat<((n:Int)-1-(k:Int)+1).toNat;omega, ?_⟩
  .exact ad5
  .exact Y_ (Value.int IntKind.i64) R
  .exact Y_ (Value.int IntKind.i64) (show(J:Int)+((m:Int)+(j:Int))*(C:Int)=_ by rw[e3,o,V8])
  .exact Y_ (Value.int IntKind.i64) e4
  exact Wb
 obtain rfl:k=n:=Z';refine fa ?_;rw[w' (by rw[F_];omega),w' Z'];exact⟨rfl,I.below⟩
def jw(a:List Int)(x y:Int)(b)(n:Nat)(h:a.length=n):(a++x::b).set n y=a++y::b:=by
 subst h;rw[F8 _ _ (E' _),u_,j']
def Wv(F)(n X:Nat)(ns)(p:Nat)(w)(P:Sl w F n 1 (Pa (Ha ns)))(B:n<=1000)(b:∀d∈ns,d<=1000)(hp:p<=1000000):Calls prog 301 #[.slice F n X,.int .i64 p] w λr V=>∃A c',r=.returned (.slice A n c')/\V.ownsRow w.heap.size 3 1 (.slice A n c') n (Pa (Ha (Ya ns.reverse p).reverse))/\Below w.heap.size w V:=by
 have I:=Hp.start w;have u:ns.length=n:=by have:=P.1;simpa[Pa,Ha] using this
 have W:(Ya ns.reverse p).length=n:=by rw[Jm,F_,u]
 refine Ca func301 ?_;refine fa ?_;refine qG ?_;intro C z I;refine fa ?_;rw[show Value.int IntKind.i64 0=Value.int IntKind.i64 0 from rfl] at I;have M:Bg n [Value.int .i64 0]=Pa (Ld n):=by rw[Gn];simp[Pa,Ld]
 rw[M] at I;refine Fi 1 6 (λv1 v V=>∃k:Nat,k<=n/\v=.int .i64 ((n:Int)-1-k)/\v1=.int .i64 (p/ea (ns.reverse.take k):Nat)/\Hp w [.row (some ⟨C,0,none⟩) n n 3 1 (Pa (Ld (n-k)++Ha ((Ya ns.reverse p).take k).reverse))] V) (λ_ v _=>(intOf v+1).toNat) ?_ ?_
 .refine⟨0,J' _, ?_, ?_, ?_⟩
  .exact W0
  .rw[Y8,ea,Y7];rfl
  rw[Y8];simpa[Ha] using I
 clear I;rintro ρ' v1 v V ⟨k,f,rfl,rfl,I⟩;by_cases D:k<n
 .obtain⟨d,T⟩:=aa (l:=ns.reverse) (k:=k) (by rw[F_];omega);have h:=YB u D;rw[T] at h;have j:=Ic (ue h);have c:=b d (N' h);have a:=HC p T;have R:p/ea (ns.reverse.take k)<=p:=H8 _ _;have N:((p/ea (ns.reverse.take k):Nat):Int) % ((d:Int)+1)=((p/ea (ns.reverse.take k) % (d+1):Nat):Int):=by rw[Int.natCast_emod];rfl
  have L:((p/ea (ns.reverse.take k):Nat):Int)/((d:Int)+1)=((p/ea (ns.reverse.take (k+1)):Nat):Int):=by rw[ja T,Ck,<-l9,Int.natCast_ediv];rfl
  have hlen:(Ld (n-k)++Ha ((Ya ns.reverse p).take k).reverse).length=n:=by simp[Ld,Ha,W];omega
  have e:(Pa (Ld (n-k)++Ha ((Ya ns.reverse p).take k).reverse)).length=n:=by rw[Cb,hlen]
  generalize p/ea (ns.reverse.take k)=q at*;obtain⟨J,rfl,s1⟩:=P.at_ Z';refine xa (sr (mI ?_));refine Ny (na (cT (Fb (Za (xa (td (sr (mL (mI (mI (mL (mI ?_))))))))))));refine YP ?_;refine Gi ?_;refine sv (rl rfl rfl Z' Z') ?_;refine sv (Lc (k:=(n-1-k)) Qa.out pa.size rfl rfl Z' Z') ?_;rw[N];refine Xa I (i:=0) (vs:=[_]) rfl rfl (Xb rfl) rfl pa.out rfl Z' rfl ?_;intro ws I;simp only[j'] at I;rw[Tj _ Z'] at I;refine na (Hb (mI (mL (mI ?_))));refine YP ?_;refine fa ?_;refine⟨⟨k+1,Z', ?_, ?_, ?_⟩,by show((n:Int)-1-(k:Int)-1+1).toNat<((n:Int)-1-(k:Int)+1).toNat;omega, ?_⟩
  .exact ad5
  .exact Y_ (Value.int IntKind.i64) L
  .have H:(Ld (n-k)++Ha ((Ya ns.reverse p).take k).reverse).set (n-1-k) ((q % (d+1):Nat):Int)=Ld (n-(k+1))++Ha ((Ya ns.reverse p).take (k+1)).reverse:=(by have o:Ld (n-k)=Ld (n-(k+1))++[0]:=(by unfold Ld;rw[show n-k=n-(k+1)+1 by omega,List.replicate_succ']);rw[o,H_,List.singleton_append,jw _ _ _ _ _ (by rw[pq];omega),ja a];simp[Ha]);rw[H] at I;exact I
  exact Wb
 obtain rfl:k=n:=Z';rw[w' Z',u_] at I;exact jE
def Od(a b:List Nat):List Nat:=List.zipWith (· + ·) a b
def QR{a b:List Nat}(h:a.length=b.length):(Od a b).length=a.length:=by simp[Od,h]
def aK{a b:List Nat}{i x y:Nat}(h1:a[i]?=some x)(h2:b[i]?=some y):(Od a b)[i]?=some (x+y):=by
 unfold Od;rw[n9,h1,h2]
def SJ:∀(a b:List Nat),md a b=Od a b
 |[],[]=>rfl
 |[],_::_=>rfl
 |_::_,[]=>rfl
 |x::a,y::b=>by rw[md,SJ a b];rfl
def bq{a b:List Nat}(h:a.length=b.length):md a.reverse b.reverse=(Od a b).reverse:=by
 rw[SJ];exact(List.reverse_zipWith h).symm
def mO{L M:List (Nat×Dyadic)}(h:∀q∈M,q.2=0):gh N (L++M)=gh N L:=by
 unfold gh;refine z9 λp _=> ?_;rw[Ik,rq (l:=M) λq R=>by rw[h q R];split<;>rfl];grind
def KD(N:Nat):Bg N [.bool false,.string (ByteArray.mk #[]),.int .i64 0]=ia NR.cells ((gh N []).map nR):=by
 rw[Hx,List.map_replicate]
 induction N with
 |zero=>rfl
 |succ n W=>rw[S7,uh,<-W];rfl
def ey(ds es:List Nat)(xs ys:List Dyadic)(k:Nat):List (Nat×Dyadic):=(List.range k).flatMap λk=>(List.range (ea ds)).map λi=>(Jc (md ds es) (md (Ya ds i) (Ya es k)),(xs[i]?).getD 0*(ys[k]?).getD 0)
def Dv(ds es)(xs ys)(k:Nat):ey ds es xs ys (k+1)=ey ds es xs ys k++(List.range (ea ds)).map λi=>(Jc (md ds es) (md (Ya ds i) (Ya es k)),(xs[i]?).getD 0*(ys[k]?).getD 0):=by
 unfold ey;rw[A9,c8,U5]
def GJ(ds es)(xs ys)(k:Nat):(ey ds es xs ys k).length=k*ea ds:=by
 unfold ey;rw[Au (m:=ea ds) _ _ λa _=>by simp,V9]
def eJ{ds:List Nat}{ys:List Dyadic}{k1 k2:Nat}(C:∀x∈xs,Sz k1 x)(hy:∀y∈ys,Sz k2 y)(k:Nat):∀q∈ey ds es xs ys k,Sz (k1+k2) q.2:=λq R=>by
 unfold ey at R;obtain⟨j,_,R⟩:=E8.1 R;obtain⟨i,_,rfl⟩:=B'.1 R;refine Sz.mul ?_ ?_
 .cases h:xs[i]? with
  |none=>exact Sz.zero _
  |some x=>exact C x (N' h)
 cases h:ys[j]? with
 |none=>exact Sz.zero _
 |some y=>exact hy y (N' h)
def wF{ns ms:List Nat}(Q:ns.length=ms.length)(i k:Nat):ph (Od ns ms).reverse (md (Ya ns.reverse i) (Ya ms.reverse k)):=by
 rw[<-bq Q];exact ov (Xg _ _) (Xg _ _) (by rw[F_,F_,Q])
def DA(ns ms:List Nat)(xs ys:List Dyadic):List Dyadic:=gh (ea (Od ns ms)) (ey ns.reverse ms.reverse xs ys (ea ms))
def NB(F FC G GC:Option Addr)(n M c2 P c4:Nat)(ns ms:List Nat)(xs ys:List Dyadic)(k1 k2:Nat)(w:World)(hT:Gc w) (hF:Sl w F n 1 (Pa (Ha ns)))(hFC:Sl w FC (ea ns) 3 (ia NR.cells (xs.map nR)))(hG:Sl w G n 1 (Pa (Ha ms)))(hGC:Sl w GC (ea ms) 3 (ia NR.cells (ys.map nR))) (hn:n<=12)(Y:∀d∈ns,d<=127)(S:∀d∈ms,d<=127)(hN:ea (Od ns ms)<=4096)(hM:ea ms*ea ns<=1000000)(hx:∀x∈xs,Sz k1 x)(hy:∀y∈ys,Sz k2 y)(hk:k1+k2<=100000):Calls prog 274 #[.agg #[.slice F n M,.slice FC (ea ns) c2],.agg #[.slice G n P,.slice GC (ea ms) c4]] w λr V=>∃A a B b,r=.returned (.agg #[.slice A n a,.slice B (ea (Od ns ms)) b])/\Hp w [.row B (ea (Od ns ms)) b 30 3 (ia NR.cells ((DA ns ms xs ys).map nR)),.row A n a 3 1 (Pa (Ha (Od ns ms)))] V:=by
 have I:=Hp.start w;have hl1:ns.length=n:=by have:=hF.1;simpa[Pa,Ha] using this
 have hl2:ms.length=n:=by have:=hG.1;simpa[Pa,Ha] using this
 have hlx:xs.length=ea ns:=by have:=hFC.sa NR.len V';simpa using this
 have hly:ys.length=ea ms:=by have:=hGC.sa NR.len V';simpa using this
 have hpn:=Pb ns;have hpm:=Pb ms;have hMn:1*ea ns<=ea ms*ea ns:=c_ _ hpm;have hMm:ea ms*1<=ea ms*ea ns:=D_ _ hpn;obtain⟨a4,rfl,s4⟩:=hGC.at_ hpm;obtain⟨a5,rfl,s5⟩:=hFC.at_ hpn;have hla:(Od ns ms).length=n:=by rw[QR Z',hl1]
 have s:∀d∈Od ns ms,d<=254:=λd T=>(by obtain⟨i,hi⟩:=C_.1 T;have hi2:=(x'.1 hi).1;obtain⟨x,c⟩:=aa (l:=ns) (k:=i) Z';obtain⟨y,g⟩:=aa (l:=ms) (k:=i) Z';rw[aK c g] at hi;have:=Y x (N' c);have:=S y (N' g);have:=i' hi;omega);have hzr:Bg n [Value.int .i64 0]=Pa (Ld n):=by rw[Gn];simp[Pa,Ld]
 refine Ca (l:=[.agg #[.slice F n M,.slice (some a5) (ea ns) c2],.agg #[.slice G n P,.slice (some a4) (ea ms) c4]]) func274 ?_;refine Am ?_;intro b2 w2 I b3 w3 I b4 w4 I;refine qG ?_;intro t w16 I;refine yb ?_;intro b5 w5 I ws I;rw[hzr] at I;refine bf 21 (λv V=>∃i:Nat,i<=n/\v=.int .i64 i/\Hp w [.blk b5 78 [.slice (some ⟨t,0,none⟩) n n,.slice none 0 0] (0,0),.row (some ⟨t,0,none⟩) n n 3 1 (Pa (Ha ((Od ns ms).take i)++Ld (n-i))),.blk b4 78 [.slice none 0 0,.slice none 0 0] (0,0),.blk b3 78 [.slice G n P,.slice (some a4) (ea ms) c4] (0,0),.blk b2 78 [.slice F n M,.slice (some a5) (ea ns) c2] (0,0)] V) (λv _=>n-(intOf v).toNat) ?_ ?_
 .exact⟨0,J' _,rfl,I⟩
 clear I;rintro ρ' v V ⟨i,hi,rfl,I⟩;by_cases hlt:i<n
 .obtain⟨x,c⟩:=aa (l:=ns) (k:=i) Z';obtain⟨y,g⟩:=aa (l:=ms) (k:=i) Z';have hgx:=Ic (ue c);have hgy:=Ic (ue g);have hxy:=aK c g;have hx2:=Y x (N' c);have hy2:=S y (N' g);have htl:(Ha ((Od ns ms).take i)).length=i:=by rw[Ub,p'];omega
  have hil:(Pa (Ha ((Od ns ms).take i)++Ld (n-i))).length=n:=by rw[Cb,y',htl,pq];omega
  obtain⟨a1,rfl,s1⟩:=hF.at_ Z';obtain⟨a2,rfl,s2⟩:=hG.at_ Z';refine fa ?_;refine Ak 14 I ?_;refine wb ?_;refine Ui (i) ?_;refine Ma (i:=7) (λU Z hj hR=>Ba pa.out (show U 30=Value.pointer _ from hR.1) ((s1.ext hj.hp.below).Yr (by assumption))) ?_;refine wb ?_;refine Ui (i) ?_;refine Ma (i:=12) (λU Z hj hR=>Ba pa.out (show U 35=Value.pointer _ from hR.1) ((s2.ext hj.hp.below).Yr (by assumption))) ?_;refine wb ?_;refine dn ?_;intro W I;refine fa ?_;refine US ?_;intro ws I;simp only[j',t_] at I;rw[Tj _ (by rw[<-Cb,hil];exact hlt)] at I;have e5:(Ha ((Od ns ms).take i)++Ld (n-i)).set i ((x:Int)+(y:Int))=Ha ((Od ns ms).take (i+1))++Ld (n-(i+1)):=(by have hz:Ld (n-i)=0::Ld (n-(i+1)):=(by unfold Ld;rw[show n-i=n-(i+1)+1 by omega,S7]);rw[hz,jw _ _ _ _ _ htl,ja hxy];simp[Ha]);rw[e5] at I;refine fa ?_;exact UG
 obtain rfl:i=n:=Z';rw[w' Z',u_] at I;replace I:Hp w [.blk b5 78 [.slice (some ⟨t,0,none⟩) i i,.slice none 0 0] (0,0),.row (some ⟨t,0,none⟩) i i 3 1 (Pa (Ha (Od ns ms))),.blk b4 78 [.slice none 0 0,.slice none 0 0] (0,0),.blk b3 78 [.slice G i P,.slice (some a4) (ea ms) c4] (0,0),.blk b2 78 [.slice F i M,.slice (some a5) (ea ns) c2] (0,0)] V:=(by have:Ha (Od ns ms)++Ld 0=Ha (Od ns ms):=M_ _;rw[this] at I;exact I);have hsz:=λZ N=>iF (some ⟨t,0,none⟩) i i (Od ns ms) Z N Z' (λd T=>by have:=s d T;omega) Z';have K:=KD (ea (Od ns ms));refine fa ?_;refine cd I (hsz _ (I.ma (i:=1) rfl)) ?_;intro w42 I;refine Ee (n:=(ea (Od ns ms))) I rfl rfl Z' Z' Qa.out pa.out rfl Z' Z' V' ?_;intro o w43 I;refine Bb ?_;intro ws I;rw[K] at I;clear hsz K hzr;have C:gh (ea (Od ns ms)) []=gh (ea (Od ns ms)) (ey ns.reverse ms.reverse xs ys 0):=rfl;rw[C] at I;unfold DA;have hk12:=hk;clear hk;refine bf 48 (λv V=>∃k:Nat,k<=ea ms/\v=.int .i64 k/\Hp w [.row (some ⟨o,0,none⟩) (ea (Od ns ms)) (ea (Od ns ms)) 30 3 (ia NR.cells ((gh (ea (Od ns ms)) (ey ns.reverse ms.reverse xs ys k)).map nR)),.blk b5 78 [.slice (some ⟨t,0,none⟩) i i,.slice (some ⟨o,0,none⟩) (ea (Od ns ms)) (ea (Od ns ms))] (0,0),.row (some ⟨t,0,none⟩) i i 3 1 (Pa (Ha (Od ns ms))),.blk b4 78 [.slice none 0 0,.slice none 0 0] (0,0),.blk b3 78 [.slice G i P,.slice (some a4) (ea ms) c4] (0,0),.blk b2 78 [.slice F i M,.slice (some a5) (ea ns) c2] (0,0)] V) (λv _=>ea ms-(intOf v).toNat) ?_ ?_
 .exact⟨0,J' _,rfl,I⟩
 clear I C;rintro ρ2 v w2 ⟨k,hk,rfl,I⟩;by_cases hkm:k<ea ms
 .obtain⟨L,E⟩:=aa (l:=ys) (k:=k) Z';have hyn:(ys.map nR)[k]?=some (nR L):=by rw[z',E];rfl
  have zy:=hy L (N' E);have p:=λZ=>jc (nR L) Z;rw[NR.sign,Ga] at p;by_cases hy0:L=0
  .subst hy0;rw[Jo] at p;refine fa ?_;refine sv (Ka (vs:=[_,_,_]) pa.out rfl ((s4.ext I.below).recAt NR.len hyn) rfl) ?_;refine yb ?_;intro b8 w8 I ws I;refine cd I (p _) ?_;intro w54 I;refine fa ?_;replace I:=I.sub (G' _ (O' _ (O' _ (O' _ (O' _ (O' _ (O' _ Z_)))))));refine⟨⟨k+1,Z',rfl, ?_⟩,by show ea ms-(k+1)<ea ms-k;omega, ?_⟩
   .rw[Dv,mO λq R=> ?_]
    .exact I
    obtain⟨i,_,rfl⟩:=B'.1 R;show(xs[i]?).getD 0*(ys[k]?).getD 0=0;rw[E];show(xs[i]?).getD 0*0=0;grind
   exact Wb
  have hne:We L 0≠0:=by
   obtain h|h|h:=jP L 0
   .rw[Zl h];decide
   .exact absurd h hy0
   rw[Bp h];decide
  generalize We L 0=sg at*;refine fa ?_;refine sv (Ka (vs:=[_,_,_]) pa.out rfl ((s4.ext I.below).recAt NR.len hyn) rfl) ?_;refine yb ?_;intro b8 w8 I ws I;refine cd I (p _) ?_;intro w54 I;refine fa ?_;refine lW I (Wv G i P ms k _ (hG.ext I.below) Z' (λd T=>by have:=S d T;omega) Z') rfl ?_;intro A59 c59 w59 I;refine fa ?_;refine bf 63 (λv V=>∃j:Nat,j<=ea ns/\v=.int .i64 j/\Hp w [.row A59 i c59 3 1 (Pa (Ha (Ya ms.reverse k).reverse)),.blk b8 30 [.bool (nR L).neg,.string (nR L).Va,.int .i64 (nR L).e] (0,0),.row (some ⟨o,0,none⟩) (ea (Od ns ms)) (ea (Od ns ms)) 30 3 (ia NR.cells ((gh (ea (Od ns ms)) (ey ns.reverse ms.reverse xs ys k++(List.range j).map (λi=>(Jc (md ns.reverse ms.reverse) (md (Ya ns.reverse i) (Ya ms.reverse k)),(xs[i]?).getD 0*(ys[k]?).getD 0)))).map nR)),.blk b5 78 [.slice (some ⟨t,0,none⟩) i i,.slice (some ⟨o,0,none⟩) (ea (Od ns ms)) (ea (Od ns ms))] (0,0),.row (some ⟨t,0,none⟩) i i 3 1 (Pa (Ha (Od ns ms))),.blk b4 78 [.slice none 0 0,.slice none 0 0] (0,0),.blk b3 78 [.slice G i P,.slice (some a4) (ea ms) c4] (0,0),.blk b2 78 [.slice F i M,.slice (some a5) (ea ns) c2] (0,0)] V) (λv _=>ea ns-(intOf v).toNat) ?_ ?_
  .refine⟨0,J' _,rfl, ?_⟩;rw[List.range_zero,R9,M_];exact I
  clear I;rintro ρ3 v w3 ⟨j,hj,rfl,I⟩;by_cases hjn:j<ea ns
  .obtain⟨J,hxj⟩:=aa (l:=xs) (k:=j) Z';have hxn:(xs.map nR)[j]?=some (nR J):=by rw[z',hxj];rfl
   have zx:=hx J (N' hxj);have hpl:=λZ h1 h2 h3=>jB F (some ⟨t,0,none⟩) A59 i M i c59 ns (Od ns ms) (Ya ms.reverse k).reverse j Z h1 h2 h3 Z' (by rw[U6];exact wF Z' _ _) Z' (λd T=>by have:=Y d T;omega) (λd T=>by have:=s d T;omega) Z';simp only[U6,<-bq (show ns.length=ms.length by omega)] at hpl;have hplt:Jc (md ns.reverse ms.reverse) (md (Ya ns.reverse j) (Ya ms.reverse k))<ea (Od ns ms):=(by have:=Th (wF (show ns.length=ms.length by omega) j k);rwa[Cc,<-bq (show ns.length=ms.length by omega)] at this);obtain⟨mv,hold⟩:=aa (l:=gh (ea (Od ns ms)) (ey ns.reverse ms.reverse xs ys k++(List.range j).map (λi=>(Jc (md ns.reverse ms.reverse) (md (Ya ns.reverse i) (Ya ms.reverse k)),(xs[i]?).getD 0*(ys[k]?).getD 0)))) (by rw[ai];exact hplt);have hlen:(ey ns.reverse ms.reverse xs ys k++(List.range j).map (λi=>(Jc (md ns.reverse ms.reverse) (md (Ya ns.reverse i) (Ya ms.reverse k)),(xs[i]?).getD 0*(ys[k]?).getD 0))).length<=1000000:=by
    rw[y',GJ,D',V9,Cc];have:k*ea ns+ea ns<=ea ms*ea ns:=by rw[<-H9];exact c_ _ hkm
    omega
   have m:Sz 1200000 mv:=by
    refine(pB (k:=k1+k2) (λq R=> ?_) mv (N' hold)).mono Z';obtain R|R:=O_.1 R
    .exact eJ hx hy k q R
    refine eJ (ds:=ns.reverse) (es:=ms.reverse) hx hy (k+1) q ?_;rw[Dv];obtain⟨u,hu,rfl⟩:=B'.1 R;exact u9 _ (B'.2 ⟨u,S_.2 (by have:=S_.1 hu;rw[Cc];omega),rfl⟩)
   have hon:((gh (ea (Od ns ms)) (ey ns.reverse ms.reverse xs ys k++(List.range j).map (λi=>(Jc (md ns.reverse ms.reverse) (md (Ya ns.reverse i) (Ya ms.reverse k)),(xs[i]?).getD 0*(ys[k]?).getD 0)))).map nR)[Jc (md ns.reverse ms.reverse) (md (Ya ns.reverse j) (Ya ms.reverse k))]?=some (nR mv):=by rw[z',hold];rfl
   have zxy:Sz 100000 (J*L):=(zx.mul zy).mono hk12;have hmul:=λA cc Z Q N=>Td A 2 cc [nR J,nR L] Z Q N (by simpa using⟨zx.ok Z',zy.ok Z'⟩) 100000 (by simpa[Ga] using⟨zx.mono Z',zy.mono Z'⟩) Z' Z';rw[show Re ([nR J,nR L].map NR.da)=J*L by show 1*(nR J).da*(nR L).da=_;rw[Ga,Ga,x8]] at hmul;have H:=λA cc Z Q N=>zf A 2 cc [nR mv,nR (J*L)] Z Q N (by simpa using⟨m.ok Z',zxy.ok Z'⟩) 1200000 (by simpa[Ga] using⟨m,zxy.mono Z'⟩) Z';rw[show Vl ([nR mv,nR (J*L)].map NR.da)=mv+J*L by simp only[I_,R9,Ga,Sh]] at H;have D:=MA (v:=J*L) hold;have z:ey ns.reverse ms.reverse xs ys k++(List.range (j+1)).map (λi=>(Jc (md ns.reverse ms.reverse) (md (Ya ns.reverse i) (Ya ms.reverse k)),(xs[i]?).getD 0*(ys[k]?).getD 0))=ey ns.reverse ms.reverse xs ys k++(List.range j).map (λi=>(Jc (md ns.reverse ms.reverse) (md (Ya ns.reverse i) (Ya ms.reverse k)),(xs[i]?).getD 0*(ys[k]?).getD 0))++[(Jc (md ns.reverse ms.reverse) (md (Ya ns.reverse j) (Ya ms.reverse k)),J*L)]:=(by rw[A9,G_,<-H_];simp only[I_,R9,hxj,E,J9]);have hfin:gh (ea (Od ns ms)) (ey ns.reverse ms.reverse xs ys k++(List.range (j+1)).map (λi=>(Jc (md ns.reverse ms.reverse) (md (Ya ns.reverse i) (Ya ms.reverse k)),(xs[i]?).getD 0*(ys[k]?).getD 0)))=_:=(Y_ _ z).trans D.symm;clear D z m;have hll:((gh (ea (Od ns ms)) (ey ns.reverse ms.reverse xs ys k++(List.range j).map (λi=>(Jc (md ns.reverse ms.reverse) (md (Ya ns.reverse i) (Ya ms.reverse k)),(xs[i]?).getD 0*(ys[k]?).getD 0)))).map nR).length=ea (Od ns ms):=by rw[D',ai]
   generalize Jc (md ns.reverse ms.reverse) (md (Ya ns.reverse j) (Ya ms.reverse k))=pl at*;generalize gh (ea (Od ns ms)) (ey ns.reverse ms.reverse xs ys k++(List.range j).map (λi=>(Jc (md ns.reverse ms.reverse) (md (Ya ns.reverse i) (Ya ms.reverse k)),(xs[i]?).getD 0*(ys[k]?).getD 0)))=X at*;have hrl:=Wd NR.len (X.map nR);refine fa ?_;refine sv (Ka (vs:=[_,_,_]) pa.out rfl ((s5.ext I.below).recAt NR.len hxn) rfl) ?_;refine yb ?_;intro b11 w11 I ws I;refine cd I (hpl _ (hF.ext I.below) (I.ma (i:=5) rfl) (I.ma (i:=1) rfl)) ?_;intro w74 I;refine fa ?_;refine Ak 14 I ?_;refine wb ?_;refine Xr (pl) ?_;refine Fj [_,_,_] (λ_ hj=>hj.hp.Wc (f:=NR.cells) (x:=nR mv) (l:=X.map nR) (i:=3) rfl NR.len V' hon) ?_;refine wb ?_;refine Wp [_,_,_,_,_,_] ?_;refine Ja (i:=11) (Is (.agg #[.bool (nR (J*L)).neg,.string (nR (J*L)).Va,.int .i64 (nR (J*L)).e])) Is.ext ?_ ?_
   .intro U Z hj hR;obtain⟨A85,c85,h85,s85⟩:=hR.1;exact ib rfl (La fi (qa h85 Wa)) (hmul A85 c85 _ (hT.hp hj.hp) s85) (λ_ _ R=>⟨_,R.1,R.2,rfl⟩)
   refine Wp [_,_,_,_,_,_] ?_;refine Ja (i:=13) (Is (.agg #[.bool (nR (mv+J*L)).neg,.string (nR (mv+J*L)).Va,.int .i64 (nR (mv+J*L)).e])) Is.ext ?_ ?_
   .intro U Z hj hR;obtain⟨A87,c87,h87,s87⟩:=hR.1;exact ib rfl (La fi (qa h87 Wa)) (H A87 c87 _ (hT.hp hj.hp) s87) (λ_ _ R=>⟨_,R.1,R.2,rfl⟩)
   refine Fa ?_;intro f W hJ hV;obtain⟨v88,v87,v86,v85,v84,v83,v82,v81,v80,v79,v78,v77,v76,v75,_⟩:=hV;obtain⟨A85,c85,e85,f85⟩:Rows _ _ _ (f 10) W:=v85;obtain⟨A87,c87,e87,f87⟩:Rows _ _ _ (f 12) W:=v87;replace I:=hJ.hp;refine lg ?_;clear e85 e87 hJ;refine fa ?_;refine ZS ?_;intro ws I;simp only[j',t_] at I;rw[show db (ia NR.cells (X.map nR)) (pl*3) [.bool (nR (mv+J*L)).neg,.string (nR (mv+J*L)).Va,.int .i64 (nR (mv+J*L)).e]=ia NR.cells ((X.map nR).set pl (nR (mv+J*L))) from Jd NR.len Z',<-B9] at I;refine fa ?_;replace I:=I.sub (G' _ (O' _ (O' _ (O' _ (O' _ (O' _ (O' _ (O' _ (O' _ Z_)))))))));refine⟨⟨j+1,Z',rfl,by rw[hfin];exact I⟩,by show ea ns-(j+1)<ea ns-j;omega, ?_⟩;exact Wb
  obtain rfl:j=ea ns:=Z';rw[show ey ns.reverse ms.reverse xs ys k++(List.range (ea ns)).map (λi=>(Jc (md ns.reverse ms.reverse) (md (Ya ns.reverse i) (Ya ms.reverse k)),(xs[i]?).getD 0*(ys[k]?).getD 0))=ey ns.reverse ms.reverse xs ys (k+1) by rw[Dv,Cc]] at I;refine fa ?_;replace I:=I.sub (G' _ (G' _ (O' _ (O' _ (O' _ (O' _ (O' _ (O' _ Z_))))))));refine⟨⟨k+1,Z',rfl,I⟩,by show ea ms-(k+1)<ea ms-k;omega, ?_⟩;exact Wb
 obtain rfl:k=ea ms:=Z';refine Bb ?_;intro ws I;replace I:=I.sub (O' _ (G' _ (O' _ (O' _ (G' _ (G' _ Z_))))));refine bU ?_;exact⟨_,_,_,_,rfl,I.sub (O' _ (O' _ (m_ _)))⟩
structure FX where
 A:Option Addr
 n:Nat
 a:Nat
 B:Option Addr
 m:Nat
 b:Nat
 ds:List Int
 cs:List NR
abbrev FX.V(f:FX):Value:=.agg #[.slice f.A f.n f.a,.slice f.B f.m f.b]
def FX.cells(f:FX):List Value:=[.slice f.A f.n f.a,.slice f.B f.m f.b]
def FX.len(f):(FX.cells f).length=2:=rfl
def FX.v(f:FX):Value:=.agg #[.slice f.A f.n f.a,.slice f.B f.m f.b]
variable {w:World}
structure FX.at_(f:FX)(w:World):Prop where
 dg:Sl w f.A f.n 1 (Pa f.ds)
 nm:Sl w f.B f.m 3 (ia NR.cells f.cs)
def FX.at_.ext{f:FX}{V:World}(h:f.at_ w)(F:Below w.heap.size w V):f.at_ V:=⟨h.dg.ext F,h.nm.ext F⟩
structure FX.Ug(f:FX)(k:Nat):Prop where
 n20:f.n<=1000
 m60:f.m<=100000
 num:∀c∈f.cs,c.ok/\Sz k c.da
def FX.e(f:FX):Int:=fE f.ds f.cs
def ml(f:FX)(k:Nat)(w)(S:Gc w)(h:f.at_ w)(Q:f.Ug k):Zc 96 #[f.V] w (.int .i64 f.e):=
 Ay f.A f.B f.n f.a f.m f.b f.ds f.cs w S h.dg h.nm (by have:=Q.n20;omega) (by have:=Q.m60;omega) λa M=>(Q.num a M).1
def xO(fs:List FX):Bool:=fs.any λf=>decide (f.n≠(fs.map FX.n).headD 0)
def vh(fs:List FX):Int:=match fs.find? (λf=>decide (f.e≠0)) with|some f=>f.e|none=>if fs.length=0\/xO fs=true then 1 else 0
def dH(L)(n c:Nat)(fs)(f:FX)(p:Addr)(w)(e:Sl w L n 2 (ia FX.cells fs))(hp:w.cell? p=some (.slice L n c))(o:0<n):Zc 272 #[f.V,.pointer (some p)] w (.bool (decide (f.n≠(fs.map FX.n).headD 0))):=by
 have I:=Hp.start w;have d:=e.sa FX.len V';obtain⟨g,fs,rfl⟩:∃g l,fs=g::l:=by
  cases fs with
  |nil=>exact absurd d (by show ¬0=n;omega)
  |cons g l=>exact⟨g,l,rfl⟩
 obtain⟨r,rfl,H⟩:=e.at_ o;have k:(((g::fs).map FX.n).headD 0)=g.n:=rfl;rw[k];have J:(g::fs)[0]?=some g:=rfl;by_cases s:f.n=g.n
 .refine u1 ?_;intro T q I;refine Fa ?_;intro f W Q j;have h:=Q.bl;obtain⟨v11,v10,G,Y,t,v6,u,v4,_⟩:=j;replace I:=Q.hp;refine lg ?_;exact gW
 refine u1 ?_;intro T q I;refine dn ?_;intro W I;exact bT
theorem iH(A)(n c:Nat)(l)(g:FuncId)(cap)(p:FX->Bool)(w)(J:Sl w A n 2 (ia FX.cells l))(t:n<=1000000)[la prog g] (s:∀(z:FX)(Z:World),z∈l->Below w.heap.size w Z->Calls prog g (z.V::cap).toArray Z λr V=>r=.returned (.bool (p z))/\Below Z.heap.size Z V):Calls prog 212 #[.slice A n c,.func (.func g) #[] cap.toArray] w λr V=>∃v,r=.returned (.int .i64 v)/\(0<=v↔l.any p=true)/\Below w.heap.size w V:=by
 have I:=Hp.start w;have j:=J.sa FX.len V';refine Ca func212 ?_;refine afJ ?_;clear I;rintro ρ' v V ⟨i,hi,rfl,X,I⟩;by_cases D:i<n
 .obtain⟨z,o⟩:=aa (l:=l) (k:=i) Z';obtain⟨q,rfl,H⟩:=J.at_ Z';have E:=λZ=>s z Z (N' o)
  cases d:p z with
  |true=>
   refine O2 ?_;(unhygienic intros)
   refine Xq ?_;intro I;refine fa ?_;exact⟨_,rfl,⟨λ_=>W9.2 ⟨z,N' o,d⟩,λ_=>by omega⟩,I.below⟩
  |false=>
   refine O2 ?_;(unhygienic intros)
   refine Xq ?_;intro I;refine fa ?_;refine⟨⟨i+1,Z',rfl,by rw[ja o,B8,X,k8,O7,d];rfl,I⟩,by show n-(i+1)<n-i;omega, ?_⟩;exact Wb
 exact OS
def qw(A)(n c:Nat)(l)(g:FuncId)(cap)(p:FX->Bool)(w)(e:Sl w A n 2 (ia FX.cells l))(f:n<=1000000)[la prog g] (s:∀(z:FX)(Z:World),z∈l->Below w.heap.size w Z->Calls prog g (z.V::cap).toArray Z λr V=>r=.returned (.bool (p z))/\Below Z.heap.size Z V):Zc 137 #[.slice A n c,.func (.func g) #[] cap.toArray] w (.bool (l.any p)):=by
 have I:=Hp.start w;refine Ca func137 ?_;refine fa ?_;refine Tc (iH A n c l g cap p _ (e.ext I.below) f s) la.out rfl V' ?_;rintro H j ⟨i,rfl,d,M⟩;refine Xq ?_;intro I
 cases X:l.any p with
 |true=>
  have J:=d.2 X;refine fa ?_;exact⟨rfl,I.below⟩
 |false=>
  have J:¬0<=i:=λh=>by rw[d.1 h] at X;cases X
  refine fa ?_;exact⟨rfl,I.below⟩
def SF(L)(n c:Nat)(fs)(k:Nat)(w)(S:Gc w)(d:Sl w L n 2 (ia FX.cells fs))(B:n<=1000000)(Y:∀f∈fs,f.at_ w)(Q:∀f∈fs,f.Ug k):Zc 225 #[.slice L n c] w (.int .i64 (vh fs)):=by
 have I:=Hp.start w;have m:=d.sa FX.len V';refine Ca func225 ?_;refine Bb ?_;intro G Z I;refine bf 8 (λv V=>∃i:Nat,i<=n/\v=.int .i64 i/\(fs.take i).any (λf=>decide (f.e≠0))=false/\Hp w [.blk G 95 [.slice L n c] (0,0)] V) (λv _=>n-(intOf v).toNat) ?_ ?_
 .exact⟨0,J' _,rfl,rfl,I⟩
 clear I;rintro ρ' v V ⟨i,hi,rfl,X,I⟩;by_cases o:i<n
 .obtain⟨f,C⟩:=aa (l:=fs) (k:=i) Z';have M:=N' C;have E:=λZ P F=>ml f k Z P ((Y f M).ext F) (Q f M);obtain⟨p,rfl,H⟩:=d.at_ Z';by_cases he:f.e=0
  .refine a0 ?_;refine yb ?_;intro D y I ws I;refine cd I (E _ (S.hp I) I.below) ?_;intro g I;refine fa ?_;replace I:=I.sub (G' _ (O' _ Z_));refine⟨⟨i+1,Z',rfl,by rw[ja C,B8,X,k8,O7,k' Z'];rfl,I⟩,by show n-(i+1)<n-i;omega, ?_⟩;exact Wb
  refine a0 ?_;refine yb ?_;intro D y I ws I;refine cd I (E _ (S.hp I) I.below) ?_;intro g I;refine fa ?_;refine⟨?_,I.below⟩;unfold vh;rw[Ks X C (m' he)]
 rw[w' Z'] at X;have j:vh fs=if fs.length=0\/xO fs=true then 1 else 0:=by unfold vh;rw[zh X]
 rw[j];by_cases J:n=0
 .refine fa ?_;exact⟨by rw[P' (.inl Z')],I.below⟩
 have a:V.cell? ⟨G,0,none⟩=some (.slice L n c):=I.se (i:=0) rfl rfl;have W:=λZ F=>qw L n c fs 272 [.pointer (some ⟨G,0,none⟩)] (λf=>decide (f.n≠(fs.map FX.n).headD 0)) Z (d.ext (I.below.trans (F.mono I.below.size))) B (λz q r R=>dH L n c fs z ⟨G,0,none⟩ q ((d.ext (I.below.trans (F.mono I.below.size))).ext R) (Kb R (Kb F a)) Z')
 cases A:xO fs with
 |true=>
  have b:fs.any (λf=>decide (f.n≠(fs.map FX.n).headD 0))=true:=A;refine JS ?_;intro W T I;exact⟨by rw[P' (.inr rfl)],I.below⟩
 |false=>
  have b:fs.any (λf=>decide (f.n≠(fs.map FX.n).headD 0))=false:=A;exact o0
open Go.ChangeShapes Go.WideShapes Go.ChangeAt Go.RowKit Go.ChangeMaps
variable {P:Program}{W:World}{b0 base:Nat}
def aca{H:Type}{enc:TypeId×Value->H}{t e:TypeId}{r:Reach}{sp:Nat->Bool}{held:Bool}{v:Value}{d:DataW H}{X:List MemPlace}(S:P.underlying t=some (.slice e))(he:P.underlying e=some (.int .i64))(E:P.cellsOf e=1) (s:Value.okWide P W r b0 t v)(T:DataW.Trod enc P W base sp held t v d X):∃A n c xs,v=.slice A n c/\Sl W A n 1 (Pa xs)/\n<=maxLen/\∀x∈xs,(Lit.int .i64 x).wf=true:=by
 obtain⟨a,len,cap,rfl⟩:=okWide_slice S s;obtain⟨fuel,Y⟩:=T;obtain⟨h1,_⟩|⟨b,n,k,f,h1,_,h2,G,z,_,g,L⟩:=open_ints S he E Y
 .exact aet
 simp only[Value.cells,R6,Value.slice.injEq,and_true] at h1;obtain⟨rfl,rfl,rfl⟩:=h1;have i:len<=f.length:=by rw[z];split<;>omega
 refine⟨some b,len,cap,f.take len,rfl,⟨by rw[Cb,p'];omega,λ_=>⟨b,rfl,λj u hu=> ?_⟩⟩,Z',λx C=>L x (x9 C)⟩;simp only[Pa,z',y9] at hu;exact adw
set_option maxRecDepth 10000 in
def UO{H:Type}{enc:TypeId×Value->H}{t e:TypeId}{r:Reach}{sp:Nat->Bool}{held:Bool}{v:Value}{d:DataW H}{X:List MemPlace}{k:IntKind}(S:P.underlying t=some (.slice e))(he:P.underlying e=some (.int k))(E:P.cellsOf e=1) (s:Value.okWide P W r b0 t v)(T:DataW.Trod enc P W base sp held t v d X):∃(A:Option Addr)(n c:Nat)(xs:List Int),v=.slice A n c/\Sl W A n 1 (xs.map (Value.int k))/\n<=maxLen/\∀x∈xs,(Lit.int k x).wf=true:=by
 obtain⟨a,len,cap,rfl⟩:=okWide_slice S s;obtain⟨fuel,Y⟩:=T;obtain⟨h1,_⟩|⟨b,n,l,f,h1,_,h2,G,z,_,g,L⟩:=open_ints S he E Y
 .exact aet
 simp only[Value.cells,R6,Value.slice.injEq,and_true] at h1;obtain⟨rfl,rfl,rfl⟩:=h1;have i:len<=f.length:=by rw[z];split<;>omega
 refine⟨some b,len,cap,f.take len,rfl,⟨by rw[D',p'];omega,λ_=>⟨b,rfl,λj u hu=> ?_⟩⟩,Z',λx C=>L x (x9 C)⟩;simp only[z',y9] at hu;exact adw
def iS{H:Type}{enc:TypeId×Value->H}{t e:TypeId}{r:Reach}{sp:Nat->Bool}{held:Bool}{v:Value}{d:DataW H}{X:List MemPlace}(S:P.underlying t=some (.slice e))(he:P.underlying e=some (.int .u8))(E:P.cellsOf e=1) (s:Value.okWide P W r b0 t v)(T:DataW.Trod enc P W base sp held t v d X):∃A n c K,v=.slice A n c/\Sl W A n 1 (bj K)/\n<=maxLen:=by
 obtain⟨A,n,c,xs,h1,h2,G,z⟩:=UO S he E s T;refine⟨A,n,c,xs.map PA,h1, ?_,G⟩;have:bj (xs.map PA)=xs.map (Value.int .u8):=by
  rw[bj,A_];apply z9;intro x C;have a:=z x C;have b:0<=x/\x<=255:=by
   simp only[Lit.wf,l',h'] at a;have N:IntKind.u8.min=0:=by decide
   have L:IntKind.u8.max=255:=by decide
   omega
  simp only[Function.comp,PA,p6];congr 1;omega
 rw[this];exact h2
set_option maxRecDepth 100000 in
def nI{H:Type}{enc:TypeId×Value->H}{r:Reach}{sp:Nat->Bool}{held:Bool}{v:Value}{d:DataW H}{X:List MemPlace} (s:Value.okWide prog W r b0 48 v)(T:DataW.Trod enc prog W base sp held 48 v d X):∃(A:Option Addr)(n c:Nat)(l:List Nat),v=.slice A n c/\Sl W A n 1 (ig l)/\∀c∈l,c<256:=by
 obtain⟨A,n,c,K,h1,h2,_⟩:=iS Tryz.underlying48 Tryz.underlying5 U' s T;refine⟨A,n,c,K.map UInt8.toNat,h1, ?_,λc E=> ?_⟩
 .rw[show ig (K.map UInt8.toNat)=bj K by unfold ig bj;rw[A_];rfl];exact h2
 obtain⟨b,_,rfl⟩:=B'.1 E;exact b.toNat_lt
variable {K Y:Nat}
def acw{P v T:Nat}(A:0<v)(y:0<K)(S:P/K=T)(g:v*K<=Y):P/Y<=T/v:=by
 rw[<-S,l9,V_ K v];exact Nat.div_le_div_left g (Q7 A y)
def mQ{P q:Nat}(g:0<Y)(h:P/Y<=q)(R:q*Y<=P):q=P/Y:=Nat.le_antisymm ((Nat.le_div_iff_mul_le g).2 R) h
def I0{P q:Nat}(g:0<Y)(R:P<q*Y):P/Y<=q-1:=by
 have:=(N9 g).2 R;omega
structure Kx(u c y1 y0 q rh:Nat):Prop where
 e:q*y1+rh=u
 le:(4294967296*u+c)/(4294967296*y1+y0)<=q
 sm:q<=4294967297
variable {C:Nat}
def Xw{u c:Nat}(h1:2147483648<=j)(J:C<4294967296)(E:c<4294967296)(hu:u<4294967296*j+C):Kx u c j C (u/j) (u % j):=by
 have a:=T9 u j;refine⟨by rw[V_];exact a, ?_, ?_⟩
 .refine acw (K:=4294967296) Z' V' (T:=u) ?_ Z';omega
 have:u/j<4294967298:=(by rw[N9 Z'];omega);omega
def OM{u c q d:Nat}(h1:2147483648<=j)(hu:u<4294967296*j+C)(E:c<4294967296)(h:Kx u c j C q d)(F:4294967296<=q\/4294967296*d+c<q*C):1<=q/\Kx u c j C (q-1) (d+j):=by
 obtain⟨e,hle,D⟩:=h;have R:1<=q:=by
  obtain F|F:=F
  .omega
  obtain J|J:=G8 q
  .rw[J,C7] at F;omega
  exact J
 obtain⟨p,rfl⟩:∃p,q=p+1:=⟨q-1,Z'⟩;rw[H9] at e;refine⟨R,⟨by rw[Nat.add_sub_cancel];omega, ?_,Z'⟩⟩;have g:0<4294967296*j+C:=Z';obtain F|F:=F
 .have:(4294967296*u+c)/(4294967296*j+C)<4294967296:=(by rw[N9 g];omega);omega
 refine I0 g ?_;have L:(p+1)*(4294967296*j+C)=4294967296*((p+1)*j)+(p+1)*C:=by rw[n_,S6]
 rw[L,H9 p j];omega
def mz{u c q d:Nat}(h1:2147483648<=j)(J:C<4294967296)(h:Kx u c j C q d)(F:q*C<=4294967296*d+c):q=(4294967296*u+c)/(4294967296*j+C):=by
 obtain⟨e,hle,D⟩:=h;refine mQ Z' hle ?_;have L:q*(4294967296*j+C)=4294967296*(q*j)+q*C:=by rw[n_,S6]
 rw[L];omega
def II{u c q d:Nat}(h1:2147483648<=j)(J:C<4294967296)(h:Kx u c j C q d)(R:q<=4294967296)(F:4294967296<=d):q=(4294967296*u+c)/(4294967296*j+C):=by
 refine mz h1 J h ?_;have h2:q*C<=4294967295*q:=by rw[V_ 4294967295];exact D_ q Z'
 omega
def MF{a c r:Nat}(h:a+c=m+r)(H:r<18446744073709551616):((a % 18446744073709551616+c) % 18446744073709551616+18446744073709551616-m % 18446744073709551616) % 18446744073709551616=r:=by omega
def tH{hi X L y:Nat}(hy:0<y)(h1:X<4294967296)(J:L<4294967296):4294967296*((4294967296*hi+X)/y)+(4294967296*((4294967296*hi+X) % y)+L)/y=(18446744073709551616*hi+(4294967296*X+L))/y/\(4294967296*((4294967296*hi+X) % y)+L) % y=(18446744073709551616*hi+(4294967296*X+L)) % y:=by
 have T:=T9 (4294967296*hi+X) y;generalize (4294967296*hi+X)/y=q at*;generalize (4294967296*hi+X) % y=r at*;have e:18446744073709551616*hi+(4294967296*X+L)=y*(4294967296*q)+(4294967296*r+L):=(by rw[S6];omega);rw[e,Nat.mul_add_div hy,Nat.mul_add_mod];exact⟨rfl,rfl⟩
def fI{xs:List Nat}{a p P:Nat}(h1:xs[a+m]?=some P)(h2:xs[a+(m+1)]?=some p):(xs.drop a).take (m+2)=(xs.drop a).take m++[P,p]:=by
 have N:(xs.drop a)[m]?=some P:=by rw[c9];exact h1
 have L:(xs.drop a)[m+1]?=some p:=by rw[c9];exact h2
 rw[ja L,ja N,H_];rfl
variable {B:Nat}
def IP{xs:List Nat}{a p P:Nat}(C:Dg B xs)(E:0<B)(h1:xs[a+m]?=some P)(h2:xs[a+(m+1)]?=some p):va B ((xs.drop a).take (m+2))/B^m=B*p+P:=by
 have Q:=(x'.1 h2).1;have hlen:((xs.drop a).take m).length=m:=by rw[p',j_];omega
 have D:=Ff ((C.drop a).take m);rw[hlen] at D;rw[fI h1 h2,nc,hlen,K9 _ _ (N_ E),s_ D];show 0+(P+B*(p+B*0))=_;rw[A8,I9,U_,O8]
variable {ys:List Nat}
def cH{v:Nat}(h:ys[m]?=some v)(Q:ys.length=m+1):v*B^m<=va B ys:=by
 have e:ys=ys.take m++[v]:=by rw[<-ja h,w' Z']
 rw[e,nc,p',P9 Z'];show v*B^m<=_+B^m*(v+B*0);rw[A8,I9,V_];exact Nat.le_add_left _ _
def BH(B p P v:Nat):Nat:=if p<v then(B*p+P)/v else B-1
def aaK{xs:List Nat}{a p P v:Nat}(C:Dg B xs)(E:1<B)(h1:xs[a+m]?=some P)(h2:xs[a+(m+1)]?=some p)(A:ys[m]?=some v)(Q:ys.length=m+1)(M:0<v)(f:va B ((xs.drop a).take (m+2))/va B ys<B):va B ((xs.drop a).take (m+2))/va B ys<=BH B p P v/\BH B p P v<B:=by
 have J:=C.at_ h1;unfold BH;by_cases D:p<v
 .rw[P' D];refine⟨acw M (N_ (n:=m) Z') (IP C Z' h1 h2) (cH A Q), ?_⟩;rw[N9 M];have:B*(p+1)<=B*v:=D_ B D;rw[o9] at this;omega
 rw[Q' D];omega
def ER{xs:List Nat}{a r:Nat}(M:a+n<=xs.length)(H:r<B^n):va B (xs.take a++jb B n r++xs.drop (a+n))+B^a*va B ((xs.drop a).take n)=va B xs+B^a*r:=by
 have h1:xs=xs.take a++(xs.drop a).take n++xs.drop (a+n):=(by rw[H_,<-F7,q_,q_]);have x:(xs.take a).length=a:=by rw[p'];omega
 have m:((xs.drop a).take n).length=n:=by rw[p',j_];omega
 have j:(jb B n r).length=n:=ua _ _;have N:va B xs=va B (xs.take a)+B^a*(va B ((xs.drop a).take n)+B^n*va B (xs.drop (a+n))):=by
  conv=>lhs;rw[h1]
  rw[H_,nc,nc,x,m]
 rw[N,H_,nc,nc,x,j,Db H];simp only[n_];omega
variable {next:Rf->World->Prop}{ro:Mode}{Q:Kq}{O:Rf}
def Gq{c:Code}{id:Nat}(mods)(s0:Nat)(J:Value->World->Prop)(E:WC ro P N c (Rp id (Nd (λK q=>J (K s0) q/\Sf mods K O) Q)) O w) (B:∀ρ' v0 V,J v0 V->next (jd (mask mods ρ' O) s0 v0) V):WC ro P N c (Rp id (Nd next Q)) O w:=
 E.mono λe K q R=>by
  have key:J (K s0) q/\Sf mods K O->next K q:=λh=>(by have:=B K (K s0) q h.1;rwa[Fg h.2,Ae] at this)
  cases e with
  |normal=>exact key R
  |exit i=>
   by_cases h:i=id
   .subst h;simp only[Rp,Nd,if_true] at R |-;exact key R
   simp only[Rp,Nd,Q' h] at R |-;exact R
  |_=>exact R
def ko{a c:Code}(mods)(J:World->Prop)(E:WC ro P N a (Nd (λK q=>J q/\Sf mods K O) Q) O w)(B:∀ρ' V,J V->WC ro P N c Q (mask mods ρ' O) V):WC ro P N (.seq a c) Q O w:=
 xa (E.mono λe K q R=>by
  cases e with
  |normal=>
   have:=B K q R.1;rwa[Fg R.2] at this
  |_=>exact R)
def HF(hi lo y:Nat)(w:World)(hy:9223372036854775808<=y)(A:y<18446744073709551616)(hh1:hi<y)(hl:lo<18446744073709551616):Zc 320 #[.int .u64 hi,.int .u64 lo,.int .u64 y] w (.tuple #[.int .u64 ((18446744073709551616*hi+lo)/y:Nat),.int .u64 ((18446744073709551616*hi+lo) % y:Nat)]):=by
 have I:=Hp.start w;by_cases h0:hi=0
 .subst h0;rw[A8,U_];refine Ca (l:=[.int .u64 ((0:Nat):Int),.int .u64 lo,.int .u64 y]) func320 ?_;refine fa ?_;refine Ak 7 I ?_;refine wb ?_;refine Ma (i:=2) (λU Z hj hR=>zI (show U 28=Value.int _ _ from hR.1) (show U 29=Value.int _ _ from hR.2.1) Z' (by first|assumption|omega)) ?_;refine wb ?_;refine Ma (i:=5) (λU Z hj hR=>aD (show U 31=Value.int _ _ from hR.1) (show U 32=Value.int _ _ from hR.2.1) Z') ?_;refine daI ?_;refine dn ?_;intro W I;refine fa ?_;exact⟨rfl,I.below⟩
 have F:(64:Int)-(Ea y:Int)=((0:Nat):Int):=(by have:=rC (n:=y) (k:=64) A hy;omega);have E:=λZ=>Sp y Z A;rw[F] at E;refine Ca func320 ?_;refine fa ?_;refine cd I (E _) ?_;intro w35 I;have em:∀z:Nat,z &&& 4294967295=z % 4294967296:=λz=>Nat.and_two_pow_sub_one_eq_mod z 32;have s0:∀z:Nat,z<18446744073709551616->z*2^((0:Nat):Int).toNat % 18446744073709551616=z:=λz hz=>(by show z*1 % _=z;rw[X_];exact E_ hz);have Y:lo/2^(((64+18446744073709551616-0) % 18446744073709551616:Nat):Int).toNat=0:=s_ hl;have z65:lo/2^(((64+18446744073709551616-0) % 18446744073709551616:Nat):Int).toNat<18446744073709551616:=by rw[Y];decide
 obtain⟨j,hy1⟩:∃j,y/4294967296=j:=⟨_,rfl⟩;obtain⟨C,hy0⟩:∃C,y % 4294967296=C:=⟨_,rfl⟩;obtain⟨X,J⟩:∃X,lo/4294967296=X:=⟨_,rfl⟩;obtain⟨L,H⟩:∃L,lo % 4294967296=L:=⟨_,rfl⟩;have P:y=4294967296*j+C:=Z';have K:lo=4294967296*X+L:=Z';have g:2147483648<=j:=Z';have b0:C<4294967296:=Z';have d1:X<4294967296:=Z';have d0:L<4294967296:=Z';refine Wz ?_;refine fa ?_;refine sv (Cn rfl rfl Z') ?_;refine fa ?_;rw[s0 y A];refine fa ?_;refine WS ?_;refine sv (Cn rfl rfl Z') ?_;refine fa ?_;refine sv (Xk (a:=64) rfl rfl Z') ?_;refine sv (Tp rfl rfl Z') ?_;refine sv (HY rfl rfl (by first|assumption|omega) (by first|assumption|omega)) ?_;refine fa ?_;refine sv (Cn rfl rfl Z') ?_;refine fa ?_;rw[s0 hi Z',s0 lo hl,Y,Nat.or_zero,em y,hy1,hy0];refine fa ?_;refine WS ?_;rw[em lo,J,H];clear em s0 Y z65 F E;have e:=Xw (u:=hi) g b0 d1 Z';refine JZ ?_;have B:(hi+18446744073709551616-hi/j*j % 18446744073709551616) % 18446744073709551616=hi % j:=(by have h1:=T9 hi j;rw[V_] at h1;omega);rw[B];clear B;refine Gq [15,16,67,68,69,70,71,72,73,74,75,76,77,78,79,80,81,82,83,84,85] 15 (λv V=>v=.int .u64 ((4294967296*hi+X)/y:Nat)/\Hp w [] V) ?_ ?_
 .refine Fi 15 16 (λa b V=>∃q d:Nat,a=.int .u64 q/\b=.int .u64 d/\Kx hi X j C q d/\d<4294967296/\Hp w [] V) (λa _ _=>(intOf a).toNat) ?_ ?_
  .exact⟨_,_,rfl,rfl,e,by have:=Q_ hi (show 0<j by omega);omega,I⟩
  clear I e;rintro ρ' a_ b_ V ⟨q,d,rfl,rfl,o,hr,I⟩;have Q:=o.sm;have t:q<4294967296->q*C<18446744073709551616:=λh=>(by have h2:q*C<=q*4294967295:=D_ q Z';omega);by_cases F:4294967296<=q\/4294967296*d+X<q*C
  .exact IY
  exact DY
 skip;clear I e;rintro ρ' v V ⟨rfl,I⟩;obtain⟨t1,t2⟩:=tH (hi:=hi) (by omega:0<y) d1 d0;have hdm:=T9 (4294967296*hi+X) y;have hr1:=Q_ (4294967296*hi+X) (by omega:0<y);have hqs:(4294967296*hi+X)/y<4294967296:=(by rw[N9 Z'];omega);generalize (4294967296*hi+X)/y=D at*;generalize (4294967296*hi+X) % y=M at*;have e:=Xw (u:=M) g b0 d0 Z';refine fa ?_;refine nZ ?_;refine fa ?_;rw[MF (a:=hi*4294967296) (m:=D*y) (r:=M) (by rw[V_ hi,V_ D];omega) Z'];refine JZ ?_;have B:(M+18446744073709551616-M/j*j % 18446744073709551616) % 18446744073709551616=M % j:=(by have h1:=T9 M j;rw[V_] at h1;omega);rw[B];clear B;refine Gq [16,18,102,103,104,105,106,107,108,109,110,111,112,113,114,115,116,117,118,119,120] 18 (λv V=>v=.int .u64 ((4294967296*M+L)/y:Nat)/\Hp w [] V) ?_ ?_
 .refine Fi 18 16 (λa b V=>∃q d:Nat,a=.int .u64 q/\b=.int .u64 d/\Kx M L j C q d/\d<4294967296/\Hp w [] V) (λa _ _=>(intOf a).toNat) ?_ ?_
  .exact⟨_,_,rfl,rfl,e,by have:=Q_ M (show 0<j by omega);omega,I⟩
  clear I e;rintro ρ' a_ b_ V ⟨q,d,rfl,rfl,o,hr,I⟩;have Q:=o.sm;have t:q<4294967296->q*C<18446744073709551616:=λh=>(by have h2:q*C<=q*4294967295:=D_ q Z';omega);by_cases F:4294967296<=q\/4294967296*d+L<q*C
  .exact IY
  exact DY
 skip;clear I e;rintro ρ' v V ⟨rfl,I⟩;have hdm2:=T9 (4294967296*M+L) y;have G:=Q_ (4294967296*M+L) (by omega:0<y);have hq2:(4294967296*M+L)/y<4294967296:=(by rw[N9 Z'];omega);generalize (4294967296*M+L)/y=q2 at*;generalize (4294967296*M+L) % y=r2 at*;rw[<-K] at t1 t2;have e1:(D*4294967296 % 18446744073709551616+q2) % 18446744073709551616=(18446744073709551616*hi+lo)/y:=by rw[V_ D];omega
 have e2:=MF (a:=M*4294967296) (c:=L) (m:=q2*y) (r:=r2) (by rw[V_ M,V_ q2];omega) Z';have e3:r2/2^((0:Nat):Int).toNat=(18446744073709551616*hi+lo) % y:=(by show r2/1=_;rw[Y7];exact t2);refine fa ?_;refine sv (Lg (b:=4294967296) rfl rfl) ?_;refine mI ?_;refine sv (Cf rfl rfl) ?_;refine mI ?_;refine nZ ?_;refine mI ?_;refine sv (Tp rfl rfl Z') ?_;refine fa ?_;rw[e1,e2,e3];exact⟨rfl,I.below⟩
def Ot{a c:Code}(mods)(s0:Nat)(J:Value->World->Prop)(E:WC ro P N a (Nd (λK q=>J (K s0) q/\Sf mods K O) Q) O w)(B:∀ρ' v0 V,J v0 V->WC ro P N c Q (jd (mask mods ρ' O) s0 v0) V):WC ro P N (.seq a c) Q O w:=
 xa (E.mono λe K q R=>by
  cases e with
  |normal=>
   have:=B K (K s0) q R.1;rwa[Fg R.2,Ae] at this
  |_=>exact R)
variable {o:Nat}{lo:Operand}{pos:String}
def kT{d:Option Nat}{ty:TypeId}{af:Array Edge}{g:Option (Nat×Bool)}{t e:TypeId}{x hi:Operand}{b c l h sz:Nat}{k k2:IntKind}{m N:Int}(S:P.underlying t=some (.slice e))(M:(P.info? e).map (·.size)=some sz)(C:ev O x=.slice (some ⟨b,o,none⟩) n c)(p:ev O lo=.int k m)(f:ev O hi=.int k2 N) (hm:m=(l:Int))(K:N=(h:Int))(h1:l<=h)(h2:h<=c)(G:l<c):(execOp (ev O) ⟨d,.slice t x (some lo) (some hi) none,ty,pos,af,g⟩).run P w=.ok (.value (.slice (some ⟨b,o+l*sz,none⟩) (h-l) (c-l))) w:=by
 rw[xf (lo:=some lo) (hi:=some hi) (l:=l) (h:=h) S M C ⟨k,m,p,hm⟩ ⟨k2,N,f,K⟩ h1 h2,Q' Z'];simp only[p9,Zd]
def XF{mods:List Nat}{U:Rf}{d:Nat}{v:Value}(T:mods.contains d=true)(h:Sf mods U O):Sf mods U (jd O d v):=λi hi=>by
 rw[Dh O (λe=>by rw[e,T] at hi;cases hi)];exact h i hi
def Lh(ys:List Nat)(q:Nat):List Nat:=pg 18446744073709551616 (List.replicate (ys.length+1) 0) ys q 0
def nt(ys)(q:Nat):(Lh ys q).length=ys.length+1:=by
 unfold Lh;rw[Hl,Q9]
def Ix(ys)(q:Nat):Dg 18446744073709551616 (Lh ys q):=vx Z' _ _ _ _
def jt{q:Nat}(hy:Dg 18446744073709551616 ys)(R:q<18446744073709551616):va 18446744073709551616 (Lh ys q)=va 18446744073709551616 ys*q:=by
 have h1:=Ff hy;have h2:va 18446744073709551616 ys*q<18446744073709551616^(ys.length+1):=(by rw[B_];exact G6 h1 R);unfold Lh;rw[Dt Z' _ _ _ _ (by rw[Di,Q9];omega),Di];omega
variable {cy:Nat}
def kG(X Yb A)(N C n cy c q:Nat)(ys a)(w)(p:Sl w Yb n 1 (Rb ys))(j:Sl w A (n+1) 1 (Rb a))(Q:Dg 18446744073709551616 ys)(J:Dg 18446744073709551616 a)(D:n+1<=c)(hn:n<=100000000)(M:0<va 18446744073709551616 ys)(R:va 18446744073709551616 a<q*va 18446744073709551616 ys)(x:q<18446744073709551616):Calls prog 321 #[.agg #[.slice X N C,.slice Yb n cy],.slice A (n+1) c,.int .u64 (q:Int)] w λe V=>∃b,e=.returned (.tuple #[.int .u64 ((va 18446744073709551616 a/va 18446744073709551616 ys:Nat):Int),.slice (some ⟨b,0,none⟩) (n+1) (n+1)])/\Hp w [.row (some ⟨b,0,none⟩) (n+1) (n+1) 223 1 (Rb (Lh ys (va 18446744073709551616 a/va 18446744073709551616 ys)))] V:=by
 have I:=Hp.start w;have t:ys.length=n:=by have:=p.1;rw[ya] at this;omega
 have G:a.length=n+1:=by have:=j.1;rw[ya] at this;omega
 refine Ca func321 ?_;refine Bb ?_;intro B w3 I;refine bf 2 (λv V=>∃q:Nat,v=.int .u64 q/\va 18446744073709551616 a<q*va 18446744073709551616 ys/\q<18446744073709551616/\Hp w [.blk B 311 [.slice X N C,.slice Yb n cy] (0,0)] V) (λv _=>(intOf v).toNat) ?_ ?_
 .exact⟨q,rfl,R,x,I⟩
 clear I R x;rintro ρ' v V ⟨q,rfl,R,x,I⟩;have H:1<=q:=by
  obtain h|h:=G8 q
  .rw[h,C7] at R;omega
  exact h
 have S:(q+18446744073709551616-1) % 18446744073709551616=q-1:=Z';have P:=I0 M R;refine fa ?_;refine YY ?_;rw[S];have d:=jt Q (q:=q-1) Z';refine fa ?_;refine Ee (n:=n+1) I rfl rfl Z' Z' Qa.out pa.out rfl Z' Z' V' ?_;intro f L I;refine fa ?_;rw[rj] at I;have E:=Xm (c':=n+1) (ny:=n) (cy:=cy) (m:=q-1) (Y:=Yb) [] (List.replicate (n+1) 0) [] ys _ (by rw[F',M_];exact I) (λZ cs h=>p.ext h.below) (Dg.Ld Z' _) Q Z' (by rw[Q9];omega) Z';have o:pg 18446744073709551616 (List.replicate (n+1) 0) ys (q-1) 0=Lh ys (q-1):=by unfold Lh;rw[t]
 rw[F',M_,Q9,o] at E;have r:=nt ys (q-1);rw[t] at r;have g:=Ix ys (q-1);refine Wi (E) ?_;rintro e_ w_ ⟨rfl,I⟩;refine⟨_,rfl, ?_⟩;generalize u:Lh ys (q-1)=y at*;have K:=I.ma (i:=0) rfl;have F:=Vd y;refine fa ?_;refine qd I (Ue _ _ _ y _ (I.ma (i:=0) rfl) (E' _) Z') rfl ?_;intro T I;refine mL ?_;refine qd I (Lp _ _ _ _ _ _ (Ad y) a _ (Sl.Mp (I.ma (i:=0) rfl)) (j.ext I.below) g.cut J Z' D Z' Z') rfl ?_;intro W I;rw[Qh,d];rw[V_] at d |-;by_cases l:(q-1)*va 18446744073709551616 ys<=va 18446744073709551616 a
 .have k:=mQ M P l;have s:Eh ((q-1)*va 18446744073709551616 ys) (va 18446744073709551616 a)<=0:=by
   unfold Eh;split
   .decide
   rw[Q' Z'];decide
  generalize Eh ((q-1)*va 18446744073709551616 ys) (va 18446744073709551616 a)=z at*;rw[<-k,u];refine fa ?_;exact⟨f,rfl,I.sub (.cons_cons _ (m_ _))⟩
 have s:Eh ((q-1)*va 18446744073709551616 ys) (va 18446744073709551616 a)=1:=rr Z';rw[s];refine fa ?_;replace I:=I.sub (G' _ (O' _ Z_));refine⟨⟨q-1,rfl,Z',Z',I⟩,by show((q-1:Nat):Int).toNat<(q:Int).toNat;omega, ?_⟩;exact Wb
def bc(xs:List Nat)(a n:Nat):List Nat:=(xs.drop a).take (n+1)
variable {w0:World}
def sB{H:List HE}{b v:Nat}{Yb:Option Addr}(a:Nat)(xs ys)(w)(I:Hp w0 (.row (some ⟨b,0,none⟩) N C 223 1 (Rb xs)::H) w) (hy:∀Z cs,Hp w0 (.row (some ⟨b,0,none⟩) N C 223 1 cs::H) Z->Sl Z Yb n 1 (Rb ys))(d:Dg 18446744073709551616 xs)(Q:Dg 18446744073709551616 ys)(y:n=m+1)(A:ys[m]?=some v)(hv2:9223372036854775808<=v)(ha:a+n<N)(hN:N<=100000000)(hP:va 18446744073709551616 (bc xs a n)/va 18446744073709551616 ys<18446744073709551616):Calls prog 304 #[.agg #[.slice (some ⟨b,0,none⟩) N C,.slice Yb n cy],.int .i64 (a:Int)] w λe V=>e=.returned (.int .u64 ((va 18446744073709551616 (bc xs a n)/va 18446744073709551616 ys:Nat):Int))/\Hp w0 (.row (some ⟨b,0,none⟩) N C 223 1 (Rb (xs.take a++jb 18446744073709551616 (n+1) (va 18446744073709551616 (bc xs a n) % va 18446744073709551616 ys)++xs.drop (a+(n+1))))::H) V:=by
 have t:ys.length=n:=by have:=(hy _ _ I).1;rw[ya] at this;omega
 have hxl:xs.length=N:=by have:=(I.ma (i:=0) rfl).1;rw[ya] at this;omega
 have hcap:=I.ve (i:=0) rfl;obtain⟨p,F⟩:=aa (l:=xs) (k:=a+n) Z';obtain⟨P,S⟩:=aa (l:=xs) (k:=a+m) Z';have gx1:=Dd F;have gx0:=Dd S;have gv:=Dd A;have bx1:=d.at_ F;have bx0:=d.at_ S;have bv:=Q.at_ A;obtain⟨e1,e2⟩:=aaK (a:=a) (m:=m) d V' S (by rw[<-y];exact F) A Z' Z' (by unfold bc at hP;rw[y] at hP;exact hP);rw[show(xs.drop a).take (m+2)=bc xs a n by unfold bc;rw[y]] at e1;obtain⟨X,hYa,hYr⟩:=(hy _ _ I).at_ Z';subst hYa;refine Ca (l:=[.agg #[.slice (some ⟨b,0,none⟩) N C,.slice (some X) n cy],.int .i64 (a:Int)]) func304 ?_;have g:∀(e:HE) Z,Hp w0 (e::.row (some ⟨b,0,none⟩) N C 223 1 (Rb xs)::H) Z->Sl Z (some X) n 1 (Rb ys):=λe Z h=>hy Z _ (h.sub (G' _ (P_ _)));refine sr ?_;refine jC I [_,_] ?_;intro b2 w2 I;refine aI (na (sr (Bm ?_)));refine pj I 0 ?_;refine xi (aI (na (sr (Bm ?_))));refine pj I 0 ?_;refine mI (mI ?_);refine Gi ?_;refine sv (pb (k:=a+n) Qa.out pa.size rfl rfl Z' Z') ?_;refine sv (Ba pa.out rfl ((I.ma (i:=1) rfl).tO F)) ?_;refine aI (na (sr (aI (na ?_))))
 refine Ot [7,20,21,22,23,24,25,26,27,28,29,30,31,32,33,34,35,36,37,38,39,40,41,42,43,44,45,46] 7 (λe V=>e=.int .u64 (BH 18446744073709551616 p P v:Nat)/\Hp w0 (.blk b2 311 [.slice (some ⟨b,0,none⟩) N C,.slice (some X) n cy] (0,0)::.row (some ⟨b,0,none⟩) N C 223 1 (Rb xs)::H) V) ?_ ?_
 .by_cases D:p<v
  .have u:=λZ=>HF p P v Z hv2 bv D bx0;have hq:(18446744073709551616*p+P)/v=BH 18446744073709551616 p P v:=(P' D).symm;rw[hq] at u;refine A0 ?_;refine ud 20 I ?_;refine Ja (i:=7) (Is (.pointer (some (Addr.add ⟨b,0,none⟩ ((a+m)*1))))) (Is.ext) ?_ ?_
   .intro U Z hj hR;exact wc rfl (pb (k:=a+m) Qa.out pa.size (show U 31=Value.slice _ _ _ from hR.1) (show U 35=Value.int _ _ from hR.2.1) Z' Z') ⟨Below.refl _ _,rfl⟩
   refine uo (λ_ hj=>(hj.hp.ma (i:=1) rfl).tO S) ?_;refine wb ?_;refine Ja (i:=13) (Is (.pointer (some (X.add (m*1))))) (Is.ext) ?_ ?_
   .intro U Z hj hR;exact wc rfl (pb (k:=m) Qa.out pa.size (show U 39=Value.slice _ _ _ from hR.1) (show U 41=Value.int _ _ from hR.2.1) Z' Z') ⟨Below.refl _ _,rfl⟩
   refine uo (λ_ hj=>(g _ _ hj.hp).tO A) ?_;refine dC (λ_ hj=>u _) ?_;refine wb ?_;refine dn ?_;intro W I;refine fa ?_;refine⟨⟨rfl,I⟩, ?_⟩;repeat refine oc rfl ?_
   exact XF rfl λ_ _=>rfl
  have hq:18446744073709551616-1=BH 18446744073709551616 p P v:=(Q' D).symm;refine A0 ?_;refine⟨⟨?_,I⟩, ?_⟩
  .rw[<-hq];rfl
  repeat refine oc rfl ?_
  exact XF rfl λ_ _=>rfl
 skip;rintro ρ' R V ⟨rfl,I⟩;generalize BH 18446744073709551616 p P v=q at*;have x:q<18446744073709551616:=Z';have hmd:=jt Q x;have hml:=nt ys q;rw[t] at hml;have hmg:=Ix ys q;have hmL:pg 18446744073709551616 (List.replicate (n+1) 0) ys q 0=Lh ys q:=by unfold Lh;rw[t]
 have L:(bc xs a n).length=n+1:=by unfold bc;rw[p',j_];omega
 have J:Dg 18446744073709551616 (bc xs a n):=(d.drop a).take (n+1);have M:0<va 18446744073709551616 ys:=(by have h1:=cH (B:=18446744073709551616) A Z';have h2:0<v*18446744073709551616^m:=Q7 Z' (N_ V');omega);refine fa ?_;refine ub rfl rfl V' (kT (l:=a) (h:=a+(n+1)) Qa.out pa.size rfl rfl rfl rfl Z' Z' Z' Z') ?_;refine fa ?_;refine Ee (n:=n+1) I rfl rfl Z' Z' Qa.out pa.out rfl Z' Z' V' ?_;intro b57 w57 I;refine fa ?_;rw[rj] at I;rw[show 0+a*1=a by omega,show a+(n+1)-a=n+1 by omega];have o:∀Z,Sl Z (some ⟨b,0,none⟩) N 1 (Rb xs)->Sl Z (some ⟨b,a,none⟩) (n+1) 1 (Rb (bc xs a n)):=λZ h=>(by have h2:=(h.LQ (k:=a) Z').pS (k:=n+1) Z';rw[Zd,U_,X_] at h2;exact h2);have hsp:xs.take a++bc xs a n++xs.drop (a+(n+1))=xs:=by unfold bc;rw[H_,<-F7,q_,q_]
 have E:(xs.take a).length=a:=by rw[p'];omega
 have hdm:=T9 (va 18446744073709551616 (bc xs a n)) (va 18446744073709551616 ys);have hml2:=Q_ (va 18446744073709551616 (bc xs a n)) M;have hmQ:=jt Q hP;have hlQ:=nt ys (va 18446744073709551616 (bc xs a n)/va 18446744073709551616 ys);rw[t] at hlQ;have j:=Ix ys (va 18446744073709551616 (bc xs a n)/va 18446744073709551616 ys);have r:=tF (B:=18446744073709551616) Z' (bc xs a n) (Lh ys (va 18446744073709551616 (bc xs a n)/va 18446744073709551616 ys)) 0 J j Z' Z';have K:Np 18446744073709551616 (bc xs a n) (Lh ys (va 18446744073709551616 (bc xs a n)/va 18446744073709551616 ys)) 0=jb 18446744073709551616 (n+1) (va 18446744073709551616 (bc xs a n) % va 18446744073709551616 ys):=(by have h1:=kq (QJ (B:=18446744073709551616) Z' (bc xs a n) (Lh ys (va 18446744073709551616 (bc xs a n)/va 18446744073709551616 ys)) 0);rw[DG,L] at h1;rw[<-h1];congr 1;omega);have G:∀T Z,Hp w0 (.row (some ⟨b,0,none⟩) N C 223 1 (Rb xs)::T) Z->Hp w0 (.row (some ⟨b,0,none⟩) N C 223 1 (Rb (xs.take a++bc xs a n++xs.drop (a+(n+1))))::T) Z:=λT Z h=>by rw[hsp];exact h
 have hc:=Xm (c':=n+1) (ny:=n) (cy:=cy) (m:=q) (Y:=some X) [] (List.replicate (n+1) 0) [] ys _ (by rw[F',M_];exact I) (λZ cs h=>hy Z _ (h.sub (G' _ (G' _ (P_ _))))) (Dg.Ld Z' _) Q x (by rw[Q9];omega) Z';rw[F',M_,Q9,hmL] at hc;refine Wi (hc) ?_;rintro R w_ ⟨rfl,I⟩;refine⟨_,rfl, ?_⟩;have hcl:=Vd (Lh ys q);refine fa ?_;refine qd I (Ue _ _ _ (Lh ys q) _ (I.ma (i:=0) rfl) (E' _) Z') rfl ?_;intro w64 I;refine mL ?_;refine qd I (Lp _ _ _ _ _ _ (Ad (Lh ys q)) (bc xs a n) _ (Sl.Mp (I.ma (i:=0) rfl)) (o _ (I.ma (i:=2) rfl)) hmg.cut J Z' Z' Z' Z') rfl ?_;intro w66 I;rw[Qh,hmd];by_cases f:q*va 18446744073709551616 ys<=va 18446744073709551616 (bc xs a n)
 .have hqe:=mQ M e1 f;have s:Eh (va 18446744073709551616 ys*q) (va 18446744073709551616 (bc xs a n))<=0:=by
   rw[V_];unfold Eh;split
   .decide
   rw[Q' Z'];decide
  generalize Eh (va 18446744073709551616 ys*q) (va 18446744073709551616 (bc xs a n))=z at*;subst hqe;refine fa ?_;replace I:=I.front 2 rfl;replace I:=G _ _ I;have c:=Dm (c':=C-a) (ny:=n+1) (cy:=n+1) (Y:=some ⟨b57,0,none⟩) (xs.take a) (bc xs a n) (xs.drop (a+(n+1))) (Lh ys (va 18446744073709551616 (bc xs a n)/va 18446744073709551616 ys)) _ I (λZ cs h=>h.ma (i:=1) rfl) J j Z' Z' r.2;exact aeC
 have s:Eh (va 18446744073709551616 ys*q) (va 18446744073709551616 (bc xs a n))=1:=rr (by rw[V_];omega);rw[s];refine fa ?_;refine te (kG (some ⟨b,0,none⟩) (some X) (some ⟨b,a,none⟩) N C n cy (C-a) q ys (bc xs a n) _ (hy _ _ (I.sub (G' _ (G' _ (P_ _))))) (o _ (I.ma (i:=2) rfl)) Q J Z' Z' M Z' x) rfl ?_;rintro R w72 ⟨bm,rfl,h4⟩;refine FE ?_;intro I;replace I:=I.sub (O' _ (G' _ (O' _ (O' _ (P_ _)))));refine fa ?_;replace I:=I.front 2 rfl;replace I:=G _ _ I;have c:=Dm (c':=C-a) (ny:=n+1) (cy:=n+1) (Y:=some ⟨bm,0,none⟩) (xs.take a) (bc xs a n) (xs.drop (a+(n+1))) (Lh ys (va 18446744073709551616 (bc xs a n)/va 18446744073709551616 ys)) _ I (λZ cs h=>h.ma (i:=1) rfl) J j Z' Z' r.2;exact aeC
def kK(k:Nat):18446744073709551616^k=2^(64*k):=by
 rw[show(18446744073709551616:Nat)=2^64 by decide,<-i_]
def iU{b d:Nat}(F:b≠0)(Q:(ra 18446744073709551616 b).length=m+1)(T:(ra 18446744073709551616 b)[m]?=some d):Ea d<=64/\(ra 18446744073709551616 (b*2^(64-Ea d))).length=m+1/\∃v,(ra 18446744073709551616 (b*2^(64-Ea d)))[m]?=some v/\9223372036854775808<=v:=by
 have s:=Pf b;have a:d<18446744073709551616:=s.at_ T;have Y:Ea d<=64:=Zb (by simpa using a);have e:ra 18446744073709551616 b=(ra 18446744073709551616 b).take m++[d]:=by rw[<-ja T,w' Z']
 have vD:d≠0:=λh=>(by have h1:=Pd b;rw[e,h] at h1;have h2:(ra 18446744073709551616 b).getLast?≠some 0:=(Ed Z' b).2;rw[e,h] at h2;simp at h2);have E:Ea b=64*m+Ea d:=(by have h1:=TG (B:=18446744073709551616) (b:=64) (m:=m) V' (s.take m) (by rw[p'];omega) vD;rw[<-e,Pd] at h1;exact h1);have h1:=Ab b;have h2:=bB F;have G:=cn vD;have P:b*2^(64-Ea d)<18446744073709551616^(m+1):=(by rw[kK,show 64*(m+1)=Ea b+(64-Ea d) by omega,R_];exact N8 h1 (N_ V'));have p:18446744073709551616^m*9223372036854775808<=b*2^(64-Ea d):=(by have z:18446744073709551616^m*9223372036854775808=2^(Ea b-1)*2^(64-Ea d):=(by rw[kK,show(9223372036854775808:Nat)=2^63 by decide,<-R_,<-R_];congr 1;omega);rw[z];exact c_ _ h2);generalize b*2^(64-Ea d)=y at*;have c:0<18446744073709551616^m:=N_ V';have hlen:(ra 18446744073709551616 y).length=m+1:=by
  have J:=jf (B:=18446744073709551616) Z' P;have o:=zl (B:=18446744073709551616) Z' y;obtain h|h:=o_ (ra 18446744073709551616 y).length (m+1)
  .have n:18446744073709551616^(ra 18446744073709551616 y).length<=18446744073709551616^m:=J_ V' Z';omega
  omega
 refine⟨Y,hlen,_,Xv Z' Z', ?_⟩;have A:y/18446744073709551616^m<18446744073709551616:=(by rw[N9 c,V_,<-B_];exact P);rw[E_ A,Nat.le_div_iff_mul_le c,V_];exact p
structure BQ(A Y N n k:Nat)(X O:List Nat):Prop where
 xd:Dg 18446744073709551616 X
 xl:X.length=N
 od:Dg 18446744073709551616 O
 ol:O.length=N-n
 oz:∀i,i<k->O[i]?=some 0
 e:va 18446744073709551616 O*Y+va 18446744073709551616 X=A
 r:va 18446744073709551616 (X.drop k)<Y
def dN{A:Nat}{X O:List Nat}(hy:Dg 18446744073709551616 ys)(d:ys.length=n)(u:k+1<=N-n)(j:n<=N)(h:BQ A (va 18446744073709551616 ys) N n (k+1) X O):va 18446744073709551616 (bc X k n)/va 18446744073709551616 ys<18446744073709551616/\BQ A (va 18446744073709551616 ys) N n k (X.take k++jb 18446744073709551616 (n+1) (va 18446744073709551616 (bc X k n) % va 18446744073709551616 ys)++X.drop (k+(n+1))) (O.set k (va 18446744073709551616 (bc X k n)/va 18446744073709551616 ys)):=by
 obtain⟨xd,xl,od,ol,oz,e,H⟩:=h;obtain⟨x,C⟩:=aa (l:=X) (k:=k) Z';have o:=xd.at_ C;have c:=Ff hy;rw[d] at c;have hR:=xR (B:=18446744073709551616) (xd.drop (k+1)) n (by rw[j_];omega);rw[E_ (show va 18446744073709551616 (X.drop (k+1))<18446744073709551616^n by omega)] at hR;have f:va 18446744073709551616 (bc X k n)=x+18446744073709551616*va 18446744073709551616 (X.drop (k+1)):=(by unfold bc;rw[de C,X7];show x+18446744073709551616*_=_;rw[hR]);have p:va 18446744073709551616 (X.drop (k+(n+1)))=0:=(by rw[show k+(n+1)=(k+1)+n by omega,<-F7,PE (xd.drop (k+1)) n V',s_ Z']);have M:0<va 18446744073709551616 ys:=Z';have R:va 18446744073709551616 (bc X k n)/va 18446744073709551616 ys<18446744073709551616:=(by rw[N9 M,f];have h1:18446744073709551616*(va 18446744073709551616 (X.drop (k+1))+1)<=18446744073709551616*va 18446744073709551616 ys:=D_ _ H;rw[o9] at h1;omega);have hm:=Q_ (va 18446744073709551616 (bc X k n)) M;have F:=T9 (va 18446744073709551616 (bc X k n)) (va 18446744073709551616 ys);have g:va 18446744073709551616 (bc X k n) % va 18446744073709551616 ys<18446744073709551616^(n+1):=(by rw[B_];have:18446744073709551616^n*1<=18446744073709551616^n*18446744073709551616:=D_ _ V';omega);have W:=ER (B:=18446744073709551616) (xs:=X) (a:=k) (n:=n+1) Z' g;have b:=OJ (B:=18446744073709551616) O k (va 18446744073709551616 (bc X k n)/va 18446744073709551616 ys) (oz k Z');have D:(X.take k).length=k:=by rw[p'];omega
 have m:(X.drop k).take (n+1)=bc X k n:=rfl;rw[m] at W;refine⟨R, ?_, ?_,od.xX k R,by rw[d_];exact ol,λi hi=> ?_, ?_, ?_⟩
 .exact((xd.take k).append (ie V' _ _)).append (xd.drop _)
 .rw[y',y',D,ua,j_];omega
 .rw[L9,Q' Z'];exact oz i Z'
 .generalize va 18446744073709551616 (bc X k n)/va 18446744073709551616 ys=q at*;generalize va 18446744073709551616 (bc X k n) % va 18446744073709551616 ys=r at*;rw[A8,I9] at b;rw[b,I8];have P:18446744073709551616^k*q*va 18446744073709551616 ys+18446744073709551616^k*r=18446744073709551616^k*va 18446744073709551616 (bc X k n):=(by rw[<-F,n_,Z9,V_ q]);omega
 rw[H_,List.drop_append,D,u_,P8 Z',F',H7,nc,p,A8,I9,Db g];exact hm
def RM{A:Nat}{X:List Nat}(xd:Dg 18446744073709551616 X)(xl:X.length=N)(R:va 18446744073709551616 X=A)(B:1<=n)(j:n+1<=N)(o:A<18446744073709551616^(N-1))(g:18446744073709551616^(n-1)<=Y):BQ A Y N n (N-n) X (List.replicate (N-n) 0):=by
 refine⟨xd,xl,Dg.Ld V' _,Q9,λi hi=>by rw[X5,P' hi],by rw[Di];omega, ?_⟩;rw[PE xd _ V',R];refine k_ ?_ g;rw[N9 (N_ V'),<-R_,show n-1+(N-n)=N-1 by omega];exact o
def MW{a b s:Nat}{X O:List Nat}(F:0<b)(g:Y=b*2^s)(h:BQ (a*2^s) Y N n 0 X O):va 18446744073709551616 O=a/b/\va 18446744073709551616 X/2^s=a % b:=by
 have hp:0<2^s:=N_ V';have he:=h.e;have H:=h.r;rw[H7] at H;subst g;have h1:va 18446744073709551616 X % 2^s=0:=by
  have h2:(va 18446744073709551616 O*(b*2^s)+va 18446744073709551616 X) % 2^s=0:=by rw[he];exact Nat.mul_mod_left _ _
  rw[<-Z9,Nat.mul_add_mod_self_right] at h2;exact h2
 have h2:=T9 (va 18446744073709551616 X) (2^s);rw[h1,I9] at h2;generalize va 18446744073709551616 X/2^s=r at*;rw[<-h2,V_ _ r] at he H;have G:va 18446744073709551616 O*b+r=a:=(by refine Nat.eq_of_mul_eq_mul_right hp ?_;rw[I8,Z9];exact he);have z:r<b:=Nat.lt_of_mul_lt_mul_right H;have P:=(Nat.div_mod_unique (a:=a) (b:=b) (c:=r) (d:=va 18446744073709551616 O) F).2 ⟨by rw[V_ b];omega,z⟩;exact⟨P.1.symm,P.2.symm⟩
def dr(a b:ByteArray)(w:World)(ha:a.size<=100000000)(hb:b.size<=100000000)(S:bN b≠0):Zc 275 #[.string a,.string b] w (.tuple #[.string (sN (bN a/bN b)),.string (sN (bN a % bN b)),.bool true]):=by
 have I:=Hp.start w;have h1:=Te a;have h2:=Te b;have hyn:(ra 18446744073709551616 (bN b)).length≠0:=λh=>S ((kr Z').1 (Q8 h));by_cases D:bN a<bN b
 .refine Ca func275 ?_;refine fa ?_;refine OW I (Dc a _ Z') rfl ?_;intro P Q w14 I;refine mS ?_;refine OW I (Dc b _ Z') rfl ?_;intro M R w16 I;refine fa ?_;refine XE ?_;intro w24 I;rw[Pd,Pd,Yj D];refine fa ?_;refine qd I (Be _ _ _ (ra 18446744073709551616 (bN a)) _ (I.ma (i:=1) rfl) (Pf _) (I.ve (i:=1) rfl) Z') rfl ?_;intro w27 I;rw[Pd];refine fa ?_;rw[s_ D,E_ D,Yh];exact⟨rfl,I.below⟩
 have hc:¬Eh (bN a) (bN b)<0:=by unfold Eh;split<;>(try split)<;>omega
 obtain⟨m,hm⟩:∃m,(ra 18446744073709551616 (bN b)).length=m+1:=⟨(ra 18446744073709551616 (bN b)).length-1,Z'⟩;obtain⟨d,hd⟩:=aa (l:=ra 18446744073709551616 (bN b)) (k:=m) Z';obtain⟨hbl,hlen,v,hv,hv2⟩:=iU S hm hd;have E:=λZ=>Sp d Z ((Pf _).at_ hd);obtain⟨s,hs⟩:∃s,s=64-Ea d:=⟨_,rfl⟩;rw[show(64:Int)-(Ea d:Int)=((64-Ea d:Nat):Int) by omega] at E;rw[<-hs] at E hlen hv;have F:s<=64:=Z';refine Ca func275 ?_;refine fa ?_;refine OW I (Dc a _ Z') rfl ?_;intro P Q w14 I;refine mS ?_;refine OW I (Dc b _ Z') rfl ?_;intro M R w16 I;refine fa ?_;refine XE ?_;intro w24 I;rw[Pd,Pd];refine Wg (aB (na (cF (Fb (Ep (Za (sr (mL (mL (xi ?_))))))))));refine vy ?_;refine sv (pb (k:=m) Qa.out pa.size rfl rfl Z' Z') ?_;refine sv (Ba pa.out rfl ((I.ma (i:=0) rfl).tO hd)) ?_;refine cd I (E _) ?_;intro w34 I;refine fa ?_;refine lW I (It _ _ _ s (ra 18446744073709551616 (bN a)) _ (I.ma (i:=1) rfl) (Pf _) Z' Z') rfl ?_;intro A37 c37 w37 I;rw[Pd] at I |-;have p:bN a*2^s<18446744073709551616^((ra 18446744073709551616 (bN a)).length+1):=(by have q1:=zl (B:=18446744073709551616) Z' (bN a);have q2:2^s<=2^64:=J_ V' F;rw[B_];exact k_ (N8 q1 (N_ V')) (D_ _ q2));have hla:=jf (B:=18446744073709551616) Z' p;have hmono:=Ei (B:=18446744073709551616) Z' (H6 D);generalize hlx:(ra 18446744073709551616 (bN a)).length=lx at*;refine fa ?_;refine te (pk _ _ _ (lx+2) (ra 18446744073709551616 (bN a*2^s)) _ (I.ma (i:=0) rfl) Z' Z') rfl ?_;rintro e_ w_ ⟨y,rfl,f,hb_⟩;refine⟨_,rfl, ?_⟩;replace I:=I.pd (x:=.row _ _ _ _ _ _) hb_ f;have e2:max (lx+2) (ra 18446744073709551616 (bN a*2^s)).length=lx+2:=Z';rw[e2] at I |-;refine fa ?_;refine lW I (It _ _ _ s (ra 18446744073709551616 (bN b)) _ (I.ma (i:=2) rfl) (Pf _) Z' Z') rfl ?_;intro g t w44 I;rw[Pd] at I |-;have L:=Pf (bN b*2^s);have hyv:=Pd (bN b*2^s);generalize ra 18446744073709551616 (bN b*2^s)=ys at*;rw[hlen] at I |-;have hxw:Dg 18446744073709551616 (ra 18446744073709551616 (bN a*2^s)++List.replicate (lx+2-(ra 18446744073709551616 (bN a*2^s)).length) 0):=(Pf _).append (Dg.Ld V' _);have hxv:va 18446744073709551616 (ra 18446744073709551616 (bN a*2^s)++List.replicate (lx+2-(ra 18446744073709551616 (bN a*2^s)).length) 0)=bN a*2^s:=by rw[nc,Di,Pd,A8,I9]
 have hxl:(ra 18446744073709551616 (bN a*2^s)++List.replicate (lx+2-(ra 18446744073709551616 (bN a*2^s)).length) 0).length=lx+2:=by rw[y',Q9];omega
 generalize ra 18446744073709551616 (bN a*2^s)++List.replicate (lx+2-(ra 18446744073709551616 (bN a*2^s)).length) 0=X0 at*;have hY1:18446744073709551616^m<=va 18446744073709551616 ys:=(by have q1:=cH (B:=18446744073709551616) hv hlen;have q2:1*18446744073709551616^m<=v*18446744073709551616^m:=c_ _ Z';omega);have G:=RM (N:=lx+2) (n:=m+1) hxw hxl hxv Z' Z' p hY1;refine yb ?_;intro z w10 I ws I;replace I:=show Hp w (.blk z 311 [.slice (some ⟨y,0,none⟩) (lx+2) (lx+2),.slice g (m+1) t] (0,0)::_) _ from I;replace I:=I.sub (O' _ (O' _ (O' _ (G' _ (G' _ (G' _ Z_))))));refine fa ?_;refine Ee (n:=lx+2-(m+1)) I rfl rfl Z' Z' Qa.out pa.out rfl Z' Z' V' ?_;intro o w53 I;refine fa ?_;rw[rj] at I;have hK0:lx+2-(m+1)+(m+1)=lx+2:=Z';generalize hK:lx+2-(m+1)=K at*;refine adC ?_;intro I;replace I:=I.perm (W_ (l₁:=[_,_]));simp only[C',F'] at I;replace I:=I.perm (W_ (l₁:=[_,_,_]));simp only[C',F'] at I;refine bf 12 (λe V=>∃(k:Nat)(X O:List Nat),k<=K/\e=.int .i64 ((k:Int)-1)/\BQ (bN a*2^s) (va 18446744073709551616 ys) (lx+2) (m+1) k X O/\Hp w [.row (some ⟨y,0,none⟩) (lx+2) (lx+2) 223 1 (Rb X),.row (some ⟨o,0,none⟩) K K 223 1 (Rb O),.blk z 311 [.slice (some ⟨y,0,none⟩) (lx+2) (lx+2),.slice g (m+1) t] (0,0),.row g (m+1) t 223 1 (Rb ys)] V) (λe _=>(intOf e+1).toNat) ?_ ?_
 .exact⟨K,X0,_,E' _,rfl,G,I⟩
 clear I G;rintro ρ' e_ V ⟨k,X,O,hk,rfl,r,I⟩;by_cases hk0:0<k
 .obtain⟨k,rfl⟩:∃j,k=j+1:=⟨k-1,Z'⟩;obtain⟨hq,T⟩:=dN L hlen Z' Z' r;have hdc:=sB (C:=lx+2) (cy:=t) (Yb:=g) k X ys _ I (λZ cs h=>h.ma (i:=3) rfl) r.xd L rfl hv hv2 Z' Z' hq;have Y:=r.ol;rw[hK] at Y;rw[show((k+1:Nat):Int)-1=(k:Int) by omega];generalize va 18446744073709551616 (bc X k (m+1))/va 18446744073709551616 ys=q at*;generalize X.take k++jb 18446744073709551616 (m+1+1) (va 18446744073709551616 (bc X k (m+1)) % va 18446744073709551616 ys)++X.drop (k+(m+1+1))=X2 at*;refine fa ?_;refine Wi (hdc) ?_;rintro e_ w_ ⟨rfl,I⟩;refine⟨_,rfl, ?_⟩;refine fa ?_;refine Xa I (i:=1) (vs:=[_]) rfl rfl (Xb rfl) rfl pa.out rfl (by rw[ya];omega) rfl ?_;refine Nr ?_;intro ws I;rw[X_,Qb (by rw[ya];omega),Vf] at I;refine fa ?_;refine⟨⟨k,X2,O.set k q,Z',rfl,T,I⟩,by show((k:Int)-1+1).toNat<((k:Int)+1).toNat;omega, ?_⟩;exact Wb
 obtain rfl:k=0:=Z';obtain⟨r1,r2⟩:=MW Z' hyv r;refine fa ?_;have u:=λZ h1=>ku (some ⟨y,0,none⟩) (Ad X).length (lx+2) s (Ad X) Z (Sl.Mp (n:=lx+2) h1) r.xd.cut (by have:=Vd X;have:=r.xl;omega) (by have:=Vd X;have:=r.xl;omega) Z';rw[Qh,r2] at u;have J:=λZ h1=>Be (some ⟨o,0,none⟩) K K O Z h1 r.od (E' _) Z';rw[r1] at J;have H:=λA c Z h1 h2 h3=>Be A (ra 18446744073709551616 (bN a % bN b)).length c (ra 18446744073709551616 (bN a % bN b)) Z h1 (Pf _) h2 h3;rw[Pd] at H;refine Ak 6 I ?_;refine eI ?_;refine dC (λ_ hj=>J _ (hj.hp.ma (i:=1) rfl)) ?_;refine wb ?_;refine dC (λ_ hj=>Ue _ _ _ X _ (hj.hp.ma (i:=0) rfl) (E' _) Z') ?_;refine nN ?_;refine dn ?_;intro W I;refine cr I (u _ (I.ma (i:=0) rfl)) ?_;intro A73 c73 w73 I;refine qd I (H _ _ _ (I.ma (i:=0) rfl) (I.ve (i:=0) rfl) (by have:=Ei (B:=18446744073709551616) Z' (Nat.le_of_lt (Q_ (bN a) (Nat.pos_of_ne_zero S)));omega)) rfl ?_;intro w74 I;refine fa ?_;exact⟨rfl,I.below⟩
def Pk(z:Int)(B:Nat)(q r:Int)(h:r+B*q=z)(J:0<=r)(h1:r<B):z/B=q:=((Int.ediv_emod_unique Z').2 ⟨h,J,h1⟩).1
def wx(s:Bool)(a b:ByteArray)(w:World)(ha:a.size<=10000000)(hb:b.size<=10000000)(o:bN b≠0):Calls prog 227 #[.agg #[.bool s,.string a],.agg #[.bool false,.string b]] w λe V=>∃x y,e=.returned (.tuple #[.agg #[.bool (iN (iv s a/bN b)),.string (iM (iv s a/bN b))],.agg #[.bool x,.string y],.bool true])/\Below w.heap.size w V:=by
 have I:=Hp.start w;have hba:=yf a;have hmod:bN a % bN b<bN b:=Q_ _ Z';have F:bN b*(bN a/bN b)+bN a % bN b=bN a:=T9 _ _;have m:(bN b:Int)*((bN a/bN b:Nat):Int)+((bN a % bN b:Nat):Int)=(bN a:Int):=by rw[<-F9,<-V8,F]
 have u:=λZ=>dr a b Z Z' Z' o;generalize hq:bN a/bN b=q at*;generalize hr:bN a % bN b=r at*;have S:iv false (sN q)=(q:Int):=by unfold iv;rw[ze,Q' (by simp)]
 cases s with
 |false=>
  have X:iv false a=(bN a:Int):=by unfold iv;rw[Q' (by simp)]
  have k:=Pk (iv false a) (bN b) q r (by rw[X,<-m];omega) Z' Z';rw[k];have L:=λZ=>De false (sN q) Z;rw[S] at L;refine Ca (l:=[.agg #[.bool false,.string a],.agg #[.bool false,.string b]]) func227 ?_;refine WU ?_;intro T w2 I b3 w3 I D w4 I R w5 I;refine cd I (u _) ?_;intro j I;refine yb ?_;intro ws I ws I;replace I:=show Hp w (.blk R 28 [.bool false,.string (sN r)] (0,0)::.blk D 28 [.bool false,.string (sN q)] (0,0)::_) _ from I;refine fa ?_;refine sv (Df Qa.out rfl rfl) ?_;refine fa ?_;exact iZ
 |true=>
  have X:iv true a= -(bN a:Int):=by unfold iv;rw[P' rfl]
  by_cases G:r=0
  .have E:sN r=ByteArray.mk #[]:=by rw[G,Yh]
   have k:=Pk (iv true a) (bN b) (-(q:Int)) 0 (by rw[X,<-m,G,J7];omega) Z' Z';rw[k];have Y:=λZ=>rg false (sN q) Z;have L:=λZ=>De (iN (-(q:Int))) (iM (-(q:Int))) Z;rw[S] at Y;rw[Uc] at L;refine Ca (l:=[.agg #[.bool true,.string a],.agg #[.bool false,.string b]]) func227 ?_;refine WU ?_;intro T w2 I b3 w3 I D w4 I R w5 I;refine cd I (u _) ?_;intro j I;refine yb ?_;intro ws I ws I;replace I:=show Hp w (.blk R 28 [.bool false,.string (sN r)] (0,0)::.blk D 28 [.bool false,.string (sN q)] (0,0)::_) _ from I;refine fa ?_
   (first|refine sv (pf rfl rfl (by first|rfl|assumption|decide)) ?_|refine sv (rf rfl rfl (by first|assumption|decide)) ?_)
   refine fa ?_;refine sv (Df Qa.out rfl rfl) ?_;refine fa ?_;refine cd I (Y _) ?_;intro N I;refine Bb ?_;intro ws I;exact iZ
  have E:¬sN r=ByteArray.mk #[]:=λh=>G (fB (h.trans Yh.symm));have k:=Pk (iv true a) (bN b) (-((q:Int)+1)) ((bN b:Int)-(r:Int)) (by rw[X,<-m,J7,Int.mul_add];omega) Z' Z';rw[k];have hqz:(sN q).size<=10000000:=by rw[Zg,<-hq];have:=Zb (l_ (H8 (bN a) (bN b)) (Ab (bN a)));omega
  have hrz:(sN r).size<=10000000:=by rw[Zg,<-hr];have:=Zb (l_ (Nat.mod_le (bN a) (bN b)) (Ab (bN a)));omega
  have e1:([IR.mk false (sN q),iR 1].map IR.v).sum=(q:Int)+1:=(by exact acL);have p:=λZ=>gj 1 Z V' V';have J:=λA Z h1=>Xl A 2 2 [IR.mk false (sN q),iR 1] Z h1 V' (by intro x H;obtain rfl|H:=u'.1 H;exact(show(sN q).size<=100000000 by omega);rw[q'.1 H];exact(by decide+kernel));rw[e1] at J;have C:=λZ=>Aj false false b (sN r) Z Z' Z';have Y:=λZ=>rg (iN ((q:Int)+1)) (iM ((q:Int)+1)) Z;rw[Uc] at Y;have L:=λZ=>De (iN (-((q:Int)+1))) (iM (-((q:Int)+1))) Z;rw[Uc] at L;refine Ca (l:=[.agg #[.bool true,.string a],.agg #[.bool false,.string b]]) func227 ?_;refine WU ?_;intro T w2 I b3 w3 I D w4 I R w5 I;refine cd I (u _) ?_;intro j I;refine yb ?_;intro ws I ws I;replace I:=show Hp w (.blk R 28 [.bool false,.string (sN r)] (0,0)::.blk D 28 [.bool false,.string (sN q)] (0,0)::_) _ from I;refine fa ?_
  (first|refine sv (pf rfl rfl (by first|rfl|assumption|decide)) ?_|refine sv (rf rfl rfl (by first|assumption|decide)) ?_)
  refine fa ?_;refine Ak 2 I ?_;refine wb ?_;refine dC (λ_ hj=>p _) ?_;refine dn ?_;intro W I;refine RD ?_;intro b34 w34 I;refine cd I (J _ _ (I.ma (i:=0) rfl)) ?_;intro w35 I;refine Bb ?_;intro ws I;refine cd I (C _) ?_;intro w40 I;refine Bb ?_;intro ws I;refine sv (Df Qa.out rfl rfl) ?_;refine fa ?_;refine cd I (Y _) ?_;intro N I;refine Bb ?_;intro ws I;refine fM ?_;refine Ud 2 [_,_] ?_;refine dC (λ_ hj=>L _) ?_;refine Ud 1 [_,_] ?_;refine Fa ?_;intro p_ z;simp only[u',h_,or_false] at z;obtain rfl|rfl:=z
  .intro f W Q d;have P:=Q.bl;obtain⟨c,t,_⟩:=d;simp only[qe];have K:f 0=_:=t;rw[K];have g:f 1=_:=c;rw[g];replace I:=Q.hp;clear K g Q;exact J2
  intro f W Q d;have P:=Q.bl;obtain⟨B,c,t,_⟩:=d;simp only[qe];have K:f 0=_:=t;rw[K];have g:f 1=_:=c;rw[g];have M:f 2=_:=B;rw[M];replace I:=Q.hp;clear K g M Q;exact O0
def jy(a b:NR)(p:Int):Int:=if 0<=a.e-b.e+p then a.i*2^(a.e-b.e+p).toNat else a.i
def Py(a b:NR)(p:Int):Int:=if 0<=a.e-b.e+p then b.i else b.i*2^(-(a.e-b.e+p)).toNat
def oO(a b:NR)(p:Int):Int:=if Py a b p<0 then -jy a b p / -Py a b p else jy a b p/Py a b p
def aH(x y:Dyadic)(p:Int):Dyadic:=Dyadic.ofIntWithPrec (oO (nR x) (nR y) p) p
def CQ(i j p:Int):Dyadic.ofIntWithPrec i p<=Dyadic.ofIntWithPrec j p↔i<=j:=by
 have h:=ll j i p;constructor
 .intro h1;have:¬Dyadic.ofIntWithPrec j p<Dyadic.ofIntWithPrec i p:=by grind
  rw[h] at this;omega
 intro h1;have:¬Dyadic.ofIntWithPrec j p<Dyadic.ofIntWithPrec i p:=by rw[h];omega
 grind
def CA(x:Dyadic)(y)(p:Int):∃K:Int,x=Dyadic.ofIntWithPrec (jy (nR x) (nR y) p) (p+K)/\y=Dyadic.ofIntWithPrec (Py (nR x) (nR y) p) K:=by
 have C:=Ga x;have hy:=Ga y;unfold NR.da at C hy;generalize nR x=a at*;generalize nR y=b at*;subst C hy;unfold jy Py;by_cases h:0<=a.e-b.e+p
 .rw[P' h,P' h];exact⟨-b.e,zg _ Z',rfl⟩
 rw[Q' h,Q' h];exact⟨-a.e-p,Y_ _ Z',zg _ Z'⟩
def rM{x y:Dyadic}(p:Int)(hy:0<y):aH x y p*y<=x:=by
 obtain⟨K,h1,h2⟩:=CA x y p;unfold aH oO;generalize jy (nR x) (nR y) p=M at*;generalize Py (nR x) (nR y) p=D at*;have r:0<D:=(by rw[h2,<-Sg K,ll] at hy;exact hy);rw[Q' Z',h1,h2,Nu,CQ];exact Int.ediv_mul_le M Z'
def WN{ro:Mode}{Q:Kq}{a c:Code}(mods)(s0 s1:Nat)(J:Value->Value->World->Prop)(E:WC ro P N a (Nd (λK q=>J (K s0) (K s1) q/\Sf mods K O) Q) O w)(B:∀ρ' v0 v1 V,J v0 v1 V->WC ro P N c Q (jd (jd (mask mods ρ' O) s0 v0) s1 v1) V):WC ro P N (.seq a c) Q O w:=
 xa (E.mono λe K q R=>by
  cases e with
  |normal=>
   have:=B K (K s0) (K s1) q R.1;rwa[Fg R.2,Ae,Ae] at this
  |_=>exact R)
def si(z:Int)(k:Nat):Ea (z*2^k).natAbs<=Ea z.natAbs+k:=by
 rw[q9,D8];exact Cg _ _
def QE(s:Bool)(a:ByteArray)(d:Nat)(h:a.size<=n):(iM (iv s a/(d:Int))).size<=n:=by
 have h1:=Yg s a;have G:Ea (iv s a/(d:Int)).natAbs<=Ea (iv s a).natAbs:=Zb (l_ (E7 _ _) (Ab _));rw[sc];omega
def aaH{x y:Dyadic}{p:Int}(J:y≠0):Py (nR x) (nR y) p≠0:=λh=>by
 obtain⟨K,_,h2⟩:=CA x y p;rw[h,Sg] at h2;exact J h2
theorem ju(x y:Dyadic)(p:Int)(w:World)(hT:Gc w)(hx:(nR x).ok)(hy:(nR y).ok)(J:y≠0)(hp1: -1000<=p)(hp2:p<=1000):Zc 155 #[.agg #[.bool (nR x).neg,.string (nR x).Va,.int .i64 (nR x).e],.agg #[.bool (nR y).neg,.string (nR y).Va,.int .i64 (nR y).e],.int .i64 p] w (.agg #[.bool (nR (aH x y p)).neg,.string (nR (aH x y p)).Va,.int .i64 (nR (aH x y p)).e]):=by
 have I:=Hp.start w;have hD0:=aaH (x:=x) (p:=p) J;unfold aH;have ba:=Yg (nR x).neg (nR x).Va;have bb:=Yg (nR y).neg (nR y).Va;obtain⟨a1,a2,a3⟩:=hx;obtain⟨c1,c2,c3⟩:=hy;generalize nR x=a at*;generalize nR y=b at*;obtain⟨n,D⟩:∃n,n=a.e-b.e+p:=⟨_,rfl⟩;have hsa:=λZ P=>Oh a.neg a.Va n Z P Z' Z' Z';have hsb:=λZ P=>Oh b.neg b.Va (-n) Z P Z' Z' Z';refine Ca (l:=[.agg #[.bool a.neg,.string a.Va,.int .i64 a.e],.agg #[.bool b.neg,.string b.Va,.int .i64 b.e],.int .i64 p]) func155 ?_;refine sr ?_;refine jC I [_,_,_] ?_;intro b3 w3 I;refine jC I [_,_,_] ?_;intro b4 w4 I;refine dv I ?_;intro b6 w6 I;refine na (sr (Bm ?_));refine pj I 2 ?_;refine Bm ?_;refine pj I 1 ?_;refine vy (mI ?_);refine Gi (aI (na ?_));rw[<-D];refine WN [8,9,20,21,22,23] 8 9 (λu v V=>∃c C,u=.pointer (some ⟨c,0,none⟩)/\v=.pointer (some ⟨C,0,none⟩)/\Hp w [.blk C 28 [.bool b.neg,.string b.Va] (0,0),.blk c 28 [.bool a.neg,.string a.Va] (0,0),.blk b6 30 [.bool false,.string (ByteArray.mk #[]),.int .i64 0] (0,0)] V) ?_ ?_
 .refine sJ [4,5] [2,3] [0,1,0,4,0,0,51,127] 6 [[(3,none)],[(20,some 0)],[(4,none)],[(22,some 2)],[],[]] [(5,9),(4,8),(3,23),(2,22),(1,21),(0,20)] [([],3,[(5,9),(4,8),(1,21),(0,20)]),([2],2,[(5,9),(4,8),(2,22),(1,21),(0,20)]),([2,3],1,[(5,9),(4,8),(3,23),(2,22),(1,21),(0,20)])] I mixed U' U' V' (On rfl pa.out (On rfl pa.out Hn)) rfl ?_;refine dfa ?_;refine Ud 2 [_,_] ?_;refine dfa ?_;refine Ud 1 [_,_] ?_;refine Ja (i:=4) (Ob _ 28 _) Ob.ext (λU Z hj hR=>Pg pa.out hj.bl (λv w2 h hb=>⟨hb,h⟩)) ?_;refine Ja (i:=5) (Ob _ 28 _) Ob.ext (λU Z hj hR=>Pg pa.out hj.bl (λv w2 h hb=>⟨hb,h⟩)) ?_;refine Fa ?_;intro p_ F;simp only[u',h_,or_false] at F;obtain rfl|rfl|rfl:=F
  .intro f W Q B r;have k:=Q.bl;obtain⟨X,Y,j,v20,_⟩:=B;simp only[qe];have s:f 0=_:=v20;rw[s];have H:f 1=_:=j;rw[H];obtain⟨c,L,T,R⟩:Ob _ _ _ (f 4) W:=Y;obtain⟨C,g,m,A⟩:Ob _ _ _ (f 5) W:=X;have E:=wC (r 4 V' 5 V' V' V' V') L g;replace I:=Q.vB I T R m A E;clear r E;rw[L,g];clear s H L g Q;refine abJ ?_;intro ws I;refine Kc ?_;refine je (i:=2) U' rfl ?_;refine Bm ?_;exact adE
  .intro f W Q B r;have k:=Q.bl;obtain⟨X,Y,G,j,v20,_⟩:=B;refine JY ?_;(unhygienic intros)
   obtain⟨c,L,T,R⟩:Ob _ _ _ (f 4) W:=Y;obtain⟨C,g,m,A⟩:Ob _ _ _ (f 5) W:=X;have E:=wC (r 4 V' 5 V' V' V' V') L g;replace I:=Q.vB I T R m A E;clear r E;rw[L,g];clear s H o L g Q;refine abJ ?_;intro ws I;exact adE
  intro f W Q B r;have k:=Q.bl;obtain⟨X,Y,v23,G,j,v20,_⟩:=B;refine JY ?_;(unhygienic intros)
  have z:f 3=_:=v23;rw[z];obtain⟨c,L,T,R⟩:Ob _ _ _ (f 4) W:=Y;obtain⟨C,g,m,A⟩:Ob _ _ _ (f 5) W:=X;have E:=wC (r 4 V' 5 V' V' V' V') L g;replace I:=Q.vB I T R m A E;clear r E;rw[L,g];clear s H o z L g Q;refine abJ ?_;intro ws I;refine w1 ?_;(unhygienic intros)
  repeat refine oc rfl ?_
  exact λ_ _=>rfl
 rintro ρ' _ _ V ⟨c,C,rfl,rfl,I⟩;refine ko [24,25,26,27,28,29,30,31,32] (λV=>∃s1 q s2 N,Hp w [.blk C 28 [.bool s2,.string N] (0,0),.blk c 28 [.bool s1,.string q] (0,0),.blk b6 30 [.bool false,.string (ByteArray.mk #[]),.int .i64 0] (0,0)] V/\iv s1 q=jy a b p/\iv s2 N=Py a b p/\q.size<=9000000/\N.size<=9000000) ?_ ?_
 .by_cases J:0<=n
  .refine fa ?_;refine cd I (hsa _ (hT.ext I.below)) ?_;intro w28 I;refine Bb ?_;intro ws I;refine⟨⟨_,_,_,_,I, ?_, ?_, ?_, ?_⟩, ?_⟩
   .rw[Uc];unfold jy dy;rw[<-D,P' J,P' J];rfl
   .unfold Py;rw[<-D,P' J];rfl
   .rw[sc,dy,P' J];have:=si (iv a.neg a.Va) n.toNat;omega
   .omega
   repeat refine oc rfl ?_
   exact λ_ _=>rfl
  refine fa ?_;refine cd I (hsb _ (hT.ext I.below)) ?_;intro w32 I;refine Bb ?_;intro ws I;refine⟨⟨_,_,_,_,I, ?_, ?_, ?_, ?_⟩, ?_⟩
  .unfold jy;rw[<-D,Q' J];rfl
  .rw[Uc];unfold Py dy;rw[<-D,Q' J,P' Z'];rfl
  .omega
  .rw[sc,dy,P' Z'];have:=si (iv b.neg b.Va) (-n).toNat;omega
  repeat refine oc rfl ?_
  exact λ_ _=>rfl
 rintro ρ' V ⟨s1,q,s2,N,I,e1,e2,z1,z2⟩;rw[<-e2] at hD0;unfold oO;rw[<-e1,<-e2];refine ko [33,34,35,36,37,38,39] (λV=>∃S t M,Hp w [.blk C 28 [.bool false,.string M] (0,0),.blk c 28 [.bool S,.string t] (0,0),.blk b6 30 [.bool false,.string (ByteArray.mk #[]),.int .i64 0] (0,0)] V/\(if iv s2 N<0 then -iv s1 q / -iv s2 N else iv s1 q/iv s2 N)=iv S t/bN M/\bN M≠0/\t.size<=9000000/\M.size<=9000000) ?_ ?_
 .by_cases r:iv s2 N<0
  .have hs:(iv s2 N).sign= -1:=X8 r;have hng:=λZ=>rg s1 q Z;have d:=λZ=>rg s2 N Z;have ef:iN (-(iv s2 N))=false:=by unfold iN;exact k' Z'
   have eb:(bN (iM (-(iv s2 N))):Int)= -(iv s2 N):=(by have:=Uc (-(iv s2 N));rw[ef] at this;exact this);rw[ef] at d;refine fa ?_;refine cd I (qg s2 N _) ?_;intro w34 I;rw[hs];refine fa ?_;refine Ak 3 I ?_;refine wb ?_;refine dC (λ_ hj=>hng _) ?_;refine wb ?_;refine dn ?_;intro W I;refine cd I (d _) ?_;intro w39 I;refine yb ?_;intro ws I ws I;refine⟨⟨_,_,_,I, ?_, ?_, ?_, ?_⟩, ?_⟩
   .rw[P' r,Uc,eb]
   .omega
   .exact d' (Sj _ _) z1
   .exact d' (Sj _ _) z2
   repeat refine oc rfl ?_
   exact λ_ _=>rfl
  have hp:0<iv s2 N:=Z';have hs:(iv s2 N).sign=1:=T8 hp
  cases s2 with
  |true=>unfold iv at hp;rw[P' rfl] at hp;omega
  |false=>
   have eb:iv false N=(bN N:Int):=rfl;refine fa ?_;refine cd I (qg false N _) ?_;intro w34 I;rw[hs];refine fa ?_;refine⟨⟨_,_,_,I, ?_, ?_, ?_, ?_⟩, ?_⟩
   .rw[Q' r,eb]
   .omega
   .exact z1
   .exact z2
   repeat refine oc rfl ?_
   exact λ_ _=>rfl
 rintro ρ' V ⟨s3,K,m4,I,e3,hb0,z3,z4⟩;rw[e3];refine fa ?_;refine te (wx s3 K m4 _ Z' Z' hb0) rfl ?_;rintro e_ w43 ⟨x,y,rfl,hb_⟩;refine⟨_,rfl, ?_⟩;replace I:=I.ext hb_;refine WU ?_;intro b10 w10 I b11 w11 I ws I ws I;have hq:(iM (iv s3 K/bN m4)).size<=9000000:=QE s3 K _ z3;refine qd I (kf (iN (iv s3 K/bN m4)) (iM (iv s3 K/bN m4)) (-p) _ (hT.hp I) Z' Z' Z') rfl ?_;intro w50 I;refine Bb ?_;intro ws I;refine qN (Nc rfl (Mc (vs:=[_,_,_]) pa.out (I.Ra (i:=4) (n:=3) rfl rfl) rfl) Xd) ?_;exact⟨by rw[Uc,M7],I.below⟩
def xD(x y:Dyadic)(p:Int):SR:=⟨nR (aH x y p),nR (-aH (-x) y p)⟩
def bO(a b:NR)(p:Int)(w)(S:Gc w)(M:a.ok)(F:b.ok)(C:(nR a.da).ok)(c:(nR (-a.da)).ok)(hy:(nR b.da).ok)(J:b.da≠0)(R:(nR (aH (-a.da) b.da p)).ok)(L: -1000<=p)(H:p<=1000):Zc 90 #[a.V,b.V,.int .i64 p] w (.tuple #[.agg (SR.cells (xD a.da b.da p)).toArray,.int .i64 0]):=by
 have I:=Hp.start w;obtain⟨m,o,q⟩:=M;obtain⟨X,Y,y⟩:=F;have j:=λZ P=>Yc a Z P Z' Z' Z';have f:=λZ P=>Yc b Z P Z' Z' Z';have g:¬(nR b.da).i.sign=0:=λh=>(by rw[NR.sign,Ga] at h;have h1:=(tq b.da 0);have h2:=(Tu b.da 0);rw[h] at h1 h2;have z:¬b.da<0:=λh=>absurd (h1.2 h) V';have A:¬0<b.da:=λh=>absurd (h2.2 h) V';exact J (by grind));have s:=λZ P=>zj (nR a.da) Z P (by have:=C.1;omega) (by have:=C.2.1;omega) (by have:=C.2.2;omega);have D:=λZ P=>zj (nR (aH (-a.da) b.da p)) Z P (by have:=R.1;omega) (by have:=R.2.1;omega) (by have:=R.2.2;omega);rw[Ga] at s D;have u:=λZ P=>ju a.da b.da p Z P C hy J L H;have k:=λZ P=>ju (-a.da) b.da p Z P c hy J L H;refine Ca func90 ?_;refine Am ?_;intro r B I v E I x K I;refine ud 3 I ?_;refine dC (λ_ hj=>j _ (S.hp hj.hp)) ?_;refine wb ?_;refine dn ?_;intro W I;refine cd I (f _ (S.hp I)) ?_;intro t I;refine yb ?_;intro ws I ws I;refine cd I (jc (nR b.da) _) ?_;intro l I;refine fa ?_;refine ud 8 I ?_;refine dC (λ_ hj=>u _ (S.hp hj.hp)) ?_;refine wb ?_;refine dC (λ_ hj=>s _ (S.hp hj.hp)) ?_;refine wb ?_;refine dn ?_;intro W I;refine cd I (k _ (S.hp I)) ?_;intro T I;refine cd I (D _ (S.hp I)) ?_;intro G I;refine Bb ?_;intro ws I;refine dP (Nc rfl (Mc (vs:=[_,_,_,_,_,_]) pa.out (I.Ra (i:=0) (n:=6) rfl rfl) rfl) (Ig (ji rfl) Xd)) ?_;exact⟨rfl,I.below⟩
def L1(l:List SR):List NR:=l.flatMap λs=>[s.lo,s.hi]
def AY(l:List SR):SR:=⟨nR (Xf (λx y=>decide (x<y)) ((L1 l).map NR.da)),nR (Xf (λx y=>decide (y<x)) ((L1 l).map NR.da))⟩
def sE(out:Int):List Int->Int
 |[]=>out
 |s::r=>if out=2\/out=s then sE s r else 0
def gm(l:List NR):Int:=sE 2 (l.map λa=>a.i.sign)
def wE(L)(n c:Nat)(l)(w)(J:Sl w L n 3 (ia NR.cells l))(B:n<=1000000):Zc 154 #[.slice L n c] w (.int .i64 (gm l)):=by
 have I:=Hp.start w;have m:=J.sa NR.len V';refine Ca func154 ?_;refine fa ?_;refine Fi 3 9 (λy v V=>∃(i:Nat)(o:Int),i<=n/\v=.int .i64 i/\y=.int .i64 o/\gm l=sE o ((l.drop i).map λa=>a.i.sign)/\ -2<=o/\o<=2/\Hp w [] V) (λ_ v _=>n-(intOf v).toNat) ?_ ?_
 .exact⟨0,2,J' _,rfl,rfl,rfl,V',V',I⟩
 clear I;rintro ρ' y v V ⟨i,o,hi,rfl,rfl,e,d,q,I⟩;by_cases D:i<n
 .obtain⟨a,M⟩:=aa (l:=l) (k:=i) Z';obtain⟨f,rfl,H⟩:=J.at_ Z';rw[K8 Z',(x'.1 M).2,I_,sE] at e;have F:=Cl a.i;by_cases h2:o=2
  .rw[P' (.inl h2)] at e;exact FY
  by_cases G:o=a.i.sign
  .rw[P' (.inr G)] at e;exact FY
  rw[Q' Z'] at e;refine LY ?_;intro R b I ws I Y I;generalize a.i.sign=g at*;refine fa ?_;exact⟨by rw[e],I.below⟩
 obtain rfl:i=n:=Z';rw[g6 Z'] at e;refine fa ?_;exact⟨by rw[e];rfl,I.below⟩
def yu(f:FX)(k:Nat)(w)(S:Gc w)(h:f.at_ w)(Q:f.Ug k)(he:f.e=0):Zc 89 #[f.V] w (.tuple #[.int .i64 (gm f.cs),.int .i64 0]):=by
 have I:=Hp.start w;have E:=λZ P t=>ml f k Z P (h.ext t) Q;rw[he] at E;refine Ca func89 ?_;refine Bb ?_;intro G Z I;refine cd I (E _ (S.hp I) I.below) ?_;intro c I;refine fa ?_;refine qd I (wE f.B f.m f.b f.cs _ (h.nm.ext I.below) (by have:=Q.m60;omega)) rfl ?_;intro W I;refine fa ?_;exact⟨rfl,I.below⟩
def jq(p:Int×Int):Bool:=decide (p.2<p.1\/127<p.2)
def vN(ds es:List Int):Int:=if es.length≠ds.length then 1 else if(ds.zip es).any jq=true then 1 else if 4096<ea (es.map Int.toNat) then 3 else 0
def Kg(a b:List Nat):List Nat:=List.zipWith (· - ·) a b
def ni(ns ts:List Nat)(xs:List Dyadic):List Dyadic:=DA ns (Kg ts ns) xs ((Wr (Kg ts ns)).map nD)
def av:∀{ns ts:List Nat},ns.length=ts.length->(∀(i n t:Nat),ns[i]?=some n->ts[i]?=some t->n<=t)->Od ns (Kg ts ns)=ts
 |[],[],_,_=>rfl
 |[],_::_,h,_=>by simp at h
 |_::_,[],h,_=>by simp at h
 |n::ns,t::ts,h,h2=>(by have J:=h2 0 n t rfl rfl;have W:=av (ns:=ns) (ts:=ts) (by simpa using h) λi a b M F=>h2 (i+1) a b M F;show(n+(t-n))::Od ns (Kg ts ns)=_;rw[W,show n+(t-n)=t by omega])
def Xs:∀{a b:List Nat},a.length=b.length->(∀(i x y:Nat),a[i]?=some x->b[i]?=some y->x<=y)->ea a<=ea b
 |[],[],_,_=>E' _
 |[],_::_,h,_=>by simp at h
 |_::_,[],h,_=>by simp at h
 |x::a,y::b,h,h2=>(by have J:=h2 0 x y rfl rfl;rw[ea,ea];exact G9 Z' (Xs (by simpa using h) λi p q hp R=>h2 (i+1) p q hp R))
def JM{a b:List Nat}{i x y:Nat}(h1:a[i]?=some x)(h2:b[i]?=some y):(Kg a b)[i]?=some (x-y):=by
 unfold Kg;rw[n9,h1,h2]
def Gw{a b:List Nat}(h:a.length=b.length):(Kg a b).length=a.length:=by simp[Kg,h]
def dif(es ds:List Int):List Int:=List.zipWith (· - ·) es ds
def aat{es ds:List Int}{i:Nat}{x y:Int}(h1:es[i]?=some x)(h2:ds[i]?=some y):(dif es ds)[i]?=some (x-y):=by
 unfold dif;rw[n9,h1,h2]
def MK:∀{ts ns:List Nat},ns.length=ts.length->(∀(i n t:Nat),ns[i]?=some n->ts[i]?=some t->n<=t)->dif (Ha ts) (Ha ns)=Ha (Kg ts ns)
 |[],[],_,_=>rfl
 |[],_::_,h,_=>by simp at h
 |_::_,[],h,_=>by simp at h
 |t::ts,n::ns,h,h2=>(by have J:=h2 0 n t rfl rfl;have W:=MK (ns:=ns) (ts:=ts) (by simpa using h) λi a b M F=>h2 (i+1) a b M F;show((t:Int)-(n:Int))::dif (Ha ts) (Ha ns)=((t-n:Nat):Int)::Ha (Kg ts ns);rw[W,show(t:Int)-(n:Int)=((t-n:Nat):Int) by omega])
def abI{ns:List Nat}{es:List Int}(Q:es.length=(Ha ns).length)(F:((Ha ns).zip es).any jq=false):∃ts:List Nat,es=Ha ts/\ns.length=ts.length/\(∀(i n t:Nat),ns[i]?=some n->ts[i]?=some t->n<=t)/\∀t∈ts,t<=127:=by
 have key:∀(i:Nat)(d:Int),es[i]?=some d->∃n,ns[i]?=some n/\(n:Int)<=d/\d<=127:=λi d T=>(by have hi:=(x'.1 T).1;rw[Q,Ub] at hi;obtain⟨n,B⟩:=aa hi;have o:((n:Int),d)∈(Ha ns).zip es:=N' (i:=i) (by rw[T7];exact⟨ue B,T⟩);have:=E9.1 F _ o;simp[jq] at this;exact⟨n,B,Z',Z'⟩);refine⟨es.map Int.toNat, ?_,by rw[D',Q,Ub],λi n t B S=> ?_,λt S=> ?_⟩
 .unfold Ha;rw[A_];refine(L6 es).symm.trans (z9 λd T=> ?_);obtain⟨i,hi⟩:=C_.1 T;obtain⟨n,_,h1,_⟩:=key i d hi;show d=((d.toNat:Nat):Int);omega
 .rw[z'] at S
  cases T:es[i]? with
  |none=>rw[T] at S;cases S
  |some d=>
   rw[T] at S;obtain rfl:d.toNat=t:=by simpa using S
   obtain⟨q,a,h1,_⟩:=key i d T;rw[B] at a;obtain rfl:=i' a;omega
 obtain⟨d,T,rfl⟩:=B'.1 S;obtain⟨i,hi⟩:=C_.1 T;obtain⟨n,_,h1,h2⟩:=key i d hi;omega
def Bh(ts):(Ha ts).map Int.toNat=ts:=by
 unfold Ha;rw[A_];exact L6 ts
def CP(e:Int):Ending:=.returned (.tuple #[.agg #[.slice none 0 0,.slice none 0 0],.int .i64 e])
def kD{ds es:List Int}{i:Nat}{d e:Int}(h:((ds.take i).zip (es.take i)).any jq=false)(T:ds[i]?=some d)(he:es[i]?=some e)(F:jq (d,e)=false):((ds.take (i+1)).zip (es.take (i+1))).any jq=false:=by
 rw[ja T,ja he,List.zip_append (by have:=(x'.1 T).1;have:=(x'.1 he).1;simp;omega),B8,h];show(false||([(d,e)].any jq))=false;rw[k8,F];rfl
def MC(f:FX)(E:Option Addr)(q cE:Nat)(es:List Int)(k:Nat)(w:World)(hT:Gc w)(hf:f.at_ w)(hl:f.Ug k)(hE:Sl w E q 1 (Pa es))(hq:q<=1000)(hk:k<=90000) (hM:f.e=0->vN f.ds es=0->ea (es.map Int.toNat)*ea (f.ds.map Int.toNat)<=1000000):Calls prog 226 #[.agg #[.slice f.A f.n f.a,.slice f.B f.m f.b],.slice E q cE] w λr V=>((f.e≠0/\r=CP f.e\/f.e=0/\vN f.ds es≠0/\r=CP (vN f.ds es))/\Below w.heap.size w V)\/(f.e=0/\vN f.ds es=0/\∃(A:Option Addr)(a:Nat)(B:Option Addr)(b:Nat),r=.returned (.tuple #[.agg #[.slice A q a,.slice B (ea (es.map Int.toNat)) b],.int .i64 0])/\Hp w [.row B (ea (es.map Int.toNat)) b 30 3 (ia NR.cells ((ni (f.ds.map Int.toNat) (es.map Int.toNat) (f.cs.map NR.da)).map nR)),.row A q a 3 1 (Pa es)] V):=by
 have I:=Hp.start w;have s:f.ds.length=f.n:=by have:=hf.dg.1;simpa[Pa] using this
 have Y:es.length=q:=by have:=hE.1;simpa[Pa] using this
 have hlm:=hf.nm.sa NR.len V';have R:=λZ N hb=>ml f k Z N (hf.ext hb) hl;have hn20:=hl.n20;by_cases J:f.e=0
 .by_cases h1:q=f.n
  .obtain⟨ns,xs,hv,hxs⟩:=ZY J;refine Ca func226 ?_;refine yb ?_;intro b2 w2 I b4 w4 I;refine cd I (R _ (hT.hp I) I.below) ?_;intro w11 I;refine yb ?_;intro b7 w7 I ws I;replace I:=I.rb 3 1;refine bf 26 (λv V=>∃(i c7:Nat)(A:Option Addr),i<=q/\v=.int .i64 i/\((f.ds.take i).zip (es.take i)).any jq=false/\Hp w [.row A i c7 3 1 (Pa ((dif es f.ds).take i)),.blk b7 78 [.slice A i c7,.slice none 0 0] (0,0),.blk b4 78 [.slice none 0 0,.slice none 0 0] (0,0),.blk b2 78 [.slice f.A f.n f.a,.slice f.B f.m f.b] (0,0)] V) (λv _=>q-(intOf v).toNat) ?_ ?_
   .exact⟨0,0,none,J' _,rfl,rfl,I⟩
   clear I;rintro ρ' v V ⟨i,c7,A,hi,rfl,X,I⟩;by_cases hlt:i<q
   .obtain⟨d,T⟩:=aa (l:=f.ds) (k:=i) Z';obtain⟨e,he⟩:=aa (l:=es) (k:=i) Z';have hgd:=Ic T;have hge:=Ic he;have hde:=aat he T;obtain⟨a1,hA1,s1⟩:=hf.dg.at_ Z';obtain⟨a2,rfl,s2⟩:=hE.at_ Z';have hdn:0<=d/\d<=127:=(by have M:=hv.deg;rw[M] at T;have g:=hv.low;obtain⟨nn,o⟩:=aa (l:=ns) (k:=i) (by rw[<-Ub,<-M,s];omega);rw[ue o] at T;have:=g nn (N' o);have:=i' T;omega);have u:jq (d,e)=true->vN f.ds es=1:=λhb=>(by unfold vN;rw[Q' Z',P'];exact W9.2 ⟨(d,e),N' (i:=i) (by rw[T7];exact⟨T,he⟩),hb⟩);rw[hA1] at I;by_cases h2:e<d
    .have D:=u (by unfold jq;rw[m'];exact .inl h2);exact ac9
    by_cases h3:127<e
    .have D:=u (by unfold jq;rw[m'];exact .inr h3);exact ac9
    refine fa ?_;refine PZ ?_;refine fa ?_;refine Ak 10 I ?_;refine wb ?_;refine Ui (i) ?_;refine Ma (i:=7) (λU Z hj hR=>Ba pa.out (show U 49=Value.pointer _ from hR.1) ((s1.ext hj.hp.below).Yr (by assumption))) ?_;refine wb ?_;refine Wp [_] ?_;refine Fa ?_;intro f W hJ hV;obtain⟨v52,v51,v50,v49,v48,v47,v46,v45,v44,v43,_⟩:=hV;obtain⟨A52,c52,e52,f52⟩:Rows _ _ _ (f 9) W:=v52;replace I:=hJ.hp;refine lg ?_;clear e52 hJ;refine mb I (i:=0) rfl rfl rfl (f52) Qa.out pa.out rfl V' (by first|rfl|exact Nb _|exact xb _|exact Da _|exact Ia NR.one _) Z' Z' V' ?_;intro A53 c53 w53 I;simp only[j'] at I;refine Bb ?_;intro ws I;rw[<-hA1] at I;replace I:=I.sub (O' _ (O' _ (O' _ (O' _ Z_))));refine⟨⟨i+1,c53,A53,Z',rfl,kD X T he (by unfold jq;rw[k'];show ¬(e<d\/127<e);omega), ?_⟩,by show q-(i+1)<q-i;omega, ?_⟩
    .rw[ja hde,RF];exact I
    exact Wb
   obtain rfl:i=q:=Z';rw[w' Z',w' Z'] at X;have M:=hv.deg;have H:=hv.num;have g:=hv.low;have hlen:=hv.len;have hfew:=hv.uZ;rw[M] at X s;obtain⟨ts,rfl,G,hle,h⟩:=abI (by rw[s];omega) X;have hnl:ns.length=f.n:=by rw[<-Ub];exact s
   have htn:(Ha ts).map Int.toNat=ts:=Bh ts;have o:f.ds.map Int.toNat=ns:=by rw[M];exact Bh ns
   have K:vN f.ds (Ha ts)=if 4096<ea ts then 3 else 0:=(by unfold vN;rw[M,Q' (by rw[Ub,Ub];omega),Q' (by rw[X];decide),htn])
   rw[htn,o] at hM;rw[htn,o,K,<-hxs];rw[K] at hM;have P:=λZ hS1=>dI E i cE ts Z hS1 hq (λd T=>by have:=h d T;omega);have hany:ts.any (λd=>decide (127<d))=false:=E9.2 λd T=>by have:=h d T;simp;omega
   by_cases h4:4096<ea ts
   .have Q:tB ts=true:=by unfold tB;rw[m' h4,Bool.or_true]
    rw[Q] at P;rw[P' h4];refine fa ?_;refine cd I (P _ (hE.ext I.below)) ?_;intro w57 I;refine Bb ?_;intro ws I;refine Cr ?_;exact .inl ⟨.inr ⟨J,V',rfl⟩,I.below⟩
   have Q:tB ts=false:=by unfold tB;rw[hany,k' h4];rfl
   rw[Q] at P;rw[Q' h4] at hM;rw[Q' h4];have hM2:=hM J rfl;have hsl:(Kg ts ns).length=i:=by rw[Gw Z',<-Ub];exact Y
   have p:∀d∈Kg ts ns,d<=127:=λd T=>(by obtain⟨j,hj⟩:=C_.1 T;have hj2:=(x'.1 hj).1;obtain⟨x,C⟩:=aa (l:=ts) (k:=j) (by rw[Ub] at Y;omega);obtain⟨y,hy⟩:=aa (l:=ns) (k:=j) Z';rw[JM C hy] at hj;have:=h x (N' C);have:=i' hj;omega);have hcs:ea (Kg ts ns)<=ea ts:=Xs (by rw[hsl,<-Ub];exact Y.symm) λj x y C hy=>(by have hj2:=(x'.1 C).1;obtain⟨z,hz⟩:=aa (l:=ns) (k:=j) Z';rw[JM hy hz] at C;have:=i' C;omega);have t:Od ns (Kg ts ns)=ts:=av G hle;have F:dif (Ha ts) f.ds=Ha (Kg ts ns):=by rw[M];exact MK G hle
   have hwn:rv (Kg ts ns)=((Wr (Kg ts ns)).map nD).map nR:=by unfold rv;rw[A_];rfl
   have L:(Kg ts ns).length<=12:=Z';have hwz:∀y∈(Wr (Kg ts ns)).map nD,Sz 1600 y:=λy hy=>(by obtain⟨x,C,rfl⟩:=B'.1 hy;exact iK C L p);have hxz:∀x∈xs,Sz k x:=λx C=>(by rw[hxs] at C;obtain⟨c,hc,rfl⟩:=B'.1 C;exact(hl.num c hc).2);have hpair:ea (Kg ts ns)*ea ns<=ea ts*ea ns:=c_ _ hcs;have hfm:f.m=ea ns:=by rw[<-hlm,H,D',hlen]
   have htm:=λZ N A B c3 c4 h1 h2 h3 h4'=>NB f.A f.B A B i f.a f.b c3 c4 ns (Kg ts ns) xs ((Wr (Kg ts ns)).map nD) k 1600 Z N h1 h2 h3 h4' Z' g p (by rw[t];omega) Z' hxz hwz Z';rw[t] at htm;have S:=hf.dg;have hnm:=hf.nm;rw[M] at S;rw[H,hfm] at hnm;rw[w' (by rw[F,Ub];omega),F] at I;rw[hfm] at I;rw[show f.n=i by omega] at I S;refine fa ?_;refine cd I (P _ (hE.ext I.below)) ?_;intro w57 I;refine fa ?_;refine lW I (Ym A i c7 (Kg ts ns) _ (hT.hp I) (I.ma (i:=0) rfl) L p Z') rfl ?_;intro A61 c61 w61 I;rw[hwn] at I;refine Bb ?_;intro ws I;refine Wi (htm _ (hT.hp I) _ _ _ _ (S.ext I.below) (hnm.ext I.below) (I.ma (i:=1) rfl) (I.ma (i:=0) rfl)) ?_;rintro e_ w65 ⟨Ar,cr,Br,br,rfl,h2⟩;refine⟨_,rfl, ?_⟩;replace I:=I.join h2;clear h2;refine Bb ?_;intro ws I;refine dP (Nc rfl (Mc (vs:=[_,_]) pa.out (I.Ra (i:=5) (n:=2) rfl rfl) rfl) (Ig (ji rfl) Xd)) ?_;exact .inr ⟨J,rfl,_,_,_,_,rfl,I.sub (O' _ (O' _ (m_ _)))⟩
  have K:vN f.ds es=1:=by unfold vN;rw[P' Z']
  refine Ca func226 ?_;refine yb ?_;intro b2 w2 I b4 w4 I;refine cd I (R _ (hT.hp I) I.below) ?_;intro w11 I;refine Bb ?_;intro ws I;refine Yt ?_;exact .inl ⟨.inr ⟨J,by rw[K];decide,by rw[K];rfl⟩,I.below⟩
 refine Ca func226 ?_;refine yb ?_;intro b2 w2 I b4 w4 I;refine cd I (R _ (hT.hp I) I.below) ?_;intro w11 I;refine Bb ?_;intro ws I;refine Yt ?_;exact .inl ⟨.inl ⟨J,rfl⟩,I.below⟩
def FX.gg(f:FX):HE:=.row f.B f.m f.b 30 3 (ia NR.cells f.cs)
def FX.Kf(f:FX):HE:=.row f.A f.n f.a 3 1 (Pa f.ds)
def Ij:List FX->List HE
 |[]=>[]
 |f::fs=>f.gg::f.Kf::Ij fs
def kB(a:List FX)(b):Ij (a++b)=Ij a++Ij b:=by
 induction a with
 |nil=>rfl
 |cons f a W=>rw[C',Ij,Ij,W];rfl
def gO{f:FX}{fs:List FX}(h:f∈fs):f.gg∈Ij fs/\f.Kf∈Ij fs:=by
 induction fs with
 |nil=>cases h
 |cons g fs W=>
  obtain rfl|h:=u'.1 h
  .exact aa8
  exact⟨L' _ (L' _ (W h).1),L' _ (L' _ (W h).2)⟩
def Hp.Bj{H:List HE}(h:Hp w0 H w){f:FX}(h1:f.gg∈H)(h2:f.Kf∈H):f.at_ w:=⟨ee (h.own _ h2),ee (h.own _ h1)⟩
def Ii(a b:List Nat):List Nat:=List.zipWith max a b
def maxD(fs:List FX):List Nat:=fs.foldl (λa f=>Ii a (f.ds.map Int.toNat)) ((fs.map λf=>f.ds.map Int.toNat).headD [])
def qb(fs:List FX):Int:=if vh fs≠0 then vh fs else if 4096<ea (maxD fs) then 3 else 0
def Rr{fs:List FX}(h:vh fs=0):fs≠[]/\(∀f∈fs,f.e=0)/\∀f∈fs,f.n=(fs.map FX.n).headD 0:=by
 unfold vh at h;exact acW
def Mm{a b:List Nat}(h:a.length=b.length):(Ii a b).length=a.length:=by simp[Ii,h]
def XB{a b:List Nat}{i x y:Nat}(h1:a[i]?=some x)(h2:b[i]?=some y):(Ii a b)[i]?=some (max x y):=by
 unfold Ii;rw[n9,h1,h2]
def MB:∀(ls:List (List Nat))(a:List Nat),(∀l∈ls,l.length=a.length)->(ls.foldl Ii a).length=a.length/\(∀(i x y:Nat),a[i]?=some x->(ls.foldl Ii a)[i]?=some y->x<=y)/\∀l∈ls,∀(i x y:Nat),l[i]?=some x->(ls.foldl Ii a)[i]?=some y->x<=y
 |[],a,_=>⟨rfl,λi x y h1 h2=>by have G:a[i]?=some y:=h2;rw[h1] at G;cases G;exact E' _,λ_ h=>nomatch h⟩
 |l::ls,a,h=>by
  have Q:=h l I';have h2:=Mm Q.symm;obtain⟨G,b,P⟩:=MB ls (Ii a l) λm hm=>by rw[h2];exact h m (L' _ hm)
  refine⟨by rw[S8,G,h2],λi x y C hy=> ?_,λm hm i x y C hy=> ?_⟩
  .have hi:=(x'.1 C).1;obtain⟨z,o⟩:=aa (l:=l) (k:=i) Z';have:=b i (max x z) y (XB C o) hy;omega
  obtain rfl|hm:=u'.1 hm
  .have hi:=(x'.1 C).1;obtain⟨z,o⟩:=aa (l:=a) (k:=i) Z';have:=b i (max z x) y (XB o C) hy;omega
  exact P m hm i x y C hy
def bC(B:Nat):∀(ls:List (List Nat))(a:List Nat),(∀x∈a,x<=B)->(∀l∈ls,∀x∈l,x<=B)->∀x∈ls.foldl Ii a,x<=B
 |[],_,h,_=>h
 |l::ls,a,h,h2=>bC B ls (Ii a l) (λx C=>by
   obtain⟨i,hi⟩:=C_.1 C;unfold Ii at hi;rw[n9] at hi
   cases G:a[i]? with
   |none=>rw[G] at hi;cases hi
   |some p=>
    cases z:l[i]? with
    |none=>rw[G,z] at hi;cases hi
    |some q=>
     rw[G,z] at hi;have P:max p q=x:=by simpa using hi
     have:=h p (N' G);have:=h2 l I' q (N' z);omega) λm hm=>h2 m (L' _ hm)
def FX.ns(f:FX):List Nat:=f.ds.map Int.toNat
def FX.fv{f:FX}(h:f.e=0):f.ds=Ha f.ns/\f.cs=(f.cs.map NR.da).map nR/\f.ns.length<=12/\(∀d∈f.ns,d<=127)/\f.cs.length=ea f.ns/\ea f.ns<=4096:=by
 obtain⟨ns,xs,A,J⟩:=ZY h;obtain⟨h1,h2,G,z,P,L⟩:=A;have e:f.ns=ns:=by unfold FX.ns;rw[h1];exact Bh ns
 subst J;rw[e];exact⟨h1,h2,G,z,by simpa using P,L⟩
structure jZ(D:List Nat)(ys:List Dyadic)(g:FX):Prop where
 ds:g.ds=Ha D
 cs:g.cs=ys.map nR
 n:g.n=D.length
 m:g.m=ea D
def gi(D:List Nat)(f:FX):List Dyadic:=ni f.ns D (f.cs.map NR.da)
def Zx(a b:List Nat)(j:Nat):List Nat:=(Ii a b).take j++a.drop j
def pR{a b:List Nat}{x y:Nat}(h:a.length=b.length)(C:a[j]?=some x)(hy:b[j]?=some y):(Ha (Zx a b j)).set j ((max x y:Nat):Int)=Ha (Zx a b (j+1)):=by
 have hj:=(x'.1 C).1;unfold Zx;rw[de C,ja (XB C hy)];have Q:(Ha ((Ii a b).take j)).length=j:=by rw[Ub,p',Mm h];omega
 have N:Ha ((Ii a b).take j++x::a.drop (j+1))=Ha ((Ii a b).take j)++(x:Int)::Ha (a.drop (j+1)):=by simp[Ha]
 rw[N,jw _ _ _ _ _ Q];simp[Ha]
def wV{a b:List Nat}{x:Nat}(h:a.length=b.length)(C:a[j]?=some x):(Zx a b j)[j]?=some x:=by
 have hj:=(x'.1 C).1;have Q:((Ii a b).take j).length=j:=by rw[p',Mm h];omega
 unfold Zx;exact abb
def oR{a b:List Nat}(h:a.length=b.length)(hj:j<=a.length):(Zx a b j).length=a.length:=by
 unfold Zx;rw[y',p',Mm h,j_];omega
def Sy(L)(n c:Nat)(fs)(k:Nat)(w)(hT:Gc w)(hL:Sl w L n 2 (ia FX.cells fs))(hn:n<=1000)(hf:∀f∈fs,f.at_ w)(Y:∀f∈fs,f.Ug k)(hm:∀f∈fs,f.m<=200)(hk:k<=90000):Calls prog 153 #[.slice L n c] w λr V=>(qb fs≠0/\r=.returned (.tuple #[.slice none 0 0,.int .i64 (qb fs)])/\Below w.heap.size w V)\/(qb fs=0/\∃(A:Option Addr)(a:Nat)(gs:List FX),r=.returned (.tuple #[.slice A n a,.int .i64 0])/\gs.length=n/\(∀(i:Nat)(f g:FX),fs[i]?=some f->gs[i]?=some g->jZ (maxD fs) (gi (maxD fs) f) g)/\Hp w (.row A n a 78 2 (ia FX.cells gs)::Ij gs.reverse) V):=by
 have I:=Hp.start w;have hln:=hL.sa FX.len V';have hlk:=λZ P F=>SF L n c fs k Z P (hL.ext F) Z' (λf hm=>(hf f hm).ext F) Y;unfold qb;by_cases h0:vh fs=0
 .obtain⟨hne,Qk,hnv⟩:=Rr h0;obtain⟨f0,N⟩:=aa (l:=fs) (k:=0) (List.length_pos_iff.2 hne);have G:=N' N;have hnn:∀f∈fs,f.n=f0.n:=λf hm=>by
   rw[hnv f hm];obtain _|⟨g,l⟩:=fs
   .cases N
   have:g=f0:=by simpa using N
   rw[<-this];rfl
  have X:∀f∈fs,f.ns.length=f0.n:=λf hm=>(by have h1:=(hf f hm).dg.1;rw[Cb] at h1;have h2:=hnn f hm;unfold FX.ns;rw[D'];omega);have z:∀f∈fs,∀d∈f.ns,d<=127:=λf hm=>(FX.fv (Qk f hm)).2.2.2.1;have e:∀f∈fs,f.ds=Ha f.ns:=λf hm=>(FX.fv (Qk f hm)).1;have h12:f0.n<=12:=by have:=(FX.fv (Qk f0 G)).2.2.1;rw[X f0 G] at this;exact this
  have J:maxD fs=(fs.map FX.ns).foldl Ii f0.ns:=by
   unfold maxD;rw[List.foldl_map];congr 1;obtain _|⟨g,l⟩:=fs
   .cases N
   have:g=f0:=by simpa using N
   rw[<-this];rfl
  obtain⟨ad,rfl,hr⟩:=hL.at_ (by have:=(x'.1 N).1;omega);have hn0:0<n:=by have:=(x'.1 N).1;omega
  rw[Q' Z'];have S:=X f0 G;have hF:=λi=>MB ((fs.take i).map FX.ns) f0.ns λl Y=>(by obtain⟨f,Q,rfl⟩:=B'.1 Y;rw[X f (x9 Q),S]);refine Ca (l:=[.slice (some ad) n c]) func153 ?_;refine fa ?_;refine cd I (hlk _ (hT.hp I) I.below) ?_;intro w16 I;refine fa ?_;refine sv (Ba pa.out rfl (Kb I.below ((hr.recAt FX.len N) 0 _ rfl))) ?_;refine lW I (il f0.A f0.n f0.a f0.ds _ ((hf f0 G).dg.ext I.below) (by have:=(Y f0 G).n20;omega)) rfl ?_;intro W K w24 I;refine fa ?_;rw[e f0 G] at I;refine bf 27 (λv V=>∃i:Nat,i<=n/\v=.int .i64 i/\Hp w [.row W f0.n K 3 1 (Pa (Ha (((fs.take i).map FX.ns).foldl Ii f0.ns)))] V) (λv _=>n-(intOf v).toNat) ?_ ?_
  .exact⟨0,J' _,rfl,I⟩
  clear I;rintro ρ' v V ⟨i,hi,rfl,I⟩;by_cases hlt:i<n
  .obtain⟨f,C⟩:=aa (l:=fs) (k:=i) Z';have M:=N' C;have R:((fs.take (i+1)).map FX.ns).foldl Ii f0.ns=Ii (((fs.take i).map FX.ns).foldl Ii f0.ns) f.ns:=by rw[ja C,G_,p8];rfl
   have hal:=(hF i).1;generalize ((fs.take i).map FX.ns).foldl Ii f0.ns=a at*;have E:a.length=f.ns.length:=by rw[hal,S,X f M]
   have hfd:=e f M;have hfn:=hnn f M;have hfl:=X f M;refine rZ ?_;refine yb ?_;intro b7 w7 I ws I;refine bf 34 (λv V=>∃j:Nat,j<=f0.n/\v=.int .i64 j/\Hp w [.blk b7 78 [.slice f.A f.n f.a,.slice f.B f.m f.b] (0,0),.row W f0.n K 3 1 (Pa (Ha (Zx a f.ns j)))] V) (λv _=>f0.n-(intOf v).toNat) ?_ ?_
   .refine⟨0,J' _,rfl, ?_⟩;show Hp w [_,.row W f0.n K 3 1 (Pa (Ha (List.take 0 _++List.drop 0 a)))] _;rw[Y8,F',H7];exact I
   clear I;rintro ρ2 v w2 ⟨j,hj,rfl,I⟩;by_cases hjn:j<f0.n
   .obtain⟨x,hxa⟩:=aa (l:=a) (k:=j) Z';obtain⟨y,hyb⟩:=aa (l:=f.ns) (k:=j) Z';have hgx:=Ic (ue (wV E hxa));have hgy:(Pa f.ds)[j]?=some (.int .i64 (y:Int)):=by rw[hfd];exact Ic (ue hyb)
    have hml:(Pa (Ha (Zx a f.ns j))).length=f0.n:=by rw[Cb,Ub,oR E Z'];omega
    obtain⟨a2,hA2,s2⟩:=(hf f M).dg.at_ Z';have Qk:Value.slice f.A f.n f.a=.slice (some a2) f.n f.a:=by rw[hA2]
    obtain⟨gd,rfl⟩:=I.kb (i:=1) rfl Z';refine acI ?_;refine sv (Ba pa.out rfl (Kb I.below (s2.Yr hgy))) ?_;refine fa ?_;refine sv (Ba pa.out rfl (I.Rc (i:=1) rfl (by first|assumption|(simp only[X_];assumption)))) ?_;refine fa ?_;have hmx:(if(y:Int)>(x:Int) then(y:Int) else(x:Int))=((max x y:Nat):Int):=by split<;>omega
    refine US ?_;refine Nr ?_;intro ws I;rw[hmx,Tj _ (by rw[<-Cb];omega),pR E hxa hyb] at I;refine fa ?_;refine⟨⟨j+1,Z',rfl,I⟩,by show f0.n-(j+1)<f0.n-j;omega, ?_⟩;exact Wb
   obtain rfl:j=f0.n:=Z';have hmf:Zx a f.ns f0.n=Ii a f.ns:=(by unfold Zx;rw[w' (by rw[Mm E];omega),P8 Z',M_]);rw[hmf,<-R] at I;refine fa ?_;replace I:=I.sub (G' _ (O' _ Z_));exact UG
  obtain rfl:i=n:=Z';have hDl:=(hF i).1;have hDg:=λ(f:FX) (hm:f∈fs)=>(hF i).2.2 f.ns (B'.2 ⟨f,by rw[w' Z'];exact hm,rfl⟩);have hDb:=bC 127 ((fs.take i).map FX.ns) f0.ns (z f0 G) λl Y=>(by obtain⟨f,Q,rfl⟩:=B'.1 Y;exact z f (x9 Q));rw[w' Z',<-J] at hDl hDb I;simp only[w' (show fs.length<=i by omega),<-J] at hDg;generalize maxD fs=D at*;have hrz:∀f∈fs,vN f.ds (Ha D)=if 4096<ea D then 3 else 0:=λf hm=>(by unfold vN;have e1:(f.ds.zip (Ha D)).any jq=false:=E9.2 λp hp=>(by obtain⟨j,hj⟩:=C_.1 hp;rw[T7] at hj;obtain⟨j1,j2⟩:=hj;rw[e f hm] at j1;unfold Ha at j1 j2;rw[z'] at j1 j2;obtain⟨x,C,hx2⟩:=y9.1 j1;obtain⟨y,hy,hy2⟩:=y9.1 j2;have:=hDg f hm j x y C hy;have:=hDb y (N' hy);unfold jq;rw[h'];omega);rw[Q' (by rw[Ub,e f hm,Ub,X f hm];omega),Q' (by rw[e1];decide),Bh])
  refine fa ?_;replace I:=I.rb 78 2;refine Fi 10 52 (λv10 v V=>∃(j s:Nat)(A:Option Addr)(gs:List FX),j<=i/\v=.int .i64 j/\v10=.slice A j s/\gs.length=j/\(0<j->¬4096<ea D)/\(∀(t:Nat)(f g:FX),fs[t]?=some f->gs[t]?=some g->jZ D (gi D f) g)/\Hp w (.row A j s 78 2 (ia FX.cells gs)::.row W f0.n K 3 1 (Pa (Ha D))::Ij gs.reverse) V) (λ_ v _=>i-(intOf v).toNat) ?_ ?_
  .exact⟨0,0,none,[],J' _,rfl,rfl,rfl,λh=>absurd h (Nat.lt_irrefl 0),λt f g _ h=>by simp at h,I⟩
  clear I;rintro ρ' v10 v V ⟨j,s,A,gs,hj,rfl,rfl,u,hno,hup,I⟩;by_cases hlt:j<i
  .obtain⟨f,C⟩:=aa (l:=fs) (k:=j) Z';have M:=N' C;refine rZ ?_;refine yb ?_;intro b12 w12 I ws I;have o:=λZ P F hE=>MC f W f0.n K (Ha D) k Z P ((hf f M).ext F) (Y f M) hE Z' hk;rw[hrz f M,Bh] at o;by_cases H:4096<ea D
   .rw[P' H] at o;have hra:=λZ P F hE=>(o Z P F hE λ_ h=>nomatch h).mono λr V h=>show r=CP 3/\Below Z.heap.size Z V from by
     obtain⟨h|h,hb2⟩|h:=h
     .exact absurd (Qk f M) h.1
     .exact⟨h.2.2,hb2⟩
     exact nomatch h.2.1
    refine cd I (hra _ (hT.hp I) I.below (I.ma (i:=2) rfl)) ?_;intro w59 I;refine yb ?_;intro b13 w13 I ws I;rw[P' H];exact .inl ⟨V',rfl,I.below⟩
   rw[Q' H] at o;have hnn2:f.ds.map Int.toNat=f.ns:=rfl;rw[hnn2] at o;have hfc:ea f.ns<=200:=(by have h1:=(FX.fv (Qk f M)).2.2.2.2.1;have h2:=(hf f M).nm.sa NR.len V';have h3:=hm f M;omega);have hmul:ea D*ea f.ns<=1000000:=d' (G9 (H6 H) hfc) V';have hra:=λZ P F hE=>(o Z P F hE λ_ _=>hmul).mono λr V h=>show ∃g:FX,jZ D (gi D f) g/\r=.returned (.tuple #[g.V,.int .i64 0])/\Hp Z [g.gg,g.Kf] V from by
    obtain⟨h|h,hb2⟩|⟨_,_,A1,a1,B1,b1,rfl,h2⟩:=h
    .exact absurd (Qk f M) h.1
    .exact absurd rfl h.2.1
    exact⟨⟨A1,f0.n,a1,B1,ea D,b1,Ha D,_⟩,⟨rfl,rfl,by rw[<-S];exact hDl.symm,rfl⟩,rfl,h2⟩
   refine Wi (hra _ (hT.hp I) I.below (I.ma (i:=2) rfl)) ?_;rintro e_ w59 ⟨g,hu,rfl,h2⟩;refine⟨_,rfl, ?_⟩;replace I:=I.join h2;refine yb ?_;intro b13 w13 I ws I;refine Dk ?_;intro b67 w67 I;refine FM ?_;intro A68 c68 w68 I;simp only[t_] at I;replace I:=I.sub (r_ _ _);refine fa ?_;replace I:=I.sub (G' _ (O' _ (O' _ (G' _ (O' _ (O' _ (P_ _)))))));replace I:=I.perm (H':=.row A68 (j+1) c68 78 2 (ia FX.cells (gs++[g]))::.row W f0.n K 3 1 (Pa (Ha D))::Ij (gs++[g]).reverse) (by
    rw[g7,Aa];exact List.perm_append_comm_assoc [g.gg,g.Kf] [_,_] _)
   refine⟨⟨j+1,c68,A68,gs++[g],Z',rfl,rfl,by rw[y',u];rfl,λ_=>H,λt f' g' T q=> ?_,I⟩,by show i-(j+1)<i-j;omega, ?_⟩
   .by_cases ht:t<j
    .rw[m9 Z'] at q;exact hup t f' g' T q
    have htl:=(x'.1 q).1;rw[y',u] at htl;obtain rfl:t=j:=by have:t<j+1:=htl;omega
    rw[S9 Z',u,u_] at q;rw[C] at T;obtain rfl:=i' T;obtain rfl:g=g':=i' q;exact hu
   exact Wb
  obtain rfl:j=i:=Z';have H:=hno Z';refine fa ?_;rw[Q' H];exact .inr ⟨rfl,A,s,gs,rfl,u,hup,I.sub (O' _ (r_ _ _))⟩
 rw[P' h0];refine Ca func153 ?_;refine fa ?_;refine cd I (hlk _ (hT.hp I) I.below) ?_;intro w16 I;refine fa ?_;exact .inl ⟨h0,rfl,I.below⟩
end Go.Proofs.YtbencocchdpikaaGreatDoor
