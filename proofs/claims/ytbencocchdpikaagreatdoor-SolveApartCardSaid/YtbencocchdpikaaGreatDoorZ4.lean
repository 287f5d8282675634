/- Lemmas for solveApart, part 4. -/
import Derived.LaidMore
import Derived.Lay
import Derived.Deep.Slices
import Derived.Stop.Joined
import Derived.Deep.Strs
import Derived.Laws.OwnMore
import Derived.Lib.SliceRun
import Derived.Test.YtbencocchdpikaaGreatDoorZ3
set_option linter.all false
set_option maxHeartbeats 0
namespace Go.Proofs.YtbencocchdpikaaGreatDoor
open Go.Proofs.Tryz
open Go.RowKit
variable {n:Nat}
def Yo:Ea n=0↔n=0:=by
 constructor
 .intro h;have:=Ab n;rw[h] at this;omega
 intro h;rw[h];exact Bk
def Yn{a b:Nat}(h:a<=b):Ea a<=Ea b:=Zb (l_ h (Ab b))
def UP(a b:Nat):Ea (a+b)<=Ea a+Ea b+1:=by
 apply Zb;have h1:=Ab a;have h2:=Ab b;have G:2^Ea a<=2^(Ea a+Ea b):=J_ Z' Z';have z:2^Ea b<=2^(Ea a+Ea b):=J_ Z' Z';rw[B_];omega
def yd(s:Bool)(m:ByteArray)(w:World)(hm:m.size<=1000000000):Zc 157 #[.agg #[.bool s,.string m]] w (.agg #[.bool (iN (iv s m)),.string (iM (iv s m))]):=by
 have I:=Hp.start w;have h1:=wg m;rw[zY,KK]
 cases s with
 |false=>
  refine Ca (l:=[.agg #[.bool false,.string m]]) func157 ?_;refine yb ?_;intro G Z I T q I;refine cr I (Pc m _ hm) ?_;intro c P A I;refine cR ?_;intro e I;rw[Jg];refine Bb ?_;intro ws I;exact AR
 |true=>
  by_cases J:sN (bN m)=ByteArray.mk #[]
  .refine Ca (l:=[.agg #[.bool true,.string m]]) func157 ?_;refine yb ?_;intro G Z I T q I;refine cr I (Pc m _ hm) ?_;intro c P A I;refine cR ?_;intro e I;rw[Jg];refine fa ?_
   (first|refine sv (pf rfl rfl (by first|rfl|assumption|decide)) ?_|refine sv (rf rfl rfl (by first|assumption|decide)) ?_)
   refine Bb ?_;intro ws I;refine wz ?_;exact acA
  refine Ca (l:=[.agg #[.bool true,.string m]]) func157 ?_;refine yb ?_;intro G Z I T q I;refine cr I (Pc m _ hm) ?_;intro c P A I;refine cR ?_;intro e I;rw[Jg];refine fa ?_
  (first|refine sv (pf rfl rfl (by first|rfl|assumption|decide)) ?_|refine sv (rf rfl rfl (by first|assumption|decide)) ?_)
  refine Bb ?_;intro ws I;refine wz ?_;exact I2
def Ri(s:Bool)(m:ByteArray)(w)(hm:m.size<=1000000000):Zc 111 #[.agg #[.bool s,.string m]] w (.int .i64 (iv s m).sign):=by
 have I:=Hp.start w;by_cases J:bN m=0
 .have F:Ea (bN m)=0:=Yo.2 J;refine Ca func111 ?_;refine Bb ?_;intro G Z I;refine cd I (Up m _ hm) ?_;intro v I;refine fa ?_;have o:iv s m=0:=by unfold iv;split<;>omega
  exact⟨by rw[o];rfl,I.below⟩
 have F:Ea (bN m)≠0:=λh=>J (Yo.1 h)
 cases s with
 |true=>
  refine Ca (l:=[.agg #[.bool true,.string m]]) func111 ?_;refine Bb ?_;intro G Z I;refine cd I (Up m _ hm) ?_;intro v I;refine fa ?_;have o:iv true m<0:=by unfold iv;rw[P' rfl];omega
  exact⟨by rw[X8 o],I.below⟩
 |false=>
  refine Ca (l:=[.agg #[.bool false,.string m]]) func111 ?_;refine Bb ?_;intro G Z I;refine cd I (Up m _ hm) ?_;intro v I;refine fa ?_;have o:0<iv false m:=by unfold iv;rw[Q' (by simp)];omega
  exact⟨by rw[T8 o],I.below⟩
def bs(n:Int)(w)(h1: -9223372036854775808<=n)(h2:n<=9223372036854775807):Zc 156 #[.int .i64 n] w (.agg #[.bool (iN n),.string (iM n)]):=by
 have I:=Hp.start w;by_cases J:n<0
 .have B:iN n=true:=m' J;obtain⟨m,hm⟩:=C6 (by omega:0<= -(n+1));have M:n.natAbs=m+1:=Z';have hw:(m+1) % 18446744073709551616=m+1:=E_ Z';refine Ca func156 ?_;refine sr ?_;refine dv I ?_;intro T q I;refine na (xa (sr (mI ?_)));refine Wg (na (cT (sr (mI ?_))));refine Gi ?_;refine sv (sH rfl Z' Z') ?_;rw[show -(n+1)=(m:Int) from hm];refine Wz ?_;refine sv (Cf (b:=1) rfl rfl) ?_;rw[hw];refine qd I (yz (m+1) _ Z') rfl ?_;intro G I;rw[<-M];refine dq ?_;intro ws I;rw[B];exact⟨rfl,I.below⟩
 obtain⟨m,rfl⟩:=C6 (by omega:0<=n);have B:iN (m:Int)=false:=k' Z';have hm:m<18446744073709551616:=Z';have N:iM (m:Int)=sN m:=rfl;refine Ca (l:=[.int .i64 (m:Int)]) func156 ?_;refine NZ ?_;intro T q I;refine cd I (yz m _ hm) ?_;intro Y I;refine dq ?_;intro ws I;rw[B,N];exact⟨rfl,I.below⟩
def Dn(s t:Bool)(a b:ByteArray)(w:World)(H:a.size<=100000000)(J:b.size<=100000000):Zc 186 #[.agg #[.bool s,.string a],.agg #[.bool t,.string b]] w (.agg #[.bool (iN (iv s a+iv t b)),.string (iM (iv s a+iv t b))]):=by
 have I:=Hp.start w;have k:=yf a;have r:=yf b;by_cases e:s=t
 .subst e;have N:iv s (sN (bN a+bN b))=iv s a+iv s b:=by unfold iv;rw[ze];split<;>omega
  have M:(sN (bN a+bN b)).size<=1000000000:=by rw[Zg];have:=UP (bN a) (bN b);omega
  rw[<-N];refine Ca (l:=[.agg #[.bool s,.string a],.agg #[.bool s,.string b]]) func186 ?_;refine Am ?_;intro T q I j p I D y I;refine sv (JK Qa.out rfl rfl (by first|rfl|assumption)) ?_;refine fa ?_;refine Ak 8 I ?_;refine wb ?_;refine Wp [_,_] ?_;refine Ja (i:=7) (Is (.string (sN (bN a+bN b)))) Is.ext ?_ ?_
  .intro U Z hj hR;obtain⟨h,z,c,g⟩:=hR.1;exact ib rfl (La fi (qa c Wa)) (UH h 2 z [a,b] _ g Z' (by simp;omega)) (λ_ _ R=>⟨_,R.1,R.2,rfl⟩)
  refine Fa ?_;intro f W Q d;obtain⟨v,Y,X,u,A,K,o,m,_⟩:=d;obtain⟨h,z,E,f18⟩:Rows _ _ _ (f 6) W:=Y;replace I:=Q.hp;refine lg ?_;clear E Q;refine fa ?_;refine cd I (yd s (sN (bN a+bN b)) _ M) ?_;intro x I;refine Bb ?_;intro ws I;exact ZW
 by_cases hle:bN b<=bN a
 .have N:iv s (sN (bN a-bN b))=iv s a+iv t b:=by unfold iv;rw[ze];cases s<;>cases t<;>simp at e |- <;>omega
  have M:(sN (bN a-bN b)).size<=1000000000:=by rw[Zg];have:=Yn (show bN a-bN b<=bN a by omega);omega
  rw[<-N];refine Ca func186 ?_;refine Am ?_;intro T q I j p I D y I;refine LK ?_;refine fa ?_;refine qd I (Yp a b _ Z' Z') rfl ?_;intro G I;rw[m' hle];refine fa ?_;refine cd I (yd s (sN (bN a-bN b)) _ M) ?_;intro B I;refine Bb ?_;intro ws I;exact ZW
 have N:iv t (sN (bN b-bN a))=iv s a+iv t b:=by unfold iv;rw[ze];cases s<;>cases t<;>simp at e |- <;>omega
 have M:(sN (bN b-bN a)).size<=1000000000:=by rw[Zg];have:=Yn (show bN b-bN a<=bN b by omega);omega
 rw[<-N];refine Ca func186 ?_;refine Am ?_;intro T q I j p I D y I;refine LK ?_;refine fa ?_;refine qd I (Yp a b _ Z' Z') rfl ?_;intro G I;rw[k' hle];refine fa ?_;refine qd I (Yp b a _ Z' Z') rfl ?_;intro C I;refine fa ?_;refine cd I (yd t (sN (bN b-bN a)) _ M) ?_;intro F I;refine Bb ?_;intro ws I;exact ZW
def gJ(s:Bool)(a:ByteArray)(k:Nat)(w)(b:a.size<=100000000)(u:k<=1000000000):Zc 187 #[.agg #[.bool s,.string a],.int .i64 (k:Int)] w (.agg #[.bool (iN (iv s a*2^k)),.string (iM (iv s a*2^k))]):=by
 have I:=Hp.start w;have E:=yf a;have L:iv s (sN (bN a*2^k))=iv s a*2^k:=by unfold iv;rw[ze];split<;>simp[Int.neg_mul]
 have M:(sN (bN a*2^k)).size<=1000000000:=by rw[Zg];have:=Cg (bN a) k;omega
 rw[<-L];refine Ca func187 ?_;refine yb ?_;intro T q I D y I;refine ud 6 I ?_;refine dC (λ_ hj=>uI a k _ Z' Z') ?_;refine dn ?_;intro W I;refine fa ?_;refine cd I (yd s (sN (bN a*2^k)) _ M) ?_;intro J I;refine dq ?_;intro ws I;exact⟨rfl,I.below⟩
def gp(z:Int)(B:Nat)(q r:Int)(h:r+B*q=z)(J:0<=r)(h1:r<B):z/B=q/\z % B=r:=(Int.ediv_emod_unique Z').2 ⟨h,J,h1⟩
theorem BI(s:Bool)(a b:ByteArray)(w:World)(ha:a.size<=10000000)(hb:b.size<=10000000)(S:bN b≠0):Zc 158 #[.agg #[.bool s,.string a],.agg #[.bool false,.string b]] w (.tuple #[.agg #[.bool (iN (iv s a/bN b)),.string (iM (iv s a/bN b))],.agg #[.bool (iN (iv s a % bN b)),.string (iM (iv s a % bN b))],.bool true]):=by
 have I:=Hp.start w;have M:=yf a;have P:=yf b;have o:bN a % bN b<bN b:=Q_ _ Z';refine ac7 ?_;(unhygienic intros)
 have C:(sN (bN a/bN b)).size<=10000000:=by rw[Zg];have:=Yn (H8 (bN a) (bN b));omega
 have B:(sN (bN a % bN b)).size<=10000000:=by rw[Zg];have:=Yn (show bN a % bN b<=bN b by omega);omega
 have r:∀u,(iM (iv u (sN (bN a/bN b)))).size<=10000000:=λu=>by rw[KK,ze];exact C
 have K:∀u,(iM (iv u (sN (bN a % bN b)))).size<=10000000:=λu=>by rw[KK,ze];exact B
 by_cases A:s=true/\bN a % bN b≠0
 .obtain⟨rfl,hne⟩:=A;have N:iv true (sN (bN a/bN b))= -((bN a/bN b:Nat):Int):=by unfold iv;rw[ze,P' rfl]
  have L:iv true (sN (bN a % bN b))= -((bN a % bN b:Nat):Int):=by unfold iv;rw[ze,P' rfl]
  have W:(iv true (sN (bN a % bN b))).sign<0:=by rw[L,X8 Z'];omega
  have X:iv true a= -(bN a:Int):=by unfold iv;rw[P' rfl]
  obtain⟨q1,q2⟩:=gp (iv true a) (bN b) (-((bN a/bN b:Nat):Int)+ -1) ((bN b:Int)-((bN a % bN b:Nat):Int)) (by rw[X,<-m,Int.mul_add,J7];omega) Z' Z';have E:iv false b=(bN b:Int):=by unfold iv;rw[Q' (by simp)]
  have H:(bN b:Int).sign=1:=T8 Z';refine Ca (l:=[.agg #[.bool true,.string a],.agg #[.bool false,.string b]]) func158 ?_;refine sr ?_;refine jC I [_,_] ?_;intro T q I;refine jC I [_,_] ?_;intro j p I;refine dv I ?_;intro D y I;refine dv I ?_;intro R v I;refine aB (na (sr (Bm ?_)));refine pj I 3 ?_;refine Bm ?_;refine pj I 2 ?_;refine qd I (np a b _ Z' Z' S) rfl ?_;intro g I;refine mT ?_;refine Jv ?_;refine Jv ?_;refine Jv ?_;refine aS (aS (aB (na (xa (sr (mB ?_))))));refine DC ?_;refine na (cF (Fb (Za (sr (Bm ?_)))));refine pj I 3 ?_;refine Bm ?_;refine pj I 2 ?_;refine sv (WJ Qa.out rfl rfl (by first|assumption|decide)) ?_;refine mS ?_;refine Ez [_,_] ?_;refine qd I (yd true (sN (bN a/bN b)) _ Z') rfl ?_;intro Q I;refine dv I ?_;intro z G I;refine Ze I 0 [_,_] ?_;intro ws I;replace I:Hp _ (.blk _ _ [_,_] _::_) _:=I;refine na (sr (Bm ?_));refine pj I 4 ?_;refine mS ?_;refine Ez [_,_] ?_;refine qd I (yd true (sN (bN a % bN b)) _ Z') rfl ?_;intro d I;refine dv I ?_;intro J t I;refine Ze I 0 [_,_] ?_;intro ws I;replace I:Hp _ (.blk _ _ [_,_] _::_) _:=I;refine na (xa (sr ?_));refine rk I 0 [_,_] ?_
  refine qd I (Ri (iN (iv true (sN (bN a % bN b)))) (iM (iv true (sN (bN a % bN b)))) _ (by have:=K true;omega)) rfl ?_;intro c I;rw[Uc];refine Wg (na (cT (sr ?_)));refine rk I 0 [_,_] (Bm ?_);refine pj I 4 ?_;refine Ez [_,_] ?_;refine qd I (Dn (iN (iv true (sN (bN a % bN b)))) false (iM (iv true (sN (bN a % bN b)))) b _ (by have:=K true;omega) Z') rfl ?_;intro w46 I;rw[Uc,L,E,show -((bN a % bN b:Nat):Int)+(bN b:Int)=(bN b:Int)-((bN a % bN b:Nat):Int) by omega,<-q2];refine Ze I 0 [_,_] ?_;intro ws I;replace I:Hp _ (.blk _ _ [_,_] _::_) _:=I;refine na (sr ?_);refine qd I (bs (-1) _ Z' Z') rfl ?_;intro w47 I;refine dv I ?_;intro f w12 I;refine Ze I 0 [_,_] ?_;intro ws I;replace I:Hp _ (.blk _ _ [_,_] _::_) _:=I;refine na (xa (sr ?_));refine rk I 5 [_,_] ?_;refine qd I (Ri false b _ Z') rfl ?_;intro w49 I;rw[E,H];refine Wg (na (cF (Fb (Za (Hb ?_)))));refine rk I 2 [_,_] ?_;refine rk I 0 [_,_] ?_;refine qd I (Dn (iN (iv true (sN (bN a/bN b)))) (iN (-1)) (iM (iv true (sN (bN a/bN b)))) (iM (-1)) _ (by have:=r true;omega) V') rfl ?_;intro w54 I;rw[Uc,Uc,N,<-q1];refine Ze I 2 [_,_] ?_;intro ws I
  replace I:Hp _ (_::_::.blk _ _ [_,_] _::_) _:=I;refine na (xa ?_);refine Ao I mixed λw_ e=> ?_;replace I:=e.hp;clear e;refine At (i:=0) (i2:=1) U' rfl rfl ?_ ?_
  .refine rk I 2 [_,_] ?_;refine Kc ?_;refine At (i:=1) (i2:=2) U' rfl rfl ?_ ?_
   .refine rk I 1 [_,_] ?_;exact uY
   refine Ze I 4 [_,_] ?_;intro ws I;replace I:Hp _ (_::_::_::_::.blk _ _ [_,_] _::_) _:=I;refine Kc ?_;refine je (i:=1) U' rfl ?_;refine rk I 1 [_,_] ?_;exact zW6
  refine rk I 1 [_,_] ?_;refine Kc ?_;refine je (i:=0) U' rfl ?_;refine rk I 2 [_,_] ?_;exact uY
 have E:iv s a/bN b=iv s (sN (bN a/bN b))/\iv s a % bN b=iv s (sN (bN a % bN b)):=by
  cases s with
  |false=>
   have f0:∀x,iv false x=(bN x:Int):=λx=>by unfold iv;rw[Q' (by simp)]
   rw[f0,f0,f0,ze,ze];exact gp _ _ _ _ Z' Z' Z'
  |true=>
   have Y:bN a % bN b=0:=by
    obtain h|h:=G8 (bN a % bN b)
    .exact h
    exact absurd ⟨rfl,Z'⟩ A
   have f0:∀x,iv true x= -(bN x:Int):=λx=>by unfold iv;rw[P' rfl]
   rw[f0,f0,f0,ze,ze,Y];rw[Y] at m;exact gp _ _ _ _ (by rw[J7];omega) Z' Z'
 have h5:¬(iv s (sN (bN a % bN b))).sign<0:=by
  have k:0<=iv s (sN (bN a % bN b)):=by rw[<-E.2];exact Int.emod_nonneg _ Z'
  have:=Int.sign_nonneg_iff.2 k;omega
 rw[E.1,E.2]
 cases s with
 |false=>
  refine Ca (l:=[.agg #[.bool false,.string a],.agg #[.bool false,.string b]]) func158 ?_;refine sr ?_;refine jC I [_,_] ?_;intro T q I;refine jC I [_,_] ?_;intro j p I;refine dv I ?_;intro D y I;refine dv I ?_;intro R v I;refine aB (na (sr (Bm ?_)));refine pj I 3 ?_;refine Bm ?_;refine pj I 2 ?_;refine qd I (np a b _ Z' Z' S) rfl ?_;intro g I;refine wZ ?_;refine Jv ?_;refine aS (aS (aB (na (xa (sr (mB ?_))))));refine DC ?_;refine na (cF (Fb (Za (sr (Bm ?_)))));refine pj I 3 ?_;refine Bm ?_;refine pj I 2 ?_;refine sv (rX Qa.out rfl rfl (by first|rfl|assumption)) ?_;refine mS ?_;refine Ez [_,_] ?_;refine qd I (yd false (sN (bN a/bN b)) _ Z') rfl ?_;intro Q I;refine dv I ?_;intro z G I;refine Ze I 0 [_,_] ?_;intro ws I;replace I:Hp _ (.blk _ _ [_,_] _::_) _:=I;refine na (sr (Bm ?_));refine pj I 4 ?_;refine mS ?_;refine Ez [_,_] ?_;refine qd I (yd false (sN (bN a % bN b)) _ Z') rfl ?_;intro d I;refine dv I ?_;intro J t I;refine Ze I 0 [_,_] ?_;intro ws I;replace I:Hp _ (.blk _ _ [_,_] _::_) _:=I;refine na (xa (sr ?_));refine rk I 0 [_,_] ?_
  refine qd I (Ri (iN (iv false (sN (bN a % bN b)))) (iM (iv false (sN (bN a % bN b)))) _ (by have:=K false;omega)) rfl ?_;exact zW4
 |true=>
  refine Ca (l:=[.agg #[.bool true,.string a],.agg #[.bool false,.string b]]) func158 ?_;refine sr ?_;refine jC I [_,_] ?_;intro T q I;refine jC I [_,_] ?_;intro j p I;refine dv I ?_;intro D y I;refine dv I ?_;intro R v I;refine aB (na (sr (Bm ?_)));refine pj I 3 ?_;refine Bm ?_;refine pj I 2 ?_;refine qd I (np a b _ Z' Z' S) rfl ?_;intro g I;refine mT ?_;refine Jv ?_;refine Jv ?_;refine Jv ?_;refine aS (aS (aB (na (xa (sr (mB ?_))))));refine DC ?_;refine na (cF (Fb (Za (sr (Bm ?_)))));refine pj I 3 ?_;refine Bm ?_;refine pj I 2 ?_;refine sv (WJ Qa.out rfl rfl (by first|assumption|decide)) ?_;refine mS ?_;refine Ez [_,_] ?_;refine qd I (yd true (sN (bN a/bN b)) _ Z') rfl ?_;intro Q I;refine dv I ?_;intro z G I;refine Ze I 0 [_,_] ?_;intro ws I;replace I:Hp _ (.blk _ _ [_,_] _::_) _:=I;refine na (sr (Bm ?_));refine pj I 4 ?_;refine mS ?_;refine Ez [_,_] ?_;refine qd I (yd true (sN (bN a % bN b)) _ Z') rfl ?_;intro d I;refine dv I ?_;intro J t I;refine Ze I 0 [_,_] ?_;intro ws I;replace I:Hp _ (.blk _ _ [_,_] _::_) _:=I;refine na (xa (sr ?_));refine rk I 0 [_,_] ?_
  refine qd I (Ri (iN (iv true (sN (bN a % bN b)))) (iM (iv true (sN (bN a % bN b)))) _ (by have:=K true;omega)) rfl ?_;exact zW4
def xK(h:n≠0):sb n=sb (n/256)++[UInt8.ofNat (n % 256)]:=by
 rw[sb,GN Z' h,I_,m8];rfl
def NJ(h:n≠0):1<=(sN n).size/\∃c:UInt8,(sN n).data.toList[(((sN n).size:Int)-1).toNat]?=some c/\c.toNat=n % 256:=by
 have Q:(sN n).data.toList=sb (n/256)++[UInt8.ofNat (n % 256)]:=by rw[sN,vc,xK h]
 have K:(sN n).size=(sb (n/256)).length+1:=by rw[Hc,Q,y'];rfl
 refine⟨Z',UInt8.ofNat (n % 256), ?_, ?_⟩
 .rw[Q,K,S9 Z'];have:(((sb (n/256)).length+1:Nat)-1:Int).toNat-(sb (n/256)).length=0:=Z';rw[this];rfl
 simp
def aai(h:n≠0):(sN n).extract 0 ((sN n).size-1)=sN (n/256):=by
 have Q:(sN n).data=(sb (n/256)++[UInt8.ofNat (n % 256)]).toArray:=by rw[sN,<-xK h];rfl
 have K:(sN n).size=(sb (n/256)).length+1:=by rw[Hc,Q,y'];rfl
 apply ByteArray.ext;rw[ByteArray.data_extract,Q,K];show _=(sb (n/256)).toArray;simp
variable {k:Nat}
def aaX{k:Int}(h:0<k)(y:Int):iN (y*k)=iN y:=by
 unfold iN;rw[decide_eq_decide];constructor
 .intro h1;obtain h2|h2|h2:=a7 y 0
  .exact h2
  .rw[h2] at h1;simp at h1
  have:=Int.mul_pos h2 h;omega
 intro h1;exact Int.mul_neg_of_neg_of_pos h1 h
def abN(h:n % 2=1):tz n=0:=by
 have:=rL 0 (n/2);rwa[show 2^0*(2*(n/2)+1)=n by omega] at this
variable {j:Nat}{z:Int}
def fS{y e:Int}(hy:y.natAbs % 2=1)(o:y*2^j=z):nR (Dyadic.ofIntWithPrec z (-e))=⟨iN y,iM y,e+j⟩:=by
 have h1:=Ms (s:=iN y) (a:=iM y) (e:=e+j) (by rw[Uc];omega);rw[Uc,iM,ze,abN hy] at h1;have h2:=xo y (-(e+j)) j;rw[o,show -(e+(j:Int))+j= -e by omega] at h2;rw[h2,h1];simp
variable {m:Nat}
def Wu{y:Int}(hy:y≠0)(o:y*2^j=z)(hm:z.natAbs<2^m):j<m:=by
 have h1:z.natAbs=y.natAbs*2^j:=by rw[<-o,q9,D8];rfl
 have h2:1*2^j<=y.natAbs*2^j:=c_ _ Z';have G:2^j<2^m:=Z';exact(Nat.pow_lt_pow_iff_right Z').1 G
def Em(s:Bool)(a:ByteArray)(e:Int)(w)(r:a.size<=10000000)(h1: -1000000000000<=e)(h2:e<=1000000000000):Zc 92 #[.agg #[.bool s,.string a],.int .i64 e] w (.agg #[.bool (nR (Dyadic.ofIntWithPrec (iv s a) (-e))).neg,.string (nR (Dyadic.ofIntWithPrec (iv s a) (-e))).Va,.int .i64 (nR (Dyadic.ofIntWithPrec (iv s a) (-e))).e]):=by
 have I:=Hp.start w;by_cases J:iv s a=0
 .have hm:=Qu.2 J;rw[J] at hm;refine Ca func92 ?_;refine yb ?_;intro T q I D o I;refine qd I (yd s a _ Z') rfl ?_;intro A I;rw[J];refine Bb ?_;intro ws I;refine SL ?_;refine VI ?_;intro ws I;rw[Sg,zr];exact⟨rfl,I.below⟩
 have hm:¬iM (iv s a)=ByteArray.mk #[]:=λh=>J (Qu.1 h);have p:(iv s a).natAbs<2^(8*a.size):=(by rw[vj,i_];exact BA a);refine Ca func92 ?_;refine yb ?_;intro T q I D o I;refine qd I (yd s a _ Z') rfl ?_;intro A I;refine Bb ?_;intro ws I;refine YL ?_;refine fa ?_;generalize B:iv s a=z at*;refine bf 1 (λv V=>∃(y:Int)(j:Nat),y≠0/\y*2^j=z/\v=.int .i64 (e+j)/\Hp w [.blk D 30 [.bool false,.string (ByteArray.mk #[]),.int .i64 0] (0,0),.blk T 28 [.bool (iN y),.string (iM y)] (0,0)] V) (λv _=>(e+8*a.size+1-intOf v).toNat) ?_ ?_
 .exact⟨z,0,J,by simp,by show Value.int _ _=Value.int _ _;congr 1;omega,I⟩
 clear I;rintro ρ' v V ⟨y,j,hy,f,rfl,I⟩;have hj:=Wu hy f p;obtain⟨m,c,E,d⟩:=NJ (n:=y.natAbs) Z';have t:=aai (n:=y.natAbs) Z';have M:(sN y.natAbs).size<=10000000:=(by refine eZ ?_;intro h1 h2 G;omega)
 change (iM y).data.toList[(((iM y).size:Int)-1).toNat]?=some c at E
 change 1<=(iM y).size at m
 change (iM y).extract 0 ((iM y).size-1)=_ at t
 change (iM y).size<=_ at M
 by_cases F:y.natAbs % 256=0
 .obtain⟨x,rfl⟩:∃x,y=x*256:=⟨y/256,Z'⟩;have C:x≠0:=λh=>hy (by rw[h];rfl);have N:iN (x*256)=iN x:=aaX Z' x;have L:sN ((x*256).natAbs/256)=iM x:=by rw[iM];congr 1;omega
  have X:x*2^(j+8)=z:=by rw[<-f,Int.pow_add,Int.mul_assoc,M6 (2^j)];rfl
  have g:=Wu C X p;refine fa ?_;refine sv (ru (l:=0) (h:=((iM (x*256)).size-1)) Qa.out rfl rfl ⟨_,_,rfl,Z'⟩ Z' Z') ?_;refine Bb ?_;intro ws I;rw[t,L,N] at I;refine⟨⟨x,j+8,C,X,by show Value.int _ _=Value.int _ _;congr 1;omega,I⟩,by show(e+8*a.size+1-(e+j+8)).toNat<(e+8*a.size+1-(e+j)).toNat;omega, ?_⟩;exact Wb
 refine fa ?_;refine bf 1 (λv V=>∃(y:Int)(j:Nat),y≠0/\y*2^j=z/\v=.int .i64 (e+j)/\Hp w [.blk D 30 [.bool false,.string (ByteArray.mk #[]),.int .i64 0] (0,0),.blk T 28 [.bool (iN y),.string (iM y)] (0,0)] V) (λv _=>(e+8*a.size+1-intOf v).toNat) ?_ ?_
 .exact⟨y,j,hy,f,rfl,I⟩
 clear I F t d E m M hj hy f;rintro K v q ⟨y,j,hy,f,rfl,I⟩;have hj:=Wu hy f p;obtain⟨m,c,E,d⟩:=NJ (n:=y.natAbs) Z';have M:(sN y.natAbs).size<=10000000:=(by refine eZ ?_;intro h1 h2 G;omega)
 change (iM y).data.toList[(((iM y).size:Int)-1).toNat]?=some c at E
 change 1<=(iM y).size at m
 change (iM y).size<=_ at M
 by_cases F:y.natAbs % 2=0
 .obtain⟨x,rfl⟩:∃x,y=x*2:=⟨y/2,Z'⟩;have C:x≠0:=λh=>hy (by rw[h];rfl);have X:x*2^(j+1)=z:=by rw[<-f,Int.pow_add,Int.mul_assoc,M6 (2^j)];rfl
  have g:=Wu C X p;have k:∀Z,Zc 156 #[.int .i64 2] Z (.agg #[.bool false,.string (iM 2)]):=λZ=>bs 2 Z Z' Z';have u:∀Z,Zc 158 #[.agg #[.bool (iN (x*2)),.string (iM (x*2))],.agg #[.bool false,.string (iM 2)]] Z (.tuple #[.agg #[.bool (iN x),.string (iM x)],.agg #[.bool (iN 0),.string (iM 0)],.bool true]):=λZ=>by
   have h2:bN (iM 2)=2:=ze 2;have G:(iM 2).size<=10000000:=by rw[sc];decide
   have:=BI (iN (x*2)) (iM (x*2)) (iM 2) Z M G Z';rw[Uc,h2,show x*2/((2:Nat):Int)=x by omega,show x*2 % ((2:Nat):Int)=0 by omega] at this;exact this
  refine fa ?_;refine sv (aD (b:=2) rfl rfl Z') ?_;refine fa ?_;refine XQ [] [5,6] 7 I ?_;refine dC (λ_ hj=>k _) ?_;refine dC (λ_ hj=>u _) ?_;refine wb ?_;refine dn2 ?_;intro W I;refine Bb ?_;intro ws I;refine⟨⟨x,j+1,C,X,by show Value.int _ _=Value.int _ _;congr 1;omega,I⟩,by show(e+8*a.size+1-(e+j+1)).toNat<(e+8*a.size+1-(e+j)).toNat;omega, ?_⟩;exact Wb
 have Y:=fS (e:=e) (show y.natAbs % 2=1 by omega) f;refine fa ?_;refine sv (aD (b:=2) rfl rfl Z') ?_;refine VI ?_;intro ws I;rw[Y];exact⟨rfl,I.below⟩
def BF{e:Int}{x:Dyadic}(w)(C:Dyadic.ofIntWithPrec z (-e)=x)(o:(iM z).size<=10000000)(h1: -1000000000000<=e)(h2:e<=1000000000000):Zc 92 #[.agg #[.bool (iN z),.string (iM z)],.int .i64 e] w (nR x).V:=by
 have:=Em (iN z) (iM z) e w o h1 h2;rw[Uc,C] at this;exact this
def Ah(n:Int)(w)(h1: -9223372036854775808<=n)(h2:n<=9223372036854775807):Zc 91 #[.int .i64 n] w (.agg #[.bool (nR (n:Dyadic)).neg,.string (nR (n:Dyadic)).Va,.int .i64 (nR (n:Dyadic)).e]):=by
 have I:=Hp.start w;have M:(iM n).size<=10000000:=(by rw[sc];have:Ea n.natAbs<=64:=Zb Z';omega);have E:=λZ=>BF (z:=n) (e:=0) (x:=(n:Dyadic)) Z rfl M Z' Z';refine Ca func91 ?_;refine Bb ?_;intro T q I;refine cd I (bs n _ h1 h2) ?_;intro y I;refine cd I (E _) ?_;intro v I;refine VI ?_;intro ws I;exact⟨rfl,I.below⟩
def Kn(a:NR)(w)(M:a.Va.size<=10000000)(h1: -1000000000000<=a.e)(h2:a.e<=1000000000000):Zc 176 #[a.V] w (.agg #[.bool (nR a.da).neg,.string (nR a.da).Va,.int .i64 (nR a.da).e]):=by
 have I:=Hp.start w;refine Ca func176 ?_;refine yb ?_;intro G Z I T q I;refine cd I (Em a.neg a.Va a.e _ M h1 h2) ?_;exact yP
def mf(a:NR)(w)(M:a.Va.size<=10000000):Zc 45 #[a.V] w (.int .i64 a.i.sign):=by
 have I:=Hp.start w;refine Ca func45 ?_;refine Bb ?_;intro G Z I;refine qd I (Ri a.neg a.Va _ Z') rfl ?_;intro v I;refine fa ?_;exact⟨rfl,I.below⟩
def PB(a:NR)(n:Int)(w)(M:a.Va.size<=10000000)(h1: -100000000000<=a.e)(h2:a.e<=100000000000)(G: -100000000000<=n)(z:n<=100000000000):Zc 36 #[a.V,.int .i64 n] w (.agg #[.bool (nR (a.da*ti n)).neg,.string (nR (a.da*ti n)).Va,.int .i64 (nR (a.da*ti n)).e]):=by
 have I:=Hp.start w;have N:Dyadic.ofIntWithPrec (iv a.neg a.Va) (-(a.e+n))=a.da*ti n:=(by rw[Int.neg_add];exact TA _ _ _);have E:=λZ=>Em a.neg a.Va (a.e+n) Z M Z' Z';rw[N] at E;refine Ca func36 ?_;refine yb ?_;intro T q I D y I;refine cd I (E _) ?_;intro t I;refine VI ?_;intro ws I;exact⟨rfl,I.below⟩
def aej(x):Dyadic.ofIntWithPrec (nR x).i (-(nR x).e)=x:=Ga x
def oW{u v:NR}(h:u.e=v.e+k):Dyadic.ofIntWithPrec (u.i*2^k+v.i) (-v.e)=u.da+v.da:=by
 rw[<-nq];congr 1;have:=xo u.i (-u.e) k;rw[show -u.e+(k:Int)= -v.e by omega] at this;exact this
def mw{u v:NR}(a:u.e=v.e+k)(hu:u.Va.size<=1000000)(A:v.Va.size<=1000000)(B:k<=40000000)(h1: -100000000000<=v.e)(h2:v.e<=100000000000):(∀w,Zc 187 #[.agg #[.bool u.neg,.string u.Va],.int .i64 (u.e-v.e)] w (.agg #[.bool (iN (u.i*2^k)),.string (iM (u.i*2^k))]))/\(∀w,Zc 186 #[.agg #[.bool (iN (u.i*2^k)),.string (iM (u.i*2^k))],.agg #[.bool v.neg,.string v.Va]] w (.agg #[.bool (iN (u.i*2^k+v.i)),.string (iM (u.i*2^k+v.i))]))/\
  ∀w,Zc 92 #[.agg #[.bool (iN (u.i*2^k+v.i)),.string (iM (u.i*2^k+v.i))],.int .i64 v.e] w (.agg #[.bool (nR (u.da+v.da)).neg,.string (nR (u.da+v.da)).Va,.int .i64 (nR (u.da+v.da)).e]):=by
 have t:Ea (u.i*2^k).natAbs<=8000000+k:=(by rw[q9,D8];have:=Cg u.i.natAbs k;have G:=Yg u.neg u.Va;unfold NR.i at this |-;exact d' this Z');have R:=Yg v.neg v.Va;have x:=gl (u.i*2^k) v.i;refine⟨λw=> ?_,λw=> ?_,λw=> ?_⟩
 .rw[show u.e-v.e=k by omega];exact gJ u.neg u.Va k w Z' Z'
 .have:=Dn (iN (u.i*2^k)) v.neg (iM (u.i*2^k)) v.Va w (by rw[sc];omega) Z';rw[Uc] at this;exact this
 exact BF w (oW a) (by rw[sc];unfold NR.i at t x |-;omega) Z' Z'
def fF(a b:NR)(w:World)(ha:a.ok)(hb:b.ok):Zc 108 #[.agg #[.bool a.neg,.string a.Va,.int .i64 a.e],.agg #[.bool b.neg,.string b.Va,.int .i64 b.e]] w (.agg #[.bool (nR (a.da+b.da)).neg,.string (nR (a.da+b.da)).Va,.int .i64 (nR (a.da+b.da)).e]):=by
 have I:=Hp.start w;obtain⟨l,E,v⟩:=ha;obtain⟨t,R,m⟩:=hb;obtain⟨_,g,L,M⟩:=Hk (a:=a) ⟨l,E,v⟩;obtain⟨_,H,X,fb3⟩:=Hk (a:=b) ⟨t,R,m⟩;have z:∀x:Dyadic,(nR x).i.sign=0↔x=0:=λx=>by
  rw[A6];constructor
  .intro h;rw[<-aej x,h,Sg]
  intro h;rw[h];rfl
 by_cases J:a.da=0
 .have o:=(z a.da).2 J;refine Ca func108 ?_;refine Am ?_;intro T q I j r I D y I;refine Ak 3 I ?_;refine wb ?_;refine TJ ?_;refine wb ?_;refine Fa ?_;intro f W Q c;have A:=Q.bl;obtain⟨K,v6,F,_⟩:=c;replace I:=Q.hp;refine lg ?_;clear Q;refine xM ?_;intro B I;refine yb ?_;intro ws I ws I;refine qd I (mf (nR a.da) _ Z') rfl ?_;intro G I;refine Bb ?_;intro ws I;refine JD ?_;rw[J,g8];exact⟨rfl,I.below⟩
 have o:¬(nR a.da).i.sign=0:=λh=>J ((z a.da).1 h);by_cases h1:b.da=0
 .have p:=(z b.da).2 h1;refine Ca func108 ?_;refine Am ?_;intro T q I j r I D y I;refine Ak 3 I ?_;refine wb ?_;refine TJ ?_;refine wb ?_;refine Fa ?_;intro f W Q c;have A:=Q.bl;obtain⟨K,v6,F,_⟩:=c;replace I:=Q.hp;refine lg ?_;clear Q;refine xM ?_;intro B I;refine yb ?_;intro ws I ws I;refine qd I (mf (nR a.da) _ Z') rfl ?_;intro G I;refine fa ?_;refine qd I (mf (nR b.da) _ Z') rfl ?_;intro Y I;refine Bb ?_;intro ws I;refine JD ?_;rw[h1,U7];exact⟨rfl,I.below⟩
 have p:¬(nR b.da).i.sign=0:=λh=>h1 ((z b.da).1 h);by_cases hlt:(nR a.da).e<(nR b.da).e
 .obtain⟨k,u⟩:∃k:Nat,(nR b.da).e=(nR a.da).e+k:=⟨((nR b.da).e-(nR a.da).e).toNat,Z'⟩;obtain⟨P,s,C⟩:=mw u H g Z' Z' Z';rw[Ga,Ga,Dyadic.add_comm] at C;refine Ca func108 ?_;refine Am ?_;intro T q I j r I D y I;refine Ak 3 I ?_;refine wb ?_;refine TJ ?_;refine wb ?_;refine Fa ?_;intro f W Q c;have A:=Q.bl;obtain⟨K,v6,F,_⟩:=c;replace I:=Q.hp;refine lg ?_;clear Q;refine xM ?_;intro B I;refine yb ?_;intro ws I ws I;refine qd I (mf (nR a.da) _ Z') rfl ?_;intro G I;refine fa ?_;refine qd I (mf (nR b.da) _ Z') rfl ?_;intro Y I;refine yb ?_;intro ws I ws I;refine Ak 13 I ?_;refine wb ?_;refine dC (λ_ hj=>P _) ?_;refine wb ?_;refine dC (λ_ hj=>s _) ?_;refine wb ?_;refine Fa ?_;intro f W Q c;have N:=Q.bl;obtain⟨v36,v35,v34,v33,v32,v31,v30,v29,v28,v27,v26,v25,v24,_⟩:=c;replace I:=Q.hp;refine lg ?_;clear Q;refine cd I (C _) ?_;intro S I;exact abG
 obtain⟨k,u⟩:∃k:Nat,(nR a.da).e=(nR b.da).e+k:=⟨((nR a.da).e-(nR b.da).e).toNat,Z'⟩;obtain⟨P,s,C⟩:=mw u g H Z' Z' Z';rw[Ga,Ga] at C;refine Ca func108 ?_;refine Am ?_;intro T q I j r I D y I;refine Ak 3 I ?_;refine wb ?_;refine TJ ?_;refine wb ?_;refine dn ?_;intro W I;refine xM ?_;intro B I;refine yb ?_;intro ws I ws I;refine qd I (mf (nR a.da) _ Z') rfl ?_;intro G I;refine fa ?_;refine qd I (mf (nR b.da) _ Z') rfl ?_;intro Y I;refine fa ?_;refine Ak 13 I ?_;refine wb ?_;refine dC (λ_ hj=>P _) ?_;refine wb ?_;refine dC (λ_ hj=>s _) ?_;refine wb ?_;refine dn ?_;intro W I;refine cd I (C _) ?_;intro S I;exact abG
def Sz.pow{x:Dyadic}(h:Sz k x)(n:Nat):Sz (1+k*n) (x^n):=by
 induction n with
 |zero=>rw[D7];exact Sz.one
 |succ n W=>rw[u7];exact(W.mul h).mono (by rw[o9];omega)
def D(m e:Int):Dyadic:=Dyadic.ofIntWithPrec m (-e)
def SW{m e:Int}(hm:m.natAbs<256)(h1: -16<=e)(h2:e<=16):Sz 24 (D m e):=by
 have:=Sz.raw (a:=⟨iN m,iM m,e⟩) (m:=8) (E:=16) (by show 8*(iM m).size<=8;rw[sc];have:Ea m.natAbs<=8:=Zb hm;omega) h1 h2;rw[NR.da,NR.i,Uc] at this;exact this
def agP(most b:Int)(l:List NR):Bool:=l.any λa=>decide (most<a.Va.size\/a.e< -b\/b<a.e)
open Go.ChangeShapes Go.WideShapes Go.ChangeAt Go.RowKit Go.ChangeMaps
variable {W:World}{base fuel:Nat}{cs:List Value}
set_option maxRecDepth 100000 in
def Io{H:Type}{enc:TypeId×Value->H}{sp:Nat->Bool}{held:Bool}{x:DataW H×List MemPlace}(h:DataW.trod enc prog W base sp held fuel 30 cs=some x):
  ∃a:NR,cs=a.cells/\(Lit.int .i64 a.e).wf=true:=by
 have X:prog.cellsOf 30=3:=by kernel_rfl
 have Y:prog.cellsOf 28=2:=by kernel_rfl
 have d:prog.cellsOf 4=1:=by kernel_rfl
 have f:prog.cellsOf 9=1:=by kernel_rfl
 have g:prog.cellsOf 3=1:=by kernel_rfl
 obtain⟨C,j,n,_,Q,J,h1⟩:=trod_struct2 Tryz.underlying30 h;obtain⟨u,m,r,_,k,c,l⟩:=trod_struct2 Tryz.underlying28 J;obtain⟨b,S,_⟩:=DataW.trod_bool Tryz.underlying4 c;obtain⟨s,N,_,K⟩:=DataW.trod_string Tryz.underlying9 l;obtain⟨z,L,_,o⟩:=DataW.trod_int Tryz.underlying3 h1;rw[X] at Q
 match cs,Q with
 |[P,p,i],_=>
  simp only[Y,d,f,g] at S N L;simp at S N L;subst S N L;exact⟨⟨b,s,z⟩,rfl,o⟩
variable {b0:Nat}
set_option maxRecDepth 100000 in
def AU{H:Type}{enc:TypeId×Value->H}{r:Reach}{sp:Nat->Bool}{held:Bool}{v:Value}{d:DataW H}{X:List MemPlace} (s:Value.okWide prog W r b0 30 v)(T:DataW.Trod enc prog W base sp held 30 v d X):∃a:NR,v=.agg #[.bool a.neg,.string a.Va,.int .i64 a.e]/\ -9223372036854775808<=a.e/\a.e<=9223372036854775807:=by
 obtain⟨cs,rfl,_⟩:=okWide_struct Tryz.underlying30 s;obtain⟨fuel,Y⟩:=T;obtain⟨a,h1,h2⟩:=Io Y;refine⟨a, ?_,bounds_i64 h2⟩;have G:cs.toList=a.cells:=h1;rw[<-Array.toList_inj.1 (show cs.toList=(#[.bool a.neg,.string a.Va,.int .i64 a.e]:Array Value).toList from G)]
def TE(h:laidMetH prog Rows.ratioEnclosesRow.laid W):Gc W:=by
 rw[MakeChecks.laidMetH_plain _ _ _ U'] at h;obtain⟨c,⟨g,t,cs,fuel,p,q,s,S,A,T,_,_⟩,_,_⟩:=h;obtain rfl:=i' ((show prog.globalNamed "math/bits.deBruijn64tab" =some 0 by kernel_rfl).symm.trans s);obtain rfl:=i' ((show(prog.globals[0]?).map (·.type)=some 298 by kernel_rfl).symm.trans S);obtain⟨xs,m,_,ex,_,Q,a⟩:=DataW.trod_array Tryz.underlying298 T;have f:prog.cellsOf 5=1:=by kernel_rfl
 have X:(xs.map (·.1))=KH.map λn=>.lit (.int .u8 n):=(DataW.agg.inj (Prod.mk.inj ex).1).symm;have hlen:KH.length=64:=by decide
 intro r u hu;have H:r<64:=(by have:=(x'.1 hu).1;rw[Bc] at this;omega);have b:=a r H;rw[f,X_,U8 Z'] at b;obtain⟨z,N,L,_⟩:=DataW.trod_int Tryz.underlying5 b;have E:(xs.map (·.1))[r]?=(KH.map λ(n:Nat)=>(DataW.lit (.int .u8 n):DataW Unit))[r]?:=by rw[X]
 rw[z',z',U8 (by omega:r<xs.length),U8 (by omega:r<KH.length),L] at E;have o:u=.int .u8 z:=(by rw[ig,z',U8 (by omega:r<KH.length)] at hu;simp only[p9,g9,DataW.lit.injEq,Lit.int.injEq,true_and] at E hu;rw[<-hu,E]);rw[Zd,U_,World.var?_cell s A r,o];have:cs.toList[r]?=some (.int .u8 z):=by
  have J:((cs.toList.drop r).take 1)[0]?=some (.int .u8 z):=by rw[N];rfl
  simpa using J
 simpa using this
variable {α:Type}
def dx{α:Type}{p:Nat->α->Prop}:∀(n:Nat),(∀i,i<n->∃a,p i a)->∃l:List α,l.length=n/\∀i a,l[i]?=some a->p i a
 |0,_=>⟨[],rfl,λi a h=>by simp at h⟩
 |n+1,h=>by
  obtain⟨l,h1,h2⟩:=dx n λi hi=>h i Z';obtain⟨a,M⟩:=h n Z';refine⟨l++[a],by simp[h1],λi b F=> ?_⟩;obtain hi|hi:=o_ i l.length
  .rw[m9 hi] at F;exact h2 i b F
  rw[S9 hi] at F;have G:i-l.length=0:=by
   obtain h|h:=G8 (i-l.length)
   .exact h
   rw[K_ (by simp;omega)] at F;cases F
  rw[G] at F;simp only[q7,g9] at F;subst F;rw[show i=n by omega];exact M
variable {P:Program}
def Mz{f:α->List Value}{p:α->Prop}{sz:Nat}{t e:TypeId}{H:Type}{enc:TypeId×Value->H}{r:Reach}{sp:Nat->Bool}{held:Bool}{v:Value}{d:DataW H}{X:List MemPlace} (Y:∀x,(f x).length=sz)(J:0<sz)(S:P.underlying t=some (.slice e))(w:P.cellsOf e=sz)(one:∀fuel cs x,DataW.trod enc P W base sp held fuel e cs=some x->∃a,cs=f a/\p a) (s:Value.okWide P W r b0 t v)(y:DataW.Trod enc P W base sp held t v d X):∃(A:Option Addr)(n c:Nat)(l:List α),v=.slice A n c/\Sl W A n sz (ia f l)/\∀a∈l,p a:=by
 obtain⟨a,len,cap,rfl⟩:=okWide_slice S s;obtain⟨fuel,T⟩:=y;obtain⟨h1,_⟩|⟨b,n,g,m,k,D,G,h1,_,h2,K,hm,_,q⟩:=Go.Deep.open_slice S T
 .have E:[Value.slice a len cap]=[.slice none 0 0]:=h1;simp only[R6,Value.slice.injEq,and_true] at E;obtain⟨rfl,rfl,rfl⟩:=E;exact⟨none,0,0,[],rfl,Sl.nil W none sz,λ_ h=>by simp at h⟩
 have E:[Value.slice a len cap]=[.slice (some b) n g]:=h1;simp only[R6,Value.slice.injEq,and_true] at E;obtain⟨rfl,rfl,rfl⟩:=E;have z:len<=m:=by rw[hm];split<;>omega
 obtain⟨l,Q,hp⟩:=dx (p:=λi a=>W.cells? base (b.add (i*sz)) sz=some (f a)/\p a) len λi hi=>(by obtain⟨cs,L,N⟩:=q i Z';rw[w] at L;obtain⟨a,rfl,B⟩:=one _ _ _ N;exact⟨a,L,B⟩);refine⟨some b,len,cap,l,rfl,⟨by rw[Wd Y,Q],λ_=>⟨b,rfl,λj u hu=> ?_⟩⟩,λa M=> ?_⟩
 .exact ael
 obtain⟨i,hi⟩:=C_.1 M;exact(hp i a hi).2
def IC(z:Int):List Value:=[.int .i64 z]
def dJ{f:α->List Value}{p:α->Prop}{sz:Nat}{t e:TypeId}{H:Type}{enc:TypeId×Value->H}{sp:Nat->Bool}{held:Bool}{x:DataW H×List MemPlace} (Y:∀x,(f x).length=sz)(J:0<sz)(S:P.underlying t=some (.slice e))(E:P.cellsOf e=sz)(one:∀fuel cs x,DataW.trod enc P W base sp held fuel e cs=some x->∃a,cs=f a/\p a) (T:DataW.trod enc P W base sp held fuel t cs=some x):∃(A:Option Addr)(n c:Nat)(l:List α),cs=[.slice A n c]/\Sl W A n sz (ia f l)/\∀a∈l,p a:=by
 obtain⟨h1,_⟩|⟨b,n,g,m,k,D,w,h1,_,h2,G,hm,_,d⟩:=Go.Deep.open_slice S T
 .exact⟨none,0,0,[],h1,Sl.nil W none sz,λ_ h=>by simp at h⟩
 have y:n<=m:=by rw[hm];split<;>omega
 obtain⟨l,Q,hp⟩:=dx (p:=λi a=>W.cells? base (b.add (i*sz)) sz=some (f a)/\p a) n λi hi=>(by obtain⟨cs,L,N⟩:=d i Z';rw[E] at L;obtain⟨a,rfl,B⟩:=one _ _ _ N;exact⟨a,L,B⟩);refine⟨some b,n,g,l,h1,⟨by rw[Wd Y,Q],λ_=>⟨b,rfl,λj u hu=> ?_⟩⟩,λa M=> ?_⟩
 .exact ael
 obtain⟨i,hi⟩:=C_.1 M;exact(hp i a hi).2
def NM{t e:TypeId}{H:Type}{enc:TypeId×Value->H}{sp:Nat->Bool}{held:Bool}{A:Option Addr}{c:Nat}{x:DataW H×List MemPlace} (S:P.underlying t=some (.slice e))(T:DataW.trod enc P W base sp held fuel t [.slice A n c]=some x):n<=c:=by
 obtain⟨h1,_⟩|⟨b,q,g,m,k,D,w,h1,_,h2,_⟩:=Go.Deep.open_slice S T
 .injection h1 with h1
  injection h1 with _ L X
  omega
 injection h1 with h1
 injection h1 with _ L X
 omega
def qR{l:List Int}(h:l.all zd=true):ints (l.map PA)=l:=by
 induction l with
 |nil=>rfl
 |cons x l W=>
  simp only[List.all_cons,l'] at h;have h1:((PA x).toNat:Int)=x:=by
   have:=Xu h.1;injection this with _ this
   exact this.symm
  have:=W h.2;simp only[ints,I_,h1];congr 1
def FT{l:List Int}(h:l.all zd=true):ke (l.map PA)=true:=by
 rw[ke,L_];intro c E;obtain⟨x,C,rfl⟩:=B'.1 E;have h1:=L_.1 h x C;have:=Xu h1;injection this with _ this
 simp only[zd,l',h'] at h1;simp only[h'];omega
def PW{a:List UInt8}(h:ke a=true):(ints a).all zd=true:=by
 rw[L_];intro x C;obtain⟨c,E,rfl⟩:=B'.1 C;have:=L_.1 h c E;simp only[h'] at this;simp only[zd,l',h'];omega
def GA{f:Int->Int->Int}{a b:List UInt8}{l:List Int}(h:Qi f a b=some l):ke a=true/\ke b=true/\b.length=a.length/\l=List.zipWith f (ints a) (ints b):=by
 unfold Qi at h;split at h
 .rename_i E;simp only[l',h'] at E;injection h with h
  exact⟨E.1,E.2.1,Z',h.symm⟩
 cases h
def zV{f:Int->Int->Int}{a b:List UInt8}(h1:ke a=true)(h2:ke b=true)(G:b.length=a.length):Qi f a b=some (List.zipWith f (ints a) (ints b)):=by
 unfold Qi;rw[P' (by simp[h1,h2,G])]
def Pn{a c:List UInt8}(h:(mulL a c).2=0):ke a=true/\ke c=true/\c.length=a.length/\ke (mulL a c).1=true/\ints (mulL a c).1=List.zipWith (· + ·) (ints a) (ints c):=by
 unfold mulL at h |-;split
 .rename_i l Q;rw[Q] at h;simp only at h |-;obtain⟨h1,h2,G,z⟩:=GA Q;by_cases E:l.all zd=true
  .rw[(Uu E).1];exact⟨h1,h2,G,FT E,by rw[qR E,z]⟩
  simp[sX,E] at h
 rename_i Q;rw[Q] at h;simp at h
def pH{a c:List UInt8}(h:(mulL a c).2=0):(mulL a c).1.length=a.length:=by
 obtain⟨_,_,G,_,P⟩:=Pn h;have:=Y_ List.length P;rw[Oc,R7,Oc,Oc] at this;omega
structure TR where
 m:ByteArray
 c:NR
def TR.cells(t:TR):List Value:=[.string t.m,.bool t.c.neg,.string t.c.Va,.int .i64 t.c.e]
def TR.len(t:TR):t.cells.length=4:=rfl
def TR.one(t:TR):t.cells.all Value.oneCell'=true:=rfl
def eh(a b:ByteArray):Bool:=Op.bytesLess a.data.toList b.data.toList
def mr:∀a:List UInt8,Op.bytesLess a a=false
 |[]=>rfl
 |c::a=>by simp[Op.bytesLess,mr a]
def Wt:∀a b c:List UInt8,Op.bytesLess a b=true->Op.bytesLess b c=true->Op.bytesLess a c=true
 |_,[],[],_,h=>by simp[Op.bytesLess] at h
 |_,_::_,[],_,h=>by simp[Op.bytesLess] at h
 |[],[],_::_,h,_=>by simp[Op.bytesLess] at h
 |_::_,[],_::_,h,_=>by simp[Op.bytesLess] at h
 |[],_::_,_::_,_,_=>rfl
 |x::a,y::b,z::c,h1,h2=>by
  simp only[Op.bytesLess,V7,l',h',k9] at h1 h2 |-;obtain h1|⟨rfl,h1⟩:=h1
  .obtain h2|⟨rfl,h2⟩:=h2
   .exact .inl (UInt8.lt_trans h1 h2)
   exact .inl h1
  obtain h2|⟨rfl,h2⟩:=h2
  .exact .inl h2
  exact .inr ⟨rfl,Wt a b c h1 h2⟩
def Pz:∀a b:List UInt8,Op.bytesLess a b=false->Op.bytesLess b a=false->a=b
 |[],[],_,_=>rfl
 |[],_::_,h,_=>by simp[Op.bytesLess] at h
 |_::_,[],_,h=>by simp[Op.bytesLess] at h
 |x::a,y::b,h1,h2=>(by simp only[Op.bytesLess,Bool.or_eq_false_iff,Z5,T6,beq_eq_false_iff_ne] at h1 h2;have e:x=y:=(by have J:=h1.1;have o:=h2.1;rw[UInt8.lt_iff_toNat_lt] at J o;exact Q6.1 Z');subst e;rw[Pz a b (h1.2.resolve_left (λh=>h rfl)) (h2.2.resolve_left (λh=>h rfl))])
def xg(a):eh a a=false:=mr _
def jj{a b c:ByteArray}(h1:eh a b=true)(h2:eh b c=true):eh a c=true:=Wt _ _ _ h1 h2
def qo{a b:ByteArray}(h1:eh a b=false)(h2:eh b a=false):a=b:=Ew (Pz _ _ h1 h2)
def LS{a b:ByteArray}(h:eh a b=true):a≠b:=λe=>by rw[e,xg] at h;cases h
def TO{a b:ByteArray}(h:eh a b=true):eh b a=false:=by
 cases h2:eh b a with
 |false=>rfl
 |true=>have:=jj h h2;rw[xg] at this;cases this
def xv(l:List TR):Prop:=l.Pairwise λa b=>eh a.m b.m=true
def wS(f:ByteArray->Dyadic):List TR->Dyadic
 |[]=>0
 |t::l=>t.c.da*f t.m+wS f l
def Xn(f:ByteArray->Dyadic)(l:List TR)(k):wS f (l++k)=wS f l+wS f k:=by
 induction l with
 |nil=>exact(g8 _).symm
 |cons t l W=>rw[C',wS,wS,W,Dyadic.add_assoc]
def yX(f:ByteArray->Dyadic)(l:List TR)(t:TR):wS f (l++[t])=wS f l+t.c.da*f t.m:=by
 rw[Xn,wS,wS,U7]
def hh(l:List TR)(m:ByteArray):Dyadic:=wS (λk=>if k=m then 1 else 0) l
def Se(t:TR)(l)(m:ByteArray):hh (t::l) m=(if t.m=m then t.c.da else 0)+hh l m:=by
 show t.c.da*(if t.m=m then 1 else 0)+hh l m=_;split
 .rw[Dyadic.mul_one]
 rw[N6]
def Px(m:ByteArray):hh [] m=0:=rfl
def lf(l:List TR)(k)(m:ByteArray):hh (l++k) m=hh l m+hh k m:=Xn _ _ _
def lz{l:List TR}{m:ByteArray}(h:∀t∈l,t.m≠m):hh l m=0:=by
 induction l with
 |nil=>rfl
 |cons t l W=>rw[Se,Q' (h t I'),W λs K=>h s (L' _ K),g8]
structure Canon(l:List TR):Prop where
 au:xv l
 nz:∀t∈l,t.c.da≠0
 nf:∀t∈l,t.c=nR t.c.da
def tx{t:TR}{l:List TR}(h:Canon (t::l)):Canon l:=⟨(C9.1 h.au).2,λs K=>h.nz s (L' _ K),λs K=>h.nf s (L' _ K)⟩
def Bz{t:TR}{l:List TR}{m:ByteArray}(h:xv (t::l))(hm:m=t.m\/eh m t.m=true):∀s∈l,s.m≠m:=λs K e=>by
 have h1:=(C9.1 h).1 s K;obtain rfl|hm:=hm
 .rw[e,xg] at h1;cases h1
 have:=jj hm h1;rw[e,xg] at this;cases this
def kj{t:TR}{l:List TR}(h:xv (t::l)):hh (t::l) t.m=t.c.da:=by
 rw[Se,P' rfl,lz (Bz h (.inl rfl)),U7]
def rz{t:TR}{l:List TR}{m:ByteArray}(h:xv (t::l))(hm:eh m t.m=true):hh (t::l) m=0:=by
 rw[Se,Q' (λe=>LS hm e.symm),lz (Bz h (.inr hm)),g8]
def CE:∀{l k:List TR},Canon l->Canon k->(∀m,hh l m=hh k m)->l=k
 |[],[],_,_,_=>rfl
 |[],t::k,_,u,h=>(by have:=h t.m;rw[kj u.au,Px] at this;exact absurd this.symm (u.nz t I'))
 |t::l,[],Q,_,h=>(by have:=h t.m;rw[kj Q.au,Px] at this;exact absurd this (Q.nz t I'))
 |t::l,s::k,Q,u,h=>by
  have h1:eh t.m s.m=false:=by
   cases F:eh t.m s.m with
   |false=>rfl
   |true=>
    have:=h t.m;rw[kj Q.au,rz u.au F] at this;exact absurd this (Q.nz t I')
  have h2:eh s.m t.m=false:=by
   cases F:eh s.m t.m with
   |false=>rfl
   |true=>
    have:=h s.m;rw[kj u.au,rz Q.au F] at this;exact absurd this.symm (u.nz s I')
  have em:=qo h1 h2;have f:t.c.da=s.c.da:=(by have:=h t.m;rw[kj Q.au,em,kj u.au] at this;exact this);have T:t=s:=(by have a:=Q.nf t I';have b:=u.nf s I';obtain⟨e,X⟩:=t;obtain⟨N,Y⟩:=s;simp only at em f a b;rw[em,a,b,f]);subst T;rw[CE (tx Q) (tx u) λm=>by
   have:=h m;rw[Se,Se] at this;grind]
def bh:List TR->TR->List TR
 |[],x=>[⟨x.m,nR x.c.da⟩]
 |t::l,x=>if eh t.m x.m=true then t::bh l x else if eh x.m t.m=true then⟨x.m,nR x.c.da⟩::t::l else⟨x.m,nR (t.c.da+x.c.da)⟩::l
def qL(f:ByteArray->Dyadic):∀(l:List TR)(x:TR),wS f (bh l x)=wS f l+x.c.da*f x.m
 |[],x=>(by show(nR x.c.da).da*f x.m+0=0+_;rw[Ga,U7,g8])
 |t::l,x=>by
  unfold bh;split
  .rw[wS,qL f l x,wS,Dyadic.add_assoc]
  split
  .rw[wS,wS,Ga,Dyadic.add_comm]
  rename_i h1 h2;have e:t.m=x.m:=qo (by simpa using h1) (by simpa using h2);rw[wS,wS,Ga,e];grind
def Dw:∀{l:List TR}{x t:TR},t∈bh l x->t∈l\/t.m=x.m
 |[],x,t,h=>.inr (by rw[q'.1 h])
 |s::l,x,t,h=>by
  unfold bh at h;split at h
  .obtain rfl|h:=u'.1 h
   .exact .inl I'
   obtain h|h:=Dw h
   .exact .inl (L' _ h)
   exact .inr h
  split at h
  .obtain rfl|h:=u'.1 h
   .exact .inr rfl
   exact .inl h
  obtain rfl|h:=u'.1 h
  .exact .inr rfl
  exact .inl (L' _ h)
def QD:∀{l:List TR}{x:TR},xv l->xv (bh l x)
 |[],x,_=>W5 _ _
 |s::l,x,h=>by
  have h1:=C9.1 h;unfold bh;split
  .rename_i K;refine C9.2 ⟨λt S=> ?_,QD h1.2⟩;obtain S|S:=Dw S
   .exact h1.1 t S
   rw[S];exact K
  split
  .rename_i K;refine C9.2 ⟨λt S=> ?_,h⟩;obtain rfl|S:=u'.1 S
   .exact K
   exact jj K (h1.1 t S)
  rename_i a b;have e:s.m=x.m:=qo (by simpa using a) (by simpa using b);refine C9.2 ⟨λt S=> ?_,h1.2⟩;show eh x.m t.m=true;rw[<-e];exact h1.1 t S
def XK:∀{l:List TR}{x:TR},(∀t∈l,t.c=nR t.c.da)->∀t∈bh l x,t.c=nR t.c.da
 |[],x,_,t,S=>by rw[q'.1 S];show nR _=nR (nR _).da;rw[Ga]
 |s::l,x,h,t,S=>by
  unfold bh at S;split at S
  .obtain rfl|S:=u'.1 S
   .exact h t I'
   exact XK (λt S=>h t (L' _ S)) t S
  split at S
  .obtain rfl|S:=u'.1 S
   .show nR _=nR (nR _).da;rw[Ga]
   exact h t S
  obtain rfl|S:=u'.1 S
  .show nR _=nR (nR _).da;rw[Ga]
  exact h t (L' _ S)
def VF:∀(l:List TR)(x:TR),(bh l x).length<=l.length+1
 |[],x=>E' _
 |s::l,x=>by
  have:=VF l x;unfold bh;split
  .rw[T_,T_];omega
  split<;>simp
def lK{k:Nat}:∀{l:List TR}{x:TR},(∀t∈l,Sz k t.c.da)->Sz k x.c.da->∀t∈bh l x,Sz (k+1) t.c.da
 |[],x,_,C,t,S=>by rw[q'.1 S];show Sz _ (nR _).da;rw[Ga];exact C.mono Z'
 |s::l,x,h,C,t,S=>by
  unfold bh at S;split at S
  .obtain rfl|S:=u'.1 S
   .exact(h t I').mono Z'
   exact lK (λt S=>h t (L' _ S)) C t S
  split at S
  .obtain rfl|S:=u'.1 S
   .show Sz _ (nR _).da;rw[Ga];exact C.mono Z'
   exact(h t S).mono Z'
  obtain rfl|S:=u'.1 S
  .show Sz _ (nR _).da;rw[Ga];exact(h s I').add C
  exact(h t (L' _ S)).mono Z'
def xh(l:List TR):List TR:=l.foldl bh []
def Ap(t:TR):Bool:= !decide (t.c.da=0)
def oa(l:List TR):List TR:=(xh l).filter Ap
def nh(l:List TR)(x:TR):xh (l++[x])=bh (xh l) x:=by unfold xh;rw[p8];rfl
def Ji{P:List α->Prop}(J:P [])(K:∀l x,P l->P (l++[x]))(l:List α):P l:=by
 have:∀k:List α,P k.reverse:=λk=>by
  induction k with
  |nil=>exact J
  |cons x k W=>rw[m8];exact K _ _ W
 have h:=this l.reverse;rwa[U6] at h
def sS(f:ByteArray->Dyadic)(l):wS f (xh l)=wS f l:=by
 induction l using Ji with
 |J=>rfl
 |K l x W=>rw[nh,qL,W,yX]
def lO(l):xv (xh l):=by
 induction l using Ji with
 |J=>exact I6
 |K l x W=>rw[nh];exact QD W
def GD(l):∀t∈xh l,t.c=nR t.c.da:=by
 induction l using Ji with
 |J=>intro t S;cases S
 |K l x W=>rw[nh];exact XK W
def rA(l):(xh l).length<=l.length:=by
 induction l using Ji with
 |J=>exact E' _
 |K l x W=>rw[nh,y'];have:=VF (xh l) x;simp;omega
def QG(l)(h:∀t∈l,Sz k t.c.da):∀t∈xh l,Sz (k+l.length) t.c.da:=by
 induction l using Ji with
 |J=>intro t S;cases S
 |K l x W=>
  rw[nh,y'];exact lK (k:=k+l.length) (W λt S=>h t (M9 _ S)) ((h x (by simp)).mono Z')
def YN(l):∀t∈xh l,∃s∈l,s.m=t.m:=by
 induction l using Ji with
 |J=>intro t S;cases S
 |K l x W=>
  rw[nh];intro t S;obtain S|S:=Dw S
  .obtain⟨s,K,e⟩:=W t S;exact⟨s,M9 _ K,e⟩
  exact⟨x,by simp,S.symm⟩
def Oz(f:ByteArray->Dyadic)(l:List TR):wS f (l.filter Ap)=wS f l:=by
 induction l with
 |nil=>rfl
 |cons t l W=>
  rw[List.filter_cons];by_cases h:t.c.da=0
  .rw[Q' (by unfold Ap;rw[m' h];decide),W,wS,h,Dyadic.zero_mul,g8]
  rw[P' (by unfold Ap;rw[k' h];rfl),wS,wS,W]
def Ht(f:ByteArray->Dyadic)(l):wS f (oa l)=wS f l:=(Oz f _).trans (sS f l)
def xu(l)(m:ByteArray):hh (oa l) m=hh l m:=Ht _ _
def oJ{t:TR}(h:Ap t=true):t.c.da≠0:=λe=>by
 unfold Ap at h;rw[m' e] at h
 cases h
def tf(l):Canon (oa l):=
 ⟨List.Pairwise.filter _ (lO l),λt S=>oJ (D9.1 S).2,λt S=>GD l t (D9.1 S).1⟩
def Vb(l):(oa l).length<=l.length:=d' (E6 _ _) (rA l)
def Vn{l:List TR}(h:∀t∈l,Sz k t.c.da):∀t∈oa l,Sz (k+l.length) t.c.da:=λt S=>QG l h t (D9.1 S).1
def Ci{l:List TR}:∀t∈oa l,∃s∈l,s.m=t.m:=λt S=>YN l t (D9.1 S).1
def Lt{l k:List TR}(h:Canon k)(E:∀m,hh k m=hh l m):k=oa l:=CE h (tf l) λm=>by rw[E,xu]
def uB{l k:List TR}(E:∀m,hh k m=hh l m):oa k=oa l:=Lt (tf k) λm=>by rw[xu,E]
def ug(k:Nat)(l:List TR):Prop:=∀t∈l,t.c.ok/\Sz k t.c.da
def ug.mono{l:List TR}(h:ug k l)(u:k<=j):ug j l:=λt S=>⟨(h t S).1,(h t S).2.mono u⟩
structure MD(k:Nat)(l L:List TR):Prop where
 au:xv L
 co:∀m,hh L m=hh l m
 len:L.length<=l.length
 ok:ug k L
 mem:∀t∈L,∃s∈l,s.m=t.m
def MD.mono{l L:List TR}(h:MD k l L)(u:k<=j):MD j l L:=⟨h.au,h.co,h.len,h.ok.mono u,h.mem⟩
def MD.self{l:List TR}(h:xv l)(u:ug k l):MD k l l:=⟨h,λ_=>rfl,E' _,u,λt S=>⟨t,S,rfl⟩⟩
structure Mg(k:Nat)(xs ys O X Y:List TR):Prop where
 ro:xv O
 rx:xv X
 ry:xv Y
 co:∀m,hh O m+(hh X m+hh Y m)=hh xs m+hh ys m
 bx:∀t∈O,∀s∈X,eh t.m s.m=true
 hy:∀t∈O,∀s∈Y,eh t.m s.m=true
 len:O.length+(X.length+Y.length)<=xs.length+ys.length
 oo:ug (k+1) O
 ox:ug k X
 oy:ug k Y
 mo:∀t∈O,∃s∈xs++ys,s.m=t.m
 mx:∀t∈X,t∈xs++ys
 my:∀t∈Y,t∈xs++ys
def Mg.start{xs ys:List TR}(C:xv xs)(hy:xv ys)(ox:ug k xs)(oy:ug k ys):Mg k xs ys [] xs ys:=
 ⟨I6,C,hy,λm=>g8 _,λt S=>(by cases S),λt S=>(by cases S),by simp,λt S=>(by cases S),ox,oy,λt S=>(by cases S),λt S=>M9 _ S,λt S=>u9 _ S⟩
def cw{O:List TR}{x:TR}(h:xv O)(C:∀t∈O,eh t.m x.m=true):xv (O++[x]):=
 n6.2 ⟨h,W5 _ _,λt S s K=>by rw[q'.1 K];exact C t S⟩
def Yw(x:TR)(m:ByteArray):hh [x] m=if x.m=m then x.c.da else 0:=by rw[Se,Px,U7]
def Hf{P:α->Prop}{O:List α}{x:α}(h:∀t∈O,P t)(C:P x):∀t∈O++[x],P t:=λt S=>by
 obtain S|S:=O_.1 S
 .exact h t S
 rw[q'.1 S];exact C
def Mg.left{xs ys O X Y:List TR}{x y:TR}(h:Mg k xs ys O (x::X) (y::Y))(Q:eh x.m y.m=true):Mg k xs ys (O++[x]) X (y::Y):=by
 obtain⟨ro,rx,ry,co,bx,G,len,oo,ox,oy,mo,mx,my⟩:=h;have M:=C9.1 rx;have r:=C9.1 ry;refine⟨cw ro λt S=>bx t S x I',M.2,ry,λm=> ?_,Hf (λt S s K=>bx t S s (L' _ K)) λs K=>M.1 s K,Hf G λs K=> ?_,by simp at len |-;omega,Hf oo ⟨(ox x I').1,(ox x I').2.mono Z'⟩,λt S=>ox t (L' _ S),oy,Hf mo ⟨x,mx x I',rfl⟩,λt S=>mx t (L' _ S),my⟩
 .have:=co m;rw[Se x X] at this;rw[lf,Yw];grind
 obtain rfl|K:=u'.1 K
 .exact Q
 exact jj Q (r.1 s K)
def Mg.right{xs ys O X Y:List TR}{x y:TR}(h:Mg k xs ys O (x::X) (y::Y))(Q:eh y.m x.m=true):Mg k xs ys (O++[y]) (x::X) Y:=by
 obtain⟨ro,rx,ry,co,bx,G,len,oo,ox,oy,mo,mx,my⟩:=h;have M:=C9.1 rx;have r:=C9.1 ry;refine⟨cw ro λt S=>G t S y I',rx,r.2,λm=> ?_,Hf bx λs K=> ?_,Hf (λt S s K=>G t S s (L' _ K)) λs K=>r.1 s K,by simp at len |-;omega,Hf oo ⟨(oy y I').1,(oy y I').2.mono Z'⟩,ox,λt S=>oy t (L' _ S),Hf mo ⟨y,my y I',rfl⟩,mx,λt S=>my t (L' _ S)⟩
 .have:=co m;rw[Se y Y] at this;rw[lf,Yw];grind
 obtain rfl|K:=u'.1 K
 .exact Q
 exact jj Q (M.1 s K)
def Mg.both{xs ys O X Y:List TR}{x y:TR}(h:Mg k xs ys O (x::X) (y::Y))(h1:eh x.m y.m=false)(h2:eh y.m x.m=false)(u:k<=3999980):Mg k xs ys (O++[⟨x.m,nR (x.c.da+y.c.da)⟩]) X Y:=by
 obtain⟨ro,rx,ry,co,bx,G,len,oo,ox,oy,mo,mx,my⟩:=h;have M:=C9.1 rx;have r:=C9.1 ry;have e:=qo h1 h2;have o:=(ox x I').2.add (oy y I').2;refine⟨cw ro λt S=>bx t S x I',M.2,r.2,λm=> ?_,Hf (λt S s K=>bx t S s (L' _ K)) λs K=>M.1 s K,Hf (λt S s K=>G t S s (L' _ K)) λs K=> ?_,by simp at len |-;omega,Hf oo ⟨o.ok Z', ?_⟩,λt S=>ox t (L' _ S),λt S=>oy t (L' _ S),Hf mo ⟨x,mx x I',rfl⟩,λt S=>mx t (L' _ S),λt S=>my t (L' _ S)⟩
 .have:=co m;rw[Se y Y,Se x X,<-e] at this;rw[lf,Yw];show hh O m+(if x.m=m then(nR (x.c.da+y.c.da)).da else 0)+(hh X m+hh Y m)=_;rw[Ga];grind
 .show eh x.m s.m=true;rw[e];exact r.1 s K
 show Sz _ (nR _).da;rw[Ga];exact o
def Mg.done{xs ys O X Y:List TR}(h:Mg k xs ys O X Y)(T:X=[]\/Y=[]):MD (k+1) (xs++ys) (O++X++Y):=by
 obtain⟨ro,rx,ry,co,bx,G,len,oo,ox,oy,mo,mx,my⟩:=h;refine⟨?_,λm=> ?_,by simp at len |-;omega,λt S=> ?_,λt S=> ?_⟩
 .rw[H_];refine n6.2 ⟨ro, ?_,λt S s K=> ?_⟩
  .obtain rfl|rfl:=T
   .exact ry
   rw[M_];exact rx
  obtain K|K:=O_.1 K
  .exact bx t S s K
  exact G t S s K
 .rw[lf,lf,lf,Dyadic.add_assoc];exact co m
 .obtain S|S:=O_.1 S
  .obtain S|S:=O_.1 S
   .exact oo t S
   exact⟨(ox t S).1,(ox t S).2.mono Z'⟩
  exact⟨(oy t S).1,(oy t S).2.mono Z'⟩
 obtain S|S:=O_.1 S
 .obtain S|S:=O_.1 S
  .exact mo t S
  exact⟨t,mx t S,rfl⟩
 exact⟨t,my t S,rfl⟩
def MD.oa{k:Nat}{l L:List TR}(h:MD k l L):((L.filter Ap).map λt=>(⟨t.m,nR t.c.da⟩:TR))=oa l:=by
 refine Lt ⟨?_,λt S=> ?_,λt S=> ?_⟩ λm=> ?_
 .exact List.Pairwise.map _ (λa b E=>E) (List.Pairwise.filter _ h.au)
 .obtain⟨s,K,rfl⟩:=B'.1 S;show(nR s.c.da).da≠0;rw[Ga];exact oJ (D9.1 K).2
 .obtain⟨s,K,rfl⟩:=B'.1 S;show nR s.c.da=nR (nR s.c.da).da;rw[Ga]
 have e:∀(f:ByteArray->Dyadic)(k:List TR),wS f (k.map λt=>(⟨t.m,nR t.c.da⟩:TR))=wS f k:=λf k=>by
  induction k with
  |nil=>rfl
  |cons t k W=>rw[I_,wS,wS,W];show(nR t.c.da).da*f t.m+_=_;rw[Ga]
 show wS _ _=_;rw[e,Oz];exact h.co m
def Uz{l:List TR}(h:l.length<2):xv l:=by
 match l,h with
 |[],_=>exact I6
 |[x],_=>exact W5 _ _
variable {ag:Bool}{by' N d:Nat}{zc:List Value}{ro:Mode}{ops:Array Oper}{Q:Kq}{O:Rf}{w w0:World}{rest:List Oper}{H:List HE}{ty:TypeId}{pos:String}{af:Array Edge}
def cV(I:Hp w0 H w){t e:TypeId}{l g:Operand}{c m:IntKind}{L C:Int}{sz:Nat}(o:ev O l=.int c L)(E:ev O g=.int m C)(f:L=0)(M:C=(n:Int)) (S:P.underlying t=some (.slice e))(D:ed P e=some (sz,ag,by',zc))(F:by'*n<=281474976710656)(X:n<=9223372036854775807)(h:d<N) (k:∀b V,Hp w0 (.row (some ⟨b,0,none⟩) 0 n e sz []::H) V->WL ro P N ops Q rest (jd O d (.slice (some ⟨b,0,none⟩) 0 n)) V):
  WL ro P N ops Q (⟨some d,.makeSlice t l g,ty,pos,af,none⟩::rest) O w:=by
 obtain⟨i,z,dd,hi,T,p,K,G,r,_⟩:=Je D;subst f;subst M;subst K;have a:=run_make (P:=P) w t e i z S hi p c m 0 n (A7 _) Z' (by rw[G,<-F9];omega) Z';simp only[M8,Int.toNat_zero] at a;refine ub rfl rfl h (V:=w.alloc (.cells (madeCells z.cells (n*i.size)) e)) (v:=.slice (some ⟨w.heap.size,0,none⟩) 0 n) ?_ (k _ _ (I.pd (show Below w.heap.size w (w.alloc (.cells (madeCells z.cells (n*i.size)) e)) from⟨rfl,rfl,rfl,(World.grownBy_alloc w _ none).size,λj hj=>(World.grownBy_alloc w _ none).block j hj (by simp)⟩) ?_))
 .simp[execOp,o,E,a]
 exact⟨by simp,.inr ⟨w.heap.size,n,madeCells z.cells (n*i.size),rfl,E' _,heap_alloc_new w _,J' _,by unfold maxLen;omega,size_madeCells _ _,by simp⟩⟩
def vk(n sz:Nat)(cs:List Value):VP:=λv W=>∃g:Nat,v=.slice (some ⟨g,0,none⟩) n n/\Sl W (some ⟨g,0,none⟩) n sz cs
def vk.ext{sz:Nat}(v:Value)(w V)(h:vk n sz cs v w)(F:Below w.heap.size w V):vk n sz cs v V:=let⟨g,h1,h2⟩:=h;⟨g,h1,h2.ext F⟩
def UX{d:Option Nat}{ty:TypeId}{af:Array Edge}{t e:TypeId}{l g:Operand}{c m:IntKind}{L C:Int}{sz:Nat}{K:Value->World->Prop}(Q:ev O l=.int c L)(E:ev O g=.int m C)(b:L=(n:Int))(M:C=(n:Int)) (S:P.underlying t=some (.slice e))(D:ed P e=some (sz,ag,by',zc))(f:zc.length=sz)(F:by'*n<=281474976710656)(X:n<=9223372036854775807) (u:∀v q,vk n sz (Bg n zc) v q->Below w.heap.size w q->K v q):OG P ops ⟨d,.makeSlice t l g,ty,pos,af,none⟩ O w K:=by
 obtain⟨i,z,dd,hi,T,o,h,G,r,_⟩:=Je D;subst b;subst M;obtain⟨V,H,W,s⟩:=run_make_full (P:=P) w w.heap.size t e i z sz S hi o h c m n (by rw[G];exact F) (by unfold maxLen;omega) (E' _);have A:(madeCells z.cells (n*sz)).toList=Bg n zc:=(by exact adW);rw[A] at W;exact wc rfl (V:=V) (v:=.slice (some ⟨w.heap.size,0,none⟩) n n) (by simp[execOp,Q,E,H]) (u _ _ ⟨w.heap.size,rfl,ee W⟩ ⟨s.os,s.tape,s.output,s.size,λj hj=>s.block j hj (by simp)⟩)
def yv(n:Nat):Bg n [.int .u8 0]=bj (List.replicate n 0):=by
 induction n with
 |zero=>rfl
 |succ n W=>rw[Bg,W,S7];rfl
def oL(a:ByteArray):a.toList=a.data.toList:=by
 have key:∀s:ByteArray,s.toList=s.data.toList:=λs=>(by refine ac4 ?_;intro this;simpa using this (s.size-0) 0 [] rfl);exact key a
def Kk(a b:ByteArray):Op.bytesLess a.toList b.toList=eh a b:=by rw[oL,oL];rfl
def IW(a b:ByteArray):(!(Op.bytesLess a.toList b.toList||a.toList==b.toList))=eh b a:=by
 rw[Kk,UQ]
 cases h1:eh a b with
 |true=>rw[TO h1];rfl
 |false=>
  cases h2:eh b a with
  |true=>rw[k' (λe=>LS h2 e.symm)];rfl
  |false=>rw[m' (qo h1 h2)];rfl
def hQ(x y:TR):Int:=if eh x.m y.m=true then -1 else if eh y.m x.m=true then 1 else 0
def oH(x y:TR)(w):Zc 133 #[.agg #[.string x.m,.bool x.c.neg,.string x.c.Va,.int .i64 x.c.e],.agg #[.string y.m,.bool y.c.neg,.string y.c.Va,.int .i64 y.c.e]] w (.int .i64 (hQ x y)):=by
 have I:=Hp.start w;refine Ca func133 ?_;refine yb ?_;intro T q I j p I;refine sv (Bs rfl rfl) ?_;refine fa ?_;rw[Kk];unfold hQ
 cases h1:eh x.m y.m with
 |true=>
  refine fa ?_;exact⟨rfl,I.below⟩
 |false=>
  refine fa ?_;refine sv (FN rfl rfl) ?_;refine fa ?_;rw[IW]
  cases h2:eh y.m x.m with
  |true=>
   refine fa ?_;exact⟨rfl,I.below⟩
  |false=>
   refine fa ?_;exact⟨rfl,I.below⟩
def VM(x y:TR)(k:Nat)(w)(S:Gc w)(C:x.c.ok/\Sz k x.c.da)(hy:y.c.ok/\Sz k y.c.da)(u:k<=3999980):Zc 134 #[.agg #[.string x.m,.bool x.c.neg,.string x.c.Va,.int .i64 x.c.e],.agg #[.string y.m,.bool y.c.neg,.string y.c.Va,.int .i64 y.c.e]] w (.agg #[.string x.m,.bool (nR (x.c.da+y.c.da)).neg,.string (nR (x.c.da+y.c.da)).Va,.int .i64 (nR (x.c.da+y.c.da)).e]):=by
 have I:=Hp.start w;have g:=λA B Z P N=>zf A 2 B [x.c,y.c] Z P N (by simpa using⟨C.1,hy.1⟩) k (by simpa using⟨C.2,hy.2⟩) Z';rw[show Vl ([x.c,y.c].map NR.da)=x.c.da+y.c.da by simp only[I_,R9,Sh]] at g;refine Ca func134 ?_;refine Am ?_;intro T q I l r I D s I;refine ud 8 I ?_;refine Wp [_,_,_,_,_,_] ?_;refine Ja (i:=7) (Is (.agg #[.bool (nR (x.c.da+y.c.da)).neg,.string (nR (x.c.da+y.c.da)).Va,.int .i64 (nR (x.c.da+y.c.da)).e])) Is.ext ?_ ?_
 .intro U Z hj hR;obtain⟨J,j,a,s11⟩:=hR.1;exact ib rfl (La fi (qa a Wa)) (g J j _ (S.hp hj.hp) s11) (λ_ _ R=>⟨_,R.1,R.2,rfl⟩)
 refine Fa ?_;intro f W Q b;obtain⟨h,v11,v10,G,Y,p,v6,o,_⟩:=b;obtain⟨J,j,H,f11⟩:Rows _ _ _ (f 6) W:=v11;replace I:=Q.hp;refine lg ?_;refine Bb ?_;intro ws I;refine qN (Nc rfl (Mc (vs:=[_,_,_,_]) pa.out (I.Ra (i:=0) (n:=4) rfl rfl) rfl) Xd) ?_;exact⟨rfl,I.below⟩
def vb{Q:Kq}{L:Array Bool}{i d:Nat}{op:Op}{ty:TypeId}{af:Array Edge}{v:Value}(R:NP Q)(hi:ops[i]?=some ⟨some d,op,ty,pos,af,none⟩)(K:Region.noSelect ops=true)(Y:Region.free .any ops L i=true)(H:(Region.ready .any ops L).contains i=true) (A:∀w,(execOp (ev O) ⟨some d,op,ty,pos,af,none⟩).run P w=.ok (.value v) w)(b:d<N)(h:WA P N ops Q fuel (L.setIfInBounds i true) (jd O d v) w):WA P N ops Q (fuel+1) L O w:=
 ⟨λa l=>wpAny_first hi (Region.noSelect_spec K) (λc a w ⟨ρ',_,x⟩=>(R c ρ' w x).elim) fuel L a w (Region.free_spec hi Y) (by simpa using H) (.inl ⟨by simp[Region.wanted],λw=>by rw[l.eval];exact A w⟩) (h.out _ (l.put b v))⟩
def Sl.tail{A:Option Addr}{c:Nat}{x:TR}{X:List TR}(h:Sl w A n 4 (ia TR.cells (x::X)))(J:0<n)(E:n<=c):Sl w (if c=1 then A else A.map (·.add (1*4))) (n-1) 4 (ia TR.cells X):=by
 have:=h.back (l:=1) Z' E;rw[show(ia TR.cells (x::X)).drop (1*4)=ia TR.cells X from Yf TR.len (x::X) 1] at this;exact this
def Mr(A:Option Addr)(n c:Nat)(xs:List TR)(B:Option Addr)(m b:Nat)(ys:List TR)(k:Nat)(w:World)(hT:Gc w)(J:Sl w A n 4 (ia TR.cells xs))(z:Sl w B m 4 (ia TR.cells ys))(E:n<=c)(o:m<=b)(hn:n<=1000000)(hm:m<=1000000)(hk:k<=3999980) (rx:xv xs)(ry:xv ys)(ox:ug k xs)(oy:ug k ys):Calls prog 132 #[.slice A n c,.slice B m b,.func (.func 133) #[] #[],.func (.func 134) #[] #[]] w λr V=>∃(L:List TR)(A':Option Addr)(c':Nat),MD (k+1) (xs++ys) L/\r=.returned (.slice A' L.length c')/\Hp w [.row A' L.length c' 72 4 (ia TR.cells L)] V:=by
 have I:=Hp.start w;have hlx:=J.sa TR.len V';have hly:=z.sa TR.len V';have hnx:xs.length<=1000000:=Z';have hny:ys.length<=1000000:=Z';refine Ca func132 ?_;refine fa ?_;refine cV (n:=(n+m)) I rfl rfl Z' Z' Qa.out pa.out Z' Z' V' ?_;intro b16 w16 I;refine fa ?_;refine Hw [0,1,9,10,17,18,19,20,21,22,23,24,25,26,27,28,29,30,31,32,33,34,35,36,37,38,39,40,41,42,43,44,45,46,47,48,49,50,51,52,53,54,55,56,57,58,59,60,61,62,63,64,65,66,67,68,69] 0 1 9 (λu S vo V=>∃(A:Option Addr)(n c:Nat)(X:List TR)(B:Option Addr)(m b:Nat)(Y:List TR)(O:List TR)(C:Option Addr)(co:Nat),u=.slice A n c/\S=.slice B m b/\vo=.slice C O.length co/\n<=c/\m<=b/\Sl w A n 4 (ia TR.cells X)/\Sl w B m 4 (ia TR.cells Y)/\Mg k xs ys O X Y/\Hp w [.row C O.length co 72 4 (ia TR.cells O)] V) (λu S _ _=>lenOf u+lenOf S) ?_ ?_
 .exact⟨A,n,c,xs,B,m,b,ys,[],some ⟨b16,0,none⟩,n+m,rfl,rfl,rfl,E,o,J,z,Mg.start rx ry ox oy,I⟩
 clear I J z hlx hly E o hn hm;rintro ρ' u S vo V ⟨A,n,c,X,B,m,b,Y,O,C,co,rfl,rfl,rfl,E,o,J,z,a,I⟩;have hX:=J.sa TR.len V';have hY:=z.sa TR.len V';have hlen:=a.len;have oX:=Ia TR.one X;have oY:=Ia TR.one Y;by_cases hn:n=0
 .refine fa ?_;refine mb I (i:=0) rfl rfl rfl (J.ext I.below) Qa.out pa.out rfl V' ?one3 Z' Z' V' ?kk3
  case one3=>first|rfl|assumption|exact Da _|exact oneCells_u8s _
  intro A72 c72 w72 I;simp only[j'] at I;refine mL ?_;refine mb I (i:=0) rfl rfl rfl (z.ext I.below) Qa.out pa.out rfl V' ?one4 Z' Z' V' ?kk4
  case one4=>first|rfl|assumption|exact Da _|exact oneCells_u8s _
  intro p v w74 I;simp only[j'] at I;refine fa ?_;have hd:=a.done (.inl (Q8 Z'));exact ade
 by_cases hm:m=0
 .refine fa ?_;refine mb I (i:=0) rfl rfl rfl (J.ext I.below) Qa.out pa.out rfl V' ?one5 Z' Z' V' ?kk5
  case one5=>first|rfl|assumption|exact Da _|exact oneCells_u8s _
  intro A72 c72 w72 I;simp only[j'] at I;refine mL ?_;refine mb I (i:=0) rfl rfl rfl (z.ext I.below) Qa.out pa.out rfl V' ?one6 Z' Z' V' ?kk6
  case one6=>first|rfl|assumption|exact Da _|exact oneCells_u8s _
  intro p v w74 I;simp only[j'] at I;refine fa ?_;have hd:=a.done (.inr (Q8 Z'));exact ade
 obtain⟨x,X,rfl⟩:∃x X',X=x::X':=by cases X with
  |nil=>exact absurd hX.symm hn
  |cons x X'=>exact⟨x,X',rfl⟩
 obtain⟨y,Y,rfl⟩:∃y Y',Y=y::Y':=by cases Y with
  |nil=>exact absurd hY.symm hm
  |cons y Y'=>exact⟨y,Y',rfl⟩
 obtain⟨ad,rfl,H⟩:=J.at_ Z';obtain⟨ad2,rfl,G⟩:=z.at_ Z';have s:(x::X)[0]?=some x:=rfl;have P:(y::Y)[0]?=some y:=rfl;have D:=J.tail Z' E;have g:=z.tail Z' o;have K:=λZ=>oH x y Z;unfold hQ at K
 cases h1:eh x.m y.m with
 |true=>
  rw[h1,P' rfl] at K;refine fa ?_;refine Ak 7 I ?_;refine wb ?_;refine Ui (0) ?_;refine Fj [_,_,_,_] (λ_ hj=>(H.ext hj.hp.below).recAt TR.len s) ?_;refine eI ?_;refine Ui (0) ?_;refine Fj [_,_,_,_] (λ_ hj=>(G.ext hj.hp.below).recAt TR.len P) ?_;refine Fa ?_;intro f W Q hV;have F:=Q.bl;obtain⟨v31,v30,v29,v28,v27,v26,v25,_⟩:=hV;replace I:=Q.hp;refine lg ?_;clear Q;refine Hh (K _) fi rfl rfl V' ?_;rintro t j ⟨rfl,M⟩;refine⟨_,rfl, ?_⟩;replace I:=I.ext M;refine fa ?_;refine Ao I mixed λw_ e=> ?_;replace I:=e.hp;clear e;refine vb (i:=6) (by repeat (first|exact Mb|refine lb ?_|refine Lb ?_|refine Sa ?_)) rfl U' U' U' (λ_=>Ib rfl) V' ?_;refine vb (i:=7) (by repeat (first|exact Mb|refine lb ?_|refine Lb ?_|refine Sa ?_)) rfl U' U' U' (λ_=>Nf (l:=1) Qa.out pa.size rfl rfl Z' Z' Z') V' ?_;refine vb (i:=0) (by repeat (first|exact Mb|refine lb ?_|refine Lb ?_|refine Sa ?_)) rfl U' U' U' (λ_=>Ib rfl) V' ?_;refine vb (i:=1) (by repeat (first|exact Mb|refine lb ?_|refine Lb ?_|refine Sa ?_)) rfl U' U' U' (λ_=>Ib rfl) V' ?_
  refine vb (i:=2) (by repeat (first|exact Mb|refine lb ?_|refine Lb ?_|refine Sa ?_)) rfl U' U' U' (λ_=>pb (k:=0) Qa.out pa.size rfl rfl Z' Z') V' ?_;refine je (i:=3) U' rfl ?_;refine QT ?_;refine Kc ?_;refine je (i:=4) U' rfl ?_;refine vF ?_;intro b55 w55 I;refine Kc ?_;refine je (i:=5) U' rfl ?_;refine Er ?_;intro T c56 w56 I;simp only[j',t_] at I;replace I:=I.sub (r_ _ _);refine Kc ?_;refine Hg 8 V' U' V' U' U' ?_;refine fa ?_;replace I:=I.sub (O' _ Z_);refine⟨⟨_,n-1,c-1,X,some ad2,m,b,y::Y,O++[x],T,c56,rfl,rfl, ?_,Z',o,D,z,a.left h1, ?_⟩,by show(n-1)+m<n+m;omega, ?_⟩
  .show Value.slice _ (O.length+1) _=Value.slice _ (O++[x]).length _;rw[y'];rfl
  .rw[y',Aa];exact I
  exact Wb
 |false=>
  cases h2:eh y.m x.m with
  |true=>
   rw[h1,h2,Q' V',P' rfl] at K;refine fa ?_;refine Ak 7 I ?_;refine wb ?_;refine Ui (0) ?_;refine Fj [_,_,_,_] (λ_ hj=>(H.ext hj.hp.below).recAt TR.len s) ?_;refine eI ?_;refine Ui (0) ?_;refine Fj [_,_,_,_] (λ_ hj=>(G.ext hj.hp.below).recAt TR.len P) ?_;refine Fa ?_;intro f W Q hV;have F:=Q.bl;obtain⟨v31,v30,v29,v28,v27,v26,v25,_⟩:=hV;replace I:=Q.hp;refine lg ?_;clear Q;refine Hh (K _) fi rfl rfl V' ?_;rintro t j ⟨rfl,M⟩;refine⟨_,rfl, ?_⟩;replace I:=I.ext M;refine fa ?_;refine Ao I mixed λw_ e=> ?_;replace I:=e.hp;clear e;refine vb (i:=6) (by repeat (first|exact Mb|refine lb ?_|refine Lb ?_|refine Sa ?_)) rfl U' U' U' (λ_=>Ib rfl) V' ?_;refine vb (i:=7) (by repeat (first|exact Mb|refine lb ?_|refine Lb ?_|refine Sa ?_)) rfl U' U' U' (λ_=>Nf (l:=1) Qa.out pa.size rfl rfl Z' Z' Z') V' ?_;refine vb (i:=0) (by repeat (first|exact Mb|refine lb ?_|refine Lb ?_|refine Sa ?_)) rfl U' U' U' (λ_=>Ib rfl) V' ?_;refine vb (i:=1) (by repeat (first|exact Mb|refine lb ?_|refine Lb ?_|refine Sa ?_)) rfl U' U' U' (λ_=>Ib rfl) V' ?_
   refine vb (i:=2) (by repeat (first|exact Mb|refine lb ?_|refine Lb ?_|refine Sa ?_)) rfl U' U' U' (λ_=>pb (k:=0) Qa.out pa.size rfl rfl Z' Z') V' ?_;refine je (i:=3) U' rfl ?_;refine XR ?_;refine Kc ?_;refine je (i:=4) U' rfl ?_;refine vF ?_;intro b66 w66 I;refine Kc ?_;refine je (i:=5) U' rfl ?_;refine Er ?_;intro A67 c67 w67 I;simp only[j',t_] at I;replace I:=I.sub (r_ _ _);refine Kc ?_;refine Hg 8 V' U' V' U' U' ?_;refine fa ?_;replace I:=I.sub (O' _ Z_);refine⟨⟨some ad,n,c,x::X,_,m-1,b-1,Y,O++[y],A67,c67,rfl,rfl, ?_,E,Z',J,g,a.right h2, ?_⟩,by show n+(m-1)<n+m;omega, ?_⟩
   .show Value.slice _ (O.length+1) _=Value.slice _ (O++[y]).length _;rw[y'];rfl
   .rw[y',Aa];exact I
   exact Wb
  |false=>
   rw[h1,h2,Q' V',Q' V'] at K;have h:=λZ hT1=>VM x y k Z hT1 (a.ox x I') (a.oy y I') hk;refine fa ?_;refine Ak 7 I ?_;refine wb ?_;refine Ui (0) ?_;refine Fj [_,_,_,_] (λ_ hj=>(H.ext hj.hp.below).recAt TR.len s) ?_;refine eI ?_;refine Ui (0) ?_;refine Fj [_,_,_,_] (λ_ hj=>(G.ext hj.hp.below).recAt TR.len P) ?_;refine dn ?_;intro W I;refine Hh (K _) fi rfl rfl V' ?_;rintro t j ⟨rfl,M⟩;refine⟨_,rfl, ?_⟩;replace I:=I.ext M;refine fa ?_;refine Ao I mixed λw_ e=> ?_;replace I:=e.hp;clear e;refine vb (i:=11) (by repeat (first|exact Mb|refine lb ?_|refine Lb ?_|refine Sa ?_)) rfl U' U' U' (λ_=>Ib rfl) V' ?_;refine vb (i:=12) (by repeat (first|exact Mb|refine lb ?_|refine Lb ?_|refine Sa ?_)) rfl U' U' U' (λ_=>Nf (l:=1) Qa.out pa.size rfl rfl Z' Z' Z') V' ?_;refine vb (i:=13) (by repeat (first|exact Mb|refine lb ?_|refine Lb ?_|refine Sa ?_)) rfl U' U' U' (λ_=>Ib rfl) V' ?_;refine vb (i:=14) (by repeat (first|exact Mb|refine lb ?_|refine Lb ?_|refine Sa ?_)) rfl U' U' U' (λ_=>Nf (l:=1) Qa.out pa.size rfl rfl Z' Z' Z') V' ?_
   refine vb (i:=0) (by repeat (first|exact Mb|refine lb ?_|refine Lb ?_|refine Sa ?_)) rfl U' U' U' (λ_=>Ib rfl) V' ?_;refine vb (i:=1) (by repeat (first|exact Mb|refine lb ?_|refine Lb ?_|refine Sa ?_)) rfl U' U' U' (λ_=>Ib rfl) V' ?_;refine vb (i:=2) (by repeat (first|exact Mb|refine lb ?_|refine Lb ?_|refine Sa ?_)) rfl U' U' U' (λ_=>Ib rfl) V' ?_;refine vb (i:=3) (by repeat (first|exact Mb|refine lb ?_|refine Lb ?_|refine Sa ?_)) rfl U' U' U' (λ_=>pb (k:=0) Qa.out pa.size rfl rfl Z' Z') V' ?_;refine vb (i:=5) (by repeat (first|exact Mb|refine lb ?_|refine Lb ?_|refine Sa ?_)) rfl U' U' U' (λ_=>Ib rfl) V' ?_;refine vb (i:=6) (by repeat (first|exact Mb|refine lb ?_|refine Lb ?_|refine Sa ?_)) rfl U' U' U' (λ_=>pb (k:=0) Qa.out pa.size rfl rfl Z' Z') V' ?_;refine At (i:=4) (i2:=7) U' rfl rfl ?_ ?_
   .refine QT ?_;refine Kc ?_;refine je (i:=7) U' rfl ?_;refine XR ?_;exact XZ
   refine XR ?_;refine Kc ?_;refine je (i:=4) U' rfl ?_;refine QT ?_;exact XZ
def El{b d:Nat}{t:TypeId}{sz c:Nat}{A:Option Addr}{xs:List Value}(h:w.ownsRow b t sz (.slice A n c) n xs)(F:d<=b):w.ownsRow d t sz (.slice A n c) n xs:=
 ⟨h.1,h.2.imp id λ⟨g,cap,cur,h1,h2,G⟩=>⟨g,cap,cur,h1,d' F h2,G⟩⟩
variable {fz:Nat×Nat}
def pn{b d:Nat}{x:HE}(h:x.holds b w)(F:d<=b):x.holds d w:=by
 cases x with
 |blk b t cs fz=>exact⟨d' F h.1,h.2⟩
 |row A n c t sz xs=>exact El h F
 |ob b o=>exact⟨d' F h.1,h.2⟩
variable {H':List HE}
def Hp.perm{H:List HE}(h:Hp w0 H w)(hp:H.Perm H'):Hp w0 H' w:=
 ⟨h.below,λx C=>h.own x (hp.mem_iff.2 C),(hp.filterMap _).nodup_iff.1 h.nd⟩
def Hp.me{H:List HE}(h:Hp w0 H w){i c sz:Nat}{A:Option Addr}{t:TypeId}{xs:List Value}(hi:H[i]?=some (.row A n c t sz xs)):n<=c:=by
 have h1:w.ownsRow w0.heap.size t sz (.slice A n c) n xs:=h.at_ hi;obtain⟨_,G⟩|⟨g,cap,cur,h2,_,_,P,_⟩:=h1.2
 .omega
 injection h2 with _ _ X
 omega
def Hp.join{V:World}{H d:List HE}(h:Hp w0 H w)(h2:Hp w d V):Hp w0 (d++H) V:=by
 have S:=h.ext h2.below;refine⟨S.below,λx C=> ?_, ?_⟩
 .obtain C|C:=O_.1 C
  .exact pn (h2.own x C) h.size
  exact S.own x C
 rw[l6,List.nodup_append];refine⟨h2.nd,h.nd,λa M b F E=> ?_⟩;subst E;obtain⟨x,C,n⟩:=Z8.1 M;obtain⟨y,hy,c⟩:=Z8.1 F;have G:=Ye (h2.own x C) n;have z:=Ye (h.own y hy) c;omega
def qV{o:Oper}{v:Value}{V:World}(s:o.guard=none)(T:o.dst=none) (H:(execOp (ev O) o).run P w=.ok (.value v) V)(k:WL ro P N ops Q rest O V):WL ro P N ops Q (o::rest) O w:=
 ⟨λhm a Y=>wpList_plain s λK y=>by
  unfold Oper.wp;rw[Y.eval,H];show K (a.put o.dst v) V;rw[T];exact y _ _ (k.um hm _ Y),
 λa Y n=>wpListIn_plain s λK y=>by
  refine⟨λ_ _=>trivial, ?_⟩;rw[Y.eval,Lo _ H (λ_ h=>by cases h)];show K (a.put o.dst v) V;rw[T];exact y _ _ (k.Qo _ Y n)⟩
def ir{l:List α}{i:Nat}{x:α}(h:l[i]?=some x):l.set i x=l:=by
 obtain⟨h1,rfl⟩:=x'.1 h;exact List.set_getElem_self h1
abbrev Hp.sz{w0 w:World}{H:List HE}(_:Hp w0 H w):Nat:=w.heap.size
def mJ{A:Option Addr}{c sz b:Nat}{f t:TypeId}{xs:List Value}{cs:Array Value}(h:HE.holds base W (.row A n c f sz xs))(G:W.heap[b]?=some (.cells cs t fz))(E:f≠t):(HE.row A n c f sz xs).id≠some b:=by
 intro j;obtain⟨h1,_⟩|⟨g,cap,cur,h1,_,z,_⟩:=h.2
 .injection h1 with N
  subst N
  cases j
 injection h1 with N
 subst N;obtain rfl:g=b:=i' j;rw[G] at z;injection z with z
 injection z with _ P
 exact E P.symm
variable {Z:World}
def JJ.Ls{H L:List HE}{t:TypeId}{b:Nat}(Q:JJ w0 H w W)(K:Hp w0 H w)(h2:w.heap.size<=b)(G:W.heap[b]?=some (.cells cs.toArray t (0,0)))(F:w.heap.size<=Z.heap.size)(a:Hp Z L W)(E:∀x∈L,x.id≠some b):Hp w0 (.blk b t cs (0,0)::(L++H)) W:=by
 have h1:=K.join (⟨Q.bl,λx C=>pn (a.own x C) F,a.nd⟩:Hp w L W);refine⟨h1.below,λx C=> ?_, ?_⟩
 .obtain rfl|C:=u'.1 C
  .exact⟨d' K.size h2,G,.inr (E' _)⟩
  exact h1.own x C
 rw[K7];show(b::(L++H).filterMap HE.id).Nodup;refine W7.2 ⟨λhm=> ?_,h1.nd⟩;obtain⟨y,hy,d⟩:=Z8.1 hm;obtain hy|hy:=O_.1 hy
 .exact E y hy d
 have:=(Ye (K.own y hy) d).2;omega
def afl(base:Nat)(t:TypeId)(n sz:Nat)(cs:List Value):VP:=λv W=>∃A c,v=.slice A n c/\W.ownsRow base t sz (.slice A n c) n cs
def ag1(base:Nat)(t1 t2:TypeId)(l s1 r s2:Nat)(n E:List Value):VP:=λv W=>∃A c B k,v=.agg #[.slice A l c,.slice B r k]/\W.ownsRow base t1 s1 (.slice A l c) l n/\W.ownsRow base t2 s2 (.slice B r k) r E
structure RX where
 A:Option Addr
 n:Nat
 c:Nat
 ts:List TR
def sk(k:Nat)(l:List TR):VP:=λv W=>∃g:RX,v=.slice g.A g.n g.c/\(g.n<=g.c/\g.ts.length=g.n/\MD k l g.ts/\Sl W g.A g.n 4 (ia TR.cells g.ts))
def sk.ext{l:List TR}(v:Value)(w V)(h:sk k l v w)(F:Below w.heap.size w V):sk k l v V:=let⟨g,h1,h2,G,z,P⟩:=h;⟨g,h1,h2,G,z,P.ext F⟩
def MD.mU{k1 k2:Nat}{P n f D L:List TR}(h1:MD k1 P f)(h2:MD k2 n D)(h:MD k (f++D) L)(g:k<=j):MD j (P++n) L:=
 ⟨h.au,λm=>by rw[h.co,lf,h1.co,h2.co,lf],by have a:=h.len;have b:=h1.len;have c:=h2.len;rw[y'] at a |-;omega,h.ok.mono g,λt S=>by
  obtain⟨s,K,e⟩:=h.mem t S;obtain K|K:=O_.1 K
  .obtain⟨u,hu,d⟩:=h1.mem s K;exact⟨u,M9 _ hu,d.trans e⟩
  obtain⟨u,hu,d⟩:=h2.mem s K;exact⟨u,u9 _ hu,d.trans e⟩⟩
def Um(k:Nat):∀(N:Nat)(A:Option Addr)(n c:Nat)(l:List TR)(w:World),n<=N->Gc w->Sl w A n 4 (ia TR.cells l)->n<=c->n<=1000000->k+n<=3999980->ug k l->
  Calls prog 210 #[.slice A n c,.func (.func 133) #[] #[],.func (.func 134) #[] #[]] w λr V=>(n<2/\r=.returned (.slice A n c)/\Below w.heap.size w V)\/(2<=n/\∃(L:List TR)(T:Option Addr)(c':Nat),MD (k+n) l L/\r=.returned (.slice T L.length c')/\Hp w [.row T L.length c' 72 4 (ia TR.cells L)] V)
 |0,A,n,c,l,w,hN,S,J,hc,hn,hk,y=>(by have I:=Hp.start w;obtain rfl:n=0:=Z';refine Ca (l:=[.slice A 0 c,.func (.func 133) #[] #[],.func (.func 134) #[] #[]]) func210 ?_;refine fa ?_;exact .inl ⟨Z',rfl,I.below⟩)
 |N+1,A,n,c,l,w,hN,S,J,hc,hn,hk,y=>by
  have I:=Hp.start w;have hl:=J.sa TR.len V';by_cases h2:n<2
  .refine Ca func210 ?_;refine fa ?_;exact .inl ⟨h2,rfl,I.below⟩
  obtain⟨h,u⟩:∃h,h=n/2:=⟨_,rfl⟩;have hh1:1<=h:=Z';have hh2:h+h<=n:=Z';have hh3:n<=h+h+1:=Z';have R:((n:Int))/2=(h:Int):=Z';have a:=J.front (m:=h) Z';rw[show(ia TR.cells l).take (h*4)=ia TR.cells (l.take h) from qh TR.len l h] at a;have z:=J.back (l:=h) Z' hc;rw[show(ia TR.cells l).drop (h*4)=ia TR.cells (l.drop h) from Yf TR.len l h] at z;have o1:ug k (l.take h):=λt x=>y t (x9 x);have o2:ug k (l.drop h):=λt x=>y t (J6 x);have rd:∀{T:Option Addr}{q c':Nat}{D:List TR}{r:Ending}{Z V:World},Sl Z T q 4 (ia TR.cells D)->q<=c'->ug k D->((q<2/\r=.returned (.slice T q c')/\Below Z.heap.size Z V)\/(2<=q/\∃(L:List TR)(B:Option Addr)(b:Nat),MD (k+q) D L/\r=.returned (.slice B L.length b)/\Hp Z [.row B L.length b 72 4 (ia TR.cells L)] V))->∃v,r=.returned v/\Below Z.heap.size Z V/\sk (k+q) D v V:=by
   rintro T q c' D r Z V hs o ho (⟨h1,rfl,F⟩|⟨h1,L,B,b,hm,rfl,G⟩)
   .have e:=hs.sa TR.len V';exact⟨_,rfl,F,⟨T,q,c',D⟩,rfl,o,e,(MD.self (Uz Z') ho).mono Z',hs.ext F⟩
   exact⟨_,rfl,G.below,⟨B,L.length,b,L⟩,rfl,G.me (i:=0) rfl,rfl,hm,G.ma (i:=0) rfl⟩
  have Y:=λZ (P:Gc Z) (F:Below w.heap.size w Z)=>Um k N A h c (l.take h) Z Z' P (a.ext F) Z' Z' Z' o1;have E:=λZ (P:Gc Z) (F:Below w.heap.size w Z)=>Um k N _ (n-h) (c-h) (l.drop h) Z Z' P (z.ext F) Z' Z' Z' o2;refine Ca func210 ?_;refine fa ?_;rw[R];refine ud 14 I ?_;refine Ma (i:=2) (λU Z hj hR=>Rh (h:=h) Qa.out pa.size (show U 15=Value.slice _ _ _ from hR.1) (show U 16=Value.int _ _ from hR.2.1) Z' Z') ?_;refine wb ?_;refine Ja (i:=5) (sk (k+h) (l.take h)) (sk.ext) ?_ ?_
  .intro U Z hj hR;exact ib rfl (La fi (qa (show U 17=Value.slice _ _ _ from hR.1) (qa (show U 18=Value.func _ _ _ from hR.2.1) (qa (show U 19=Value.func _ _ _ from hR.2.2.1) Wa)))) (Y Z (S.hp hj.hp) hj.hp.below) (λ_ _ R=>rd (a.ext hj.hp.below) Z' o1 R)
  refine wb ?_;refine Ma (i:=8) (λU Z hj hR=>Nf (l:=h) Qa.out pa.size (show U 21=Value.slice _ _ _ from hR.1) (show U 22=Value.int _ _ from hR.2.1) Z' Z' Z') ?_;refine wb ?_;refine Ja (i:=11) (sk (k+(n-h)) (l.drop h)) (sk.ext) ?_ ?_
  .intro U Z hj hR;exact ib rfl (La fi (qa (show U 23=Value.slice _ _ _ from hR.1) (qa (show U 24=Value.func _ _ _ from hR.2.1) (qa (show U 25=Value.func _ _ _ from hR.2.2.1) Wa)))) (E Z (S.hp hj.hp) hj.hp.below) (λ_ _ R=>rd (z.ext hj.hp.below) Z' o2 R)
  refine wb ?_;refine Fa ?_;intro f W Q hV;obtain⟨v28,v27,M,v25,v24,v23,v22,v21,v20,v19,v18,v17,v16,v15,_⟩:=hV;obtain⟨g,s,X⟩:sk (k+h) (l.take h) (f 5) W:=v20;obtain⟨C,p,H⟩:sk (k+(n-h)) (l.drop h) (f 11) W:=M;replace I:=Q.hp;refine lg ?_;obtain⟨p1,p2,K,p4⟩:=X;obtain⟨q1,q2,d,q4⟩:=H;have l1:=K.len;have l2:=d.len;rw[p'] at l1;rw[j_] at l2;refine te (Mr g.A g.n g.c g.ts C.A C.n C.c C.ts (k+(n-h)) _ (S.hp I) p4 q4 p1 q1 Z' Z' Z' K.au d.au (K.ok.mono Z') (d.ok.mono Z')) rfl ?_;rintro e_ w29 ⟨L,T,c',hm,rfl,G⟩;refine⟨_,rfl, ?_⟩;replace I:=I.join G;refine fa ?_;refine .inr ⟨Z',L,T,c', ?_,rfl,I⟩;have:=K.mU d hm (j:=k+n) Z';rwa[q_] at this
def TM{b:Nat}{t:TypeId}{sz c p g:Nat}{xs:List Value}(h:w.ownsRow b t sz (.slice (some ⟨g,0,none⟩) n c) n xs)(hp:p<=n):w.ownsRow b t sz (.slice (some ⟨g,0,none⟩) p c) p (xs.take (p*sz)):=by
 have j:p*sz<=n*sz:=c_ _ hp;have Q:(xs.take (p*sz)).length=p*sz:=by rw[p',h.1];omega
 refine⟨Q, ?_⟩;obtain⟨h1,_⟩|⟨L,cap,cur,A,s,F,q,l,a,d⟩:=h.2
 .cases h1
 injection A with R _ X
 injection R with R
 injection R with R
 subst R;subst X;refine .inr ⟨g,c,cur,rfl,s,F,Z',l,a, ?_⟩;rw[<-d,List.take_take,P9 j]
variable {c' o ty:Nat}
def To(I:Hp w0 H w){t e:TypeId}{s x:Operand}{i c p sz g:Nat}{a:Addr}{xs news:List Value}(hi:H[i]?=some (.row (some ⟨g,0,none⟩) n c e sz xs))(K:ev O s=.slice (some ⟨g,0,none⟩) p c)(C:ev O x=.slice (some a) m c') (hp:p<=n)(f:p+m<=c)(l:news.length=m*sz)(o:∀j u,news[j]?=some u->w.cell? (a.add j)=some u)(h1:(news.all Value.oneCell')=true)(S:P.underlying t=some (.slice e))(D:ed P e=some (sz,ag,by',zc))(L:d<N) (k:∀V,Hp w0 (H.set i (.row (some ⟨g,0,none⟩) (p+m) c e sz (xs.take (p*sz)++news))) V->WL ro P N ops Q rest (jd O d (.slice (some ⟨g,0,none⟩) (p+m) c)) V):
  WL ro P N ops Q (⟨some d,.call ⟨.builtin .append, #[s,x], #[t,t]⟩,ty,pos,af,none⟩::rest) O w:=by
 obtain⟨inf,z,dd,b,T,y,M,G,r,_⟩:=Je D;obtain⟨V,q,W,h⟩:=run_append_fits (P:=P) w w0.heap.size t ty e inf sz S b M g p c _ (TM (I.at_ hi) hp) a m c' news l o (by simpa using h1) f;refine ub rfl rfl L (V:=V) (v:=.slice (some ⟨g,0,none⟩) (p+m) c) ?_ (k V (I.grown hi h (.inl rfl) W));simp only[execOp,resolve,invoke,builtin,Sem.run_bind,Sem.run_pure,Result.andThen_ok,List.map_toArray,I_,R9,K,C,q]
def kl(I:Hp w0 H w){t e:TypeId}{x:Operand}{i p c sz g:Nat}{xs:List Value}(hi:H[i]?=some (.row (some ⟨g,0,none⟩) p c e sz xs))(G:ev O x=.slice (some ⟨g,o,none⟩) m c')(ho:p*sz<=o)(C:o+m*sz<=c*sz)(hm:0<m) (S:P.underlying t=some (.slice e))(D:ed P e=some (sz,ag,by',zc))(u:zc.length=sz)(h1:(zc.all Value.oneCell')=true) (k:∀V,Hp w0 H V->WL ro P N ops Q rest O V):WL ro P N ops Q (⟨none,.call ⟨.builtin .clear, #[x], #[t]⟩,ty,pos,af,none⟩::rest) O w:=by
 obtain⟨z,J,s⟩:=Md (w:=w) D;obtain⟨hlen,h2⟩:=I.at_ hi;obtain⟨h2,_⟩|⟨L,cap,cur,A,B,F,r,n,f,d⟩:=h2
 .cases h2
 injection A with R K a
 injection R with R
 injection R with R
 subst R;subst a;have h:cur.size=cur.toList.length:=by simp
 have M:(Bg m zc).length=m*sz:=by rw[Ni,u]
 have X:∀v∈Bg m zc,v.oneCell'=true:=λv A=>(by obtain⟨j,hj⟩:=C_.1 A;have W:=(x'.1 hj).1;rw[Ni] at W;rw[gD m zc j W] at hj;exact L_.1 h1 v (N' hj));obtain⟨V,E,Y,T,hs⟩:=Qg (P:=P) (b:=g) (t:=e) (fz:=(0,0)) o (Bg m zc) 0 cur.toList w (by simpa using F) (.inr (E' _)) (by rw[<-h,M];omega) X;have l:=ir hi;refine qV rfl rfl (V:=V) (v:=.tuple #[]) ?_ (k V (l ▸ I.grown hi T (.inl rfl) ⟨hlen,.inr ⟨g,c,(db cur.toList (o+0) (Bg m zc)).toArray,rfl,B,by simpa using Y,r,n, ?_, ?_⟩⟩))
 .simp only[execOp,resolve,invoke,G,List.map_toArray,I_,R9];have y:Builtin.zeroCells z.cells m=(Bg m zc).toArray:=(by rw[Builtin.zeroCells,s,z7];exact qx m zc);obtain⟨q,rfl⟩:∃q,m=q+1:=⟨m-1,Z'⟩;simp[builtin,Builtin.clear_,run_underlying S,J,y,E]
 .simp only[z7];rw[Qe (by rw[<-h,M];omega),<-h,f]
 simp only[db];rw[H_,List.take_append_of_le_length (by rw[p',<-h];omega),List.take_take,P9 Z'];exact d
variable {ty:TypeId}
def uW{t e u:TypeId}{x y:Operand}{A:Option Addr}{c q:Nat}(S:P.underlying t=some (.slice e))(C:ev O x=.slice A n c)(hy:ev O y=.slice none q c')(L:d<N) (p:WL ro P N ops Q rest (jd O d (.bool A.isNone)) w):WL ro P N ops Q (⟨some d,.binOp .eql t x y u,ty,pos,af,none⟩::rest) O w:=
 ub rfl rfl L (by
  have h1:=Go.Lib.run_eql_slice_nil (P:=P) w t e A n c q c' S;simp only[execOp,C,hy];simp[eqGuard,h1]) p
theorem Zv(A:Option Addr)(n c:Nat)(l:List TR)(g:FuncId)(cap:List Value)(p:TR->Bool)(w:World)(J:Sl w A n 4 (ia TR.cells l))(B:n<=1000000)[la prog g] (s:∀(z:TR)(Z:World),z∈l->Below w.heap.size w Z->Calls prog g (.agg #[.string z.m,.bool z.c.neg,.string z.c.Va,.int .i64 z.c.e]::cap).toArray Z λr V=>r=.returned (.bool (p z))/\Below Z.heap.size Z V):Calls prog 262 #[.slice A n c,.func (.func g) #[] cap.toArray] w λr V=>∃v,r=.returned (.int .i64 v)/\((l.any p=false/\v= -1)\/∃(i:Nat)(z:TR),i<n/\v=i/\(l.take i).any p=false/\l[i]?=some z/\p z=true)/\Below w.heap.size w V:=by
 have I:=Hp.start w;have f:=J.sa TR.len V';refine Ca func262 ?_;refine fa ?_;refine bf 8 (λv V=>∃i:Nat,i<=n/\v=.int .i64 i/\(l.take i).any p=false/\Hp w [] V) (λv _=>n-(intOf v).toNat) ?_ ?_
 .exact⟨0,J' _,rfl,rfl,I⟩
 clear I;rintro ρ' v V ⟨i,hi,rfl,X,I⟩;by_cases D:i<n
 .obtain⟨z,o⟩:=aa (l:=l) (k:=i) Z';obtain⟨h,rfl,H⟩:=J.at_ Z';have E:=λZ=>s z Z (N' o)
  cases a:p z with
  |true=>
   refine bZ ?_;(unhygienic intros)
   refine Xq ?_;intro I;refine fa ?_;exact⟨_,rfl,.inr ⟨i,z,D,rfl,X,o,a⟩,I.below⟩
  |false=>
   refine bZ ?_;exact vK
 rw[w' Z'] at X;refine fa ?_;exact⟨_,rfl,.inl ⟨X,rfl⟩,I.below⟩
def CJ(A)(n c:Nat)(l)(g:FuncId)(cap)(p:TR->Bool)(w)(J:Sl w A n 4 (ia TR.cells l))(B:n<=1000000)[la prog g] (s:∀(z:TR)(Z:World),z∈l->Below w.heap.size w Z->Calls prog g (.agg #[.string z.m,.bool z.c.neg,.string z.c.Va,.int .i64 z.c.e]::cap).toArray Z λr V=>r=.returned (.bool (p z))/\Below Z.heap.size Z V):Zc 204 #[.slice A n c,.func (.func g) #[] cap.toArray] w (.bool (l.any p)):=by
 have I:=Hp.start w;refine Ca func204 ?_;refine fa ?_;refine Tc (Zv A n c l g cap p _ (J.ext I.below) B s) la.out rfl V' ?_;rintro H f ⟨d,rfl,a,M⟩;refine Xq ?_;intro I;obtain⟨b,rfl⟩|⟨i,z,hi,rfl,S,o,hp⟩:=a
 .rw[b];refine fa ?_;exact⟨rfl,I.below⟩
 rw[show l.any p=true from W9.2 ⟨z,N' o,hp⟩];refine fa ?_;exact⟨rfl,I.below⟩
def Yl(A)(n c:Nat)(l)(w)(J:Sl w A n 4 (ia TR.cells l))(B:n<=1000000):Calls prog 206 #[.slice A n c] w λr V=>∃T c',r=.returned (.slice T n c')/\V.ownsRow w.heap.size 72 4 (.slice T n c') n (ia TR.cells l)/\Below w.heap.size w V:=by
 have I:=Hp.start w;have o:=Ia TR.one l;obtain _|b:=A
 .have y:n=0:=(by exact abj);subst y;have Q:l=[]:=Q8 (by have:=J.sa TR.len V';omega);subst Q;refine Ca (l:=[.slice none 0 c]) func206 ?_;exact aa6
 refine Ca (l:=[.slice (some b) n c]) func206 ?_;refine fa ?_;refine JF ?_;intro R v I;refine mL ?_;refine mb I (i:=0) rfl rfl rfl (J.ext I.below) Qa.out pa.out rfl V' ?one7 Z' Z' V' ?kk7
 case one7=>first|rfl|assumption|exact Da _|exact oneCells_u8s _
 intro d H e I;exact sQ
def zG{l:List α}{i:Nat}(h:i<j)(x:α):(l.set i x).drop j=l.drop j:=by
 refine g_ λk=> ?_;rw[c9,c9,L9,Q' Z']
def Hy{l:List α}{i:Nat}(h:i<l.length)(x:α):(l.set i x).take (i+1)=l.take i++[x]:=by
 rw[ja (show(l.set i x)[i]?=some x by rw[L9,P' rfl,P' h]),List.take_set_of_le (E' _)]
variable {G:List HE}
def uH(A)(n c:Nat)(l)(g:FuncId)(p:TR->Bool)(w)(I:Hp w0 (.row A n c 72 4 (ia TR.cells l)::G) w)(Q:l.length=n)(hn:n<=1000000)[la prog g] (E:∀(z:TR)(Z:World),z∈l->Calls prog g (.agg #[.string z.m,.bool z.c.neg,.string z.c.Va,.int .i64 z.c.e]::[]).toArray Z λr V=>r=.returned (.bool (p z))/\Below Z.heap.size Z V):Calls prog 209 #[.slice A n c,.func (.func g) #[] #[]] w λr V=>r=.returned (.slice A (l.filter λz=> !p z).length c)/\Hp w0 (.row A (l.filter λz=> !p z).length c 72 4 (ia TR.cells (l.filter λz=> !p z))::G) V:=by
 have hc:=I.me (i:=0) rfl;have s:=I.ma (i:=0) rfl;refine Ca func209 ?_;refine fa ?_;refine Tc (Zv A n c l g [] p _ s hn (λz Z a _=>E z Z a)) la.out rfl V' ?_;rintro H w10 ⟨v_,rfl,t,M⟩;refine Xq ?_;intro I;obtain⟨Y,rfl⟩|⟨i0,z0,hi0,rfl,W,u,q⟩:=t
 .have hf:(l.filter λz=> !p z)=l:=y6.2 λz a=>(by have:=E9.1 Y z a;simpa using this);rw[hf,Q];refine fa ?_;exact⟨rfl,I⟩
 have S:((l.take (i0+1)).filter λz=> !p z)=l.take i0:=(by rw[ja u,P7,c6 (by rw[q];decide),List.filter_nil,M_];exact y6.2 λz a=>(by have:=E9.1 W z a;simpa using this));obtain⟨R,rfl⟩:=I.kb (i:=0) rfl Z';refine fa ?_;refine Fi 5 6 (λN v6 V=>∃(i j:Nat)(X:List TR),i<j/\j<=n/\N=.int .i64 i/\v6=.int .i64 j/\X.length=n/\i=((l.take j).filter λz=> !p z).length/\X.take i=((l.take j).filter λz=> !p z)/\X.drop j=l.drop j/\Hp w0 (.row (some ⟨R,0,none⟩) n c 72 4 (ia TR.cells X)::G) V) (λ_ v _=>n-(intOf v).toNat) ?_ ?_
 .exact⟨i0,i0+1,l,Z',Z',rfl,rfl,Q,by rw[S,p'];omega,S.symm,rfl,I⟩
 clear I;rintro ρ' N v6 V ⟨i,j,X,hij,hj,rfl,rfl,B,hi,d,F,I⟩;by_cases hlt:j<n
 .obtain⟨z,a⟩:=aa (l:=l) (k:=j) Z';have b:X[j]?=some z:=by
   have h1:(X.drop j)[0]?=(l.drop j)[0]?:=by rw[F]
   rw[c9,c9,I9] at h1;rw[h1,a]
  have J:=λZ=>E z Z (N' a);have L:X.drop (j+1)=l.drop (j+1):=by rw[<-F7,<-F7,F]
  have hrl:=Wd TR.len X;refine fa ?_;refine sv (Ka (vs:=[_,_,_,_]) pa.out rfl (I.Wc (f:=TR.cells) (x:=z) (l:=X) (i:=0) rfl TR.len V' b) rfl) ?_;refine yb ?_;intro b7 w7 I ws I
  cases T:p z with
  |true=>
   rw[T] at J;have K:((l.take (j+1)).filter λz=> !p z)=((l.take j).filter λz=> !p z):=by rw[ja a,P7,c6 (by rw[T];decide),List.filter_nil,M_]
   refine Hh (J _) la.out rfl rfl V' ?_;rintro H P ⟨rfl,M⟩;refine Xq ?_;intro I;refine fa ?_;replace I:=I.sub (G' _ (O' _ (P_ _)));refine⟨⟨i,j+1,X,Z',Z',rfl,rfl,B,by rw[K];exact hi,by rw[K];exact d,L,I⟩,by show n-(j+1)<n-j;omega, ?_⟩;exact Wb
  |false=>
   rw[T] at J;have K:((l.take (j+1)).filter λz=> !p z)=((l.take j).filter λz=> !p z)++[z]:=by rw[ja a,P7,List.filter_cons_of_pos (by rw[T];decide),List.filter_nil]
   refine Hh (J _) la.out rfl rfl V' ?_;rintro H P ⟨rfl,M⟩;refine Xq ?_;intro I;refine fa ?_;refine Xa I (i:=1) (vs:=[_,_,_,_]) rfl rfl (Hd rfl) rfl pa.out rfl Z' rfl ?_;refine Nr ?_;intro ws I;rw[show db (ia TR.cells X) (i*4) [.string z.m,.bool z.c.neg,.string z.c.Va,.int .i64 z.c.e]=ia TR.cells (X.set i z) from Jd TR.len Z'] at I;refine fa ?_;replace I:=I.sub (G' _ (O' _ (P_ _)));refine⟨⟨i+1,j+1,X.set i z,Z',Z',rfl,rfl,by rw[d_];exact B,by rw[K,y',<-hi];rfl,by rw[K,Hy Z',d],by rw[zG Z'];exact L,I⟩,by show n-(j+1)<n-j;omega, ?_⟩;exact Wb
 obtain rfl:j=n:=Z';rw[show l.take j=l from w' Z'] at hi d;have D:=I.me (i:=0) rfl;have y:(if c=i then some (⟨R,0,none⟩:Addr) else(some (⟨R,0,none⟩:Addr)).map (·.add (i*4)))=some ⟨R,i*4,none⟩:=(by rw[Q' Z'];show some ((⟨R,0,none⟩:Addr).add (i*4))=_;rw[Zd,U_]);have C:(ia TR.cells X).take (i*4)=ia TR.cells (l.filter λz=> !p z):=by rw[qh TR.len,d]
 refine fa ?_;refine ub rfl rfl V' (xf (l:=i) (h:=j) Qa.out pa.size rfl ⟨_,_,rfl,rfl⟩ rfl Z' Z') ?_;rw[y];replace I:=I.CB (k:=i) Z';rw[C] at I;refine kl I (i:=0) (o:=i*4) (m:=j-i) rfl rfl Z' Z' Z' Qa.out pa.out rfl rfl ?_;intro w38 I;refine fa ?_;refine sv (Rh (h:=i) Qa.out pa.size rfl rfl Z' Z') ?_;refine fa ?_;rw[<-hi];exact⟨rfl,I⟩
variable {ts:List TR}
structure PX where
 v:Int
 A:Option Addr
 n:Nat
 c:Nat
 ts:List TR
abbrev PX.V(p:PX):Value:=.agg #[.int .i64 p.v,.slice p.A p.n p.c]
def PX.row(g:PX):HE:=.row g.A g.n g.c 72 4 (ia TR.cells g.ts)
def PX.at_(g:PX)(w:World):Prop:=Sl w g.A g.n 4 (ia TR.cells g.ts)
def PX.at_.ext{g:PX}{V:World}(h:g.at_ w)(F:Below w.heap.size w V):g.at_ V:=Sl.ext h F
def PX.at_.ln{g:PX}(h:g.at_ w):g.ts.length=g.n:=Sl.sa h TR.len V'
variable {E:Int}
structure Gf(E v:Int)(ts:List TR)(g:PX):Prop where
 v:g.v=if E=0 then v else 0
 ts:g.ts=if E=0 then ts else[]
def PX.nil:PX:=⟨0,none,0,0,[]⟩
def Gf.err{v:Int}(h:E≠0):Gf E v ts PX.nil:=⟨by rw[Q' h];rfl,by rw[Q' h];rfl⟩
def Hp.FI{H:List HE}(h:Hp w0 H w):Hp w0 (PX.nil.row::H) w:=h.rb 72 4
def qy(A)(n c:Nat)(l)(k:Nat)(w)(S:Gc w)(I:Hp w0 (.row A n c 72 4 (ia TR.cells l)::G) w)(Q:l.length=n)(B:n<=1000000)(u:k+n<=3999980)(W:ug k l):Calls prog 210 #[.slice A n c,.func (.func 133) #[] #[],.func (.func 134) #[] #[]] w λr V=>∃(L:List TR)(T:Option Addr)(c':Nat),MD (k+n) l L/\r=.returned (.slice T L.length c')/\Hp w0 (.row T L.length c' 72 4 (ia TR.cells L)::G) V:=by
 refine(Um k n A n c l w (E' _) S (I.ma (i:=0) rfl) (I.me (i:=0) rfl) B u W).mono λr V h=> ?_;obtain⟨h1,rfl,F⟩|⟨h1,L,T,c',hm,rfl,a⟩:=h
 .exact⟨l,A,c,(MD.self (Uz Z') W).mono Z',by rw[Q],by rw[Q];exact I.ext F⟩
 refine⟨L,T,c',hm,rfl, ?_⟩;exact(I.join a).sub (O' _ (G' _ (P_ _)))
def zeT(t:TR):Bool:=decide (t.c.da=0)
def jJ(l:List TR):(l.filter λz=> !zeT z)=l.filter Ap:=rfl
def eB(z:TR)(w):Zc 211 #[.agg #[.string z.m,.bool z.c.neg,.string z.c.Va,.int .i64 z.c.e]] w (.bool (zeT z)):=by
 have I:=Hp.start w;refine Ca func211 ?_;refine Bb ?_;intro G Z I;refine cd I (jc z.c _) ?_;intro v I;have o:z.c.i.sign=0↔z.c.da=0:=(by exact aas);unfold zeT;by_cases J:z.c.da=0
 .have K:=o.2 J;rw[m' J];refine fa ?_;exact⟨rfl,I.below⟩
 have K:¬z.c.i.sign=0:=λh=>J (o.1 h);rw[k' J];refine fa ?_;exact⟨rfl,I.below⟩
def Bf(l:List TR):Int:=if 4096<(oa l).length then 3 else 0
def ME{xs ys:List Value}{v:Value}(h:xs[o]?=some v):db xs o (v::ys)=db xs (o+1) ys:=by
 unfold db;rw[ja h,T_,show o+(ys.length+1)=o+1+ys.length by omega];simp
def nfT(t:TR):TR:=⟨t.m,nR t.c.da⟩
def nA{X:List TR}{i:Nat}{z:TR}(h:X[i]?=some z)(y:NR):db (ia TR.cells X) (i*4+1) [.bool y.neg,.string y.Va,.int .i64 y.e]=ia TR.cells (X.set i ⟨z.m,y⟩):=by
 have J:(ia TR.cells X)[i*4]?=some (.string z.m):=by
  have h1:=Yq TR.len h;have h2:(((ia TR.cells X).drop (i*4)).take 4)[0]?=some (.string z.m):=by rw[h1];rfl
  rwa[List.getElem?_take_of_lt V',c9,I9] at h2
 rw[<-ME J];exact Jd TR.len (y:=⟨z.m,y⟩) (x'.1 h).1
def Xj(v:Int)(A)(n c:Nat)(l)(k:Nat)(w)(S:Gc w0)(I:Hp w0 (.row A n c 72 4 (ia TR.cells l)::G) w)(Q:l.length=n)(K:n<=1000000)(F:k+n<=3999980)(W:ug k l):Calls prog 135 #[.int .i64 v,.slice A n c] w λr V=>∃g:PX,Gf (Bf l) v (oa l) g/\r=.returned (.tuple #[g.V,.int .i64 (Bf l)])/\Hp w0 (g.row::G) V:=by
 refine Ca func135 ?_;refine Bb ?_;intro D w4 I;refine abe ?_;intro I;refine Wi (qy A n c l k _ (S.hp I) I Q K F W) ?_;rintro H w8 ⟨L,j,p,b,rfl,I⟩;refine⟨_,rfl, ?_⟩;have hlen:=b.len;refine te (uH j L.length p L _ zeT _ I rfl Z' (λz Z _=>eB z Z)) rfl ?_;rintro H w9 ⟨rfl,I⟩;refine⟨_,rfl, ?_⟩;rw[jJ] at I |-;have u:(L.filter Ap).length<=L.length:=E6 _ _;have E:(oa l).length=(L.filter Ap).length:=by rw[<-b.oa,D']
 have s:=b.oa;have y:ug (k+n) (L.filter Ap):=λt P=>b.ok t (D9.1 P).1;generalize hM:L.filter Ap=M at*;by_cases Y:4096<M.length
 .rw[show Bf l=3 by unfold Bf;rw[P' Z']];refine Bb ?_;intro ws I;replace I:=I.sub (G' _ (O' _ (P_ _)));refine Yt ?_;exact⟨PX.nil,Gf.err V',rfl,(I.sub (r_ _ _)).FI⟩
 rw[show Bf l=0 by unfold Bf;rw[Q' Z']];refine fa ?_;refine bf 16 (λv V=>∃(i:Nat)(X:List TR),i<=M.length/\v=.int .i64 i/\X.length=M.length/\X=(M.take i).map nfT++M.drop i/\Hp w0 (.row j M.length p 72 4 (ia TR.cells X)::.blk D 24 [.int .i64 0,.slice none 0 0] (0,0)::G) V) (λv _=>M.length-(intOf v).toNat) ?_ ?_
 .exact⟨0,M,J' _,rfl,rfl,rfl,I⟩
 clear I;rintro ρ' v V ⟨i,X,hi,rfl,B,a,I⟩;by_cases J:i<M.length
 .obtain⟨z,o⟩:=aa (l:=M) (k:=i) Z';have e:X[i]?=some z:=(by rw[a,S9 (by rw[D',p'];omega),D',p',P9 Z',u_,c9];exact o);have C:=y z (N' o);have h:X.set i ⟨z.m,nR z.c.da⟩=(M.take (i+1)).map nfT++M.drop (i+1):=(by rw[ja o,G_,a,F8 _ _ (by rw[D',p'];omega),D',p',P9 Z',u_,H_];congr 1;obtain⟨h1,h2⟩:=x'.1 o;rw[K8 h1,h2];rfl);have N:=Wd TR.len X;obtain⟨R,rfl⟩:=I.kb (i:=0) rfl Z';refine fa ?_;refine sv (Ka (vs:=[_,_,_]) pa.out rfl ((I.Wc (f:=TR.cells) (x:=z) (l:=X) (i:=0) rfl TR.len V' e).drop 1) rfl) ?_;refine qd I (Yc z.c _ (S.hp I) (by have:=C.1.1;omega) (by have:=C.1.2.1;omega) (by have:=C.1.2.2;omega)) rfl ?_;intro T I;refine fa ?_;refine adu ?_;intro ws I;rw[nA e,h] at I;refine fa ?_;refine⟨⟨i+1,_,Z',rfl, ?_,rfl,I⟩,by show M.length-(i+1)<M.length-i;omega, ?_⟩
  .rw[<-h,d_,B]
  exact Wb
 obtain rfl:i=M.length:=Z';rw[w' (E' _),P8 (E' _),M_] at a;have q:X=oa l:=by rw[a];exact s
 rw[q] at I;refine LO ?_;intro ws I;exact⟨⟨v,j,M.length,p,oa l⟩,⟨rfl,rfl⟩,rfl,I.sub (O' _ (G' _ (P_ _)))⟩
def Ho(s:ByteArray)(n:Int)(w)(K:s.size<=9223372036854775807):Zc 151 #[.string s,.int .i64 n] w (.bool (ke s.data.toList && decide ((s.size:Int)=n))):=by
 refine Ca func151 ?_;refine fa ?_;refine bf 8 (λv V=>∃k:Nat,k<=s.size/\v=.int .i64 k/\ke (s.data.toList.take k)=true/\V=w) (λv _=>s.size-(intOf v).toNat) ?_ ?_
 .exact⟨0,J' _,rfl,rfl,rfl⟩
 rintro ρ' v V ⟨k,u,rfl,hm,rfl⟩;by_cases D:k<s.size
 .refine aae ?_;intro c E F B;refine fa ?_;rw[eE E B];exact⟨rfl,Below.refl _ _⟩
 refine sr ?_;refine Wg (na (xa (cF ?_)));refine xZ ?_;intro hm;rw[hm];exact⟨rfl,Below.refl _ _⟩
def yr(s:ByteArray)(w)(K:s.size<=9223372036854775807):Zc 151 #[.string s,.int .i64 s.size] w (.bool (ke s.data.toList)):=by
 have h:=Ho s s.size w K;simpa using h
def qJ(s:ByteArray)(n:Int)(w:World)(K:s.size<=9223372036854775807):Zc 159 #[.string s,.int .i64 n] w (.bool (ke s.data.toList && decide ((s.size:Int)=n))):=by
 refine Ca func159 ?_;refine fa ?_;refine bf 5 (λv V=>∃k:Nat,k<=s.size/\v=.int .i64 k/\ke (s.data.toList.take k)=true/\V=w) (λv _=>s.size-(intOf v).toNat) ?_ ?_
 .exact⟨0,J' _,rfl,rfl,rfl⟩
 rintro ρ' v V ⟨k,u,rfl,hm,rfl⟩;by_cases D:k<s.size
 .refine aae ?_;intro c E F B;refine fa ?_;rw[eE E B];exact⟨rfl,Below.refl _ _⟩
 refine xa (sr (mI (mS ?_)));refine sv (Es Qa.out rfl) ?_;refine Wg (na (cF ?_));refine xZ ?_;intro hm;rw[hm];exact⟨rfl,Below.refl _ _⟩
def HP(A)(n c:Nat)(xs)(w)(p:Sl w A n 1 (Pa xs))(B:n<=100000):Zc 331 #[.slice A n c] w (.tuple #[.string (str (YU xs)),.int .i64 (sX xs)]):=by
 have hlen:xs.length=n:=by have:=p.1;rw[Cb] at this;omega
 have I:=Hp.start w;refine Ca func331 ?_;refine fa ?_;refine Fi 4 9 (λb i V=>∃(k c':Nat)(T:Option Addr),k<=n/\i=.int .i64 k/\b=.slice T k c'/\(xs.take k).all zd=true/\Hp w [.row T k c' 5 1 (bj ((xs.take k).map PA))] V) (λ_ v _=>n-(intOf v).toNat) ?_ ?_
 .exact⟨0,0,none,J' _,rfl,rfl,rfl,I.rb _ _⟩
 clear I;rintro ρ' b i V ⟨k,c',T,u,rfl,rfl,X,I⟩;by_cases D:k<n
 .obtain⟨x,C⟩:=aa (l:=xs) (k:=k) Z';obtain⟨a,rfl,H⟩:=(p.ext I.below).at_ Z';by_cases J:x<0
  .refine T0 ?_;intro N L;exact⟨rfl,I.below⟩
  by_cases h1:127<x
  .refine T0 ?_;intro N L;exact⟨rfl,I.below⟩
  have y:zd x=true:=by simp[zd];omega
  refine fa ?_;refine sv (Ba pa.out rfl (ND H (Ic C) rfl)) ?_;refine fa ?_;refine IA ?_;intro e d I;refine mb I (i:=1) rfl rfl rfl (I.ma (i:=0) rfl) Qa.out pa.out rfl V' rfl Z' Z' V' ?_;intro h g q I;refine XO ?_;intro I;refine⟨⟨k+1,g,h,Z',rfl,rfl,xU C X y, ?_⟩,by show n-(k+1)<n-k;omega, ?_⟩
  .rw[AW Z' Z',MS C y] at I;exact I
  exact Wb
 obtain rfl:k=n:=Z';rw[w' Z'] at X I;obtain⟨N,L⟩:=Uu X;refine fa ?_;refine sv (Li Qa.out Qa.out Qa.out rfl (I.ma (i:=0) rfl)) ?_;refine fa ?_;rw[N,L];exact⟨rfl,I.below⟩
def yi(s:ByteArray)(w)(K:s.size<=100000):Calls prog 166 #[.string s] w λe V=>∃A c,e=.returned (.slice A (Si s.data.toList).length c)/\V.ownsRow w.heap.size 3 1 (.slice A (Si s.data.toList).length c) (Si s.data.toList).length (Pa (Si s.data.toList))/\Below w.heap.size w V:=by
 have I:=Hp.start w;have M:=Hc s
 cases hm:ke s.data.toList with
 |false=>
  refine Ca func166 ?_;refine fa ?_;refine qd I (yr s _ Z') rfl ?_;intro z I;rw[hm];refine fa ?_;rw[aU hm];exact⟨none,0,rfl,World.ownsRow_nil _ _ _ _,I.below⟩
 |true=>
  refine Ca func166 ?_;refine fa ?_;refine qd I (yr s _ Z') rfl ?_;intro z I;rw[hm];refine fa ?_;refine Lr I Qa.out rfl V' ?_;intro b W I;skip;refine fa ?_;refine bf 3 (λv V=>∃(k c':Nat)(T:Option Addr),k<=s.size/\v=.slice T k c'/\Hp w [.row T k c' 3 1 (Pa (ints (s.data.toList.take k))),.it b s k] V) (λv _=>s.size-lenOf v) ?_ ?_
  .exact⟨0,0,none,J' _,rfl,I.rb _ _⟩
  clear I;rintro ρ' v V ⟨k,c',T,u,rfl,I⟩;by_cases D:k<s.size
  .obtain⟨c,E⟩:=aa (l:=s.data.toList) (k:=k) Z';have B:=Nn hm E;refine sr ?_;refine cq I (i:=1) rfl rfl E B V' ?_;intro d I;simp only[j',t_] at I;skip;refine fa ?_;refine IA ?_;intro a J I;refine mb I (i:=1) rfl rfl rfl (I.ma (i:=0) rfl) Qa.out pa.out rfl V' rfl Z' Z' V' ?_;intro h o g I;refine XO ?_;intro I;rw[uw E] at I;refine⟨⟨k+1,o,h,Z',rfl,I⟩,by show s.size-(k+1)<s.size-k;omega, ?_⟩;exact Wb
  refine fa ?_;refine Oq I (i:=1) rfl rfl D V' ?_;skip;refine fa ?_;obtain rfl:k=s.size:=Z';rw[w' Z'] at I;have h1:=I.at_ (i:=0) rfl;rw[Ek hm,Oc,<-M];exact⟨T,c',rfl,h1,I.below⟩
def Ev(a b:ByteArray)(g:FuncId)(f:Int->Int->Int)(w:World)(T:a.size<=100000)(F:b.size<=100000)[la prog g] (X:∀(x y:Int)(w:World),0<=x->x<=127->0<=y->y<=127->Zc g #[.int .i64 x,.int .i64 y] w (.int .i64 (f x y))):Calls prog 329 #[.string a,.string b,.func (.func g) #[] #[]] w λe V=>
   (Qi f a.data.toList b.data.toList=none/\e=.returned (.tuple #[.slice none 0 0,.bool false])/\Below w.heap.size w V)\/
   ∃l,Qi f a.data.toList b.data.toList=some l/\l.length=b.size/\∃A c,e=.returned (.tuple #[.slice A l.length c,.bool true])/\V.ownsRow w.heap.size 3 1 (.slice A l.length c) l.length (Pa l)/\Below w.heap.size w V:=by
 have I:=Hp.start w;have N:=Hc a;have o:=Hc b
 cases j:ke a.data.toList with
 |false=>
  refine Ca func329 ?_;refine fa ?_;refine Tc (yi b _ F) la.out rfl V' ?_;rintro H W ⟨z,L,rfl,t,M⟩;refine iq ?_;intro I;refine fa ?_;refine cdC I (yr a _ Z') rfl ?_;intro d I;rw[j];refine fa ?_;exact .inl ⟨by simp[Qi,j],rfl,I.below⟩
 |true=>
  cases n:(ke b.data.toList && decide ((b.size:Int)=a.size)) with
  |false=>
   refine Ca func329 ?_;refine fa ?_;refine Tc (yi b _ F) la.out rfl V' ?_;rintro H W ⟨z,L,rfl,t,M⟩;refine iq ?_;intro I;refine oZ ?_;intro d I E I;have:(ke b.data.toList && decide ((b.data.toList.length:Int)=a.data.toList.length))=false:=by rw[<-N,<-o];exact n
   exact .inl ⟨by simp only[Qi,j,this];rfl,rfl,I.below⟩
  |true=>
   have p:=n;simp only[l',h'] at p;have Y:Qi f a.data.toList b.data.toList=some (List.zipWith f (ints a.data.toList) (ints b.data.toList)):=by
    have:(ke b.data.toList && decide ((b.data.toList.length:Int)=a.data.toList.length))=true:=by rw[<-N,<-o];exact n
    simp only[Qi,j,this];rfl
   have G:=Ek j;have J:=Ek p.1;have m:(ints a.data.toList).length=(ints b.data.toList).length:=by rw[Oc,Oc];omega
   have hlb:=Oc b.data.toList;have hla:=Oc a.data.toList;have R:=yi a;have P:=yi b;rw[G] at R;rw[J] at P;generalize hia:ints a.data.toList=K at*;generalize hib:ints b.data.toList=B at*;have S:∀(k:Nat)(x:Int),K[k]?=some x->0<=x/\x<=127:=λk x h=>fL (l:=a.data.toList) (by rw[G];exact h);have s:∀(k:Nat)(x:Int),B[k]?=some x->0<=x/\x<=127:=λk x h=>fL (l:=b.data.toList) (by rw[J];exact h);clear G J;refine Ca func329 ?_;refine fa ?_;refine Tc (P _ F) la.out rfl V' ?_;rintro H W ⟨z,L,rfl,t,M⟩;refine iq ?_;intro I;refine oZ ?_;intro d I E I;refine Tc (R _ T) la.out rfl V' ?_;rintro H w26 ⟨r,u,rfl,t,M⟩;refine iq ?_;intro I;refine fa ?_;refine bf 28 (λi V=>∃k:Nat,k<=B.length/\i=.int .i64 k/\Hp w [.row r K.length u 3 1 (Pa K),.row z B.length L 3 1 (Pa (jn f K B k))] V) (λi _=>B.length-(intOf i).toNat) ?_ ?_
   .exact⟨0,J' _,rfl,by rw[SS];exact I⟩
   clear I t M;rintro ρ' i V ⟨k,hk,rfl,I⟩;by_cases D:k<B.length
   .obtain⟨x,C⟩:=aa (l:=K) (k:=k) Z';obtain⟨y,hy⟩:=aa D;have bx:=S k x C;have q:=s k y hy;have hx2:=Ic C;have hy2:=Ic (aaO (f:=f) m hy);have hml:=nX (f:=f) m hk;have Q:=Cb (jn f K B k);obtain⟨ga,rfl⟩:=I.kb (i:=0) rfl Z';obtain⟨gb,rfl⟩:=I.kb (i:=1) rfl Z';refine fa ?_;refine eG ?_;refine fa ?_;refine sv (Ba pa.out rfl (I.Rc (i:=1) rfl (by first|assumption|(simp only[X_];assumption)))) ?_;refine Hh (X x y _ bx.1 bx.2 q.1 q.2) la.out rfl rfl V' ?_;rintro H w41 ⟨rfl,M⟩;refine Xq ?_;intro I;refine fa ?_;refine US ?_;refine Nr ?_;intro ws I;refine fa ?_;rw[X_,tV m C hy] at I;refine⟨⟨k+1,Z',rfl,I⟩,by show _-(k+1)<_-k;omega, ?_⟩;exact Wb
   refine fa ?_;obtain rfl:k=B.length:=Z';rw[tU m] at I;have h1:=I.at_ (i:=1) rfl;have v:(List.zipWith f K B).length=B.length:=by simp[m]
   refine .inr ⟨_,Y,Z',z,L, ?_⟩;rw[v];exact⟨rfl,h1,I.below⟩
def uN(a b:ByteArray)(g:FuncId)(f:Int->Int->Int)(w:World)(M:a.size<=100000)(F:b.size<=100000)[la prog g] (s:∀(x y:Int)(w:World),0<=x->x<=127->0<=y->y<=127->Zc g #[.int .i64 x,.int .i64 y] w (.int .i64 (f x y))) (h:Qi f a.data.toList b.data.toList=none):Zc 329 #[.string a,.string b,.func (.func g) #[] #[]] w (.tuple #[.slice none 0 0,.bool false]):=(Ev a b g f w M F s).mono λe V R=>by
  obtain R|⟨l,Q,_⟩:=R
  .exact R.2
  rw[h] at Q;cases Q
def BO(a b:ByteArray)(g:FuncId)(f:Int->Int->Int)(w:World)(M:a.size<=100000)(F:b.size<=100000)[la prog g] (s:∀(x y:Int)(w:World),0<=x->x<=127->0<=y->y<=127->Zc g #[.int .i64 x,.int .i64 y] w (.int .i64 (f x y)))
  {l:List Int}(h:Qi f a.data.toList b.data.toList=some l):
  Calls prog 329 #[.string a,.string b,.func (.func g) #[] #[]] w λe V=>∃A c,e=.returned (.tuple #[.slice A l.length c,.bool true])/\V.ownsRow w.heap.size 3 1 (.slice A l.length c) l.length (Pa l)/\Below w.heap.size w V:=
 (Ev a b g f w M F s).mono λe V R=>by
  obtain⟨B,_⟩|⟨D,Q,_,R⟩:=R
  .rw[h] at B;cases B
  rw[h] at Q;injection Q with Q;subst Q;exact R
def WO{f:Int->Int->Int}{a b:List UInt8}{l:List Int}(h:Qi f a b=some l):l.length<=b.length:=by
 unfold Qi at h;split at h
 .injection h with h;subst h;simp[ints];omega
 cases h
def Nw(x y:Int)(w)(h1:0<=x)(h2:x<=127)(G:0<=y)(z:y<=127):Zc 330 #[.int .i64 x,.int .i64 y] w (.int .i64 (x+y)):=by
 refine Ca func330 ?_;refine fa ?_;exact⟨rfl,Below.refl _ _⟩
def CO(a b:ByteArray)(w)(e:a.size<=100000)(F:b.size<=100000):Zc 326 #[.string a,.string b] w (.tuple #[.string (str (mulL a.data.toList b.data.toList).1),.int .i64 (mulL a.data.toList b.data.toList).2]):=by
 have I:=Hp.start w;have o:=Hc b
 cases d:Qi (· + ·) a.data.toList b.data.toList with
 |none=>
  refine Ca func326 ?_;refine fa ?_;refine cd I (uN a b _ _ _ e F Nw d) ?_;intro c I;refine fa ?_;simp only[mulL,d];exact⟨rfl,I.below⟩
 |some l=>
  have Q:=WO d;refine Ca func326 ?_;refine fa ?_;refine Wi (BO a b _ _ _ e F Nw d) ?_;rintro H c ⟨J,j,rfl,t,M⟩;refine iq ?_;intro I;refine fa ?_;refine qd I (HP _ _ _ _ _ (I.ma (i:=0) rfl) Z') rfl ?_;intro D I;refine fa ?_;simp only[mulL,d];exact⟨trivial,I.below⟩
def Tg(v:Int):Bool:=decide (0<=v) && decide (v<=12)
def Xe{v:Int}:Tg v=true↔0<=v/\v<=12:=by unfold Tg;rw[l',h',h']
def Un(v:Int)(w):Zc 128 #[.int .i64 v] w (.bool (Tg v)):=by
 have I:=Hp.start w;unfold Tg;by_cases h1:0<=v
 .rw[m' h1,L7];by_cases h2:v<=12
  .rw[m' h2];exact aag
  rw[k' h2];exact aag
 rw[k' h1,Y6];exact aag
def nfB(a:NR):Bool:=decide ((nR a.da).neg=a.neg) && (decide ((nR a.da).Va=a.Va) && decide ((nR a.da).e=a.e))
def jv(a:NR):nfB a=true↔nR a.da=a:=by
 unfold nfB;rw[l',l',h',h',h'];constructor
 .rintro ⟨h1,h2,G⟩;obtain⟨s,m,e⟩:=a;generalize nR (NR.da ⟨s,m,e⟩)=b at*;obtain⟨s',p,e'⟩:=b;simp only at h1 h2 G;rw[h1,h2,G]
 intro h;rw[h];exact⟨rfl,rfl,rfl⟩
def Vo(v:Int)(t:TR):Bool:=ke t.m.data.toList && decide ((t.m.size:Int)=v) && (Ap t && nfB t.c)
def Js:List TR->Bool
 |[]=>true
 |[_]=>true
 |a::b::l=>eh a.m b.m && Js (b::l)
def Az:∀(l:List TR)(p x:TR),Js (l++[p,x])=(Js (l++[p]) && eh p.m x.m)
 |[],p,x=>by show(eh p.m x.m && true)=(true && eh p.m x.m);rw[Bool.and_true,L7]
 |[a],p,x=>(by show(eh a.m p.m && (eh p.m x.m && true))=((eh a.m p.m && true) && eh p.m x.m);rw[Bool.and_true,Bool.and_true])
 |a::b::l,p,x=>(by show(eh a.m b.m && Js ((b::l)++[p,x]))=((eh a.m b.m && Js ((b::l)++[p])) && eh p.m x.m);rw[Az (b::l) p x,Bool.and_assoc])
def NL:∀{l:List TR}{i:Nat}{p x:TR},Js l=true->l[i]?=some p->l[i+1]?=some x->eh p.m x.m=true
 |[],i,p,x,_,h,_=>by simp at h
 |[a],i,p,x,_,_,h=>by simp at h
 |a::b::l,0,p,x,h,h1,h2=>(by simp only[q7,g9,U_,p7] at h1 h2;subst h1 h2;exact(j9.1 h).1)
 |a::b::l,i+1,p,x,h,h1,h2=>(by rw[p7] at h1 h2;exact NL (j9.1 h).2 h1 h2)
def Gr:∀{l:List TR},Js l=true↔xv l
 |[]=>⟨λ_=>I6,λ_=>rfl⟩
 |[a]=>⟨λ_=>W5 _ _,λ_=>rfl⟩
 |a::b::l=>by
  show(eh a.m b.m && Js (b::l))=true↔_;rw[l',Gr (l:=b::l)];constructor
  .rintro ⟨h1,h2⟩;refine C9.2 ⟨λt S=> ?_,h2⟩;obtain rfl|S:=u'.1 S
   .exact h1
   exact jj h1 ((C9.1 h2).1 t S)
  intro h;have:=C9.1 h;exact⟨this.1 b I',this.2⟩
def okB(v:Int)(ts:List TR):Bool:=ts.all (Vo v) && Js ts
def vf(v:Int)(ts:List TR):Int:=if Tg v=false then 1 else if 4096<ts.length then 3 else if okB v ts=true then 0 else 1
def SU{v:Int}(h1:Tg v=true)(h2:¬4096<ts.length)(h:okB v ts=false):vf v ts=1:=by
 unfold vf;rw[Q' (by rw[h1];decide),Q' h2,Q' (by rw[h];decide)]
def fD{v:Int}{i:Nat}{x:TR}(C:ts[i]?=some x)(h:Vo v x=false):okB v ts=false:=by
 unfold okB;rw[Z5];refine .inl (O6.2 λh2=> ?_);rw[L_.1 h2 x (N' C)] at h
 cases h
def MT{v:Int}{i:Nat}{p x:TR}(hp:ts[i]?=some p)(C:ts[i+1]?=some x)(h:eh p.m x.m=false):okB v ts=false:=by
 unfold okB;rw[Z5];refine .inr (O6.2 λh2=> ?_);rw[NL h2 hp C] at h
 cases h
theorem nC(v:Int)(A:Option Addr)(n c:Nat)(ts:List TR)(w:World)(hT:Gc w)(hS:Sl w A n 4 (ia TR.cells ts))(hn:n<=1000000)(ho:∀t∈ts,t.c.ok/\t.m.size<=100000):Zc 83 #[.agg #[.int .i64 v,.slice A n c]] w (.int .i64 (vf v ts)):=by
 have I:=Hp.start w;have hln:=hS.sa TR.len V';have u:=λZ=>Un v Z
 cases hf:Tg v with
 |false=>
  rw[hf] at u;rw[show vf v ts=1 by unfold vf;rw[P' hf]];exact adY
 |true=>
  rw[hf] at u;by_cases h4:4096<n
  .rw[show vf v ts=3 by unfold vf;rw[Q' (by rw[hf];decide),P' Z']];exact adY
  have M:=λh=>SU (v:=v) (ts:=ts) hf Z' h;refine Ca func83 ?_;refine Bb ?_;intro b1 Z I;refine cd I (u _) ?_;intro w7 I;refine fa ?_;refine bf 16 (λx V=>∃i:Nat,i<=n/\x=.int .i64 i/\(ts.take i).all (Vo v)=true/\Js (ts.take i)=true/\Hp w [.blk b1 24 [.int .i64 v,.slice A n c] (0,0)] V) (λx _=>n-(intOf x).toNat) ?_ ?_
  .exact⟨0,J' _,rfl,rfl,rfl,I⟩
  clear I;rintro ρ' x_ V ⟨i,hi,rfl,X,g,I⟩;by_cases hlt:i<n
  .obtain⟨x,C⟩:=aa (l:=ts) (k:=i) Z';obtain⟨ad,rfl,hr⟩:=hS.at_ Z';obtain⟨hxo,hxm⟩:=ho x (N' C);have K:=λZ=>Ho x.m v Z Z';have z:=λZ=>jc x.c Z;have j:=λZ hT1=>Yc x.c Z hT1 (by have:=hxo.1;omega) (by have:=hxo.2.1;omega) (by have:=hxo.2.2;omega);have hzz:x.c.i.sign=0↔x.c.da=0:=(by exact aas)
   cases hm:ke x.m.data.toList && decide ((x.m.size:Int)=v) with
   |false=>
    rw[hm] at K;rw[M (fD C (by unfold Vo;rw[hm];rfl))];refine VJ ?_;refine yb ?_;intro b4 w4 I ws I;refine jR [] [] 33 I ?_;refine wb ?_;refine dC (λ_ hj=>K _) ?_;exact acY
   |true=>
    rw[hm] at K;by_cases hz:x.c.da=0
    .have hs:=hzz.2 hz;rw[M (fD C (by unfold Vo Ap;rw[hm,m' hz];rfl))];refine VJ ?_;refine yb ?_;intro b4 w4 I ws I;refine jR [] [] 33 I ?_;refine wb ?_;refine dC (λ_ hj=>K _) ?_;refine wb ?_;refine yY ?_;exact acY
    have hs:¬x.c.i.sign=0:=λh=>hz (hzz.1 h);by_cases hnf:nR x.c.da=x.c
    .have hgood:Vo v x=true:=by unfold Vo Ap;rw[hm,k' hz,(jv x.c).2 hnf];rfl
     have T:(ts.take (i+1)).all (Vo v)=true:=by rw[ja C,F6,X];simp[hgood]
     by_cases h0:i=0
     .refine cW ?_;(unhygienic intros)
      refine RZ ?_;refine wb ?_;refine Fa ?_;intro f W Q a _;have N:=Q.bl;obtain⟨v53,v52,v51,v50,v49,v48,v47,v46,v45,v44,v43,v42,v41,v40,v39,Y,S,R,P,L,J,F,D,v30,B,H,y,s,r,o,E,G,e,_⟩:=a;replace I:=Q.hp;refine lg ?_;clear Q;refine gS (gT ?_)
      (first|refine gP ?_|refine FH ?_)
      refine adI ?_;(unhygienic intros)
      exact Wb
     obtain⟨q,hq⟩:∃q,i=q+1:=⟨i-1,Z'⟩;obtain⟨p,hp⟩:=aa (l:=ts) (k:=q) Z'
     cases b:eh p.m x.m with
     |false=>
      rw[M (MT hp (hq ▸ C) b)];have hge:(!(Op.bytesLess p.m.toList x.m.toList))=true:=by rw[Kk,b];rfl
      refine cW ?_;(unhygienic intros)
      refine M0 ?_;refine dG (uo (λ_ hj=>((hr.ext hj.hp.below).recAt TR.len hp).cell (i:=0) rfl) ?_);refine wb ?_;refine Fa ?_;intro f W Q a _;have N:=Q.bl;obtain⟨v53,v52,v51,v50,v49,v48,v47,v46,v45,v44,v43,v42,v41,v40,v39,Y,S,R,P,L,J,F,D,v30,B,H,y,s,r,o,E,G,e,_⟩:=a;replace I:=Q.hp;refine lg ?_;clear Q;refine gT ?_;refine sv (Lz rfl rfl) ?_;refine gT ?_
      (first|refine gP ?_|refine FH ?_)
      refine fa ?_;rw[hge];refine fa ?_;exact⟨rfl,I.below⟩
     |true=>
      have hge:(!(Op.bytesLess p.m.toList x.m.toList))=false:=by rw[Kk,b];rfl
      refine cW ?_;(unhygienic intros)
      refine M0 ?_;refine dG (uo (λ_ hj=>((hr.ext hj.hp.below).recAt TR.len hp).cell (i:=0) rfl) ?_);refine wb ?_;refine Fa ?_;intro f W Q a _;have N:=Q.bl;obtain⟨v53,v52,v51,v50,v49,v48,v47,v46,v45,v44,v43,v42,v41,v40,v39,Y,S,R,P,L,J,F,D,v30,B,H,y,s,r,o,E,G,e,_⟩:=a;replace I:=Q.hp;refine lg ?_;clear Q;refine gT ?_;refine sv (Lz rfl rfl) ?_;refine gT ?_
      (first|refine gP ?_|refine FH ?_)
      refine fa ?_;rw[hge];refine ach ?_;(unhygienic intros)
      exact Wb
    rw[M (fD C (by unfold Vo Ap;rw[hm,k' hz,O6.2 (λh=>hnf ((jv x.c).1 h))];rfl))];refine cW ?_;(unhygienic intros)
    refine WB (i:=18) rfl (λU Z hj hR=>(show U 33=Value.bool _ from hR.2.2.1)) (λU Z hj hR=>GK (show U 36=Value.agg (List.toArray _) from hR.1) (show U 38=Value.agg (List.toArray _) from hR.2.1) (by assumption)) ?_;refine wb ?_;refine dn2 ?_;intro W I;refine fa ?_;exact⟨rfl,I.below⟩
  rw[w' Z'] at X g;rw[show vf v ts=0 by unfold vf okB;rw[Q' (by rw[hf];decide),Q' Z',X,g];rfl];refine fa ?_;exact⟨rfl,I.below⟩
def Qd(v:Int)(t:TR):Bool:=ke t.m.data.toList && decide ((t.m.size:Int)=v)
def XD(z:TR)(v:Int)(b:Nat)(w:World)(hp:w.cell? ⟨b,0,none⟩=some (.int .i64 v))(o:z.m.size<=100000):Zc 205 #[.agg #[.string z.m,.bool z.c.neg,.string z.c.Va,.int .i64 z.c.e],.pointer (some ⟨b,0,none⟩)] w (.bool (!Qd v z)):=by
 have I:=Hp.start w;have K:=λZ=>Ho z.m v Z Z';unfold Qd;refine Ca func205 ?_;refine Bb ?_;intro T q I;refine sv (Ba pa.out rfl (Kb I.below hp)) ?_;refine cd I (K _) ?_;intro a I
 cases ke z.m.data.toList && decide ((z.m.size:Int)=v) with
 |false=>
  refine fa ?_;exact⟨rfl,I.below⟩
 |true=>
  refine fa ?_;exact⟨rfl,I.below⟩
def uy(A)(n c:Nat)(l)(v:Int)(b:Nat)(w)(J:Sl w A n 4 (ia TR.cells l))(B:n<=1000000)(hp:w.cell? ⟨b,0,none⟩=some (.int .i64 v))(o:∀t∈l,t.m.size<=100000):Zc 204 #[.slice A n c,.func (.func 205) #[] #[.pointer (some ⟨b,0,none⟩)]] w (.bool (l.any λt=> !Qd v t)):=
 CJ A n c l 205 [.pointer (some ⟨b,0,none⟩)] (λt=> !Qd v t) w J B λz Z a F=>XD z v b Z (Kb F hp) (o z a)
def wi(v:Int)(l:List TR):Int:=if Tg v=false\/(l.any λt=> !Qd v t)=true then 1 else if 65536<l.length then 3 else Bf l
def mn(v:Int)(A:Option Addr)(n c:Nat)(l:List TR)(k:Nat)(w:World)(S:Gc w)(J:Sl w A n 4 (ia TR.cells l))(K:n<=1000000)(hk:k<=2999980)(j:ug k l)(X:∀t∈l,t.m.size<=100000):Calls prog 129 #[.int .i64 v,.slice A n c] w λr V=>∃g:PX,Gf (wi v l) v (oa l) g/\r=.returned (.tuple #[.agg #[.int .i64 g.v,.slice g.A g.n g.c],.int .i64 (wi v l)])/\Hp w [g.row] V:=by
 have I:=Hp.start w;have e:=J.sa TR.len V';have u:=λZ=>Un v Z;have E:=λb Z F hp=>uy A n c l v b Z (J.ext F) K hp X
 cases Y:Tg v with
 |false=>
  rw[Y] at u;rw[show wi v l=1 by unfold wi;rw[P' (.inl Y)]];refine Ca func129 ?_;refine yb ?_;intro T x I D y I;refine cd I (u _) ?_;intro B I;refine Bb ?_;intro ws I;exact tM
 |true=>
  rw[Y] at u
  cases M:l.any λt=> !Qd v t with
  |true=>
   rw[M] at E;rw[show wi v l=1 by unfold wi;rw[P' (.inr M)]];exact y2
  |false=>
   rw[M] at E;have N:wi v l=if 65536<l.length then 3 else Bf l:=by unfold wi;rw[Q' (by rw[Y,M];decide)]
   by_cases h6:65536<n
   .rw[N,P' Z'];exact y2
   rw[N,Q' Z'];refine Ca func129 ?_;refine yb ?_;intro T x I D y I;refine cd I (u _) ?_;intro B I;refine fa ?_;refine Bu ?_;refine fa ?_;refine cd I (E _ _ I.below (I.se (i:=1) (o:=0) rfl rfl)) ?_;intro d I;refine fa ?_;refine Sk [] [0,0,2,7,15,15,63,127] 3 [[(2,none)],[(1,none)],[(20,some 1)]] [(2,21),(1,20),(0,19)] [([],4,[(2,21),(1,20),(0,19)])] I mixed U' U' V' ?_;refine sK 1 ?_;refine eI ?_;refine Ja (i:=2) (Iu I.sz 72 n 4 (ia TR.cells l)) (Iu.ext) ?_ ?_
   .intro U Z hj hR;exact ib rfl (La fi (qa (show U 20=Value.slice _ _ _ from hR.1) Wa)) (Yl A n c l Z (J.ext hj.hp.below) K) (λ_ _ ⟨A,c,P,j,F⟩=>⟨_,P,F,A,c,rfl,El j hj.bl.size⟩)
   refine Fa ?_;intro p_ z;simp only[u',h_,or_false] at z;obtain rfl:=z
   intro f W Q L;have R:=Q.bl;obtain⟨q,v20,p,_⟩:=L;simp only[qe];have C:f 0=_:=p;rw[C];have s:f 1=_:=v20;rw[s];obtain⟨h,G,H,a⟩:Iu _ _ _ _ _ (f 2) W:=q;rw[H];replace I:=JJ.XI I Q.hp a;clear a;clear C s H Q;refine Tc (Xj v h n G l k _ S I e Z' Z' j) fi rfl V' ?_;rintro e_ w22 ⟨g,og,rfl,I⟩;refine⟨_,rfl, ?_⟩;refine Kc ?_;refine vb (i:=4) (by repeat (first|exact Mb|refine lb ?_|refine Lb ?_|refine Sa ?_)) rfl U' U' U' (λ_=>vd (show _=Value.tuple (List.toArray _) from rfl) rfl) V' ?_;refine vb (i:=5) (by repeat (first|exact Mb|refine lb ?_|refine Lb ?_|refine Sa ?_)) rfl U' U' U' (λ_=>vd (show _=Value.tuple (List.toArray _) from rfl) rfl) V' ?_;refine Hg 6 V' U' V' U' U' ?_;refine Bb ?_;refine acZ ?_;intro ws I;exact yR
def PX.cells(g:PX):List Value:=[.int .i64 g.v,.slice g.A g.n g.c]
def PX.len(g):(PX.cells g).length=2:=rfl
structure PX.Ug(g:PX)(k:Nat):Prop where
 n:g.n<=1000000
 cap:g.n<=g.c
 ok:ug k g.ts
 sz:∀t∈g.ts,t.m.size<=100000
def PX.e(g:PX):Int:=vf g.v g.ts
def Zj(g:PX)(k:Nat)(w)(a:Gc w)(h:g.at_ w)(Q:g.Ug k):Zc 83 #[g.V] w (.int .i64 g.e):=
 nC g.v g.A g.n g.c g.ts w a h Q.n λt S=>⟨(Q.ok t S).1,Q.sz t S⟩
def Oy(X:List PX):Bool:=X.any λg=>decide (g.v≠(X.map PX.v).headD 0)
def Qf(X:List PX):Int:=match X.find? (λg=>decide (g.e≠0)) with|some g=>g.e|none=>if X.length=0\/Oy X=true then 1 else 0
def bI(L)(n c:Nat)(X)(f:PX)(p:Addr)(w)(a:Sl w L n 2 (ia PX.cells X))(hp:w.cell? p=some (.slice L n c))(B:0<n):Zc 208 #[f.V,.pointer (some p)] w (.bool (decide (f.v≠(X.map PX.v).headD 0))):=by
 have I:=Hp.start w;have m:=a.sa PX.len V';obtain⟨g,X,rfl⟩:∃g l,X=g::l:=by
  cases X with
  |nil=>exact absurd m (by show ¬0=n;omega)
  |cons g l=>exact⟨g,l,rfl⟩
 obtain⟨h,rfl,H⟩:=a.at_ B;have e:(((g::X).map PX.v).headD 0)=g.v:=rfl;rw[e];have J:(g::X)[0]?=some g:=rfl;by_cases s:f.v=g.v
 .refine U1 ?_;intro T q I;refine Fa ?_;intro f W Q d;have b:=Q.bl;obtain⟨G,Y,o,v6,u,v4,_⟩:=d;replace I:=Q.hp;refine lg ?_;exact gW
 refine U1 ?_;intro T q I;refine dn ?_;intro W I;exact bT
theorem NI(A:Option Addr)(n c:Nat)(l:List PX)(g:FuncId)(cap:List Value)(p:PX->Bool)(w:World)(J:Sl w A n 2 (ia PX.cells l))(B:n<=1000000)[la prog g] (s:∀(z:PX)(Z:World),z∈l->Below w.heap.size w Z->Calls prog g (.agg #[.int .i64 z.v,.slice z.A z.n z.c]::cap).toArray Z λr V=>r=.returned (.bool (p z))/\Below Z.heap.size Z V):Calls prog 263 #[.slice A n c,.func (.func g) #[] cap.toArray] w λr V=>∃v,r=.returned (.int .i64 v)/\(0<=v↔l.any p=true)/\Below w.heap.size w V:=by
 have I:=Hp.start w;have m:=J.sa PX.len V';refine Ca func263 ?_;refine fa ?_;refine bf 8 (λv V=>∃i:Nat,i<=n/\v=.int .i64 i/\(l.take i).any p=false/\Hp w [] V) (λv _=>n-(intOf v).toNat) ?_ ?_
 .exact⟨0,J' _,rfl,rfl,I⟩
 clear I;rintro ρ' v V ⟨i,hi,rfl,X,I⟩;by_cases D:i<n
 .obtain⟨z,o⟩:=aa (l:=l) (k:=i) Z';obtain⟨d,rfl,H⟩:=J.at_ Z';have E:=λZ=>s z Z (N' o)
  cases a:p z with
  |true=>
   rw[a] at E;refine fa ?_;refine sv (Ka (vs:=[_,_]) pa.out rfl ((H.ext I.below).recAt PX.len o) rfl) ?_;refine PJ ?_;(unhygienic intros)
   refine⟨_,rfl, ?_⟩;replace I:=I.ext M;exact dX
  |false=>
   rw[a] at E;refine fa ?_;refine sv (Ka (vs:=[_,_]) pa.out rfl ((H.ext I.below).recAt PX.len o) rfl) ?_;refine PJ ?_;exact vK
 exact OS
def Bv(A)(n c:Nat)(l)(g:FuncId)(cap)(p:PX->Bool)(w)(b:Sl w A n 2 (ia PX.cells l))(B:n<=1000000)[la prog g] (s:∀(z:PX)(Z:World),z∈l->Below w.heap.size w Z->Calls prog g (z.V::cap).toArray Z λr V=>r=.returned (.bool (p z))/\Below Z.heap.size Z V):Zc 207 #[.slice A n c,.func (.func g) #[] cap.toArray] w (.bool (l.any p)):=by
 have I:=Hp.start w;refine Ca func207 ?_;refine fa ?_;refine Tc (NI A n c l g cap p _ (b.ext I.below) B s) la.out rfl V' ?_;rintro H e ⟨d,rfl,a,M⟩;exact wW
def vu(L:Option Addr)(n c:Nat)(X:List PX)(k:Nat)(w:World)(S:Gc w)(f:Sl w L n 2 (ia PX.cells X))(B:n<=1000000)(Y:∀g∈X,g.at_ w)(Q:∀g∈X,g.Ug k):Zc 131 #[.slice L n c] w (.int .i64 (Qf X)):=by
 have I:=Hp.start w;have o:=f.sa PX.len V';refine Ca func131 ?_;refine Bb ?_;intro G Z I;refine bf 8 (λv V=>∃i:Nat,i<=n/\v=.int .i64 i/\(X.take i).any (λg=>decide (g.e≠0))=false/\Hp w [.blk G 47 [.slice L n c] (0,0)] V) (λv _=>n-(intOf v).toNat) ?_ ?_
 .exact⟨0,J' _,rfl,rfl,I⟩
 clear I;rintro ρ' v V ⟨i,hi,rfl,a,I⟩;by_cases p:i<n
 .obtain⟨g,C⟩:=aa (l:=X) (k:=i) Z';have M:=N' C;have E:=λZ P F=>Zj g k Z P ((Y g M).ext F) (Q g M);obtain⟨r,rfl,H⟩:=f.at_ Z';by_cases he:g.e=0
  .refine VZ ?_;refine yb ?_;intro D y I ws I;refine cd I (E _ (S.hp I) I.below) ?_;intro m I;refine fa ?_;replace I:=I.sub (G' _ (O' _ Z_));refine⟨⟨i+1,Z',rfl,by rw[ja C,B8,a,k8,O7,k' Z'];rfl,I⟩,by show n-(i+1)<n-i;omega, ?_⟩;exact Wb
  refine VZ ?_;refine yb ?_;intro D y I ws I;refine cd I (E _ (S.hp I) I.below) ?_;intro m I;refine fa ?_;refine⟨?_,I.below⟩;unfold Qf;rw[Ks a C (m' he)]
 rw[w' Z'] at a;have j:Qf X=if X.length=0\/Oy X=true then 1 else 0:=by unfold Qf;rw[zh a]
 rw[j];by_cases J:n=0
 .refine fa ?_;exact⟨by rw[P' (.inl Z')],I.below⟩
 have d:V.cell? ⟨G,0,none⟩=some (.slice L n c):=I.se (i:=0) rfl rfl;have W:=λZ F=>Bv L n c X 208 [.pointer (some ⟨G,0,none⟩)] (λg=>decide (g.v≠(X.map PX.v).headD 0)) Z (f.ext (I.below.trans (F.mono I.below.size))) B (λz q s R=>bI L n c X z ⟨G,0,none⟩ q ((f.ext (I.below.trans (F.mono I.below.size))).ext R) (Kb R (Kb F d)) Z')
 cases A:Oy X with
 |true=>
  have b:X.any (λg=>decide (g.v≠(X.map PX.v).headD 0))=true:=A;refine JS ?_;intro W T I;exact⟨by rw[P' (.inr rfl)],I.below⟩
 |false=>
  have b:X.any (λg=>decide (g.v≠(X.map PX.v).headD 0))=false:=A;exact o0
set_option maxRecDepth 100000 in
def CH{H:Type}{enc:TypeId×Value->H}{sp:Nat->Bool}{held:Bool}{x:DataW H×List MemPlace}(h:DataW.trod enc prog W base sp held fuel 72 cs=some x):
  ∃t:TR,cs=t.cells/\True:=by
 have L:prog.cellsOf 72=4:=by kernel_rfl
 have X:prog.cellsOf 9=1:=by kernel_rfl
 have Y:prog.cellsOf 30=3:=by kernel_rfl
 obtain⟨C,j,n,_,Q,J,h1⟩:=trod_struct2 Tryz.underlying72 h;obtain⟨s,S,_,_⟩:=DataW.trod_string Tryz.underlying9 J;obtain⟨a,N,_⟩:=Io h1;rw[L] at Q
 match cs,Q with
 |[P,p,d,o],_=>
  simp only[X,Y] at S N;unfold NR.cells at N;simp at S N;obtain⟨N,b,c⟩:=N;subst S N b c;exact⟨⟨s,a⟩,rfl,trivial⟩
set_option maxRecDepth 100000 in
def QI{H:Type}{enc:TypeId×Value->H}{sp:Nat->Bool}{held:Bool}{x:DataW H×List MemPlace}(h:DataW.trod enc prog W base sp held fuel 24 cs=some x):
  ∃g:PX,cs=g.cells/\(g.at_ W/\g.n<=g.c):=by
 have L:prog.cellsOf 24=2:=by kernel_rfl
 have X:prog.cellsOf 3=1:=by kernel_rfl
 have Y:prog.cellsOf 22=1:=by kernel_rfl
 obtain⟨C,j,n,_,Q,J,h1⟩:=trod_struct2 Tryz.underlying24 h;obtain⟨z,S,_,_⟩:=DataW.trod_int Tryz.underlying3 J;obtain⟨B,m,b,k,N,s1,_⟩:=dJ TR.len V' Tryz.underlying22 U' (λ_ _ _ h=>CH h) h1;rw[N] at h1;have d:=NM Tryz.underlying22 h1;rw[L] at Q
 match cs,Q with
 |[P,p],_=>
  simp only[X,Y] at S N;simp at S N;subst S N;exact⟨⟨z,B,m,b,k⟩,rfl,s1,d⟩
set_option maxRecDepth 100000 in
def lJ{H:Type}{enc:TypeId×Value->H}{r:Reach}{sp:Nat->Bool}{held:Bool}{v:Value}{d:DataW H}{X:List MemPlace} (s:Value.okWide prog W r b0 47 v)(T:DataW.Trod enc prog W base sp held 47 v d X):∃(A:Option Addr)(n c:Nat)(l:List PX),v=.slice A n c/\Sl W A n 2 (ia PX.cells l)/\∀g∈l,g.at_ W/\g.n<=g.c:=
 Mz PX.len V' Tryz.underlying47 U' (λ_ _ _ h=>QI h) s T
structure SR where
 lo:NR
 hi:NR
def SR.cells(s:SR):List Value:=[.bool s.lo.neg,.string s.lo.Va,.int .i64 s.lo.e,.bool s.hi.neg,.string s.hi.Va,.int .i64 s.hi.e]
def SR.len(s):(SR.cells s).length=6:=rfl
def SR.one(s):(SR.cells s).all Value.oneCell'=true:=rfl
def wR(x y:Dyadic):Dyadic:=if y<x then y else x
def CT(x y:Dyadic):Dyadic:=if x<y then y else x
def lT(x)(y:Dyadic):Xf (λx y=>decide (x<y)) [x,y]=wR x y:=by simp[Xf,wR]
def vP(x)(y:Dyadic):Xf (λx y=>decide (y<x)) [x,y]=CT x y:=by simp[Xf,CT]
def SR.Tf(s:SR):Dyadic:=wR s.lo.da s.hi.da
def SR.Vi(s:SR):Dyadic:=CT s.lo.da s.hi.da
def SR.f(s:SR):SR:=⟨nR s.Tf,nR s.Vi⟩
def SR.ok(s:SR):Prop:=s.lo.ok/\s.hi.ok
def SR.has(s:SR)(x:Dyadic):Bool:=decide (¬x<s.Tf/\¬s.Vi<x)
def SR.wid(s:SR):Dyadic:=s.Vi-s.Tf
def SR.lj(s:SR):Dyadic:=(s.lo.da+s.hi.da)*ti (-1)
def aaS(x)(y:Dyadic):wR x y=x\/wR x y=y:=by unfold wR;split<;>simp
def aa0(x)(y:Dyadic):CT x y=x\/CT x y=y:=by unfold CT;split<;>simp
def GU(x)(y:Dyadic):¬CT x y<wR x y:=by unfold CT wR;split<;>split<;>grind
structure Kl(k:Nat)(a:NR):Prop where
 ok:a.ok
 sz:Sz k a.da
def SR.fin(k:Nat)(s:SR):Prop:=Kl k s.lo/\Kl k s.hi
def Kl.of{x:Dyadic}(h:Sz k x)(u:k<=3000000):Kl k (nR x):=⟨h.ok Z',by rw[Ga];exact h⟩
def SR.szL{s:SR}(h:s.fin k):Sz k s.Tf:=by
 unfold SR.Tf;obtain e|e:=aaS s.lo.da s.hi.da<;>rw[e]
 .exact h.1.sz
 exact h.2.sz
def SR.szH{s:SR}(h:s.fin k):Sz k s.Vi:=by
 unfold SR.Vi;obtain e|e:=aa0 s.lo.da s.hi.da<;>rw[e]
 .exact h.1.sz
 exact h.2.sz
def SR.Im{s:SR}(h:s.fin k)(u:k<=3000000):s.f.fin k:=⟨Kl.of (SR.szL h) u,Kl.of (SR.szH h) u⟩
def rJ(L)(n c:Nat)(l)(w)(S:Gc w)(J:Sl w L n 3 (ia NR.cells l))(Q:∀a∈l,a.ok)(B:n<=1000000):Zc 95 #[.slice L n c] w (.agg (SR.cells ⟨nR (Xf (λx y=>decide (x<y)) (l.map NR.da)),nR (Xf (λx y=>decide (y<x)) (l.map NR.da))⟩).toArray):=by
 have I:=Hp.start w;refine Ca func95 ?_;refine Bb ?_;intro T q I;refine cd I (jI L n c l _ (S.hp I) (J.ext I.below) Q B) ?_;intro b I;refine mL ?_;refine cd I (Qx L n c l _ (S.hp I) (J.ext I.below) Q B) ?_;intro A I;refine acE ?_;intro ws I;exact⟨rfl,I.below⟩
def sj(s:SR)(w)(S:Gc w)(K:s.ok):Zc 126 #[.agg s.cells.toArray] w (.agg s.f.cells.toArray):=by
 have I:=Hp.start w;have E:=λL c Z P N=>rJ L 2 c [s.lo,s.hi] Z P N (by simpa using show s.lo.ok/\s.hi.ok from K) Z';simp only[I_,R9,lT,vP] at E;refine Ca func126 ?_;refine yb ?_;intro G Z I T q I;refine jr ?_;intro t e I;refine cd I (E _ _ _ (S.hp I) (I.ma (i:=0) rfl)) ?_;intro o I;refine EY ?_;intro ws I;exact⟨rfl,I.below⟩
def YC(s:SR)(w)(S:Gc w)(K:s.ok):Zc 136 #[.agg s.cells.toArray] w (.agg s.f.cells.toArray):=by
 have I:=Hp.start w;refine Ca func136 ?_;refine yb ?_;intro G Z I T q I;refine cd I (sj s _ (S.hp I) K) ?_;intro y I;refine acE ?_;intro ws I;exact⟨rfl,I.below⟩
def qp(x)(y:Dyadic):(We x y<=0)↔¬y<x:=by
 obtain h|h|h:=jP x y
 .rw[Zl h];exact⟨λ_=>by grind,λ_=>by omega⟩
 .rw[h,Jo];exact⟨λ_=>by grind,λ_=>by omega⟩
 rw[Bp h];exact⟨λh2=>by omega,λh2=>absurd h h2⟩
def nu(s:SR)(a:NR)(k:Nat)(w:World)(S:Gc w)(K:s.fin k)(M:a.ok)(u:k<=3000000):Zc 78 #[.agg s.cells.toArray,.agg #[.bool a.neg,.string a.Va,.int .i64 a.e]] w (.bool (s.has a.da)):=by
 have I:=Hp.start w;have Y:=SR.Im K u;have h1:=λZ P=>Sd (nR s.Tf) a Z P Y.1.ok M;have h2:=λZ P=>Sd a (nR s.Vi) Z P M Y.2.ok;simp only[Ga] at h1 h2;have N:=qp s.Tf a.da;have b:=qp a.da s.Vi;generalize We s.Tf a.da=X at*;generalize We a.da s.Vi=i at*;unfold SR.has;by_cases c:X<=0
 .by_cases f:i<=0
  .refine Ca func78 ?_;refine yb ?_;intro T q I j p I;refine cd I (sj s _ (S.hp I) ⟨K.1.ok,K.2.ok⟩) ?_;intro g I;refine yb ?_;intro R v I ws I;refine cd I (h1 _ (S.hp I)) ?_;intro W I;refine fa ?_;refine cd I (h2 _ (S.hp I)) ?_;intro J I;refine fa ?_;exact⟨by rw[m' ⟨N.1 c,b.1 f⟩],I.below⟩
  refine Ca func78 ?_;refine yb ?_;intro T q I j p I;refine cd I (sj s _ (S.hp I) ⟨K.1.ok,K.2.ok⟩) ?_;intro g I;refine yb ?_;intro R v I ws I;refine cd I (h1 _ (S.hp I)) ?_;intro W I;refine fa ?_;refine cd I (h2 _ (S.hp I)) ?_;intro J I;refine fa ?_;exact⟨by rw[k' λh=>f (b.2 h.2)],I.below⟩
 refine Ca func78 ?_;refine yb ?_;intro T q I j p I;refine cd I (sj s _ (S.hp I) ⟨K.1.ok,K.2.ok⟩) ?_;intro g I;refine yb ?_;intro R v I ws I;refine cd I (h1 _ (S.hp I)) ?_;intro W I;refine fa ?_;exact⟨by rw[k' λh=>c (N.2 h.1)],I.below⟩
def tw(s t:SR)(k:Nat)(w)(S:Gc w)(K:s.ok)(a:t.fin k)(u:k<=3000000):Zc 80 #[.agg s.cells.toArray,.agg t.cells.toArray] w (.bool (t.has s.lo.da && t.has s.hi.da)):=by
 have I:=Hp.start w;have h1:=λZ P=>nu t s.lo k Z P a K.1 u;have h2:=λZ P=>nu t s.hi k Z P a K.2 u
 cases T:t.has s.lo.da with
 |true=>
  rw[T] at h1;refine Ca func80 ?_;refine yb ?_;intro b q I j p I;refine cd I (h1 _ (S.hp I)) ?_;intro o I;refine fa ?_;refine cd I (h2 _ (S.hp I)) ?_;intro e I;refine fa ?_;exact⟨rfl,I.below⟩
 |false=>
  rw[T] at h1;refine Ca func80 ?_;refine yb ?_;intro b q I j p I;refine cd I (h1 _ (S.hp I)) ?_;intro o I;refine fa ?_;exact⟨rfl,I.below⟩
def gk(s:SR)(k:Nat)(w)(S:Gc w)(K:s.fin k)(u:k<=3000000):Zc 65 #[.agg s.cells.toArray] w (.agg #[.bool (nR s.wid).neg,.string (nR s.wid).Va,.int .i64 (nR s.wid).e]):=by
 have I:=Hp.start w;have Y:=SR.Im K u;have E:=λZ P=>Lj (nR s.Vi) (nR s.Tf) Z P Y.2.ok Y.1.ok k Y.2.sz Y.1.sz Z';simp only[Ga] at E;refine Ca func65 ?_;refine yb ?_;intro G Z I T q I;refine cd I (sj s _ (S.hp I) ⟨K.1.ok,K.2.ok⟩) ?_;intro v I;refine yb ?_;intro j p I ws I;refine cd I (E _ (S.hp I)) ?_;intro W I;refine oQ ?_;intro ws I;exact⟨rfl,I.below⟩
def du(s:SR)(k:Nat)(w)(S:Gc w)(K:s.fin k)(u:k<=3000000):Zc 146 #[.agg s.cells.toArray] w (.agg #[.bool (nR s.lj).neg,.string (nR s.lj).Va,.int .i64 (nR s.lj).e]):=by
 have I:=Hp.start w;have E:=λL c Z P N=>zf L 2 c [s.lo,s.hi] Z P N (by simpa using And.intro K.1.ok K.2.ok) k (by simpa using And.intro K.1.sz K.2.sz) Z';simp only[I_,R9,Sh] at E;have W:=(K.1.sz.add K.2.sz).ok Z';have l:=λZ P=>Hq (nR (s.lo.da+s.hi.da)) (-1) Z P (by have:=W.1;omega) (by have:=W.2;omega) (by have:=W.2;omega) Z' Z';rw[Ga] at l;refine Ca func146 ?_;refine yb ?_;intro G Z I T q I;refine jr ?_;intro t a I;refine cd I (E _ _ _ (S.hp I) (I.ma (i:=0) rfl)) ?_;intro o I;refine cd I (l _ (S.hp I)) ?_;exact aaD
set_option maxRecDepth 100000 in
def PH{H:Type}{enc:TypeId×Value->H}{sp:Nat->Bool}{held:Bool}{x:DataW H×List MemPlace}(h:DataW.trod enc prog W base sp held fuel 36 cs=some x):
  ∃a:SR,cs=a.cells/\True:=by
 have L:prog.cellsOf 36=6:=by kernel_rfl
 have X:prog.cellsOf 30=3:=by kernel_rfl
 obtain⟨C,j,n,_,Q,J,h1⟩:=trod_struct2 Tryz.underlying36 h;obtain⟨a,S,_⟩:=Io J;obtain⟨b,N,_⟩:=Io h1;rw[L] at Q
 match cs,Q with
 |[P,p,c,o,T,f],_=>
  simp only[X] at S N;simp[NR.cells] at S N;obtain⟨rfl,rfl,rfl⟩:=S;obtain⟨rfl,rfl,rfl⟩:=N;exact⟨⟨a,b⟩,rfl,trivial⟩
set_option maxRecDepth 100000 in
def AQ{H:Type}{enc:TypeId×Value->H}{r:Reach}{sp:Nat->Bool}{held:Bool}{v:Value}{d:DataW H}{X:List MemPlace} (s:Value.okWide prog W r b0 26 v)(T:DataW.Trod enc prog W base sp held 26 v d X):∃(A:Option Addr)(n c:Nat)(l:List SR),v=.slice A n c/\Sl W A n 6 (ia SR.cells l)/\∀a∈l,True:=
 Mz SR.len V' Tryz.underlying26 U' (λ_ _ _ h=>PH h) s T
def sm{α:Type}:List α->(α->Dyadic)->Dyadic
 |[],_=>0
 |a::l,f=>f a+sm l f
def Ik(l m:List α)(f:α->Dyadic):sm (l++m) f=sm l f+sm m f:=by
 induction l with
 |nil=>simp[sm,g8]
 |cons a l W=>simp only[C',sm,W];grind
def ck(l:List α)(a:α)(f:α->Dyadic):sm (l++[a]) f=sm l f+f a:=by
 rw[Ik];simp only[sm];grind
def Ua{l:List α}{f g:α->Dyadic}(h:∀a∈l,f a=g a):sm l f=sm l g:=by
 induction l with
 |nil=>rfl
 |cons a l W=>rw[sm,sm,h a I',W λb F=>h b (L' _ F)]
def rq{l:List α}{f:α->Dyadic}(h:∀a∈l,f a=0):sm l f=0:=by
 induction l with
 |nil=>rfl
 |cons a l W=>rw[sm,h a I',W λb F=>h b (L' _ F)];grind
def bJ(l:List α)(f g:α->Dyadic):sm l (λa=>f a+g a)=sm l f+sm l g:=by
 induction l with
 |nil=>simp[sm]
 |cons a l W=>simp only[sm,W];grind
def ik(l:List α)(f:α->Dyadic)(c):sm l (λa=>f a*c)=sm l f*c:=by
 induction l with
 |nil=>simp only[sm];grind
 |cons a l W=>simp only[sm,W];grind
def Vh(l:List α)(f:α->Dyadic)(c):sm l (λa=>c*f a)=c*sm l f:=by
 induction l with
 |nil=>simp only[sm];grind
 |cons a l W=>simp only[sm,W];grind
variable {β:Type}
def Kt(l:List α)(g:α->β)(f:β->Dyadic):sm (l.map g) f=sm l λa=>f (g a):=by
 induction l with
 |nil=>rfl
 |cons a l W=>rw[I_,sm,sm,W]
def TI(l:List α)(g:α->List β)(f:β->Dyadic):sm (l.flatMap g) f=sm l λa=>sm (g a) f:=by
 induction l with
 |nil=>rfl
 |cons a l W=>rw[l8,Ik,sm,W]
def Tq(l:List α)(m:List β)(f:α->β->Dyadic):sm l (λa=>sm m (f a))=sm m λb=>sm l λa=>f a b:=by
 induction l with
 |nil=>exact(rq λb _=>rfl).symm
 |cons a l W=>simp only[sm];rw[W,<-bJ]
def WM(l:List α)(p:α->Bool)(f:α->Dyadic)(h:∀a∈l,p a=false->f a=0):sm (l.filter p) f=sm l f:=by
 induction l with
 |nil=>rfl
 |cons a l W=>
  rw[sm,<-W λb F=>h b (L' _ F)]
  cases hp:p a with
  |true=>rw[List.filter_cons_of_pos hp,sm]
  |false=>rw[c6 (by rw[hp];exact Bool.false_ne_true),h a I' hp];grind
def cm(n p:Nat)(c):sm (List.range n) (λq=>if q=p then c else 0)=if p<n then c else 0:=by
 induction n with
 |zero=>rw[Q' Z'];rfl
 |succ n W=>
  rw[A9,ck,W];obtain h|h|h:=Nat.lt_trichotomy p n
  .rw[P' h,Q' (show ¬n=p by omega),P' (show p<n+1 by omega)];grind
  .rw[Q' (show ¬p<n by omega),P' h.symm,P' (show p<n+1 by omega)];grind
  rw[Q' (show ¬p<n by omega),Q' (show ¬n=p by omega),Q' (show ¬p<n+1 by omega)];grind
def gh(N:Nat)(L:List (Nat×Dyadic)):List Dyadic:=(List.range N).map λp=>sm L λq=>if q.1=p then q.2 else 0
def ai(N:Nat)(L:List (Nat×Dyadic)):(gh N L).length=N:=by simp[gh]
def Hx(N:Nat):gh N []=List.replicate N 0:=by
 refine List.ext_getElem (by simp[gh]) λi h1 h2=> ?_;simp[gh,sm]
def al{p:Nat}(L:List (Nat×Dyadic))(h:p<N):(gh N L)[p]?=some (sm L λq=>if q.1=p then q.2 else 0):=by
 unfold gh;rw[z',f_ h];rfl
def MA{p:Nat}{L:List (Nat×Dyadic)}{x v:Dyadic}(h:(gh N L)[p]?=some x):(gh N L).set p (x+v)=gh N (L++[(p,v)]):=by
 have hp:p<N:=by have:=(x'.1 h).1;rwa[ai] at this
 rw[al L hp] at h;refine g_ λi=> ?_;rw[L9];by_cases hi:p=i
 .subst hi;rw[P' rfl,ai,P' hp,al _ hp,ck,<-i' h,P' rfl]
 rw[Q' hi];by_cases w:i<N
 .rw[al _ w,al _ w,ck,Q' hi];congr 1;grind
 rw[K_ (by rw[ai];omega),K_ (by rw[ai];omega)]
def fU{l:List α}{f:α->Dyadic}(h:∀a∈l,Sz k (f a)):Sz (k+l.length) (sm l f):=by
 induction l with
 |nil=>exact Sz.zero _
 |cons a l W=>
  have h1:=W λb F=>h b (L' _ F);have h2:=((h a I').mono (show k<=k+l.length by omega)).add h1;rw[sm,T_];exact h2.mono Z'
def pB{L:List (Nat×Dyadic)}(h:∀a∈L,Sz k a.2):∀x∈gh N L,Sz (k+L.length) x:=λx C=>by
 obtain⟨p,_,rfl⟩:=B'.1 C;refine fU λa M=> ?_;split
 .exact h a M
 exact Sz.zero _
def ea:List Nat->Nat
 |[]=>1
 |d::ds=>(d+1)*ea ds
def Ya:List Nat->Nat->List Nat
 |[],_=>[]
 |d::ds,p=>p % (d+1)::Ya ds (p/(d+1))
def Jc:List Nat->List Nat->Nat
 |d::ds,r::rs=>r+(d+1)*Jc ds rs
 |_,_=>0
def ph:List Nat->List Nat->Prop
 |[],[]=>True
 |d::ds,r::rs=>r<=d/\ph ds rs
 |_,_=>False
def Pb(ds:List Nat):0<ea ds:=by
 induction ds with
 |nil=>exact Nat.one_pos
 |cons d ds W=>exact Q7 Z' W
def Jm:∀(ds:List Nat)(p:Nat),(Ya ds p).length=ds.length
 |[],_=>rfl
 |d::ds,p=>by rw[Ya,T_,Jm ds,T_]
def Xg:∀(ds:List Nat)(p:Nat),ph ds (Ya ds p)
 |[],_=>trivial
 |d::ds,p=>⟨by have:=Q_ p (show 0<d+1 by omega);omega,Xg ds _⟩
def KF:∀{ds:List Nat}{p:Nat},p<ea ds->Jc ds (Ya ds p)=p
 |[],p,h=>(by have:p<1:=h;show 0=p;omega)
 |d::ds,p,h=>by
  have h1:p/(d+1)<ea ds:=by rw[N9 Z',V_];exact h
  rw[Ya,Jc,KF h1,m7]
def Th:∀{ds rs:List Nat},ph ds rs->Jc ds rs<ea ds
 |[],[],_=>Nat.one_pos
 |d::ds,r::rs,h=>(by have h1:=Th h.2;have h2:=h.1;rw[Jc,ea];have G:(d+1)*Jc ds rs+(d+1)<=(d+1)*ea ds:=(by have:=D_ (d+1) (show Jc ds rs+1<=ea ds by omega);rw[n_,X_] at this;exact this);omega)
def Vg:∀{ds rs:List Nat},ph ds rs->Ya ds (Jc ds rs)=rs
 |[],[],_=>rfl
 |d::ds,r::rs,h=>(by have h2:=h.1;rw[Jc,Ya,W8,E_ Z',K9 _ _ Z',s_ Z',U_,Vg h.2])
def nB(d:Nat)(ds)(f:Nat->Dyadic):sm (List.range (ea (d::ds))) f=sm (List.range (ea ds)) λq=>sm (List.range (d+1)) λr=>f (r+(d+1)*q):=by
 have key:∀n,sm (List.range ((d+1)*n)) f=sm (List.range n) λq=>sm (List.range (d+1)) λr=>f (r+(d+1)*q):=λn=>by
  induction n with
  |zero=>rfl
  |succ n W=>
   rw[A9,ck,<-W,o9,List.range_add,Ik,Kt];congr 1;exact Ua λa _=>by rw[O8]
 exact key _
def VY(d:Int):List Int:=(List.range (d.toNat+1)).map λ(k:Nat)=>(k:Int)
def aao:List Int->List (List Int)
 |[]=>[[]]
 |d::ds=>(VY d).flatMap λk=>(aao ds).map (k:: ·)
def Ld(n:Nat):List Int:=List.replicate n 0
def nxt:List Int->List Int->Option (List Int)
 |d::ds,k::l=>match nxt ds l with
  |some D=>some (k::D)
  |none=>if k<d then some ((k+1)::Ld l.length) else none
 |_,_=>none
def af1{α:Type}(f:α->Option α):α->List α->Prop
 |a,[b]=>b=a/\f a=none
 |a,b::L=>b=a/\∃c,f a=some c/\af1 f c L
 |_,[]=>False
def pq(n:Nat):(Ld n).length=n:=by simp[Ld]
def okN:Int->List Int->Bool
 |_,[]=>true
 |n,d::ds=>decide (0<=d) && (decide (d<=127) && (decide (n*(d+1)<=65536) && okN (n*(d+1)) ds))
def fX(l:List Int):ByteArray:=str (l.map PA)
def aho(ds:List Int):List ByteArray:=if okN 1 ds then(aao ds).map fX else[]
def gX(d:Int)(s:ByteArray):List ByteArray:=(VY d).map λq=>s++str [PA q]
def ahS(ls:List Int)(k n:Nat):List Int:=ls.take k++Ld (n-k)
def bin:Nat->Nat->Nat
 |_,0=>1
 |0,_+1=>0
 |n+1,k+1=>bin n k+bin n (k+1)
def pr(n:Nat):bin n 0=1:=by cases n<;>rfl
def Yu:∀{n k:Nat},n<k->bin n k=0
 |0,k+1,_=>rfl
 |n+1,k+1,h=>by rw[bin,Yu (show n<k by omega),Yu (show n<k+1 by omega)]
def tG:∀n,bin n n=1
 |0=>rfl
 |n+1=>by rw[bin,tG n,Yu (show n<n+1 by omega)]
def oB:∀n k:Nat,bin n k<=2^n
 |n,0=>by rw[pr];exact N_ V'
 |0,k+1=>J' _
 |n+1,k+1=>(by have h1:=oB n k;have h2:=oB n (k+1);rw[bin,B_];omega)
def Hu(n:Nat):List Nat:=(List.range (n+1)).map (bin n)
def Ov(n:Nat):(Hu n).length=n+1:=by simp[Hu]
def mD(h:k<=n):(Hu n)[k]?=some (bin n k):=by
 unfold Hu;exact abi
def nD(n:Nat):Dyadic:=((n:Int):Dyadic)
def Vu:nD 0=0:=rfl
def Pt:nD 1=1:=rfl
def rD(a b:Nat):nD (a+b)=nD a+nD b:=by
 show Dyadic.ofIntWithPrec ((a+b:Nat):Int) 0=Dyadic.ofIntWithPrec (a:Int) 0+Dyadic.ofIntWithPrec (b:Int) 0;rw[nq,V8]
def SP(a b:Nat):nD (a*b)=nD a*nD b:=by
 induction a with
 |zero=>rw[C7,Vu];grind
 |succ a W=>rw[H9,rD,rD,W,Pt];grind
def WY(h:n<2^k):Sz k (nD n):=by
 refine⟨(n:Int)*2^k, ?_, ?_⟩
 .have:=xo (n:Int) 0 k;rw[show(0:Int)+(k:Int)=k by omega] at this;rw[this];rfl
 rw[q9,D8,Int.natAbs_natCast,show 2*k=k+k by omega,R_];exact N8 h (N_ V')
def Fv{α β:Type}{m:Nat}(hm:0<m)(g:α->List β):∀(l:List α)(p:Nat),(∀a∈l,(g a).length=m)->(l.flatMap g)[p]?=(l[p/m]?).bind λa=>(g a)[p % m]?
 |[],p,_=>by simp
 |a::l,p,h=>by
  have M:=h a I';rw[l8];by_cases hp:p<m
  .rw[m9 Z',s_ hp,E_ hp];rfl
  obtain⟨q,rfl⟩:∃q,p=q+m:=⟨p-m,Z'⟩;rw[S9 Z',M,Nat.add_sub_cancel,Fv hm g l q λb F=>h b (L' _ F),Nat.add_div_right _ hm,Nat.add_mod_right,p7]
def Au{α β:Type}{m:Nat}(g:α->List β):∀(l:List α),(∀a∈l,(g a).length=m)->(l.flatMap g).length=l.length*m
 |[],_=>by simp
 |a::l,h=>(by rw[l8,y',h a I',Au g l λb F=>h b (L' _ F),T_,H9,O8])
def Ha(l:List Nat):List Int:=l.map λ(n:Nat)=>(n:Int)
def Ub(l):(Ha l).length=l.length:=by simp[Ha]
def ue{l:List Nat}{i:Nat}(h:l[i]?=some n):(Ha l)[i]?=some (n:Int):=by simp[Ha,h]
def bo:∀{ds rs:List Nat},ph ds rs->rs.length=ds.length
 |[],[],_=>rfl
 |_::_,_::_,h=>by rw[T_,T_,bo h.2]
def JQ{ds rs:List Nat}{i d r:Nat}(T:ds[i]?=some d)(H:rs[i]?=some r):Jc (ds.take (i+1)).reverse (rs.take (i+1)).reverse=r+(d+1)*Jc (ds.take i).reverse (rs.take i).reverse:=by
 rw[ja T,ja H];simp[Jc]
def lS{ds:List Nat}{i d:Nat}(T:ds[i]?=some d):ea (ds.take (i+1)).reverse=(d+1)*ea (ds.take i).reverse:=by
 rw[ja T];simp[ea]
def Qc(a:List Nat)(b):ea (a++b)=ea a*ea b:=by
 induction a with
 |nil=>simp[ea]
 |cons d a W=>rw[C',ea,ea,W,Z9]
def Cc(ds:List Nat):ea ds.reverse=ea ds:=by
 induction ds with
 |nil=>rfl
 |cons d ds W=>rw[m8,Qc,W,ea,ea,ea,X_,V_]
def tg(ds:List Nat)(i:Nat):ea (ds.take i)<=ea ds:=by
 have:ds=ds.take i++ds.drop i:=(q_ i ds).symm
 calc ea (ds.take i)=ea (ds.take i)*1:=(X_ _).symm
  _<=ea (ds.take i)*ea (ds.drop i):=D_ _ (Pb _)
  _=ea ds:=by rw[<-Qc,q_]
def il(A)(n c:Nat)(ds)(w)(J:Sl w A n 1 (Pa ds))(a:n<=1000000):Calls prog 164 #[.slice A n c] w λr V=>∃B c',r=.returned (.slice B n c')/\V.ownsRow w.heap.size 3 1 (.slice B n c') n (Pa ds)/\Below w.heap.size w V:=by
 have I:=Hp.start w;obtain _|b:=A
 .have y:n=0:=(by exact abj);subst y;have Q:ds=[]:=Q8 (by simpa[Pa] using J.1);subst Q;refine Ca (l:=[.slice none 0 c]) func164 ?_;exact aa6
 refine Ca (l:=[.slice (some b) n c]) func164 ?_;refine fa ?_;refine JF ?_;intro R v I;refine mL ?_;refine mb I (i:=0) rfl rfl rfl (J.ext I.below) Qa.out pa.out rfl V' ?one1 Z' Z' V' ?kk1
 case one1=>first|rfl|assumption|exact Da _|exact oneCells_u8s _
 intro d H e I;exact sQ
def Pr(A)(n c:Nat)(xs)(w)(J:Sl w A n 3 (ia NR.cells xs))(e:n<=1000000):Calls prog 236 #[.slice A n c] w λr V=>∃B c',r=.returned (.slice B n c')/\V.ownsRow w.heap.size 30 3 (.slice B n c') n (ia NR.cells xs)/\Below w.heap.size w V:=by
 have I:=Hp.start w;obtain _|b:=A
 .have y:n=0:=(by exact abj);subst y;have Q:xs=[]:=Q8 (by have:=J.sa NR.len V';omega);subst Q;refine Ca (l:=[.slice none 0 c]) func236 ?_;exact aa6
 have a:((ia NR.cells xs).all Value.oneCell')=true:=Ia NR.one _;refine Ca (l:=[.slice (some b) n c]) func236 ?_;refine fa ?_;refine JF ?_;intro R v I;refine mL ?_;refine mb I (i:=0) rfl rfl rfl (J.ext I.below) Qa.out pa.out rfl V' ?one2 Z' Z' V' ?kk2
 case one2=>first|rfl|assumption|exact Da _|exact oneCells_u8s _
 intro d H f I;exact sQ
theorem gH(A:Option Addr)(n c:Nat)(l:List Int)(g:FuncId)(cap:List Value)(p:Int->Bool)(w:World)(J:Sl w A n 1 (Pa l))(B:n<=1000000)[la prog g] (s:∀(z:Int)(Z:World),z∈l->Below w.heap.size w Z->Calls prog g (.int .i64 z::cap).toArray Z λr V=>r=.returned (.bool (p z))/\Below Z.heap.size Z V):Calls prog 239 #[.slice A n c,.func (.func g) #[] cap.toArray] w λr V=>∃v,r=.returned (.int .i64 v)/\(0<=v↔l.any p=true)/\Below w.heap.size w V:=by
 have I:=Hp.start w;have m:l.length=n:=by have:=J.1;simpa[Pa] using this
 refine Ca func239 ?_;refine fa ?_;refine bf 8 (λv V=>∃i:Nat,i<=n/\v=.int .i64 i/\(l.take i).any p=false/\Hp w [] V) (λv _=>n-(intOf v).toNat) ?_ ?_
 .exact⟨0,J' _,rfl,rfl,I⟩
 clear I;rintro ρ' v V ⟨i,hi,rfl,X,I⟩;by_cases D:i<n
 .obtain⟨z,o⟩:=aa (l:=l) (k:=i) Z';have S:=Ic o;obtain⟨d,rfl,H⟩:=J.at_ Z';have E:=λZ=>s z Z (N' o)
  cases a:p z with
  |true=>
   rw[a] at E;refine fa ?_;refine sv (Ba pa.out rfl ((H.ext I.below).Yr S)) ?_;refine PJ ?_;(unhygienic intros)
   refine Xq ?_;intro I;exact dX
  |false=>
   rw[a] at E;refine fa ?_;refine sv (Ba pa.out rfl ((H.ext I.below).Yr S)) ?_;refine PJ ?_;exact vK
 exact OS
def HI(A)(n c:Nat)(l)(g:FuncId)(cap)(p:Int->Bool)(w)(b:Sl w A n 1 (Pa l))(B:n<=1000000)[la prog g] (s:∀(z:Int)(Z:World),z∈l->Below w.heap.size w Z->Calls prog g (.int .i64 z::cap).toArray Z λr V=>r=.returned (.bool (p z))/\Below Z.heap.size Z V):Zc 171 #[.slice A n c,.func (.func g) #[] cap.toArray] w (.bool (l.any p)):=by
 have I:=Hp.start w;refine Ca func171 ?_;refine fa ?_;refine Tc (gH A n c l g cap p _ (b.ext I.below) B s) la.out rfl V' ?_;rintro H e ⟨d,rfl,a,M⟩;exact wW
theorem LI(A:Option Addr)(n c:Nat)(l:List NR)(g:FuncId)(cap:List Value)(p:NR->Bool)(w:World)(J:Sl w A n 3 (ia NR.cells l))(B:n<=1000000)[la prog g] (s:∀(z:NR)(Z:World),z∈l->Below w.heap.size w Z->Calls prog g (.agg #[.bool z.neg,.string z.Va,.int .i64 z.e]::cap).toArray Z λr V=>r=.returned (.bool (p z))/\Below Z.heap.size Z V):Calls prog 240 #[.slice A n c,.func (.func g) #[] cap.toArray] w λr V=>∃v,r=.returned (.int .i64 v)/\(0<=v↔l.any p=true)/\Below w.heap.size w V:=by
 have I:=Hp.start w;have m:=J.sa NR.len V';refine Ca func240 ?_;refine fa ?_;refine bf 8 (λv V=>∃i:Nat,i<=n/\v=.int .i64 i/\(l.take i).any p=false/\Hp w [] V) (λv _=>n-(intOf v).toNat) ?_ ?_
 .exact⟨0,J' _,rfl,rfl,I⟩
 clear I;rintro ρ' v V ⟨i,hi,rfl,X,I⟩;by_cases D:i<n
 .obtain⟨z,o⟩:=aa (l:=l) (k:=i) Z';obtain⟨f,rfl,H⟩:=J.at_ Z';have E:=λZ=>s z Z (N' o)
  cases a:p z with
  |true=>
   refine eY ?_;(unhygienic intros)
   refine Xq ?_;intro I;exact dX
  |false=>
   refine eY ?_;exact vK
 exact OS
def GH(A)(n c:Nat)(l)(g:FuncId)(cap)(p:NR->Bool)(w)(b:Sl w A n 3 (ia NR.cells l))(B:n<=1000000)[la prog g] (s:∀(z:NR)(Z:World),z∈l->Below w.heap.size w Z->Calls prog g (z.V::cap).toArray Z λr V=>r=.returned (.bool (p z))/\Below Z.heap.size Z V):Zc 173 #[.slice A n c,.func (.func g) #[] cap.toArray] w (.bool (l.any p)):=by
 have I:=Hp.start w;refine Ca func173 ?_;refine fa ?_;refine Tc (LI A n c l g cap p _ (b.ext I.below) B s) la.out rfl V' ?_;rintro H f ⟨d,rfl,a,M⟩;exact wW
end Go.Proofs.YtbencocchdpikaaGreatDoor
