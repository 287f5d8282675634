/- Lemmas for ratioEncloses, part 4. -/
import Derived.LaidMore
import Derived.Lay
import Derived.Deep.Slices
import Derived.Stop.Joined
import Derived.Deep.Strs
import Derived.Laws.OwnMore
import Derived.Lib.SliceRun
import Derived.Test.YtbencocchdpikaaGreatDoorZ3
set_option linter.all false
set_option maxHeartbeats 0
namespace Go.Proofs.YtbencocchdpikaaGreatDoor
open Go.Proofs.Tryz
open Go.RowKit
variable {k n:Nat}{w:World}
def Sl.aeW{A:t6}{xs:t3}(h:Sl w A n 1 (Bh xs))(u:k<=n):Sl w A k 1 (Bh (xs.take k)):=by
 have Q:=h.1;rw[Rc] at Q;refine⟨by rw[Rc,q'];omega,λJ=> ?_⟩;obtain⟨b,he,H⟩:=h.2 Z';exact⟨b,he,by rw[nI];exact H.take k⟩
def Sl.adK{A:t6}{xs:t3}(h:Sl w A n 1 (Bh xs)):Sl w A (fe xs).length 1 (Bh (fe xs)):=by
 have Q:=h.1;rw[Rc] at Q;have:=Ie xs;have h2:=h.aeW (k:=(fe xs).length) Z';rwa[<-Kk] at h2
variable {w0:World}
def Hp.acx{H:List HE}{A:t6}{c:Nat}{t:TypeId}{xs:t3}(h:Hp w0 (.row A n c t 1 (Bh xs)::H) w)(Q:xs.length=n):Hp w0 (.row A (fe xs).length c t 1 (Bh (fe xs))::H) w:=by
 have h1:=Ie xs;have h2:=h.AF (k:=(fe xs).length) Z';rw[W_,<-nI,<-Kk] at h2;exact h2
variable {j:Nat}
def vn(A)(n c:Nat)(xs)(w)(C:Sl w A n 1 (Bh xs))(E:n<=c)(B:n<=1000000000000):Zc 276 #[wn A n c] w (wn A (fe xs).length c):=by
 have hlen:xs.length=n:=by have:=C.1;rw[Rc] at this;omega
 have I:=Hp.start w;refine Ga func276 ?_;refine ea ?_;refine rf 3 (λv V=>∃k:Nat,k<=n/\v=wd k/\fe (xs.take k)=fe xs/\V=w) (λv _=>(intOf v).toNat) ?_ ?_
 .exact⟨n,F' _,rfl,by rw[G' Z'],rfl⟩
 rintro ρ' v V ⟨k,u,rfl,t,rfl⟩;by_cases J:k=0
 .subst J;refine ea ?_;refine sv (cj (h:=0) Qa.out pa.size rfl rfl Z' Z') ?_;refine ea ?_;rw[<-t];exact⟨rfl,I.below⟩
 obtain⟨j,rfl⟩:∃j,k=j+1:=⟨k-1,Z'⟩;obtain⟨d,T⟩:=aa (l:=xs) (k:=j) Z';obtain⟨b,rfl,H⟩:=C.at_ Z';have r:=qs T;rw[ja T] at t;by_cases o:d=0
 .subst o;rw[jz] at t;refine qa (sr (mI ?_));refine Jr (mB (gT (mL (gT (mI ?_)))));refine PW ?_;refine⟨⟨j,Z',by show Value.int _ _=Value.int _ _;congr 1;omega,t,rfl⟩,by show(((j+1:Nat):Int)-1).toNat<(((j+1:Nat):Int)).toNat;omega, ?_⟩;exact Sb
 rw[nC o] at t;refine qa (sr (mI ?_));refine Jr (mB (gT (mL (gT (mI ?_)))));refine PW ?_;refine sv (cj (h:=j+1) Qa.out pa.size rfl rfl Z' Z') ?_;refine ea ?_;exact aaG
def lO{s:List UInt8}{c:UInt8}(E:(oH s)[j]?=some c.toNat)(u:k<8):c.toNat/2^k % 2=bn s/2^(8*j+k) % 2:=by
 have h1:=Fx (YD s) E;rw[<-h1,<-bn,Q_,W9,show(2^8:Nat)=256 from rfl,<-u9];generalize bn s/256^j=m;have e:(256:Nat)=2^k*2^(8-k):=by rw[<-Q_,show k+(8-k)=8 by omega]
 have L:2^(8-k)=2*2^(7-k):=by rw[<-Nat.pow_succ'];congr 1;omega
 rw[e,Nat.mod_mul_right_div_self,L,Nat.mod_mul_right_mod]
variable {N Y:Nat}
def kd(a:t7)(w)(r:a.size<=1000000000):Calls prog 230 #[wt a] w λe V=>∃A c,e=.returned (wn A (ya 2 (bN a)).length c)/\V.ownsRow w.heap.size 5 1 (wn A (ya 2 (bN a)).length c) (ya 2 (bN a)).length (Bh (ya 2 (bN a)))/\Below w.heap.size w V:=by
 have M:=td a;have I:=Hp.start w;refine Ga func230 ?_;refine ea ?_;replace I:=I.yb 5 1;refine Jh 3 4 (λo v V=>∃(j:Nat)(A:t6)(c:Nat),j<=a.size/\v=wd ((a.size:Int)-1-j)/\o=wn A (8*j) c/\Hp w [.row A (8*j) c 5 1 (Bh (Fb 2 (8*j) (bN a)))] V) (λ_ v _=>(intOf v+1).toNat) ?_ ?_
 .exact⟨0,none,0,N' _,by show Value.int _ _=Value.int _ _;congr 1;omega,rfl,I⟩
 clear I;rintro ρ' o v V ⟨j,A,c,hj,rfl,rfl,I⟩;by_cases D:j<a.size
 .obtain⟨Y,E⟩:=aa (l:=a.data.toList) (k:=((a.size:Int)-1-j).toNat) Z';have p:=LR (s:=a.data.toList) (i:=j) (c:=Y) Z' (by rw[<-E];congr 1;omega);have R:=Y.toNat_lt;refine ea ?_;refine Jh 3 5 (λo v V=>∃(k:Nat)(A:t6)(c:Nat),k<=8/\v=wd (k:Int)/\o=wn A (8*j+k) c/\Hp w [.row A (8*j+k) c 5 1 (Bh (Fb 2 (8*j+k) (bN a)))] V) (λ_ v _=>8-(intOf v).toNat) ?_ ?_
  .exact⟨0,A,c,N' _,rfl,rfl,I⟩
  clear I;rintro K o v x ⟨k,g,h,u,rfl,rfl,I⟩;by_cases d:k<8
  .have f:=lO p d;have hand:∀z:Nat,z &&& 1=z % 2:=λz=>Nat.and_one_is_mod z;have m:Y.toNat/2^(k:Int).toNat<256:=X9 (B8 _ _) R;refine ea ?_;refine sv (Es rfl rfl Z') ?_;refine bT ?_;refine xr ?_;intro L n I;refine Yl ?_;intro t y G I;refine jB ?_;intro I;have N:Bh (Fb 2 (8*j+k) (bN a))++[Value.int .u8 ((Y.toNat/2^(k:Int).toNat &&& 1:Nat):Int)]=Bh (Fb 2 (8*j+(k+1)) (bN a)):=(by rw[hand,z9,f,<-P7,Mm,Fz];rfl);rw[N] at I;refine⟨⟨k+1,t,y,Z',rfl,rfl,I⟩,by show 8-(k+1)<8-k;omega, ?_⟩;exact Sb
  obtain rfl:k=8:=Z';refine ea ?_;refine⟨⟨j+1,g,h,Z',by show Value.int _ _=Value.int _ _;congr 1;omega,rfl,I⟩,by show((a.size:Int)-1-j-1+1).toNat<((a.size:Int)-1-j+1).toNat;omega, ?_⟩;exact Sb
 obtain rfl:j=a.size:=Z';refine ea ?_;refine Gd I (vn _ _ _ (Fb 2 (8*a.size) (bN a)) _ (I.ka (i:=0) rfl) (I.pf (i:=0) rfl) Z') rfl ?_;intro q I;refine ea ?_;have F:=iC a;rw[show(256:Nat)=2^8 from rfl,<-W9] at F;have T:fe (Fb 2 (8*a.size) (bN a))=ya 2 (bN a):=(by rw[Qg Z' (Ke Z' _ _),Pb F]);have h1:=(Hp.acx (xs:=Fb 2 (8*a.size) (bN a)) I (Da _ _)).at_ (i:=0) rfl;exact CM
def WY{l:t3}{v:Nat}(h:j<l.length):l.reverse.set (l.length-1-j) v=(l.set j v).reverse:=by
 apply s_;intro i;obtain hi|hi:=z_ i l.length
 .rw[l_ (by rw[I9];exact hi),I9,g_,g_,l_ hi,r'];by_cases he:l.length-1-j=i
  .rw[Q' he,Q' Z',Q' Z',Q' h]
  rw[R' he,R' Z']
 exact abJ
def jL{i b:Nat}(P:Nat)(f:P<2^i)(F:b<2)(u:i/8<k):P/256^(i/8) % 256+b*2^(i % 8)<256/\(Fb 256 k P).set (i/8) (P/256^(i/8) % 256+b*2^(i % 8))=Fb 256 k (P+2^i*b):=by
 have hp:2^i=256^(i/8)*2^(i % 8):=(by rw[show(256:Nat)=2^8 from rfl,<-W9,<-Q_];congr 1;omega);have h1:P/256^(i/8)<2^(i % 8):=(by rw[S9 (L_ Z'),d',<-hp];exact f);have h2:2^(i % 8)<=128:=(by have:=K_ (show 0<2 by omega) (show i % 8<=7 by omega);omega);have G:P/256^(i/8) % 256<2^(i % 8):=X9 (Nat.mod_le _ _) h1;have z:b*2^(i % 8)<=1*2^(i % 8):=n_ _ Z';have a:2^i*b=256^(i/8)*(b*2^(i % 8)):=by rw[hp,V9,d' b]
 refine⟨Z', ?_⟩;rw[a];refine Bt Z' u ?_ Z';rw[<-a];have L:2^i*b<=2^i*1:=O_ _ Z';have N:2^(i+1)<=256^k:=(by rw[show(256:Nat)=2^8 from rfl,<-W9];exact K_ Z' Z');rw[B_] at N;omega
def kg(A)(n c:Nat)(xs)(w)(C:Sl w A n 1 (Bh xs))(T:Dg 2 xs)(E:n<=c)(o:n<=100000000000):Zc 229 #[wn A n c] w (wt (sN (Ka 2 xs))):=by
 have Q:=C.1;rw[Rc] at Q;have h:=Ie xs;have X:=C.adK;have g:=Qg Z' T;have hlen:=dL (Ka 2 xs);rw[g] at h X;have P:=(te (B:=2) Z' (Ka 2 xs)).1;have z:=He (B:=2) Z' (Ka 2 xs);have Y:(ya 2 (Ka 2 xs)).length=Wa (Ka 2 xs):=rfl;have I:=Hp.start w;refine Ga func229 ?_;refine ea ?_;refine Gd I (vn _ _ _ xs _ C E Z') rfl ?_;intro q I;rw[g];generalize Ka 2 xs=M at*;generalize ya 2 M=a at*;refine ea ?_;refine Jf (n:=(a.length+7)/8) I rfl rfl Z' Z' Qa.out pa.out rfl Z' Z' V' ?_;intro J t I;refine ea ?_;rw[Vs] at I;refine rf 4 (λv V=>∃i:Nat,i<=a.length/\v=wd i/\Hp w [.row (some ⟨J,0,none⟩) ((a.length+7)/8) ((a.length+7)/8) 5 1 (Bh (Fb 256 ((a.length+7)/8) (Ka 2 (a.take i))).reverse)] V) (λv _=>a.length-(intOf v).toNat) ?_ ?_
 .exact⟨0,N' _,rfl,by rw[x9,Ka,Pu,List.reverse_replicate];exact I⟩
 clear I;rintro ρ' v V ⟨i,hi,rfl,I⟩;by_cases e:i<a.length
 .obtain⟨d,F⟩:=aa (l:=a) (k:=i) Z';obtain⟨m,rfl,H⟩:=X.at_ Z';have r:=qs F;have K:=P.at_ F;have f:=ug (P.take i);rw[q',T9 Z'] at f;obtain⟨s1,s2⟩:=jL (k:=(a.length+7)/8) (Ka 2 (a.take i)) f K Z';have s:(Fb 256 ((a.length+7)/8) (Ka 2 (a.take i))).reverse[(a.length+7)/8-1-i/8]?=some (Ka 2 (a.take i)/256^(i/8) % 256):=(by rw[l_ (by rw[Da];omega),Da,show(a.length+7)/8-1-((a.length+7)/8-1-i/8)=i/8 by omega];exact ej _ _ _ Z');have D:=qs s;have N:((i:Int) % 8).toNat=i % 8:=Z';have p:=WY (l:=Fb 256 ((a.length+7)/8) (Ka 2 (a.take i))) (j:=i/8) (v:=Ka 2 (a.take i)/256^(i/8) % 256+d*2^(i % 8)) (by rw[Da];omega);rw[Da,s2] at p;refine ea ?_;refine Od 16 I ?_;refine Ba (i:=5) (λU Z hj hR=>Lr (show U 22=Value.int _ _ from hR.1) rfl Z' Z' Z') ?_;refine ub ?_;refine Ku ((a.length+7)/8-1-i/8) ?_;refine Ba (i:=8) (λU Z hj hR=>Ma pa.out (show U 25=Value.pointer _ from hR.1) (hj.hp.Pd (i:=0) rfl (by rw[W_];exact D))) ?_;refine ub ?_;refine Wi (i) ?_;refine Ym (λ_ hj=>(H.ext hj.hp.below).Dl r) ?_;refine Gv ?_;refine Ba (i:=14) (λU Z hj hR=>Oo (show U 31=Value.int _ _ from hR.1) rfl Z' Z') ?_;refine Ba (i:=15) (λU Z hj hR=>qp (show U 30=Value.int _ _ from hR.1) (show U 32=Value.int _ _ from hR.2.1) Z') ?_;refine dn ?_;intro W I;refine sv (zg rfl rfl) ?_;refine sv (Kc (k:=(a.length+7)/8-1-i/8) Qa.out pa.size rfl rfl Z' Z') ?_;refine Lb I (i:=0) (vs:=[_]) rfl rfl (Ac rfl) rfl pa.out rfl (by rw[Rc,r',Da];omega) rfl ?_;intro ws I;simp only[l'] at I
  rw[N,G_ (show d*2^(i % 8)<256 by omega),G_ s1,W_,Cc (by rw[Rc,r',Da];omega),vt,p,<-Kf F] at I;refine ea ?_;refine⟨⟨i+1,Z',rfl,I⟩,by show a.length-(i+1)<a.length-i;omega, ?_⟩;exact Sb
 obtain rfl:i=a.length:=Z';rw[C6,z,Y] at I;have b:Bh (Fb 256 ((Wa M+7)/8) M).reverse=jj (sb M):=(by rw[<-hlen];exact adV);rw[b,<-Y] at I;exact aaW
def YX{xs:t3}(h:Dg 2 xs)(i:Nat):Ka 2 xs/2^i % 2=(xs[i]?).getD 0:=by
 cases hi:xs[i]? with
 |some d=>exact Fx h hi
 |none=>
  rw[Cu h (List.getElem?_eq_none_iff.1 hi) Z'];rfl
def Ej(A)(n c i:Nat)(xs)(w)(C:Sl w A n 1 (Bh xs))(T:Dg 2 xs)(B:n<=1000000000000)(hi:i<=1000000000000):Zc 305 #[wn A n c,wd (i:Int)] w (.int .u8 ((Ka 2 xs/2^i % 2:Nat):Int)):=by
 have Q:=C.1;rw[Rc] at Q;have I:=Hp.start w;rw[YX T];by_cases D:i<n
 .obtain⟨d,F⟩:=aa (l:=xs) (k:=i) Z';obtain⟨b,rfl,H⟩:=C.at_ Z';have r:=qs F;rw[F];refine Ga (l:=[wn (some b) n c,wd (i:Int)]) func305 ?_;refine ea ?_;refine mw ?_;exact⟨rfl,I.below⟩
 rw[X_ Z'];refine Ga func305 ?_;refine ea ?_;exact⟨rfl,I.below⟩
def Tn(X i:Nat):X/2^i=2*(X/2^(i+1))+X/2^i % 2:=by
 rw[B_,<-u9];omega
def jC{X:Nat}(h:X/2^k<Y/2^k):X<Y:=by
 refine R6 λh2=> ?_;have:=Nat.div_le_div_right (c:=2^k) h2;omega
def bp(A B:t6)(n c m c':Nat)(xs ys:t3)(w:World)(C:Sl w A n 1 (Bh xs))(hy:Sl w B m 1 (Bh ys))(F:Dg 2 xs)(S:Dg 2 ys)(d:n<=100000000000)(hm:m<=100000000000):Zc 277 #[wn A n c,wn B m c'] w (wd (Gi (Ka 2 xs) (Ka 2 ys))):=by
 have p:=C.1;have R:=hy.1;rw[Rc] at p R;have I:=Hp.start w;have N:(if(m:Int)>(n:Int) then(m:Int) else(n:Int))-1=((max n m:Nat):Int)-1:=by split<;>omega
 refine Ga func277 ?_;refine ea ?_;rw[N];refine rf 5 (λv V=>∃k:Nat,k<=max n m/\v=wd ((k:Int)-1)/\Ka 2 xs/2^k=Ka 2 ys/2^k/\Hp w [] V) (λv _=>(intOf v+1).toNat) ?_ ?_
 .exact⟨max n m,F' _,rfl,by rw[Cu F Z' Z',Cu S Z' Z'],I⟩
 clear I;rintro ρ' v V ⟨k,u,rfl,heq,I⟩;by_cases J:k=0
 .subst J;refine ea ?_;rw[F7,y8,y8] at heq;exact⟨by rw[RM heq],I.below⟩
 obtain⟨j,rfl⟩:∃j,k=j+1:=⟨k-1,Z'⟩;have hj:((j+1:Nat):Int)-1=(j:Int):=Z';have a:=Tn (Ka 2 xs) j;have b:=Tn (Ka 2 ys) j;by_cases D:Ka 2 xs/2^j % 2<Ka 2 ys/2^j % 2
 .have Y:Ka 2 xs<Ka 2 ys:=jC (k:=j) Z';rw[hj];refine ea ?_;refine GH ?_;intro g I;refine ea ?_;refine rG ?_;intro q I;refine ea ?_;exact⟨by rw[Xl Y],I.below⟩
 by_cases L:Ka 2 ys/2^j % 2<Ka 2 xs/2^j % 2
 .have Y:Ka 2 ys<Ka 2 xs:=jC (k:=j) Z';rw[hj];refine ea ?_;refine GH ?_;intro g I;refine ea ?_;refine rG ?_;intro q I;refine ea ?_;refine GH ?_;intro G I;refine ea ?_;refine rG ?_;intro P I;refine ea ?_;exact⟨by rw[lu Y],I.below⟩
 rw[hj];refine ea ?_;refine GH ?_;intro g I;refine ea ?_;refine rG ?_;intro q I;refine ea ?_;refine GH ?_;intro G I;refine ea ?_;refine rG ?_;intro P I;refine ea ?_;refine⟨⟨j,Z',rfl,Z',I⟩,by show((j:Int)-1+1).toNat<((j:Int)+1).toNat;omega, ?_⟩;exact Sb
def rY(S T i:Nat):(S+T)/2^i % 2=(S/2^i % 2+(S % 2^i+T % 2^i)/2^i+T/2^i % 2) % 2/\(S % 2^(i+1)+T % 2^(i+1))/2^(i+1)=(S/2^i % 2+(S % 2^i+T % 2^i)/2^i+T/2^i % 2)/2/\(S % 2^i+T % 2^i)/2^i<=1:=by
 have J:=L9 S (2^i);have a:=L9 T (2^i);have hp:0<2^i:=L_ Z';have z:S % 2^(i+1)=S % 2^i+2^i*(S/2^i % 2):=by rw[B_,Nat.mod_mul]
 have W:T % 2^(i+1)=T % 2^i+2^i*(T/2^i % 2):=by rw[B_,Nat.mod_mul]
 have n:=R_ S hp;have d:=R_ T hp;have E:=L9 (S % 2^i+T % 2^i) (2^i);have h:=R_ (S % 2^i+T % 2^i) hp;have q:(S % 2^i+T % 2^i)/2^i<=1:=by
  have:(S % 2^i+T % 2^i)/2^i<2:=by rw[S9 hp];omega
  omega
 have N:(S+T)/2^i=S/2^i+T/2^i+(S % 2^i+T % 2^i)/2^i:=by
  have:S+T=(S % 2^i+T % 2^i) % 2^i+2^i*(S/2^i+T/2^i+(S % 2^i+T % 2^i)/2^i):=(by rw[j_,j_];omega)
  conv=>lhs;rw[this]
  rw[B9 _ _ hp,k_ h,i']
 refine⟨by rw[N];omega, ?_,q⟩;rw[z,W];have L:S % 2^i+2^i*(S/2^i % 2)+(T % 2^i+2^i*(T/2^i % 2))=(S % 2^i+T % 2^i) % 2^i+2^i*(S/2^i % 2+(S % 2^i+T % 2^i)/2^i+T/2^i % 2):=(by rw[j_,j_];omega);rw[L,B_,<-u9,B9 _ _ hp,k_ h,i']
def acJ(Y up i:Nat):Y*2^up/2^i % 2=if up<=i then Y/2^(i-up) % 2 else 0:=by
 split
 .rename_i h;have e:2^i=2^up*2^(i-up):=by rw[<-Q_];congr 1;omega
  rw[e,<-u9,Nat.mul_div_cancel _ (L_ Z')]
 rename_i h;have e:2^up=2^i*2*2^(up-i-1):=by rw[<-B_,<-Q_];congr 1;omega
 have L:Y*2^up=2^i*(2*(Y*2^(up-i-1))):=by rw[e];simp only[V9,L7]
 rw[L,Nat.mul_div_cancel_left _ (L_ Z')];omega
def aaU{K i:Nat}(h:i<K):(Fb 2 i N++List.replicate (K-i) 0).set i (N/2^i % 2)=Fb 2 (i+1) N++List.replicate (K-(i+1)) 0:=by
 rw[show K-i=(K-(i+1))+1 by omega,a8,q8 _ _ (by rw[Da];omega),Da,t_,l',Mm];simp
def Rp(A B)(n c m c' up:Nat)(xs ys)(w)(d:Sl w A n 1 (Bh xs))(hy:Sl w B m 1 (Bh ys))(F:Dg 2 xs)(S:Dg 2 ys)(E:n<=100000000000)(hm:m<=100000000000)(P:up<=100000000000):Calls prog 285 #[wn A n c,wn B m c',wd (up:Int)] w λe V=>∃b,e=.returned (wn (some ⟨b,0,none⟩) (max n (m+up)+1) (max n (m+up)+1))/\V.ownsRow w.heap.size 5 1 (wn (some ⟨b,0,none⟩) (max n (m+up)+1) (max n (m+up)+1)) (max n (m+up)+1) (Bh (Fb 2 (max n (m+up)+1) (Ka 2 xs+Ka 2 ys*2^up)))/\Below w.heap.size w V:=by
 have p:=d.1;have R:=hy.1;rw[Rc] at p R;have I:=Hp.start w;have g:(if((m:Int)+(up:Int))>(n:Int) then((m:Int)+(up:Int)) else(n:Int))+1=((max n (m+up)+1:Nat):Int):=by split<;>omega
 have hand:∀z:Nat,z &&& 1=z % 2:=λz=>Nat.and_one_is_mod z;refine Ga func285 ?_;refine ea ?_;rw[g];generalize y:max n (m+up)+1=K at*;refine Jf (n:=K) I rfl rfl Z' Z' Qa.out pa.out rfl Z' Z' V' ?_;intro k J I;refine ea ?_;rw[Vs] at I;refine Jh 8 9 (λcr v V=>∃i:Nat,i<=K/\v=wd (i:Int)/\cr=.int .u8 (((Ka 2 xs % 2^i+Ka 2 ys*2^up % 2^i)/2^i:Nat):Int)/\Hp w [.row (some ⟨k,0,none⟩) K K 5 1 (Bh (Fb 2 i (Ka 2 xs+Ka 2 ys*2^up)++List.replicate (K-i) 0))] V) (λ_ v _=>K-(intOf v).toNat) ?_ ?_
 .exact⟨0,N' _,rfl,by simp[Nat.mod_one];rfl,I⟩
 clear I;rintro ρ' cr v V ⟨i,hi,rfl,rfl,I⟩;by_cases D:i<K
 .obtain⟨G,T,x⟩:=rY (Ka 2 xs) (Ka 2 ys*2^up) i;have r:=acJ (Ka 2 ys) up i;have l:Ka 2 xs/2^i % 2<2:=R_ _ Z';have q:Ka 2 ys/2^(i-up) % 2<2:=R_ _ Z';have o:(Bh (Fb 2 i (Ka 2 xs+Ka 2 ys*2^up)++List.replicate (K-i) 0)).length=K:=by rw[Rc,D',Da,M9];omega
  have f:=aaU (N:=Ka 2 xs+Ka 2 ys*2^up) D;generalize M:(Ka 2 xs % 2^i+Ka 2 ys*2^up % 2^i)/2^i=C at*;generalize t:Ka 2 xs/2^i % 2=X at*;refine ea ?_;refine Gd I (Ej A n c i xs _ (d.ext I.below) F Z' Z') rfl ?_;intro u I;rw[t];by_cases a:up<=i
  .rw[Q' a] at r;rw[r] at G T;generalize j:Ka 2 ys/2^(i-up) % 2=Y at*;have es:((X+C) % 256+Y) % 256=X+C+Y:=Z';have h:(i:Int)-(up:Int)=((i-up:Nat):Int):=Z';refine mI ?_;refine sv (zg rfl rfl) ?_;refine ea ?_;rw[h];refine Gd I (Ej B m c' (i-up) ys _ (hy.ext I.below) S Z' Z') rfl ?_;intro W I;rw[j];refine aeE ?_;intro ws I;exact Sb
  rw[R' a] at r;rw[r] at G T;have es:(X+C) % 256=X+C+0:=Z';refine mI ?_;refine aeE ?_;intro ws I;exact Sb
 obtain rfl:i=K:=Z';exact aai
def yW{X:Nat}(h:Y<=X)(i:Nat):((2+X/2^i % 2+256-Y/2^i % 2) % 256+256-(if X % 2^i<Y % 2^i then 1 else 0)) % 256 % 2=(X-Y)/2^i % 2/\(1+256-((2+X/2^i % 2+256-Y/2^i % 2) % 256+256-(if X % 2^i<Y % 2^i then 1 else 0)) % 256/2) % 256=(if X % 2^(i+1)<Y % 2^(i+1) then 1 else 0):=by
 have t:=L9 X (2^i);have g:=L9 Y (2^i);have hp:0<2^i:=L_ Z';have T:X % 2^(i+1)=X % 2^i+2^i*(X/2^i % 2):=by rw[B_,Nat.mod_mul]
 have a:Y % 2^(i+1)=Y % 2^i+2^i*(Y/2^i % 2):=by rw[B_,Nat.mod_mul]
 have y:=R_ X hp;have c:=R_ Y hp;rw[T,a];generalize d:X/2^i=p at*;generalize W:Y/2^i=j at*;generalize S:X % 2^i=P at*;generalize K:Y % 2^i=C at*;have key:∀b:Nat,b=(if P<C then 1 else 0)->(X-Y)/2^i=p-j-b/\j+b<=p:=by
  intro b F;have hle:j+b<=p:=by
   refine x6 λD=> ?_;have h1:2^i*(p+1)<=2^i*(j+b):=O_ _ D;rw[j_,j_] at h1;split at F
   .subst F;omega
   subst F;omega
  refine⟨?_,hle⟩;have e:X-Y=(P+2^i*b-C)+2^i*(p-j-b):=by
   have h2:2^i*(p-j-b)=2^i*p-2^i*j-2^i*b:=by rw[Nat.mul_sub,Nat.mul_sub]
   have G:2^i*(j+b)<=2^i*p:=O_ _ hle;rw[j_] at G;split at F
   .subst F;omega
   subst F;omega
  rw[e,B9 _ _ hp,k_,i'];split at F
  .subst F;omega
  subst F;omega
 obtain⟨k1,k2⟩:=key _ rfl;rw[k1];have D:(P+2^i*(p % 2)<C+2^i*(j % 2))↔(p % 2<j % 2\/p % 2=j % 2/\P<C):=(by obtain h1|h1:=Nat.mod_two_eq_zero_or_one p<;>obtain h2|h2:=Nat.mod_two_eq_zero_or_one j<;>rw[h1,h2]<;>omega);by_cases F:P<C
 .rw[Q' F] at k2 |-;exact aeY
 rw[R' F] at k2 |-;exact aeY
def ku(A B)(n c m c':Nat)(xs ys)(w)(d:Sl w A n 1 (Bh xs))(hy:Sl w B m 1 (Bh ys))(F:Dg 2 xs)(S:Dg 2 ys)(u:n<=100000000000)(hm:m<=100000000000)(hle:Ka 2 ys<=Ka 2 xs):Calls prog 278 #[wn A n c,wn B m c'] w λe V=>∃b,e=.returned (wn (some ⟨b,0,none⟩) n n)/\V.ownsRow w.heap.size 5 1 (wn (some ⟨b,0,none⟩) n n) n (Bh (Fb 2 n (Ka 2 xs-Ka 2 ys)))/\Below w.heap.size w V:=by
 have p:=d.1;have R:=hy.1;rw[Rc] at p R;have I:=Hp.start w;have hand:∀z:Nat,z &&& 1=z % 2:=λz=>Nat.and_one_is_mod z;refine Ga func278 ?_;refine ea ?_;refine ZB ?_;intro J t I;refine ea ?_;rw[Vs] at I;refine Jh 6 7 (λcr v V=>∃i:Nat,i<=n/\v=wd (i:Int)/\cr=.int .u8 ((if Ka 2 xs % 2^i<Ka 2 ys % 2^i then 1 else 0:Nat):Int)/\Hp w [.row (some ⟨J,0,none⟩) n n 5 1 (Bh (Fb 2 i (Ka 2 xs-Ka 2 ys)++List.replicate (n-i) 0))] V) (λ_ v _=>n-(intOf v).toNat) ?_ ?_
 .exact⟨0,N' _,rfl,by simp[Nat.mod_one];rfl,I⟩
 clear I;rintro ρ' cr v V ⟨i,hi,rfl,rfl,I⟩;by_cases D:i<n
 .obtain⟨G,T⟩:=yW hle i;have l:Ka 2 xs/2^i % 2<2:=R_ _ Z';have g:Ka 2 ys/2^i % 2<2:=R_ _ Z';have L:(if Ka 2 xs % 2^i<Ka 2 ys % 2^i then 1 else 0:Nat)<=1:=by split<;>omega
  have o:(Bh (Fb 2 i (Ka 2 xs-Ka 2 ys)++List.replicate (n-i) 0)).length=n:=by rw[Rc,D',Da,M9];omega
  have f:=aaU (N:=Ka 2 xs-Ka 2 ys) D;refine ea ?_;refine Gd I (Ej A n c i xs _ (d.ext I.below) F Z' Z') rfl ?_;intro h I;refine sv (zg (a:=2) rfl rfl) ?_;refine ea ?_;refine Gd I (Ej B m c' i ys _ (hy.ext I.below) S Z' Z') rfl ?_;intro j I;generalize M:(if Ka 2 xs % 2^i<Ka 2 ys % 2^i then 1 else 0:Nat)=C at*;generalize q:Ka 2 xs/2^i % 2=X at*;generalize r:Ka 2 ys/2^i % 2=Y at*;have es:((2+X) % 256+256-Y) % 256=(2+X+256-Y) % 256:=Z';have k:((2+X+256-Y) % 256+256-C) % 256<256:=R_ _ Z';refine sv (Rs rfl rfl Z') ?_;refine mI ?_;rw[es];refine sv (Rs rfl rfl Z') ?_;refine ea ?_;refine bT ?_;refine ea ?_;refine vT ?_;intro ws I;simp only[l'] at I;rw[hand,G,W_,Cc (by rw[o];omega),vt,f] at I;refine ea ?_;refine sv (Xp (s:=1) (m:=2) rfl rfl V' V') ?_;refine sv (Rs (a:=1) rfl rfl Z') ?_;refine ea ?_;refine⟨⟨i+1,Z',rfl,by rw[<-T];rfl,I⟩,by show n-(i+1)<n-i;omega, ?_⟩;exact Sb
 obtain rfl:i=n:=Z';exact aai
def TB(n:Nat)(w)(B:n<18446744073709551616):Zc 228 #[.int .u64 (n:Int)] w (wt (sN n)):=by
 have I:=Hp.start w;refine Ga func228 ?_;refine ea ?_;replace I:=I.yb 5 1;refine Jh 0 3 (λv o V=>∃(k m:Nat)(A:t6)(c:Nat),v=.int .u64 (m:Int)/\m<18446744073709551616/\k<=64/\m<2^(64-k)/\o=wn A k c/\m=n/2^k/\Hp w [.row A k c 5 1 (Bh (Fb 2 k n))] V) (λv _ _=>(intOf v).toNat) ?_ ?_
 .exact⟨0,n,none,0,rfl,B,Z',by simpa using B,rfl,by simp,I⟩
 clear I;rintro ρ' v o V ⟨k,m,A,c,rfl,hm,j,C,rfl,Y,I⟩;by_cases J:m=0
 .subst J;refine ea ?_;refine Gd I (kg _ _ _ (Fb 2 k n) _ (I.ka (i:=0) rfl) (Ke Z' _ _) (I.pf (i:=0) rfl) Z') rfl ?_;intro g I;have D:n<2^k:=(by have:=L9 n (2^k);have h2:=R_ n (L_ (n:=k) (show 0<2 by omega));rw[<-Y] at this;omega);rw[Pb D];refine ea ?_;exact⟨rfl,I.below⟩
 have a:k<64:=(by refine R6 λh=> ?_;rw[show 64-k=0 by omega] at C;omega);have K:m % 2<256:=Z';refine ea ?_;refine sv (ME (b:=2) rfl rfl Z') ?_;refine vA ?_;refine xr ?_;intro e W I;refine Yl ?_;intro d u f I;refine jB ?_;intro I;refine sv (dK (b:=2) rfl rfl Z' (by first|assumption|omega)) ?_;refine ea ?_;have N:Bh (Fb 2 k n)++[Value.int .u8 ((m % 2:Nat):Int)]=Bh (Fb 2 (k+1) n):=(by rw[Y,Mm,Fz];rfl);rw[N] at I;refine⟨⟨k+1,m/2,d,u,rfl,Z',Z', ?_,rfl, ?_,I⟩,by show(((m/2:Nat):Int)).toNat<((m:Int)).toNat;omega, ?_⟩
 .rw[show 64-k=(64-(k+1))+1 by omega,B_] at C;omega
 .rw[Y,u9,B_]
 exact Sb
def lh(a):(ya 2 (bN a)).length<=8*a.size:=Xf a
def lk(n:Nat):Dg 2 (ya 2 n):=(te Z' n).1
def Dh(n:Nat):Ka 2 (ya 2 n)=n:=He Z' n
def mA(a b:t7)(w)(M:a.size<=1000000000)(F:b.size<=1000000000):Zc 286 #[wt a,wt b] w (wd (Gi (bN a) (bN b))):=by
 have I:=Hp.start w;have h1:=lh a;have h2:=lh b;refine Ga func286 ?_;refine ea ?_;refine cr I (kd a _ M) ?_;intro c P A I;refine mS ?_;refine cr I (kd b _ F) ?_;intro e K o I;refine Gd I (bp _ _ _ _ _ _ (ya 2 (bN a)) (ya 2 (bN b)) _ (I.ka (i:=1) rfl) (I.ka (i:=0) rfl) (lk _) (lk _) Z' Z') rfl ?_;intro z I;rw[Dh,Dh];refine ea ?_;exact⟨rfl,I.below⟩
def Gs(a:t7)(w)(M:a.size<=1000000000):Zc 190 #[wt a] w (wd (Wa (bN a))):=by
 have I:=Hp.start w;refine Ga func190 ?_;refine ea ?_;refine cr I (kd a _ M) ?_;intro t H y I;refine ea ?_;exact⟨rfl,I.below⟩
def Wr(a b:t7)(w)(M:a.size<=1000000000)(F:b.size<=1000000000):Zc 248 #[wt a,wt b] w (.tuple #[wt (sN (bN a-bN b)),ww (decide (bN b<=bN a))]):=by
 have I:=Hp.start w;have h1:=lh a;have h2:=lh b;by_cases D:bN a<bN b
 .refine Ga func248 ?_;refine ea ?_;refine cd I (mA a b _ M F) ?_;intro o I;rw[Xl D];exact aaV
 have E:¬Gi (bN a) (bN b)<0:=by unfold Gi;split<;>(try split)<;>omega
 have Y:bN a-bN b<2^(ya 2 (bN a)).length:=X9 (Nat.sub_le _ _) (wc (bN a));refine Ga func248 ?_;refine ea ?_;refine cd I (mA a b _ M F) ?_;intro o I;refine ea ?_;refine cr I (kd a _ M) ?_;intro J j e I;refine mS ?_;refine cr I (kd b _ F) ?_;intro d u f I;refine Hi (ku _ _ _ _ _ _ (ya 2 (bN a)) (ya 2 (bN b)) _ (I.ka (i:=1) rfl) (I.ka (i:=0) rfl) (lk _) (lk _) Z' Z' (by rw[Dh,Dh];omega)) rfl ?_;rintro H w_ ⟨z,rfl,t,c⟩;refine⟨_,rfl, ?_⟩;replace I:=I.Ed (x:=.row _ _ _ _ _ _) c t;rw[Dh,Dh] at I;refine Gd I (kg _ _ _ (Fb 2 (ya 2 (bN a)).length (bN a-bN b)) _ (I.ka (i:=0) rfl) (Ke Z' _ _) (F' _) Z') rfl ?_;intro g I;rw[Pb Y];refine ea ?_;rw[w' Z'];exact⟨rfl,I.below⟩
def DK(a:t7)(m:Nat)(w)(b:a.size<=1000000000)(hm:m<=10000000000):Zc 249 #[wt a,wd (m:Int)] w (wt (sN (bN a*2^m))):=by
 have I:=Hp.start w;have h1:=lh a;have N:(if(0:Int)>(m:Int) then 0 else(m:Int))=m:=R' Z';have q:bN a*2^m<2^(max 0 ((ya 2 (bN a)).length+m)+1):=(by refine c_ (wc _) (K_ Z' ?_);have:=zh (bN a) m;show Wa _<=max 0 (Wa _+m)+1;omega);refine Ga func249 ?_;refine ea ?_;refine cr I (kd a _ b) ?_;intro c P A I;refine ea ?_;rw[N];refine Hi (Rp none _ 0 0 _ _ m [] (ya 2 (bN a)) _ (Sl.nil _ _ _) (I.ka (i:=0) rfl) Dg.nil (lk _) Z' Z' Z') rfl ?_;rintro H w_ ⟨C,rfl,t,M⟩;refine Zt ?_;intro I;rw[Dh,Ka,i'] at I;refine Gd I (kg _ _ _ (Fb 2 (max 0 ((ya 2 (bN a)).length+m)+1) (bN a*2^m)) _ (I.ka (i:=0) rfl) (Ke Z' _ _) (F' _) Z') rfl ?_;intro G I;rw[Pb q];refine ea ?_;exact⟨rfl,I.below⟩
def BJ(L)(n c:Nat)(ss:List t7)(w)(J:Sl w L n 1 (xk ss))(B:n<=1000000)(f:∀s∈ss,s.size<=1000000000):Zc 247 #[wn L n c] w (wt (sN (ss.map bN).sum)):=by
 have h:ss.length=n:=by have:=J.1;rw[Bp] at this;omega
 have I:=Hp.start w;refine Ga func247 ?_;refine ea ?_;replace I:=I.yb 5 1;refine Jh 3 4 (λv j V=>∃(i:Nat)(A:t6)(c' T K:Nat),i<=n/\j=wd i/\T=((ss.take i).map bN).sum/\v=wn A K c'/\K<=8000000000+i/\T<2^K/\Hp w [.row A K c' 5 1 (Bh (Fb 2 K T))] V) (λ_ j _=>n-(intOf j).toNat) ?_ ?_
 .exact⟨0,none,0,0,0,N' _,rfl,rfl,rfl,Z',by simp,I⟩
 clear I;rintro ρ' v j V ⟨i,A,c',T,K,hi,rfl,S,rfl,d,a,I⟩;by_cases D:i<n
 .obtain⟨s,r⟩:=aa (l:=ss) (k:=i) Z';obtain⟨u,rfl,H⟩:=J.at_ Z';have g:=Gu r;have b:=f s (O' r);have p:=lh s;have W:((ss.take (i+1)).map bN).sum=T+bN s:=by rw[ja r,q_,I7,Ru,S]
  have e:bN s<2^(ya 2 (bN s)).length:=wc _;have R:T+bN s<2^(max K ((ya 2 (bN s)).length+0)+1):=(by have h1:2^K<=2^max K ((ya 2 (bN s)).length+0):=K_ Z' Z';have h2:2^(ya 2 (bN s)).length<=2^max K ((ya 2 (bN s)).length+0):=K_ Z' Z';rw[B_];omega);refine ea ?_;refine nH ?_;refine cr I (kd s _ b) ?_;intro o C m I;refine Hi (Rp _ _ _ _ _ _ 0 (Fb 2 K T) (ya 2 (bN s)) _ (I.ka (i:=1) rfl) (I.ka (i:=0) rfl) (Ke Z' _ _) (lk _) Z' Z' Z') rfl ?_;rintro y w_ ⟨P,rfl,t,M⟩;refine⟨_,rfl, ?_⟩;rw[Dh,Pb a,F7,W_] at t;replace I:=(I.Ed (x:=.row _ _ _ _ _ _) M t).sub (I6 [_] _);refine ea ?_;refine⟨⟨i+1,_,_,T+bN s,_,Z',rfl,W.symm,rfl,Z',R,I⟩,by show n-(i+1)<n-i;omega, ?_⟩;exact Sb
 refine ea ?_;refine Gd I (kg _ _ _ (Fb 2 K T) _ (I.ka (i:=0) rfl) (Ke Z' _ _) (I.pf (i:=0) rfl) Z') rfl ?_;intro q I;rw[Pb a];refine ea ?_;rw[G' Z'] at S;rw[S];exact⟨rfl,I.below⟩
def fL(a b:t7)(w)(n:a.size<=1000000000)(F:b.size<=1000000000):Zc 246 #[wt a,wt b] w (wt (sN (bN a*bN b))):=by
 have I:=Hp.start w;have h1:=lh a;have h2:=lh b;have c:bN b<2^(ya 2 (bN b)).length:=wc _;have Y:=lk (bN a);have m:=Dh (bN a);refine Ga func246 ?_;refine ea ?_;refine cr I (kd a _ n) ?_;intro h q p I;refine mS ?_;refine cr I (kd b _ F) ?_;intro z L W I;generalize ya 2 (bN a)=xs at*;refine ea ?_;replace I:=I.yb 5 1;refine Jh 7 8 (λv j V=>∃(i:Nat)(A:t6)(c' P K:Nat),i<=xs.length/\j=wd i/\P=Ka 2 (xs.take i)*bN b/\v=wn A K c'/\K<=(ya 2 (bN b)).length+i/\P<2^K/\Hp w [.row A K c' 5 1 (Bh (Fb 2 K P)),.row z (ya 2 (bN b)).length L 5 1 (Bh (ya 2 (bN b))),.row h xs.length q 5 1 (Bh xs)] V) (λ_ j _=>xs.length-(intOf j).toNat) ?_ ?_
 .exact⟨0,none,0,0,0,N' _,rfl,by simp[Ka],rfl,Z',by simp,I⟩
 clear I;rintro ρ' v j V ⟨i,A,c',P,K,hi,rfl,f,rfl,y,e,I⟩;by_cases D:i<xs.length
 .obtain⟨d,T⟩:=aa (l:=xs) (k:=i) Z';have r:=qs T;have o:=Y.at_ T;have X:=Kf (B:=2) T;obtain⟨g,rfl⟩:=I.ib (i:=2) rfl Z';by_cases J:d=0
  .subst J;refine EN ?_;refine⟨⟨i+1,_,_,P,_,Z',rfl,by rw[X,f];simp,rfl,Z',e,I⟩,by show xs.length-(i+1)<xs.length-i;omega, ?_⟩;exact Sb
  obtain rfl:d=1:=Z';have R:P+bN b*2^i<2^(max K ((ya 2 (bN b)).length+i)+1):=(by have h1:2^K<=2^max K ((ya 2 (bN b)).length+i):=K_ Z' Z';have h2:2^((ya 2 (bN b)).length+i)<=2^max K ((ya 2 (bN b)).length+i):=K_ Z' Z';have G:bN b*2^i<2^(ya 2 (bN b)).length*2^i:=m8 c (L_ Z');rw[<-Q_] at G;rw[B_];omega);refine EN ?_;refine Hi (Rp _ _ _ _ _ _ i (Fb 2 K P) (ya 2 (bN b)) _ (I.ka (i:=0) rfl) (I.ka (i:=1) rfl) (Ke Z' _ _) (lk _) Z' Z' Z') rfl ?_;rintro H w_ ⟨Q,rfl,t,M⟩;refine⟨_,rfl, ?_⟩;rw[Dh,Pb e] at t;replace I:=(I.Ed (x:=.row _ _ _ _ _ _) M t).sub (.cons_cons _ (.cons _ (u_ _)));refine ea ?_;refine⟨⟨i+1,_,_,_,_,Z',rfl, ?_,rfl,Z',R,I⟩,by show xs.length-(i+1)<xs.length-i;omega, ?_⟩
  .rw[X,f,K8,W_,d' (2^i)]
  exact Sb
 rw[G' Z',m] at f;refine ea ?_;refine Gd I (kg _ _ _ (Fb 2 K P) _ (I.ka (i:=0) rfl) (Ke Z' _ _) (I.pf (i:=0) rfl) Z') rfl ?_;intro s I;rw[Pb e,f];refine ea ?_;exact⟨rfl,I.below⟩
def pT(X Y k:Nat)(g:0<Y):X/2^k % Y=(if Y<=X/2^k % 2+2*(X/2^(k+1) % Y) then X/2^k % 2+2*(X/2^(k+1) % Y)-Y else X/2^k % 2+2*(X/2^(k+1) % Y))/\
  X/2^k/Y % 2=(if Y<=X/2^k % 2+2*(X/2^(k+1) % Y) then 1 else 0)/\X/2^k/Y/2=X/2^(k+1)/Y:=by
 have h1:=Tn X k;have F:X/2^k % 2<2:=R_ _ Z';generalize X/2^k % 2=b at*;generalize X/2^k=Z at*;generalize X/2^(k+1)=V at*;have h2:=L9 V Y;have G:=R_ V g;generalize V/Y=q at*;generalize V % Y=r at*;have e:Z=(b+2*r)+Y*(2*q):=by rw[h1,<-h2,j_,L7];omega
 rw[e,V8,B9 _ _ g];by_cases E:Y<=b+2*r
 .rw[Q' E,Q' E];have L:b+2*r=(b+2*r-Y)+Y*1:=Z';have z:b+2*r-Y<Y:=Z';have P:(b+2*r)/Y=1:=by rw[L,B9 _ _ g,k_ z]
  have a:(b+2*r) % Y=b+2*r-Y:=by conv=>lhs;rw[L,V8,G_ z]
  rw[P,a];omega
 rw[R' E,R' E,G_ Z',k_ Z'];omega
def Cr(a b:t7)(w)(Q:a.size<=1000000000)(W:b.size<=1000000000)(S:bN b≠0):Zc 231 #[wt a,wt b] w (.tuple #[wt (sN (bN a/bN b)),wt (sN (bN a % bN b)),ww true]):=by
 have I:=Hp.start w;have h1:=lh a;have h2:=lh b;have hX:=Dh (bN a);have Y:=lk (bN a);have y:bN a<2^(ya 2 (bN a)).length:=wc _;have X:0<(ya 2 (bN b)).length:=Gp S;have n:∀k,k<(ya 2 (bN a)).length->(ya 2 (bN a))[k]?=some (bN a/2^k % 2):=λk D=>HA Z' D;refine Ga func231 ?_;refine ea ?_;refine cr I (kd a _ Q) ?_;intro e u w13 I;refine mS ?_;refine cr I (kd b _ W) ?_;intro P T w15 I;refine ea ?_;refine Jf I rfl rfl rfl rfl Qa.out pa.out rfl Z' Z' V' ?_;intro f w21 I;refine ea ?_;rw[Vs] at I;generalize hxs:ya 2 (bN a)=xs at*;replace I:=I.yb 5 1;refine Jh 10 11 (λv j V=>∃(k:Nat)(A:t6)(c':Nat),k<=xs.length/\j=wd ((k:Int)-1)/\v=wn A (ya 2 (bN a/2^k % bN b)).length c'/\Hp w [.row A (ya 2 (bN a/2^k % bN b)).length c' 5 1 (Bh (ya 2 (bN a/2^k % bN b))),.row (some ⟨f,0,none⟩) xs.length xs.length 5 1 (Bh (List.replicate k 0++Fb 2 (xs.length-k) (bN a/2^k/bN b))),.row P (ya 2 (bN b)).length T 5 1 (Bh (ya 2 (bN b))),.row e xs.length u 5 1 (Bh xs)] V) (λ_ j _=>(intOf j+1).toNat) ?_ ?_
 .refine⟨xs.length,none,0,F' _,rfl, ?_, ?_⟩
  .rw[k_ y,Nat.zero_mod,uh Z'];rfl
  rw[k_ y,Nat.zero_mod,uh Z',t_];simp only[Fb,I_];exact I
 clear I;rintro ρ' v j V ⟨k,A,c',D,rfl,rfl,I⟩;by_cases J:k=0
 .subst J;rw[F7,y8,Nat.sub_zero,E6,J'] at I;rw[F7,y8];have hq:bN a/bN b<2^xs.length:=X9 (B8 _ _) y;have s:(ya 2 (bN a % bN b)).length<=(ya 2 (bN b)).length:=Jj Z' (O6 (R_ _ Z'));refine ea ?_;refine Gd I (kg _ _ _ (Fb 2 xs.length (bN a/bN b)) _ (I.ka (i:=1) rfl) (Ke Z' _ _) (F' _) Z') rfl ?_;intro w49 I;rw[Pb hq];refine mL ?_;refine Gd I (kg _ _ _ (ya 2 (bN a % bN b)) _ (I.ka (i:=0) rfl) (lk _) (I.pf (i:=0) rfl) Z') rfl ?_;intro w51 I;rw[Dh];refine ea ?_;exact⟨rfl,I.below⟩
 obtain⟨i,rfl⟩:∃i,k=i+1:=⟨k-1,Z'⟩;have o:((i+1:Nat):Int)-1=(i:Int):=Z';obtain⟨d1,d2,d3⟩:=pT (bN a) (bN b) i Z';have hgi:=qs (n i Z');have K:bN a/2^i % 2<2:=R_ _ Z';have s:(ya 2 (bN a/2^(i+1) % bN b)).length<=(ya 2 (bN b)).length:=Jj Z' (O6 (R_ _ Z'));have G:Fb 2 (xs.length-i) (bN a/2^i/bN b)=(bN a/2^i/bN b % 2)::Fb 2 (xs.length-(i+1)) (bN a/2^(i+1)/bN b):=(by rw[show xs.length-i=(xs.length-(i+1))+1 by omega,Fb,d3]);rw[o];obtain⟨g,rfl⟩:=I.ib (i:=3) rfl Z';refine ea ?_;refine sv (Ma pa.out rfl (I.Pd (i:=3) rfl (by first|assumption|(simp only[W_];assumption)))) ?_;refine xr ?_;intro E w33 I;refine mL ?_;refine pb I (i:=0) rfl rfl rfl (I.ka (i:=1) rfl) Qa.out pa.out rfl V' (by first|rfl|exact kc _|exact Mb _|exact Ja _|exact Pa NR.one _) Z' Z' V' ?_;intro L H w35 I;simp only[l'] at I;have C:[Value.int .u8 ((bN a/2^i % 2:Nat):Int)]++Bh (ya 2 (bN a/2^(i+1) % bN b))=Bh ((bN a/2^i % 2)::ya 2 (bN a/2^(i+1) % bN b)):=rfl;rw[C] at I;generalize hR:bN a/2^(i+1) % bN b=R at*;generalize hbt:bN a/2^i % 2=p at*;have m:Dg 2 (p::ya 2 R):=Dg.cons K (lk _);have z:fe (p::ya 2 R)=ya 2 (p+2*R):=by rw[Qg Z' m,Ka,Dh]
 have q:(p::ya 2 R).length=1+(ya 2 R).length:=by rw[V_];omega
 have h:=Ie (p::ya 2 R);refine Gd I (vn _ _ _ (p::ya 2 R) _ (I.ka (i:=0) rfl) (I.pf (i:=0) rfl) Z') rfl ?_;intro w36 I;replace I:=I.acx q;rw[z] at I h;rw[z];refine ea ?_;refine Gd I (bp _ _ _ _ _ _ (ya 2 (p+2*R)) (ya 2 (bN b)) _ (I.ka (i:=0) rfl) (I.ka (i:=3) rfl) (lk _) (lk _) Z' Z') rfl ?_;intro w39 I;rw[Dh,Dh];by_cases N:bN b<=p+2*R
 .have hc:0<=Gi (p+2*R) (bN b):=by unfold Gi;rw[R' Z'];split<;>omega
  rw[Q' N] at d1 d2;have r:p+2*R-bN b<2^(ya 2 (p+2*R)).length:=X9 (Nat.sub_le _ _) (wc _);have l:fe (Fb 2 (ya 2 (p+2*R)).length (p+2*R-bN b))=ya 2 (p+2*R-bN b):=by rw[Qg Z' (Ke Z' _ _),Pb r]
  refine ea ?_;refine Hi (ku _ _ _ _ _ _ (ya 2 (p+2*R)) (ya 2 (bN b)) _ (I.ka (i:=0) rfl) (I.ka (i:=3) rfl) (lk _) (lk _) Z' Z' (by rw[Dh,Dh];exact N)) rfl ?_;rintro e_ w_ ⟨F,rfl,t,M⟩;refine Zt ?_;intro I;rw[Dh,Dh] at I;refine Gd I (vn _ _ _ (Fb 2 (ya 2 (p+2*R)).length (p+2*R-bN b)) _ (I.ka (i:=0) rfl) (F' _) Z') rfl ?_;intro w44 I;replace I:=I.acx (Da _ _);rw[l] at I;rw[l];have c:(Bh (List.replicate (i+1) 0++Fb 2 (xs.length-(i+1)) (bN a/2^(i+1)/bN b))).length=xs.length:=by rw[Rc,D',M9,Da];omega
  refine ea ?_;refine Lb I (i:=3) (vs:=[_]) rfl rfl (Ac rfl) rfl pa.out rfl (by rw[c];omega) rfl ?_;refine Uv ?_;intro ws I;rw[W_,Cc (by rw[c];omega)] at I;have d:(Bh (List.replicate (i+1) 0++Fb 2 (xs.length-(i+1)) (bN a/2^(i+1)/bN b))).set i (.int .u8 1)=Bh (List.replicate i 0++Fb 2 (xs.length-i) (bN a/2^i/bN b)):=(by have:=vt (List.replicate (i+1) 0++Fb 2 (xs.length-(i+1)) (bN a/2^(i+1)/bN b)) i 1;rw[G,d2,<-YM];exact this);rw[d] at I;replace I:=I.sub (.cons_cons _ (.cons _ (.cons _ (u_ _))));refine ea ?_;exact aaS
 have hc:¬0<=Gi (p+2*R) (bN b):=by rw[Xl Z'];omega
 rw[R' N] at d1 d2;refine ea ?_;have B:List.replicate (i+1) 0++Fb 2 (xs.length-(i+1)) (bN a/2^(i+1)/bN b)=List.replicate i 0++Fb 2 (xs.length-i) (bN a/2^i/bN b):=(by rw[G,d2,List.replicate_succ',J_];rfl);rw[B] at I;replace I:=I.sub (.cons_cons _ (.cons _ (u_ _)));exact aaS
def rr:Wa n=0↔n=0:=by
 constructor
 .intro h;have:=wc n;rw[h] at this;omega
 intro h;rw[h];exact Jm
def Am{a b:Nat}(h:a<=b):Wa a<=Wa b:=Uc (X9 h (wc b))
def KT(a b:Nat):Wa (a+b)<=Wa a+Wa b+1:=by
 apply Uc;have h1:=wc a;have h2:=wc b;have G:2^Wa a<=2^(Wa a+Wa b):=K_ Z' Z';have z:2^Wa b<=2^(Wa a+Wa b):=K_ Z' Z';rw[B_];omega
def md(s:Bool)(m:t7)(w:World)(hm:m.size<=1000000000):Zc 157 #[.agg #[ww s,wt m]] w (.agg #[ww (iN (iv s m)),wt (iM (iv s m))]):=by
 have I:=Hp.start w;have h1:=lh m;rw[aax,AL]
 cases s with
 |false=>
  refine Ga (l:=[.agg #[ww false,wt m]]) func157 ?_;refine Ib ?_;intro G Z I T q I;refine cr I (kd m _ hm) ?_;intro c P A I;refine mR ?_;intro e I;rw[Dh];refine Gb ?_;intro ws I;exact jU
 |true=>
  by_cases J:sN (bN m)=ByteArray.mk #[]
  .refine Ga (l:=[.agg #[ww true,wt m]]) func157 ?_;refine Ib ?_;intro G Z I T q I;refine cr I (kd m _ hm) ?_;intro c P A I;refine mR ?_;intro e I;rw[Dh];refine ea ?_
   (first|refine sv (Bi rfl rfl (by first|rfl|assumption|decide)) ?_|refine sv (xi rfl rfl (by first|assumption|decide)) ?_)
   refine Gb ?_;intro ws I;refine PF ?_;exact O2
  refine Ga (l:=[.agg #[ww true,wt m]]) func157 ?_;refine Ib ?_;intro G Z I T q I;refine cr I (kd m _ hm) ?_;intro c P A I;refine mR ?_;intro e I;rw[Dh];refine ea ?_
  (first|refine sv (Bi rfl rfl (by first|rfl|assumption|decide)) ?_|refine sv (xi rfl rfl (by first|assumption|decide)) ?_)
  refine Gb ?_;intro ws I;refine PF ?_;exact J1
def LJ(s:Bool)(m:t7)(w)(hm:m.size<=1000000000):Zc 250 #[.agg #[ww s,wt m]] w (.agg #[ww (iN (-(iv s m))),wt (iM (-(iv s m)))]):=by
 have I:=Hp.start w;have N:iv (!s) m= -(iv s m):=by unfold iv;cases s<;>simp
 refine Ga func250 ?_;refine Ib ?_;intro G Z I T q I;refine cd I (md (!s) m _ hm) ?_;intro z I;exact mX
def Ei(s:Bool)(m:t7)(w)(hm:m.size<=1000000000):Zc 111 #[.agg #[ww s,wt m]] w (wd (iv s m).sign):=by
 have I:=Hp.start w;by_cases J:bN m=0
 .have F:Wa (bN m)=0:=rr.2 J;refine Ga func111 ?_;refine Gb ?_;intro G Z I;refine cd I (Gs m _ hm) ?_;intro v I;refine ea ?_;have o:iv s m=0:=by unfold iv;split<;>omega
  exact⟨by rw[o];rfl,I.below⟩
 have F:Wa (bN m)≠0:=λh=>J (rr.1 h)
 cases s with
 |true=>
  refine Ga (l:=[.agg #[ww true,wt m]]) func111 ?_;refine Gb ?_;intro G Z I;refine cd I (Gs m _ hm) ?_;intro v I;refine ea ?_;have o:iv true m<0:=by unfold iv;rw[Q' rfl];omega
  exact⟨by rw[g9 o],I.below⟩
 |false=>
  refine Ga (l:=[.agg #[ww false,wt m]]) func111 ?_;refine Gb ?_;intro G Z I;refine cd I (Gs m _ hm) ?_;intro v I;refine ea ?_;have o:0<iv false m:=by unfold iv;rw[R' (by simp)];omega
  exact⟨by rw[X8 o],I.below⟩
def uq(n:Int)(w)(h1: -9223372036854775808<=n)(h2:n<=9223372036854775807):Zc 156 #[wd n] w (.agg #[ww (iN n),wt (iM n)]):=by
 have I:=Hp.start w;by_cases J:n<0
 .have B:iN n=true:=w' J;obtain⟨m,hm⟩:=B6 (by omega:0<= -(n+1));have M:n.natAbs=m+1:=Z';have hw:(m+1) % 18446744073709551616=m+1:=G_ Z';refine Ga func156 ?_;refine sr ?_;refine ik I ?_;intro T q I;refine ia (qa (sr (mI ?_)));refine Ji (ia (cT (sr (mI ?_))));refine al ?_;refine sv (Cn rfl Z' Z') ?_;rw[show -(n+1)=(m:Int) from hm];refine vA ?_;refine sv (zg (b:=1) rfl rfl) ?_;rw[hw];refine Gd I (TB (m+1) _ Z') rfl ?_;intro G I;rw[<-M];refine Su ?_;intro ws I;rw[B];exact⟨rfl,I.below⟩
 obtain⟨m,rfl⟩:=B6 (by omega:0<=n);have B:iN (m:Int)=false:=m' Z';have hm:m<18446744073709551616:=Z';have N:iM (m:Int)=sN m:=rfl;refine Ga (l:=[wd (m:Int)]) func156 ?_;refine u3 ?_;intro T q I;refine cd I (TB m _ hm) ?_;intro Y I;refine Su ?_;intro ws I;rw[B,N];exact⟨rfl,I.below⟩
def Wl(s t:Bool)(a b:t7)(w:World)(H:a.size<=100000000)(J:b.size<=100000000):Zc 186 #[.agg #[ww s,wt a],.agg #[ww t,wt b]] w (.agg #[ww (iN (iv s a+iv t b)),wt (iM (iv s a+iv t b))]):=by
 have I:=Hp.start w;have k:=Xf a;have r:=Xf b;by_cases e:s=t
 .subst e;have N:iv s (sN (bN a+bN b))=iv s a+iv s b:=by unfold iv;rw[Af];split<;>omega
  have M:(sN (bN a+bN b)).size<=1000000000:=by rw[Ki];have:=KT (bN a) (bN b);omega
  rw[<-N];refine Ga (l:=[.agg #[ww s,wt a],.agg #[ww s,wt b]]) func186 ?_;refine Ii ?_;intro T q I j p I D y I;refine sv (yM Qa.out rfl rfl (by first|rfl|assumption)) ?_;refine ea ?_;refine qh 8 I ?_;refine ub ?_;refine Nw [_,_] ?_;refine ua (i:=7) (Is (wt (sN (bN a+bN b)))) Is.ext ?_ ?_
  .intro U Z hj hR;obtain⟨h,z,c,g⟩:=hR.1;exact rb rfl (Ha fi (na c Oa)) (BJ h 2 z [a,b] _ g Z' (by simp;omega)) (λ_ _ R=>⟨_,R.1,R.2,rfl⟩)
  refine xa ?_;intro f W Q d;obtain⟨v,Y,X,u,A,K,o,m,_⟩:=d;obtain⟨h,z,E,f18⟩:Rows _ _ _ (f 6) W:=Y;replace I:=Q.hp;refine Be ?_;clear E Q;refine ea ?_;refine cd I (md s (sN (bN a+bN b)) _ M) ?_;intro x I;refine Gb ?_;intro ws I;exact LX
 by_cases hle:bN b<=bN a
 .have N:iv s (sN (bN a-bN b))=iv s a+iv t b:=by unfold iv;rw[Af];cases s<;>cases t<;>simp at e |- <;>omega
  have M:(sN (bN a-bN b)).size<=1000000000:=by rw[Ki];have:=Am (show bN a-bN b<=bN a by omega);omega
  rw[<-N];refine Ga func186 ?_;refine Ii ?_;intro T q I j p I D y I;refine dN ?_;refine ea ?_;refine Gd I (Wr a b _ Z' Z') rfl ?_;intro G I;rw[w' hle];refine ea ?_;refine cd I (md s (sN (bN a-bN b)) _ M) ?_;intro B I;refine Gb ?_;intro ws I;exact LX
 have N:iv t (sN (bN b-bN a))=iv s a+iv t b:=by unfold iv;rw[Af];cases s<;>cases t<;>simp at e |- <;>omega
 have M:(sN (bN b-bN a)).size<=1000000000:=by rw[Ki];have:=Am (show bN b-bN a<=bN b by omega);omega
 rw[<-N];refine Ga func186 ?_;refine Ii ?_;intro T q I j p I D y I;refine dN ?_;refine ea ?_;refine Gd I (Wr a b _ Z' Z') rfl ?_;intro G I;rw[m' hle];refine ea ?_;refine Gd I (Wr b a _ Z' Z') rfl ?_;intro C I;refine ea ?_;refine cd I (md t (sN (bN b-bN a)) _ M) ?_;intro F I;refine Gb ?_;intro ws I;exact LX
def UD(s t:Bool)(a b:t7)(w)(c:a.size<=100000000)(F:b.size<=100000000):Zc 185 #[.agg #[ww s,wt a],.agg #[ww t,wt b]] w (.agg #[ww (iN (iv s a*iv t b)),wt (iM (iv s a*iv t b))]):=by
 have I:=Hp.start w;have E:=Xf a;have r:=Xf b;have S:(iv s a*iv t b).natAbs=bN a*bN b:=by rw[H8,yj,yj]
 have N:iM (iv s a*iv t b)=sN (bN a*bN b):=by rw[iM,S]
 have L:iv (s !=t) (sN (bN a*bN b))=iv s a*iv t b:=by rw[<-N,Sx]
 have M:(sN (bN a*bN b)).size<=1000000000:=by rw[Ki];have:=oG (bN a) (bN b);omega
 rw[<-L];refine Ga func185 ?_;refine Ii ?_;intro T q I j p I D y I;refine Od 10 I ?_;refine Ba (i:=4) (λU Z hj hR=>ki Qa.out (show U 6=Value.bool _ from hR.1) (show U 8=Value.bool _ from hR.2.1)) ?_;refine ub ?_;refine dC (λ_ hj=>fL a b _ Z' Z') ?_;refine dn ?_;intro W I;refine ea ?_;refine cd I (md (s !=t) (sN (bN a*bN b)) _ M) ?_;intro e I;refine Su ?_;intro ws I;exact⟨rfl,I.below⟩
def Qr(s:Bool)(a:t7)(k:Nat)(w)(b:a.size<=100000000)(u:k<=1000000000):Zc 187 #[.agg #[ww s,wt a],wd (k:Int)] w (.agg #[ww (iN (iv s a*2^k)),wt (iM (iv s a*2^k))]):=by
 have I:=Hp.start w;have E:=Xf a;have L:iv s (sN (bN a*2^k))=iv s a*2^k:=by unfold iv;rw[Af];split<;>simp[Int.neg_mul]
 have M:(sN (bN a*2^k)).size<=1000000000:=by rw[Ki];have:=zh (bN a) k;omega
 rw[<-L];refine Ga func187 ?_;refine Ib ?_;intro T q I D y I;refine Od 6 I ?_;refine dC (λ_ hj=>DK a k _ Z' Z') ?_;refine dn ?_;intro W I;refine ea ?_;refine cd I (md s (sN (bN a*2^k)) _ M) ?_;intro J I;refine Su ?_;intro ws I;exact⟨rfl,I.below⟩
def Bs(z:Int)(B:Nat)(q r:Int)(h:r+B*q=z)(J:0<=r)(h1:r<B):z/B=q/\z % B=r:=(Int.ediv_emod_unique Z').2 ⟨h,J,h1⟩
theorem Nx(s:Bool)(a b:t7)(w:World)(ha:a.size<=10000000)(hb:b.size<=10000000)(S:bN b≠0):Zc 158 #[.agg #[ww s,wt a],.agg #[ww false,wt b]] w (.tuple #[.agg #[ww (iN (iv s a/bN b)),wt (iM (iv s a/bN b))],.agg #[ww (iN (iv s a % bN b)),wt (iM (iv s a % bN b))],ww true]):=by
 have I:=Hp.start w;have M:=Xf a;have P:=Xf b;have o:bN a % bN b<bN b:=R_ _ Z';refine afc ?_;(unhygienic intros)
 have C:(sN (bN a/bN b)).size<=10000000:=by rw[Ki];have:=Am (B8 (bN a) (bN b));omega
 have B:(sN (bN a % bN b)).size<=10000000:=by rw[Ki];have:=Am (show bN a % bN b<=bN b by omega);omega
 have r:∀u,(iM (iv u (sN (bN a/bN b)))).size<=10000000:=λu=>by rw[AL,Af];exact C
 have K:∀u,(iM (iv u (sN (bN a % bN b)))).size<=10000000:=λu=>by rw[AL,Af];exact B
 by_cases A:s=true/\bN a % bN b≠0
 .obtain⟨rfl,hne⟩:=A;have N:iv true (sN (bN a/bN b))= -((bN a/bN b:Nat):Int):=by unfold iv;rw[Af,Q' rfl]
  have L:iv true (sN (bN a % bN b))= -((bN a % bN b:Nat):Int):=by unfold iv;rw[Af,Q' rfl]
  have W:(iv true (sN (bN a % bN b))).sign<0:=by rw[L,g9 Z'];omega
  have X:iv true a= -(bN a:Int):=by unfold iv;rw[Q' rfl]
  obtain⟨q1,q2⟩:=Bs (iv true a) (bN b) (-((bN a/bN b:Nat):Int)+ -1) ((bN b:Int)-((bN a % bN b:Nat):Int)) (by rw[X,<-m,Int.mul_add,j8];omega) Z' Z';have E:iv false b=(bN b:Int):=by unfold iv;rw[R' (by simp)]
  have H:(bN b:Int).sign=1:=X8 Z';refine Ga (l:=[.agg #[ww true,wt a],.agg #[ww false,wt b]]) func158 ?_;refine sr ?_;refine ar I [_,_] ?_;intro T q I;refine ar I [_,_] ?_;intro j p I;refine ik I ?_;intro D y I;refine ik I ?_;intro R v I;refine aB (ia (sr (Sk ?_)));refine im I 3 ?_;refine Sk ?_;refine im I 2 ?_;refine Gd I (Cr a b _ Z' Z' S) rfl ?_;intro g I;refine mT ?_;refine ui ?_;refine ui ?_;refine ui ?_;refine aS (aS (aB (ia (qa (sr (mB ?_))))));refine dX ?_;refine ia (cF (db (Va (sr (Sk ?_)))));refine im I 3 ?_;refine Sk ?_;refine im I 2 ?_;refine sv (TL Qa.out rfl rfl (by first|assumption|decide)) ?_;refine mS ?_;refine qm [_,_] ?_;refine Gd I (md true (sN (bN a/bN b)) _ Z') rfl ?_;intro Q I;refine ik I ?_;intro z G I;refine pd I 0 [_,_] ?_;intro ws I;replace I:Hp _ (.blk _ _ [_,_] _::_) _:=I;refine ia (sr (Sk ?_));refine im I 4 ?_;refine mS ?_;refine qm [_,_] ?_;refine Gd I (md true (sN (bN a % bN b)) _ Z') rfl ?_;intro d I;refine ik I ?_;intro J t I;refine pd I 0 [_,_] ?_;intro ws I;replace I:Hp _ (.blk _ _ [_,_] _::_) _:=I;refine ia (qa (sr ?_));refine vf I 0 [_,_] ?_
  refine Gd I (Ei (iN (iv true (sN (bN a % bN b)))) (iM (iv true (sN (bN a % bN b)))) _ (by have:=K true;omega)) rfl ?_;intro c I;rw[Cd];refine Ji (ia (cT (sr ?_)));refine vf I 0 [_,_] (Sk ?_);refine im I 4 ?_;refine qm [_,_] ?_;refine Gd I (Wl (iN (iv true (sN (bN a % bN b)))) false (iM (iv true (sN (bN a % bN b)))) b _ (by have:=K true;omega) Z') rfl ?_;intro w46 I;rw[Cd,L,E,show -((bN a % bN b:Nat):Int)+(bN b:Int)=(bN b:Int)-((bN a % bN b:Nat):Int) by omega,<-q2];refine pd I 0 [_,_] ?_;intro ws I;replace I:Hp _ (.blk _ _ [_,_] _::_) _:=I;refine ia (sr ?_);refine Gd I (uq (-1) _ Z' Z') rfl ?_;intro w47 I;refine ik I ?_;intro f w12 I;refine pd I 0 [_,_] ?_;intro ws I;replace I:Hp _ (.blk _ _ [_,_] _::_) _:=I;refine ia (qa (sr ?_));refine vf I 5 [_,_] ?_;refine Gd I (Ei false b _ Z') rfl ?_;intro w49 I;rw[E,H];refine Ji (ia (cF (db (Va (mb ?_)))));refine vf I 2 [_,_] ?_;refine vf I 0 [_,_] ?_;refine Gd I (Wl (iN (iv true (sN (bN a/bN b)))) (iN (-1)) (iM (iv true (sN (bN a/bN b)))) (iM (-1)) _ (by have:=r true;omega) V') rfl ?_;intro w54 I;rw[Cd,Cd,N,<-q1];refine pd I 2 [_,_] ?_;intro ws I
  replace I:Hp _ (_::_::.blk _ _ [_,_] _::_) _:=I;refine ia (qa ?_);refine Xs I mixed λw_ e=> ?_;replace I:=e.hp;clear e;refine dA (i:=0) (i2:=1) U' rfl rfl ?_ ?_
  .refine vf I 2 [_,_] ?_;refine Bd ?_;refine dA (i:=1) (i2:=2) U' rfl rfl ?_ ?_
   .refine vf I 1 [_,_] ?_;exact aaB
   refine pd I 4 [_,_] ?_;intro ws I;replace I:Hp _ (_::_::_::_::.blk _ _ [_,_] _::_) _:=I;refine Bd ?_;refine Oe (i:=1) U' rfl ?_;refine vf I 1 [_,_] ?_;exact ael
  refine vf I 1 [_,_] ?_;refine Bd ?_;refine Oe (i:=0) U' rfl ?_;refine vf I 2 [_,_] ?_;exact aaB
 have E:iv s a/bN b=iv s (sN (bN a/bN b))/\iv s a % bN b=iv s (sN (bN a % bN b)):=by
  cases s with
  |false=>
   have f0:∀x,iv false x=(bN x:Int):=λx=>by unfold iv;rw[R' (by simp)]
   rw[f0,f0,f0,Af,Af];exact Bs _ _ _ _ Z' Z' Z'
  |true=>
   have Y:bN a % bN b=0:=by
    obtain h|h:=a9 (bN a % bN b)
    .exact h
    exact absurd ⟨rfl,Z'⟩ A
   have f0:∀x,iv true x= -(bN x:Int):=λx=>by unfold iv;rw[Q' rfl]
   rw[f0,f0,f0,Af,Af,Y];rw[Y] at m;exact Bs _ _ _ _ (by rw[j8];omega) Z' Z'
 have h5:¬(iv s (sN (bN a % bN b))).sign<0:=by
  have k:0<=iv s (sN (bN a % bN b)):=by rw[<-E.2];exact Int.emod_nonneg _ Z'
  have:=Int.sign_nonneg_iff.2 k;omega
 rw[E.1,E.2]
 cases s with
 |false=>
  refine Ga (l:=[.agg #[ww false,wt a],.agg #[ww false,wt b]]) func158 ?_;refine sr ?_;refine ar I [_,_] ?_;intro T q I;refine ar I [_,_] ?_;intro j p I;refine ik I ?_;intro D y I;refine ik I ?_;intro R v I;refine aB (ia (sr (Sk ?_)));refine im I 3 ?_;refine Sk ?_;refine im I 2 ?_;refine Gd I (Cr a b _ Z' Z' S) rfl ?_;intro g I;refine l3 ?_;refine ui ?_;refine aS (aS (aB (ia (qa (sr (mB ?_))))));refine dX ?_;refine ia (cF (db (Va (sr (Sk ?_)))));refine im I 3 ?_;refine Sk ?_;refine im I 2 ?_;refine sv (jZ Qa.out rfl rfl (by first|rfl|assumption)) ?_;refine mS ?_;refine qm [_,_] ?_;refine Gd I (md false (sN (bN a/bN b)) _ Z') rfl ?_;intro Q I;refine ik I ?_;intro z G I;refine pd I 0 [_,_] ?_;intro ws I;replace I:Hp _ (.blk _ _ [_,_] _::_) _:=I;refine ia (sr (Sk ?_));refine im I 4 ?_;refine mS ?_;refine qm [_,_] ?_;refine Gd I (md false (sN (bN a % bN b)) _ Z') rfl ?_;intro d I;refine ik I ?_;intro J t I;refine pd I 0 [_,_] ?_;intro ws I;replace I:Hp _ (.blk _ _ [_,_] _::_) _:=I;refine ia (qa (sr ?_));refine vf I 0 [_,_] ?_
  refine Gd I (Ei (iN (iv false (sN (bN a % bN b)))) (iM (iv false (sN (bN a % bN b)))) _ (by have:=K false;omega)) rfl ?_;exact zW3
 |true=>
  refine Ga (l:=[.agg #[ww true,wt a],.agg #[ww false,wt b]]) func158 ?_;refine sr ?_;refine ar I [_,_] ?_;intro T q I;refine ar I [_,_] ?_;intro j p I;refine ik I ?_;intro D y I;refine ik I ?_;intro R v I;refine aB (ia (sr (Sk ?_)));refine im I 3 ?_;refine Sk ?_;refine im I 2 ?_;refine Gd I (Cr a b _ Z' Z' S) rfl ?_;intro g I;refine mT ?_;refine ui ?_;refine ui ?_;refine ui ?_;refine aS (aS (aB (ia (qa (sr (mB ?_))))));refine dX ?_;refine ia (cF (db (Va (sr (Sk ?_)))));refine im I 3 ?_;refine Sk ?_;refine im I 2 ?_;refine sv (TL Qa.out rfl rfl (by first|assumption|decide)) ?_;refine mS ?_;refine qm [_,_] ?_;refine Gd I (md true (sN (bN a/bN b)) _ Z') rfl ?_;intro Q I;refine ik I ?_;intro z G I;refine pd I 0 [_,_] ?_;intro ws I;replace I:Hp _ (.blk _ _ [_,_] _::_) _:=I;refine ia (sr (Sk ?_));refine im I 4 ?_;refine mS ?_;refine qm [_,_] ?_;refine Gd I (md true (sN (bN a % bN b)) _ Z') rfl ?_;intro d I;refine ik I ?_;intro J t I;refine pd I 0 [_,_] ?_;intro ws I;replace I:Hp _ (.blk _ _ [_,_] _::_) _:=I;refine ia (qa (sr ?_));refine vf I 0 [_,_] ?_
  refine Gd I (Ei (iN (iv true (sN (bN a % bN b)))) (iM (iv true (sN (bN a % bN b)))) _ (by have:=K true;omega)) rfl ?_;exact zW3
def zN(h:n≠0):sb n=sb (n/256)++[UInt8.ofNat (n % 256)]:=by
 rw[sb,JP Z' h,T_,Y8];rfl
def EM(h:n≠0):1<=(sN n).size/\∃c:UInt8,(sN n).data.toList[(((sN n).size:Int)-1).toNat]?=some c/\c.toNat=n % 256:=by
 have Q:(sN n).data.toList=sb (n/256)++[UInt8.ofNat (n % 256)]:=by rw[sN,ed,zN h]
 have K:(sN n).size=(sb (n/256)).length+1:=by rw[td,Q,D'];rfl
 refine⟨Z',UInt8.ofNat (n % 256), ?_, ?_⟩
 .rw[Q,K,R9 Z'];have:(((sb (n/256)).length+1:Nat)-1:Int).toNat-(sb (n/256)).length=0:=Z';rw[this];rfl
 simp
def abr(h:n≠0):(sN n).extract 0 ((sN n).size-1)=sN (n/256):=by
 have Q:(sN n).data=(sb (n/256)++[UInt8.ofNat (n % 256)]).toArray:=by rw[sN,<-zN h];rfl
 have K:(sN n).size=(sb (n/256)).length+1:=by rw[td,Q,D'];rfl
 apply ByteArray.ext;rw[ByteArray.data_extract,Q,K];show _=(sb (n/256)).toArray;simp
def acp{k:Int}(h:0<k)(y:Int):iN (y*k)=iN y:=by
 unfold iN;rw[decide_eq_decide];constructor
 .intro h1;obtain h2|h2|h2:=N6 y 0
  .exact h2
  .rw[h2] at h1;simp at h1
  have:=Int.mul_pos h2 h;omega
 intro h1;exact Int.mul_neg_of_neg_of_pos h1 h
def acU(h:n % 2=1):tz n=0:=by
 have:=NL 0 (n/2);rwa[show 2^0*(2*(n/2)+1)=n by omega] at this
variable {z:Int}
def cU{y e:Int}(hy:y.natAbs % 2=1)(o:y*2^j=z):nR (Dyadic.ofIntWithPrec z (-e))=⟨iN y,iM y,e+j⟩:=by
 have h1:=dv (s:=iN y) (a:=iM y) (e:=e+j) (by rw[Cd];omega);rw[Cd,iM,Af,acU hy] at h1;have h2:=Zp y (-(e+j)) j;rw[o,show -(e+(j:Int))+j= -e by omega] at h2;rw[h2,h1];simp
variable {m:Nat}
def Yw{y:Int}(hy:y≠0)(o:y*2^j=z)(hm:z.natAbs<2^m):j<m:=by
 have h1:z.natAbs=y.natAbs*2^j:=by rw[<-o,H8,S7];rfl
 have h2:1*2^j<=y.natAbs*2^j:=n_ _ Z';have G:2^j<2^m:=Z';exact(V5 Z').1 G
def Vo(s:Bool)(a:t7)(e:Int)(w)(r:a.size<=10000000)(h1: -1000000000000<=e)(h2:e<=1000000000000):Zc 92 #[.agg #[ww s,wt a],wd e] w (.agg #[ww (nR (Dyadic.ofIntWithPrec (iv s a) (-e))).neg,wt (nR (Dyadic.ofIntWithPrec (iv s a) (-e))).Ra,wd (nR (Dyadic.ofIntWithPrec (iv s a) (-e))).e]):=by
 have I:=Hp.start w;by_cases J:iv s a=0
 .have hm:=tx.2 J;rw[J] at hm;refine Ga func92 ?_;refine Ib ?_;intro T q I D o I;refine Gd I (md s a _ Z') rfl ?_;intro A I;rw[J];refine Gb ?_;intro ws I;refine sv (yi rfl rfl (by first|rfl|assumption|decide)) ?_;refine ZD ?_;intro ws I;rw[jf,Pn];exact⟨rfl,I.below⟩
 have hm:¬iM (iv s a)=ByteArray.mk #[]:=λh=>J (tx.1 h);have p:(iv s a).natAbs<2^(8*a.size):=(by rw[yj,W9];exact iC a);refine Ga func92 ?_;refine Ib ?_;intro T q I D o I;refine Gd I (md s a _ Z') rfl ?_;intro A I;refine Gb ?_;intro ws I;refine sv (ti rfl rfl (by first|assumption|decide)) ?_;refine ea ?_;generalize B:iv s a=z at*;refine rf 1 (λv V=>∃(y:Int)(j:Nat),y≠0/\y*2^j=z/\v=wd (e+j)/\Hp w [.blk D 30 [ww false,wt (ByteArray.mk #[]),wd 0] (0,0),.blk T 28 [ww (iN y),wt (iM y)] (0,0)] V) (λv _=>(e+8*a.size+1-intOf v).toNat) ?_ ?_
 .exact⟨z,0,J,by simp,by show Value.int _ _=Value.int _ _;congr 1;omega,I⟩
 clear I;rintro ρ' v V ⟨y,j,hy,f,rfl,I⟩;have hj:=Yw hy f p;obtain⟨m,c,E,d⟩:=EM (n:=y.natAbs) Z';have t:=abr (n:=y.natAbs) Z';have M:(sN y.natAbs).size<=10000000:=(by refine FZ ?_;intro h1 h2 G;omega)
 change (iM y).data.toList[(((iM y).size:Int)-1).toNat]?=some c at E
 change 1<=(iM y).size at m
 change (iM y).extract 0 ((iM y).size-1)=_ at t
 change (iM y).size<=_ at M
 by_cases F:y.natAbs % 256=0
 .obtain⟨x,rfl⟩:∃x,y=x*256:=⟨y/256,Z'⟩;have C:x≠0:=λh=>hy (by rw[h];rfl);have N:iN (x*256)=iN x:=acp Z' x;have L:sN ((x*256).natAbs/256)=iM x:=by rw[iM];congr 1;omega
  have X:x*2^(j+8)=z:=by rw[<-f,Int.pow_add,Int.mul_assoc,X6 (2^j)];rfl
  have g:=Yw C X p;refine ea ?_;refine sv (jw (l:=0) (h:=((iM (x*256)).size-1)) Qa.out rfl rfl ⟨_,_,rfl,Z'⟩ Z' Z') ?_;refine Gb ?_;intro ws I;rw[t,L,N] at I;refine⟨⟨x,j+8,C,X,by show Value.int _ _=Value.int _ _;congr 1;omega,I⟩,by show(e+8*a.size+1-(e+j+8)).toNat<(e+8*a.size+1-(e+j)).toNat;omega, ?_⟩;exact Sb
 refine ea ?_;refine rf 1 (λv V=>∃(y:Int)(j:Nat),y≠0/\y*2^j=z/\v=wd (e+j)/\Hp w [.blk D 30 [ww false,wt (ByteArray.mk #[]),wd 0] (0,0),.blk T 28 [ww (iN y),wt (iM y)] (0,0)] V) (λv _=>(e+8*a.size+1-intOf v).toNat) ?_ ?_
 .exact⟨y,j,hy,f,rfl,I⟩
 clear I F t d E m M hj hy f;rintro K v q ⟨y,j,hy,f,rfl,I⟩;have hj:=Yw hy f p;obtain⟨m,c,E,d⟩:=EM (n:=y.natAbs) Z';have M:(sN y.natAbs).size<=10000000:=(by refine FZ ?_;intro h1 h2 G;omega)
 change (iM y).data.toList[(((iM y).size:Int)-1).toNat]?=some c at E
 change 1<=(iM y).size at m
 change (iM y).size<=_ at M
 by_cases F:y.natAbs % 2=0
 .obtain⟨x,rfl⟩:∃x,y=x*2:=⟨y/2,Z'⟩;have C:x≠0:=λh=>hy (by rw[h];rfl);have X:x*2^(j+1)=z:=by rw[<-f,Int.pow_add,Int.mul_assoc,X6 (2^j)];rfl
  have g:=Yw C X p;have k:∀Z,Zc 156 #[wd 2] Z (.agg #[ww false,wt (iM 2)]):=λZ=>uq 2 Z Z' Z';have u:∀Z,Zc 158 #[.agg #[ww (iN (x*2)),wt (iM (x*2))],.agg #[ww false,wt (iM 2)]] Z (.tuple #[.agg #[ww (iN x),wt (iM x)],.agg #[ww (iN 0),wt (iM 0)],ww true]):=λZ=>by
   have h2:bN (iM 2)=2:=Af 2;have G:(iM 2).size<=10000000:=by rw[yc];decide
   have:=Nx (iN (x*2)) (iM (x*2)) (iM 2) Z M G Z';rw[Cd,h2,show x*2/((2:Nat):Int)=x by omega,show x*2 % ((2:Nat):Int)=0 by omega] at this;exact this
  refine ea ?_;refine sv (ME (b:=2) rfl rfl Z') ?_;refine ea ?_;refine lW [] [5,6] 7 I ?_;refine dC (λ_ hj=>k _) ?_;refine dC (λ_ hj=>u _) ?_;refine ub ?_;refine dn2 ?_;intro W I;refine Gb ?_;intro ws I;refine⟨⟨x,j+1,C,X,by show Value.int _ _=Value.int _ _;congr 1;omega,I⟩,by show(e+8*a.size+1-(e+j+1)).toNat<(e+8*a.size+1-(e+j)).toNat;omega, ?_⟩;exact Sb
 have Y:=cU (e:=e) (show y.natAbs % 2=1 by omega) f;refine ea ?_;refine sv (ME (b:=2) rfl rfl Z') ?_;refine ZD ?_;intro ws I;rw[Y];exact⟨rfl,I.below⟩
def Em{e:Int}{x:Dyadic}(w)(C:Dyadic.ofIntWithPrec z (-e)=x)(o:(iM z).size<=10000000)(h1: -1000000000000<=e)(h2:e<=1000000000000):Zc 92 #[.agg #[ww (iN z),wt (iM z)],wd e] w (nR x).V:=by
 have:=Vo (iN z) (iM z) e w o h1 h2;rw[Cd,C] at this;exact this
def Ov(n:Int)(w)(h1: -9223372036854775808<=n)(h2:n<=9223372036854775807):Zc 91 #[wd n] w (.agg #[ww (nR (n:Dyadic)).neg,wt (nR (n:Dyadic)).Ra,wd (nR (n:Dyadic)).e]):=by
 have I:=Hp.start w;have M:(iM n).size<=10000000:=(by rw[yc];have:Wa n.natAbs<=64:=Uc Z';omega);have E:=λZ=>Em (z:=n) (e:=0) (x:=(n:Dyadic)) Z rfl M Z' Z';refine Ga func91 ?_;refine Gb ?_;intro T q I;refine cd I (uq n _ h1 h2) ?_;intro y I;refine cd I (E _) ?_;exact uU
def ue(a:NR)(w)(M:a.Ra.size<=10000000)(h1: -1000000000000<=a.e)(h2:a.e<=1000000000000):Zc 176 #[a.V] w (.agg #[ww (nR a.fa).neg,wt (nR a.fa).Ra,wd (nR a.fa).e]):=by
 have I:=Hp.start w;refine Ga func176 ?_;refine Ib ?_;intro G Z I T q I;refine cd I (Vo a.neg a.Ra a.e _ M h1 h2) ?_;exact kV
def Hc(a:NR)(w)(M:a.Ra.size<=10000000):Zc 45 #[a.V] w (wd a.i.sign):=by
 have I:=Hp.start w;refine Ga func45 ?_;refine Gb ?_;intro G Z I;refine Gd I (Ei a.neg a.Ra _ Z') rfl ?_;intro v I;refine ea ?_;exact⟨rfl,I.below⟩
def Dn(a:NR)(w)(M:a.Ra.size<=10000000)(h1: -1000000000000<=a.e)(h2:a.e<=1000000000000):Zc 191 #[a.V] w (.agg #[ww (nR (-a.fa)).neg,wt (nR (-a.fa)).Ra,wd (nR (-a.fa)).e]):=by
 have I:=Hp.start w;have K:=Wj a.neg a.Ra;have E:=λZ=>Em (z:= -(iv a.neg a.Ra)) (e:=a.e) (x:= -a.fa) Z (mn _ _).symm Z' h1 h2;refine Ga func191 ?_;refine Ib ?_;intro G Z I T q I;refine Od 5 I ?_;refine dC (λ_ hj=>LJ a.neg a.Ra _ Z') ?_;refine ub ?_;refine dn ?_;intro W I;refine cd I (E _) ?_;exact vY
def Fk(a:NR)(n:Int)(w)(M:a.Ra.size<=10000000)(h1: -100000000000<=a.e)(h2:a.e<=100000000000)(G: -100000000000<=n)(z:n<=100000000000):Zc 36 #[a.V,wd n] w (.agg #[ww (nR (a.fa*Ic n)).neg,wt (nR (a.fa*Ic n)).Ra,wd (nR (a.fa*Ic n)).e]):=by
 have I:=Hp.start w;have N:Dyadic.ofIntWithPrec (iv a.neg a.Ra) (-(a.e+n))=a.fa*Ic n:=(by rw[Int.neg_add];exact tD _ _ _);have E:=λZ=>Vo a.neg a.Ra (a.e+n) Z M Z' Z';rw[N] at E;refine Ga func36 ?_;refine Ib ?_;intro T q I D y I;refine cd I (E _) ?_;intro t I;refine ZD ?_;intro ws I;exact⟨rfl,I.below⟩
def QP(x):Dyadic.ofIntWithPrec (nR x).i (-(nR x).e)=x:=Ta x
def Ln(a b:NR)(w)(M:a.Ra.size<=4000000)(F:b.Ra.size<=4000000)(h1: -100000000000<=a.e)(h2:a.e<=100000000000)(G: -100000000000<=b.e)(c:b.e<=100000000000):Zc 106 #[a.V,b.V] w (.agg #[ww (nR (a.fa*b.fa)).neg,wt (nR (a.fa*b.fa)).Ra,wd (nR (a.fa*b.fa)).e]):=by
 have I:=Hp.start w;have L:Dyadic.ofIntWithPrec (iv a.neg a.Ra*iv b.neg b.Ra) (-(a.e+b.e))=a.fa*b.fa:=(by rw[Int.neg_add];exact(uk _ _ _ _).symm);have t:=mf a.neg a.Ra;have R:=mf b.neg b.Ra;have x:=wk (iv a.neg a.Ra) (iv b.neg b.Ra);have E:=λZ=>Em (z:=iv a.neg a.Ra*iv b.neg b.Ra) (e:=a.e+b.e) Z L (by rw[yc];omega) Z' Z';refine Ga func106 ?_;refine Ii ?_;intro T q I j p I D y I;refine Od 10 I ?_;refine dC (λ_ hj=>UD a.neg b.neg a.Ra b.Ra _ Z' Z') ?_;refine ub ?_;refine dn ?_;intro W I;refine cd I (E _) ?_;intro f I;refine ZD ?_;intro ws I;exact⟨rfl,I.below⟩
def kW{u v:NR}(h:u.e=v.e+k):Dyadic.ofIntWithPrec (u.i*2^k+v.i) (-v.e)=u.fa+v.fa:=by
 rw[<-qu];congr 1;have:=Zp u.i (-u.e) k;rw[show -u.e+(k:Int)= -v.e by omega] at this;exact this
def Dz{u v:NR}(a:u.e=v.e+k)(hu:u.Ra.size<=1000000)(A:v.Ra.size<=1000000)(B:k<=40000000)(h1: -100000000000<=v.e)(h2:v.e<=100000000000):(∀w,Zc 187 #[.agg #[ww u.neg,wt u.Ra],wd (u.e-v.e)] w (.agg #[ww (iN (u.i*2^k)),wt (iM (u.i*2^k))]))/\(∀w,Zc 186 #[.agg #[ww (iN (u.i*2^k)),wt (iM (u.i*2^k))],.agg #[ww v.neg,wt v.Ra]] w (.agg #[ww (iN (u.i*2^k+v.i)),wt (iM (u.i*2^k+v.i))]))/\
  ∀w,Zc 92 #[.agg #[ww (iN (u.i*2^k+v.i)),wt (iM (u.i*2^k+v.i))],wd v.e] w (.agg #[ww (nR (u.fa+v.fa)).neg,wt (nR (u.fa+v.fa)).Ra,wd (nR (u.fa+v.fa)).e]):=by
 have t:Wa (u.i*2^k).natAbs<=8000000+k:=(by rw[H8,S7];have:=zh u.i.natAbs k;have G:=mf u.neg u.Ra;unfold NR.i at this |-;exact p' this Z');have R:=mf v.neg v.Ra;have x:=zk (u.i*2^k) v.i;refine⟨λw=> ?_,λw=> ?_,λw=> ?_⟩
 .rw[show u.e-v.e=k by omega];exact Qr u.neg u.Ra k w Z' Z'
 .have:=Wl (iN (u.i*2^k)) v.neg (iM (u.i*2^k)) v.Ra w (by rw[yc];omega) Z';rw[Cd] at this;exact this
 exact Em w (kW a) (by rw[yc];unfold NR.i at t x |-;omega) Z' Z'
def nh(a b:NR)(w:World)(ha:a.ok)(hb:b.ok):Zc 108 #[.agg #[ww a.neg,wt a.Ra,wd a.e],.agg #[ww b.neg,wt b.Ra,wd b.e]] w (.agg #[ww (nR (a.fa+b.fa)).neg,wt (nR (a.fa+b.fa)).Ra,wd (nR (a.fa+b.fa)).e]):=by
 have I:=Hp.start w;obtain⟨l,E,v⟩:=ha;obtain⟨t,R,m⟩:=hb;obtain⟨_,g,L,M⟩:=kl (a:=a) ⟨l,E,v⟩;obtain⟨_,H,X,fb3⟩:=kl (a:=b) ⟨t,R,m⟩;have z:∀x:Dyadic,(nR x).i.sign=0↔x=0:=λx=>by
  rw[Z6];constructor
  .intro h;rw[<-QP x,h,jf]
  intro h;rw[h];rfl
 by_cases J:a.fa=0
 .have o:=(z a.fa).2 J;refine Ga func108 ?_;refine Ii ?_;intro T q I j r I D y I;refine qh 3 I ?_;refine ub ?_;refine uM ?_;refine ub ?_;refine xa ?_;intro f W Q c;have A:=Q.bl;obtain⟨K,v6,F,_⟩:=c;replace I:=Q.hp;refine Be ?_;clear Q;refine rN ?_;intro B I;refine Ib ?_;intro ws I ws I;refine Gd I (Hc (nR a.fa) _ Z') rfl ?_;intro G I;refine Gb ?_;intro ws I;refine kH ?_;rw[J,k8];exact⟨rfl,I.below⟩
 have o:¬(nR a.fa).i.sign=0:=λh=>J ((z a.fa).1 h);by_cases h1:b.fa=0
 .have p:=(z b.fa).2 h1;refine Ga func108 ?_;refine Ii ?_;intro T q I j r I D y I;refine qh 3 I ?_;refine ub ?_;refine uM ?_;refine ub ?_;refine xa ?_;intro f W Q c;have A:=Q.bl;obtain⟨K,v6,F,_⟩:=c;replace I:=Q.hp;refine Be ?_;clear Q;refine rN ?_;intro B I;refine Ib ?_;intro ws I ws I;refine Gd I (Hc (nR a.fa) _ Z') rfl ?_;intro G I;refine ea ?_;refine Gd I (Hc (nR b.fa) _ Z') rfl ?_;intro Y I;refine Gb ?_;intro ws I;refine kH ?_;rw[h1,z8];exact⟨rfl,I.below⟩
 have p:¬(nR b.fa).i.sign=0:=λh=>h1 ((z b.fa).1 h);by_cases hlt:(nR a.fa).e<(nR b.fa).e
 .obtain⟨k,u⟩:∃k:Nat,(nR b.fa).e=(nR a.fa).e+k:=⟨((nR b.fa).e-(nR a.fa).e).toNat,Z'⟩;obtain⟨P,s,C⟩:=Dz u H g Z' Z' Z';rw[Ta,Ta,Dyadic.add_comm] at C;refine Ga func108 ?_;refine Ii ?_;intro T q I j r I D y I;refine qh 3 I ?_;refine ub ?_;refine uM ?_;refine ub ?_;refine xa ?_;intro f W Q c;have A:=Q.bl;obtain⟨K,v6,F,_⟩:=c;replace I:=Q.hp;refine Be ?_;clear Q;refine rN ?_;intro B I;refine Ib ?_;intro ws I ws I;refine Gd I (Hc (nR a.fa) _ Z') rfl ?_;intro G I;refine ea ?_;refine Gd I (Hc (nR b.fa) _ Z') rfl ?_;intro Y I;refine Ib ?_;intro ws I ws I;refine qh 13 I ?_;refine ub ?_;refine dC (λ_ hj=>P _) ?_;refine ub ?_;refine dC (λ_ hj=>s _) ?_;refine ub ?_;refine xa ?_;intro f W Q c;have N:=Q.bl;obtain⟨v36,v35,v34,v33,v32,v31,v30,v29,v28,v27,v26,v25,v24,_⟩:=c;replace I:=Q.hp;refine Be ?_;clear Q;exact ado
 obtain⟨k,u⟩:∃k:Nat,(nR a.fa).e=(nR b.fa).e+k:=⟨((nR a.fa).e-(nR b.fa).e).toNat,Z'⟩;obtain⟨P,s,C⟩:=Dz u g H Z' Z' Z';rw[Ta,Ta] at C;refine Ga func108 ?_;refine Ii ?_;intro T q I j r I D y I;refine qh 3 I ?_;refine ub ?_;refine uM ?_;refine ub ?_;refine dn ?_;intro W I;refine rN ?_;intro B I;refine Ib ?_;intro ws I ws I;refine Gd I (Hc (nR a.fa) _ Z') rfl ?_;intro G I;refine ea ?_;refine Gd I (Hc (nR b.fa) _ Z') rfl ?_;intro Y I;refine ea ?_;refine qh 13 I ?_;refine ub ?_;refine dC (λ_ hj=>P _) ?_;refine ub ?_;refine dC (λ_ hj=>s _) ?_;refine ub ?_;refine dn ?_;intro W I;exact ado
def Kr(a b:NR)(w)(M:a.ok)(F:b.ok)(Y:(nR b.fa).ok):Zc 182 #[a.V,b.V] w (.agg #[ww (nR (a.fa-b.fa)).neg,wt (nR (a.fa-b.fa)).Ra,wd (nR (a.fa-b.fa)).e]):=by
 have I:=Hp.start w;obtain⟨t,R,x⟩:=F;obtain⟨l,r⟩:=abD b.fa;obtain⟨c,v,f⟩:=Y;have hp:=λZ=>nh a (nR (-b.fa)) Z M ⟨by rw[l];exact c,by rw[r];exact v,by rw[r];exact f⟩;rw[Ta] at hp;refine Ga func182 ?_;refine Ii ?_;intro T q I j p I D y I;refine Od 3 I ?_;refine dC (λ_ hj=>Dn b _ Z' Z' Z') ?_;refine dn ?_;intro W I;refine cd I (hp _) ?_;exact vY
def VU(x y):(nR (x-y)).i.sign=uf x y:=by
 rw[NR.sign,Ta];unfold uf;have N:x-y<0↔x<y:=by grind
 have L:0<x-y↔y<x:=by grind
 simp only[N,L]
def yn(a b:NR)(w)(M:a.ok)(F:b.ok)(Y:(nR b.fa).ok)(K:(nR (a.fa-b.fa)).Ra.size<=10000000):Zc 118 #[a.V,b.V] w (wd (uf a.fa b.fa)):=by
 have I:=Hp.start w;refine Ga func118 ?_;refine Ib ?_;intro T q I j p I;refine cd I (Kr a b _ M F Y) ?_;intro c I;refine cd I (Hc (nR (a.fa-b.fa)) _ K) ?_;intro o I;rw[VU];refine ea ?_;exact⟨rfl,I.below⟩
def Sz.pow{x:Dyadic}(h:Sz k x)(n:Nat):Sz (1+k*n) (x^n):=by
 induction n with
 |zero=>rw[s7];exact Sz.one
 |succ n W=>rw[Dyadic.pow_succ];exact(W.mul h).mono (by rw[p9];omega)
def Sz.two{p:Int}(h1: -(k:Int)<=p)(h2:p<=k):Sz (k+8) (Dyadic.ofIntWithPrec 1 p):=by
 have:=Sz.raw (a:=⟨iN 1,iM 1, -p⟩) (m:=8) (E:=k) (by show 8*(iM 1).size<=8;decide) (by simp only[];omega) (by simp only[];omega);rw[NR.fa,NR.i,Cd,O7] at this;exact this.mono Z'
def tL(L:t6)(n c:Nat)(l:List NR)(w:World)(s:Sl w L n 3 (la NR.cells l))(u:∀a∈l,a.ok)(k:Nat)(D:∀a∈l,Sz k a.fa)(hkn:k<=3000000)(hn:n<=1000000):Zc 192 #[wn L n c] w (.agg #[ww (nR (xc (λx y=>decide (x<y)) (l.map NR.fa))).neg,wt (nR (xc (λx y=>decide (x<y)) (l.map NR.fa))).Ra,wd (nR (xc (λx y=>decide (x<y)) (l.map NR.fa))).e]):=by
 have hln:=s.Aa NR.len Z';have I:=Hp.start w;refine Ga func192 ?_;refine Ii ?_;intro T w2 I B w3 I ws I;refine rf 4 (λj V=>∃(i:Nat)(S:Dyadic),i<=n/\j=wd i/\S=xc (λx y=>decide (x<y)) ((l.take i).map NR.fa)/\Sz k S/\Hp w [.blk B 30 [ww (nR S).neg,wt (nR S).Ra,wd (nR S).e] (0,0),.blk T 30 [ww false,wt (ByteArray.mk #[]),wd 0] (0,0)] V) (λj _=>n-(intOf j).toNat) ?_ ?_
 .exact⟨0,0,N' _,rfl,rfl,Sz.zero k,I⟩
 clear I;rintro ρ' j V ⟨i,S,hi,rfl,z,b,I⟩;by_cases hlt:i<n
 .obtain⟨x,C⟩:=aa (l:=l) (k:=i) Z';obtain⟨ad,rfl,H⟩:=s.at_ Z';have F:=O' C;have v:=D x F;obtain⟨xo1,xo2,xo3⟩:=u x F;have N:=b.ok Z';have t:=λZ=>yn x (nR S) Z (u x F) N (by rw[Ta];exact N) (by rw[Ta];have:=((v.sub b).ok Z').1;omega);rw[Ta] at t;have o:xc (λx y=>decide (x<y)) ((l.take (i+1)).map NR.fa)=if i=0 then x.fa else if x.fa<S then x.fa else S:=(by exact adI)
  by_cases J:i=0
  .exact aba
  rw[R' J] at o;by_cases E:uf x.fa S<0
  .rw[Q' ((Sn _ _).1 E)] at o;exact Y0
  rw[R' (λh=>E ((Sn _ _).2 h))] at o;refine WV ?_;refine n3 ?_;intro W I q I;exact Sb
 exact aaK
def zJ(L:t6)(n c:Nat)(l:List NR)(w:World)(s:Sl w L n 3 (la NR.cells l))(u:∀a∈l,a.ok)(k:Nat)(D:∀a∈l,Sz k a.fa)(hkn:k<=3000000)(hn:n<=1000000):Zc 193 #[wn L n c] w (.agg #[ww (nR (xc (λx y=>decide (y<x)) (l.map NR.fa))).neg,wt (nR (xc (λx y=>decide (y<x)) (l.map NR.fa))).Ra,wd (nR (xc (λx y=>decide (y<x)) (l.map NR.fa))).e]):=by
 have hln:=s.Aa NR.len Z';have I:=Hp.start w;refine Ga func193 ?_;refine Ii ?_;intro T w2 I B w3 I ws I;refine rf 4 (λj V=>∃(i:Nat)(S:Dyadic),i<=n/\j=wd i/\S=xc (λx y=>decide (y<x)) ((l.take i).map NR.fa)/\Sz k S/\Hp w [.blk B 30 [ww (nR S).neg,wt (nR S).Ra,wd (nR S).e] (0,0),.blk T 30 [ww false,wt (ByteArray.mk #[]),wd 0] (0,0)] V) (λj _=>n-(intOf j).toNat) ?_ ?_
 .exact⟨0,0,N' _,rfl,rfl,Sz.zero k,I⟩
 clear I;rintro ρ' j V ⟨i,S,hi,rfl,z,b,I⟩;by_cases hlt:i<n
 .obtain⟨x,C⟩:=aa (l:=l) (k:=i) Z';obtain⟨ad,rfl,H⟩:=s.at_ Z';have F:=O' C;have v:=D x F;obtain⟨xo1,xo2,xo3⟩:=u x F;have N:=b.ok Z';have t:=λZ=>yn x (nR S) Z (u x F) N (by rw[Ta];exact N) (by rw[Ta];have:=((v.sub b).ok Z').1;omega);rw[Ta] at t;have o:xc (λx y=>decide (y<x)) ((l.take (i+1)).map NR.fa)=if i=0 then x.fa else if S<x.fa then x.fa else S:=(by exact adI)
  by_cases J:i=0
  .exact aba
  rw[R' J] at o;by_cases E:0<uf x.fa S
  .rw[Q' ((At _ _).1 E)] at o;exact Y0
  rw[R' (λh=>E ((At _ _).2 h))] at o;refine WV ?_;refine n3 ?_;intro W I q I;exact Sb
 exact aaK
def D(m e:Int):Dyadic:=Dyadic.ofIntWithPrec m (-e)
def ac2{m e:Int}(hm:m.natAbs<256)(h1: -16<=e)(h2:e<=16):Sz 24 (D m e):=by
 have:=Sz.raw (a:=⟨iN m,iM m,e⟩) (m:=8) (E:=16) (by show 8*(iM m).size<=8;rw[yc];have:Wa m.natAbs<=8:=Uc hm;omega) h1 h2;rw[NR.fa,NR.i,Cd] at this;exact this
def ag1(most b:Int)(l:List NR):Bool:=l.any λa=>decide (most<a.Ra.size\/a.e< -b\/b<a.e)
open Go.ChangeShapes Go.WideShapes Go.ChangeAt Go.RowKit Go.ChangeMaps
variable {W:World}{base fuel:Nat}{cs:List Value}
set_option maxRecDepth 100000 in
def wq{H:Type}{enc:TypeId×Value->H}{sp:Nat->Bool}{held:Bool}{x:DataW H×List MemPlace}(h:DataW.trod enc prog W base sp held fuel 30 cs=some x):
  ∃a:NR,cs=a.cells/\(Lit.int .i64 a.e).wf=true:=by
 have X:prog.cellsOf 30=3:=by kernel_rfl
 have Y:prog.cellsOf 28=2:=by kernel_rfl
 have d:prog.cellsOf 4=1:=by kernel_rfl
 have f:prog.cellsOf 9=1:=by kernel_rfl
 have g:prog.cellsOf 3=1:=by kernel_rfl
 obtain⟨C,j,n,_,Q,J,h1⟩:=trod_struct2 Tryz.underlying30 h;obtain⟨u,m,r,_,k,c,l⟩:=trod_struct2 Tryz.underlying28 J;obtain⟨b,S,_⟩:=DataW.trod_bool Tryz.underlying4 c;obtain⟨s,N,_,K⟩:=DataW.trod_string Tryz.underlying9 l;obtain⟨z,L,_,o⟩:=DataW.trod_int Tryz.underlying3 h1;rw[X] at Q
 match cs,Q with
 |[P,p,i],_=>
  simp only[Y,d,f,g] at S N L;simp at S N L;subst S N L;exact⟨⟨b,s,z⟩,rfl,o⟩
set_option maxRecDepth 100000 in
def NT{H:Type}{enc:TypeId×Value->H}{r:Reach}{b0:Nat}{sp:Nat->Bool}{held:Bool}{v:Value}{d:DataW H}{X:List MemPlace} (s:Value.okWide prog W r b0 30 v)(T:DataW.Trod enc prog W base sp held 30 v d X):∃a:NR,v=.agg #[ww a.neg,wt a.Ra,wd a.e]/\ -9223372036854775808<=a.e/\a.e<=9223372036854775807:=by
 obtain⟨cs,rfl,_⟩:=okWide_struct Tryz.underlying30 s;obtain⟨fuel,Y⟩:=T;obtain⟨a,h1,h2⟩:=wq Y;refine⟨a, ?_,bounds_i64 h2⟩;have G:cs.toList=a.cells:=h1;rw[<-Array.toList_inj.1 (show cs.toList=(#[ww a.neg,wt a.Ra,wd a.e]:Array Value).toList from G)]
def FG(h:laidMetH prog Rows.ratioEnclosesRow.laid W):Nd W:=by
 rw[MakeChecks.laidMetH_plain _ _ _ U'] at h;obtain⟨c,⟨g,t,cs,fuel,p,q,s,S,A,T,_,_⟩,_,_⟩:=h;obtain rfl:=P_ ((show prog.globalNamed "math/bits.deBruijn64tab" =some 0 by kernel_rfl).symm.trans s);obtain rfl:=P_ ((show(prog.globals[0]?).map (·.type)=some 298 by kernel_rfl).symm.trans S);obtain⟨xs,m,_,ex,_,Q,a⟩:=DataW.trod_array Tryz.underlying298 T;have f:prog.cellsOf 5=1:=by kernel_rfl
 have X:(xs.map (·.1))=SK.map λn=>.lit (.int .u8 n):=(DataW.agg.inj (Prod.mk.inj ex).1).symm;have hlen:SK.length=64:=by decide
 intro r u hu;have H:r<64:=(by have:=(z'.1 hu).1;rw[Rc] at this;omega);have b:=a r H;rw[f,W_,D9 Z'] at b;obtain⟨z,N,L,_⟩:=DataW.trod_int Tryz.underlying5 b;have E:(xs.map (·.1))[r]?=(SK.map λ(n:Nat)=>(DataW.lit (.int .u8 n):DataW Unit))[r]?:=by rw[X]
 rw[C',C',D9 (by omega:r<xs.length),D9 (by omega:r<SK.length),L] at E;have o:u=.int .u8 z:=(by rw[Bh,C',D9 (by omega:r<SK.length)] at hu;simp only[n9,E8,DataW.lit.injEq,Lit.int.injEq,true_and] at E hu;rw[<-hu,E]);rw[Fe,i',World.var?_cell s A r,o];have:cs.toList[r]?=some (.int .u8 z):=by
  have J:((cs.toList.drop r).take 1)[0]?=some (.int .u8 z):=by rw[N];rfl
  simpa using J
 simpa using this
variable {α:Type}
def Wy{α:Type}{p:Nat->α->Prop}:∀(n:Nat),(∀i,i<n->∃a,p i a)->∃l:List α,l.length=n/\∀i a,l[i]?=some a->p i a
 |0,_=>⟨[],rfl,λi a h=>by simp at h⟩
 |n+1,h=>by
  obtain⟨l,h1,h2⟩:=Wy n λi hi=>h i Z';obtain⟨a,M⟩:=h n Z';refine⟨l++[a],by simp[h1],λi b F=> ?_⟩;obtain hi|hi:=z_ i l.length
  .rw[o9 hi] at F;exact h2 i b F
  rw[R9 hi] at F;have G:i-l.length=0:=by
   obtain h|h:=a9 (i-l.length)
   .exact h
   rw[X_ (by simp;omega)] at F;cases F
  rw[G] at F;simp only[q7,E8] at F;subst F;rw[show i=n by omega];exact M
variable {P:Program}
def AP{f:α->List Value}{p:α->Prop}{sz:Nat}{t e:TypeId}{H:Type}{enc:TypeId×Value->H}{r:Reach}{b0:Nat}{sp:Nat->Bool}{held:Bool}{v:Value}{d:DataW H}{X:List MemPlace} (Y:∀x,(f x).length=sz)(J:0<sz)(S:P.underlying t=some (.slice e))(w:P.cellsOf e=sz)(one:∀fuel cs x,DataW.trod enc P W base sp held fuel e cs=some x->∃a,cs=f a/\p a) (s:Value.okWide P W r b0 t v)(y:DataW.Trod enc P W base sp held t v d X):∃(A:Option Addr)(n c:Nat)(l:List α),v=.slice A n c/\Sl W A n sz (la f l)/\∀a∈l,p a:=by
 obtain⟨a,len,cap,rfl⟩:=okWide_slice S s;obtain⟨fuel,T⟩:=y;obtain⟨h1,_⟩|⟨b,n,g,m,k,D,G,h1,_,h2,K,hm,_,q⟩:=Go.Deep.open_slice S T
 .have E:[Value.slice a len cap]=[.slice none 0 0]:=h1;simp only[U6,Value.slice.injEq,and_true] at E;obtain⟨rfl,rfl,rfl⟩:=E;exact⟨none,0,0,[],rfl,Sl.nil W none sz,λ_ h=>by simp at h⟩
 have E:[Value.slice a len cap]=[.slice (some b) n g]:=h1;simp only[U6,Value.slice.injEq,and_true] at E;obtain⟨rfl,rfl,rfl⟩:=E;have z:len<=m:=by rw[hm];split<;>omega
 obtain⟨l,Q,hp⟩:=Wy (p:=λi a=>W.cells? base (b.add (i*sz)) sz=some (f a)/\p a) len λi hi=>(by obtain⟨cs,L,N⟩:=q i Z';rw[w] at L;obtain⟨a,rfl,B⟩:=one _ _ _ N;exact⟨a,L,B⟩);refine⟨some b,len,cap,l,rfl,⟨by rw[ee Y,Q],λ_=>⟨b,rfl,λj u hu=> ?_⟩⟩,λa M=> ?_⟩
 .exact aez
 obtain⟨i,hi⟩:=r_.1 M;exact(hp i a hi).2
def IC(z:Int):List Value:=[wd z]
def kL{f:α->List Value}{p:α->Prop}{sz:Nat}{t e:TypeId}{H:Type}{enc:TypeId×Value->H}{sp:Nat->Bool}{held:Bool}{x:DataW H×List MemPlace} (Y:∀x,(f x).length=sz)(J:0<sz)(S:P.underlying t=some (.slice e))(E:P.cellsOf e=sz)(one:∀fuel cs x,DataW.trod enc P W base sp held fuel e cs=some x->∃a,cs=f a/\p a) (T:DataW.trod enc P W base sp held fuel t cs=some x):∃(A:Option Addr)(n c:Nat)(l:List α),cs=[.slice A n c]/\Sl W A n sz (la f l)/\∀a∈l,p a:=by
 obtain⟨h1,_⟩|⟨b,n,g,m,k,D,w,h1,_,h2,G,hm,_,d⟩:=Go.Deep.open_slice S T
 .exact⟨none,0,0,[],h1,Sl.nil W none sz,λ_ h=>by simp at h⟩
 have y:n<=m:=by rw[hm];split<;>omega
 obtain⟨l,Q,hp⟩:=Wy (p:=λi a=>W.cells? base (b.add (i*sz)) sz=some (f a)/\p a) n λi hi=>(by obtain⟨cs,L,N⟩:=d i Z';rw[E] at L;obtain⟨a,rfl,B⟩:=one _ _ _ N;exact⟨a,L,B⟩);refine⟨some b,n,g,l,h1,⟨by rw[ee Y,Q],λ_=>⟨b,rfl,λj u hu=> ?_⟩⟩,λa M=> ?_⟩
 .exact aez
 obtain⟨i,hi⟩:=r_.1 M;exact(hp i a hi).2
def wO{t e:TypeId}{H:Type}{enc:TypeId×Value->H}{sp:Nat->Bool}{held:Bool}{A:Option Addr}{c:Nat}{x:DataW H×List MemPlace} (S:P.underlying t=some (.slice e))(T:DataW.trod enc P W base sp held fuel t [.slice A n c]=some x):n<=c:=by
 obtain⟨h1,_⟩|⟨b,q,g,m,k,D,w,h1,_,h2,_⟩:=Go.Deep.open_slice S T
 .injection h1 with h1
  injection h1 with _ L X
  omega
 injection h1 with h1
 injection h1 with _ L X
 omega
def VQ{l:t4}(h:l.all Tb=true):ints (l.map Wq)=l:=by
 induction l with
 |nil=>rfl
 |cons x l W=>
  simp only[List.all_cons,Z_] at h;have h1:((Wq x).toNat:Int)=x:=by
   have:=rq h.1;injection this with _ this
   exact this.symm
  have:=W h.2;simp only[ints,T_,h1];congr 1
def tU{l:t4}(h:l.all Tb=true):Le (l.map Wq)=true:=by
 rw[Le,M_];intro c E;obtain⟨x,C,rfl⟩:=x'.1 E;have h1:=M_.1 h x C;have:=rq h1;injection this with _ this
 simp only[Tb,Z_,Y_] at h1;simp only[Y_];omega
def sY{a:List UInt8}(h:Le a=true):(ints a).all Tb=true:=by
 rw[M_];intro x C;obtain⟨c,E,rfl⟩:=x'.1 C;have:=M_.1 h c E;simp only[Y_] at this;simp only[Tb,Z_,Y_];omega
def YB{f:Int->Int->Int}{a b:List UInt8}{l:t4}(h:Ch f a b=some l):Le a=true/\Le b=true/\b.length=a.length/\l=List.zipWith f (ints a) (ints b):=by
 unfold Ch at h;split at h
 .rename_i E;simp only[Z_,Y_] at E;injection h with h
  exact⟨E.1,E.2.1,Z',h.symm⟩
 cases h
def mY{f:Int->Int->Int}{a b:List UInt8}(h1:Le a=true)(h2:Le b=true)(G:b.length=a.length):Ch f a b=some (List.zipWith f (ints a) (ints b)):=by
 unfold Ch;rw[Q' (by simp[h1,h2,G])]
def Bq{a c:List UInt8}(h:(mulL a c).2=0):Le a=true/\Le c=true/\c.length=a.length/\Le (mulL a c).1=true/\ints (mulL a c).1=List.zipWith (· + ·) (ints a) (ints c):=by
 unfold mulL at h |-;split
 .rename_i l Q;rw[Q] at h;simp only at h |-;obtain⟨h1,h2,G,z⟩:=YB Q;by_cases E:l.all Tb=true
  .rw[(iu E).1];exact⟨h1,h2,G,tU E,by rw[VQ E,z]⟩
  simp[cW,E] at h
 rename_i Q;rw[Q] at h;simp at h
def gK{a c:List UInt8}(h:(mulL a c).2=0):(mulL a c).1.length=a.length:=by
 obtain⟨_,_,G,_,P⟩:=Bq h;have:=C_ List.length P;rw[jd,S6,jd,jd] at this;omega
structure TR where
 m:t7
 c:NR
def TR.cells(t:TR):List Value:=[wt t.m,ww t.c.neg,wt t.c.Ra,wd t.c.e]
def TR.len(t:TR):t.cells.length=4:=rfl
def TR.one(t:TR):t.cells.all Value.oneCell'=true:=rfl
def Nh(a b:t7):Bool:=Op.bytesLess a.data.toList b.data.toList
def qt:∀a:List UInt8,Op.bytesLess a a=false
 |[]=>rfl
 |c::a=>by simp[Op.bytesLess,qt a]
def ow:∀a b c:List UInt8,Op.bytesLess a b=true->Op.bytesLess b c=true->Op.bytesLess a c=true
 |_,[],[],_,h=>by simp[Op.bytesLess] at h
 |_,_::_,[],_,h=>by simp[Op.bytesLess] at h
 |[],[],_::_,h,_=>by simp[Op.bytesLess] at h
 |_::_,[],_::_,h,_=>by simp[Op.bytesLess] at h
 |[],_::_,_::_,_,_=>rfl
 |x::a,y::b,z::c,h1,h2=>by
  simp only[Op.bytesLess,Z7,Z_,Y_,W8] at h1 h2 |-;obtain h1|⟨rfl,h1⟩:=h1
  .obtain h2|⟨rfl,h2⟩:=h2
   .exact .inl (UInt8.lt_trans h1 h2)
   exact .inl h1
  obtain h2|⟨rfl,h2⟩:=h2
  .exact .inl h2
  exact .inr ⟨rfl,ow a b c h1 h2⟩
def eC:∀a b:List UInt8,Op.bytesLess a b=false->Op.bytesLess b a=false->a=b
 |[],[],_,_=>rfl
 |[],_::_,h,_=>by simp[Op.bytesLess] at h
 |_::_,[],_,h=>by simp[Op.bytesLess] at h
 |x::a,y::b,h1,h2=>(by simp only[Op.bytesLess,Bool.or_eq_false_iff,T5,W6,beq_eq_false_iff_ne] at h1 h2;have e:x=y:=(by have J:=h1.1;have o:=h2.1;rw[UInt8.lt_iff_toNat_lt] at J o;exact g7.1 Z');subst e;rw[eC a b (h1.2.resolve_left (λh=>h rfl)) (h2.2.resolve_left (λh=>h rfl))])
def ph(a):Nh a a=false:=qt _
def Rk{a b c:t7}(h1:Nh a b=true)(h2:Nh b c=true):Nh a c=true:=ow _ _ _ h1 h2
def Vq{a b:t7}(h1:Nh a b=false)(h2:Nh b a=false):a=b:=Uu (eC _ _ h1 h2)
def GR{a b:t7}(h:Nh a b=true):a≠b:=λe=>by rw[e,ph] at h;cases h
def hQ{a b:t7}(h:Nh a b=true):Nh b a=false:=by
 cases h2:Nh b a with
 |false=>rfl
 |true=>have:=Rk h h2;rw[ph] at this;cases this
def xx(l:List TR):Prop:=l.Pairwise λa b=>Nh a.m b.m=true
def wS(f:t7->Dyadic):List TR->Dyadic
 |[]=>0
 |t::l=>t.c.fa*f t.m+wS f l
def Bm(f:t7->Dyadic)(l:List TR)(k):wS f (l++k)=wS f l+wS f k:=by
 induction l with
 |nil=>exact(k8 _).symm
 |cons t l W=>rw[I',wS,wS,W,Dyadic.add_assoc]
def WW(f:t7->Dyadic)(l:List TR)(t:TR):wS f (l++[t])=wS f l+t.c.fa*f t.m:=by
 rw[Bm,wS,wS,z8]
def Ph(l:List TR)(m:t7):Dyadic:=wS (λk=>if k=m then 1 else 0) l
def Ue(t:TR)(l)(m:t7):Ph (t::l) m=(if t.m=m then t.c.fa else 0)+Ph l m:=by
 show t.c.fa*(if t.m=m then 1 else 0)+Ph l m=_;split
 .rw[Dyadic.mul_one]
 rw[a7]
def IA(m:t7):Ph [] m=0:=rfl
def mg(l:List TR)(k)(m:t7):Ph (l++k) m=Ph l m+Ph k m:=Bm _ _ _
def fC{l:List TR}{m:t7}(h:∀t∈l,t.m≠m):Ph l m=0:=by
 induction l with
 |nil=>rfl
 |cons t l W=>rw[Ue,R' (h t E'),W λs K=>h s (u' _ K),k8]
structure Canon(l:List TR):Prop where
 nw:xx l
 nz:∀t∈l,t.c.fa≠0
 nf:∀t∈l,t.c=nR t.c.fa
def jA{t:TR}{l:List TR}(h:Canon (t::l)):Canon l:=⟨(l9.1 h.nw).2,λs K=>h.nz s (u' _ K),λs K=>h.nf s (u' _ K)⟩
def mC{t:TR}{l:List TR}{m:t7}(h:xx (t::l))(hm:m=t.m\/Nh m t.m=true):∀s∈l,s.m≠m:=λs K e=>by
 have h1:=(l9.1 h).1 s K;obtain rfl|hm:=hm
 .rw[e,ph] at h1;cases h1
 have:=Rk hm h1;rw[e,ph] at this;cases this
def Ok{t:TR}{l:List TR}(h:xx (t::l)):Ph (t::l) t.m=t.c.fa:=by
 rw[Ue,Q' rfl,fC (mC h (.inl rfl)),z8]
def HB{t:TR}{l:List TR}{m:t7}(h:xx (t::l))(hm:Nh m t.m=true):Ph (t::l) m=0:=by
 rw[Ue,R' (λe=>GR hm e.symm),fC (mC h (.inr hm)),k8]
def Oz:∀{l k:List TR},Canon l->Canon k->(∀m,Ph l m=Ph k m)->l=k
 |[],[],_,_,_=>rfl
 |[],t::k,_,u,h=>(by have:=h t.m;rw[Ok u.nw,IA] at this;exact absurd this.symm (u.nz t E'))
 |t::l,[],Q,_,h=>(by have:=h t.m;rw[Ok Q.nw,IA] at this;exact absurd this (Q.nz t E'))
 |t::l,s::k,Q,u,h=>by
  have h1:Nh t.m s.m=false:=by
   cases F:Nh t.m s.m with
   |false=>rfl
   |true=>
    have:=h t.m;rw[Ok Q.nw,HB u.nw F] at this;exact absurd this (Q.nz t E')
  have h2:Nh s.m t.m=false:=by
   cases F:Nh s.m t.m with
   |false=>rfl
   |true=>
    have:=h s.m;rw[Ok u.nw,HB Q.nw F] at this;exact absurd this.symm (u.nz s E')
  have em:=Vq h1 h2;have f:t.c.fa=s.c.fa:=(by have:=h t.m;rw[Ok Q.nw,em,Ok u.nw] at this;exact this);have T:t=s:=(by have a:=Q.nf t E';have b:=u.nf s E';obtain⟨e,X⟩:=t;obtain⟨N,Y⟩:=s;simp only at em f a b;rw[em,a,b,f]);subst T;rw[Oz (jA Q) (jA u) λm=>by
   have:=h m;rw[Ue,Ue] at this;grind]
def di:List TR->TR->List TR
 |[],x=>[⟨x.m,nR x.c.fa⟩]
 |t::l,x=>if Nh t.m x.m=true then t::di l x else if Nh x.m t.m=true then⟨x.m,nR x.c.fa⟩::t::l else⟨x.m,nR (t.c.fa+x.c.fa)⟩::l
def YN(f:t7->Dyadic):∀(l:List TR)(x:TR),wS f (di l x)=wS f l+x.c.fa*f x.m
 |[],x=>(by show(nR x.c.fa).fa*f x.m+0=0+_;rw[Ta,z8,k8])
 |t::l,x=>by
  unfold di;split
  .rw[wS,YN f l x,wS,Dyadic.add_assoc]
  split
  .rw[wS,wS,Ta,Dyadic.add_comm]
  rename_i h1 h2;have e:t.m=x.m:=Vq (by simpa using h1) (by simpa using h2);rw[wS,wS,Ta,e];grind
def Ry:∀{l:List TR}{x t:TR},t∈di l x->t∈l\/t.m=x.m
 |[],x,t,h=>.inr (by rw[k'.1 h])
 |s::l,x,t,h=>by
  unfold di at h;split at h
  .obtain rfl|h:=y'.1 h
   .exact .inl E'
   obtain h|h:=Ry h
   .exact .inl (u' _ h)
   exact .inr h
  split at h
  .obtain rfl|h:=y'.1 h
   .exact .inr rfl
   exact .inl h
  obtain rfl|h:=y'.1 h
  .exact .inr rfl
  exact .inl (u' _ h)
def jH:∀{l:List TR}{x:TR},xx l->xx (di l x)
 |[],x,_=>m6 _ _
 |s::l,x,h=>by
  have h1:=l9.1 h;unfold di;split
  .rename_i K;refine l9.2 ⟨λt S=> ?_,jH h1.2⟩;obtain S|S:=Ry S
   .exact h1.1 t S
   rw[S];exact K
  split
  .rename_i K;refine l9.2 ⟨λt S=> ?_,h⟩;obtain rfl|S:=y'.1 S
   .exact K
   exact Rk K (h1.1 t S)
  rename_i a b;have e:s.m=x.m:=Vq (by simpa using a) (by simpa using b);refine l9.2 ⟨λt S=> ?_,h1.2⟩;show Nh x.m t.m=true;rw[<-e];exact h1.1 t S
def tM:∀{l:List TR}{x:TR},(∀t∈l,t.c=nR t.c.fa)->∀t∈di l x,t.c=nR t.c.fa
 |[],x,_,t,S=>by rw[k'.1 S];show nR _=nR (nR _).fa;rw[Ta]
 |s::l,x,h,t,S=>by
  unfold di at S;split at S
  .obtain rfl|S:=y'.1 S
   .exact h t E'
   exact tM (λt S=>h t (u' _ S)) t S
  split at S
  .obtain rfl|S:=y'.1 S
   .show nR _=nR (nR _).fa;rw[Ta]
   exact h t S
  obtain rfl|S:=y'.1 S
  .show nR _=nR (nR _).fa;rw[Ta]
  exact h t (u' _ S)
def kI:∀(l:List TR)(x:TR),(di l x).length<=l.length+1
 |[],x=>F' _
 |s::l,x=>by
  have:=kI l x;unfold di;split
  .rw[V_,V_];omega
  split<;>simp
def JN{k:Nat}:∀{l:List TR}{x:TR},(∀t∈l,Sz k t.c.fa)->Sz k x.c.fa->∀t∈di l x,Sz (k+1) t.c.fa
 |[],x,_,C,t,S=>by rw[k'.1 S];show Sz _ (nR _).fa;rw[Ta];exact C.mono Z'
 |s::l,x,h,C,t,S=>by
  unfold di at S;split at S
  .obtain rfl|S:=y'.1 S
   .exact(h t E').mono Z'
   exact JN (λt S=>h t (u' _ S)) C t S
  split at S
  .obtain rfl|S:=y'.1 S
   .show Sz _ (nR _).fa;rw[Ta];exact C.mono Z'
   exact(h t S).mono Z'
  obtain rfl|S:=y'.1 S
  .show Sz _ (nR _).fa;rw[Ta];exact(h s E').add C
  exact(h t (u' _ S)).mono Z'
def vi(l:List TR):List TR:=l.foldl di []
def Gq(t:TR):Bool:= !decide (t.c.fa=0)
def oa(l:List TR):List TR:=(vi l).filter Gq
def ni(l:List TR)(x:TR):vi (l++[x])=di (vi l) x:=by unfold vi;rw[u7];rfl
def Yj{P:List α->Prop}(J:P [])(K:∀l x,P l->P (l++[x]))(l:List α):P l:=by
 have:∀k:List α,P k.reverse:=λk=>by
  induction k with
  |nil=>exact J
  |cons x k W=>rw[Y8];exact K _ _ W
 have h:=this l.reverse;rwa[I8] at h
def XT(f:t7->Dyadic)(l):wS f (vi l)=wS f l:=by
 induction l using Yj with
 |J=>rfl
 |K l x W=>rw[ni,YN,W,WW]
def GO(l):xx (vi l):=by
 induction l using Yj with
 |J=>exact q6
 |K l x W=>rw[ni];exact jH W
def VI(l):∀t∈vi l,t.c=nR t.c.fa:=by
 induction l using Yj with
 |J=>intro t S;cases S
 |K l x W=>rw[ni];exact tM W
def GB(l):(vi l).length<=l.length:=by
 induction l using Yj with
 |J=>exact F' _
 |K l x W=>rw[ni,D'];have:=kI (vi l) x;simp;omega
def TG(l)(h:∀t∈l,Sz k t.c.fa):∀t∈vi l,Sz (k+l.length) t.c.fa:=by
 induction l using Yj with
 |J=>intro t S;cases S
 |K l x W=>
  rw[ni,D'];exact JN (k:=k+l.length) (W λt S=>h t (q9 _ S)) ((h x (by simp)).mono Z')
def MO(l):∀t∈vi l,∃s∈l,s.m=t.m:=by
 induction l using Yj with
 |J=>intro t S;cases S
 |K l x W=>
  rw[ni];intro t S;obtain S|S:=Ry S
  .obtain⟨s,K,e⟩:=W t S;exact⟨s,q9 _ K,e⟩
  exact⟨x,by simp,S.symm⟩
def qC(f:t7->Dyadic)(l:List TR):wS f (l.filter Gq)=wS f l:=by
 induction l with
 |nil=>rfl
 |cons t l W=>
  rw[List.filter_cons];by_cases h:t.c.fa=0
  .rw[R' (by unfold Gq;rw[w' h];decide),W,wS,h,F6,k8]
  rw[Q' (by unfold Gq;rw[m' h];rfl),wS,wS,W]
def Wu(f:t7->Dyadic)(l):wS f (oa l)=wS f l:=(qC f _).trans (XT f l)
def Pl(l)(m:t7):Ph (oa l) m=Ph l m:=Wu _ _
def cL{t:TR}(h:Gq t=true):t.c.fa≠0:=λe=>by
 unfold Gq at h;rw[w' e] at h
 cases h
def Me(l):Canon (oa l):=
 ⟨List.Pairwise.filter _ (GO l),λt S=>cL (A9.1 S).2,λt S=>VI l t (A9.1 S).1⟩
def Zb(l):(oa l).length<=l.length:=p' (a6 _ _) (GB l)
def Pq{l:List TR}(h:∀t∈l,Sz k t.c.fa):∀t∈oa l,Sz (k+l.length) t.c.fa:=λt S=>TG l h t (A9.1 S).1
def ll{l:List TR}:∀t∈oa l,∃s∈l,s.m=t.m:=λt S=>MO l t (A9.1 S).1
def Tu{l k:List TR}(h:Canon k)(E:∀m,Ph k m=Ph l m):k=oa l:=Oz h (Me l) λm=>by rw[E,Pl]
def xE{l k:List TR}(E:∀m,Ph k m=Ph l m):oa k=oa l:=Tu (Me k) λm=>by rw[Pl,E]
def Gh(k:Nat)(l:List TR):Prop:=∀t∈l,t.c.ok/\Sz k t.c.fa
def Gh.mono{l:List TR}(h:Gh k l)(u:k<=j):Gh j l:=λt S=>⟨(h t S).1,(h t S).2.mono u⟩
structure MD(k:Nat)(l L:List TR):Prop where
 nw:xx L
 co:∀m,Ph L m=Ph l m
 len:L.length<=l.length
 ok:Gh k L
 mem:∀t∈L,∃s∈l,s.m=t.m
def MD.mono{l L:List TR}(h:MD k l L)(u:k<=j):MD j l L:=⟨h.nw,h.co,h.len,h.ok.mono u,h.mem⟩
def MD.self{l:List TR}(h:xx l)(u:Gh k l):MD k l l:=⟨h,λ_=>rfl,F' _,u,λt S=>⟨t,S,rfl⟩⟩
structure Mg(k:Nat)(xs ys O X Y:List TR):Prop where
 ro:xx O
 rx:xx X
 ry:xx Y
 co:∀m,Ph O m+(Ph X m+Ph Y m)=Ph xs m+Ph ys m
 bx:∀t∈O,∀s∈X,Nh t.m s.m=true
 hy:∀t∈O,∀s∈Y,Nh t.m s.m=true
 len:O.length+(X.length+Y.length)<=xs.length+ys.length
 oo:Gh (k+1) O
 ox:Gh k X
 oy:Gh k Y
 mo:∀t∈O,∃s∈xs++ys,s.m=t.m
 mx:∀t∈X,t∈xs++ys
 my:∀t∈Y,t∈xs++ys
def Mg.start{xs ys:List TR}(C:xx xs)(hy:xx ys)(ox:Gh k xs)(oy:Gh k ys):Mg k xs ys [] xs ys:=
 ⟨q6,C,hy,λm=>k8 _,λt S=>(by cases S),λt S=>(by cases S),by simp,λt S=>(by cases S),ox,oy,λt S=>(by cases S),λt S=>q9 _ S,λt S=>H_ _ S⟩
def dy{O:List TR}{x:TR}(h:xx O)(C:∀t∈O,Nh t.m x.m=true):xx (O++[x]):=
 List.pairwise_append.2 ⟨h,m6 _ _,λt S s K=>by rw[k'.1 K];exact C t S⟩
def ky(x:TR)(m:t7):Ph [x] m=if x.m=m then x.c.fa else 0:=by rw[Ue,IA,z8]
def Kg{P:α->Prop}{O:List α}{x:α}(h:∀t∈O,P t)(C:P x):∀t∈O++[x],P t:=λt S=>by
 obtain S|S:=A_.1 S
 .exact h t S
 rw[k'.1 S];exact C
def Mg.left{xs ys O X Y:List TR}{x y:TR}(h:Mg k xs ys O (x::X) (y::Y))(Q:Nh x.m y.m=true):Mg k xs ys (O++[x]) X (y::Y):=by
 obtain⟨ro,rx,ry,co,bx,G,len,oo,ox,oy,mo,mx,my⟩:=h;have M:=l9.1 rx;have r:=l9.1 ry;refine⟨dy ro λt S=>bx t S x E',M.2,ry,λm=> ?_,Kg (λt S s K=>bx t S s (u' _ K)) λs K=>M.1 s K,Kg G λs K=> ?_,by simp at len |-;omega,Kg oo ⟨(ox x E').1,(ox x E').2.mono Z'⟩,λt S=>ox t (u' _ S),oy,Kg mo ⟨x,mx x E',rfl⟩,λt S=>mx t (u' _ S),my⟩
 .have:=co m;rw[Ue x X] at this;rw[mg,ky];grind
 obtain rfl|K:=y'.1 K
 .exact Q
 exact Rk Q (r.1 s K)
def Mg.right{xs ys O X Y:List TR}{x y:TR}(h:Mg k xs ys O (x::X) (y::Y))(Q:Nh y.m x.m=true):Mg k xs ys (O++[y]) (x::X) Y:=by
 obtain⟨ro,rx,ry,co,bx,G,len,oo,ox,oy,mo,mx,my⟩:=h;have M:=l9.1 rx;have r:=l9.1 ry;refine⟨dy ro λt S=>G t S y E',rx,r.2,λm=> ?_,Kg bx λs K=> ?_,Kg (λt S s K=>G t S s (u' _ K)) λs K=>r.1 s K,by simp at len |-;omega,Kg oo ⟨(oy y E').1,(oy y E').2.mono Z'⟩,ox,λt S=>oy t (u' _ S),Kg mo ⟨y,my y E',rfl⟩,mx,λt S=>my t (u' _ S)⟩
 .have:=co m;rw[Ue y Y] at this;rw[mg,ky];grind
 obtain rfl|K:=y'.1 K
 .exact Q
 exact Rk Q (M.1 s K)
def Mg.both{xs ys O X Y:List TR}{x y:TR}(h:Mg k xs ys O (x::X) (y::Y))(h1:Nh x.m y.m=false)(h2:Nh y.m x.m=false)(u:k<=3999980):Mg k xs ys (O++[⟨x.m,nR (x.c.fa+y.c.fa)⟩]) X Y:=by
 obtain⟨ro,rx,ry,co,bx,G,len,oo,ox,oy,mo,mx,my⟩:=h;have M:=l9.1 rx;have r:=l9.1 ry;have e:=Vq h1 h2;have o:=(ox x E').2.add (oy y E').2;refine⟨dy ro λt S=>bx t S x E',M.2,r.2,λm=> ?_,Kg (λt S s K=>bx t S s (u' _ K)) λs K=>M.1 s K,Kg (λt S s K=>G t S s (u' _ K)) λs K=> ?_,by simp at len |-;omega,Kg oo ⟨o.ok Z', ?_⟩,λt S=>ox t (u' _ S),λt S=>oy t (u' _ S),Kg mo ⟨x,mx x E',rfl⟩,λt S=>mx t (u' _ S),λt S=>my t (u' _ S)⟩
 .have:=co m;rw[Ue y Y,Ue x X,<-e] at this;rw[mg,ky];show Ph O m+(if x.m=m then(nR (x.c.fa+y.c.fa)).fa else 0)+(Ph X m+Ph Y m)=_;rw[Ta];grind
 .show Nh x.m s.m=true;rw[e];exact r.1 s K
 show Sz _ (nR _).fa;rw[Ta];exact o
def Mg.done{xs ys O X Y:List TR}(h:Mg k xs ys O X Y)(T:X=[]\/Y=[]):MD (k+1) (xs++ys) (O++X++Y):=by
 obtain⟨ro,rx,ry,co,bx,G,len,oo,ox,oy,mo,mx,my⟩:=h;refine⟨?_,λm=> ?_,by simp at len |-;omega,λt S=> ?_,λt S=> ?_⟩
 .rw[J_];refine List.pairwise_append.2 ⟨ro, ?_,λt S s K=> ?_⟩
  .obtain rfl|rfl:=T
   .exact ry
   rw[I_];exact rx
  obtain K|K:=A_.1 K
  .exact bx t S s K
  exact G t S s K
 .rw[mg,mg,mg,Dyadic.add_assoc];exact co m
 .obtain S|S:=A_.1 S
  .obtain S|S:=A_.1 S
   .exact oo t S
   exact⟨(ox t S).1,(ox t S).2.mono Z'⟩
  exact⟨(oy t S).1,(oy t S).2.mono Z'⟩
 obtain S|S:=A_.1 S
 .obtain S|S:=A_.1 S
  .exact mo t S
  exact⟨t,mx t S,rfl⟩
 exact⟨t,my t S,rfl⟩
def MD.oa{k:Nat}{l L:List TR}(h:MD k l L):((L.filter Gq).map λt=>(⟨t.m,nR t.c.fa⟩:TR))=oa l:=by
 refine Tu ⟨?_,λt S=> ?_,λt S=> ?_⟩ λm=> ?_
 .exact List.Pairwise.map _ (λa b E=>E) (List.Pairwise.filter _ h.nw)
 .obtain⟨s,K,rfl⟩:=x'.1 S;show(nR s.c.fa).fa≠0;rw[Ta];exact cL (A9.1 K).2
 .obtain⟨s,K,rfl⟩:=x'.1 S;show nR s.c.fa=nR (nR s.c.fa).fa;rw[Ta]
 have e:∀(f:t7->Dyadic)(k:List TR),wS f (k.map λt=>(⟨t.m,nR t.c.fa⟩:TR))=wS f k:=λf k=>by
  induction k with
  |nil=>rfl
  |cons t k W=>rw[T_,wS,wS,W];show(nR t.c.fa).fa*f t.m+_=_;rw[Ta]
 show wS _ _=_;rw[e,qC];exact h.co m
def DC{l:List TR}(h:l.length<2):xx l:=by
 match l,h with
 |[],_=>exact q6
 |[x],_=>exact m6 _ _
variable {K:Value->World->Prop}{ag:Bool}{by' d:Nat}{zc:List Value}{ro:Mode}{ops:Array Oper}{Q:Kq}{O:Rf}{rest:List Oper}{H:List HE}{ty:TypeId}{pos:String}{af:Array Edge}
def eY(I:Hp w0 H w){t e:TypeId}{l g:Operand}{c m:IntKind}{L C:Int}{sz:Nat}(o:ev O l=.int c L)(E:ev O g=.int m C)(f:L=0)(M:C=(n:Int)) (S:P.underlying t=some (.slice e))(D:sd P e=some (sz,ag,by',zc))(F:by'*n<=281474976710656)(X:n<=9223372036854775807)(h:d<N) (k:∀b V,Hp w0 (.row (some ⟨b,0,none⟩) 0 n e sz []::H) V->WL ro P N ops Q rest (vd O d (.slice (some ⟨b,0,none⟩) 0 n)) V):
  WL ro P N ops Q (⟨some d,.makeSlice t l g,ty,pos,af,none⟩::rest) O w:=by
 obtain⟨i,z,dd,hi,T,p,K,G,r,_⟩:=df D;subst f;subst M;subst K;have a:=run_make (P:=P) w t e i z S hi p c m 0 n (Int.le_refl _) Z' (by rw[G,<-m_];omega) Z';simp only[z9,Int.toNat_zero] at a;refine Jb rfl rfl h (V:=w.alloc (.cells (madeCells z.cells (n*i.size)) e)) (v:=.slice (some ⟨w.heap.size,0,none⟩) 0 n) ?_ (k _ _ (I.Ed (show Below w.heap.size w (w.alloc (.cells (madeCells z.cells (n*i.size)) e)) from⟨rfl,rfl,rfl,(World.grownBy_alloc w _ none).size,λj hj=>(World.grownBy_alloc w _ none).block j hj (by simp)⟩) ?_))
 .simp[execOp,o,E,a]
 exact⟨by simp,.inr ⟨w.heap.size,n,madeCells z.cells (n*i.size),rfl,F' _,heap_alloc_new w _,N' _,by unfold maxLen;omega,size_madeCells _ _,by simp⟩⟩
def rj(n sz:Nat)(cs:List Value):VP:=λv W=>∃g:Nat,v=wn (some ⟨g,0,none⟩) n n/\Sl W (some ⟨g,0,none⟩) n sz cs
def rj.ext{sz:Nat}(v:Value)(w V)(h:rj n sz cs v w)(F:Below w.heap.size w V):rj n sz cs v V:=let⟨g,h1,h2⟩:=h;⟨g,h1,h2.ext F⟩
def XN{d:Option Nat}{ty:TypeId}{af:Array Edge}{t e:TypeId}{l g:Operand}{c m:IntKind}{L C:Int}{sz:Nat}(Q:ev O l=.int c L)(E:ev O g=.int m C)(b:L=(n:Int))(M:C=(n:Int)) (S:P.underlying t=some (.slice e))(D:sd P e=some (sz,ag,by',zc))(f:zc.length=sz)(F:by'*n<=281474976710656)(X:n<=9223372036854775807) (u:∀v q,rj n sz (hh n zc) v q->Below w.heap.size w q->K v q):OG P ops ⟨d,.makeSlice t l g,ty,pos,af,none⟩ O w K:=by
 obtain⟨i,z,dd,hi,T,o,h,G,r,_⟩:=df D;subst b;subst M;obtain⟨V,H,W,s⟩:=run_make_full (P:=P) w w.heap.size t e i z sz S hi o h c m n (by rw[G];exact F) (by unfold maxLen;omega) (F' _);have A:(madeCells z.cells (n*sz)).toList=hh n zc:=(by exact I2);rw[A] at W;exact ic rfl (V:=V) (v:=.slice (some ⟨w.heap.size,0,none⟩) n n) (by simp[execOp,Q,E,H]) (u _ _ ⟨w.heap.size,rfl,xg W⟩ ⟨s.os,s.tape,s.output,s.size,λj hj=>s.block j hj (by simp)⟩)
def Tr(n:Nat):hh n [.int .u8 0]=jj (List.replicate n 0):=by
 induction n with
 |zero=>rfl
 |succ n W=>rw[hh,W,a8];rfl
def wN(a:t7):a.toList=a.data.toList:=by
 have key:∀s:t7,s.toList=s.data.toList:=λs=>(by refine aff ?_;intro this;simpa using this (s.size-0) 0 [] rfl);exact key a
def dk(a b:t7):Op.bytesLess a.toList b.toList=Nh a b:=by rw[wN,wN];rfl
def jX(a b:t7):(!(Op.bytesLess a.toList b.toList||a.toList==b.toList))=Nh b a:=by
 rw[dk,vV]
 cases h1:Nh a b with
 |true=>rw[hQ h1];rfl
 |false=>
  cases h2:Nh b a with
  |true=>rw[m' (λe=>GR h2 e.symm)];rfl
  |false=>rw[w' (Vq h1 h2)];rfl
def KU(x y:TR):Int:=if Nh x.m y.m=true then -1 else if Nh y.m x.m=true then 1 else 0
def zK(x y:TR)(w):Zc 133 #[.agg #[wt x.m,ww x.c.neg,wt x.c.Ra,wd x.c.e],.agg #[wt y.m,ww y.c.neg,wt y.c.Ra,wd y.c.e]] w (wd (KU x y)):=by
 have I:=Hp.start w;refine Ga func133 ?_;refine Ib ?_;intro T q I j p I;refine sv (jv rfl rfl) ?_;refine ea ?_;rw[dk];unfold KU
 cases h1:Nh x.m y.m with
 |true=>
  refine ea ?_;exact⟨rfl,I.below⟩
 |false=>
  refine ea ?_;refine sv (PO rfl rfl) ?_;refine ea ?_;rw[jX]
  cases h2:Nh y.m x.m with
  |true=>
   refine ea ?_;exact⟨rfl,I.below⟩
  |false=>
   refine ea ?_;exact⟨rfl,I.below⟩
def WO(x y:TR)(k:Nat)(w)(S:Nd w)(C:x.c.ok/\Sz k x.c.fa)(hy:y.c.ok/\Sz k y.c.fa)(u:k<=3999980):Zc 134 #[.agg #[wt x.m,ww x.c.neg,wt x.c.Ra,wd x.c.e],.agg #[wt y.m,ww y.c.neg,wt y.c.Ra,wd y.c.e]] w (.agg #[wt x.m,ww (nR (x.c.fa+y.c.fa)).neg,wt (nR (x.c.fa+y.c.fa)).Ra,wd (nR (x.c.fa+y.c.fa)).e]):=by
 have I:=Hp.start w;have g:=λA B Z P N=>Uh A 2 B [x.c,y.c] Z P N (by simpa using⟨C.1,hy.1⟩) k (by simpa using⟨C.2,hy.2⟩) Z';rw[show Mo ([x.c,y.c].map NR.fa)=x.c.fa+y.c.fa by simp only[T_,f_,Zk]] at g;refine Ga func134 ?_;refine Ii ?_;intro T q I l r I D s I;refine Od 8 I ?_;refine Nw [_,_,_,_,_,_] ?_;refine ua (i:=7) (Is (.agg #[ww (nR (x.c.fa+y.c.fa)).neg,wt (nR (x.c.fa+y.c.fa)).Ra,wd (nR (x.c.fa+y.c.fa)).e])) Is.ext ?_ ?_
 .intro U Z hj hR;obtain⟨J,j,a,s11⟩:=hR.1;exact rb rfl (Ha fi (na a Oa)) (g J j _ (S.hp hj.hp) s11) (λ_ _ R=>⟨_,R.1,R.2,rfl⟩)
 refine xa ?_;intro f W Q b;obtain⟨h,v11,v10,G,Y,p,v6,o,_⟩:=b;obtain⟨J,j,H,f11⟩:Rows _ _ _ (f 6) W:=v11;replace I:=Q.hp;refine Be ?_;refine Gb ?_;intro ws I;refine dJ (jb rfl (kb (vs:=[_,_,_,_]) pa.out (I.wa (i:=0) (n:=4) rfl rfl) rfl) Ub) ?_;exact⟨rfl,I.below⟩
def sc{Q:Kq}{L:Array Bool}{i d:Nat}{op:Op}{ty:TypeId}{af:Array Edge}{v:Value}(R:NP Q)(hi:ops[i]?=some ⟨some d,op,ty,pos,af,none⟩)(K:Region.noSelect ops=true)(Y:Region.free .any ops L i=true)(H:(Region.ready .any ops L).contains i=true) (A:∀w,(execOp (ev O) ⟨some d,op,ty,pos,af,none⟩).run P w=.ok (.value v) w)(b:d<N)(h:WA P N ops Q fuel (L.setIfInBounds i true) (vd O d v) w):WA P N ops Q (fuel+1) L O w:=
 ⟨λa l=>wpAny_first hi (Region.noSelect_spec K) (λc a w ⟨ρ',_,x⟩=>(R c ρ' w x).elim) fuel L a w (Region.free_spec hi Y) (by simpa using H) (.inl ⟨by simp[Region.wanted],λw=>by rw[l.eval];exact A w⟩) (h.out _ (l.put b v))⟩
def Sl.tail{A:t6}{c:Nat}{x:TR}{X:List TR}(h:Sl w A n 4 (la TR.cells (x::X)))(J:0<n)(E:n<=c):Sl w (if c=1 then A else A.map (·.add (1*4))) (n-1) 4 (la TR.cells X):=by
 have:=h.back (l:=1) Z' E;rw[show(la TR.cells (x::X)).drop (1*4)=la TR.cells X from Ai TR.len (x::X) 1] at this;exact this
def Bu(A:Option Addr)(n c:Nat)(xs:List TR)(B:Option Addr)(m b:Nat)(ys:List TR)(k:Nat)(w:World)(hT:Nd w)(J:Sl w A n 4 (la TR.cells xs))(z:Sl w B m 4 (la TR.cells ys))(E:n<=c)(o:m<=b)(hn:n<=1000000)(hm:m<=1000000)(hk:k<=3999980) (rx:xx xs)(ry:xx ys)(ox:Gh k xs)(oy:Gh k ys):Calls prog 132 #[.slice A n c,.slice B m b,.func (.func 133) #[] #[],.func (.func 134) #[] #[]] w λr V=>∃(L:List TR)(A':Option Addr)(c':Nat),MD (k+1) (xs++ys) L/\r=.returned (.slice A' L.length c')/\Hp w [.row A' L.length c' 72 4 (la TR.cells L)] V:=by
 have I:=Hp.start w;have hlx:=J.Aa TR.len V';have hly:=z.Aa TR.len V';have hnx:xs.length<=1000000:=Z';have hny:ys.length<=1000000:=Z';refine Ga func132 ?_;refine ea ?_;refine eY (n:=(n+m)) I rfl rfl Z' Z' Qa.out pa.out Z' Z' V' ?_;intro b16 w16 I;refine ea ?_;refine Wk [0,1,9,10,17,18,19,20,21,22,23,24,25,26,27,28,29,30,31,32,33,34,35,36,37,38,39,40,41,42,43,44,45,46,47,48,49,50,51,52,53,54,55,56,57,58,59,60,61,62,63,64,65,66,67,68,69] 0 1 9 (λu S vo V=>∃(A:Option Addr)(n c:Nat)(X:List TR)(B:Option Addr)(m b:Nat)(Y:List TR)(O:List TR)(C:Option Addr)(co:Nat),u=.slice A n c/\S=.slice B m b/\vo=.slice C O.length co/\n<=c/\m<=b/\Sl w A n 4 (la TR.cells X)/\Sl w B m 4 (la TR.cells Y)/\Mg k xs ys O X Y/\Hp w [.row C O.length co 72 4 (la TR.cells O)] V) (λu S _ _=>lenOf u+lenOf S) ?_ ?_
 .exact⟨A,n,c,xs,B,m,b,ys,[],some ⟨b16,0,none⟩,n+m,rfl,rfl,rfl,E,o,J,z,Mg.start rx ry ox oy,I⟩
 clear I J z hlx hly E o hn hm;rintro ρ' u S vo V ⟨A,n,c,X,B,m,b,Y,O,C,co,rfl,rfl,rfl,E,o,J,z,a,I⟩;have hX:=J.Aa TR.len V';have hY:=z.Aa TR.len V';have hlen:=a.len;have oX:=Pa TR.one X;have oY:=Pa TR.one Y;by_cases hn:n=0
 .refine ea ?_;refine pb I (i:=0) rfl rfl rfl (J.ext I.below) Qa.out pa.out rfl V' ?one3 Z' Z' V' ?kk3
  case one3=>first|rfl|assumption|exact Ja _|exact oneCells_u8s _
  intro A72 c72 w72 I;simp only[l'] at I;refine mL ?_;refine pb I (i:=0) rfl rfl rfl (z.ext I.below) Qa.out pa.out rfl V' ?one4 Z' Z' V' ?kk4
  case one4=>first|rfl|assumption|exact Ja _|exact oneCells_u8s _
  intro p v w74 I;simp only[l'] at I;refine ea ?_;have hd:=a.done (.inl (s9 Z'));exact aeq
 by_cases hm:m=0
 .refine ea ?_;refine pb I (i:=0) rfl rfl rfl (J.ext I.below) Qa.out pa.out rfl V' ?one5 Z' Z' V' ?kk5
  case one5=>first|rfl|assumption|exact Ja _|exact oneCells_u8s _
  intro A72 c72 w72 I;simp only[l'] at I;refine mL ?_;refine pb I (i:=0) rfl rfl rfl (z.ext I.below) Qa.out pa.out rfl V' ?one6 Z' Z' V' ?kk6
  case one6=>first|rfl|assumption|exact Ja _|exact oneCells_u8s _
  intro p v w74 I;simp only[l'] at I;refine ea ?_;have hd:=a.done (.inr (s9 Z'));exact aeq
 obtain⟨x,X,rfl⟩:∃x X',X=x::X':=by cases X with
  |nil=>exact absurd hX.symm hn
  |cons x X'=>exact⟨x,X',rfl⟩
 obtain⟨y,Y,rfl⟩:∃y Y',Y=y::Y':=by cases Y with
  |nil=>exact absurd hY.symm hm
  |cons y Y'=>exact⟨y,Y',rfl⟩
 obtain⟨ad,rfl,H⟩:=J.at_ Z';obtain⟨ad2,rfl,G⟩:=z.at_ Z';have s:(x::X)[0]?=some x:=rfl;have P:(y::Y)[0]?=some y:=rfl;have D:=J.tail Z' E;have g:=z.tail Z' o;have K:=λZ=>zK x y Z;unfold KU at K
 cases h1:Nh x.m y.m with
 |true=>
  rw[h1,Q' rfl] at K;refine ea ?_;refine qh 7 I ?_;refine ub ?_;refine Wi (0) ?_;refine fk [_,_,_,_] (λ_ hj=>(H.ext hj.hp.below).recAt TR.len s) ?_;refine OA ?_;refine Wi (0) ?_;refine fk [_,_,_,_] (λ_ hj=>(G.ext hj.hp.below).recAt TR.len P) ?_;refine xa ?_;intro f W Q hV;have F:=Q.bl;obtain⟨v31,v30,v29,v28,v27,v26,v25,_⟩:=hV;replace I:=Q.hp;refine Be ?_;clear Q;refine Mh (K _) fi rfl rfl V' ?_;rintro t j ⟨rfl,M⟩;refine⟨_,rfl, ?_⟩;replace I:=I.ext M;refine ea ?_;refine Xs I mixed λw_ e=> ?_;replace I:=e.hp;clear e;refine sc (i:=6) (by repeat (first|exact Nc|refine Rb ?_|refine Mc ?_|refine np_scope ?_)) rfl U' U' U' (λ_=>Yd rfl) V' ?_;refine sc (i:=7) (by repeat (first|exact Nc|refine Rb ?_|refine Mc ?_|refine np_scope ?_)) rfl U' U' U' (λ_=>Bg (l:=1) Qa.out pa.size rfl rfl Z' Z' Z') V' ?_;refine sc (i:=0) (by repeat (first|exact Nc|refine Rb ?_|refine Mc ?_|refine np_scope ?_)) rfl U' U' U' (λ_=>Yd rfl) V' ?_;refine sc (i:=1) (by repeat (first|exact Nc|refine Rb ?_|refine Mc ?_|refine np_scope ?_)) rfl U' U' U' (λ_=>Yd rfl) V' ?_
  refine sc (i:=2) (by repeat (first|exact Nc|refine Rb ?_|refine Mc ?_|refine np_scope ?_)) rfl U' U' U' (λ_=>Eb (k:=0) Qa.out pa.size rfl rfl Z' Z') V' ?_;refine Oe (i:=3) U' rfl ?_;refine SQ ?_;refine Bd ?_;refine Oe (i:=4) U' rfl ?_;refine LB ?_;intro b55 w55 I;refine Bd ?_;refine Oe (i:=5) U' rfl ?_;refine Yl ?_;intro T c56 w56 I;simp only[l',Z9] at I;replace I:=I.sub (d_ _ _);refine Bd ?_;refine gM ?_;refine ea ?_;replace I:=I.sub (P' _ j');refine⟨⟨_,n-1,c-1,X,some ad2,m,b,y::Y,O++[x],T,c56,rfl,rfl, ?_,Z',o,D,z,a.left h1, ?_⟩,by show(n-1)+m<n+m;omega, ?_⟩
  .show Value.slice _ (O.length+1) _=Value.slice _ (O++[x]).length _;rw[D'];rfl
  .rw[D',Na];exact I
  exact Sb
 |false=>
  cases h2:Nh y.m x.m with
  |true=>
   rw[h1,h2,R' V',Q' rfl] at K;refine ea ?_;refine qh 7 I ?_;refine ub ?_;refine Wi (0) ?_;refine fk [_,_,_,_] (λ_ hj=>(H.ext hj.hp.below).recAt TR.len s) ?_;refine OA ?_;refine Wi (0) ?_;refine fk [_,_,_,_] (λ_ hj=>(G.ext hj.hp.below).recAt TR.len P) ?_;refine xa ?_;intro f W Q hV;have F:=Q.bl;obtain⟨v31,v30,v29,v28,v27,v26,v25,_⟩:=hV;replace I:=Q.hp;refine Be ?_;clear Q;refine Mh (K _) fi rfl rfl V' ?_;rintro t j ⟨rfl,M⟩;refine⟨_,rfl, ?_⟩;replace I:=I.ext M;refine ea ?_;refine Xs I mixed λw_ e=> ?_;replace I:=e.hp;clear e;refine sc (i:=6) (by repeat (first|exact Nc|refine Rb ?_|refine Mc ?_|refine np_scope ?_)) rfl U' U' U' (λ_=>Yd rfl) V' ?_;refine sc (i:=7) (by repeat (first|exact Nc|refine Rb ?_|refine Mc ?_|refine np_scope ?_)) rfl U' U' U' (λ_=>Bg (l:=1) Qa.out pa.size rfl rfl Z' Z' Z') V' ?_;refine sc (i:=0) (by repeat (first|exact Nc|refine Rb ?_|refine Mc ?_|refine np_scope ?_)) rfl U' U' U' (λ_=>Yd rfl) V' ?_;refine sc (i:=1) (by repeat (first|exact Nc|refine Rb ?_|refine Mc ?_|refine np_scope ?_)) rfl U' U' U' (λ_=>Yd rfl) V' ?_
   refine sc (i:=2) (by repeat (first|exact Nc|refine Rb ?_|refine Mc ?_|refine np_scope ?_)) rfl U' U' U' (λ_=>Eb (k:=0) Qa.out pa.size rfl rfl Z' Z') V' ?_;refine Oe (i:=3) U' rfl ?_;refine EU ?_;refine Bd ?_;refine Oe (i:=4) U' rfl ?_;refine LB ?_;intro b66 w66 I;refine Bd ?_;refine Oe (i:=5) U' rfl ?_;refine Yl ?_;intro A67 c67 w67 I;simp only[l',Z9] at I;replace I:=I.sub (d_ _ _);refine Bd ?_;refine gM ?_;refine ea ?_;replace I:=I.sub (P' _ j');refine⟨⟨some ad,n,c,x::X,_,m-1,b-1,Y,O++[y],A67,c67,rfl,rfl, ?_,E,Z',J,g,a.right h2, ?_⟩,by show n+(m-1)<n+m;omega, ?_⟩
   .show Value.slice _ (O.length+1) _=Value.slice _ (O++[y]).length _;rw[D'];rfl
   .rw[D',Na];exact I
   exact Sb
  |false=>
   rw[h1,h2,R' V',R' V'] at K;have h:=λZ hT1=>WO x y k Z hT1 (a.ox x E') (a.oy y E') hk;refine ea ?_;refine qh 7 I ?_;refine ub ?_;refine Wi (0) ?_;refine fk [_,_,_,_] (λ_ hj=>(H.ext hj.hp.below).recAt TR.len s) ?_;refine OA ?_;refine Wi (0) ?_;refine fk [_,_,_,_] (λ_ hj=>(G.ext hj.hp.below).recAt TR.len P) ?_;refine dn ?_;intro W I;refine Mh (K _) fi rfl rfl V' ?_;rintro t j ⟨rfl,M⟩;refine⟨_,rfl, ?_⟩;replace I:=I.ext M;refine ea ?_;refine Xs I mixed λw_ e=> ?_;replace I:=e.hp;clear e;refine sc (i:=11) (by repeat (first|exact Nc|refine Rb ?_|refine Mc ?_|refine np_scope ?_)) rfl U' U' U' (λ_=>Yd rfl) V' ?_;refine sc (i:=12) (by repeat (first|exact Nc|refine Rb ?_|refine Mc ?_|refine np_scope ?_)) rfl U' U' U' (λ_=>Bg (l:=1) Qa.out pa.size rfl rfl Z' Z' Z') V' ?_;refine sc (i:=13) (by repeat (first|exact Nc|refine Rb ?_|refine Mc ?_|refine np_scope ?_)) rfl U' U' U' (λ_=>Yd rfl) V' ?_;refine sc (i:=14) (by repeat (first|exact Nc|refine Rb ?_|refine Mc ?_|refine np_scope ?_)) rfl U' U' U' (λ_=>Bg (l:=1) Qa.out pa.size rfl rfl Z' Z' Z') V' ?_
   refine sc (i:=0) (by repeat (first|exact Nc|refine Rb ?_|refine Mc ?_|refine np_scope ?_)) rfl U' U' U' (λ_=>Yd rfl) V' ?_;refine sc (i:=1) (by repeat (first|exact Nc|refine Rb ?_|refine Mc ?_|refine np_scope ?_)) rfl U' U' U' (λ_=>Yd rfl) V' ?_;refine sc (i:=2) (by repeat (first|exact Nc|refine Rb ?_|refine Mc ?_|refine np_scope ?_)) rfl U' U' U' (λ_=>Yd rfl) V' ?_;refine sc (i:=3) (by repeat (first|exact Nc|refine Rb ?_|refine Mc ?_|refine np_scope ?_)) rfl U' U' U' (λ_=>Eb (k:=0) Qa.out pa.size rfl rfl Z' Z') V' ?_;refine sc (i:=5) (by repeat (first|exact Nc|refine Rb ?_|refine Mc ?_|refine np_scope ?_)) rfl U' U' U' (λ_=>Yd rfl) V' ?_;refine sc (i:=6) (by repeat (first|exact Nc|refine Rb ?_|refine Mc ?_|refine np_scope ?_)) rfl U' U' U' (λ_=>Eb (k:=0) Qa.out pa.size rfl rfl Z' Z') V' ?_;refine dA (i:=4) (i2:=7) U' rfl rfl ?_ ?_
   .refine SQ ?_;refine Bd ?_;refine Oe (i:=7) U' rfl ?_;refine EU ?_;exact T1
   refine EU ?_;refine Bd ?_;refine Oe (i:=4) U' rfl ?_;refine SQ ?_;exact T1
def bh{b d:Nat}{t:TypeId}{sz c:Nat}{A:t6}{xs:List Value}(h:w.ownsRow b t sz (wn A n c) n xs)(F:d<=b):w.ownsRow d t sz (wn A n c) n xs:=
 ⟨h.1,h.2.imp id λ⟨g,cap,cur,h1,h2,G⟩=>⟨g,cap,cur,h1,p' F h2,G⟩⟩
variable {fz:Nat×Nat}
def dp{b d:Nat}{x:HE}(h:x.holds b w)(F:d<=b):x.holds d w:=by
 cases x with
 |blk b t cs fz=>exact⟨p' F h.1,h.2⟩
 |row A n c t sz xs=>exact bh h F
 |ob b o=>exact⟨p' F h.1,h.2⟩
variable {H':List HE}
def Hp.perm{H:List HE}(h:Hp w0 H w)(hp:H.Perm H'):Hp w0 H' w:=
 ⟨h.below,λx C=>h.own x (hp.mem_iff.2 C),(hp.filterMap _).nodup_iff.1 h.nd⟩
def Hp.Ae{H:List HE}(h:Hp w0 H w){i c sz:Nat}{A:t6}{t:TypeId}{xs:List Value}(hi:H[i]?=some (.row A n c t sz xs)):n<=c:=by
 have h1:w.ownsRow w0.heap.size t sz (wn A n c) n xs:=h.at_ hi;obtain⟨_,G⟩|⟨g,cap,cur,h2,_,_,P,_⟩:=h1.2
 .omega
 injection h2 with _ _ X
 omega
def Hp.join{V:World}{H d:List HE}(h:Hp w0 H w)(h2:Hp w d V):Hp w0 (d++H) V:=by
 have S:=h.ext h2.below;refine⟨S.below,λx C=> ?_, ?_⟩
 .obtain C|C:=A_.1 C
  .exact dp (h2.own x C) h.size
  exact S.own x C
 rw[p6,List.nodup_append];refine⟨h2.nd,h.nd,λa M b F E=> ?_⟩;subst E;obtain⟨x,C,n⟩:=H9.1 M;obtain⟨y,hy,c⟩:=H9.1 F;have G:=de (h2.own x C) n;have z:=de (h.own y hy) c;omega
def UW{o:Oper}{v:Value}{V:World}(s:o.guard=none)(T:o.dst=none) (H:(execOp (ev O) o).run P w=.ok (.value v) V)(k:WL ro P N ops Q rest O V):WL ro P N ops Q (o::rest) O w:=
 ⟨λhm a Y=>wpList_plain s λK y=>by
  unfold Oper.wp;rw[Y.eval,H];show K (a.put o.dst v) V;rw[T];exact y _ _ (k.Ao hm _ Y),
 λa Y n=>wpListIn_plain s λK y=>by
  refine⟨λ_ _=>trivial, ?_⟩;rw[Y.eval,Lm _ H (λ_ h=>by cases h)];show K (a.put o.dst v) V;rw[T];exact y _ _ (k.Hl _ Y n)⟩
def xS{l:List α}{i:Nat}{x:α}(h:l[i]?=some x):l.set i x=l:=by
 obtain⟨h1,rfl⟩:=z'.1 h;exact List.set_getElem_self h1
abbrev Hp.sz{w0 w:World}{H:List HE}(_:Hp w0 H w):Nat:=w.heap.size
def Rv{A:t6}{c sz b:Nat}{f t:TypeId}{xs:List Value}{cs:Array Value}(h:HE.holds base W (.row A n c f sz xs))(G:W.heap[b]?=some (.cells cs t fz))(E:f≠t):(HE.row A n c f sz xs).id≠some b:=by
 intro j;obtain⟨h1,_⟩|⟨g,cap,cur,h1,_,z,_⟩:=h.2
 .injection h1 with N
  subst N
  cases j
 injection h1 with N
 subst N;obtain rfl:g=b:=P_ j;rw[G] at z;injection z with z
 injection z with _ P
 exact E P.symm
variable {Z:World}
def JJ.xh{H L:List HE}{t:TypeId}{b:Nat}(Q:JJ w0 H w W)(K:Hp w0 H w)(h2:w.heap.size<=b)(G:W.heap[b]?=some (.cells cs.toArray t (0,0)))(F:w.heap.size<=Z.heap.size)(a:Hp Z L W)(E:∀x∈L,x.id≠some b):Hp w0 (.blk b t cs (0,0)::(L++H)) W:=by
 have h1:=K.join (⟨Q.bl,λx C=>dp (a.own x C) F,a.nd⟩:Hp w L W);refine⟨h1.below,λx C=> ?_, ?_⟩
 .obtain rfl|C:=y'.1 C
  .exact⟨p' K.size h2,G,.inr (F' _)⟩
  exact h1.own x C
 rw[C8];show(b::(L++H).filterMap HE.id).Nodup;refine G8.2 ⟨λhm=> ?_,h1.nd⟩;obtain⟨y,hy,d⟩:=H9.1 hm;obtain hy|hy:=A_.1 hy
 .exact E y hy d
 have:=(de (K.own y hy) d).2;omega
variable {c':Nat}
def UN{A T:t6}{c sz q d:Nat}{t f:TypeId}{xs a:List Value}(h:HE.holds base W (.row A n c t sz xs))(S:HE.holds base W (.row T q c' f d a))(E:t≠f)(b:Nat)(h1:(HE.row A n c t sz xs).id=some b):(HE.row T q c' f d a).id≠some b:=by
 obtain⟨h2,_⟩|⟨g,cap,cur,h2,_,z,_⟩:=h.2
 .injection h2 with N
  subst N
  cases h1
 injection h2 with N
 subst N;obtain rfl:g=b:=P_ h1;exact Rv S z (λe=>E e.symm)
variable {r s1 s2:Nat}{t1 t2:TypeId}
def JJ.YJ{H:List HE}{t:TypeId}{n E:List Value}{b l X:Nat}{c s:t6}(Q:JJ w0 H w W)(K:Hp w0 H w)(h2:w.heap.size<=b)(G:W.heap[b]?=some (.cells cs.toArray t (0,0))) (M:W.ownsRow w.heap.size t1 s1 (wn c l X) l n)(v:W.ownsRow w.heap.size t2 s2 (wn s r Y) r E)(m:t1≠t2)(A:t1≠t)(f:t2≠t):Hp w0 (.blk b t cs (0,0)::.row c l X t1 s1 n::.row s r Y t2 s2 E::H) W:=by
 have g:Hp w [.row c l X t1 s1 n,.row s r Y t2 s2 E] W:=by
  refine⟨Q.bl,λx C=> ?_, ?_⟩
  .exact abd
  rw[C8];split
  .exact IY
  rename_i e a;refine G8.2 ⟨λhm=> ?_, ?_⟩
  .obtain⟨y,hy,d⟩:=H9.1 hm;obtain rfl:=k'.1 hy;exact UN M v m e a d
  exact IY
 refine JJ.xh Q K h2 G (F' _) g λx C=> ?_;obtain rfl|C:=y'.1 C
 .exact Rv M G A
 obtain rfl:=k'.1 C;exact Rv v G f
def GG(base:Nat)(t:TypeId)(n sz:Nat)(cs:List Value):VP:=λv W=>∃A c,v=wn A n c/\W.ownsRow base t sz (wn A n c) n cs
def GG.ext{t:TypeId}{sz:Nat}(v:Value)(w V)(h:GG base t n sz cs v w)(F:Below w.heap.size w V):GG base t n sz cs v V:=let⟨A,c,h1,h2⟩:=h;⟨A,c,h1,wj h2 F⟩
def yA(base:Nat)(t1 t2:TypeId)(l s1 r s2:Nat)(n E:List Value):VP:=λv W=>∃A c B k,v=.agg #[wn A l c,wn B r k]/\W.ownsRow base t1 s1 (wn A l c) l n/\W.ownsRow base t2 s2 (wn B r k) r E
def yA.ext{l:Nat}{n E:List Value}(v:Value)(w V)(h:yA base t1 t2 l s1 r s2 n E v w)(F:Below w.heap.size w V):yA base t1 t2 l s1 r s2 n E v V:=let⟨A,c,B,k,h1,h2,G⟩:=h;⟨A,c,B,k,h1,wj h2 F,wj G F⟩
structure RX where
 A:t6
 n:Nat
 c:Nat
 ts:List TR
def wm(k:Nat)(l:List TR):VP:=λv W=>∃g:RX,v=wn g.A g.n g.c/\(g.n<=g.c/\g.ts.length=g.n/\MD k l g.ts/\Sl W g.A g.n 4 (la TR.cells g.ts))
def wm.ext{l:List TR}(v:Value)(w V)(h:wm k l v w)(F:Below w.heap.size w V):wm k l v V:=let⟨g,h1,h2,G,z,P⟩:=h;⟨g,h1,h2,G,z,P.ext F⟩
variable {k1 k2:Nat}
def MD.MR{P n f D L:List TR}(h1:MD k1 P f)(h2:MD k2 n D)(h:MD k (f++D) L)(g:k<=j):MD j (P++n) L:=
 ⟨h.nw,λm=>by rw[h.co,mg,h1.co,h2.co,mg],by have a:=h.len;have b:=h1.len;have c:=h2.len;rw[D'] at a |-;omega,h.ok.mono g,λt S=>by
  obtain⟨s,K,e⟩:=h.mem t S;obtain K|K:=A_.1 K
  .obtain⟨u,hu,d⟩:=h1.mem s K;exact⟨u,q9 _ hu,d.trans e⟩
  obtain⟨u,hu,d⟩:=h2.mem s K;exact⟨u,H_ _ hu,d.trans e⟩⟩
def kp(k:Nat):∀(N:Nat)(A:t6)(n c:Nat)(l:List TR)(w:World),n<=N->Nd w->Sl w A n 4 (la TR.cells l)->n<=c->n<=1000000->k+n<=3999980->Gh k l->
  Calls prog 210 #[wn A n c,.func (.func 133) #[] #[],.func (.func 134) #[] #[]] w λr V=>(n<2/\r=.returned (wn A n c)/\Below w.heap.size w V)\/(2<=n/\∃(L:List TR)(T:t6)(c':Nat),MD (k+n) l L/\r=.returned (wn T L.length c')/\Hp w [.row T L.length c' 72 4 (la TR.cells L)] V)
 |0,A,n,c,l,w,hN,S,J,hc,hn,hk,y=>(by have I:=Hp.start w;obtain rfl:n=0:=Z';refine Ga (l:=[.slice A 0 c,.func (.func 133) #[] #[],.func (.func 134) #[] #[]]) func210 ?_;refine ea ?_;exact .inl ⟨Z',rfl,I.below⟩)
 |N+1,A,n,c,l,w,hN,S,J,hc,hn,hk,y=>by
  have I:=Hp.start w;have hl:=J.Aa TR.len V';by_cases h2:n<2
  .refine Ga func210 ?_;refine ea ?_;exact .inl ⟨h2,rfl,I.below⟩
  obtain⟨h,u⟩:∃h,h=n/2:=⟨_,rfl⟩;have hh1:1<=h:=Z';have hh2:h+h<=n:=Z';have hh3:n<=h+h+1:=Z';have R:((n:Int))/2=(h:Int):=Z';have a:=J.front (m:=h) Z';rw[show(la TR.cells l).take (h*4)=la TR.cells (l.take h) from wi TR.len l h] at a;have z:=J.back (l:=h) Z' hc;rw[show(la TR.cells l).drop (h*4)=la TR.cells (l.drop h) from Ai TR.len l h] at z;have o1:Gh k (l.take h):=λt x=>y t (Z8 x);have o2:Gh k (l.drop h):=λt x=>y t (j6 x);have rd:∀{T:t6}{q c':Nat}{D:List TR}{r:Ending}{Z V:World},Sl Z T q 4 (la TR.cells D)->q<=c'->Gh k D->((q<2/\r=.returned (wn T q c')/\Below Z.heap.size Z V)\/(2<=q/\∃(L:List TR)(B:t6)(b:Nat),MD (k+q) D L/\r=.returned (wn B L.length b)/\Hp Z [.row B L.length b 72 4 (la TR.cells L)] V))->∃v,r=.returned v/\Below Z.heap.size Z V/\wm (k+q) D v V:=by
   rintro T q c' D r Z V hs o ho (⟨h1,rfl,F⟩|⟨h1,L,B,b,hm,rfl,G⟩)
   .have e:=hs.Aa TR.len V';exact⟨_,rfl,F,⟨T,q,c',D⟩,rfl,o,e,(MD.self (DC Z') ho).mono Z',hs.ext F⟩
   exact⟨_,rfl,G.below,⟨B,L.length,b,L⟩,rfl,G.Ae (i:=0) rfl,rfl,hm,G.ka (i:=0) rfl⟩
  have Y:=λZ (P:Nd Z) (F:Below w.heap.size w Z)=>kp k N A h c (l.take h) Z Z' P (a.ext F) Z' Z' Z' o1;have E:=λZ (P:Nd Z) (F:Below w.heap.size w Z)=>kp k N _ (n-h) (c-h) (l.drop h) Z Z' P (z.ext F) Z' Z' Z' o2;refine Ga func210 ?_;refine ea ?_;rw[R];refine Od 14 I ?_;refine Ba (i:=2) (λU Z hj hR=>cj (h:=h) Qa.out pa.size (show U 15=Value.slice _ _ _ from hR.1) (show U 16=Value.int _ _ from hR.2.1) Z' Z') ?_;refine ub ?_;refine ua (i:=5) (wm (k+h) (l.take h)) (wm.ext) ?_ ?_
  .intro U Z hj hR;exact rb rfl (Ha fi (na (show U 17=Value.slice _ _ _ from hR.1) (na (show U 18=Value.func _ _ _ from hR.2.1) (na (show U 19=Value.func _ _ _ from hR.2.2.1) Oa)))) (Y Z (S.hp hj.hp) hj.hp.below) (λ_ _ R=>rd (a.ext hj.hp.below) Z' o1 R)
  refine ub ?_;refine Ba (i:=8) (λU Z hj hR=>Bg (l:=h) Qa.out pa.size (show U 21=Value.slice _ _ _ from hR.1) (show U 22=Value.int _ _ from hR.2.1) Z' Z' Z') ?_;refine ub ?_;refine ua (i:=11) (wm (k+(n-h)) (l.drop h)) (wm.ext) ?_ ?_
  .intro U Z hj hR;exact rb rfl (Ha fi (na (show U 23=Value.slice _ _ _ from hR.1) (na (show U 24=Value.func _ _ _ from hR.2.1) (na (show U 25=Value.func _ _ _ from hR.2.2.1) Oa)))) (E Z (S.hp hj.hp) hj.hp.below) (λ_ _ R=>rd (z.ext hj.hp.below) Z' o2 R)
  refine ub ?_;refine xa ?_;intro f W Q hV;obtain⟨v28,v27,M,v25,v24,v23,v22,v21,v20,v19,v18,v17,v16,v15,_⟩:=hV;obtain⟨g,s,X⟩:wm (k+h) (l.take h) (f 5) W:=v20;obtain⟨C,p,H⟩:wm (k+(n-h)) (l.drop h) (f 11) W:=M;replace I:=Q.hp;refine Be ?_;obtain⟨p1,p2,K,p4⟩:=X;obtain⟨q1,q2,d,q4⟩:=H;have l1:=K.len;have l2:=d.len;rw[q'] at l1;rw[Q9] at l2;refine Hi (Bu g.A g.n g.c g.ts C.A C.n C.c C.ts (k+(n-h)) _ (S.hp I) p4 q4 p1 q1 Z' Z' Z' K.nw d.nw (K.ok.mono Z') (d.ok.mono Z')) rfl ?_;rintro e_ w29 ⟨L,T,c',hm,rfl,G⟩;refine⟨_,rfl, ?_⟩;replace I:=I.join G;refine ea ?_;refine .inr ⟨Z',L,T,c', ?_,rfl,I⟩;have:=K.MR d hm (j:=k+n) Z';rwa[Y9] at this
variable {o ty:Nat}
def ND(I:Hp w0 H w){t e:TypeId}{x:Operand}{i p c sz g:Nat}{xs:List Value}(hi:H[i]?=some (.row (some ⟨g,0,none⟩) p c e sz xs))(G:ev O x=.slice (some ⟨g,o,none⟩) m c')(ho:p*sz<=o)(C:o+m*sz<=c*sz)(hm:0<m) (S:P.underlying t=some (.slice e))(D:sd P e=some (sz,ag,by',zc))(u:zc.length=sz)(h1:(zc.all Value.oneCell')=true) (k:∀V,Hp w0 H V->WL ro P N ops Q rest O V):WL ro P N ops Q (⟨none,.call ⟨.builtin .clear, #[x], #[t]⟩,ty,pos,af,none⟩::rest) O w:=by
 obtain⟨z,J,s⟩:=kf (w:=w) D;obtain⟨hlen,h2⟩:=I.at_ hi;obtain⟨h2,_⟩|⟨L,cap,cur,A,B,F,r,n,f,d⟩:=h2
 .cases h2
 injection A with R K a
 injection R with R
 injection R with R
 subst R;subst a;have h:cur.size=cur.toList.length:=by simp
 have M:(hh m zc).length=m*sz:=by rw[ak,u]
 have X:∀v∈hh m zc,v.oneCell'=true:=λv A=>(by obtain⟨j,hj⟩:=r_.1 A;have W:=(z'.1 hj).1;rw[ak] at W;rw[QD m zc j W] at hj;exact M_.1 h1 v (O' hj));obtain⟨V,E,Y,T,hs⟩:=Pf (P:=P) (b:=g) (t:=e) (fz:=(0,0)) o (hh m zc) 0 cur.toList w (by simpa using F) (.inr (F' _)) (by rw[<-h,M];omega) X;have l:=xS hi;refine UW rfl rfl (V:=V) (v:=.tuple #[]) ?_ (k V (l ▸ I.grown hi T (.inl rfl) ⟨hlen,.inr ⟨g,c,(xb cur.toList (o+0) (hh m zc)).toArray,rfl,B,by simpa using Y,r,n, ?_, ?_⟩⟩))
 .simp only[execOp,resolve,invoke,G,Q6,T_,f_];have y:Builtin.zeroCells z.cells m=(hh m zc).toArray:=(by rw[Builtin.zeroCells,s,B7];exact BA m zc);obtain⟨q,rfl⟩:∃q,m=q+1:=⟨m-1,Z'⟩;simp[builtin,Builtin.clear_,run_underlying S,J,y,E]
 .simp only[B7];rw[Qe (by rw[<-h,M];omega),<-h,f]
 simp only[xb];rw[J_,W5 (by rw[q',<-h];omega),List.take_take,T9 Z'];exact d
variable {news:List Value}{ty:TypeId}
def uE{t e:TypeId}{s x:Operand}{sz:Nat}{A B:Option Addr}(K:ev O s=.slice A 0 0)(C:ev O x=.slice B m c')(p:Sl w B m sz news) (S:P.underlying t=some (.slice e))(D:sd P e=some (sz,ag,by',zc))(o:zc.length=sz)(M:0<sz)(h1:(news.all Value.oneCell')=true)(X:m<=maxLen)(a:m*by'<=140737488355328)(L:d<N) (k0:m=0->WL ro P N ops Q rest (vd O d (.slice A 0 0)) w) (k:∀T Y V,0<m->Below w.heap.size w V->V.ownsRow w.heap.size e sz (.slice T m Y) m news->WL ro P N ops Q rest (vd O d (.slice T m Y)) V):
  WL ro P N ops Q (⟨some d,.call ⟨.builtin .append, #[s,x], #[t,t]⟩,ty,pos,af,none⟩::rest) O w:=by
 obtain⟨i,z,dd,hi,hd,v,g,G,hzc,_⟩:=df D;have E:∀u∈news,u.oneCell'=true:=λu hu=>M_.1 h1 u hu;obtain J|J:=a9 m
 .subst J;have y:news=[]:=s9 (by simpa using p.1);subst y;have H:(Builtin.append_ #[t,t] ty #[.slice A 0 0,.slice B 0 c']).run P w=.ok (.slice A 0 0) w:=(by exact aex);refine Jb rfl rfl L ?_ (k0 rfl);simp only[execOp,resolve,invoke,builtin,Sem.run_bind,Sem.run_pure,Result.andThen_ok,Q6,T_,f_,K,C,H]
 obtain⟨b,rfl,H⟩:=p.2 J;have F:Src P i.size t (.slice (some b) m c') m news w:=Src.ofSlice w S b m c' news (by rw[g];exact p.1) H E;refine aaa ?_;intro l h;have n:∀c:Option Addr,(Builtin.firstCells i.size 0 (.slice c 0 0)).run P w.drew=.ok ([]:List Value).toArray w.drew:=λc=>by
  cases c with
  |none=>exact run_firstCells_none w.drew i.size 0 0 0
  |some R=>exact run_firstCells_some w.drew i.size 0 R 0 0 [] (by simp) (λj u hu=>by simp at hu)
 have W:=run_append_grow_src w t t ty e i z S hi v A 0 0 [] (n _) _ m news F Z' h l;have hB:=run_append_grow_src w t t ty e i z S hi v none 0 0 [] (n _) _ m news F Z' h l;obtain⟨T,Y,V,q,r,f,_⟩:=tm (P:=P) (w:=w) w.heap.size t ty e sz by' ag zc S D o M none 0 0 [] (World.ownsRow_nil w w.heap.size e sz) (some b) m c' news ⟨p.1,λ_=>⟨b,rfl,H⟩⟩ E Z' (by rw[i'];exact a) (F' _);rw[hB,<-W] at q;rw[i'] at q r;rw[J'] at r;refine Jb rfl rfl L ?_ (k T Y V J ⟨f.os,f.tape,f.output,f.size,λk hk=>f.block k hk (by simp)⟩ r);simp only[execOp,resolve,invoke,builtin,Sem.run_bind,Sem.run_pure,Result.andThen_ok,Q6,T_,f_,K,C,q]
def GW{t e u:TypeId}{x y:Operand}{A:Option Addr}{c q:Nat}(S:P.underlying t=some (.slice e))(C:ev O x=.slice A n c)(hy:ev O y=.slice none q c')(L:d<N) (p:WL ro P N ops Q rest (vd O d (.bool A.isNone)) w):WL ro P N ops Q (⟨some d,.binOp .eql t x y u,ty,pos,af,none⟩::rest) O w:=
 Jb rfl rfl L (by
  have h1:=Go.Lib.run_eql_slice_nil (P:=P) w t e A n c q c' S;simp only[execOp,C,hy];simp[eqGuard,h1]) p
theorem wy(A:t6)(n c:Nat)(l:List TR)(g:FuncId)(cap:List Value)(p:TR->Bool)(w:World)(J:Sl w A n 4 (la TR.cells l))(B:n<=1000000)[ma prog g] (s:∀(z:TR)(Z:World),z∈l->Below w.heap.size w Z->Calls prog g (.agg #[wt z.m,ww z.c.neg,wt z.c.Ra,wd z.c.e]::cap).toArray Z λr V=>r=.returned (ww (p z))/\Below Z.heap.size Z V):Calls prog 262 #[wn A n c,.func (.func g) #[] cap.toArray] w λr V=>∃v,r=.returned (wd v)/\((l.any p=false/\v= -1)\/∃(i:Nat)(z:TR),i<n/\v=i/\(l.take i).any p=false/\l[i]?=some z/\p z=true)/\Below w.heap.size w V:=by
 have I:=Hp.start w;have f:=J.Aa TR.len V';refine Ga func262 ?_;refine ea ?_;refine rf 8 (λv V=>∃i:Nat,i<=n/\v=wd i/\(l.take i).any p=false/\Hp w [] V) (λv _=>n-(intOf v).toNat) ?_ ?_
 .exact⟨0,N' _,rfl,rfl,I⟩
 clear I;rintro ρ' v V ⟨i,hi,rfl,X,I⟩;by_cases D:i<n
 .obtain⟨z,o⟩:=aa (l:=l) (k:=i) Z';obtain⟨h,rfl,H⟩:=J.at_ Z';have E:=λZ=>s z Z (O' o)
  cases a:p z with
  |true=>
   refine o0 ?_;(unhygienic intros)
   refine Ps ?_;intro I;refine ea ?_;exact⟨_,rfl,.inr ⟨i,z,D,rfl,X,o,a⟩,I.below⟩
  |false=>
   refine o0 ?_;exact mM
 rw[G' Z'] at X;refine ea ?_;exact⟨_,rfl,.inl ⟨X,rfl⟩,I.below⟩
def WJ(A)(n c:Nat)(l)(g:FuncId)(cap)(p:TR->Bool)(w)(J:Sl w A n 4 (la TR.cells l))(B:n<=1000000)[ma prog g] (s:∀(z:TR)(Z:World),z∈l->Below w.heap.size w Z->Calls prog g (.agg #[wt z.m,ww z.c.neg,wt z.c.Ra,wd z.c.e]::cap).toArray Z λr V=>r=.returned (ww (p z))/\Below Z.heap.size Z V):Zc 204 #[wn A n c,.func (.func g) #[] cap.toArray] w (ww (l.any p)):=by
 have I:=Hp.start w;refine Ga func204 ?_;refine ea ?_;refine Lc (wy A n c l g cap p _ (J.ext I.below) B s) ma.out rfl V' ?_;rintro H f ⟨d,rfl,a,M⟩;refine Ps ?_;intro I;obtain⟨b,rfl⟩|⟨i,z,hi,rfl,S,o,hp⟩:=a
 .rw[b];refine ea ?_;exact⟨rfl,I.below⟩
 rw[show l.any p=true from E9.2 ⟨z,O' o,hp⟩];refine ea ?_;exact⟨rfl,I.below⟩
def kn(A)(n c:Nat)(l)(w)(J:Sl w A n 4 (la TR.cells l))(B:n<=1000000):Calls prog 206 #[.slice A n c] w λr V=>∃T c',r=.returned (.slice T n c')/\V.ownsRow w.heap.size 72 4 (.slice T n c') n (la TR.cells l)/\Below w.heap.size w V:=by
 have I:=Hp.start w;have o:=Pa TR.one l;obtain _|b:=A
 .have y:n=0:=(by exact acm);subst y;have Q:l=[]:=s9 (by have:=J.Aa TR.len V';omega);subst Q;refine Ga (l:=[.slice none 0 c]) func206 ?_;exact eV
 refine Ga (l:=[.slice (some b) n c]) func206 ?_;refine ea ?_;refine du ?_;intro R v I;refine mL ?_;refine pb I (i:=0) rfl rfl rfl (J.ext I.below) Qa.out pa.out rfl V' ?one7 Z' Z' V' ?kk7
 case one7=>first|rfl|assumption|exact Ja _|exact oneCells_u8s _
 intro d H e I;exact SS
def NG{l:List α}{i:Nat}(h:i<j)(x:α):(l.set i x).drop j=l.drop j:=by
 refine s_ λk=> ?_;rw[U8,U8,g_,R' Z']
def DB{l:List α}{i:Nat}(h:i<l.length)(x:α):(l.set i x).take (i+1)=l.take i++[x]:=by
 rw[ja (show(l.set i x)[i]?=some x by rw[g_,Q' rfl,Q' h]),List.take_set_of_le (F' _)]
variable {G:List HE}
def iL(A)(n c:Nat)(l)(g:FuncId)(p:TR->Bool)(w)(I:Hp w0 (.row A n c 72 4 (la TR.cells l)::G) w)(Q:l.length=n)(hn:n<=1000000)[ma prog g] (E:∀(z:TR)(Z:World),z∈l->Calls prog g (.agg #[.string z.m,.bool z.c.neg,.string z.c.Ra,.int .i64 z.c.e]::[]).toArray Z λr V=>r=.returned (.bool (p z))/\Below Z.heap.size Z V):Calls prog 209 #[.slice A n c,.func (.func g) #[] #[]] w λr V=>r=.returned (.slice A (l.filter λz=> !p z).length c)/\Hp w0 (.row A (l.filter λz=> !p z).length c 72 4 (la TR.cells (l.filter λz=> !p z))::G) V:=by
 have hc:=I.Ae (i:=0) rfl;have s:=I.ka (i:=0) rfl;refine Ga func209 ?_;refine ea ?_;refine Lc (wy A n c l g [] p _ s hn (λz Z a _=>E z Z a)) ma.out rfl V' ?_;rintro H w10 ⟨v_,rfl,t,M⟩;refine Ps ?_;intro I;obtain⟨Y,rfl⟩|⟨i0,z0,hi0,rfl,W,u,q⟩:=t
 .have hf:(l.filter λz=> !p z)=l:=List.filter_eq_self.2 λz a=>(by have:=P9.1 Y z a;simpa using this);rw[hf,Q];refine ea ?_;exact⟨rfl,I⟩
 have S:((l.take (i0+1)).filter λz=> !p z)=l.take i0:=(by rw[ja u,K7,o6 (by rw[q];decide),List.filter_nil,I_];exact List.filter_eq_self.2 λz a=>(by have:=P9.1 W z a;simpa using this));obtain⟨R,rfl⟩:=I.ib (i:=0) rfl Z';refine ea ?_;refine Jh 5 6 (λN v6 V=>∃(i j:Nat)(X:List TR),i<j/\j<=n/\N=.int .i64 i/\v6=.int .i64 j/\X.length=n/\i=((l.take j).filter λz=> !p z).length/\X.take i=((l.take j).filter λz=> !p z)/\X.drop j=l.drop j/\Hp w0 (.row (some ⟨R,0,none⟩) n c 72 4 (la TR.cells X)::G) V) (λ_ v _=>n-(intOf v).toNat) ?_ ?_
 .exact⟨i0,i0+1,l,Z',Z',rfl,rfl,Q,by rw[S,q'];omega,S.symm,rfl,I⟩
 clear I;rintro ρ' N v6 V ⟨i,j,X,hij,hj,rfl,rfl,B,hi,d,F,I⟩;by_cases hlt:j<n
 .obtain⟨z,a⟩:=aa (l:=l) (k:=j) Z';have b:X[j]?=some z:=by
   have h1:(X.drop j)[0]?=(l.drop j)[0]?:=by rw[F]
   rw[U8,U8,N9] at h1;rw[h1,a]
  have J:=λZ=>E z Z (O' a);have L:X.drop (j+1)=l.drop (j+1):=by rw[<-U7,<-U7,F]
  have hrl:=ee TR.len X;refine ea ?_;refine sv (Ua (vs:=[_,_,_,_]) pa.out rfl (I.Wc (f:=TR.cells) (x:=z) (l:=X) (i:=0) rfl TR.len V' b) rfl) ?_;refine Ib ?_;intro b7 w7 I ws I
  cases T:p z with
  |true=>
   rw[T] at J;have K:((l.take (j+1)).filter λz=> !p z)=((l.take j).filter λz=> !p z):=by rw[ja a,K7,o6 (by rw[T];decide),List.filter_nil,I_]
   refine Mh (J _) ma.out rfl rfl V' ?_;rintro H P ⟨rfl,M⟩;refine Ps ?_;intro I;refine ea ?_;replace I:=I.sub (L' _ (P' _ (u_ _)));refine⟨⟨i,j+1,X,Z',Z',rfl,rfl,B,by rw[K];exact hi,by rw[K];exact d,L,I⟩,by show n-(j+1)<n-j;omega, ?_⟩;exact Sb
  |false=>
   rw[T] at J;have K:((l.take (j+1)).filter λz=> !p z)=((l.take j).filter λz=> !p z)++[z]:=by rw[ja a,K7,List.filter_cons_of_pos (by rw[T];decide),List.filter_nil]
   refine Mh (J _) ma.out rfl rfl V' ?_;rintro H P ⟨rfl,M⟩;refine Ps ?_;intro I;refine ea ?_;refine Lb I (i:=1) (vs:=[_,_,_,_]) rfl rfl (Xe rfl) rfl pa.out rfl Z' rfl ?_;refine Uv ?_;intro ws I;rw[show xb (la TR.cells X) (i*4) [.string z.m,.bool z.c.neg,.string z.c.Ra,.int .i64 z.c.e]=la TR.cells (X.set i z) from ve TR.len Z'] at I;refine ea ?_;replace I:=I.sub (L' _ (P' _ (u_ _)));refine⟨⟨i+1,j+1,X.set i z,Z',Z',rfl,rfl,by rw[I9];exact B,by rw[K,D',<-hi];rfl,by rw[K,DB Z',d],by rw[NG Z'];exact L,I⟩,by show n-(j+1)<n-j;omega, ?_⟩;exact Sb
 obtain rfl:j=n:=Z';rw[show l.take j=l from G' Z'] at hi d;have D:=I.Ae (i:=0) rfl;have y:(if c=i then some (⟨R,0,none⟩:Addr) else(some (⟨R,0,none⟩:Addr)).map (·.add (i*4)))=some ⟨R,i*4,none⟩:=(by rw[R' Z'];show some ((⟨R,0,none⟩:Addr).add (i*4))=_;rw[Fe,i']);have C:(la TR.cells X).take (i*4)=la TR.cells (l.filter λz=> !p z):=by rw[wi TR.len,d]
 refine ea ?_;refine Jb rfl rfl V' (Th (l:=i) (h:=j) Qa.out pa.size rfl ⟨_,_,rfl,rfl⟩ rfl Z' Z') ?_;rw[y];replace I:=I.AF (k:=i) Z';rw[C] at I;refine ND I (i:=0) (o:=i*4) (m:=j-i) rfl rfl Z' Z' Z' Qa.out pa.out rfl rfl ?_;intro w38 I;refine ea ?_;refine sv (cj (h:=i) Qa.out pa.size rfl rfl Z' Z') ?_;refine ea ?_;rw[<-hi];exact⟨rfl,I⟩
end Go.Proofs.YtbencocchdpikaaGreatDoor
