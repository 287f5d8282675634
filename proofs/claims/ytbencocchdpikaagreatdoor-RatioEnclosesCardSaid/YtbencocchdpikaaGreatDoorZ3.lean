/- Lemmas for ratioEncloses, part 3. -/
import Derived.Test.YtbencocchdpikaaGreatDoorZ2
set_option linter.all false
set_option maxHeartbeats 0
namespace Go.Proofs.YtbencocchdpikaaGreatDoor
open Go.Proofs.Tryz
open Go.RowKit
variable {C j k n r:Nat}{w:World}
def fg(A)(n c:Nat)(xs)(w)(C:Sl w A n 1 (oc xs))(E:n<=c)(B:n<=1000000000000):Zc 287 #[wn A n c] w (wn A (fe xs).length c):=by
 have hlen:xs.length=n:=by have:=C.1;rw[La] at this;omega
 have I:=Hp.start w;refine Ga func287 ?_;refine ea ?_;refine rf 0 (λv V=>∃k:Nat,k<=n/\v=wn A k c/\fe (xs.take k)=fe xs/\V=w) (λv _=>lenOf v) ?_ ?_
 .exact⟨n,F' _,rfl,by rw[G' Z'],rfl⟩
 rintro ρ' v V ⟨k,u,rfl,t,rfl⟩;by_cases J:k=0
 .subst J;refine ea ?_;rw[<-t];exact⟨rfl,I.below⟩
 obtain⟨j,rfl⟩:∃j,k=j+1:=⟨k-1,Z'⟩;obtain⟨d,T⟩:=aa (l:=xs) (k:=j) Z';obtain⟨b,rfl,H⟩:=C.at_ Z';have r:=oe T;rw[ja T] at t;by_cases o:d=0
 .subst o;rw[jz] at t;refine qa (sr (mL (Df ?_)));refine Jr (mB (gT (mL (gT (mL (gT (Df ?_)))))));refine PW ?_;refine sv (cj (h:=j) Qa.out pa.size rfl rfl Z' Z') ?_;refine ea ?_;refine⟨⟨j,Z',rfl,t,rfl⟩,by show j<j+1;omega, ?_⟩;exact Sb
 rw[nC o] at t;refine qa (sr (mL (Df ?_)));refine Jr (mB (gT (mL (gT (mL (gT (Df ?_)))))));refine PW ?_;exact aaG
def Kf{B:Nat}{l:t3}{i c:Nat}(h:l[i]?=some c):Ka B (l.take (i+1))=Ka B (l.take i)+B^i*c:=by
 have hi:=(z'.1 h).1;rw[ja h,Jc,q',T9 Z'];simp[Ka]
variable {w0:World}
def Hp.VM{H:List HE}{A:t6}{c:Nat}{t:TypeId}{xs:t3}(h:Hp w0 (.row A n c t 1 (oc xs)::H) w)(Q:xs.length=n):Hp w0 (.row A (fe xs).length c t 1 (oc (fe xs))::H) w:=by
 have h1:=Ie xs;have h2:=h.AF (k:=(fe xs).length) Z';rw[W_,<-KB,<-Kk] at h2;exact h2
variable {N:Nat}
def qQ(a:t7)(w)(g:a.size<=100000000000):Calls prog 251 #[wt a] w λe V=>∃b c,e=.returned (wn (some ⟨b,0,none⟩) (ya 18446744073709551616 (bn a.data.toList)).length c)/\V.ownsRow w.heap.size 223 1 (wn (some ⟨b,0,none⟩) (ya 18446744073709551616 (bn a.data.toList)).length c) (ya 18446744073709551616 (bn a.data.toList)).length (oc (ya 18446744073709551616 (bn a.data.toList)))/\Below w.heap.size w V:=by
 have M:=td a;have I:=Hp.start w;refine Ga func251 ?_;refine ea ?_;refine Jf (n:=(a.size+7)/8) I rfl rfl Z' Z' Qa.out pa.out rfl Z' Z' V' ?_;intro z G I;refine ea ?_;rw[ml] at I;refine rf 13 (λv V=>∃i:Nat,i<=a.size/\v=wd i/\Hp w [.row (some ⟨z,0,none⟩) ((a.size+7)/8) ((a.size+7)/8) 223 1 (oc (Fb 18446744073709551616 ((a.size+7)/8) (Ka 256 ((oH a.data.toList).take i))))] V) (λv _=>a.size-(intOf v).toNat) ?_ ?_
 .exact⟨0,N' _,rfl,by rw[x9,Ka,Pu];exact I⟩
 clear I;rintro ρ' v V ⟨i,hi,rfl,I⟩;by_cases D:i<a.size
 .obtain⟨c,E⟩:=aa (l:=a.data.toList) (k:=((a.size:Int)-1-i).toNat) Z';have p:=LR (s:=a.data.toList) (i:=i) (c:=c) Z' (by rw[<-E];congr 1;omega);have R:=c.toNat_lt;have d:=ug ((YD a.data.toList).take i);rw[q',Yr,T9 Z'] at d;obtain⟨s1,s2,s3⟩:=kY (k:=(a.size+7)/8) (Ka 256 ((oH a.data.toList).take i)) d R Z';have h:=oe (ej (B:=18446744073709551616) ((a.size+7)/8) (Ka 256 ((oH a.data.toList).take i)) (i/8) Z');have N:((i:Int) % 8*8).toNat=i % 8*8:=Z';refine ea ?_;refine Od 13 I ?_;refine Ba (i:=2) (λU Z hj hR=>Lr (show U 22=Value.int _ _ from hR.1) rfl Z' Z' Z') ?_;refine Ku (i/8) ?_;refine Ba (i:=4) (λU Z hj hR=>Ma pa.out (show U 24=Value.pointer _ from hR.1) (hj.hp.Pd (i:=0) rfl (by first|assumption|(simp only[W_];assumption)))) ?_;refine ub ?_;refine Ba (i:=7) (λU Z hj hR=>ng Qa.out (show U 26=Value.string _ from hR.1) (show U 27=Value.int _ _ from hR.2.1) Z' (by assumption)) ?_;refine Ba (i:=8) (λU Z hj hR=>LA Qa.out Qa.out (show U 28=Value.int _ _ from hR.1) (by first|assumption|omega)) ?_;refine Gv ?_
  refine Ba (i:=10) (λU Z hj hR=>Oo (show U 30=Value.int _ _ from hR.1) rfl Z' Z') ?_;refine ub ?_;refine Ba (i:=12) (λU Z hj hR=>qp (show U 29=Value.int _ _ from hR.1) (show U 32=Value.int _ _ from hR.2.1) Z') ?_;refine KM ?_;intro W I;refine sv (Kc (k:=i/8) Qa.out pa.size rfl rfl Z' Z') ?_;refine VV ?_;intro ws I;rw[N,G_ s2,iK s1,Cc (by rw[La,Da];omega),W_,Og,s3,<-Kf p] at I;refine ea ?_;refine⟨⟨i+1,Z',rfl,I⟩,by show a.size-(i+1)<a.size-i;omega, ?_⟩;exact Sb
 refine ea ?_;rw[G' (by rw[Yr];omega)] at I;refine Gd I (fg _ _ _ (Fb 18446744073709551616 ((a.size+7)/8) (bn a.data.toList)) _ (I.ka (i:=0) rfl) (F' _) Z') rfl ?_;intro f I;refine ea ?_;have q:bn a.data.toList<18446744073709551616^((a.size+7)/8):=(by refine c_ (u2 _) ?_;rw[<-M,show(256:Nat)=2^8 from rfl,show(18446744073709551616:Nat)=2^64 from rfl,<-W9,<-W9];exact K_ Z' Z');have T:fe (Fb 18446744073709551616 ((a.size+7)/8) (bn a.data.toList))=ya 18446744073709551616 (bn a.data.toList):=(by rw[Qg Z' (Ke Z' _ _),Pb q]);have h1:=(Hp.VM (xs:=Fb 18446744073709551616 ((a.size+7)/8) (bn a.data.toList)) I (Da _ _)).at_ (i:=0) rfl;exact CM
def Sl.WQ{A:t6}{xs:t3}(h:Sl w A n 1 (oc xs))(u:k<=n):Sl w A k 1 (oc (xs.take k)):=by
 have Q:=h.1;rw[La] at Q;refine⟨by rw[La,q'];omega,λJ=> ?_⟩;obtain⟨b,he,H⟩:=h.2 Z';exact⟨b,he,by rw[KB];exact H.take k⟩
def Sl.Qs{A:t6}{xs:t3}(h:Sl w A n 1 (oc xs)):Sl w A (fe xs).length 1 (oc (fe xs)):=by
 have Q:=h.1;rw[La] at Q;have:=Ie xs;have h2:=h.WQ (k:=(fe xs).length) Z';rwa[<-Kk] at h2
def IK{xs:t3}(h:Dg 18446744073709551616 xs):Wa (Ka 18446744073709551616 xs)<=64*xs.length:=by
 apply Uc;rw[W9];exact ug h
variable {m:Nat}
def Ez(A)(n c:Nat)(xs)(w)(C:Sl w A n 1 (oc xs))(T:Dg 18446744073709551616 xs)(E:n<=c)(g:n<=100000000000):Zc 290 #[wn A n c] w (wd (Wa (Ka 18446744073709551616 xs))):=by
 have Q:=C.1;rw[La] at Q;have e:=Ie xs;have X:=C.Qs;have P:=T.cut;have a:=MC xs;rw[<-Ni];generalize L:fe xs=cs at*;have I:=Hp.start w;refine Ga func290 ?_;refine ea ?_;refine Gd I (fg _ _ _ xs _ C E Z') rfl ?_;intro y I;rw[L];by_cases J:cs.length=0
 .refine ea ?_;have:cs=[]:=s9 J;subst this;exact⟨by rw[Ka,Jm];rfl,I.below⟩
 obtain⟨f,rfl,H⟩:=X.at_ Z';obtain⟨d,T⟩:=aa (l:=cs) (k:=cs.length-1) Z';have r:=oe T;have j:=P.at_ T;have N:cs.take (cs.length-1)++[d]=cs:=by rw[<-ja T,G' Z']
 have K:d≠0:=(by intro h;subst h;apply a;rw[List.getLast?_eq_getElem?];exact T);have F:=wI (B:=18446744073709551616) (b:=64) (m:=cs.length-1) V' (P.take (cs.length-1)) (by rw[q'];omega) K;rw[N] at F;have R:Wa d<=64:=Uc (by simpa using j);refine aL (ia (qa (sr (mL (Df ?_)))));refine zl (ia (cF (db (Va (sr (mL (Df ?_)))))));refine mulC (mL (mL (Df ?_)));refine su ?_;refine sv (Eb (k:=cs.length-1) Qa.out pa.size rfl rfl Z' Z') ?_;refine nH ?_;refine cd I (Ir _ _ j) ?_;intro D I;refine ea ?_;refine⟨?_,I.below⟩;congr 2;omega
def dL(N:Nat):(ya 256 N).length=(Wa N+7)/8:=by
 have a:(256:Nat)=2^8:=rfl;have h1:(ya 256 N).length<=(Wa N+7)/8:=(by apply jg Z';refine c_ (wc N) ?_;rw[a,<-W9];exact K_ Z' Z');have h2:=zn (B:=256) Z' N;have G:Wa N<=8*(ya 256 N).length:=(by apply Uc;rw[W9];exact h2);omega
def Mm{B:Nat}(i N:Nat):Fb B (i+1) N=Fb B i N++[N/B^i % B]:=by
 apply s_;intro j;obtain h|h|h:=u6 j i
 .rw[ej _ _ _ Z',o9 (by rw[Da];exact h),ej _ _ _ h]
 .subst h;rw[ej _ _ _ Z',R9 (by rw[Da];omega),Da];simp
 rw[X_ (by rw[Da];omega),X_ (by rw[D',Da];simp;omega)]
def YM{R:t3}{x:Nat}:(List.replicate (k+1) 0++R).set k x=List.replicate k 0++(x::R):=by
 rw[List.replicate_succ',J_,q8 _ _ (by simp)];simp
def Ef(A:t6)(n c:Nat)(xs:t3)(w:World)(C:Sl w A n 1 (oc xs))(T:Dg 18446744073709551616 xs)(E:n<=c)(l:n<=10000000000):Zc 261 #[wn A n c] w (wt (str (sb (Ka 18446744073709551616 xs)))):=by
 have b:=C.1;rw[La] at b;have h:=Ie xs;have X:=C.Qs;have P:=T.cut;have Y:=IK P;have g:=Qg Z' T;have hlen:=dL (Ka 18446744073709551616 xs);rw[Ni] at Y;have I:=Hp.start w;refine Ga func261 ?_;refine ea ?_;refine Gd I (fg _ _ _ xs _ C E Z') rfl ?_;intro m I;rw[g] at h X P Y;rw[g];refine ea ?_;refine Gd I (Ez _ _ _ (ya 18446744073709551616 (Ka 18446744073709551616 xs)) _ (X.ext I.below) P Z' Z') rfl ?_;intro z I;rw[He Z'];generalize Ka 18446744073709551616 xs=M at*;refine ea ?_;refine Jf (n:=(Wa M+7)/8) I rfl rfl Z' Z' Qa.out pa.out rfl Z' Z' V' ?_;intro Q f I;refine ea ?_;rw[Vs] at I;refine rf 15 (λv V=>∃i:Nat,i<=(Wa M+7)/8/\v=wd i/\Hp w [.row (some ⟨Q,0,none⟩) ((Wa M+7)/8) ((Wa M+7)/8) 5 1 (Bh (List.replicate ((Wa M+7)/8-i) 0++(Fb 256 i M).reverse))] V) (λv _=>(Wa M+7)/8-(intOf v).toNat) ?_ ?_
 .exact⟨0,N' _,rfl,by simpa[Fb] using I⟩
 clear I;rintro ρ' v V ⟨i,hi,rfl,I⟩;by_cases e:i<(Wa M+7)/8
 .obtain⟨j,rfl,H⟩:=X.at_ Z';have s:=HA (B:=18446744073709551616) (n:=M) (i:=i/8) Z' Z';have D:=oe s;have N:((i:Int) % 8*8).toNat=i % 8*8:=Z';refine TM ?_;refine mb (mL (mI ?_));refine su (mI ?_);refine su (mL (mI ?_));refine sv (Lr rfl rfl Z' Z' Z') ?_;refine sv (Eb (k:=i/8) Qa.out pa.size rfl rfl Z' Z') ?_;refine nH ?_;refine ea ?_;refine sv (Es rfl rfl Z') ?_;refine sv (iX Qa.out Qa.out rfl) ?_;refine sv (Kc (k:=(Wa M+7)/8-1-i) Qa.out pa.size rfl rfl Z' Z') ?_;refine Lb I (i:=0) (vs:=[_]) rfl rfl (Ac rfl) rfl pa.out rfl (by rw[Rc,D',r',M9,Da];omega) rfl ?_;intro ws I;simp only[l'] at I;obtain⟨k,u⟩:∃k,(Wa M+7)/8-i=k+1:=⟨(Wa M+7)/8-i-1,Z'⟩;rw[N,XO,W_,Cc (by rw[Rc,D',r',M9,Da];omega),vt,u,show(Wa M+7)/8-1-i=k by omega,YM,<-List.reverse_concat,<-Mm] at I;refine ea ?_;refine⟨⟨i+1,Z',rfl,by rw[show(Wa M+7)/8-(i+1)=k by omega];exact I⟩,by show(Wa M+7)/8-(i+1)<(Wa M+7)/8-i;omega, ?_⟩;exact Sb
 obtain rfl:i=(Wa M+7)/8:=Z';have a:Bh (List.replicate ((Wa M+7)/8-(Wa M+7)/8) 0++(Fb 256 ((Wa M+7)/8) M).reverse)=jj (sb M):=(by rw[t_,E6,J',<-hlen];exact adV);rw[a] at I;exact aaW
def dm(A)(n c m:Nat)(xs)(w)(C:Sl w A n 1 (oc xs))(B:n<=10000000000)(hm:m<=10000000000):Calls prog 291 #[wn A n c,wd m] w λe V=>∃b,e=.returned (wn (some ⟨b,0,none⟩) (max m n) (max m n))/\V.ownsRow w.heap.size 223 1 (wn (some ⟨b,0,none⟩) (max m n) (max m n)) (max m n) (oc (xs++List.replicate (max m n-n) 0))/\Below w.heap.size w V:=by
 have Q:=C.1;rw[La] at Q;have I:=Hp.start w;refine Ga func291 ?_;refine ea ?_;refine Jf (n:=max m n) I rfl rfl Z' Z' Qa.out pa.out rfl Z' Z' V' ?_;intro z G I;refine ea ?_;rw[ml] at I;refine WM I (i:=0) (o:=0) rfl rfl rfl (C.ext I.below) Qa.out pa.out (by rw[La,M9];omega) (Mb _) V' ?_;intro a I;skip;have N:xb (oc (List.replicate (max m n) 0)) 0 ((oc xs).take (min n (max m n)*1))=oc (xs++List.replicate (max m n-n) 0):=(by rw[G' (by rw[La];omega),xb,x9,J',La,<-oD,<-AH,List.drop_replicate];congr 3;omega);simp only[l',N] at I;refine ea ?_;exact⟨_,rfl,I.at_ (i:=0) rfl,I.below⟩
variable {c':Nat}
def Nr(A B)(n c m c':Nat)(xs ys)(w)(C:Sl w A n 1 (oc xs))(hy:Sl w B m 1 (oc ys))(F:Dg 18446744073709551616 xs)(S:Dg 18446744073709551616 ys)(hc:n<=c)(o:m<=c')(hn:n<=100000000000)(hm:m<=100000000000):Zc 294 #[wn A n c,wn B m c'] w (wd (Gi (Ka 18446744073709551616 xs) (Ka 18446744073709551616 ys))):=by
 have p:=C.1;have R:=hy.1;rw[La] at p R;have X:=C.Qs;have u:=hy.Qs;have hxl:=Ie xs;have hyl:=Ie ys;have b:=Can.cut F;have d:=Can.cut S;have I:=Hp.start w;rw[<-Ni xs,<-Ni ys];refine Ga func294 ?_;refine ea ?_;refine Gd I (fg _ _ _ xs _ C hc Z') rfl ?_;intro w7 I;refine mL ?_;refine Gd I (fg _ _ _ ys _ (hy.ext I.below) o Z') rfl ?_;intro w9 I;generalize fe xs=us at*;generalize fe ys=vs at*;by_cases hlen:us.length=vs.length
 .refine ea ?_;refine rf 5 (λv V=>∃k:Nat,k<=us.length/\v=wd ((k:Int)-1)/\us.drop k=vs.drop k/\Hp w [] V) (λv _=>(intOf v+1).toNat) ?_ ?_
  .exact⟨us.length,F' _,rfl,by rw[List.drop_length,l6 Z'],I⟩
  clear I;rintro ρ' v V ⟨k,hk,rfl,T,I⟩;by_cases h0:k=0
  .subst h0;refine ea ?_;rw[T7,T7] at T;rw[T];exact⟨by rw[RM rfl],I.below⟩
  obtain⟨j,rfl⟩:∃j,k=j+1:=⟨k-1,Z'⟩;obtain⟨x,N⟩:=aa (l:=us) (k:=j) Z';obtain⟨y,G⟩:=aa (l:=vs) (k:=j) Z';obtain⟨ad,rfl,H⟩:=X.at_ Z';obtain⟨P,rfl,K⟩:=u.at_ Z';have a:=oe N;have i:=oe G;by_cases D:x<y
  .have Y:=PC b.1 N G T D;refine BS ?_;refine xa ?_;intro f W Q e;have g:=Q.bl;obtain⟨M,J,E,z,t,v30,s,r,_⟩:=e;replace I:=Q.hp;refine Be ?_;refine ea ?_;exact⟨by rw[Xl Y],I.below⟩
  by_cases L:y<x
  .have Y:=PC d.1 G N T.symm L;refine BS ?_;refine xa ?_;intro f W Q e;have g:=Q.bl;obtain⟨M,J,E,z,t,v30,s,r,_⟩:=e;replace I:=Q.hp;refine Be ?_;refine BS ?_;refine xa ?_;intro f W Q e;have q:=Q.bl;obtain⟨v45,v44,v43,v42,v41,v40,v39,v38,_⟩:=e;replace I:=Q.hp;refine Be ?_;refine ea ?_;exact⟨by rw[lu Y],I.below⟩
  refine BS ?_;refine dn ?_;intro W I;refine BS ?_;refine dn ?_;intro W I;refine ea ?_;refine⟨⟨j,Z',by show Value.int _ _=Value.int _ _;congr 1;omega,yE N G T Z',I⟩,by show((((j+1:Nat):Int)-1-1)+1).toNat<((((j+1:Nat):Int)-1)+1).toNat;omega, ?_⟩;exact Sb
 by_cases D:us.length<vs.length
 .have Y:Ka 18446744073709551616 us<Ka 18446744073709551616 vs:=(by refine R6 λh=> ?_;have:=d.iy b Z' h;omega);refine ea ?_;exact⟨by rw[Xl Y],I.below⟩
 have Y:Ka 18446744073709551616 vs<Ka 18446744073709551616 us:=(by refine R6 λh=> ?_;have:=b.iy d Z' h;omega);refine ea ?_;exact⟨by rw[lu Y],I.below⟩
def adj{y:Nat}(hy:y<18446744073709551616)(hm:m<18446744073709551616):y*m<=340282366920938463426481119284349108225:=O9 (by omega:y<=18446744073709551615) (by omega:m<=18446744073709551615)
def sD{x y c P:Nat}(C:x<18446744073709551616)(E:c<18446744073709551616)(f:P<=340282366920938463426481119284349108225)(he:P=y*m):(x+(P % 18446744073709551616+c+0) % 18446744073709551616+0) % 18446744073709551616=(x+y*m+c) % 18446744073709551616/\((P/18446744073709551616+(P % 18446744073709551616+c+0)/18446744073709551616) % 18446744073709551616+(x+(P % 18446744073709551616+c+0) % 18446744073709551616+0)/18446744073709551616) % 18446744073709551616=(x+y*m+c)/18446744073709551616/\(x+y*m+c)/18446744073709551616<18446744073709551616:=by
 rw[<-he];omega
variable {cy ny:Nat}
def Zo{H:List HE}{b M:Nat}{Y:t6}(pre xs post ys:t3)(w:World)(I:Hp w0 (.row (some ⟨b,0,none⟩) M C 223 1 (oc (pre++xs++post))::H) w) (hy:∀Z cs,Hp w0 (.row (some ⟨b,0,none⟩) M C 223 1 cs::H) Z->Sl Z Y ny 1 (oc ys))(N:Dg 18446744073709551616 xs)(Q:Dg 18446744073709551616 ys)(hm:m<18446744073709551616)(s:xs.length<=100000000000)(p:ny<=100000000000):Calls prog 297 #[wn (some ⟨b,pre.length,none⟩) xs.length c',wn Y ny cy,.int .u64 (m:Int)] w λe V=>e=.returned (.tuple #[])/\Hp w0 (.row (some ⟨b,0,none⟩) M C 223 1 (oc (pre++ah 18446744073709551616 xs ys m 0++post))::H) V:=by
 have R:=(hy _ _ I).1;rw[La] at R;refine Ga func297 ?_;refine ea ?_;refine Jh 6 14 (λc i V=>∃(done rest:t3)(cr:Nat),done.length+rest.length=xs.length/\i=wd done.length/\c=.int .u64 (cr:Int)/\cr<18446744073709551616/\Dg 18446744073709551616 rest/\done++ah 18446744073709551616 rest (ys.drop done.length) m cr=ah 18446744073709551616 xs ys m 0/\Hp w0 (.row (some ⟨b,0,none⟩) M C 223 1 (oc (pre++(done++rest)++post))::H) V) (λ_ i _=>xs.length-(intOf i).toNat) ?_ ?_
 .exact⟨[],xs,0,by simp,rfl,rfl,Z',N,rfl,I⟩
 clear I;rintro ρ' c i V ⟨done,rest,cr,hlen,rfl,rfl,z,f,heq,I⟩;by_cases D:done.length<xs.length
 .obtain⟨x,r,rfl⟩:∃x r,rest=x::r:=(by exact abz);have a:=f.head;have j:=oe (kE (pre:=pre) (done:=done) (r:=r) (post:=post) (x:=x));have t:done.length+(r.length+1)=xs.length:=by simpa using hlen
  simp only[ah,tail_drop,bz] at heq;by_cases d:done.length<ny
  .obtain⟨y,E⟩:=aa (l:=ys) (k:=done.length) Z';obtain⟨g,rfl,_⟩:=(hy _ _ I).at_ Z';rw[E,F9] at heq;refine abN ?_;intro F;refine ea ?_;obtain⟨J,o,K⟩:=sD (y:=y) (m:=m) a z (adj F hm) rfl;refine cd I (Gw y m _ F hm) ?_;intro P I;refine ea ?_;refine Jl (Tk (y*m % 18446744073709551616) cr 0 Z' _) (na (Ac rfl) (na (Ac rfl) (na rfl Oa))) V' ?_;refine ea ?_;refine D3 ?_;refine Jl (Tk x ((y*m % 18446744073709551616+cr+0) % 18446744073709551616) 0 Z' _) (na (Ac rfl) (na (Ac rfl) (na rfl Oa))) V' ?_;refine mT ?_;refine iP ?_;intro ws I;rw[J,W_,Cc (by rw[La];simp only[D',V_];omega),Og,xq] at I;refine ea ?_;refine sv (zg rfl rfl) ?_;refine ea ?_;rw[o];refine⟨⟨done++[(x+y*m+cr) % 18446744073709551616],r,_,by simp;omega,by rw[D'];rfl,rfl,K,f.tail, ?_,I⟩,by show xs.length-(done.length+1)<xs.length-done.length;omega, ?_⟩
   .rw[<-heq,J_,D'];rfl
   exact T'
  rw[X_ Z',Option.getD_none] at heq;have h:(0:Nat)<18446744073709551616:=Z';refine ea ?_;obtain⟨J,o,K⟩:=sD (y:=0) (m:=m) a z (adj h hm) rfl;refine cd I (Gw 0 m _ h hm) ?_;intro P I;refine ea ?_;refine Jl (Tk (0*m % 18446744073709551616) cr 0 Z' _) (na (Ac rfl) (na (Ac rfl) (na rfl Oa))) V' ?_;refine ea ?_;refine D3 ?_;refine Jl (Tk x ((0*m % 18446744073709551616+cr+0) % 18446744073709551616) 0 Z' _) (na (Ac rfl) (na (Ac rfl) (na rfl Oa))) V' ?_;refine mT ?_;refine iP ?_;intro ws I;rw[J,W_,Cc (by rw[La];simp only[D',V_];omega),Og,xq] at I;refine ea ?_;refine sv (zg rfl rfl) ?_;refine ea ?_;rw[o];refine⟨⟨done++[(x+0*m+cr) % 18446744073709551616],r,_,by simp;omega,by rw[D'];rfl,rfl,K,f.tail, ?_,I⟩,by show xs.length-(done.length+1)<xs.length-done.length;omega, ?_⟩
  .rw[<-heq,J_,D'];rfl
  exact T'
 exact aef
def ep{H:List HE}{b M:Nat}{Y:t6}(pre xs post ys:t3)(w:World)(I:Hp w0 (.row (some ⟨b,0,none⟩) M C 223 1 (oc (pre++xs++post))::H) w) (hy:∀Z cs,Hp w0 (.row (some ⟨b,0,none⟩) M C 223 1 cs::H) Z->Sl Z Y ny 1 (oc ys))(N:Dg 18446744073709551616 xs)(Q:Dg 18446744073709551616 ys)(s:xs.length<=100000000000)(p:ny<=100000000000)(g:DF 18446744073709551616 xs ys 0=0):Calls prog 295 #[wn (some ⟨b,pre.length,none⟩) xs.length c',wn Y ny cy] w λe V=>e=.returned (ww true)/\Hp w0 (.row (some ⟨b,0,none⟩) M C 223 1 (oc (pre++Xr 18446744073709551616 xs ys 0++post))::H) V:=by
 have R:=(hy _ _ I).1;rw[La] at R;refine Ga func295 ?_;refine ea ?_;refine Jh 5 10 (λc i V=>∃(done rest:t3)(cr:Nat),done.length+rest.length=xs.length/\i=wd done.length/\c=.int .u64 (cr:Int)/\cr<=1/\Dg 18446744073709551616 rest/\done++Xr 18446744073709551616 rest (ys.drop done.length) cr=Xr 18446744073709551616 xs ys 0/\DF 18446744073709551616 rest (ys.drop done.length) cr=0/\Hp w0 (.row (some ⟨b,0,none⟩) M C 223 1 (oc (pre++(done++rest)++post))::H) V) (λ_ i _=>xs.length-(intOf i).toNat) ?_ ?_
 .exact⟨[],xs,0,by simp,rfl,rfl,Z',N,rfl,g,I⟩
 clear I;rintro ρ' c i V ⟨done,rest,cr,hlen,rfl,rfl,z,f,heq,o,I⟩;by_cases D:done.length<xs.length
 .obtain⟨x,r,rfl⟩:∃x r,rest=x::r:=(by exact abz);have j:=f.head;have h:=oe (kE (pre:=pre) (done:=done) (r:=r) (post:=post) (x:=x));have t:done.length+(r.length+1)=xs.length:=by simpa using hlen
  simp only[Xr,DF,tail_drop,bz] at heq o;by_cases d:done.length<ny
  .obtain⟨y,E⟩:=aa (l:=ys) (k:=done.length) Z';obtain⟨a,rfl,_⟩:=(hy _ _ I).at_ Z';rw[E,F9] at heq o;refine abN ?_;intro F;refine aI (ia (mb (mL (mI (mL (mI ?_))))));refine bM ?_;refine Jl (uC x y cr z _) (na (Ac rfl) (na (Ac rfl) (na (Ac rfl) Oa))) V' ?_;refine mT ?_;refine iP ?_;intro ws I;rw[W_,Cc (by rw[La];simp only[D',V_];omega),Og,xq] at I;refine ea ?_;refine⟨⟨done++[(x+18446744073709551616-y-cr) % 18446744073709551616],r,_,by simp;omega,by rw[D'];rfl,rfl,by split<;>omega,f.tail, ?_, ?_,I⟩,by show xs.length-(done.length+1)<xs.length-done.length;omega, ?_⟩
   .rw[<-heq,J_,D'];rfl
   .rw[D'];exact o
   exact T'
  rw[X_ Z',Option.getD_none] at heq o;refine TM ?_;refine sr (aI (ia (qa (sr (mI (mL (Df ?_)))))));refine Ji (ia (cF (db (Va (mb (mL (mI (mL (mI ?_)))))))));refine bM ?_;refine Jl (uC x 0 cr z _) (na (Ac rfl) (na (Ac rfl) (na (Ac rfl) Oa))) V' ?_;refine mT ?_;refine iP ?_;intro ws I;rw[W_,Cc (by rw[La];simp only[D',V_];omega),Og,xq] at I;refine ea ?_;refine⟨⟨done++[(x+18446744073709551616-0-cr) % 18446744073709551616],r,_,by simp;omega,by rw[D'];rfl,rfl,by split<;>omega,f.tail, ?_, ?_,I⟩,by show xs.length-(done.length+1)<xs.length-done.length;omega, ?_⟩
  .rw[<-heq,J_,D'];rfl
  .rw[D'];exact o
  exact T'
 have G:rest=[]:=s9 Z';subst G;obtain rfl:cr=0:=o;refine ea ?_;rw[I_,Xr,I_] at*;rw[<-heq];exact⟨rfl,I⟩
def QJ{H:List HE}{b M:Nat}{Y:t6}(pre xs post ys:t3)(w:World)(I:Hp w0 (.row (some ⟨b,0,none⟩) M C 223 1 (oc (pre++xs++post))::H) w) (hy:∀Z cs,Hp w0 (.row (some ⟨b,0,none⟩) M C 223 1 cs::H) Z->Sl Z Y ny 1 (oc ys))(N:Dg 18446744073709551616 xs)(Q:Dg 18446744073709551616 ys)(s:xs.length<=100000000000)(p:ny<=100000000000):Calls prog 292 #[wn (some ⟨b,pre.length,none⟩) xs.length c',wn Y ny cy] w λe V=>e=.returned (.tuple #[])/\Hp w0 (.row (some ⟨b,0,none⟩) M C 223 1 (oc (pre++ah 18446744073709551616 xs ys 1 0++post))::H) V:=by
 have R:=(hy _ _ I).1;rw[La] at R;refine Ga func292 ?_;refine ea ?_;refine Jh 4 9 (λc i V=>∃(done rest:t3)(cr:Nat),done.length+rest.length=xs.length/\i=wd done.length/\c=.int .u64 (cr:Int)/\cr<=1/\Dg 18446744073709551616 rest/\done++ah 18446744073709551616 rest (ys.drop done.length) 1 cr=ah 18446744073709551616 xs ys 1 0/\Hp w0 (.row (some ⟨b,0,none⟩) M C 223 1 (oc (pre++(done++rest)++post))::H) V) (λ_ i _=>xs.length-(intOf i).toNat) ?_ ?_
 .exact⟨[],xs,0,by simp,rfl,rfl,Z',N,rfl,I⟩
 clear I;rintro ρ' c i V ⟨done,rest,cr,hlen,rfl,rfl,z,f,heq,I⟩;by_cases D:done.length<xs.length
 .obtain⟨x,r,rfl⟩:∃x r,rest=x::r:=(by exact abz);have h:=f.head;have g:=oe (kE (pre:=pre) (done:=done) (r:=r) (post:=post) (x:=x));have t:done.length+(r.length+1)=xs.length:=by simpa using hlen
  simp only[ah,tail_drop,bz,W_] at heq;by_cases d:done.length<ny
  .obtain⟨y,E⟩:=aa (l:=ys) (k:=done.length) Z';obtain⟨a,rfl,_⟩:=(hy _ _ I).at_ Z';rw[E,F9] at heq;refine abN ?_;intro F;refine aI (ia (mb (mL (mI (mL (mI ?_))))));refine bM ?_;refine Jl (Tk x y cr z _) (na (Ac rfl) (na (Ac rfl) (na (Ac rfl) Oa))) V' ?_;refine mT ?_;refine iP ?_;intro ws I;rw[W_,Cc (by rw[La];simp only[D',V_];omega),Og,xq] at I;refine ea ?_;refine⟨⟨done++[(x+y+cr) % 18446744073709551616],r,_,by simp;omega,by rw[D'];rfl,rfl,Z',f.tail, ?_,I⟩,by show xs.length-(done.length+1)<xs.length-done.length;omega, ?_⟩
   .rw[<-heq,J_,D'];rfl
   exact T'
  rw[X_ Z',Option.getD_none] at heq;refine TM ?_;refine sr (aI (ia (qa (sr (mI (mL (Df ?_)))))));refine Ji (ia (cF (db (Va (mb (mL (mI (mL (mI ?_)))))))));refine bM ?_;refine Jl (Tk x 0 cr z _) (na (Ac rfl) (na (Ac rfl) (na (Ac rfl) Oa))) V' ?_;refine mT ?_;refine iP ?_;intro ws I;rw[W_,Cc (by rw[La];simp only[D',V_];omega),Og,xq] at I;refine ea ?_;refine⟨⟨done++[(x+0+cr) % 18446744073709551616],r,_,by simp;omega,by rw[D'];rfl,rfl,Z',f.tail, ?_,I⟩,by show xs.length-(done.length+1)<xs.length-done.length;omega, ?_⟩
  .rw[<-heq,J_,D'];rfl
  exact T'
 exact aef
def cZ{i d:Nat}(D:Nat)(r:D<18446744073709551616^i)(T:d<18446744073709551616)(u:i+n/64+1<k):(D*2^n)/18446744073709551616^(i+n/64) % 18446744073709551616<2^(n % 64)/\d*2^(n % 64) % 18446744073709551616=(d % 2^(64-n % 64))*2^(n % 64)/\(Fb 18446744073709551616 k (D*2^n)).set (i+n/64) ((D*2^n)/18446744073709551616^(i+n/64) % 18446744073709551616+d*2^(n % 64) % 18446744073709551616)=Fb 18446744073709551616 k (D*2^n+18446744073709551616^(i+n/64)*(d*2^(n % 64) % 18446744073709551616))/\(D*2^n+18446744073709551616^(i+n/64)*(d*2^(n % 64) % 18446744073709551616))/18446744073709551616^(i+n/64+1) % 18446744073709551616=0/\(Fb 18446744073709551616 k (D*2^n+18446744073709551616^(i+n/64)*(d*2^(n % 64) % 18446744073709551616))).set (i+n/64+1) (d/2^(64-n % 64))=Fb 18446744073709551616 k ((D+18446744073709551616^i*d)*2^n)/\(n % 64=0->D*2^n+18446744073709551616^(i+n/64)*(d*2^(n % 64) % 18446744073709551616)=(D+18446744073709551616^i*d)*2^n):=by
 have g:(18446744073709551616:Nat)=2^64:=by decide
 have K:n % 64<64:=R_ _ Z';have f:2^n=18446744073709551616^(n/64)*2^(n % 64):=(by rw[g,<-W9,<-Q_];congr 1;omega);generalize R:n/64=q at*;generalize p:n % 64=s at*;have e:(18446744073709551616:Nat)=2^(64-s)*2^s:=by rw[<-Q_,g];congr 1;omega
 have A:0<2^s:=L_ Z';have a:∀j:Nat,0<18446744073709551616^j:=λj=>L_ V';have m:D*2^n<18446744073709551616^(i+q)*2^s:=(by rw[f,<-V9,Q_];exact m8 (m8 r (a q)) A);have h1:(D*2^n)/18446744073709551616^(i+q)<2^s:=by rw[S9 (a _),d' (2^s)];exact m
 have o:2^s<=18446744073709551616:=by rw[g];exact K_ Z' Z'
 have h2:d*2^s % 18446744073709551616=(d % 2^(64-s))*2^s:=by rw[e,Nat.mul_mod_mul_right]
 have G:(d % 2^(64-s)+1)*2^s<=18446744073709551616:=(by rw[e];exact n_ _ (R_ _ (L_ Z')));rw[U9] at G;have z:(D*2^n)/18446744073709551616^(i+q) % 18446744073709551616=(D*2^n)/18446744073709551616^(i+q):=G_ Z';have H:D*2^n+18446744073709551616^(i+q)*(d*2^s % 18446744073709551616)<18446744073709551616^(i+q+1):=(by rw[h2,B_];have:18446744073709551616^(i+q)*((d % 2^(64-s))*2^s+2^s)<=18446744073709551616^(i+q)*18446744073709551616:=O_ _ G;rw[j_] at this;omega);have b:=ab0 (d:=d) (s:=s) T Z';have Y:D*2^n+18446744073709551616^(i+q)*(d*2^s % 18446744073709551616)+18446744073709551616^(i+q+1)*(d/2^(64-s))=(D+18446744073709551616^i*d)*2^n:=by
  have h:18446744073709551616^(i+q)*(d*2^s % 18446744073709551616)+18446744073709551616^(i+q+1)*(d/2^(64-s))=18446744073709551616^(i+q)*(d*2^s):=by
   conv=>rhs;rw[<-b.1,j_]
   rw[B_,V9,d' 18446744073709551616]
  rw[P7,h,K8,f,Q_];congr 1;simp only[V9,L7,d']
 have P:∀j,j<k->18446744073709551616^j*18446744073709551616<=18446744073709551616^k:=λj hj=>by rw[<-B_];exact K_ V' hj
 have t:=P (i+q) Z';rw[<-B_] at t;refine⟨by rw[z];exact h1,h2, ?_, ?_, ?_, ?_⟩
 .exact Bt V' Z' Z' (by rw[z,h2];omega)
 .rw[k_ H]
 .have L:(D*2^n+18446744073709551616^(i+q)*(d*2^s % 18446744073709551616))/18446744073709551616^(i+q+1) % 18446744073709551616=0:=by rw[k_ H]
  have N:d/2^(64-s)<18446744073709551616:=X9 (B8 _ _) T;have c:=Bt (B:=18446744073709551616) (k:=k) (n:=D*2^n+18446744073709551616^(i+q)*(d*2^s % 18446744073709551616)) (j:=i+q+1) (v:=d/2^(64-s)) V' u ?_ (by rw[L];omega)
  .rw[L,i',Y] at c;exact c
  have X:18446744073709551616^(i+q+1)*(d/2^(64-s)+1)<=18446744073709551616^(i+q+1)*18446744073709551616:=O_ _ N;have l:=P (i+q+1) u;rw[p9] at X;omega
 intro J;subst J;rw[<-Y];have:d/2^(64-0)=0:=k_ (by rw[<-g];exact T);rw[this];simp
def Jv(A)(n c m:Nat)(xs)(w)(C:Sl w A n 1 (oc xs))(T:Dg 18446744073709551616 xs)(u:n<=1000000000)(hm:m<=10000000000):Calls prog 288 #[wn A n c,wd (m:Int)] w λe V=>∃A c,e=.returned (wn A (ya 18446744073709551616 (Ka 18446744073709551616 xs*2^m)).length c)/\V.ownsRow w.heap.size 223 1 (wn A (ya 18446744073709551616 (Ka 18446744073709551616 xs*2^m)).length c) (ya 18446744073709551616 (Ka 18446744073709551616 xs*2^m)).length (oc (ya 18446744073709551616 (Ka 18446744073709551616 xs*2^m)))/\Below w.heap.size w V:=by
 have Q:=C.1;rw[La] at Q;have I:=Hp.start w;have a:((m:Int) % 64).toNat=m % 64:=Z';refine Ga func288 ?_;refine ea ?_;refine Jf (n:=n+m/64+1) I rfl rfl Z' Z' Qa.out pa.out rfl Z' Z' V' ?_;intro x o I;refine ea ?_;rw[ml] at I;refine rf 18 (λv V=>∃i:Nat,i<=n/\v=wd i/\Hp w [.row (some ⟨x,0,none⟩) (n+m/64+1) (n+m/64+1) 223 1 (oc (Fb 18446744073709551616 (n+m/64+1) (Ka 18446744073709551616 (xs.take i)*2^m)))] V) (λv _=>n-(intOf v).toNat) ?_ ?_
 .exact⟨0,N' _,rfl,by rw[x9,Ka,W7,Pu];exact I⟩
 clear I;rintro ρ' v V ⟨i,hi,rfl,I⟩;by_cases j:i<n
 .obtain⟨d,F⟩:=aa (l:=xs) (k:=i) Z';obtain⟨p,rfl,H⟩:=C.at_ Z';have f:=oe F;have K:=T.at_ F;have r:=ug (T.take i);rw[q',T9 Z'] at r;obtain⟨s1,s2,s3,s4,s5,s6⟩:=cZ (k:=n+m/64+1) (n:=m) (Ka 18446744073709551616 (xs.take i)) r K Z';have s:=oe (ej (B:=18446744073709551616) (n+m/64+1) (Ka 18446744073709551616 (xs.take i)*2^m) (i+m/64) Z');refine ea ?_;refine mw ?_;refine Od 8 I ?_;refine Ku (i+m/64) ?_;refine Ba (i:=3) (λU Z hj hR=>Ma pa.out (show U 29=Value.pointer _ from hR.1) (hj.hp.Pd (i:=0) rfl (by rw[W_];exact s))) ?_;refine ub ?_;refine Ba (i:=6) (λU Z hj hR=>Oo (show U 32=Value.int _ _ from hR.1) rfl Z' Z') ?_;refine Ba (i:=7) (λU Z hj hR=>qp (show U 31=Value.int _ _ from hR.1) (show U 33=Value.int _ _ from hR.2.1) Z') ?_;refine KM ?_;intro W I;refine sv (Kc (k:=i+m/64) Qa.out pa.size rfl rfl Z' Z') ?_;refine VV ?_;intro ws I;rw[a,s2,iK s1,<-s2,W_,Cc (by rw[La,Da];omega),Og,s3] at I;by_cases J:m % 64=0
  .refine ea ?_;rw[s6 J,<-Kf F] at I;exact aC
  have D:=oe (ej (B:=18446744073709551616) (n+m/64+1) (Ka 18446744073709551616 (xs.take i)*2^m+18446744073709551616^(i+m/64)*(d*2^(m % 64) % 18446744073709551616)) (i+m/64+1) Z');rw[s4] at D;have g:(64-(m:Int) % 64).toNat=64-m % 64:=Z';have b:d/2^(64-(m:Int) % 64).toNat<18446744073709551616:=X9 (B8 _ _) K;have h:(0:Nat)<18446744073709551616:=Z';refine ea ?_;refine Od 10 I ?_;refine Ku (i+m/64+1) ?_;refine Ba (i:=4) (λU Z hj hR=>Ma pa.out (show U 43=Value.pointer _ from hR.1) (hj.hp.Pd (i:=0) rfl (by rw[W_];exact D))) ?_;refine ub ?_;refine Ba (i:=7) (λU Z hj hR=>Oo (show U 46=Value.int _ _ from hR.1) rfl Z' Z') ?_;refine ub ?_;refine Ba (i:=9) (λU Z hj hR=>Es (show U 45=Value.int _ _ from hR.1) (show U 48=Value.int _ _ from hR.2.1) Z') ?_;refine KM ?_;intro W I;refine sv (Kc (k:=i+m/64+1) Qa.out pa.size rfl rfl Z' Z') ?_;refine VV ?_;intro ws I;rw[g,Nat.zero_or,W_,Cc (by rw[La,Da];omega),Og,s5,<-Kf F] at I;refine aaA ?_;exact Sb
 refine ea ?_;rw[G' Z'] at I;refine Gd I (fg _ _ _ (Fb 18446744073709551616 (n+m/64+1) (Ka 18446744073709551616 xs*2^m)) _ (I.ka (i:=0) rfl) (F' _) Z') rfl ?_;intro t I;refine ea ?_;have q:Ka 18446744073709551616 xs*2^m<18446744073709551616^(n+m/64+1):=(by have h1:=ug T;rw[show xs.length=n by omega] at h1;have h2:2^m<=18446744073709551616^(m/64+1):=(by exact C3);rw[show n+m/64+1=n+(m/64+1) by omega,Q_];exact c_ (m8 h1 (L_ Z')) (O_ _ h2));have T:fe (Fb 18446744073709551616 (n+m/64+1) (Ka 18446744073709551616 xs*2^m))=ya 18446744073709551616 (Ka 18446744073709551616 xs*2^m):=(by rw[Qg Z' (Ke Z' _ _),Pb q]);have h1:=(Hp.VM (xs:=Fb 18446744073709551616 (n+m/64+1) (Ka 18446744073709551616 xs*2^m)) I (Da _ _)).at_ (i:=0) rfl;exact CM
def Sl.FT{b:Addr}{xs:t3}(h:Sl w (some b) n 1 (oc xs))(u:k<n):Sl w (some (b.add (k*1))) (n-k) 1 (oc (xs.drop k)):=by
 have Q:=h.1;rw[La] at Q;refine⟨by rw[La,Q9];omega,λJ=>⟨_,rfl, ?_⟩⟩;obtain⟨x,he,H⟩:=h.2 Z';injection he with he
 subst he;rw[W_,oD];exact H.drop k
def RP{s:Nat}(K:s<64)(J:0<s):(N/18446744073709551616^(j+1) % 18446744073709551616)*2^(64-s) % 18446744073709551616=N/18446744073709551616^(j+1) % 2^s*2^(64-s)/\(N/18446744073709551616^j % 18446744073709551616/2^s|||(N/18446744073709551616^(j+1) % 18446744073709551616)*2^(64-s) % 18446744073709551616)=N/2^(64*j+s) % 18446744073709551616:=by
 have g:(18446744073709551616:Nat)=2^64:=by decide
 have e:(18446744073709551616:Nat)=2^s*2^(64-s):=by rw[<-Q_,g];congr 1;omega
 have h1:(N/18446744073709551616^(j+1) % 18446744073709551616)*2^(64-s) % 18446744073709551616=N/18446744073709551616^(j+1) % 2^s*2^(64-s):=(by generalize N/18446744073709551616^(j+1)=m;rw[e,Nat.mul_mod_mul_right,Nat.mod_mul_right_mod]);obtain⟨h2,G⟩:=pC N j s K J;exact⟨h1,by rw[h1,iK h2,G]⟩
def Wv(A)(n c m:Nat)(xs)(w)(hx:Sl w A n 1 (oc xs))(T:Dg 18446744073709551616 xs)(hc:n<=c)(hn:n<=1000000000)(hm:m<=1000000000000):Calls prog 289 #[wn A n c,wd (m:Int)] w λe V=>∃A c,e=.returned (wn A (ya 18446744073709551616 (Ka 18446744073709551616 xs/2^m)).length c)/\V.ownsRow w.heap.size 223 1 (wn A (ya 18446744073709551616 (Ka 18446744073709551616 xs/2^m)).length c) (ya 18446744073709551616 (Ka 18446744073709551616 xs/2^m)).length (oc (ya 18446744073709551616 (Ka 18446744073709551616 xs/2^m)))/\Below w.heap.size w V:=by
 have H:=hx.1;rw[La] at H;have I:=Hp.start w;have K:((m:Int) % 64).toNat=m % 64:=Z';have B:(18446744073709551616:Nat)=2^64:=by decide
 have E:2^m=18446744073709551616^(m/64)*2^(m % 64):=(by rw[B,<-W9,<-Q_];congr 1;omega);have D:=ug T;rw[show xs.length=n by omega] at D;by_cases P:n<=m/64
 .have J:Ka 18446744073709551616 xs/2^m=0:=(by apply k_;refine c_ D (p' (K_ V' P) ?_);rw[E];exact Y5 _ (L_ Z'));refine Ga func289 ?_;refine ea ?_;rw[J,uh Z'];exact vR
 obtain⟨ad,rfl,hr⟩:=hx.at_ Z';have hsd:=hx.FT (k:=m/64) Z';have b:∀j,j<n->xs[j]?=some (Ka 18446744073709551616 xs/18446744073709551616^j % 18446744073709551616):=λj hj=>(by obtain⟨d,u⟩:=aa (l:=xs) (k:=j) Z';rw[u,Fx T u]);refine Ga (l:=[wn (some ad) n c,wd (m:Int)]) func289 ?_;refine ea ?_;refine sv (eH (l:=m/64) Qa.out pa.size rfl rfl Z' Z' Z' Z') ?_;refine Hi (dm _ _ _ 0 _ _ hsd Z' Z') rfl ?_;rintro e_ w_ ⟨q,rfl,t,M⟩;refine Zt ?_;intro I;rw[Nat.zero_max,t_,E6,I_] at I;rw[Nat.zero_max];refine ea ?_;refine rf 19 (λv V=>∃i:Nat,i<=n-m/64/\v=wd i/\Hp w [.row (some ⟨q,0,none⟩) (n-m/64) (n-m/64) 223 1 (oc (Fb 18446744073709551616 i (Ka 18446744073709551616 xs/2^m)++xs.drop (m/64+i)))] V) (λv _=>(n-m/64)-(intOf v).toNat) ?_ ?_
 .exact⟨0,N' _,rfl,I⟩
 clear I;rintro ρ' v V ⟨i,hi,rfl,I⟩;by_cases hlt2:i<n-m/64
 .have S:=b (m/64+i) Z';have F:xs.drop (m/64+i)=(Ka 18446744073709551616 xs/18446744073709551616^(m/64+i) % 18446744073709551616)::xs.drop (m/64+i+1):=(by rw[m9 Z'];congr 1;have:=z'.1 S;exact this.2);have L:(Fb 18446744073709551616 i (Ka 18446744073709551616 xs/2^m)++xs.drop (m/64+i))[i]?=some (Ka 18446744073709551616 xs/18446744073709551616^(m/64+i) % 18446744073709551616):=(by rw[R9 (by rw[Da];omega),Da,F];simp);have hg:=oe L;have p:∀y,(Fb 18446744073709551616 i (Ka 18446744073709551616 xs/2^m)++xs.drop (m/64+i)).set i y=Fb 18446744073709551616 i (Ka 18446744073709551616 xs/2^m)++y::xs.drop (m/64+i+1):=λy=>(by rw[F,q8 _ _ (by rw[Da];omega),Da,t_,l']);have o:(Fb 18446744073709551616 i (Ka 18446744073709551616 xs/2^m)++xs.drop (m/64+i)).length=n-m/64:=by rw[D',Da,Q9];omega
  have h:∀y,Fb 18446744073709551616 i (Ka 18446744073709551616 xs/2^m)++y::xs.drop (m/64+i+1)=(Fb 18446744073709551616 i (Ka 18446744073709551616 xs/2^m)++[y])++xs.drop (m/64+(i+1)):=λy=>List.append_cons _ _ _;have r:Fb 18446744073709551616 (i+1) (Ka 18446744073709551616 xs/2^m)=Fb 18446744073709551616 i (Ka 18446744073709551616 xs/2^m)++[Ka 18446744073709551616 xs/2^(64*(m/64+i)+m % 64) % 18446744073709551616]:=(by rw[Mm,u9];congr 4;rw[B,<-W9,<-Q_];congr 1;omega);refine ea ?_;refine tJ ?_;refine sv (Es rfl rfl Z') ?_;refine ea ?_;refine Lb I (i:=0) (vs:=[_]) rfl rfl (Ac rfl) rfl pa.out rfl (by rw[La,o];omega) rfl ?_;intro ws I;simp only[l'] at I;rw[K,W_,Cc (by rw[La,o];omega),Og,p] at I;by_cases J:m % 64=0
  .have g:Ka 18446744073709551616 xs/18446744073709551616^(m/64+i) % 18446744073709551616/2^(m % 64)=Ka 18446744073709551616 xs/2^(64*(m/64+i)+m % 64) % 18446744073709551616:=(by rw[J,F7,y8,N9,W9,<-B]);by_cases H:i+1<n-m/64
   .refine eT ?_;intro I;exact Sb
   refine eT ?_;intro I;exact Sb
  by_cases H:i+1<n-m/64
  .have Q:=b (m/64+i+1) Z';have X:=oe Q;obtain⟨d1,d2⟩:=RP (N:=Ka 18446744073709551616 xs) (j:=m/64+i) (s:=m % 64) (R_ _ Z') Z';have a:(Fb 18446744073709551616 i (Ka 18446744073709551616 xs/2^m)++(Ka 18446744073709551616 xs/18446744073709551616^(m/64+i) % 18446744073709551616/2^(m % 64))::xs.drop (m/64+i+1))[i]?=some (Ka 18446744073709551616 xs/18446744073709551616^(m/64+i) % 18446744073709551616/2^(m % 64)):=(by rw[R9 (by rw[Da];omega),Da];simp);have G:=oe a;have R:∀y z,(Fb 18446744073709551616 i (Ka 18446744073709551616 xs/2^m)++y::xs.drop (m/64+i+1)).set i z=Fb 18446744073709551616 i (Ka 18446744073709551616 xs/2^m)++z::xs.drop (m/64+i+1):=λy z=>(by rw[q8 _ _ (by rw[Da];omega),Da,t_,l']);have f:∀y,(Fb 18446744073709551616 i (Ka 18446744073709551616 xs/2^m)++y::xs.drop (m/64+i+1)).length=n-m/64:=λy=>by rw[D',Da,V_,Q9];omega
   have Y:(64-(m:Int) % 64).toNat=64-m % 64:=Z';have b1:Ka 18446744073709551616 xs/18446744073709551616^(m/64+i) % 18446744073709551616/2^(m % 64)<18446744073709551616:=X9 (B8 _ _) (R_ _ Z');have b2:Ka 18446744073709551616 xs/18446744073709551616^(m/64+i+1) % 18446744073709551616*2^(64-(m:Int) % 64).toNat % 18446744073709551616<18446744073709551616:=R_ _ Z';refine ea ?_;refine Od 16 I ?_;refine Ku (i) ?_;refine Ba (i:=3) (λU Z hj hR=>Ma pa.out (show U 42=Value.pointer _ from hR.1) (hj.hp.Pd (i:=0) rfl (by rw[W_];exact G))) ?_;refine ub ?_;refine Ba (i:=6) (λU Z hj hR=>Lr (show U 45=Value.int _ _ from hR.1) rfl Z' Z' Z') ?_;refine ub ?_;refine Wi (m/64+i+1) ?_;refine Ym (λ_ hj=>(hr.ext hj.hp.below).Dl X) ?_;refine Gv ?_;refine Ba (i:=13) (λU Z hj hR=>Oo (show U 52=Value.int _ _ from hR.1) rfl Z' Z') ?_;refine ub ?_;refine Ba (i:=15) (λU Z hj hR=>qp (show U 51=Value.int _ _ from hR.1) (show U 54=Value.int _ _ from hR.2.1) Z') ?_;refine KM ?_;intro W I;refine ea ?_
   refine Lb I (i:=0) (vs:=[_]) rfl rfl (Ac rfl) rfl pa.out rfl (by rw[La,f];omega) rfl ?_;intro ws I;simp only[l'] at I;rw[Y,d2,W_,Cc (by rw[La,f];omega),Og,R,h,<-r] at I;refine ea ?_;refine⟨⟨i+1,Z',rfl,I⟩,by show(n-m/64)-(i+1)<(n-m/64)-i;omega, ?_⟩;exact Sb
  have g:Ka 18446744073709551616 xs/18446744073709551616^(m/64+i) % 18446744073709551616/2^(m % 64)=Ka 18446744073709551616 xs/2^(64*(m/64+i)+m % 64) % 18446744073709551616:=(by obtain⟨h2,h3⟩:=pC (Ka 18446744073709551616 xs) (m/64+i) (m % 64) (R_ _ Z') Z';have h4:Ka 18446744073709551616 xs/18446744073709551616^(m/64+i+1)=0:=k_ (c_ D (K_ V' Z'));rw[h4] at h3;simpa using h3);refine eT ?_;intro I;exact Sb
 obtain rfl:i=n-m/64:=Z';rw[l6 Z',I_] at I;refine ea ?_;refine Gd I (fg _ _ _ (Fb 18446744073709551616 (n-m/64) (Ka 18446744073709551616 xs/2^m)) _ (I.ka (i:=0) rfl) (F' _) Z') rfl ?_;intro w60 I;refine ea ?_;have C:Ka 18446744073709551616 xs/2^m<18446744073709551616^(n-m/64):=(by rw[S9 (L_ Z'),E,<-V9,<-Q_,show n-m/64+m/64=n by omega];exact c_ D (Y5 _ (L_ Z')));have T:fe (Fb 18446744073709551616 (n-m/64) (Ka 18446744073709551616 xs/2^m))=ya 18446744073709551616 (Ka 18446744073709551616 xs/2^m):=(by rw[Qg Z' (Ke Z' _ _),Pb C]);have h1:=(Hp.VM (xs:=Fb 18446744073709551616 (n-m/64) (Ka 18446744073709551616 xs/2^m)) I (Da _ _)).at_ (i:=0) rfl;exact CM
def bN(a:t7):Nat:=bn a.data.toList
def sN(n:Nat):t7:=str (sb n)
def Af(n:Nat):bN (sN n)=n:=by rw[bN,sN,ed,adt]
def Ki(n:Nat):(sN n).size=(Wa n+7)/8:=by rw[sN,eh,vQ,dL]
def MK{a b:Nat}(h:sN a=sN b):a=b:=by rw[<-Af a,h,Af]
def pk:sN 0=ByteArray.mk #[]:=by rw[sN,aX];rfl
def iC(a:t7):bN a<256^a.size:=by rw[td];exact u2 _
def Xf(a):Wa (bN a)<=8*a.size:=by
 apply Uc;have:=iC a;rwa[show(256:Nat)=2^8 from rfl,<-W9] at this
def JO(h:n<256^k):(ya 18446744073709551616 n).length<=(k+7)/8:=by
 apply jg Z';refine c_ h ?_;rw[show(256:Nat)=2^8 from rfl,show(18446744073709551616:Nat)=2^64 from rfl,<-W9,<-W9];exact K_ Z' Z'
def bg(a):(ya 18446744073709551616 (bN a)).length<=(a.size+7)/8:=JO (iC a)
def Ig(n:Nat):Dg 18446744073709551616 (ya 18446744073709551616 n):=(te Z' n).1
def ze(n:Nat):Ka 18446744073709551616 (ya 18446744073709551616 n)=n:=He Z' n
def Tc(a:t7)(w)(M:a.size<=1000000000):Calls prog 251 #[wt a] w λe V=>∃b c,e=.returned (wn (some ⟨b,0,none⟩) (ya 18446744073709551616 (bN a)).length c)/\V.ownsRow w.heap.size 223 1 (wn (some ⟨b,0,none⟩) (ya 18446744073709551616 (bN a)).length c) (ya 18446744073709551616 (bN a)).length (oc (ya 18446744073709551616 (bN a)))/\Below w.heap.size w V:=qQ a w Z'
def iw(n:Nat)(w)(B:n<18446744073709551616):Zc 203 #[.int .u64 (n:Int)] w (wt (sN n)):=by
 have I:=Hp.start w;refine Ga func203 ?_;refine ea ?_;refine xr ?_;intro D y I;refine Gd I (Ef _ _ _ [n] _ (I.ka (i:=0) rfl) (Dg.cons B Dg.nil) (F' _) Z') rfl ?_;intro v I;refine ea ?_;refine⟨?_,I.below⟩;rw[sN];simp[Ka]
def jF(a b:t7)(w)(M:a.size<=1000000000)(F:b.size<=1000000000):Zc 293 #[wt a,wt b] w (wd (Gi (bN a) (bN b))):=by
 have I:=Hp.start w;have h1:=bg a;have h2:=bg b;refine Ga func293 ?_;refine ea ?_;refine BP I (Tc a _ M) ?_;intro c P A I;refine mS ?_;refine BP I (Tc b _ F) ?_;intro e K o I;refine fI ?_;intro z I;rw[ze,ze];refine ea ?_;exact⟨rfl,I.below⟩
def Un(a:t7)(w)(M:a.size<=1000000000):Zc 255 #[wt a] w (wd (Wa (bN a))):=by
 have I:=Hp.start w;have h1:=bg a;refine Ga func255 ?_;refine ea ?_;refine BP I (Tc a _ M) ?_;intro t H y I;refine Gd I (Ez _ _ _ (ya 18446744073709551616 (bN a)) _ (I.ka (i:=0) rfl) (Ig _) (I.pf (i:=0) rfl) Z') rfl ?_;intro v I;rw[ze];refine ea ?_;exact⟨rfl,I.below⟩
def zh(n m:Nat):Wa (n*2^m)<=Wa n+m:=by
 apply Uc;rw[Q_];exact m8 (wc n) (L_ Z')
def nA(n:Nat):(ya 18446744073709551616 n).length<=(Wa n+63)/64:=by
 apply jg Z';refine c_ (wc n) ?_;exact C3
def PE(a:t7)(m:Nat)(w)(M:a.size<=1000000000)(hm:m<=10000000000):Zc 253 #[wt a,wd (m:Int)] w (wt (sN (bN a*2^m))):=by
 have I:=Hp.start w;have h1:=bg a;have h2:=nA (bN a*2^m);have b:=zh (bN a) m;have z:=Xf a;have N:(if(0:Int)>(m:Int) then 0 else(m:Int))=m:=R' Z';refine Ga func253 ?_;refine ea ?_;refine BP I (Tc a _ M) ?_;intro c P A I;refine ea ?_;rw[N];refine vU I (Jv _ _ _ m (ya 18446744073709551616 (bN a)) _ (I.ka (i:=0) rfl) (Ig _) Z' hm) rfl ?_;intro C X d I;rw[ze] at*;refine Gd I (Ef _ _ _ (ya 18446744073709551616 (bN a*2^m)) _ (I.ka (i:=0) rfl) (Ig _) (I.pf (i:=0) rfl) Z') rfl ?_;intro G I;rw[ze];refine ea ?_;exact⟨rfl,I.below⟩
def Mt(n m:Nat):Wa (n/2^m)<=Wa n:=by
 apply Uc;exact X9 (B8 _ _) (wc n)
def yD(a:t7)(m:Nat)(w)(M:a.size<=1000000000)(hm:m<=1000000000000):Zc 254 #[wt a,wd (m:Int)] w (wt (sN (bN a/2^m))):=by
 have I:=Hp.start w;have h1:=bg a;have h2:=nA (bN a/2^m);have b:=Mt (bN a) m;have z:=Xf a;have N:(if(0:Int)>(m:Int) then 0 else(m:Int))=m:=R' Z';refine Ga func254 ?_;refine ea ?_;refine BP I (Tc a _ M) ?_;intro c P A I;refine ea ?_;rw[N];refine vU I (Wv _ _ _ m (ya 18446744073709551616 (bN a)) _ (I.ka (i:=0) rfl) (Ig _) (I.pf (i:=0) rfl) Z' hm) rfl ?_;intro C X d I;rw[ze] at*;refine Gd I (Ef _ _ _ (ya 18446744073709551616 (bN a/2^m)) _ (I.ka (i:=0) rfl) (Ig _) (I.pf (i:=0) rfl) Z') rfl ?_;intro G I;rw[ze];refine ea ?_;exact⟨rfl,I.below⟩
def aY{x y:Nat}(h:y<=x):DF 18446744073709551616 (ya 18446744073709551616 x) (ya 18446744073709551616 y) 0=0/\Ka 18446744073709551616 (Xr 18446744073709551616 (ya 18446744073709551616 x) (ya 18446744073709551616 y) 0)=x-y:=by
 have:=xG (B:=18446744073709551616) Z' (ya 18446744073709551616 x) (ya 18446744073709551616 y) 0 (Ig _) (Ig _) Z' (by rw[ze,ze];omega);rw[ze,ze] at this;exact⟨this.2,Z'⟩
def Pt(a b:t7)(w:World)(M:a.size<=1000000000)(F:b.size<=1000000000):Zc 258 #[wt a,wt b] w (.tuple #[wt (sN (bN a-bN b)),ww (decide (bN b<=bN a))]):=by
 have I:=Hp.start w;have h1:=bg a;have h2:=bg b;by_cases D:bN a<bN b
 .refine Ga func258 ?_;refine ea ?_;refine BP I (Tc a _ M) ?_;intro C X z I;refine mS ?_;refine BP I (Tc b _ F) ?_;intro J j t I;refine ea ?_;refine fI ?_;intro Y I;rw[ze,ze,Xl D];exact aaV
 obtain⟨s1,s2⟩:=aY (x6 D);have E:¬Gi (bN a) (bN b)<0:=by unfold Gi;split<;>(try split)<;>omega
 refine Ga func258 ?_;refine ea ?_;refine BP I (Tc a _ M) ?_;intro C X z I;refine mS ?_;refine BP I (Tc b _ F) ?_;intro J j t I;refine ea ?_;refine fI ?_;intro Y I;rw[ze,ze];refine ea ?_;replace I:=I.front 1 rfl;rw[<-I_ (ya 18446744073709551616 (bN a)),<-J' (ya 18446744073709551616 (bN a))] at I;have o:=(I.LY (i:=0) rfl);rw[J',I_] at o;refine Hi (ep [] (ya 18446744073709551616 (bN a)) [] (ya 18446744073709551616 (bN b)) _ I (λZ cs h=>h.ka (i:=1) rfl) (Ig _) (Ig _) Z' Z' s1) rfl ?_;rintro H w_ ⟨rfl,I⟩;refine⟨_,rfl, ?_⟩;simp only[J',I_] at I;refine ea ?_;refine Gd I (Ef _ _ _ (Xr 18446744073709551616 (ya 18446744073709551616 (bN a)) (ya 18446744073709551616 (bN b)) 0) _ (I.ka (i:=0) rfl) (qN Z' _ _ _) (I.pf (i:=0) rfl) Z') rfl ?_;intro g I;rw[s2];refine ea ?_;rw[w' Z'];exact⟨rfl,I.below⟩
def OD(a b:t7)(w)(M:a.size<=1000000000)(F:b.size<=1000000000):Zc 260 #[wt a,wt b] w (wt (sN (bN a*bN b))):=by
 have I:=Hp.start w;have h1:=bg a;have h2:=bg b;refine Ga func260 ?_;refine ea ?_;refine BP I (Tc a _ M) ?_;intro J j e I;refine mS ?_;refine BP I (Tc b _ F) ?_;intro d u f I;have N:=Ig (bN a);have Q:=Ig (bN b);have t:=ze (bN a);have g:=ze (bN b);generalize ya 18446744073709551616 (bN a)=xs at*;generalize ya 18446744073709551616 (bN b)=ys at*;refine ea ?_;refine Jf (n:=xs.length+ys.length+1) I rfl rfl Z' Z' Qa.out pa.out rfl Z' Z' V' ?_;intro KX G I;refine ea ?_;rw[ml] at I;refine rf 23 (λv V=>∃(i:Nat)(L:t3),i<=xs.length/\v=wd i/\Dg 18446744073709551616 L/\L.length=xs.length+ys.length+1/\Ka 18446744073709551616 L=Ka 18446744073709551616 (xs.take i)*Ka 18446744073709551616 ys/\Hp w [.row (some ⟨KX,0,none⟩) (xs.length+ys.length+1) (xs.length+ys.length+1) 223 1 (oc L),.row (some ⟨d,0,none⟩) ys.length u 223 1 (oc ys),.row (some ⟨J,0,none⟩) xs.length j 223 1 (oc xs)] V) (λv _=>xs.length-(intOf v).toNat) ?_ ?_
 .exact⟨0,_,N' _,rfl,Dg.Je Z' _,by simp,by simp[Dj,Ka],I⟩
 clear I;rintro ρ' v V ⟨i,L,hi,rfl,z,C,A,I⟩;by_cases D:i<xs.length
 .obtain⟨m,hm⟩:=aa (l:=xs) (k:=i) Z';have K:=oe hm;have y:=N.at_ hm;have s:(L.take i).length=i:=by rw[q'];omega
  have p:(L.drop i).length=xs.length+ys.length+1-i:=by rw[Q9];omega
  refine EN ?_;refine sv (PJ (l:=i) Qa.out pa.size rfl rfl Z' Z' Z' Z') ?_;refine ea ?_;have E:=Zo (c':=xs.length+ys.length+1-i) (ny:=ys.length) (cy:=u) (m:=m) (Y:=some ⟨d,0,none⟩) (L.take i) (L.drop i) [] ys _ (by rw[I_,Y9];exact I) (λZ cs h=>h.ka (i:=1) rfl) (z.drop i) Q y Z' Z';rw[s,p,I_] at E;rw[i',W_];refine Vg (E) ?_;rintro R w_ ⟨rfl,I⟩;refine⟨_,rfl, ?_⟩;have H:=ug (N.take (i+1));have x:=ug Q;rw[q',T9 Z'] at H;have X:=Kf (B:=18446744073709551616) hm;have c:=Rg (B:=18446744073709551616) L i Z';have r:18446744073709551616^i*(Ka 18446744073709551616 (L.drop i)+Ka 18446744073709551616 ys*m+0)+Ka 18446744073709551616 (L.take i)=Ka 18446744073709551616 (xs.take (i+1))*Ka 18446744073709551616 ys:=(by rw[X,K8,<-A,c,N9,j_,V9,d' m];omega);have q:Ka 18446744073709551616 (L.drop i)+Ka 18446744073709551616 ys*m+0<18446744073709551616^(L.drop i).length:=(by refine Nat.lt_of_mul_lt_mul_left (a:=18446744073709551616^i) ?_;rw[<-Q_,p];refine X9 (Nat.le_add_right _ (Ka 18446744073709551616 (L.take i))) ?_;rw[r];refine c_ (L6 H x) ?_;rw[<-Q_];exact K_ V' Z');have o:=vv (B:=18446744073709551616) Z' _ _ _ _ q;refine ea ?_;refine⟨⟨i+1,L.take i++ah 18446744073709551616 (L.drop i) ys m 0,Z',rfl,(z.take i).append (Yz Z' _ _ _ _),by rw[D',Qn,s,p];omega, ?_,I⟩,by show xs.length-(i+1)<xs.length-i;omega, ?_⟩
  .rw[Jc,o,s,F8];exact r
  exact T'
 obtain rfl:i=xs.length:=Z';rw[C6,t,g] at A;refine ea ?_;refine Gd I (Ef _ _ _ L _ (I.ka (i:=0) rfl) z (F' _) Z') rfl ?_;intro P I;rw[A];refine ea ?_;exact⟨rfl,I.below⟩
def LW{d:Nat}(T:d≠0)(K:d<18446744073709551616)(B:n=18446744073709551616^k*(d+18446744073709551616*r)):tz n=64*k+tz d:=by
 obtain⟨m,hm⟩:=jx T;have S:tz d<64:=YC T (by simpa using K);have g:(18446744073709551616:Nat)=2^64:=by decide
 generalize tz d=t at*;have e:n=2^(64*k+t)*(2*(m+2^(63-t)*r)+1):=by
  rw[B,Q_,W9,<-g,V9];congr 1;have h1:18446744073709551616=2^t*(2*2^(63-t)):=by rw[g,<-Nat.pow_succ',<-Q_];congr 1;omega
  have h2:18446744073709551616*r=2^t*(2*2^(63-t)*r):=by rw[<-V9,<-h1]
  rw[h2]
  conv=>lhs;rw[hm]
  rw[<-j_];congr 1;rw[j_,V9];omega
 rw[e,NL]
def yl(a:t7)(w)(M:a.size<=1000000000)(S:Nd w):Zc 197 #[wt a] w (wd (tz (bN a))):=by
 have I:=Hp.start w;have h1:=bg a;refine Ga func197 ?_;refine ea ?_;refine BP I (Tc a _ M) ?_;intro c P A I;have N:=Ig (bN a);have t:=ze (bN a);generalize ya 18446744073709551616 (bN a)=xs at*;refine ea ?_;refine rf 8 (λv V=>∃(i:Nat),i<=xs.length/\v=wd i/\Ka 18446744073709551616 (xs.take i)=0/\Hp w [.row (some ⟨c,0,none⟩) xs.length P 223 1 (oc xs)] V) (λv _=>xs.length-(intOf v).toNat) ?_ ?_
 .exact⟨0,N' _,rfl,rfl,I⟩
 clear I;rintro ρ' v V ⟨i,hi,rfl,o,I⟩;by_cases D:i<xs.length
 .obtain⟨d,hm⟩:=aa (l:=xs) (k:=i) Z';have K:=oe hm;have y:=N.at_ hm;by_cases J:d=0
  .subst J;refine ea ?_;refine tJ ?_;refine⟨⟨i+1,Z',rfl,by rw[Kf hm,o];simp,I⟩,by show xs.length-(i+1)<xs.length-i;omega, ?_⟩;exact Sb
  have b:tz (bN a)=64*i+tz d:=(by have G:=Rg (B:=18446744073709551616) xs i Z';have z:=(z'.1 hm);rw[o,m9 D,z.2,Ka,t,i'] at G;exact LW J y G);have e:tz d<64:=YC J (by simpa using y);refine ea ?_;refine tJ ?_;refine cd I (SJ _ _ y J (S.hp I)) ?_;intro g I;refine ea ?_;refine⟨?_,I.below⟩;congr 2;omega
 refine ea ?_;rw[G' Z',t] at o;rw[o];exact⟨rfl,I.below⟩
def MX{x y:Nat}(C:x<18446744073709551616^k)(hy:y<18446744073709551616^k):Ka 18446744073709551616 (ah 18446744073709551616 (ya 18446744073709551616 x++List.replicate (k+1-(ya 18446744073709551616 x).length) 0) (ya 18446744073709551616 y) 1 0)=x+y:=by
 have Q:=jg (B:=18446744073709551616) Z' C;have h1:Ka 18446744073709551616 (ya 18446744073709551616 x++List.replicate (k+1-(ya 18446744073709551616 x).length) 0)=x:=by rw[Jc,Dj,ze];simp
 have h2:(ya 18446744073709551616 x++List.replicate (k+1-(ya 18446744073709551616 x).length) 0).length=k+1:=by rw[D',M9];omega
 rw[vv Z',h1,ze]
 .omega
 rw[h1,h2,ze,B_];have:0<18446744073709551616^k:=L_ V';omega
def Ru(l:t3)(x:Nat):(l++[x]).sum=l.sum+x:=by simp
def nF(L)(n c:Nat)(ss:List t7)(w)(p:Sl w L n 1 (xk ss))(hn:n<=1000000)(K:∀s∈ss,s.size<=1000000000):Zc 256 #[wn L n c] w (wt (sN (ss.map bN).sum)):=by
 have G:ss.length=n:=by have:=p.1;rw[Bp] at this;omega
 have I:=Hp.start w;refine Ga func256 ?_;refine ea ?_;replace I:=I.yb 223 1;refine Jh 3 9 (λv j V=>∃(i:Nat)(A:t6)(c' T:Nat),i<=n/\j=wd i/\T=((ss.take i).map bN).sum/\v=wn A (ya 18446744073709551616 T).length c'/\(ya 18446744073709551616 T).length<=125000001+i/\Hp w [.row A (ya 18446744073709551616 T).length c' 223 1 (oc (ya 18446744073709551616 T))] V) (λ_ j _=>n-(intOf j).toNat) ?_ ?_
 .exact⟨0,none,0,0,N' _,rfl,rfl,by rw[uh Z'];rfl,by rw[uh Z'];simp,by rw[uh Z'];exact I⟩
 clear I;rintro ρ' v j V ⟨i,A,c',T,hi,rfl,S,rfl,u,I⟩;by_cases D:i<n
 .obtain⟨s,r⟩:=aa (l:=ss) (k:=i) Z';obtain⟨ad,rfl,C⟩:=p.at_ Z';have F:=Gu r;have g:=K s (O' r);have z:=bg s;have W:((ss.take (i+1)).map bN).sum=T+bN s:=by rw[ja r,q_,I7,Ru,S]
  have N:(if((ya 18446744073709551616 (bN s)).length:Int)>((ya 18446744073709551616 T).length:Int) then((ya 18446744073709551616 (bN s)).length:Int) else((ya 18446744073709551616 T).length:Int))+1=((max (ya 18446744073709551616 T).length (ya 18446744073709551616 (bN s)).length+1:Nat):Int):=by split<;>omega
  have b:T<18446744073709551616^max (ya 18446744073709551616 T).length (ya 18446744073709551616 (bN s)).length:=c_ (zn Z' T) (K_ V' (Nat.le_max_left _ _));have R:bN s<18446744073709551616^max (ya 18446744073709551616 T).length (ya 18446744073709551616 (bN s)).length:=c_ (zn Z' (bN s)) (K_ V' (Nat.le_max_right _ _));have a:=MX b R;refine ea ?_;refine sv (Ma pa.out rfl ((C.ext I.below).Dl (by assumption))) ?_;refine ea ?_;refine BP I (Tc s _ g) ?_;intro P Q w14 I;refine ea ?_;rw[N];generalize hM:max (ya 18446744073709551616 T).length (ya 18446744073709551616 (bN s)).length=M at*;refine Hi (dm _ _ _ (M+1) _ _ (I.ka (i:=1) rfl) Z' Z') rfl ?_;rintro H w_ ⟨q,rfl,t,d⟩;refine⟨_,rfl, ?_⟩;replace I:=I.Ed (x:=.row _ _ _ _ _ _) d t;have m:max (M+1) (ya 18446744073709551616 T).length=M+1:=Z';rw[m] at I;rw[m];refine ea ?_
  have E:=QJ (c':=M+1) (ny:=(ya 18446744073709551616 (bN s)).length) (cy:=Q) (Y:=some ⟨P,0,none⟩) [] (ya 18446744073709551616 T++List.replicate (M+1-(ya 18446744073709551616 T).length) 0) [] (ya 18446744073709551616 (bN s)) _ (by rw[I_,J'];exact I) (λZ cs h=>h.ka (i:=1) rfl) ((Ig _).append (Dg.Je Z' _)) (Ig _) (by rw[D',M9];omega) Z';have X:(ya 18446744073709551616 T++List.replicate (M+1-(ya 18446744073709551616 T).length) 0).length=M+1:=by rw[D',M9];omega
  rw[X,I_,J'] at E;refine Vg (E) ?_;rintro H w_ ⟨rfl,I⟩;refine⟨_,rfl, ?_⟩;have f:(ah 18446744073709551616 (ya 18446744073709551616 T++List.replicate (M+1-(ya 18446744073709551616 T).length) 0) (ya 18446744073709551616 (bN s)) 1 0).length=M+1:=by rw[Qn,X]
  have J:=Yz (B:=18446744073709551616) Z' (ya 18446744073709551616 T++List.replicate (M+1-(ya 18446744073709551616 T).length) 0) (ya 18446744073709551616 (bN s)) 1 0;generalize ah 18446744073709551616 (ya 18446744073709551616 T++List.replicate (M+1-(ya 18446744073709551616 T).length) 0) (ya 18446744073709551616 (bN s)) 1 0=o at*;have e:fe o=ya 18446744073709551616 (T+bN s):=by rw[Qg Z' J,a]
  have y:=Ie o;refine ea ?_;refine Gd I (fg _ _ _ o _ (I.ka (i:=0) rfl) (F' _) Z') rfl ?_;intro w27 I;replace I:=(I.VM f).sub (I6 [_] _);rw[e] at*;refine ea ?_;refine⟨⟨i+1,_,_,T+bN s,Z',rfl,W.symm,rfl,Z',I⟩,by show n-(i+1)<n-i;omega, ?_⟩;exact Sb
 refine ea ?_;refine Gd I (Ef _ _ _ (ya 18446744073709551616 T) _ (I.ka (i:=0) rfl) (Ig _) (I.pf (i:=0) rfl) Z') rfl ?_;intro w30 I;rw[ze];refine ea ?_;rw[G' Z'] at S;rw[S];exact⟨rfl,I.below⟩
def iJ(s:t7)(l h:Nat):s.extract l h=str ((s.data.toList.take h).drop l):=by
 apply Uu;rw[ed];simp[ByteArray.extract,ByteArray.copySlice,List.drop_take]
def acG:Value->Nat
 |.string t=>t.size
 |_=>0
def Fy(s)(w):Zc 312 #[wt s,.int .u8 ((0:UInt8).toNat:Int)] w (wt (sN (bN s))):=by
 have I:=Hp.start w;refine Ga func312 ?_;refine ea ?_;refine rf 0 (λv V=>∃l:List UInt8,v=wt (str l)/\l.length<=s.size/\bn l=bN s/\V=w) (λv _=>acG v) ?_ ?_
 .exact⟨s.data.toList,by rw[eR];rfl,by rw[td];exact F' _,rfl,rfl⟩
 rintro ρ' v V ⟨l,rfl,Q,F,rfl⟩;have M:=eh l
 cases l with
 |nil=>
  refine ea ?_;rw[sN,<-F];exact⟨rfl,I.below⟩
 |cons c l=>
  have i:(str (c::l)).data.toList[(0:Int).toNat]?=some c:=by rw[ed];rfl
  have R:=c.toNat_lt;have hlen:(str (c::l)).size=l.length+1:=by rw[M];rfl
  have o:(0:UInt8).toNat=0:=rfl;by_cases J:c=0
  .subst J;refine ea ?_;refine sv (jw (l:=1) (h:=(str ((0:UInt8)::l)).size) Qa.out rfl ⟨_,_,rfl,Z'⟩ rfl Z' Z') ?_;refine ea ?_;rw[iJ,ed,G' (by rw[hlen];simp),List.drop_succ_cons,T7];refine⟨⟨l,rfl,by simp at Q;omega,by rw[<-F,KV],rfl⟩, ?_, ?_⟩
   .show(str l).size<(str (0::l)).size;rw[hlen,eh];omega
   exact T'
  have y:c.toNat≠0:=λh=>J (g7.1 h);refine ea ?_;rw[sN,<-F,aeb (by simpa using J)];exact⟨rfl,I.below⟩
def Lz(s)(w):Zc 296 #[wt s,wt (ByteArray.mk #[0])] w (wt (sN (bN s))):=by
 have I:=Hp.start w;have E:¬ByteArray.mk #[(0:UInt8)]=ByteArray.mk #[]:=by intro h;injection h with h;simp at h
 have a:(ByteArray.mk #[(0:UInt8)]).size=1:=rfl;have i:(ByteArray.mk #[(0:UInt8)]).data.toList[(0:Int).toNat]?=some 0:=rfl;have o:(0:UInt8).toNat=0:=rfl;by_cases J:s=ByteArray.mk #[]
 .subst J;refine Ga (l:=[wt (ByteArray.mk #[]),wt (ByteArray.mk #[0])]) func296 ?_;refine ea ?_;refine sv (yi rfl rfl (by first|rfl|assumption|decide)) ?_;refine ea ?_;rw[show bN (ByteArray.mk #[])=0 from rfl,pk];exact⟨rfl,I.below⟩
 refine Ga func296 ?_;refine ea ?_;refine sv (ti rfl rfl (by first|assumption|decide)) ?_;refine ea ?_
 (first|refine sv (yi rfl rfl (by first|rfl|assumption|decide)) ?_|refine sv (ti rfl rfl (by first|assumption|decide)) ?_)
 refine ea ?_;refine cd I (Fy s _) ?_;intro G I;refine ea ?_;exact⟨rfl,I.below⟩
def um(s)(w):Zc 259 #[wt s] w (wt (sN (bN s))):=by
 have I:=Hp.start w;refine Ga func259 ?_;refine ea ?_;refine cd I (Lz s _) ?_;intro y I;refine ea ?_;exact⟨rfl,I.below⟩
def iv(s:Bool)(m:t7):Int:=if s then -(bN m:Int) else bN m
variable {z:Int}
def iN(z:Int):Bool:=decide (z<0)
def iM(z:Int):t7:=sN z.natAbs
def Cd(z:Int):iv (iN z) (iM z)=z:=by
 unfold iv iN iM;rw[Af];by_cases h:z<0
 .rw[w' h,Q' rfl];omega
 rw[m' h,R' (by simp)];omega
def tx:iM z=ByteArray.mk #[]↔z=0:=by
 rw[iM,<-pk];constructor
 .intro h;have:=MK h;omega
 intro h;rw[h];rfl
def yj(s:Bool)(m):(iv s m).natAbs=bN m:=by
 unfold iv;split<;>omega
def AL(s:Bool)(m):iM (iv s m)=sN (bN m):=by rw[iM,yj]
def aax(s:Bool)(m):iN (iv s m)=(s && decide (bN m≠0)):=by
 unfold iN iv;rw[Bool.eq_iff_iff,Z_,Y_,Y_]
 cases s
 .simp only[D7,if_false,false_and,iff_false];omega
 simp only[if_true,true_and];omega
def Uk(s:Bool)(m)(w):Zc 200 #[.agg #[ww s,wt m]] w (.agg #[wt m,ww s]):=by
 have I:=Hp.start w;refine Ga func200 ?_;refine Ii ?_;intro G Z I T q I ws I;exact LX
def Vd(s:Bool)(m)(w):Zc 201 #[.agg #[wt m,ww s]] w (.agg #[ww (iN (iv s m)),wt (iM (iv s m))]):=by
 have I:=Hp.start w;rw[aax,AL]
 cases s with
 |false=>
  refine Ga (l:=[.agg #[wt m,ww false]]) func201 ?_;refine Ib ?_;intro G Z I T q I;refine cd I (um m _) ?_;intro A I;refine Su ?_;intro ws I;exact⟨rfl,I.below⟩
 |true=>
  by_cases J:sN (bN m)=ByteArray.mk #[]
  .refine Ga (l:=[.agg #[wt m,ww true]]) func201 ?_;refine Ib ?_;intro G Z I T q I;refine cd I (um m _) ?_;intro A I;refine ea ?_
   (first|refine sv (Bi rfl rfl (by first|rfl|assumption|decide)) ?_|refine sv (xi rfl rfl (by first|assumption|decide)) ?_)
   refine Su ?_;intro ws I;exact O2
  refine Ga (l:=[.agg #[wt m,ww true]]) func201 ?_;refine Ib ?_;intro G Z I T q I;refine cd I (um m _) ?_;intro A I;refine ea ?_
  (first|refine sv (Bi rfl rfl (by first|rfl|assumption|decide)) ?_|refine sv (xi rfl rfl (by first|assumption|decide)) ?_)
  refine Su ?_;intro ws I;exact J1
def ahQ(s:Bool)(m:t7):Value:=.agg #[wt m,ww s]
def Py(a b:t7)(w)(M:a.size<=1000000000)(F:b.size<=1000000000):Zc 257 #[wt a,wt b] w (wd (Gi (bN a) (bN b))):=by
 have I:=Hp.start w;refine Ga func257 ?_;refine ea ?_;refine cd I (jF a b _ M F) ?_;intro e I;refine ea ?_;exact⟨rfl,I.below⟩
def Di(s:Bool)(m)(w):Zc 152 #[.agg #[ww s,wt m]] w (.agg #[ww (iN (iv s m)),wt (iM (iv s m))]):=by
 have I:=Hp.start w;refine Ga func152 ?_;refine Ib ?_;intro G Z I T q I;refine cd I (Uk s m _) ?_;intro y I;refine cd I (Vd s m _) ?_;intro v I;refine Su ?_;intro ws I;exact⟨rfl,I.below⟩
def vj(s:Bool)(m)(w):Zc 130 #[.agg #[ww s,wt m]] w (.agg #[ww (iN (-(iv s m))),wt (iM (-(iv s m)))]):=by
 have I:=Hp.start w;have N:iv (!s) m= -(iv s m):=by unfold iv;cases s<;>simp
 refine Ga func130 ?_;refine Ib ?_;intro G Z I T q I;refine cd I (Vd (!s) m _) ?_;intro z I;exact mX
def zi(s:Bool)(m:t7)(w:World):Zc 87 #[.agg #[ww s,wt m]] w (wd (iv s m).sign):=by
 have I:=Hp.start w;by_cases h1:iv s m<0
 .have B:iN (iv s m)=true:=w' h1;refine Ga func87 ?_;refine Gb ?_;intro G Z I;refine cd I (Di s m _) ?_;intro v I;rw[B];refine Ib ?_;intro j p I ws I;exact⟨by rw[g9 h1],I.below⟩
 have B:iN (iv s m)=false:=m' h1;by_cases J:iM (iv s m)=ByteArray.mk #[]
 .refine Ga func87 ?_;refine Gb ?_;intro G Z I;refine cd I (Di s m _) ?_;intro v I;rw[B];refine Ib ?_;intro j p I ws I;refine sv (yi rfl rfl (by first|rfl|assumption|decide)) ?_;refine ea ?_;exact⟨by rw[tx.1 J];rfl,I.below⟩
 have h2:0<iv s m:=(by have:iv s m≠0:=λh=>J (tx.2 h);omega);refine Ga func87 ?_;refine Gb ?_;intro G Z I;refine cd I (Di s m _) ?_;intro v I;rw[B];refine Ib ?_;intro j p I ws I;refine sv (ti rfl rfl (by first|assumption|decide)) ?_;refine ea ?_;exact⟨by rw[X8 h2],I.below⟩
def yc(z:Int):(iM z).size=(Wa z.natAbs+7)/8:=Ki _
def KC(s t:Bool)(a b:t7):Bool:=if s=t then s else if bN a<bN b then t else s
def mW(s t:Bool)(a b):iv (KC s t a b) (iM (iv s a+iv t b))=iv s a+iv t b:=by
 unfold iM iv;rw[Af];unfold KC
 cases s<;>cases t<;>simp<;>(try split)<;>(try simp)<;>omega
def Sx(s t:Bool)(a b):iv (s !=t) (iM (iv s a*iv t b))=iv s a*iv t b:=by
 rw[iM,H8,yj,yj];unfold iv;rw[Af]
 cases s<;>cases t<;>simp[j8,Int.neg_mul]
def FH(s t:Bool)(a b:t7)(w:World)(M:a.size<=1000000000)(F:b.size<=1000000000):Zc 199 #[.agg #[wt a,ww s],.agg #[wt b,ww t]] w (.agg #[wt (iM (iv s a+iv t b)),ww (KC s t a b)]):=by
 have I:=Hp.start w;have H:∀(u:Bool)(n:Nat)(z:Int),(z=if u then -(n:Int) else n)->sN n=iM z:=by
  intro u n z v;have h1:z.natAbs=n:=by rw[v];split<;>omega
  rw[iM,h1]
 by_cases e:s=t
 .subst e;have N:=H s (bN a+bN b) (iv s a+iv s b) (by unfold iv;split<;>omega);refine Ga (l:=[.agg #[wt a,ww s],.agg #[wt b,ww s]]) func199 ?_;refine Ii ?_;intro h q I j p I k y I;refine sv (yM Qa.out rfl rfl (by first|rfl|assumption)) ?_;refine ea ?_;refine qh 8 I ?_;refine ub ?_;refine Nw [_,_] ?_;refine ua (i:=5) (Is (wt (sN (bN a+bN b)))) Is.ext ?_ ?_
  .intro U Z hj hR;obtain⟨o,C,g,c⟩:=hR.1;exact rb rfl (Ha fi (na g Oa)) (nF o 2 C [a,b] _ c Z' (by simp;omega)) (λ_ _ R=>⟨_,R.1,R.2,rfl⟩)
  refine ub ?_;refine xa ?_;intro f W Q r;obtain⟨E,Y,X,d,B,K,A,x,_⟩:=r;obtain⟨o,C,m,f16⟩:Rows _ _ _ (f 4) W:=d;replace I:=Q.hp;refine Be ?_;clear m Q;refine Gb ?_;intro ws I;refine pI ?_;rw[N,KC,Q' rfl];exact⟨rfl,I.below⟩
 by_cases D:bN a<bN b
 .have N:=H t (bN b-bN a) (iv s a+iv t b) (by unfold iv;cases s<;>cases t<;>simp at e |- <;>omega);refine Ga func199 ?_;refine Ii ?_;intro h q I j p I k y I;refine dN ?_;refine ea ?_;refine cd I (Py a b _ M F) ?_;intro G I;rw[Xl D];refine Ib ?_;intro ws I ws I;refine cd I (Pt b a _ F M) ?_;intro T I;refine Gb ?_;intro ws I;refine pI ?_;rw[N,KC,R' e,Q' D];exact⟨rfl,I.below⟩
 have N:=H s (bN a-bN b) (iv s a+iv t b) (by unfold iv;cases s<;>cases t<;>simp at e |- <;>omega);have J:¬Gi (bN a) (bN b)<0:=by unfold Gi;split<;>(try split)<;>omega
 refine Ga func199 ?_;refine Ii ?_;intro h q I j p I k y I;refine dN ?_;refine ea ?_;refine cd I (Py a b _ M F) ?_;intro G I;refine ea ?_;refine cd I (Pt a b _ M F) ?_;intro T I;refine Gb ?_;intro ws I;refine pI ?_;rw[N,KC,R' e,R' D];exact⟨rfl,I.below⟩
def xt(s t:Bool)(a b:t7)(w)(M:a.size<=1000000000)(F:b.size<=1000000000):Zc 202 #[.agg #[wt a,ww s],.agg #[wt b,ww t]] w (.agg #[wt (iM (iv s a*iv t b)),ww (s !=t)]):=by
 have I:=Hp.start w;have S:(iv s a*iv t b).natAbs=bN a*bN b:=by rw[H8,yj,yj]
 have N:iM (iv s a*iv t b)=sN (bN a*bN b):=by rw[iM,S]
 refine Ga func202 ?_;refine Ii ?_;intro T q I j p I D y I;refine Od 10 I ?_;refine dC (λ_ hj=>OD a b _ M F) ?_;refine ub ?_;refine Ba (i:=9) (λU Z hj hR=>ki Qa.out (show U 11=Value.bool _ from hR.1) (show U 13=Value.bool _ from hR.2.1)) ?_;refine dn ?_;intro W I;refine Su ?_;intro ws I;rw[N];exact⟨rfl,I.below⟩
def Qm(n:Int)(w)(h1: -9223372036854775808<=n)(h2:n<=9223372036854775807):Zc 127 #[wd n] w (.agg #[ww (iN n),wt (iM n)]):=by
 have I:=Hp.start w;by_cases J:n<0
 .have N:iv true (sN n.natAbs)=n:=by unfold iv;rw[Af,Q' rfl];omega
  have hw:IntKind.u64.wrap n=((18446744073709551616-n.natAbs:Nat):Int):=(by rw[show n=((18446744073709551616-n.natAbs:Nat):Int)+ -((18446744073709551616:Nat):Int) by omega];have:=UK.wrap_add (k:=.u64) (((18446744073709551616-n.natAbs:Nat):Int)+ -((18446744073709551616:Nat):Int));rw[<-this,Int.neg_add_cancel_right,UK.jt Z'];omega);have B:(18446744073709551616-(18446744073709551616-n.natAbs)) % 18446744073709551616=n.natAbs:=Z';refine Ga func127 ?_;refine Gb ?_;intro T q I;rw[hw];refine sv (UQ rfl Z') ?_;rw[B];skip;refine Gd I (iw n.natAbs _ Z') rfl ?_;intro o I;refine ea ?_;refine cd I (Vd true (sN n.natAbs) _) ?_;intro G I;exact mX
 obtain⟨m,rfl⟩:=B6 (by omega:0<=n);have N:iv false (sN m)=m:=by unfold iv;rw[Af];simp
 have hm:m<18446744073709551616:=Z';refine Ga (l:=[wd (m:Int)]) func127 ?_;refine u3 ?_;intro T q I;refine cd I (iw m _ hm) ?_;intro e I;refine ea ?_;refine cd I (Vd false (sN m) _) ?_;intro f I;exact mX
structure IR where
 neg:Bool
 Ra:t7
def IR.cells(a:IR):List Value:=[ww a.neg,wt a.Ra]
def IR.v(a:IR):Int:=iv a.neg a.Ra
def iR(z:Int):IR:=⟨iN z,iM z⟩
def ab9(z:Int):(iR z).v=z:=Cd z
def IR.len(a:IR):a.cells.length=2:=rfl
def zk(x y:Int):Wa (x+y).natAbs<=max (Wa x.natAbs) (Wa y.natAbs)+1:=by
 apply Uc;have h1:=wc x.natAbs;have h2:=wc y.natAbs;have G:2^Wa x.natAbs<=2^max (Wa x.natAbs) (Wa y.natAbs):=K_ Z' (Nat.le_max_left _ _);have z:2^Wa y.natAbs<=2^max (Wa x.natAbs) (Wa y.natAbs):=K_ Z' (Nat.le_max_right _ _);rw[B_];omega
def mf(s:Bool)(m):Wa (iv s m).natAbs<=8*m.size:=by rw[yj];exact Xf m
def LO(l:t4)(x:Int):(l++[x]).sum=l.sum+x:=by simp
def Js(L:t6)(n c:Nat)(l:List IR)(w:World)(J:Sl w L n 2 (la IR.cells l))(B:n<=1000000)(K:∀s∈l,s.Ra.size<=100000000):Zc 124 #[wn L n c] w (.agg #[ww (iN (l.map IR.v).sum),wt (iM (l.map IR.v).sum)]):=by
 have Q:=J.Aa IR.len Z';have I:=Hp.start w;refine Ga func124 ?_;refine Ib ?_;intro T q I b r I;refine rf 8 (λj V=>∃(i:Nat)(u:Bool)(S:Int),i<=n/\j=wd i/\S=((l.take i).map IR.v).sum/\iv u (iM S)=S/\Wa S.natAbs<=800000000+i/\Hp w [.blk b 218 [wt (iM S),ww u] (0,0),.blk T 28 [ww false,wt (ByteArray.mk #[])] (0,0)] V) (λj _=>n-(intOf j).toNat) ?_ ?_
 .exact⟨0,false,0,N' _,rfl,rfl,by rw[iM];exact C_ _ (Af 0),by simp[Jm],by rw[iM,Int.natAbs_zero,pk];exact I⟩
 clear I;rintro ρ' j V ⟨i,u,S,hi,rfl,z,hu,F,I⟩;by_cases D:i<n
 .obtain⟨x,C⟩:=aa (l:=l) (k:=i) Z';obtain⟨p,rfl,H⟩:=J.at_ Z';have f:=K x (O' C);have o:((l.take (i+1)).map IR.v).sum=S+x.v:=by rw[ja C,q_,I7,LO,z]
  have h:(iM S).size<=1000000000:=by rw[yc];omega
  have e:=mf x.neg x.Ra;have E:=zk S x.v;have a:=mW u x.neg (iM S) x.Ra;rw[hu] at a;have d:=λZ=>FH u x.neg (iM S) x.Ra Z h Z';rw[hu] at d;refine ea ?_;refine sv (Ua (vs:=[_,_]) pa.out rfl (((H.ext I.below).recAt IR.len C)) rfl) ?_;refine Ib ?_;intro R t I ws I;refine qh 3 I ?_;refine ub ?_;refine dC (λ_ hj=>Uk x.neg x.Ra _) ?_;refine dn ?_;intro W I;refine cd I (d _) ?_;intro g I;refine Gb ?_;intro ws I;replace I:=I.sub (d_ _ _);refine⟨⟨i+1,_,_,Z',rfl,o.symm,a,by unfold IR.v at E |-;omega,I⟩,by show n-(i+1)<n-i;omega, ?_⟩;exact Sb
 refine ea ?_;refine cd I (Vd u (iM S) _) ?_;intro m I;exact R1
def Wj(s:Bool)(b):(iM (-(iv s b))).size<=b.size:=by
 have:=mf s b;rw[yc,Int.natAbs_neg];omega
def Ls(s t:Bool)(a b:t7)(w)(M:a.size<=100000000)(F:b.size<=100000000):Zc 150 #[.agg #[ww s,wt a],.agg #[ww t,wt b]] w (.agg #[ww (iN (iv s a-iv t b)),wt (iM (iv s a-iv t b))]):=by
 have I:=Hp.start w;have h1:=Wj t b;have N:([IR.mk s a,iR (-(iv t b))].map IR.v).sum=iv s a-iv t b:=(by simp only[T_,f_,l7,List.sum_nil,ab9];simp only[IR.v];omega);refine Ga func150 ?_;refine Ii ?_;intro T q I j p I D y I;refine Od 3 I ?_;refine dC (λ_ hj=>vj t b _) ?_;refine dn ?_;intro W I;refine ym ?_;intro c o I;refine Gd I (Js _ 2 _ [IR.mk s a,iR (-(iv t b))] _ (I.ka (i:=0) rfl) Z' (by simp[iR];omega)) rfl ?_;intro z I;rw[N];refine abB ?_;intro ws I;exact⟨rfl,I.below⟩
def rK(s t:Bool)(a b:t7)(w)(M:a.size<=100000000)(F:b.size<=100000000):Zc 82 #[.agg #[ww s,wt a],.agg #[ww t,wt b]] w (wd (iv s a-iv t b).sign):=by
 have I:=Hp.start w;refine Ga func82 ?_;refine Ib ?_;intro T q I j p I;refine cd I (Ls s t a b _ M F) ?_;intro e I;refine cd I (zi _ _ _) ?_;intro o I;rw[Cd];refine ea ?_;exact⟨rfl,I.below⟩
def oG(a b:Nat):Wa (a*b)<=Wa a+Wa b:=by
 apply Uc;rw[Q_];exact L6 (wc a) (wc b)
def wk(a b:Int):Wa (a*b).natAbs<=Wa a.natAbs+Wa b.natAbs:=by rw[H8];exact oG _ _
def Sp:t4->Int
 |[]=>1
 |x::l=>x*Sp l
def AJ(l:t4)(x:Int):Sp (l++[x])=Sp l*x:=by
 induction l with
 |nil=>simp[Sp]
 |cons y l W=>simp only[I',Sp,W,Int.mul_assoc]
def dI(l:t3)(i:Nat):(l.take i).sum<=l.sum:=by
 rw[<-List.sum_append_nat.symm.trans (C_ List.sum (Y9 i l))];omega
def Ws:Wa 1=1:=by decide+kernel
def yJ(L:t6)(n c:Nat)(l:List IR)(w:World)(J:Sl w L n 2 (la IR.cells l))(B:n<=1000000)(K:(l.map λa=>a.Ra.size).sum<=100000000):Zc 125 #[wn L n c] w (.agg #[ww (iN (Sp (l.map IR.v))),wt (iM (Sp (l.map IR.v)))]):=by
 have Q:=J.Aa IR.len Z';have I:=Hp.start w;have g:=dI (l.map λa=>a.Ra.size);refine Ga func125 ?_;refine Gb ?_;intro T t I;refine Gd I (Qm 1 _ Z' Z') rfl ?_;intro G I;refine cd I (Uk _ _ _) ?_;intro N I;refine Ib ?_;intro b y I ws I;refine rf 10 (λj V=>∃(i:Nat)(u:Bool)(S:Int),i<=n/\j=wd i/\S=Sp ((l.take i).map IR.v)/\iv u (iM S)=S/\Wa S.natAbs<=1+8*((l.map λa=>a.Ra.size).take i).sum/\Hp w [.blk b 218 [wt (iM S),ww u] (0,0),.blk T 28 [ww false,wt (ByteArray.mk #[])] (0,0)] V) (λj _=>n-(intOf j).toNat) ?_ ?_
 .exact⟨0,_,1,N' _,rfl,rfl,Cd 1,by rw[Int.natAbs_one,Ws];omega,I⟩
 clear I;rintro ρ' j V ⟨i,u,S,hi,rfl,z,hu,F,I⟩;by_cases D:i<n
 .obtain⟨x,C⟩:=aa (l:=l) (k:=i) Z';obtain⟨q,rfl,H⟩:=J.at_ Z';have r:=g i;have f:=g (i+1);have M:((l.map λa=>a.Ra.size).take (i+1)).sum=((l.map λa=>a.Ra.size).take i).sum+x.Ra.size:=(by rw[ja (x:=x.Ra.size) (by rw[C',C];rfl),Ru]);have o:Sp ((l.take (i+1)).map IR.v)=S*x.v:=by rw[ja C,q_,I7,AJ,z]
  have h:(iM S).size<=1000000000:=by rw[yc];omega
  have e:=mf x.neg x.Ra;have E:=wk S x.v;have s:=Sx u x.neg (iM S) x.Ra;rw[hu] at s;have d:=λZ=>xt u x.neg (iM S) x.Ra Z h Z';rw[hu] at d;refine ea ?_;refine sv (Ua (vs:=[_,_]) pa.out rfl (((H.ext I.below).recAt IR.len C)) rfl) ?_;refine Ib ?_;intro R A I ws I;refine qh 3 I ?_;refine ub ?_;refine dC (λ_ hj=>Uk x.neg x.Ra _) ?_;refine dn ?_;intro W I;refine cd I (d _) ?_;intro m I;refine Gb ?_;intro ws I;replace I:=I.sub (d_ _ _);refine⟨⟨i+1,_,_,Z',rfl,o.symm,s,by unfold IR.v at E |-;omega,I⟩,by show n-(i+1)<n-i;omega, ?_⟩;exact Sb
 refine ea ?_;refine cd I (Vd u (iM S) _) ?_;intro p I;exact R1
def EH(M k:Nat)(h:2^k∣M): -((M/2^k:Nat):Int)= -(M:Int)/2^k:=by
 obtain⟨q,rfl⟩:=h;have hp:(0:Int)<2^k:=o8 Z';rw[Nat.mul_div_cancel_left _ (L_ Z'),m_,<-j8,y6];exact(Int.mul_ediv_cancel_left _ (by exact Int.ne_of_gt hp)).symm
def tF(M k:Nat)(h:¬2^k∣M): -((M/2^k:Nat):Int)-1= -(M:Int)/2^k:=by
 have hp:(0:Int)<2^k:=o8 Z';have h1:=L9 M (2^k);have h2:=R_ M (L_ (n:=k) (show 0<2 by omega));have G:M % 2^k≠0:=λJ=>h (Nat.dvd_of_mod_eq_zero J);have E:((2^k:Nat):Int)=2^k:=by simp
 symm
 rw[Int.ediv_eq_iff_of_pos hp,<-E];have z:(M:Int)=(2^k:Nat)*(M/2^k:Nat)+(M % 2^k:Nat):=by rw[<-m_,<-G9,h1]
 generalize y:((2^k:Nat):Int)=K at*;generalize ((M/2^k:Nat):Int)=q at*;have e:(-q-1)*K= -(K*q)-K:=by rw[Int.sub_mul,Int.neg_mul,X6 q];omega
 have L:(-q-1+1)*K= -(K*q):=by rw[Int.sub_add_cancel,Int.neg_mul,X6]
 omega
def sV{M:Nat}(J:M≠0):2^k∣M↔k<=tz M:=by
 obtain⟨m,hm⟩:=jx J;generalize tz M=t at*;constructor
 .intro h;obtain D|N:=z_ t k
  .exfalso;obtain⟨q,R⟩:=h;rw[hm,show k=t+(1+(k-t-1)) by omega,Q_,Q_,V9] at R;have:=Nat.eq_of_mul_eq_mul_left (L_ Z') R;rw[Nat.pow_one,V9] at this;omega
  exact N
 intro h;rw[hm];exact Nat.dvd_trans (Nat.pow_dvd_pow 2 h) (Nat.dvd_mul_right _ _)
def wu(a:Int)(n:Nat):Wa (a^n).natAbs<=1+n*Wa a.natAbs:=by
 induction n with
 |zero=>simp[Ws]
 |succ n W=>
  rw[Int.pow_succ];have:=wk (a^n) a;rw[U9];omega
def gL(s:Bool)(a:t7)(n:Int)(w)(J:n.toNat*a.size<=100000000)(B:n<=1000000000)(M:a.size<=100000000):Zc 308 #[.agg #[ww s,wt a],wd n] w (.agg #[ww (iN (iv s a^n.toNat)),wt (iM (iv s a^n.toNat))]):=by
 have I:=Hp.start w;have N:(if(0:Int)>n then 0 else n)=(n.toNat:Int):=by split<;>omega
 have hm:n.toNat<=1000000000:=Z';generalize n.toNat=m at*;refine Ga func308 ?_;refine Ib ?_;intro T q I D y I;refine Gd I (Qm 1 _ Z' Z') rfl ?_;intro A I;refine cd I (Uk _ _ _) ?_;intro k I;refine Ib ?_;intro R v I ws I;rw[N];refine rf 10 (λj V=>∃(i:Nat)(u:Bool)(S:Int),i<=m/\j=wd i/\S=iv s a^i/\iv u (iM S)=S/\Hp w [.blk R 218 [wt (iM S),ww u] (0,0),.blk D 28 [ww false,wt (ByteArray.mk #[])] (0,0),.blk T 28 [ww s,wt a] (0,0)] V) (λj _=>m-(intOf j).toNat) ?_ ?_
 .exact⟨0,_,1,N' _,rfl,by rw[Int.pow_zero],Cd 1,I⟩
 clear I;rintro ρ' j V ⟨i,u,S,hi,rfl,z,hu,I⟩;by_cases e:i<m
 .have F:=wu (iv s a) i;rw[<-z] at F;have c:=mf s a;have hle:i*Wa (iv s a).natAbs<=m*(8*a.size):=O9 hi c;rw[L7] at hle;have h:(iM S).size<=1000000000:=by rw[yc];omega
  have b:=Sx u s (iM S) a;rw[hu] at b;have d:=λZ=>xt u s (iM S) a Z h Z';rw[hu] at d;refine ea ?_;refine Od 3 I ?_;refine dC (λ_ hj=>Uk s a _) ?_;refine dn ?_;intro W I;refine cd I (d _) ?_;intro f I;refine Gb ?_;intro ws I;refine⟨⟨i+1,_,_,Z',rfl,by rw[Int.pow_succ,z],b,I⟩,by show m-(i+1)<m-i;omega, ?_⟩;exact Sb
 obtain rfl:i=m:=Z';refine ea ?_;refine cd I (Vd u (iM S) _) ?_;intro g I;rw[hu,z];refine abB ?_;intro ws I;exact⟨rfl,I.below⟩
def acf(s:Bool)(a)(m:Nat):iv s (sN (bN a*2^m))=iv s a*2^m:=by
 unfold iv;rw[Af]
 cases s<;>simp[m_,Int.neg_mul]
def EK(s:Bool)(a:t7)(m:Nat)(w)(M:a.size<=100000000)(hm:m<=1000000000):Zc 198 #[.agg #[ww s,wt a],wd (m:Int)] w (.agg #[ww (iN (iv s a*2^m)),wt (iM (iv s a*2^m))]):=by
 have I:=Hp.start w;refine Ga func198 ?_;refine Ib ?_;intro T q I D y I;refine Od 6 I ?_;refine dC (λ_ hj=>PE a m _ Z' Z') ?_;refine ub ?_;refine dn ?_;intro W I;refine ea ?_;refine cd I (Vd s (sN (bN a*2^m)) _) ?_;intro f I;rw[acf];refine Su ?_;intro ws I;exact⟨rfl,I.below⟩
def RK(s:Bool)(a:t7)(m:Nat)(w:World)(S:Nd w)(ha:a.size<=100000000)(h0:0<m)(hm:m<=1000000000000):Zc 198 #[.agg #[ww s,wt a],wd (-(m:Int))] w (.agg #[ww (iN (iv s a/2^m)),wt (iM (iv s a/2^m))]):=by
 have I:=Hp.start w;have N:(if(-1099511627776:Int)> -(m:Int) then -1099511627776 else -(m:Int))= -(m:Int):=R' Z';have C: -(-(m:Int))=(m:Int):=Z';have L:∀Z,Zc 254 #[wt a,wd (-(-(m:Int)))] Z (wt (sN (bN a/2^m))):=λZ=>(by rw[C];exact yD a m Z Z' Z')
 cases s with
 |false=>
  have X:iv false (sN (bN a/2^m))=iv false a/2^m:=(by unfold iv;rw[Af];simp);refine Ga (l:=[.agg #[ww false,wt a],wd (-(m:Int))]) func198 ?_;refine Ib ?_;intro c q I D A I;rw[N];refine qh 10 I ?_;refine ub ?_;refine ZL ?_;refine dC (λ_ hj=>L _) ?_;refine ub ?_;refine dC (λ_ hj=>Vd false (sN (bN a/2^m)) _) ?_;refine HN ?_;refine xa ?_;intro f W Q d;have t:=Q.bl;obtain⟨u,z,K,M,E,G,j,v20,p,Y,_⟩:=d;obtain⟨R,H,r,B⟩:Sa _ _ _ (f 9) W:=u;replace I:=Q.newVar I r B;refine Be ?_;clear H Q;rw[X];refine Ib ?_;intro ws I ws I;exact jU
 |true=>
  have F:=Xf a;have e:iv true (sN (bN a/2^m))= -((bN a/2^m:Nat):Int):=(by unfold iv;rw[Af,Q' rfl]);have H:iv true a= -(bN a:Int):=by unfold iv;rw[Q' rfl]
  by_cases o:bN a=0
  .have X:iv true (sN (bN a/2^m))=iv true a/2^m:=(by rw[e,H,o];simp);refine WT ?_;refine Ib ?_;intro c q I D A I;rw[N];refine qh 10 I ?_;refine ub ?_;refine ZL ?_;refine dC (λ_ hj=>L _) ?_;refine ub ?_;refine dC (λ_ hj=>Vd true (sN (bN a/2^m)) _) ?_;refine HN ?_;refine xa ?_;intro f W Q d;have t:=Q.bl;obtain⟨u,z,K,M,E,G,j,v20,p,Y,_⟩:=d;obtain⟨R,H,r,B⟩:Sa _ _ _ (f 9) W:=u;replace I:=Q.newVar I r B;refine Be ?_;clear H Q;rw[X];refine Gb ?_;intro ws I;refine Gd I (Un a _ Z') rfl ?_;intro b I;rw[o,Jm];refine Gb ?_;intro ws I;exact jU
  have J:=Gp o;by_cases T:2^m∣bN a
  .have X:iv true (sN (bN a/2^m))=iv true a/2^m:=(by rw[e,H];exact EH _ _ T);have x:=(sV o).1 T;refine WT ?_;refine Ib ?_;intro c q I D A I;rw[N];refine qh 10 I ?_;refine ub ?_;refine ZL ?_;refine dC (λ_ hj=>L _) ?_;refine ub ?_;refine dC (λ_ hj=>Vd true (sN (bN a/2^m)) _) ?_;refine HN ?_;refine xa ?_;intro f W Q d;have t:=Q.bl;obtain⟨u,z,K,M,E,G,j,v20,p,Y,_⟩:=d;obtain⟨R,H,r,B⟩:Sa _ _ _ (f 9) W:=u;replace I:=Q.newVar I r B;refine Be ?_;clear H Q;rw[X];refine Gb ?_;intro ws I;refine Gd I (Un a _ Z') rfl ?_;intro b I;refine ea ?_;refine Gd I (yl a _ Z' (S.hp I)) rfl ?_;intro y I;refine Gb ?_;intro ws I;exact jU
  have X:iv true (sN (bN a/2^m))-1=iv true a/2^m:=(by rw[e,H];exact tF _ _ T);have x:tz (bN a)<m:=R6 λh=>T ((sV o).2 h);have k:(iM (iv true (sN (bN a/2^m)))).size<=100000000:=(by have:=Mt (bN a) m;rw[yc,yj,Af];omega);have g:∀Z,Zc 150 #[.agg #[ww (iN (iv true (sN (bN a/2^m)))),wt (iM (iv true (sN (bN a/2^m))))],.agg #[ww (iN 1),wt (iM 1)]] Z (.agg #[ww (iN (iv true a/2^m)),wt (iM (iv true a/2^m))]):=λZ=>(by have:=Ls (iN (iv true (sN (bN a/2^m)))) (iN 1) (iM (iv true (sN (bN a/2^m)))) (iM 1) Z k (by rw[yc,Int.natAbs_one,Ws];omega);rw[Cd,Cd,X] at this;exact this);refine WT ?_;refine Ib ?_;intro c q I D A I;rw[N];refine qh 10 I ?_;refine ub ?_;refine ZL ?_;refine dC (λ_ hj=>L _) ?_;refine ub ?_;refine dC (λ_ hj=>Vd true (sN (bN a/2^m)) _) ?_;refine HN ?_;refine xa ?_;intro f W Q d;obtain⟨u,z,K,M,E,G,j,v20,p,Y,_⟩:=d;obtain⟨R,H,r,B⟩:Sa _ _ _ (f 9) W:=u;replace I:=Q.newVar I r B;refine Be ?_;clear H Q;refine Gb ?_;intro ws I;refine Gd I (Un a _ Z') rfl ?_;intro b I;refine ea ?_;refine Gd I (yl a _ Z' (S.hp I)) rfl ?_;intro y I;refine ea ?_;refine qh 2 I ?_;refine ub ?_;refine dC (λ_ hj=>Qm 1 _ Z' Z') ?_;refine dn ?_;intro W I;refine cd I (g _) ?_;intro P I;refine Gb ?_;intro ws I;exact jU
def aci:(2:Rat)≠0:=by decide
def two_pos(k:Int):(0:Rat)<2^k:=Rat.zpow_pos V'
def Nl(i p:Int):(Dyadic.ofIntWithPrec i p).toRat=i*2^(-p):=Dyadic.toRat_ofIntWithPrec_eq_mul_two_pow
def Zp(i p:Int)(n:Nat):Dyadic.ofIntWithPrec (i*2^n) (p+n)=Dyadic.ofIntWithPrec i p:=by
 rw[<-Int.shiftLeft_eq];exact Dyadic.ofIntWithPrec_shiftLeft_add
def dh(i:Int){p q:Int}(h:q=p+n):Dyadic.ofIntWithPrec i p=Dyadic.ofIntWithPrec (i*2^n) q:=by
 subst h;exact(Zp i p n).symm
def qu(i j p:Int):Dyadic.ofIntWithPrec i p+Dyadic.ofIntWithPrec j p=Dyadic.ofIntWithPrec (i+j) p:=by
 rw[<-Dyadic.toRat_inj,Dyadic.toRat_add,Nl,Nl,Nl,Rat.intCast_add,Rat.add_mul]
def mn(i p:Int): -Dyadic.ofIntWithPrec i p=Dyadic.ofIntWithPrec (-i) p:=Dyadic.neg_ofIntWithPrec
def uk(i j p q:Int):Dyadic.ofIntWithPrec i p*Dyadic.ofIntWithPrec j q=Dyadic.ofIntWithPrec (i*j) (p+q):=by
 rw[<-Dyadic.toRat_inj,Dyadic.toRat_mul,Nl,Nl,Nl,Rat.intCast_mul,Int.neg_add,Rat.zpow_add aci];grind
def Yk(i j p:Int):Dyadic.ofIntWithPrec i p<Dyadic.ofIntWithPrec j p↔i<j:=by
 rw[<-Dyadic.toRat_lt_toRat_iff,Nl,Nl];rw[<-Rat.intCast_lt_intCast];constructor
 .intro h;exact Rat.lt_of_mul_lt_mul_right h (Rat.le_of_lt (two_pos _))
 intro h;exact Rat.mul_lt_mul_of_pos_right h (two_pos _)
def jf(p:Int):Dyadic.ofIntWithPrec 0 p=0:=rfl
def aO{i j p:Int}(h:Dyadic.ofIntWithPrec i p=Dyadic.ofIntWithPrec j p):i=j:=by
 obtain h1|h1|h1:=N6 i j
 .rw[<-Yk i j p,h] at h1;exact absurd h1 (by rw[Yk];omega)
 .exact h1
 rw[<-Yk j i p,h] at h1;exact absurd h1 (by rw[Yk];omega)
def pw{i p:Int}(h:Dyadic.ofIntWithPrec i p=0):i=0:=aO (p:=p) (by rw[h];rfl)
def IM(n k:Int)(h:n % 2=1):Dyadic.ofOdd n k h=Dyadic.ofIntWithPrec n k:=Dyadic.ofOdd_eq_ofIntWithPrec
def QE{i p:Int}(h:i≠0):Dyadic.ofIntWithPrec i p=.ofOdd (i>>>i.trailingZeros) (p-i.trailingZeros) (Int.shiftRight_trailingZeros_mod_two h):=by
 rw[Dyadic.ofIntWithPrec,dif_neg h]
structure NR where
 neg:Bool
 Ra:t7
 e:Int
abbrev NR.V(a:NR):Value:=.agg #[ww a.neg,wt a.Ra,wd a.e]
def NR.cells(a:NR):List Value:=[ww a.neg,wt a.Ra,wd a.e]
def NR.len(a:NR):a.cells.length=3:=rfl
def NR.one(a:NR):a.cells.all Value.oneCell'=true:=rfl
def NR.i(a:NR):Int:=iv a.neg a.Ra
def NR.fa(a:NR):Dyadic:=Dyadic.ofIntWithPrec a.i (-a.e)
def nR:Dyadic->NR
 |.zero=>⟨false,ByteArray.mk #[],0⟩
 |.ofOdd n k _=>⟨iN n,iM n, -k⟩
def Pn:nR 0=⟨false,ByteArray.mk #[],0⟩:=rfl
def Ta(x):(nR x).fa=x:=by
 cases x with
 |zero=>rfl
 |ofOdd n k h=>
  simp only[nR,NR.fa,NR.i,Cd,O7];exact(IM n k h).symm
def ab2{x y:Dyadic}:nR x=nR y↔x=y:=⟨λh=>by rw[<-Ta x,h,Ta],λh=>by rw[h]⟩
def ac9(s:Bool)(a):(iv s a).trailingZeros=tz (bN a):=by
 unfold iv;split
 .rw[Int.trailingZeros_neg];rfl
 rfl
def dO(s:Bool)(a:t7):iv s a=0↔bN a=0:=by
 have:=yj s a;omega
def dv{s:Bool}{a:t7}{e:Int}(h:iv s a≠0):nR (Dyadic.ofIntWithPrec (iv s a) (-e))=⟨iN (iv s a/2^tz (bN a)),iM (iv s a/2^tz (bN a)),e+tz (bN a)⟩:=by
 rw[QE h,nR,Int.shiftRight_eq_div_pow,ac9];have N: -(-e-(tz (bN a):Int))=e+tz (bN a):=Z';rw[N,y6];rfl
def Sz(k:Nat)(x:Dyadic):Prop:=∃i:Int,x=Dyadic.ofIntWithPrec i k/\i.natAbs<2^(2*k)
def Sz.zero(k:Nat):Sz k 0:=⟨0,rfl,by simpa using L_ Z'⟩
def Sz.mono{l:Nat}{x:Dyadic}(h:Sz k x)(Q:k<=l):Sz l x:=by
 obtain⟨i,rfl,hi⟩:=h;refine⟨i*2^(l-k),dh i Z', ?_⟩;rw[H8,S7];have h1:i.natAbs*2^(l-k)<2^(2*k)*2^(l-k):=m8 hi (L_ Z');rw[<-Q_] at h1;exact c_ h1 (K_ Z' Z')
def Sz.neg{x:Dyadic}(h:Sz k x):Sz k (-x):=by
 obtain⟨i,rfl,hi⟩:=h;exact⟨-i,mn _ _,by rw[Int.natAbs_neg];exact hi⟩
def Sz.add{x y:Dyadic}(C:Sz k x)(hy:Sz k y):Sz (k+1) (x+y):=by
 obtain⟨i,rfl,hi⟩:=C;obtain⟨j,rfl,hj⟩:=hy;rw[qu];refine⟨(i+j)*2^1,dh _ Z', ?_⟩;have h1:2^(2*(k+1))=4*2^(2*k):=by rw[show 2*(k+1)=2*k+2 by omega,Q_];omega
 rw[h1];omega
def Sz.sub{x y:Dyadic}(C:Sz k x)(hy:Sz k y):Sz (k+1) (x-y):=C.add hy.neg
def Sz.mul{l:Nat}{x y:Dyadic}(C:Sz k x)(hy:Sz l y):Sz (k+l) (x*y):=by
 obtain⟨i,rfl,hi⟩:=C;obtain⟨j,rfl,hj⟩:=hy;rw[uk];refine⟨i*j,by rw[G9], ?_⟩;rw[H8,j_,Q_];exact L6 hi hj
def Hm{i:Int}(h:i≠0):2^i.trailingZeros<=i.natAbs:=by
 have h1:=Int.two_pow_trailingZeros_dvd h;have h2:=Int.natAbs_dvd_natAbs.2 h1;rw[S7] at h2;exact Nat.le_of_dvd Z' h2
def Sz.nr{x:Dyadic}(h:Sz k x):(nR x).Ra.size<=(2*k+7)/8/\ -(k:Int)<=(nR x).e/\(nR x).e<=k:=by
 obtain⟨i,rfl,hi⟩:=h;by_cases J:i=0
 .subst J;rw[jf,Pn];exact⟨N' _,(by omega: -(k:Int)<=0),(by omega:(0:Int)<=k)⟩
 have h2:=Hm J;rw[QE J,nR];simp only;refine⟨?_,Z', ?_⟩
 .rw[yc];have:Wa (i>>>i.trailingZeros).natAbs<=2*k:=(by apply Uc;refine X9 ?_ hi;rw[Int.shiftRight_eq_div_pow];exact x7 _ _);omega
 have G:2^i.trailingZeros<2^(2*k):=X9 h2 hi;have:=(V5 Z').1 G;omega
def Sz.raw{a:NR}{E:Nat}(hm:8*a.Ra.size<=m)(h1: -(E:Int)<=a.e)(h2:a.e<=E):Sz (m+E) a.fa:=by
 refine⟨a.i*2^(a.e+m+E).toNat,dh _ Z', ?_⟩;have G:a.i.natAbs<2^m:=(by rw[NR.i,yj];refine c_ (wc _) (K_ Z' ?_);have:=Xf a.Ra;omega);rw[H8,S7];have z:=m8 G (L_ (n:=(a.e+m+E).toNat) (show 0<2 by omega));rw[<-Q_] at z;exact c_ z (K_ Z' Z')
def BF(i n:Int):Int:=if 0<=n then i*2^n.toNat else i/2^(-n).toNat
def YS(n:Int):BF 0 n=0:=by unfold BF;split<;>simp
def Qc:Dyadic->Int->Int
 |.zero,_=>0
 |.ofOdd n k _,p=>BF n (p-k)
def Hd:Dyadic->Dyadic->Int
 |.zero,.zero=>0
 |.zero,.ofOdd _ k _=>k
 |.ofOdd _ k _,.zero=>k
 |.ofOdd _ k _,.ofOdd _ l _=>max k l
def Vp(n k p:Int)(h:n % 2=1)(hp:k<=p):Dyadic.ofIntWithPrec (Qc (.ofOdd n k h) p) p=.ofOdd n k h:=by
 simp only[Qc];rw[IM,BF,Q' Z'];exact(dh n Z').symm
def lS(x y):Dyadic.ofIntWithPrec (Qc x (Hd x y)) (Hd x y)=x:=by
 cases x with
 |zero=>rfl
 |ofOdd n k h=>
  cases y with
  |zero=>exact Vp _ _ _ _ (Int.le_refl _)
  |ofOdd m l g=>exact Vp _ _ _ _ (Int.le_max_left _ _)
def kU(x y):Dyadic.ofIntWithPrec (Qc y (Hd x y)) (Hd x y)=y:=by
 cases y with
 |zero=>rfl
 |ofOdd n k h=>
  cases x with
  |zero=>exact Vp _ _ _ _ (Int.le_refl _)
  |ofOdd m l g=>exact Vp _ _ _ _ (Int.le_max_right _ _)
def BW(x y):Dyadic.ofIntWithPrec (Qc x (Hd x y)+Qc y (Hd x y)) (Hd x y)=x+y:=by
 rw[<-qu,lS,kU]
def aU(i n:Int):Wa (BF i n).natAbs<=Wa i.natAbs+n.toNat:=by
 unfold BF;split
 .rw[H8,S7];exact zh _ _
 have:Wa (i/2^(-n).toNat).natAbs<=Wa i.natAbs:=Uc (X9 (x7 _ _) (wc _));omega
def HM(x y)(E:Int)(h1: -E<=(nR x).e/\(nR x).e<=E)(h2: -E<=(nR y).e/\(nR y).e<=E): -E<=Hd x y/\Hd x y<=E:=by
 cases x<;>cases y<;>simp only[nR,Hd] at* <;>omega
def Tx(x)(p:Int):Wa (Qc x p).natAbs<=8*(nR x).Ra.size+(p+(nR x).e).toNat:=by
 cases x with
 |zero=>simp[Qc,Jm]
 |ofOdd n k h=>
  have h1:=aU n (p-k);have h2:=Xf (iM n);rw[iM,Af] at h2;simp only[Qc,nR];rw[show p+ -k=p-k by omega];rw[<-iM] at h2;omega
variable {P:Program}{by' off:Nat}{zc:List Value}
def ZM{t:TypeId}{cs:Array Value}{v:Value}(S:sd P t=some (n,false,by',zc))(A:cs[off]?=some v)(w:World):(part t cs off).run P w=.ok v w:=by
 simp[part,tj S,A]
def pN{t:TypeId}{cs vs:Array Value}(S:sd P t=some (n,true,by',zc))(A:cs.extract off (off+n)=vs)(w:World):(part t cs off).run P w=.ok (.agg vs) w:=by
 simp[part,tj S,qe S,A]
def agq(n:Nat)(a b:Bool)(w:World):(Op.equalIn (n+1) 4 (ww a) (ww b)).run prog w=.ok (a==b) w:=by
 simp[Op.equalIn,run_underlying Tryz.underlying4]
def aeK(n:Nat)(a b)(w:World):(Op.equalIn (n+1) 9 (wt a) (wt b)).run prog w=.ok (a==b) w:=by
 simp[Op.equalIn,run_underlying Tryz.underlying9]
def aga(n:Nat)(a b:Int)(w:World):(Op.equalIn (n+1) 3 (wd a) (wd b)).run prog w=.ok (a==b) w:=by
 simp[Op.equalIn,run_underlying Tryz.underlying3]
def eq_int(n:Nat)(s s':Bool)(a a')(w:World):(Op.equalIn (n+2) 28 (.agg #[ww s,wt a]) (.agg #[ww s',wt a'])).run prog w=.ok (s==s' && a==a') w:=by
 have h1:=λ(x:Bool) (y:t7)=>ZM (P:=prog) (cs:= #[ww x,wt y]) (off:=0) (pa.out (P:=prog) (t:=4)) rfl;have h2:=λ(x:Bool) (y:t7)=>ZM (P:=prog) (cs:= #[ww x,wt y]) (off:=1) (pa.out (P:=prog) (t:=9)) rfl;rw[Op.equalIn];simp[run_underlying Tryz.underlying28,h1,h2,agq,aeK]
 cases h:s==s'<;>cases S:a==a'<;>simp_all
def vK(n:Nat)(s s':Bool)(a a')(e e':Int)(w:World):(Op.equalIn (n+3) 30 (.agg #[ww s,wt a,wd e]) (.agg #[ww s',wt a',wd e'])).run prog w=.ok ((s==s' && a==a') && e==e') w:=by
 have h1:=λ(x:Bool) (y:t7) (z:Int)=>pN (P:=prog) (cs:= #[ww x,wt y,wd z]) (vs:= #[ww x,wt y]) (off:=0) (pa.out (P:=prog) (t:=28)) rfl;have h2:=λ(x:Bool) (y:t7) (z:Int)=>ZM (P:=prog) (cs:= #[ww x,wt y,wd z]) (off:=2) (pa.out (P:=prog) (t:=3)) rfl;rw[Op.equalIn];simp[run_underlying Tryz.underlying30,h1,h2,eq_int,aga]
 cases h:s==s'<;>cases S:a==a'<;>cases h2:e==e'<;>simp_all
variable {a:t7}
def DR{a b:t7}:(a==b)=true↔a=b:=by
 have:(a==b)=(a.data==b.data):=rfl;rw[this,W8];exact⟨λh=>by cases a;cases b;simp_all,λh=>by rw[h]⟩
variable {s s':Bool}{a':t7}{e e':Int}
def Il:((s==s' && a==a') && e==e')=true↔NR.mk s a e=NR.mk s' a' e':=by
 rw[Z_,Z_,W8,DR,W8,NR.mk.injEq,and_assoc]
variable {O:Rf}{d:Option Nat}{ty u:TypeId}{pos:String}{af:Array Edge}{g:Option (Nat×Bool)}{x y:Operand}
def P2{r:Bool}(C:ev O x=.agg #[ww s,wt a,wd e])(hy:ev O y=.agg #[ww s',wt a',wd e'])(H:((s==s' && a==a') && e==e')=r):(execOp (ev O) ⟨d,.binOp .eql 30 x y u,ty,pos,af,g⟩).run prog w=.ok (.value (ww r)) w:=by
 refine N0 ?_;intro h1;simp[eqGuard,binOp,h1]
def aaL{r:Bool}(C:ev O x=.agg #[ww s,wt a,wd e])(hy:ev O y=.agg #[ww s',wt a',wd e'])(H:((s==s' && a==a') && e==e')=r):(execOp (ev O) ⟨d,.binOp .neq 30 x y u,ty,pos,af,g⟩).run prog w=.ok (.value (ww !r)) w:=by
 refine N0 ?_;intro h1;simp[eqGuard,binOp,h1]
def mE(C:ev O x=.agg #[ww s,wt a,wd e])(hy:ev O y=.agg #[ww s',wt a',wd e'])(h:NR.mk s a e=NR.mk s' a' e'):(execOp (ev O) ⟨d,.binOp .eql 30 x y u,ty,pos,af,g⟩).run prog w=.ok (.value (ww true)) w:=P2 C hy (Il.2 h)
def pX(C:ev O x=.agg #[ww s,wt a,wd e])(hy:ev O y=.agg #[ww s',wt a',wd e'])(h:¬NR.mk s a e=NR.mk s' a' e'):(execOp (ev O) ⟨d,.binOp .eql 30 x y u,ty,pos,af,g⟩).run prog w=.ok (.value (ww false)) w:=P2 C hy (by rw[Q7];exact λh1=>h (Il.1 h1))
def PM(C:ev O x=.agg #[ww s,wt a,wd e])(hy:ev O y=.agg #[ww s',wt a',wd e'])(h:NR.mk s a e=NR.mk s' a' e'):(execOp (ev O) ⟨d,.binOp .neq 30 x y u,ty,pos,af,g⟩).run prog w=.ok (.value (ww false)) w:=aaL C hy (Il.2 h)
def yN(C:ev O x=.agg #[ww s,wt a,wd e])(hy:ev O y=.agg #[ww s',wt a',wd e'])(h:¬NR.mk s a e=NR.mk s' a' e'):(execOp (ev O) ⟨d,.binOp .neq 30 x y u,ty,pos,af,g⟩).run prog w=.ok (.value (ww true)) w:=aaL C hy (r:=false) (by rw[Q7];exact λh1=>h (Il.1 h1))
variable {ro:Mode}{ops:Array Oper}{Q:Kq}{rest:List Oper}{d:Nat}
def cY(C:ev O x=.agg #[ww s,wt a,wd e])(hy:ev O y=.agg #[ww s',wt a',wd e'])(h:NR.mk s a e=NR.mk s' a' e')(L:d<N)(p:WL ro prog N ops Q rest (vd O d (ww true)) w):
  WL ro prog N ops Q (⟨some d,.binOp .eql 30 x y u,ty,pos,af,none⟩::rest) O w:=Jb rfl rfl L (mE C hy h) p
def iE(C:ev O x=.agg #[ww s,wt a,wd e])(hy:ev O y=.agg #[ww s',wt a',wd e'])(h:¬NR.mk s a e=NR.mk s' a' e')(L:d<N)(p:WL ro prog N ops Q rest (vd O d (ww false)) w):
  WL ro prog N ops Q (⟨some d,.binOp .eql 30 x y u,ty,pos,af,none⟩::rest) O w:=Jb rfl rfl L (pX C hy h) p
def dx(C:ev O x=.agg #[ww s,wt a,wd e])(hy:ev O y=.agg #[ww s',wt a',wd e'])(h:¬NR.mk s a e=NR.mk s' a' e')(L:d<N)(p:WL ro prog N ops Q rest (vd O d (ww true)) w):
  WL ro prog N ops Q (⟨some d,.binOp .neq 30 x y u,ty,pos,af,none⟩::rest) O w:=Jb rfl rfl L (yN C hy h) p
def Xt(C:ev O x=.agg #[ww s,wt a,wd e])(hy:ev O y=.agg #[ww s',wt a',wd e'])(h:NR.mk s a e=NR.mk s' a' e')(L:d<N)(p:WL ro prog N ops Q rest (vd O d (ww false)) w):
  WL ro prog N ops Q (⟨some d,.binOp .neq 30 x y u,ty,pos,af,none⟩::rest) O w:=Jb rfl rfl L (PM C hy h) p
def Dk(s:Bool)(a:t7)(n:Int)(w)(S:Nd w)(M:a.size<=100000000)(h1: -1000000000<=n)(h2:n<=1000000000):Zc 198 #[.agg #[ww s,wt a],wd n] w (.agg #[ww (iN (BF (iv s a) n)),wt (iM (BF (iv s a) n))]):=by
 unfold BF;by_cases h:0<=n
 .rw[Q' h];obtain⟨m,rfl⟩:=B6 h;rw[z9];exact EK s a m w M Z'
 rw[R' h];obtain⟨m,hm⟩:=B6 (show 0<= -n by omega);rw[hm,z9,show n= -(m:Int) by omega];exact RK s a m w S M Z' Z'
def qg(s:Bool)(a:t7)(e:Int)(w)(S:Nd w)(M:a.size<=100000000)(h1: -1000000000000<=e)(h2:e<=1000000000000):Zc 123 #[.agg #[ww s,wt a],wd e] w (.agg #[ww (nR (Dyadic.ofIntWithPrec (iv s a) (-e))).neg,wt (nR (Dyadic.ofIntWithPrec (iv s a) (-e))).Ra,wd (nR (Dyadic.ofIntWithPrec (iv s a) (-e))).e]):=by
 have I:=Hp.start w;by_cases J:iv s a=0
 .rw[J,jf,Pn];refine Ga func123 ?_;refine Ib ?_;intro T q I D y I;refine cd I (zi s a _) ?_;intro d I;rw[J];refine ZD ?_;intro ws I;exact⟨rfl,I.below⟩
 have K:(iv s a).sign≠0:=by rw[ne_eq,Z6];exact J
 rw[dv J];have o:bN a≠0:=λh=>J ((dO s a).2 h);have b:tz (bN a)<8*a.size+1:=(by have:=iC a;rw[show(256:Nat)=2^8 from rfl,<-W9] at this;have:=YC o this;omega);have l:BF (iv s a) (-(tz (bN a):Int))=iv s a/2^tz (bN a):=by
  unfold BF;split
  .have:tz (bN a)=0:=Z';rw[this];simp
  rw[O7,z9]
 refine Ga func123 ?_;refine Ib ?_;intro T q I D y I;refine cd I (zi s a _) ?_;intro d I;refine ea ?_;refine Gd I (yl a _ Z' (S.hp I)) rfl ?_;intro W I;refine ea ?_;refine Gd I (Dk s a (-(tz (bN a):Int)) _ (S.hp I) M Z' Z') rfl ?_;intro c I;rw[l];refine ZD ?_;intro ws I;exact⟨rfl,I.below⟩
def NR.ok(a:NR):Prop:=a.Ra.size<=1000000/\ -10000000<=a.e/\a.e<=10000000
def Sz.ok{x:Dyadic}(h:Sz k x)(u:k<=3999990):(nR x).ok:=by
 have:=h.nr;refine⟨Z',Z',Z'⟩
def Sm(n:Int)(w)(S:Nd w)(h1: -9223372036854775808<=n)(h2:n<=9223372036854775807):Zc 67 #[wd n] w (.agg #[ww (nR (n:Dyadic)).neg,wt (nR (n:Dyadic)).Ra,wd (nR (n:Dyadic)).e]):=by
 have I:=Hp.start w;have M:(iM n).size<=100000000:=(by rw[yc];have:Wa n.natAbs<=64:=Uc Z';omega);have E:∀Z,Nd Z->Zc 123 #[.agg #[ww (iN n),wt (iM n)],wd 0] Z (.agg #[ww (nR (n:Dyadic)).neg,wt (nR (n:Dyadic)).Ra,wd (nR (n:Dyadic)).e]):=λZ P=>(by have:=qg (iN n) (iM n) 0 Z P M Z' Z';rw[Cd] at this;exact this);refine Ga func67 ?_;refine Gb ?_;intro T q I;refine cd I (Qm n _ h1 h2) ?_;intro y I;refine cd I (E _ (S.hp I)) ?_;exact uU
def Wd(a:NR)(w)(S:Nd w)(M:a.Ra.size<=100000000)(h1: -1000000000000<=a.e)(h2:a.e<=1000000000000):Zc 85 #[a.V] w (.agg #[ww (nR a.fa).neg,wt (nR a.fa).Ra,wd (nR a.fa).e]):=by
 have I:=Hp.start w;refine Ga func85 ?_;refine Ib ?_;intro G Z I T q I;refine cd I (qg a.neg a.Ra a.e _ (S.hp I) M h1 h2) ?_;exact kV
def Jd(a:NR)(w):Zc 31 #[a.V] w (wd a.i.sign):=by
 have I:=Hp.start w;refine Ga func31 ?_;refine Gb ?_;intro G Z I;refine cd I (zi a.neg a.Ra _) ?_;intro v I;refine ea ?_;exact⟨rfl,I.below⟩
def Kn(a:NR)(w)(S:Nd w)(M:a.Ra.size<=100000000)(h1: -1000000000000<=a.e)(h2:a.e<=1000000000000):Zc 69 #[a.V] w (.agg #[ww (nR (-a.fa)).neg,wt (nR (-a.fa)).Ra,wd (nR (-a.fa)).e]):=by
 have I:=Hp.start w;have E:∀Z,Nd Z->Zc 123 #[.agg #[ww (iN (-(iv a.neg a.Ra))),wt (iM (-(iv a.neg a.Ra)))],wd a.e] Z (.agg #[ww (nR (-a.fa)).neg,wt (nR (-a.fa)).Ra,wd (nR (-a.fa)).e]):=λZ P=>(by have K:=Wj a.neg a.Ra;have:=qg (iN (-(iv a.neg a.Ra))) (iM (-(iv a.neg a.Ra))) a.e Z P Z' h1 h2;rw[Cd,<-mn] at this;exact this);refine Ga func69 ?_;refine Ib ?_;intro G Z I T q I;refine Od 5 I ?_;refine dC (λ_ hj=>vj a.neg a.Ra _) ?_;refine ub ?_;refine dn ?_;intro W I;refine cd I (E _ (S.hp I)) ?_;exact vY
def WB(s:Int)(a:NR)(w)(S:Nd w)(M:a.Ra.size<=100000000)(h1: -1000000000<=a.e-s)(h2:a.e-s<=1000000000):Zc 149 #[wd s,a.V] w (.agg #[ww (iN (BF a.i (a.e-s))),wt (iM (BF a.i (a.e-s)))]):=by
 have I:=Hp.start w;refine Ga func149 ?_;refine Ib ?_;intro j p I D y I;refine cd I (Dk a.neg a.Ra (a.e-s) _ (S.hp I) M h1 h2) ?_;intro t I;refine Su ?_;intro ws I;exact⟨rfl,I.below⟩
def nL(x)(p:Int):BF (nR x).i ((nR x).e - -p)=Qc x p:=by
 cases x with
 |zero=>exact YS _
 |ofOdd n k h=>
  simp only[nR,NR.i,Cd,Qc];congr 1;omega
def Tl(x:Dyadic):nR x=⟨false,ByteArray.mk #[],0⟩↔x=0:=by rw[<-Pn,ab2]
def kl{a:NR}(h:a.ok):Sz 18000000 a.fa/\(nR a.fa).Ra.size<=1000000/\ -18000000<=(nR a.fa).e/\(nR a.fa).e<=18000000:=by
 obtain⟨h1,h2,G⟩:=h;refine⟨Sz.raw (m:=8000000) (E:=10000000) Z' Z' Z', ?_⟩;by_cases J:iv a.neg a.Ra=0
 .rw[NR.fa,NR.i,J,jf,Pn];exact⟨N' _,by simp,by simp⟩
 rw[NR.fa,NR.i,dv J];have o:bN a.Ra≠0:=λh=>J ((dO a.neg a.Ra).2 h);have b:tz (bN a.Ra)<8*a.Ra.size+1:=(by have:=iC a.Ra;rw[show(256:Nat)=2^8 from rfl,<-W9] at this;have:=YC o this;omega);have F:Wa (iv a.neg a.Ra/2^tz (bN a.Ra)).natAbs<=8*a.Ra.size:=(by apply Uc;refine X9 (x7 _ _) ?_;rw[yj];exact c_ (wc _) (K_ Z' (Xf _)));simp only;rw[yc];refine⟨Z',Z',Z'⟩
def Ht(a b:NR)(w:World)(S:Nd w)(ha:a.ok)(hb:b.ok):Zc 81 #[.agg #[ww a.neg,wt a.Ra,wd a.e],.agg #[ww b.neg,wt b.Ra,wd b.e]] w (.agg #[wd (-(Hd a.fa b.fa)),ww (iN (Qc a.fa (Hd a.fa b.fa))),wt (iM (Qc a.fa (Hd a.fa b.fa))),ww (iN (Qc b.fa (Hd a.fa b.fa))),wt (iM (Qc b.fa (Hd a.fa b.fa)))]):=by
 have I:=Hp.start w;obtain⟨o,p,v⟩:=ha;obtain⟨t,R,x⟩:=hb;obtain⟨_,fa1,fa2,fa3⟩:=kl (a:=a) ⟨o,p,v⟩;obtain⟨_,fb1,fb2,fb3⟩:=kl (a:=b) ⟨t,R,x⟩;have hP:=HM a.fa b.fa 18000000 Z' Z';have X:=λZ P=>WB (-(Hd a.fa b.fa)) (nR a.fa) Z P Z' Z' Z';have u:=λZ P=>WB (-(Hd a.fa b.fa)) (nR b.fa) Z P Z' Z' Z';rw[nL] at X u;by_cases J:a.fa=0
 .have j:=(Tl a.fa).2 J;have K:(nR b.fa).e= -(Hd a.fa b.fa):=by
   rw[J]
   cases b.fa with
   |zero=>rfl
   |ofOdd n k h=>rfl
  refine Ga func81 ?_;refine Ii ?_;intro B M I D Y I F w4 I;refine qh 3 I ?_;refine ub ?_;refine mV ?_;refine ub ?_;refine xa ?_;intro f W Q c;have A:=Q.bl;obtain⟨v9,v8,v7,_⟩:=c;replace I:=Q.hp;refine Be ?_;clear Q;refine Gd I (Wd b _ (S.hp I) Z' Z' Z') rfl ?_;intro G I;refine Ib ?_;intro ws I ws I;exact ad0
 have j:¬nR a.fa=⟨false,ByteArray.mk #[],0⟩:=λh=>J ((Tl _).1 h);by_cases h1:b.fa=0
 .have E:=(Tl b.fa).2 h1;have K:(nR a.fa).e= -(Hd a.fa b.fa):=by
   rw[h1]
   cases a.fa with
   |zero=>rfl
   |ofOdd n k h=>rfl
  refine Ga func81 ?_;refine Ii ?_;intro B M I D Y I F w4 I;refine qh 3 I ?_;refine ub ?_;refine mV ?_;refine ub ?_;refine xa ?_;intro f W Q c;have A:=Q.bl;obtain⟨v9,v8,v7,_⟩:=c;replace I:=Q.hp;refine Be ?_;clear Q;refine Gd I (Wd b _ (S.hp I) Z' Z' Z') rfl ?_;intro G I;refine Ib ?_;intro ws I ws I;refine iE rfl rfl (by assumption) V' ?_;refine ea ?_;exact ad0
 have E:¬nR b.fa=⟨false,ByteArray.mk #[],0⟩:=λh=>h1 ((Tl _).1 h);have K:(if(nR b.fa).e<(nR a.fa).e then(nR b.fa).e else(nR a.fa).e)= -(Hd a.fa b.fa):=by
  revert J h1
  cases a.fa with
  |zero=>intro h;exact absurd rfl h
  |ofOdd n k h=>
   cases b.fa with
   |zero=>intro _ h;exact absurd rfl h
   |ofOdd m l g=>
    intro _ _;simp only[nR,Hd];omega
 refine Ga func81 ?_;refine Ii ?_;intro B M I D Y I F w4 I;refine qh 3 I ?_;refine ub ?_;refine mV ?_;refine ub ?_;refine dn ?_;intro W I;refine Gd I (Wd b _ (S.hp I) Z' Z' Z') rfl ?_;intro G I;refine Ib ?_;intro ws I ws I;refine iE rfl rfl (by assumption) V' ?_;refine ea ?_;refine iE rfl rfl (by assumption) V' ?_;refine ea ?_;rw[K];refine Ib ?_;intro H w6 I ws I;refine qh 9 I ?_;refine ub ?_;refine dC (λ_ hj=>X _ (S.hp hj.hp)) ?_;refine ub ?_;refine dC (λ_ hj=>u _ (S.hp hj.hp)) ?_;refine XJ ?_;refine dn ?_;intro W I;exact lZ
def uf(x y:Dyadic):Int:=if x<y then -1 else if y<x then 1 else 0
def UH(i j p:Int):(i-j).sign=uf (Dyadic.ofIntWithPrec i p) (Dyadic.ofIntWithPrec j p):=by
 unfold uf;simp only[Yk];obtain h|h|h:=N6 i j
 .rw[Q' h,g9 Z']
 .subst h;simp
 rw[R' Z',Q' h,X8 Z']
def nK(i p:Int):i.sign=uf (Dyadic.ofIntWithPrec i p) 0:=by
 have:=UH i 0 p;rwa[Int.sub_zero,jf] at this
def NR.sign(a:NR):a.i.sign=uf a.fa 0:=nK _ _
def yI(x y):(Qc x (Hd x y)-Qc y (Hd x y)).sign=uf x y:=by
 rw[UH _ _ (Hd x y),lS,kU]
def MP(X Y:Int)(h:X.sign≠Y.sign):(if(if X.sign-Y.sign<1 then X.sign-Y.sign else 1)> -1 then(if X.sign-Y.sign<1 then X.sign-Y.sign else 1) else -1)=(X-Y).sign:=by
 obtain C|C|C:=N6 X 0<;>obtain hy|hy|hy:=N6 Y 0
 .rw[g9 C,g9 hy] at h;omega
 .rw[g9 C,hy,Int.sub_zero,g9 C];simp
 .rw[g9 C,X8 hy,g9 Z'];simp
 .subst C;rw[Int.sign_zero,g9 hy,X8 (a:=0-Y) Z'];simp
 .rw[C,hy] at h;omega
 .subst C;rw[Int.sign_zero,X8 hy,g9 (a:=0-Y) Z'];simp
 .rw[X8 C,g9 hy,X8 Z'];simp
 .rw[X8 C,hy,Int.sub_zero,X8 C];simp
 rw[X8 C,X8 hy] at h;omega
def Mu{a b:NR}(M:a.ok)(F:b.ok):(iM (Qc a.fa (Hd a.fa b.fa))).size<=6000000/\(iM (Qc b.fa (Hd a.fa b.fa))).size<=6000000/\ -18000000<=Hd a.fa b.fa/\Hd a.fa b.fa<=18000000:=by
 obtain⟨_,c,l,B⟩:=kl M;obtain⟨_,H,X,e⟩:=kl F;have f:=HM a.fa b.fa 18000000 Z' Z';have h1:=Tx a.fa (Hd a.fa b.fa);have h2:=Tx b.fa (Hd a.fa b.fa);rw[yc,yc];refine⟨Z',Z',f.1,f.2⟩
def Yi(i:Int): -1<=i.sign/\i.sign<=1:=by
 obtain h|h|h:=N6 i 0
 .rw[g9 h];omega
 .rw[h];simp
 rw[X8 h];omega
def Xn(a b:NR)(w)(S:Nd w)(M:a.ok)(F:b.ok):Zc 26 #[a.V,b.V] w (wd (uf a.fa b.fa)):=by
 have I:=Hp.start w;obtain⟨m,h,_⟩:=Mu M F;have N:a.i.sign=(Qc a.fa (Hd a.fa b.fa)).sign:=by rw[NR.sign,nK _ (Hd a.fa b.fa),lS]
 have o:b.i.sign=(Qc b.fa (Hd a.fa b.fa)).sign:=by rw[NR.sign,nK _ (Hd a.fa b.fa),kU]
 have g:=Yi a.i;have r:=Yi b.i;by_cases E:a.i.sign=b.i.sign
 .refine Ga func26 ?_;refine Ib ?_;intro T q I j p I;refine Od 3 I ?_;refine dC (λ_ hj=>Jd a _) ?_;refine ub ?_;refine xa ?_;intro f W Q c;have A:=Q.bl;obtain⟨v10,n,Y,_⟩:=c;replace I:=Q.hp;refine Be ?_;refine cd I (Jd b _) ?_;intro t I;refine ea ?_;refine cd I (Ht a b _ (S.hp I) M F) ?_;intro k I;refine Ib ?_;intro l s I ws I;refine Gd I (rK _ _ _ _ _ Z' Z') rfl ?_;intro G I;rw[Cd,Cd,yI];refine ea ?_;exact⟨rfl,I.below⟩
 refine Ga func26 ?_;refine Ib ?_;intro T q I j p I;refine Od 3 I ?_;refine dC (λ_ hj=>Jd a _) ?_;refine ub ?_;refine dn ?_;intro W I;refine cd I (Jd b _) ?_;intro t I;refine ea ?_;refine⟨?_,I.below⟩;rw[N,o] at E;rw[N,o,<-yI a.fa b.fa,<-MP _ _ E]
def KK(a:NR)(w)(S:Nd w)(M:a.Ra.size<=100000000)(h1: -1000000000000<=a.e)(h2:a.e<=1000000000000):Zc 29 #[a.V] w (.agg #[ww (nR (if a.fa<0 then -a.fa else a.fa)).neg,wt (nR (if a.fa<0 then -a.fa else a.fa)).Ra,wd (nR (if a.fa<0 then -a.fa else a.fa)).e]):=by
 have I:=Hp.start w;have K:=NR.sign a;by_cases J:a.fa<0
 .have g:a.i.sign= -1:=by rw[K,uf,Q' J]
  rw[Q' J];refine Ga func29 ?_;refine Ib ?_;intro G Z I T q I;refine cd I (Jd a _) ?_;intro y I;rw[g];refine ea ?_;refine cd I (Kn a _ (S.hp I) M h1 h2) ?_;exact kV
 have g:¬a.i.sign<0:=by rw[K,uf,R' J];split<;>omega
 rw[R' J];refine Ga func29 ?_;refine Ib ?_;intro G Z I T q I;refine cd I (Jd a _) ?_;intro y I;refine ea ?_;refine cd I (Wd a _ (S.hp I) M h1 h2) ?_;exact xV
def Ic(n:Int):Dyadic:=Dyadic.ofIntWithPrec 1 (-n)
def tD(i p n:Int):Dyadic.ofIntWithPrec i (p-n)=Dyadic.ofIntWithPrec i p*Ic n:=by
 rw[Ic,uk,Int.mul_one];rfl
def Yt(a:NR)(n:Int)(w)(S:Nd w)(M:a.Ra.size<=100000000)(h1: -100000000000<=a.e)(h2:a.e<=100000000000)(G: -100000000000<=n)(z:n<=100000000000):Zc 66 #[a.V,wd n] w (.agg #[ww (nR (a.fa*Ic n)).neg,wt (nR (a.fa*Ic n)).Ra,wd (nR (a.fa*Ic n)).e]):=by
 have I:=Hp.start w;have N:Dyadic.ofIntWithPrec (iv a.neg a.Ra) (-(a.e+n))=a.fa*Ic n:=(by rw[NR.fa,NR.i,<-tD];congr 1;omega);have E:=λZ P=>qg a.neg a.Ra (a.e+n) Z P M Z' Z';rw[N] at E;refine Ga func66 ?_;refine Ib ?_;intro T q I D y I;refine cd I (E _ (S.hp I)) ?_;intro t I;refine ZD ?_;intro ws I;exact⟨rfl,I.below⟩
def Mo:t5->Dyadic:=λl=>l.foldl (· + ·) 0
def qD(l:t5)(x:Dyadic):Mo (l++[x])=Mo l+x:=by simp[Mo]
def Sz.sum{l:t5}(h:∀x∈l,Sz k x):Sz (k+l.length) (Mo l):=by
 have:∀(n:Nat),n<=l.length->Sz (k+n) (Mo (l.take n)):=by
  intro n
  induction n with
  |zero=>intro _;exact Sz.zero _
  |succ n W=>
   intro B;obtain⟨x,C⟩:=aa (l:=l) (k:=n) Z';rw[ja C,qD];exact(W Z').add ((h x (O' C)).mono Z')
 have h2:=this l.length (F' _);rwa[C6] at h2
def lz(a b:NR)(w)(S:Nd w)(M:a.ok)(F:b.ok):Zc 123 #[.agg #[ww (iN (Qc a.fa (Hd a.fa b.fa)+Qc b.fa (Hd a.fa b.fa))),wt (iM (Qc a.fa (Hd a.fa b.fa)+Qc b.fa (Hd a.fa b.fa)))],wd (-(Hd a.fa b.fa))] w (.agg #[ww (nR (a.fa+b.fa)).neg,wt (nR (a.fa+b.fa)).Ra,wd (nR (a.fa+b.fa)).e]):=by
 obtain⟨m,g,c,f⟩:=Mu M F;rw[yc] at m g;have G:=zk (Qc a.fa (Hd a.fa b.fa)) (Qc b.fa (Hd a.fa b.fa));have:=qg (iN (Qc a.fa (Hd a.fa b.fa)+Qc b.fa (Hd a.fa b.fa))) (iM (Qc a.fa (Hd a.fa b.fa)+Qc b.fa (Hd a.fa b.fa))) (-(Hd a.fa b.fa)) w S (by rw[yc];omega) Z' Z';rw[Cd,O7,BW] at this;exact this
def Uh(L)(n c:Nat)(l)(w)(H:Nd w)(J:Sl w L n 3 (la NR.cells l))(Q:∀a∈l,a.ok)(k:Nat)(hk:∀a∈l,Sz k a.fa)(hkn:k+n<=3999990):Zc 63 #[wn L n c] w (.agg #[ww (nR (Mo (l.map NR.fa))).neg,wt (nR (Mo (l.map NR.fa))).Ra,wd (nR (Mo (l.map NR.fa))).e]):=by
 have hln:=J.Aa NR.len Z';have I:=Hp.start w;refine Ga func63 ?_;refine Ib ?_;intro T w2 I K w3 I;refine rf 9 (λj V=>∃(i:Nat)(S:Dyadic),i<=n/\j=wd i/\S=Mo ((l.take i).map NR.fa)/\Hp w [.blk K 30 [ww (nR S).neg,wt (nR S).Ra,wd (nR S).e] (0,0),.blk T 30 [ww false,wt (ByteArray.mk #[]),wd 0] (0,0)] V) (λj _=>n-(intOf j).toNat) ?_ ?_
 .exact⟨0,0,N' _,rfl,rfl,I⟩
 clear I;rintro ρ' j V ⟨i,S,hi,rfl,z,I⟩;by_cases hlt:i<n
 .obtain⟨x,D⟩:=aa (l:=l) (k:=i) Z';obtain⟨ad,rfl,hr⟩:=J.at_ Z';have F:=O' D;have g:Mo ((l.take (i+1)).map NR.fa)=S+x.fa:=by rw[ja D,q_,I7,qD,z]
  have m:Sz (k+i) S:=by
   rw[z];have:=Sz.sum (k:=k) (l:=(l.take i).map NR.fa) (λy hy=>by
    obtain⟨a,Y,rfl⟩:=x'.1 hy;exact hk a (Z8 Y))
   rw[B',q',T9 Z'] at this;exact this
  have N:=m.ok Z';have b:=λZ P=>Ht (nR S) x Z P N (Q x F);have q:=λZ P=>lz (nR S) x Z P N (Q x F);obtain⟨t,u,_⟩:=Mu N (Q x F);rw[Ta] at b q t u;have M:([iR (Qc S (Hd S x.fa)),iR (Qc x.fa (Hd S x.fa))].map IR.v).sum=Qc S (Hd S x.fa)+Qc x.fa (Hd S x.fa):=(by simp only[T_,f_,l7,List.sum_nil,ab9];omega);have p:∀(A:t6)(B:Nat)(Z:World),Sl Z A 2 2 (la IR.cells [iR (Qc S (Hd S x.fa)),iR (Qc x.fa (Hd S x.fa))])->Zc 124 #[wn A 2 B] Z (.agg #[ww (iN (Qc S (Hd S x.fa)+Qc x.fa (Hd S x.fa))),wt (iM (Qc S (Hd S x.fa)+Qc x.fa (Hd S x.fa)))]):=λA B Z C=>(by have:=Js A 2 B [iR (Qc S (Hd S x.fa)),iR (Qc x.fa (Hd S x.fa))] Z C Z' (by simp[iR];omega);rw[M] at this;exact this);refine ea ?_;refine sv (Ua (vs:=[_,_,_]) pa.out rfl (((hr.ext I.below).recAt NR.len D)) rfl) ?_;refine Ib ?_;intro b5 w5 I ws I;refine cd I (b _ (H.hp I)) ?_;intro w15 I;refine Ib ?_;intro b6 w6 I ws I;refine Od 8 I ?_;refine Nw [_,_,_,_] ?_;refine ua (i:=5) (Is (.agg #[ww (iN (Qc S (Hd S x.fa)+Qc x.fa (Hd S x.fa))),wt (iM (Qc S (Hd S x.fa)+Qc x.fa (Hd S x.fa)))])) Is.ext ?_ ?_
  .intro U Z hj hR;obtain⟨h,o,r,E⟩:=hR.1;exact rb rfl (Ha fi (na r Oa)) (p h o _ E) (λ_ _ R=>⟨_,R.1,R.2,rfl⟩)
  refine ub ?_;refine xa ?_;intro f W G X;obtain⟨v23,v22,v21,v20,v19,v18,v17,v16,_⟩:=X;obtain⟨h,o,s,f20⟩:Rows _ _ _ (f 4) W:=v20;replace I:=G.hp;refine Be ?_;refine cd I (q _ (H.hp I)) ?_;intro w24 I;refine Gb ?_;intro ws I;replace I:=I.sub ((d_ _ _).trans (d_ _ _));refine⟨⟨i+1,_,Z',rfl,g.symm,I⟩,by show n-(i+1)<n-i;omega, ?_⟩;exact Sb
 refine wQ ?_;intro ws I;exact lX
def Zk(x:Dyadic)(y):Mo [x,y]=x+y:=by
 show(0+x)+y=x+y;rw[k8]
def Pr(a b:NR)(w)(S:Nd w)(M:a.ok)(F:b.ok)(k:Nat)(c:Sz k a.fa)(Q:Sz k b.fa)(u:k<=3999980):Zc 27 #[a.V,b.V] w (.agg #[ww (nR (a.fa-b.fa)).neg,wt (nR (a.fa-b.fa)).Ra,wd (nR (a.fa-b.fa)).e]):=by
 have I:=Hp.start w;obtain⟨t,R,x⟩:=F;have N:Mo ([a,nR (-b.fa)].map NR.fa)=a.fa-b.fa:=(by simp only[T_,f_,Ta,Zk];rfl);have h:∀(A:t6)(B:Nat)(Z:World),Nd Z->Sl Z A 2 3 (la NR.cells [a,nR (-b.fa)])->Zc 63 #[wn A 2 B] Z (.agg #[ww (nR (a.fa-b.fa)).neg,wt (nR (a.fa-b.fa)).Ra,wd (nR (a.fa-b.fa)).e]):=λA B Z P p=>(by have:=Uh A 2 B [a,nR (-b.fa)] Z P p (by simpa using⟨M,Q.neg.ok Z'⟩) k (by simpa[Ta] using⟨c,Q.neg⟩) Z';rw[N] at this;exact this);refine Ga func27 ?_;refine Ii ?_;intro T q I j g I D y I;refine Od 3 I ?_;refine dC (λ_ hj=>Kn b _ (S.hp hj.hp) Z' Z' Z') ?_;refine dn ?_;intro W I;refine bw ?_;intro f o I;refine cd I (h _ _ _ (S.hp I) (I.ka (i:=0) rfl)) ?_;intro z I;refine wQ ?_;intro ws I;exact⟨rfl,I.below⟩
def pj:t5->Dyadic:=λl=>l.foldl (· * ·) 1
def Kz(l:t5)(x:Dyadic):pj (l++[x])=pj l*x:=by simp[pj]
def Sz.one:Sz 1 1:=⟨2,by decide+kernel,V'⟩
def Sz.prod{l:t5}(h:∀x∈l,Sz k x):Sz (1+k*l.length) (pj l):=by
 have:∀(n:Nat),n<=l.length->Sz (1+k*n) (pj (l.take n)):=by
  intro n
  induction n with
  |zero=>intro _;exact Sz.one
  |succ n W=>
   intro B;obtain⟨x,C⟩:=aa (l:=l) (k:=n) Z';rw[ja C,Kz];exact((W Z').mul (h x (O' C))).mono (by rw[p9];omega)
 have h2:=this l.length (F' _);rwa[C6] at h2
def Rh(L)(n c:Nat)(l)(w)(u:Nd w)(J:Sl w L n 3 (la NR.cells l))(hl:∀a∈l,a.ok)(k:Nat)(hk:∀a∈l,Sz k a.fa)(hkn:k*n<=3999980)(hn:n<=1000000):Zc 64 #[wn L n c] w (.agg #[ww (nR (pj (l.map NR.fa))).neg,wt (nR (pj (l.map NR.fa))).Ra,wd (nR (pj (l.map NR.fa))).e]):=by
 have hln:=J.Aa NR.len Z';have I:=Hp.start w;refine Ga func64 ?_;refine Gb ?_;intro T w2 I;refine Gd I (Sm 1 _ (u.hp I) Z' Z') rfl ?_;intro w6 I;refine Ib ?_;intro D w3 I ws I;refine rf 9 (λj V=>∃(i:Nat)(S:Dyadic),i<=n/\j=wd i/\S=pj ((l.take i).map NR.fa)/\Hp w [.blk D 30 [ww (nR S).neg,wt (nR S).Ra,wd (nR S).e] (0,0),.blk T 30 [ww false,wt (ByteArray.mk #[]),wd 0] (0,0)] V) (λj _=>n-(intOf j).toNat) ?_ ?_
 .exact⟨0,_,N' _,rfl,rfl,I⟩
 clear I;rintro ρ' j V ⟨i,S,hi,rfl,z,I⟩;by_cases hlt:i<n
 .obtain⟨x,C⟩:=aa (l:=l) (k:=i) Z';obtain⟨ad,rfl,hr⟩:=J.at_ Z';have F:=O' C;have o:pj ((l.take (i+1)).map NR.fa)=S*x.fa:=by rw[ja C,q_,I7,Kz,z]
  have h:Sz (1+k*i) S:=by
   rw[z];have:=Sz.prod (k:=k) (l:=(l.take i).map NR.fa) (λy hy=>by
    obtain⟨a,M,rfl⟩:=x'.1 hy;exact hk a (Z8 M))
   rw[B',q',T9 Z'] at this;exact this
  have hki:k*i<=k*n:=O_ _ hi;obtain⟨so1,so2,so3⟩:=h.ok Z';obtain⟨xo1,xo2,xo3⟩:=hl x F;have N:Sp ([IR.mk (nR S).neg (nR S).Ra,IR.mk x.neg x.Ra].map IR.v)=(nR S).i*x.i:=(by simp only[T_,f_,Sp,Int.mul_one];rfl);have E:Dyadic.ofIntWithPrec ((nR S).i*x.i) (-((nR S).e+x.e))=S*x.fa:=(by have:=uk (nR S).i x.i (-(nR S).e) (-x.e);rw[Int.neg_add,<-this];congr 1;exact Ta S);have p:∀(A:t6)(B:Nat)(Z:World),Sl Z A 2 2 (la IR.cells [IR.mk (nR S).neg (nR S).Ra,IR.mk x.neg x.Ra])->Zc 125 #[wn A 2 B] Z (.agg #[ww (iN ((nR S).i*x.i)),wt (iM ((nR S).i*x.i))]):=λA B Z s=>(by have:=yJ A 2 B [IR.mk (nR S).neg (nR S).Ra,IR.mk x.neg x.Ra] Z s Z' (by simp;omega);rw[N] at this;exact this);have r:∀Z,Nd Z->Zc 123 #[.agg #[ww (iN ((nR S).i*x.i)),wt (iM ((nR S).i*x.i))],wd ((nR S).e+x.e)] Z (.agg #[ww (nR (S*x.fa)).neg,wt (nR (S*x.fa)).Ra,wd (nR (S*x.fa)).e]):=λZ P=>(by have H:=mf (nR S).neg (nR S).Ra;have K:=mf x.neg x.Ra;have q:=wk (nR S).i x.i;have:=qg (iN ((nR S).i*x.i)) (iM ((nR S).i*x.i)) ((nR S).e+x.e) Z P (by rw[yc];unfold NR.i at q |-;omega) Z' Z';rw[Cd,E] at this;exact this);refine ea ?_;refine sv (Ua (vs:=[_,_,_]) pa.out rfl (((hr.ext I.below).recAt NR.len C)) rfl) ?_;refine Ib ?_;intro b5 w5 I ws I;refine Od 11 I ?_;refine Nw [_,_,_,_] ?_;refine ua (i:=5) (Is (.agg #[ww (iN ((nR S).i*x.i)),wt (iM ((nR S).i*x.i))])) Is.ext ?_ ?_
  .intro U Z hj hR;obtain⟨Y,m,g,t⟩:=hR.1;exact rb rfl (Ha fi (na g Oa)) (p Y m _ t) (λ_ _ R=>⟨_,R.1,R.2,rfl⟩)
  refine ub ?_;refine xa ?_;intro f W Q G;obtain⟨v23,v22,v21,v20,v19,v18,X,v16,v15,v14,v13,_⟩:=G;obtain⟨Y,m,b,f17⟩:Rows _ _ _ (f 4) W:=X;replace I:=Q.hp;refine Be ?_;refine cd I (r _ (u.hp I)) ?_;intro w24 I;refine Gb ?_;intro ws I;replace I:=I.sub (d_ _ _);refine⟨⟨i+1,_,Z',rfl,o.symm,I⟩,by show n-(i+1)<n-i;omega, ?_⟩;exact Sb
 refine wQ ?_;intro ws I;exact lX
def xW(i p:Int)(n:Nat):Dyadic.ofIntWithPrec i p^n=Dyadic.ofIntWithPrec (i^n) (p*n):=by
 induction n with
 |zero=>rw[s7];simp;rfl
 |succ n W=>rw[Dyadic.pow_succ,W,uk,Int.pow_succ,G9,Int.mul_add];simp
def adW(i p:Int):(nR (Dyadic.ofIntWithPrec i p)).Ra.size<=(Wa i.natAbs+7)/8/\(i=0\/ -p<=(nR (Dyadic.ofIntWithPrec i p)).e/\(nR (Dyadic.ofIntWithPrec i p)).e<= -p+Wa i.natAbs)/\(i=0->(nR (Dyadic.ofIntWithPrec i p)).e=0):=by
 by_cases J:i=0
 .subst J;rw[jf,Pn];exact⟨N' _,.inl rfl,λ_=>rfl⟩
 have h2:=Hm J;rw[QE J,nR];simp only;refine⟨?_,.inr ⟨Z', ?_⟩,λh=>absurd h J⟩
 .rw[yc];have:Wa (i>>>i.trailingZeros).natAbs<=Wa i.natAbs:=(by apply Uc;refine X9 ?_ (wc _);rw[Int.shiftRight_eq_div_pow];exact x7 _ _);omega
 have G:2^i.trailingZeros<2^Wa i.natAbs:=X9 h2 (wc _);have:=(V5 Z').1 G;omega
def lL(a:NR)(n:Int)(w)(S:Nd w)(f:a.ok)(K:n.toNat*a.Ra.size<=1000000)(k:n<=1000):Zc 282 #[a.V,wd n] w (.agg #[ww (nR (a.fa^n.toNat)).neg,wt (nR (a.fa^n.toNat)).Ra,wd (nR (a.fa^n.toNat)).e]):=by
 have I:=Hp.start w;obtain⟨J,E,v⟩:=f;obtain⟨_,c,l,B⟩:=kl (a:=a) ⟨J,E,v⟩;have M:(nR a.fa).Ra.size<=a.Ra.size:=(by have:=(adW a.i (-a.e)).1;have h2:=mf a.neg a.Ra;unfold NR.fa NR.i at*;omega);have h:n.toNat*(nR a.fa).Ra.size<=n.toNat*a.Ra.size:=O_ _ M;have N:(if(0:Int)>n then 0 else n)=(n.toNat:Int):=by split<;>omega
 have hm:n.toNat<=1000:=Z';have p: -18000000*1000<=(nR a.fa).e*(n.toNat:Int):=(by have h1:(-18000000:Int)*n.toNat<=(nR a.fa).e*n.toNat:=Int.mul_le_mul_of_nonneg_right l Z';omega);have g:(nR a.fa).e*(n.toNat:Int)<=18000000*1000:=(by have h1:(nR a.fa).e*n.toNat<=(18000000:Int)*n.toNat:=Int.mul_le_mul_of_nonneg_right B Z';omega);have t:=λZ=>gL (nR a.fa).neg (nR a.fa).Ra n Z Z' Z' Z';have q:∀Z,Nd Z->Zc 123 #[.agg #[ww (iN (iv (nR a.fa).neg (nR a.fa).Ra^n.toNat)),wt (iM (iv (nR a.fa).neg (nR a.fa).Ra^n.toNat))],wd ((nR a.fa).e*(n.toNat:Int))] Z (.agg #[ww (nR (a.fa^n.toNat)).neg,wt (nR (a.fa^n.toNat)).Ra,wd (nR (a.fa^n.toNat)).e]):=λZ P=>by
  have F:=wu (iv (nR a.fa).neg (nR a.fa).Ra) n.toNat;have R:=mf (nR a.fa).neg (nR a.fa).Ra;have b:n.toNat*Wa (iv (nR a.fa).neg (nR a.fa).Ra).natAbs<=n.toNat*(8*(nR a.fa).Ra.size):=O_ _ R;rw[L7] at b;have:=qg (iN (iv (nR a.fa).neg (nR a.fa).Ra^n.toNat)) (iM (iv (nR a.fa).neg (nR a.fa).Ra^n.toNat)) ((nR a.fa).e*(n.toNat:Int)) Z P (by rw[yc];omega) Z' Z';have L:Dyadic.ofIntWithPrec (iv (nR a.fa).neg (nR a.fa).Ra^n.toNat) (-((nR a.fa).e*(n.toNat:Int)))=a.fa^n.toNat:=by
   have G:=Ta a.fa
   conv=>rhs;rw[<-G,NR.fa,xW]
   rw[Int.neg_mul];rfl
  rw[Cd,L] at this;exact this
 refine Ga func282 ?_;refine Ib ?_;intro T m I D y I;refine Gd I (Wd a _ (S.hp I) Z' Z' Z') rfl ?_;intro A I;refine Gb ?_;intro ws I;refine Od 9 I ?_;refine dC (λ_ hj=>t _) ?_;refine ub ?_;refine ua (i:=7) (Is (wd (n.toNat:Int))) (Is.ext) ?_ ?_
 .intro U Z hj hR;exact ic rfl ((DS (O:=U) (x:=.tmp 13) (show U 13=Value.int .i64 n from hR.1) rfl).trans (by rw[N])) ⟨Below.refl _ _,rfl⟩
 refine ub ?_;refine dn ?_;intro W I;refine cd I (q _ (S.hp I)) ?_;intro j I;refine ZD ?_;intro ws I;exact⟨rfl,I.below⟩
def abD(x:Dyadic):(nR (-x)).Ra=(nR x).Ra/\(nR (-x)).e=(nR x).e:=by
 cases x with
 |zero=>exact⟨rfl,rfl⟩
 |ofOdd n k h=>
  refine⟨?_,rfl⟩;show iM (-n)=iM n;rw[iM,iM,Int.natAbs_neg]
def xc(f:Dyadic->Dyadic->Bool):t5->Dyadic
 |[]=>0
 |a::r=>r.foldl (λout a=>if f a out then a else out) a
def jy(f:Dyadic->Dyadic->Bool){l:t5}(h:l≠[])(x:Dyadic):xc f (l++[x])=if f x (xc f l) then x else xc f l:=by
 cases l with
 |nil=>exact absurd rfl h
 |cons a r=>
  show(r++[x]).foldl _ a=_;rw[u7];rfl
def vu(L)(n c:Nat)(l)(g:FuncId)(f:Dyadic->Dyadic->Bool)(w)(S:Nd w)(J:Sl w L n 3 (la NR.cells l))(Q:∀a∈l,a.ok)(K:n<=1000000)[ma prog g] (s:∀(a b:NR)(w:World),Nd w->a.ok->b.ok->Zc g #[a.V,b.V] w (ww (f a.fa b.fa))):Zc 215 #[wn L n c,.func (.func g) #[] #[]] w (.agg #[ww (nR (xc f (l.map NR.fa))).neg,wt (nR (xc f (l.map NR.fa))).Ra,wd (nR (xc f (l.map NR.fa))).e]):=by
 have q:=J.Aa NR.len Z';have I:=Hp.start w;refine Ga func215 ?_;refine Ib ?_;intro D X I R w5 I;refine rf 10 (λj V=>∃(i:Nat)(o:NR),i<=n/\j=wd i/\o.ok/\o.fa=xc f ((l.take i).map NR.fa)/\Hp w [.blk R 30 [ww o.neg,wt o.Ra,wd o.e] (0,0),.blk D 30 [ww false,wt (ByteArray.mk #[]),wd 0] (0,0)] V) (λj _=>n-(intOf j).toNat) ?_ ?_
 .exact⟨0,nR 0,N' _,rfl,(Sz.zero 0).ok Z',rfl,I⟩
 clear I;rintro ρ' j V ⟨i,o,hi,rfl,y,A,I⟩;by_cases r:i<n
 .obtain⟨x,C⟩:=aa (l:=l) (k:=i) Z';obtain⟨B,rfl,H⟩:=J.at_ Z';have u:=Q x (O' C);have m:(l.take (i+1)).map NR.fa=(l.take i).map NR.fa++[x.fa]:=by rw[ja C,q_,I7]
  by_cases p:i=0
  .subst p;refine ea ?_;refine sv (Ua (vs:=[_,_,_]) pa.out rfl (((H.ext I.below).recAt NR.len C)) rfl) ?_;refine Ii ?_;intro t z I ws I ws I;replace I:=I.sub (d_ _ _);refine⟨⟨1,x,Z',rfl,u,by rw[m];rfl,I⟩,by show n-(0+1)<n-0;omega, ?_⟩;exact Sb
  have E:(l.take i).map NR.fa≠[]:=(by intro h;have:=C_ List.length h;rw[B',q',G7] at this;omega);have F:=jy f E x.fa;rw[<-m,<-A] at F;refine ea ?_;refine sv (Ua (vs:=[_,_,_]) pa.out rfl (((H.ext I.below).recAt NR.len C)) rfl) ?_;refine Ib ?_;intro t z I ws I;refine Mh (s x o _ (S.hp I) u y) ma.out rfl rfl V' ?_;rintro G v ⟨rfl,M⟩;refine Ps ?_;intro I
  cases Y:f x.fa o.fa with
  |true=>
   rw[Y,Q' rfl] at F;refine Gb ?_;intro ws I;replace I:=I.sub (d_ _ _);refine⟨⟨i+1,x,Z',rfl,u,F.symm,I⟩,by show n-(i+1)<n-i;omega, ?_⟩;exact Sb
  |false=>
   rw[Y] at F;refine ea ?_;replace I:=I.sub (d_ _ _);refine⟨⟨i+1,o,Z',rfl,y,F.symm,I⟩,by show n-(i+1)<n-i;omega, ?_⟩;exact Sb
 rw[G' Z'] at A;obtain⟨N,P,W⟩:=y;refine ea ?_;refine cdC I (Wd o _ (S.hp I) Z' Z' Z') rfl ?_;intro T I;rw[A];refine wQ ?_;intro ws I;exact⟨rfl,I.below⟩
def Sn(x)(y:Dyadic):uf x y<0↔x<y:=by
 unfold uf;split
 .rename_i h;simp[h]
 rename_i h;split<;>simp[h]
def At(x y):0<uf x y↔y<x:=by
 unfold uf;split
 .rename_i h;have:¬y<x:=by grind
  simp[this]
 split<;>rename_i h<;>simp[h]
def uI(a b:NR)(w)(S:Nd w)(M:a.ok)(F:b.ok):Zc 238 #[a.V,b.V] w (ww (decide (a.fa<b.fa))):=by
 have I:=Hp.start w;have N:decide (uf a.fa b.fa<0)=decide (a.fa<b.fa):=decide_eq_decide.2 (Sn _ _);refine Ga func238 ?_;exact D2
def ZF(a b:NR)(w)(S:Nd w)(M:a.ok)(F:b.ok):Zc 216 #[a.V,b.V] w (ww (decide (b.fa<a.fa))):=by
 have I:=Hp.start w;have N:decide (0<uf a.fa b.fa)=decide (b.fa<a.fa):=decide_eq_decide.2 (At _ _);refine Ga func216 ?_;exact D2
def KJ(L)(n c:Nat)(l)(w)(S:Nd w)(J:Sl w L n 3 (la NR.cells l))(Q:∀a∈l,a.ok)(B:n<=1000000):Zc 170 #[wn L n c] w (.agg #[ww (nR (xc (λx y=>decide (x<y)) (l.map NR.fa))).neg,wt (nR (xc (λx y=>decide (x<y)) (l.map NR.fa))).Ra,wd (nR (xc (λx y=>decide (x<y)) (l.map NR.fa))).e]):=by
 have I:=Hp.start w;refine Ga func170 ?_;refine Gb ?_;intro T q I;refine cd I (vu L n c l 238 (λx y=>decide (x<y)) _ (S.hp I) (J.ext I.below) Q B uI) ?_;exact kV
def IJ(L)(n c:Nat)(l)(w)(S:Nd w)(J:Sl w L n 3 (la NR.cells l))(Q:∀a∈l,a.ok)(B:n<=1000000):Zc 140 #[wn L n c] w (.agg #[ww (nR (xc (λx y=>decide (y<x)) (l.map NR.fa))).neg,wt (nR (xc (λx y=>decide (y<x)) (l.map NR.fa))).Ra,wd (nR (xc (λx y=>decide (y<x)) (l.map NR.fa))).e]):=by
 have I:=Hp.start w;refine Ga func140 ?_;refine Gb ?_;intro T q I;refine cd I (vu L n c l 216 (λx y=>decide (y<x)) _ (S.hp I) (J.ext I.below) Q B ZF) ?_;exact kV
def sj{x y:Dyadic}(h:x<y):uf x y= -1:=by rw[uf,Q' h]
def Yn{x y:Dyadic}(h:y<x):uf x y=1:=by
 have:¬x<y:=by grind
 rw[uf,R' this,Q' h]
def Pv(x):uf x x=0:=by
 have:¬x<x:=by grind
 rw[uf,R' this,R' this]
def FN(x:Dyadic)(y):x<y\/x=y\/y<x:=by
 obtain h|h:=Classical.em (x<y)
 .exact .inl h
 obtain h2|h2:=Classical.em (y<x)
 .exact .inr (.inr h2)
 exact .inr (.inl (by grind))
def HY(x y): -1<=uf x y/\uf x y<=1:=by
 unfold uf;split<;>(try split)<;>omega
end Go.Proofs.YtbencocchdpikaaGreatDoor
