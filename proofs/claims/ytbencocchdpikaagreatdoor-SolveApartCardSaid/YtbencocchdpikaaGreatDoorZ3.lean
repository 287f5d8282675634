/- Lemmas for solveApart, part 3. -/
import Derived.Test.YtbencocchdpikaaGreatDoorZ2
set_option linter.all false
set_option maxHeartbeats 0
namespace Go.Proofs.YtbencocchdpikaaGreatDoor
open Go.Proofs.Tryz
open Go.RowKit
variable {C j k n:Nat}{w:World}
def Ue(A)(n c:Nat)(xs)(w)(C:Sl w A n 1 (Rb xs))(E:n<=c)(B:n<=1000000000000):Zc 287 #[.slice A n c] w (.slice A (Ad xs).length c):=by
 have hlen:xs.length=n:=by have:=C.1;rw[ya] at this;omega
 have I:=Hp.start w;refine Ca func287 ?_;refine fa ?_;refine bf 0 (λv V=>∃k:Nat,k<=n/\v=.slice A k c/\Ad (xs.take k)=Ad xs/\V=w) (λv _=>lenOf v) ?_ ?_
 .exact⟨n,E' _,rfl,by rw[w' Z'],rfl⟩
 rintro ρ' v V ⟨k,u,rfl,t,rfl⟩;by_cases J:k=0
 .subst J;refine fa ?_;rw[<-t];exact⟨rfl,I.below⟩
 obtain⟨j,rfl⟩:∃j,k=j+1:=⟨k-1,Z'⟩;obtain⟨d,T⟩:=aa (l:=xs) (k:=j) Z';obtain⟨b,rfl,H⟩:=C.at_ Z';have r:=Dd T;rw[ja T] at t;by_cases o:d=0
 .subst o;rw[sx] at t;refine xa (sr (mL (xi ?_)));refine Fu (mB (gT (mL (gT (mL (gT (xi ?_)))))));refine oV ?_;refine sv (Rh (h:=j) Qa.out pa.size rfl rfl Z' Z') ?_;refine fa ?_;refine⟨⟨j,Z',rfl,t,rfl⟩,by show j<j+1;omega, ?_⟩;exact Wb
 rw[Dz o] at t;refine xa (sr (mL (xi ?_)));refine Fu (mB (gT (mL (gT (mL (gT (xi ?_)))))));refine oV ?_;exact UY
def Pe{B:Nat}{l:List Nat}{i c:Nat}(h:l[i]?=some c):va B (l.take (i+1))=va B (l.take i)+B^i*c:=by
 have hi:=(x'.1 h).1;rw[ja h,nc,p',P9 Z'];simp[va]
variable {w0:World}
def Hp.ZK{H:List HE}{A:Option Addr}{c:Nat}{t:TypeId}{xs:List Nat}(h:Hp w0 (.row A n c t 1 (Rb xs)::H) w)(Q:xs.length=n):Hp w0 (.row A (Ad xs).length c t 1 (Rb (Ad xs))::H) w:=by
 have h1:=Vd xs;have h2:=h.CB (k:=(Ad xs).length) Z';rw[X_,<-xz,<-mj] at h2;exact h2
variable {N:Nat}
def xN(a:ByteArray)(w)(g:a.size<=100000000000):Calls prog 251 #[.string a] w λe V=>∃b c,e=.returned (.slice (some ⟨b,0,none⟩) (ra 18446744073709551616 (bn a.data.toList)).length c)/\V.ownsRow w.heap.size 223 1 (.slice (some ⟨b,0,none⟩) (ra 18446744073709551616 (bn a.data.toList)).length c) (ra 18446744073709551616 (bn a.data.toList)).length (Rb (ra 18446744073709551616 (bn a.data.toList)))/\Below w.heap.size w V:=by
 have M:=Hc a;have I:=Hp.start w;refine Ca func251 ?_;refine fa ?_;refine Ee (n:=(a.size+7)/8) I rfl rfl Z' Z' Qa.out pa.out rfl Z' Z' V' ?_;intro z G I;refine fa ?_;rw[rj] at I;refine bf 13 (λv V=>∃i:Nat,i<=a.size/\v=.int .i64 i/\Hp w [.row (some ⟨z,0,none⟩) ((a.size+7)/8) ((a.size+7)/8) 223 1 (Rb (jb 18446744073709551616 ((a.size+7)/8) (va 256 ((dF a.data.toList).take i))))] V) (λv _=>a.size-(intOf v).toNat) ?_ ?_
 .exact⟨0,J' _,rfl,by rw[Y8,va,xt];exact I⟩
 clear I;rintro ρ' v V ⟨i,hi,rfl,I⟩;by_cases D:i<a.size
 .obtain⟨c,E⟩:=aa (l:=a.data.toList) (k:=((a.size:Int)-1-i).toNat) Z';have p:=kS (s:=a.data.toList) (i:=i) (c:=c) Z' (by rw[<-E];congr 1;omega);have R:=c.toNat_lt;have d:=Ff ((eD a.data.toList).take i);rw[p',Zp,P9 Z'] at d;obtain⟨s1,s2,s3⟩:=dV (k:=(a.size+7)/8) (va 256 ((dF a.data.toList).take i)) d R Z';have h:=Dd (Wh (B:=18446744073709551616) ((a.size+7)/8) (va 256 ((dF a.data.toList).take i)) (i/8) Z');have N:((i:Int) % 8*8).toNat=i % 8*8:=Z';refine fa ?_;refine ud 13 I ?_;refine Ma (i:=2) (λU Z hj hR=>Rm (show U 22=Value.int _ _ from hR.1) rfl Z' Z' Z') ?_;refine Xr (i/8) ?_;refine Ma (i:=4) (λU Z hj hR=>Ba pa.out (show U 24=Value.pointer _ from hR.1) (hj.hp.Rc (i:=0) rfl (by first|assumption|(simp only[X_];assumption)))) ?_;refine wb ?_;refine Ma (i:=7) (λU Z hj hR=>Gm Qa.out (show U 26=Value.string _ from hR.1) (show U 27=Value.int _ _ from hR.2.1) Z' (by assumption)) ?_;refine Ma (i:=8) (λU Z hj hR=>vw Qa.out Qa.out (show U 28=Value.int _ _ from hR.1) (by first|assumption|omega)) ?_;refine nN ?_
  refine Ma (i:=10) (λU Z hj hR=>rl (show U 30=Value.int _ _ from hR.1) rfl Z' Z') ?_;refine wb ?_;refine Ma (i:=12) (λU Z hj hR=>Cn (show U 29=Value.int _ _ from hR.1) (show U 32=Value.int _ _ from hR.2.1) Z') ?_;refine fK ?_;intro W I;refine sv (Lc (k:=i/8) Qa.out pa.size rfl rfl Z' Z') ?_;refine uP ?_;intro ws I;rw[N,E_ s2,TH s1,Qb (by rw[ya,ua];omega),X_,Vf,s3,<-Pe p] at I;refine fa ?_;refine⟨⟨i+1,Z',rfl,I⟩,by show a.size-(i+1)<a.size-i;omega, ?_⟩;exact Wb
 refine fa ?_;rw[w' (by rw[Zp];omega)] at I;refine qd I (Ue _ _ _ (jb 18446744073709551616 ((a.size+7)/8) (bn a.data.toList)) _ (I.ma (i:=0) rfl) (E' _) Z') rfl ?_;intro f I;refine fa ?_;have q:bn a.data.toList<18446744073709551616^((a.size+7)/8):=(by refine k_ (pY _) ?_;rw[<-M,show(256:Nat)=2^8 from rfl,show(18446744073709551616:Nat)=2^64 from rfl,<-i_,<-i_];exact J_ Z' Z');have T:Ad (jb 18446744073709551616 ((a.size+7)/8) (bn a.data.toList))=ra 18446744073709551616 (bn a.data.toList):=(by rw[bg Z' (ie Z' _ _),Db q]);have h1:=(Hp.ZK (xs:=jb 18446744073709551616 ((a.size+7)/8) (bn a.data.toList)) I (ua _ _)).at_ (i:=0) rfl;exact jW
def Sl.pS{A:Option Addr}{xs:List Nat}(h:Sl w A n 1 (Rb xs))(u:k<=n):Sl w A k 1 (Rb (xs.take k)):=by
 have Q:=h.1;rw[ya] at Q;refine⟨by rw[ya,p'];omega,λJ=> ?_⟩;obtain⟨b,he,H⟩:=h.2 Z';exact⟨b,he,by rw[xz];exact H.take k⟩
def Sl.Mp{A:Option Addr}{xs:List Nat}(h:Sl w A n 1 (Rb xs)):Sl w A (Ad xs).length 1 (Rb (Ad xs)):=by
 have Q:=h.1;rw[ya] at Q;have:=Vd xs;have h2:=h.pS (k:=(Ad xs).length) Z';rwa[<-mj] at h2
def EH{xs:List Nat}(h:Dg 18446744073709551616 xs):Ea (va 18446744073709551616 xs)<=64*xs.length:=by
 apply Zb;rw[i_];exact Ff h
variable {m:Nat}
def Jw(A)(n c:Nat)(xs)(w)(C:Sl w A n 1 (Rb xs))(T:Dg 18446744073709551616 xs)(E:n<=c)(g:n<=100000000000):Zc 290 #[.slice A n c] w (.int .i64 (Ea (va 18446744073709551616 xs))):=by
 have Q:=C.1;rw[ya] at Q;have e:=Vd xs;have X:=C.Mp;have P:=T.cut;have a:=zz xs;rw[<-Qh];generalize L:Ad xs=cs at*;have I:=Hp.start w;refine Ca func290 ?_;refine fa ?_;refine qd I (Ue _ _ _ xs _ C E Z') rfl ?_;intro y I;rw[L];by_cases J:cs.length=0
 .refine fa ?_;have:cs=[]:=Q8 J;subst this;exact⟨by rw[va,Bk];rfl,I.below⟩
 obtain⟨f,rfl,H⟩:=X.at_ Z';obtain⟨d,T⟩:=aa (l:=cs) (k:=cs.length-1) Z';have r:=Dd T;have j:=P.at_ T;have N:cs.take (cs.length-1)++[d]=cs:=by rw[<-ja T,w' Z']
 have K:d≠0:=(by intro h;subst h;apply a;rw[List.getLast?_eq_getElem?];exact T);have F:=TG (B:=18446744073709551616) (b:=64) (m:=cs.length-1) V' (P.take (cs.length-1)) (by rw[p'];omega) K;rw[N] at F;have R:Ea d<=64:=Zb (by simpa using j);refine aL (na (xa (sr (mL (xi ?_)))));refine Ct (na (cF (Fb (Za (sr (mL (xi ?_)))))));refine mulC (mL (mL (xi ?_)));refine vy ?_;refine sv (pb (k:=cs.length-1) Qa.out pa.size rfl rfl Z' Z') ?_;refine dA ?_;refine cd I (Sp _ _ j) ?_;intro D I;refine fa ?_;refine⟨?_,I.below⟩;congr 2;omega
def SH(N:Nat):(ra 256 N).length=(Ea N+7)/8:=by
 have a:(256:Nat)=2^8:=rfl;have h1:(ra 256 N).length<=(Ea N+7)/8:=(by apply jf Z';refine k_ (Ab N) ?_;rw[a,<-i_];exact J_ Z' Z');have h2:=zl (B:=256) Z' N;have G:Ea N<=8*(ra 256 N).length:=(by apply Zb;rw[i_];exact h2);omega
def Fk{B:Nat}(i N:Nat):jb B (i+1) N=jb B i N++[N/B^i % B]:=by
 apply g_;intro j;obtain h|h|h:=Nat.lt_trichotomy j i
 .rw[Wh _ _ _ Z',m9 (by rw[ua];exact h),Wh _ _ _ h]
 .subst h;rw[Wh _ _ _ Z',S9 (by rw[ua];omega),ua];simp
 rw[K_ (by rw[ua];omega),K_ (by rw[y',ua];simp;omega)]
def OL{R:List Nat}{x:Nat}:(List.replicate (k+1) 0++R).set k x=List.replicate k 0++(x::R):=by
 rw[List.replicate_succ',H_,F8 _ _ (by simp)];simp
def Be(A:Option Addr)(n c:Nat)(xs:List Nat)(w:World)(C:Sl w A n 1 (Rb xs))(T:Dg 18446744073709551616 xs)(E:n<=c)(l:n<=10000000000):Zc 261 #[.slice A n c] w (.string (str (sb (va 18446744073709551616 xs)))):=by
 have b:=C.1;rw[ya] at b;have h:=Vd xs;have X:=C.Mp;have P:=T.cut;have Y:=EH P;have g:=bg Z' T;have hlen:=SH (va 18446744073709551616 xs);rw[Qh] at Y;have I:=Hp.start w;refine Ca func261 ?_;refine fa ?_;refine qd I (Ue _ _ _ xs _ C E Z') rfl ?_;intro m I;rw[g] at h X P Y;rw[g];refine fa ?_;refine qd I (Jw _ _ _ (ra 18446744073709551616 (va 18446744073709551616 xs)) _ (X.ext I.below) P Z' Z') rfl ?_;intro z I;rw[Yd Z'];generalize va 18446744073709551616 xs=M at*;refine fa ?_;refine Ee (n:=(Ea M+7)/8) I rfl rfl Z' Z' Qa.out pa.out rfl Z' Z' V' ?_;intro Q f I;refine fa ?_;rw[Rq] at I;refine bf 15 (λv V=>∃i:Nat,i<=(Ea M+7)/8/\v=.int .i64 i/\Hp w [.row (some ⟨Q,0,none⟩) ((Ea M+7)/8) ((Ea M+7)/8) 5 1 (ig (List.replicate ((Ea M+7)/8-i) 0++(jb 256 i M).reverse))] V) (λv _=>(Ea M+7)/8-(intOf v).toNat) ?_ ?_
 .exact⟨0,J' _,rfl,by simpa[jb] using I⟩
 clear I;rintro ρ' v V ⟨i,hi,rfl,I⟩;by_cases e:i<(Ea M+7)/8
 .obtain⟨j,rfl,H⟩:=X.at_ Z';have s:=Xv (B:=18446744073709551616) (n:=M) (i:=i/8) Z' Z';have D:=Dd s;have N:((i:Int) % 8*8).toNat=i % 8*8:=Z';refine vL ?_;refine Hb (mL (mI ?_));refine vy (mI ?_);refine vy (mL (mI ?_));refine sv (Rm rfl rfl Z' Z' Z') ?_;refine sv (pb (k:=i/8) Qa.out pa.size rfl rfl Z' Z') ?_;refine dA ?_;refine fa ?_;refine sv (Tp rfl rfl Z') ?_;refine sv (VV Qa.out Qa.out rfl) ?_;refine sv (Lc (k:=(Ea M+7)/8-1-i) Qa.out pa.size rfl rfl Z' Z') ?_;refine Xa I (i:=0) (vs:=[_]) rfl rfl (Xb rfl) rfl pa.out rfl (by rw[Bc,y',F_,Q9,ua];omega) rfl ?_;intro ws I;simp only[j'] at I;obtain⟨k,u⟩:∃k,(Ea M+7)/8-i=k+1:=⟨(Ea M+7)/8-i-1,Z'⟩;rw[N,RO,X_,Qb (by rw[Bc,y',F_,Q9,ua];omega),Tr,u,show(Ea M+7)/8-1-i=k by omega,OL,<-List.reverse_concat,<-Fk] at I;refine fa ?_;refine⟨⟨i+1,Z',rfl,by rw[show(Ea M+7)/8-(i+1)=k by omega];exact I⟩,by show(Ea M+7)/8-(i+1)<(Ea M+7)/8-i;omega, ?_⟩;exact Wb
 obtain rfl:i=(Ea M+7)/8:=Z';have a:ig (List.replicate ((Ea M+7)/8-(Ea M+7)/8) 0++(jb 256 ((Ea M+7)/8) M).reverse)=bj (sb M):=(by rw[u_,D6,F',<-hlen];exact ada);rw[a] at I;exact aeu
def pk(A)(n c m:Nat)(xs)(w)(C:Sl w A n 1 (Rb xs))(B:n<=10000000000)(hm:m<=10000000000):Calls prog 291 #[.slice A n c,.int .i64 m] w λe V=>∃b,e=.returned (.slice (some ⟨b,0,none⟩) (max m n) (max m n))/\V.ownsRow w.heap.size 223 1 (.slice (some ⟨b,0,none⟩) (max m n) (max m n)) (max m n) (Rb (xs++List.replicate (max m n-n) 0))/\Below w.heap.size w V:=by
 have Q:=C.1;rw[ya] at Q;have I:=Hp.start w;refine Ca func291 ?_;refine fa ?_;refine Ee (n:=max m n) I rfl rfl Z' Z' Qa.out pa.out rfl Z' Z' V' ?_;intro z G I;refine fa ?_;rw[rj] at I;refine tK I (i:=0) (o:=0) rfl rfl rfl (C.ext I.below) Qa.out pa.out (by rw[ya,Q9];omega) (xb _) V' ?_;intro a I;skip;have N:db (Rb (List.replicate (max m n) 0)) 0 ((Rb xs).take (min n (max m n)*1))=Rb (xs++List.replicate (max m n-n) 0):=(by rw[w' (by rw[ya];omega),db,Y8,F',ya,<-Xz,<-NG,List.drop_replicate];congr 3;omega);simp only[j',N] at I;refine fa ?_;exact⟨_,rfl,I.at_ (i:=0) rfl,I.below⟩
variable {c':Nat}
def Lp(A B)(n c m c':Nat)(xs ys)(w)(C:Sl w A n 1 (Rb xs))(hy:Sl w B m 1 (Rb ys))(F:Dg 18446744073709551616 xs)(S:Dg 18446744073709551616 ys)(hc:n<=c)(o:m<=c')(hn:n<=100000000000)(hm:m<=100000000000):Zc 294 #[.slice A n c,.slice B m c'] w (.int .i64 (Eh (va 18446744073709551616 xs) (va 18446744073709551616 ys))):=by
 have p:=C.1;have R:=hy.1;rw[ya] at p R;have X:=C.Mp;have u:=hy.Mp;have hxl:=Vd xs;have hyl:=Vd ys;have b:=Can.cut F;have d:=Can.cut S;have I:=Hp.start w;rw[<-Qh xs,<-Qh ys];refine Ca func294 ?_;refine fa ?_;refine qd I (Ue _ _ _ xs _ C hc Z') rfl ?_;intro w7 I;refine mL ?_;refine qd I (Ue _ _ _ ys _ (hy.ext I.below) o Z') rfl ?_;intro w9 I;generalize Ad xs=us at*;generalize Ad ys=vs at*;by_cases hlen:us.length=vs.length
 .refine fa ?_;refine bf 5 (λv V=>∃k:Nat,k<=us.length/\v=.int .i64 ((k:Int)-1)/\us.drop k=vs.drop k/\Hp w [] V) (λv _=>(intOf v+1).toNat) ?_ ?_
  .exact⟨us.length,E' _,rfl,by rw[List.drop_length,g6 Z'],I⟩
  clear I;rintro ρ' v V ⟨k,hk,rfl,T,I⟩;by_cases h0:k=0
  .subst h0;refine fa ?_;rw[H7,H7] at T;rw[T];exact⟨by rw[DL rfl],I.below⟩
  obtain⟨j,rfl⟩:∃j,k=j+1:=⟨k-1,Z'⟩;obtain⟨x,N⟩:=aa (l:=us) (k:=j) Z';obtain⟨y,G⟩:=aa (l:=vs) (k:=j) Z';obtain⟨ad,rfl,H⟩:=X.at_ Z';obtain⟨P,rfl,K⟩:=u.at_ Z';have a:=Dd N;have i:=Dd G;by_cases D:x<y
  .have Y:=NA b.1 N G T D;refine JR ?_;refine Fa ?_;intro f W Q e;have g:=Q.bl;obtain⟨M,J,E,z,t,v30,s,r,_⟩:=e;replace I:=Q.hp;refine lg ?_;refine fa ?_;exact⟨by rw[Yj Y],I.below⟩
  by_cases L:y<x
  .have Y:=NA d.1 G N T.symm L;refine JR ?_;refine Fa ?_;intro f W Q e;have g:=Q.bl;obtain⟨M,J,E,z,t,v30,s,r,_⟩:=e;replace I:=Q.hp;refine lg ?_;refine JR ?_;refine Fa ?_;intro f W Q e;have q:=Q.bl;obtain⟨v45,v44,v43,v42,v41,v40,v39,v38,_⟩:=e;replace I:=Q.hp;refine lg ?_;refine fa ?_;exact⟨by rw[rr Y],I.below⟩
  refine JR ?_;refine dn ?_;intro W I;refine JR ?_;refine dn ?_;intro W I;refine fa ?_;refine⟨⟨j,Z',by show Value.int _ _=Value.int _ _;congr 1;omega,lC N G T Z',I⟩,by show((((j+1:Nat):Int)-1-1)+1).toNat<((((j+1:Nat):Int)-1)+1).toNat;omega, ?_⟩;exact Wb
 by_cases D:us.length<vs.length
 .have Y:va 18446744073709551616 us<va 18446744073709551616 vs:=(by refine P6 λh=> ?_;have:=d.Lx b Z' h;omega);refine fa ?_;exact⟨by rw[Yj Y],I.below⟩
 have Y:va 18446744073709551616 vs<va 18446744073709551616 us:=(by refine P6 λh=> ?_;have:=b.Lx d Z' h;omega);refine fa ?_;exact⟨by rw[rr Y],I.below⟩
def adp{y:Nat}(hy:y<18446744073709551616)(hm:m<18446744073709551616):y*m<=340282366920938463426481119284349108225:=G9 (by omega:y<=18446744073709551615) (by omega:m<=18446744073709551615)
def gz{x y c P:Nat}(C:x<18446744073709551616)(E:c<18446744073709551616)(f:P<=340282366920938463426481119284349108225)(he:P=y*m):(x+(P % 18446744073709551616+c+0) % 18446744073709551616+0) % 18446744073709551616=(x+y*m+c) % 18446744073709551616/\((P/18446744073709551616+(P % 18446744073709551616+c+0)/18446744073709551616) % 18446744073709551616+(x+(P % 18446744073709551616+c+0) % 18446744073709551616+0)/18446744073709551616) % 18446744073709551616=(x+y*m+c)/18446744073709551616/\(x+y*m+c)/18446744073709551616<18446744073709551616:=by
 rw[<-he];omega
variable {cy ny:Nat}
def Xm{H:List HE}{b M:Nat}{Y:Option Addr}(pre xs post ys:List Nat)(w:World)(I:Hp w0 (.row (some ⟨b,0,none⟩) M C 223 1 (Rb (pre++xs++post))::H) w) (hy:∀Z cs,Hp w0 (.row (some ⟨b,0,none⟩) M C 223 1 cs::H) Z->Sl Z Y ny 1 (Rb ys))(N:Dg 18446744073709551616 xs)(Q:Dg 18446744073709551616 ys)(hm:m<18446744073709551616)(s:xs.length<=100000000000)(p:ny<=100000000000):Calls prog 297 #[.slice (some ⟨b,pre.length,none⟩) xs.length c',.slice Y ny cy,.int .u64 (m:Int)] w λe V=>e=.returned (.tuple #[])/\Hp w0 (.row (some ⟨b,0,none⟩) M C 223 1 (Rb (pre++pg 18446744073709551616 xs ys m 0++post))::H) V:=by
 have R:=(hy _ _ I).1;rw[ya] at R;refine Ca func297 ?_;refine fa ?_;refine Fi 6 14 (λc i V=>∃(done rest:List Nat)(cr:Nat),done.length+rest.length=xs.length/\i=.int .i64 done.length/\c=.int .u64 (cr:Int)/\cr<18446744073709551616/\Dg 18446744073709551616 rest/\done++pg 18446744073709551616 rest (ys.drop done.length) m cr=pg 18446744073709551616 xs ys m 0/\Hp w0 (.row (some ⟨b,0,none⟩) M C 223 1 (Rb (pre++(done++rest)++post))::H) V) (λ_ i _=>xs.length-(intOf i).toNat) ?_ ?_
 .exact⟨[],xs,0,by simp,rfl,rfl,Z',N,rfl,I⟩
 clear I;rintro ρ' c i V ⟨done,rest,cr,hlen,rfl,rfl,z,f,heq,I⟩;by_cases D:done.length<xs.length
 .obtain⟨x,r,rfl⟩:∃x r,rest=x::r:=(by exact aaN);have a:=f.head;have j:=Dd (PC (pre:=pre) (done:=done) (r:=r) (post:=post) (x:=x));have t:done.length+(r.length+1)=xs.length:=by simpa using hlen
  simp only[pg,tail_drop,Gv] at heq;by_cases d:done.length<ny
  .obtain⟨y,E⟩:=aa (l:=ys) (k:=done.length) Z';obtain⟨g,rfl,_⟩:=(hy _ _ I).at_ Z';rw[E,J9] at heq;refine aax ?_;intro F;refine fa ?_;obtain⟨J,o,K⟩:=gz (y:=y) (m:=m) a z (adp F hm) rfl;refine cd I (iu y m _ F hm) ?_;intro P I;refine fa ?_;refine dk (fj (y*m % 18446744073709551616) cr 0 Z' _) (qa (Xb rfl) (qa (Xb rfl) (qa rfl Wa))) V' ?_;refine fa ?_;refine kY ?_;refine dk (fj x ((y*m % 18446744073709551616+cr+0) % 18446744073709551616) 0 Z' _) (qa (Xb rfl) (qa (Xb rfl) (qa rfl Wa))) V' ?_;refine mT ?_;refine zO ?_;intro ws I;rw[J,X_,Qb (by rw[ya];simp only[y',T_];omega),Vf,yo] at I;refine fa ?_;refine sv (Cf rfl rfl) ?_;refine fa ?_;rw[o];refine⟨⟨done++[(x+y*m+cr) % 18446744073709551616],r,_,by simp;omega,by rw[y'];rfl,rfl,K,f.tail, ?_,I⟩,by show xs.length-(done.length+1)<xs.length-done.length;omega, ?_⟩
   .rw[<-heq,H_,y'];rfl
   exact T'
  rw[K_ Z',Option.getD_none] at heq;have h:(0:Nat)<18446744073709551616:=Z';refine fa ?_;obtain⟨J,o,K⟩:=gz (y:=0) (m:=m) a z (adp h hm) rfl;refine cd I (iu 0 m _ h hm) ?_;intro P I;refine fa ?_;refine dk (fj (0*m % 18446744073709551616) cr 0 Z' _) (qa (Xb rfl) (qa (Xb rfl) (qa rfl Wa))) V' ?_;refine fa ?_;refine kY ?_;refine dk (fj x ((0*m % 18446744073709551616+cr+0) % 18446744073709551616) 0 Z' _) (qa (Xb rfl) (qa (Xb rfl) (qa rfl Wa))) V' ?_;refine mT ?_;refine zO ?_;intro ws I;rw[J,X_,Qb (by rw[ya];simp only[y',T_];omega),Vf,yo] at I;refine fa ?_;refine sv (Cf rfl rfl) ?_;refine fa ?_;rw[o];refine⟨⟨done++[(x+0*m+cr) % 18446744073709551616],r,_,by simp;omega,by rw[y'];rfl,rfl,K,f.tail, ?_,I⟩,by show xs.length-(done.length+1)<xs.length-done.length;omega, ?_⟩
  .rw[<-heq,H_,y'];rfl
  exact T'
 exact acM
def Dm{H:List HE}{b M:Nat}{Y:Option Addr}(pre xs post ys:List Nat)(w:World)(I:Hp w0 (.row (some ⟨b,0,none⟩) M C 223 1 (Rb (pre++xs++post))::H) w) (hy:∀Z cs,Hp w0 (.row (some ⟨b,0,none⟩) M C 223 1 cs::H) Z->Sl Z Y ny 1 (Rb ys))(N:Dg 18446744073709551616 xs)(Q:Dg 18446744073709551616 ys)(s:xs.length<=100000000000)(p:ny<=100000000000)(g:VG 18446744073709551616 xs ys 0=0):Calls prog 295 #[.slice (some ⟨b,pre.length,none⟩) xs.length c',.slice Y ny cy] w λe V=>e=.returned (.bool true)/\Hp w0 (.row (some ⟨b,0,none⟩) M C 223 1 (Rb (pre++Np 18446744073709551616 xs ys 0++post))::H) V:=by
 have R:=(hy _ _ I).1;rw[ya] at R;refine Ca func295 ?_;refine fa ?_;refine Fi 5 10 (λc i V=>∃(done rest:List Nat)(cr:Nat),done.length+rest.length=xs.length/\i=.int .i64 done.length/\c=.int .u64 (cr:Int)/\cr<=1/\Dg 18446744073709551616 rest/\done++Np 18446744073709551616 rest (ys.drop done.length) cr=Np 18446744073709551616 xs ys 0/\VG 18446744073709551616 rest (ys.drop done.length) cr=0/\Hp w0 (.row (some ⟨b,0,none⟩) M C 223 1 (Rb (pre++(done++rest)++post))::H) V) (λ_ i _=>xs.length-(intOf i).toNat) ?_ ?_
 .exact⟨[],xs,0,by simp,rfl,rfl,Z',N,rfl,g,I⟩
 clear I;rintro ρ' c i V ⟨done,rest,cr,hlen,rfl,rfl,z,f,heq,o,I⟩;by_cases D:done.length<xs.length
 .obtain⟨x,r,rfl⟩:∃x r,rest=x::r:=(by exact aaN);have j:=f.head;have h:=Dd (PC (pre:=pre) (done:=done) (r:=r) (post:=post) (x:=x));have t:done.length+(r.length+1)=xs.length:=by simpa using hlen
  simp only[Np,VG,tail_drop,Gv] at heq o;by_cases d:done.length<ny
  .obtain⟨y,E⟩:=aa (l:=ys) (k:=done.length) Z';obtain⟨a,rfl,_⟩:=(hy _ _ I).at_ Z';rw[E,J9] at heq o;refine aax ?_;intro F;refine aI (na (Hb (mL (mI (mL (mI ?_))))));refine EK ?_;refine dk (Hz x y cr z _) (qa (Xb rfl) (qa (Xb rfl) (qa (Xb rfl) Wa))) V' ?_;refine mT ?_;refine zO ?_;intro ws I;rw[X_,Qb (by rw[ya];simp only[y',T_];omega),Vf,yo] at I;refine fa ?_;refine⟨⟨done++[(x+18446744073709551616-y-cr) % 18446744073709551616],r,_,by simp;omega,by rw[y'];rfl,rfl,by split<;>omega,f.tail, ?_, ?_,I⟩,by show xs.length-(done.length+1)<xs.length-done.length;omega, ?_⟩
   .rw[<-heq,H_,y'];rfl
   .rw[y'];exact o
   exact T'
  rw[K_ Z',Option.getD_none] at heq o;refine vL ?_;refine sr (aI (na (xa (sr (mI (mL (xi ?_)))))));refine Wg (na (cF (Fb (Za (Hb (mL (mI (mL (mI ?_)))))))));refine EK ?_;refine dk (Hz x 0 cr z _) (qa (Xb rfl) (qa (Xb rfl) (qa (Xb rfl) Wa))) V' ?_;refine mT ?_;refine zO ?_;intro ws I;rw[X_,Qb (by rw[ya];simp only[y',T_];omega),Vf,yo] at I;refine fa ?_;refine⟨⟨done++[(x+18446744073709551616-0-cr) % 18446744073709551616],r,_,by simp;omega,by rw[y'];rfl,rfl,by split<;>omega,f.tail, ?_, ?_,I⟩,by show xs.length-(done.length+1)<xs.length-done.length;omega, ?_⟩
  .rw[<-heq,H_,y'];rfl
  .rw[y'];exact o
  exact T'
 have G:rest=[]:=Q8 Z';subst G;obtain rfl:cr=0:=o;refine fa ?_;rw[M_,Np,M_] at*;rw[<-heq];exact⟨rfl,I⟩
def RH{H:List HE}{b M:Nat}{Y:Option Addr}(pre xs post ys:List Nat)(w:World)(I:Hp w0 (.row (some ⟨b,0,none⟩) M C 223 1 (Rb (pre++xs++post))::H) w) (hy:∀Z cs,Hp w0 (.row (some ⟨b,0,none⟩) M C 223 1 cs::H) Z->Sl Z Y ny 1 (Rb ys))(N:Dg 18446744073709551616 xs)(Q:Dg 18446744073709551616 ys)(s:xs.length<=100000000000)(p:ny<=100000000000):Calls prog 292 #[.slice (some ⟨b,pre.length,none⟩) xs.length c',.slice Y ny cy] w λe V=>e=.returned (.tuple #[])/\Hp w0 (.row (some ⟨b,0,none⟩) M C 223 1 (Rb (pre++pg 18446744073709551616 xs ys 1 0++post))::H) V:=by
 have R:=(hy _ _ I).1;rw[ya] at R;refine Ca func292 ?_;refine fa ?_;refine Fi 4 9 (λc i V=>∃(done rest:List Nat)(cr:Nat),done.length+rest.length=xs.length/\i=.int .i64 done.length/\c=.int .u64 (cr:Int)/\cr<=1/\Dg 18446744073709551616 rest/\done++pg 18446744073709551616 rest (ys.drop done.length) 1 cr=pg 18446744073709551616 xs ys 1 0/\Hp w0 (.row (some ⟨b,0,none⟩) M C 223 1 (Rb (pre++(done++rest)++post))::H) V) (λ_ i _=>xs.length-(intOf i).toNat) ?_ ?_
 .exact⟨[],xs,0,by simp,rfl,rfl,Z',N,rfl,I⟩
 clear I;rintro ρ' c i V ⟨done,rest,cr,hlen,rfl,rfl,z,f,heq,I⟩;by_cases D:done.length<xs.length
 .obtain⟨x,r,rfl⟩:∃x r,rest=x::r:=(by exact aaN);have h:=f.head;have g:=Dd (PC (pre:=pre) (done:=done) (r:=r) (post:=post) (x:=x));have t:done.length+(r.length+1)=xs.length:=by simpa using hlen
  simp only[pg,tail_drop,Gv,X_] at heq;by_cases d:done.length<ny
  .obtain⟨y,E⟩:=aa (l:=ys) (k:=done.length) Z';obtain⟨a,rfl,_⟩:=(hy _ _ I).at_ Z';rw[E,J9] at heq;refine aax ?_;intro F;refine aI (na (Hb (mL (mI (mL (mI ?_))))));refine EK ?_;refine dk (fj x y cr z _) (qa (Xb rfl) (qa (Xb rfl) (qa (Xb rfl) Wa))) V' ?_;refine mT ?_;refine zO ?_;intro ws I;rw[X_,Qb (by rw[ya];simp only[y',T_];omega),Vf,yo] at I;refine fa ?_;refine⟨⟨done++[(x+y+cr) % 18446744073709551616],r,_,by simp;omega,by rw[y'];rfl,rfl,Z',f.tail, ?_,I⟩,by show xs.length-(done.length+1)<xs.length-done.length;omega, ?_⟩
   .rw[<-heq,H_,y'];rfl
   exact T'
  rw[K_ Z',Option.getD_none] at heq;refine vL ?_;refine sr (aI (na (xa (sr (mI (mL (xi ?_)))))));refine Wg (na (cF (Fb (Za (Hb (mL (mI (mL (mI ?_)))))))));refine EK ?_;refine dk (fj x 0 cr z _) (qa (Xb rfl) (qa (Xb rfl) (qa (Xb rfl) Wa))) V' ?_;refine mT ?_;refine zO ?_;intro ws I;rw[X_,Qb (by rw[ya];simp only[y',T_];omega),Vf,yo] at I;refine fa ?_;refine⟨⟨done++[(x+0+cr) % 18446744073709551616],r,_,by simp;omega,by rw[y'];rfl,rfl,Z',f.tail, ?_,I⟩,by show xs.length-(done.length+1)<xs.length-done.length;omega, ?_⟩
  .rw[<-heq,H_,y'];rfl
  exact T'
 exact acM
def NV{i d:Nat}(D:Nat)(r:D<18446744073709551616^i)(T:d<18446744073709551616)(u:i+n/64+1<k):(D*2^n)/18446744073709551616^(i+n/64) % 18446744073709551616<2^(n % 64)/\d*2^(n % 64) % 18446744073709551616=(d % 2^(64-n % 64))*2^(n % 64)/\(jb 18446744073709551616 k (D*2^n)).set (i+n/64) ((D*2^n)/18446744073709551616^(i+n/64) % 18446744073709551616+d*2^(n % 64) % 18446744073709551616)=jb 18446744073709551616 k (D*2^n+18446744073709551616^(i+n/64)*(d*2^(n % 64) % 18446744073709551616))/\(D*2^n+18446744073709551616^(i+n/64)*(d*2^(n % 64) % 18446744073709551616))/18446744073709551616^(i+n/64+1) % 18446744073709551616=0/\(jb 18446744073709551616 k (D*2^n+18446744073709551616^(i+n/64)*(d*2^(n % 64) % 18446744073709551616))).set (i+n/64+1) (d/2^(64-n % 64))=jb 18446744073709551616 k ((D+18446744073709551616^i*d)*2^n)/\(n % 64=0->D*2^n+18446744073709551616^(i+n/64)*(d*2^(n % 64) % 18446744073709551616)=(D+18446744073709551616^i*d)*2^n):=by
 have g:(18446744073709551616:Nat)=2^64:=by decide
 have K:n % 64<64:=Q_ _ Z';have f:2^n=18446744073709551616^(n/64)*2^(n % 64):=(by rw[g,<-i_,<-R_];congr 1;omega);generalize R:n/64=q at*;generalize p:n % 64=s at*;have e:(18446744073709551616:Nat)=2^(64-s)*2^s:=by rw[<-R_,g];congr 1;omega
 have A:0<2^s:=N_ Z';have a:∀j:Nat,0<18446744073709551616^j:=λj=>N_ V';have m:D*2^n<18446744073709551616^(i+q)*2^s:=(by rw[f,<-Z9,R_];exact N8 (N8 r (a q)) A);have h1:(D*2^n)/18446744073709551616^(i+q)<2^s:=by rw[N9 (a _),V_ (2^s)];exact m
 have o:2^s<=18446744073709551616:=by rw[g];exact J_ Z' Z'
 have h2:d*2^s % 18446744073709551616=(d % 2^(64-s))*2^s:=by rw[e,Nat.mul_mod_mul_right]
 have G:(d % 2^(64-s)+1)*2^s<=18446744073709551616:=(by rw[e];exact c_ _ (Q_ _ (N_ Z')));rw[H9] at G;have z:(D*2^n)/18446744073709551616^(i+q) % 18446744073709551616=(D*2^n)/18446744073709551616^(i+q):=E_ Z';have H:D*2^n+18446744073709551616^(i+q)*(d*2^s % 18446744073709551616)<18446744073709551616^(i+q+1):=(by rw[h2,B_];have:18446744073709551616^(i+q)*((d % 2^(64-s))*2^s+2^s)<=18446744073709551616^(i+q)*18446744073709551616:=D_ _ G;rw[n_] at this;omega);have b:=aaG (d:=d) (s:=s) T Z';have Y:D*2^n+18446744073709551616^(i+q)*(d*2^s % 18446744073709551616)+18446744073709551616^(i+q+1)*(d/2^(64-s))=(D+18446744073709551616^i*d)*2^n:=by
  have h:18446744073709551616^(i+q)*(d*2^s % 18446744073709551616)+18446744073709551616^(i+q+1)*(d/2^(64-s))=18446744073709551616^(i+q)*(d*2^s):=by
   conv=>rhs;rw[<-b.1,n_]
   rw[B_,Z9,V_ 18446744073709551616]
  rw[n7,h,I8,f,R_];congr 1;simp only[Z9,S6,V_]
 have P:∀j,j<k->18446744073709551616^j*18446744073709551616<=18446744073709551616^k:=λj hj=>by rw[<-B_];exact J_ V' hj
 have t:=P (i+q) Z';rw[<-B_] at t;refine⟨by rw[z];exact h1,h2, ?_, ?_, ?_, ?_⟩
 .exact ar V' Z' Z' (by rw[z,h2];omega)
 .rw[s_ H]
 .have L:(D*2^n+18446744073709551616^(i+q)*(d*2^s % 18446744073709551616))/18446744073709551616^(i+q+1) % 18446744073709551616=0:=by rw[s_ H]
  have N:d/2^(64-s)<18446744073709551616:=l_ (H8 _ _) T;have c:=ar (B:=18446744073709551616) (k:=k) (n:=D*2^n+18446744073709551616^(i+q)*(d*2^s % 18446744073709551616)) (j:=i+q+1) (v:=d/2^(64-s)) V' u ?_ (by rw[L];omega)
  .rw[L,U_,Y] at c;exact c
  have X:18446744073709551616^(i+q+1)*(d/2^(64-s)+1)<=18446744073709551616^(i+q+1)*18446744073709551616:=D_ _ N;have l:=P (i+q+1) u;rw[o9] at X;omega
 intro J;subst J;rw[<-Y];have:d/2^(64-0)=0:=s_ (by rw[<-g];exact T);rw[this];simp
def It(A)(n c m:Nat)(xs)(w)(C:Sl w A n 1 (Rb xs))(T:Dg 18446744073709551616 xs)(u:n<=1000000000)(hm:m<=10000000000):Calls prog 288 #[.slice A n c,.int .i64 (m:Int)] w λe V=>∃A c,e=.returned (.slice A (ra 18446744073709551616 (va 18446744073709551616 xs*2^m)).length c)/\V.ownsRow w.heap.size 223 1 (.slice A (ra 18446744073709551616 (va 18446744073709551616 xs*2^m)).length c) (ra 18446744073709551616 (va 18446744073709551616 xs*2^m)).length (Rb (ra 18446744073709551616 (va 18446744073709551616 xs*2^m)))/\Below w.heap.size w V:=by
 have Q:=C.1;rw[ya] at Q;have I:=Hp.start w;have a:((m:Int) % 64).toNat=m % 64:=Z';refine Ca func288 ?_;refine fa ?_;refine Ee (n:=n+m/64+1) I rfl rfl Z' Z' Qa.out pa.out rfl Z' Z' V' ?_;intro x o I;refine fa ?_;rw[rj] at I;refine bf 18 (λv V=>∃i:Nat,i<=n/\v=.int .i64 i/\Hp w [.row (some ⟨x,0,none⟩) (n+m/64+1) (n+m/64+1) 223 1 (Rb (jb 18446744073709551616 (n+m/64+1) (va 18446744073709551616 (xs.take i)*2^m)))] V) (λv _=>n-(intOf v).toNat) ?_ ?_
 .exact⟨0,J' _,rfl,by rw[Y8,va,C7,xt];exact I⟩
 clear I;rintro ρ' v V ⟨i,hi,rfl,I⟩;by_cases j:i<n
 .obtain⟨d,F⟩:=aa (l:=xs) (k:=i) Z';obtain⟨p,rfl,H⟩:=C.at_ Z';have f:=Dd F;have K:=T.at_ F;have r:=Ff (T.take i);rw[p',P9 Z'] at r;obtain⟨s1,s2,s3,s4,s5,s6⟩:=NV (k:=n+m/64+1) (n:=m) (va 18446744073709551616 (xs.take i)) r K Z';have s:=Dd (Wh (B:=18446744073709551616) (n+m/64+1) (va 18446744073709551616 (xs.take i)*2^m) (i+m/64) Z');refine fa ?_;refine I1 ?_;refine ud 8 I ?_;refine Xr (i+m/64) ?_;refine Ma (i:=3) (λU Z hj hR=>Ba pa.out (show U 29=Value.pointer _ from hR.1) (hj.hp.Rc (i:=0) rfl (by rw[X_];exact s))) ?_;refine wb ?_;refine Ma (i:=6) (λU Z hj hR=>rl (show U 32=Value.int _ _ from hR.1) rfl Z' Z') ?_;refine Ma (i:=7) (λU Z hj hR=>Cn (show U 31=Value.int _ _ from hR.1) (show U 33=Value.int _ _ from hR.2.1) Z') ?_;refine fK ?_;intro W I;refine sv (Lc (k:=i+m/64) Qa.out pa.size rfl rfl Z' Z') ?_;refine uP ?_;intro ws I;rw[a,s2,TH s1,<-s2,X_,Qb (by rw[ya,ua];omega),Vf,s3] at I;by_cases J:m % 64=0
  .refine fa ?_;rw[s6 J,<-Pe F] at I;exact UG
  have D:=Dd (Wh (B:=18446744073709551616) (n+m/64+1) (va 18446744073709551616 (xs.take i)*2^m+18446744073709551616^(i+m/64)*(d*2^(m % 64) % 18446744073709551616)) (i+m/64+1) Z');rw[s4] at D;have g:(64-(m:Int) % 64).toNat=64-m % 64:=Z';have b:d/2^(64-(m:Int) % 64).toNat<18446744073709551616:=l_ (H8 _ _) K;have h:(0:Nat)<18446744073709551616:=Z';refine fa ?_;refine ud 10 I ?_;refine Xr (i+m/64+1) ?_;refine Ma (i:=4) (λU Z hj hR=>Ba pa.out (show U 43=Value.pointer _ from hR.1) (hj.hp.Rc (i:=0) rfl (by rw[X_];exact D))) ?_;refine wb ?_;refine Ma (i:=7) (λU Z hj hR=>rl (show U 46=Value.int _ _ from hR.1) rfl Z' Z') ?_;refine wb ?_;refine Ma (i:=9) (λU Z hj hR=>Tp (show U 45=Value.int _ _ from hR.1) (show U 48=Value.int _ _ from hR.2.1) Z') ?_;refine fK ?_;intro W I;refine sv (Lc (k:=i+m/64+1) Qa.out pa.size rfl rfl Z' Z') ?_;refine uP ?_;intro ws I;rw[g,Nat.zero_or,X_,Qb (by rw[ya,ua];omega),Vf,s5,<-Pe F] at I;refine dY ?_;exact Wb
 refine fa ?_;rw[w' Z'] at I;refine qd I (Ue _ _ _ (jb 18446744073709551616 (n+m/64+1) (va 18446744073709551616 xs*2^m)) _ (I.ma (i:=0) rfl) (E' _) Z') rfl ?_;intro t I;refine fa ?_;have q:va 18446744073709551616 xs*2^m<18446744073709551616^(n+m/64+1):=(by have h1:=Ff T;rw[show xs.length=n by omega] at h1;have h2:2^m<=18446744073709551616^(m/64+1):=(by exact acO);rw[show n+m/64+1=n+(m/64+1) by omega,R_];exact k_ (N8 h1 (N_ Z')) (D_ _ h2));have T:Ad (jb 18446744073709551616 (n+m/64+1) (va 18446744073709551616 xs*2^m))=ra 18446744073709551616 (va 18446744073709551616 xs*2^m):=(by rw[bg Z' (ie Z' _ _),Db q]);have h1:=(Hp.ZK (xs:=jb 18446744073709551616 (n+m/64+1) (va 18446744073709551616 xs*2^m)) I (ua _ _)).at_ (i:=0) rfl;exact jW
def Sl.LQ{b:Addr}{xs:List Nat}(h:Sl w (some b) n 1 (Rb xs))(u:k<n):Sl w (some (b.add (k*1))) (n-k) 1 (Rb (xs.drop k)):=by
 have Q:=h.1;rw[ya] at Q;refine⟨by rw[ya,j_];omega,λJ=>⟨_,rfl, ?_⟩⟩;obtain⟨x,he,H⟩:=h.2 Z';injection he with he
 subst he;rw[X_,Xz];exact H.drop k
def CN{s:Nat}(K:s<64)(J:0<s):(N/18446744073709551616^(j+1) % 18446744073709551616)*2^(64-s) % 18446744073709551616=N/18446744073709551616^(j+1) % 2^s*2^(64-s)/\(N/18446744073709551616^j % 18446744073709551616/2^s|||(N/18446744073709551616^(j+1) % 18446744073709551616)*2^(64-s) % 18446744073709551616)=N/2^(64*j+s) % 18446744073709551616:=by
 have g:(18446744073709551616:Nat)=2^64:=by decide
 have e:(18446744073709551616:Nat)=2^s*2^(64-s):=by rw[<-R_,g];congr 1;omega
 have h1:(N/18446744073709551616^(j+1) % 18446744073709551616)*2^(64-s) % 18446744073709551616=N/18446744073709551616^(j+1) % 2^s*2^(64-s):=(by generalize N/18446744073709551616^(j+1)=m;rw[e,Nat.mul_mod_mul_right,Nat.mod_mul_right_mod]);obtain⟨h2,G⟩:=Iz N j s K J;exact⟨h1,by rw[h1,TH h2,G]⟩
def ku(A)(n c m:Nat)(xs)(w)(hx:Sl w A n 1 (Rb xs))(T:Dg 18446744073709551616 xs)(hc:n<=c)(hn:n<=1000000000)(hm:m<=1000000000000):Calls prog 289 #[.slice A n c,.int .i64 (m:Int)] w λe V=>∃A c,e=.returned (.slice A (ra 18446744073709551616 (va 18446744073709551616 xs/2^m)).length c)/\V.ownsRow w.heap.size 223 1 (.slice A (ra 18446744073709551616 (va 18446744073709551616 xs/2^m)).length c) (ra 18446744073709551616 (va 18446744073709551616 xs/2^m)).length (Rb (ra 18446744073709551616 (va 18446744073709551616 xs/2^m)))/\Below w.heap.size w V:=by
 have H:=hx.1;rw[ya] at H;have I:=Hp.start w;have K:((m:Int) % 64).toNat=m % 64:=Z';have B:(18446744073709551616:Nat)=2^64:=by decide
 have E:2^m=18446744073709551616^(m/64)*2^(m % 64):=(by rw[B,<-i_,<-R_];congr 1;omega);have D:=Ff T;rw[show xs.length=n by omega] at D;by_cases P:n<=m/64
 .have J:va 18446744073709551616 xs/2^m=0:=(by apply s_;refine k_ D (d' (J_ V' P) ?_);rw[E];exact a6 _ (N_ Z'));refine Ca func289 ?_;refine fa ?_;rw[J,Gg Z'];exact⟨none,0,rfl,World.ownsRow_nil _ _ _ _,I.below⟩
 obtain⟨ad,rfl,hr⟩:=hx.at_ Z';have hsd:=hx.LQ (k:=m/64) Z';have b:∀j,j<n->xs[j]?=some (va 18446744073709551616 xs/18446744073709551616^j % 18446744073709551616):=λj hj=>(by obtain⟨d,u⟩:=aa (l:=xs) (k:=j) Z';rw[u,wv T u]);refine Ca (l:=[.slice (some ad) n c,.int .i64 (m:Int)]) func289 ?_;refine fa ?_;refine sv (OD (l:=m/64) Qa.out pa.size rfl rfl Z' Z' Z' Z') ?_;refine te (pk _ _ _ 0 _ _ hsd Z' Z') rfl ?_;rintro e_ w_ ⟨q,rfl,t,M⟩;refine iq ?_;intro I;rw[Nat.zero_max,u_,D6,M_] at I;rw[Nat.zero_max];refine fa ?_;refine bf 19 (λv V=>∃i:Nat,i<=n-m/64/\v=.int .i64 i/\Hp w [.row (some ⟨q,0,none⟩) (n-m/64) (n-m/64) 223 1 (Rb (jb 18446744073709551616 i (va 18446744073709551616 xs/2^m)++xs.drop (m/64+i)))] V) (λv _=>(n-m/64)-(intOf v).toNat) ?_ ?_
 .exact⟨0,J' _,rfl,I⟩
 clear I;rintro ρ' v V ⟨i,hi,rfl,I⟩;by_cases hlt2:i<n-m/64
 .have S:=b (m/64+i) Z';have F:xs.drop (m/64+i)=(va 18446744073709551616 xs/18446744073709551616^(m/64+i) % 18446744073709551616)::xs.drop (m/64+i+1):=(by rw[K8 Z'];congr 1;have:=x'.1 S;exact this.2);have L:(jb 18446744073709551616 i (va 18446744073709551616 xs/2^m)++xs.drop (m/64+i))[i]?=some (va 18446744073709551616 xs/18446744073709551616^(m/64+i) % 18446744073709551616):=(by rw[S9 (by rw[ua];omega),ua,F];simp);have hg:=Dd L;have p:∀y,(jb 18446744073709551616 i (va 18446744073709551616 xs/2^m)++xs.drop (m/64+i)).set i y=jb 18446744073709551616 i (va 18446744073709551616 xs/2^m)++y::xs.drop (m/64+i+1):=λy=>(by rw[F,F8 _ _ (by rw[ua];omega),ua,u_,j']);have o:(jb 18446744073709551616 i (va 18446744073709551616 xs/2^m)++xs.drop (m/64+i)).length=n-m/64:=by rw[y',ua,j_];omega
  have h:∀y,jb 18446744073709551616 i (va 18446744073709551616 xs/2^m)++y::xs.drop (m/64+i+1)=(jb 18446744073709551616 i (va 18446744073709551616 xs/2^m)++[y])++xs.drop (m/64+(i+1)):=λy=>List.append_cons _ _ _;have r:jb 18446744073709551616 (i+1) (va 18446744073709551616 xs/2^m)=jb 18446744073709551616 i (va 18446744073709551616 xs/2^m)++[va 18446744073709551616 xs/2^(64*(m/64+i)+m % 64) % 18446744073709551616]:=(by rw[Fk,l9];congr 4;rw[B,<-i_,<-R_];congr 1;omega);refine fa ?_;refine pI ?_;refine sv (Tp rfl rfl Z') ?_;refine fa ?_;refine Xa I (i:=0) (vs:=[_]) rfl rfl (Xb rfl) rfl pa.out rfl (by rw[ya,o];omega) rfl ?_;intro ws I;simp only[j'] at I;rw[K,X_,Qb (by rw[ya,o];omega),Vf,p] at I;by_cases J:m % 64=0
  .have g:va 18446744073709551616 xs/18446744073709551616^(m/64+i) % 18446744073709551616/2^(m % 64)=va 18446744073709551616 xs/2^(64*(m/64+i)+m % 64) % 18446744073709551616:=(by rw[J,x7,Y7,I9,i_,<-B]);by_cases H:i+1<n-m/64
   .refine dT ?_;intro I;exact Wb
   refine dT ?_;intro I;exact Wb
  by_cases H:i+1<n-m/64
  .have Q:=b (m/64+i+1) Z';have X:=Dd Q;obtain⟨d1,d2⟩:=CN (N:=va 18446744073709551616 xs) (j:=m/64+i) (s:=m % 64) (Q_ _ Z') Z';have a:(jb 18446744073709551616 i (va 18446744073709551616 xs/2^m)++(va 18446744073709551616 xs/18446744073709551616^(m/64+i) % 18446744073709551616/2^(m % 64))::xs.drop (m/64+i+1))[i]?=some (va 18446744073709551616 xs/18446744073709551616^(m/64+i) % 18446744073709551616/2^(m % 64)):=(by rw[S9 (by rw[ua];omega),ua];simp);have G:=Dd a;have R:∀y z,(jb 18446744073709551616 i (va 18446744073709551616 xs/2^m)++y::xs.drop (m/64+i+1)).set i z=jb 18446744073709551616 i (va 18446744073709551616 xs/2^m)++z::xs.drop (m/64+i+1):=λy z=>(by rw[F8 _ _ (by rw[ua];omega),ua,u_,j']);have f:∀y,(jb 18446744073709551616 i (va 18446744073709551616 xs/2^m)++y::xs.drop (m/64+i+1)).length=n-m/64:=λy=>by rw[y',ua,T_,j_];omega
   have Y:(64-(m:Int) % 64).toNat=64-m % 64:=Z';have b1:va 18446744073709551616 xs/18446744073709551616^(m/64+i) % 18446744073709551616/2^(m % 64)<18446744073709551616:=l_ (H8 _ _) (Q_ _ Z');have b2:va 18446744073709551616 xs/18446744073709551616^(m/64+i+1) % 18446744073709551616*2^(64-(m:Int) % 64).toNat % 18446744073709551616<18446744073709551616:=Q_ _ Z';refine fa ?_;refine ud 16 I ?_;refine Xr (i) ?_;refine Ma (i:=3) (λU Z hj hR=>Ba pa.out (show U 42=Value.pointer _ from hR.1) (hj.hp.Rc (i:=0) rfl (by rw[X_];exact G))) ?_;refine wb ?_;refine Ma (i:=6) (λU Z hj hR=>Rm (show U 45=Value.int _ _ from hR.1) rfl Z' Z' Z') ?_;refine wb ?_;refine Ui (m/64+i+1) ?_;refine uo (λ_ hj=>(hr.ext hj.hp.below).Yr X) ?_;refine nN ?_;refine Ma (i:=13) (λU Z hj hR=>rl (show U 52=Value.int _ _ from hR.1) rfl Z' Z') ?_;refine wb ?_;refine Ma (i:=15) (λU Z hj hR=>Cn (show U 51=Value.int _ _ from hR.1) (show U 54=Value.int _ _ from hR.2.1) Z') ?_;refine fK ?_;intro W I;refine fa ?_
   refine Xa I (i:=0) (vs:=[_]) rfl rfl (Xb rfl) rfl pa.out rfl (by rw[ya,f];omega) rfl ?_;intro ws I;simp only[j'] at I;rw[Y,d2,X_,Qb (by rw[ya,f];omega),Vf,R,h,<-r] at I;refine fa ?_;refine⟨⟨i+1,Z',rfl,I⟩,by show(n-m/64)-(i+1)<(n-m/64)-i;omega, ?_⟩;exact Wb
  have g:va 18446744073709551616 xs/18446744073709551616^(m/64+i) % 18446744073709551616/2^(m % 64)=va 18446744073709551616 xs/2^(64*(m/64+i)+m % 64) % 18446744073709551616:=(by obtain⟨h2,h3⟩:=Iz (va 18446744073709551616 xs) (m/64+i) (m % 64) (Q_ _ Z') Z';have h4:va 18446744073709551616 xs/18446744073709551616^(m/64+i+1)=0:=s_ (k_ D (J_ V' Z'));rw[h4] at h3;simpa using h3);refine dT ?_;intro I;exact Wb
 obtain rfl:i=n-m/64:=Z';rw[g6 Z',M_] at I;refine fa ?_;refine qd I (Ue _ _ _ (jb 18446744073709551616 (n-m/64) (va 18446744073709551616 xs/2^m)) _ (I.ma (i:=0) rfl) (E' _) Z') rfl ?_;intro w60 I;refine fa ?_;have C:va 18446744073709551616 xs/2^m<18446744073709551616^(n-m/64):=(by rw[N9 (N_ Z'),E,<-Z9,<-R_,show n-m/64+m/64=n by omega];exact k_ D (a6 _ (N_ Z')));have T:Ad (jb 18446744073709551616 (n-m/64) (va 18446744073709551616 xs/2^m))=ra 18446744073709551616 (va 18446744073709551616 xs/2^m):=(by rw[bg Z' (ie Z' _ _),Db C]);have h1:=(Hp.ZK (xs:=jb 18446744073709551616 (n-m/64) (va 18446744073709551616 xs/2^m)) I (ua _ _)).at_ (i:=0) rfl;exact jW
def bN(a:ByteArray):Nat:=bn a.data.toList
def sN(n:Nat):ByteArray:=str (sb n)
def ze(n:Nat):bN (sN n)=n:=by rw[bN,sN,vc,adX]
def Zg(n:Nat):(sN n).size=(Ea n+7)/8:=by rw[sN,yg,NN,SH]
def fB{a b:Nat}(h:sN a=sN b):a=b:=by rw[<-ze a,h,ze]
def Yh:sN 0=ByteArray.mk #[]:=by rw[sN,WW];rfl
def BA(a:ByteArray):bN a<256^a.size:=by rw[Hc];exact pY _
def yf(a):Ea (bN a)<=8*a.size:=by
 apply Zb;have:=BA a;rwa[show(256:Nat)=2^8 from rfl,<-i_] at this
def jN(h:n<256^k):(ra 18446744073709551616 n).length<=(k+7)/8:=by
 apply jf Z';refine k_ h ?_;rw[show(256:Nat)=2^8 from rfl,show(18446744073709551616:Nat)=2^64 from rfl,<-i_,<-i_];exact J_ Z' Z'
def Te(a):(ra 18446744073709551616 (bN a)).length<=(a.size+7)/8:=jN (BA a)
def Pf(n:Nat):Dg 18446744073709551616 (ra 18446744073709551616 n):=(Ed Z' n).1
def Pd(n:Nat):va 18446744073709551616 (ra 18446744073709551616 n)=n:=Yd Z' n
def Dc(a:ByteArray)(w)(M:a.size<=1000000000):Calls prog 251 #[.string a] w λe V=>∃b c,e=.returned (.slice (some ⟨b,0,none⟩) (ra 18446744073709551616 (bN a)).length c)/\V.ownsRow w.heap.size 223 1 (.slice (some ⟨b,0,none⟩) (ra 18446744073709551616 (bN a)).length c) (ra 18446744073709551616 (bN a)).length (Rb (ra 18446744073709551616 (bN a)))/\Below w.heap.size w V:=xN a w Z'
def Zt(n:Nat)(w)(B:n<18446744073709551616):Zc 203 #[.int .u64 (n:Int)] w (.string (sN n)):=by
 have I:=Hp.start w;refine Ca func203 ?_;refine fa ?_;refine IA ?_;intro D y I;refine qd I (Be _ _ _ [n] _ (I.ma (i:=0) rfl) (Dg.cons B Dg.nil) (E' _) Z') rfl ?_;intro v I;refine fa ?_;refine⟨?_,I.below⟩;rw[sN];simp[va]
def tC(a b:ByteArray)(w)(M:a.size<=1000000000)(F:b.size<=1000000000):Zc 293 #[.string a,.string b] w (.int .i64 (Eh (bN a) (bN b))):=by
 have I:=Hp.start w;have h1:=Te a;have h2:=Te b;refine Ca func293 ?_;refine fa ?_;refine fN I (Dc a _ M) ?_;intro c P A I;refine mS ?_;refine fN I (Dc b _ F) ?_;intro e K o I;refine XE ?_;intro z I;rw[Pd,Pd];refine fa ?_;exact⟨rfl,I.below⟩
def Ll(a:ByteArray)(w)(M:a.size<=1000000000):Zc 255 #[.string a] w (.int .i64 (Ea (bN a))):=by
 have I:=Hp.start w;have h1:=Te a;refine Ca func255 ?_;refine fa ?_;refine fN I (Dc a _ M) ?_;intro t H y I;refine qd I (Jw _ _ _ (ra 18446744073709551616 (bN a)) _ (I.ma (i:=0) rfl) (Pf _) (I.ve (i:=0) rfl) Z') rfl ?_;intro v I;rw[Pd];refine fa ?_;exact⟨rfl,I.below⟩
def Cg(n m:Nat):Ea (n*2^m)<=Ea n+m:=by
 apply Zb;rw[R_];exact N8 (Ab n) (N_ Z')
def Kw(n:Nat):(ra 18446744073709551616 n).length<=(Ea n+63)/64:=by
 apply jf Z';refine k_ (Ab n) ?_;exact acO
def qD(a:ByteArray)(m:Nat)(w)(M:a.size<=1000000000)(hm:m<=10000000000):Zc 253 #[.string a,.int .i64 (m:Int)] w (.string (sN (bN a*2^m))):=by
 have I:=Hp.start w;have h1:=Te a;have h2:=Kw (bN a*2^m);have b:=Cg (bN a) m;have z:=yf a;have N:(if(0:Int)>(m:Int) then 0 else(m:Int))=m:=Q' Z';refine Ca func253 ?_;refine fa ?_;refine fN I (Dc a _ M) ?_;intro c P A I;refine fa ?_;rw[N];refine lW I (It _ _ _ m (ra 18446744073709551616 (bN a)) _ (I.ma (i:=0) rfl) (Pf _) Z' hm) rfl ?_;intro C X d I;rw[Pd] at*;refine qd I (Be _ _ _ (ra 18446744073709551616 (bN a*2^m)) _ (I.ma (i:=0) rfl) (Pf _) (I.ve (i:=0) rfl) Z') rfl ?_;intro G I;rw[Pd];refine fa ?_;exact⟨rfl,I.below⟩
def Qr(n m:Nat):Ea (n/2^m)<=Ea n:=by
 apply Zb;exact l_ (H8 _ _) (Ab n)
def LC(a:ByteArray)(m:Nat)(w)(M:a.size<=1000000000)(hm:m<=1000000000000):Zc 254 #[.string a,.int .i64 (m:Int)] w (.string (sN (bN a/2^m))):=by
 have I:=Hp.start w;have h1:=Te a;have h2:=Kw (bN a/2^m);have b:=Qr (bN a) m;have z:=yf a;have N:(if(0:Int)>(m:Int) then 0 else(m:Int))=m:=Q' Z';refine Ca func254 ?_;refine fa ?_;refine fN I (Dc a _ M) ?_;intro c P A I;refine fa ?_;rw[N];refine lW I (ku _ _ _ m (ra 18446744073709551616 (bN a)) _ (I.ma (i:=0) rfl) (Pf _) (I.ve (i:=0) rfl) Z' hm) rfl ?_;intro C X d I;rw[Pd] at*;refine qd I (Be _ _ _ (ra 18446744073709551616 (bN a/2^m)) _ (I.ma (i:=0) rfl) (Pf _) (I.ve (i:=0) rfl) Z') rfl ?_;intro G I;rw[Pd];refine fa ?_;exact⟨rfl,I.below⟩
def KV{x y:Nat}(h:y<=x):VG 18446744073709551616 (ra 18446744073709551616 x) (ra 18446744073709551616 y) 0=0/\va 18446744073709551616 (Np 18446744073709551616 (ra 18446744073709551616 x) (ra 18446744073709551616 y) 0)=x-y:=by
 have:=tF (B:=18446744073709551616) Z' (ra 18446744073709551616 x) (ra 18446744073709551616 y) 0 (Pf _) (Pf _) Z' (by rw[Pd,Pd];omega);rw[Pd,Pd] at this;exact⟨this.2,Z'⟩
def Vq(a b:ByteArray)(w:World)(M:a.size<=1000000000)(F:b.size<=1000000000):Zc 258 #[.string a,.string b] w (.tuple #[.string (sN (bN a-bN b)),.bool (decide (bN b<=bN a))]):=by
 have I:=Hp.start w;have h1:=Te a;have h2:=Te b;by_cases D:bN a<bN b
 .refine Ca func258 ?_;refine fa ?_;refine fN I (Dc a _ M) ?_;intro C X z I;refine mS ?_;refine fN I (Dc b _ F) ?_;intro J j t I;refine fa ?_;refine XE ?_;intro Y I;rw[Pd,Pd,Yj D];exact adV
 obtain⟨s1,s2⟩:=KV (H6 D);have E:¬Eh (bN a) (bN b)<0:=by unfold Eh;split<;>(try split)<;>omega
 refine Ca func258 ?_;refine fa ?_;refine fN I (Dc a _ M) ?_;intro C X z I;refine mS ?_;refine fN I (Dc b _ F) ?_;intro J j t I;refine fa ?_;refine XE ?_;intro Y I;rw[Pd,Pd];refine fa ?_;replace I:=I.front 1 rfl;rw[<-M_ (ra 18446744073709551616 (bN a)),<-F' (ra 18446744073709551616 (bN a))] at I;have o:=(I.iV (i:=0) rfl);rw[F',M_] at o;refine te (Dm [] (ra 18446744073709551616 (bN a)) [] (ra 18446744073709551616 (bN b)) _ I (λZ cs h=>h.ma (i:=1) rfl) (Pf _) (Pf _) Z' Z' s1) rfl ?_;rintro H w_ ⟨rfl,I⟩;refine⟨_,rfl, ?_⟩;simp only[F',M_] at I;refine fa ?_;refine qd I (Be _ _ _ (Np 18446744073709551616 (ra 18446744073709551616 (bN a)) (ra 18446744073709551616 (bN b)) 0) _ (I.ma (i:=0) rfl) (QJ Z' _ _ _) (I.ve (i:=0) rfl) Z') rfl ?_;intro g I;rw[s2];refine fa ?_;rw[m' Z'];exact⟨rfl,I.below⟩
def SA(a b:ByteArray)(w)(M:a.size<=1000000000)(F:b.size<=1000000000):Zc 260 #[.string a,.string b] w (.string (sN (bN a*bN b))):=by
 have I:=Hp.start w;have h1:=Te a;have h2:=Te b;refine Ca func260 ?_;refine fa ?_;refine fN I (Dc a _ M) ?_;intro J j e I;refine mS ?_;refine fN I (Dc b _ F) ?_;intro d u f I;have N:=Pf (bN a);have Q:=Pf (bN b);have t:=Pd (bN a);have g:=Pd (bN b);generalize ra 18446744073709551616 (bN a)=xs at*;generalize ra 18446744073709551616 (bN b)=ys at*;refine fa ?_;refine Ee (n:=xs.length+ys.length+1) I rfl rfl Z' Z' Qa.out pa.out rfl Z' Z' V' ?_;intro yW G I;refine fa ?_;rw[rj] at I;refine bf 23 (λv V=>∃(i:Nat)(L:List Nat),i<=xs.length/\v=.int .i64 i/\Dg 18446744073709551616 L/\L.length=xs.length+ys.length+1/\va 18446744073709551616 L=va 18446744073709551616 (xs.take i)*va 18446744073709551616 ys/\Hp w [.row (some ⟨yW,0,none⟩) (xs.length+ys.length+1) (xs.length+ys.length+1) 223 1 (Rb L),.row (some ⟨d,0,none⟩) ys.length u 223 1 (Rb ys),.row (some ⟨J,0,none⟩) xs.length j 223 1 (Rb xs)] V) (λv _=>xs.length-(intOf v).toNat) ?_ ?_
 .exact⟨0,_,J' _,rfl,Dg.Ld Z' _,by simp,by simp[Di,va],I⟩
 clear I;rintro ρ' v V ⟨i,L,hi,rfl,z,C,A,I⟩;by_cases D:i<xs.length
 .obtain⟨m,hm⟩:=aa (l:=xs) (k:=i) Z';have K:=Dd hm;have y:=N.at_ hm;have s:(L.take i).length=i:=by rw[p'];omega
  have p:(L.drop i).length=xs.length+ys.length+1-i:=by rw[j_];omega
  refine wM ?_;refine sv (xI (l:=i) Qa.out pa.size rfl rfl Z' Z' Z' Z') ?_;refine fa ?_;have E:=Xm (c':=xs.length+ys.length+1-i) (ny:=ys.length) (cy:=u) (m:=m) (Y:=some ⟨d,0,none⟩) (L.take i) (L.drop i) [] ys _ (by rw[M_,q_];exact I) (λZ cs h=>h.ma (i:=1) rfl) (z.drop i) Q y Z' Z';rw[s,p,M_] at E;rw[U_,X_];refine Wi (E) ?_;rintro R w_ ⟨rfl,I⟩;refine⟨_,rfl, ?_⟩;have H:=Ff (N.take (i+1));have x:=Ff Q;rw[p',P9 Z'] at H;have X:=Pe (B:=18446744073709551616) hm;have c:=Zf (B:=18446744073709551616) L i Z';have r:18446744073709551616^i*(va 18446744073709551616 (L.drop i)+va 18446744073709551616 ys*m+0)+va 18446744073709551616 (L.take i)=va 18446744073709551616 (xs.take (i+1))*va 18446744073709551616 ys:=(by rw[X,I8,<-A,c,I9,n_,Z9,V_ m];omega);have q:va 18446744073709551616 (L.drop i)+va 18446744073709551616 ys*m+0<18446744073709551616^(L.drop i).length:=(by refine Nat.lt_of_mul_lt_mul_left (a:=18446744073709551616^i) ?_;rw[<-R_,p];refine l_ (Nat.le_add_right _ (va 18446744073709551616 (L.take i))) ?_;rw[r];refine k_ (G6 H x) ?_;rw[<-R_];exact J_ V' Z');have o:=Dt (B:=18446744073709551616) Z' _ _ _ _ q;refine fa ?_;refine⟨⟨i+1,L.take i++pg 18446744073709551616 (L.drop i) ys m 0,Z',rfl,(z.take i).append (vx Z' _ _ _ _),by rw[y',Hl,s,p];omega, ?_,I⟩,by show xs.length-(i+1)<xs.length-i;omega, ?_⟩
  .rw[nc,o,s,O8];exact r
  exact T'
 obtain rfl:i=xs.length:=Z';rw[X6,t,g] at A;refine fa ?_;refine qd I (Be _ _ _ L _ (I.ma (i:=0) rfl) z (E' _) Z') rfl ?_;intro P I;rw[A];refine fa ?_;exact⟨rfl,I.below⟩
def KW{d r:Nat}(T:d≠0)(K:d<18446744073709551616)(B:n=18446744073709551616^k*(d+18446744073709551616*r)):tz n=64*k+tz d:=by
 obtain⟨m,hm⟩:=Mu T;have S:tz d<64:=cz T (by simpa using K);have g:(18446744073709551616:Nat)=2^64:=by decide
 generalize tz d=t at*;have e:n=2^(64*k+t)*(2*(m+2^(63-t)*r)+1):=by
  rw[B,R_,i_,<-g,Z9];congr 1;have h1:18446744073709551616=2^t*(2*2^(63-t)):=by rw[g,<-Nat.pow_succ',<-R_];congr 1;omega
  have h2:18446744073709551616*r=2^t*(2*2^(63-t)*r):=by rw[<-Z9,<-h1]
  rw[h2]
  conv=>lhs;rw[hm]
  rw[<-n_];congr 1;rw[n_,Z9];omega
 rw[e,rL]
def Hj(a:ByteArray)(w)(M:a.size<=1000000000)(S:Gc w):Zc 197 #[.string a] w (.int .i64 (tz (bN a))):=by
 have I:=Hp.start w;have h1:=Te a;refine Ca func197 ?_;refine fa ?_;refine fN I (Dc a _ M) ?_;intro c P A I;have N:=Pf (bN a);have t:=Pd (bN a);generalize ra 18446744073709551616 (bN a)=xs at*;refine fa ?_;refine bf 8 (λv V=>∃(i:Nat),i<=xs.length/\v=.int .i64 i/\va 18446744073709551616 (xs.take i)=0/\Hp w [.row (some ⟨c,0,none⟩) xs.length P 223 1 (Rb xs)] V) (λv _=>xs.length-(intOf v).toNat) ?_ ?_
 .exact⟨0,J' _,rfl,rfl,I⟩
 clear I;rintro ρ' v V ⟨i,hi,rfl,o,I⟩;by_cases D:i<xs.length
 .obtain⟨d,hm⟩:=aa (l:=xs) (k:=i) Z';have K:=Dd hm;have y:=N.at_ hm;by_cases J:d=0
  .subst J;refine fa ?_;refine pI ?_;refine⟨⟨i+1,Z',rfl,by rw[Pe hm,o];simp,I⟩,by show xs.length-(i+1)<xs.length-i;omega, ?_⟩;exact Wb
  have b:tz (bN a)=64*i+tz d:=(by have G:=Zf (B:=18446744073709551616) xs i Z';have z:=(x'.1 hm);rw[o,K8 D,z.2,va,t,U_] at G;exact KW J y G);have e:tz d<64:=cz J (by simpa using y);refine fa ?_;refine pI ?_;refine cd I (rI _ _ y J (S.hp I)) ?_;intro g I;refine fa ?_;refine⟨?_,I.below⟩;congr 2;omega
 refine fa ?_;rw[w' Z',t] at o;rw[o];exact⟨rfl,I.below⟩
def YX{x y:Nat}(C:x<18446744073709551616^k)(hy:y<18446744073709551616^k):va 18446744073709551616 (pg 18446744073709551616 (ra 18446744073709551616 x++List.replicate (k+1-(ra 18446744073709551616 x).length) 0) (ra 18446744073709551616 y) 1 0)=x+y:=by
 have Q:=jf (B:=18446744073709551616) Z' C;have h1:va 18446744073709551616 (ra 18446744073709551616 x++List.replicate (k+1-(ra 18446744073709551616 x).length) 0)=x:=by rw[nc,Di,Pd];simp
 have h2:(ra 18446744073709551616 x++List.replicate (k+1-(ra 18446744073709551616 x).length) 0).length=k+1:=by rw[y',Q9];omega
 rw[Dt Z',h1,Pd]
 .omega
 rw[h1,h2,Pd,B_];have:0<18446744073709551616^k:=N_ V';omega
def Hs(l:List Nat)(x:Nat):(l++[x]).sum=l.sum+x:=by simp
def tD(L)(n c:Nat)(ss:List ByteArray)(w)(p:Sl w L n 1 (AE ss))(hn:n<=1000000)(K:∀s∈ss,s.size<=1000000000):Zc 256 #[.slice L n c] w (.string (sN (ss.map bN).sum)):=by
 have G:ss.length=n:=by have:=p.1;rw[qu] at this;omega
 have I:=Hp.start w;refine Ca func256 ?_;refine fa ?_;replace I:=I.rb 223 1;refine Fi 3 9 (λv j V=>∃(i:Nat)(A:Option Addr)(c' T:Nat),i<=n/\j=.int .i64 i/\T=((ss.take i).map bN).sum/\v=.slice A (ra 18446744073709551616 T).length c'/\(ra 18446744073709551616 T).length<=125000001+i/\Hp w [.row A (ra 18446744073709551616 T).length c' 223 1 (Rb (ra 18446744073709551616 T))] V) (λ_ j _=>n-(intOf j).toNat) ?_ ?_
 .exact⟨0,none,0,0,J' _,rfl,rfl,by rw[Gg Z'];rfl,by rw[Gg Z'];simp,by rw[Gg Z'];exact I⟩
 clear I;rintro ρ' v j V ⟨i,A,c',T,hi,rfl,S,rfl,u,I⟩;by_cases D:i<n
 .obtain⟨s,r⟩:=aa (l:=ss) (k:=i) Z';obtain⟨ad,rfl,C⟩:=p.at_ Z';have F:=GM r;have g:=K s (N' r);have z:=Te s;have W:((ss.take (i+1)).map bN).sum=T+bN s:=by rw[ja r,G_,N7,Hs,S]
  have N:(if((ra 18446744073709551616 (bN s)).length:Int)>((ra 18446744073709551616 T).length:Int) then((ra 18446744073709551616 (bN s)).length:Int) else((ra 18446744073709551616 T).length:Int))+1=((max (ra 18446744073709551616 T).length (ra 18446744073709551616 (bN s)).length+1:Nat):Int):=by split<;>omega
  have b:T<18446744073709551616^max (ra 18446744073709551616 T).length (ra 18446744073709551616 (bN s)).length:=k_ (zl Z' T) (J_ V' (Nat.le_max_left _ _));have R:bN s<18446744073709551616^max (ra 18446744073709551616 T).length (ra 18446744073709551616 (bN s)).length:=k_ (zl Z' (bN s)) (J_ V' (Nat.le_max_right _ _));have a:=YX b R;refine fa ?_;refine sv (Ba pa.out rfl ((C.ext I.below).Yr (by assumption))) ?_;refine fa ?_;refine fN I (Dc s _ g) ?_;intro P Q w14 I;refine fa ?_;rw[N];generalize hM:max (ra 18446744073709551616 T).length (ra 18446744073709551616 (bN s)).length=M at*;refine te (pk _ _ _ (M+1) _ _ (I.ma (i:=1) rfl) Z' Z') rfl ?_;rintro H w_ ⟨q,rfl,t,d⟩;refine⟨_,rfl, ?_⟩;replace I:=I.pd (x:=.row _ _ _ _ _ _) d t;have m:max (M+1) (ra 18446744073709551616 T).length=M+1:=Z';rw[m] at I;rw[m];refine fa ?_
  have E:=RH (c':=M+1) (ny:=(ra 18446744073709551616 (bN s)).length) (cy:=Q) (Y:=some ⟨P,0,none⟩) [] (ra 18446744073709551616 T++List.replicate (M+1-(ra 18446744073709551616 T).length) 0) [] (ra 18446744073709551616 (bN s)) _ (by rw[M_,F'];exact I) (λZ cs h=>h.ma (i:=1) rfl) ((Pf _).append (Dg.Ld Z' _)) (Pf _) (by rw[y',Q9];omega) Z';have X:(ra 18446744073709551616 T++List.replicate (M+1-(ra 18446744073709551616 T).length) 0).length=M+1:=by rw[y',Q9];omega
  rw[X,M_,F'] at E;refine Wi (E) ?_;rintro H w_ ⟨rfl,I⟩;refine⟨_,rfl, ?_⟩;have f:(pg 18446744073709551616 (ra 18446744073709551616 T++List.replicate (M+1-(ra 18446744073709551616 T).length) 0) (ra 18446744073709551616 (bN s)) 1 0).length=M+1:=by rw[Hl,X]
  have J:=vx (B:=18446744073709551616) Z' (ra 18446744073709551616 T++List.replicate (M+1-(ra 18446744073709551616 T).length) 0) (ra 18446744073709551616 (bN s)) 1 0;generalize pg 18446744073709551616 (ra 18446744073709551616 T++List.replicate (M+1-(ra 18446744073709551616 T).length) 0) (ra 18446744073709551616 (bN s)) 1 0=o at*;have e:Ad o=ra 18446744073709551616 (T+bN s):=by rw[bg Z' J,a]
  have y:=Vd o;refine fa ?_;refine qd I (Ue _ _ _ o _ (I.ma (i:=0) rfl) (E' _) Z') rfl ?_;intro w27 I;replace I:=(I.ZK f).sub (B6 [_] _);rw[e] at*;refine fa ?_;refine⟨⟨i+1,_,_,T+bN s,Z',rfl,W.symm,rfl,Z',I⟩,by show n-(i+1)<n-i;omega, ?_⟩;exact Wb
 refine fa ?_;refine qd I (Be _ _ _ (ra 18446744073709551616 T) _ (I.ma (i:=0) rfl) (Pf _) (I.ve (i:=0) rfl) Z') rfl ?_;intro w30 I;rw[Pd];refine fa ?_;rw[w' Z'] at S;rw[S];exact⟨rfl,I.below⟩
def gI(s:ByteArray)(l h:Nat):s.extract l h=str ((s.data.toList.take h).drop l):=by
 apply Ew;rw[vc];simp[ByteArray.extract,ByteArray.copySlice,List.drop_take]
def aaR:Value->Nat
 |.string t=>t.size
 |_=>0
def xx(s)(w):Zc 312 #[.string s,.int .u8 ((0:UInt8).toNat:Int)] w (.string (sN (bN s))):=by
 have I:=Hp.start w;refine Ca func312 ?_;refine fa ?_;refine bf 0 (λv V=>∃l:List UInt8,v=.string (str l)/\l.length<=s.size/\bn l=bN s/\V=w) (λv _=>aaR v) ?_ ?_
 .exact⟨s.data.toList,by rw[RP];rfl,by rw[Hc];exact E' _,rfl,rfl⟩
 rintro ρ' v V ⟨l,rfl,Q,F,rfl⟩;have M:=yg l
 cases l with
 |nil=>
  refine fa ?_;rw[sN,<-F];exact⟨rfl,I.below⟩
 |cons c l=>
  have i:(str (c::l)).data.toList[(0:Int).toNat]?=some c:=by rw[vc];rfl
  have R:=c.toNat_lt;have hlen:(str (c::l)).size=l.length+1:=by rw[M];rfl
  have o:(0:UInt8).toNat=0:=rfl;by_cases J:c=0
  .subst J;refine fa ?_;refine sv (ru (l:=1) (h:=(str ((0:UInt8)::l)).size) Qa.out rfl ⟨_,_,rfl,Z'⟩ rfl Z' Z') ?_;refine fa ?_;rw[gI,vc,w' (by rw[hlen];simp),List.drop_succ_cons,H7];refine⟨⟨l,rfl,by simp at Q;omega,by rw[<-F,rU],rfl⟩, ?_, ?_⟩
   .show(str l).size<(str (0::l)).size;rw[hlen,yg];omega
   exact T'
  have y:c.toNat≠0:=λh=>J (Q6.1 h);refine fa ?_;rw[sN,<-F,adM (by simpa using J)];exact⟨rfl,I.below⟩
def Nv(s)(w):Zc 296 #[.string s,.string (ByteArray.mk #[0])] w (.string (sN (bN s))):=by
 have I:=Hp.start w;have E:¬ByteArray.mk #[(0:UInt8)]=ByteArray.mk #[]:=by intro h;injection h with h;simp at h
 have a:(ByteArray.mk #[(0:UInt8)]).size=1:=rfl;have i:(ByteArray.mk #[(0:UInt8)]).data.toList[(0:Int).toNat]?=some 0:=rfl;have o:(0:UInt8).toNat=0:=rfl;by_cases J:s=ByteArray.mk #[]
 .subst J;refine Ca (l:=[.string (ByteArray.mk #[]),.string (ByteArray.mk #[0])]) func296 ?_;refine fa ?_;refine SL ?_;refine fa ?_;rw[show bN (ByteArray.mk #[])=0 from rfl,Yh];exact⟨rfl,I.below⟩
 refine Ca func296 ?_;refine fa ?_;refine YL ?_;refine fa ?_
 (first|refine sv (Pj rfl rfl (by first|rfl|assumption|decide)) ?_|refine sv (Vj rfl rfl (by first|assumption|decide)) ?_)
 refine fa ?_;refine cd I (xx s _) ?_;intro G I;refine fa ?_;exact⟨rfl,I.below⟩
def uk(s)(w):Zc 259 #[.string s] w (.string (sN (bN s))):=by
 have I:=Hp.start w;refine Ca func259 ?_;refine fa ?_;refine cd I (Nv s _) ?_;intro y I;refine fa ?_;exact⟨rfl,I.below⟩
def iv(s:Bool)(m:ByteArray):Int:=if s then -(bN m:Int) else bN m
variable {z:Int}
def iN(z:Int):Bool:=decide (z<0)
def iM(z:Int):ByteArray:=sN z.natAbs
def Uc(z:Int):iv (iN z) (iM z)=z:=by
 unfold iv iN iM;rw[ze];by_cases h:z<0
 .rw[m' h,P' rfl];omega
 rw[k' h,Q' (by simp)];omega
def Qu:iM z=ByteArray.mk #[]↔z=0:=by
 rw[iM,<-Yh];constructor
 .intro h;have:=fB h;omega
 intro h;rw[h];rfl
def vj(s:Bool)(m):(iv s m).natAbs=bN m:=by
 unfold iv;split<;>omega
def KK(s:Bool)(m):iM (iv s m)=sN (bN m):=by rw[iM,vj]
def zY(s:Bool)(m):iN (iv s m)=(s && decide (bN m≠0)):=by
 unfold iN iv;rw[Bool.eq_iff_iff,l',h',h']
 cases s
 .simp only[z6,if_false,false_and,iff_false];omega
 simp only[if_true,true_and];omega
def Tn(s:Bool)(m)(w):Zc 200 #[.agg #[.bool s,.string m]] w (.agg #[.string m,.bool s]):=by
 have I:=Hp.start w;refine Ca func200 ?_;refine Am ?_;intro G Z I T q I ws I;exact ZW
def Gd(s:Bool)(m)(w):Zc 201 #[.agg #[.string m,.bool s]] w (.agg #[.bool (iN (iv s m)),.string (iM (iv s m))]):=by
 have I:=Hp.start w;rw[zY,KK]
 cases s with
 |false=>
  refine Ca (l:=[.agg #[.string m,.bool false]]) func201 ?_;refine yb ?_;intro G Z I T q I;refine cd I (uk m _) ?_;intro A I;refine dq ?_;intro ws I;exact⟨rfl,I.below⟩
 |true=>
  by_cases J:sN (bN m)=ByteArray.mk #[]
  .refine Ca (l:=[.agg #[.string m,.bool true]]) func201 ?_;refine yb ?_;intro G Z I T q I;refine cd I (uk m _) ?_;intro A I;refine fa ?_
   (first|refine sv (pf rfl rfl (by first|rfl|assumption|decide)) ?_|refine sv (rf rfl rfl (by first|assumption|decide)) ?_)
   refine dq ?_;intro ws I;exact acA
  refine Ca (l:=[.agg #[.string m,.bool true]]) func201 ?_;refine yb ?_;intro G Z I T q I;refine cd I (uk m _) ?_;intro A I;refine fa ?_
  (first|refine sv (pf rfl rfl (by first|rfl|assumption|decide)) ?_|refine sv (rf rfl rfl (by first|assumption|decide)) ?_)
  refine dq ?_;intro ws I;exact I2
def aiy(s:Bool)(m:ByteArray):Value:=.agg #[.string m,.bool s]
def Av(a b:ByteArray)(w)(M:a.size<=1000000000)(F:b.size<=1000000000):Zc 257 #[.string a,.string b] w (.int .i64 (Eh (bN a) (bN b))):=by
 have I:=Hp.start w;refine Ca func257 ?_;refine fa ?_;refine cd I (tC a b _ M F) ?_;intro e I;refine fa ?_;exact⟨rfl,I.below⟩
def De(s:Bool)(m)(w):Zc 152 #[.agg #[.bool s,.string m]] w (.agg #[.bool (iN (iv s m)),.string (iM (iv s m))]):=by
 have I:=Hp.start w;refine Ca func152 ?_;refine yb ?_;intro G Z I T q I;refine cd I (Tn s m _) ?_;intro y I;refine cd I (Gd s m _) ?_;intro v I;refine dq ?_;intro ws I;exact⟨rfl,I.below⟩
def rg(s:Bool)(m)(w):Zc 130 #[.agg #[.bool s,.string m]] w (.agg #[.bool (iN (-(iv s m))),.string (iM (-(iv s m)))]):=by
 have I:=Hp.start w;have N:iv (!s) m= -(iv s m):=by unfold iv;cases s<;>simp
 refine Ca func130 ?_;refine yb ?_;intro G Z I T q I;refine cd I (Gd (!s) m _) ?_;intro z I;rw[N];refine dq ?_;intro ws I;exact⟨rfl,I.below⟩
def qg(s:Bool)(m:ByteArray)(w:World):Zc 87 #[.agg #[.bool s,.string m]] w (.int .i64 (iv s m).sign):=by
 have I:=Hp.start w;by_cases h1:iv s m<0
 .have B:iN (iv s m)=true:=m' h1;refine Ca func87 ?_;refine Bb ?_;intro G Z I;refine cd I (De s m _) ?_;intro v I;rw[B];refine yb ?_;intro j p I ws I;exact⟨by rw[X8 h1],I.below⟩
 have B:iN (iv s m)=false:=k' h1;by_cases J:iM (iv s m)=ByteArray.mk #[]
 .refine Ca func87 ?_;refine Bb ?_;intro G Z I;refine cd I (De s m _) ?_;intro v I;rw[B];refine yb ?_;intro j p I ws I;refine SL ?_;refine fa ?_;exact⟨by rw[Qu.1 J];rfl,I.below⟩
 have h2:0<iv s m:=(by have:iv s m≠0:=λh=>J (Qu.2 h);omega);refine Ca func87 ?_;refine Bb ?_;intro G Z I;refine cd I (De s m _) ?_;intro v I;rw[B];refine yb ?_;intro j p I ws I;refine YL ?_;refine fa ?_;exact⟨by rw[T8 h2],I.below⟩
def sc(z:Int):(iM z).size=(Ea z.natAbs+7)/8:=Zg _
def Cz(s t:Bool)(a b:ByteArray):Bool:=if s=t then s else if bN a<bN b then t else s
def uV(s t:Bool)(a b):iv (Cz s t a b) (iM (iv s a+iv t b))=iv s a+iv t b:=by
 unfold iM iv;rw[ze];unfold Cz
 cases s<;>cases t<;>simp<;>(try split)<;>(try simp)<;>omega
def sU(s t:Bool)(a b):iv (s !=t) (iM (iv s a*iv t b))=iv s a*iv t b:=by
 rw[iM,q9,vj,vj];unfold iv;rw[ze]
 cases s<;>cases t<;>simp[J7,Int.neg_mul]
def wG(s t:Bool)(a b:ByteArray)(w:World)(M:a.size<=1000000000)(F:b.size<=1000000000):Zc 199 #[.agg #[.string a,.bool s],.agg #[.string b,.bool t]] w (.agg #[.string (iM (iv s a+iv t b)),.bool (Cz s t a b)]):=by
 have I:=Hp.start w;have H:∀(u:Bool)(n:Nat)(z:Int),(z=if u then -(n:Int) else n)->sN n=iM z:=by
  intro u n z v;have h1:z.natAbs=n:=by rw[v];split<;>omega
  rw[iM,h1]
 by_cases e:s=t
 .subst e;have N:=H s (bN a+bN b) (iv s a+iv s b) (by unfold iv;split<;>omega);refine Ca (l:=[.agg #[.string a,.bool s],.agg #[.string b,.bool s]]) func199 ?_;refine Am ?_;intro h q I j p I k y I;refine sv (JK Qa.out rfl rfl (by first|rfl|assumption)) ?_;refine fa ?_;refine Ak 8 I ?_;refine wb ?_;refine Wp [_,_] ?_;refine Ja (i:=5) (Is (.string (sN (bN a+bN b)))) Is.ext ?_ ?_
  .intro U Z hj hR;obtain⟨o,C,g,c⟩:=hR.1;exact ib rfl (La fi (qa g Wa)) (tD o 2 C [a,b] _ c Z' (by simp;omega)) (λ_ _ R=>⟨_,R.1,R.2,rfl⟩)
  refine wb ?_;refine Fa ?_;intro f W Q r;obtain⟨E,Y,X,d,B,K,A,x,_⟩:=r;obtain⟨o,C,m,f16⟩:Rows _ _ _ (f 4) W:=d;replace I:=Q.hp;refine lg ?_;clear m Q;refine Bb ?_;intro ws I;refine EF ?_;rw[N,Cz,P' rfl];exact⟨rfl,I.below⟩
 by_cases D:bN a<bN b
 .have N:=H t (bN b-bN a) (iv s a+iv t b) (by unfold iv;cases s<;>cases t<;>simp at e |- <;>omega);refine Ca func199 ?_;refine Am ?_;intro h q I j p I k y I;refine LK ?_;refine fa ?_;refine cd I (Av a b _ M F) ?_;intro G I;rw[Yj D];refine yb ?_;intro ws I ws I;refine cd I (Vq b a _ F M) ?_;intro T I;refine Bb ?_;intro ws I;refine EF ?_;rw[N,Cz,Q' e,P' D];exact⟨rfl,I.below⟩
 have N:=H s (bN a-bN b) (iv s a+iv t b) (by unfold iv;cases s<;>cases t<;>simp at e |- <;>omega);have J:¬Eh (bN a) (bN b)<0:=by unfold Eh;split<;>(try split)<;>omega
 refine Ca func199 ?_;refine Am ?_;intro h q I j p I k y I;refine LK ?_;refine fa ?_;refine cd I (Av a b _ M F) ?_;intro G I;refine fa ?_;refine cd I (Vq a b _ M F) ?_;intro T I;refine Bb ?_;intro ws I;refine EF ?_;rw[N,Cz,Q' e,Q' D];exact⟨rfl,I.below⟩
def HB(s t:Bool)(a b:ByteArray)(w)(M:a.size<=1000000000)(F:b.size<=1000000000):Zc 202 #[.agg #[.string a,.bool s],.agg #[.string b,.bool t]] w (.agg #[.string (iM (iv s a*iv t b)),.bool (s !=t)]):=by
 have I:=Hp.start w;have S:(iv s a*iv t b).natAbs=bN a*bN b:=by rw[q9,vj,vj]
 have N:iM (iv s a*iv t b)=sN (bN a*bN b):=by rw[iM,S]
 refine Ca func202 ?_;refine Am ?_;intro T q I j p I D y I;refine ud 10 I ?_;refine dC (λ_ hj=>SA a b _ M F) ?_;refine wb ?_;refine Ma (i:=9) (λU Z hj hR=>Df Qa.out (show U 11=Value.bool _ from hR.1) (show U 13=Value.bool _ from hR.2.1)) ?_;refine dn ?_;intro W I;refine dq ?_;intro ws I;rw[N];exact⟨rfl,I.below⟩
def gj(n:Int)(w)(h1: -9223372036854775808<=n)(h2:n<=9223372036854775807):Zc 127 #[.int .i64 n] w (.agg #[.bool (iN n),.string (iM n)]):=by
 have I:=Hp.start w;by_cases J:n<0
 .have N:iv true (sN n.natAbs)=n:=by unfold iv;rw[ze,P' rfl];omega
  have hw:IntKind.u64.wrap n=((18446744073709551616-n.natAbs:Nat):Int):=(by rw[show n=((18446744073709551616-n.natAbs:Nat):Int)+ -((18446744073709551616:Nat):Int) by omega];have:=UK.wrap_add (k:=.u64) (((18446744073709551616-n.natAbs:Nat):Int)+ -((18446744073709551616:Nat):Int));rw[<-this,Int.neg_add_cancel_right,UK.Zq Z'];omega);have B:(18446744073709551616-(18446744073709551616-n.natAbs)) % 18446744073709551616=n.natAbs:=Z';refine Ca func127 ?_;refine Bb ?_;intro T q I;rw[hw];refine sv (jT rfl Z') ?_;rw[B];skip;refine qd I (Zt n.natAbs _ Z') rfl ?_;intro o I;refine fa ?_;refine cd I (Gd true (sN n.natAbs) _) ?_;intro G I;rw[N];refine dq ?_;intro ws I;exact⟨rfl,I.below⟩
 obtain⟨m,rfl⟩:=C6 (by omega:0<=n);have N:iv false (sN m)=m:=by unfold iv;rw[ze];simp
 have hm:m<18446744073709551616:=Z';refine Ca (l:=[.int .i64 (m:Int)]) func127 ?_;refine NZ ?_;intro T q I;refine cd I (Zt m _ hm) ?_;intro e I;refine fa ?_;refine cd I (Gd false (sN m) _) ?_;intro f I;rw[N];refine dq ?_;intro ws I;exact⟨rfl,I.below⟩
structure IR where
 neg:Bool
 Va:ByteArray
def IR.cells(a:IR):List Value:=[.bool a.neg,.string a.Va]
def IR.v(a:IR):Int:=iv a.neg a.Va
def iR(z:Int):IR:=⟨iN z,iM z⟩
def JU(z:Int):(iR z).v=z:=Uc z
def IR.len(a:IR):a.cells.length=2:=rfl
def gl(x y:Int):Ea (x+y).natAbs<=max (Ea x.natAbs) (Ea y.natAbs)+1:=by
 apply Zb;have h1:=Ab x.natAbs;have h2:=Ab y.natAbs;have G:2^Ea x.natAbs<=2^max (Ea x.natAbs) (Ea y.natAbs):=J_ Z' (Nat.le_max_left _ _);have z:2^Ea y.natAbs<=2^max (Ea x.natAbs) (Ea y.natAbs):=J_ Z' (Nat.le_max_right _ _);rw[B_];omega
def Yg(s:Bool)(m):Ea (iv s m).natAbs<=8*m.size:=by rw[vj];exact yf m
def iO(l:List Int)(x:Int):(l++[x]).sum=l.sum+x:=by simp
def Xl(L:Option Addr)(n c:Nat)(l:List IR)(w:World)(J:Sl w L n 2 (ia IR.cells l))(B:n<=1000000)(K:∀s∈l,s.Va.size<=100000000):Zc 124 #[.slice L n c] w (.agg #[.bool (iN (l.map IR.v).sum),.string (iM (l.map IR.v).sum)]):=by
 have Q:=J.sa IR.len Z';have I:=Hp.start w;refine Ca func124 ?_;refine yb ?_;intro T q I b r I;refine bf 8 (λj V=>∃(i:Nat)(u:Bool)(S:Int),i<=n/\j=.int .i64 i/\S=((l.take i).map IR.v).sum/\iv u (iM S)=S/\Ea S.natAbs<=800000000+i/\Hp w [.blk b 218 [.string (iM S),.bool u] (0,0),.blk T 28 [.bool false,.string (ByteArray.mk #[])] (0,0)] V) (λj _=>n-(intOf j).toNat) ?_ ?_
 .exact⟨0,false,0,J' _,rfl,rfl,by rw[iM];exact Y_ _ (ze 0),by simp[Bk],by rw[iM,Int.natAbs_zero,Yh];exact I⟩
 clear I;rintro ρ' j V ⟨i,u,S,hi,rfl,z,hu,F,I⟩;by_cases D:i<n
 .obtain⟨x,C⟩:=aa (l:=l) (k:=i) Z';obtain⟨p,rfl,H⟩:=J.at_ Z';have f:=K x (N' C);have o:((l.take (i+1)).map IR.v).sum=S+x.v:=by rw[ja C,G_,N7,iO,z]
  have h:(iM S).size<=1000000000:=by rw[sc];omega
  have e:=Yg x.neg x.Va;have E:=gl S x.v;have a:=uV u x.neg (iM S) x.Va;rw[hu] at a;have d:=λZ=>wG u x.neg (iM S) x.Va Z h Z';rw[hu] at d;refine fa ?_;refine sv (Ka (vs:=[_,_]) pa.out rfl (((H.ext I.below).recAt IR.len C)) rfl) ?_;refine yb ?_;intro R t I ws I;refine Ak 3 I ?_;refine wb ?_;refine dC (λ_ hj=>Tn x.neg x.Va _) ?_;refine dn ?_;intro W I;refine cd I (d _) ?_;intro g I;refine Bb ?_;intro ws I;replace I:=I.sub (r_ _ _);refine⟨⟨i+1,_,_,Z',rfl,o.symm,a,by unfold IR.v at E |-;omega,I⟩,by show n-(i+1)<n-i;omega, ?_⟩;exact Wb
 refine fa ?_;refine cd I (Gd u (iM S) _) ?_;intro m I;exact aen
def Sj(s:Bool)(b):(iM (-(iv s b))).size<=b.size:=by
 have:=Yg s b;rw[sc,Int.natAbs_neg];omega
def Aj(s t:Bool)(a b:ByteArray)(w)(M:a.size<=100000000)(F:b.size<=100000000):Zc 150 #[.agg #[.bool s,.string a],.agg #[.bool t,.string b]] w (.agg #[.bool (iN (iv s a-iv t b)),.string (iM (iv s a-iv t b))]):=by
 have I:=Hp.start w;have h1:=Sj t b;have N:([IR.mk s a,iR (-(iv t b))].map IR.v).sum=iv s a-iv t b:=(by simp only[I_,R9,Z6,List.sum_nil,JU];simp only[IR.v];omega);refine Ca func150 ?_;refine Am ?_;intro T q I j p I D y I;refine ud 3 I ?_;refine dC (λ_ hj=>rg t b _) ?_;refine dn ?_;intro W I;refine RD ?_;intro c o I;refine qd I (Xl _ 2 _ [IR.mk s a,iR (-(iv t b))] _ (I.ma (i:=0) rfl) Z' (by simp[iR];omega)) rfl ?_;intro z I;rw[N];refine af4 ?_;intro ws I;exact⟨rfl,I.below⟩
def kH(s t:Bool)(a b:ByteArray)(w)(M:a.size<=100000000)(F:b.size<=100000000):Zc 82 #[.agg #[.bool s,.string a],.agg #[.bool t,.string b]] w (.int .i64 (iv s a-iv t b).sign):=by
 have I:=Hp.start w;refine Ca func82 ?_;refine yb ?_;intro T q I j p I;refine cd I (Aj s t a b _ M F) ?_;intro e I;refine cd I (qg _ _ _) ?_;intro o I;rw[Uc];refine fa ?_;exact⟨rfl,I.below⟩
def rP(a b:Nat):Ea (a*b)<=Ea a+Ea b:=by
 apply Zb;rw[R_];exact G6 (Ab a) (Ab b)
def Wq(a b:Int):Ea (a*b).natAbs<=Ea a.natAbs+Ea b.natAbs:=by rw[q9];exact rP _ _
def Mk:List Int->Int
 |[]=>1
 |x::l=>x*Mk l
def OH(l:List Int)(x:Int):Mk (l++[x])=Mk l*x:=by
 induction l with
 |nil=>simp[Mk]
 |cons y l W=>simp only[C',Mk,W,Int.mul_assoc]
def GF(l:List Nat)(i:Nat):(l.take i).sum<=l.sum:=by
 rw[<-List.sum_append_nat.symm.trans (Y_ List.sum (q_ i l))];omega
def DD:Ea 1=1:=by decide+kernel
def Qp(L:Option Addr)(n c:Nat)(l:List IR)(w:World)(J:Sl w L n 2 (ia IR.cells l))(B:n<=1000000)(K:(l.map λa=>a.Va.size).sum<=100000000):Zc 125 #[.slice L n c] w (.agg #[.bool (iN (Mk (l.map IR.v))),.string (iM (Mk (l.map IR.v)))]):=by
 have Q:=J.sa IR.len Z';have I:=Hp.start w;have g:=GF (l.map λa=>a.Va.size);refine Ca func125 ?_;refine Bb ?_;intro T t I;refine qd I (gj 1 _ Z' Z') rfl ?_;intro G I;refine cd I (Tn _ _ _) ?_;intro N I;refine yb ?_;intro b y I ws I;refine bf 10 (λj V=>∃(i:Nat)(u:Bool)(S:Int),i<=n/\j=.int .i64 i/\S=Mk ((l.take i).map IR.v)/\iv u (iM S)=S/\Ea S.natAbs<=1+8*((l.map λa=>a.Va.size).take i).sum/\Hp w [.blk b 218 [.string (iM S),.bool u] (0,0),.blk T 28 [.bool false,.string (ByteArray.mk #[])] (0,0)] V) (λj _=>n-(intOf j).toNat) ?_ ?_
 .exact⟨0,_,1,J' _,rfl,rfl,Uc 1,by rw[Int.natAbs_one,DD];omega,I⟩
 clear I;rintro ρ' j V ⟨i,u,S,hi,rfl,z,hu,F,I⟩;by_cases D:i<n
 .obtain⟨x,C⟩:=aa (l:=l) (k:=i) Z';obtain⟨q,rfl,H⟩:=J.at_ Z';have r:=g i;have f:=g (i+1);have M:((l.map λa=>a.Va.size).take (i+1)).sum=((l.map λa=>a.Va.size).take i).sum+x.Va.size:=(by rw[ja (x:=x.Va.size) (by rw[z',C];rfl),Hs]);have o:Mk ((l.take (i+1)).map IR.v)=S*x.v:=by rw[ja C,G_,N7,OH,z]
  have h:(iM S).size<=1000000000:=by rw[sc];omega
  have e:=Yg x.neg x.Va;have E:=Wq S x.v;have s:=sU u x.neg (iM S) x.Va;rw[hu] at s;have d:=λZ=>HB u x.neg (iM S) x.Va Z h Z';rw[hu] at d;refine fa ?_;refine sv (Ka (vs:=[_,_]) pa.out rfl (((H.ext I.below).recAt IR.len C)) rfl) ?_;refine yb ?_;intro R A I ws I;refine Ak 3 I ?_;refine wb ?_;refine dC (λ_ hj=>Tn x.neg x.Va _) ?_;refine dn ?_;intro W I;refine cd I (d _) ?_;intro m I;refine Bb ?_;intro ws I;replace I:=I.sub (r_ _ _);refine⟨⟨i+1,_,_,Z',rfl,o.symm,s,by unfold IR.v at E |-;omega,I⟩,by show n-(i+1)<n-i;omega, ?_⟩;exact Wb
 refine fa ?_;refine cd I (Gd u (iM S) _) ?_;intro p I;exact aen
def MG(M k:Nat)(h:2^k∣M): -((M/2^k:Nat):Int)= -(M:Int)/2^k:=by
 obtain⟨q,rfl⟩:=h;have hp:(0:Int)<2^k:=Int.pow_pos Z';rw[Nat.mul_div_cancel_left _ (N_ Z'),F9,<-J7,q6];exact(Int.mul_ediv_cancel_left _ (by exact Int.ne_of_gt hp)).symm
def OB(M k:Nat)(h:¬2^k∣M): -((M/2^k:Nat):Int)-1= -(M:Int)/2^k:=by
 have hp:(0:Int)<2^k:=Int.pow_pos Z';have h1:=T9 M (2^k);have h2:=Q_ M (N_ (n:=k) (show 0<2 by omega));have G:M % 2^k≠0:=λJ=>h (Nat.dvd_of_mod_eq_zero J);have E:((2^k:Nat):Int)=2^k:=by simp
 symm
 rw[Int.ediv_eq_iff_of_pos hp,<-E];have z:(M:Int)=(2^k:Nat)*(M/2^k:Nat)+(M % 2^k:Nat):=by rw[<-F9,<-V8,h1]
 generalize y:((2^k:Nat):Int)=K at*;generalize ((M/2^k:Nat):Int)=q at*;have e:(-q-1)*K= -(K*q)-K:=by rw[Int.sub_mul,Int.neg_mul,M6 q];omega
 have L:(-q-1+1)*K= -(K*q):=by rw[Int.sub_add_cancel,Int.neg_mul,M6]
 omega
def zQ{M:Nat}(J:M≠0):2^k∣M↔k<=tz M:=by
 obtain⟨m,hm⟩:=Mu J;generalize tz M=t at*;constructor
 .intro h;obtain D|N:=o_ t k
  .exfalso;obtain⟨q,R⟩:=h;rw[hm,show k=t+(1+(k-t-1)) by omega,R_,R_,Z9] at R;have:=Nat.eq_of_mul_eq_mul_left (N_ Z') R;rw[Nat.pow_one,Z9] at this;omega
  exact N
 intro h;rw[hm];exact Nat.dvd_trans (Nat.pow_dvd_pow 2 h) (Nat.dvd_mul_right _ _)
def abf(s:Bool)(a)(m:Nat):iv s (sN (bN a*2^m))=iv s a*2^m:=by
 unfold iv;rw[ze]
 cases s<;>simp[F9,Int.neg_mul]
def eH(s:Bool)(a:ByteArray)(m:Nat)(w)(M:a.size<=100000000)(hm:m<=1000000000):Zc 198 #[.agg #[.bool s,.string a],.int .i64 (m:Int)] w (.agg #[.bool (iN (iv s a*2^m)),.string (iM (iv s a*2^m))]):=by
 have I:=Hp.start w;refine Ca func198 ?_;refine yb ?_;intro T q I D y I;refine ud 6 I ?_;refine dC (λ_ hj=>qD a m _ Z' Z') ?_;refine wb ?_;refine dn ?_;intro W I;refine fa ?_;refine cd I (Gd s (sN (bN a*2^m)) _) ?_;intro f I;rw[abf];refine dq ?_;intro ws I;exact⟨rfl,I.below⟩
def yJ(s:Bool)(a:ByteArray)(m:Nat)(w:World)(S:Gc w)(ha:a.size<=100000000)(h0:0<m)(hm:m<=1000000000000):Zc 198 #[.agg #[.bool s,.string a],.int .i64 (-(m:Int))] w (.agg #[.bool (iN (iv s a/2^m)),.string (iM (iv s a/2^m))]):=by
 have I:=Hp.start w;have N:(if(-1099511627776:Int)> -(m:Int) then -1099511627776 else -(m:Int))= -(m:Int):=Q' Z';have C: -(-(m:Int))=(m:Int):=Z';have L:∀Z,Zc 254 #[.string a,.int .i64 (-(-(m:Int)))] Z (.string (sN (bN a/2^m))):=λZ=>(by rw[C];exact LC a m Z Z' Z')
 cases s with
 |false=>
  have X:iv false (sN (bN a/2^m))=iv false a/2^m:=(by unfold iv;rw[ze];simp);refine Ca (l:=[.agg #[.bool false,.string a],.int .i64 (-(m:Int))]) func198 ?_;refine yb ?_;intro c q I D A I;rw[N];refine Ak 10 I ?_;refine wb ?_;refine MJ ?_;refine dC (λ_ hj=>L _) ?_;refine wb ?_;refine dC (λ_ hj=>Gd false (sN (bN a/2^m)) _) ?_;refine jL ?_;refine Fa ?_;intro f W Q d;have t:=Q.bl;obtain⟨u,z,K,M,E,G,j,v20,p,Y,_⟩:=d;obtain⟨R,H,r,B⟩:Ob _ _ _ (f 9) W:=u;replace I:=Q.newVar I r B;refine lg ?_;clear H Q;rw[X];refine yb ?_;intro ws I ws I;exact AR
 |true=>
  have F:=yf a;have e:iv true (sN (bN a/2^m))= -((bN a/2^m:Nat):Int):=(by unfold iv;rw[ze,P' rfl]);have H:iv true a= -(bN a:Int):=by unfold iv;rw[P' rfl]
  by_cases o:bN a=0
  .have X:iv true (sN (bN a/2^m))=iv true a/2^m:=(by rw[e,H,o];simp);refine ZQ ?_;refine yb ?_;intro c q I D A I;rw[N];refine Ak 10 I ?_;refine wb ?_;refine MJ ?_;refine dC (λ_ hj=>L _) ?_;refine wb ?_;refine dC (λ_ hj=>Gd true (sN (bN a/2^m)) _) ?_;refine jL ?_;refine Fa ?_;intro f W Q d;have t:=Q.bl;obtain⟨u,z,K,M,E,G,j,v20,p,Y,_⟩:=d;obtain⟨R,H,r,B⟩:Ob _ _ _ (f 9) W:=u;replace I:=Q.newVar I r B;refine lg ?_;clear H Q;rw[X];refine Bb ?_;intro ws I;refine qd I (Ll a _ Z') rfl ?_;intro b I;rw[o,Bk];refine Bb ?_;intro ws I;exact AR
  have J:=cn o;by_cases T:2^m∣bN a
  .have X:iv true (sN (bN a/2^m))=iv true a/2^m:=(by rw[e,H];exact MG _ _ T);have x:=(zQ o).1 T;refine ZQ ?_;refine yb ?_;intro c q I D A I;rw[N];refine Ak 10 I ?_;refine wb ?_;refine MJ ?_;refine dC (λ_ hj=>L _) ?_;refine wb ?_;refine dC (λ_ hj=>Gd true (sN (bN a/2^m)) _) ?_;refine jL ?_;refine Fa ?_;intro f W Q d;have t:=Q.bl;obtain⟨u,z,K,M,E,G,j,v20,p,Y,_⟩:=d;obtain⟨R,H,r,B⟩:Ob _ _ _ (f 9) W:=u;replace I:=Q.newVar I r B;refine lg ?_;clear H Q;rw[X];refine Bb ?_;intro ws I;refine qd I (Ll a _ Z') rfl ?_;intro b I;refine fa ?_;refine qd I (Hj a _ Z' (S.hp I)) rfl ?_;intro y I;refine Bb ?_;intro ws I;exact AR
  have X:iv true (sN (bN a/2^m))-1=iv true a/2^m:=(by rw[e,H];exact OB _ _ T);have x:tz (bN a)<m:=P6 λh=>T ((zQ o).2 h);have k:(iM (iv true (sN (bN a/2^m)))).size<=100000000:=(by have:=Qr (bN a) m;rw[sc,vj,ze];omega);have g:∀Z,Zc 150 #[.agg #[.bool (iN (iv true (sN (bN a/2^m)))),.string (iM (iv true (sN (bN a/2^m))))],.agg #[.bool (iN 1),.string (iM 1)]] Z (.agg #[.bool (iN (iv true a/2^m)),.string (iM (iv true a/2^m))]):=λZ=>(by have:=Aj (iN (iv true (sN (bN a/2^m)))) (iN 1) (iM (iv true (sN (bN a/2^m)))) (iM 1) Z k (by rw[sc,Int.natAbs_one,DD];omega);rw[Uc,Uc,X] at this;exact this);refine ZQ ?_;refine yb ?_;intro c q I D A I;rw[N];refine Ak 10 I ?_;refine wb ?_;refine MJ ?_;refine dC (λ_ hj=>L _) ?_;refine wb ?_;refine dC (λ_ hj=>Gd true (sN (bN a/2^m)) _) ?_;refine jL ?_;refine Fa ?_;intro f W Q d;obtain⟨u,z,K,M,E,G,j,v20,p,Y,_⟩:=d;obtain⟨R,H,r,B⟩:Ob _ _ _ (f 9) W:=u;replace I:=Q.newVar I r B;refine lg ?_;clear H Q;refine Bb ?_;intro ws I;refine qd I (Ll a _ Z') rfl ?_;intro b I;refine fa ?_;refine qd I (Hj a _ Z' (S.hp I)) rfl ?_;intro y I;refine fa ?_;refine Ak 2 I ?_;refine wb ?_;refine dC (λ_ hj=>gj 1 _ Z' Z') ?_;refine dn ?_;intro W I;refine cd I (g _) ?_;intro P I;refine Bb ?_;intro ws I;exact AR
def ab4:(2:Rat)≠0:=by decide
def two_pos(k:Int):(0:Rat)<2^k:=Rat.zpow_pos V'
def Rj(i p:Int):(Dyadic.ofIntWithPrec i p).toRat=i*2^(-p):=Dyadic.toRat_ofIntWithPrec_eq_mul_two_pow
def xo(i p:Int)(n:Nat):Dyadic.ofIntWithPrec (i*2^n) (p+n)=Dyadic.ofIntWithPrec i p:=by
 rw[<-Int.shiftLeft_eq];exact Dyadic.ofIntWithPrec_shiftLeft_add
def zg(i:Int){p q:Int}(h:q=p+n):Dyadic.ofIntWithPrec i p=Dyadic.ofIntWithPrec (i*2^n) q:=by
 subst h;exact(xo i p n).symm
def nq(i j p:Int):Dyadic.ofIntWithPrec i p+Dyadic.ofIntWithPrec j p=Dyadic.ofIntWithPrec (i+j) p:=by
 rw[<-Dyadic.toRat_inj,Dyadic.toRat_add,Rj,Rj,Rj,Rat.intCast_add,Rat.add_mul]
def IL(i p:Int): -Dyadic.ofIntWithPrec i p=Dyadic.ofIntWithPrec (-i) p:=Dyadic.neg_ofIntWithPrec
def Nu(i j p q:Int):Dyadic.ofIntWithPrec i p*Dyadic.ofIntWithPrec j q=Dyadic.ofIntWithPrec (i*j) (p+q):=by
 rw[<-Dyadic.toRat_inj,Dyadic.toRat_mul,Rj,Rj,Rj,Rat.intCast_mul,Int.neg_add,Rat.zpow_add ab4];grind
def ll(i j p:Int):Dyadic.ofIntWithPrec i p<Dyadic.ofIntWithPrec j p↔i<j:=by
 rw[<-Dyadic.toRat_lt_toRat_iff,Rj,Rj];rw[<-Rat.intCast_lt_intCast];constructor
 .intro h;exact Rat.lt_of_mul_lt_mul_right h (Rat.le_of_lt (two_pos _))
 intro h;exact Rat.mul_lt_mul_of_pos_right h (two_pos _)
def Sg(p:Int):Dyadic.ofIntWithPrec 0 p=0:=rfl
def jV{i j p:Int}(h:Dyadic.ofIntWithPrec i p=Dyadic.ofIntWithPrec j p):i=j:=by
 obtain h1|h1|h1:=a7 i j
 .rw[<-ll i j p,h] at h1;exact absurd h1 (by rw[ll];omega)
 .exact h1
 rw[<-ll j i p,h] at h1;exact absurd h1 (by rw[ll];omega)
def Xt{i p:Int}(h:Dyadic.ofIntWithPrec i p=0):i=0:=jV (p:=p) (by rw[h];rfl)
def zK(n k:Int)(h:n % 2=1):Dyadic.ofOdd n k h=Dyadic.ofIntWithPrec n k:=Dyadic.ofOdd_eq_ofIntWithPrec
def IJ{i p:Int}(h:i≠0):Dyadic.ofIntWithPrec i p=.ofOdd (i>>>i.trailingZeros) (p-i.trailingZeros) (Int.shiftRight_trailingZeros_mod_two h):=by
 rw[Dyadic.ofIntWithPrec,dif_neg h]
structure NR where
 neg:Bool
 Va:ByteArray
 e:Int
abbrev NR.V(a:NR):Value:=.agg #[.bool a.neg,.string a.Va,.int .i64 a.e]
def NR.cells(a:NR):List Value:=[.bool a.neg,.string a.Va,.int .i64 a.e]
def NR.len(a:NR):a.cells.length=3:=rfl
def NR.one(a:NR):a.cells.all Value.oneCell'=true:=rfl
def NR.i(a:NR):Int:=iv a.neg a.Va
def NR.da(a:NR):Dyadic:=Dyadic.ofIntWithPrec a.i (-a.e)
def nR:Dyadic->NR
 |.zero=>⟨false,ByteArray.mk #[],0⟩
 |.ofOdd n k _=>⟨iN n,iM n, -k⟩
def zr:nR 0=⟨false,ByteArray.mk #[],0⟩:=rfl
def Ga(x):(nR x).da=x:=by
 cases x with
 |zero=>rfl
 |ofOdd n k h=>
  simp only[nR,NR.da,NR.i,Uc,M7];exact(zK n k h).symm
def aaF{x y:Dyadic}:nR x=nR y↔x=y:=⟨λh=>by rw[<-Ga x,h,Ga],λh=>by rw[h]⟩
def adJ(s:Bool)(a):(iv s a).trailingZeros=tz (bN a):=by
 unfold iv;split
 .rw[Int.trailingZeros_neg];rfl
 rfl
def rK(s:Bool)(a:ByteArray):iv s a=0↔bN a=0:=by
 have:=vj s a;omega
def Ms{s:Bool}{a:ByteArray}{e:Int}(h:iv s a≠0):nR (Dyadic.ofIntWithPrec (iv s a) (-e))=⟨iN (iv s a/2^tz (bN a)),iM (iv s a/2^tz (bN a)),e+tz (bN a)⟩:=by
 rw[IJ h,nR,Int.shiftRight_eq_div_pow,adJ];have N: -(-e-(tz (bN a):Int))=e+tz (bN a):=Z';rw[N,q6];rfl
def Sz(k:Nat)(x:Dyadic):Prop:=∃i:Int,x=Dyadic.ofIntWithPrec i k/\i.natAbs<2^(2*k)
def Sz.zero(k:Nat):Sz k 0:=⟨0,rfl,by simpa using N_ Z'⟩
def Sz.mono{l:Nat}{x:Dyadic}(h:Sz k x)(Q:k<=l):Sz l x:=by
 obtain⟨i,rfl,hi⟩:=h;refine⟨i*2^(l-k),zg i Z', ?_⟩;rw[q9,D8];have h1:i.natAbs*2^(l-k)<2^(2*k)*2^(l-k):=N8 hi (N_ Z');rw[<-R_] at h1;exact k_ h1 (J_ Z' Z')
def Sz.neg{x:Dyadic}(h:Sz k x):Sz k (-x):=by
 obtain⟨i,rfl,hi⟩:=h;exact⟨-i,IL _ _,by rw[Int.natAbs_neg];exact hi⟩
def Sz.add{x y:Dyadic}(C:Sz k x)(hy:Sz k y):Sz (k+1) (x+y):=by
 obtain⟨i,rfl,hi⟩:=C;obtain⟨j,rfl,hj⟩:=hy;rw[nq];refine⟨(i+j)*2^1,zg _ Z', ?_⟩;have h1:2^(2*(k+1))=4*2^(2*k):=by rw[show 2*(k+1)=2*k+2 by omega,R_];omega
 rw[h1];omega
def Sz.sub{x y:Dyadic}(C:Sz k x)(hy:Sz k y):Sz (k+1) (x-y):=C.add hy.neg
def Sz.mul{l:Nat}{x y:Dyadic}(C:Sz k x)(hy:Sz l y):Sz (k+l) (x*y):=by
 obtain⟨i,rfl,hi⟩:=C;obtain⟨j,rfl,hj⟩:=hy;rw[Nu];refine⟨i*j,by rw[V8], ?_⟩;rw[q9,n_,R_];exact G6 hi hj
def Vs{i:Int}(h:i≠0):2^i.trailingZeros<=i.natAbs:=by
 have h1:=Int.two_pow_trailingZeros_dvd h;have h2:=Int.natAbs_dvd_natAbs.2 h1;rw[D8] at h2;exact Nat.le_of_dvd Z' h2
def Sz.nr{x:Dyadic}(h:Sz k x):(nR x).Va.size<=(2*k+7)/8/\ -(k:Int)<=(nR x).e/\(nR x).e<=k:=by
 obtain⟨i,rfl,hi⟩:=h;by_cases J:i=0
 .subst J;rw[Sg,zr];exact⟨J' _,(by omega: -(k:Int)<=0),(by omega:(0:Int)<=k)⟩
 have h2:=Vs J;rw[IJ J,nR];simp only;refine⟨?_,Z', ?_⟩
 .rw[sc];have:Ea (i>>>i.trailingZeros).natAbs<=2*k:=(by apply Zb;refine l_ ?_ hi;rw[Int.shiftRight_eq_div_pow];exact E7 _ _);omega
 have G:2^i.trailingZeros<2^(2*k):=l_ h2 hi;have:=(Nat.pow_lt_pow_iff_right Z').1 G;omega
def Sz.raw{a:NR}{E:Nat}(hm:8*a.Va.size<=m)(h1: -(E:Int)<=a.e)(h2:a.e<=E):Sz (m+E) a.da:=by
 refine⟨a.i*2^(a.e+m+E).toNat,zg _ Z', ?_⟩;have G:a.i.natAbs<2^m:=(by rw[NR.i,vj];refine k_ (Ab _) (J_ Z' ?_);have:=yf a.Va;omega);rw[q9,D8];have z:=N8 G (N_ (n:=(a.e+m+E).toNat) (show 0<2 by omega));rw[<-R_] at z;exact k_ z (J_ Z' Z')
def dy(i n:Int):Int:=if 0<=n then i*2^n.toNat else i/2^(-n).toNat
def nP(n:Int):dy 0 n=0:=by unfold dy;split<;>simp
def Fc:Dyadic->Int->Int
 |.zero,_=>0
 |.ofOdd n k _,p=>dy n (p-k)
def Xc:Dyadic->Dyadic->Int
 |.zero,.zero=>0
 |.zero,.ofOdd _ k _=>k
 |.ofOdd _ k _,.zero=>k
 |.ofOdd _ k _,.ofOdd _ l _=>max k l
def Co(n k p:Int)(h:n % 2=1)(hp:k<=p):Dyadic.ofIntWithPrec (Fc (.ofOdd n k h) p) p=.ofOdd n k h:=by
 simp only[Fc];rw[zK,dy,P' Z'];exact(zg n Z').symm
def XS(x y):Dyadic.ofIntWithPrec (Fc x (Xc x y)) (Xc x y)=x:=by
 cases x with
 |zero=>rfl
 |ofOdd n k h=>
  cases y with
  |zero=>exact Co _ _ _ _ (A7 _)
  |ofOdd m l g=>exact Co _ _ _ _ (Int.le_max_left _ _)
def tP(x y):Dyadic.ofIntWithPrec (Fc y (Xc x y)) (Xc x y)=y:=by
 cases y with
 |zero=>rfl
 |ofOdd n k h=>
  cases x with
  |zero=>exact Co _ _ _ _ (A7 _)
  |ofOdd m l g=>exact Co _ _ _ _ (Int.le_max_right _ _)
def TV(x y):Dyadic.ofIntWithPrec (Fc x (Xc x y)+Fc y (Xc x y)) (Xc x y)=x+y:=by
 rw[<-nq,XS,tP]
def JT(i n:Int):Ea (dy i n).natAbs<=Ea i.natAbs+n.toNat:=by
 unfold dy;split
 .rw[q9,D8];exact Cg _ _
 have:Ea (i/2^(-n).toNat).natAbs<=Ea i.natAbs:=Zb (l_ (E7 _ _) (Ab _));omega
def FL(x y)(E:Int)(h1: -E<=(nR x).e/\(nR x).e<=E)(h2: -E<=(nR y).e/\(nR y).e<=E): -E<=Xc x y/\Xc x y<=E:=by
 cases x<;>cases y<;>simp only[nR,Xc] at* <;>omega
def Bx(x)(p:Int):Ea (Fc x p).natAbs<=8*(nR x).Va.size+(p+(nR x).e).toNat:=by
 cases x with
 |zero=>simp[Fc,Bk]
 |ofOdd n k h=>
  have h1:=JT n (p-k);have h2:=yf (iM n);rw[iM,ze] at h2;simp only[Fc,nR];rw[show p+ -k=p-k by omega];rw[<-iM] at h2;omega
variable {P:Program}{by' off:Nat}{zc:List Value}
def xQ{t:TypeId}{cs:Array Value}{v:Value}(S:ed P t=some (n,false,by',zc))(A:cs[off]?=some v)(w:World):(part t cs off).run P w=.ok v w:=by
 simp[part,mh S,A]
def tT{t:TypeId}{cs vs:Array Value}(S:ed P t=some (n,true,by',zc))(A:cs.extract off (off+n)=vs)(w:World):(part t cs off).run P w=.ok (.agg vs) w:=by
 simp[part,mh S,ff S,A]
def afw(n:Nat)(a b:Bool)(w:World):(Op.equalIn (n+1) 4 (.bool a) (.bool b)).run prog w=.ok (a==b) w:=by
 simp[Op.equalIn,run_underlying Tryz.underlying4]
def agj(n:Nat)(a b)(w:World):(Op.equalIn (n+1) 9 (.string a) (.string b)).run prog w=.ok (a==b) w:=by
 simp[Op.equalIn,run_underlying Tryz.underlying9]
def aff(n:Nat)(a b:Int)(w:World):(Op.equalIn (n+1) 3 (.int .i64 a) (.int .i64 b)).run prog w=.ok (a==b) w:=by
 simp[Op.equalIn,run_underlying Tryz.underlying3]
def eq_int(n:Nat)(s s':Bool)(a a')(w:World):(Op.equalIn (n+2) 28 (.agg #[.bool s,.string a]) (.agg #[.bool s',.string a'])).run prog w=.ok (s==s' && a==a') w:=by
 have h1:=λ(x:Bool) (y:ByteArray)=>xQ (P:=prog) (cs:= #[.bool x,.string y]) (off:=0) (pa.out (P:=prog) (t:=4)) rfl;have h2:=λ(x:Bool) (y:ByteArray)=>xQ (P:=prog) (cs:= #[.bool x,.string y]) (off:=1) (pa.out (P:=prog) (t:=9)) rfl;rw[Op.equalIn];simp[run_underlying Tryz.underlying28,h1,h2,afw,agj]
 cases h:s==s'<;>cases S:a==a'<;>simp_all
def rT(n:Nat)(s s':Bool)(a a')(e e':Int)(w:World):(Op.equalIn (n+3) 30 (.agg #[.bool s,.string a,.int .i64 e]) (.agg #[.bool s',.string a',.int .i64 e'])).run prog w=.ok ((s==s' && a==a') && e==e') w:=by
 have h1:=λ(x:Bool) (y:ByteArray) (z:Int)=>tT (P:=prog) (cs:= #[.bool x,.string y,.int .i64 z]) (vs:= #[.bool x,.string y]) (off:=0) (pa.out (P:=prog) (t:=28)) rfl;have h2:=λ(x:Bool) (y:ByteArray) (z:Int)=>xQ (P:=prog) (cs:= #[.bool x,.string y,.int .i64 z]) (off:=2) (pa.out (P:=prog) (t:=3)) rfl;rw[Op.equalIn];simp[run_underlying Tryz.underlying30,h1,h2,eq_int,aff]
 cases h:s==s'<;>cases S:a==a'<;>cases h2:e==e'<;>simp_all
variable {a:ByteArray}
def abl{a b:ByteArray}:(a==b)=true↔a=b:=by
 have:(a==b)=(a.data==b.data):=rfl;rw[this,k9];exact⟨λh=>by cases a;cases b;simp_all,λh=>by rw[h]⟩
variable {s s':Bool}{a':ByteArray}{e e':Int}
def Zk:((s==s' && a==a') && e==e')=true↔NR.mk s a e=NR.mk s' a' e':=by
 rw[l',l',k9,abl,k9,NR.mk.injEq,and_assoc]
variable {r:Bool}{O:Rf}{d:Option Nat}{ty u:TypeId}{pos:String}{af:Array Edge}{g:Option (Nat×Bool)}{x y:Operand}
def KZ(C:ev O x=.agg #[.bool s,.string a,.int .i64 e])(hy:ev O y=.agg #[.bool s',.string a',.int .i64 e'])(H:((s==s' && a==a') && e==e')=r):(execOp (ev O) ⟨d,.binOp .eql 30 x y u,ty,pos,af,g⟩).run prog w=.ok (.value (.bool r)) w:=by
 refine LZ ?_;intro h1;simp[eqGuard,binOp,h1]
def Z0(C:ev O x=.agg #[.bool s,.string a,.int .i64 e])(hy:ev O y=.agg #[.bool s',.string a',.int .i64 e'])(H:((s==s' && a==a') && e==e')=r):(execOp (ev O) ⟨d,.binOp .neq 30 x y u,ty,pos,af,g⟩).run prog w=.ok (.value (.bool !r)) w:=by
 refine LZ ?_;intro h1;simp[eqGuard,binOp,h1]
def CW(C:ev O x=.agg #[.bool s,.string a,.int .i64 e])(hy:ev O y=.agg #[.bool s',.string a',.int .i64 e'])(h:NR.mk s a e=NR.mk s' a' e'):(execOp (ev O) ⟨d,.binOp .eql 30 x y u,ty,pos,af,g⟩).run prog w=.ok (.value (.bool true)) w:=KZ C hy (Zk.2 h)
def dW(C:ev O x=.agg #[.bool s,.string a,.int .i64 e])(hy:ev O y=.agg #[.bool s',.string a',.int .i64 e'])(h:¬NR.mk s a e=NR.mk s' a' e'):(execOp (ev O) ⟨d,.binOp .eql 30 x y u,ty,pos,af,g⟩).run prog w=.ok (.value (.bool false)) w:=KZ C hy (by rw[O6];exact λh1=>h (Zk.1 h1))
def pD(C:ev O x=.agg #[.bool s,.string a,.int .i64 e])(hy:ev O y=.agg #[.bool s',.string a',.int .i64 e'])(h:NR.mk s a e=NR.mk s' a' e'):(execOp (ev O) ⟨d,.binOp .neq 30 x y u,ty,pos,af,g⟩).run prog w=.ok (.value (.bool false)) w:=Z0 C hy (Zk.2 h)
def GK(C:ev O x=.agg #[.bool s,.string a,.int .i64 e])(hy:ev O y=.agg #[.bool s',.string a',.int .i64 e'])(h:¬NR.mk s a e=NR.mk s' a' e'):(execOp (ev O) ⟨d,.binOp .neq 30 x y u,ty,pos,af,g⟩).run prog w=.ok (.value (.bool true)) w:=Z0 C hy (r:=false) (by rw[O6];exact λh1=>h (Zk.1 h1))
variable {ro:Mode}{ops:Array Oper}{Q:Kq}{rest:List Oper}{d:Nat}
def mX(C:ev O x=.agg #[.bool s,.string a,.int .i64 e])(hy:ev O y=.agg #[.bool s',.string a',.int .i64 e'])(h:NR.mk s a e=NR.mk s' a' e')(L:d<N)(p:WL ro prog N ops Q rest (jd O d (.bool true)) w):
  WL ro prog N ops Q (⟨some d,.binOp .eql 30 x y u,ty,pos,af,none⟩::rest) O w:=ub rfl rfl L (CW C hy h) p
def mC(C:ev O x=.agg #[.bool s,.string a,.int .i64 e])(hy:ev O y=.agg #[.bool s',.string a',.int .i64 e'])(h:¬NR.mk s a e=NR.mk s' a' e')(L:d<N)(p:WL ro prog N ops Q rest (jd O d (.bool false)) w):
  WL ro prog N ops Q (⟨some d,.binOp .eql 30 x y u,ty,pos,af,none⟩::rest) O w:=ub rfl rfl L (dW C hy h) p
def PV(C:ev O x=.agg #[.bool s,.string a,.int .i64 e])(hy:ev O y=.agg #[.bool s',.string a',.int .i64 e'])(h:¬NR.mk s a e=NR.mk s' a' e')(L:d<N)(p:WL ro prog N ops Q rest (jd O d (.bool true)) w):
  WL ro prog N ops Q (⟨some d,.binOp .neq 30 x y u,ty,pos,af,none⟩::rest) O w:=ub rfl rfl L (GK C hy h) p
def VX(C:ev O x=.agg #[.bool s,.string a,.int .i64 e])(hy:ev O y=.agg #[.bool s',.string a',.int .i64 e'])(h:NR.mk s a e=NR.mk s' a' e')(L:d<N)(p:WL ro prog N ops Q rest (jd O d (.bool false)) w):
  WL ro prog N ops Q (⟨some d,.binOp .neq 30 x y u,ty,pos,af,none⟩::rest) O w:=ub rfl rfl L (pD C hy h) p
def Oh(s:Bool)(a:ByteArray)(n:Int)(w)(S:Gc w)(M:a.size<=100000000)(h1: -1000000000<=n)(h2:n<=1000000000):Zc 198 #[.agg #[.bool s,.string a],.int .i64 n] w (.agg #[.bool (iN (dy (iv s a) n)),.string (iM (dy (iv s a) n))]):=by
 unfold dy;by_cases h:0<=n
 .rw[P' h];obtain⟨m,rfl⟩:=C6 h;rw[M8];exact eH s a m w M Z'
 rw[Q' h];obtain⟨m,hm⟩:=C6 (show 0<= -n by omega);rw[hm,M8,show n= -(m:Int) by omega];exact yJ s a m w S M Z' Z'
def kf(s:Bool)(a:ByteArray)(e:Int)(w)(S:Gc w)(M:a.size<=100000000)(h1: -1000000000000<=e)(h2:e<=1000000000000):Zc 123 #[.agg #[.bool s,.string a],.int .i64 e] w (.agg #[.bool (nR (Dyadic.ofIntWithPrec (iv s a) (-e))).neg,.string (nR (Dyadic.ofIntWithPrec (iv s a) (-e))).Va,.int .i64 (nR (Dyadic.ofIntWithPrec (iv s a) (-e))).e]):=by
 have I:=Hp.start w;by_cases J:iv s a=0
 .rw[J,Sg,zr];refine Ca func123 ?_;refine yb ?_;intro T q I D y I;refine cd I (qg s a _) ?_;intro d I;rw[J];refine VI ?_;intro ws I;exact⟨rfl,I.below⟩
 have K:(iv s a).sign≠0:=by rw[ne_eq,A6];exact J
 rw[Ms J];have o:bN a≠0:=λh=>J ((rK s a).2 h);have b:tz (bN a)<8*a.size+1:=(by have:=BA a;rw[show(256:Nat)=2^8 from rfl,<-i_] at this;have:=cz o this;omega);have l:dy (iv s a) (-(tz (bN a):Int))=iv s a/2^tz (bN a):=by
  unfold dy;split
  .have:tz (bN a)=0:=Z';rw[this];simp
  rw[M7,M8]
 refine Ca func123 ?_;refine yb ?_;intro T q I D y I;refine cd I (qg s a _) ?_;intro d I;refine fa ?_;refine qd I (Hj a _ Z' (S.hp I)) rfl ?_;intro W I;refine fa ?_;refine qd I (Oh s a (-(tz (bN a):Int)) _ (S.hp I) M Z' Z') rfl ?_;intro c I;rw[l];refine VI ?_;intro ws I;exact⟨rfl,I.below⟩
def NR.ok(a:NR):Prop:=a.Va.size<=1000000/\ -10000000<=a.e/\a.e<=10000000
def Sz.ok{x:Dyadic}(h:Sz k x)(u:k<=3999990):(nR x).ok:=by
 have:=h.nr;refine⟨Z',Z',Z'⟩
def ej(n:Int)(w)(S:Gc w)(h1: -9223372036854775808<=n)(h2:n<=9223372036854775807):Zc 67 #[.int .i64 n] w (.agg #[.bool (nR (n:Dyadic)).neg,.string (nR (n:Dyadic)).Va,.int .i64 (nR (n:Dyadic)).e]):=by
 have I:=Hp.start w;have M:(iM n).size<=100000000:=(by rw[sc];have:Ea n.natAbs<=64:=Zb Z';omega);have E:∀Z,Gc Z->Zc 123 #[.agg #[.bool (iN n),.string (iM n)],.int .i64 0] Z (.agg #[.bool (nR (n:Dyadic)).neg,.string (nR (n:Dyadic)).Va,.int .i64 (nR (n:Dyadic)).e]):=λZ P=>(by have:=kf (iN n) (iM n) 0 Z P M Z' Z';rw[Uc] at this;exact this);refine Ca func67 ?_;refine Bb ?_;intro T q I;refine cd I (gj n _ h1 h2) ?_;intro y I;refine cd I (E _ (S.hp I)) ?_;intro v I;refine VI ?_;intro ws I;exact⟨rfl,I.below⟩
def Yc(a:NR)(w)(S:Gc w)(M:a.Va.size<=100000000)(h1: -1000000000000<=a.e)(h2:a.e<=1000000000000):Zc 85 #[a.V] w (.agg #[.bool (nR a.da).neg,.string (nR a.da).Va,.int .i64 (nR a.da).e]):=by
 have I:=Hp.start w;refine Ca func85 ?_;refine yb ?_;intro G Z I T q I;refine cd I (kf a.neg a.Va a.e _ (S.hp I) M h1 h2) ?_;exact yP
def jc(a:NR)(w):Zc 31 #[a.V] w (.int .i64 a.i.sign):=by
 have I:=Hp.start w;refine Ca func31 ?_;refine Bb ?_;intro G Z I;refine cd I (qg a.neg a.Va _) ?_;intro v I;refine fa ?_;exact⟨rfl,I.below⟩
def zj(a:NR)(w)(S:Gc w)(M:a.Va.size<=100000000)(h1: -1000000000000<=a.e)(h2:a.e<=1000000000000):Zc 69 #[a.V] w (.agg #[.bool (nR (-a.da)).neg,.string (nR (-a.da)).Va,.int .i64 (nR (-a.da)).e]):=by
 have I:=Hp.start w;have E:∀Z,Gc Z->Zc 123 #[.agg #[.bool (iN (-(iv a.neg a.Va))),.string (iM (-(iv a.neg a.Va)))],.int .i64 a.e] Z (.agg #[.bool (nR (-a.da)).neg,.string (nR (-a.da)).Va,.int .i64 (nR (-a.da)).e]):=λZ P=>(by have K:=Sj a.neg a.Va;have:=kf (iN (-(iv a.neg a.Va))) (iM (-(iv a.neg a.Va))) a.e Z P Z' h1 h2;rw[Uc,<-IL] at this;exact this);refine Ca func69 ?_;refine yb ?_;intro G Z I T q I;refine ud 5 I ?_;refine dC (λ_ hj=>rg a.neg a.Va _) ?_;refine wb ?_;refine dn ?_;intro W I;refine cd I (E _ (S.hp I)) ?_;intro o I;refine VI ?_;intro ws I;exact⟨rfl,I.below⟩
def Rz(s:Int)(a:NR)(w)(S:Gc w)(M:a.Va.size<=100000000)(h1: -1000000000<=a.e-s)(h2:a.e-s<=1000000000):Zc 149 #[.int .i64 s,a.V] w (.agg #[.bool (iN (dy a.i (a.e-s))),.string (iM (dy a.i (a.e-s)))]):=by
 have I:=Hp.start w;refine Ca func149 ?_;refine yb ?_;intro j p I D y I;refine cd I (Oh a.neg a.Va (a.e-s) _ (S.hp I) M h1 h2) ?_;intro t I;refine dq ?_;intro ws I;exact⟨rfl,I.below⟩
def nH(x)(p:Int):dy (nR x).i ((nR x).e - -p)=Fc x p:=by
 cases x with
 |zero=>exact nP _
 |ofOdd n k h=>
  simp only[nR,NR.i,Uc,Fc];congr 1;omega
def ek(x:Dyadic):nR x=⟨false,ByteArray.mk #[],0⟩↔x=0:=by rw[<-zr,aaF]
def Hk{a:NR}(h:a.ok):Sz 18000000 a.da/\(nR a.da).Va.size<=1000000/\ -18000000<=(nR a.da).e/\(nR a.da).e<=18000000:=by
 obtain⟨h1,h2,G⟩:=h;refine⟨Sz.raw (m:=8000000) (E:=10000000) Z' Z' Z', ?_⟩;by_cases J:iv a.neg a.Va=0
 .rw[NR.da,NR.i,J,Sg,zr];exact⟨J' _,by simp,by simp⟩
 rw[NR.da,NR.i,Ms J];have o:bN a.Va≠0:=λh=>J ((rK a.neg a.Va).2 h);have b:tz (bN a.Va)<8*a.Va.size+1:=(by have:=BA a.Va;rw[show(256:Nat)=2^8 from rfl,<-i_] at this;have:=cz o this;omega);have F:Ea (iv a.neg a.Va/2^tz (bN a.Va)).natAbs<=8*a.Va.size:=(by apply Zb;refine l_ (E7 _ _) ?_;rw[vj];exact k_ (Ab _) (J_ Z' (yf _)));simp only;rw[sc];refine⟨Z',Z',Z'⟩
def Iq(a b:NR)(w:World)(S:Gc w)(ha:a.ok)(hb:b.ok):Zc 81 #[.agg #[.bool a.neg,.string a.Va,.int .i64 a.e],.agg #[.bool b.neg,.string b.Va,.int .i64 b.e]] w (.agg #[.int .i64 (-(Xc a.da b.da)),.bool (iN (Fc a.da (Xc a.da b.da))),.string (iM (Fc a.da (Xc a.da b.da))),.bool (iN (Fc b.da (Xc a.da b.da))),.string (iM (Fc b.da (Xc a.da b.da)))]):=by
 have I:=Hp.start w;obtain⟨o,p,v⟩:=ha;obtain⟨t,R,x⟩:=hb;obtain⟨_,fa1,fa2,fa3⟩:=Hk (a:=a) ⟨o,p,v⟩;obtain⟨_,fb1,fb2,fb3⟩:=Hk (a:=b) ⟨t,R,x⟩;have hP:=FL a.da b.da 18000000 Z' Z';have X:=λZ P=>Rz (-(Xc a.da b.da)) (nR a.da) Z P Z' Z' Z';have u:=λZ P=>Rz (-(Xc a.da b.da)) (nR b.da) Z P Z' Z' Z';rw[nH] at X u;by_cases J:a.da=0
 .have j:=(ek a.da).2 J;have K:(nR b.da).e= -(Xc a.da b.da):=by
   rw[J]
   cases b.da with
   |zero=>rfl
   |ofOdd n k h=>rfl
  refine Ca func81 ?_;refine Am ?_;intro B M I D Y I F w4 I;refine Ak 3 I ?_;refine wb ?_;refine vT ?_;refine wb ?_;refine Fa ?_;intro f W Q c;have A:=Q.bl;obtain⟨v9,v8,v7,_⟩:=c;replace I:=Q.hp;refine lg ?_;clear Q;refine qd I (Yc b _ (S.hp I) Z' Z' Z') rfl ?_;intro G I;refine yb ?_;intro ws I ws I;exact acQ
 have j:¬nR a.da=⟨false,ByteArray.mk #[],0⟩:=λh=>J ((ek _).1 h);by_cases h1:b.da=0
 .have E:=(ek b.da).2 h1;have K:(nR a.da).e= -(Xc a.da b.da):=by
   rw[h1]
   cases a.da with
   |zero=>rfl
   |ofOdd n k h=>rfl
  refine Ca func81 ?_;refine Am ?_;intro B M I D Y I F w4 I;refine Ak 3 I ?_;refine wb ?_;refine vT ?_;refine wb ?_;refine Fa ?_;intro f W Q c;have A:=Q.bl;obtain⟨v9,v8,v7,_⟩:=c;replace I:=Q.hp;refine lg ?_;clear Q;refine qd I (Yc b _ (S.hp I) Z' Z' Z') rfl ?_;intro G I;refine yb ?_;intro ws I ws I;refine mC rfl rfl (by assumption) V' ?_;refine fa ?_;exact acQ
 have E:¬nR b.da=⟨false,ByteArray.mk #[],0⟩:=λh=>h1 ((ek _).1 h);have K:(if(nR b.da).e<(nR a.da).e then(nR b.da).e else(nR a.da).e)= -(Xc a.da b.da):=by
  revert J h1
  cases a.da with
  |zero=>intro h;exact absurd rfl h
  |ofOdd n k h=>
   cases b.da with
   |zero=>intro _ h;exact absurd rfl h
   |ofOdd m l g=>
    intro _ _;simp only[nR,Xc];omega
 refine Ca func81 ?_;refine Am ?_;intro B M I D Y I F w4 I;refine Ak 3 I ?_;refine wb ?_;refine vT ?_;refine wb ?_;refine dn ?_;intro W I;refine qd I (Yc b _ (S.hp I) Z' Z' Z') rfl ?_;intro G I;refine yb ?_;intro ws I ws I;refine mC rfl rfl (by assumption) V' ?_;refine fa ?_;refine mC rfl rfl (by assumption) V' ?_;refine fa ?_;rw[K];refine yb ?_;intro H w6 I ws I;refine Ak 9 I ?_;refine wb ?_;refine dC (λ_ hj=>X _ (S.hp hj.hp)) ?_;refine wb ?_;refine dC (λ_ hj=>u _ (S.hp hj.hp)) ?_;refine dfa ?_;refine dn ?_;intro W I;exact qZ
def We(x y:Dyadic):Int:=if x<y then -1 else if y<x then 1 else 0
def RG(i j p:Int):(i-j).sign=We (Dyadic.ofIntWithPrec i p) (Dyadic.ofIntWithPrec j p):=by
 unfold We;simp only[ll];obtain h|h|h:=a7 i j
 .rw[P' h,X8 Z']
 .subst h;simp
 rw[Q' Z',P' h,T8 Z']
def uJ(i p:Int):i.sign=We (Dyadic.ofIntWithPrec i p) 0:=by
 have:=RG i 0 p;rwa[Int.sub_zero,Sg] at this
def NR.sign(a:NR):a.i.sign=We a.da 0:=uJ _ _
def CG(x y):(Fc x (Xc x y)-Fc y (Xc x y)).sign=We x y:=by
 rw[RG _ _ (Xc x y),XS,tP]
def nO(X Y:Int)(h:X.sign≠Y.sign):(if(if X.sign-Y.sign<1 then X.sign-Y.sign else 1)> -1 then(if X.sign-Y.sign<1 then X.sign-Y.sign else 1) else -1)=(X-Y).sign:=by
 obtain C|C|C:=a7 X 0<;>obtain hy|hy|hy:=a7 Y 0
 .rw[X8 C,X8 hy] at h;omega
 .rw[X8 C,hy,Int.sub_zero,X8 C];simp
 .rw[X8 C,T8 hy,X8 Z'];simp
 .subst C;rw[Int.sign_zero,X8 hy,T8 (a:=0-Y) Z'];simp
 .rw[C,hy] at h;omega
 .subst C;rw[Int.sign_zero,T8 hy,X8 (a:=0-Y) Z'];simp
 .rw[T8 C,X8 hy,T8 Z'];simp
 .rw[T8 C,hy,Int.sub_zero,T8 C];simp
 rw[T8 C,T8 hy] at h;omega
def Et{a b:NR}(M:a.ok)(F:b.ok):(iM (Fc a.da (Xc a.da b.da))).size<=6000000/\(iM (Fc b.da (Xc a.da b.da))).size<=6000000/\ -18000000<=Xc a.da b.da/\Xc a.da b.da<=18000000:=by
 obtain⟨_,c,l,B⟩:=Hk M;obtain⟨_,H,X,e⟩:=Hk F;have f:=FL a.da b.da 18000000 Z' Z';have h1:=Bx a.da (Xc a.da b.da);have h2:=Bx b.da (Xc a.da b.da);rw[sc,sc];refine⟨Z',Z',f.1,f.2⟩
def Cl(i:Int): -1<=i.sign/\i.sign<=1:=by
 obtain h|h|h:=a7 i 0
 .rw[X8 h];omega
 .rw[h];simp
 rw[T8 h];omega
def Sd(a b:NR)(w)(S:Gc w)(M:a.ok)(F:b.ok):Zc 26 #[a.V,b.V] w (.int .i64 (We a.da b.da)):=by
 have I:=Hp.start w;obtain⟨m,h,_⟩:=Et M F;have N:a.i.sign=(Fc a.da (Xc a.da b.da)).sign:=by rw[NR.sign,uJ _ (Xc a.da b.da),XS]
 have o:b.i.sign=(Fc b.da (Xc a.da b.da)).sign:=by rw[NR.sign,uJ _ (Xc a.da b.da),tP]
 have g:=Cl a.i;have r:=Cl b.i;by_cases E:a.i.sign=b.i.sign
 .refine Ca func26 ?_;refine yb ?_;intro T q I j p I;refine ud 3 I ?_;refine dC (λ_ hj=>jc a _) ?_;refine wb ?_;refine Fa ?_;intro f W Q c;have A:=Q.bl;obtain⟨v10,n,Y,_⟩:=c;replace I:=Q.hp;refine lg ?_;refine cd I (jc b _) ?_;intro t I;refine fa ?_;refine cd I (Iq a b _ (S.hp I) M F) ?_;intro k I;refine yb ?_;intro l s I ws I;refine qd I (kH _ _ _ _ _ Z' Z') rfl ?_;intro G I;rw[Uc,Uc,CG];refine fa ?_;exact⟨rfl,I.below⟩
 refine Ca func26 ?_;refine yb ?_;intro T q I j p I;refine ud 3 I ?_;refine dC (λ_ hj=>jc a _) ?_;refine wb ?_;refine dn ?_;intro W I;refine cd I (jc b _) ?_;intro t I;refine fa ?_;refine⟨?_,I.below⟩;rw[N,o] at E;rw[N,o,<-CG a.da b.da,<-nO _ _ E]
def Fp(a:NR)(w)(S:Gc w)(M:a.Va.size<=100000000)(h1: -1000000000000<=a.e)(h2:a.e<=1000000000000):Zc 29 #[a.V] w (.agg #[.bool (nR (if a.da<0 then -a.da else a.da)).neg,.string (nR (if a.da<0 then -a.da else a.da)).Va,.int .i64 (nR (if a.da<0 then -a.da else a.da)).e]):=by
 have I:=Hp.start w;have K:=NR.sign a;by_cases J:a.da<0
 .have g:a.i.sign= -1:=by rw[K,We,P' J]
  rw[P' J];refine Ca func29 ?_;refine yb ?_;intro G Z I T q I;refine cd I (jc a _) ?_;intro y I;rw[g];refine fa ?_;refine cd I (zj a _ (S.hp I) M h1 h2) ?_;exact yP
 have g:¬a.i.sign<0:=by rw[K,We,Q' J];split<;>omega
 rw[Q' J];refine Ca func29 ?_;refine yb ?_;intro G Z I T q I;refine cd I (jc a _) ?_;intro y I;refine fa ?_;refine cd I (Yc a _ (S.hp I) M h1 h2) ?_;intro z I;refine VI ?_;intro ws I;exact⟨rfl,I.below⟩
def ti(n:Int):Dyadic:=Dyadic.ofIntWithPrec 1 (-n)
def TA(i p n:Int):Dyadic.ofIntWithPrec i (p-n)=Dyadic.ofIntWithPrec i p*ti n:=by
 rw[ti,Nu,Int.mul_one];rfl
def Hq(a:NR)(n:Int)(w)(S:Gc w)(M:a.Va.size<=100000000)(h1: -100000000000<=a.e)(h2:a.e<=100000000000)(G: -100000000000<=n)(z:n<=100000000000):Zc 66 #[a.V,.int .i64 n] w (.agg #[.bool (nR (a.da*ti n)).neg,.string (nR (a.da*ti n)).Va,.int .i64 (nR (a.da*ti n)).e]):=by
 have I:=Hp.start w;have N:Dyadic.ofIntWithPrec (iv a.neg a.Va) (-(a.e+n))=a.da*ti n:=(by rw[NR.da,NR.i,<-TA];congr 1;omega);have E:=λZ P=>kf a.neg a.Va (a.e+n) Z P M Z' Z';rw[N] at E;refine Ca func66 ?_;refine yb ?_;intro T q I D y I;refine cd I (E _ (S.hp I)) ?_;intro t I;refine VI ?_;intro ws I;exact⟨rfl,I.below⟩
def Vl:List Dyadic->Dyadic:=λl=>l.foldl (· + ·) 0
def AA(l:List Dyadic)(x:Dyadic):Vl (l++[x])=Vl l+x:=by simp[Vl]
def Sz.sum{l:List Dyadic}(h:∀x∈l,Sz k x):Sz (k+l.length) (Vl l):=by
 have:∀(n:Nat),n<=l.length->Sz (k+n) (Vl (l.take n)):=by
  intro n
  induction n with
  |zero=>intro _;exact Sz.zero _
  |succ n W=>
   intro B;obtain⟨x,C⟩:=aa (l:=l) (k:=n) Z';rw[ja C,AA];exact(W Z').add ((h x (N' C)).mono Z')
 have h2:=this l.length (E' _);rwa[X6] at h2
def Vw(a b:NR)(w)(S:Gc w)(M:a.ok)(F:b.ok):Zc 123 #[.agg #[.bool (iN (Fc a.da (Xc a.da b.da)+Fc b.da (Xc a.da b.da))),.string (iM (Fc a.da (Xc a.da b.da)+Fc b.da (Xc a.da b.da)))],.int .i64 (-(Xc a.da b.da))] w (.agg #[.bool (nR (a.da+b.da)).neg,.string (nR (a.da+b.da)).Va,.int .i64 (nR (a.da+b.da)).e]):=by
 obtain⟨m,g,c,f⟩:=Et M F;rw[sc] at m g;have G:=gl (Fc a.da (Xc a.da b.da)) (Fc b.da (Xc a.da b.da));have:=kf (iN (Fc a.da (Xc a.da b.da)+Fc b.da (Xc a.da b.da))) (iM (Fc a.da (Xc a.da b.da)+Fc b.da (Xc a.da b.da))) (-(Xc a.da b.da)) w S (by rw[sc];omega) Z' Z';rw[Uc,M7,TV] at this;exact this
def zf(L)(n c:Nat)(l)(w)(H:Gc w)(J:Sl w L n 3 (ia NR.cells l))(Q:∀a∈l,a.ok)(k:Nat)(hk:∀a∈l,Sz k a.da)(hkn:k+n<=3999990):Zc 63 #[.slice L n c] w (.agg #[.bool (nR (Vl (l.map NR.da))).neg,.string (nR (Vl (l.map NR.da))).Va,.int .i64 (nR (Vl (l.map NR.da))).e]):=by
 have hln:=J.sa NR.len Z';have I:=Hp.start w;refine Ca func63 ?_;refine yb ?_;intro T w2 I K w3 I;refine bf 9 (λj V=>∃(i:Nat)(S:Dyadic),i<=n/\j=.int .i64 i/\S=Vl ((l.take i).map NR.da)/\Hp w [.blk K 30 [.bool (nR S).neg,.string (nR S).Va,.int .i64 (nR S).e] (0,0),.blk T 30 [.bool false,.string (ByteArray.mk #[]),.int .i64 0] (0,0)] V) (λj _=>n-(intOf j).toNat) ?_ ?_
 .exact⟨0,0,J' _,rfl,rfl,I⟩
 clear I;rintro ρ' j V ⟨i,S,hi,rfl,z,I⟩;by_cases hlt:i<n
 .obtain⟨x,D⟩:=aa (l:=l) (k:=i) Z';obtain⟨ad,rfl,hr⟩:=J.at_ Z';have F:=N' D;have g:Vl ((l.take (i+1)).map NR.da)=S+x.da:=by rw[ja D,G_,N7,AA,z]
  have m:Sz (k+i) S:=by
   rw[z];have:=Sz.sum (k:=k) (l:=(l.take i).map NR.da) (λy hy=>by
    obtain⟨a,Y,rfl⟩:=B'.1 hy;exact hk a (x9 Y))
   rw[D',p',P9 Z'] at this;exact this
  have N:=m.ok Z';have b:=λZ P=>Iq (nR S) x Z P N (Q x F);have q:=λZ P=>Vw (nR S) x Z P N (Q x F);obtain⟨t,u,_⟩:=Et N (Q x F);rw[Ga] at b q t u;have M:([iR (Fc S (Xc S x.da)),iR (Fc x.da (Xc S x.da))].map IR.v).sum=Fc S (Xc S x.da)+Fc x.da (Xc S x.da):=(by simp only[I_,R9,Z6,List.sum_nil,JU];omega);have p:∀(A:Option Addr)(B:Nat)(Z:World),Sl Z A 2 2 (ia IR.cells [iR (Fc S (Xc S x.da)),iR (Fc x.da (Xc S x.da))])->Zc 124 #[.slice A 2 B] Z (.agg #[.bool (iN (Fc S (Xc S x.da)+Fc x.da (Xc S x.da))),.string (iM (Fc S (Xc S x.da)+Fc x.da (Xc S x.da)))]):=λA B Z C=>(by have:=Xl A 2 B [iR (Fc S (Xc S x.da)),iR (Fc x.da (Xc S x.da))] Z C Z' (by simp[iR];omega);rw[M] at this;exact this);refine fa ?_;refine sv (Ka (vs:=[_,_,_]) pa.out rfl (((hr.ext I.below).recAt NR.len D)) rfl) ?_;refine yb ?_;intro b5 w5 I ws I;refine cd I (b _ (H.hp I)) ?_;intro w15 I;refine yb ?_;intro b6 w6 I ws I;refine ud 8 I ?_;refine Wp [_,_,_,_] ?_;refine Ja (i:=5) (Is (.agg #[.bool (iN (Fc S (Xc S x.da)+Fc x.da (Xc S x.da))),.string (iM (Fc S (Xc S x.da)+Fc x.da (Xc S x.da)))])) Is.ext ?_ ?_
  .intro U Z hj hR;obtain⟨h,o,r,E⟩:=hR.1;exact ib rfl (La fi (qa r Wa)) (p h o _ E) (λ_ _ R=>⟨_,R.1,R.2,rfl⟩)
  refine wb ?_;refine Fa ?_;intro f W G X;obtain⟨v23,v22,v21,v20,v19,v18,v17,v16,_⟩:=X;obtain⟨h,o,s,f20⟩:Rows _ _ _ (f 4) W:=v20;replace I:=G.hp;refine lg ?_;refine cd I (q _ (H.hp I)) ?_;intro w24 I;refine Bb ?_;intro ws I;replace I:=I.sub ((r_ _ _).trans (r_ _ _));refine⟨⟨i+1,_,Z',rfl,g.symm,I⟩,by show n-(i+1)<n-i;omega, ?_⟩;exact Wb
 exact sY
def Sh(x:Dyadic)(y):Vl [x,y]=x+y:=by
 show(0+x)+y=x+y;rw[g8]
def Lj(a b:NR)(w)(S:Gc w)(M:a.ok)(F:b.ok)(k:Nat)(c:Sz k a.da)(Q:Sz k b.da)(u:k<=3999980):Zc 27 #[a.V,b.V] w (.agg #[.bool (nR (a.da-b.da)).neg,.string (nR (a.da-b.da)).Va,.int .i64 (nR (a.da-b.da)).e]):=by
 have I:=Hp.start w;obtain⟨t,R,x⟩:=F;have N:Vl ([a,nR (-b.da)].map NR.da)=a.da-b.da:=(by simp only[I_,R9,Ga,Sh];rfl);have h:∀(A:Option Addr)(B:Nat)(Z:World),Gc Z->Sl Z A 2 3 (ia NR.cells [a,nR (-b.da)])->Zc 63 #[.slice A 2 B] Z (.agg #[.bool (nR (a.da-b.da)).neg,.string (nR (a.da-b.da)).Va,.int .i64 (nR (a.da-b.da)).e]):=λA B Z P p=>(by have:=zf A 2 B [a,nR (-b.da)] Z P p (by simpa using⟨M,Q.neg.ok Z'⟩) k (by simpa[Ga] using⟨c,Q.neg⟩) Z';rw[N] at this;exact this);refine Ca func27 ?_;refine Am ?_;intro T q I j g I D y I;refine ud 3 I ?_;refine dC (λ_ hj=>zj b _ (S.hp hj.hp) Z' Z' Z') ?_;refine dn ?_;intro W I;refine jr ?_;intro f o I;refine cd I (h _ _ _ (S.hp I) (I.ma (i:=0) rfl)) ?_;exact aaD
def Re:List Dyadic->Dyadic:=λl=>l.foldl (· * ·) 1
def Iv(l:List Dyadic)(x:Dyadic):Re (l++[x])=Re l*x:=by simp[Re]
def Sz.one:Sz 1 1:=⟨2,by decide+kernel,V'⟩
def Sz.prod{l:List Dyadic}(h:∀x∈l,Sz k x):Sz (1+k*l.length) (Re l):=by
 have:∀(n:Nat),n<=l.length->Sz (1+k*n) (Re (l.take n)):=by
  intro n
  induction n with
  |zero=>intro _;exact Sz.one
  |succ n W=>
   intro B;obtain⟨x,C⟩:=aa (l:=l) (k:=n) Z';rw[ja C,Iv];exact((W Z').mul (h x (N' C))).mono (by rw[o9];omega)
 have h2:=this l.length (E' _);rwa[X6] at h2
def Td(L)(n c:Nat)(l)(w)(u:Gc w)(J:Sl w L n 3 (ia NR.cells l))(hl:∀a∈l,a.ok)(k:Nat)(hk:∀a∈l,Sz k a.da)(hkn:k*n<=3999980)(hn:n<=1000000):Zc 64 #[.slice L n c] w (.agg #[.bool (nR (Re (l.map NR.da))).neg,.string (nR (Re (l.map NR.da))).Va,.int .i64 (nR (Re (l.map NR.da))).e]):=by
 have hln:=J.sa NR.len Z';have I:=Hp.start w;refine Ca func64 ?_;refine Bb ?_;intro T w2 I;refine qd I (ej 1 _ (u.hp I) Z' Z') rfl ?_;intro w6 I;refine yb ?_;intro D w3 I ws I;refine bf 9 (λj V=>∃(i:Nat)(S:Dyadic),i<=n/\j=.int .i64 i/\S=Re ((l.take i).map NR.da)/\Hp w [.blk D 30 [.bool (nR S).neg,.string (nR S).Va,.int .i64 (nR S).e] (0,0),.blk T 30 [.bool false,.string (ByteArray.mk #[]),.int .i64 0] (0,0)] V) (λj _=>n-(intOf j).toNat) ?_ ?_
 .exact⟨0,_,J' _,rfl,rfl,I⟩
 clear I;rintro ρ' j V ⟨i,S,hi,rfl,z,I⟩;by_cases hlt:i<n
 .obtain⟨x,C⟩:=aa (l:=l) (k:=i) Z';obtain⟨ad,rfl,hr⟩:=J.at_ Z';have F:=N' C;have o:Re ((l.take (i+1)).map NR.da)=S*x.da:=by rw[ja C,G_,N7,Iv,z]
  have h:Sz (1+k*i) S:=by
   rw[z];have:=Sz.prod (k:=k) (l:=(l.take i).map NR.da) (λy hy=>by
    obtain⟨a,M,rfl⟩:=B'.1 hy;exact hk a (x9 M))
   rw[D',p',P9 Z'] at this;exact this
  have hki:k*i<=k*n:=D_ _ hi;obtain⟨so1,so2,so3⟩:=h.ok Z';obtain⟨xo1,xo2,xo3⟩:=hl x F;have N:Mk ([IR.mk (nR S).neg (nR S).Va,IR.mk x.neg x.Va].map IR.v)=(nR S).i*x.i:=(by simp only[I_,R9,Mk,Int.mul_one];rfl);have E:Dyadic.ofIntWithPrec ((nR S).i*x.i) (-((nR S).e+x.e))=S*x.da:=(by have:=Nu (nR S).i x.i (-(nR S).e) (-x.e);rw[Int.neg_add,<-this];congr 1;exact Ga S);have p:∀(A:Option Addr)(B:Nat)(Z:World),Sl Z A 2 2 (ia IR.cells [IR.mk (nR S).neg (nR S).Va,IR.mk x.neg x.Va])->Zc 125 #[.slice A 2 B] Z (.agg #[.bool (iN ((nR S).i*x.i)),.string (iM ((nR S).i*x.i))]):=λA B Z s=>(by have:=Qp A 2 B [IR.mk (nR S).neg (nR S).Va,IR.mk x.neg x.Va] Z s Z' (by simp;omega);rw[N] at this;exact this);have r:∀Z,Gc Z->Zc 123 #[.agg #[.bool (iN ((nR S).i*x.i)),.string (iM ((nR S).i*x.i))],.int .i64 ((nR S).e+x.e)] Z (.agg #[.bool (nR (S*x.da)).neg,.string (nR (S*x.da)).Va,.int .i64 (nR (S*x.da)).e]):=λZ P=>(by have H:=Yg (nR S).neg (nR S).Va;have K:=Yg x.neg x.Va;have q:=Wq (nR S).i x.i;have:=kf (iN ((nR S).i*x.i)) (iM ((nR S).i*x.i)) ((nR S).e+x.e) Z P (by rw[sc];unfold NR.i at q |-;omega) Z' Z';rw[Uc,E] at this;exact this);refine fa ?_;refine sv (Ka (vs:=[_,_,_]) pa.out rfl (((hr.ext I.below).recAt NR.len C)) rfl) ?_;refine yb ?_;intro b5 w5 I ws I;refine ud 11 I ?_;refine Wp [_,_,_,_] ?_;refine Ja (i:=5) (Is (.agg #[.bool (iN ((nR S).i*x.i)),.string (iM ((nR S).i*x.i))])) Is.ext ?_ ?_
  .intro U Z hj hR;obtain⟨Y,m,g,t⟩:=hR.1;exact ib rfl (La fi (qa g Wa)) (p Y m _ t) (λ_ _ R=>⟨_,R.1,R.2,rfl⟩)
  refine wb ?_;refine Fa ?_;intro f W Q G;obtain⟨v23,v22,v21,v20,v19,v18,X,v16,v15,v14,v13,_⟩:=G;obtain⟨Y,m,b,f17⟩:Rows _ _ _ (f 4) W:=X;replace I:=Q.hp;refine lg ?_;refine cd I (r _ (u.hp I)) ?_;intro w24 I;refine Bb ?_;intro ws I;replace I:=I.sub (r_ _ _);refine⟨⟨i+1,_,Z',rfl,o.symm,I⟩,by show n-(i+1)<n-i;omega, ?_⟩;exact Wb
 exact sY
def Xf(f:Dyadic->Dyadic->Bool):List Dyadic->Dyadic
 |[]=>0
 |a::r=>r.foldl (λout a=>if f a out then a else out) a
def ZI(f:Dyadic->Dyadic->Bool){l:List Dyadic}(h:l≠[])(x:Dyadic):Xf f (l++[x])=if f x (Xf f l) then x else Xf f l:=by
 cases l with
 |nil=>exact absurd rfl h
 |cons a r=>
  show(r++[x]).foldl _ a=_;rw[p8];rfl
def fq(L)(n c:Nat)(l)(g:FuncId)(f:Dyadic->Dyadic->Bool)(w)(S:Gc w)(J:Sl w L n 3 (ia NR.cells l))(Q:∀a∈l,a.ok)(K:n<=1000000)[la prog g] (s:∀(a b:NR)(w:World),Gc w->a.ok->b.ok->Zc g #[a.V,b.V] w (.bool (f a.da b.da))):Zc 215 #[.slice L n c,.func (.func g) #[] #[]] w (.agg #[.bool (nR (Xf f (l.map NR.da))).neg,.string (nR (Xf f (l.map NR.da))).Va,.int .i64 (nR (Xf f (l.map NR.da))).e]):=by
 have q:=J.sa NR.len Z';have I:=Hp.start w;refine Ca func215 ?_;refine yb ?_;intro D X I R w5 I;refine bf 10 (λj V=>∃(i:Nat)(o:NR),i<=n/\j=.int .i64 i/\o.ok/\o.da=Xf f ((l.take i).map NR.da)/\Hp w [.blk R 30 [.bool o.neg,.string o.Va,.int .i64 o.e] (0,0),.blk D 30 [.bool false,.string (ByteArray.mk #[]),.int .i64 0] (0,0)] V) (λj _=>n-(intOf j).toNat) ?_ ?_
 .exact⟨0,nR 0,J' _,rfl,(Sz.zero 0).ok Z',rfl,I⟩
 clear I;rintro ρ' j V ⟨i,o,hi,rfl,y,A,I⟩;by_cases r:i<n
 .obtain⟨x,C⟩:=aa (l:=l) (k:=i) Z';obtain⟨B,rfl,H⟩:=J.at_ Z';have u:=Q x (N' C);have m:(l.take (i+1)).map NR.da=(l.take i).map NR.da++[x.da]:=by rw[ja C,G_,N7]
  by_cases p:i=0
  .subst p;refine fa ?_;refine sv (Ka (vs:=[_,_,_]) pa.out rfl (((H.ext I.below).recAt NR.len C)) rfl) ?_;refine Am ?_;intro t z I ws I ws I;replace I:=I.sub (r_ _ _);refine⟨⟨1,x,Z',rfl,u,by rw[m];rfl,I⟩,by show n-(0+1)<n-0;omega, ?_⟩;exact Wb
  have E:(l.take i).map NR.da≠[]:=(by intro h;have:=Y_ List.length h;rw[D',p',B7] at this;omega);have F:=ZI f E x.da;rw[<-m,<-A] at F;refine fa ?_;refine sv (Ka (vs:=[_,_,_]) pa.out rfl (((H.ext I.below).recAt NR.len C)) rfl) ?_;refine yb ?_;intro t z I ws I;refine Hh (s x o _ (S.hp I) u y) la.out rfl rfl V' ?_;rintro G v ⟨rfl,M⟩;refine Xq ?_;intro I
  cases Y:f x.da o.da with
  |true=>
   rw[Y,P' rfl] at F;refine Bb ?_;intro ws I;replace I:=I.sub (r_ _ _);refine⟨⟨i+1,x,Z',rfl,u,F.symm,I⟩,by show n-(i+1)<n-i;omega, ?_⟩;exact Wb
  |false=>
   rw[Y] at F;refine fa ?_;replace I:=I.sub (r_ _ _);refine⟨⟨i+1,o,Z',rfl,y,F.symm,I⟩,by show n-(i+1)<n-i;omega, ?_⟩;exact Wb
 rw[w' Z'] at A;obtain⟨N,P,W⟩:=y;refine fa ?_;refine cdC I (Yc o _ (S.hp I) Z' Z' Z') rfl ?_;intro T I;rw[A];refine oQ ?_;intro ws I;exact⟨rfl,I.below⟩
def tq(x)(y:Dyadic):We x y<0↔x<y:=by
 unfold We;split
 .rename_i h;simp[h]
 rename_i h;split<;>simp[h]
def Tu(x y):0<We x y↔y<x:=by
 unfold We;split
 .rename_i h;have:¬y<x:=by grind
  simp[this]
 split<;>rename_i h<;>simp[h]
def DF(a b:NR)(w)(S:Gc w)(M:a.ok)(F:b.ok):Zc 238 #[a.V,b.V] w (.bool (decide (a.da<b.da))):=by
 have I:=Hp.start w;have N:decide (We a.da b.da<0)=decide (a.da<b.da):=decide_eq_decide.2 (tq _ _);refine Ca func238 ?_;exact adQ
def xF(a b:NR)(w)(S:Gc w)(M:a.ok)(F:b.ok):Zc 216 #[a.V,b.V] w (.bool (decide (b.da<a.da))):=by
 have I:=Hp.start w;have N:decide (0<We a.da b.da)=decide (b.da<a.da):=decide_eq_decide.2 (Tu _ _);refine Ca func216 ?_;exact adQ
def jI(L)(n c:Nat)(l)(w)(S:Gc w)(J:Sl w L n 3 (ia NR.cells l))(Q:∀a∈l,a.ok)(B:n<=1000000):Zc 170 #[.slice L n c] w (.agg #[.bool (nR (Xf (λx y=>decide (x<y)) (l.map NR.da))).neg,.string (nR (Xf (λx y=>decide (x<y)) (l.map NR.da))).Va,.int .i64 (nR (Xf (λx y=>decide (x<y)) (l.map NR.da))).e]):=by
 have I:=Hp.start w;refine Ca func170 ?_;refine Bb ?_;intro T q I;refine cd I (fq L n c l 238 (λx y=>decide (x<y)) _ (S.hp I) (J.ext I.below) Q B DF) ?_;exact yP
def Qx(L)(n c:Nat)(l)(w)(S:Gc w)(J:Sl w L n 3 (ia NR.cells l))(Q:∀a∈l,a.ok)(B:n<=1000000):Zc 140 #[.slice L n c] w (.agg #[.bool (nR (Xf (λx y=>decide (y<x)) (l.map NR.da))).neg,.string (nR (Xf (λx y=>decide (y<x)) (l.map NR.da))).Va,.int .i64 (nR (Xf (λx y=>decide (y<x)) (l.map NR.da))).e]):=by
 have I:=Hp.start w;refine Ca func140 ?_;refine Bb ?_;intro T q I;refine cd I (fq L n c l 216 (λx y=>decide (y<x)) _ (S.hp I) (J.ext I.below) Q B xF) ?_;exact yP
def Zl{x y:Dyadic}(h:x<y):We x y= -1:=by rw[We,P' h]
def Bp{x y:Dyadic}(h:y<x):We x y=1:=by
 have:¬x<y:=by grind
 rw[We,Q' this,P' h]
def Jo(x):We x x=0:=by
 have:¬x<x:=by grind
 rw[We,Q' this,Q' this]
def jP(x:Dyadic)(y):x<y\/x=y\/y<x:=by
 obtain h|h:=Classical.em (x<y)
 .exact .inl h
 obtain h2|h2:=Classical.em (y<x)
 .exact .inr (.inr h2)
 exact .inr (.inl (by grind))
def VB(x y): -1<=We x y/\We x y<=1:=by
 unfold We;split<;>(try split)<;>omega
def Sl.adH{A:Option Addr}{xs:List Nat}(h:Sl w A n 1 (ig xs))(u:k<=n):Sl w A k 1 (ig (xs.take k)):=by
 have Q:=h.1;rw[Bc] at Q;refine⟨by rw[Bc,p'];omega,λJ=> ?_⟩;obtain⟨b,he,H⟩:=h.2 Z';exact⟨b,he,by rw[PD];exact H.take k⟩
def Sl.adS{A:Option Addr}{xs:List Nat}(h:Sl w A n 1 (ig xs)):Sl w A (Ad xs).length 1 (ig (Ad xs)):=by
 have Q:=h.1;rw[Bc] at Q;have:=Vd xs;have h2:=h.adH (k:=(Ad xs).length) Z';rwa[<-mj] at h2
def Hp.abR{H:List HE}{A:Option Addr}{c:Nat}{t:TypeId}{xs:List Nat}(h:Hp w0 (.row A n c t 1 (ig xs)::H) w)(Q:xs.length=n):Hp w0 (.row A (Ad xs).length c t 1 (ig (Ad xs))::H) w:=by
 have h1:=Vd xs;have h2:=h.CB (k:=(Ad xs).length) Z';rw[X_,<-PD,<-mj] at h2;exact h2
def Tl(A)(n c:Nat)(xs)(w)(C:Sl w A n 1 (ig xs))(E:n<=c)(B:n<=1000000000000):Zc 276 #[.slice A n c] w (.slice A (Ad xs).length c):=by
 have hlen:xs.length=n:=by have:=C.1;rw[Bc] at this;omega
 have I:=Hp.start w;refine Ca func276 ?_;refine fa ?_;refine bf 3 (λv V=>∃k:Nat,k<=n/\v=.int .i64 k/\Ad (xs.take k)=Ad xs/\V=w) (λv _=>(intOf v).toNat) ?_ ?_
 .exact⟨n,E' _,rfl,by rw[w' Z'],rfl⟩
 rintro ρ' v V ⟨k,u,rfl,t,rfl⟩;by_cases J:k=0
 .subst J;refine fa ?_;refine sv (Rh (h:=0) Qa.out pa.size rfl rfl Z' Z') ?_;refine fa ?_;rw[<-t];exact⟨rfl,I.below⟩
 obtain⟨j,rfl⟩:∃j,k=j+1:=⟨k-1,Z'⟩;obtain⟨d,T⟩:=aa (l:=xs) (k:=j) Z';obtain⟨b,rfl,H⟩:=C.at_ Z';have r:=Qm T;rw[ja T] at t;by_cases o:d=0
 .subst o;rw[sx] at t;refine xa (sr (mI ?_));refine Fu (mB (gT (mL (gT (mI ?_)))));refine oV ?_;refine⟨⟨j,Z',by show Value.int _ _=Value.int _ _;congr 1;omega,t,rfl⟩,by show(((j+1:Nat):Int)-1).toNat<(((j+1:Nat):Int)).toNat;omega, ?_⟩;exact Wb
 rw[Dz o] at t;refine xa (sr (mI ?_));refine Fu (mB (gT (mL (gT (mI ?_)))));refine oV ?_;refine sv (Rh (h:=j+1) Qa.out pa.size rfl rfl Z' Z') ?_;refine fa ?_;exact UY
def rO{s:List UInt8}{c:UInt8}(E:(dF s)[j]?=some c.toNat)(u:k<8):c.toNat/2^k % 2=bn s/2^(8*j+k) % 2:=by
 have h1:=wv (eD s) E;rw[<-h1,<-bn,R_,i_,show(2^8:Nat)=256 from rfl,<-l9];generalize bn s/256^j=m;have e:(256:Nat)=2^k*2^(8-k):=by rw[<-R_,show k+(8-k)=8 by omega]
 have L:2^(8-k)=2*2^(7-k):=by rw[<-Nat.pow_succ'];congr 1;omega
 rw[e,Nat.mod_mul_right_div_self,L,Nat.mod_mul_right_mod]
variable {K Y:Nat}
def Pc(a:ByteArray)(w)(r:a.size<=1000000000):Calls prog 230 #[.string a] w λe V=>∃A c,e=.returned (.slice A (ra 2 (bN a)).length c)/\V.ownsRow w.heap.size 5 1 (.slice A (ra 2 (bN a)).length c) (ra 2 (bN a)).length (ig (ra 2 (bN a)))/\Below w.heap.size w V:=by
 have M:=Hc a;have I:=Hp.start w;refine Ca func230 ?_;refine fa ?_;replace I:=I.rb 5 1;refine Fi 3 4 (λo v V=>∃(j:Nat)(A:Option Addr)(c:Nat),j<=a.size/\v=.int .i64 ((a.size:Int)-1-j)/\o=.slice A (8*j) c/\Hp w [.row A (8*j) c 5 1 (ig (jb 2 (8*j) (bN a)))] V) (λ_ v _=>(intOf v+1).toNat) ?_ ?_
 .exact⟨0,none,0,J' _,by show Value.int _ _=Value.int _ _;congr 1;omega,rfl,I⟩
 clear I;rintro ρ' o v V ⟨j,A,c,hj,rfl,rfl,I⟩;by_cases D:j<a.size
 .obtain⟨Y,E⟩:=aa (l:=a.data.toList) (k:=((a.size:Int)-1-j).toNat) Z';have p:=kS (s:=a.data.toList) (i:=j) (c:=Y) Z' (by rw[<-E];congr 1;omega);have R:=Y.toNat_lt;refine fa ?_;refine Fi 3 5 (λo v V=>∃(k:Nat)(A:Option Addr)(c:Nat),k<=8/\v=.int .i64 (k:Int)/\o=.slice A (8*j+k) c/\Hp w [.row A (8*j+k) c 5 1 (ig (jb 2 (8*j+k) (bN a)))] V) (λ_ v _=>8-(intOf v).toNat) ?_ ?_
  .exact⟨0,A,c,J' _,rfl,rfl,I⟩
  clear I;rintro K o v x ⟨k,g,h,u,rfl,rfl,I⟩;by_cases d:k<8
  .have f:=rO p d;have hand:∀z:Nat,z &&& 1=z % 2:=λz=>Nat.and_one_is_mod z;have m:Y.toNat/2^(k:Int).toNat<256:=l_ (H8 _ _) R;refine fa ?_;refine sv (Tp rfl rfl Z') ?_;refine CS ?_;refine IA ?_;intro L n I;refine Er ?_;intro t y G I;refine XO ?_;intro I;have N:ig (jb 2 (8*j+k) (bN a))++[Value.int .u8 ((Y.toNat/2^(k:Int).toNat &&& 1:Nat):Int)]=ig (jb 2 (8*j+(k+1)) (bN a)):=(by rw[hand,M8,f,<-n7,Fk,Bw];rfl);rw[N] at I;refine⟨⟨k+1,t,y,Z',rfl,rfl,I⟩,by show 8-(k+1)<8-k;omega, ?_⟩;exact Wb
  obtain rfl:k=8:=Z';refine fa ?_;refine⟨⟨j+1,g,h,Z',by show Value.int _ _=Value.int _ _;congr 1;omega,rfl,I⟩,by show((a.size:Int)-1-j-1+1).toNat<((a.size:Int)-1-j+1).toNat;omega, ?_⟩;exact Wb
 obtain rfl:j=a.size:=Z';refine fa ?_;refine qd I (Tl _ _ _ (jb 2 (8*a.size) (bN a)) _ (I.ma (i:=0) rfl) (I.ve (i:=0) rfl) Z') rfl ?_;intro q I;refine fa ?_;have F:=BA a;rw[show(256:Nat)=2^8 from rfl,<-i_] at F;have T:Ad (jb 2 (8*a.size) (bN a))=ra 2 (bN a):=(by rw[bg Z' (ie Z' _ _),Db F]);have h1:=(Hp.abR (xs:=jb 2 (8*a.size) (bN a)) I (ua _ _)).at_ (i:=0) rfl;exact jW
def pW{l:List Nat}{v:Nat}(h:j<l.length):l.reverse.set (l.length-1-j) v=(l.set j v).reverse:=by
 apply g_;intro i;obtain hi|hi:=o_ i l.length
 .rw[z8 (by rw[d_];exact hi),d_,L9,L9,z8 hi,F_];by_cases he:l.length-1-j=i
  .rw[P' he,P' Z',P' Z',P' h]
  rw[Q' he,Q' Z']
 rw[K_ (by simp;omega),K_ (by simp;omega)]
def DH{i b:Nat}(P:Nat)(f:P<2^i)(F:b<2)(u:i/8<k):P/256^(i/8) % 256+b*2^(i % 8)<256/\(jb 256 k P).set (i/8) (P/256^(i/8) % 256+b*2^(i % 8))=jb 256 k (P+2^i*b):=by
 have hp:2^i=256^(i/8)*2^(i % 8):=(by rw[show(256:Nat)=2^8 from rfl,<-i_,<-R_];congr 1;omega);have h1:P/256^(i/8)<2^(i % 8):=(by rw[N9 (N_ Z'),V_,<-hp];exact f);have h2:2^(i % 8)<=128:=(by have:=J_ (show 0<2 by omega) (show i % 8<=7 by omega);omega);have G:P/256^(i/8) % 256<2^(i % 8):=l_ (Nat.mod_le _ _) h1;have z:b*2^(i % 8)<=1*2^(i % 8):=c_ _ Z';have a:2^i*b=256^(i/8)*(b*2^(i % 8)):=by rw[hp,Z9,V_ b]
 refine⟨Z', ?_⟩;rw[a];refine ar Z' u ?_ Z';rw[<-a];have L:2^i*b<=2^i*1:=D_ _ Z';have N:2^(i+1)<=256^k:=(by rw[show(256:Nat)=2^8 from rfl,<-i_];exact J_ Z' Z');rw[B_] at N;omega
def qf(A)(n c:Nat)(xs)(w)(C:Sl w A n 1 (ig xs))(T:Dg 2 xs)(E:n<=c)(o:n<=100000000000):Zc 229 #[.slice A n c] w (.string (sN (va 2 xs))):=by
 have Q:=C.1;rw[Bc] at Q;have h:=Vd xs;have X:=C.adS;have g:=bg Z' T;have hlen:=SH (va 2 xs);rw[g] at h X;have P:=(Ed (B:=2) Z' (va 2 xs)).1;have z:=Yd (B:=2) Z' (va 2 xs);have Y:(ra 2 (va 2 xs)).length=Ea (va 2 xs):=rfl;have I:=Hp.start w;refine Ca func229 ?_;refine fa ?_;refine qd I (Tl _ _ _ xs _ C E Z') rfl ?_;intro q I;rw[g];generalize va 2 xs=M at*;generalize ra 2 M=a at*;refine fa ?_;refine Ee (n:=(a.length+7)/8) I rfl rfl Z' Z' Qa.out pa.out rfl Z' Z' V' ?_;intro J t I;refine fa ?_;rw[Rq] at I;refine bf 4 (λv V=>∃i:Nat,i<=a.length/\v=.int .i64 i/\Hp w [.row (some ⟨J,0,none⟩) ((a.length+7)/8) ((a.length+7)/8) 5 1 (ig (jb 256 ((a.length+7)/8) (va 2 (a.take i))).reverse)] V) (λv _=>a.length-(intOf v).toNat) ?_ ?_
 .exact⟨0,J' _,rfl,by rw[Y8,va,xt,List.reverse_replicate];exact I⟩
 clear I;rintro ρ' v V ⟨i,hi,rfl,I⟩;by_cases e:i<a.length
 .obtain⟨d,F⟩:=aa (l:=a) (k:=i) Z';obtain⟨m,rfl,H⟩:=X.at_ Z';have r:=Qm F;have K:=P.at_ F;have f:=Ff (P.take i);rw[p',P9 Z'] at f;obtain⟨s1,s2⟩:=DH (k:=(a.length+7)/8) (va 2 (a.take i)) f K Z';have s:(jb 256 ((a.length+7)/8) (va 2 (a.take i))).reverse[(a.length+7)/8-1-i/8]?=some (va 2 (a.take i)/256^(i/8) % 256):=(by rw[z8 (by rw[ua];omega),ua,show(a.length+7)/8-1-((a.length+7)/8-1-i/8)=i/8 by omega];exact Wh _ _ _ Z');have D:=Qm s;have N:((i:Int) % 8).toNat=i % 8:=Z';have p:=pW (l:=jb 256 ((a.length+7)/8) (va 2 (a.take i))) (j:=i/8) (v:=va 2 (a.take i)/256^(i/8) % 256+d*2^(i % 8)) (by rw[ua];omega);rw[ua,s2] at p;refine fa ?_;refine ud 16 I ?_;refine Ma (i:=5) (λU Z hj hR=>Rm (show U 22=Value.int _ _ from hR.1) rfl Z' Z' Z') ?_;refine wb ?_;refine Xr ((a.length+7)/8-1-i/8) ?_;refine Ma (i:=8) (λU Z hj hR=>Ba pa.out (show U 25=Value.pointer _ from hR.1) (hj.hp.Rc (i:=0) rfl (by rw[X_];exact D))) ?_;refine wb ?_;refine Ui (i) ?_;refine uo (λ_ hj=>(H.ext hj.hp.below).Yr r) ?_;refine nN ?_;refine Ma (i:=14) (λU Z hj hR=>rl (show U 31=Value.int _ _ from hR.1) rfl Z' Z') ?_;refine Ma (i:=15) (λU Z hj hR=>Cn (show U 30=Value.int _ _ from hR.1) (show U 32=Value.int _ _ from hR.2.1) Z') ?_;refine dn ?_;intro W I;refine sv (Cf rfl rfl) ?_;refine sv (Lc (k:=(a.length+7)/8-1-i/8) Qa.out pa.size rfl rfl Z' Z') ?_;refine Xa I (i:=0) (vs:=[_]) rfl rfl (Xb rfl) rfl pa.out rfl (by rw[Bc,F_,ua];omega) rfl ?_;intro ws I;simp only[j'] at I
  rw[N,E_ (show d*2^(i % 8)<256 by omega),E_ s1,X_,Qb (by rw[Bc,F_,ua];omega),Tr,p,<-Pe F] at I;refine fa ?_;refine⟨⟨i+1,Z',rfl,I⟩,by show a.length-(i+1)<a.length-i;omega, ?_⟩;exact Wb
 obtain rfl:i=a.length:=Z';rw[X6,z,Y] at I;have b:ig (jb 256 ((Ea M+7)/8) M).reverse=bj (sb M):=(by rw[<-hlen];exact ada);rw[b,<-Y] at I;exact aeu
def BV{xs:List Nat}(h:Dg 2 xs)(i:Nat):va 2 xs/2^i % 2=(xs[i]?).getD 0:=by
 cases hi:xs[i]? with
 |some d=>exact wv h hi
 |none=>
  rw[mq h (Y5.1 hi) Z'];rfl
def Ai(A)(n c i:Nat)(xs)(w)(C:Sl w A n 1 (ig xs))(T:Dg 2 xs)(B:n<=1000000000000)(hi:i<=1000000000000):Zc 305 #[.slice A n c,.int .i64 (i:Int)] w (.int .u8 ((va 2 xs/2^i % 2:Nat):Int)):=by
 have Q:=C.1;rw[Bc] at Q;have I:=Hp.start w;rw[BV T];by_cases D:i<n
 .obtain⟨d,F⟩:=aa (l:=xs) (k:=i) Z';obtain⟨b,rfl,H⟩:=C.at_ Z';have r:=Qm F;rw[F];refine Ca (l:=[.slice (some b) n c,.int .i64 (i:Int)]) func305 ?_;refine fa ?_;refine I1 ?_;exact⟨rfl,I.below⟩
 rw[K_ Z'];refine Ca func305 ?_;refine fa ?_;exact⟨rfl,I.below⟩
def yl(X i:Nat):X/2^i=2*(X/2^(i+1))+X/2^i % 2:=by
 rw[B_,<-l9];omega
def eA{X:Nat}(h:X/2^k<Y/2^k):X<Y:=by
 refine P6 λh2=> ?_;have:=Nat.div_le_div_right (c:=2^k) h2;omega
def Wm(A B:Option Addr)(n c m c':Nat)(xs ys:List Nat)(w:World)(C:Sl w A n 1 (ig xs))(hy:Sl w B m 1 (ig ys))(F:Dg 2 xs)(S:Dg 2 ys)(d:n<=100000000000)(hm:m<=100000000000):Zc 277 #[.slice A n c,.slice B m c'] w (.int .i64 (Eh (va 2 xs) (va 2 ys))):=by
 have p:=C.1;have R:=hy.1;rw[Bc] at p R;have I:=Hp.start w;have N:(if(m:Int)>(n:Int) then(m:Int) else(n:Int))-1=((max n m:Nat):Int)-1:=by split<;>omega
 refine Ca func277 ?_;refine fa ?_;rw[N];refine bf 5 (λv V=>∃k:Nat,k<=max n m/\v=.int .i64 ((k:Int)-1)/\va 2 xs/2^k=va 2 ys/2^k/\Hp w [] V) (λv _=>(intOf v+1).toNat) ?_ ?_
 .exact⟨max n m,E' _,rfl,by rw[mq F Z' Z',mq S Z' Z'],I⟩
 clear I;rintro ρ' v V ⟨k,u,rfl,heq,I⟩;by_cases J:k=0
 .subst J;refine fa ?_;rw[x7,Y7,Y7] at heq;exact⟨by rw[DL heq],I.below⟩
 obtain⟨j,rfl⟩:∃j,k=j+1:=⟨k-1,Z'⟩;have hj:((j+1:Nat):Int)-1=(j:Int):=Z';have a:=yl (va 2 xs) j;have b:=yl (va 2 ys) j;by_cases D:va 2 xs/2^j % 2<va 2 ys/2^j % 2
 .have Y:va 2 xs<va 2 ys:=eA (k:=j) Z';rw[hj];refine fa ?_;refine ZF ?_;intro g I;refine fa ?_;refine IE ?_;intro q I;refine fa ?_;exact⟨by rw[Yj Y],I.below⟩
 by_cases L:va 2 ys/2^j % 2<va 2 xs/2^j % 2
 .have Y:va 2 ys<va 2 xs:=eA (k:=j) Z';rw[hj];refine fa ?_;refine ZF ?_;intro g I;refine fa ?_;refine IE ?_;intro q I;refine fa ?_;refine ZF ?_;intro G I;refine fa ?_;refine IE ?_;intro P I;refine fa ?_;exact⟨by rw[rr Y],I.below⟩
 rw[hj];refine fa ?_;refine ZF ?_;intro g I;refine fa ?_;refine IE ?_;intro q I;refine fa ?_;refine ZF ?_;intro G I;refine fa ?_;refine IE ?_;intro P I;refine fa ?_;refine⟨⟨j,Z',rfl,Z',I⟩,by show((j:Int)-1+1).toNat<((j:Int)+1).toNat;omega, ?_⟩;exact Wb
def fW(S T i:Nat):(S+T)/2^i % 2=(S/2^i % 2+(S % 2^i+T % 2^i)/2^i+T/2^i % 2) % 2/\(S % 2^(i+1)+T % 2^(i+1))/2^(i+1)=(S/2^i % 2+(S % 2^i+T % 2^i)/2^i+T/2^i % 2)/2/\(S % 2^i+T % 2^i)/2^i<=1:=by
 have J:=T9 S (2^i);have a:=T9 T (2^i);have hp:0<2^i:=N_ Z';have z:S % 2^(i+1)=S % 2^i+2^i*(S/2^i % 2):=by rw[B_,Nat.mod_mul]
 have W:T % 2^(i+1)=T % 2^i+2^i*(T/2^i % 2):=by rw[B_,Nat.mod_mul]
 have n:=Q_ S hp;have d:=Q_ T hp;have E:=T9 (S % 2^i+T % 2^i) (2^i);have h:=Q_ (S % 2^i+T % 2^i) hp;have q:(S % 2^i+T % 2^i)/2^i<=1:=by
  have:(S % 2^i+T % 2^i)/2^i<2:=by rw[N9 hp];omega
  omega
 have N:(S+T)/2^i=S/2^i+T/2^i+(S % 2^i+T % 2^i)/2^i:=by
  have:S+T=(S % 2^i+T % 2^i) % 2^i+2^i*(S/2^i+T/2^i+(S % 2^i+T % 2^i)/2^i):=(by rw[n_,n_];omega)
  conv=>lhs;rw[this]
  rw[K9 _ _ hp,s_ h,U_]
 refine⟨by rw[N];omega, ?_,q⟩;rw[z,W];have L:S % 2^i+2^i*(S/2^i % 2)+(T % 2^i+2^i*(T/2^i % 2))=(S % 2^i+T % 2^i) % 2^i+2^i*(S/2^i % 2+(S % 2^i+T % 2^i)/2^i+T/2^i % 2):=(by rw[n_,n_];omega);rw[L,B_,<-l9,K9 _ _ hp,s_ h,U_]
def abr(Y up i:Nat):Y*2^up/2^i % 2=if up<=i then Y/2^(i-up) % 2 else 0:=by
 split
 .rename_i h;have e:2^i=2^up*2^(i-up):=by rw[<-R_];congr 1;omega
  rw[e,<-l9,Nat.mul_div_cancel _ (N_ Z')]
 rename_i h;have e:2^up=2^i*2*2^(up-i-1):=by rw[<-B_,<-R_];congr 1;omega
 have L:Y*2^up=2^i*(2*(Y*2^(up-i-1))):=by rw[e];simp only[Z9,S6]
 rw[L,Nat.mul_div_cancel_left _ (N_ Z')];omega
def Z1{i:Nat}(h:i<K):(jb 2 i N++List.replicate (K-i) 0).set i (N/2^i % 2)=jb 2 (i+1) N++List.replicate (K-(i+1)) 0:=by
 rw[show K-i=(K-(i+1))+1 by omega,S7,F8 _ _ (by rw[ua];omega),ua,u_,j',Fk];simp
def yn(A B)(n c m c' up:Nat)(xs ys)(w)(d:Sl w A n 1 (ig xs))(hy:Sl w B m 1 (ig ys))(F:Dg 2 xs)(S:Dg 2 ys)(E:n<=100000000000)(hm:m<=100000000000)(P:up<=100000000000):Calls prog 285 #[.slice A n c,.slice B m c',.int .i64 (up:Int)] w λe V=>∃b,e=.returned (.slice (some ⟨b,0,none⟩) (max n (m+up)+1) (max n (m+up)+1))/\V.ownsRow w.heap.size 5 1 (.slice (some ⟨b,0,none⟩) (max n (m+up)+1) (max n (m+up)+1)) (max n (m+up)+1) (ig (jb 2 (max n (m+up)+1) (va 2 xs+va 2 ys*2^up)))/\Below w.heap.size w V:=by
 have p:=d.1;have R:=hy.1;rw[Bc] at p R;have I:=Hp.start w;have g:(if((m:Int)+(up:Int))>(n:Int) then((m:Int)+(up:Int)) else(n:Int))+1=((max n (m+up)+1:Nat):Int):=by split<;>omega
 have hand:∀z:Nat,z &&& 1=z % 2:=λz=>Nat.and_one_is_mod z;refine Ca func285 ?_;refine fa ?_;rw[g];generalize y:max n (m+up)+1=K at*;refine Ee (n:=K) I rfl rfl Z' Z' Qa.out pa.out rfl Z' Z' V' ?_;intro k J I;refine fa ?_;rw[Rq] at I;refine Fi 8 9 (λcr v V=>∃i:Nat,i<=K/\v=.int .i64 (i:Int)/\cr=.int .u8 (((va 2 xs % 2^i+va 2 ys*2^up % 2^i)/2^i:Nat):Int)/\Hp w [.row (some ⟨k,0,none⟩) K K 5 1 (ig (jb 2 i (va 2 xs+va 2 ys*2^up)++List.replicate (K-i) 0))] V) (λ_ v _=>K-(intOf v).toNat) ?_ ?_
 .exact⟨0,J' _,rfl,by simp[Nat.mod_one];rfl,I⟩
 clear I;rintro ρ' cr v V ⟨i,hi,rfl,rfl,I⟩;by_cases D:i<K
 .obtain⟨G,T,x⟩:=fW (va 2 xs) (va 2 ys*2^up) i;have r:=abr (va 2 ys) up i;have l:va 2 xs/2^i % 2<2:=Q_ _ Z';have q:va 2 ys/2^(i-up) % 2<2:=Q_ _ Z';have o:(ig (jb 2 i (va 2 xs+va 2 ys*2^up)++List.replicate (K-i) 0)).length=K:=by rw[Bc,y',ua,Q9];omega
  have f:=Z1 (N:=va 2 xs+va 2 ys*2^up) D;generalize M:(va 2 xs % 2^i+va 2 ys*2^up % 2^i)/2^i=C at*;generalize t:va 2 xs/2^i % 2=X at*;refine fa ?_;refine qd I (Ai A n c i xs _ (d.ext I.below) F Z' Z') rfl ?_;intro u I;rw[t];by_cases a:up<=i
  .rw[P' a] at r;rw[r] at G T;generalize j:va 2 ys/2^(i-up) % 2=Y at*;have es:((X+C) % 256+Y) % 256=X+C+Y:=Z';have h:(i:Int)-(up:Int)=((i-up:Nat):Int):=Z';refine mI ?_;refine sv (Cf rfl rfl) ?_;refine fa ?_;rw[h];refine qd I (Ai B m c' (i-up) ys _ (hy.ext I.below) S Z' Z') rfl ?_;intro W I;rw[j];refine aeB ?_;intro ws I;exact Wb
  rw[Q' a] at r;rw[r] at G T;have es:(X+C) % 256=X+C+0:=Z';refine mI ?_;refine aeB ?_;intro ws I;exact Wb
 obtain rfl:i=K:=Z';exact acJ
def MX{X:Nat}(h:Y<=X)(i:Nat):((2+X/2^i % 2+256-Y/2^i % 2) % 256+256-(if X % 2^i<Y % 2^i then 1 else 0)) % 256 % 2=(X-Y)/2^i % 2/\(1+256-((2+X/2^i % 2+256-Y/2^i % 2) % 256+256-(if X % 2^i<Y % 2^i then 1 else 0)) % 256/2) % 256=(if X % 2^(i+1)<Y % 2^(i+1) then 1 else 0):=by
 have t:=T9 X (2^i);have g:=T9 Y (2^i);have hp:0<2^i:=N_ Z';have T:X % 2^(i+1)=X % 2^i+2^i*(X/2^i % 2):=by rw[B_,Nat.mod_mul]
 have a:Y % 2^(i+1)=Y % 2^i+2^i*(Y/2^i % 2):=by rw[B_,Nat.mod_mul]
 have y:=Q_ X hp;have c:=Q_ Y hp;rw[T,a];generalize d:X/2^i=p at*;generalize W:Y/2^i=j at*;generalize S:X % 2^i=P at*;generalize K:Y % 2^i=C at*;have key:∀b:Nat,b=(if P<C then 1 else 0)->(X-Y)/2^i=p-j-b/\j+b<=p:=by
  intro b F;have hle:j+b<=p:=by
   refine H6 λD=> ?_;have h1:2^i*(p+1)<=2^i*(j+b):=D_ _ D;rw[n_,n_] at h1;split at F
   .subst F;omega
   subst F;omega
  refine⟨?_,hle⟩;have e:X-Y=(P+2^i*b-C)+2^i*(p-j-b):=by
   have h2:2^i*(p-j-b)=2^i*p-2^i*j-2^i*b:=by rw[Nat.mul_sub,Nat.mul_sub]
   have G:2^i*(j+b)<=2^i*p:=D_ _ hle;rw[n_] at G;split at F
   .subst F;omega
   subst F;omega
  rw[e,K9 _ _ hp,s_,U_];split at F
  .subst F;omega
  subst F;omega
 obtain⟨k1,k2⟩:=key _ rfl;rw[k1];have D:(P+2^i*(p % 2)<C+2^i*(j % 2))↔(p % 2<j % 2\/p % 2=j % 2/\P<C):=(by obtain h1|h1:=Nat.mod_two_eq_zero_or_one p<;>obtain h2|h2:=Nat.mod_two_eq_zero_or_one j<;>rw[h1,h2]<;>omega);by_cases F:P<C
 .rw[P' F] at k2 |-;exact ac8
 rw[Q' F] at k2 |-;exact ac8
def Sq(A B)(n c m c':Nat)(xs ys)(w)(d:Sl w A n 1 (ig xs))(hy:Sl w B m 1 (ig ys))(F:Dg 2 xs)(S:Dg 2 ys)(u:n<=100000000000)(hm:m<=100000000000)(hle:va 2 ys<=va 2 xs):Calls prog 278 #[.slice A n c,.slice B m c'] w λe V=>∃b,e=.returned (.slice (some ⟨b,0,none⟩) n n)/\V.ownsRow w.heap.size 5 1 (.slice (some ⟨b,0,none⟩) n n) n (ig (jb 2 n (va 2 xs-va 2 ys)))/\Below w.heap.size w V:=by
 have p:=d.1;have R:=hy.1;rw[Bc] at p R;have I:=Hp.start w;have hand:∀z:Nat,z &&& 1=z % 2:=λz=>Nat.and_one_is_mod z;refine Ca func278 ?_;refine fa ?_;refine qG ?_;intro J t I;refine fa ?_;rw[Rq] at I;refine Fi 6 7 (λcr v V=>∃i:Nat,i<=n/\v=.int .i64 (i:Int)/\cr=.int .u8 ((if va 2 xs % 2^i<va 2 ys % 2^i then 1 else 0:Nat):Int)/\Hp w [.row (some ⟨J,0,none⟩) n n 5 1 (ig (jb 2 i (va 2 xs-va 2 ys)++List.replicate (n-i) 0))] V) (λ_ v _=>n-(intOf v).toNat) ?_ ?_
 .exact⟨0,J' _,rfl,by simp[Nat.mod_one];rfl,I⟩
 clear I;rintro ρ' cr v V ⟨i,hi,rfl,rfl,I⟩;by_cases D:i<n
 .obtain⟨G,T⟩:=MX hle i;have l:va 2 xs/2^i % 2<2:=Q_ _ Z';have g:va 2 ys/2^i % 2<2:=Q_ _ Z';have L:(if va 2 xs % 2^i<va 2 ys % 2^i then 1 else 0:Nat)<=1:=by split<;>omega
  have o:(ig (jb 2 i (va 2 xs-va 2 ys)++List.replicate (n-i) 0)).length=n:=by rw[Bc,y',ua,Q9];omega
  have f:=Z1 (N:=va 2 xs-va 2 ys) D;refine fa ?_;refine qd I (Ai A n c i xs _ (d.ext I.below) F Z' Z') rfl ?_;intro h I;refine sv (Cf (a:=2) rfl rfl) ?_;refine fa ?_;refine qd I (Ai B m c' i ys _ (hy.ext I.below) S Z' Z') rfl ?_;intro j I;generalize M:(if va 2 xs % 2^i<va 2 ys % 2^i then 1 else 0:Nat)=C at*;generalize q:va 2 xs/2^i % 2=X at*;generalize r:va 2 ys/2^i % 2=Y at*;have es:((2+X) % 256+256-Y) % 256=(2+X+256-Y) % 256:=Z';have k:((2+X+256-Y) % 256+256-C) % 256<256:=Q_ _ Z';refine sv (Xk rfl rfl Z') ?_;refine mI ?_;rw[es];refine sv (Xk rfl rfl Z') ?_;refine fa ?_;refine CS ?_;refine fa ?_;refine IU ?_;intro ws I;simp only[j'] at I;rw[hand,G,X_,Qb (by rw[o];omega),Tr,f] at I;refine fa ?_;refine sv (ao (s:=1) (m:=2) rfl rfl V' V') ?_;refine sv (Xk (a:=1) rfl rfl Z') ?_;refine fa ?_;refine⟨⟨i+1,Z',rfl,by rw[<-T];rfl,I⟩,by show n-(i+1)<n-i;omega, ?_⟩;exact Wb
 obtain rfl:i=n:=Z';exact acJ
def yz(n:Nat)(w)(B:n<18446744073709551616):Zc 228 #[.int .u64 (n:Int)] w (.string (sN n)):=by
 have I:=Hp.start w;refine Ca func228 ?_;refine fa ?_;replace I:=I.rb 5 1;refine Fi 0 3 (λv o V=>∃(k m:Nat)(A:Option Addr)(c:Nat),v=.int .u64 (m:Int)/\m<18446744073709551616/\k<=64/\m<2^(64-k)/\o=.slice A k c/\m=n/2^k/\Hp w [.row A k c 5 1 (ig (jb 2 k n))] V) (λv _ _=>(intOf v).toNat) ?_ ?_
 .exact⟨0,n,none,0,rfl,B,Z',by simpa using B,rfl,by simp,I⟩
 clear I;rintro ρ' v o V ⟨k,m,A,c,rfl,hm,j,C,rfl,Y,I⟩;by_cases J:m=0
 .subst J;refine fa ?_;refine qd I (qf _ _ _ (jb 2 k n) _ (I.ma (i:=0) rfl) (ie Z' _ _) (I.ve (i:=0) rfl) Z') rfl ?_;intro g I;have D:n<2^k:=(by have:=T9 n (2^k);have h2:=Q_ n (N_ (n:=k) (show 0<2 by omega));rw[<-Y] at this;omega);rw[Db D];refine fa ?_;exact⟨rfl,I.below⟩
 have a:k<64:=(by refine P6 λh=> ?_;rw[show 64-k=0 by omega] at C;omega);have K:m % 2<256:=Z';refine fa ?_;refine sv (aD (b:=2) rfl rfl Z') ?_;refine Wz ?_;refine IA ?_;intro e W I;refine Er ?_;intro d u f I;refine XO ?_;intro I;refine sv (zI (b:=2) rfl rfl Z' (by first|assumption|omega)) ?_;refine fa ?_;have N:ig (jb 2 k n)++[Value.int .u8 ((m % 2:Nat):Int)]=ig (jb 2 (k+1) n):=(by rw[Y,Fk,Bw];rfl);rw[N] at I;refine⟨⟨k+1,m/2,d,u,rfl,Z',Z', ?_,rfl, ?_,I⟩,by show(((m/2:Nat):Int)).toNat<((m:Int)).toNat;omega, ?_⟩
 .rw[show 64-k=(64-(k+1))+1 by omega,B_] at C;omega
 .rw[Y,l9,B_]
 exact Wb
def wg(a):(ra 2 (bN a)).length<=8*a.size:=yf a
def aj(n:Nat):Dg 2 (ra 2 n):=(Ed Z' n).1
def Jg(n:Nat):va 2 (ra 2 n)=n:=Yd Z' n
def Uw(a b:ByteArray)(w)(M:a.size<=1000000000)(F:b.size<=1000000000):Zc 286 #[.string a,.string b] w (.int .i64 (Eh (bN a) (bN b))):=by
 have I:=Hp.start w;have h1:=wg a;have h2:=wg b;refine Ca func286 ?_;refine fa ?_;refine cr I (Pc a _ M) ?_;intro c P A I;refine mS ?_;refine cr I (Pc b _ F) ?_;intro e K o I;refine qd I (Wm _ _ _ _ _ _ (ra 2 (bN a)) (ra 2 (bN b)) _ (I.ma (i:=1) rfl) (I.ma (i:=0) rfl) (aj _) (aj _) Z' Z') rfl ?_;intro z I;rw[Jg,Jg];refine fa ?_;exact⟨rfl,I.below⟩
def Up(a:ByteArray)(w)(M:a.size<=1000000000):Zc 190 #[.string a] w (.int .i64 (Ea (bN a))):=by
 have I:=Hp.start w;refine Ca func190 ?_;refine fa ?_;refine cr I (Pc a _ M) ?_;intro t H y I;refine fa ?_;exact⟨rfl,I.below⟩
def Yp(a b:ByteArray)(w)(M:a.size<=1000000000)(F:b.size<=1000000000):Zc 248 #[.string a,.string b] w (.tuple #[.string (sN (bN a-bN b)),.bool (decide (bN b<=bN a))]):=by
 have I:=Hp.start w;have h1:=wg a;have h2:=wg b;by_cases D:bN a<bN b
 .refine Ca func248 ?_;refine fa ?_;refine cd I (Uw a b _ M F) ?_;intro o I;rw[Yj D];exact adV
 have E:¬Eh (bN a) (bN b)<0:=by unfold Eh;split<;>(try split)<;>omega
 have Y:bN a-bN b<2^(ra 2 (bN a)).length:=l_ (Nat.sub_le _ _) (Ab (bN a));refine Ca func248 ?_;refine fa ?_;refine cd I (Uw a b _ M F) ?_;intro o I;refine fa ?_;refine cr I (Pc a _ M) ?_;intro J j e I;refine mS ?_;refine cr I (Pc b _ F) ?_;intro d u f I;refine te (Sq _ _ _ _ _ _ (ra 2 (bN a)) (ra 2 (bN b)) _ (I.ma (i:=1) rfl) (I.ma (i:=0) rfl) (aj _) (aj _) Z' Z' (by rw[Jg,Jg];omega)) rfl ?_;rintro H w_ ⟨z,rfl,t,c⟩;refine⟨_,rfl, ?_⟩;replace I:=I.pd (x:=.row _ _ _ _ _ _) c t;rw[Jg,Jg] at I;refine qd I (qf _ _ _ (jb 2 (ra 2 (bN a)).length (bN a-bN b)) _ (I.ma (i:=0) rfl) (ie Z' _ _) (E' _) Z') rfl ?_;intro g I;rw[Db Y];refine fa ?_;rw[m' Z'];exact⟨rfl,I.below⟩
def uI(a:ByteArray)(m:Nat)(w)(b:a.size<=1000000000)(hm:m<=10000000000):Zc 249 #[.string a,.int .i64 (m:Int)] w (.string (sN (bN a*2^m))):=by
 have I:=Hp.start w;have h1:=wg a;have N:(if(0:Int)>(m:Int) then 0 else(m:Int))=m:=Q' Z';have q:bN a*2^m<2^(max 0 ((ra 2 (bN a)).length+m)+1):=(by refine k_ (Ab _) (J_ Z' ?_);have:=Cg (bN a) m;show Ea _<=max 0 (Ea _+m)+1;omega);refine Ca func249 ?_;refine fa ?_;refine cr I (Pc a _ b) ?_;intro c P A I;refine fa ?_;rw[N];refine te (yn none _ 0 0 _ _ m [] (ra 2 (bN a)) _ (Sl.nil _ _ _) (I.ma (i:=0) rfl) Dg.nil (aj _) Z' Z' Z') rfl ?_;rintro H w_ ⟨C,rfl,t,M⟩;refine iq ?_;intro I;rw[Jg,va,U_] at I;refine qd I (qf _ _ _ (jb 2 (max 0 ((ra 2 (bN a)).length+m)+1) (bN a*2^m)) _ (I.ma (i:=0) rfl) (ie Z' _ _) (E' _) Z') rfl ?_;intro G I;rw[Db q];refine fa ?_;exact⟨rfl,I.below⟩
def UH(L)(n c:Nat)(ss:List ByteArray)(w)(J:Sl w L n 1 (AE ss))(B:n<=1000000)(f:∀s∈ss,s.size<=1000000000):Zc 247 #[.slice L n c] w (.string (sN (ss.map bN).sum)):=by
 have h:ss.length=n:=by have:=J.1;rw[qu] at this;omega
 have I:=Hp.start w;refine Ca func247 ?_;refine fa ?_;replace I:=I.rb 5 1;refine Fi 3 4 (λv j V=>∃(i:Nat)(A:Option Addr)(c' T K:Nat),i<=n/\j=.int .i64 i/\T=((ss.take i).map bN).sum/\v=.slice A K c'/\K<=8000000000+i/\T<2^K/\Hp w [.row A K c' 5 1 (ig (jb 2 K T))] V) (λ_ j _=>n-(intOf j).toNat) ?_ ?_
 .exact⟨0,none,0,0,0,J' _,rfl,rfl,rfl,Z',by simp,I⟩
 clear I;rintro ρ' v j V ⟨i,A,c',T,K,hi,rfl,S,rfl,d,a,I⟩;by_cases D:i<n
 .obtain⟨s,r⟩:=aa (l:=ss) (k:=i) Z';obtain⟨u,rfl,H⟩:=J.at_ Z';have g:=GM r;have b:=f s (N' r);have p:=wg s;have W:((ss.take (i+1)).map bN).sum=T+bN s:=by rw[ja r,G_,N7,Hs,S]
  have e:bN s<2^(ra 2 (bN s)).length:=Ab _;have R:T+bN s<2^(max K ((ra 2 (bN s)).length+0)+1):=(by have h1:2^K<=2^max K ((ra 2 (bN s)).length+0):=J_ Z' Z';have h2:2^(ra 2 (bN s)).length<=2^max K ((ra 2 (bN s)).length+0):=J_ Z' Z';rw[B_];omega);refine fa ?_;refine dA ?_;refine cr I (Pc s _ b) ?_;intro o C m I;refine te (yn _ _ _ _ _ _ 0 (jb 2 K T) (ra 2 (bN s)) _ (I.ma (i:=1) rfl) (I.ma (i:=0) rfl) (ie Z' _ _) (aj _) Z' Z' Z') rfl ?_;rintro y w_ ⟨P,rfl,t,M⟩;refine⟨_,rfl, ?_⟩;rw[Jg,Db a,x7,X_] at t;replace I:=(I.pd (x:=.row _ _ _ _ _ _) M t).sub (B6 [_] _);refine fa ?_;refine⟨⟨i+1,_,_,T+bN s,_,Z',rfl,W.symm,rfl,Z',R,I⟩,by show n-(i+1)<n-i;omega, ?_⟩;exact Wb
 refine fa ?_;refine qd I (qf _ _ _ (jb 2 K T) _ (I.ma (i:=0) rfl) (ie Z' _ _) (I.ve (i:=0) rfl) Z') rfl ?_;intro q I;rw[Db a];refine fa ?_;rw[w' Z'] at S;rw[S];exact⟨rfl,I.below⟩
def aby(a b:ByteArray)(w)(n:a.size<=1000000000)(F:b.size<=1000000000):Zc 246 #[.string a,.string b] w (.string (sN (bN a*bN b))):=by
 have I:=Hp.start w;have h1:=wg a;have h2:=wg b;have c:bN b<2^(ra 2 (bN b)).length:=Ab _;have Y:=aj (bN a);have m:=Jg (bN a);refine Ca func246 ?_;refine fa ?_;refine cr I (Pc a _ n) ?_;intro h q p I;refine mS ?_;refine cr I (Pc b _ F) ?_;intro z L W I;generalize ra 2 (bN a)=xs at*;refine fa ?_;replace I:=I.rb 5 1;refine Fi 7 8 (λv j V=>∃(i:Nat)(A:Option Addr)(c' P K:Nat),i<=xs.length/\j=.int .i64 i/\P=va 2 (xs.take i)*bN b/\v=.slice A K c'/\K<=(ra 2 (bN b)).length+i/\P<2^K/\Hp w [.row A K c' 5 1 (ig (jb 2 K P)),.row z (ra 2 (bN b)).length L 5 1 (ig (ra 2 (bN b))),.row h xs.length q 5 1 (ig xs)] V) (λ_ j _=>xs.length-(intOf j).toNat) ?_ ?_
 .exact⟨0,none,0,0,0,J' _,rfl,by simp[va],rfl,Z',by simp,I⟩
 clear I;rintro ρ' v j V ⟨i,A,c',P,K,hi,rfl,f,rfl,y,e,I⟩;by_cases D:i<xs.length
 .obtain⟨d,T⟩:=aa (l:=xs) (k:=i) Z';have r:=Qm T;have o:=Y.at_ T;have X:=Pe (B:=2) T;obtain⟨g,rfl⟩:=I.kb (i:=2) rfl Z';by_cases J:d=0
  .subst J;refine wM ?_;refine⟨⟨i+1,_,_,P,_,Z',rfl,by rw[X,f];simp,rfl,Z',e,I⟩,by show xs.length-(i+1)<xs.length-i;omega, ?_⟩;exact Wb
  obtain rfl:d=1:=Z';have R:P+bN b*2^i<2^(max K ((ra 2 (bN b)).length+i)+1):=(by have h1:2^K<=2^max K ((ra 2 (bN b)).length+i):=J_ Z' Z';have h2:2^((ra 2 (bN b)).length+i)<=2^max K ((ra 2 (bN b)).length+i):=J_ Z' Z';have G:bN b*2^i<2^(ra 2 (bN b)).length*2^i:=N8 c (N_ Z');rw[<-R_] at G;rw[B_];omega);refine wM ?_;refine te (yn _ _ _ _ _ _ i (jb 2 K P) (ra 2 (bN b)) _ (I.ma (i:=0) rfl) (I.ma (i:=1) rfl) (ie Z' _ _) (aj _) Z' Z' Z') rfl ?_;rintro H w_ ⟨Q,rfl,t,M⟩;refine⟨_,rfl, ?_⟩;rw[Jg,Db e] at t;replace I:=(I.pd (x:=.row _ _ _ _ _ _) M t).sub (.cons_cons _ (.cons _ (P_ _)));refine fa ?_;refine⟨⟨i+1,_,_,_,_,Z',rfl, ?_,rfl,Z',R,I⟩,by show xs.length-(i+1)<xs.length-i;omega, ?_⟩
  .rw[X,f,I8,X_,V_ (2^i)]
  exact Wb
 rw[w' Z',m] at f;refine fa ?_;refine qd I (qf _ _ _ (jb 2 K P) _ (I.ma (i:=0) rfl) (ie Z' _ _) (I.ve (i:=0) rfl) Z') rfl ?_;intro s I;rw[Db e,f];refine fa ?_;exact⟨rfl,I.below⟩
def VS(X Y k:Nat)(g:0<Y):X/2^k % Y=(if Y<=X/2^k % 2+2*(X/2^(k+1) % Y) then X/2^k % 2+2*(X/2^(k+1) % Y)-Y else X/2^k % 2+2*(X/2^(k+1) % Y))/\
  X/2^k/Y % 2=(if Y<=X/2^k % 2+2*(X/2^(k+1) % Y) then 1 else 0)/\X/2^k/Y/2=X/2^(k+1)/Y:=by
 have h1:=yl X k;have F:X/2^k % 2<2:=Q_ _ Z';generalize X/2^k % 2=b at*;generalize X/2^k=Z at*;generalize X/2^(k+1)=V at*;have h2:=T9 V Y;have G:=Q_ V g;generalize V/Y=q at*;generalize V % Y=r at*;have e:Z=(b+2*r)+Y*(2*q):=by rw[h1,<-h2,n_,S6];omega
 rw[e,W8,K9 _ _ g];by_cases E:Y<=b+2*r
 .rw[P' E,P' E];have L:b+2*r=(b+2*r-Y)+Y*1:=Z';have z:b+2*r-Y<Y:=Z';have P:(b+2*r)/Y=1:=by rw[L,K9 _ _ g,s_ z]
  have a:(b+2*r) % Y=b+2*r-Y:=by conv=>lhs;rw[L,W8,E_ z]
  rw[P,a];omega
 rw[Q' E,Q' E,E_ Z',s_ Z'];omega
def np(a b:ByteArray)(w)(Q:a.size<=1000000000)(W:b.size<=1000000000)(S:bN b≠0):Zc 231 #[.string a,.string b] w (.tuple #[.string (sN (bN a/bN b)),.string (sN (bN a % bN b)),.bool true]):=by
 have I:=Hp.start w;have h1:=wg a;have h2:=wg b;have hX:=Jg (bN a);have Y:=aj (bN a);have y:bN a<2^(ra 2 (bN a)).length:=Ab _;have X:0<(ra 2 (bN b)).length:=cn S;have n:∀k,k<(ra 2 (bN a)).length->(ra 2 (bN a))[k]?=some (bN a/2^k % 2):=λk D=>Xv Z' D;refine Ca func231 ?_;refine fa ?_;refine cr I (Pc a _ Q) ?_;intro e u w13 I;refine mS ?_;refine cr I (Pc b _ W) ?_;intro P T w15 I;refine fa ?_;refine Ee I rfl rfl rfl rfl Qa.out pa.out rfl Z' Z' V' ?_;intro f w21 I;refine fa ?_;rw[Rq] at I;generalize hxs:ra 2 (bN a)=xs at*;replace I:=I.rb 5 1;refine Fi 10 11 (λv j V=>∃(k:Nat)(A:Option Addr)(c':Nat),k<=xs.length/\j=.int .i64 ((k:Int)-1)/\v=.slice A (ra 2 (bN a/2^k % bN b)).length c'/\Hp w [.row A (ra 2 (bN a/2^k % bN b)).length c' 5 1 (ig (ra 2 (bN a/2^k % bN b))),.row (some ⟨f,0,none⟩) xs.length xs.length 5 1 (ig (List.replicate k 0++jb 2 (xs.length-k) (bN a/2^k/bN b))),.row P (ra 2 (bN b)).length T 5 1 (ig (ra 2 (bN b))),.row e xs.length u 5 1 (ig xs)] V) (λ_ j _=>(intOf j+1).toNat) ?_ ?_
 .refine⟨xs.length,none,0,E' _,rfl, ?_, ?_⟩
  .rw[s_ y,Nat.zero_mod,Gg Z'];rfl
  rw[s_ y,Nat.zero_mod,Gg Z',u_];simp only[jb,M_];exact I
 clear I;rintro ρ' v j V ⟨k,A,c',D,rfl,rfl,I⟩;by_cases J:k=0
 .subst J;rw[x7,Y7,Nat.sub_zero,D6,F'] at I;rw[x7,Y7];have hq:bN a/bN b<2^xs.length:=l_ (H8 _ _) y;have s:(ra 2 (bN a % bN b)).length<=(ra 2 (bN b)).length:=Ei Z' (Nat.le_of_lt (Q_ _ Z'));refine fa ?_;refine qd I (qf _ _ _ (jb 2 xs.length (bN a/bN b)) _ (I.ma (i:=1) rfl) (ie Z' _ _) (E' _) Z') rfl ?_;intro w49 I;rw[Db hq];refine mL ?_;refine qd I (qf _ _ _ (ra 2 (bN a % bN b)) _ (I.ma (i:=0) rfl) (aj _) (I.ve (i:=0) rfl) Z') rfl ?_;intro w51 I;rw[Jg];refine fa ?_;exact⟨rfl,I.below⟩
 obtain⟨i,rfl⟩:∃i,k=i+1:=⟨k-1,Z'⟩;have o:((i+1:Nat):Int)-1=(i:Int):=Z';obtain⟨d1,d2,d3⟩:=VS (bN a) (bN b) i Z';have hgi:=Qm (n i Z');have K:bN a/2^i % 2<2:=Q_ _ Z';have s:(ra 2 (bN a/2^(i+1) % bN b)).length<=(ra 2 (bN b)).length:=Ei Z' (Nat.le_of_lt (Q_ _ Z'));have G:jb 2 (xs.length-i) (bN a/2^i/bN b)=(bN a/2^i/bN b % 2)::jb 2 (xs.length-(i+1)) (bN a/2^(i+1)/bN b):=(by rw[show xs.length-i=(xs.length-(i+1))+1 by omega,jb,d3]);rw[o];obtain⟨g,rfl⟩:=I.kb (i:=3) rfl Z';refine fa ?_;refine sv (Ba pa.out rfl (I.Rc (i:=3) rfl (by first|assumption|(simp only[X_];assumption)))) ?_;refine IA ?_;intro E w33 I;refine mL ?_;refine mb I (i:=0) rfl rfl rfl (I.ma (i:=1) rfl) Qa.out pa.out rfl V' (by first|rfl|exact Nb _|exact xb _|exact Da _|exact Ia NR.one _) Z' Z' V' ?_;intro L H w35 I;simp only[j'] at I;have C:[Value.int .u8 ((bN a/2^i % 2:Nat):Int)]++ig (ra 2 (bN a/2^(i+1) % bN b))=ig ((bN a/2^i % 2)::ra 2 (bN a/2^(i+1) % bN b)):=rfl;rw[C] at I;generalize hR:bN a/2^(i+1) % bN b=R at*;generalize hbt:bN a/2^i % 2=p at*;have m:Dg 2 (p::ra 2 R):=Dg.cons K (aj _);have z:Ad (p::ra 2 R)=ra 2 (p+2*R):=by rw[bg Z' m,va,Jg]
 have q:(p::ra 2 R).length=1+(ra 2 R).length:=by rw[T_];omega
 have h:=Vd (p::ra 2 R);refine qd I (Tl _ _ _ (p::ra 2 R) _ (I.ma (i:=0) rfl) (I.ve (i:=0) rfl) Z') rfl ?_;intro w36 I;replace I:=I.abR q;rw[z] at I h;rw[z];refine fa ?_;refine qd I (Wm _ _ _ _ _ _ (ra 2 (p+2*R)) (ra 2 (bN b)) _ (I.ma (i:=0) rfl) (I.ma (i:=3) rfl) (aj _) (aj _) Z' Z') rfl ?_;intro w39 I;rw[Jg,Jg];by_cases N:bN b<=p+2*R
 .have hc:0<=Eh (p+2*R) (bN b):=by unfold Eh;rw[Q' Z'];split<;>omega
  rw[P' N] at d1 d2;have r:p+2*R-bN b<2^(ra 2 (p+2*R)).length:=l_ (Nat.sub_le _ _) (Ab _);have l:Ad (jb 2 (ra 2 (p+2*R)).length (p+2*R-bN b))=ra 2 (p+2*R-bN b):=by rw[bg Z' (ie Z' _ _),Db r]
  refine fa ?_;refine te (Sq _ _ _ _ _ _ (ra 2 (p+2*R)) (ra 2 (bN b)) _ (I.ma (i:=0) rfl) (I.ma (i:=3) rfl) (aj _) (aj _) Z' Z' (by rw[Jg,Jg];exact N)) rfl ?_;rintro e_ w_ ⟨F,rfl,t,M⟩;refine iq ?_;intro I;rw[Jg,Jg] at I;refine qd I (Tl _ _ _ (jb 2 (ra 2 (p+2*R)).length (p+2*R-bN b)) _ (I.ma (i:=0) rfl) (E' _) Z') rfl ?_;intro w44 I;replace I:=I.abR (ua _ _);rw[l] at I;rw[l];have c:(ig (List.replicate (i+1) 0++jb 2 (xs.length-(i+1)) (bN a/2^(i+1)/bN b))).length=xs.length:=by rw[Bc,y',Q9,ua];omega
  refine fa ?_;refine Xa I (i:=3) (vs:=[_]) rfl rfl (Xb rfl) rfl pa.out rfl (by rw[c];omega) rfl ?_;refine Nr ?_;intro ws I;rw[X_,Qb (by rw[c];omega)] at I;have d:(ig (List.replicate (i+1) 0++jb 2 (xs.length-(i+1)) (bN a/2^(i+1)/bN b))).set i (.int .u8 1)=ig (List.replicate i 0++jb 2 (xs.length-i) (bN a/2^i/bN b)):=(by have:=Tr (List.replicate (i+1) 0++jb 2 (xs.length-(i+1)) (bN a/2^(i+1)/bN b)) i 1;rw[G,d2,<-OL];exact this);rw[d] at I;replace I:=I.sub (.cons_cons _ (.cons _ (.cons _ (P_ _))));refine fa ?_;exact yZ
 have hc:¬0<=Eh (p+2*R) (bN b):=by rw[Yj Z'];omega
 rw[Q' N] at d1 d2;refine fa ?_;have B:List.replicate (i+1) 0++jb 2 (xs.length-(i+1)) (bN a/2^(i+1)/bN b)=List.replicate i 0++jb 2 (xs.length-i) (bN a/2^i/bN b):=(by rw[G,d2,List.replicate_succ',H_];rfl);rw[B] at I;replace I:=I.sub (.cons_cons _ (.cons _ (P_ _)));exact yZ
end Go.Proofs.YtbencocchdpikaaGreatDoor
