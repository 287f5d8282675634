/- Lemmas for solveAll, part 4. -/
import Derived.Test.YtbencocchdpikaaGreatDoorZ3
set_option linter.all false
set_option maxHeartbeats 0
namespace Go.Proofs.YtbencocchdpikaaGreatDoor
open Go.Proofs.Tryz
open Go.RowKit
variable {N j k n:Nat}{ad:Addr}{w:World}
def mf(A:Option Addr)(n c:Nat)(xs:List Nat)(w:World)(hx:Sl w A n 1 (nc xs))(hc:n<=c)(hn:n<=1000000000000):Calls prog 287 #[.slice A n c] w λe w'=>e=.returned (.slice A (Xd xs).length c)/\Below w.heap.size w w':=by
 have hlen:xs.length=n:=by have:=hx.1;rw[Ma] at this;omega
 have hh:=Hp.start w;refine da (N:=21) (l:=[.slice A n c]) func287 rfl rfl (by simp) ?_;refine fa ?_;refine Ba [0,3,4,5,6,7,8,9,10,11,12,13,14,15,16,17,18,19] 0 (λv w'=>∃k:Nat,k<=n/\v=.slice A k c/\Xd (xs.take k)=Xd xs/\w'=w) (λv _=>lenOf v) ?_ ?_
 .exact⟨n,j' _,rfl,by rw[W_ Z'],rfl⟩
 rintro ρ' v w' ⟨k,hk,rfl,hcut,rfl⟩;by_cases h0:k=0
 .subst h0;refine fa ?_;rw[<-hcut];exact⟨rfl,hh.below⟩
 obtain⟨j,rfl⟩:∃j,k=j+1:=⟨k-1,Z'⟩;obtain⟨d,hd⟩:=ea (l:=xs) (k:=j) Z';obtain⟨ad,rfl,hr⟩:=hx.at_ Z';have hd2:=Yd hd;rw[oa hd] at hcut;by_cases hz:d=0
 .subst hz;rw[Nv] at hcut;refine mb (sr (mL (Vq ?_)));refine qx (mB (gT (mL (gT (mL (gT (Vq (gT ?_))))))));refine Rp (gT ?_);refine HL ?_;refine gT ?_;refine Tm ?_;refine fa ?_;refine Pn (h:=j) lb.out ya.size rfl rfl Z' Z' U' ?_;refine fa ?_;refine⟨⟨j,Z',rfl,hcut,rfl⟩,by show j<j+1;omega, ?_⟩;exact Rc
 rw[IA hz] at hcut;refine mb (sr (mL (Vq ?_)));refine qx (mB (gT (mL (gT (mL (gT (Vq (gT ?_))))))));refine Rp (gT ?_);refine HL ?_;refine gT ?_;refine Tm ?_;exact VZ
def kg{B:Nat}{l:List Nat}{i c:Nat}(h:l[i]?=some c):Ka B (l.take (i+1))=Ka B (l.take i)+B^i*c:=by
 have hi:=(X_.1 h).1;rw[oa h,Hc,R_,C9 Z'];simp[Ka]
variable {H:List HE}{w0:World}
def Hp.xK{A:Option Addr}{c:Nat}{t:TypeId}{xs:List Nat}(h:Hp w0 (.row A n c t 1 (nc xs)::H) w)(hl:xs.length=n):Hp w0 (.row A (Xd xs).length c t 1 (nc (Xd xs))::H) w:=by
 have h1:=ue xs;have h2:=h.oD (k:=(Xd xs).length) Z';rw[I_,<-VA,<-wj] at h2;exact h2
variable {b:Nat}
def AO(a:ByteArray)(w:World)(ha:a.size<=100000000000):Calls prog 251 #[.string a] w λe w'=>∃b c,e=.returned (.slice (some ⟨b,0,none⟩) (Ha 18446744073709551616 (bn a.data.toList)).length c)/\w'.ownsRow w.heap.size 223 1 (.slice (some ⟨b,0,none⟩) (Ha 18446744073709551616 (bn a.data.toList)).length c) (Ha 18446744073709551616 (bn a.data.toList)).length (nc (Ha 18446744073709551616 (bn a.data.toList)))/\Below w.heap.size w w':=by
 have hsz:=Tc a;have hh:=Hp.start w;refine da (N:=39) (l:=[.string a]) func251 rfl rfl (by simp) ?_;refine fa ?_;refine Me (n:=(a.size+7)/8) hh rfl rfl Z' Z' lb.out ya.out rfl Z' Z' U' ?_;intro b10 w10 hh;refine fa ?_;rw[zj] at hh;refine Ba [4,5,13,14,15,16,17,18,19,20,21,22,23,24,25,26,27,28,29,30,31,32,33,34,35,36] 13 (λv w'=>∃i:Nat,i<=a.size/\v=.int .i64 i/\Hp w [.row (some ⟨b10,0,none⟩) ((a.size+7)/8) ((a.size+7)/8) 223 1 (nc (Ib 18446744073709551616 ((a.size+7)/8) (Ka 256 ((uG a.data.toList).take i))))] w') (λv _=>a.size-(intOf v).toNat) ?_ ?_
 .exact⟨0,D' _,rfl,by rw[K8,Ka,Nt];exact hh⟩
 clear hh;rintro ρ' v w' ⟨i,hi,rfl,hh⟩;by_cases hlt:i<a.size
 .obtain⟨c,hc⟩:=ea (l:=a.data.toList) (k:=((a.size:Int)-1-i).toNat) Z';have hlo:=lV (s:=a.data.toList) (i:=i) (c:=c) Z' (by rw[<-hc];congr 1;omega);have hc8:=c.toNat_lt;have hn:=Jf ((NC a.data.toList).take i);rw[R_,Xp,C9 Z'] at hn;obtain⟨s1,s2,s3⟩:=NY (k:=(a.size+7)/8) (Ka 256 ((uG a.data.toList).take i)) hn hc8 Z';have hg:=Yd (Yh (B:=18446744073709551616) ((a.size+7)/8) (Ka 256 ((uG a.data.toList).take i)) (i/8) Z');have e1:((i:Int) % 8*8).toNat=i % 8*8:=Z';refine fa ?_;refine Ca 13 [[(3,none)],[(4,none)],[(22,some 1)],[(21,some 0),(23,some 2)],[(24,some 3)],[(0,none)],[(5,none)],[(26,some 5),(27,some 6)],[(28,some 7)],[(4,none)],[(30,some 9)],[(31,some 10)],[(29,some 8),(32,some 11)]] [(12,33),(11,32),(10,31),(9,30),(8,29),(7,28),(6,27),(5,26),(4,25),(3,24),(2,23),(1,22),(0,21)] hh mixed T' ?_;refine De ?_;refine cd ?_;refine Wa (i:=2) (λρ1 w1 hj hR=>Ps (show ρ1 22=Value.int _ _ from hR.1) rfl Z' Z' Z') ?_;refine Kt (i/8) ?_
  refine Wa (i:=4) (λρ1 w1 hj hR=>Tg ya.out (show ρ1 24=Value.pointer _ from hR.1) (hj.hp.Zc (i:=0) rfl (by first|assumption|(simp only[I_];assumption)))) ?_;refine dmS ?_;refine cd ?_;refine Wa (i:=7) (λρ1 w1 hj hR=>Lu lb.out (show ρ1 26=Value.string _ from hR.1) (show ρ1 27=Value.int _ _ from hR.2.1) Z' (by assumption)) ?_;refine Wa (i:=8) (λρ1 w1 hj hR=>Iy lb.out lb.out (show ρ1 28=Value.int _ _ from hR.1) (by first|assumption|omega)) ?_;refine cd ?_;refine Wa (i:=10) (λρ1 w1 hj hR=>Ln (show ρ1 30=Value.int _ _ from hR.1) rfl Z' Z') ?_;refine ace ?_;refine Wa (i:=12) (λρ1 w1 hj hR=>nx (show ρ1 29=Value.int _ _ from hR.1) (show ρ1 32=Value.int _ _ from hR.2.1) Z') ?_;refine xa ?_;intro f W hJ hV;have hb_6:=hJ.bl;obtain⟨v33,v32,v31,v30,v29,v28,v27,v26,v25,v24,v23,v22,v21,_⟩:=hV;replace hh:=hJ.hp;refine Da (Na (aa v33 (aa v32 (aa v31 (aa v30 (aa v29 (aa v28 (aa v27 (aa v26 (aa v25 (aa v24 (aa v23 (aa v22 (aa v21 Ea)))))))))))))) ?_;dsimp only[Bb];clear hJ;refine GF ?_;refine Nd (k:=i/8) lb.out ya.size rfl rfl Z' Z' U' ?_;refine YV ?_;intro ws hh;simp only[U_] at hh
  rw[e1,h_ s2,BI s1,jc (by rw[Ma,Ja];omega),I_,Vf,s3,<-kg hlo] at hh;refine fa ?_;refine⟨⟨i+1,Z',rfl,hh⟩,by show a.size-(i+1)<a.size-i;omega, ?_⟩;exact Rc
 refine fa ?_;rw[W_ (by rw[Xp];omega)] at hh;refine Oa hh (mf _ _ _ (Ib 18446744073709551616 ((a.size+7)/8) (bn a.data.toList)) _ (hh.ra (i:=0) rfl) (j' _) Z') rfl ?_;intro w38 hh;refine fa ?_;have hbd:bn a.data.toList<18446744073709551616^((a.size+7)/8):=(by refine T9 (aaC _) ?_;rw[<-hsz,show(256:Nat)=2^8 from rfl,show(18446744073709551616:Nat)=2^64 from rfl,<-W9,<-W9];exact m_ Z' Z');have hd:Xd (Ib 18446744073709551616 ((a.size+7)/8) (bn a.data.toList))=Ha 18446744073709551616 (bn a.data.toList):=(by exact LV);have h1:=(Hp.xK (xs:=Ib 18446744073709551616 ((a.size+7)/8) (bn a.data.toList)) hh (Ja _ _)).at_ (i:=0) rfl;exact pL
def Sl.bR{A:Option Addr}{xs:List Nat}(h:Sl w A n 1 (nc xs))(hk:k<=n):Sl w A k 1 (nc (xs.take k)):=by
 have hl:=h.1;rw[Ma] at hl;refine⟨by rw[Ma,R_];omega,λh0=> ?_⟩;obtain⟨ad,he,hr⟩:=h.2 Z';exact⟨ad,he,by rw[VA];exact hr.take k⟩
def Sl.Qp{A:Option Addr}{xs:List Nat}(h:Sl w A n 1 (nc xs)):Sl w A (Xd xs).length 1 (nc (Xd xs)):=by
 have hl:=h.1;rw[Ma] at hl;have:=ue xs;have h2:=h.bR (k:=(Xd xs).length) Z';rwa[<-wj] at h2
def OH{xs:List Nat}(h:Dg 18446744073709551616 xs):Sa (Ka 18446744073709551616 xs)<=64*xs.length:=by
 apply Dc;rw[W9];exact Jf h
variable {m:Nat}
def ux(A:Option Addr)(n c:Nat)(xs:List Nat)(w:World)(hx:Sl w A n 1 (nc xs))(hd:Dg 18446744073709551616 xs)(hc:n<=c)(hn:n<=100000000000):Calls prog 290 #[.slice A n c] w λe w'=>e=.returned (.int .i64 (Sa (Ka 18446744073709551616 xs)))/\Below w.heap.size w w':=by
 have hl:=hx.1;rw[Ma] at hl;have hcl:=ue xs;have hcx:=hx.Qp;have hcd:=hd.cut;have hlast:=iA xs;rw[<-ai];generalize hcs:Xd xs=cs at*;have hh:=Hp.start w;refine da (N:=19) (l:=[.slice A n c]) func290 rfl rfl (by simp) ?_;refine fa ?_;refine Oa hh (mf _ _ _ xs _ hx hc Z') rfl ?_;intro w4 hh;rw[hcs];by_cases h0:cs.length=0
 .refine fa ?_;have:cs=[]:=C8 h0;subst this;exact⟨by rw[Ka,Ik];rfl,hh.below⟩
 obtain⟨ad,rfl,hr⟩:=hcx.at_ Z';obtain⟨d,hd⟩:=ea (l:=cs) (k:=cs.length-1) Z';have hd2:=Yd hd;have hd3:=hcd.at_ hd;have e1:cs.take (cs.length-1)++[d]=cs:=by rw[<-oa hd,W_ Z']
 have hnz:d≠0:=(by intro h;subst h;apply hlast;rw[List.getLast?_eq_getElem?];exact hd);have hb:=iH (B:=18446744073709551616) (b:=64) (m:=cs.length-1) U' (hcd.take (cs.length-1)) (by rw[R_];omega) hnz;rw[e1] at hb;have hb2:Sa d<=64:=Dc (by simpa using hd3);refine aL (ua (mb (sr (mL (Vq ?_)))));refine WW (ua (cF (Mc (wc (sr (mL (Vq ?_)))))));refine mulC (mL (mL (Vq ?_)));refine Rp ?_;refine zd (k:=cs.length-1) lb.out ya.size rfl rfl Z' Z' U' ?_;refine Tm ?_;refine Oa hh (nq _ _ hd3) rfl ?_;intro w17 hh;refine fa ?_;refine⟨?_,hh.below⟩;congr 2;omega
def OI(N:Nat):(Ha 256 N).length=(Sa N+7)/8:=by
 have h256:(256:Nat)=2^8:=rfl;have h1:(Ha 256 N).length<=(Sa N+7)/8:=(by apply yf Z';refine T9 (Tb N) ?_;rw[h256,<-W9];exact m_ Z' Z');have h2:=Ll (B:=256) Z' N;have h3:Sa N<=8*(Ha 256 N).length:=(by apply Dc;rw[W9];exact h2);omega
def Yk{B:Nat}(i N:Nat):Ib B (i+1) N=Ib B i N++[N/B^i % B]:=by
 apply V9;intro j;obtain h|h|h:=Nat.lt_trichotomy j i
 .rw[Yh _ _ _ Z',X8 (by rw[Ja];exact h),Yh _ _ _ h]
 .subst h;rw[Yh _ _ _ Z',I9 (by rw[Ja];omega),Ja];simp
 rw[t_ (by rw[Ja];omega),t_ (by rw[Y_,Ja];simp;omega)]
def EK{R:List Nat}{x:Nat}:(List.replicate (k+1) 0++R).set k x=List.replicate k 0++(x::R):=by
 rw[List.replicate_succ',l_,q8 _ _ (by simp)];simp
def Te(A:Option Addr)(n c:Nat)(xs:List Nat)(w:World)(hx:Sl w A n 1 (nc xs))(hd:Dg 18446744073709551616 xs)(hc:n<=c)(hn:n<=10000000000):Calls prog 261 #[.slice A n c] w λe w'=>e=.returned (.string (str (sb (Ka 18446744073709551616 xs))))/\Below w.heap.size w w':=by
 have hl:=hx.1;rw[Ma] at hl;have hcl:=ue xs;have hcx:=hx.Qp;have hcd:=hd.cut;have hbl:=OH hcd;have hcan:=Lh Z' hd;have hlen:=OI (Ka 18446744073709551616 xs);rw[ai] at hbl;have hh:=Hp.start w;refine da (N:=37) (l:=[.slice A n c]) func261 rfl rfl (by simp) ?_;refine fa ?_;refine Oa hh (mf _ _ _ xs _ hx hc Z') rfl ?_;intro w7 hh;rw[hcan] at hcl hcx hcd hbl;rw[hcan];refine fa ?_;refine Oa hh (ux _ _ _ (Ha 18446744073709551616 (Ka 18446744073709551616 xs)) _ (hcx.ext hh.below) hcd Z' Z') rfl ?_;intro w9 hh;rw[we Z'];generalize Ka 18446744073709551616 xs=M at*;refine fa ?_;refine Me (n:=(Sa M+7)/8) hh rfl rfl Z' Z' lb.out ya.out rfl Z' Z' U' ?_;intro b13 w13 hh;refine fa ?_;rw[Dq] at hh;refine Ba [5,15,16,17,18,19,20,21,22,23,24,25,26,27,28,29,30,31,32,33,34] 15 (λv w'=>∃i:Nat,i<=(Sa M+7)/8/\v=.int .i64 i/\Hp w [.row (some ⟨b13,0,none⟩) ((Sa M+7)/8) ((Sa M+7)/8) 5 1 (Kg (List.replicate ((Sa M+7)/8-i) 0++(Ib 256 i M).reverse))] w') (λv _=>(Sa M+7)/8-(intOf v).toNat) ?_ ?_
 .exact⟨0,D' _,rfl,by simpa[Ib] using hh⟩
 clear hh;rintro ρ' v w' ⟨i,hi,rfl,hh⟩;by_cases hlt:i<(Sa M+7)/8
 .obtain⟨ad,rfl,hr⟩:=hcx.at_ Z';have hg:=Py (B:=18446744073709551616) (n:=M) (i:=i/8) Z' Z';have hg2:=Yd hg;have e1:((i:Int) % 8*8).toNat=i % 8*8:=Z';refine sr ?_;refine Bi (ua (mb (cT (Mc (wc (mb (cg (sr (mI (aI (ua (Kb (mL (mI ?_))))))))))))));refine Rp (mI ?_);refine Rp (mL (mI ?_));refine KJ rfl rfl Z' Z' Z' U' ?_;refine zd (k:=i/8) lb.out ya.size rfl rfl Z' Z' U' ?_;refine Tm ?_;refine fa ?_;refine nw rfl rfl Z' U' ?_;refine mY lb.out lb.out rfl U' ?_;refine Nd (k:=(Sa M+7)/8-1-i) lb.out ya.size rfl rfl Z' Z' U' ?_;refine Ab hh (i:=0) (vs:=[_]) rfl rfl (Bc rfl) rfl ya.out rfl (by rw[Nc,Y_,c_,H9,Ja];omega) rfl ?_;intro ws hh;simp only[U_] at hh;obtain⟨k,hk⟩:∃k,(Sa M+7)/8-i=k+1:=⟨(Sa M+7)/8-i-1,Z'⟩;rw[e1,zO,I_,jc (by rw[Nc,Y_,c_,H9,Ja];omega),Ur,hk,show(Sa M+7)/8-1-i=k by omega,EK,<-List.reverse_concat,<-Yk] at hh;refine fa ?_
  refine⟨⟨i+1,Z',rfl,by rw[show(Sa M+7)/8-(i+1)=k by omega];exact hh⟩,by show(Sa M+7)/8-(i+1)<(Sa M+7)/8-i;omega, ?_⟩;exact Rc
 obtain rfl:i=(Sa M+7)/8:=Z';have hfin:Kg (List.replicate ((Sa M+7)/8-(Sa M+7)/8) 0++(Ib 256 ((Sa M+7)/8) M).reverse)=ij (sb M):=(by rw[f_,p6,E',<-hlen];exact adN);rw[hfin] at hh;exact aaP
def Gk(A:Option Addr)(n c m:Nat)(xs:List Nat)(w:World)(hx:Sl w A n 1 (nc xs))(hn:n<=10000000000)(hm:m<=10000000000):Calls prog 291 #[.slice A n c,.int .i64 m] w λe w'=>∃b,e=.returned (.slice (some ⟨b,0,none⟩) (max m n) (max m n))/\w'.ownsRow w.heap.size 223 1 (.slice (some ⟨b,0,none⟩) (max m n) (max m n)) (max m n) (nc (xs++List.replicate (max m n-n) 0))/\Below w.heap.size w w':=by
 have hl:=hx.1;rw[Ma] at hl;have hh:=Hp.start w;refine da (N:=15) (l:=[.slice A n c,.int .i64 m]) func291 rfl rfl (by simp) ?_;refine fa ?_;refine Me (n:=max m n) hh rfl rfl Z' Z' lb.out ya.out rfl Z' Z' U' ?_;intro b10 w10 hh;refine fa ?_;rw[zj] at hh;refine YL hh (i:=0) (o:=0) rfl rfl rfl (hx.ext hh.below) lb.out ya.out (by rw[Ma,H9];omega) (Nb _) U' ?_;intro w13 hh;skip;have e1:Hb (nc (List.replicate (max m n) 0)) 0 ((nc xs).take (min n (max m n)*1))=nc (xs++List.replicate (max m n-n) 0):=(by rw[W_ (by rw[Ma];omega),Hb,K8,E',Ma,<-TA,<-eG,List.drop_replicate];congr 3;omega);simp only[U_,e1] at hh;refine fa ?_;exact⟨_,rfl,hh.at_ (i:=0) rfl,hh.below⟩
variable {c':Nat}
def Ep(A B:Option Addr)(n c m c':Nat)(xs ys:List Nat)(w:World)(hx:Sl w A n 1 (nc xs))(hy:Sl w B m 1 (nc ys))(hdx:Dg 18446744073709551616 xs)(hdy:Dg 18446744073709551616 ys)(hc:n<=c)(hc':m<=c')(hn:n<=100000000000)(hm:m<=100000000000):Calls prog 294 #[.slice A n c,.slice B m c'] w λe w'=>e=.returned (.int .i64 (Qh (Ka 18446744073709551616 xs) (Ka 18446744073709551616 ys)))/\Below w.heap.size w w':=by
 have hlx:=hx.1;have hly:=hy.1;rw[Ma] at hlx hly;have hcx:=hx.Qp;have hcy:=hy.Qp;have hxl:=ue xs;have hyl:=ue ys;have hx2:=Can.cut hdx;have hy2:=Can.cut hdy;have hh:=Hp.start w;rw[<-ai xs,<-ai ys];refine da (N:=47) (l:=[.slice A n c,.slice B m c']) func294 rfl rfl (by simp) ?_;refine fa ?_;refine Oa hh (mf _ _ _ xs _ hx hc Z') rfl ?_;intro w7 hh;refine mL ?_;refine Oa hh (mf _ _ _ ys _ (hy.ext hh.below) hc' Z') rfl ?_;intro w9 hh;generalize Xd xs=us at*;generalize Xd ys=vs at*;by_cases hlen:us.length=vs.length
 .refine fa ?_;refine Ba [4,5,23,24,25,26,27,28,29,30,31,32,33,34,35,36,37,38,39,40,41,42,43,44,45,46] 5 (λv w'=>∃k:Nat,k<=us.length/\v=.int .i64 ((k:Int)-1)/\us.drop k=vs.drop k/\Hp w [] w') (λv _=>(intOf v+1).toNat) ?_ ?_
  .exact⟨us.length,j' _,rfl,by rw[List.drop_length,F5 Z'],hh⟩
  clear hh;rintro ρ' v w' ⟨k,hk,rfl,hd,hh⟩;by_cases h0:k=0
  .subst h0;refine fa ?_;rw[j7,j7] at hd;rw[hd];exact⟨by rw[NM rfl],hh.below⟩
  obtain⟨j,rfl⟩:∃j,k=j+1:=⟨k-1,Z'⟩;obtain⟨x,hxj⟩:=ea (l:=us) (k:=j) Z';obtain⟨y,hyj⟩:=ea (l:=vs) (k:=j) Z';obtain⟨ad,rfl,hr⟩:=hcx.at_ Z';obtain⟨ad2,rfl,hs⟩:=hcy.at_ Z';have hx3:=Yd hxj;have hy3:=Yd hyj;by_cases hlt:x<y
  .have hf:=Nz hx2.1 hxj hyj hd hlt;refine fa ?_;refine bT ?_;refine De ?_;refine cd ?_;refine jj (j) ?_;refine sF ?_;refine De ?_;refine cd ?_;refine jj (j) ?_;refine yF ?_;refine xa ?_;intro f W hJ hV;have hb_9:=hJ.bl;obtain⟨v35,v34,v33,v32,v31,v30,v29,v28,_⟩:=hV;replace hh:=hJ.hp;refine HQ ?_;dsimp only[Bb];clear hJ;refine fa ?_;exact⟨by rw[Uj hf],hh.below⟩
  by_cases hgt:y<x
  .have hf:=Nz hy2.1 hyj hxj hd.symm hgt;refine fa ?_;refine bT ?_;refine De ?_;refine cd ?_;refine jj (j) ?_;refine sF ?_;refine De ?_;refine cd ?_;refine jj (j) ?_;refine yF ?_;refine xa ?_;intro f W hJ hV;have hb_9:=hJ.bl;obtain⟨v35,v34,v33,v32,v31,v30,v29,v28,_⟩:=hV;replace hh:=hJ.hp;refine HQ ?_;dsimp only[Bb];clear hJ;refine fa ?_;refine aad ?_;refine De ?_;refine cd ?_;refine jj (j) ?_;refine sF ?_;refine De ?_;refine cd ?_;refine jj (j) ?_;refine yF ?_;refine xa ?_;intro f W hJ hV;have hb_11:=hJ.bl;obtain⟨v45,v44,v43,v42,v41,v40,v39,v38,_⟩:=hV;replace hh:=hJ.hp;refine aay ?_;dsimp only[Bb];clear hJ;refine fa ?_;exact⟨by rw[vr hf],hh.below⟩
  refine fa ?_;refine bT ?_;refine De ?_;refine cd ?_;refine jj (j) ?_;refine sF ?_;refine De ?_;refine cd ?_;refine jj (j) ?_;refine yF ?_;refine xa ?_;intro f W hJ hV;have hb_9:=hJ.bl;obtain⟨v35,v34,v33,v32,v31,v30,v29,v28,_⟩:=hV;replace hh:=hJ.hp;refine HQ ?_;dsimp only[Bb];clear hJ;refine fa ?_;refine aad ?_;refine De ?_;refine cd ?_;refine jj (j) ?_;refine sF ?_;refine De ?_;refine cd ?_;refine jj (j) ?_;refine yF ?_;refine xa ?_;intro f W hJ hV;have hb_11:=hJ.bl;obtain⟨v45,v44,v43,v42,v41,v40,v39,v38,_⟩:=hV;replace hh:=hJ.hp;refine aay ?_;dsimp only[Bb];clear hJ;refine fa ?_;refine⟨⟨j,Z',by show Value.int _ _=Value.int _ _;congr 1;omega,KD hxj hyj hd Z',hh⟩,by show((((j+1:Nat):Int)-1-1)+1).toNat<((((j+1:Nat):Int)-1)+1).toNat;omega, ?_⟩;exact Rc
 by_cases hlt:us.length<vs.length
 .have hf:Ka 18446744073709551616 us<Ka 18446744073709551616 vs:=(by refine H6 λh=> ?_;have:=hy2.Zw hx2 Z' h;omega);refine fa ?_;exact⟨by rw[Uj hf],hh.below⟩
 have hf:Ka 18446744073709551616 vs<Ka 18446744073709551616 us:=(by refine H6 λh=> ?_;have:=hx2.Zw hy2 Z' h;omega);refine fa ?_;exact⟨by rw[vr hf],hh.below⟩
def ac5{y:Nat}(hy:y<18446744073709551616)(hm:m<18446744073709551616):y*m<=340282366920938463426481119284349108225:=o9 (by omega:y<=18446744073709551615) (by omega:m<=18446744073709551615)
def mA{x y c P:Nat}(hx:x<18446744073709551616)(hc:c<18446744073709551616)(hP:P<=340282366920938463426481119284349108225)(he:P=y*m):(x+(P % 18446744073709551616+c+0) % 18446744073709551616+0) % 18446744073709551616=(x+y*m+c) % 18446744073709551616/\((P/18446744073709551616+(P % 18446744073709551616+c+0)/18446744073709551616) % 18446744073709551616+(x+(P % 18446744073709551616+c+0) % 18446744073709551616+0)/18446744073709551616) % 18446744073709551616=(x+y*m+c)/18446744073709551616/\(x+y*m+c)/18446744073709551616<18446744073709551616:=by
 rw[<-he];omega
variable {C cy ny:Nat}
def Km{M:Nat}{Y:Option Addr}(pre xs post ys:List Nat)(w:World)(hh:Hp w0 (.row (some ⟨b,0,none⟩) M C 223 1 (nc (pre++xs++post))::H) w) (hy:∀w1 cs,Hp w0 (.row (some ⟨b,0,none⟩) M C 223 1 cs::H) w1->Sl w1 Y ny 1 (nc ys))(hxd:Dg 18446744073709551616 xs)(hyd:Dg 18446744073709551616 ys)(hm:m<18446744073709551616)(hM:xs.length<=100000000000)(hny:ny<=100000000000):Calls prog 297 #[.slice (some ⟨b,pre.length,none⟩) xs.length c',.slice Y ny cy,.int .u64 (m:Int)] w λe w'=>e=.returned (.tuple #[])/\Hp w0 (.row (some ⟨b,0,none⟩) M C 223 1 (nc (pre++Pg 18446744073709551616 xs ys m 0++post))::H) w':=by
 have hly:=(hy _ _ hh).1;rw[Ma] at hly;refine da (N:=56) (l:=[.slice (some ⟨b,pre.length,none⟩) xs.length c',.slice Y ny cy,.int .u64 (m:Int)]) func297 rfl rfl (by simp) ?_;refine fa ?_;refine Ra [6,7,8,9,10,11,14,15,16,17,18,19,20,21,22,23,24,25,26,27,28,29,30,31,32,33,34,35,36,37,38,39,40,41,42,43,44,45,46,47,48,49,50,51,52,53,54,55] 6 14 (λc i w'=>∃(done rest:List Nat)(cr:Nat),done.length+rest.length=xs.length/\i=.int .i64 done.length/\c=.int .u64 (cr:Int)/\cr<18446744073709551616/\Dg 18446744073709551616 rest/\done++Pg 18446744073709551616 rest (ys.drop done.length) m cr=Pg 18446744073709551616 xs ys m 0/\Hp w0 (.row (some ⟨b,0,none⟩) M C 223 1 (nc (pre++(done++rest)++post))::H) w') (λ_ i _=>xs.length-(intOf i).toNat) ?_ ?_
 .exact⟨[],xs,0,by simp,rfl,rfl,Z',hxd,rfl,hh⟩
 clear hh;rintro ρ' c i w' ⟨done,rest,cr,hlen,rfl,rfl,hcr,hrd,heq,hh⟩;by_cases hlt:done.length<xs.length
 .obtain⟨x,r,rfl⟩:∃x r,rest=x::r:=(by exact abI);have hx:=hrd.head;have hg:=Yd (MB (pre:=pre) (done:=done) (r:=r) (post:=post) (x:=x));have hlr:done.length+(r.length+1)=xs.length:=by simpa using hlen
  simp only[Pg,tail_drop,Yw] at heq;by_cases hiy:done.length<ny
  .obtain⟨y,hyk⟩:=ea (l:=ys) (k:=done.length) Z';obtain⟨ad,rfl,_⟩:=(hy _ _ hh).at_ Z';rw[hyk,l9] at heq;have hyw:=hyd.at_ hyk;refine sr ?_;refine MF ?_;refine Bi (ua (cT (Kb (mL (mI ?_)))));refine wR ?_;refine ub ya.out rfl ((hy _ _ hh).rD hyk) U' ?_;refine fa ?_;obtain⟨p1,p2,p3⟩:=mA (y:=y) (m:=m) hx hcr (ac5 hyw hm) rfl;refine Oa hh (tu y m _ hyw hm) rfl ?_;intro w28 hh;refine fa ?_;refine jk (qj (y*m % 18446744073709551616) cr 0 Z' _) (Ga (Bc rfl) (Ga (Bc rfl) (Ga rfl Fb))) U' ?_;refine fa ?_;refine Ye rfl rfl U' ?_;refine aI (ua (sr (mL (mI (mL (mI ?_))))));refine Gl lb.out ya.size rfl rfl rfl Z' U' ?_;refine Aj ?_;refine mI ?_;refine jk (qj x ((y*m % 18446744073709551616+cr+0) % 18446744073709551616) 0 Z' _) (Ga (Bc rfl) (Ga (Bc rfl) (Ga rfl Fb))) U' ?_;refine mT ?_;refine dv ?_;refine dv ?_;refine Xo ?_;refine kB ?_;intro ws hh;simp only[U_] at hh;rw[p1,I_,jc (by rw[Ma];simp only[Y_,E_];omega),Vf,Bo] at hh;refine fa ?_;refine Ye rfl rfl U' ?_;refine fa ?_;rw[p2]
   refine⟨⟨done++[(x+y*m+cr) % 18446744073709551616],r,_,by simp;omega,by rw[Y_];rfl,rfl,p3,hrd.tail, ?_,hh⟩,by show xs.length-(done.length+1)<xs.length-done.length;omega, ?_⟩
   .rw[<-heq,l_,Y_];rfl
   exact P'
  rw[t_ Z',Option.getD_none] at heq;have h0w:(0:Nat)<18446744073709551616:=Z';refine fa ?_;obtain⟨p1,p2,p3⟩:=mA (y:=0) (m:=m) hx hcr (ac5 h0w hm) rfl;refine Oa hh (tu 0 m _ h0w hm) rfl ?_;intro w28 hh;refine fa ?_;refine jk (qj (0*m % 18446744073709551616) cr 0 Z' _) (Ga (Bc rfl) (Ga (Bc rfl) (Ga rfl Fb))) U' ?_;refine fa ?_;refine Ye rfl rfl U' ?_;refine aI (ua (sr (mL (mI (mL (mI ?_))))));refine Gl lb.out ya.size rfl rfl rfl Z' U' ?_;refine Aj ?_;refine mI ?_;refine jk (qj x ((0*m % 18446744073709551616+cr+0) % 18446744073709551616) 0 Z' _) (Ga (Bc rfl) (Ga (Bc rfl) (Ga rfl Fb))) U' ?_;refine mT ?_;refine dv ?_;refine dv ?_;refine Xo ?_;refine kB ?_;intro ws hh;simp only[U_] at hh;rw[p1,I_,jc (by rw[Ma];simp only[Y_,E_];omega),Vf,Bo] at hh;refine fa ?_;refine Ye rfl rfl U' ?_;refine fa ?_;rw[p2];refine⟨⟨done++[(x+0*m+cr) % 18446744073709551616],r,_,by simp;omega,by rw[Y_];rfl,rfl,p3,hrd.tail, ?_,hh⟩,by show xs.length-(done.length+1)<xs.length-done.length;omega, ?_⟩
  .rw[<-heq,l_,Y_];rfl
  exact P'
 exact aeJ
def Hn{M:Nat}{Y:Option Addr}(pre xs post ys:List Nat)(w:World)(hh:Hp w0 (.row (some ⟨b,0,none⟩) M C 223 1 (nc (pre++xs++post))::H) w) (hy:∀w1 cs,Hp w0 (.row (some ⟨b,0,none⟩) M C 223 1 cs::H) w1->Sl w1 Y ny 1 (nc ys))(hxd:Dg 18446744073709551616 xs)(hyd:Dg 18446744073709551616 ys)(hM:xs.length<=100000000000)(hny:ny<=100000000000)(hsub:SG 18446744073709551616 xs ys 0=0):Calls prog 295 #[.slice (some ⟨b,pre.length,none⟩) xs.length c',.slice Y ny cy] w λe w'=>e=.returned (.bool true)/\Hp w0 (.row (some ⟨b,0,none⟩) M C 223 1 (nc (pre++Yp 18446744073709551616 xs ys 0++post))::H) w':=by
 have hly:=(hy _ _ hh).1;rw[Ma] at hly;refine da (N:=37) (l:=[.slice (some ⟨b,pre.length,none⟩) xs.length c',.slice Y ny cy]) func295 rfl rfl (by simp) ?_;refine fa ?_;refine Ra [5,6,7,10,11,12,13,14,15,16,17,18,19,20,21,22,23,24,25,26,27,28,29,30,31,32,33,34] 5 10 (λc i w'=>∃(done rest:List Nat)(cr:Nat),done.length+rest.length=xs.length/\i=.int .i64 done.length/\c=.int .u64 (cr:Int)/\cr<=1/\Dg 18446744073709551616 rest/\done++Yp 18446744073709551616 rest (ys.drop done.length) cr=Yp 18446744073709551616 xs ys 0/\SG 18446744073709551616 rest (ys.drop done.length) cr=0/\Hp w0 (.row (some ⟨b,0,none⟩) M C 223 1 (nc (pre++(done++rest)++post))::H) w') (λ_ i _=>xs.length-(intOf i).toNat) ?_ ?_
 .exact⟨[],xs,0,by simp,rfl,rfl,Z',hxd,rfl,hsub,hh⟩
 clear hh;rintro ρ' c i w' ⟨done,rest,cr,hlen,rfl,rfl,hcr,hrd,heq,hsb,hh⟩;by_cases hlt:done.length<xs.length
 .obtain⟨x,r,rfl⟩:∃x r,rest=x::r:=(by exact abI);have hx:=hrd.head;have hg:=Yd (MB (pre:=pre) (done:=done) (r:=r) (post:=post) (x:=x));have hlr:done.length+(r.length+1)=xs.length:=by simpa using hlen
  simp only[Yp,SG,tail_drop,Yw] at heq hsb;by_cases hiy:done.length<ny
  .obtain⟨y,hyk⟩:=ea (l:=ys) (k:=done.length) Z';obtain⟨ad,rfl,_⟩:=(hy _ _ hh).at_ Z';rw[hyk,l9] at heq hsb;have hyw:=hyd.at_ hyk;refine sr ?_;refine MF ?_;refine Bi (ua (cT (Kb (mL (mI ?_)))));refine wR ?_;refine ub ya.out rfl ((hy _ _ hh).rD hyk) U' ?_;refine aI (ua (Kb (mL (mI (mL (mI ?_))))));refine Xo ?_;refine Aj ?_;refine fa ?_;refine jk (nA x y cr hcr _) (Ga (Bc rfl) (Ga (Bc rfl) (Ga (Bc rfl) Fb))) U' ?_;refine mT ?_;refine dv ?_;refine dv ?_;refine Xo ?_;refine kB ?_;intro ws hh;simp only[U_] at hh;rw[I_,jc (by rw[Ma];simp only[Y_,E_];omega),Vf,Bo] at hh;refine fa ?_;refine⟨⟨done++[(x+18446744073709551616-y-cr) % 18446744073709551616],r,_,by simp;omega,by rw[Y_];rfl,rfl,by split<;>omega,hrd.tail, ?_, ?_,hh⟩,by show xs.length-(done.length+1)<xs.length-done.length;omega, ?_⟩
   .rw[<-heq,l_,Y_];rfl
   .rw[Y_];exact hsb
   exact P'
  rw[t_ Z',Option.getD_none] at heq hsb;refine sr ?_;refine MF ?_;refine Bi (ua (cF (Mc (wc (Kb (mL (mI (mL (mI ?_)))))))));refine Xo ?_;refine Aj ?_;refine fa ?_;refine jk (nA x 0 cr hcr _) (Ga (Bc rfl) (Ga (Bc rfl) (Ga (Bc rfl) Fb))) U' ?_;refine mT ?_;refine dv ?_;refine dv ?_;refine Xo ?_;refine kB ?_;intro ws hh;simp only[U_] at hh;rw[I_,jc (by rw[Ma];simp only[Y_,E_];omega),Vf,Bo] at hh;refine fa ?_;refine⟨⟨done++[(x+18446744073709551616-0-cr) % 18446744073709551616],r,_,by simp;omega,by rw[Y_];rfl,rfl,by split<;>omega,hrd.tail, ?_, ?_,hh⟩,by show xs.length-(done.length+1)<xs.length-done.length;omega, ?_⟩
  .rw[<-heq,l_,Y_];rfl
  .rw[Y_];exact hsb
  exact P'
 have hr0:rest=[]:=C8 Z';subst hr0;obtain rfl:cr=0:=hsb;refine fa ?_;rw[o_,Yp,o_] at*;rw[<-heq];exact⟨rfl,hh⟩
def qJ{M:Nat}{Y:Option Addr}(pre xs post ys:List Nat)(w:World)(hh:Hp w0 (.row (some ⟨b,0,none⟩) M C 223 1 (nc (pre++xs++post))::H) w) (hy:∀w1 cs,Hp w0 (.row (some ⟨b,0,none⟩) M C 223 1 cs::H) w1->Sl w1 Y ny 1 (nc ys))(hxd:Dg 18446744073709551616 xs)(hyd:Dg 18446744073709551616 ys)(hM:xs.length<=100000000000)(hny:ny<=100000000000):Calls prog 292 #[.slice (some ⟨b,pre.length,none⟩) xs.length c',.slice Y ny cy] w λe w'=>e=.returned (.tuple #[])/\Hp w0 (.row (some ⟨b,0,none⟩) M C 223 1 (nc (pre++Pg 18446744073709551616 xs ys 1 0++post))::H) w':=by
 have hly:=(hy _ _ hh).1;rw[Ma] at hly;refine da (N:=34) (l:=[.slice (some ⟨b,pre.length,none⟩) xs.length c',.slice Y ny cy]) func292 rfl rfl (by simp) ?_;refine fa ?_;refine Ra [4,5,6,9,10,11,12,13,14,15,16,17,18,19,20,21,22,23,24,25,26,27,28,29,30,31,32,33] 4 9 (λc i w'=>∃(done rest:List Nat)(cr:Nat),done.length+rest.length=xs.length/\i=.int .i64 done.length/\c=.int .u64 (cr:Int)/\cr<=1/\Dg 18446744073709551616 rest/\done++Pg 18446744073709551616 rest (ys.drop done.length) 1 cr=Pg 18446744073709551616 xs ys 1 0/\Hp w0 (.row (some ⟨b,0,none⟩) M C 223 1 (nc (pre++(done++rest)++post))::H) w') (λ_ i _=>xs.length-(intOf i).toNat) ?_ ?_
 .exact⟨[],xs,0,by simp,rfl,rfl,Z',hxd,rfl,hh⟩
 clear hh;rintro ρ' c i w' ⟨done,rest,cr,hlen,rfl,rfl,hcr,hrd,heq,hh⟩;by_cases hlt:done.length<xs.length
 .obtain⟨x,r,rfl⟩:∃x r,rest=x::r:=(by exact abI);have hx:=hrd.head;have hg:=Yd (MB (pre:=pre) (done:=done) (r:=r) (post:=post) (x:=x));have hlr:done.length+(r.length+1)=xs.length:=by simpa using hlen
  simp only[Pg,tail_drop,Yw,I_] at heq;by_cases hiy:done.length<ny
  .obtain⟨y,hyk⟩:=ea (l:=ys) (k:=done.length) Z';obtain⟨ad,rfl,_⟩:=(hy _ _ hh).at_ Z';rw[hyk,l9] at heq;have hyw:=hyd.at_ hyk;refine sr ?_;refine MF ?_;refine Bi (ua (cT (Kb (mL (mI ?_)))));refine wR ?_;refine ub ya.out rfl ((hy _ _ hh).rD hyk) U' ?_;refine aI (ua (Kb (mL (mI (mL (mI ?_))))));refine Xo ?_;refine Aj ?_;refine fa ?_;refine jk (qj x y cr hcr _) (Ga (Bc rfl) (Ga (Bc rfl) (Ga (Bc rfl) Fb))) U' ?_;refine mT ?_;refine dv ?_;refine dv ?_;refine Xo ?_;refine kB ?_;intro ws hh;simp only[U_] at hh;rw[I_,jc (by rw[Ma];simp only[Y_,E_];omega),Vf,Bo] at hh;refine fa ?_;refine⟨⟨done++[(x+y+cr) % 18446744073709551616],r,_,by simp;omega,by rw[Y_];rfl,rfl,Z',hrd.tail, ?_,hh⟩,by show xs.length-(done.length+1)<xs.length-done.length;omega, ?_⟩
   .rw[<-heq,l_,Y_];rfl
   exact P'
  rw[t_ Z',Option.getD_none] at heq;refine sr ?_;refine MF ?_;refine Bi (ua (cF (Mc (wc (Kb (mL (mI (mL (mI ?_)))))))));refine Xo ?_;refine Aj ?_;refine fa ?_;refine jk (qj x 0 cr hcr _) (Ga (Bc rfl) (Ga (Bc rfl) (Ga (Bc rfl) Fb))) U' ?_;refine mT ?_;refine dv ?_;refine dv ?_;refine Xo ?_;refine kB ?_;intro ws hh;simp only[U_] at hh;rw[I_,jc (by rw[Ma];simp only[Y_,E_];omega),Vf,Bo] at hh;refine fa ?_;refine⟨⟨done++[(x+0+cr) % 18446744073709551616],r,_,by simp;omega,by rw[Y_];rfl,rfl,Z',hrd.tail, ?_,hh⟩,by show xs.length-(done.length+1)<xs.length-done.length;omega, ?_⟩
  .rw[<-heq,l_,Y_];rfl
  exact P'
 exact aeJ
def iZ{i d:Nat}(D:Nat)(hD:D<18446744073709551616^i)(hd:d<18446744073709551616)(hk:i+n/64+1<k):(D*2^n)/18446744073709551616^(i+n/64) % 18446744073709551616<2^(n % 64)/\d*2^(n % 64) % 18446744073709551616=(d % 2^(64-n % 64))*2^(n % 64)/\(Ib 18446744073709551616 k (D*2^n)).set (i+n/64) ((D*2^n)/18446744073709551616^(i+n/64) % 18446744073709551616+d*2^(n % 64) % 18446744073709551616)=Ib 18446744073709551616 k (D*2^n+18446744073709551616^(i+n/64)*(d*2^(n % 64) % 18446744073709551616))/\(D*2^n+18446744073709551616^(i+n/64)*(d*2^(n % 64) % 18446744073709551616))/18446744073709551616^(i+n/64+1) % 18446744073709551616=0/\(Ib 18446744073709551616 k (D*2^n+18446744073709551616^(i+n/64)*(d*2^(n % 64) % 18446744073709551616))).set (i+n/64+1) (d/2^(64-n % 64))=Ib 18446744073709551616 k ((D+18446744073709551616^i*d)*2^n)/\(n % 64=0->D*2^n+18446744073709551616^(i+n/64)*(d*2^(n % 64) % 18446744073709551616)=(D+18446744073709551616^i*d)*2^n):=by
 have hW:(18446744073709551616:Nat)=2^64:=by decide
 have hs:n % 64<64:=B_ _ Z';have hn:2^n=18446744073709551616^(n/64)*2^(n % 64):=(by rw[hW,<-W9,<-D_];congr 1;omega);generalize hq:n/64=q at*;generalize hse:n % 64=s at*;have e:(18446744073709551616:Nat)=2^(64-s)*2^s:=by rw[<-D_,hW];congr 1;omega
 have hpos:0<2^s:=r_ Z';have hwp:∀j:Nat,0<18446744073709551616^j:=λj=>r_ U';have hP:D*2^n<18446744073709551616^(i+q)*2^s:=(by rw[hn,<-J9,D_];exact n8 (n8 hD (hwp q)) hpos);have h1:(D*2^n)/18446744073709551616^(i+q)<2^s:=by rw[D9 (hwp _),G_ (2^s)];exact hP
 have hsW:2^s<=18446744073709551616:=by rw[hW];exact m_ Z' Z'
 have h2:d*2^s % 18446744073709551616=(d % 2^(64-s))*2^s:=by rw[e,Nat.mul_mod_mul_right]
 have h3:(d % 2^(64-s)+1)*2^s<=18446744073709551616:=(by rw[e];exact N9 _ (B_ _ (r_ Z')));rw[n9] at h3;have h4:(D*2^n)/18446744073709551616^(i+q) % 18446744073709551616=(D*2^n)/18446744073709551616^(i+q):=h_ Z';have hlt1:D*2^n+18446744073709551616^(i+q)*(d*2^s % 18446744073709551616)<18446744073709551616^(i+q+1):=(by rw[h2,i_];have:18446744073709551616^(i+q)*((d % 2^(64-s))*2^s+2^s)<=18446744073709551616^(i+q)*18446744073709551616:=k_ _ h3;rw[X9] at this;omega);have hup:=acA (d:=d) (s:=s) hd Z';have hfin:D*2^n+18446744073709551616^(i+q)*(d*2^s % 18446744073709551616)+18446744073709551616^(i+q+1)*(d/2^(64-s))=(D+18446744073709551616^i*d)*2^n:=by
  have h5:18446744073709551616^(i+q)*(d*2^s % 18446744073709551616)+18446744073709551616^(i+q+1)*(d/2^(64-s))=18446744073709551616^(i+q)*(d*2^s):=by
   conv=>rhs;rw[<-hup.1,X9]
   rw[i_,J9,G_ 18446744073709551616]
  rw[R6,h5,T7,hn,D_];congr 1;simp only[J9,G6,G_]
 have hbig:∀j,j<k->18446744073709551616^j*18446744073709551616<=18446744073709551616^k:=λj hj=>by rw[<-i_];exact m_ U' hj
 have hb1:=hbig (i+q) Z';rw[<-i_] at hb1;refine⟨by rw[h4];exact h1,h2, ?_, ?_, ?_, ?_⟩
 .exact ir U' Z' Z' (by rw[h4,h2];omega)
 .rw[L9 hlt1]
 .have h6:(D*2^n+18446744073709551616^(i+q)*(d*2^s % 18446744073709551616))/18446744073709551616^(i+q+1) % 18446744073709551616=0:=by rw[L9 hlt1]
  have h7:d/2^(64-s)<18446744073709551616:=S9 (l8 _ _) hd;have h8:=ir (B:=18446744073709551616) (k:=k) (n:=D*2^n+18446744073709551616^(i+q)*(d*2^s % 18446744073709551616)) (j:=i+q+1) (v:=d/2^(64-s)) U' hk ?_ (by rw[h6];omega)
  .rw[h6,C_,hfin] at h8;exact h8
  have h9:18446744073709551616^(i+q+1)*(d/2^(64-s)+1)<=18446744073709551616^(i+q+1)*18446744073709551616:=k_ _ h7;have h10:=hbig (i+q+1) hk;rw[O8] at h9;omega
 intro h0;subst h0;rw[<-hfin];have:d/2^(64-0)=0:=L9 (by rw[<-hW];exact hd);rw[this];simp
def Ts(A:Option Addr)(n c m:Nat)(xs:List Nat)(w:World)(hx:Sl w A n 1 (nc xs))(hd:Dg 18446744073709551616 xs)(hn:n<=1000000000)(hm:m<=10000000000):Calls prog 288 #[.slice A n c,.int .i64 (m:Int)] w λe w'=>∃A c,e=.returned (.slice A (Ha 18446744073709551616 (Ka 18446744073709551616 xs*2^m)).length c)/\w'.ownsRow w.heap.size 223 1 (.slice A (Ha 18446744073709551616 (Ka 18446744073709551616 xs*2^m)).length c) (Ha 18446744073709551616 (Ka 18446744073709551616 xs*2^m)).length (nc (Ha 18446744073709551616 (Ka 18446744073709551616 xs*2^m)))/\Below w.heap.size w w':=by
 have hl:=hx.1;rw[Ma] at hl;have hh:=Hp.start w;have hs1:((m:Int) % 64).toNat=m % 64:=Z';refine da (N:=55) (l:=[.slice A n c,.int .i64 (m:Int)]) func288 rfl rfl (by simp) ?_;refine fa ?_;refine Me (n:=n+m/64+1) hh rfl rfl Z' Z' lb.out ya.out rfl Z' Z' U' ?_;intro b15 w15 hh;refine fa ?_;rw[zj] at hh;refine Ba [6,7,8,18,19,20,21,22,23,24,25,26,27,28,29,30,31,32,33,34,35,36,37,38,39,40,41,42,43,44,45,46,47,48,49,50,51,52] 18 (λv w'=>∃i:Nat,i<=n/\v=.int .i64 i/\Hp w [.row (some ⟨b15,0,none⟩) (n+m/64+1) (n+m/64+1) 223 1 (nc (Ib 18446744073709551616 (n+m/64+1) (Ka 18446744073709551616 (xs.take i)*2^m)))] w') (λv _=>n-(intOf v).toNat) ?_ ?_
 .exact⟨0,D' _,rfl,by rw[K8,Ka,X6,Nt];exact hh⟩
 clear hh;rintro ρ' v w' ⟨i,hi,rfl,hh⟩;by_cases hlt:i<n
 .obtain⟨d,hdi⟩:=ea (l:=xs) (k:=i) Z';obtain⟨ad,rfl,hr⟩:=hx.at_ Z';have hd2:=Yd hdi;have hdw:=hd.at_ hdi;have hD:=Jf (hd.take i);rw[R_,C9 Z'] at hD;obtain⟨s1,s2,s3,s4,s5,s6⟩:=iZ (k:=n+m/64+1) (n:=m) (Ka 18446744073709551616 (xs.take i)) hD hdw Z';have hg:=Yd (Yh (B:=18446744073709551616) (n+m/64+1) (Ka 18446744073709551616 (xs.take i)*2^m) (i+m/64) Z');refine fa ?_;refine Tm ?_;refine fa ?_;refine Ca 8 [[(5,none)],[(8,none)],[(27,some 0),(28,some 1)],[(29,some 2)],[(7,none)],[(1,none)],[(32,some 5)],[(31,some 4),(33,some 6)]] [(7,34),(6,33),(5,32),(4,31),(3,30),(2,29),(1,28),(0,27)] hh mixed T' ?_;refine De ?_;refine cd ?_;refine Kt (i+m/64) ?_;refine Wa (i:=3) (λρ1 w1 hj hR=>Tg ya.out (show ρ1 29=Value.pointer _ from hR.1) (hj.hp.Zc (i:=0) rfl (by rw[I_];exact hg))) ?_;refine cd ?_;refine cd ?_;refine Wa (i:=6) (λρ1 w1 hj hR=>Ln (show ρ1 32=Value.int _ _ from hR.1) rfl Z' Z') ?_;refine Wa (i:=7) (λρ1 w1 hj hR=>nx (show ρ1 31=Value.int _ _ from hR.1) (show ρ1 33=Value.int _ _ from hR.2.1) Z') ?_;refine xa ?_
  intro f W hJ hV;have hb_6:=hJ.bl;obtain⟨v34,v33,v32,v31,v30,v29,v28,v27,_⟩:=hV;replace hh:=hJ.hp;refine Da (Na (aa v34 (aa v33 (aa v32 (aa v31 (aa v30 (aa v29 (aa v28 (aa v27 Ea))))))))) ?_;dsimp only[Bb];clear hJ;refine GF ?_;refine Nd (k:=i+m/64) lb.out ya.size rfl rfl Z' Z' U' ?_;refine YV ?_;intro ws hh;simp only[U_] at hh;rw[hs1,s2,BI s1,<-s2,I_,jc (by rw[Ma,Ja];omega),Vf,s3] at hh;by_cases h0:m % 64=0
  .refine fa ?_;rw[s6 h0,<-kg hdi] at hh;exact yx
  have hg2:=Yd (Yh (B:=18446744073709551616) (n+m/64+1) (Ka 18446744073709551616 (xs.take i)*2^m+18446744073709551616^(i+m/64)*(d*2^(m % 64) % 18446744073709551616)) (i+m/64+1) Z');rw[s4] at hg2;have hs2:(64-(m:Int) % 64).toNat=64-m % 64:=Z';have hd64:d/2^(64-(m:Int) % 64).toNat<18446744073709551616:=S9 (l8 _ _) hdw;have h0w:(0:Nat)<18446744073709551616:=Z';refine fa ?_;refine Ca 10 [[(5,none)],[(8,none)],[(41,some 1)],[(40,some 0),(42,some 2)],[(43,some 3)],[(7,none)],[(1,none)],[(46,some 6)],[(47,some 7)],[(45,some 5),(48,some 8)]] [(9,49),(8,48),(7,47),(6,46),(5,45),(4,44),(3,43),(2,42),(1,41),(0,40)] hh mixed T' ?_;refine De ?_;refine cd ?_;refine xt ?_;refine Kt (i+m/64+1) ?_;refine Wa (i:=4) (λρ1 w1 hj hR=>Tg ya.out (show ρ1 43=Value.pointer _ from hR.1) (hj.hp.Zc (i:=0) rfl (by rw[I_];exact hg2))) ?_;refine cd ?_;refine cd ?_;refine Wa (i:=7) (λρ1 w1 hj hR=>Ln (show ρ1 46=Value.int _ _ from hR.1) rfl Z' Z') ?_;refine Tu ?_
  refine Wa (i:=9) (λρ1 w1 hj hR=>IH (show ρ1 45=Value.int _ _ from hR.1) (show ρ1 48=Value.int _ _ from hR.2.1) Z') ?_;refine xa ?_;intro f W hJ hV;have hb_8:=hJ.bl;obtain⟨v49,v48,v47,v46,v45,v44,v43,v42,v41,v40,_⟩:=hV;replace hh:=hJ.hp;refine Da (Na (aa v49 (aa v48 (aa v47 (aa v46 (aa v45 (aa v44 (aa v43 (aa v42 (aa v41 (aa v40 Ea))))))))))) ?_;dsimp only[Bb];clear hJ;refine GF ?_;refine Nd (k:=i+m/64+1) lb.out ya.size rfl rfl Z' Z' U' ?_;refine YV ?_;intro ws hh;simp only[U_] at hh;rw[hs2,Nat.zero_or,I_,jc (by rw[Ma,Ja];omega),Vf,s5,<-kg hdi] at hh;refine fa ?_;exact yx
 refine fa ?_;rw[W_ Z'] at hh;refine Oa hh (mf _ _ _ (Ib 18446744073709551616 (n+m/64+1) (Ka 18446744073709551616 xs*2^m)) _ (hh.ra (i:=0) rfl) (j' _) Z') rfl ?_;intro w54 hh;refine fa ?_;have hbd:Ka 18446744073709551616 xs*2^m<18446744073709551616^(n+m/64+1):=(by have h1:=Jf hd;rw[show xs.length=n by omega] at h1;have h2:2^m<=18446744073709551616^(m/64+1):=(by exact mZ);rw[show n+m/64+1=n+(m/64+1) by omega,D_];exact T9 (n8 h1 (r_ Z')) (k_ _ h2));have hd:Xd (Ib 18446744073709551616 (n+m/64+1) (Ka 18446744073709551616 xs*2^m))=Ha 18446744073709551616 (Ka 18446744073709551616 xs*2^m):=(by exact LV);have h1:=(Hp.xK (xs:=Ib 18446744073709551616 (n+m/64+1) (Ka 18446744073709551616 xs*2^m)) hh (Ja _ _)).at_ (i:=0) rfl;exact pL
def Sl.IQ{xs:List Nat}(h:Sl w (some ad) n 1 (nc xs))(hk:k<n):Sl w (some (ad.add (k*1))) (n-k) 1 (nc (xs.drop k)):=by
 have hl:=h.1;rw[Ma] at hl;refine⟨by rw[Ma,M9];omega,λh0=>⟨_,rfl, ?_⟩⟩;obtain⟨ad',he,hr⟩:=h.2 Z';injection he with he
 subst he;rw[I_,TA];exact hr.drop k
def uO{s:Nat}(hs:s<64)(h0:0<s):(N/18446744073709551616^(j+1) % 18446744073709551616)*2^(64-s) % 18446744073709551616=N/18446744073709551616^(j+1) % 2^s*2^(64-s)/\(N/18446744073709551616^j % 18446744073709551616/2^s|||(N/18446744073709551616^(j+1) % 18446744073709551616)*2^(64-s) % 18446744073709551616)=N/2^(64*j+s) % 18446744073709551616:=by
 have hW:(18446744073709551616:Nat)=2^64:=by decide
 have e:(18446744073709551616:Nat)=2^s*2^(64-s):=by rw[<-D_,hW];congr 1;omega
 have h1:(N/18446744073709551616^(j+1) % 18446744073709551616)*2^(64-s) % 18446744073709551616=N/18446744073709551616^(j+1) % 2^s*2^(64-s):=(by generalize N/18446744073709551616^(j+1)=m;rw[e,Nat.mul_mod_mul_right,Nat.mod_mul_right_mod]);obtain⟨h2,h3⟩:=Gz N j s hs h0;exact⟨h1,by rw[h1,BI h2,h3]⟩
def Nu(A:Option Addr)(n c m:Nat)(xs:List Nat)(w:World)(hx:Sl w A n 1 (nc xs))(hd:Dg 18446744073709551616 xs)(hc:n<=c)(hn:n<=1000000000)(hm:m<=1000000000000):Calls prog 289 #[.slice A n c,.int .i64 (m:Int)] w λe w'=>∃A c,e=.returned (.slice A (Ha 18446744073709551616 (Ka 18446744073709551616 xs/2^m)).length c)/\w'.ownsRow w.heap.size 223 1 (.slice A (Ha 18446744073709551616 (Ka 18446744073709551616 xs/2^m)).length c) (Ha 18446744073709551616 (Ka 18446744073709551616 xs/2^m)).length (nc (Ha 18446744073709551616 (Ka 18446744073709551616 xs/2^m)))/\Below w.heap.size w w':=by
 have hl:=hx.1;rw[Ma] at hl;have hh:=Hp.start w;have hs1:((m:Int) % 64).toNat=m % 64:=Z';have hW:(18446744073709551616:Nat)=2^64:=by decide
 have hmm:2^m=18446744073709551616^(m/64)*2^(m % 64):=(by rw[hW,<-W9,<-D_];congr 1;omega);have hlt:=Jf hd;rw[show xs.length=n by omega] at hlt;by_cases hbig:n<=m/64
 .have h0:Ka 18446744073709551616 xs/2^m=0:=(by apply L9;refine T9 hlt (N_ (m_ U' hbig) ?_);rw[hmm];exact L5 _ (r_ Z'));refine da (N:=61) (l:=[.slice A n c,.int .i64 (m:Int)]) func289 rfl rfl (by simp) ?_;refine fa ?_;rw[h0,Yg Z'];exact⟨none,0,rfl,World.ownsRow_nil _ _ _ _,hh.below⟩
 obtain⟨ad,rfl,hr⟩:=hx.at_ Z';have hsd:=hx.IQ (k:=m/64) Z';have hget:∀j,j<n->xs[j]?=some (Ka 18446744073709551616 xs/18446744073709551616^j % 18446744073709551616):=λj hj=>(by obtain⟨d,hdj⟩:=ea (l:=xs) (k:=j) Z';rw[hdj,Fv hd hdj]);refine da (N:=61) (l:=[.slice (some ad) n c,.int .i64 (m:Int)]) func289 rfl rfl (by simp) ?_;refine fa ?_;refine rH (l:=m/64) lb.out ya.size rfl rfl Z' Z' Z' Z' U' ?_;refine qa (Gk _ _ _ 0 _ _ hsd Z' Z') ja.out rfl U' ?_;rintro e_ w_ ⟨b16,rfl,hown_,hb_⟩;refine⟨_,rfl, ?_⟩;replace hh:=hh.Aa (x:=.row _ _ _ _ _ _) hb_ hown_;rw[Nat.zero_max,f_,p6,o_] at hh;rw[Nat.zero_max];refine fa ?_;refine Ba [6,19,20,21,22,23,24,25,26,27,28,29,30,31,32,33,34,35,36,37,38,39,40,41,42,43,44,45,46,47,48,49,50,51,52,53,54,55,56,57,58] 19 (λv w'=>∃i:Nat,i<=n-m/64/\v=.int .i64 i/\Hp w [.row (some ⟨b16,0,none⟩) (n-m/64) (n-m/64) 223 1 (nc (Ib 18446744073709551616 i (Ka 18446744073709551616 xs/2^m)++xs.drop (m/64+i)))] w') (λv _=>(n-m/64)-(intOf v).toNat) ?_ ?_
 .exact⟨0,D' _,rfl,hh⟩
 clear hh;rintro ρ' v w' ⟨i,hi,rfl,hh⟩;by_cases hlt2:i<n-m/64
 .have hgi:=hget (m/64+i) Z';have hdr:xs.drop (m/64+i)=(Ka 18446744073709551616 xs/18446744073709551616^(m/64+i) % 18446744073709551616)::xs.drop (m/64+i+1):=(by rw[m8 Z'];congr 1;have:=X_.1 hgi;exact this.2);have hcell:(Ib 18446744073709551616 i (Ka 18446744073709551616 xs/2^m)++xs.drop (m/64+i))[i]?=some (Ka 18446744073709551616 xs/18446744073709551616^(m/64+i) % 18446744073709551616):=(by rw[I9 (by rw[Ja];omega),Ja,hdr];simp);have hg:=Yd hcell;have hset:∀y,(Ib 18446744073709551616 i (Ka 18446744073709551616 xs/2^m)++xs.drop (m/64+i)).set i y=Ib 18446744073709551616 i (Ka 18446744073709551616 xs/2^m)++y::xs.drop (m/64+i+1):=λy=>(by rw[hdr,q8 _ _ (by rw[Ja];omega),Ja,f_,U_]);have hll:(Ib 18446744073709551616 i (Ka 18446744073709551616 xs/2^m)++xs.drop (m/64+i)).length=n-m/64:=by rw[Y_,Ja,M9];omega
  have hac:∀y,Ib 18446744073709551616 i (Ka 18446744073709551616 xs/2^m)++y::xs.drop (m/64+i+1)=(Ib 18446744073709551616 i (Ka 18446744073709551616 xs/2^m)++[y])++xs.drop (m/64+(i+1)):=λy=>List.append_cons _ _ _;have hnew:Ib 18446744073709551616 (i+1) (Ka 18446744073709551616 xs/2^m)=Ib 18446744073709551616 i (Ka 18446744073709551616 xs/2^m)++[Ka 18446744073709551616 xs/2^(64*(m/64+i)+m % 64) % 18446744073709551616]:=(by rw[Yk,V8];congr 4;rw[hW,<-W9,<-D_];congr 1;omega);refine fa ?_;refine Aj ?_;refine fa ?_;refine nw rfl rfl Z' U' ?_;refine fa ?_;refine Ab hh (i:=0) (vs:=[_]) rfl rfl (Bc rfl) rfl ya.out rfl (by rw[Ma,hll];omega) rfl ?_;intro ws hh;simp only[U_] at hh;rw[hs1,I_,jc (by rw[Ma,hll];omega),Vf,hset] at hh;by_cases h0:m % 64=0
  .have e1:Ka 18446744073709551616 xs/18446744073709551616^(m/64+i) % 18446744073709551616/2^(m % 64)=Ka 18446744073709551616 xs/2^(64*(m/64+i)+m % 64) % 18446744073709551616:=(by rw[h0,Q6,O7,q9,W9,<-hW]);by_cases hl:i+1<n-m/64
   .refine fa ?_;rw[e1,hac,<-hnew] at hh;exact QM
   refine fa ?_;rw[e1,hac,<-hnew] at hh;exact QM
  by_cases hl:i+1<n-m/64
  .have hgj:=hget (m/64+i+1) Z';have hgj2:=Yd hgj;obtain⟨d1,d2⟩:=uO (N:=Ka 18446744073709551616 xs) (j:=m/64+i) (s:=m % 64) (B_ _ Z') Z';have hcell2:(Ib 18446744073709551616 i (Ka 18446744073709551616 xs/2^m)++(Ka 18446744073709551616 xs/18446744073709551616^(m/64+i) % 18446744073709551616/2^(m % 64))::xs.drop (m/64+i+1))[i]?=some (Ka 18446744073709551616 xs/18446744073709551616^(m/64+i) % 18446744073709551616/2^(m % 64)):=(by rw[I9 (by rw[Ja];omega),Ja];simp);have hg2:=Yd hcell2;have hset2:∀y z,(Ib 18446744073709551616 i (Ka 18446744073709551616 xs/2^m)++y::xs.drop (m/64+i+1)).set i z=Ib 18446744073709551616 i (Ka 18446744073709551616 xs/2^m)++z::xs.drop (m/64+i+1):=λy z=>(by rw[q8 _ _ (by rw[Ja];omega),Ja,f_,U_]);have hll2:∀y,(Ib 18446744073709551616 i (Ka 18446744073709551616 xs/2^m)++y::xs.drop (m/64+i+1)).length=n-m/64:=λy=>by rw[Y_,Ja,E_,M9];omega
   have hs2:(64-(m:Int) % 64).toNat=64-m % 64:=Z';have b1:Ka 18446744073709551616 xs/18446744073709551616^(m/64+i) % 18446744073709551616/2^(m % 64)<18446744073709551616:=S9 (l8 _ _) (B_ _ Z');have b2:Ka 18446744073709551616 xs/18446744073709551616^(m/64+i+1) % 18446744073709551616*2^(64-(m:Int) % 64).toNat % 18446744073709551616<18446744073709551616:=B_ _ Z';refine fa ?_;refine Ca 16 [[(5,none)],[(6,none)],[(40,some 0),(41,some 1)],[(42,some 2)],[(0,none)],[(1,none)],[(45,some 5)],[(6,none)],[(46,some 6),(47,some 7)],[(48,some 8)],[(44,some 4),(49,some 9)],[(50,some 10)],[(1,none)],[(52,some 12)],[(53,some 13)],[(51,some 11),(54,some 14)]] [(15,55),(14,54),(13,53),(12,52),(11,51),(10,50),(9,49),(8,48),(7,47),(6,46),(5,45),(4,44),(3,43),(2,42),(1,41),(0,40)] hh mixed T' ?_;refine De ?_;refine cd ?_;refine Kt (i) ?_;refine Wa (i:=3) (λρ1 w1 hj hR=>Tg ya.out (show ρ1 42=Value.pointer _ from hR.1) (hj.hp.Zc (i:=0) rfl (by rw[I_];exact hg2))) ?_;refine De ?_;refine cd ?_
   refine Wa (i:=6) (λρ1 w1 hj hR=>Ps (show ρ1 45=Value.int _ _ from hR.1) rfl Z' Z' Z') ?_;refine cd ?_;refine xt ?_;refine xt ?_;refine jj (m/64+i+1) ?_;refine Ro (λ_ hj=>(hr.ext hj.hp.below).aw hgj2) ?_;refine cd ?_;refine Wa (i:=13) (λρ1 w1 hj hR=>Ln (show ρ1 52=Value.int _ _ from hR.1) rfl Z' Z') ?_;refine Tu ?_;refine Wa (i:=15) (λρ1 w1 hj hR=>nx (show ρ1 51=Value.int _ _ from hR.1) (show ρ1 54=Value.int _ _ from hR.2.1) Z') ?_;refine xa ?_;intro f W hJ hV;have hb_9:=hJ.bl;obtain⟨v55,v54,v53,v52,v51,v50,v49,v48,v47,v46,v45,v44,v43,v42,v41,v40,_⟩:=hV;replace hh:=hJ.hp;refine Da (Na (aa v55 (aa v54 (aa v53 (aa v52 (aa v51 (aa v50 (aa v49 (aa v48 (aa v47 (aa v46 (aa v45 (aa v44 (aa v43 (aa v42 (aa v41 (aa v40 Ea))))))))))))))))) ?_;dsimp only[Bb];clear hJ;refine GF ?_;refine fa ?_;refine Ab hh (i:=0) (vs:=[_]) rfl rfl (Bc rfl) rfl ya.out rfl (by rw[Ma,hll2];omega) rfl ?_;intro ws hh;simp only[U_] at hh;rw[hs2,d2,I_,jc (by rw[Ma,hll2];omega),Vf,hset2,hac,<-hnew] at hh;refine fa ?_;exact QM
  have e1:Ka 18446744073709551616 xs/18446744073709551616^(m/64+i) % 18446744073709551616/2^(m % 64)=Ka 18446744073709551616 xs/2^(64*(m/64+i)+m % 64) % 18446744073709551616:=(by obtain⟨h2,h3⟩:=Gz (Ka 18446744073709551616 xs) (m/64+i) (m % 64) (B_ _ Z') Z';have h4:Ka 18446744073709551616 xs/18446744073709551616^(m/64+i+1)=0:=L9 (T9 hlt (m_ U' Z'));rw[h4] at h3;simpa using h3);refine fa ?_;rw[e1,hac,<-hnew] at hh;exact QM
 obtain rfl:i=n-m/64:=Z';rw[F5 Z',o_] at hh;refine fa ?_;refine Oa hh (mf _ _ _ (Ib 18446744073709551616 (n-m/64) (Ka 18446744073709551616 xs/2^m)) _ (hh.ra (i:=0) rfl) (j' _) Z') rfl ?_;intro w60 hh;refine fa ?_;have hbd:Ka 18446744073709551616 xs/2^m<18446744073709551616^(n-m/64):=(by rw[D9 (r_ Z'),hmm,<-J9,<-D_,show n-m/64+m/64=n by omega];exact T9 hlt (L5 _ (r_ Z')));have hd:Xd (Ib 18446744073709551616 (n-m/64) (Ka 18446744073709551616 xs/2^m))=Ha 18446744073709551616 (Ka 18446744073709551616 xs/2^m):=(by exact LV);have h1:=(Hp.xK (xs:=Ib 18446744073709551616 (n-m/64) (Ka 18446744073709551616 xs/2^m)) hh (Ja _ _)).at_ (i:=0) rfl;exact pL
def bN(a:ByteArray):Nat:=bn a.data.toList
def sN(n:Nat):ByteArray:=str (sb n)
def Ue(n:Nat):bN (sN n)=n:=by rw[bN,sN,Oc,aev]
def lh(n:Nat):(sN n).size=(Sa n+7)/8:=by rw[sN,yg,WN,OI]
def IB{a:Nat}(h:sN a=sN b):a=b:=by rw[<-Ue a,h,Ue]
def Vh:sN 0=ByteArray.mk #[]:=by rw[sN,QY];rfl
def wA(a:ByteArray):bN a<256^a.size:=by rw[Tc];exact aaC _
def Mf(a:ByteArray):Sa (bN a)<=8*a.size:=by
 apply Dc;have:=wA a;rwa[show(256:Nat)=2^8 from rfl,<-W9] at this
def CO(h:n<256^k):(Ha 18446744073709551616 n).length<=(k+7)/8:=by
 apply yf Z';refine T9 h ?_;rw[show(256:Nat)=2^8 from rfl,show(18446744073709551616:Nat)=2^64 from rfl,<-W9,<-W9];exact m_ Z' Z'
def pf(a:ByteArray):(Ha 18446744073709551616 (bN a)).length<=(a.size+7)/8:=CO (wA a)
def Uf(n:Nat):Dg 18446744073709551616 (Ha 18446744073709551616 n):=(ae Z' n).1
def ke(n:Nat):Ka 18446744073709551616 (Ha 18446744073709551616 n)=n:=we Z' n
def vh(a:ByteArray)(w:World)(ha:a.size<=1000000000):Calls prog 251 #[.string a] w λe w'=>∃b c,e=.returned (.slice (some ⟨b,0,none⟩) (Ha 18446744073709551616 (bN a)).length c)/\w'.ownsRow w.heap.size 223 1 (.slice (some ⟨b,0,none⟩) (Ha 18446744073709551616 (bN a)).length c) (Ha 18446744073709551616 (bN a)).length (nc (Ha 18446744073709551616 (bN a)))/\Below w.heap.size w w':=AO a w Z'
def Mu(n:Nat)(w:World)(hn:n<18446744073709551616):Calls prog 203 #[.int .u64 (n:Int)] w λe w'=>e=.returned (.string (sN n))/\Below w.heap.size w w':=by
 have hh:=Hp.start w;refine da (N:=6) (l:=[.int .u64 (n:Int)]) func203 rfl rfl (by simp) ?_;refine fa ?_;refine fB ?_;intro b4 w4 hh;refine Oa hh (Te _ _ _ [n] _ (hh.ra (i:=0) rfl) (Dg.cons hn Dg.nil) (j' _) Z') rfl ?_;intro w5 hh;refine fa ?_;refine⟨?_,hh.below⟩;rw[sN];simp[Ka]
def PD(a b:ByteArray)(w:World)(ha:a.size<=1000000000)(hb:b.size<=1000000000):Calls prog 293 #[.string a,.string b] w λe w'=>e=.returned (.int .i64 (Qh (bN a) (bN b)))/\Below w.heap.size w w':=by
 have hh:=Hp.start w;have h1:=pf a;have h2:=pf b;refine da (N:=10) (l:=[.string a,.string b]) func293 rfl rfl (by simp) ?_;refine fa ?_;refine Ju ?_;rintro e_ w6 ⟨A6,c6,rfl,hown_,hb_⟩;refine⟨_,rfl, ?_⟩;replace hh:=hh.Aa (x:=.row _ _ _ _ _ _) hb_ hown_;refine mS ?_;refine HM ?_;rintro e_ w8 ⟨A8,c8,rfl,hown_,hb_⟩;refine⟨_,rfl, ?_⟩;replace hh:=hh.Aa (x:=.row _ _ _ _ _ _) hb_ hown_;refine TF ?_;intro w9 hh;rw[ke,ke];refine fa ?_;exact⟨rfl,hh.below⟩
def Nl(a:ByteArray)(w:World)(ha:a.size<=1000000000):Calls prog 255 #[.string a] w λe w'=>e=.returned (.int .i64 (Sa (bN a)))/\Below w.heap.size w w':=by
 have hh:=Hp.start w;have h1:=pf a;refine da (N:=6) (l:=[.string a]) func255 rfl rfl (by simp) ?_;refine fa ?_;refine Ju ?_;rintro e_ w4 ⟨A4,c4,rfl,hown_,hb_⟩;refine⟨_,rfl, ?_⟩;replace hh:=hh.Aa (x:=.row _ _ _ _ _ _) hb_ hown_;refine Oa hh (ux _ _ _ (Ha 18446744073709551616 (bN a)) _ (hh.ra (i:=0) rfl) (Uf _) (hh.Ve (i:=0) rfl) Z') rfl ?_;intro w5 hh;rw[ke];refine fa ?_;exact⟨rfl,hh.below⟩
def Xg(n m:Nat):Sa (n*2^m)<=Sa n+m:=by
 apply Dc;rw[D_];exact n8 (Tb n) (r_ Z')
def Ox(n:Nat):(Ha 18446744073709551616 n).length<=(Sa n+63)/64:=by
 apply yf Z';refine T9 (Tb n) ?_;exact mZ
def KB(a:ByteArray)(m:Nat)(w:World)(ha:a.size<=1000000000)(hm:m<=10000000000):Calls prog 253 #[.string a,.int .i64 (m:Int)] w λe w'=>e=.returned (.string (sN (bN a*2^m)))/\Below w.heap.size w w':=by
 have hh:=Hp.start w;have h1:=pf a;have h2:=Ox (bN a*2^m);have h3:=Xg (bN a) m;have h4:=Mf a;have e1:(if(0:Int)>(m:Int) then 0 else(m:Int))=m:=L' Z';refine da (N:=11) (l:=[.string a,.int .i64 (m:Int)]) func253 rfl rfl (by simp) ?_;refine fa ?_;refine Ju ?_;rintro e_ w6 ⟨A6,c6,rfl,hown_,hb_⟩;refine⟨_,rfl, ?_⟩;replace hh:=hh.Aa (x:=.row _ _ _ _ _ _) hb_ hown_;refine fa ?_;rw[e1];refine qa (Ts _ _ _ m (Ha 18446744073709551616 (bN a)) _ (hh.ra (i:=0) rfl) (Uf _) Z' hm) ja.out rfl U' ?_;rintro e_ w9 ⟨A9,c9,rfl,hown_,hb_⟩;refine⟨_,rfl, ?_⟩;replace hh:=hh.Aa (x:=.row _ _ _ _ _ _) hb_ hown_;rw[ke] at*;refine Oa hh (Te _ _ _ (Ha 18446744073709551616 (bN a*2^m)) _ (hh.ra (i:=0) rfl) (Uf _) (hh.Ve (i:=0) rfl) Z') rfl ?_;intro w10 hh;rw[ke];refine fa ?_;exact⟨rfl,hh.below⟩
def yr(n m:Nat):Sa (n/2^m)<=Sa n:=by
 apply Dc;exact S9 (l8 _ _) (Tb n)
def GD(a:ByteArray)(m:Nat)(w:World)(ha:a.size<=1000000000)(hm:m<=1000000000000):Calls prog 254 #[.string a,.int .i64 (m:Int)] w λe w'=>e=.returned (.string (sN (bN a/2^m)))/\Below w.heap.size w w':=by
 have hh:=Hp.start w;have h1:=pf a;have h2:=Ox (bN a/2^m);have h3:=yr (bN a) m;have h4:=Mf a;have e1:(if(0:Int)>(m:Int) then 0 else(m:Int))=m:=L' Z';refine da (N:=11) (l:=[.string a,.int .i64 (m:Int)]) func254 rfl rfl (by simp) ?_;refine fa ?_;refine Ju ?_;rintro e_ w6 ⟨A6,c6,rfl,hown_,hb_⟩;refine⟨_,rfl, ?_⟩;replace hh:=hh.Aa (x:=.row _ _ _ _ _ _) hb_ hown_;refine fa ?_;rw[e1];refine qa (Nu _ _ _ m (Ha 18446744073709551616 (bN a)) _ (hh.ra (i:=0) rfl) (Uf _) (hh.Ve (i:=0) rfl) Z' hm) ja.out rfl U' ?_;rintro e_ w9 ⟨A9,c9,rfl,hown_,hb_⟩;refine⟨_,rfl, ?_⟩;replace hh:=hh.Aa (x:=.row _ _ _ _ _ _) hb_ hown_;rw[ke] at*;refine Oa hh (Te _ _ _ (Ha 18446744073709551616 (bN a/2^m)) _ (hh.ra (i:=0) rfl) (Uf _) (hh.Ve (i:=0) rfl) Z') rfl ?_;intro w10 hh;rw[ke];refine fa ?_;exact⟨rfl,hh.below⟩
def SX{x y:Nat}(h:y<=x):SG 18446744073709551616 (Ha 18446744073709551616 x) (Ha 18446744073709551616 y) 0=0/\Ka 18446744073709551616 (Yp 18446744073709551616 (Ha 18446744073709551616 x) (Ha 18446744073709551616 y) 0)=x-y:=by
 have:=FF (B:=18446744073709551616) Z' (Ha 18446744073709551616 x) (Ha 18446744073709551616 y) 0 (Uf _) (Uf _) Z' (by rw[ke,ke];omega);rw[ke,ke] at this;exact⟨this.2,Z'⟩
def Lq(a b:ByteArray)(w:World)(ha:a.size<=1000000000)(hb:b.size<=1000000000):Calls prog 258 #[.string a,.string b] w λe w'=>e=.returned (.tuple #[.string (sN (bN a-bN b)),.bool (decide (bN b<=bN a))])/\Below w.heap.size w w':=by
 have hh:=Hp.start w;have h1:=pf a;have h2:=pf b;by_cases hlt:bN a<bN b
 .refine da (N:=21) (l:=[.string a,.string b]) func258 rfl rfl (by simp) ?_;refine fa ?_;refine Ju ?_;rintro e_ w9 ⟨A9,c9,rfl,hown_,hb_⟩;refine⟨_,rfl, ?_⟩;replace hh:=hh.Aa (x:=.row _ _ _ _ _ _) hb_ hown_;refine mS ?_;refine HM ?_;rintro e_ w11 ⟨A11,c11,rfl,hown_,hb_⟩;refine⟨_,rfl, ?_⟩;replace hh:=hh.Aa (x:=.row _ _ _ _ _ _) hb_ hown_;refine fa ?_;refine TF ?_;intro w14 hh;rw[ke,ke,Uj hlt];exact aaX
 obtain⟨s1,s2⟩:=SX (k6 hlt);have hc:¬Qh (bN a) (bN b)<0:=by unfold Qh;split<;>(try split)<;>omega
 refine da (N:=21) (l:=[.string a,.string b]) func258 rfl rfl (by simp) ?_;refine fa ?_;refine Ju ?_;rintro e_ w9 ⟨A9,c9,rfl,hown_,hb_⟩;refine⟨_,rfl, ?_⟩;replace hh:=hh.Aa (x:=.row _ _ _ _ _ _) hb_ hown_;refine mS ?_;refine HM ?_;rintro e_ w11 ⟨A11,c11,rfl,hown_,hb_⟩;refine⟨_,rfl, ?_⟩;replace hh:=hh.Aa (x:=.row _ _ _ _ _ _) hb_ hown_;refine fa ?_;refine TF ?_;intro w14 hh;rw[ke,ke];refine fa ?_;replace hh:=hh.front 1 rfl;rw[<-o_ (Ha 18446744073709551616 (bN a)),<-E' (Ha 18446744073709551616 (bN a))] at hh;have hll:=(hh.vW (i:=0) rfl);rw[E',o_] at hll;refine qa (Hn [] (Ha 18446744073709551616 (bN a)) [] (Ha 18446744073709551616 (bN b)) _ hh (λw1 cs h=>h.ra (i:=1) rfl) (Uf _) (Uf _) Z' Z' s1) ja.out rfl U' ?_;rintro e_ w_ ⟨rfl,hh⟩;refine⟨_,rfl, ?_⟩;simp only[E',o_] at hh;refine fa ?_;refine Oa hh (Te _ _ _ (Yp 18446744073709551616 (Ha 18446744073709551616 (bN a)) (Ha 18446744073709551616 (bN b)) 0) _ (hh.ra (i:=0) rfl) (wM Z' _ _ _) (hh.Ve (i:=0) rfl) Z') rfl ?_;intro w20 hh;rw[s2];refine fa ?_;rw[M_ Z'];exact⟨rfl,hh.below⟩
def HB(a b:ByteArray)(w:World)(ha:a.size<=1000000000)(hb:b.size<=1000000000):Calls prog 260 #[.string a,.string b] w λe w'=>e=.returned (.string (sN (bN a*bN b)))/\Below w.heap.size w w':=by
 have hh:=Hp.start w;have h1:=pf a;have h2:=pf b;refine da (N:=37) (l:=[.string a,.string b]) func260 rfl rfl (by simp) ?_;refine fa ?_;refine Ju ?_;rintro e_ w11 ⟨A11,c11,rfl,hown_,hb_⟩;refine⟨_,rfl, ?_⟩;replace hh:=hh.Aa (x:=.row _ _ _ _ _ _) hb_ hown_;refine mS ?_;refine HM ?_;rintro e_ w13 ⟨A13,c13,rfl,hown_,hb_⟩;refine⟨_,rfl, ?_⟩;replace hh:=hh.Aa (x:=.row _ _ _ _ _ _) hb_ hown_;have hxd:=Uf (bN a);have hyd:=Uf (bN b);have hX:=ke (bN a);have hY:=ke (bN b);generalize Ha 18446744073709551616 (bN a)=xs at*;generalize Ha 18446744073709551616 (bN b)=ys at*;refine fa ?_;refine Me (n:=xs.length+ys.length+1) hh rfl rfl Z' Z' lb.out ya.out rfl Z' Z' U' ?_;intro b20 w20 hh;refine fa ?_;rw[zj] at hh;refine Ba [8,9,23,24,25,26,27,28,29,30,31,32,33,34] 23 (λv w'=>∃(i:Nat)(L:List Nat),i<=xs.length/\v=.int .i64 i/\Dg 18446744073709551616 L/\L.length=xs.length+ys.length+1/\Ka 18446744073709551616 L=Ka 18446744073709551616 (xs.take i)*Ka 18446744073709551616 ys/\Hp w [.row (some ⟨b20,0,none⟩) (xs.length+ys.length+1) (xs.length+ys.length+1) 223 1 (nc L),.row (some ⟨A13,0,none⟩) ys.length c13 223 1 (nc ys),.row (some ⟨A11,0,none⟩) xs.length c11 223 1 (nc xs)] w') (λv _=>xs.length-(intOf v).toNat) ?_ ?_
 .exact⟨0,_,D' _,rfl,Dg.ie Z' _,by simp,by simp[Ai,Ka],hh⟩
 clear hh;rintro ρ' v w' ⟨i,L,hi,rfl,hLd,hLl,hLv,hh⟩;by_cases hlt:i<xs.length
 .obtain⟨m,hm⟩:=ea (l:=xs) (k:=i) Z';have hm2:=Yd hm;have hmw:=hxd.at_ hm;have hpl:(L.take i).length=i:=by rw[R_];omega
  have hsl:(L.drop i).length=xs.length+ys.length+1-i:=by rw[M9];omega
  refine fa ?_;refine ub ya.out rfl (hh.Zc (i:=2) rfl (by first|assumption|(simp only[I_];assumption))) U' ?_;refine fa ?_;refine ZH (l:=i) lb.out ya.size rfl rfl Z' Z' Z' Z' U' ?_;refine fa ?_;have hc:=Km (c':=xs.length+ys.length+1-i) (ny:=ys.length) (cy:=c13) (m:=m) (Y:=some ⟨A13,0,none⟩) (L.take i) (L.drop i) [] ys _ (by rw[o_,P9];exact hh) (λw1 cs h=>h.ra (i:=1) rfl) (hLd.drop i) hyd hmw Z' Z';rw[hpl,hsl,o_] at hc;rw[C_,I_];refine qa (hc) ja.out rfl U' ?_;rintro e_ w_ ⟨rfl,hh⟩;refine⟨_,rfl, ?_⟩;have hlt1:=Jf (hxd.take (i+1));have hlt2:=Jf hyd;rw[R_,C9 Z'] at hlt1;have hsn:=kg (B:=18446744073709551616) hm;have hsplit:=jg (B:=18446744073709551616) L i Z';have hnew:18446744073709551616^i*(Ka 18446744073709551616 (L.drop i)+Ka 18446744073709551616 ys*m+0)+Ka 18446744073709551616 (L.take i)=Ka 18446744073709551616 (xs.take (i+1))*Ka 18446744073709551616 ys:=(by rw[hsn,T7,<-hLv,hsplit,q9,X9,J9,G_ m];omega);have hbd:Ka 18446744073709551616 (L.drop i)+Ka 18446744073709551616 ys*m+0<18446744073709551616^(L.drop i).length:=(by refine Nat.lt_of_mul_lt_mul_left (a:=18446744073709551616^i) ?_;rw[<-D_,hsl];refine S9 (Nat.le_add_right _ (Ka 18446744073709551616 (L.take i))) ?_;rw[hnew];refine T9 (R5 hlt1 hlt2) ?_;rw[<-D_];exact m_ U' Z');have hdp:=Ns (B:=18446744073709551616) Z' _ _ _ _ hbd;refine fa ?_;refine⟨⟨i+1,L.take i++Pg 18446744073709551616 (L.drop i) ys m 0,Z',rfl,(hLd.take i).append (wy Z' _ _ _ _),by rw[Y_,Rl,hpl,hsl];omega, ?_,hh⟩,by show xs.length-(i+1)<xs.length-i;omega, ?_⟩
  .rw[Hc,hdp,hpl,o8];exact hnew
  exact P'
 obtain rfl:i=xs.length:=Z';rw[z6,hX,hY] at hLv;refine fa ?_;refine Oa hh (Te _ _ _ L _ (hh.ra (i:=0) rfl) hLd (j' _) Z') rfl ?_;intro w36 hh;rw[hLv];refine fa ?_;exact⟨rfl,hh.below⟩
def AW{d r:Nat}(hd:d≠0)(hdw:d<18446744073709551616)(hn:n=18446744073709551616^k*(d+18446744073709551616*r)):tz n=64*k+tz d:=by
 obtain⟨m,hm⟩:=Gv hd;have ht:tz d<64:=Qz hd (by simpa using hdw);have hW:(18446744073709551616:Nat)=2^64:=by decide
 generalize tz d=t at*;have e:n=2^(64*k+t)*(2*(m+2^(63-t)*r)+1):=by
  rw[hn,D_,W9,<-hW,J9];congr 1;have h1:18446744073709551616=2^t*(2*2^(63-t)):=by rw[hW,<-Nat.pow_succ',<-D_];congr 1;omega
  have h2:18446744073709551616*r=2^t*(2*2^(63-t)*r):=by rw[<-J9,<-h1]
  rw[h2]
  conv=>lhs;rw[hm]
  rw[<-X9];congr 1;rw[X9,J9];omega
 rw[e,ZK]
def Mj(a:ByteArray)(w:World)(ha:a.size<=1000000000)(hT:Sc w):Calls prog 197 #[.string a] w λe w'=>e=.returned (.int .i64 (tz (bN a)))/\Below w.heap.size w w':=by
 have hh:=Hp.start w;have h1:=pf a;refine da (N:=21) (l:=[.string a]) func197 rfl rfl (by simp) ?_;refine fa ?_;refine Ju ?_;rintro e_ w6 ⟨A6,c6,rfl,hown_,hb_⟩;refine⟨_,rfl, ?_⟩;replace hh:=hh.Aa (x:=.row _ _ _ _ _ _) hb_ hown_;have hxd:=Uf (bN a);have hX:=ke (bN a);generalize Ha 18446744073709551616 (bN a)=xs at*;refine fa ?_;refine Ba [2,3,4,8,9,10,11,12,13,14,15,16,17,18,19,20] 8 (λv w'=>∃(i:Nat),i<=xs.length/\v=.int .i64 i/\Ka 18446744073709551616 (xs.take i)=0/\Hp w [.row (some ⟨A6,0,none⟩) xs.length c6 223 1 (nc xs)] w') (λv _=>xs.length-(intOf v).toNat) ?_ ?_
 .exact⟨0,D' _,rfl,rfl,hh⟩
 clear hh;rintro ρ' v w' ⟨i,hi,rfl,hz,hh⟩;by_cases hlt:i<xs.length
 .obtain⟨d,hm⟩:=ea (l:=xs) (k:=i) Z';have hm2:=Yd hm;have hmw:=hxd.at_ hm;by_cases h0:d=0
  .subst h0;refine fa ?_;refine Aj ?_;refine fa ?_;refine⟨⟨i+1,Z',rfl,by rw[kg hm,hz];simp,hh⟩,by show xs.length-(i+1)<xs.length-i;omega, ?_⟩;exact Rc
  have htz:tz (bN a)=64*i+tz d:=(by have h3:=jg (B:=18446744073709551616) xs i Z';have h4:=(X_.1 hm);rw[hz,m8 hlt,h4.2,Ka,hX,C_] at h3;exact AW h0 hmw h3);have ht:tz d<64:=Qz h0 (by simpa using hmw);refine fa ?_;refine Aj ?_;refine fa ?_;refine Oa hh (FH _ _ hmw h0 (hT.hp hh)) rfl ?_;intro w18 hh;refine fa ?_;refine⟨?_,hh.below⟩;congr 2;omega
 refine fa ?_;rw[W_ Z',hX] at hz;rw[hz];exact⟨rfl,hh.below⟩
def CY{x y:Nat}(hx:x<18446744073709551616^k)(hy:y<18446744073709551616^k):Ka 18446744073709551616 (Pg 18446744073709551616 (Ha 18446744073709551616 x++List.replicate (k+1-(Ha 18446744073709551616 x).length) 0) (Ha 18446744073709551616 y) 1 0)=x+y:=by
 have hl:=yf (B:=18446744073709551616) Z' hx;have h1:Ka 18446744073709551616 (Ha 18446744073709551616 x++List.replicate (k+1-(Ha 18446744073709551616 x).length) 0)=x:=by rw[Hc,Ai,ke];simp
 have h2:(Ha 18446744073709551616 x++List.replicate (k+1-(Ha 18446744073709551616 x).length) 0).length=k+1:=by rw[Y_,H9];omega
 rw[Ns Z',h1,ke]
 .omega
 rw[h1,h2,ke,i_];have:0<18446744073709551616^k:=r_ U';omega
def nt(l:List Nat)(x:Nat):(l++[x]).sum=l.sum+x:=by simp
def LD(L:Option Addr)(n c:Nat)(ss:List ByteArray)(w:World)(hS:Sl w L n 1 (qF ss))(hn:n<=1000000)(hs:∀s∈ss,s.size<=1000000000):Calls prog 256 #[.slice L n c] w λe w'=>e=.returned (.string (sN (ss.map bN).sum))/\Below w.heap.size w w':=by
 have hsl:ss.length=n:=by have:=hS.1;rw[eu] at this;omega
 have hh:=Hp.start w;refine da (N:=31) (l:=[.slice L n c]) func256 rfl rfl (by simp) ?_;refine fa ?_;replace hh:=hh.Lb 223 1;refine Ra [3,5,6,9,10,11,12,13,14,15,16,17,18,19,20,21,22,23,24,25,26,27,28] 3 9 (λv j w'=>∃(i:Nat)(A:Option Addr)(c' T:Nat),i<=n/\j=.int .i64 i/\T=((ss.take i).map bN).sum/\v=.slice A (Ha 18446744073709551616 T).length c'/\(Ha 18446744073709551616 T).length<=125000001+i/\Hp w [.row A (Ha 18446744073709551616 T).length c' 223 1 (nc (Ha 18446744073709551616 T))] w') (λ_ j _=>n-(intOf j).toNat) ?_ ?_
 .exact⟨0,none,0,0,D' _,rfl,rfl,by rw[Yg Z'];rfl,by rw[Yg Z'];simp,by rw[Yg Z'];exact hh⟩
 clear hh;rintro ρ' v j w' ⟨i,A,c',T,hi,rfl,hT,rfl,hTl,hh⟩;by_cases hlt:i<n
 .obtain⟨s,hsi⟩:=ea (l:=ss) (k:=i) Z';obtain⟨ad,rfl,hr⟩:=hS.at_ Z';have hs2:=CM hsi;have hsz:=hs s (G' hsi);have hlx:=pf s;have hT2:((ss.take (i+1)).map bN).sum=T+bN s:=by rw[oa hsi,n_,J7,nt,hT]
  have e1:(if((Ha 18446744073709551616 (bN s)).length:Int)>((Ha 18446744073709551616 T).length:Int) then((Ha 18446744073709551616 (bN s)).length:Int) else((Ha 18446744073709551616 T).length:Int))+1=((max (Ha 18446744073709551616 T).length (Ha 18446744073709551616 (bN s)).length+1:Nat):Int):=by split<;>omega
  have hb1:T<18446744073709551616^max (Ha 18446744073709551616 T).length (Ha 18446744073709551616 (bN s)).length:=T9 (Ll Z' T) (m_ U' (Nat.le_max_left _ _));have hb2:bN s<18446744073709551616^max (Ha 18446744073709551616 T).length (Ha 18446744073709551616 (bN s)).length:=T9 (Ll Z' (bN s)) (m_ U' (Nat.le_max_right _ _));have hadd:=CY hb1 hb2;refine fa ?_;refine Tm ?_;refine fa ?_;refine qa (vh s _ hsz) ja.out rfl U' ?_;rintro e_ w14 ⟨A14,c14,rfl,hown_,hb_⟩;refine⟨_,rfl, ?_⟩;replace hh:=hh.Aa (x:=.row _ _ _ _ _ _) hb_ hown_;refine fa ?_;rw[e1];generalize hM:max (Ha 18446744073709551616 T).length (Ha 18446744073709551616 (bN s)).length=M at*;refine qa (Gk _ _ _ (M+1) _ _ (hh.ra (i:=1) rfl) Z' Z') ja.out rfl U' ?_;rintro e_ w_ ⟨b22,rfl,hown_,hb_⟩;refine⟨_,rfl, ?_⟩;replace hh:=hh.Aa (x:=.row _ _ _ _ _ _) hb_ hown_;have e2:max (M+1) (Ha 18446744073709551616 T).length=M+1:=Z';rw[e2] at hh;rw[e2];refine fa ?_
  have hc:=qJ (c':=M+1) (ny:=(Ha 18446744073709551616 (bN s)).length) (cy:=c14) (Y:=some ⟨A14,0,none⟩) [] (Ha 18446744073709551616 T++List.replicate (M+1-(Ha 18446744073709551616 T).length) 0) [] (Ha 18446744073709551616 (bN s)) _ (by rw[o_,E'];exact hh) (λw1 cs h=>h.ra (i:=1) rfl) ((Uf _).append (Dg.ie Z' _)) (Uf _) (by rw[Y_,H9];omega) Z';have e3:(Ha 18446744073709551616 T++List.replicate (M+1-(Ha 18446744073709551616 T).length) 0).length=M+1:=by rw[Y_,H9];omega
  rw[e3,o_,E'] at hc;refine qa (hc) ja.out rfl U' ?_;rintro e_ w_ ⟨rfl,hh⟩;refine⟨_,rfl, ?_⟩;have hpl:(Pg 18446744073709551616 (Ha 18446744073709551616 T++List.replicate (M+1-(Ha 18446744073709551616 T).length) 0) (Ha 18446744073709551616 (bN s)) 1 0).length=M+1:=by rw[Rl,e3]
  have hpd:=wy (B:=18446744073709551616) Z' (Ha 18446744073709551616 T++List.replicate (M+1-(Ha 18446744073709551616 T).length) 0) (Ha 18446744073709551616 (bN s)) 1 0;generalize Pg 18446744073709551616 (Ha 18446744073709551616 T++List.replicate (M+1-(Ha 18446744073709551616 T).length) 0) (Ha 18446744073709551616 (bN s)) 1 0=Z at*;have hcz:Xd Z=Ha 18446744073709551616 (T+bN s):=by rw[Lh Z' hpd,hadd]
  have hcl:=ue Z;refine fa ?_;refine Oa hh (mf _ _ _ Z _ (hh.ra (i:=0) rfl) (j' _) Z') rfl ?_;intro w27 hh;replace hh:=(hh.xK hpl).sub (P5 [_] _);rw[hcz] at*;refine fa ?_;refine⟨⟨i+1,_,_,T+bN s,Z',rfl,hT2.symm,rfl,Z',hh⟩,by show n-(i+1)<n-i;omega, ?_⟩;exact Rc
 refine fa ?_;refine Oa hh (Te _ _ _ (Ha 18446744073709551616 T) _ (hh.ra (i:=0) rfl) (Uf _) (hh.Ve (i:=0) rfl) Z') rfl ?_;intro w30 hh;rw[ke];refine fa ?_;rw[W_ Z'] at hT;rw[hT];exact⟨rfl,hh.below⟩
def SI(s:ByteArray)(l h:Nat):s.extract l h=str ((s.data.toList.take h).drop l):=by
 apply Cw;rw[Oc];simp[ByteArray.extract,ByteArray.copySlice,List.drop_take]
def acE:Value->Nat
 |.string t=>t.size
 |_=>0
def Ew(s:ByteArray)(w:World):Calls prog 312 #[.string s,.int .u8 ((0:UInt8).toNat:Int)] w λe w'=>e=.returned (.string (sN (bN s)))/\Below w.heap.size w w':=by
 have hh:=Hp.start w;refine da (N:=17) (l:=[.string s,.int .u8 ((0:UInt8).toNat:Int)]) func312 rfl rfl (by simp) ?_;refine fa ?_;refine Ba [0,5,6,7,8,9,10,11,12,13,14,15] 0 (λv w'=>∃l:List UInt8,v=.string (str l)/\l.length<=s.size/\bn l=bN s/\w'=w) (λv _=>acE v) ?_ ?_
 .exact⟨s.data.toList,by rw[pR];rfl,by rw[Tc];exact j' _,rfl,rfl⟩
 rintro ρ' v w' ⟨l,rfl,hl,hb,rfl⟩;have hsz:=yg l
 cases l with
 |nil=>
  refine fa ?_;rw[sN,<-hb];exact⟨rfl,hh.below⟩
 |cons c l=>
  have hc0:(str (c::l)).data.toList[(0:Int).toNat]?=some c:=by rw[Oc];rfl
  have hc8:=c.toNat_lt;have hlen:(str (c::l)).size=l.length+1:=by rw[hsz];rfl
  have hz:(0:UInt8).toNat=0:=rfl;by_cases h0:c=0
  .subst h0;refine fa ?_;refine Ou (l:=1) (h:=(str ((0:UInt8)::l)).size) lb.out rfl ⟨_,_,rfl,Z'⟩ rfl Z' Z' U' ?_;refine fa ?_;rw[SI,Oc,W_ (by rw[hlen];simp),List.drop_succ_cons,j7];refine⟨⟨l,rfl,by simp at hl;omega,by rw[<-hb,OQ],rfl⟩, ?_, ?_⟩
   .show(str l).size<(str (0::l)).size;rw[hlen,yg];omega
   exact P'
  have hcn:c.toNat≠0:=λh=>h0 (K6.1 h);refine fa ?_;rw[sN,<-hb,adw (by simpa using h0)];exact⟨rfl,hh.below⟩
def wx(s:ByteArray)(w:World):Calls prog 296 #[.string s,.string (ByteArray.mk #[0])] w λe w'=>e=.returned (.string (sN (bN s)))/\Below w.heap.size w w':=by
 have hh:=Hp.start w;have hne:¬ByteArray.mk #[(0:UInt8)]=ByteArray.mk #[]:=by intro h;injection h with h;simp at h
 have hsz1:(ByteArray.mk #[(0:UInt8)]).size=1:=rfl;have hc0:(ByteArray.mk #[(0:UInt8)]).data.toList[(0:Int).toNat]?=some 0:=rfl;have hz:(0:UInt8).toNat=0:=rfl;by_cases h0:s=ByteArray.mk #[]
 .subst h0;refine da (N:=37) (l:=[.string (ByteArray.mk #[]),.string (ByteArray.mk #[0])]) func296 rfl rfl (by simp) ?_;refine fa ?_;refine NL ?_;refine fa ?_;rw[show bN (ByteArray.mk #[])=0 from rfl,Vh];exact⟨rfl,hh.below⟩
 refine da (N:=37) (l:=[.string s,.string (ByteArray.mk #[0])]) func296 rfl rfl (by simp) ?_;refine fa ?_;refine qN ?_;refine fa ?_
 (first|refine ak rfl rfl (by first|rfl|assumption|decide) U' ?_|refine Zj rfl rfl (by first|assumption|decide) U' ?_)
 refine fa ?_;refine Oa hh (Ew s _) rfl ?_;intro w25 hh;refine fa ?_;exact⟨rfl,hh.below⟩
def tk(s:ByteArray)(w:World):Calls prog 259 #[.string s] w λe w'=>e=.returned (.string (sN (bN s)))/\Below w.heap.size w w':=by
 have hh:=Hp.start w;refine da (N:=5) (l:=[.string s]) func259 rfl rfl (by simp) ?_;refine fa ?_;refine Oa hh (wx s _) rfl ?_;intro w4 hh;refine fa ?_;exact⟨rfl,hh.below⟩
def iv(s:Bool)(m:ByteArray):Int:=if s then -(bN m:Int) else bN m
variable {z:Int}
def iN(z:Int):Bool:=decide (z<0)
def iM(z:Int):ByteArray:=sN z.natAbs
def td(z:Int):iv (iN z) (iM z)=z:=by
 unfold iv iN iM;rw[Ue];by_cases h:z<0
 .rw[M_ h,J' rfl];omega
 rw[O_ h,L' (by simp)];omega
def sv:iM z=ByteArray.mk #[]↔z=0:=by
 rw[iM,<-Vh];constructor
 .intro h;have:=IB h;omega
 intro h;rw[h];rfl
def Fj(s:Bool)(m:ByteArray):(iv s m).natAbs=bN m:=by
 unfold iv;split<;>omega
def ZM(s:Bool)(m:ByteArray):iM (iv s m)=sN (bN m):=by rw[iM,Fj]
def aah(s:Bool)(m:ByteArray):iN (iv s m)=(s && decide (bN m≠0)):=by
 unfold iN iv;rw[Bool.eq_iff_iff,Q_,K_,K_]
 cases s
 .simp only[Q5,if_false,false_and,iff_false];omega
 simp only[if_true,true_and];omega
def yo(s:Bool)(m:ByteArray)(w:World):Calls prog 200 #[.agg #[.bool s,.string m]] w λe w'=>e=.returned (.agg #[.string m,.bool s])/\Below w.heap.size w w':=by
 have hh:=Hp.start w;refine da (N:=8) (l:=[.agg #[.bool s,.string m]]) func200 rfl rfl (by simp) ?_;refine Dm ?_;intro b1 w1 hh b2 w2 hh ws hh;exact uZ
def Zd(s:Bool)(m:ByteArray)(w:World):Calls prog 201 #[.agg #[.string m,.bool s]] w λe w'=>e=.returned (.agg #[.bool (iN (iv s m)),.string (iM (iv s m))])/\Below w.heap.size w w':=by
 have hh:=Hp.start w;rw[aah,ZM]
 cases s with
 |false=>
  refine da (N:=15) (l:=[.agg #[.string m,.bool false]]) func201 rfl rfl (by simp) ?_;refine Sb ?_;intro b1 w1 hh b2 w2 hh;refine Oa hh (tk m _) rfl ?_;intro w6 hh;exact Vu
 |true=>
  by_cases h0:sN (bN m)=ByteArray.mk #[]
  .refine da (N:=15) (l:=[.agg #[.string m,.bool true]]) func201 rfl rfl (by simp) ?_;refine Sb ?_;intro b1 w1 hh b2 w2 hh;refine Oa hh (tk m _) rfl ?_;intro w6 hh;refine fa ?_
   (first|refine vf rfl rfl (by first|rfl|assumption|decide) U' ?_|refine uf rfl rfl (by first|assumption|decide) U' ?_)
   refine Jb ?_;intro ws hh;refine mr ?_;exact U0
  refine da (N:=15) (l:=[.agg #[.string m,.bool true]]) func201 rfl rfl (by simp) ?_;refine Sb ?_;intro b1 w1 hh b2 w2 hh;refine Oa hh (tk m _) rfl ?_;intro w6 hh;refine fa ?_
  (first|refine vf rfl rfl (by first|rfl|assumption|decide) U' ?_|refine uf rfl rfl (by first|assumption|decide) U' ?_)
  refine Jb ?_;intro ws hh;refine mr ?_;exact tZ
def ahK(s:Bool)(m:ByteArray):Value:=.agg #[.string m,.bool s]
def mw(a b:ByteArray)(w:World)(ha:a.size<=1000000000)(hb:b.size<=1000000000):Calls prog 257 #[.string a,.string b] w λe w'=>e=.returned (.int .i64 (Qh (bN a) (bN b)))/\Below w.heap.size w w':=by
 have hh:=Hp.start w;refine da (N:=8) (l:=[.string a,.string b]) func257 rfl rfl (by simp) ?_;refine fa ?_;refine Oa hh (PD a b _ ha hb) rfl ?_;intro w7 hh;refine fa ?_;exact⟨rfl,hh.below⟩
def Oe(s:Bool)(m:ByteArray)(w:World):Calls prog 152 #[.agg #[.bool s,.string m]] w λe w'=>e=.returned (.agg #[.bool (iN (iv s m)),.string (iM (iv s m))])/\Below w.heap.size w w':=by
 have hh:=Hp.start w;refine da (N:=6) (l:=[.agg #[.bool s,.string m]]) func152 rfl rfl (by simp) ?_;refine Sb ?_;intro b1 w1 hh b2 w2 hh;refine Oa hh (yo s m _) rfl ?_;intro w4 hh;refine Oa hh (Zd s m _) rfl ?_;intro w5 hh;exact Vu
def Fg(s:Bool)(m:ByteArray)(w:World):Calls prog 130 #[.agg #[.bool s,.string m]] w λe w'=>e=.returned (.agg #[.bool (iN (-(iv s m))),.string (iM (-(iv s m)))])/\Below w.heap.size w w':=by
 have hh:=Hp.start w;have e1:iv (!s) m= -(iv s m):=by unfold iv;cases s<;>simp
 refine da (N:=10) (l:=[.agg #[.bool s,.string m]]) func130 rfl rfl (by simp) ?_;refine Sb ?_;intro b1 w1 hh b2 w2 hh;refine Oa hh (Zd (!s) m _) rfl ?_;intro w9 hh;rw[e1];exact Vu
def Ig(s:Bool)(m:ByteArray)(w:World):Calls prog 87 #[.agg #[.bool s,.string m]] w λe w'=>e=.returned (.int .i64 (iv s m).sign)/\Below w.heap.size w w':=by
 have hh:=Hp.start w;by_cases h1:iv s m<0
 .have hn:iN (iv s m)=true:=M_ h1;refine pQ ?_;refine Jb ?_;intro b1 w1 hh;refine Oa hh (Oe s m _) rfl ?_;intro w5 hh;rw[hn];refine Sb ?_;intro b3 w3 hh ws hh;exact⟨by rw[E8 h1],hh.below⟩
 have hn:iN (iv s m)=false:=O_ h1;by_cases h0:iM (iv s m)=ByteArray.mk #[]
 .refine pQ ?_;refine Jb ?_;intro b1 w1 hh;refine Oa hh (Oe s m _) rfl ?_;intro w5 hh;rw[hn];refine Sb ?_;intro b3 w3 hh ws hh;refine NL ?_;refine fa ?_;exact⟨by rw[sv.1 h0];rfl,hh.below⟩
 have h2:0<iv s m:=(by have:iv s m≠0:=λh=>h0 (sv.2 h);omega);refine pQ ?_;refine Jb ?_;intro b1 w1 hh;refine Oa hh (Oe s m _) rfl ?_;intro w5 hh;rw[hn];refine Sb ?_;intro b3 w3 hh ws hh;refine qN ?_;refine fa ?_;exact⟨by rw[G8 h2],hh.below⟩
def Lc(z:Int):(iM z).size=(Sa z.natAbs+7)/8:=lh _
def sA(s t:Bool)(a b:ByteArray):Bool:=if s=t then s else if bN a<bN b then t else s
def BW(s t:Bool)(a b:ByteArray):iv (sA s t a b) (iM (iv s a+iv t b))=iv s a+iv t b:=by
 unfold iM iv;rw[Ue];unfold sA
 cases s<;>cases t<;>simp<;>(try split)<;>(try simp)<;>omega
def PT(s t:Bool)(a b:ByteArray):iv (s !=t) (iM (iv s a*iv t b))=iv s a*iv t b:=by
 rw[iM,U8,Fj,Fj];unfold iv;rw[Ue]
 cases s<;>cases t<;>simp[m7,Int.neg_mul]
def AH(s t:Bool)(a b:ByteArray)(w:World)(ha:a.size<=1000000000)(hb:b.size<=1000000000):Calls prog 199 #[.agg #[.string a,.bool s],.agg #[.string b,.bool t]] w λe w'=>e=.returned (.agg #[.string (iM (iv s a+iv t b)),.bool (sA s t a b)])/\Below w.heap.size w w':=by
 have hh:=Hp.start w;have hiv:∀(u:Bool)(n:Nat)(z:Int),(z=if u then -(n:Int) else n)->sN n=iM z:=by
  intro u n z hz;have h1:z.natAbs=n:=by rw[hz];split<;>omega
  rw[iM,h1]
 by_cases hst:s=t
 .subst hst;have e1:=hiv s (bN a+bN b) (iv s a+iv s b) (by unfold iv;split<;>omega);refine da (N:=41) (l:=[.agg #[.string a,.bool s],.agg #[.string b,.bool s]]) func199 rfl rfl (by simp) ?_;refine Dm ?_;intro b2 w2 hh b3 w3 hh b4 w4 hh;refine QK lb.out rfl rfl (by first|rfl|assumption) U' ?_;refine fa ?_;refine Ca 8 [[(2,none)],[(12,some 0)],[(3,none)],[(14,some 2)],[(13,some 1),(15,some 3)],[(16,some 4)],[(2,none)],[(18,some 6)]] [(7,19),(6,18),(5,17),(4,16),(3,15),(2,14),(1,13),(0,12)] hh mixed T' ?_;refine yd ?_;refine xe 2 ?_;refine yd ?_;refine xe 1 ?_;refine qq [_,_] ?_;refine Va (i:=5) (Is (.string (sN (bN a+bN b)))) Is.ext ?_ ?_
  .intro ρ1 w1 hj hR;obtain⟨A16,c16,h16,s16⟩:=hR.1;exact Pb rfl (qb ja.out (Ga h16 Fb)) (LD A16 2 c16 [a,b] _ s16 Z' (by simp;omega)) (λ_ _ hq=>⟨_,hq.1,hq.2,rfl⟩)
  refine yd ?_;refine xe 2 ?_;refine xa ?_;intro f W hJ hV;have hb_2:=hJ.bl;obtain⟨v19,v18,v17,v16,v15,v14,v13,v12,_⟩:=hV;obtain⟨A16,c16,e16,f16⟩:Rows _ _ _ (f 4) W:=v16;replace hh:=hJ.hp;refine Da (Na (aa v19 (aa v18 (aa v17 (aa e16 (aa v15 (aa v14 (aa v13 (aa v12 Ea))))))))) ?_;dsimp only[Bb];clear e16 hJ;refine Jb ?_;intro ws hh;refine mr ?_;rw[e1,sA,J' rfl];exact⟨rfl,hh.below⟩
 by_cases hlt:bN a<bN b
 .have e1:=hiv t (bN b-bN a) (iv s a+iv t b) (by unfold iv;cases s<;>cases t<;>simp at hst |- <;>omega);refine da (N:=41) (l:=[.agg #[.string a,.bool s],.agg #[.string b,.bool t]]) func199 rfl rfl (by simp) ?_;refine Dm ?_;intro b2 w2 hh b3 w3 hh b4 w4 hh;refine sM ?_;refine fa ?_;refine Oa hh (mw a b _ ha hb) rfl ?_;intro w25 hh;rw[Uj hlt];refine Sb ?_;intro ws hh ws hh;refine Oa hh (Lq b a _ hb ha) rfl ?_;intro w34 hh;refine Jb ?_;intro ws hh;refine mr ?_;rw[e1,sA,L' hst,J' hlt];exact⟨rfl,hh.below⟩
 have e1:=hiv s (bN a-bN b) (iv s a+iv t b) (by unfold iv;cases s<;>cases t<;>simp at hst |- <;>omega);have hc:¬Qh (bN a) (bN b)<0:=by unfold Qh;split<;>(try split)<;>omega
 refine da (N:=41) (l:=[.agg #[.string a,.bool s],.agg #[.string b,.bool t]]) func199 rfl rfl (by simp) ?_;refine Dm ?_;intro b2 w2 hh b3 w3 hh b4 w4 hh;refine sM ?_;refine fa ?_;refine Oa hh (mw a b _ ha hb) rfl ?_;intro w25 hh;refine fa ?_;refine Oa hh (Lq a b _ ha hb) rfl ?_;intro w34 hh;refine Jb ?_;intro ws hh;refine mr ?_;rw[e1,sA,L' hst,L' hlt];exact⟨rfl,hh.below⟩
def KC(s t:Bool)(a b:ByteArray)(w:World)(ha:a.size<=1000000000)(hb:b.size<=1000000000):Calls prog 202 #[.agg #[.string a,.bool s],.agg #[.string b,.bool t]] w λe w'=>e=.returned (.agg #[.string (iM (iv s a*iv t b)),.bool (s !=t)])/\Below w.heap.size w w':=by
 have hh:=Hp.start w;have e0:(iv s a*iv t b).natAbs=bN a*bN b:=by rw[U8,Fj,Fj]
 have e1:iM (iv s a*iv t b)=sN (bN a*bN b):=by rw[iM,e0]
 refine da (N:=16) (l:=[.agg #[.string a,.bool s],.agg #[.string b,.bool t]]) func202 rfl rfl (by simp) ?_;refine Dm ?_;intro b2 w2 hh b3 w3 hh b4 w4 hh;refine Ca 10 [[(2,none)],[(5,some 0)],[(3,none)],[(7,some 2)],[(6,some 1),(8,some 3)],[(2,none)],[(10,some 5)],[(3,none)],[(12,some 7)],[(11,some 6),(13,some 8)]] [(9,14),(8,13),(7,12),(6,11),(5,10),(4,9),(3,8),(2,7),(1,6),(0,5)] hh mixed T' ?_;refine yd ?_;refine xe 2 ?_;refine yd ?_;refine xe 1 ?_;refine dC (λ_ hj=>HB a b _ ha hb) ?_;refine yd ?_;refine xe 2 ?_;refine yd ?_;refine xe 1 ?_;refine Wa (i:=9) (λρ1 w1 hj hR=>Dl lb.out (show ρ1 11=Value.bool _ from hR.1) (show ρ1 13=Value.bool _ from hR.2.1)) ?_;refine xa ?_;intro f W hJ hV;have hb_1:=hJ.bl;obtain⟨v14,v13,v12,v11,v10,v9,v8,v7,v6,v5,_⟩:=hV;replace hh:=hJ.hp;refine aaF ?_;dsimp only[Bb];clear hJ;refine Jb ?_;intro ws hh;refine mr ?_;rw[e1];exact⟨rfl,hh.below⟩
def sj(n:Int)(w:World)(h1: -9223372036854775808<=n)(h2:n<=9223372036854775807):Calls prog 127 #[.int .i64 n] w λe w'=>e=.returned (.agg #[.bool (iN n),.string (iM n)])/\Below w.heap.size w w':=by
 have hh:=Hp.start w;by_cases h0:n<0
 .have e1:iv true (sN n.natAbs)=n:=by unfold iv;rw[Ue,J' rfl];omega
  have hw:IntKind.u64.wrap n=((18446744073709551616-n.natAbs:Nat):Int):=(by rw[show n=((18446744073709551616-n.natAbs:Nat):Int)+ -((18446744073709551616:Nat):Int) by omega];have:=UK.wrap_add (k:=.u64) (((18446744073709551616-n.natAbs:Nat):Int)+ -((18446744073709551616:Nat):Int));rw[<-this,Int.neg_add_cancel_right,UK.As Z'];omega);have hn:(18446744073709551616-(18446744073709551616-n.natAbs)) % 18446744073709551616=n.natAbs:=Z';refine da (N:=16) (l:=[.int .i64 n]) func127 rfl rfl (by simp) ?_;refine Jb ?_;intro b2 w2 hh;rw[hw];refine JT rfl Z' U' ?_;rw[hn];skip;refine Oa hh (Mu n.natAbs _ Z') rfl ?_;intro w8 hh;refine fa ?_;refine Oa hh (Zd true (sN n.natAbs) _) rfl ?_;intro w10 hh;rw[e1];exact Vu
 obtain⟨m,rfl⟩:=T5 (by omega:0<=n);have e1:iv false (sN m)=m:=by unfold iv;rw[Ue];simp
 have hm:m<18446744073709551616:=Z';refine da (N:=16) (l:=[.int .i64 (m:Int)]) func127 rfl rfl (by simp) ?_;refine sr ?_;refine sw hh ?_;intro b2 w2 hh;refine ua (mb (sr (mI ?_)));refine Bi (ua (cF (Mc (wc (sr (mI ?_))))));refine Sk ?_;refine Oa hh (Mu m _ hm) rfl ?_;intro w13 hh;refine fa ?_;refine Oa hh (Zd false (sN m) _) rfl ?_;intro w15 hh;rw[e1];exact Vu
structure IR where
 neg:Bool
 Qa:ByteArray
def IR.cells(a:IR):List Value:=[.bool a.neg,.string a.Qa]
def IR.v(a:IR):Int:=iv a.neg a.Qa
def iR(z:Int):IR:=⟨iN z,iM z⟩
def fT(z:Int):(iR z).v=z:=td z
def IR.len(a:IR):a.cells.length=2:=rfl
def Wl(x y:Int):Sa (x+y).natAbs<=max (Sa x.natAbs) (Sa y.natAbs)+1:=by
 apply Dc;have h1:=Tb x.natAbs;have h2:=Tb y.natAbs;have h3:2^Sa x.natAbs<=2^max (Sa x.natAbs) (Sa y.natAbs):=m_ Z' (Nat.le_max_left _ _);have h4:2^Sa y.natAbs<=2^max (Sa x.natAbs) (Sa y.natAbs):=m_ Z' (Nat.le_max_right _ _);rw[i_];omega
def mh(s:Bool)(m:ByteArray):Sa (iv s m).natAbs<=8*m.size:=by rw[Fj];exact Mf m
def gP(l:List Int)(x:Int):(l++[x]).sum=l.sum+x:=by simp
def mm(L:Option Addr)(n c:Nat)(l:List IR)(w:World)(hS:Sl w L n 2 (na IR.cells l))(hn:n<=1000000)(hs:∀s∈l,s.Qa.size<=100000000):Calls prog 124 #[.slice L n c] w λe w'=>e=.returned (.agg #[.bool (iN (l.map IR.v).sum),.string (iM (l.map IR.v).sum)])/\Below w.heap.size w w':=by
 have hl:=hS.Fa IR.len Z';have hh:=Hp.start w;refine da (N:=19) (l:=[.slice L n c]) func124 rfl rfl (by simp) ?_;refine Sb ?_;intro b2 w2 hh b3 w3 hh;refine Ba [5,8,9,10,11,12,13,14,15,16] 8 (λj w'=>∃(i:Nat)(u:Bool)(S:Int),i<=n/\j=.int .i64 i/\S=((l.take i).map IR.v).sum/\iv u (iM S)=S/\Sa S.natAbs<=800000000+i/\Hp w [.blk b3 218 [.string (iM S),.bool u] (0,0),.blk b2 28 [.bool false,.string (ByteArray.mk #[])] (0,0)] w') (λj _=>n-(intOf j).toNat) ?_ ?_
 .exact⟨0,false,0,D' _,rfl,rfl,by rw[iM];exact J_ _ (Ue 0),by simp[Ik],by rw[iM,Int.natAbs_zero,Vh];exact hh⟩
 clear hh;rintro ρ' j w' ⟨i,u,S,hi,rfl,hS2,hu,hb,hh⟩;by_cases hlt:i<n
 .obtain⟨x,hx⟩:=ea (l:=l) (k:=i) Z';obtain⟨ad,rfl,hr⟩:=hS.at_ Z';have hxs:=hs x (G' hx);have hS3:((l.take (i+1)).map IR.v).sum=S+x.v:=by rw[oa hx,n_,J7,gP,hS2]
  have hms:(iM S).size<=1000000000:=by rw[Lc];omega
  have hbx:=mh x.neg x.Qa;have hba:=Wl S x.v;have hpl:=BW u x.neg (iM S) x.Qa;rw[hu] at hpl;have hwc:=λw1=>AH u x.neg (iM S) x.Qa w1 hms Z';rw[hu] at hwc;refine fa ?_;refine wb (vs:=[_,_]) ya.out rfl (((hr.ext hh.below).recAt IR.len hx)) rfl U' ?_;refine Sb ?_;intro b5 w5 hh ws hh;refine Ca 3 [[(3,none)],[(5,none)],[(13,some 1)]] [(2,14),(1,13),(0,12)] hh mixed T' ?_;refine Vd 1 [_,_] ?_;refine Vd 0 [_,_] ?_;refine dC (λ_ hj=>yo x.neg x.Qa _) ?_;refine xa ?_;intro f W hJ hV;have hb_5:=hJ.bl;obtain⟨v14,v13,v12,_⟩:=hV;replace hh:=hJ.hp;refine Da (Na (aa v14 (aa v13 (aa v12 Ea)))) ?_;dsimp only[Bb];clear hJ;refine Oa hh (hwc _) rfl ?_;intro w15 hh;exact aaJ
 refine fa ?_;refine Oa hh (Zd u (iM S) _) rfl ?_;intro w18 hh;exact adz
def fk(s:Bool)(b:ByteArray):(iM (-(iv s b))).size<=b.size:=by
 have:=mh s b;rw[Lc,Int.natAbs_neg];omega
def Kj(s t:Bool)(a b:ByteArray)(w:World)(ha:a.size<=100000000)(hb:b.size<=100000000):Calls prog 150 #[.agg #[.bool s,.string a],.agg #[.bool t,.string b]] w λe w'=>e=.returned (.agg #[.bool (iN (iv s a-iv t b)),.string (iM (iv s a-iv t b))])/\Below w.heap.size w w':=by
 have hh:=Hp.start w;have h1:=fk t b;have e1:([IR.mk s a,iR (-(iv t b))].map IR.v).sum=iv s a-iv t b:=(by simp only[q_,G9,x6,List.sum_nil,fT];simp only[IR.v];omega);refine da (N:=10) (l:=[.agg #[.bool s,.string a],.agg #[.bool t,.string b]]) func150 rfl rfl (by simp) ?_;refine Dm ?_;intro b2 w2 hh b3 w3 hh b4 w4 hh;refine Ca 3 [[(2,none)],[(3,none)],[(6,some 1)]] [(2,7),(1,6),(0,5)] hh mixed T' ?_;refine Vd 2 [_,_] ?_;refine Vd 1 [_,_] ?_;refine dC (λ_ hj=>Fg t b _) ?_;refine xa ?_;intro f W hJ hV;have hb_1:=hJ.bl;obtain⟨v7,v6,v5,_⟩:=hV;replace hh:=hJ.hp;refine eB ?_;dsimp only[Bb];clear hJ;refine jE ?_;intro b8 w8 hh;refine Oa hh (mm _ 2 _ [IR.mk s a,iR (-(iv t b))] _ (hh.ra (i:=0) rfl) Z' (by simp[iR];omega)) rfl ?_;intro w9 hh;rw[e1];refine Jb ?_;intro ws hh;exact KP
def cJ(s t:Bool)(a b:ByteArray)(w:World)(ha:a.size<=100000000)(hb:b.size<=100000000):Calls prog 82 #[.agg #[.bool s,.string a],.agg #[.bool t,.string b]] w λe w'=>e=.returned (.int .i64 (iv s a-iv t b).sign)/\Below w.heap.size w w':=by
 have hh:=Hp.start w;refine da (N:=9) (l:=[.agg #[.bool s,.string a],.agg #[.bool t,.string b]]) func82 rfl rfl (by simp) ?_;refine Sb ?_;intro b2 w2 hh b3 w3 hh;refine Oa hh (Kj s t a b _ ha hb) rfl ?_;intro w7 hh;refine Oa hh (Ig _ _ _) rfl ?_;intro w8 hh;rw[td];refine fa ?_;exact⟨rfl,hh.below⟩
def ZQ(a b:Nat):Sa (a*b)<=Sa a+Sa b:=by
 apply Dc;rw[D_];exact R5 (Tb a) (Tb b)
def pr(a b:Int):Sa (a*b).natAbs<=Sa a.natAbs+Sa b.natAbs:=by rw[U8];exact ZQ _ _
def Xk:List Int->Int
 |[]=>1
 |x::l=>x*Xk l
def RH(l:List Int)(x:Int):Xk (l++[x])=Xk l*x:=by
 induction l with
 |nil=>simp[Xk]
 |cons y l ih=>simp only[C',Xk,ih,Int.mul_assoc]
def bH(l:List Nat)(i:Nat):(l.take i).sum<=l.sum:=by
 rw[<-List.sum_append_nat.symm.trans (J_ List.sum (P9 i l))];omega
def qE:Sa 1=1:=by decide+kernel
def pq(L:Option Addr)(n c:Nat)(l:List IR)(w:World)(hS:Sl w L n 2 (na IR.cells l))(hn:n<=1000000)(hs:(l.map λa=>a.Qa.size).sum<=100000000):Calls prog 125 #[.slice L n c] w λe w'=>e=.returned (.agg #[.bool (iN (Xk (l.map IR.v))),.string (iM (Xk (l.map IR.v)))])/\Below w.heap.size w w':=by
 have hl:=hS.Fa IR.len Z';have hh:=Hp.start w;have hsum:=bH (l.map λa=>a.Qa.size);refine da (N:=21) (l:=[.slice L n c]) func125 rfl rfl (by simp) ?_;refine Jb ?_;intro b2 w2 hh;refine Oa hh (sj 1 _ Z' Z') rfl ?_;intro w6 hh;refine Oa hh (yo _ _ _) rfl ?_;intro w7 hh;refine Sb ?_;intro b3 w3 hh ws hh;refine Ba [5,10,11,12,13,14,15,16,17,18] 10 (λj w'=>∃(i:Nat)(u:Bool)(S:Int),i<=n/\j=.int .i64 i/\S=Xk ((l.take i).map IR.v)/\iv u (iM S)=S/\Sa S.natAbs<=1+8*((l.map λa=>a.Qa.size).take i).sum/\Hp w [.blk b3 218 [.string (iM S),.bool u] (0,0),.blk b2 28 [.bool false,.string (ByteArray.mk #[])] (0,0)] w') (λj _=>n-(intOf j).toNat) ?_ ?_
 .exact⟨0,_,1,D' _,rfl,rfl,td 1,by rw[Int.natAbs_one,qE];omega,hh⟩
 clear hh;rintro ρ' j w' ⟨i,u,S,hi,rfl,hS2,hu,hb,hh⟩;by_cases hlt:i<n
 .obtain⟨x,hx⟩:=ea (l:=l) (k:=i) Z';obtain⟨ad,rfl,hr⟩:=hS.at_ Z';have hsi:=hsum i;have hsi2:=hsum (i+1);have hsz:((l.map λa=>a.Qa.size).take (i+1)).sum=((l.map λa=>a.Qa.size).take i).sum+x.Qa.size:=(by rw[oa (x:=x.Qa.size) (by rw[V_,hx];rfl),nt]);have hS3:Xk ((l.take (i+1)).map IR.v)=S*x.v:=by rw[oa hx,n_,J7,RH,hS2]
  have hms:(iM S).size<=1000000000:=by rw[Lc];omega
  have hbx:=mh x.neg x.Qa;have hba:=pr S x.v;have hpl:=PT u x.neg (iM S) x.Qa;rw[hu] at hpl;have hwc:=λw1=>KC u x.neg (iM S) x.Qa w1 hms Z';rw[hu] at hwc;refine fa ?_;refine wb (vs:=[_,_]) ya.out rfl (((hr.ext hh.below).recAt IR.len hx)) rfl U' ?_;refine Sb ?_;intro b5 w5 hh ws hh;refine Ca 3 [[(3,none)],[(5,none)],[(15,some 1)]] [(2,16),(1,15),(0,14)] hh mixed T' ?_;refine Vd 1 [_,_] ?_;refine Vd 0 [_,_] ?_;refine dC (λ_ hj=>yo x.neg x.Qa _) ?_;refine xa ?_;intro f W hJ hV;have hb_5:=hJ.bl;obtain⟨v16,v15,v14,_⟩:=hV;replace hh:=hJ.hp;refine Da (Na (aa v16 (aa v15 (aa v14 Ea)))) ?_;dsimp only[Bb];clear hJ;refine Oa hh (hwc _) rfl ?_;intro w17 hh;exact aaJ
 refine fa ?_;refine Oa hh (Zd u (iM S) _) rfl ?_;intro w20 hh;exact adz
def CG(M k:Nat)(h:2^k∣M): -((M/2^k:Nat):Int)= -(M:Int)/2^k:=by
 obtain⟨q,rfl⟩:=h;have hp:(0:Int)<2^k:=Int.pow_pos Z';rw[Nat.mul_div_cancel_left _ (r_ Z'),m9,<-m7,Int.natCast_pow];exact(Int.mul_ediv_cancel_left _ (by exact Int.ne_of_gt hp)).symm
def bC(M k:Nat)(h:¬2^k∣M): -((M/2^k:Nat):Int)-1= -(M:Int)/2^k:=by
 have hp:(0:Int)<2^k:=Int.pow_pos Z';have h1:=E9 M (2^k);have h2:=B_ M (r_ (n:=k) (show 0<2 by omega));have h3:M % 2^k≠0:=λh0=>h (Nat.dvd_of_mod_eq_zero h0);have hc:((2^k:Nat):Int)=2^k:=by simp
 symm
 rw[Int.ediv_eq_iff_of_pos hp,<-hc];have h4:(M:Int)=(2^k:Nat)*(M/2^k:Nat)+(M % 2^k:Nat):=by rw[<-m9,<-F8,h1]
 generalize hK:((2^k:Nat):Int)=K at*;generalize ((M/2^k:Nat):Int)=q at*;have e:(-q-1)*K= -(K*q)-K:=by rw[Int.sub_mul,Int.neg_mul,q6 q];omega
 have e2:(-q-1+1)*K= -(K*q):=by rw[Int.sub_add_cancel,Int.neg_mul,q6]
 omega
def ER{M:Nat}(h0:M≠0):2^k∣M↔k<=tz M:=by
 obtain⟨m,hm⟩:=Gv h0;generalize tz M=t at*;constructor
 .intro h;obtain hlt|hge:=Y9 t k
  .exfalso;obtain⟨q,hq⟩:=h;rw[hm,show k=t+(1+(k-t-1)) by omega,D_,D_,J9] at hq;have:=Nat.eq_of_mul_eq_mul_left (r_ Z') hq;rw[Nat.pow_one,J9] at this;omega
  exact hge
 intro h;rw[hm];exact Nat.dvd_trans (Nat.pow_dvd_pow 2 h) (Nat.dvd_mul_right _ _)
def abo(s:Bool)(a:ByteArray)(m:Nat):iv s (sN (bN a*2^m))=iv s a*2^m:=by
 unfold iv;rw[Ue]
 cases s<;>simp[m9,Int.neg_mul]
def iI(s:Bool)(a:ByteArray)(m:Nat)(w:World)(ha:a.size<=100000000)(hm:m<=1000000000):Calls prog 198 #[.agg #[.bool s,.string a],.int .i64 (m:Int)] w λe w'=>e=.returned (.agg #[.bool (iN (iv s a*2^m)),.string (iM (iv s a*2^m))])/\Below w.heap.size w w':=by
 have hh:=Hp.start w;refine da (N:=47) (l:=[.agg #[.bool s,.string a],.int .i64 (m:Int)]) func198 rfl rfl (by simp) ?_;refine Sb ?_;intro b2 w2 hh b4 w4 hh;refine Ca 6 [[(2,none)],[(8,some 0)],[(1,none)],[(9,some 1),(10,some 2)],[(2,none)],[(12,some 4)]] [(5,13),(4,12),(3,11),(2,10),(1,9),(0,8)] hh mixed T' ?_;refine yd ?_;refine xe 1 ?_;refine cd ?_;refine dC (λ_ hj=>KB a m _ Z' Z') ?_;refine yd ?_;refine xe 1 ?_;refine xa ?_;intro f W hJ hV;have hb_2:=hJ.bl;obtain⟨v13,v12,v11,v10,v9,v8,_⟩:=hV;replace hh:=hJ.hp;refine Da (Na (aa v13 (aa v12 (aa v11 (aa v10 (aa v9 (aa v8 Ea))))))) ?_;dsimp only[Bb];clear hJ;refine fa ?_;refine Oa hh (Zd s (sN (bN a*2^m)) _) rfl ?_;intro w15 hh;rw[abo];exact Vu
def YH(s:Bool)(a:ByteArray)(m:Nat)(w:World)(hT:Sc w)(ha:a.size<=100000000)(h0:0<m)(hm:m<=1000000000000):Calls prog 198 #[.agg #[.bool s,.string a],.int .i64 (-(m:Int))] w λe w'=>e=.returned (.agg #[.bool (iN (iv s a/2^m)),.string (iM (iv s a/2^m))])/\Below w.heap.size w w':=by
 have hh:=Hp.start w;have e1:(if(-1099511627776:Int)> -(m:Int) then -1099511627776 else -(m:Int))= -(m:Int):=L' Z';have e2: -(-(m:Int))=(m:Int):=Z';have hcs:∀w1,Calls prog 254 #[.string a,.int .i64 (-(-(m:Int)))] w1 λe w'=>e=.returned (.string (sN (bN a/2^m)))/\Below w1.heap.size w1 w':=λw1=>(by rw[e2];exact GD a m w1 Z' Z')
 cases s with
 |false=>
  have e3:iv false (sN (bN a/2^m))=iv false a/2^m:=(by unfold iv;rw[Ue];simp);refine da (N:=47) (l:=[.agg #[.bool false,.string a],.int .i64 (-(m:Int))]) func198 rfl rfl (by simp) ?_;refine Sb ?_;intro b2 w2 hh b4 w4 hh;rw[e1];refine IM ?_;refine yd ?_;refine xe 1 ?_;refine cd ?_;refine ZL ?_;refine dC (λ_ hj=>hcs _) ?_;refine yd ?_;refine xe 1 ?_;refine dB [_,_] ?_;refine dC (λ_ hj=>Zd false (sN (bN a/2^m)) _) ?_;refine qM ?_;refine xa ?_;intro f W hJ hV;have hb_4:=hJ.bl;obtain⟨v5,v26,v25,v24,v23,v22,v21,v20,v19,v18,_⟩:=hV;obtain⟨b5,e5,hl5,hc5⟩:Gc _ _ _ (f 9) W:=v5;replace hh:=hJ.newVar hh hl5 hc5;refine OK ?_;dsimp only[Bb];clear e5 hJ;rw[e3];refine Sb ?_;intro ws hh ws hh;exact KP
 |true=>
  have hb:=Mf a;have e4:iv true (sN (bN a/2^m))= -((bN a/2^m:Nat):Int):=(by unfold iv;rw[Ue,J' rfl]);have e5:iv true a= -(bN a:Int):=by unfold iv;rw[J' rfl]
  by_cases hz:bN a=0
  .have e3:iv true (sN (bN a/2^m))=iv true a/2^m:=(by rw[e4,e5,hz];simp);refine pU ?_;refine Sb ?_;intro b2 w2 hh b4 w4 hh;rw[e1];refine IM ?_;refine yd ?_;refine xe 1 ?_;refine cd ?_;refine ZL ?_;refine dC (λ_ hj=>hcs _) ?_;refine yd ?_;refine xe 1 ?_;refine dB [_,_] ?_;refine dC (λ_ hj=>Zd true (sN (bN a/2^m)) _) ?_;refine qM ?_;refine xa ?_;intro f W hJ hV;have hb_4:=hJ.bl;obtain⟨v5,v26,v25,v24,v23,v22,v21,v20,v19,v18,_⟩:=hV;obtain⟨b5,e5,hl5,hc5⟩:Gc _ _ _ (f 9) W:=v5;replace hh:=hJ.newVar hh hl5 hc5;refine OK ?_;dsimp only[Bb];clear e5 hJ;rw[e3];refine Jb ?_;intro ws hh;refine Oa hh (Nl a _ Z') rfl ?_;intro w32 hh;rw[hz,Ik];refine Jb ?_;intro ws hh;exact KP
  have hbp:=En hz;by_cases hd:2^m∣bN a
  .have e3:iv true (sN (bN a/2^m))=iv true a/2^m:=(by rw[e4,e5];exact CG _ _ hd);have htz:=(ER hz).1 hd;refine pU ?_;refine Sb ?_;intro b2 w2 hh b4 w4 hh;rw[e1];refine IM ?_;refine yd ?_;refine xe 1 ?_;refine cd ?_;refine ZL ?_;refine dC (λ_ hj=>hcs _) ?_;refine yd ?_;refine xe 1 ?_;refine dB [_,_] ?_;refine dC (λ_ hj=>Zd true (sN (bN a/2^m)) _) ?_;refine qM ?_;refine xa ?_;intro f W hJ hV;have hb_4:=hJ.bl;obtain⟨v5,v26,v25,v24,v23,v22,v21,v20,v19,v18,_⟩:=hV;obtain⟨b5,e5,hl5,hc5⟩:Gc _ _ _ (f 9) W:=v5;replace hh:=hJ.newVar hh hl5 hc5;refine OK ?_;dsimp only[Bb];clear e5 hJ;rw[e3];refine Jb ?_;intro ws hh;refine Oa hh (Nl a _ Z') rfl ?_;intro w32 hh;refine fa ?_;refine Oa hh (Mj a _ Z' (hT.hp hh)) rfl ?_;intro w38 hh;refine Jb ?_;intro ws hh;exact KP
  have e3:iv true (sN (bN a/2^m))-1=iv true a/2^m:=(by rw[e4,e5];exact bC _ _ hd);have htz:tz (bN a)<m:=H6 λh=>hd ((ER hz).2 h);have hsz:(iM (iv true (sN (bN a/2^m)))).size<=100000000:=(by have:=yr (bN a) m;rw[Lc,Fj,Ue];omega);have hsub:∀w1,Calls prog 150 #[.agg #[.bool (iN (iv true (sN (bN a/2^m)))),.string (iM (iv true (sN (bN a/2^m))))],.agg #[.bool (iN 1),.string (iM 1)]] w1 λe w'=>e=.returned (.agg #[.bool (iN (iv true a/2^m)),.string (iM (iv true a/2^m))])/\Below w1.heap.size w1 w':=λw1=>(by have:=Kj (iN (iv true (sN (bN a/2^m)))) (iN 1) (iM (iv true (sN (bN a/2^m)))) (iM 1) w1 hsz (by rw[Lc,Int.natAbs_one,qE];omega);rw[td,td,e3] at this;exact this);refine pU ?_;refine Sb ?_;intro b2 w2 hh b4 w4 hh;rw[e1];refine IM ?_;refine yd ?_;refine xe 1 ?_;refine cd ?_;refine ZL ?_;refine dC (λ_ hj=>hcs _) ?_;refine yd ?_;refine xe 1 ?_;refine dB [_,_] ?_;refine dC (λ_ hj=>Zd true (sN (bN a/2^m)) _) ?_;refine qM ?_;refine xa ?_;intro f W hJ hV;have hb_4:=hJ.bl;obtain⟨v5,v26,v25,v24,v23,v22,v21,v20,v19,v18,_⟩:=hV;obtain⟨b5,e5,hl5,hc5⟩:Gc _ _ _ (f 9) W:=v5;replace hh:=hJ.newVar hh hl5 hc5;refine OK ?_;dsimp only[Bb];clear e5 hJ;refine Jb ?_;intro ws hh;refine Oa hh (Nl a _ Z') rfl ?_;intro w32 hh;refine fa ?_;refine Oa hh (Mj a _ Z' (hT.hp hh)) rfl ?_;intro w38 hh;refine fa ?_;refine Ca 2 [[(5,none)],[]] [(1,44),(0,43)] hh mixed T' ?_;refine Vd 0 [_,_] ?_;refine dC (λ_ hj=>sj 1 _ Z' Z') ?_;refine xa ?_;intro f W hJ hV;have hb_6:=hJ.bl;obtain⟨v44,v43,_⟩:=hV;replace hh:=hJ.hp;refine Da (Na (aa v44 (aa v43 Ea))) ?_;dsimp only[Bb];clear hJ;refine Oa hh (hsub _) rfl ?_;intro w45 hh;refine Jb ?_;intro ws hh;exact KP
def abU:(2:Rat)≠0:=by decide
def two_pos(k:Int):(0:Rat)<2^k:=Rat.zpow_pos U'
def qk(i p:Int):(Dyadic.ofIntWithPrec i p).toRat=i*2^(-p):=Dyadic.toRat_ofIntWithPrec_eq_mul_two_pow
def Mo(i p:Int)(n:Nat):Dyadic.ofIntWithPrec (i*2^n) (p+n)=Dyadic.ofIntWithPrec i p:=by
 rw[<-Int.shiftLeft_eq];exact Dyadic.ofIntWithPrec_shiftLeft_add
def Bg(i:Int){p q:Int}(h:q=p+n):Dyadic.ofIntWithPrec i p=Dyadic.ofIntWithPrec (i*2^n) q:=by
 subst h;exact(Mo i p n).symm
def Tr(i j p:Int):Dyadic.ofIntWithPrec i p+Dyadic.ofIntWithPrec j p=Dyadic.ofIntWithPrec (i+j) p:=by
 rw[<-Dyadic.toRat_inj,Dyadic.toRat_add,qk,qk,qk,Rat.intCast_add,Rat.add_mul]
def UM(i p:Int): -Dyadic.ofIntWithPrec i p=Dyadic.ofIntWithPrec (-i) p:=Dyadic.neg_ofIntWithPrec
def XC(i j p q:Int):Dyadic.ofIntWithPrec i p*Dyadic.ofIntWithPrec j q=Dyadic.ofIntWithPrec (i*j) (p+q):=by
 rw[<-Dyadic.toRat_inj,Dyadic.toRat_mul,qk,qk,qk,Rat.intCast_mul,Int.neg_add,Rat.zpow_add abU];grind
def Tp(i j p:Int):Dyadic.ofIntWithPrec i p<Dyadic.ofIntWithPrec j p↔i<j:=by
 rw[<-Dyadic.toRat_lt_toRat_iff,qk,qk];rw[<-Rat.intCast_lt_intCast];constructor
 .intro h;exact Rat.lt_of_mul_lt_mul_right h (Rat.le_of_lt (two_pos _))
 intro h;exact Rat.mul_lt_mul_of_pos_right h (two_pos _)
def Zh(p:Int):Dyadic.ofIntWithPrec 0 p=0:=rfl
def KW{i j p:Int}(h:Dyadic.ofIntWithPrec i p=Dyadic.ofIntWithPrec j p):i=j:=by
 obtain h1|h1|h1:=D6 i j
 .rw[<-Tp i j p,h] at h1;exact absurd h1 (by rw[Tp];omega)
 .exact h1
 rw[<-Tp j i p,h] at h1;exact absurd h1 (by rw[Tp];omega)
def qu{i p:Int}(h:Dyadic.ofIntWithPrec i p=0):i=0:=KW (p:=p) (by rw[h];rfl)
def mN(n k:Int)(h:n % 2=1):Dyadic.ofOdd n k h=Dyadic.ofIntWithPrec n k:=Dyadic.ofOdd_eq_ofIntWithPrec
def SK{i p:Int}(h:i≠0):Dyadic.ofIntWithPrec i p=.ofOdd (i>>>i.trailingZeros) (p-i.trailingZeros) (Int.shiftRight_trailingZeros_mod_two h):=by
 rw[Dyadic.ofIntWithPrec,dif_neg h]
structure NR where
 neg:Bool
 Qa:ByteArray
 e:Int
def NR.cells(a:NR):List Value:=[.bool a.neg,.string a.Qa,.int .i64 a.e]
def NR.len(a:NR):a.cells.length=3:=rfl
def NR.one(a:NR):a.cells.all Value.oneCell'=true:=rfl
def NR.i(a:NR):Int:=iv a.neg a.Qa
def NR.ma(a:NR):Dyadic:=Dyadic.ofIntWithPrec a.i (-a.e)
def nR:Dyadic->NR
 |.zero=>⟨false,ByteArray.mk #[],0⟩
 |.ofOdd n k _=>⟨iN n,iM n, -k⟩
def yq:nR 0=⟨false,ByteArray.mk #[],0⟩:=rfl
def Za(x:Dyadic):(nR x).ma=x:=by
 cases x with
 |zero=>rfl
 |ofOdd n k h=>
  simp only[nR,NR.ma,NR.i,td,Y6];exact(mN n k h).symm
def acm{x y:Dyadic}:nR x=nR y↔x=y:=⟨λh=>by rw[<-Za x,h,Za],λh=>by rw[h]⟩
def ac2(s:Bool)(a:ByteArray):(iv s a).trailingZeros=tz (bN a):=by
 unfold iv;split
 .rw[Int.trailingZeros_neg];rfl
 rfl
def yL(s:Bool)(a:ByteArray):iv s a=0↔bN a=0:=by
 have:=Fj s a;omega
def St{s:Bool}{a:ByteArray}{e:Int}(h:iv s a≠0):nR (Dyadic.ofIntWithPrec (iv s a) (-e))=⟨iN (iv s a/2^tz (bN a)),iM (iv s a/2^tz (bN a)),e+tz (bN a)⟩:=by
 rw[SK h,nR,Int.shiftRight_eq_div_pow,ac2];have e1: -(-e-(tz (bN a):Int))=e+tz (bN a):=Z';rw[e1,Int.natCast_pow];rfl
def Sz(k:Nat)(x:Dyadic):Prop:=∃i:Int,x=Dyadic.ofIntWithPrec i k/\i.natAbs<2^(2*k)
def Sz.zero(k:Nat):Sz k 0:=⟨0,rfl,by simpa using r_ Z'⟩
def Sz.mono{l:Nat}{x:Dyadic}(h:Sz k x)(hl:k<=l):Sz l x:=by
 obtain⟨i,rfl,hi⟩:=h;refine⟨i*2^(l-k),Bg i Z', ?_⟩;rw[U8,X7];have h1:i.natAbs*2^(l-k)<2^(2*k)*2^(l-k):=n8 hi (r_ Z');rw[<-D_] at h1;exact T9 h1 (m_ Z' Z')
def Sz.neg{x:Dyadic}(h:Sz k x):Sz k (-x):=by
 obtain⟨i,rfl,hi⟩:=h;exact⟨-i,UM _ _,by rw[Int.natAbs_neg];exact hi⟩
def Sz.add{x y:Dyadic}(hx:Sz k x)(hy:Sz k y):Sz (k+1) (x+y):=by
 obtain⟨i,rfl,hi⟩:=hx;obtain⟨j,rfl,hj⟩:=hy;rw[Tr];refine⟨(i+j)*2^1,Bg _ Z', ?_⟩;have h1:2^(2*(k+1))=4*2^(2*k):=by rw[show 2*(k+1)=2*k+2 by omega,D_];omega
 rw[h1];omega
def Sz.sub{x y:Dyadic}(hx:Sz k x)(hy:Sz k y):Sz (k+1) (x-y):=hx.add hy.neg
def Sz.mul{l:Nat}{x y:Dyadic}(hx:Sz k x)(hy:Sz l y):Sz (k+l) (x*y):=by
 obtain⟨i,rfl,hi⟩:=hx;obtain⟨j,rfl,hj⟩:=hy;rw[XC];refine⟨i*j,by rw[F8], ?_⟩;rw[U8,X9,D_];exact R5 hi hj
def Js{i:Int}(h:i≠0):2^i.trailingZeros<=i.natAbs:=by
 have h1:=Int.two_pow_trailingZeros_dvd h;have h2:=Int.natAbs_dvd_natAbs.2 h1;rw[X7] at h2;exact Nat.le_of_dvd Z' h2
def Sz.nr{x:Dyadic}(h:Sz k x):(nR x).Qa.size<=(2*k+7)/8/\ -(k:Int)<=(nR x).e/\(nR x).e<=k:=by
 obtain⟨i,rfl,hi⟩:=h;by_cases h0:i=0
 .subst h0;rw[Zh,yq];exact⟨D' _,(by omega: -(k:Int)<=0),(by omega:(0:Int)<=k)⟩
 have h2:=Js h0;rw[SK h0,nR];simp only;refine⟨?_,Z', ?_⟩
 .rw[Lc];have:Sa (i>>>i.trailingZeros).natAbs<=2*k:=(by apply Dc;refine S9 ?_ hi;rw[Int.shiftRight_eq_div_pow];exact y7 _ _);omega
 have h3:2^i.trailingZeros<2^(2*k):=S9 h2 hi;have:=(Nat.pow_lt_pow_iff_right Z').1 h3;omega
def Sz.raw{a:NR}{E:Nat}(hm:8*a.Qa.size<=m)(h1: -(E:Int)<=a.e)(h2:a.e<=E):Sz (m+E) a.ma:=by
 refine⟨a.i*2^(a.e+m+E).toNat,Bg _ Z', ?_⟩;have h3:a.i.natAbs<2^m:=(by rw[NR.i,Fj];refine T9 (Tb _) (m_ Z' ?_);have:=Mf a.Qa;omega);rw[U8,X7];have h4:=n8 h3 (r_ (n:=(a.e+m+E).toNat) (show 0<2 by omega));rw[<-D_] at h4;exact T9 h4 (m_ Z' Z')
def Sy(i n:Int):Int:=if 0<=n then i*2^n.toNat else i/2^(-n).toNat
def vS(n:Int):Sy 0 n=0:=by unfold Sy;split<;>simp
def Qc:Dyadic->Int->Int
 |.zero,_=>0
 |.ofOdd n k _,p=>Sy n (p-k)
def Bd:Dyadic->Dyadic->Int
 |.zero,.zero=>0
 |.zero,.ofOdd _ k _=>k
 |.ofOdd _ k _,.zero=>k
 |.ofOdd _ k _,.ofOdd _ l _=>max k l
def Io(n k p:Int)(h:n % 2=1)(hp:k<=p):Dyadic.ofIntWithPrec (Qc (.ofOdd n k h) p) p=.ofOdd n k h:=by
 simp only[Qc];rw[mN,Sy,J' Z'];exact(Bg n Z').symm
def UU(x y:Dyadic):Dyadic.ofIntWithPrec (Qc x (Bd x y)) (Bd x y)=x:=by
 cases x with
 |zero=>rfl
 |ofOdd n k h=>
  cases y with
  |zero=>exact Io _ _ _ _ (W6 _)
  |ofOdd m l g=>exact Io _ _ _ _ (Int.le_max_left _ _)
def jS(x y:Dyadic):Dyadic.ofIntWithPrec (Qc y (Bd x y)) (Bd x y)=y:=by
 cases y with
 |zero=>rfl
 |ofOdd n k h=>
  cases x with
  |zero=>exact Io _ _ _ _ (W6 _)
  |ofOdd m l g=>exact Io _ _ _ _ (Int.le_max_right _ _)
def iX(x y:Dyadic):Dyadic.ofIntWithPrec (Qc x (Bd x y)+Qc y (Bd x y)) (Bd x y)=x+y:=by
 rw[<-Tr,UU,jS]
def eQ(i n:Int):Sa (Sy i n).natAbs<=Sa i.natAbs+n.toNat:=by
 unfold Sy;split
 .rw[U8,X7];exact Xg _ _
 have:Sa (i/2^(-n).toNat).natAbs<=Sa i.natAbs:=Dc (S9 (y7 _ _) (Tb _));omega
def nN(x y:Dyadic)(E:Int)(h1: -E<=(nR x).e/\(nR x).e<=E)(h2: -E<=(nR y).e/\(nR y).e<=E): -E<=Bd x y/\Bd x y<=E:=by
 cases x<;>cases y<;>simp only[nR,Bd] at* <;>omega
def pw(x:Dyadic)(p:Int):Sa (Qc x p).natAbs<=8*(nR x).Qa.size+(p+(nR x).e).toNat:=by
 cases x with
 |zero=>simp[Qc,Ik]
 |ofOdd n k h=>
  have h1:=eQ n (p-k);have h2:=Mf (iM n);rw[iM,Ue] at h2;simp only[Qc,nR];rw[show p+ -k=p-k by omega];rw[<-iM] at h2;omega
variable {P:Program}{by' off:Nat}{zc:List Value}
def SS{t:TypeId}{cs:Array Value}{v:Value}(ht:Dd P t=some (n,false,by',zc))(hv:cs[off]?=some v)(w:World):(part t cs off).run P w=.ok v w:=by
 simp[part,zh ht,hv]
def XQ{t:TypeId}{cs vs:Array Value}(ht:Dd P t=some (n,true,by',zc))(hv:cs.extract off (off+n)=vs)(w:World):(part t cs off).run P w=.ok (.agg vs) w:=by
 simp[part,zh ht,zf ht,hv]
def agl(n:Nat)(a b:Bool)(w:World):(Op.equalIn (n+1) 4 (.bool a) (.bool b)).run prog w=.ok (a==b) w:=by
 simp[Op.equalIn,run_underlying Tryz.underlying4]
def agd(n:Nat)(a b:ByteArray)(w:World):(Op.equalIn (n+1) 9 (.string a) (.string b)).run prog w=.ok (a==b) w:=by
 simp[Op.equalIn,run_underlying Tryz.underlying9]
def afW(n:Nat)(a b:Int)(w:World):(Op.equalIn (n+1) 3 (.int .i64 a) (.int .i64 b)).run prog w=.ok (a==b) w:=by
 simp[Op.equalIn,run_underlying Tryz.underlying3]
def eq_int(n:Nat)(s s':Bool)(a a':ByteArray)(w:World):(Op.equalIn (n+2) 28 (.agg #[.bool s,.string a]) (.agg #[.bool s',.string a'])).run prog w=.ok (s==s' && a==a') w:=by
 have h1:=λ(x:Bool) (y:ByteArray)=>SS (P:=prog) (cs:= #[.bool x,.string y]) (off:=0) (ya.out (P:=prog) (t:=4)) rfl;have h2:=λ(x:Bool) (y:ByteArray)=>SS (P:=prog) (cs:= #[.bool x,.string y]) (off:=1) (ya.out (P:=prog) (t:=9)) rfl;rw[Op.equalIn];simp[run_underlying Tryz.underlying28,h1,h2,agl,agd]
 cases h:s==s'<;>cases h':a==a'<;>simp_all
def uR(n:Nat)(s s':Bool)(a a':ByteArray)(e e':Int)(w:World):(Op.equalIn (n+3) 30 (.agg #[.bool s,.string a,.int .i64 e]) (.agg #[.bool s',.string a',.int .i64 e'])).run prog w=.ok ((s==s' && a==a') && e==e') w:=by
 have h1:=λ(x:Bool) (y:ByteArray) (z:Int)=>XQ (P:=prog) (cs:= #[.bool x,.string y,.int .i64 z]) (vs:= #[.bool x,.string y]) (off:=0) (ya.out (P:=prog) (t:=28)) rfl;have h2:=λ(x:Bool) (y:ByteArray) (z:Int)=>SS (P:=prog) (cs:= #[.bool x,.string y,.int .i64 z]) (off:=2) (ya.out (P:=prog) (t:=3)) rfl;rw[Op.equalIn];simp[run_underlying Tryz.underlying30,h1,h2,eq_int,afW]
 cases h:s==s'<;>cases h':a==a'<;>cases h2:e==e'<;>simp_all
variable {a:ByteArray}
def abZ{a b:ByteArray}:(a==b)=true↔a=b:=by
 have:(a==b)=(a.data==b.data):=rfl;rw[this,R8];exact⟨λh=>by cases a;cases b;simp_all,λh=>by rw[h]⟩
variable {s s':Bool}{a':ByteArray}{e e':Int}
def im:((s==s' && a==a') && e==e')=true↔NR.mk s a e=NR.mk s' a' e':=by
 rw[Q_,Q_,R8,abZ,R8,NR.mk.injEq,and_assoc]
variable {r:Bool}{ρ:Rf}{d:Option Nat}{ty u:TypeId}{pos:String}{af:Array Edge}{g:Option (Nat×Bool)}{x y:Operand}
def aaE(hx:ev ρ x=.agg #[.bool s,.string a,.int .i64 e])(hy:ev ρ y=.agg #[.bool s',.string a',.int .i64 e'])(hr:((s==s' && a==a') && e==e')=r):(execOp (ev ρ) ⟨d,.binOp .eql 30 x y u,ty,pos,af,g⟩).run prog w=.ok (.value (.bool r)) w:=by
 exact acT
def ZZ(hx:ev ρ x=.agg #[.bool s,.string a,.int .i64 e])(hy:ev ρ y=.agg #[.bool s',.string a',.int .i64 e'])(hr:((s==s' && a==a') && e==e')=r):(execOp (ev ρ) ⟨d,.binOp .neq 30 x y u,ty,pos,af,g⟩).run prog w=.ok (.value (.bool !r)) w:=by
 exact acT
def YX(hx:ev ρ x=.agg #[.bool s,.string a,.int .i64 e])(hy:ev ρ y=.agg #[.bool s',.string a',.int .i64 e'])(h:NR.mk s a e=NR.mk s' a' e'):(execOp (ev ρ) ⟨d,.binOp .eql 30 x y u,ty,pos,af,g⟩).run prog w=.ok (.value (.bool true)) w:=aaE hx hy (im.2 h)
def pW(hx:ev ρ x=.agg #[.bool s,.string a,.int .i64 e])(hy:ev ρ y=.agg #[.bool s',.string a',.int .i64 e'])(h:¬NR.mk s a e=NR.mk s' a' e'):(execOp (ev ρ) ⟨d,.binOp .eql 30 x y u,ty,pos,af,g⟩).run prog w=.ok (.value (.bool false)) w:=aaE hx hy (by rw[y6];exact λh1=>h (im.1 h1))
def QC(hx:ev ρ x=.agg #[.bool s,.string a,.int .i64 e])(hy:ev ρ y=.agg #[.bool s',.string a',.int .i64 e'])(h:NR.mk s a e=NR.mk s' a' e'):(execOp (ev ρ) ⟨d,.binOp .neq 30 x y u,ty,pos,af,g⟩).run prog w=.ok (.value (.bool false)) w:=ZZ hx hy (im.2 h)
def cM(hx:ev ρ x=.agg #[.bool s,.string a,.int .i64 e])(hy:ev ρ y=.agg #[.bool s',.string a',.int .i64 e'])(h:¬NR.mk s a e=NR.mk s' a' e'):(execOp (ev ρ) ⟨d,.binOp .neq 30 x y u,ty,pos,af,g⟩).run prog w=.ok (.value (.bool true)) w:=ZZ hx hy (r:=false) (by rw[y6];exact λh1=>h (im.1 h1))
variable {ro:Mode}{ops:Array Oper}{Q:Kq}{rest:List Oper}{d:Nat}
def xL(hx:ev ρ x=.agg #[.bool s,.string a,.int .i64 e])(hy:ev ρ y=.agg #[.bool s',.string a',.int .i64 e'])(h:NR.mk s a e=NR.mk s' a' e')(hN:d<N)(kk:WL ro prog N ops Q rest (sc ρ d (.bool true)) w):
  WL ro prog N ops Q (⟨some d,.binOp .eql 30 x y u,ty,pos,af,none⟩::rest) ρ w:=Ia rfl rfl hN (YX hx hy h) kk
def sB(hx:ev ρ x=.agg #[.bool s,.string a,.int .i64 e])(hy:ev ρ y=.agg #[.bool s',.string a',.int .i64 e'])(h:¬NR.mk s a e=NR.mk s' a' e')(hN:d<N)(kk:WL ro prog N ops Q rest (sc ρ d (.bool false)) w):
  WL ro prog N ops Q (⟨some d,.binOp .eql 30 x y u,ty,pos,af,none⟩::rest) ρ w:=Ia rfl rfl hN (pW hx hy h) kk
def AY(hx:ev ρ x=.agg #[.bool s,.string a,.int .i64 e])(hy:ev ρ y=.agg #[.bool s',.string a',.int .i64 e'])(h:¬NR.mk s a e=NR.mk s' a' e')(hN:d<N)(kk:WL ro prog N ops Q rest (sc ρ d (.bool true)) w):
  WL ro prog N ops Q (⟨some d,.binOp .neq 30 x y u,ty,pos,af,none⟩::rest) ρ w:=Ia rfl rfl hN (cM hx hy h) kk
def sY(hx:ev ρ x=.agg #[.bool s,.string a,.int .i64 e])(hy:ev ρ y=.agg #[.bool s',.string a',.int .i64 e'])(h:NR.mk s a e=NR.mk s' a' e')(hN:d<N)(kk:WL ro prog N ops Q rest (sc ρ d (.bool false)) w):
  WL ro prog N ops Q (⟨some d,.binOp .neq 30 x y u,ty,pos,af,none⟩::rest) ρ w:=Ia rfl rfl hN (QC hx hy h) kk
def ni(s:Bool)(a:ByteArray)(n:Int)(w:World)(hT:Sc w)(ha:a.size<=100000000)(h1: -1000000000<=n)(h2:n<=1000000000):Calls prog 198 #[.agg #[.bool s,.string a],.int .i64 n] w λe w'=>e=.returned (.agg #[.bool (iN (Sy (iv s a) n)),.string (iM (Sy (iv s a) n))])/\Below w.heap.size w w':=by
 unfold Sy;by_cases h:0<=n
 .rw[J' h];obtain⟨m,rfl⟩:=T5 h;rw[p8];exact iI s a m w ha Z'
 rw[L' h];obtain⟨m,hm⟩:=T5 (show 0<= -n by omega);rw[hm,p8,show n= -(m:Int) by omega];exact YH s a m w hT ha Z' Z'
def Bf(s:Bool)(a:ByteArray)(e:Int)(w:World)(hT:Sc w)(ha:a.size<=100000000)(h1: -1000000000000<=e)(h2:e<=1000000000000):Calls prog 123 #[.agg #[.bool s,.string a],.int .i64 e] w λr w'=>r=.returned (.agg #[.bool (nR (Dyadic.ofIntWithPrec (iv s a) (-e))).neg,.string (nR (Dyadic.ofIntWithPrec (iv s a) (-e))).Qa,.int .i64 (nR (Dyadic.ofIntWithPrec (iv s a) (-e))).e])/\Below w.heap.size w w':=by
 have hh:=Hp.start w;by_cases h0:iv s a=0
 .rw[h0,Zh,yq];refine da (N:=21) (l:=[.agg #[.bool s,.string a],.int .i64 e]) func123 rfl rfl (by simp) ?_;refine Sb ?_;intro b2 w2 hh b4 w4 hh;refine Oa hh (Ig s a _) rfl ?_;intro w7 hh;rw[h0];exact lH
 have hs:(iv s a).sign≠0:=by rw[ne_eq,n6];exact h0
 rw[St h0];have hz:bN a≠0:=λh=>h0 ((yL s a).2 h);have htz:tz (bN a)<8*a.size+1:=(by have:=wA a;rw[show(256:Nat)=2^8 from rfl,<-W9] at this;have:=Qz hz this;omega);have hsh:Sy (iv s a) (-(tz (bN a):Int))=iv s a/2^tz (bN a):=by
  unfold Sy;split
  .have:tz (bN a)=0:=Z';rw[this];simp
  rw[Y6,p8]
 refine da (N:=21) (l:=[.agg #[.bool s,.string a],.int .i64 e]) func123 rfl rfl (by simp) ?_;refine Sb ?_;intro b2 w2 hh b4 w4 hh;refine Oa hh (Ig s a _) rfl ?_;intro w7 hh;refine fa ?_;refine Oa hh (Mj a _ Z' (hT.hp hh)) rfl ?_;intro w12 hh;refine fa ?_;refine Oa hh (ni s a (-(tz (bN a):Int)) _ (hT.hp hh) ha Z' Z') rfl ?_;intro w16 hh;rw[hsh];exact lH
def NR.ok(a:NR):Prop:=a.Qa.size<=1000000/\ -10000000<=a.e/\a.e<=10000000
def Sz.ok{x:Dyadic}(h:Sz k x)(hk:k<=3999990):(nR x).ok:=by
 have:=h.nr;refine⟨Z',Z',Z'⟩
def Tk(n:Int)(w:World)(hT:Sc w)(h1: -9223372036854775808<=n)(h2:n<=9223372036854775807):Calls prog 67 #[.int .i64 n] w λr w'=>r=.returned (.agg #[.bool (nR (n:Dyadic)).neg,.string (nR (n:Dyadic)).Qa,.int .i64 (nR (n:Dyadic)).e])/\Below w.heap.size w w':=by
 have hh:=Hp.start w;have hsz:(iM n).size<=100000000:=(by rw[Lc];have:Sa n.natAbs<=64:=Dc Z';omega);have hc:∀w1,Sc w1->Calls prog 123 #[.agg #[.bool (iN n),.string (iM n)],.int .i64 0] w1 λr w'=>r=.returned (.agg #[.bool (nR (n:Dyadic)).neg,.string (nR (n:Dyadic)).Qa,.int .i64 (nR (n:Dyadic)).e])/\Below w1.heap.size w1 w':=λw1 hT1=>(by have:=Bf (iN n) (iM n) 0 w1 hT1 hsz Z' Z';rw[td] at this;exact this);refine da (N:=6) (l:=[.int .i64 n]) func67 rfl rfl (by simp) ?_;refine Jb ?_;intro b2 w2 hh;refine Oa hh (sj n _ h1 h2) rfl ?_;intro w4 hh;refine Oa hh (hc _ (hT.hp hh)) rfl ?_;intro w5 hh;exact lH
def Ed(a:NR)(w:World)(hT:Sc w)(ha:a.Qa.size<=100000000)(h1: -1000000000000<=a.e)(h2:a.e<=1000000000000):Calls prog 85 #[.agg #[.bool a.neg,.string a.Qa,.int .i64 a.e]] w λr w'=>r=.returned (.agg #[.bool (nR a.ma).neg,.string (nR a.ma).Qa,.int .i64 (nR a.ma).e])/\Below w.heap.size w w':=by
 have hh:=Hp.start w;refine da (N:=8) (l:=[.agg #[.bool a.neg,.string a.Qa,.int .i64 a.e]]) func85 rfl rfl (by simp) ?_;refine Sb ?_;intro b1 w1 hh b2 w2 hh;refine Oa hh (Bf a.neg a.Qa a.e _ (hT.hp hh) ha h1 h2) rfl ?_;intro w7 hh;exact lH
def Pc(a:NR)(w:World):Calls prog 31 #[.agg #[.bool a.neg,.string a.Qa,.int .i64 a.e]] w λr w'=>r=.returned (.int .i64 a.i.sign)/\Below w.heap.size w w':=by
 have hh:=Hp.start w;refine da (N:=6) (l:=[.agg #[.bool a.neg,.string a.Qa,.int .i64 a.e]]) func31 rfl rfl (by simp) ?_;refine Jb ?_;intro b1 w1 hh;refine Oa hh (Ig a.neg a.Qa _) rfl ?_;intro w5 hh;refine fa ?_;exact⟨rfl,hh.below⟩
def Hi(a:NR)(w:World)(hT:Sc w)(ha:a.Qa.size<=100000000)(h1: -1000000000000<=a.e)(h2:a.e<=1000000000000):Calls prog 69 #[.agg #[.bool a.neg,.string a.Qa,.int .i64 a.e]] w λr w'=>r=.returned (.agg #[.bool (nR (-a.ma)).neg,.string (nR (-a.ma)).Qa,.int .i64 (nR (-a.ma)).e])/\Below w.heap.size w w':=by
 have hh:=Hp.start w;have hc:∀w1,Sc w1->Calls prog 123 #[.agg #[.bool (iN (-(iv a.neg a.Qa))),.string (iM (-(iv a.neg a.Qa)))],.int .i64 a.e] w1 λr w'=>r=.returned (.agg #[.bool (nR (-a.ma)).neg,.string (nR (-a.ma)).Qa,.int .i64 (nR (-a.ma)).e])/\Below w1.heap.size w1 w':=λw1 hT1=>(by have hs:=fk a.neg a.Qa;have:=Bf (iN (-(iv a.neg a.Qa))) (iM (-(iv a.neg a.Qa))) a.e w1 hT1 Z' h1 h2;rw[td,<-UM] at this;exact this);refine da (N:=9) (l:=[.agg #[.bool a.neg,.string a.Qa,.int .i64 a.e]]) func69 rfl rfl (by simp) ?_;refine Sb ?_;intro b1 w1 hh b2 w2 hh;refine Ca 5 [[(1,none)],[(3,some 0)],[(4,some 1)],[(1,none)],[(6,some 3)]] [(4,7),(3,6),(2,5),(1,4),(0,3)] hh mixed T' ?_;refine yd ?_;refine Vd 1 [_,_] ?_;refine dC (λ_ hj=>Fg a.neg a.Qa _) ?_;refine yd ?_;refine xe 1 ?_;refine xa ?_;intro f W hJ hV;have hb_1:=hJ.bl;obtain⟨v7,v6,v5,v4,v3,_⟩:=hV;replace hh:=hJ.hp;refine Da (Na (aa v7 (aa v6 (aa v5 (aa v4 (aa v3 Ea)))))) ?_;dsimp only[Bb];clear hJ;refine Oa hh (hc _ (hT.hp hh)) rfl ?_;intro w8 hh;exact lH
def BA(s:Int)(a:NR)(w:World)(hT:Sc w)(ha:a.Qa.size<=100000000)(h1: -1000000000<=a.e-s)(h2:a.e-s<=1000000000):Calls prog 149 #[.int .i64 s,.agg #[.bool a.neg,.string a.Qa,.int .i64 a.e]] w λr w'=>r=.returned (.agg #[.bool (iN (Sy a.i (a.e-s))),.string (iM (Sy a.i (a.e-s)))])/\Below w.heap.size w w':=by
 have hh:=Hp.start w;refine da (N:=12) (l:=[.int .i64 s,.agg #[.bool a.neg,.string a.Qa,.int .i64 a.e]]) func149 rfl rfl (by simp) ?_;refine Sb ?_;intro b3 w3 hh b4 w4 hh;refine Oa hh (ni a.neg a.Qa (a.e-s) _ (hT.hp hh) ha h1 h2) rfl ?_;intro w11 hh;exact Vu
def PH(x:Dyadic)(p:Int):Sy (nR x).i ((nR x).e - -p)=Qc x p:=by
 cases x with
 |zero=>exact vS _
 |ofOdd n k h=>
  simp only[nR,NR.i,td,Qc];congr 1;omega
def Xj(x:Dyadic):nR x=⟨false,ByteArray.mk #[],0⟩↔x=0:=by rw[<-yq,acm]
def al{a:NR}(h:a.ok):Sz 18000000 a.ma/\(nR a.ma).Qa.size<=1000000/\ -18000000<=(nR a.ma).e/\(nR a.ma).e<=18000000:=by
 obtain⟨h1,h2,h3⟩:=h;refine⟨Sz.raw (m:=8000000) (E:=10000000) Z' Z' Z', ?_⟩;by_cases h0:iv a.neg a.Qa=0
 .rw[NR.ma,NR.i,h0,Zh,yq];exact⟨D' _,by simp,by simp⟩
 rw[NR.ma,NR.i,St h0];have hz:bN a.Qa≠0:=λh=>h0 ((yL a.neg a.Qa).2 h);have htz:tz (bN a.Qa)<8*a.Qa.size+1:=(by have:=wA a.Qa;rw[show(256:Nat)=2^8 from rfl,<-W9] at this;have:=Qz hz this;omega);have hb:Sa (iv a.neg a.Qa/2^tz (bN a.Qa)).natAbs<=8*a.Qa.size:=(by apply Dc;refine S9 (y7 _ _) ?_;rw[Fj];exact T9 (Tb _) (m_ Z' (Mf _)));simp only;rw[Lc];refine⟨Z',Z',Z'⟩
def Hq(a b:NR)(w:World)(hT:Sc w)(ha:a.ok)(hb:b.ok):Calls prog 81 #[.agg #[.bool a.neg,.string a.Qa,.int .i64 a.e],.agg #[.bool b.neg,.string b.Qa,.int .i64 b.e]] w λr w'=>r=.returned (.agg #[.int .i64 (-(Bd a.ma b.ma)),.bool (iN (Qc a.ma (Bd a.ma b.ma))),.string (iM (Qc a.ma (Bd a.ma b.ma))),.bool (iN (Qc b.ma (Bd a.ma b.ma))),.string (iM (Qc b.ma (Bd a.ma b.ma)))])/\Below w.heap.size w w':=by
 have hh:=Hp.start w;obtain⟨ha1,ha2,ha3⟩:=ha;obtain⟨hb1,hb2,hb3⟩:=hb;obtain⟨_,fa1,fa2,fa3⟩:=al (a:=a) ⟨ha1,ha2,ha3⟩;obtain⟨_,fb1,fb2,fb3⟩:=al (a:=b) ⟨hb1,hb2,hb3⟩;have hP:=nN a.ma b.ma 18000000 Z' Z';have hcx:=λw1 hT1=>BA (-(Bd a.ma b.ma)) (nR a.ma) w1 hT1 Z' Z' Z';have hcy:=λw1 hT1=>BA (-(Bd a.ma b.ma)) (nR b.ma) w1 hT1 Z' Z' Z';rw[PH] at hcx hcy;by_cases h0:a.ma=0
 .have h0':=(Xj a.ma).2 h0;have hs:(nR b.ma).e= -(Bd a.ma b.ma):=by
   rw[h0]
   cases b.ma with
   |zero=>rfl
   |ofOdd n k h=>rfl
  refine lS ?_;refine Dm ?_;intro b2 w2 hh b3 w3 hh b4 w4 hh;refine MT ?_;refine Vd 2 [_,_,_] ?_;refine mU ?_;refine Vd 1 [_,_,_] ?_;refine xa ?_;intro f W hJ hV;have hb_1:=hJ.bl;obtain⟨v9,v8,v7,_⟩:=hV;replace hh:=hJ.hp;refine Da (Na (aa v9 (aa v8 (aa v7 Ea)))) ?_;dsimp only[Bb];clear hJ;refine Oa hh (Ed b _ (hT.hp hh) Z' Z' Z') rfl ?_;intro w10 hh;refine Sb ?_;intro ws hh ws hh;refine xL rfl rfl (by first|assumption|rfl) U' ?_;exact zW7
 have h0':¬nR a.ma=⟨false,ByteArray.mk #[],0⟩:=λh=>h0 ((Xj _).1 h);by_cases h1:b.ma=0
 .have h1':=(Xj b.ma).2 h1;have hs:(nR a.ma).e= -(Bd a.ma b.ma):=by
   rw[h1]
   cases a.ma with
   |zero=>rfl
   |ofOdd n k h=>rfl
  refine lS ?_;refine Dm ?_;intro b2 w2 hh b3 w3 hh b4 w4 hh;refine MT ?_;refine Vd 2 [_,_,_] ?_;refine mU ?_;refine Vd 1 [_,_,_] ?_;refine xa ?_;intro f W hJ hV;have hb_1:=hJ.bl;obtain⟨v9,v8,v7,_⟩:=hV;replace hh:=hJ.hp;refine Da (Na (aa v9 (aa v8 (aa v7 Ea)))) ?_;dsimp only[Bb];clear hJ;refine Oa hh (Ed b _ (hT.hp hh) Z' Z' Z') rfl ?_;intro w10 hh;refine Sb ?_;intro ws hh ws hh;refine sB rfl rfl (by assumption) U' ?_;refine fa ?_;refine xL rfl rfl (by first|assumption|rfl) U' ?_;exact zW7
 have h1':¬nR b.ma=⟨false,ByteArray.mk #[],0⟩:=λh=>h1 ((Xj _).1 h);have hs:(if(nR b.ma).e<(nR a.ma).e then(nR b.ma).e else(nR a.ma).e)= -(Bd a.ma b.ma):=by
  revert h0 h1
  cases a.ma with
  |zero=>intro h;exact absurd rfl h
  |ofOdd n k h=>
   cases b.ma with
   |zero=>intro _ h;exact absurd rfl h
   |ofOdd m l g=>
    intro _ _;simp only[nR,Bd];omega
 refine lS ?_;refine Dm ?_;intro b2 w2 hh b3 w3 hh b4 w4 hh;refine MT ?_;refine Vd 2 [_,_,_] ?_;refine mU ?_;refine Vd 1 [_,_,_] ?_;refine xa ?_;intro f W hJ hV;have hb_1:=hJ.bl;obtain⟨v9,v8,v7,_⟩:=hV;replace hh:=hJ.hp;refine Da (Na (aa v9 (aa v8 (aa v7 Ea)))) ?_;dsimp only[Bb];clear hJ;refine Oa hh (Ed b _ (hT.hp hh) Z' Z' Z') rfl ?_;intro w10 hh;refine Sb ?_;intro ws hh ws hh;refine sB rfl rfl (by assumption) U' ?_;refine fa ?_;refine sB rfl rfl (by assumption) U' ?_;exact zW7
def Vg(x y:Dyadic):Int:=if x<y then -1 else if y<x then 1 else 0
def YF(i j p:Int):(i-j).sign=Vg (Dyadic.ofIntWithPrec i p) (Dyadic.ofIntWithPrec j p):=by
 unfold Vg;simp only[Tp];obtain h|h|h:=D6 i j
 .rw[J' h,E8 Z']
 .subst h;simp
 rw[L' Z',J' h,G8 Z']
def RI(i p:Int):i.sign=Vg (Dyadic.ofIntWithPrec i p) 0:=by
 have:=YF i 0 p;rwa[Int.sub_zero,Zh] at this
def NR.sign(a:NR):a.i.sign=Vg a.ma 0:=RI _ _
def RF(x y:Dyadic):(Qc x (Bd x y)-Qc y (Bd x y)).sign=Vg x y:=by
 rw[YF _ _ (Bd x y),UU,jS]
def FO(X Y:Int)(h:X.sign≠Y.sign):(if(if X.sign-Y.sign<1 then X.sign-Y.sign else 1)> -1 then(if X.sign-Y.sign<1 then X.sign-Y.sign else 1) else -1)=(X-Y).sign:=by
 obtain hx|hx|hx:=D6 X 0<;>obtain hy|hy|hy:=D6 Y 0
 .rw[E8 hx,E8 hy] at h;omega
 .rw[E8 hx,hy,Int.sub_zero,E8 hx];simp
 .rw[E8 hx,G8 hy,E8 Z'];simp
 .subst hx;rw[Int.sign_zero,E8 hy,G8 (a:=0-Y) Z'];simp
 .rw[hx,hy] at h;omega
 .subst hx;rw[Int.sign_zero,G8 hy,E8 (a:=0-Y) Z'];simp
 .rw[G8 hx,E8 hy,G8 Z'];simp
 .rw[G8 hx,hy,Int.sub_zero,G8 hx];simp
 rw[G8 hx,G8 hy] at h;omega
def Ls{a b:NR}(ha:a.ok)(hb:b.ok):(iM (Qc a.ma (Bd a.ma b.ma))).size<=6000000/\(iM (Qc b.ma (Bd a.ma b.ma))).size<=6000000/\ -18000000<=Bd a.ma b.ma/\Bd a.ma b.ma<=18000000:=by
 obtain⟨_,fa1,fa2,fa3⟩:=al ha;obtain⟨_,fb1,fb2,fb3⟩:=al hb;have hP:=nN a.ma b.ma 18000000 Z' Z';have h1:=pw a.ma (Bd a.ma b.ma);have h2:=pw b.ma (Bd a.ma b.ma);rw[Lc,Lc];refine⟨Z',Z',hP.1,hP.2⟩
def nk(i:Int): -1<=i.sign/\i.sign<=1:=by
 obtain h|h|h:=D6 i 0
 .rw[E8 h];omega
 .rw[h];simp
 rw[G8 h];omega
def xh(a b:NR)(w:World)(hT:Sc w)(ha:a.ok)(hb:b.ok):Calls prog 26 #[.agg #[.bool a.neg,.string a.Qa,.int .i64 a.e],.agg #[.bool b.neg,.string b.Qa,.int .i64 b.e]] w λr w'=>r=.returned (.int .i64 (Vg a.ma b.ma))/\Below w.heap.size w w':=by
 have hh:=Hp.start w;obtain⟨hs1,hs2,_⟩:=Ls ha hb;have hsa:a.i.sign=(Qc a.ma (Bd a.ma b.ma)).sign:=by rw[NR.sign,RI _ (Bd a.ma b.ma),UU]
 have hsb:b.i.sign=(Qc b.ma (Bd a.ma b.ma)).sign:=by rw[NR.sign,RI _ (Bd a.ma b.ma),jS]
 have hba:=nk a.i;have hbb:=nk b.i;by_cases hne:a.i.sign=b.i.sign
 .refine vZ ?_;refine Sb ?_;intro b2 w2 hh b3 w3 hh;refine Ca 3 [[(2,none)],[(8,some 0)],[(3,none)]] [(2,10),(1,9),(0,8)] hh mixed T' ?_;refine Vd 1 [_,_,_] ?_;refine dC (λ_ hj=>Pc a _) ?_;refine Vd 0 [_,_,_] ?_;refine xa ?_;intro f W hJ hV;have hb_1:=hJ.bl;obtain⟨v10,v9,v8,_⟩:=hV;replace hh:=hJ.hp;refine Da (Na (aa v10 (aa v9 (aa v8 Ea)))) ?_;dsimp only[Bb];clear hJ;refine Oa hh (Pc b _) rfl ?_;intro w11 hh;refine fa ?_;refine Oa hh (Hq a b _ (hT.hp hh) ha hb) rfl ?_;intro w22 hh;refine Sb ?_;intro b7 w7 hh ws hh;refine Oa hh (cJ _ _ _ _ _ Z' Z') rfl ?_;intro w27 hh;rw[td,td,RF];refine fa ?_;exact⟨rfl,hh.below⟩
 refine vZ ?_;refine Sb ?_;intro b2 w2 hh b3 w3 hh;refine Ca 3 [[(2,none)],[(8,some 0)],[(3,none)]] [(2,10),(1,9),(0,8)] hh mixed T' ?_;refine Vd 1 [_,_,_] ?_;refine dC (λ_ hj=>Pc a _) ?_;refine Vd 0 [_,_,_] ?_;refine xa ?_;intro f W hJ hV;have hb_1:=hJ.bl;obtain⟨v10,v9,v8,_⟩:=hV;replace hh:=hJ.hp;refine Da (Na (aa v10 (aa v9 (aa v8 Ea)))) ?_;dsimp only[Bb];clear hJ;refine Oa hh (Pc b _) rfl ?_;intro w11 hh;refine fa ?_;refine⟨?_,hh.below⟩;rw[hsa,hsb] at hne;rw[hsa,hsb,<-RF a.ma b.ma,<-FO _ _ hne]
def Kv(a:NR)(w:World)(hT:Sc w)(ha:a.Qa.size<=100000000)(h1: -1000000000000<=a.e)(h2:a.e<=1000000000000):Calls prog 29 #[.agg #[.bool a.neg,.string a.Qa,.int .i64 a.e]] w λr w'=>r=.returned (.agg #[.bool (nR (if a.ma<0 then -a.ma else a.ma)).neg,.string (nR (if a.ma<0 then -a.ma else a.ma)).Qa,.int .i64 (nR (if a.ma<0 then -a.ma else a.ma)).e])/\Below w.heap.size w w':=by
 have hh:=Hp.start w;have hs:=NR.sign a;by_cases h0:a.ma<0
 .have hs2:a.i.sign= -1:=by rw[hs,Vg,J' h0]
  rw[J' h0];refine da (N:=10) (l:=[.agg #[.bool a.neg,.string a.Qa,.int .i64 a.e]]) func29 rfl rfl (by simp) ?_;refine Sb ?_;intro b1 w1 hh b2 w2 hh;refine Oa hh (Pc a _) rfl ?_;intro w4 hh;rw[hs2];refine fa ?_;refine Oa hh (Hi a _ (hT.hp hh) ha h1 h2) rfl ?_;intro w7 hh;exact lH
 have hs2:¬a.i.sign<0:=by rw[hs,Vg,L' h0];split<;>omega
 rw[L' h0];refine da (N:=10) (l:=[.agg #[.bool a.neg,.string a.Qa,.int .i64 a.e]]) func29 rfl rfl (by simp) ?_;refine Sb ?_;intro b1 w1 hh b2 w2 hh;refine Oa hh (Pc a _) rfl ?_;intro w4 hh;refine fa ?_;refine Oa hh (Ed a _ (hT.hp hh) ha h1 h2) rfl ?_;intro w9 hh;exact lH
def Ie(n:Int):Dyadic:=Dyadic.ofIntWithPrec 1 (-n)
def ED(i p n:Int):Dyadic.ofIntWithPrec i (p-n)=Dyadic.ofIntWithPrec i p*Ie n:=by
 rw[Ie,XC,Int.mul_one];rfl
def Xr(a:NR)(n:Int)(w:World)(hT:Sc w)(ha:a.Qa.size<=100000000)(h1: -100000000000<=a.e)(h2:a.e<=100000000000)(h3: -100000000000<=n)(h4:n<=100000000000):Calls prog 66 #[.agg #[.bool a.neg,.string a.Qa,.int .i64 a.e],.int .i64 n] w λr w'=>r=.returned (.agg #[.bool (nR (a.ma*Ie n)).neg,.string (nR (a.ma*Ie n)).Qa,.int .i64 (nR (a.ma*Ie n)).e])/\Below w.heap.size w w':=by
 have hh:=Hp.start w;have e1:Dyadic.ofIntWithPrec (iv a.neg a.Qa) (-(a.e+n))=a.ma*Ie n:=(by rw[NR.ma,NR.i,<-ED];congr 1;omega);have hc:=λw1 hT1=>Bf a.neg a.Qa (a.e+n) w1 hT1 ha Z' Z';rw[e1] at hc;refine da (N:=12) (l:=[.agg #[.bool a.neg,.string a.Qa,.int .i64 a.e],.int .i64 n]) func66 rfl rfl (by simp) ?_;refine Sb ?_;intro b2 w2 hh b4 w4 hh;refine Oa hh (hc _ (hT.hp hh)) rfl ?_;intro w11 hh;exact lH
def rm:List Dyadic->Dyadic:=λl=>l.foldl (· + ·) 0
def ZA(l:List Dyadic)(x:Dyadic):rm (l++[x])=rm l+x:=by simp[rm]
def Sz.sum{l:List Dyadic}(h:∀x∈l,Sz k x):Sz (k+l.length) (rm l):=by
 have:∀(n:Nat),n<=l.length->Sz (k+n) (rm (l.take n)):=by
  intro n
  induction n with
  |zero=>intro _;exact Sz.zero _
  |succ n ih=>
   intro hn;obtain⟨x,hx⟩:=ea (l:=l) (k:=n) Z';rw[oa hx,ZA];exact(ih Z').add ((h x (G' hx)).mono Z')
 have h2:=this l.length (j' _);rwa[z6] at h2
def ky(a b:NR)(w:World)(hT:Sc w)(ha:a.ok)(hb:b.ok):Calls prog 123 #[.agg #[.bool (iN (Qc a.ma (Bd a.ma b.ma)+Qc b.ma (Bd a.ma b.ma))),.string (iM (Qc a.ma (Bd a.ma b.ma)+Qc b.ma (Bd a.ma b.ma)))],.int .i64 (-(Bd a.ma b.ma))] w λr w'=>r=.returned (.agg #[.bool (nR (a.ma+b.ma)).neg,.string (nR (a.ma+b.ma)).Qa,.int .i64 (nR (a.ma+b.ma)).e])/\Below w.heap.size w w':=by
 obtain⟨hs1,hs2,hP1,hP2⟩:=Ls ha hb;rw[Lc] at hs1 hs2;have h3:=Wl (Qc a.ma (Bd a.ma b.ma)) (Qc b.ma (Bd a.ma b.ma));have:=Bf (iN (Qc a.ma (Bd a.ma b.ma)+Qc b.ma (Bd a.ma b.ma))) (iM (Qc a.ma (Bd a.ma b.ma)+Qc b.ma (Bd a.ma b.ma))) (-(Bd a.ma b.ma)) w hT (by rw[Lc];omega) Z' Z';rw[td,Y6,iX] at this;exact this
def Kf(L:Option Addr)(n c:Nat)(l:List NR)(w:World)(hT:Sc w)(hS:Sl w L n 3 (na NR.cells l))(hl:∀a∈l,a.ok)(k:Nat)(hk:∀a∈l,Sz k a.ma)(hkn:k+n<=3999990):Calls prog 63 #[.slice L n c] w λr w'=>r=.returned (.agg #[.bool (nR (rm (l.map NR.ma))).neg,.string (nR (rm (l.map NR.ma))).Qa,.int .i64 (nR (rm (l.map NR.ma))).e])/\Below w.heap.size w w':=by
 have hln:=hS.Fa NR.len Z';have hh:=Hp.start w;refine da (N:=27) (l:=[.slice L n c]) func63 rfl rfl (by simp) ?_;refine Sb ?_;intro b2 w2 hh b3 w3 hh;refine Ba [5,6,9,10,11,12,13,14,15,16,17,18,19,20,21,22,23,24,25] 9 (λj w'=>∃(i:Nat)(S:Dyadic),i<=n/\j=.int .i64 i/\S=rm ((l.take i).map NR.ma)/\Hp w [.blk b3 30 [.bool (nR S).neg,.string (nR S).Qa,.int .i64 (nR S).e] (0,0),.blk b2 30 [.bool false,.string (ByteArray.mk #[]),.int .i64 0] (0,0)] w') (λj _=>n-(intOf j).toNat) ?_ ?_
 .exact⟨0,0,D' _,rfl,rfl,hh⟩
 clear hh;rintro ρ' j w' ⟨i,S,hi,rfl,hS2,hh⟩;by_cases hlt:i<n
 .obtain⟨x,hx⟩:=ea (l:=l) (k:=i) Z';obtain⟨ad,rfl,hr⟩:=hS.at_ Z';have hxm:=G' hx;have hS3:rm ((l.take (i+1)).map NR.ma)=S+x.ma:=by rw[oa hx,n_,J7,ZA,hS2]
  have hSz:Sz (k+i) S:=by
   rw[hS2];have:=Sz.sum (k:=k) (l:=(l.take i).map NR.ma) (λy hy=>by
    obtain⟨a,ha,rfl⟩:=Z_.1 hy;exact hk a (N8 ha))
   rw[i',R_,C9 Z'] at this;exact this
  have hSo:=hSz.ok Z';have hlc:=λw1 hT1=>Hq (nR S) x w1 hT1 hSo (hl x hxm);have hmc:=λw1 hT1=>ky (nR S) x w1 hT1 hSo (hl x hxm);obtain⟨hs1,hs2,_⟩:=Ls hSo (hl x hxm);rw[Za] at hlc hmc hs1 hs2;have e1:([iR (Qc S (Bd S x.ma)),iR (Qc x.ma (Bd S x.ma))].map IR.v).sum=Qc S (Bd S x.ma)+Qc x.ma (Bd S x.ma):=(by simp only[q_,G9,x6,List.sum_nil,fT];omega);have hac:∀(A:Option Addr)(cc:Nat)(w1:World),Sl w1 A 2 2 (na IR.cells [iR (Qc S (Bd S x.ma)),iR (Qc x.ma (Bd S x.ma))])->Calls prog 124 #[.slice A 2 cc] w1 λe w'=>e=.returned (.agg #[.bool (iN (Qc S (Bd S x.ma)+Qc x.ma (Bd S x.ma))),.string (iM (Qc S (Bd S x.ma)+Qc x.ma (Bd S x.ma)))])/\Below w1.heap.size w1 w':=λA cc w1 hsl=>(by have:=mm A 2 cc [iR (Qc S (Bd S x.ma)),iR (Qc x.ma (Bd S x.ma))] w1 hsl Z' (by simp[iR];omega);rw[e1] at this;exact this);refine fa ?_;refine JK ?_;refine Sb ?_;intro b5 w5 hh ws hh;refine Oa hh (hlc _ (hT.hp hh)) rfl ?_;intro w15 hh;refine Sb ?_;intro b6 w6 hh ws hh;refine Ca 8 [[(6,none)],[(16,some 0)],[(6,none)],[(18,some 2)],[(17,some 1),(19,some 3)],[(20,some 4)],[(6,none)],[(22,some 6)]] [(7,23),(6,22),(5,21),(4,20),(3,19),(2,18),(1,17),(0,16)] hh mixed T' ?_;refine yd ?_;refine Vd 0 [_,_] ?_;refine yd ?_;refine Vd 0 [_,_] ?_;refine qq [_,_,_,_] ?_;refine Va (i:=5) (Is (.agg #[.bool (iN (Qc S (Bd S x.ma)+Qc x.ma (Bd S x.ma))),.string (iM (Qc S (Bd S x.ma)+Qc x.ma (Bd S x.ma)))])) Is.ext ?_ ?_
  .intro ρ1 w1 hj hR;obtain⟨A20,c20,h20,s20⟩:=hR.1;exact Pb rfl (qb ja.out (Ga h20 Fb)) (hac A20 c20 _ s20) (λ_ _ hq=>⟨_,hq.1,hq.2,rfl⟩)
  refine yd ?_;refine xe 0 ?_;refine xa ?_;intro f W hJ hV;have hb_6:=hJ.bl;obtain⟨v23,v22,v21,v20,v19,v18,v17,v16,_⟩:=hV;obtain⟨A20,c20,e20,f20⟩:Rows _ _ _ (f 4) W:=v20;replace hh:=hJ.hp;refine Da (Na (aa v23 (aa v22 (aa v21 (aa e20 (aa v19 (aa v18 (aa v17 (aa v16 Ea))))))))) ?_;dsimp only[Bb];clear e20 hJ;refine Oa hh (hmc _ (hT.hp hh)) rfl ?_;intro w24 hh;refine Jb ?_;intro ws hh;replace hh:=hh.sub ((s_ _ _).trans (s_ _ _));exact S0
 exact ac4
def Rh(x y:Dyadic):rm [x,y]=x+y:=by
 show(0+x)+y=x+y;rw[M7]
def Bp(a b:NR)(w:World)(hT:Sc w)(ha:a.ok)(hb:b.ok)(k:Nat)(hka:Sz k a.ma)(hkb:Sz k b.ma)(hk:k<=3999980):Calls prog 27 #[.agg #[.bool a.neg,.string a.Qa,.int .i64 a.e],.agg #[.bool b.neg,.string b.Qa,.int .i64 b.e]] w λr w'=>r=.returned (.agg #[.bool (nR (a.ma-b.ma)).neg,.string (nR (a.ma-b.ma)).Qa,.int .i64 (nR (a.ma-b.ma)).e])/\Below w.heap.size w w':=by
 have hh:=Hp.start w;obtain⟨hb1,hb2,hb3⟩:=hb;have e1:rm ([a,nR (-b.ma)].map NR.ma)=a.ma-b.ma:=(by simp only[q_,G9,Za,Rh];rfl);have hac:∀(A:Option Addr)(cc:Nat)(w1:World),Sc w1->Sl w1 A 2 3 (na NR.cells [a,nR (-b.ma)])->Calls prog 63 #[.slice A 2 cc] w1 λr w'=>r=.returned (.agg #[.bool (nR (a.ma-b.ma)).neg,.string (nR (a.ma-b.ma)).Qa,.int .i64 (nR (a.ma-b.ma)).e])/\Below w1.heap.size w1 w':=λA cc w1 hT1 hsl=>(by have:=Kf A 2 cc [a,nR (-b.ma)] w1 hT1 hsl (by simpa using⟨ha,hkb.neg.ok Z'⟩) k (by simpa[Za] using⟨hka,hkb.neg⟩) Z';rw[e1] at this;exact this);refine da (N:=10) (l:=[.agg #[.bool a.neg,.string a.Qa,.int .i64 a.e],.agg #[.bool b.neg,.string b.Qa,.int .i64 b.e]]) func27 rfl rfl (by simp) ?_;refine Dm ?_;intro b2 w2 hh b3 w3 hh b4 w4 hh;refine Ca 3 [[(2,none)],[(3,none)],[(6,some 1)]] [(2,7),(1,6),(0,5)] hh mixed T' ?_;refine Vd 2 [_,_,_] ?_;refine Vd 1 [_,_,_] ?_;refine dC (λ_ hj=>Hi b _ (hT.hp hj.hp) Z' Z' Z') ?_;refine xa ?_;intro f W hJ hV;have hb_1:=hJ.bl;obtain⟨v7,v6,v5,_⟩:=hV;replace hh:=hJ.hp;refine eB ?_;dsimp only[Bb];clear hJ;refine Rq ?_;intro b8 w8 hh;refine Oa hh (hac _ _ _ (hT.hp hh) (hh.ra (i:=0) rfl)) rfl ?_;intro w9 hh;exact FP
def Cf:List Dyadic->Dyadic:=λl=>l.foldl (· * ·) 1
def Mx(l:List Dyadic)(x:Dyadic):Cf (l++[x])=Cf l*x:=by simp[Cf]
def Sz.one:Sz 1 1:=⟨2,by decide+kernel,U'⟩
def Sz.prod{l:List Dyadic}(h:∀x∈l,Sz k x):Sz (1+k*l.length) (Cf l):=by
 have:∀(n:Nat),n<=l.length->Sz (1+k*n) (Cf (l.take n)):=by
  intro n
  induction n with
  |zero=>intro _;exact Sz.one
  |succ n ih=>
   intro hn;obtain⟨x,hx⟩:=ea (l:=l) (k:=n) Z';rw[oa hx,Mx];exact((ih Z').mul (h x (G' hx))).mono (by rw[O8];omega)
 have h2:=this l.length (j' _);rwa[z6] at h2
def Ee(L:Option Addr)(n c:Nat)(l:List NR)(w:World)(hT:Sc w)(hS:Sl w L n 3 (na NR.cells l))(hl:∀a∈l,a.ok)(k:Nat)(hk:∀a∈l,Sz k a.ma)(hkn:k*n<=3999980)(hn:n<=1000000):Calls prog 64 #[.slice L n c] w λr w'=>r=.returned (.agg #[.bool (nR (Cf (l.map NR.ma))).neg,.string (nR (Cf (l.map NR.ma))).Qa,.int .i64 (nR (Cf (l.map NR.ma))).e])/\Below w.heap.size w w':=by
 have hln:=hS.Fa NR.len Z';have hh:=Hp.start w;refine da (N:=27) (l:=[.slice L n c]) func64 rfl rfl (by simp) ?_;refine Jb ?_;intro b2 w2 hh;refine iF ?_;intro w6 hh;refine Sb ?_;intro b3 w3 hh ws hh;refine Ba [5,9,10,11,12,13,14,15,16,17,18,19,20,21,22,23,24,25] 9 (λj w'=>∃(i:Nat)(S:Dyadic),i<=n/\j=.int .i64 i/\S=Cf ((l.take i).map NR.ma)/\Hp w [.blk b3 30 [.bool (nR S).neg,.string (nR S).Qa,.int .i64 (nR S).e] (0,0),.blk b2 30 [.bool false,.string (ByteArray.mk #[]),.int .i64 0] (0,0)] w') (λj _=>n-(intOf j).toNat) ?_ ?_
 .exact⟨0,_,D' _,rfl,rfl,hh⟩
 clear hh;rintro ρ' j w' ⟨i,S,hi,rfl,hS2,hh⟩;by_cases hlt:i<n
 .obtain⟨x,hx⟩:=ea (l:=l) (k:=i) Z';obtain⟨ad,rfl,hr⟩:=hS.at_ Z';have hxm:=G' hx;have hS3:Cf ((l.take (i+1)).map NR.ma)=S*x.ma:=by rw[oa hx,n_,J7,Mx,hS2]
  have hSz:Sz (1+k*i) S:=by
   rw[hS2];have:=Sz.prod (k:=k) (l:=(l.take i).map NR.ma) (λy hy=>by
    obtain⟨a,ha,rfl⟩:=Z_.1 hy;exact hk a (N8 ha))
   rw[i',R_,C9 Z'] at this;exact this
  have hki:k*i<=k*n:=k_ _ hi;obtain⟨so1,so2,so3⟩:=hSz.ok Z';obtain⟨xo1,xo2,xo3⟩:=hl x hxm;have e1:Xk ([IR.mk (nR S).neg (nR S).Qa,IR.mk x.neg x.Qa].map IR.v)=(nR S).i*x.i:=(by simp only[q_,G9,Xk,Int.mul_one];rfl);have e2:Dyadic.ofIntWithPrec ((nR S).i*x.i) (-((nR S).e+x.e))=S*x.ma:=(by have:=XC (nR S).i x.i (-(nR S).e) (-x.e);rw[Int.neg_add,<-this];congr 1;exact Za S);have hac:∀(A:Option Addr)(cc:Nat)(w1:World),Sl w1 A 2 2 (na IR.cells [IR.mk (nR S).neg (nR S).Qa,IR.mk x.neg x.Qa])->Calls prog 125 #[.slice A 2 cc] w1 λe w'=>e=.returned (.agg #[.bool (iN ((nR S).i*x.i)),.string (iM ((nR S).i*x.i))])/\Below w1.heap.size w1 w':=λA cc w1 hsl=>(by have:=pq A 2 cc [IR.mk (nR S).neg (nR S).Qa,IR.mk x.neg x.Qa] w1 hsl Z' (by simp;omega);rw[e1] at this;exact this);have hmc:∀w1,Sc w1->Calls prog 123 #[.agg #[.bool (iN ((nR S).i*x.i)),.string (iM ((nR S).i*x.i))],.int .i64 ((nR S).e+x.e)] w1 λr w'=>r=.returned (.agg #[.bool (nR (S*x.ma)).neg,.string (nR (S*x.ma)).Qa,.int .i64 (nR (S*x.ma)).e])/\Below w1.heap.size w1 w':=λw1 hT1=>(by have hb1:=mh (nR S).neg (nR S).Qa;have hb2:=mh x.neg x.Qa;have hb3:=pr (nR S).i x.i;have:=Bf (iN ((nR S).i*x.i)) (iM ((nR S).i*x.i)) ((nR S).e+x.e) w1 hT1 (by rw[Lc];unfold NR.i at hb3 |-;omega) Z' Z';rw[td,e2] at this;exact this);refine fa ?_;refine JK ?_;refine Sb ?_;intro b5 w5 hh ws hh;refine Ca 11 [[(3,none)],[(13,some 0)],[(5,none)],[(15,some 2)],[(14,some 1),(16,some 3)],[(17,some 4)],[(3,none)],[(19,some 6)],[(5,none)],[(21,some 8)],[(20,some 7),(22,some 9)]] [(10,23),(9,22),(8,21),(7,20),(6,19),(5,18),(4,17),(3,16),(2,15),(1,14),(0,13)] hh mixed T' ?_;refine yd ?_;refine Vd 1 [_,_] ?_;refine yd ?_;refine Vd 0 [_,_] ?_;refine qq [_,_,_,_] ?_;refine Va (i:=5) (Is (.agg #[.bool (iN ((nR S).i*x.i)),.string (iM ((nR S).i*x.i))])) Is.ext ?_ ?_
  .intro ρ1 w1 hj hR;obtain⟨A17,c17,h17,s17⟩:=hR.1;exact Pb rfl (qb ja.out (Ga h17 Fb)) (hac A17 c17 _ s17) (λ_ _ hq=>⟨_,hq.1,hq.2,rfl⟩)
  refine yd ?_;refine xe 1 ?_;refine yd ?_;refine xe 0 ?_;refine xt ?_;refine xa ?_;intro f W hJ hV;have hb_5:=hJ.bl;obtain⟨v23,v22,v21,v20,v19,v18,v17,v16,v15,v14,v13,_⟩:=hV;obtain⟨A17,c17,e17,f17⟩:Rows _ _ _ (f 4) W:=v17;replace hh:=hJ.hp;refine Da (Na (aa v23 (aa v22 (aa v21 (aa v20 (aa v19 (aa v18 (aa e17 (aa v16 (aa v15 (aa v14 (aa v13 Ea)))))))))))) ?_;dsimp only[Bb];clear e17 hJ;refine Oa hh (hmc _ (hT.hp hh)) rfl ?_;intro w24 hh;refine Jb ?_;intro ws hh;replace hh:=hh.sub (s_ _ _);exact S0
 exact ac4
def vg(f:Dyadic->Dyadic->Bool):List Dyadic->Dyadic
 |[]=>0
 |a::r=>r.foldl (λout a=>if f a out then a else out) a
def yI(f:Dyadic->Dyadic->Bool){l:List Dyadic}(h:l≠[])(x:Dyadic):vg f (l++[x])=if f x (vg f l) then x else vg f l:=by
 cases l with
 |nil=>exact absurd rfl h
 |cons a r=>
  show(r++[x]).foldl _ a=_;rw[V7];rfl
def xr(L:Option Addr)(n c:Nat)(l:List NR)(g:FuncId)(f:Dyadic->Dyadic->Bool)(w:World)(hT:Sc w)(hS:Sl w L n 3 (na NR.cells l))(hl:∀a∈l,a.ok)(hn:n<=1000000)[ja prog g] (hg:∀(a b:NR)(w:World),Sc w->a.ok->b.ok->Calls prog g #[.agg #[.bool a.neg,.string a.Qa,.int .i64 a.e],.agg #[.bool b.neg,.string b.Qa,.int .i64 b.e]] w λr w'=>r=.returned (.bool (f a.ma b.ma))/\Below w.heap.size w w'):Calls prog 215 #[.slice L n c,.func (.func g) #[] #[]] w λr w'=>r=.returned (.agg #[.bool (nR (vg f (l.map NR.ma))).neg,.string (nR (vg f (l.map NR.ma))).Qa,.int .i64 (nR (vg f (l.map NR.ma))).e])/\Below w.heap.size w w':=by
 have hln:=hS.Fa NR.len Z';have hh:=Hp.start w;refine da (N:=27) (l:=[.slice L n c,.func (.func g) #[] #[]]) func215 rfl rfl (by simp) ?_;refine Sb ?_;intro b4 w4 hh b5 w5 hh;refine Ba [6,7,10,11,12,13,14,15,16,17,18,19,20,21,22,23,24] 10 (λj w'=>∃(i:Nat)(o:NR),i<=n/\j=.int .i64 i/\o.ok/\o.ma=vg f ((l.take i).map NR.ma)/\Hp w [.blk b5 30 [.bool o.neg,.string o.Qa,.int .i64 o.e] (0,0),.blk b4 30 [.bool false,.string (ByteArray.mk #[]),.int .i64 0] (0,0)] w') (λj _=>n-(intOf j).toNat) ?_ ?_
 .exact⟨0,nR 0,D' _,rfl,(Sz.zero 0).ok Z',rfl,hh⟩
 clear hh;rintro ρ' j w' ⟨i,o,hi,rfl,hok,hod,hh⟩;by_cases hlt:i<n
 .obtain⟨x,hx⟩:=ea (l:=l) (k:=i) Z';obtain⟨ad,rfl,hr⟩:=hS.at_ Z';have hxo:=hl x (G' hx);have htk:(l.take (i+1)).map NR.ma=(l.take i).map NR.ma++[x.ma]:=by rw[oa hx,n_,J7]
  by_cases h0:i=0
  .subst h0;refine fa ?_;refine JK ?_;refine Dm ?_;intro b7 w7 hh ws hh ws hh;replace hh:=hh.sub (s_ _ _);refine⟨⟨1,x,Z',rfl,hxo,by rw[htk];rfl,hh⟩,by show n-(0+1)<n-0;omega, ?_⟩;exact Rc
  have hne:(l.take i).map NR.ma≠[]:=(by intro h;have:=J_ List.length h;rw[i',R_,g7] at this;omega);have hb:=yI f hne x.ma;rw[<-htk,<-hod] at hb;refine fa ?_;refine JK ?_;refine Sb ?_;intro b7 w7 hh ws hh;refine qi (hg x o _ (hT.hp hh) hxo hok) ja.out rfl rfl U' ?_;rintro e_ w21 ⟨rfl,hb_⟩;refine⟨_,rfl, ?_⟩;replace hh:=hh.ext hb_
  cases hf:f x.ma o.ma with
  |true=>
   rw[hf,J' rfl] at hb;refine Jb ?_;intro ws hh;replace hh:=hh.sub (s_ _ _);refine⟨⟨i+1,x,Z',rfl,hxo,hb.symm,hh⟩,by show n-(i+1)<n-i;omega, ?_⟩;exact Rc
  |false=>
   rw[hf] at hb;refine fa ?_;replace hh:=hh.sub (s_ _ _);refine⟨⟨i+1,o,Z',rfl,hok,hb.symm,hh⟩,by show n-(i+1)<n-i;omega, ?_⟩;exact Rc
 rw[W_ Z'] at hod;obtain⟨o1,o2,o3⟩:=hok;refine fa ?_;refine Oa hh (Ed o _ (hT.hp hh) Z' Z' Z') rfl ?_;intro w26 hh;rw[hod];exact FP
def yv(x y:Dyadic):Vg x y<0↔x<y:=by
 unfold Vg;split
 .rename_i h;simp[h]
 rename_i h;split<;>simp[h]
def Ev(x y:Dyadic):0<Vg x y↔y<x:=by
 unfold Vg;split
 .rename_i h;have:¬y<x:=by grind
  simp[this]
 split<;>rename_i h<;>simp[h]
def aE(a b:NR)(w:World)(hT:Sc w)(ha:a.ok)(hb:b.ok):Calls prog 238 #[.agg #[.bool a.neg,.string a.Qa,.int .i64 a.e],.agg #[.bool b.neg,.string b.Qa,.int .i64 b.e]] w λr w'=>r=.returned (.bool (decide (a.ma<b.ma)))/\Below w.heap.size w w':=by
 have hh:=Hp.start w;have e1:decide (Vg a.ma b.ma<0)=decide (a.ma<b.ma):=decide_eq_decide.2 (yv _ _);refine da (N:=9) (l:=[.agg #[.bool a.neg,.string a.Qa,.int .i64 a.e],.agg #[.bool b.neg,.string b.Qa,.int .i64 b.e]]) func238 rfl rfl (by simp) ?_;exact aee
def KE(a b:NR)(w:World)(hT:Sc w)(ha:a.ok)(hb:b.ok):Calls prog 216 #[.agg #[.bool a.neg,.string a.Qa,.int .i64 a.e],.agg #[.bool b.neg,.string b.Qa,.int .i64 b.e]] w λr w'=>r=.returned (.bool (decide (b.ma<a.ma)))/\Below w.heap.size w w':=by
 have hh:=Hp.start w;have e1:decide (0<Vg a.ma b.ma)=decide (b.ma<a.ma):=decide_eq_decide.2 (Ev _ _);refine da (N:=9) (l:=[.agg #[.bool a.neg,.string a.Qa,.int .i64 a.e],.agg #[.bool b.neg,.string b.Qa,.int .i64 b.e]]) func216 rfl rfl (by simp) ?_;exact aee
def aJ(L:Option Addr)(n c:Nat)(l:List NR)(w:World)(hT:Sc w)(hS:Sl w L n 3 (na NR.cells l))(hl:∀a∈l,a.ok)(hn:n<=1000000):Calls prog 170 #[.slice L n c] w λr w'=>r=.returned (.agg #[.bool (nR (vg (λx y=>decide (x<y)) (l.map NR.ma))).neg,.string (nR (vg (λx y=>decide (x<y)) (l.map NR.ma))).Qa,.int .i64 (nR (vg (λx y=>decide (x<y)) (l.map NR.ma))).e])/\Below w.heap.size w w':=by
 have hh:=Hp.start w;refine da (N:=5) (l:=[.slice L n c]) func170 rfl rfl (by simp) ?_;refine Jb ?_;intro b2 w2 hh;refine Oa hh (xr L n c l 238 (λx y=>decide (x<y)) _ (hT.hp hh) (hS.ext hh.below) hl hn aE) rfl ?_;intro w4 hh;exact lH
def Ly(L:Option Addr)(n c:Nat)(l:List NR)(w:World)(hT:Sc w)(hS:Sl w L n 3 (na NR.cells l))(hl:∀a∈l,a.ok)(hn:n<=1000000):Calls prog 140 #[.slice L n c] w λr w'=>r=.returned (.agg #[.bool (nR (vg (λx y=>decide (y<x)) (l.map NR.ma))).neg,.string (nR (vg (λx y=>decide (y<x)) (l.map NR.ma))).Qa,.int .i64 (nR (vg (λx y=>decide (y<x)) (l.map NR.ma))).e])/\Below w.heap.size w w':=by
 have hh:=Hp.start w;refine da (N:=5) (l:=[.slice L n c]) func140 rfl rfl (by simp) ?_;refine Jb ?_;intro b2 w2 hh;refine Oa hh (xr L n c l 216 (λx y=>decide (y<x)) _ (hT.hp hh) (hS.ext hh.below) hl hn KE) rfl ?_;intro w4 hh;exact lH
def Ap{x y:Dyadic}(h:x<y):Vg x y= -1:=by rw[Vg,J' h]
def Jp{x y:Dyadic}(h:y<x):Vg x y=1:=by
 have:¬x<y:=by grind
 rw[Vg,L' this,J' h]
def bo(x:Dyadic):Vg x x=0:=by
 have:¬x<x:=by grind
 rw[Vg,L' this,L' this]
def ZU(x y:Dyadic):x<y\/x=y\/y<x:=by
 obtain h|h:=Classical.em (x<y)
 .exact .inl h
 obtain h2|h2:=Classical.em (y<x)
 .exact .inr (.inr h2)
 exact .inr (.inl (by grind))
def EM(x y:Dyadic): -1<=Vg x y/\Vg x y<=1:=by
 unfold Vg;split<;>(try split)<;>omega
def Sl.acZ{A:Option Addr}{xs:List Nat}(h:Sl w A n 1 (Kg xs))(hk:k<=n):Sl w A k 1 (Kg (xs.take k)):=by
 have hl:=h.1;rw[Nc] at hl;refine⟨by rw[Nc,R_];omega,λh0=> ?_⟩;obtain⟨ad,he,hr⟩:=h.2 Z';exact⟨ad,he,by rw[eF];exact hr.take k⟩
def Sl.adn{A:Option Addr}{xs:List Nat}(h:Sl w A n 1 (Kg xs)):Sl w A (Xd xs).length 1 (Kg (Xd xs)):=by
 have hl:=h.1;rw[Nc] at hl;have:=ue xs;have h2:=h.acZ (k:=(Xd xs).length) Z';rwa[<-wj] at h2
def Hp.aby{A:Option Addr}{c:Nat}{t:TypeId}{xs:List Nat}(h:Hp w0 (.row A n c t 1 (Kg xs)::H) w)(hl:xs.length=n):Hp w0 (.row A (Xd xs).length c t 1 (Kg (Xd xs))::H) w:=by
 have h1:=ue xs;have h2:=h.oD (k:=(Xd xs).length) Z';rw[I_,<-eF,<-wj] at h2;exact h2
def Cl(A:Option Addr)(n c:Nat)(xs:List Nat)(w:World)(hx:Sl w A n 1 (Kg xs))(hc:n<=c)(hn:n<=1000000000000):Calls prog 276 #[.slice A n c] w λe w'=>e=.returned (.slice A (Xd xs).length c)/\Below w.heap.size w w':=by
 have hlen:xs.length=n:=by have:=hx.1;rw[Nc] at this;omega
 have hh:=Hp.start w;refine da (N:=21) (l:=[.slice A n c]) func276 rfl rfl (by simp) ?_;refine fa ?_;refine Ba [3,6,7,8,9,10,11,12,13,14,15,16,17] 3 (λv w'=>∃k:Nat,k<=n/\v=.int .i64 k/\Xd (xs.take k)=Xd xs/\w'=w) (λv _=>(intOf v).toNat) ?_ ?_
 .exact⟨n,j' _,rfl,by rw[W_ Z'],rfl⟩
 rintro ρ' v w' ⟨k,hk,rfl,hcut,rfl⟩;by_cases h0:k=0
 .subst h0;refine fa ?_;refine Pn (h:=0) lb.out ya.size rfl rfl Z' Z' U' ?_;refine fa ?_;rw[<-hcut];exact⟨rfl,hh.below⟩
 obtain⟨j,rfl⟩:∃j,k=j+1:=⟨k-1,Z'⟩;obtain⟨d,hd⟩:=ea (l:=xs) (k:=j) Z';obtain⟨ad,rfl,hr⟩:=hx.at_ Z';have hd2:=yp hd;rw[oa hd] at hcut;by_cases hz:d=0
 .subst hz;rw[Nv] at hcut;refine mb (sr (mI ?_));refine qx (mB (gT (mL (gT (mI (gT ?_))))));refine Rp (gT ?_);refine HL ?_;refine gT ?_;refine Tm ?_;refine fa ?_;refine⟨⟨j,Z',by show Value.int _ _=Value.int _ _;congr 1;omega,hcut,rfl⟩,by show(((j+1:Nat):Int)-1).toNat<(((j+1:Nat):Int)).toNat;omega, ?_⟩;exact Rc
 rw[IA hz] at hcut;refine mb (sr (mI ?_));refine qx (mB (gT (mL (gT (mI (gT ?_))))));refine Rp (gT ?_);refine HL ?_;refine gT ?_;refine Tm ?_;refine fa ?_;refine Pn (h:=j+1) lb.out ya.size rfl rfl Z' Z' U' ?_;exact VZ
def xP{s:List UInt8}{c:UInt8}(hc:(uG s)[j]?=some c.toNat)(hk:k<8):c.toNat/2^k % 2=bn s/2^(8*j+k) % 2:=by
 have h1:=Fv (NC s) hc;rw[<-h1,<-bn,D_,W9,show(2^8:Nat)=256 from rfl,<-V8];generalize bn s/256^j=m;have e:(256:Nat)=2^k*2^(8-k):=by rw[<-D_,show k+(8-k)=8 by omega]
 have e2:2^(8-k)=2*2^(7-k):=by rw[<-Nat.pow_succ'];congr 1;omega
 rw[e,Nat.mod_mul_right_div_self,e2,Nat.mod_mul_right_mod]
def tf(a:ByteArray)(w:World)(ha:a.size<=1000000000):Calls prog 230 #[.string a] w λe w'=>∃A c,e=.returned (.slice A (Ha 2 (bN a)).length c)/\w'.ownsRow w.heap.size 5 1 (.slice A (Ha 2 (bN a)).length c) (Ha 2 (bN a)).length (Kg (Ha 2 (bN a)))/\Below w.heap.size w w':=by
 have hsz:=Tc a;have hh:=Hp.start w;refine da (N:=28) (l:=[.string a]) func230 rfl rfl (by simp) ?_;refine fa ?_;replace hh:=hh.Lb 5 1;refine Ra [3,4,5,9,10,11,12,13,14,15,16,17,18,19,20,21,22,23,24,25] 3 4 (λo v w'=>∃(j:Nat)(A:Option Addr)(c:Nat),j<=a.size/\v=.int .i64 ((a.size:Int)-1-j)/\o=.slice A (8*j) c/\Hp w [.row A (8*j) c 5 1 (Kg (Ib 2 (8*j) (bN a)))] w') (λ_ v _=>(intOf v+1).toNat) ?_ ?_
 .exact⟨0,none,0,D' _,by show Value.int _ _=Value.int _ _;congr 1;omega,rfl,hh⟩
 clear hh;rintro ρ' o v w' ⟨j,A,c,hj,rfl,rfl,hh⟩;by_cases hlt:j<a.size
 .obtain⟨ch,hc⟩:=ea (l:=a.data.toList) (k:=((a.size:Int)-1-j).toNat) Z';have hlo:=lV (s:=a.data.toList) (i:=j) (c:=ch) Z' (by rw[<-hc];congr 1;omega);have hc8:=ch.toNat_lt;refine fa ?_;refine Ra [3,5,13,14,15,16,17,18,19,20,21,22,23,24,25] 3 5 (λo v w'=>∃(k:Nat)(A:Option Addr)(c:Nat),k<=8/\v=.int .i64 (k:Int)/\o=.slice A (8*j+k) c/\Hp w [.row A (8*j+k) c 5 1 (Kg (Ib 2 (8*j+k) (bN a)))] w') (λ_ v _=>8-(intOf v).toNat) ?_ ?_
  .exact⟨0,A,c,D' _,rfl,rfl,hh⟩
  clear hh;rintro ρ2 o v w2 ⟨k,A2,c2,hk,rfl,rfl,hh⟩;by_cases hk8:k<8
  .have hst:=xP hlo hk8;have hand:∀z:Nat,z &&& 1=z % 2:=λz=>Nat.and_one_is_mod z;have hcl:ch.toNat/2^(k:Int).toNat<256:=S9 (l8 _ _) hc8;refine fa ?_;refine nw rfl rfl Z' U' ?_;refine aU ?_;refine fB ?_;intro b24 w24 hh;refine Vr ?_;intro A25 c25 w25 hh;simp only[U_,F_] at hh;replace hh:=hh.sub (s_ _ _);refine fa ?_;have e1:Kg (Ib 2 (8*j+k) (bN a))++[Value.int .u8 ((ch.toNat/2^(k:Int).toNat &&& 1:Nat):Int)]=Kg (Ib 2 (8*j+(k+1)) (bN a)):=(by rw[hand,p8,hst,<-R6,Yk,Mv];rfl);rw[e1] at hh;refine⟨⟨k+1,A25,c25,Z',rfl,rfl,hh⟩,by show 8-(k+1)<8-k;omega, ?_⟩;exact Rc
  obtain rfl:k=8:=Z';refine fa ?_;refine⟨⟨j+1,A2,c2,Z',by show Value.int _ _=Value.int _ _;congr 1;omega,rfl,hh⟩,by show((a.size:Int)-1-j-1+1).toNat<((a.size:Int)-1-j+1).toNat;omega, ?_⟩;exact Rc
 obtain rfl:j=a.size:=Z';refine fa ?_;refine Oa hh (Cl _ _ _ (Ib 2 (8*a.size) (bN a)) _ (hh.ra (i:=0) rfl) (hh.Ve (i:=0) rfl) Z') rfl ?_;intro w27 hh;refine fa ?_;have hb:=wA a;rw[show(256:Nat)=2^8 from rfl,<-W9] at hb;have hd:Xd (Ib 2 (8*a.size) (bN a))=Ha 2 (bN a):=(by rw[Lh Z' (Lf Z' _ _),Fc hb]);have h1:=(Hp.aby (xs:=Ib 2 (8*a.size) (bN a)) hh (Ja _ _)).at_ (i:=0) rfl;exact pL
def JX{l:List Nat}{v:Nat}(h:j<l.length):l.reverse.set (l.length-1-j) v=(l.set j v).reverse:=by
 apply V9;intro i;obtain hi|hi:=Y9 i l.length
 .rw[k8 (by rw[U9];exact hi),U9,F9,F9,k8 hi,c_];by_cases he:l.length-1-j=i
  .rw[J' he,J' Z',J' Z',J' h]
  rw[L' he,L' Z']
 rw[t_ (by simp;omega),t_ (by simp;omega)]
def UH{i:Nat}(P:Nat)(hP:P<2^i)(hb:b<2)(hk:i/8<k):P/256^(i/8) % 256+b*2^(i % 8)<256/\(Ib 256 k P).set (i/8) (P/256^(i/8) % 256+b*2^(i % 8))=Ib 256 k (P+2^i*b):=by
 have hp:2^i=256^(i/8)*2^(i % 8):=(by rw[show(256:Nat)=2^8 from rfl,<-W9,<-D_];congr 1;omega);have h1:P/256^(i/8)<2^(i % 8):=(by rw[D9 (r_ Z'),G_,<-hp];exact hP);have h2:2^(i % 8)<=128:=(by have:=m_ (show 0<2 by omega) (show i % 8<=7 by omega);omega);have h3:P/256^(i/8) % 256<2^(i % 8):=S9 (Nat.mod_le _ _) h1;have h4:b*2^(i % 8)<=1*2^(i % 8):=N9 _ Z';have h5:2^i*b=256^(i/8)*(b*2^(i % 8)):=by rw[hp,J9,G_ b]
 refine⟨Z', ?_⟩;rw[h5];refine ir Z' hk ?_ Z';rw[<-h5];have h6:2^i*b<=2^i*1:=k_ _ Z';have h7:2^(i+1)<=256^k:=(by rw[show(256:Nat)=2^8 from rfl,<-W9];exact m_ Z' Z');rw[i_] at h7;omega
def Ng(A:Option Addr)(n c:Nat)(xs:List Nat)(w:World)(hx:Sl w A n 1 (Kg xs))(hd:Dg 2 xs)(hc:n<=c)(hn:n<=100000000000):Calls prog 229 #[.slice A n c] w λe w'=>e=.returned (.string (sN (Ka 2 xs)))/\Below w.heap.size w w':=by
 have hl:=hx.1;rw[Nc] at hl;have hcl:=ue xs;have hcx:=hx.adn;have hcan:=Lh Z' hd;have hlen:=OI (Ka 2 xs);rw[hcan] at hcl hcx;have hcd:=(ae (B:=2) Z' (Ka 2 xs)).1;have hcv:=we (B:=2) Z' (Ka 2 xs);have hbl:(Ha 2 (Ka 2 xs)).length=Sa (Ka 2 xs):=rfl;have hh:=Hp.start w;refine da (N:=38) (l:=[.slice A n c]) func229 rfl rfl (by simp) ?_;refine fa ?_;refine Oa hh (Cl _ _ _ xs _ hx hc Z') rfl ?_;intro w6 hh;rw[hcan];generalize Ka 2 xs=M at*;generalize Ha 2 M=xs' at*;refine fa ?_;refine Me (n:=(xs'.length+7)/8) hh rfl rfl Z' Z' lb.out ya.out rfl Z' Z' U' ?_;intro b11 w11 hh;refine fa ?_;rw[Dq] at hh;refine Ba [4,12,13,14,15,16,17,18,19,20,21,22,23,24,25,26,27,28,29,30,31,32,33,34,35] 4 (λv w'=>∃i:Nat,i<=xs'.length/\v=.int .i64 i/\Hp w [.row (some ⟨b11,0,none⟩) ((xs'.length+7)/8) ((xs'.length+7)/8) 5 1 (Kg (Ib 256 ((xs'.length+7)/8) (Ka 2 (xs'.take i))).reverse)] w') (λv _=>xs'.length-(intOf v).toNat) ?_ ?_
 .exact⟨0,D' _,rfl,by rw[K8,Ka,Nt,List.reverse_replicate];exact hh⟩
 clear hh;rintro ρ' v w' ⟨i,hi,rfl,hh⟩;by_cases hlt:i<xs'.length
 .obtain⟨d,hdi⟩:=ea (l:=xs') (k:=i) Z';obtain⟨ad,rfl,hr⟩:=hcx.at_ Z';have hd2:=yp hdi;have hdw:=hcd.at_ hdi;have hP:=Jf (hcd.take i);rw[R_,C9 Z'] at hP;obtain⟨s1,s2⟩:=UH (k:=(xs'.length+7)/8) (Ka 2 (xs'.take i)) hP hdw Z';have hg:(Ib 256 ((xs'.length+7)/8) (Ka 2 (xs'.take i))).reverse[(xs'.length+7)/8-1-i/8]?=some (Ka 2 (xs'.take i)/256^(i/8) % 256):=(by rw[k8 (by rw[Ja];omega),Ja,show(xs'.length+7)/8-1-((xs'.length+7)/8-1-i/8)=i/8 by omega];exact Yh _ _ _ Z');have hg2:=yp hg;have e1:((i:Int) % 8).toNat=i % 8:=Z';have hset:=JX (l:=Ib 256 ((xs'.length+7)/8) (Ka 2 (xs'.take i))) (j:=i/8) (v:=Ka 2 (xs'.take i)/256^(i/8) % 256+d*2^(i % 8)) (by rw[Ja];omega);rw[Ja,s2] at hset;refine fa ?_;refine Ca 16 [[(3,none)],[(3,none)],[(19,some 1)],[(20,some 2)],[(4,none)],[(22,some 4)],[(21,some 3),(23,some 5)],[(18,some 0),(24,some 6)],[(25,some 7)],[(0,none)],[(4,none)],[(27,some 9),(28,some 10)],[(29,some 11)],[(4,none)],[(31,some 13)],[(30,some 12),(32,some 14)]] [(15,33),(14,32),(13,31),(12,30),(11,29),(10,28),(9,27),(8,26),(7,25),(6,24),(5,23),(4,22),(3,21),(2,20),(1,19),(0,18)] hh mixed T' ?_;refine De ?_;refine De ?_;refine Vp ?_;refine Tu ?_;refine cd ?_;refine Wa (i:=5) (λρ1 w1 hj hR=>Ps (show ρ1 22=Value.int _ _ from hR.1) rfl Z' Z' Z') ?_;refine Tu ?_;refine Kt ((xs'.length+7)/8-1-i/8) ?_;refine Wa (i:=8) (λρ1 w1 hj hR=>Tg ya.out (show ρ1 25=Value.pointer _ from hR.1) (hj.hp.Zc (i:=0) rfl (by rw[I_];exact hg2))) ?_;refine De ?_;refine cd ?_;refine jj (i) ?_
  refine Ro (λ_ hj=>(hr.ext hj.hp.below).aw hd2) ?_;refine cd ?_;refine Wa (i:=14) (λρ1 w1 hj hR=>Ln (show ρ1 31=Value.int _ _ from hR.1) rfl Z' Z') ?_;refine Wa (i:=15) (λρ1 w1 hj hR=>nx (show ρ1 30=Value.int _ _ from hR.1) (show ρ1 32=Value.int _ _ from hR.2.1) Z') ?_;refine xa ?_;intro f W hJ hV;have hb_6:=hJ.bl;obtain⟨v33,v32,v31,v30,v29,v28,v27,v26,v25,v24,v23,v22,v21,v20,v19,v18,_⟩:=hV;replace hh:=hJ.hp;refine Da (Na (aa v33 (aa v32 (aa v31 (aa v30 (aa v29 (aa v28 (aa v27 (aa v26 (aa v25 (aa v24 (aa v23 (aa v22 (aa v21 (aa v20 (aa v19 (aa v18 Ea))))))))))))))))) ?_;dsimp only[Bb];clear hJ;refine Ye rfl rfl U' ?_;refine Nd (k:=(xs'.length+7)/8-1-i/8) lb.out ya.size rfl rfl Z' Z' U' ?_;refine Ab hh (i:=0) (vs:=[_]) rfl rfl (Bc rfl) rfl ya.out rfl (by rw[Nc,c_,Ja];omega) rfl ?_;intro ws hh;simp only[U_] at hh;rw[e1,h_ (show d*2^(i % 8)<256 by omega),h_ s1,I_,jc (by rw[Nc,c_,Ja];omega),Ur,hset,<-kg hdi] at hh;refine fa ?_;refine⟨⟨i+1,Z',rfl,hh⟩,by show xs'.length-(i+1)<xs'.length-i;omega, ?_⟩
  exact Rc
 obtain rfl:i=xs'.length:=Z';rw[z6,hcv,hbl] at hh;have hfin:Kg (Ib 256 ((Sa M+7)/8) M).reverse=ij (sb M):=(by rw[<-hlen];exact adN);rw[hfin,<-hbl] at hh;exact aaP
def OW{xs:List Nat}(h:Dg 2 xs)(i:Nat):Ka 2 xs/2^i % 2=(xs[i]?).getD 0:=by
 cases hi:xs[i]? with
 |some d=>exact Fv h hi
 |none=>
  rw[Cq h (J5.1 hi) Z'];rfl
def zi(A:Option Addr)(n c i:Nat)(xs:List Nat)(w:World)(hx:Sl w A n 1 (Kg xs))(hd:Dg 2 xs)(hn:n<=1000000000000)(hi:i<=1000000000000):Calls prog 305 #[.slice A n c,.int .i64 (i:Int)] w λe w'=>e=.returned (.int .u8 ((Ka 2 xs/2^i % 2:Nat):Int))/\Below w.heap.size w w':=by
 have hl:=hx.1;rw[Nc] at hl;have hh:=Hp.start w;rw[OW hd];by_cases hlt:i<n
 .obtain⟨d,hdi⟩:=ea (l:=xs) (k:=i) Z';obtain⟨ad,rfl,hr⟩:=hx.at_ Z';have hd2:=yp hdi;rw[hdi];refine da (N:=13) (l:=[.slice (some ad) n c,.int .i64 (i:Int)]) func305 rfl rfl (by simp) ?_;refine fa ?_;refine Tm ?_;refine fa ?_;exact⟨rfl,hh.below⟩
 rw[t_ Z'];refine da (N:=13) (l:=[.slice A n c,.int .i64 (i:Int)]) func305 rfl rfl (by simp) ?_;refine fa ?_;exact⟨rfl,hh.below⟩
def dm(X i:Nat):X/2^i=2*(X/2^(i+1))+X/2^i % 2:=by
 rw[i_,<-V8];omega
variable {Y:Nat}
def DA{X:Nat}(h:X/2^k<Y/2^k):X<Y:=by
 refine H6 λh2=> ?_;have:=Nat.div_le_div_right (c:=2^k) h2;omega
def Nn(A B:Option Addr)(n c m c':Nat)(xs ys:List Nat)(w:World)(hx:Sl w A n 1 (Kg xs))(hy:Sl w B m 1 (Kg ys))(hdx:Dg 2 xs)(hdy:Dg 2 ys)(hn:n<=100000000000)(hm:m<=100000000000):Calls prog 277 #[.slice A n c,.slice B m c'] w λe w'=>e=.returned (.int .i64 (Qh (Ka 2 xs) (Ka 2 ys)))/\Below w.heap.size w w':=by
 have hlx:=hx.1;have hly:=hy.1;rw[Nc] at hlx hly;have hh:=Hp.start w;have e1:(if(m:Int)>(n:Int) then(m:Int) else(n:Int))-1=((max n m:Nat):Int)-1:=by split<;>omega
 refine da (N:=30) (l:=[.slice A n c,.slice B m c']) func277 rfl rfl (by simp) ?_;refine fa ?_;rw[e1];refine Ba [4,5,12,13,14,15,16,17,18,19,20,21,22,23,24,25,26,27,28,29] 5 (λv w'=>∃k:Nat,k<=max n m/\v=.int .i64 ((k:Int)-1)/\Ka 2 xs/2^k=Ka 2 ys/2^k/\Hp w [] w') (λv _=>(intOf v+1).toNat) ?_ ?_
 .exact⟨max n m,j' _,rfl,by rw[Cq hdx Z' Z',Cq hdy Z' Z'],hh⟩
 clear hh;rintro ρ' v w' ⟨k,hk,rfl,heq,hh⟩;by_cases h0:k=0
 .subst h0;refine fa ?_;rw[Q6,O7,O7] at heq;exact⟨by rw[NM heq],hh.below⟩
 obtain⟨j,rfl⟩:∃j,k=j+1:=⟨k-1,Z'⟩;have hj:((j+1:Nat):Int)-1=(j:Int):=Z';have hXb:=dm (Ka 2 xs) j;have hYb:=dm (Ka 2 ys) j;by_cases hlt:Ka 2 xs/2^j % 2<Ka 2 ys/2^j % 2
 .have hf:Ka 2 xs<Ka 2 ys:=DA (k:=j) Z';rw[hj];refine fa ?_;refine CE ?_;intro w18 hh;refine fa ?_;refine nG ?_;intro w21 hh;refine fa ?_;exact⟨by rw[Uj hf],hh.below⟩
 by_cases hgt:Ka 2 ys/2^j % 2<Ka 2 xs/2^j % 2
 .have hf:Ka 2 ys<Ka 2 xs:=DA (k:=j) Z';rw[hj];refine fa ?_;refine CE ?_;intro w18 hh;refine fa ?_;refine nG ?_;intro w21 hh;refine fa ?_;refine CE ?_;intro w25 hh;refine fa ?_;refine nG ?_;intro w28 hh;refine fa ?_;exact⟨by rw[vr hf],hh.below⟩
 rw[hj];refine fa ?_;refine CE ?_;intro w18 hh;refine fa ?_;refine nG ?_;intro w21 hh;refine fa ?_;refine CE ?_;intro w25 hh;refine fa ?_;refine nG ?_;intro w28 hh;refine fa ?_;refine⟨⟨j,Z',rfl,Z',hh⟩,by show((j:Int)-1+1).toNat<((j:Int)+1).toNat;omega, ?_⟩;exact Rc
def sW(S T i:Nat):(S+T)/2^i % 2=(S/2^i % 2+(S % 2^i+T % 2^i)/2^i+T/2^i % 2) % 2/\(S % 2^(i+1)+T % 2^(i+1))/2^(i+1)=(S/2^i % 2+(S % 2^i+T % 2^i)/2^i+T/2^i % 2)/2/\(S % 2^i+T % 2^i)/2^i<=1:=by
 have hS:=E9 S (2^i);have hT:=E9 T (2^i);have hp:0<2^i:=r_ Z';have hS2:S % 2^(i+1)=S % 2^i+2^i*(S/2^i % 2):=by rw[i_,Nat.mod_mul]
 have hT2:T % 2^(i+1)=T % 2^i+2^i*(T/2^i % 2):=by rw[i_,Nat.mod_mul]
 have hSl:=B_ S hp;have hTl:=B_ T hp;have hc:=E9 (S % 2^i+T % 2^i) (2^i);have hcl:=B_ (S % 2^i+T % 2^i) hp;have hc1:(S % 2^i+T % 2^i)/2^i<=1:=by
  have:(S % 2^i+T % 2^i)/2^i<2:=by rw[D9 hp];omega
  omega
 have e1:(S+T)/2^i=S/2^i+T/2^i+(S % 2^i+T % 2^i)/2^i:=by
  have:S+T=(S % 2^i+T % 2^i) % 2^i+2^i*(S/2^i+T/2^i+(S % 2^i+T % 2^i)/2^i):=(by rw[X9,X9];omega)
  conv=>lhs;rw[this]
  rw[Q8 _ _ hp,L9 hcl,C_]
 refine⟨by rw[e1];omega, ?_,hc1⟩;rw[hS2,hT2];have e2:S % 2^i+2^i*(S/2^i % 2)+(T % 2^i+2^i*(T/2^i % 2))=(S % 2^i+T % 2^i) % 2^i+2^i*(S/2^i % 2+(S % 2^i+T % 2^i)/2^i+T/2^i % 2):=(by rw[X9,X9];omega);rw[e2,i_,<-V8,Q8 _ _ hp,L9 hcl,C_]
def aci(Y up i:Nat):Y*2^up/2^i % 2=if up<=i then Y/2^(i-up) % 2 else 0:=by
 split
 .rename_i h;have e:2^i=2^up*2^(i-up):=by rw[<-D_];congr 1;omega
  rw[e,<-V8,Nat.mul_div_cancel _ (r_ Z')]
 rename_i h;have e:2^up=2^i*2*2^(up-i-1):=by rw[<-i_,<-D_];congr 1;omega
 have e2:Y*2^up=2^i*(2*(Y*2^(up-i-1))):=by rw[e];simp only[J9,G6]
 rw[e2,Nat.mul_div_cancel_left _ (r_ Z')];omega
variable {K:Nat}
def Q0{i:Nat}(h:i<K):(Ib 2 i N++List.replicate (K-i) 0).set i (N/2^i % 2)=Ib 2 (i+1) N++List.replicate (K-(i+1)) 0:=by
 rw[show K-i=(K-(i+1))+1 by omega,B7,q8 _ _ (by rw[Ja];omega),Ja,f_,U_,Yk];simp
def gu(A B:Option Addr)(n c m c' up:Nat)(xs ys:List Nat)(w:World)(hx:Sl w A n 1 (Kg xs))(hy:Sl w B m 1 (Kg ys))(hdx:Dg 2 xs)(hdy:Dg 2 ys)(hn:n<=100000000000)(hm:m<=100000000000)(hup:up<=100000000000):Calls prog 285 #[.slice A n c,.slice B m c',.int .i64 (up:Int)] w λe w'=>∃b,e=.returned (.slice (some ⟨b,0,none⟩) (max n (m+up)+1) (max n (m+up)+1))/\w'.ownsRow w.heap.size 5 1 (.slice (some ⟨b,0,none⟩) (max n (m+up)+1) (max n (m+up)+1)) (max n (m+up)+1) (Kg (Ib 2 (max n (m+up)+1) (Ka 2 xs+Ka 2 ys*2^up)))/\Below w.heap.size w w':=by
 have hlx:=hx.1;have hly:=hy.1;rw[Nc] at hlx hly;have hh:=Hp.start w;have e1:(if((m:Int)+(up:Int))>(n:Int) then((m:Int)+(up:Int)) else(n:Int))+1=((max n (m+up)+1:Nat):Int):=by split<;>omega
 have hand:∀z:Nat,z &&& 1=z % 2:=λz=>Nat.and_one_is_mod z;refine da (N:=49) (l:=[.slice A n c,.slice B m c',.int .i64 (up:Int)]) func285 rfl rfl (by simp) ?_;refine fa ?_;rw[e1];generalize hK:max n (m+up)+1=K at*;refine Me (n:=K) hh rfl rfl Z' Z' lb.out ya.out rfl Z' Z' U' ?_;intro b19 w19 hh;refine fa ?_;rw[Dq] at hh;refine Ra [8,9,10,20,21,22,23,24,25,26,27,28,29,30,31,32,33,34,35,36,37,38,39,40,41,42,43,44,45,46,47] 8 9 (λcr v w'=>∃i:Nat,i<=K/\v=.int .i64 (i:Int)/\cr=.int .u8 (((Ka 2 xs % 2^i+Ka 2 ys*2^up % 2^i)/2^i:Nat):Int)/\Hp w [.row (some ⟨b19,0,none⟩) K K 5 1 (Kg (Ib 2 i (Ka 2 xs+Ka 2 ys*2^up)++List.replicate (K-i) 0))] w') (λ_ v _=>K-(intOf v).toNat) ?_ ?_
 .exact⟨0,D' _,rfl,by simp[Nat.mod_one];rfl,hh⟩
 clear hh;rintro ρ' cr v w' ⟨i,hi,rfl,rfl,hh⟩;by_cases hlt:i<K
 .obtain⟨b1,b2,b3⟩:=sW (Ka 2 xs) (Ka 2 ys*2^up) i;have hbu:=aci (Ka 2 ys) up i;have hxb:Ka 2 xs/2^i % 2<2:=B_ _ Z';have hyb:Ka 2 ys/2^(i-up) % 2<2:=B_ _ Z';have hll:(Kg (Ib 2 i (Ka 2 xs+Ka 2 ys*2^up)++List.replicate (K-i) 0)).length=K:=by rw[Nc,Y_,Ja,H9];omega
  have hfk:=Q0 (N:=Ka 2 xs+Ka 2 ys*2^up) hlt;generalize hC:(Ka 2 xs % 2^i+Ka 2 ys*2^up % 2^i)/2^i=C at*;generalize hX:Ka 2 xs/2^i % 2=X at*;refine fa ?_;refine Oa hh (zi A n c i xs _ (hx.ext hh.below) hdx Z' Z') rfl ?_;intro w28 hh;rw[hX];by_cases hiu:up<=i
  .rw[J' hiu] at hbu;rw[hbu] at b1 b2;generalize hY:Ka 2 ys/2^(i-up) % 2=Y at*;have es:((X+C) % 256+Y) % 256=X+C+Y:=Z';have ei:(i:Int)-(up:Int)=((i-up:Nat):Int):=Z';refine mI ?_;refine Ye rfl rfl U' ?_;refine fa ?_;rw[ei];refine Oa hh (zi B m c' (i-up) ys _ (hy.ext hh.below) hdy Z' Z') rfl ?_;intro w39 hh;rw[hY];exact aag
  rw[L' hiu] at hbu;rw[hbu] at b1 b2;have es:(X+C) % 256=X+C+0:=Z';refine mI ?_;exact aag
 obtain rfl:i=K:=Z';exact KZ
def cZ{X:Nat}(h:Y<=X)(i:Nat):((2+X/2^i % 2+256-Y/2^i % 2) % 256+256-(if X % 2^i<Y % 2^i then 1 else 0)) % 256 % 2=(X-Y)/2^i % 2/\(1+256-((2+X/2^i % 2+256-Y/2^i % 2) % 256+256-(if X % 2^i<Y % 2^i then 1 else 0)) % 256/2) % 256=(if X % 2^(i+1)<Y % 2^(i+1) then 1 else 0):=by
 have hX:=E9 X (2^i);have hY:=E9 Y (2^i);have hp:0<2^i:=r_ Z';have hX2:X % 2^(i+1)=X % 2^i+2^i*(X/2^i % 2):=by rw[i_,Nat.mod_mul]
 have hY2:Y % 2^(i+1)=Y % 2^i+2^i*(Y/2^i % 2):=by rw[i_,Nat.mod_mul]
 have hXl:=B_ X hp;have hYl:=B_ Y hp;rw[hX2,hY2];generalize hx1:X/2^i=x1 at*;generalize hy1:Y/2^i=y1 at*;generalize hx0:X % 2^i=x0 at*;generalize hy0:Y % 2^i=y0 at*;have key:∀b:Nat,b=(if x0<y0 then 1 else 0)->(X-Y)/2^i=x1-y1-b/\y1+b<=x1:=by
  intro b hb;have hle:y1+b<=x1:=by
   refine k6 λhlt=> ?_;have h1:2^i*(x1+1)<=2^i*(y1+b):=k_ _ hlt;rw[X9,X9] at h1;split at hb
   .subst hb;omega
   subst hb;omega
  refine⟨?_,hle⟩;have e:X-Y=(x0+2^i*b-y0)+2^i*(x1-y1-b):=by
   have h2:2^i*(x1-y1-b)=2^i*x1-2^i*y1-2^i*b:=by rw[Nat.mul_sub,Nat.mul_sub]
   have h3:2^i*(y1+b)<=2^i*x1:=k_ _ hle;rw[X9] at h3;split at hb
   .subst hb;omega
   subst hb;omega
  rw[e,Q8 _ _ hp,L9,C_];split at hb
  .subst hb;omega
  subst hb;omega
 obtain⟨k1,k2⟩:=key _ rfl;rw[k1];have hlt:(x0+2^i*(x1 % 2)<y0+2^i*(y1 % 2))↔(x1 % 2<y1 % 2\/x1 % 2=y1 % 2/\x0<y0):=(by obtain h1|h1:=Nat.mod_two_eq_zero_or_one x1<;>obtain h2|h2:=Nat.mod_two_eq_zero_or_one y1<;>rw[h1,h2]<;>omega);by_cases hb:x0<y0
 .rw[J' hb] at k2 |-;exact aex
 rw[L' hb] at k2 |-;exact aex
def tq(A B:Option Addr)(n c m c':Nat)(xs ys:List Nat)(w:World)(hx:Sl w A n 1 (Kg xs))(hy:Sl w B m 1 (Kg ys))(hdx:Dg 2 xs)(hdy:Dg 2 ys)(hn:n<=100000000000)(hm:m<=100000000000)(hle:Ka 2 ys<=Ka 2 xs):Calls prog 278 #[.slice A n c,.slice B m c'] w λe w'=>∃b,e=.returned (.slice (some ⟨b,0,none⟩) n n)/\w'.ownsRow w.heap.size 5 1 (.slice (some ⟨b,0,none⟩) n n) n (Kg (Ib 2 n (Ka 2 xs-Ka 2 ys)))/\Below w.heap.size w w':=by
 have hlx:=hx.1;have hly:=hy.1;rw[Nc] at hlx hly;have hh:=Hp.start w;have hand:∀z:Nat,z &&& 1=z % 2:=λz=>Nat.and_one_is_mod z;refine da (N:=37) (l:=[.slice A n c,.slice B m c']) func278 rfl rfl (by simp) ?_;refine fa ?_;refine vF ?_;intro b11 w11 hh;refine fa ?_;rw[Dq] at hh;refine Ra [6,7,8,12,13,14,15,16,17,18,19,20,21,22,23,24,25,26,27,28,29,30,31,32,33,34,35] 6 7 (λcr v w'=>∃i:Nat,i<=n/\v=.int .i64 (i:Int)/\cr=.int .u8 ((if Ka 2 xs % 2^i<Ka 2 ys % 2^i then 1 else 0:Nat):Int)/\Hp w [.row (some ⟨b11,0,none⟩) n n 5 1 (Kg (Ib 2 i (Ka 2 xs-Ka 2 ys)++List.replicate (n-i) 0))] w') (λ_ v _=>n-(intOf v).toNat) ?_ ?_
 .exact⟨0,D' _,rfl,by simp[Nat.mod_one];rfl,hh⟩
 clear hh;rintro ρ' cr v w' ⟨i,hi,rfl,rfl,hh⟩;by_cases hlt:i<n
 .obtain⟨b1,b2⟩:=cZ hle i;have hxb:Ka 2 xs/2^i % 2<2:=B_ _ Z';have hyb:Ka 2 ys/2^i % 2<2:=B_ _ Z';have hcb:(if Ka 2 xs % 2^i<Ka 2 ys % 2^i then 1 else 0:Nat)<=1:=by split<;>omega
  have hll:(Kg (Ib 2 i (Ka 2 xs-Ka 2 ys)++List.replicate (n-i) 0)).length=n:=by rw[Nc,Y_,Ja,H9];omega
  have hfk:=Q0 (N:=Ka 2 xs-Ka 2 ys) hlt;refine fa ?_;refine Oa hh (zi A n c i xs _ (hx.ext hh.below) hdx Z' Z') rfl ?_;intro w20 hh;refine Ye (a:=2) rfl rfl U' ?_;refine fa ?_;refine Oa hh (zi B m c' i ys _ (hy.ext hh.below) hdy Z' Z') rfl ?_;intro w24 hh;generalize hC:(if Ka 2 xs % 2^i<Ka 2 ys % 2^i then 1 else 0:Nat)=C at*;generalize hX:Ka 2 xs/2^i % 2=X at*;generalize hY:Ka 2 ys/2^i % 2=Y at*;have es:((2+X) % 256+256-Y) % 256=(2+X+256-Y) % 256:=Z';have hS:((2+X+256-Y) % 256+256-C) % 256<256:=B_ _ Z';refine kA ?_;refine mI ?_;rw[es];refine kA ?_;refine fa ?_;refine aU ?_;refine fa ?_;refine vR ?_;intro ws hh;simp only[U_] at hh;rw[hand,b1,I_,jc (by rw[hll];omega),Ur,hfk] at hh;refine fa ?_;refine Kl (s:=1) (m:=2) rfl rfl U' U' U' ?_;refine Up (a:=1) rfl rfl Z' U' ?_;refine fa ?_;refine⟨⟨i+1,Z',rfl,by rw[<-b2];rfl,hh⟩,by show n-(i+1)<n-i;omega, ?_⟩;exact Rc
 obtain rfl:i=n:=Z';exact KZ
def Iz(n:Nat)(w:World)(hn:n<18446744073709551616):Calls prog 228 #[.int .u64 (n:Int)] w λe w'=>e=.returned (.string (sN n))/\Below w.heap.size w w':=by
 have hh:=Hp.start w;refine da (N:=16) (l:=[.int .u64 (n:Int)]) func228 rfl rfl (by simp) ?_;refine fa ?_;replace hh:=hh.Lb 5 1;refine Ra [0,3,4,5,6,7,8,9,10,11,12,13] 0 3 (λv o w'=>∃(k m:Nat)(A:Option Addr)(c:Nat),v=.int .u64 (m:Int)/\m<18446744073709551616/\k<=64/\m<2^(64-k)/\o=.slice A k c/\m=n/2^k/\Hp w [.row A k c 5 1 (Kg (Ib 2 k n))] w') (λv _ _=>(intOf v).toNat) ?_ ?_
 .exact⟨0,n,none,0,rfl,hn,Z',by simpa using hn,rfl,by simp,hh⟩
 clear hh;rintro ρ' v o w' ⟨k,m,A,c,rfl,hm,hk,hmk,rfl,hmn,hh⟩;by_cases h0:m=0
 .subst h0;refine fa ?_;refine Oa hh (Ng _ _ _ (Ib 2 k n) _ (hh.ra (i:=0) rfl) (Lf Z' _ _) (hh.Ve (i:=0) rfl) Z') rfl ?_;intro w15 hh;have hlt:n<2^k:=(by have:=E9 n (2^k);have h2:=B_ n (r_ (n:=k) (show 0<2 by omega));rw[<-hmn] at this;omega);rw[Fc hlt];refine fa ?_;exact⟨rfl,hh.below⟩
 have hk64:k<64:=(by refine H6 λh=> ?_;rw[show 64-k=0 by omega] at hmk;omega);have hm2:m % 2<256:=Z';refine fa ?_;refine SJ (b:=2) rfl rfl Z' U' ?_;refine Sk ?_;refine fB ?_;intro b12 w12 hh;refine Vr ?_;intro A13 c13 w13 hh;simp only[U_,F_] at hh;replace hh:=hh.sub (s_ _ _);refine fa ?_;refine XH (b:=2) rfl rfl Z' (by first|assumption|omega) U' ?_;refine fa ?_;have e1:Kg (Ib 2 k n)++[Value.int .u8 ((m % 2:Nat):Int)]=Kg (Ib 2 (k+1) n):=(by rw[hmn,Yk,Mv];rfl);rw[e1] at hh;refine⟨⟨k+1,m/2,A13,c13,rfl,Z',Z', ?_,rfl, ?_,hh⟩,by show(((m/2:Nat):Int)).toNat<((m:Int)).toNat;omega, ?_⟩
 .rw[show 64-k=(64-(k+1))+1 by omega,i_] at hmk;omega
 .rw[hmn,V8,i_]
 exact Rc
def di(a:ByteArray):(Ha 2 (bN a)).length<=8*a.size:=Mf a
def Yj(n:Nat):Dg 2 (Ha 2 n):=(ae Z' n).1
def Nh(n:Nat):Ka 2 (Ha 2 n)=n:=we Z' n
def Bw(a b:ByteArray)(w:World)(ha:a.size<=1000000000)(hb:b.size<=1000000000):Calls prog 286 #[.string a,.string b] w λe w'=>e=.returned (.int .i64 (Qh (bN a) (bN b)))/\Below w.heap.size w w':=by
 have hh:=Hp.start w;have h1:=di a;have h2:=di b;refine da (N:=10) (l:=[.string a,.string b]) func286 rfl rfl (by simp) ?_;refine fa ?_;refine kF ?_;rintro e_ w6 ⟨A6,c6,rfl,hown_,hb_⟩;refine⟨_,rfl, ?_⟩;replace hh:=hh.Aa (x:=.row _ _ _ _ _ _) hb_ hown_;refine mS ?_;refine qa (tf b _ hb) ja.out rfl U' ?_;rintro e_ w8 ⟨A8,c8,rfl,hown_,hb_⟩;refine⟨_,rfl, ?_⟩;replace hh:=hh.Aa (x:=.row _ _ _ _ _ _) hb_ hown_;refine Oa hh (Nn _ _ _ _ _ _ (Ha 2 (bN a)) (Ha 2 (bN b)) _ (hh.ra (i:=1) rfl) (hh.ra (i:=0) rfl) (Yj _) (Yj _) Z' Z') rfl ?_;intro w9 hh;rw[Nh,Nh];refine fa ?_;exact⟨rfl,hh.below⟩
def Sp(a:ByteArray)(w:World)(ha:a.size<=1000000000):Calls prog 190 #[.string a] w λe w'=>e=.returned (.int .i64 (Sa (bN a)))/\Below w.heap.size w w':=by
 have hh:=Hp.start w;refine da (N:=6) (l:=[.string a]) func190 rfl rfl (by simp) ?_;refine fa ?_;refine kF ?_;rintro e_ w4 ⟨A4,c4,rfl,hown_,hb_⟩;refine⟨_,rfl, ?_⟩;replace hh:=hh.Aa (x:=.row _ _ _ _ _ _) hb_ hown_;refine fa ?_;exact⟨rfl,hh.below⟩
def Ip(a b:ByteArray)(w:World)(ha:a.size<=1000000000)(hb:b.size<=1000000000):Calls prog 248 #[.string a,.string b] w λe w'=>e=.returned (.tuple #[.string (sN (bN a-bN b)),.bool (decide (bN b<=bN a))])/\Below w.heap.size w w':=by
 have hh:=Hp.start w;have h1:=di a;have h2:=di b;by_cases hlt:bN a<bN b
 .refine da (N:=16) (l:=[.string a,.string b]) func248 rfl rfl (by simp) ?_;refine fa ?_;refine Oa hh (Bw a b _ ha hb) rfl ?_;intro w8 hh;rw[Uj hlt];exact aaX
 have hc:¬Qh (bN a) (bN b)<0:=by unfold Qh;split<;>(try split)<;>omega
 have hbl:bN a-bN b<2^(Ha 2 (bN a)).length:=S9 (Nat.sub_le _ _) (Tb (bN a));refine da (N:=16) (l:=[.string a,.string b]) func248 rfl rfl (by simp) ?_;refine fa ?_;refine Oa hh (Bw a b _ ha hb) rfl ?_;intro w8 hh;refine fa ?_;refine kF ?_;rintro e_ w11 ⟨A11,c11,rfl,hown_,hb_⟩;refine⟨_,rfl, ?_⟩;replace hh:=hh.Aa (x:=.row _ _ _ _ _ _) hb_ hown_;refine mS ?_;refine qa (tf b _ hb) ja.out rfl U' ?_;rintro e_ w13 ⟨A13,c13,rfl,hown_,hb_⟩;refine⟨_,rfl, ?_⟩;replace hh:=hh.Aa (x:=.row _ _ _ _ _ _) hb_ hown_;refine qa (tq _ _ _ _ _ _ (Ha 2 (bN a)) (Ha 2 (bN b)) _ (hh.ra (i:=1) rfl) (hh.ra (i:=0) rfl) (Yj _) (Yj _) Z' Z' (by rw[Nh,Nh];omega)) ja.out rfl U' ?_;rintro e_ w_ ⟨b14,rfl,hown_,hb_⟩;refine⟨_,rfl, ?_⟩;replace hh:=hh.Aa (x:=.row _ _ _ _ _ _) hb_ hown_;rw[Nh,Nh] at hh;refine Oa hh (Ng _ _ _ (Ib 2 (Ha 2 (bN a)).length (bN a-bN b)) _ (hh.ra (i:=0) rfl) (Lf Z' _ _) (j' _) Z') rfl ?_;intro w15 hh;rw[Fc hbl];refine fa ?_;rw[M_ Z'];exact⟨rfl,hh.below⟩
def JI(a:ByteArray)(m:Nat)(w:World)(ha:a.size<=1000000000)(hm:m<=10000000000):Calls prog 249 #[.string a,.int .i64 (m:Int)] w λe w'=>e=.returned (.string (sN (bN a*2^m)))/\Below w.heap.size w w':=by
 have hh:=Hp.start w;have h1:=di a;have e1:(if(0:Int)>(m:Int) then 0 else(m:Int))=m:=L' Z';have hbd:bN a*2^m<2^(max 0 ((Ha 2 (bN a)).length+m)+1):=(by refine T9 (Tb _) (m_ Z' ?_);have:=Xg (bN a) m;show Sa _<=max 0 (Sa _+m)+1;omega);refine da (N:=11) (l:=[.string a,.int .i64 (m:Int)]) func249 rfl rfl (by simp) ?_;refine fa ?_;refine kF ?_;rintro e_ w6 ⟨A6,c6,rfl,hown_,hb_⟩;refine⟨_,rfl, ?_⟩;replace hh:=hh.Aa (x:=.row _ _ _ _ _ _) hb_ hown_;refine fa ?_;rw[e1];refine qa (gu none _ 0 0 _ _ m [] (Ha 2 (bN a)) _ (Sl.nil _ _ _) (hh.ra (i:=0) rfl) Dg.nil (Yj _) Z' Z' Z') ja.out rfl U' ?_;rintro e_ w_ ⟨b9,rfl,hown_,hb_⟩;refine⟨_,rfl, ?_⟩;replace hh:=hh.Aa (x:=.row _ _ _ _ _ _) hb_ hown_;rw[Nh,Ka,C_] at hh;refine Oa hh (Ng _ _ _ (Ib 2 (max 0 ((Ha 2 (bN a)).length+m)+1) (bN a*2^m)) _ (hh.ra (i:=0) rfl) (Lf Z' _ _) (j' _) Z') rfl ?_;intro w10 hh;rw[Fc hbd];refine fa ?_;exact⟨rfl,hh.below⟩
def nI(L:Option Addr)(n c:Nat)(ss:List ByteArray)(w:World)(hS:Sl w L n 1 (qF ss))(hn:n<=1000000)(hs:∀s∈ss,s.size<=1000000000):Calls prog 247 #[.slice L n c] w λe w'=>e=.returned (.string (sN (ss.map bN).sum))/\Below w.heap.size w w':=by
 have hsl:ss.length=n:=by have:=hS.1;rw[eu] at this;omega
 have hh:=Hp.start w;refine da (N:=20) (l:=[.slice L n c]) func247 rfl rfl (by simp) ?_;refine fa ?_;replace hh:=hh.Lb 5 1;refine Ra [3,4,5,6,7,8,9,10,11,12,13,14,15,16,17] 3 4 (λv j w'=>∃(i:Nat)(A:Option Addr)(c' T K:Nat),i<=n/\j=.int .i64 i/\T=((ss.take i).map bN).sum/\v=.slice A K c'/\K<=8000000000+i/\T<2^K/\Hp w [.row A K c' 5 1 (Kg (Ib 2 K T))] w') (λ_ j _=>n-(intOf j).toNat) ?_ ?_
 .exact⟨0,none,0,0,0,D' _,rfl,rfl,rfl,Z',by simp,hh⟩
 clear hh;rintro ρ' v j w' ⟨i,A,c',T,K,hi,rfl,hT,rfl,hTl,hTb,hh⟩;by_cases hlt:i<n
 .obtain⟨s,hsi⟩:=ea (l:=ss) (k:=i) Z';obtain⟨ad,rfl,hr⟩:=hS.at_ Z';have hs2:=CM hsi;have hsz:=hs s (G' hsi);have hlx:=di s;have hT2:((ss.take (i+1)).map bN).sum=T+bN s:=by rw[oa hsi,n_,J7,nt,hT]
  have hbs:bN s<2^(Ha 2 (bN s)).length:=Tb _;have hb2:T+bN s<2^(max K ((Ha 2 (bN s)).length+0)+1):=(by have h1:2^K<=2^max K ((Ha 2 (bN s)).length+0):=m_ Z' Z';have h2:2^(Ha 2 (bN s)).length<=2^max K ((Ha 2 (bN s)).length+0):=m_ Z' Z';rw[i_];omega);refine fa ?_;refine Tm ?_;refine qa (tf s _ hsz) ja.out rfl U' ?_;rintro e_ w16 ⟨A16,c16,rfl,hown_,hb_⟩;refine⟨_,rfl, ?_⟩;replace hh:=hh.Aa (x:=.row _ _ _ _ _ _) hb_ hown_;refine qa (gu _ _ _ _ _ _ 0 (Ib 2 K T) (Ha 2 (bN s)) _ (hh.ra (i:=1) rfl) (hh.ra (i:=0) rfl) (Lf Z' _ _) (Yj _) Z' Z' Z') ja.out rfl U' ?_;rintro e_ w_ ⟨b17,rfl,hown_,hb_⟩;refine⟨_,rfl, ?_⟩;rw[Nh,Fc hTb,Q6,I_] at hown_;replace hh:=(hh.Aa (x:=.row _ _ _ _ _ _) hb_ hown_).sub (P5 [_] _);refine fa ?_;refine⟨⟨i+1,_,_,T+bN s,_,Z',rfl,hT2.symm,rfl,Z',hb2,hh⟩,by show n-(i+1)<n-i;omega, ?_⟩;exact Rc
 refine fa ?_;refine Oa hh (Ng _ _ _ (Ib 2 K T) _ (hh.ra (i:=0) rfl) (Lf Z' _ _) (hh.Ve (i:=0) rfl) Z') rfl ?_;intro w19 hh;rw[Fc hTb];refine fa ?_;rw[W_ Z'] at hT;rw[hT];exact⟨rfl,hh.below⟩
def WS(X Y k:Nat)(hY:0<Y):X/2^k % Y=(if Y<=X/2^k % 2+2*(X/2^(k+1) % Y) then X/2^k % 2+2*(X/2^(k+1) % Y)-Y else X/2^k % 2+2*(X/2^(k+1) % Y))/\
  X/2^k/Y % 2=(if Y<=X/2^k % 2+2*(X/2^(k+1) % Y) then 1 else 0)/\X/2^k/Y/2=X/2^(k+1)/Y:=by
 have h1:=dm X k;have hb:X/2^k % 2<2:=B_ _ Z';generalize X/2^k % 2=b at*;generalize X/2^k=Z at*;generalize X/2^(k+1)=V at*;have h2:=E9 V Y;have h3:=B_ V hY;generalize V/Y=q at*;generalize V % Y=r at*;have e:Z=(b+2*r)+Y*(2*q):=by rw[h1,<-h2,X9,G6];omega
 rw[e,R7,Q8 _ _ hY];by_cases hc:Y<=b+2*r
 .rw[J' hc,J' hc];have e2:b+2*r=(b+2*r-Y)+Y*1:=Z';have h4:b+2*r-Y<Y:=Z';have h5:(b+2*r)/Y=1:=by rw[e2,Q8 _ _ hY,L9 h4]
  have h6:(b+2*r) % Y=b+2*r-Y:=by conv=>lhs;rw[e2,R7,h_ h4]
  rw[h5,h6];omega
 rw[L' hc,L' hc,h_ Z',L9 Z'];omega
def tp(a b:ByteArray)(w:World)(ha:a.size<=1000000000)(hb:b.size<=1000000000)(hb0:bN b≠0):Calls prog 231 #[.string a,.string b] w λe w'=>e=.returned (.tuple #[.string (sN (bN a/bN b)),.string (sN (bN a % bN b)),.bool true])/\Below w.heap.size w w':=by
 have hh:=Hp.start w;have h1:=di a;have h2:=di b;have hX:=Nh (bN a);have hXd:=Yj (bN a);have hXl:bN a<2^(Ha 2 (bN a)).length:=Tb _;have hYp:0<(Ha 2 (bN b)).length:=En hb0;have hget:∀k,k<(Ha 2 (bN a)).length->(Ha 2 (bN a))[k]?=some (bN a/2^k % 2):=λk hk=>Py Z' hk;refine da (N:=52) (l:=[.string a,.string b]) func231 rfl rfl (by simp) ?_;refine fa ?_;refine kF ?_;rintro e_ w13 ⟨A13,c13,rfl,hown_,hb_⟩;refine⟨_,rfl, ?_⟩;replace hh:=hh.Aa (x:=.row _ _ _ _ _ _) hb_ hown_;refine mS ?_;refine qa (tf b _ hb) ja.out rfl U' ?_;rintro e_ w15 ⟨A15,c15,rfl,hown_,hb_⟩;refine⟨_,rfl, ?_⟩;replace hh:=hh.Aa (x:=.row _ _ _ _ _ _) hb_ hown_;refine fa ?_;refine Me hh rfl rfl rfl rfl lb.out ya.out rfl Z' Z' U' ?_;intro b21 w21 hh;refine fa ?_;rw[Dq] at hh;generalize hxs:Ha 2 (bN a)=xs at*;replace hh:=hh.Lb 5 1;refine Ra [10,11,25,26,27,28,29,30,31,32,33,34,35,36,37,38,39,40,41,42,43,44,45,46,47] 10 11 (λv j w'=>∃(k:Nat)(A:Option Addr)(c':Nat),k<=xs.length/\j=.int .i64 ((k:Int)-1)/\v=.slice A (Ha 2 (bN a/2^k % bN b)).length c'/\Hp w [.row A (Ha 2 (bN a/2^k % bN b)).length c' 5 1 (Kg (Ha 2 (bN a/2^k % bN b))),.row (some ⟨b21,0,none⟩) xs.length xs.length 5 1 (Kg (List.replicate k 0++Ib 2 (xs.length-k) (bN a/2^k/bN b))),.row A15 (Ha 2 (bN b)).length c15 5 1 (Kg (Ha 2 (bN b))),.row A13 xs.length c13 5 1 (Kg xs)] w') (λ_ j _=>(intOf j+1).toNat) ?_ ?_
 .refine⟨xs.length,none,0,j' _,rfl, ?_, ?_⟩
  .rw[L9 hXl,Nat.zero_mod,Yg Z'];rfl
  rw[L9 hXl,Nat.zero_mod,Yg Z',f_];simp only[Ib,o_];exact hh
 clear hh;rintro ρ' v j w' ⟨k,A,c',hk,rfl,rfl,hh⟩;by_cases h0:k=0
 .subst h0;rw[Q6,O7,Nat.sub_zero,p6,E'] at hh;rw[Q6,O7];have hq:bN a/bN b<2^xs.length:=S9 (l8 _ _) hXl;have hrl:(Ha 2 (bN a % bN b)).length<=(Ha 2 (bN b)).length:=Ni Z' (Nat.le_of_lt (B_ _ Z'));refine fa ?_;refine Oa hh (Ng _ _ _ (Ib 2 xs.length (bN a/bN b)) _ (hh.ra (i:=1) rfl) (Lf Z' _ _) (j' _) Z') rfl ?_;intro w49 hh;rw[Fc hq];refine mL ?_;refine Oa hh (Ng _ _ _ (Ha 2 (bN a % bN b)) _ (hh.ra (i:=0) rfl) (Yj _) (hh.Ve (i:=0) rfl) Z') rfl ?_;intro w51 hh;rw[Nh];refine fa ?_;exact⟨rfl,hh.below⟩
 obtain⟨i,rfl⟩:∃i,k=i+1:=⟨k-1,Z'⟩;have hji:((i+1:Nat):Int)-1=(i:Int):=Z';obtain⟨d1,d2,d3⟩:=WS (bN a) (bN b) i Z';have hgi:=yp (hget i Z');have hdw:bN a/2^i % 2<2:=B_ _ Z';have hrl:(Ha 2 (bN a/2^(i+1) % bN b)).length<=(Ha 2 (bN b)).length:=Ni Z' (Nat.le_of_lt (B_ _ Z'));have hqk:Ib 2 (xs.length-i) (bN a/2^i/bN b)=(bN a/2^i/bN b % 2)::Ib 2 (xs.length-(i+1)) (bN a/2^(i+1)/bN b):=(by rw[show xs.length-i=(xs.length-(i+1))+1 by omega,Ib,d3]);rw[hji];obtain⟨g,rfl⟩:=hh.Ob (i:=3) rfl Z';refine fa ?_;refine ub ya.out rfl (hh.Zc (i:=3) rfl (by first|assumption|(simp only[I_];assumption))) U' ?_;refine fB ?_;intro b33 w33 hh;refine mL ?_;refine Gb hh (i:=0) rfl rfl rfl (hh.ra (i:=1) rfl) lb.out ya.out rfl U' (by first|rfl|exact Xb _|exact Nb _|exact Pa _|exact Ta NR.one _) Z' Z' U' ?_;intro A35 c35 w35 hh;simp only[U_] at hh;have e35:[Value.int .u8 ((bN a/2^i % 2:Nat):Int)]++Kg (Ha 2 (bN a/2^(i+1) % bN b))=Kg ((bN a/2^i % 2)::Ha 2 (bN a/2^(i+1) % bN b)):=rfl;rw[e35] at hh;generalize hR:bN a/2^(i+1) % bN b=R at*;generalize hbt:bN a/2^i % 2=bt at*;have hdg:Dg 2 (bt::Ha 2 R):=Dg.cons hdw (Yj _);have hcv:Xd (bt::Ha 2 R)=Ha 2 (bt+2*R):=by rw[Lh Z' hdg,Ka,Nh]
 have hll:(bt::Ha 2 R).length=1+(Ha 2 R).length:=by rw[E_];omega
 have hcl:=ue (bt::Ha 2 R);refine Oa hh (Cl _ _ _ (bt::Ha 2 R) _ (hh.ra (i:=0) rfl) (hh.Ve (i:=0) rfl) Z') rfl ?_;intro w36 hh;replace hh:=hh.aby hll;rw[hcv] at hh hcl;rw[hcv];refine fa ?_;refine Oa hh (Nn _ _ _ _ _ _ (Ha 2 (bt+2*R)) (Ha 2 (bN b)) _ (hh.ra (i:=0) rfl) (hh.ra (i:=3) rfl) (Yj _) (Yj _) Z' Z') rfl ?_;intro w39 hh;rw[Nh,Nh];by_cases hge:bN b<=bt+2*R
 .have hc:0<=Qh (bt+2*R) (bN b):=by unfold Qh;rw[L' Z'];split<;>omega
  rw[J' hge] at d1 d2;have hml:bt+2*R-bN b<2^(Ha 2 (bt+2*R)).length:=S9 (Nat.sub_le _ _) (Tb _);have hcm:Xd (Ib 2 (Ha 2 (bt+2*R)).length (bt+2*R-bN b))=Ha 2 (bt+2*R-bN b):=by rw[Lh Z' (Lf Z' _ _),Fc hml]
  refine fa ?_;refine qa (tq _ _ _ _ _ _ (Ha 2 (bt+2*R)) (Ha 2 (bN b)) _ (hh.ra (i:=0) rfl) (hh.ra (i:=3) rfl) (Yj _) (Yj _) Z' Z' (by rw[Nh,Nh];exact hge)) ja.out rfl U' ?_;rintro e_ w_ ⟨b43,rfl,hown_,hb_⟩;refine⟨_,rfl, ?_⟩;replace hh:=hh.Aa (x:=.row _ _ _ _ _ _) hb_ hown_;rw[Nh,Nh] at hh;refine Oa hh (Cl _ _ _ (Ib 2 (Ha 2 (bt+2*R)).length (bt+2*R-bN b)) _ (hh.ra (i:=0) rfl) (j' _) Z') rfl ?_;intro w44 hh;replace hh:=hh.aby (Ja _ _);rw[hcm] at hh;rw[hcm];have hql:(Kg (List.replicate (i+1) 0++Ib 2 (xs.length-(i+1)) (bN a/2^(i+1)/bN b))).length=xs.length:=by rw[Nc,Y_,H9,Ja];omega
  refine fa ?_;refine Ab hh (i:=3) (vs:=[_]) rfl rfl (Bc rfl) rfl ya.out rfl (by rw[hql];omega) rfl ?_;intro ws hh;simp only[U_,F_] at hh;rw[I_,jc (by rw[hql];omega)] at hh;have hset:(Kg (List.replicate (i+1) 0++Ib 2 (xs.length-(i+1)) (bN a/2^(i+1)/bN b))).set i (.int .u8 1)=Kg (List.replicate i 0++Ib 2 (xs.length-i) (bN a/2^i/bN b)):=(by have:=Ur (List.replicate (i+1) 0++Ib 2 (xs.length-(i+1)) (bN a/2^(i+1)/bN b)) i 1;rw[hqk,d2,<-EK];exact this);rw[hset] at hh;replace hh:=hh.sub (.cons_cons _ (.cons _ (.cons _ (A_ _))));refine fa ?_;exact aaZ
 have hc:¬0<=Qh (bt+2*R) (bN b):=by rw[Uj Z'];omega
 rw[L' hge] at d1 d2;refine fa ?_;have hrep:List.replicate (i+1) 0++Ib 2 (xs.length-(i+1)) (bN a/2^(i+1)/bN b)=List.replicate i 0++Ib 2 (xs.length-i) (bN a/2^i/bN b):=(by rw[hqk,d2,List.replicate_succ',l_];rfl);rw[hrep] at hh;replace hh:=hh.sub (.cons_cons _ (.cons _ (A_ _)));exact aaZ
def Zo:Sa n=0↔n=0:=by
 constructor
 .intro h;have:=Tb n;rw[h] at this;omega
 intro h;rw[h];exact Ik
def qo{a:Nat}(h:a<=b):Sa a<=Sa b:=Dc (S9 h (Tb b))
def uV(a b:Nat):Sa (a+b)<=Sa a+Sa b+1:=by
 apply Dc;have h1:=Tb a;have h2:=Tb b;have h3:2^Sa a<=2^(Sa a+Sa b):=m_ Z' Z';have h4:2^Sa b<=2^(Sa a+Sa b):=m_ Z' Z';rw[i_];omega
def Qd(s:Bool)(m:ByteArray)(w:World)(hm:m.size<=1000000000):Calls prog 157 #[.agg #[.bool s,.string m]] w λe w'=>e=.returned (.agg #[.bool (iN (iv s m)),.string (iM (iv s m))])/\Below w.heap.size w w':=by
 have hh:=Hp.start w;have h1:=di m;rw[aah,ZM]
 cases s with
 |false=>
  refine da (N:=16) (l:=[.agg #[.bool false,.string m]]) func157 rfl rfl (by simp) ?_;refine Sb ?_;intro b1 w1 hh b2 w2 hh;refine qa (tf m _ hm) ja.out rfl U' ?_;rintro e_ w6 ⟨A6,c6,rfl,hown_,hb_⟩;refine⟨_,rfl, ?_⟩;replace hh:=hh.Aa (x:=.row _ _ _ _ _ _) hb_ hown_;refine fU ?_;intro w7 hh;rw[Nh];refine Jb ?_;intro ws hh;exact KP
 |true=>
  by_cases h0:sN (bN m)=ByteArray.mk #[]
  .refine da (N:=16) (l:=[.agg #[.bool true,.string m]]) func157 rfl rfl (by simp) ?_;refine Sb ?_;intro b1 w1 hh b2 w2 hh;refine qa (tf m _ hm) ja.out rfl U' ?_;rintro e_ w6 ⟨A6,c6,rfl,hown_,hb_⟩;refine⟨_,rfl, ?_⟩;replace hh:=hh.Aa (x:=.row _ _ _ _ _ _) hb_ hown_;refine fU ?_;intro w7 hh;rw[Nh];refine fa ?_
   (first|refine vf rfl rfl (by first|rfl|assumption|decide) U' ?_|refine uf rfl rfl (by first|assumption|decide) U' ?_)
   refine Jb ?_;intro ws hh;refine nF ?_;exact U0
  refine da (N:=16) (l:=[.agg #[.bool true,.string m]]) func157 rfl rfl (by simp) ?_;refine Sb ?_;intro b1 w1 hh b2 w2 hh;refine qa (tf m _ hm) ja.out rfl U' ?_;rintro e_ w6 ⟨A6,c6,rfl,hown_,hb_⟩;refine⟨_,rfl, ?_⟩;replace hh:=hh.Aa (x:=.row _ _ _ _ _ _) hb_ hown_;refine fU ?_;intro w7 hh;rw[Nh];refine fa ?_
  (first|refine vf rfl rfl (by first|rfl|assumption|decide) U' ?_|refine uf rfl rfl (by first|assumption|decide) U' ?_)
  refine Jb ?_;intro ws hh;refine nF ?_;exact tZ
def aj(s:Bool)(m:ByteArray)(w:World)(hm:m.size<=1000000000):Calls prog 111 #[.agg #[.bool s,.string m]] w λe w'=>e=.returned (.int .i64 (iv s m).sign)/\Below w.heap.size w w':=by
 have hh:=Hp.start w;by_cases h0:bN m=0
 .have hb:Sa (bN m)=0:=Zo.2 h0;refine da (N:=9) (l:=[.agg #[.bool s,.string m]]) func111 rfl rfl (by simp) ?_;refine Jb ?_;intro b1 w1 hh;refine Oa hh (Sp m _ hm) rfl ?_;intro w5 hh;refine fa ?_;have hz:iv s m=0:=by unfold iv;split<;>omega
  exact⟨by rw[hz];rfl,hh.below⟩
 have hb:Sa (bN m)≠0:=λh=>h0 (Zo.1 h)
 cases s with
 |true=>
  refine da (N:=9) (l:=[.agg #[.bool true,.string m]]) func111 rfl rfl (by simp) ?_;refine Jb ?_;intro b1 w1 hh;refine Oa hh (Sp m _ hm) rfl ?_;intro w5 hh;refine fa ?_;have hz:iv true m<0:=by unfold iv;rw[J' rfl];omega
  exact⟨by rw[E8 hz],hh.below⟩
 |false=>
  refine da (N:=9) (l:=[.agg #[.bool false,.string m]]) func111 rfl rfl (by simp) ?_;refine Jb ?_;intro b1 w1 hh;refine Oa hh (Sp m _ hm) rfl ?_;intro w5 hh;refine fa ?_;have hz:0<iv false m:=by unfold iv;rw[L' (by simp)];omega
  exact⟨by rw[G8 hz],hh.below⟩
def At(n:Int)(w:World)(h1: -9223372036854775808<=n)(h2:n<=9223372036854775807):Calls prog 156 #[.int .i64 n] w λe w'=>e=.returned (.agg #[.bool (iN n),.string (iM n)])/\Below w.heap.size w w':=by
 have hh:=Hp.start w;by_cases h0:n<0
 .have hn:iN n=true:=M_ h0;obtain⟨m,hm⟩:=T5 (by omega:0<= -(n+1));have ha:n.natAbs=m+1:=Z';have hw:(m+1) % 18446744073709551616=m+1:=h_ Z';refine da (N:=16) (l:=[.int .i64 n]) func156 rfl rfl (by simp) ?_;refine sr ?_;refine sw hh ?_;intro b2 w2 hh;refine ua (mb (sr (mI ?_)));refine Bi (ua (cT (sr (mI ?_))));refine lj ?_;refine aW rfl Z' Z' U' ?_;rw[show -(n+1)=(m:Int) from hm];refine Sk ?_;refine Ye (b:=1) rfl rfl U' ?_;rw[hw];refine Oa hh (Iz (m+1) _ Z') rfl ?_;intro w10 hh;rw[<-ha];refine Jb ?_;intro ws hh;refine mr ?_;rw[hn];exact⟨rfl,hh.below⟩
 obtain⟨m,rfl⟩:=T5 (by omega:0<=n);have hn:iN (m:Int)=false:=O_ Z';have hm:m<18446744073709551616:=Z';have e1:iM (m:Int)=sN m:=rfl;refine da (N:=16) (l:=[.int .i64 (m:Int)]) func156 rfl rfl (by simp) ?_;refine sr ?_;refine sw hh ?_;intro b2 w2 hh;refine ua (mb (sr (mI ?_)));refine Bi (ua (cF (Mc (wc (sr (mI ?_))))));refine Sk ?_;refine Oa hh (Iz m _ hm) rfl ?_;intro w14 hh;refine Jb ?_;intro ws hh;refine mr ?_;rw[hn,e1];exact⟨rfl,hh.below⟩
def Mn(s t:Bool)(a b:ByteArray)(w:World)(ha:a.size<=100000000)(hb:b.size<=100000000):Calls prog 186 #[.agg #[.bool s,.string a],.agg #[.bool t,.string b]] w λe w'=>e=.returned (.agg #[.bool (iN (iv s a+iv t b)),.string (iM (iv s a+iv t b))])/\Below w.heap.size w w':=by
 have hh:=Hp.start w;have hba:=Mf a;have hbb:=Mf b;by_cases hst:s=t
 .subst hst;have e1:iv s (sN (bN a+bN b))=iv s a+iv s b:=by unfold iv;rw[Ue];split<;>omega
  have hsz:(sN (bN a+bN b)).size<=1000000000:=by rw[lh];have:=uV (bN a) (bN b);omega
  rw[<-e1];refine da (N:=49) (l:=[.agg #[.bool s,.string a],.agg #[.bool s,.string b]]) func186 rfl rfl (by simp) ?_;refine Dm ?_;intro b2 w2 hh b3 w3 hh b4 w4 hh;refine QK lb.out rfl rfl (by first|rfl|assumption) U' ?_;refine fa ?_;refine Ca 8 [[(2,none)],[(12,some 0)],[(2,none)],[(14,some 2)],[(3,none)],[(16,some 4)],[(15,some 3),(17,some 5)],[(18,some 6)]] [(7,19),(6,18),(5,17),(4,16),(3,15),(2,14),(1,13),(0,12)] hh mixed T' ?_;refine yd ?_;refine xe 2 ?_;refine yd ?_;refine xe 2 ?_;refine yd ?_;refine xe 1 ?_;refine qq [_,_] ?_;refine Va (i:=7) (Is (.string (sN (bN a+bN b)))) Is.ext ?_ ?_
  .intro ρ1 w1 hj hR;obtain⟨A18,c18,h18,s18⟩:=hR.1;exact Pb rfl (qb ja.out (Ga h18 Fb)) (nI A18 2 c18 [a,b] _ s18 Z' (by simp;omega)) (λ_ _ hq=>⟨_,hq.1,hq.2,rfl⟩)
  refine xa ?_;intro f W hJ hV;have hb_2:=hJ.bl;obtain⟨v19,v18,v17,v16,v15,v14,v13,v12,_⟩:=hV;obtain⟨A18,c18,e18,f18⟩:Rows _ _ _ (f 6) W:=v18;replace hh:=hJ.hp;refine Da (Na (aa v19 (aa e18 (aa v17 (aa v16 (aa v15 (aa v14 (aa v13 (aa v12 Ea))))))))) ?_;dsimp only[Bb];clear e18 hJ;refine fa ?_;refine Oa hh (Qd s (sN (bN a+bN b)) _ hsz) rfl ?_;intro w21 hh;exact Vu
 by_cases hle:bN b<=bN a
 .have e1:iv s (sN (bN a-bN b))=iv s a+iv t b:=by unfold iv;rw[Ue];cases s<;>cases t<;>simp at hst |- <;>omega
  have hsz:(sN (bN a-bN b)).size<=1000000000:=by rw[lh];have:=qo (show bN a-bN b<=bN a by omega);omega
  rw[<-e1];refine da (N:=49) (l:=[.agg #[.bool s,.string a],.agg #[.bool t,.string b]]) func186 rfl rfl (by simp) ?_;refine Dm ?_;intro b2 w2 hh b3 w3 hh b4 w4 hh;refine sM ?_;refine fa ?_;refine Oa hh (Ip a b _ Z' Z') rfl ?_;intro w27 hh;rw[M_ hle];refine fa ?_;refine Oa hh (Qd s (sN (bN a-bN b)) _ hsz) rfl ?_;intro w35 hh;exact Vu
 have e1:iv t (sN (bN b-bN a))=iv s a+iv t b:=by unfold iv;rw[Ue];cases s<;>cases t<;>simp at hst |- <;>omega
 have hsz:(sN (bN b-bN a)).size<=1000000000:=by rw[lh];have:=qo (show bN b-bN a<=bN b by omega);omega
 rw[<-e1];refine da (N:=49) (l:=[.agg #[.bool s,.string a],.agg #[.bool t,.string b]]) func186 rfl rfl (by simp) ?_;refine Dm ?_;intro b2 w2 hh b3 w3 hh b4 w4 hh;refine sM ?_;refine fa ?_;refine Oa hh (Ip a b _ Z' Z') rfl ?_;intro w27 hh;rw[O_ hle];refine fa ?_;refine Oa hh (Ip b a _ Z' Z') rfl ?_;intro w41 hh;refine fa ?_;refine Oa hh (Qd t (sN (bN b-bN a)) _ hsz) rfl ?_;intro w48 hh;exact Vu
def eI(s:Bool)(a:ByteArray)(k:Nat)(w:World)(ha:a.size<=100000000)(hk:k<=1000000000):Calls prog 187 #[.agg #[.bool s,.string a],.int .i64 (k:Int)] w λe w'=>e=.returned (.agg #[.bool (iN (iv s a*2^k)),.string (iM (iv s a*2^k))])/\Below w.heap.size w w':=by
 have hh:=Hp.start w;have hba:=Mf a;have e2:iv s (sN (bN a*2^k))=iv s a*2^k:=by unfold iv;rw[Ue];split<;>simp[Int.neg_mul]
 have hsz:(sN (bN a*2^k)).size<=1000000000:=by rw[lh];have:=Xg (bN a) k;omega
 rw[<-e2];refine da (N:=43) (l:=[.agg #[.bool s,.string a],.int .i64 (k:Int)]) func187 rfl rfl (by simp) ?_;refine Sb ?_;intro b2 w2 hh b4 w4 hh;refine Ca 6 [[(2,none)],[(12,some 0)],[(2,none)],[(14,some 2)],[(1,none)],[(15,some 3),(16,some 4)]] [(5,17),(4,16),(3,15),(2,14),(1,13),(0,12)] hh mixed T' ?_;refine yd ?_;refine xe 1 ?_;refine yd ?_;refine xe 1 ?_;refine cd ?_;refine dC (λ_ hj=>JI a k _ Z' Z') ?_;refine xa ?_;intro f W hJ hV;have hb_2:=hJ.bl;obtain⟨v17,v16,v15,v14,v13,v12,_⟩:=hV;replace hh:=hJ.hp;refine Da (Na (aa v17 (aa v16 (aa v15 (aa v14 (aa v13 (aa v12 Ea))))))) ?_;dsimp only[Bb];clear hJ;refine fa ?_;refine Oa hh (Qd s (sN (bN a*2^k)) _ hsz) rfl ?_;intro w19 hh;exact Vu
def mq(z:Int)(B:Nat)(q r:Int)(h:r+B*q=z)(h0:0<=r)(h1:r<B):z/B=q/\z % B=r:=(Int.ediv_emod_unique Z').2 ⟨h,h0,h1⟩
def uI(s:Bool)(a b:ByteArray)(w:World)(ha:a.size<=10000000)(hb:b.size<=10000000)(hb0:bN b≠0):Calls prog 158 #[.agg #[.bool s,.string a],.agg #[.bool false,.string b]] w λe w'=>e=.returned (.tuple #[.agg #[.bool (iN (iv s a/bN b)),.string (iM (iv s a/bN b))],.agg #[.bool (iN (iv s a % bN b)),.string (iM (iv s a % bN b))],.bool true])/\Below w.heap.size w w':=by
 have hh:=Hp.start w;have hba:=Mf a;have hbb:=Mf b;have hmod:bN a % bN b<bN b:=B_ _ Z';have hdm:bN b*(bN a/bN b)+bN a % bN b=bN a:=E9 _ _;have hdm':(bN b:Int)*((bN a/bN b:Nat):Int)+((bN a % bN b:Nat):Int)=(bN a:Int):=by rw[<-m9,<-F8,hdm]
 have hqs:(sN (bN a/bN b)).size<=10000000:=by rw[lh];have:=qo (l8 (bN a) (bN b));omega
 have hrs:(sN (bN a % bN b)).size<=10000000:=by rw[lh];have:=qo (show bN a % bN b<=bN b by omega);omega
 have hqz:∀u,(iM (iv u (sN (bN a/bN b)))).size<=10000000:=λu=>by rw[ZM,Ue];exact hqs
 have hrz:∀u,(iM (iv u (sN (bN a % bN b)))).size<=10000000:=λu=>by rw[ZM,Ue];exact hrs
 by_cases hneg:s=true/\bN a % bN b≠0
 .obtain⟨rfl,hne⟩:=hneg;have e1:iv true (sN (bN a/bN b))= -((bN a/bN b:Nat):Int):=by unfold iv;rw[Ue,J' rfl]
  have e2:iv true (sN (bN a % bN b))= -((bN a % bN b:Nat):Int):=by unfold iv;rw[Ue,J' rfl]
  have hlt:(iv true (sN (bN a % bN b))).sign<0:=by rw[e2,E8 Z'];omega
  have e3:iv true a= -(bN a:Int):=by unfold iv;rw[J' rfl]
  obtain⟨q1,q2⟩:=mq (iv true a) (bN b) (-((bN a/bN b:Nat):Int)+ -1) ((bN b:Int)-((bN a % bN b:Nat):Int)) (by rw[e3,<-hdm',Int.mul_add,m7];omega) Z' Z';have e4:iv false b=(bN b:Int):=by unfold iv;rw[L' (by simp)]
  have hp2:(bN b:Int).sign=1:=G8 Z';refine da (N:=57) (l:=[.agg #[.bool true,.string a],.agg #[.bool false,.string b]]) func158 rfl rfl (by simp) ?_;refine sr ?_;refine YD hh [_,_] ?_;intro b2 w2 hh;refine YD hh [_,_] ?_;intro b3 w3 hh;refine sw hh ?_;intro b4 w4 hh;refine sw hh ?_;intro b5 w5 hh;refine aB (ua (sr (Hu ?_)));refine xm hh 3 ?_;refine Hu ?_;refine xm hh 2 ?_;refine Oa hh (tp a b _ Z' Z' hb0) rfl ?_;intro w18 hh;refine mT ?_;refine dv ?_;refine dv ?_;refine dv ?_;refine aS (aS (aB (ua (mb (sr (mB ?_))))));refine CS ?_;refine ua (cF (Mc (wc (sr (Hu ?_)))));refine xm hh 3 ?_;refine Hu ?_;refine xm hh 2 ?_;refine JL lb.out rfl rfl (by first|assumption|decide) U' ?_;refine mS ?_;refine NA [_,_] ?_;refine Oa hh (Qd true (sN (bN a/bN b)) _ Z') rfl ?_;intro w33 hh;refine sw hh ?_;intro b10 w10 hh;refine rf hh 0 [_,_] ?_;intro ws hh;replace hh:Hp _ (.blk _ _ [_,_] _::_) _:=hh;refine ua (sr (Hu ?_));refine xm hh 4 ?_;refine mS ?_;refine NA [_,_] ?_;refine Oa hh (Qd true (sN (bN a % bN b)) _ Z') rfl ?_;intro w38 hh;refine sw hh ?_;intro b11 w11 hh;refine rf hh 0 [_,_] ?_;intro ws hh
  replace hh:Hp _ (.blk _ _ [_,_] _::_) _:=hh;refine ua (mb (sr ?_));refine zl hh 0 [_,_] ?_;refine Oa hh (aj (iN (iv true (sN (bN a % bN b)))) (iM (iv true (sN (bN a % bN b)))) _ (by have:=hrz true;omega)) rfl ?_;intro w40 hh;rw[td];refine Bi (ua (cT (sr ?_)));refine zl hh 0 [_,_] (Hu ?_);refine xm hh 4 ?_;refine NA [_,_] ?_;refine Oa hh (Mn (iN (iv true (sN (bN a % bN b)))) false (iM (iv true (sN (bN a % bN b)))) b _ (by have:=hrz true;omega) Z') rfl ?_;intro w46 hh;rw[td,e2,e4,show -((bN a % bN b:Nat):Int)+(bN b:Int)=(bN b:Int)-((bN a % bN b:Nat):Int) by omega,<-q2];refine rf hh 0 [_,_] ?_;intro ws hh;replace hh:Hp _ (.blk _ _ [_,_] _::_) _:=hh;refine ua (sr ?_);refine Oa hh (At (-1) _ Z' Z') rfl ?_;intro w47 hh;refine sw hh ?_;intro b12 w12 hh;refine rf hh 0 [_,_] ?_;intro ws hh;replace hh:Hp _ (.blk _ _ [_,_] _::_) _:=hh;refine ua (mb (sr ?_));refine zl hh 5 [_,_] ?_;refine Oa hh (aj false b _ Z') rfl ?_;intro w49 hh;rw[e4,hp2];refine Bi (ua (cF (Mc (wc (Kb ?_)))));refine zl hh 2 [_,_] ?_;refine zl hh 0 [_,_] ?_
  refine Oa hh (Mn (iN (iv true (sN (bN a/bN b)))) (iN (-1)) (iM (iv true (sN (bN a/bN b)))) (iM (-1)) _ (by have:=hqz true;omega) U') rfl ?_;intro w54 hh;rw[td,td,e1,<-q1];refine rf hh 2 [_,_] ?_;intro ws hh;replace hh:Hp _ (_::_::.blk _ _ [_,_] _::_) _:=hh;refine ua (mb ?_);refine Ko hh mixed λw_ hj_=> ?_;replace hh:=hj_.hp;clear hj_;refine Gt (i:=0) (i2:=1) T' rfl rfl ?_ ?_
  .refine zl hh 2 [_,_] ?_;refine Yc ?_;refine Gt (i:=1) (i2:=2) T' rfl rfl ?_ ?_
   .refine zl hh 1 [_,_] ?_;exact rZ
   refine rf hh 4 [_,_] ?_;intro ws hh;replace hh:Hp _ (_::_::_::_::.blk _ _ [_,_] _::_) _:=hh;refine Yc ?_;refine ze (i:=1) T' rfl ?_;refine zl hh 1 [_,_] ?_;exact ac1
  refine zl hh 1 [_,_] ?_;refine Yc ?_;refine ze (i:=0) T' rfl ?_;refine zl hh 2 [_,_] ?_;exact rZ
 have e4:iv s a/bN b=iv s (sN (bN a/bN b))/\iv s a % bN b=iv s (sN (bN a % bN b)):=by
  cases s with
  |false=>
   have f0:∀x,iv false x=(bN x:Int):=λx=>by unfold iv;rw[L' (by simp)]
   rw[f0,f0,f0,Ue,Ue];exact mq _ _ _ _ Z' Z' Z'
  |true=>
   have r0:bN a % bN b=0:=by
    obtain h|h:=x8 (bN a % bN b)
    .exact h
    exact absurd ⟨rfl,Z'⟩ hneg
   have f0:∀x,iv true x= -(bN x:Int):=λx=>by unfold iv;rw[J' rfl]
   rw[f0,f0,f0,Ue,Ue,r0];rw[r0] at hdm';exact mq _ _ _ _ (by rw[m7];omega) Z' Z'
 have h5:¬(iv s (sN (bN a % bN b))).sign<0:=by
  have h6:0<=iv s (sN (bN a % bN b)):=by rw[<-e4.2];exact Int.emod_nonneg _ Z'
  have:=Int.sign_nonneg_iff.2 h6;omega
 rw[e4.1,e4.2]
 cases s with
 |false=>
  refine da (N:=57) (l:=[.agg #[.bool false,.string a],.agg #[.bool false,.string b]]) func158 rfl rfl (by simp) ?_;refine sr ?_;refine YD hh [_,_] ?_;intro b2 w2 hh;refine YD hh [_,_] ?_;intro b3 w3 hh;refine sw hh ?_;intro b4 w4 hh;refine sw hh ?_;intro b5 w5 hh;refine aB (ua (sr (Hu ?_)));refine xm hh 3 ?_;refine Hu ?_;refine xm hh 2 ?_;refine Oa hh (tp a b _ Z' Z' hb0) rfl ?_;intro w18 hh;refine mT ?_;refine dv ?_;refine dv ?_;refine dv ?_;refine aS (aS (aB (ua (mb (sr (mB ?_))))));refine CS ?_;refine ua (cF (Mc (wc (sr (Hu ?_)))));refine xm hh 3 ?_;refine Hu ?_;refine xm hh 2 ?_;refine DY lb.out rfl rfl (by first|rfl|assumption) U' ?_;refine mS ?_;refine NA [_,_] ?_;refine Oa hh (Qd false (sN (bN a/bN b)) _ Z') rfl ?_;intro w33 hh;refine sw hh ?_;intro b10 w10 hh;refine rf hh 0 [_,_] ?_;intro ws hh;replace hh:Hp _ (.blk _ _ [_,_] _::_) _:=hh;refine ua (sr (Hu ?_));refine xm hh 4 ?_;refine mS ?_;refine NA [_,_] ?_;refine Oa hh (Qd false (sN (bN a % bN b)) _ Z') rfl ?_;intro w38 hh;refine sw hh ?_;intro b11 w11 hh;refine rf hh 0 [_,_] ?_;intro ws hh;replace hh:Hp _ (.blk _ _ [_,_] _::_) _:=hh;refine ua (mb (sr ?_));refine zl hh 0 [_,_] ?_
  refine Oa hh (aj (iN (iv false (sN (bN a % bN b)))) (iM (iv false (sN (bN a % bN b)))) _ (by have:=hrz false;omega)) rfl ?_;exact zW5
 |true=>
  refine da (N:=57) (l:=[.agg #[.bool true,.string a],.agg #[.bool false,.string b]]) func158 rfl rfl (by simp) ?_;refine sr ?_;refine YD hh [_,_] ?_;intro b2 w2 hh;refine YD hh [_,_] ?_;intro b3 w3 hh;refine sw hh ?_;intro b4 w4 hh;refine sw hh ?_;intro b5 w5 hh;refine aB (ua (sr (Hu ?_)));refine xm hh 3 ?_;refine Hu ?_;refine xm hh 2 ?_;refine Oa hh (tp a b _ Z' Z' hb0) rfl ?_;intro w18 hh;refine mT ?_;refine dv ?_;refine dv ?_;refine dv ?_;refine aS (aS (aB (ua (mb (sr (mB ?_))))));refine CS ?_;refine ua (cF (Mc (wc (sr (Hu ?_)))));refine xm hh 3 ?_;refine Hu ?_;refine xm hh 2 ?_;refine JL lb.out rfl rfl (by first|assumption|decide) U' ?_;refine mS ?_;refine NA [_,_] ?_;refine Oa hh (Qd true (sN (bN a/bN b)) _ Z') rfl ?_;intro w33 hh;refine sw hh ?_;intro b10 w10 hh;refine rf hh 0 [_,_] ?_;intro ws hh;replace hh:Hp _ (.blk _ _ [_,_] _::_) _:=hh;refine ua (sr (Hu ?_));refine xm hh 4 ?_;refine mS ?_;refine NA [_,_] ?_;refine Oa hh (Qd true (sN (bN a % bN b)) _ Z') rfl ?_;intro w38 hh;refine sw hh ?_;intro b11 w11 hh;refine rf hh 0 [_,_] ?_;intro ws hh;replace hh:Hp _ (.blk _ _ [_,_] _::_) _:=hh;refine ua (mb (sr ?_));refine zl hh 0 [_,_] ?_
  refine Oa hh (aj (iN (iv true (sN (bN a % bN b)))) (iM (iv true (sN (bN a % bN b)))) _ (by have:=hrz true;omega)) rfl ?_;exact zW5
end Go.Proofs.YtbencocchdpikaaGreatDoor
