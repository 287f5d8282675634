/- Lemmas for bernValues, part 4. -/
import Derived.Test.YtolamocnngihpaaGreatDoorZ3
namespace Go.Proofs.YtolamocnngihpaaGreatDoor
variable {C N b c c' cy j k m n ny:Nat}{ad:Addr}{w w0:World}
open Go.RowKit
theorem ix (A:Option Addr) (n c:Nat) (xs:List Nat) (w:World) (hx:Sl w A n 1 (dk xs)) (hc:n≤c) (hn:n≤1000000000000):
  Calls Tryz.prog 195 #[.slice A n c] w fun e w'=>e=.returned (.slice A (dX xs).length c)∧Below w.heap.size w w':=by
 have hlen:xs.length=n:=by have:=hx.1;rw [a8] at this;omega
 have hh:=Hp.start w;refine aj (N:=21) (l:=[.slice A n c]) Tryz.func195 rfl rfl (by simp) ?_;refine sr (aL (aa (ah (ao ?_))));refine aR [0,3,4,5,6,7,8,9,10,11,12,13,14,15,16,17,18,19] 0
  (fun v w'=>∃k:Nat,k≤n∧v=.slice A k c∧dX (xs.take k)=dX xs∧w'=w)
  (fun v _=>lenOf v) ?_ ?_
 ·exact ⟨n,Xr _,rfl,by rw [Xz Xj],rfl⟩
 ·rintro ρ' v w' ⟨k,hk,rfl,hcut,rfl⟩;by_cases h0:k=0
  ·subst h0;refine ah (sr (mL (aH ?_)));refine cj (mB ?_);refine gS (gS (gS (gS (gS ?_))));refine gy ?_;refine gS ?_;refine ez ?_;refine aa (cF (a6 (aE (aE (bq (ai (sr (mL (aL (aa (aw ?_)))))))))));refine df ?_;rw [←hcut];exact ⟨rfl,hh.below⟩
  ·obtain ⟨j,rfl⟩:∃j,k=j+1:=⟨k-1,Xj⟩;obtain ⟨d,hd⟩:=ak (l:=xs) (k:=j) Xj;obtain ⟨ad,rfl,hr⟩:=hx.at_ Xj;have hd2:=ew hd;rw [az hd] at hcut;by_cases hz:d=0
   ·subst hz;rw [uF] at hcut;refine ah (sr (mL (aH ?_)));refine cj (mB (gT (mL (gT (mL (gT (aH (gT ?_))))))));refine ep (gT ?_);refine pK ?_;refine gT ?_;refine jG ?_;refine gT ?_;refine cR ?_;refine eR ?_;refine aa (cT (aq (ai (ao (al (mL (mL (aH ?_))))))));refine ep ?_;refine qN (h:=j) bh.out aM.size rfl rfl Xj Xj Xk ?_;refine aL (aA (bz (ai ?_)));refine ⟨⟨j,Xj,rfl,hcut,rfl⟩,by show j<j+1;omega, ?_⟩;exact dV
   ·rw [xg hz] at hcut;refine ah (sr (mL (aH ?_)));refine cj (mB (gT (mL (gT (mL (gT (aH (gT ?_))))))));refine ep (gT ?_);refine pK ?_;refine gT ?_;refine jG ?_;refine gT ?_;refine cR ?_;refine eR ?_;refine aa (cF (a6 (aE (aE (bq (ai (sr (mL (aL (aa (aw ?_)))))))))));exact Qq
theorem fu {B:Nat}{l:List Nat}{i:Nat} (h:l[i]?=some c):bB B (l.take (i+1))=bB B (l.take i)+B^i*c:=by
 have hi:=(XE.1 h).1;rw [az h,eO,XP,Ys Xj];simp [bB]
theorem Hp.FN {H:List HE}{A:Option Addr}{t:TypeId}{xs:List Nat} (h:Hp w0 (.row A n c t 1 (dk xs)::H) w) (hl:xs.length=n):Hp w0 (.row A (dX xs).length c t 1 (dk (dX xs))::H) w:=by
 have h1:=fg xs;have h2:=h.Dv (k:=(dX xs).length) Xj;rw [XK,←xa,←j0] at h2;exact h2
theorem IF (a:ByteArray) (w:World) (ha:a.size≤100000000000):
  Calls Tryz.prog 161 #[.string a] w fun e w'=>∃b c,e=.returned (.slice (some ⟨b,0,none⟩) (aZ 18446744073709551616 (bn a.data.toList)).length c)∧w'.ownsRow w.heap.size 151 1 (.slice (some ⟨b,0,none⟩) (aZ 18446744073709551616 (bn a.data.toList)).length c) (aZ 18446744073709551616 (bn a.data.toList)).length (dk (aZ 18446744073709551616 (bn a.data.toList)))∧Below w.heap.size w w':=by
 have hsz:=dQ a;have hh:=Hp.start w;refine aj (N:=39) (l:=[.string a]) Tryz.func161 rfl rfl (by simp) ?_;refine sr (aL (aa (sr (mS ?_))));refine bO bh.out rfl Xk ?_;refine bk ?_;refine oe ?_;refine fO (n:=(a.size+7)/8) hh rfl rfl Xj Xj bh.out aM.out rfl Xj Xj Xk ?_;intro b10 w10 hh;refine aL (aa (ah (sr (mS ?_))));refine bO bh.out rfl Xk ?_;refine mI (aa (ao ?_));rw [pL] at hh;refine aR [4,5,13,14,15,16,17,18,19,20,21,22,23,24,25,26,27,28,29,30,31,32,33,34,35,36] 13
  (fun v w'=>∃i:Nat,i≤a.size∧v=.int .i64 i∧Hp w [.row (some ⟨b10,0,none⟩) ((a.size+7)/8) ((a.size+7)/8) 151 1 (dk (bV 18446744073709551616 ((a.size+7)/8) (bB 256 ((Ah a.data.toList).take i))))] w')
  (fun v _=>a.size-(intOf v).toNat) ?_ ?_
 ·exact ⟨0,Xs _,rfl,by rw [ZH,bB,rE];exact hh⟩
 ·clear hh;rintro ρ' v w' ⟨i,hi,rfl,hh⟩;by_cases hlt:i<a.size
  ·obtain ⟨c,hc⟩:=ak (l:=a.data.toList) (k:=((a.size:Int)-1-i).toNat) Xj;have hlo:=MA (s:=a.data.toList) (i:=i) (c:=c) Xj (by rw [←hc];congr 1;omega);have hc8:=c.toNat_lt;have hn:=iI ((y5 a.data.toList).take i);rw [XP,oM,Ys Xj] at hn;obtain ⟨s1,s2,s3⟩:=Ok (k:=(a.size+7)/8) (bB 256 ((Ah a.data.toList).take i)) hn hc8 Xj;have hg:=ew (iF (B:=18446744073709551616) ((a.size+7)/8) (bB 256 ((Ah a.data.toList).take i)) (i/8) Xj);have e1:((i:Int) % 8*8).toNat=i % 8*8:=Xj;refine sr ?_;refine bf (aa (ah (cT (aq (ai (ah (ao (sr (mI (aI (aa (sr (mS ?_)))))))))))));refine bO bh.out rfl Xk ?_;refine ep (mI ?_);refine ep (aI (aa ?_));refine a0 13 [[(3,none)],[(4,none)],[(22,some 1)],[(21,some 0),(23,some 2)],[(24,some 3)],[(0,none)],[(5,none)],[(26,some 5),(27,some 6)],[(28,some 7)],[(4,none)],[(30,some 9)],[(31,some 10)],[(29,some 8),(32,some 11)]] [(12,33),(11,32),(10,31),(9,30),(8,29),(7,28),(6,27),(5,26),(4,25),(3,24),(2,23),(1,22),(0,21)] hh mixed Xl ?_;refine fS ?_;refine dJ ?_
   refine bj (i:=2) (fun ρ1 w1 hj hR=>pr (show ρ1 22=Value.int _ _ from hR.1) rfl Xj Xj Xj) ?_;refine LC (i/8) ?_;refine bj (i:=4) (fun ρ1 w1 hj hR=>jN aM.out (show ρ1 24=Value.pointer _ from hR.1) (hj.hp.eH (i:=0) rfl (by first|assumption|(simp only [XK];assumption)))) ?_;refine WH ?_;refine dJ ?_;refine bj (i:=7) (fun ρ1 w1 hj hR=>sk bh.out (show ρ1 26=Value.string _ from hR.1) (show ρ1 27=Value.int _ _ from hR.2.1) Xj (by assumption)) ?_;refine bj (i:=8) (fun ρ1 w1 hj hR=>uq bh.out bh.out (show ρ1 28=Value.int _ _ from hR.1) (by first|assumption|omega)) ?_;refine dJ ?_;refine bj (i:=10) (fun ρ1 w1 hj hR=>mJ (show ρ1 30=Value.int _ _ from hR.1) rfl Xj Xj) ?_;refine Nq ?_;refine bj (i:=12) (fun ρ1 w1 hj hR=>zz (show ρ1 29=Value.int _ _ from hR.1) (show ρ1 32=Value.int _ _ from hR.2.1) Xj) ?_;refine aO ?_;intro f W hJ hV;have hb_6:=hJ.bl;obtain ⟨v33,v32,v31,v30,v29,v28,v27,v26,v25,v24,v23,v22,v21,_⟩:=hV;replace hh:=hJ.hp;refine aW (bm (ae v33 (ae v32 (ae v31 (ae v30 (ae v29 (ae v28 (ae v27 (ae v26 (ae v25 (ae v24 (ae v23 (ae v22 (ae v21 aV)))))))))))))) ?_;dsimp only [cd];clear hJ;refine FY ?_
   refine da (k:=i/8) bh.out aM.size rfl rfl Xj Xj Xk ?_;refine Kf ?_;intro ws hh;simp only [XC] at hh;rw [e1,X5 s2,Ef s1,cM (by rw [a8,aT];omega),XK,gj,s3,←fu hlo] at hh;refine fp ?_;refine bk (mI (aA (ai ?_)));refine ⟨⟨i+1,Xj,rfl,hh⟩,by show a.size-(i+1)<a.size-i;omega, ?_⟩;exact dV
  ·refine sr ?_;refine oI ?_;rw [Xz (by rw [oM];omega)] at hh;refine bA hh (ix _ _ _ (bV 18446744073709551616 ((a.size+7)/8) (bn a.data.toList)) _ (hh.aC (i:=0) rfl) (Xr _) Xj) rfl ?_;intro w38 hh;refine aL (aa (aw ?_));refine df ?_;have hbd:bn a.data.toList<18446744073709551616^((a.size+7)/8):=by
    refine Yt (QB _) ?_;rw [←hsz,show (256:Nat)=2^8 from rfl,show (18446744073709551616:Nat)=2^64 from rfl,←Yi,←Yi];exact Yf Xj Xj
   have hd:dX (bV 18446744073709551616 ((a.size+7)/8) (bn a.data.toList))=aZ 18446744073709551616 (bn a.data.toList):=by
    exact KF
   have h1:=(Hp.FN (xs:=bV 18446744073709551616 ((a.size+7)/8) (bn a.data.toList)) hh (aT _ _)).at_ (i:=0) rfl;exact E9
theorem Sl.Rv {A:Option Addr}{xs:List Nat} (h:Sl w A n 1 (dk xs)) (hk:k≤n):Sl w A k 1 (dk (xs.take k)):=by
 have hl:=h.1;rw [a8] at hl;refine ⟨by rw [a8,XP];omega,fun h0=> ?_⟩;obtain ⟨ad,he,hr⟩:=h.2 Xj;exact ⟨ad,he,by rw [xa];exact hr.take k⟩
theorem Sl.zO {A:Option Addr}{xs:List Nat} (h:Sl w A n 1 (dk xs)):Sl w A (dX xs).length 1 (dk (dX xs)):=by
 have hl:=h.1;rw [a8] at hl;have:=fg xs;have h2:=h.Rv (k:=(dX xs).length) Xj;rwa [←j0] at h2
theorem Eo {xs:List Nat} (h:Dg 18446744073709551616 xs):bG (bB 18446744073709551616 xs)≤64*xs.length:=by
 apply dK;rw [Yi];exact iI h
theorem ub (A:Option Addr) (n c:Nat) (xs:List Nat) (w:World) (hx:Sl w A n 1 (dk xs)) (hd:Dg 18446744073709551616 xs) (hc:n≤c) (hn:n≤100000000000):
  Calls Tryz.prog 198 #[.slice A n c] w fun e w'=>e=.returned (.int .i64 (bG (bB 18446744073709551616 xs)))∧Below w.heap.size w w':=by
 have hl:=hx.1;rw [a8] at hl;have hcl:=fg xs;have hcx:=hx.zO;have hcd:=hd.cut;have hlast:=xI xs;rw [←lL];generalize hcs:dX xs=cs at*;have hh:=Hp.start w;refine aj (N:=19) (l:=[.slice A n c]) Tryz.func198 rfl rfl (by simp) ?_;refine sr (aI (aa (sr (mL ?_))));refine bA hh (ix _ _ _ xs _ hx hc Xj) rfl ?_;intro w4 hh;rw [hcs];by_cases h0:cs.length=0
 ·refine aL (aa (ah (sr (mL (aH ?_)))));refine Fw ?_;refine df ?_;have:cs=[]:=Y0 h0;subst this;exact ⟨by rw [bB,lB];rfl,hh.below⟩
 ·obtain ⟨ad,rfl,hr⟩:=hcx.at_ Xj;obtain ⟨d,hd⟩:=ak (l:=cs) (k:=cs.length-1) Xj;have hd2:=ew hd;have hd3:=hcd.at_ hd;have e1:cs.take (cs.length-1)++[d]=cs:=by rw [←az hd,Xz Xj]
  have hnz:d≠0:=by
   intro h;subst h;apply hlast;rw [List.getLast?_eq_getElem?];exact hd
  have hb:=I8 (B:=18446744073709551616) (b:=64) (m:=cs.length-1) Xk (hcd.take (cs.length-1)) (by rw [XP];omega) hnz;rw [e1] at hb;have hb2:bG d≤64:=dK (by simpa using hd3);refine aL (aa (ah (sr (mL (aH ?_)))));refine cR (aa (cF (aq (ai (sr (mL (aH ?_)))))));refine mulC (mL (mL (aH ?_)));refine ep ?_;refine cE (k:=cs.length-1) bh.out aM.size rfl rfl Xj Xj Xk ?_;refine jG ?_;refine bA hh (Ex _ _ hd3) rfl ?_;intro w17 hh;refine ep (aI (aa (aw ?_)));refine df ?_;refine ⟨?_,hh.below⟩;congr 2;omega
theorem Ek (N:Nat):(aZ 256 N).length=(bG N+7)/8:=by
 have h256:(256:Nat)=2^8:=rfl;have h1:(aZ 256 N).length≤(bG N+7)/8:=by
  apply iz Xj;refine Yt (dt N) ?_;rw [h256,←Yi];exact Yf Xj Xj
 have h2:=p6 (B:=256) Xj N;have h3:bG N≤8*(aZ 256 N).length:=by
  apply dK;rw [Yi];exact h2
 omega
theorem k9 {B:Nat} (i N:Nat):bV B (i+1) N=bV B i N++[N/B^i % B]:=by
 apply YG;intro j
 rcases Nat.lt_trichotomy j i with h|h|h
 ·rw [iF _ _ _ Xj,ZN (by rw [aT];exact h),iF _ _ _ h]
 ·subst h;rw [iF _ _ _ Xj,YD (by rw [aT];omega),aT];simp
 ·rw [X1 (by rw [aT];omega),X1 (by rw [Xy,aT];simp;omega)]
theorem E1 {R:List Nat}{x:Nat}:(List.replicate (k+1) 0++R).set k x=List.replicate k 0++(x::R):=by
 rw [List.replicate_succ',Ya,ZA _ _ (by simp)];simp
theorem ir (A:Option Addr) (n c:Nat) (xs:List Nat) (w:World) (hx:Sl w A n 1 (dk xs)) (hd:Dg 18446744073709551616 xs) (hc:n≤c) (hn:n≤10000000000):
  Calls Tryz.prog 167 #[.slice A n c] w fun e w'=>e=.returned (.string (str (sb (bB 18446744073709551616 xs))))∧Below w.heap.size w w':=by
 have hl:=hx.1;rw [a8] at hl;have hcl:=fg xs;have hcx:=hx.zO;have hcd:=hd.cut;have hbl:=Eo hcd;have hcan:=ie Xj hd;have hlen:=Ek (bB 18446744073709551616 xs);rw [lL] at hbl;have hh:=Hp.start w;refine aj (N:=37) (l:=[.slice A n c]) Tryz.func167 rfl rfl (by simp) ?_;refine sr (aS (aa (sr (mL ?_))));refine bA hh (ix _ _ _ xs _ hx hc Xj) rfl ?_;intro w7 hh;rw [hcan] at hcl hcx hcd hbl;rw [hcan];refine aL (aa (sr (mL ?_)));refine bA hh (ub _ _ _ (aZ 18446744073709551616 (bB 18446744073709551616 xs)) _ (hcx.ext hh.below) hcd Xj Xj) rfl ?_;intro w9 hh;rw [ee Xj];generalize bB 18446744073709551616 xs=M at*;refine bk ?_;refine oe ?_;refine aI (aa (sr (mI ?_)));refine fO (n:=(bG M+7)/8) hh rfl rfl Xj Xj bh.out aM.out rfl Xj Xj Xk ?_;intro b13 w13 hh;refine aL (aa (ah (sr (mI (mI (aa (ao ?_)))))));rw [qF] at hh;refine aR [5,15,16,17,18,19,20,21,22,23,24,25,26,27,28,29,30,31,32,33,34] 15
  (fun v w'=>∃i:Nat,i≤(bG M+7)/8∧v=.int .i64 i∧Hp w [.row (some ⟨b13,0,none⟩) ((bG M+7)/8) ((bG M+7)/8) 5 1 (gI (List.replicate ((bG M+7)/8-i) 0++(bV 256 i M).reverse))] w')
  (fun v _=>(bG M+7)/8-(intOf v).toNat) ?_ ?_
 ·exact ⟨0,Xs _,rfl,by simpa [bV] using hh⟩
 ·clear hh;rintro ρ' v w' ⟨i,hi,rfl,hh⟩;by_cases hlt:i<(bG M+7)/8
  ·obtain ⟨ad,rfl,hr⟩:=hcx.at_ Xj;have hg:=At (B:=18446744073709551616) (n:=M) (i:=i/8) Xj Xj;have hg2:=ew hg;have e1:((i:Int) % 8*8).toNat=i % 8*8:=Xj;refine sr ?_;refine bf (aa (ah (cT (aq (ai (ah (ao (sr (mI (aI (aa (al (mL (mI ?_))))))))))))));refine ep (mI ?_);refine ep (mL (mI ?_));refine oe ?_;refine cE (k:=i/8) bh.out aM.size rfl rfl Xj Xj Xk ?_;refine jG ?_;refine mI ?_;refine sY ?_;refine mulC ?_;refine Ei rfl rfl Xj Xk ?_;refine Ow bh.out bh.out rfl Xk ?_;refine da (k:=(bG M+7)/8-1-i) bh.out aM.size rfl rfl Xj Xj Xk ?_;refine bW hh (i:=0) (vs:=[_]) rfl rfl (cO rfl) rfl aM.out rfl (by rw [cV,Xy,X8,YP,aT];omega) rfl ?_;intro ws hh;simp only [XC] at hh;obtain ⟨k,hk⟩:∃k,(bG M+7)/8-i=k+1:=⟨(bG M+7)/8-i-1,Xj⟩;rw [e1,Ia,XK,cM (by rw [cV,Xy,X8,YP,aT];omega),qa,hk,show (bG M+7)/8-1-i=k by omega,E1,←List.reverse_concat,←k9] at hh;refine fp ?_;refine bk (mI (aA (ai ?_)))
   refine ⟨⟨i+1,Xj,rfl,by rw [show (bG M+7)/8-(i+1)=k by omega];exact hh⟩,by show (bG M+7)/8-(i+1)<(bG M+7)/8-i;omega, ?_⟩;exact dV
  ·obtain rfl:i=(bG M+7)/8:=Xj;have hfin:gI (List.replicate ((bG M+7)/8-(bG M+7)/8) 0++(bV 256 ((bG M+7)/8) M).reverse)=nV (sb M):=by
    rw [Yq,aay,Xu,←hlen];exact Un
   rw [hfin] at hh;refine sr ?_;refine oI ?_;exact Pv
theorem oa (A:Option Addr) (n c m:Nat) (xs:List Nat) (w:World) (hx:Sl w A n 1 (dk xs)) (hn:n≤10000000000) (hm:m≤10000000000):
  Calls Tryz.prog 209 #[.slice A n c,.int .i64 m] w fun e w'=>∃b,e=.returned (.slice (some ⟨b,0,none⟩) (max m n) (max m n))∧w'.ownsRow w.heap.size 151 1 (.slice (some ⟨b,0,none⟩) (max m n) (max m n)) (max m n) (dk (xs++List.replicate (max m n-n) 0))∧Below w.heap.size w w':=by
 have hl:=hx.1;rw [a8] at hl;have hh:=Hp.start w;refine aj (N:=15) (l:=[.slice A n c,.int .i64 m]) Tryz.func209 rfl rfl (by simp) ?_;refine sr (aL (aa (sr (mI (mL (aH ?_))))));refine lz rfl rfl Xk ?_;refine fO (n:=max m n) hh rfl rfl Xj Xj bh.out aM.out rfl Xj Xj Xk ?_;intro b10 w10 hh;refine aL (aa (sr (mL (mL ?_))));rw [pL] at hh;refine OZ hh (i:=0) (o:=0) rfl rfl rfl (hx.ext hh.below) bh.out aM.out (by rw [a8,YP];omega) (cY _) Xk ?_;intro w13 hh;skip;have e1:cm (dk (List.replicate (max m n) 0)) 0 ((dk xs).take (min n (max m n)*1))=dk (xs++List.replicate (max m n-n) 0):=by
  rw [Xz (by rw [a8];omega),cm,ZH,Xu,a8,←xY,←Av,List.drop_replicate];congr 3;omega
 simp only [XC,e1] at hh;refine aa (sr (mL (aL (aa (aw ?_)))));refine df ?_;exact ⟨_,rfl,hh.at_ (i:=0) rfl,hh.below⟩
theorem DV (A B:Option Addr) (n c m c':Nat) (xs ys:List Nat) (w:World) (hx:Sl w A n 1 (dk xs)) (hy:Sl w B m 1 (dk ys)) (hdx:Dg 18446744073709551616 xs) (hdy:Dg 18446744073709551616 ys) (hc:n≤c) (hc':m≤c') (hn:n≤100000000000) (hm:m≤100000000000):
  Calls Tryz.prog 212 #[.slice A n c,.slice B m c'] w fun e w'=>e=.returned (.int .i64 (lE (bB 18446744073709551616 xs) (bB 18446744073709551616 ys)))∧Below w.heap.size w w':=by
 have hlx:=hx.1;have hly:=hy.1;rw [a8] at hlx hly;have hcx:=hx.zO;have hcy:=hy.zO;have hxl:=fg xs;have hyl:=fg ys;have hx2:=Can.cut hdx;have hy2:=Can.cut hdy;have hh:=Hp.start w;rw [←lL xs,←lL ys];refine aj (N:=47) (l:=[.slice A n c,.slice B m c']) Tryz.func212 rfl rfl (by simp) ?_;refine sr (aI (aa (sr (mL ?_))));refine bA hh (ix _ _ _ xs _ hx hc Xj) rfl ?_;intro w7 hh;refine mL ?_;refine bA hh (ix _ _ _ ys _ (hy.ext hh.below) hc' Xj) rfl ?_;intro w9 hh;generalize dX xs=us at*;generalize dX ys=vs at*;by_cases hlen:us.length=vs.length
 ·refine aL (aL (aa (ah (sr (mL (aH (mL (aH ?_))))))));refine cJ (aa (cF (aq (ai (ah (sr (mL (aH ?_))))))));refine ep (aI (aa (ao ?_)));refine aR [4,5,23,24,25,26,27,28,29,30,31,32,33,34,35,36,37,38,39,40,41,42,43,44,45,46] 5
   (fun v w'=>∃k:Nat,k≤us.length∧v=.int .i64 ((k:Int)-1)∧us.drop k=vs.drop k∧Hp w [] w')
   (fun v _=>(intOf v+1).toNat) ?_ ?_
  ·exact ⟨us.length,Xr _,rfl,by rw [List.drop_length,List.drop_eq_nil_of_le Xj],hh⟩
  ·clear hh;rintro ρ' v w' ⟨k,hk,rfl,hd,hh⟩;by_cases h0:k=0
   ·subst h0;refine ah (sr (mI ?_));refine dL (aa (cF (a6 (aE (aE (bq (ai (sr (aI (aa (aw ?_)))))))))));refine df ?_;rw [List.drop_zero,List.drop_zero] at hd;rw [hd];exact ⟨by rw [EG rfl],hh.below⟩
   ·obtain ⟨j,rfl⟩:∃j,k=j+1:=⟨k-1,Xj⟩;obtain ⟨x,hxj⟩:=ak (l:=us) (k:=j) Xj;obtain ⟨y,hyj⟩:=ak (l:=vs) (k:=j) Xj;obtain ⟨ad,rfl,hr⟩:=hcx.at_ Xj;obtain ⟨ad2,rfl,hs⟩:=hcy.at_ Xj;have hx3:=ew hxj;have hy3:=ew hyj;by_cases hlt:x<y
    ·have hf:=xz hx2.1 hxj hyj hd hlt;refine ah (sr (mI ?_));refine KY ?_;refine KS ?_;refine fS ?_;refine dJ ?_;refine ow (j) ?_;refine Cb ?_;refine fS ?_;refine dJ ?_;refine ow (j) ?_;refine CD ?_;refine aO ?_;intro f W hJ hV;have hb_9:=hJ.bl;obtain ⟨v35,v34,v33,v32,v31,v30,v29,v28,_⟩:=hV;replace hh:=hJ.hp;refine JS ?_;dsimp only [cd];clear hJ;refine bf (aB (aa (cT (sr (aI (aa (aw (cf (cf (aK (aK (cf (aK ?_)))))))))))));refine df ?_;exact ⟨by rw [l7 hf],hh.below⟩
    ·by_cases hgt:y<x
     ·have hf:=xz hy2.1 hyj hxj hd.symm hgt;refine ah (sr (mI ?_));refine KY ?_;refine KS ?_;refine fS ?_;refine dJ ?_;refine ow (j) ?_;refine Cb ?_;refine fS ?_;refine dJ ?_;refine ow (j) ?_;refine CD ?_;refine aO ?_;intro f W hJ hV;have hb_9:=hJ.bl;obtain ⟨v35,v34,v33,v32,v31,v30,v29,v28,_⟩:=hV;replace hh:=hJ.hp;refine JS ?_;dsimp only [cd];clear hJ;refine bf (aB (aa (cF (ah ?_))));refine QA ?_;refine fS ?_;refine dJ ?_;refine ow (j) ?_;refine Cb ?_;refine fS ?_;refine dJ ?_;refine ow (j) ?_;refine CD ?_;refine aO ?_;intro f W hJ hV;have hb_11:=hJ.bl;obtain ⟨v45,v44,v43,v42,v41,v40,v39,v38,_⟩:=hV;replace hh:=hJ.hp;refine Q4 ?_;dsimp only [cd];clear hJ;refine cj (aB (aa (cT (sr (aI (aa (aw (cf (cf (aK (aK (cf (aK ?_)))))))))))));refine df ?_;exact ⟨by rw [yK hf],hh.below⟩
     ·refine ah (sr (mI ?_));refine KY ?_;refine KS ?_;refine fS ?_;refine dJ ?_;refine ow (j) ?_;refine Cb ?_;refine fS ?_;refine dJ ?_;refine ow (j) ?_;refine CD ?_;refine aO ?_;intro f W hJ hV;have hb_9:=hJ.bl;obtain ⟨v35,v34,v33,v32,v31,v30,v29,v28,_⟩:=hV;replace hh:=hJ.hp;refine JS ?_;dsimp only [cd];clear hJ;refine bf (aB (aa (cF (ah ?_))));refine QA ?_;refine fS ?_;refine dJ ?_;refine ow (j) ?_;refine Cb ?_;refine fS ?_;refine dJ ?_;refine ow (j) ?_;refine CD ?_;refine aO ?_;intro f W hJ hV;have hb_11:=hJ.bl;obtain ⟨v45,v44,v43,v42,v41,v40,v39,v38,_⟩:=hV;replace hh:=hJ.hp;refine Q4 ?_;dsimp only [cd];clear hJ;refine cj (aB (aa (cF (aq (bz (bz (ai (al (mI ?_)))))))));refine ep (aI (aA (ai ?_)));refine ⟨⟨j,Xj,by show Value.int _ _=Value.int _ _;congr 1;omega,y7 hxj hyj hd Xj,hh⟩,by show ((((j+1:Nat):Int)-1-1)+1).toNat<((((j+1:Nat):Int)-1)+1).toNat;omega, ?_⟩;exact dV
 ·by_cases hlt:us.length<vs.length
  ·have hf:bB 18446744073709551616 us<bB 18446744073709551616 vs:=by
    refine aav fun h=> ?_;have:=hy2.uo hx2 Xj h;omega
   refine aL (aL (aa (ah (sr (mL (aH (mL (aH ?_))))))));refine cJ (aa (cT (ah (sr (mL (aH (mL (aH ?_))))))));refine bf (aa (cT (sr (aI (aa (aw (aK (aK ?_))))))));refine df ?_;exact ⟨by rw [l7 hf],hh.below⟩
  ·have hf:bB 18446744073709551616 vs<bB 18446744073709551616 us:=by
    refine aav fun h=> ?_;have:=hx2.uo hy2 Xj h;omega
   refine aL (aL (aa (ah (sr (mL (aH (mL (aH ?_))))))));refine cJ (aa (cT (ah (sr (mL (aH (mL (aH ?_))))))));refine bf (aa (cF (aq (ai (sr (aI (aa (aw (aK ?_)))))))));refine df ?_;exact ⟨by rw [yK hf],hh.below⟩
theorem TP {y:Nat} (hy:y<18446744073709551616) (hm:m<18446744073709551616):y*m≤340282366920938463426481119284349108225:=YT (by omega:y≤18446744073709551615) (by omega:m≤18446744073709551615)
theorem xe {x y P:Nat} (hx:x<18446744073709551616) (hc:c<18446744073709551616) (hP:P≤340282366920938463426481119284349108225) (he:P=y*m):
  (x+(P % 18446744073709551616+c+0) % 18446744073709551616+0) % 18446744073709551616=(x+y*m+c) % 18446744073709551616∧((P/18446744073709551616+(P % 18446744073709551616+c+0)/18446744073709551616) % 18446744073709551616+(x+(P % 18446744073709551616+c+0) % 18446744073709551616+0)/18446744073709551616) % 18446744073709551616=(x+y*m+c)/18446744073709551616∧(x+y*m+c)/18446744073709551616<18446744073709551616:=by
 rw [←he];omega
theorem AV {H:List HE}{M:Nat}{Y:Option Addr} (pre xs post ys:List Nat) (w:World) (hh:Hp w0 (.row (some ⟨b,0,none⟩) M C 151 1 (dk (pre++xs++post))::H) w)
  (hy:∀w1 cs,Hp w0 (.row (some ⟨b,0,none⟩) M C 151 1 cs::H) w1→Sl w1 Y ny 1 (dk ys)) (hxd:Dg 18446744073709551616 xs) (hyd:Dg 18446744073709551616 ys) (hm:m<18446744073709551616) (hM:xs.length≤100000000000) (hny:ny≤100000000000):
  Calls Tryz.prog 208 #[.slice (some ⟨b,pre.length,none⟩) xs.length c',.slice Y ny cy,.int .u64 (m:Int)] w fun e w'=>e=.returned (.tuple #[])∧Hp w0 (.row (some ⟨b,0,none⟩) M C 151 1 (dk (pre++im 18446744073709551616 xs ys m 0++post))::H) w':=by
 have hly:=(hy _ _ hh).1;rw [a8] at hly;refine aj (N:=56) (l:=[.slice (some ⟨b,pre.length,none⟩) xs.length c',.slice Y ny cy,.int .u64 (m:Int)]) Tryz.func208 rfl rfl (by simp) ?_;refine sr (aI (aa (sr (mL (aH (mI (aa (ao ?_))))))));refine bK [6,7,8,9,10,11,14,15,16,17,18,19,20,21,22,23,24,25,26,27,28,29,30,31,32,33,34,35,36,37,38,39,40,41,42,43,44,45,46,47,48,49,50,51,52,53,54,55] 6 14
  (fun c i w'=>∃(done rest:List Nat) (cr:Nat),done.length+rest.length=xs.length∧i=.int .i64 done.length∧c=.int .u64 (cr:Int)∧cr<18446744073709551616∧Dg 18446744073709551616 rest∧done++im 18446744073709551616 rest (ys.drop done.length) m cr=im 18446744073709551616 xs ys m 0∧Hp w0 (.row (some ⟨b,0,none⟩) M C 151 1 (dk (pre++(done++rest)++post))::H) w')
  (fun _ i _=>xs.length-(intOf i).toNat) ?_ ?_
 ·exact ⟨[],xs,0,by simp,rfl,rfl,Xj,hxd,rfl,hh⟩
 ·clear hh;rintro ρ' c i w' ⟨done,rest,cr,hlen,rfl,rfl,hcr,hrd,heq,hh⟩;by_cases hlt:done.length<xs.length
  ·obtain ⟨x,r,rfl⟩:∃x r,rest=x::r:=by
    exact RD
   have hx:=hrd.head;have hg:=ew (zn (pre:=pre) (done:=done) (r:=r) (post:=post) (x:=x));have hlr:done.length+(r.length+1)=xs.length:=by simpa using hlen
   simp only [im,tail_drop,ur] at heq;by_cases hiy:done.length<ny
   ·obtain ⟨y,hyk⟩:=ak (l:=ys) (k:=done.length) Xj;obtain ⟨ad,rfl,_⟩:=(hy _ _ hh).at_ Xj;rw [hyk,YF] at heq;have hyw:=hyd.at_ hyk;refine sr ?_;refine wU ?_;refine bf (aa (cT (al (mL (mI ?_)))));refine KL ?_;refine bU aM.out rfl ((hy _ _ hh).RC hyk) Xk ?_;refine aI (aa (sr (mI (mI ?_))));obtain ⟨p1,p2,p3⟩:=xe (y:=y) (m:=m) hx hcr (TP hyw hm) rfl;refine bA hh (sH y m _ hyw hm) rfl ?_;intro w28 hh;refine mT ?_;refine dn ?_;refine dn ?_;refine aI (aI (aa (sr (mI (mI ?_)))));refine kI (jX (y*m % 18446744073709551616) cr 0 Xj _) (av (cO rfl) (av (cO rfl) (av rfl aU))) Xk ?_;refine mT ?_;refine dn ?_;refine dn ?_;refine aI (aI (aa (sr (mI (mI ?_)))));refine iL rfl rfl Xk ?_;refine aI (aa (sr (mL (mI (mL (mI ?_))))));refine o8 bh.out aM.size rfl rfl rfl Xj Xk ?_;refine jw ?_;refine mI ?_;refine kI (jX x ((y*m % 18446744073709551616+cr+0) % 18446744073709551616) 0 Xj _) (av (cO rfl) (av (cO rfl) (av rfl aU))) Xk ?_;refine mT ?_;refine dn ?_;refine dn ?_;refine oC ?_;refine yn ?_;intro ws hh;simp only [XC] at hh;rw [p1,XK,cM (by rw [a8];simp only [Xy,XR];omega),gj,nM] at hh
    refine aI (aa (al (mI (mI ?_))));refine iL rfl rfl Xk ?_;refine xt ?_;refine bk (mI (aA (ai ?_)));rw [p2];refine ⟨⟨done++[(x+y*m+cr) % 18446744073709551616],r,_,by simp;omega,by rw [Xy];rfl,rfl,p3,hrd.tail, ?_,hh⟩,by show xs.length-(done.length+1)<xs.length-done.length;omega, ?_⟩
    ·rw [←heq,Ya,Xy];rfl
    exact Xm
   ·rw [X1 Xj,Option.getD_none] at heq;have h0w:(0:Nat)<18446744073709551616:=Xj;refine sr ?_;refine wU ?_;refine bf (aa (cF (aq (ai (sr (mI (mI ?_)))))));obtain ⟨p1,p2,p3⟩:=xe (y:=0) (m:=m) hx hcr (TP h0w hm) rfl;refine bA hh (sH 0 m _ h0w hm) rfl ?_;intro w28 hh;refine mT ?_;refine dn ?_;refine dn ?_;refine aI (aI (aa (sr (mI (mI ?_)))));refine kI (jX (0*m % 18446744073709551616) cr 0 Xj _) (av (cO rfl) (av (cO rfl) (av rfl aU))) Xk ?_;refine mT ?_;refine dn ?_;refine dn ?_;refine aI (aI (aa (sr (mI (mI ?_)))));refine iL rfl rfl Xk ?_;refine aI (aa (sr (mL (mI (mL (mI ?_))))));refine o8 bh.out aM.size rfl rfl rfl Xj Xk ?_;refine jw ?_;refine mI ?_;refine kI (jX x ((0*m % 18446744073709551616+cr+0) % 18446744073709551616) 0 Xj _) (av (cO rfl) (av (cO rfl) (av rfl aU))) Xk ?_;refine mT ?_;refine dn ?_;refine dn ?_;refine oC ?_;refine yn ?_;intro ws hh;simp only [XC] at hh;rw [p1,XK,cM (by rw [a8];simp only [Xy,XR];omega),gj,nM] at hh;refine aI (aa (al (mI (mI ?_))));refine iL rfl rfl Xk ?_;refine xt ?_;refine bk (mI (aA (ai ?_)));rw [p2]
    refine ⟨⟨done++[(x+0*m+cr) % 18446744073709551616],r,_,by simp;omega,by rw [Xy];rfl,rfl,p3,hrd.tail, ?_,hh⟩,by show xs.length-(done.length+1)<xs.length-done.length;omega, ?_⟩
    ·rw [←heq,Ya,Xy];rfl
    exact Xm
  ·exact Ui
theorem A0 {H:List HE}{M:Nat}{Y:Option Addr} (pre xs post ys:List Nat) (w:World) (hh:Hp w0 (.row (some ⟨b,0,none⟩) M C 151 1 (dk (pre++xs++post))::H) w)
  (hy:∀w1 cs,Hp w0 (.row (some ⟨b,0,none⟩) M C 151 1 cs::H) w1→Sl w1 Y ny 1 (dk ys)) (hxd:Dg 18446744073709551616 xs) (hyd:Dg 18446744073709551616 ys) (hM:xs.length≤100000000000) (hny:ny≤100000000000) (hsub:BA 18446744073709551616 xs ys 0=0):
  Calls Tryz.prog 213 #[.slice (some ⟨b,pre.length,none⟩) xs.length c',.slice Y ny cy] w fun e w'=>e=.returned (.bool true)∧Hp w0 (.row (some ⟨b,0,none⟩) M C 151 1 (dk (pre++tg 18446744073709551616 xs ys 0++post))::H) w':=by
 have hly:=(hy _ _ hh).1;rw [a8] at hly;refine aj (N:=37) (l:=[.slice (some ⟨b,pre.length,none⟩) xs.length c',.slice Y ny cy]) Tryz.func213 rfl rfl (by simp) ?_;refine sr (aB (aa (sr (aI (aa (ah (sr (mL (aH (mI (aa (ao ?_))))))))))));refine bK [5,6,7,10,11,12,13,14,15,16,17,18,19,20,21,22,23,24,25,26,27,28,29,30,31,32,33,34] 5 10
  (fun c i w'=>∃(done rest:List Nat) (cr:Nat),done.length+rest.length=xs.length∧i=.int .i64 done.length∧c=.int .u64 (cr:Int)∧cr≤1∧Dg 18446744073709551616 rest∧done++tg 18446744073709551616 rest (ys.drop done.length) cr=tg 18446744073709551616 xs ys 0∧BA 18446744073709551616 rest (ys.drop done.length) cr=0∧Hp w0 (.row (some ⟨b,0,none⟩) M C 151 1 (dk (pre++(done++rest)++post))::H) w')
  (fun _ i _=>xs.length-(intOf i).toNat) ?_ ?_
 ·exact ⟨[],xs,0,by simp,rfl,rfl,Xj,hxd,rfl,hsub,hh⟩
 ·clear hh;rintro ρ' c i w' ⟨done,rest,cr,hlen,rfl,rfl,hcr,hrd,heq,hsb,hh⟩;by_cases hlt:done.length<xs.length
  ·obtain ⟨x,r,rfl⟩:∃x r,rest=x::r:=by
    exact RD
   have hx:=hrd.head;have hg:=ew (zn (pre:=pre) (done:=done) (r:=r) (post:=post) (x:=x));have hlr:done.length+(r.length+1)=xs.length:=by simpa using hlen
   simp only [tg,BA,tail_drop,ur] at heq hsb;by_cases hiy:done.length<ny
   ·obtain ⟨y,hyk⟩:=ak (l:=ys) (k:=done.length) Xj;obtain ⟨ad,rfl,_⟩:=(hy _ _ hh).at_ Xj;rw [hyk,YF] at heq hsb;have hyw:=hyd.at_ hyk;refine sr ?_;refine wU ?_;refine bf (aa (cT (al (mL (mI ?_)))));refine KL ?_;refine bU aM.out rfl ((hy _ _ hh).RC hyk) Xk ?_;refine aI (aa (al (mL (mI (mL (mI ?_))))));refine oC ?_;refine jw ?_;refine mI (mI ?_);refine kI (xu x y cr hcr _) (av (cO rfl) (av (cO rfl) (av (cO rfl) aU))) Xk ?_;refine mT ?_;refine dn ?_;refine dn ?_;refine oC ?_;refine yn ?_;intro ws hh;simp only [XC] at hh;rw [XK,cM (by rw [a8];simp only [Xy,XR];omega),gj,nM] at hh;refine xt ?_;refine bk (mI (aA (ai ?_)));refine ⟨⟨done++[(x+18446744073709551616-y-cr) % 18446744073709551616],r,_,by simp;omega,by rw [Xy];rfl,rfl,by split<;>omega,hrd.tail, ?_, ?_,hh⟩,by show xs.length-(done.length+1)<xs.length-done.length;omega, ?_⟩
    ·rw [←heq,Ya,Xy];rfl
    ·rw [Xy];exact hsb
    exact Xm
   ·rw [X1 Xj,Option.getD_none] at heq hsb;refine sr ?_;refine wU ?_;refine bf (aa (cF (aq (ai (al (mL (mI (mL (mI ?_)))))))));refine oC ?_;refine jw ?_;refine mI (mI ?_);refine kI (xu x 0 cr hcr _) (av (cO rfl) (av (cO rfl) (av (cO rfl) aU))) Xk ?_;refine mT ?_;refine dn ?_;refine dn ?_;refine oC ?_;refine yn ?_;intro ws hh;simp only [XC] at hh;rw [XK,cM (by rw [a8];simp only [Xy,XR];omega),gj,nM] at hh;refine xt ?_;refine bk (mI (aA (ai ?_)));refine ⟨⟨done++[(x+18446744073709551616-0-cr) % 18446744073709551616],r,_,by simp;omega,by rw [Xy];rfl,rfl,by split<;>omega,hrd.tail, ?_, ?_,hh⟩,by show xs.length-(done.length+1)<xs.length-done.length;omega, ?_⟩
    ·rw [←heq,Ya,Xy];rfl
    ·rw [Xy];exact hsb
    exact Xm
  ·have hr0:rest=[]:=Y0 Xj;subst hr0;obtain rfl:cr=0:=hsb;refine sr ?_;refine bf (aa (ah (cF (a6 (aE (aE (bq (ai (sr (mI ?_))))))))));refine cR (aB (aa (aw ?_)));refine df ?_;rw [XZ,tg,XZ] at*;rw [←heq];exact ⟨rfl,hh⟩
theorem Dw {H:List HE}{M:Nat}{Y:Option Addr} (pre xs post ys:List Nat) (w:World) (hh:Hp w0 (.row (some ⟨b,0,none⟩) M C 151 1 (dk (pre++xs++post))::H) w)
  (hy:∀w1 cs,Hp w0 (.row (some ⟨b,0,none⟩) M C 151 1 cs::H) w1→Sl w1 Y ny 1 (dk ys)) (hxd:Dg 18446744073709551616 xs) (hyd:Dg 18446744073709551616 ys) (hM:xs.length≤100000000000) (hny:ny≤100000000000):
  Calls Tryz.prog 210 #[.slice (some ⟨b,pre.length,none⟩) xs.length c',.slice Y ny cy] w fun e w'=>e=.returned (.tuple #[])∧Hp w0 (.row (some ⟨b,0,none⟩) M C 151 1 (dk (pre++im 18446744073709551616 xs ys 1 0++post))::H) w':=by
 have hly:=(hy _ _ hh).1;rw [a8] at hly;refine aj (N:=34) (l:=[.slice (some ⟨b,pre.length,none⟩) xs.length c',.slice Y ny cy]) Tryz.func210 rfl rfl (by simp) ?_;refine sr (aI (aa (sr (mL (aH (mI (aa (ao ?_))))))));refine bK [4,5,6,9,10,11,12,13,14,15,16,17,18,19,20,21,22,23,24,25,26,27,28,29,30,31,32,33] 4 9
  (fun c i w'=>∃(done rest:List Nat) (cr:Nat),done.length+rest.length=xs.length∧i=.int .i64 done.length∧c=.int .u64 (cr:Int)∧cr≤1∧Dg 18446744073709551616 rest∧done++im 18446744073709551616 rest (ys.drop done.length) 1 cr=im 18446744073709551616 xs ys 1 0∧Hp w0 (.row (some ⟨b,0,none⟩) M C 151 1 (dk (pre++(done++rest)++post))::H) w')
  (fun _ i _=>xs.length-(intOf i).toNat) ?_ ?_
 ·exact ⟨[],xs,0,by simp,rfl,rfl,Xj,hxd,rfl,hh⟩
 ·clear hh;rintro ρ' c i w' ⟨done,rest,cr,hlen,rfl,rfl,hcr,hrd,heq,hh⟩;by_cases hlt:done.length<xs.length
  ·obtain ⟨x,r,rfl⟩:∃x r,rest=x::r:=by
    exact RD
   have hx:=hrd.head;have hg:=ew (zn (pre:=pre) (done:=done) (r:=r) (post:=post) (x:=x));have hlr:done.length+(r.length+1)=xs.length:=by simpa using hlen
   simp only [im,tail_drop,ur,XK] at heq;by_cases hiy:done.length<ny
   ·obtain ⟨y,hyk⟩:=ak (l:=ys) (k:=done.length) Xj;obtain ⟨ad,rfl,_⟩:=(hy _ _ hh).at_ Xj;rw [hyk,YF] at heq;have hyw:=hyd.at_ hyk;refine sr ?_;refine wU ?_;refine bf (aa (cT (al (mL (mI ?_)))));refine KL ?_;refine bU aM.out rfl ((hy _ _ hh).RC hyk) Xk ?_;refine aI (aa (al (mL (mI (mL (mI ?_))))));refine oC ?_;refine jw ?_;refine mI (mI ?_);refine kI (jX x y cr hcr _) (av (cO rfl) (av (cO rfl) (av (cO rfl) aU))) Xk ?_;refine mT ?_;refine dn ?_;refine dn ?_;refine oC ?_;refine yn ?_;intro ws hh;simp only [XC] at hh;rw [XK,cM (by rw [a8];simp only [Xy,XR];omega),gj,nM] at hh;refine xt ?_;refine bk (mI (aA (ai ?_)));refine ⟨⟨done++[(x+y+cr) % 18446744073709551616],r,_,by simp;omega,by rw [Xy];rfl,rfl,Xj,hrd.tail, ?_,hh⟩,by show xs.length-(done.length+1)<xs.length-done.length;omega, ?_⟩
    ·rw [←heq,Ya,Xy];rfl
    exact Xm
   ·rw [X1 Xj,Option.getD_none] at heq;refine sr ?_;refine wU ?_;refine bf (aa (cF (aq (ai (al (mL (mI (mL (mI ?_)))))))));refine oC ?_;refine jw ?_;refine mI (mI ?_);refine kI (jX x 0 cr hcr _) (av (cO rfl) (av (cO rfl) (av (cO rfl) aU))) Xk ?_;refine mT ?_;refine dn ?_;refine dn ?_;refine oC ?_;refine yn ?_;intro ws hh;simp only [XC] at hh;rw [XK,cM (by rw [a8];simp only [Xy,XR];omega),gj,nM] at hh;refine xt ?_;refine bk (mI (aA (ai ?_)));refine ⟨⟨done++[(x+0+cr) % 18446744073709551616],r,_,by simp;omega,by rw [Xy];rfl,rfl,Xj,hrd.tail, ?_,hh⟩,by show xs.length-(done.length+1)<xs.length-done.length;omega, ?_⟩
    ·rw [←heq,Ya,Xy];rfl
    exact Xm
  ·exact Ui
theorem OJ {i d:Nat} (D:Nat) (hD:D<18446744073709551616^i) (hd:d<18446744073709551616) (hk:i+n/64+1<k):
  (D*2^n)/18446744073709551616^(i+n/64) % 18446744073709551616<2^(n % 64)∧d*2^(n % 64) % 18446744073709551616=(d % 2^(64-n % 64))*2^(n % 64)∧
  (bV 18446744073709551616 k (D*2^n)).set (i+n/64) ((D*2^n)/18446744073709551616^(i+n/64) % 18446744073709551616+d*2^(n % 64) % 18446744073709551616)=bV 18446744073709551616 k (D*2^n+18446744073709551616^(i+n/64)*(d*2^(n % 64) % 18446744073709551616))∧
  (D*2^n+18446744073709551616^(i+n/64)*(d*2^(n % 64) % 18446744073709551616))/18446744073709551616^(i+n/64+1) % 18446744073709551616=0∧
  (bV 18446744073709551616 k (D*2^n+18446744073709551616^(i+n/64)*(d*2^(n % 64) % 18446744073709551616))).set (i+n/64+1) (d/2^(64-n % 64))=bV 18446744073709551616 k ((D+18446744073709551616^i*d)*2^n)∧
  (n % 64=0→D*2^n+18446744073709551616^(i+n/64)*(d*2^(n % 64) % 18446744073709551616)=(D+18446744073709551616^i*d)*2^n):=by
 have hW:(18446744073709551616:Nat)=2^64:=by decide
 have hs:n % 64<64:=XW _ Xj;have hn:2^n=18446744073709551616^(n/64)*2^(n % 64):=by
  rw [hW,←Yi,←XS];congr 1;omega
 generalize hq:n/64=q at*;generalize hse:n % 64=s at*;have e:(18446744073709551616:Nat)=2^(64-s)*2^s:=by rw [←XS,hW];congr 1;omega
 have hpos:0<2^s:=X7 Xj;have hwp:∀j:Nat,0<18446744073709551616^j:=fun j=>X7 Xk;have hP:D*2^n<18446744073709551616^(i+q)*2^s:=by
  rw [hn,←Yp,XS];exact ZW (ZW hD (hwp q)) hpos
 have h1:(D*2^n)/18446744073709551616^(i+q)<2^s:=by rw [YR (hwp _),XY (2^s)];exact hP
 have hsW:2^s≤18446744073709551616:=by rw [hW];exact Yf Xj Xj
 have h2:d*2^s % 18446744073709551616=(d % 2^(64-s))*2^s:=by rw [e,Nat.mul_mod_mul_right]
 have h3:(d % 2^(64-s)+1)*2^s≤18446744073709551616:=by
  rw [e];exact Yr _ (XW _ (X7 Xj))
 rw [Yw] at h3;have h4:(D*2^n)/18446744073709551616^(i+q) % 18446744073709551616=(D*2^n)/18446744073709551616^(i+q):=X5 Xj;have hlt1:D*2^n+18446744073709551616^(i+q)*(d*2^s % 18446744073709551616)<18446744073709551616^(i+q+1):=by
  rw [h2,Yj];have:18446744073709551616^(i+q)*((d % 2^(64-s))*2^s+2^s)≤18446744073709551616^(i+q)*18446744073709551616:=X4 _ h3;rw [Yl] at this;omega
 have hup:=R5 (d:=d) (s:=s) hd Xj;have hfin:D*2^n+18446744073709551616^(i+q)*(d*2^s % 18446744073709551616)+18446744073709551616^(i+q+1)*(d/2^(64-s))=(D+18446744073709551616^i*d)*2^n:=by
  have h5:18446744073709551616^(i+q)*(d*2^s % 18446744073709551616)+18446744073709551616^(i+q+1)*(d/2^(64-s))=18446744073709551616^(i+q)*(d*2^s):=by
   conv=>rhs;rw [←hup.1,Yl]
   rw [Yj,Yp,XY 18446744073709551616]
  rw [ZU,h5,Zc,hn,XS];congr 1;simp only [Yp,aaL,XY]
 have hbig:∀j,j<k→18446744073709551616^j*18446744073709551616≤18446744073709551616^k:=fun j hj=>by rw [←Yj];exact Yf Xk hj
 have hb1:=hbig (i+q) Xj;rw [←Yj] at hb1;refine ⟨by rw [h4];exact h1,h2, ?_, ?_, ?_, ?_⟩
 ·exact qb Xk Xj Xj (by rw [h4,h2];omega)
 ·rw [Yk hlt1]
 ·have h6:(D*2^n+18446744073709551616^(i+q)*(d*2^s % 18446744073709551616))/18446744073709551616^(i+q+1) % 18446744073709551616=0:=by rw [Yk hlt1]
  have h7:d/2^(64-s)<18446744073709551616:=Yv (ZM _ _) hd;have h8:=qb (B:=18446744073709551616) (k:=k) (n:=D*2^n+18446744073709551616^(i+q)*(d*2^s % 18446744073709551616)) (j:=i+q+1) (v:=d/2^(64-s)) Xk hk ?_ (by rw [h6];omega)
  ·rw [h6,XJ,hfin] at h8;exact h8
  ·have h9:18446744073709551616^(i+q+1)*(d/2^(64-s)+1)≤18446744073709551616^(i+q+1)*18446744073709551616:=X4 _ h7;have h10:=hbig (i+q+1) hk;rw [YS] at h9;omega
 ·intro h0;subst h0;rw [←hfin];have:d/2^(64-0)=0:=Yk (by rw [←hW];exact hd);rw [this];simp
theorem G0 (A:Option Addr) (n c m:Nat) (xs:List Nat) (w:World) (hx:Sl w A n 1 (dk xs)) (hd:Dg 18446744073709551616 xs) (hn:n≤1000000000) (hm:m≤10000000000):
  Calls Tryz.prog 196 #[.slice A n c,.int .i64 (m:Int)] w fun e w'=>∃A c,e=.returned (.slice A (aZ 18446744073709551616 (bB 18446744073709551616 xs*2^m)).length c)∧w'.ownsRow w.heap.size 151 1 (.slice A (aZ 18446744073709551616 (bB 18446744073709551616 xs*2^m)).length c) (aZ 18446744073709551616 (bB 18446744073709551616 xs*2^m)).length (dk (aZ 18446744073709551616 (bB 18446744073709551616 xs*2^m)))∧Below w.heap.size w w':=by
 have hl:=hx.1;rw [a8] at hl;have hh:=Hp.start w;have hs1:((m:Int) % 64).toNat=m % 64:=Xj;refine aj (N:=55) (l:=[.slice A n c,.int .i64 (m:Int)]) Tryz.func196 rfl rfl (by simp) ?_;refine sr (aL (aa (sr (mL (aH (mI ?_))))));refine oe ?_;refine bk ?_;refine bk ?_;refine fO (n:=n+m/64+1) hh rfl rfl Xj Xj bh.out aM.out rfl Xj Xj Xk ?_;intro b15 w15 hh;refine rZ ?_;rw [pL] at hh;refine aR [6,7,8,18,19,20,21,22,23,24,25,26,27,28,29,30,31,32,33,34,35,36,37,38,39,40,41,42,43,44,45,46,47,48,49,50,51,52] 18
  (fun v w'=>∃i:Nat,i≤n∧v=.int .i64 i∧Hp w [.row (some ⟨b15,0,none⟩) (n+m/64+1) (n+m/64+1) 151 1 (dk (bV 18446744073709551616 (n+m/64+1) (bB 18446744073709551616 (xs.take i)*2^m)))] w')
  (fun v _=>n-(intOf v).toNat) ?_ ?_
 ·exact ⟨0,Xs _,rfl,by rw [ZH,bB,Z0,rE];exact hh⟩
 ·clear hh;rintro ρ' v w' ⟨i,hi,rfl,hh⟩;by_cases hlt:i<n
  ·obtain ⟨d,hdi⟩:=ak (l:=xs) (k:=i) Xj;obtain ⟨ad,rfl,hr⟩:=hx.at_ Xj;have hd2:=ew hdi;have hdw:=hd.at_ hdi;have hD:=iI (hd.take i);rw [XP,Ys Xj] at hD;obtain ⟨s1,s2,s3,s4,s5,s6⟩:=OJ (k:=n+m/64+1) (n:=m) (bB 18446744073709551616 (xs.take i)) hD hdw Xj;have hg:=ew (iF (B:=18446744073709551616) (n+m/64+1) (bB 18446744073709551616 (xs.take i)*2^m) (i+m/64) Xj);refine sr ?_;refine dR ?_;refine cE bh.out aM.size rfl rfl rfl Xj Xk ?_;refine jG ?_;refine aI (aI (aa (sr (mI (mI ?_)))));refine oe ?_;refine bk (aI (aa (ah ?_)));refine a0 8 [[(5,none)],[(8,none)],[(27,some 0),(28,some 1)],[(29,some 2)],[(7,none)],[(1,none)],[(32,some 5)],[(31,some 4),(33,some 6)]] [(7,34),(6,33),(5,32),(4,31),(3,30),(2,29),(1,28),(0,27)] hh mixed Xl ?_;refine fS ?_;refine dJ ?_;refine LC (i+m/64) ?_;refine bj (i:=3) (fun ρ1 w1 hj hR=>jN aM.out (show ρ1 29=Value.pointer _ from hR.1) (hj.hp.eH (i:=0) rfl (by rw [XK];exact hg))) ?_;refine dJ ?_;refine dJ ?_;refine bj (i:=6) (fun ρ1 w1 hj hR=>mJ (show ρ1 32=Value.int _ _ from hR.1) rfl Xj Xj) ?_
   refine bj (i:=7) (fun ρ1 w1 hj hR=>zz (show ρ1 31=Value.int _ _ from hR.1) (show ρ1 33=Value.int _ _ from hR.2.1) Xj) ?_;refine aO ?_;intro f W hJ hV;have hb_6:=hJ.bl;obtain ⟨v34,v33,v32,v31,v30,v29,v28,v27,_⟩:=hV;replace hh:=hJ.hp;refine aW (bm (ae v34 (ae v33 (ae v32 (ae v31 (ae v30 (ae v29 (ae v28 (ae v27 aV))))))))) ?_;dsimp only [cd];clear hJ;refine FY ?_;refine da (k:=i+m/64) bh.out aM.size rfl rfl Xj Xj Xk ?_;refine Kf ?_;intro ws hh;simp only [XC] at hh;rw [hs1,s2,Ef s1,←s2,XK,cM (by rw [a8,aT];omega),gj,s3] at hh;by_cases h0:m % 64=0
   ·refine aa (sr (mI ?_));refine sY ?_;refine cj (aa (cF (aq (bz (ai (al ?_))))));refine bk (mI (aA (ai ?_)));rw [s6 h0,←fu hdi] at hh;exact KG
   ·have hg2:=ew (iF (B:=18446744073709551616) (n+m/64+1) (bB 18446744073709551616 (xs.take i)*2^m+18446744073709551616^(i+m/64)*(d*2^(m % 64) % 18446744073709551616)) (i+m/64+1) Xj);rw [s4] at hg2;have hs2:(64-(m:Int) % 64).toNat=64-m % 64:=Xj;have hd64:d/2^(64-(m:Int) % 64).toNat<18446744073709551616:=Yv (ZM _ _) hdw;have h0w:(0:Nat)<18446744073709551616:=Xj;refine aa (sr (mI ?_));refine sY ?_;refine cj (aa (cT ?_));refine a0 10 [[(5,none)],[(8,none)],[(41,some 1)],[(40,some 0),(42,some 2)],[(43,some 3)],[(7,none)],[(1,none)],[(46,some 6)],[(47,some 7)],[(45,some 5),(48,some 8)]] [(9,49),(8,48),(7,47),(6,46),(5,45),(4,44),(3,43),(2,42),(1,41),(0,40)] hh mixed Xl ?_;refine fS ?_;refine dJ ?_;refine rL ?_;refine LC (i+m/64+1) ?_;refine bj (i:=4) (fun ρ1 w1 hj hR=>jN aM.out (show ρ1 43=Value.pointer _ from hR.1) (hj.hp.eH (i:=0) rfl (by rw [XK];exact hg2))) ?_;refine dJ ?_;refine dJ ?_;refine bj (i:=7) (fun ρ1 w1 hj hR=>mJ (show ρ1 46=Value.int _ _ from hR.1) rfl Xj Xj) ?_;refine vx ?_
    refine bj (i:=9) (fun ρ1 w1 hj hR=>D6 (show ρ1 45=Value.int _ _ from hR.1) (show ρ1 48=Value.int _ _ from hR.2.1) Xj) ?_;refine aO ?_;intro f W hJ hV;have hb_8:=hJ.bl;obtain ⟨v49,v48,v47,v46,v45,v44,v43,v42,v41,v40,_⟩:=hV;replace hh:=hJ.hp;refine aW (bm (ae v49 (ae v48 (ae v47 (ae v46 (ae v45 (ae v44 (ae v43 (ae v42 (ae v41 (ae v40 aV))))))))))) ?_;dsimp only [cd];clear hJ;refine FY ?_;refine da (k:=i+m/64+1) bh.out aM.size rfl rfl Xj Xj Xk ?_;refine Kf ?_;intro ws hh;simp only [XC] at hh;rw [hs2,Nat.zero_or,XK,cM (by rw [a8,aT];omega),gj,s5,←fu hdi] at hh;refine fp ?_;refine bk (mI (aA (ai ?_)));exact KG
  ·refine sr ?_;refine oI ?_;rw [Xz Xj] at hh;refine bA hh (ix _ _ _ (bV 18446744073709551616 (n+m/64+1) (bB 18446744073709551616 xs*2^m)) _ (hh.aC (i:=0) rfl) (Xr _) Xj) rfl ?_;intro w54 hh;refine aL (aa (aw ?_));refine df ?_;have hbd:bB 18446744073709551616 xs*2^m<18446744073709551616^(n+m/64+1):=by
    have h1:=iI hd;rw [show xs.length=n by omega] at h1;have h2:2^m≤18446744073709551616^(m/64+1):=by
     exact QG
    rw [show n+m/64+1=n+(m/64+1) by omega,XS];exact Yt (ZW h1 (X7 Xj)) (X4 _ h2)
   have hd:dX (bV 18446744073709551616 (n+m/64+1) (bB 18446744073709551616 xs*2^m))=aZ 18446744073709551616 (bB 18446744073709551616 xs*2^m):=by
    exact KF
   have h1:=(Hp.FN (xs:=bV 18446744073709551616 (n+m/64+1) (bB 18446744073709551616 xs*2^m)) hh (aT _ _)).at_ (i:=0) rfl;exact E9
theorem Sl.Sd {xs:List Nat} (h:Sl w (some ad) n 1 (dk xs)) (hk:k<n):Sl w (some (ad.add (k*1))) (n-k) 1 (dk (xs.drop k)):=by
 have hl:=h.1;rw [a8] at hl;refine ⟨by rw [a8,Yz];omega,fun h0=>⟨_,rfl, ?_⟩⟩;obtain ⟨ad',he,hr⟩:=h.2 Xj;injection he with he
 subst he;rw [XK,xY];exact hr.drop k
theorem H3 {s:Nat} (hs:s<64) (h0:0<s):
  (N/18446744073709551616^(j+1) % 18446744073709551616)*2^(64-s) % 18446744073709551616=N/18446744073709551616^(j+1) % 2^s*2^(64-s)∧
  (N/18446744073709551616^j % 18446744073709551616/2^s|||(N/18446744073709551616^(j+1) % 18446744073709551616)*2^(64-s) % 18446744073709551616)=N/2^(64*j+s) % 18446744073709551616:=by
 have hW:(18446744073709551616:Nat)=2^64:=by decide
 have e:(18446744073709551616:Nat)=2^s*2^(64-s):=by rw [←XS,hW];congr 1;omega
 have h1:(N/18446744073709551616^(j+1) % 18446744073709551616)*2^(64-s) % 18446744073709551616=N/18446744073709551616^(j+1) % 2^s*2^(64-s):=by
  generalize N/18446744073709551616^(j+1)=m;rw [e,Nat.mul_mod_mul_right,Nat.mod_mul_right_mod]
 obtain ⟨h2,h3⟩:=xR N j s hs h0;exact ⟨h1,by rw [h1,Ef h2,h3]⟩
theorem Co (A:Option Addr) (n c m:Nat) (xs:List Nat) (w:World) (hx:Sl w A n 1 (dk xs)) (hd:Dg 18446744073709551616 xs) (hc:n≤c) (hn:n≤1000000000) (hm:m≤1000000000000):
  Calls Tryz.prog 197 #[.slice A n c,.int .i64 (m:Int)] w fun e w'=>∃A c,e=.returned (.slice A (aZ 18446744073709551616 (bB 18446744073709551616 xs/2^m)).length c)∧w'.ownsRow w.heap.size 151 1 (.slice A (aZ 18446744073709551616 (bB 18446744073709551616 xs/2^m)).length c) (aZ 18446744073709551616 (bB 18446744073709551616 xs/2^m)).length (dk (aZ 18446744073709551616 (bB 18446744073709551616 xs/2^m)))∧Below w.heap.size w w':=by
 have hl:=hx.1;rw [a8] at hl;have hh:=Hp.start w;have hs1:((m:Int) % 64).toNat=m % 64:=Xj;have hW:(18446744073709551616:Nat)=2^64:=by decide
 have hmm:2^m=18446744073709551616^(m/64)*2^(m % 64):=by
  rw [hW,←Yi,←XS];congr 1;omega
 have hlt:=iI hd;rw [show xs.length=n by omega] at hlt;by_cases hbig:n≤m/64
 ·have h0:bB 18446744073709551616 xs/2^m=0:=by
   apply Yk;refine Yt hlt (XV (Yf Xk hbig) ?_);rw [hmm];exact aaO _ (X7 Xj)
  refine aj (N:=61) (l:=[.slice A n c,.int .i64 (m:Int)]) Tryz.func197 rfl rfl (by simp) ?_;refine sr (aL (aa (ah (sr (mI ?_)))));refine oe ?_;refine mL (aH ?_);refine dL (aa (cT (sr (aL (aa (aw (aK ?_)))))));refine df ?_;rw [h0,gu Xj];exact KK
 ·obtain ⟨ad,rfl,hr⟩:=hx.at_ Xj;have hsd:=hx.Sd (k:=m/64) Xj;have hget:∀j,j<n→xs[j]?=some (bB 18446744073709551616 xs/18446744073709551616^j % 18446744073709551616):=fun j hj=>by
   obtain ⟨d,hdj⟩:=ak (l:=xs) (k:=j) Xj;rw [hdj,tG hd hdj]
  refine aj (N:=61) (l:=[.slice (some ad) n c,.int .i64 (m:Int)]) Tryz.func197 rfl rfl (by simp) ?_;refine sr (aL (aa (ah (sr (mI ?_)))));refine oe ?_;refine mL (aH ?_);refine dL (aa (cF (aq (ai (sr (mL (mI ?_)))))));refine oe ?_;refine Cu (l:=m/64) bh.out aM.size rfl rfl Xj Xj Xj Xj Xk ?_;refine aF (oa _ _ _ 0 _ _ hsd Xj Xj) ar.out rfl Xk ?_;rintro e_ w_ ⟨b16,rfl,hown_,hb_⟩;refine ⟨_,rfl, ?_⟩;replace hh:=hh.aX (x:=.row _ _ _ _ _ _) hb_ hown_;rw [Nat.zero_max,Yq,aay,XZ] at hh;rw [Nat.zero_max];refine rZ ?_;refine aR [6,19,20,21,22,23,24,25,26,27,28,29,30,31,32,33,34,35,36,37,38,39,40,41,42,43,44,45,46,47,48,49,50,51,52,53,54,55,56,57,58] 19
   (fun v w'=>∃i:Nat,i≤n-m/64∧v=.int .i64 i∧Hp w [.row (some ⟨b16,0,none⟩) (n-m/64) (n-m/64) 151 1 (dk (bV 18446744073709551616 i (bB 18446744073709551616 xs/2^m)++xs.drop (m/64+i)))] w')
   (fun v _=>(n-m/64)-(intOf v).toNat) ?_ ?_
  ·exact ⟨0,Xs _,rfl,hh⟩
  ·clear hh;rintro ρ' v w' ⟨i,hi,rfl,hh⟩;by_cases hlt2:i<n-m/64
   ·have hgi:=hget (m/64+i) Xj;have hdr:xs.drop (m/64+i)=(bB 18446744073709551616 xs/18446744073709551616^(m/64+i) % 18446744073709551616)::xs.drop (m/64+i+1):=by
     rw [YH Xj];congr 1;have:=XE.1 hgi;exact this.2
    have hcell:(bV 18446744073709551616 i (bB 18446744073709551616 xs/2^m)++xs.drop (m/64+i))[i]?=some (bB 18446744073709551616 xs/18446744073709551616^(m/64+i) % 18446744073709551616):=by
     rw [YD (by rw [aT];omega),aT,hdr];simp
    have hg:=ew hcell;have hset:∀y,(bV 18446744073709551616 i (bB 18446744073709551616 xs/2^m)++xs.drop (m/64+i)).set i y=bV 18446744073709551616 i (bB 18446744073709551616 xs/2^m)++y::xs.drop (m/64+i+1):=fun y=>by
     rw [hdr,ZA _ _ (by rw [aT];omega),aT,Yq,XC]
    have hll:(bV 18446744073709551616 i (bB 18446744073709551616 xs/2^m)++xs.drop (m/64+i)).length=n-m/64:=by rw [Xy,aT,Yz];omega
    have hac:∀y,bV 18446744073709551616 i (bB 18446744073709551616 xs/2^m)++y::xs.drop (m/64+i+1)=(bV 18446744073709551616 i (bB 18446744073709551616 xs/2^m)++[y])++xs.drop (m/64+(i+1)):=fun y=>List.append_cons _ _ _;have hnew:bV 18446744073709551616 (i+1) (bB 18446744073709551616 xs/2^m)=bV 18446744073709551616 i (bB 18446744073709551616 xs/2^m)++[bB 18446744073709551616 xs/2^(64*(m/64+i)+m % 64) % 18446744073709551616]:=by
     rw [k9,Y6];congr 4;rw [hW,←Yi,←XS];congr 1;omega
    refine sr ?_;refine bf (aa (ah (cT (aq (ai (ah (ao (sr (mI (aI (aa (sr (mL (mI ?_))))))))))))));refine fT ?_;refine jw ?_;refine mI ?_;refine sY ?_;refine Ei rfl rfl Xj Xk ?_;refine fT ?_;refine bW hh (i:=0) (vs:=[_]) rfl rfl (cO rfl) rfl aM.out rfl (by rw [a8,hll];omega) rfl ?_;intro ws hh;simp only [XC] at hh;rw [hs1,XK,cM (by rw [a8,hll];omega),gj,hset] at hh;by_cases h0:m % 64=0
    ·have e1:bB 18446744073709551616 xs/18446744073709551616^(m/64+i) % 18446744073709551616/2^(m % 64)=bB 18446744073709551616 xs/2^(64*(m/64+i)+m % 64) % 18446744073709551616:=by
      rw [h0,ZY,Nat.div_one,YX,Yi,←hW]
     by_cases hl:i+1<n-m/64
     ·refine aa (sr (mI ?_));refine bk (mL (aH ?_));refine bf (mB (gT (mI (gT ?_))));refine sY ?_;refine gT ?_;refine cj ?_;refine eR ?_;exact PQ
     ·exact PO
    ·by_cases hl:i+1<n-m/64
     ·have hgj:=hget (m/64+i+1) Xj;have hgj2:=ew hgj;obtain ⟨d1,d2⟩:=H3 (N:=bB 18446744073709551616 xs) (j:=m/64+i) (s:=m % 64) (XW _ Xj) Xj;have hcell2:(bV 18446744073709551616 i (bB 18446744073709551616 xs/2^m)++(bB 18446744073709551616 xs/18446744073709551616^(m/64+i) % 18446744073709551616/2^(m % 64))::xs.drop (m/64+i+1))[i]?=some (bB 18446744073709551616 xs/18446744073709551616^(m/64+i) % 18446744073709551616/2^(m % 64)):=by
       rw [YD (by rw [aT];omega),aT];simp
      have hg2:=ew hcell2;have hset2:∀y z,(bV 18446744073709551616 i (bB 18446744073709551616 xs/2^m)++y::xs.drop (m/64+i+1)).set i z=bV 18446744073709551616 i (bB 18446744073709551616 xs/2^m)++z::xs.drop (m/64+i+1):=fun y z=>by
       rw [ZA _ _ (by rw [aT];omega),aT,Yq,XC]
      have hll2:∀y,(bV 18446744073709551616 i (bB 18446744073709551616 xs/2^m)++y::xs.drop (m/64+i+1)).length=n-m/64:=fun y=>by rw [Xy,aT,XR,Yz];omega
      have hs2:(64-(m:Int) % 64).toNat=64-m % 64:=Xj;have b1:bB 18446744073709551616 xs/18446744073709551616^(m/64+i) % 18446744073709551616/2^(m % 64)<18446744073709551616:=Yv (ZM _ _) (XW _ Xj);have b2:bB 18446744073709551616 xs/18446744073709551616^(m/64+i+1) % 18446744073709551616*2^(64-(m:Int) % 64).toNat % 18446744073709551616<18446744073709551616:=XW _ Xj;refine aa (sr (mI ?_));refine bk (mL (aH ?_));refine bf (mB (gT (mI (gT ?_))));refine sY ?_;refine gT ?_;refine cj ?_;refine eR ?_;refine aa (cT ?_);refine a0 16 [[(5,none)],[(6,none)],[(40,some 0),(41,some 1)],[(42,some 2)],[(0,none)],[(1,none)],[(45,some 5)],[(6,none)],[(46,some 6),(47,some 7)],[(48,some 8)],[(44,some 4),(49,some 9)],[(50,some 10)],[(1,none)],[(52,some 12)],[(53,some 13)],[(51,some 11),(54,some 14)]] [(15,55),(14,54),(13,53),(12,52),(11,51),(10,50),(9,49),(8,48),(7,47),(6,46),(5,45),(4,44),(3,43),(2,42),(1,41),(0,40)] hh mixed Xl ?_;refine fS ?_;refine dJ ?_;refine LC (i) ?_
      refine bj (i:=3) (fun ρ1 w1 hj hR=>jN aM.out (show ρ1 42=Value.pointer _ from hR.1) (hj.hp.eH (i:=0) rfl (by rw [XK];exact hg2))) ?_;refine fS ?_;refine dJ ?_;refine bj (i:=6) (fun ρ1 w1 hj hR=>pr (show ρ1 45=Value.int _ _ from hR.1) rfl Xj Xj Xj) ?_;refine dJ ?_;refine rL ?_;refine rL ?_;refine ow (m/64+i+1) ?_;refine qS (fun _ hj=>(hr.ext hj.hp.below).wj hgj2) ?_;refine dJ ?_;refine bj (i:=13) (fun ρ1 w1 hj hR=>mJ (show ρ1 52=Value.int _ _ from hR.1) rfl Xj Xj) ?_;refine vx ?_;refine bj (i:=15) (fun ρ1 w1 hj hR=>zz (show ρ1 51=Value.int _ _ from hR.1) (show ρ1 54=Value.int _ _ from hR.2.1) Xj) ?_;refine aO ?_;intro f W hJ hV;have hb_9:=hJ.bl;obtain ⟨v55,v54,v53,v52,v51,v50,v49,v48,v47,v46,v45,v44,v43,v42,v41,v40,_⟩:=hV;replace hh:=hJ.hp;refine aW (bm (ae v55 (ae v54 (ae v53 (ae v52 (ae v51 (ae v50 (ae v49 (ae v48 (ae v47 (ae v46 (ae v45 (ae v44 (ae v43 (ae v42 (ae v41 (ae v40 aV))))))))))))))))) ?_;dsimp only [cd];clear hJ;refine FY ?_;refine fT ?_;refine bW hh (i:=0) (vs:=[_]) rfl rfl (cO rfl) rfl aM.out rfl (by rw [a8,hll2];omega) rfl ?_;intro ws hh;simp only [XC] at hh
      rw [hs2,d2,XK,cM (by rw [a8,hll2];omega),gj,hset2,hac,←hnew] at hh;refine fp ?_;refine bk (mI (aA (ai ?_)));exact QR
     ·have e1:bB 18446744073709551616 xs/18446744073709551616^(m/64+i) % 18446744073709551616/2^(m % 64)=bB 18446744073709551616 xs/2^(64*(m/64+i)+m % 64) % 18446744073709551616:=by
       obtain ⟨h2,h3⟩:=xR (bB 18446744073709551616 xs) (m/64+i) (m % 64) (XW _ Xj) Xj;have h4:bB 18446744073709551616 xs/18446744073709551616^(m/64+i+1)=0:=Yk (Yt hlt (Yf Xk Xj));rw [h4] at h3;simpa using h3
      exact PO
   ·obtain rfl:i=n-m/64:=Xj;rw [List.drop_eq_nil_of_le Xj,XZ] at hh;refine sr ?_;refine oI ?_;refine bA hh (ix _ _ _ (bV 18446744073709551616 (n-m/64) (bB 18446744073709551616 xs/2^m)) _ (hh.aC (i:=0) rfl) (Xr _) Xj) rfl ?_;intro w60 hh;refine aL (aa (aw ?_));refine df ?_;have hbd:bB 18446744073709551616 xs/2^m<18446744073709551616^(n-m/64):=by
     rw [YR (X7 Xj),hmm,←Yp,←XS,show n-m/64+m/64=n by omega];exact Yt hlt (aaO _ (X7 Xj))
    have hd:dX (bV 18446744073709551616 (n-m/64) (bB 18446744073709551616 xs/2^m))=aZ 18446744073709551616 (bB 18446744073709551616 xs/2^m):=by
     exact KF
    have h1:=(Hp.FN (xs:=bV 18446744073709551616 (n-m/64) (bB 18446744073709551616 xs/2^m)) hh (aT _ _)).at_ (i:=0) rfl;exact E9
def bN (a:ByteArray):Nat:=bn a.data.toList
def sN (n:Nat):ByteArray:=str (sb n)
theorem eU (n:Nat):bN (sN n)=n:=by rw [bN,sN,dH,Tk]
theorem ma (n:Nat):(sN n).size=(bG n+7)/8:=by rw [sN,lf,IG,Ek]
theorem Lx {a:Nat} (h:sN a=sN b):a=b:=by rw [←eU a,h,eU]
theorem np:sN 0=ByteArray.mk #[]:=by rw [sN,Od];rfl
theorem xZ (a:ByteArray):bN a<256^a.size:=by rw [dQ];exact QB _
theorem gO (a:ByteArray):bG (bN a)≤8*a.size:=by
 apply dK;have:=xZ a;rwa [show (256:Nat)=2^8 from rfl,←Yi] at this
theorem GY (h:n<256^k):(aZ 18446744073709551616 n).length≤(k+7)/8:=by
 apply iz Xj;refine Yt h ?_;rw [show (256:Nat)=2^8 from rfl,show (18446744073709551616:Nat)=2^64 from rfl,←Yi,←Yi];exact Yf Xj Xj
theorem gg (a:ByteArray):(aZ 18446744073709551616 (bN a)).length≤(a.size+7)/8:=GY (xZ a)
theorem jr (n:Nat):Dg 18446744073709551616 (aZ 18446744073709551616 n):=(ea Xj n).1
theorem gB (n:Nat):bB 18446744073709551616 (aZ 18446744073709551616 n)=n:=ee Xj n
theorem ph (a:ByteArray) (w:World) (ha:a.size≤1000000000):
  Calls Tryz.prog 161 #[.string a] w fun e w'=>∃b c,e=.returned (.slice (some ⟨b,0,none⟩) (aZ 18446744073709551616 (bN a)).length c)∧w'.ownsRow w.heap.size 151 1 (.slice (some ⟨b,0,none⟩) (aZ 18446744073709551616 (bN a)).length c) (aZ 18446744073709551616 (bN a)).length (dk (aZ 18446744073709551616 (bN a)))∧Below w.heap.size w w':=IF a w Xj
theorem rP (n:Nat) (w:World) (hn:n<18446744073709551616):
  Calls Tryz.prog 120 #[.int .u64 (n:Int)] w fun e w'=>e=.returned (.string (sN n))∧Below w.heap.size w w':=by
 have hh:=Hp.start w;refine aj (N:=6) (l:=[.int .u64 (n:Int)]) Tryz.func120 rfl rfl (by simp) ?_;refine sr (aS (aa (sr (mI ?_))));refine xm ?_;intro b4 w4 hh;refine bA hh (ir _ _ _ [n] _ (hh.aC (i:=0) rfl) (Dg.cons hn Dg.nil) (Xr _) Xj) rfl ?_;intro w5 hh;refine aS (aa (aw ?_));refine df ?_;refine ⟨?_,hh.below⟩;rw [sN];simp [bB]
theorem zX (a b:ByteArray) (w:World) (ha:a.size≤1000000000) (hb:b.size≤1000000000):
  Calls Tryz.prog 211 #[.string a,.string b] w fun e w'=>e=.returned (.int .i64 (lE (bN a) (bN b)))∧Below w.heap.size w w':=by
 have hh:=Hp.start w;have h1:=gg a;have h2:=gg b;refine aj (N:=10) (l:=[.string a,.string b]) Tryz.func211 rfl rfl (by simp) ?_;refine sr (aI (aa (sr (mS ?_))));refine sZ ?_;rintro e_ w6 ⟨A6,c6,rfl,hown_,hb_⟩;refine ⟨_,rfl, ?_⟩;replace hh:=hh.aX (x:=.row _ _ _ _ _ _) hb_ hown_;refine mS ?_;refine Fu ?_;rintro e_ w8 ⟨A8,c8,rfl,hown_,hb_⟩;refine ⟨_,rfl, ?_⟩;replace hh:=hh.aX (x:=.row _ _ _ _ _ _) hb_ hown_;refine Ji ?_;intro w9 hh;rw [gB,gB];exact Ag
theorem mf (a:ByteArray) (w:World) (ha:a.size≤1000000000):
  Calls Tryz.prog 165 #[.string a] w fun e w'=>e=.returned (.int .i64 (bG (bN a)))∧Below w.heap.size w w':=by
 have hh:=Hp.start w;have h1:=gg a;refine aj (N:=6) (l:=[.string a]) Tryz.func165 rfl rfl (by simp) ?_;refine sr (aI (aa (sr (mS ?_))));refine sZ ?_;rintro e_ w4 ⟨A4,c4,rfl,hown_,hb_⟩;refine ⟨_,rfl, ?_⟩;replace hh:=hh.aX (x:=.row _ _ _ _ _ _) hb_ hown_;refine bA hh (ub _ _ _ (aZ 18446744073709551616 (bN a)) _ (hh.aC (i:=0) rfl) (jr _) (hh.fM (i:=0) rfl) Xj) rfl ?_;intro w5 hh;rw [gB];exact Ag
theorem pZ (n m:Nat):bG (n*2^m)≤bG n+m:=by
 apply dK;rw [XS];exact ZW (dt n) (X7 Xj)
theorem ug (n:Nat):(aZ 18446744073709551616 n).length≤(bG n+63)/64:=by
 apply iz Xj;refine Yt (dt n) ?_;exact QG
theorem z9 (a:ByteArray) (m:Nat) (w:World) (ha:a.size≤1000000000) (hm:m≤10000000000):
  Calls Tryz.prog 163 #[.string a,.int .i64 (m:Int)] w fun e w'=>e=.returned (.string (sN (bN a*2^m)))∧Below w.heap.size w w':=by
 have hh:=Hp.start w;have h1:=gg a;have h2:=ug (bN a*2^m);have h3:=pZ (bN a) m;have h4:=gO a;have e1:(if (0:Int)>(m:Int) then 0 else (m:Int))=m:=Xp Xj;refine aj (N:=11) (l:=[.string a,.int .i64 (m:Int)]) Tryz.func163 rfl rfl (by simp) ?_;refine sr (aS (aa (sr (mS ?_))));refine sZ ?_;rintro e_ w6 ⟨A6,c6,rfl,hown_,hb_⟩;refine ⟨_,rfl, ?_⟩;replace hh:=hh.aX (x:=.row _ _ _ _ _ _) hb_ hown_;refine mI ?_;refine lz rfl rfl Xk ?_;rw [e1];refine aF (G0 _ _ _ m (aZ 18446744073709551616 (bN a)) _ (hh.aC (i:=0) rfl) (jr _) Xj hm) ar.out rfl Xk ?_;rintro e_ w9 ⟨A9,c9,rfl,hown_,hb_⟩;refine ⟨_,rfl, ?_⟩;replace hh:=hh.aX (x:=.row _ _ _ _ _ _) hb_ hown_;rw [gB] at*;refine bA hh (ir _ _ _ (aZ 18446744073709551616 (bN a*2^m)) _ (hh.aC (i:=0) rfl) (jr _) (hh.fM (i:=0) rfl) Xj) rfl ?_;intro w10 hh;rw [gB];exact HK
theorem p9 (n m:Nat):bG (n/2^m)≤bG n:=by
 apply dK;exact Yv (ZM _ _) (dt n)
theorem yz (a:ByteArray) (m:Nat) (w:World) (ha:a.size≤1000000000) (hm:m≤1000000000000):
  Calls Tryz.prog 164 #[.string a,.int .i64 (m:Int)] w fun e w'=>e=.returned (.string (sN (bN a/2^m)))∧Below w.heap.size w w':=by
 have hh:=Hp.start w;have h1:=gg a;have h2:=ug (bN a/2^m);have h3:=p9 (bN a) m;have h4:=gO a;have e1:(if (0:Int)>(m:Int) then 0 else (m:Int))=m:=Xp Xj;refine aj (N:=11) (l:=[.string a,.int .i64 (m:Int)]) Tryz.func164 rfl rfl (by simp) ?_;refine sr (aS (aa (sr (mS ?_))));refine sZ ?_;rintro e_ w6 ⟨A6,c6,rfl,hown_,hb_⟩;refine ⟨_,rfl, ?_⟩;replace hh:=hh.aX (x:=.row _ _ _ _ _ _) hb_ hown_;refine mI ?_;refine lz rfl rfl Xk ?_;rw [e1];refine aF (Co _ _ _ m (aZ 18446744073709551616 (bN a)) _ (hh.aC (i:=0) rfl) (jr _) (hh.fM (i:=0) rfl) Xj hm) ar.out rfl Xk ?_;rintro e_ w9 ⟨A9,c9,rfl,hown_,hb_⟩;refine ⟨_,rfl, ?_⟩;replace hh:=hh.aX (x:=.row _ _ _ _ _ _) hb_ hown_;rw [gB] at*;refine bA hh (ir _ _ _ (aZ 18446744073709551616 (bN a/2^m)) _ (hh.aC (i:=0) rfl) (jr _) (hh.fM (i:=0) rfl) Xj) rfl ?_;intro w10 hh;rw [gB];exact HK
theorem NX {x y:Nat} (h:y≤x):BA 18446744073709551616 (aZ 18446744073709551616 x) (aZ 18446744073709551616 y) 0=0∧bB 18446744073709551616 (tg 18446744073709551616 (aZ 18446744073709551616 x) (aZ 18446744073709551616 y) 0)=x-y:=by
 have:=Mq (B:=18446744073709551616) Xj (aZ 18446744073709551616 x) (aZ 18446744073709551616 y) 0 (jr _) (jr _) Xj (by rw [gB,gB];omega);rw [gB,gB] at this;exact ⟨this.2,Xj⟩
theorem qG (a b:ByteArray) (w:World) (ha:a.size≤1000000000) (hb:b.size≤1000000000):
  Calls Tryz.prog 192 #[.string a,.string b] w fun e w'=>e=.returned (.tuple #[.string (sN (bN a-bN b)),.bool (decide (bN b≤bN a))])∧Below w.heap.size w w':=by
 have hh:=Hp.start w;have h1:=gg a;have h2:=gg b;by_cases hlt:bN a<bN b
 ·refine aj (N:=21) (l:=[.string a,.string b]) Tryz.func192 rfl rfl (by simp) ?_;refine sr (aS (aB (aa (sr (mS ?_)))));refine sZ ?_;rintro e_ w9 ⟨A9,c9,rfl,hown_,hb_⟩;refine ⟨_,rfl, ?_⟩;replace hh:=hh.aX (x:=.row _ _ _ _ _ _) hb_ hown_;refine mS ?_;refine Fu ?_;rintro e_ w11 ⟨A11,c11,rfl,hown_,hb_⟩;refine ⟨_,rfl, ?_⟩;replace hh:=hh.aX (x:=.row _ _ _ _ _ _) hb_ hown_;refine aL (aL (aa (ah (sr (mL (mL ?_))))));refine Ji ?_;intro w14 hh;rw [gB,gB,l7 hlt];exact Up
 ·obtain ⟨s1,s2⟩:=NX (Nat.le_of_not_lt hlt);have hc:¬lE (bN a) (bN b)<0:=by unfold lE;split<;>(try split)<;>omega
  refine aj (N:=21) (l:=[.string a,.string b]) Tryz.func192 rfl rfl (by simp) ?_;refine sr (aS (aB (aa (sr (mS ?_)))));refine sZ ?_;rintro e_ w9 ⟨A9,c9,rfl,hown_,hb_⟩;refine ⟨_,rfl, ?_⟩;replace hh:=hh.aX (x:=.row _ _ _ _ _ _) hb_ hown_;refine mS ?_;refine Fu ?_;rintro e_ w11 ⟨A11,c11,rfl,hown_,hb_⟩;refine ⟨_,rfl, ?_⟩;replace hh:=hh.aX (x:=.row _ _ _ _ _ _) hb_ hown_;refine aL (aL (aa (ah (sr (mL (mL ?_))))));refine Ji ?_;intro w14 hh;rw [gB,gB];refine bf (aa (cF (aq (ai (sr (mL (mL ?_)))))));replace hh:=hh.front 1 rfl;rw [←XZ (aZ 18446744073709551616 (bN a)),←Xu (aZ 18446744073709551616 (bN a))] at hh;have hll:=(hh.NI (i:=0) rfl);rw [Xu,XZ] at hll;refine aF (A0 [] (aZ 18446744073709551616 (bN a)) [] (aZ 18446744073709551616 (bN b)) _ hh (fun w1 cs h=>h.aC (i:=1) rfl) (jr _) (jr _) Xj Xj s1) ar.out rfl Xk ?_;rintro e_ w_ ⟨rfl,hh⟩;refine ⟨_,rfl, ?_⟩;simp only [Xu,XZ] at hh;refine aa (sr (mL ?_))
  refine bA hh (ir _ _ _ (tg 18446744073709551616 (aZ 18446744073709551616 (bN a)) (aZ 18446744073709551616 (bN b)) 0) _ (hh.aC (i:=0) rfl) (Nj Xj _ _ _) (hh.fM (i:=0) rfl) Xj) rfl ?_;intro w20 hh;rw [s2];exact Q0
theorem yq (a b:ByteArray) (w:World) (ha:a.size≤1000000000) (hb:b.size≤1000000000):
  Calls Tryz.prog 189 #[.string a,.string b] w fun e w'=>e=.returned (.string (sN (bN a*bN b)))∧Below w.heap.size w w':=by
 have hh:=Hp.start w;have h1:=gg a;have h2:=gg b;refine aj (N:=37) (l:=[.string a,.string b]) Tryz.func189 rfl rfl (by simp) ?_;refine sr (aS (aa (sr (mS ?_))));refine sZ ?_;rintro e_ w11 ⟨A11,c11,rfl,hown_,hb_⟩;refine ⟨_,rfl, ?_⟩;replace hh:=hh.aX (x:=.row _ _ _ _ _ _) hb_ hown_;refine mS ?_;refine Fu ?_;rintro e_ w13 ⟨A13,c13,rfl,hown_,hb_⟩;refine ⟨_,rfl, ?_⟩;replace hh:=hh.aX (x:=.row _ _ _ _ _ _) hb_ hown_;have hxd:=jr (bN a);have hyd:=jr (bN b);have hX:=gB (bN a);have hY:=gB (bN b);generalize aZ 18446744073709551616 (bN a)=xs at*;generalize aZ 18446744073709551616 (bN b)=ys at*;refine aL (aL (aa (sr (mL (aH (mL (aH ?_)))))));refine bk ?_;refine bk ?_;refine fO (n:=xs.length+ys.length+1) hh rfl rfl Xj Xj bh.out aM.out rfl Xj Xj Xk ?_;intro b20 w20 hh;refine rZ ?_;rw [pL] at hh;refine aR [8,9,23,24,25,26,27,28,29,30,31,32,33,34] 23
  (fun v w'=>∃(i:Nat) (L:List Nat),i≤xs.length∧v=.int .i64 i∧Dg 18446744073709551616 L∧L.length=xs.length+ys.length+1∧bB 18446744073709551616 L=bB 18446744073709551616 (xs.take i)*bB 18446744073709551616 ys∧Hp w [.row (some ⟨b20,0,none⟩) (xs.length+ys.length+1) (xs.length+ys.length+1) 151 1 (dk L),.row (some ⟨A13,0,none⟩) ys.length c13 151 1 (dk ys),.row (some ⟨A11,0,none⟩) xs.length c11 151 1 (dk xs)] w')
  (fun v _=>xs.length-(intOf v).toNat) ?_ ?_
 ·exact ⟨0,_,Xs _,rfl,Dg.gh Xj _,by simp,by simp [qT,bB],hh⟩
 ·clear hh;rintro ρ' v w' ⟨i,L,hi,rfl,hLd,hLl,hLv,hh⟩;by_cases hlt:i<xs.length
  ·obtain ⟨m,hm⟩:=ak (l:=xs) (k:=i) Xj;have hm2:=ew hm;have hmw:=hxd.at_ hm;have hpl:(L.take i).length=i:=by rw [XP];omega
   have hsl:(L.drop i).length=xs.length+ys.length+1-i:=by rw [Yz];omega
   refine sr ?_;refine dR ?_;refine fT ?_;refine bU aM.out rfl (hh.eH (i:=2) rfl (by first|assumption|(simp only [XK];assumption))) Xk ?_;refine aI (aI (aa (al (mL (mI ?_)))));refine En (l:=i) bh.out aM.size rfl rfl Xj Xj Xj Xj Xk ?_;refine mL (mI ?_);have hc:=AV (c':=xs.length+ys.length+1-i) (ny:=ys.length) (cy:=c13) (m:=m) (Y:=some ⟨A13,0,none⟩) (L.take i) (L.drop i) [] ys _ (by rw [XZ,Yg];exact hh) (fun w1 cs h=>h.aC (i:=1) rfl) (hLd.drop i) hyd hmw Xj Xj;rw [hpl,hsl,XZ] at hc;rw [XJ,XK];refine aF (hc) ar.out rfl Xk ?_;rintro e_ w_ ⟨rfl,hh⟩;refine ⟨_,rfl, ?_⟩;have hlt1:=iI (hxd.take (i+1));have hlt2:=iI hyd;rw [XP,Ys Xj] at hlt1;have hsn:=fu (B:=18446744073709551616) hm;have hsplit:=jm (B:=18446744073709551616) L i Xj;have hnew:18446744073709551616^i*(bB 18446744073709551616 (L.drop i)+bB 18446744073709551616 ys*m+0)+bB 18446744073709551616 (L.take i)=bB 18446744073709551616 (xs.take (i+1))*bB 18446744073709551616 ys:=by
    rw [hsn,Zc,←hLv,hsplit,YX,Yl,Yp,XY m];omega
   have hbd:bB 18446744073709551616 (L.drop i)+bB 18446744073709551616 ys*m+0<18446744073709551616^(L.drop i).length:=by
    refine Nat.lt_of_mul_lt_mul_left (a:=18446744073709551616^i) ?_;rw [←XS,hsl];refine Yv (Nat.le_add_right _ (bB 18446744073709551616 (L.take i))) ?_;rw [hnew];refine Yt (Nat.mul_lt_mul'' hlt1 hlt2) ?_;rw [←XS];exact Yf Xk Xj
   have hdp:=yp (B:=18446744073709551616) Xj _ _ _ _ hbd;refine fp ?_;refine bk (mI (aA (ai ?_)));refine ⟨⟨i+1,L.take i++im 18446744073709551616 (L.drop i) ys m 0,Xj,rfl,(hLd.take i).append (CM Xj _ _ _ _),by rw [Xy,pS,hpl,hsl];omega, ?_,hh⟩,by show xs.length-(i+1)<xs.length-i;omega, ?_⟩
   ·rw [eO,hdp,hpl,Zh];exact hnew
   exact Xm
  ·obtain rfl:i=xs.length:=Xj;rw [Z2,hX,hY] at hLv;refine sr ?_;refine oI ?_;refine bA hh (ir _ _ _ L _ (hh.aC (i:=0) rfl) hLd (Xr _) Xj) rfl ?_;intro w36 hh;rw [hLv];exact HK
theorem Nv {d r:Nat} (hd:d≠0) (hdw:d<18446744073709551616) (hn:n=18446744073709551616^k*(d+18446744073709551616*r)):tz n=64*k+tz d:=by
 obtain ⟨m,hm⟩:=tj hd;have ht:tz d<64:=xl hd (by simpa using hdw);have hW:(18446744073709551616:Nat)=2^64:=by decide
 generalize tz d=t at*;have e:n=2^(64*k+t)*(2*(m+2^(63-t)*r)+1):=by
  rw [hn,XS,Yi,←hW,Yp];congr 1;have h1:18446744073709551616=2^t*(2*2^(63-t)):=by rw [hW,←Nat.pow_succ',←XS];congr 1;omega
  have h2:18446744073709551616*r=2^t*(2*2^(63-t)*r):=by rw [←Yp,←h1]
  rw [h2]
  conv=>lhs;rw [hm]
  rw [←Yl];congr 1;rw [Yl,Yp];omega
 rw [e,F3]
theorem kd (a:ByteArray) (w:World) (ha:a.size≤1000000000) (hT:dN w):
  Calls Tryz.prog 118 #[.string a] w fun e w'=>e=.returned (.int .i64 (tz (bN a)))∧Below w.heap.size w w':=by
 have hh:=Hp.start w;have h1:=gg a;refine aj (N:=21) (l:=[.string a]) Tryz.func118 rfl rfl (by simp) ?_;refine sr (aI (aa (ah (sr (mS ?_)))));refine sZ ?_;rintro e_ w6 ⟨A6,c6,rfl,hown_,hb_⟩;refine ⟨_,rfl, ?_⟩;replace hh:=hh.aX (x:=.row _ _ _ _ _ _) hb_ hown_;have hxd:=jr (bN a);have hX:=gB (bN a);generalize aZ 18446744073709551616 (bN a)=xs at*;refine aH (mI (aa (ao ?_)));refine aR [2,3,4,8,9,10,11,12,13,14,15,16,17,18,19,20] 8
  (fun v w'=>∃(i:Nat),i≤xs.length∧v=.int .i64 i∧bB 18446744073709551616 (xs.take i)=0∧Hp w [.row (some ⟨A6,0,none⟩) xs.length c6 151 1 (dk xs)] w')
  (fun v _=>xs.length-(intOf v).toNat) ?_ ?_
 ·exact ⟨0,Xs _,rfl,rfl,hh⟩
 ·clear hh;rintro ρ' v w' ⟨i,hi,rfl,hz,hh⟩;by_cases hlt:i<xs.length
  ·obtain ⟨d,hm⟩:=ak (l:=xs) (k:=i) Xj;have hm2:=ew hm;have hmw:=hxd.at_ hm;by_cases h0:d=0
   ·subst h0;refine sr ?_;refine dR ?_;refine fT ?_;refine jw ?_;refine aI (aI (aa (sr (mI ?_))));refine cJ (aa (cF (aq (bz (ai (al ?_))))));refine bk (mI (aA (ai ?_)));refine ⟨⟨i+1,Xj,rfl,by rw [fu hm,hz];simp,hh⟩,by show xs.length-(i+1)<xs.length-i;omega, ?_⟩;exact dV
   ·have htz:tz (bN a)=64*i+tz d:=by
     have h3:=jm (B:=18446744073709551616) xs i Xj;have h4:=(XE.1 hm);rw [hz,YH hlt,h4.2,bB,hX,XJ] at h3;exact Nv h0 hmw h3
    have ht:tz d<64:=xl h0 (by simpa using hmw);refine sr ?_;refine dR ?_;refine fT ?_;refine jw ?_;refine aI (aI (aa (sr (mI ?_))));refine cJ (aa (cT (sr (mI ?_))));refine mulC (mI ?_);refine bA hh (DU _ _ hmw h0 (hT.hp hh)) rfl ?_;intro w18 hh;refine bk (aI (aa (aw (cf (aK (aK (cf (aK ?_))))))));refine df ?_;refine ⟨?_,hh.below⟩;congr 2;omega
  ·refine sr ?_;refine EK ?_;refine df ?_;rw [Xz Xj,hX] at hz;rw [hz];exact ⟨rfl,hh.below⟩
theorem NV {x y:Nat} (hx:x<18446744073709551616^k) (hy:y<18446744073709551616^k):bB 18446744073709551616 (im 18446744073709551616 (aZ 18446744073709551616 x++List.replicate (k+1-(aZ 18446744073709551616 x).length) 0) (aZ 18446744073709551616 y) 1 0)=x+y:=by
 have hl:=iz (B:=18446744073709551616) Xj hx;have h1:bB 18446744073709551616 (aZ 18446744073709551616 x++List.replicate (k+1-(aZ 18446744073709551616 x).length) 0)=x:=by rw [eO,qT,gB];simp
 have h2:(aZ 18446744073709551616 x++List.replicate (k+1-(aZ 18446744073709551616 x).length) 0).length=k+1:=by rw [Xy,YP];omega
 rw [yp Xj,h1,gB]
 ·omega
 ·rw [h1,h2,gB,Yj];have:0<18446744073709551616^k:=X7 Xk;omega
theorem rj (l:List Nat) (x:Nat):(l++[x]).sum=l.sum+x:=by simp
theorem z6 (L:Option Addr) (n c:Nat) (ss:List ByteArray) (w:World) (hS:Sl w L n 1 (lV ss)) (hn:n≤1000000) (hs:∀s∈ss,s.size≤1000000000):
  Calls Tryz.prog 190 #[.slice L n c] w fun e w'=>e=.returned (.string (sN (ss.map bN).sum))∧Below w.heap.size w w':=by
 have hsl:ss.length=n:=by have:=hS.1;rw [rT] at this;omega
 have hh:=Hp.start w;refine aj (N:=31) (l:=[.slice L n c]) Tryz.func190 rfl rfl (by simp) ?_;refine sr (aS (aa (sr (aL (aa (ah (sr (mL (aH (mI (aa (ao ?_))))))))))));replace hh:=hh.cU 151 1;refine bK [3,5,6,9,10,11,12,13,14,15,16,17,18,19,20,21,22,23,24,25,26,27,28] 3 9
  (fun v j w'=>∃(i:Nat) (A:Option Addr) (c' T:Nat),i≤n∧j=.int .i64 i∧T=((ss.take i).map bN).sum∧v=.slice A (aZ 18446744073709551616 T).length c'∧(aZ 18446744073709551616 T).length≤125000001+i∧Hp w [.row A (aZ 18446744073709551616 T).length c' 151 1 (dk (aZ 18446744073709551616 T))] w')
  (fun _ j _=>n-(intOf j).toNat) ?_ ?_
 ·exact ⟨0,none,0,0,Xs _,rfl,rfl,by rw [gu Xj];rfl,by rw [gu Xj];simp,by rw [gu Xj];exact hh⟩
 ·clear hh;rintro ρ' v j w' ⟨i,A,c',T,hi,rfl,hT,rfl,hTl,hh⟩;by_cases hlt:i<n
  ·obtain ⟨s,hsi⟩:=ak (l:=ss) (k:=i) Xj;obtain ⟨ad,rfl,hr⟩:=hS.at_ Xj;have hs2:=F7 hsi;have hsz:=hs s (Xt hsi);have hlx:=gg s;have hT2:((ss.take (i+1)).map bN).sum=T+bN s:=by rw [az hsi,Yc,ZX,rj,hT]
   have e1:(if ((aZ 18446744073709551616 (bN s)).length:Int)>((aZ 18446744073709551616 T).length:Int) then ((aZ 18446744073709551616 (bN s)).length:Int) else ((aZ 18446744073709551616 T).length:Int))+1=((max (aZ 18446744073709551616 T).length (aZ 18446744073709551616 (bN s)).length+1:Nat):Int):=by split<;>omega
   have hb1:T<18446744073709551616^max (aZ 18446744073709551616 T).length (aZ 18446744073709551616 (bN s)).length:=Yt (p6 Xj T) (Yf Xk (Nat.le_max_left _ _));have hb2:bN s<18446744073709551616^max (aZ 18446744073709551616 T).length (aZ 18446744073709551616 (bN s)).length:=Yt (p6 Xj (bN s)) (Yf Xk (Nat.le_max_right _ _));have hadd:=NV hb1 hb2;refine sr ?_;refine dT ?_;refine cE bh.out aM.size rfl rfl rfl Xj Xk ?_;refine jG ?_;refine aS (aa (sr (mS ?_)));refine aF (ph s _ hsz) ar.out rfl Xk ?_;rintro e_ w14 ⟨A14,c14,rfl,hown_,hb_⟩;refine ⟨_,rfl, ?_⟩;replace hh:=hh.aX (x:=.row _ _ _ _ _ _) hb_ hown_;refine aL (aa (sr (mL (mL (aH (mL (aH ?_)))))));refine lz rfl rfl Xk ?_;refine bk ?_;rw [e1];generalize hM:max (aZ 18446744073709551616 T).length (aZ 18446744073709551616 (bN s)).length=M at*;refine aF (oa _ _ _ (M+1) _ _ (hh.aC (i:=1) rfl) Xj Xj) ar.out rfl Xk ?_;rintro e_ w_ ⟨b22,rfl,hown_,hb_⟩;refine ⟨_,rfl, ?_⟩;replace hh:=hh.aX (x:=.row _ _ _ _ _ _) hb_ hown_;have e2:max (M+1) (aZ 18446744073709551616 T).length=M+1:=Xj;rw [e2] at hh;rw [e2]
   refine aL (aa (sr (mL (mL ?_))));have hc:=Dw (c':=M+1) (ny:=(aZ 18446744073709551616 (bN s)).length) (cy:=c14) (Y:=some ⟨A14,0,none⟩) [] (aZ 18446744073709551616 T++List.replicate (M+1-(aZ 18446744073709551616 T).length) 0) [] (aZ 18446744073709551616 (bN s)) _ (by rw [XZ,Xu];exact hh) (fun w1 cs h=>h.aC (i:=1) rfl) ((jr _).append (Dg.gh Xj _)) (jr _) (by rw [Xy,YP];omega) Xj;have e3:(aZ 18446744073709551616 T++List.replicate (M+1-(aZ 18446744073709551616 T).length) 0).length=M+1:=by rw [Xy,YP];omega
   rw [e3,XZ,Xu] at hc;refine aF (hc) ar.out rfl Xk ?_;rintro e_ w_ ⟨rfl,hh⟩;refine ⟨_,rfl, ?_⟩;have hpl:(im 18446744073709551616 (aZ 18446744073709551616 T++List.replicate (M+1-(aZ 18446744073709551616 T).length) 0) (aZ 18446744073709551616 (bN s)) 1 0).length=M+1:=by rw [pS,e3]
   have hpd:=CM (B:=18446744073709551616) Xj (aZ 18446744073709551616 T++List.replicate (M+1-(aZ 18446744073709551616 T).length) 0) (aZ 18446744073709551616 (bN s)) 1 0;generalize im 18446744073709551616 (aZ 18446744073709551616 T++List.replicate (M+1-(aZ 18446744073709551616 T).length) 0) (aZ 18446744073709551616 (bN s)) 1 0=Z at*;have hcz:dX Z=aZ 18446744073709551616 (T+bN s):=by rw [ie Xj hpd,hadd]
   have hcl:=fg Z;refine aa (al (mL ?_));refine bA hh (ix _ _ _ Z _ (hh.aC (i:=0) rfl) (Xr _) Xj) rfl ?_;intro w27 hh;replace hh:=(hh.FN hpl).sub (ZJ [_] _);rw [hcz] at*;refine kM ?_;refine bk (mI (aA (ai ?_)));refine ⟨⟨i+1,_,_,T+bN s,Xj,rfl,hT2.symm,rfl,Xj,hh⟩,by show n-(i+1)<n-i;omega, ?_⟩;exact dV
  ·refine sr ?_;refine oI ?_;refine bA hh (ir _ _ _ (aZ 18446744073709551616 T) _ (hh.aC (i:=0) rfl) (jr _) (hh.fM (i:=0) rfl) Xj) rfl ?_;intro w30 hh;rw [gB];exact Qk
theorem D3 (s:ByteArray) (l h:Nat):s.extract l h=str ((s.data.toList.take h).drop l):=by
 apply uR;rw [dH];simp [ByteArray.extract,ByteArray.copySlice,List.drop_take]
def Su:Value→Nat
 |.string t=>t.size
 |_=>0
theorem uf (s:ByteArray) (w:World):
  Calls Tryz.prog 218 #[.string s,.int .u8 ((0:UInt8).toNat:Int)] w fun e w'=>e=.returned (.string (sN (bN s)))∧Below w.heap.size w w':=by
 have hh:=Hp.start w;refine aj (N:=17) (l:=[.string s,.int .u8 ((0:UInt8).toNat:Int)]) Tryz.func218 rfl rfl (by simp) ?_;refine sr (aS (aa (ah (ao ?_))));refine aR [0,5,6,7,8,9,10,11,12,13,14,15] 0
  (fun v w'=>∃l:List UInt8,v=.string (str l)∧l.length≤s.size∧bn l=bN s∧w'=w)
  (fun v _=>Su v) ?_ ?_
 ·exact ⟨s.data.toList,by rw [Si];rfl,by rw [dQ];exact Xr _,rfl,rfl⟩
 ·rintro ρ' v w' ⟨l,rfl,hl,hb,rfl⟩;have hsz:=lf l
  cases l with
  |nil=>
   refine ah (sr (mS ?_));refine bO bh.out rfl Xk ?_;refine cj (mB ?_);refine gS (gS (gS (gS ?_)));refine ez ?_;refine aa (cF (a6 (aE (aE (bq (ai (sr (mS (aS (aa (aw ?_)))))))))));refine df ?_;rw [sN,←hb];exact ⟨rfl,hh.below⟩
  |cons c l=>
   have hc0:(str (c::l)).data.toList[(0:Int).toNat]?=some c:=by rw [dH];rfl
   have hc8:=c.toNat_lt;have hlen:(str (c::l)).size=l.length+1:=by rw [hsz];rfl
   have hz:(0:UInt8).toNat=0:=rfl;by_cases h0:c=0
   ·subst h0;refine ah (sr (mS ?_));refine bO bh.out rfl Xk ?_;refine cj (mB (gT (mS (gT ?_))));refine j7 ?_;refine gT (mI (gT ?_));refine cR ?_;refine eR ?_;refine aa (cT (aq (ai (ao (al (mS ?_))))));refine sK (l:=1) (h:=(str ((0:UInt8)::l)).size) bh.out rfl ⟨_,_,rfl,Xj⟩ rfl Xj Xj Xk ?_;refine aS (aA (bz (ai ?_)));rw [D3,dH,Xz (by rw [hlen];simp),List.drop_succ_cons,List.drop_zero];refine ⟨⟨l,rfl,by simp at hl;omega,by rw [←hb,Kw],rfl⟩, ?_, ?_⟩
    ·show (str l).size<(str (0::l)).size;rw [hlen,lf];omega
    exact Xm
   ·have hcn:c.toNat≠0:=fun h=>h0 (aar.1 h);refine ah (sr (mS ?_));refine bO bh.out rfl Xk ?_;refine cj (mB (gT (mS (gT ?_))));refine j7 ?_;refine gT (mI (gT ?_));refine cR ?_;refine eR ?_;refine aa (cF (a6 (aE (aE (bq (ai (sr (mS (aS (aa (aw ?_)))))))))));refine df ?_;rw [sN,←hb,T1 (by simpa using h0)];exact ⟨rfl,hh.below⟩
theorem vY (s:ByteArray) (w:World):
  Calls Tryz.prog 199 #[.string s,.string (ByteArray.mk #[0])] w fun e w'=>e=.returned (.string (sN (bN s)))∧Below w.heap.size w w':=by
 have hh:=Hp.start w;have hne:¬ByteArray.mk #[(0:UInt8)]=ByteArray.mk #[]:=by intro h;injection h with h;simp at h
 have hsz1:(ByteArray.mk #[(0:UInt8)]).size=1:=rfl;have hc0:(ByteArray.mk #[(0:UInt8)]).data.toList[(0:Int).toNat]?=some 0:=rfl;have hz:(0:UInt8).toNat=0:=rfl;by_cases h0:s=ByteArray.mk #[]
 ·subst h0;refine aj (N:=37) (l:=[.string (ByteArray.mk #[]),.string (ByteArray.mk #[0])]) Tryz.func199 rfl rfl (by simp) ?_;refine sr (aS (aa (ah (sr (mS ?_)))));refine kD rfl rfl (by first|rfl|assumption|decide) Xk ?_;refine mB ?_;refine gS (gS ?_);refine eR ?_;refine aa (cT (sr (mS (aS (aa (aw (aK ?_)))))));refine df ?_;rw [show bN (ByteArray.mk #[])=0 from rfl,np];exact ⟨rfl,hh.below⟩
 ·refine aj (N:=37) (l:=[.string s,.string (ByteArray.mk #[0])]) Tryz.func199 rfl rfl (by simp) ?_;refine sr (aS (aa (ah (sr (mS ?_)))));refine kB rfl rfl (by first|assumption|decide) Xk ?_;refine mB (gT (mS (gT ?_)))
  (first|refine kD rfl rfl (by first|rfl|assumption|decide) Xk ?_|refine kB rfl rfl (by first|assumption|decide) Xk ?_)
  refine ez ?_;refine aa (cF (aq (ai (ah (sr (mS ?_))))));refine bO bh.out rfl Xk ?_;refine cR (mB (gT (mS (gT ?_))));refine j7 ?_;refine gT ?_;refine bf ?_;refine eR ?_;refine aa (cT (sr (mS (mS ?_))));refine j7 ?_;refine bA hh (uf s _) rfl ?_;intro w25 hh;refine aS (aa (aw (aK ?_)));refine df ?_;exact ⟨rfl,hh.below⟩
theorem k4 (s:ByteArray) (w:World):
  Calls Tryz.prog 168 #[.string s] w fun e w'=>e=.returned (.string (sN (bN s)))∧Below w.heap.size w w':=by
 have hh:=Hp.start w;refine aj (N:=5) (l:=[.string s]) Tryz.func168 rfl rfl (by simp) ?_;refine sr (aS (aa (sr (mS ?_))));refine bA hh (vY s _) rfl ?_;intro w4 hh;exact HK
variable {z:Int}
def iv (s:Bool) (m:ByteArray):Int:=if s then -(bN m:Int) else bN m
def iN (z:Int):Bool:=decide (z<0)
def iM (z:Int):ByteArray:=sN z.natAbs
theorem fh (z:Int):iv (iN z) (iM z)=z:=by
 unfold iv iN iM;rw [eU];by_cases h:z<0
 ·rw [XH h,Xo rfl];omega
 ·rw [XM h,Xp (by simp)];omega
theorem tM:iM z=ByteArray.mk #[]↔z=0:=by
 rw [iM,←np];constructor
 ·intro h;have:=Lx h;omega
 ·intro h;rw [h];rfl
theorem kg (s:Bool) (m:ByteArray):(iv s m).natAbs=bN m:=by
 unfold iv;split<;>omega
theorem ER (s:Bool) (m:ByteArray):iM (iv s m)=sN (bN m):=by rw [iM,kg]
theorem Qw (s:Bool) (m:ByteArray):iN (iv s m)=(s && decide (bN m≠0)):=by
 unfold iN iv;rw [Bool.eq_iff_iff,XF,XN,XN]
 cases s
 ·simp only [aab,if_false,false_and,iff_false];omega
 ·simp only [if_true,true_and];omega
theorem jZ (s:Bool) (m:ByteArray) (w:World):
  Calls Tryz.prog 155 #[.agg #[.bool s,.string m]] w fun e w'=>e=.returned (.agg #[.string m,.bool s])∧Below w.heap.size w w':=by
 have hh:=Hp.start w;refine aj (N:=8) (l:=[.agg #[.bool s,.string m]]) Tryz.func155 rfl rfl (by simp) ?_;refine sr ?_;refine cv hh [_,_] ?_;intro b1 w1 hh;refine bP hh ?_;intro b2 w2 hh;refine aa (sr (bH ?_));refine bE hh 1 ?_;refine bH ?_;refine bE hh 1 ?_;refine fP [_,_] ?_;exact BM
theorem dz (s:Bool) (m:ByteArray) (w:World):
  Calls Tryz.prog 121 #[.agg #[.string m,.bool s]] w fun e w'=>e=.returned (.agg #[.bool (iN (iv s m)),.string (iM (iv s m))])∧Below w.heap.size w w':=by
 have hh:=Hp.start w;rw [Qw,ER]
 cases s with
 |false=>
  refine aj (N:=15) (l:=[.agg #[.string m,.bool false]]) Tryz.func121 rfl rfl (by simp) ?_;refine sr ?_;refine cv hh [_,_] ?_;intro b1 w1 hh;refine bP hh ?_;intro b2 w2 hh;refine aa (sr (bH ?_));refine bE hh 1 ?_;refine bA hh (k4 m _) rfl ?_;intro w6 hh;refine aS (aa (sr (bH ?_)));refine bE hh 1 ?_;refine mB ?_;refine gS (gS ?_);refine ez ?_;refine mS ?_;refine fP [_,_] ?_;exact BM
 |true=>
  by_cases h0:sN (bN m)=ByteArray.mk #[]
  ·refine aj (N:=15) (l:=[.agg #[.string m,.bool true]]) Tryz.func121 rfl rfl (by simp) ?_;refine sr ?_;refine cv hh [_,_] ?_;intro b1 w1 hh;refine bP hh ?_;intro b2 w2 hh;refine aa (sr (bH ?_));refine bE hh 1 ?_;refine bA hh (k4 m _) rfl ?_;intro w6 hh;refine aS (aa (sr (bH ?_)));refine bE hh 1 ?_;refine mB (gT (mS (gT ?_)))
   (first|refine kF rfl rfl (by first|rfl|assumption|decide) Xk ?_|refine kE rfl rfl (by first|assumption|decide) Xk ?_)
   refine eR ?_;refine mS ?_;refine fP [_,_] ?_;refine bR hh 0 [_,_] ?_;intro ws hh;replace hh:Hp _ (.blk _ _ [_,_] _::_) _:=hh;refine aa (aw ?_);refine pP ?_;exact Ql
  ·refine aj (N:=15) (l:=[.agg #[.string m,.bool true]]) Tryz.func121 rfl rfl (by simp) ?_;refine sr ?_;refine cv hh [_,_] ?_;intro b1 w1 hh;refine bP hh ?_;intro b2 w2 hh;refine aa (sr (bH ?_));refine bE hh 1 ?_;refine bA hh (k4 m _) rfl ?_;intro w6 hh;refine aS (aa (sr (bH ?_)));refine bE hh 1 ?_;refine mB (gT (mS (gT ?_)))
   (first|refine kF rfl rfl (by first|rfl|assumption|decide) Xk ?_|refine kE rfl rfl (by first|assumption|decide) Xk ?_)
   refine eR ?_;refine mS ?_;refine fP [_,_] ?_;refine bR hh 0 [_,_] ?_;intro ws hh;replace hh:Hp _ (.blk _ _ [_,_] _::_) _:=hh;refine aa (aw ?_);refine pP ?_;exact QK
def Ww (s:Bool) (m:ByteArray):Value:=.agg #[.string m,.bool s]
theorem vJ (a b:ByteArray) (w:World) (ha:a.size≤1000000000) (hb:b.size≤1000000000):
  Calls Tryz.prog 191 #[.string a,.string b] w fun e w'=>e=.returned (.int .i64 (lE (bN a) (bN b)))∧Below w.heap.size w w':=by
 have hh:=Hp.start w;refine aj (N:=8) (l:=[.string a,.string b]) Tryz.func191 rfl rfl (by simp) ?_;refine sr (aI (aa (sr (mS (mS ?_)))));refine bA hh (zX a b _ ha hb) rfl ?_;intro w7 hh;exact Ag
theorem mZ (s:Bool) (m:ByteArray) (w:World):
  Calls Tryz.prog 160 #[.agg #[.bool s,.string m]] w fun e w'=>e=.returned (.agg #[.bool (iN (iv s m)),.string (iM (iv s m))])∧Below w.heap.size w w':=by
 have hh:=Hp.start w;refine aj (N:=6) (l:=[.agg #[.bool s,.string m]]) Tryz.func160 rfl rfl (by simp) ?_;refine sr ?_;refine cv hh [_,_] ?_;intro b1 w1 hh;refine bP hh ?_;intro b2 w2 hh;refine aa (sr ?_);refine cg hh 1 [_,_] ?_;refine bA hh (jZ s m _) rfl ?_;intro w4 hh;refine bA hh (dz s m _) rfl ?_;intro w5 hh;exact BM
theorem wb (s:Bool) (m:ByteArray) (w:World):
  Calls Tryz.prog 127 #[.agg #[.bool s,.string m]] w fun e w'=>e=.returned (.agg #[.bool (iN (-(iv s m))),.string (iM (-(iv s m)))])∧Below w.heap.size w w':=by
 have hh:=Hp.start w;have e1:iv (!s) m= -(iv s m):=by unfold iv;cases s<;>simp
 refine aj (N:=10) (l:=[.agg #[.bool s,.string m]]) Tryz.func127 rfl rfl (by simp) ?_;refine sr ?_;refine cv hh [_,_] ?_;intro b1 w1 hh;refine bP hh ?_;intro b2 w2 hh;refine aa (sr (bH ?_));refine bE hh 1 ?_;refine bH ?_;refine bE hh 1 ?_;refine fi ?_;refine fP [_,_] ?_;refine bA hh (dz (!s) m _) rfl ?_;intro w9 hh;rw [e1];exact BM
theorem kP (s:Bool) (m:ByteArray) (w:World):
  Calls Tryz.prog 117 #[.agg #[.bool s,.string m]] w fun e w'=>e=.returned (.int .i64 (iv s m).sign)∧Below w.heap.size w w':=by
 have hh:=Hp.start w;by_cases h1:iv s m<0
 ·have hn:iN (iv s m)=true:=XH h1;refine LV ?_;refine sr ?_;refine cv hh [_,_] ?_;intro b1 w1 hh;refine aI (aa (sr ?_));refine cg hh 0 [_,_] ?_;refine bA hh (mZ s m _) rfl ?_;intro w5 hh;rw [hn];refine bP hh ?_;intro b3 w3 hh;refine bR hh 0 [_,_] ?_;intro ws hh;replace hh:Hp _ (.blk _ _ [_,_] _::_) _:=hh;refine aa (ah (ao (sr (bH ?_))));refine bE hh 0 ?_;refine FH ?_;refine df ?_;exact ⟨by rw [YV h1],hh.below⟩
 ·have hn:iN (iv s m)=false:=XM h1;by_cases h0:iM (iv s m)=ByteArray.mk #[]
  ·refine LV ?_;refine sr ?_;refine cv hh [_,_] ?_;intro b1 w1 hh;refine aI (aa (sr ?_));refine cg hh 0 [_,_] ?_;refine bA hh (mZ s m _) rfl ?_;intro w5 hh;rw [hn];refine bP hh ?_;intro b3 w3 hh;refine bR hh 0 [_,_] ?_;intro ws hh;replace hh:Hp _ (.blk _ _ [_,_] _::_) _:=hh;refine aa (ah (ao (sr (bH ?_))));refine bE hh 0 ?_;refine aB (aa (cF (sr (bH ?_))));refine bE hh 0 ?_;refine kD rfl rfl (by first|rfl|assumption|decide) Xk ?_;refine FH ?_;refine df ?_;exact ⟨by rw [tM.1 h0];rfl,hh.below⟩
  ·have h2:0<iv s m:=by
    have:iv s m≠0:=fun h=>h0 (tM.2 h);omega
   refine LV ?_;refine sr ?_;refine cv hh [_,_] ?_;intro b1 w1 hh;refine aI (aa (sr ?_));refine cg hh 0 [_,_] ?_;refine bA hh (mZ s m _) rfl ?_;intro w5 hh;rw [hn];refine bP hh ?_;intro b3 w3 hh;refine bR hh 0 [_,_] ?_;intro ws hh;replace hh:Hp _ (.blk _ _ [_,_] _::_) _:=hh;refine aa (ah (ao (sr (bH ?_))));refine bE hh 0 ?_;refine aB (aa (cF (sr (bH ?_))));refine bE hh 0 ?_;refine kB rfl rfl (by first|assumption|decide) Xk ?_;refine aB (aa (cF (aq (bz (ai (sr (aI (aa (aw ?_)))))))));refine df ?_;exact ⟨by rw [YU h2],hh.below⟩
theorem ef (z:Int):(iM z).size=(bG z.natAbs+7)/8:=ma _
def xQ (s t:Bool) (a b:ByteArray):Bool:=if s=t then s else if bN a<bN b then t else s
theorem O2 (s t:Bool) (a b:ByteArray):iv (xQ s t a b) (iM (iv s a+iv t b))=iv s a+iv t b:=by
 unfold iM iv;rw [eU];unfold xQ
 cases s<;>cases t<;>simp<;>(try split)<;>(try simp)<;>omega
theorem AE (s t:Bool) (a b:ByteArray):iv (s !=t) (iM (iv s a*iv t b))=iv s a*iv t b:=by
 rw [iM,Zz,kg,kg];unfold iv;rw [eU]
 cases s<;>cases t<;>simp [Int.mul_neg,Int.neg_mul]
theorem BU (s t:Bool) (a b:ByteArray) (w:World) (ha:a.size≤1000000000) (hb:b.size≤1000000000):
  Calls Tryz.prog 158 #[.agg #[.string a,.bool s],.agg #[.string b,.bool t]] w fun e w'=>e=.returned (.agg #[.string (iM (iv s a+iv t b)),.bool (xQ s t a b)])∧Below w.heap.size w w':=by
 have hh:=Hp.start w;have hiv:∀(u:Bool) (n:Nat) (z:Int),(z=if u then -(n:Int) else n)→sN n=iM z:=by
  intro u n z hz;have h1:z.natAbs=n:=by rw [hz];split<;>omega
  rw [iM,h1]
 by_cases hst:s=t
 ·subst hst;have e1:=hiv s (bN a+bN b) (iv s a+iv s b) (by unfold iv;split<;>omega);refine aj (N:=41) (l:=[.agg #[.string a,.bool s],.agg #[.string b,.bool s]]) Tryz.func158 rfl rfl (by simp) ?_;refine sr ?_;refine cv hh [_,_] ?_;intro b2 w2 hh;refine cv hh [_,_] ?_;intro b3 w3 hh;refine bP hh ?_;intro b4 w4 hh;refine aa (ah (sr (bH ?_)));refine bE hh 2 ?_;refine bH ?_;refine bE hh 1 ?_;refine Fl bh.out rfl rfl (by first|rfl|assumption) Xk ?_;refine aa (cT (ah ?_));refine a0 8 [[(2,none)],[(12,some 0)],[(3,none)],[(14,some 2)],[(13,some 1),(15,some 3)],[(16,some 4)],[(2,none)],[(18,some 6)]] [(7,19),(6,18),(5,17),(4,16),(3,15),(2,14),(1,13),(0,12)] hh mixed Xl ?_;refine ej ?_;refine fN 2 ?_;refine ej ?_;refine fN 1 ?_;refine rD [_,_] ?_;refine aQ (i:=5) (Is (.string (sN (bN a+bN b)))) Is.ext ?_ ?_
  ·intro ρ1 w1 hj hR;obtain ⟨A16,c16,h16,s16⟩:=hR.1;exact aY rfl (aJ ar.out (av h16 aU)) (z6 A16 2 c16 [a,b] _ s16 Xj (by simp;omega)) (fun _ _ hq=>⟨_,hq.1,hq.2,rfl⟩)
  refine ej ?_;refine fN 2 ?_;refine aO ?_;intro f W hJ hV;have hb_2:=hJ.bl;obtain ⟨v19,v18,v17,v16,v15,v14,v13,v12,_⟩:=hV;obtain ⟨A16,c16,e16,f16⟩:Rows _ _ _ (f 4) W:=v16;replace hh:=hJ.hp;refine aW (bm (ae v19 (ae v18 (ae v17 (ae e16 (ae v15 (ae v14 (ae v13 (ae v12 aV))))))))) ?_;dsimp only [cd];clear e16 hJ;refine fP [_,_] ?_;refine bR hh 0 [_,_] ?_;intro ws hh;replace hh:Hp _ (.blk _ _ [_,_] _::_) _:=hh;refine aa (aw (aK ?_));refine pP ?_;rw [e1,xQ,Xo rfl];exact ⟨rfl,hh.below⟩
 ·by_cases hlt:bN a<bN b
  ·have e1:=hiv t (bN b-bN a) (iv s a+iv t b) (by unfold iv;cases s<;>cases t<;>simp at hst ⊢ <;>omega);refine aj (N:=41) (l:=[.agg #[.string a,.bool s],.agg #[.string b,.bool t]]) Tryz.func158 rfl rfl (by simp) ?_;refine sr ?_;refine cv hh [_,_] ?_;intro b2 w2 hh;refine cv hh [_,_] ?_;intro b3 w3 hh;refine bP hh ?_;intro b4 w4 hh;refine aa (ah (sr (bH ?_)));refine bE hh 2 ?_;refine bH ?_;refine bE hh 1 ?_;refine FP ?_;refine EM ?_;refine bE hh 2 ?_;refine bH ?_;refine bE hh 1 ?_;refine bA hh (vJ a b _ ha hb) rfl ?_;intro w25 hh;rw [l7 hlt];refine bf (aa (cT (al ?_)));refine cg hh 1 [_,_] ?_;refine cg hh 2 [_,_] ?_;refine bR hh 2 [_,_] ?_;intro ws hh;replace hh:Hp _ (_::_::.blk _ _ [_,_] _::_) _:=hh;refine bR hh 1 [_,_] ?_;intro ws hh;replace hh:Hp _ (_::.blk _ _ [_,_] _::_) _:=hh;refine aa (sr (bH ?_));refine bE hh 2 ?_;refine bH ?_;refine bE hh 1 ?_;refine bA hh (qG b a _ hb ha) rfl ?_;intro w34 hh;refine mT ?_;refine dn ?_;refine dn ?_;refine aS (aB (aa (sr (mS (bH ?_)))));refine bE hh 2 ?_;refine fP [_,_] ?_;refine bR hh 0 [_,_] ?_;intro ws hh;replace hh:Hp _ (.blk _ _ [_,_] _::_) _:=hh;refine aa (aw ?_);refine pP ?_
   rw [e1,xQ,Xp hst,Xo hlt];exact ⟨rfl,hh.below⟩
  ·have e1:=hiv s (bN a-bN b) (iv s a+iv t b) (by unfold iv;cases s<;>cases t<;>simp at hst ⊢ <;>omega);have hc:¬lE (bN a) (bN b)<0:=by unfold lE;split<;>(try split)<;>omega
   refine aj (N:=41) (l:=[.agg #[.string a,.bool s],.agg #[.string b,.bool t]]) Tryz.func158 rfl rfl (by simp) ?_;refine sr ?_;refine cv hh [_,_] ?_;intro b2 w2 hh;refine cv hh [_,_] ?_;intro b3 w3 hh;refine bP hh ?_;intro b4 w4 hh;refine aa (ah (sr (bH ?_)));refine bE hh 2 ?_;refine bH ?_;refine bE hh 1 ?_;refine FP ?_;refine EM ?_;refine bE hh 2 ?_;refine bH ?_;refine bE hh 1 ?_;refine bA hh (vJ a b _ ha hb) rfl ?_;intro w25 hh;refine bf (aa (cF (aq (ai (sr (bH ?_))))));refine bE hh 2 ?_;refine bH ?_;refine bE hh 1 ?_;refine bA hh (qG a b _ ha hb) rfl ?_;intro w34 hh;refine mT ?_;refine dn ?_;refine dn ?_;refine aS (aB (aa (sr (mS (bH ?_)))));refine bE hh 2 ?_;refine fP [_,_] ?_;refine bR hh 0 [_,_] ?_;intro ws hh;replace hh:Hp _ (.blk _ _ [_,_] _::_) _:=hh;refine aa (aw ?_);refine pP ?_;rw [e1,xQ,Xp hst,Xp hlt];exact ⟨rfl,hh.below⟩
theorem pU (s t:Bool) (a b:ByteArray) (w:World) (ha:a.size≤1000000000) (hb:b.size≤1000000000):
  Calls Tryz.prog 156 #[.agg #[.string a,.bool s],.agg #[.string b,.bool t]] w fun e w'=>e=.returned (.agg #[.string (iM (iv s a*iv t b)),.bool (s !=t)])∧Below w.heap.size w w':=by
 have hh:=Hp.start w;have e0:(iv s a*iv t b).natAbs=bN a*bN b:=by rw [Zz,kg,kg]
 have e1:iM (iv s a*iv t b)=sN (bN a*bN b):=by rw [iM,e0]
 refine aj (N:=16) (l:=[.agg #[.string a,.bool s],.agg #[.string b,.bool t]]) Tryz.func156 rfl rfl (by simp) ?_;refine sr ?_;refine cv hh [_,_] ?_;intro b2 w2 hh;refine cv hh [_,_] ?_;intro b3 w3 hh;refine bP hh ?_;intro b4 w4 hh;refine aa (ah ?_);refine a0 10 [[(2,none)],[(5,some 0)],[(3,none)],[(7,some 2)],[(6,some 1),(8,some 3)],[(2,none)],[(10,some 5)],[(3,none)],[(12,some 7)],[(11,some 6),(13,some 8)]] [(9,14),(8,13),(7,12),(6,11),(5,10),(4,9),(3,8),(2,7),(1,6),(0,5)] hh mixed Xl ?_;refine ej ?_;refine fN 2 ?_;refine ej ?_;refine fN 1 ?_;refine dC (fun _ hj=>yq a b _ ha hb) ?_;refine ej ?_;refine fN 2 ?_;refine ej ?_;refine fN 1 ?_;refine bj (i:=9) (fun ρ1 w1 hj hR=>pD bh.out (show ρ1 11=Value.bool _ from hR.1) (show ρ1 13=Value.bool _ from hR.2.1)) ?_;refine aO ?_;intro f W hJ hV;have hb_1:=hJ.bl;obtain ⟨v14,v13,v12,v11,v10,v9,v8,v7,v6,v5,_⟩:=hV;replace hh:=hJ.hp;refine Pw ?_;dsimp only [cd];clear hJ;refine fP [_,_] ?_;refine bR hh 0 [_,_] ?_;intro ws hh;replace hh:Hp _ (.blk _ _ [_,_] _::_) _:=hh;refine aa (aw ?_);refine pP ?_;rw [e1];exact ⟨rfl,hh.below⟩
theorem nH (n:Int) (w:World) (h1: -9223372036854775808≤n) (h2:n≤9223372036854775807):
  Calls Tryz.prog 69 #[.int .i64 n] w fun e w'=>e=.returned (.agg #[.bool (iN n),.string (iM n)])∧Below w.heap.size w w':=by
 have hh:=Hp.start w;by_cases h0:n<0
 ·have e1:iv true (sN n.natAbs)=n:=by unfold iv;rw [eU,Xo rfl];omega
  have hw:IntKind.u64.wrap n=((18446744073709551616-n.natAbs:Nat):Int):=by
   rw [show n=((18446744073709551616-n.natAbs:Nat):Int)+ -((18446744073709551616:Nat):Int) by omega];have:=UK.wrap_add (k:=.u64) (((18446744073709551616-n.natAbs:Nat):Int)+ -((18446744073709551616:Nat):Int));rw [←this,Int.neg_add_cancel_right,UK.pR Xj];omega
  have hn:(18446744073709551616-(18446744073709551616-n.natAbs)) % 18446744073709551616=n.natAbs:=Xj;refine aj (N:=16) (l:=[.int .i64 n]) Tryz.func69 rfl rfl (by simp) ?_;refine sr ?_;refine bP hh ?_;intro b2 w2 hh;refine aa (ah (sr (mI ?_)));refine bf (aa (cT (sr (mI ?_))));refine vw bh.out bh.out rfl Xk ?_;rw [hw];refine Lc rfl Xj Xk ?_;rw [hn];skip;refine bA hh (rP n.natAbs _ Xj) rfl ?_;intro w8 hh;refine fP [_,_] ?_;refine bA hh (dz true (sN n.natAbs) _) rfl ?_;intro w10 hh;rw [e1];exact GL
 ·obtain ⟨m,rfl⟩:=aaF (by omega:0≤n);have e1:iv false (sN m)=m:=by unfold iv;rw [eU];simp
  have hm:m<18446744073709551616:=Xj;refine aj (N:=16) (l:=[.int .i64 (m:Int)]) Tryz.func69 rfl rfl (by simp) ?_;refine sr ?_;refine bP hh ?_;intro b2 w2 hh;refine aa (ah (sr (mI ?_)));refine bf (aa (cF (aq (ai (sr (mI ?_))))));refine mm ?_;refine bA hh (rP m _ hm) rfl ?_;intro w13 hh;refine fP [_,_] ?_;refine bA hh (dz false (sN m) _) rfl ?_;intro w15 hh;rw [e1];exact BM
structure IR where
 neg:Bool
 bg:ByteArray
def IR.cells (a:IR):List Value:=[.bool a.neg,.string a.bg]
def IR.v (a:IR):Int:=iv a.neg a.bg
def iR (z:Int):IR:=⟨iN z,iM z⟩
theorem T0 (z:Int):(iR z).v=z:=fh z
theorem IR.len (a:IR):a.cells.length=2:=rfl
theorem ql (x y:Int):bG (x+y).natAbs≤max (bG x.natAbs) (bG y.natAbs)+1:=by
 apply dK;have h1:=dt x.natAbs;have h2:=dt y.natAbs;have h3:2^bG x.natAbs≤2^max (bG x.natAbs) (bG y.natAbs):=Yf Xj (Nat.le_max_left _ _);have h4:2^bG y.natAbs≤2^max (bG x.natAbs) (bG y.natAbs):=Yf Xj (Nat.le_max_right _ _);rw [Yj];omega
theorem kS (s:Bool) (m:ByteArray):bG (iv s m).natAbs≤8*m.size:=by rw [kg];exact gO m
theorem Iy (l:List Int) (x:Int):(l++[x]).sum=l.sum+x:=by simp
theorem vO (L:Option Addr) (n c:Nat) (l:List IR) (w:World) (hS:Sl w L n 2 (ay IR.cells l)) (hn:n≤1000000) (hs:∀s∈l,s.bg.size≤100000000):
  Calls Tryz.prog 113 #[.slice L n c] w fun e w'=>e=.returned (.agg #[.bool (iN (l.map IR.v).sum),.string (iM (l.map IR.v).sum)])∧Below w.heap.size w w':=by
 have hl:=hS.bp IR.len Xj;have hh:=Hp.start w;refine aj (N:=19) (l:=[.slice L n c]) Tryz.func113 rfl rfl (by simp) ?_;refine sr ?_;refine bP hh ?_;intro b2 w2 hh;refine aa (sr ?_);refine bP hh ?_;intro b3 w3 hh;refine yc ?_;refine aR [5,8,9,10,11,12,13,14,15,16] 8
  (fun j w'=>∃(i:Nat) (u:Bool) (S:Int),i≤n∧j=.int .i64 i∧S=((l.take i).map IR.v).sum∧iv u (iM S)=S∧bG S.natAbs≤800000000+i∧Hp w [.blk b3 153 [.string (iM S),.bool u] (0,0),.blk b2 38 [.bool false,.string (ByteArray.mk #[])] (0,0)] w')
  (fun j _=>n-(intOf j).toNat) ?_ ?_
 ·exact ⟨0,false,0,Xs _,rfl,rfl,by rw [iM];exact Yu _ (eU 0),by simp [lB],by rw [iM,Int.natAbs_zero,np];exact hh⟩
 ·clear hh;rintro ρ' j w' ⟨i,u,S,hi,rfl,hS2,hu,hb,hh⟩;by_cases hlt:i<n
  ·obtain ⟨x,hx⟩:=ak (l:=l) (k:=i) Xj;obtain ⟨ad,rfl,hr⟩:=hS.at_ Xj;have hxs:=hs x (Xt hx);have hS3:((l.take (i+1)).map IR.v).sum=S+x.v:=by rw [az hx,Yc,ZX,Iy,hS2]
   have hms:(iM S).size≤1000000000:=by rw [ef];omega
   have hbx:=kS x.neg x.bg;have hba:=ql S x.v;have hpl:=O2 u x.neg (iM S) x.bg;rw [hu] at hpl;have hwc:=fun w1=>BU u x.neg (iM S) x.bg w1 hms Xj;rw [hu] at hwc;refine sr ?_;refine dT ?_;refine cx ?_;refine cq (vs:=[_,_]) aM.out rfl (((hr.ext hh.below).recAt IR.len hx)) rfl Xk ?_;refine bP hh ?_;intro b5 w5 hh;refine bR hh 0 [_,_] ?_;intro ws hh;replace hh:Hp _ (.blk _ _ [_,_] _::_) _:=hh;refine aa ?_;refine a0 3 [[(3,none)],[(5,none)],[(13,some 1)]] [(2,14),(1,13),(0,12)] hh mixed Xl ?_;refine fG 1 [_,_] ?_;refine fG 0 [_,_] ?_;refine dC (fun _ hj=>jZ x.neg x.bg _) ?_;refine aO ?_;intro f W hJ hV;have hb_5:=hJ.bl;obtain ⟨v14,v13,v12,_⟩:=hV;replace hh:=hJ.hp;refine aW (bm (ae v14 (ae v13 (ae v12 aV)))) ?_;dsimp only [cd];clear hJ;refine bA hh (hwc _) rfl ?_;intro w15 hh;exact PJ
  ·refine sr ?_;refine ll ?_;refine cg hh 0 [_,_] ?_;refine bA hh (dz u (iM S) _) rfl ?_;intro w18 hh;exact TO
theorem sU (s:Bool) (b:ByteArray):(iM (-(iv s b))).size≤b.size:=by
 have:=kS s b;rw [ef,Int.natAbs_neg];omega
theorem uw (s t:Bool) (a b:ByteArray) (w:World) (ha:a.size≤100000000) (hb:b.size≤100000000):
  Calls Tryz.prog 166 #[.agg #[.bool s,.string a],.agg #[.bool t,.string b]] w fun e w'=>e=.returned (.agg #[.bool (iN (iv s a-iv t b)),.string (iM (iv s a-iv t b))])∧Below w.heap.size w w':=by
 have hh:=Hp.start w;have h1:=sU t b;have e1:([IR.mk s a,iR (-(iv t b))].map IR.v).sum=iv s a-iv t b:=by
  simp only [XQ,Ye,List.sum_cons,List.sum_nil,T0];simp only [IR.v];omega
 refine aj (N:=10) (l:=[.agg #[.bool s,.string a],.agg #[.bool t,.string b]]) Tryz.func166 rfl rfl (by simp) ?_;refine sr ?_;refine cv hh [_,_] ?_;intro b2 w2 hh;refine cv hh [_,_] ?_;intro b3 w3 hh;refine bP hh ?_;intro b4 w4 hh;refine aa (ah ?_);refine a0 3 [[(2,none)],[(3,none)],[(6,some 1)]] [(2,7),(1,6),(0,5)] hh mixed Xl ?_;refine fG 2 [_,_] ?_;refine fG 1 [_,_] ?_;refine dC (fun _ hj=>wb t b _) ?_;refine aO ?_;intro f W hJ hV;have hb_1:=hJ.bl;obtain ⟨v7,v6,v5,_⟩:=hV;replace hh:=hJ.hp;refine aW (bm (ae v7 (ae v6 (ae v5 aV)))) ?_;dsimp only [cd];clear hJ;refine EJ ?_;intro b8 w8 hh;refine bA hh (vO _ 2 _ [IR.mk s a,iR (-(iv t b))] _ (hh.aC (i:=0) rfl) Xj (by simp [iR];omega)) rfl ?_;intro w9 hh;rw [e1];exact LH
theorem DL (s t:Bool) (a b:ByteArray) (w:World) (ha:a.size≤100000000) (hb:b.size≤100000000):
  Calls Tryz.prog 171 #[.agg #[.bool s,.string a],.agg #[.bool t,.string b]] w fun e w'=>e=.returned (.int .i64 (iv s a-iv t b).sign)∧Below w.heap.size w w':=by
 have hh:=Hp.start w;refine aj (N:=9) (l:=[.agg #[.bool s,.string a],.agg #[.bool t,.string b]]) Tryz.func171 rfl rfl (by simp) ?_;refine sr ?_;refine cv hh [_,_] ?_;intro b2 w2 hh;refine cv hh [_,_] ?_;intro b3 w3 hh;refine aI (aa (sr ?_));refine cg hh 1 [_,_] ?_;refine cg hh 0 [_,_] ?_;refine bA hh (uw s t a b _ ha hb) rfl ?_;intro w7 hh;refine bA hh (kP _ _ _) rfl ?_;intro w8 hh;rw [fh];exact Ag
theorem KC (a b:Nat):bG (a*b)≤bG a+bG b:=by
 apply dK;rw [XS];exact Nat.mul_lt_mul'' (dt a) (dt b)
theorem lW (a b:Int):bG (a*b).natAbs≤bG a.natAbs+bG b.natAbs:=by rw [Zz];exact KC _ _
def mN:List Int→Int
 |[]=>1
 |x::l=>x*mN l
theorem CX (l:List Int) (x:Int):mN (l++[x])=mN l*x:=by
 induction l with
 |nil=>simp [mN]
 |cons y l ih=>simp only [Xw,mN,ih,Int.mul_assoc]
theorem CH (l:List Nat) (i:Nat):(l.take i).sum≤l.sum:=by
 rw [←List.sum_append_nat.symm.trans (Yu List.sum (Yg i l))];omega
theorem vf:bG 1=1:=by decide+kernel
theorem Dq (L:Option Addr) (n c:Nat) (l:List IR) (w:World) (hS:Sl w L n 2 (ay IR.cells l)) (hn:n≤1000000) (hs:(l.map fun a=>a.bg.size).sum≤100000000):
  Calls Tryz.prog 111 #[.slice L n c] w fun e w'=>e=.returned (.agg #[.bool (iN (mN (l.map IR.v))),.string (iM (mN (l.map IR.v)))])∧Below w.heap.size w w':=by
 have hl:=hS.bp IR.len Xj;have hh:=Hp.start w;have hsum:=CH (l.map fun a=>a.bg.size);refine aj (N:=21) (l:=[.slice L n c]) Tryz.func111 rfl rfl (by simp) ?_;refine sr ?_;refine bP hh ?_;intro b2 w2 hh;refine aa (sr ?_);refine bA hh (nH 1 _ Xj Xj) rfl ?_;intro w6 hh;refine bA hh (jZ _ _ _) rfl ?_;intro w7 hh;refine bP hh ?_;intro b3 w3 hh;refine bR hh 0 [_,_] ?_;intro ws hh;replace hh:Hp _ (.blk _ _ [_,_] _::_) _:=hh;refine yc ?_;refine aR [5,10,11,12,13,14,15,16,17,18] 10
  (fun j w'=>∃(i:Nat) (u:Bool) (S:Int),i≤n∧j=.int .i64 i∧S=mN ((l.take i).map IR.v)∧iv u (iM S)=S∧bG S.natAbs≤1+8*((l.map fun a=>a.bg.size).take i).sum∧Hp w [.blk b3 153 [.string (iM S),.bool u] (0,0),.blk b2 38 [.bool false,.string (ByteArray.mk #[])] (0,0)] w')
  (fun j _=>n-(intOf j).toNat) ?_ ?_
 ·exact ⟨0,_,1,Xs _,rfl,rfl,fh 1,by rw [Int.natAbs_one,vf];omega,hh⟩
 ·clear hh;rintro ρ' j w' ⟨i,u,S,hi,rfl,hS2,hu,hb,hh⟩;by_cases hlt:i<n
  ·obtain ⟨x,hx⟩:=ak (l:=l) (k:=i) Xj;obtain ⟨ad,rfl,hr⟩:=hS.at_ Xj;have hsi:=hsum i;have hsi2:=hsum (i+1);have hsz:((l.map fun a=>a.bg.size).take (i+1)).sum=((l.map fun a=>a.bg.size).take i).sum+x.bg.size:=by
    rw [az (x:=x.bg.size) (by rw [Xx,hx];rfl),rj]
   have hS3:mN ((l.take (i+1)).map IR.v)=S*x.v:=by rw [az hx,Yc,ZX,CX,hS2]
   have hms:(iM S).size≤1000000000:=by rw [ef];omega
   have hbx:=kS x.neg x.bg;have hba:=lW S x.v;have hpl:=AE u x.neg (iM S) x.bg;rw [hu] at hpl;have hwc:=fun w1=>pU u x.neg (iM S) x.bg w1 hms Xj;rw [hu] at hwc;refine sr ?_;refine dT ?_;refine cx ?_;refine cq (vs:=[_,_]) aM.out rfl (((hr.ext hh.below).recAt IR.len hx)) rfl Xk ?_;refine bP hh ?_;intro b5 w5 hh;refine bR hh 0 [_,_] ?_;intro ws hh;replace hh:Hp _ (.blk _ _ [_,_] _::_) _:=hh;refine aa ?_;refine a0 3 [[(3,none)],[(5,none)],[(15,some 1)]] [(2,16),(1,15),(0,14)] hh mixed Xl ?_;refine fG 1 [_,_] ?_;refine fG 0 [_,_] ?_;refine dC (fun _ hj=>jZ x.neg x.bg _) ?_;refine aO ?_;intro f W hJ hV;have hb_5:=hJ.bl;obtain ⟨v16,v15,v14,_⟩:=hV;replace hh:=hJ.hp;refine aW (bm (ae v16 (ae v15 (ae v14 aV)))) ?_;dsimp only [cd];clear hJ;refine bA hh (hwc _) rfl ?_;intro w17 hh;exact PJ
  ·refine sr ?_;refine ll ?_;refine cg hh 0 [_,_] ?_;refine bA hh (dz u (iM S) _) rfl ?_;intro w20 hh;exact TO
theorem Cy (M k:Nat) (h:2^k∣M): -((M/2^k:Nat):Int)= -(M:Int)/2^k:=by
 obtain ⟨q,rfl⟩:=h;have hp:(0:Int)<2^k:=Int.pow_pos Xj;rw [Nat.mul_div_cancel_left _ (X7 Xj),YB,←Int.mul_neg,aak];exact (Int.mul_ediv_cancel_left _ (by exact Int.ne_of_gt hp)).symm
theorem yR (M k:Nat) (h:¬2^k∣M): -((M/2^k:Nat):Int)-1= -(M:Int)/2^k:=by
 have hp:(0:Int)<2^k:=Int.pow_pos Xj;have h1:=Y8 M (2^k);have h2:=XW M (X7 (n:=k) (show 0<2 by omega));have h3:M % 2^k≠0:=fun h0=>h (Nat.dvd_of_mod_eq_zero h0);have hc:((2^k:Nat):Int)=2^k:=by simp
 symm
 rw [Int.ediv_eq_iff_of_pos hp,←hc];have h4:(M:Int)=(2^k:Nat)*(M/2^k:Nat)+(M % 2^k:Nat):=by rw [←YB,←Zm,h1]
 generalize hK:((2^k:Nat):Int)=K at*;generalize ((M/2^k:Nat):Int)=q at*;have e:(-q-1)*K= -(K*q)-K:=by rw [Int.sub_mul,Int.neg_mul,Int.mul_comm q];omega
 have e2:(-q-1+1)*K= -(K*q):=by rw [Int.sub_add_cancel,Int.neg_mul,Int.mul_comm]
 omega
theorem I5 {M:Nat} (h0:M≠0):2^k∣M↔k≤tz M:=by
 obtain ⟨m,hm⟩:=tj h0;generalize tz M=t at*;constructor
 ·intro h
  rcases Yb t k with hlt|hge
  ·exfalso;obtain ⟨q,hq⟩:=h;rw [hm,show k=t+(1+(k-t-1)) by omega,XS,XS,Yp] at hq;have:=Nat.eq_of_mul_eq_mul_left (X7 Xj) hq;rw [Nat.pow_one,Yp] at this;omega
  ·exact hge
 ·intro h;rw [hm];exact Nat.dvd_trans (Nat.pow_dvd_pow 2 h) (Nat.dvd_mul_right _ _)
theorem qh (a:Int) (n:Nat):bG (a^n).natAbs≤1+n*bG a.natAbs:=by
 induction n with
 |zero=>simp [vf]
 |succ n ih=>
  rw [Int.pow_succ];have:=lW (a^n) a;rw [Yw];omega
theorem DF (s:Bool) (a:ByteArray) (n:Int) (w:World) (h0:n.toNat*a.size≤100000000) (hn:n≤1000000000) (ha:a.size≤100000000):
  Calls Tryz.prog 135 #[.agg #[.bool s,.string a],.int .i64 n] w fun e w'=>e=.returned (.agg #[.bool (iN (iv s a^n.toNat)),.string (iM (iv s a^n.toNat))])∧Below w.heap.size w w':=by
 have hh:=Hp.start w;have e1:(if (0:Int)>n then 0 else n)=(n.toNat:Int):=by split<;>omega
 have hm:n.toNat≤1000000000:=Xj;generalize n.toNat=m at*;refine aj (N:=19) (l:=[.agg #[.bool s,.string a],.int .i64 n]) Tryz.func135 rfl rfl (by simp) ?_;refine sr ?_;refine cv hh [_,_] ?_;intro b2 w2 hh;refine bP hh ?_;intro b4 w4 hh;refine aa (sr ?_);refine bA hh (nH 1 _ Xj Xj) rfl ?_;intro w6 hh;refine bA hh (jZ _ _ _) rfl ?_;intro w7 hh;refine bP hh ?_;intro b5 w5 hh;refine bR hh 0 [_,_] ?_;intro ws hh;replace hh:Hp _ (.blk _ _ [_,_] _::_) _:=hh;refine aa (ah (sr (mI ?_)));refine lz rfl rfl Xk ?_;refine mI (aa (ao ?_));rw [e1];refine aR [10,11,12,13,14,15,16] 10
  (fun j w'=>∃(i:Nat) (u:Bool) (S:Int),i≤m∧j=.int .i64 i∧S=iv s a^i∧iv u (iM S)=S∧Hp w [.blk b5 153 [.string (iM S),.bool u] (0,0),.blk b4 38 [.bool false,.string (ByteArray.mk #[])] (0,0),.blk b2 38 [.bool s,.string a] (0,0)] w')
  (fun j _=>m-(intOf j).toNat) ?_ ?_
 ·exact ⟨0,_,1,Xs _,rfl,by rw [Int.pow_zero],fh 1,hh⟩
 ·clear hh;rintro ρ' j w' ⟨i,u,S,hi,rfl,hS2,hu,hh⟩;by_cases hlt:i<m
  ·have hb:=qh (iv s a) i;rw [←hS2] at hb;have hbx:=kS s a;have hle:i*bG (iv s a).natAbs≤m*(8*a.size):=YT hi hbx;rw [aaL] at hle;have hms:(iM S).size≤1000000000:=by rw [ef];omega
   have hpl:=AE u s (iM S) a;rw [hu] at hpl;have hwc:=fun w1=>pU u s (iM S) a w1 hms Xj;rw [hu] at hwc;refine sr ?_;refine bf (aa (ah (cT (aq (ai (ah (ao ?_)))))));refine a0 3 [[(5,none)],[(2,none)],[(13,some 1)]] [(2,14),(1,13),(0,12)] hh mixed Xl ?_;refine fG 0 [_,_] ?_;refine fG 2 [_,_] ?_;refine dC (fun _ hj=>jZ s a _) ?_;refine aO ?_;intro f W hJ hV;have hb_4:=hJ.bl;obtain ⟨v14,v13,v12,_⟩:=hV;replace hh:=hJ.hp;refine aW (bm (ae v14 (ae v13 (ae v12 aV)))) ?_;dsimp only [cd];clear hJ;refine bA hh (hwc _) rfl ?_;intro w15 hh;refine bR hh 0 [_,_] ?_;intro ws hh;replace hh:Hp _ (.blk _ _ [_,_] _::_) _:=hh;refine fp ?_;refine bk (mI (aA (ai ?_)));refine ⟨⟨i+1,_,_,Xj,rfl,by rw [Int.pow_succ,hS2],hpl,hh⟩,by show m-(i+1)<m-i;omega, ?_⟩;exact dV
  ·obtain rfl:i=m:=Xj;refine sr ?_;refine ll ?_;refine cg hh 0 [_,_] ?_;refine bA hh (dz u (iM S) _) rfl ?_;intro w18 hh;rw [hu,hS2];exact LH
theorem Ru (s:Bool) (a:ByteArray) (m:Nat):iv s (sN (bN a*2^m))=iv s a*2^m:=by
 unfold iv;rw [eU]
 cases s<;>simp [YB,Int.neg_mul]
theorem DY (s:Bool) (a:ByteArray) (m:Nat) (w:World) (ha:a.size≤100000000) (hm:m≤1000000000):
  Calls Tryz.prog 119 #[.agg #[.bool s,.string a],.int .i64 (m:Int)] w fun e w'=>e=.returned (.agg #[.bool (iN (iv s a*2^m)),.string (iM (iv s a*2^m))])∧Below w.heap.size w w':=by
 have hh:=Hp.start w;refine aj (N:=47) (l:=[.agg #[.bool s,.string a],.int .i64 (m:Int)]) Tryz.func119 rfl rfl (by simp) ?_;refine sr ?_;refine cv hh [_,_] ?_;intro b2 w2 hh;refine bP hh ?_;intro b4 w4 hh;refine aa (ah (sr (mI ?_)));refine dL (aa (cT (ah ?_)));refine a0 6 [[(2,none)],[(8,some 0)],[(1,none)],[(9,some 1),(10,some 2)],[(2,none)],[(12,some 4)]] [(5,13),(4,12),(3,11),(2,10),(1,9),(0,8)] hh mixed Xl ?_;refine ej ?_;refine fN 1 ?_;refine dJ ?_;refine dC (fun _ hj=>z9 a m _ Xj Xj) ?_;refine ej ?_;refine fN 1 ?_;refine aO ?_;intro f W hJ hV;have hb_2:=hJ.bl;obtain ⟨v13,v12,v11,v10,v9,v8,_⟩:=hV;replace hh:=hJ.hp;refine aW (bm (ae v13 (ae v12 (ae v11 (ae v10 (ae v9 (ae v8 aV))))))) ?_;dsimp only [cd];clear hJ;refine fP [_,_] ?_;refine bA hh (dz s (sN (bN a*2^m)) _) rfl ?_;intro w15 hh;rw [Ru];exact GL
theorem C9 (s:Bool) (a:ByteArray) (m:Nat) (w:World) (hT:dN w) (ha:a.size≤100000000) (h0:0<m) (hm:m≤1000000000000):
  Calls Tryz.prog 119 #[.agg #[.bool s,.string a],.int .i64 (-(m:Int))] w fun e w'=>e=.returned (.agg #[.bool (iN (iv s a/2^m)),.string (iM (iv s a/2^m))])∧Below w.heap.size w w':=by
 have hh:=Hp.start w;have e1:(if (-1099511627776:Int)> -(m:Int) then -1099511627776 else -(m:Int))= -(m:Int):=Xp Xj;have e2: -(-(m:Int))=(m:Int):=Xj;have hcs:∀w1,Calls Tryz.prog 164 #[.string a,.int .i64 (-(-(m:Int)))] w1 fun e w'=>e=.returned (.string (sN (bN a/2^m)))∧Below w1.heap.size w1 w':=fun w1=>by
  rw [e2];exact yz a m w1 Xj Xj
 cases s with
 |false=>
  have e3:iv false (sN (bN a/2^m))=iv false a/2^m:=by
   unfold iv;rw [eU];simp
  refine aj (N:=47) (l:=[.agg #[.bool false,.string a],.int .i64 (-(m:Int))]) Tryz.func119 rfl rfl (by simp) ?_;refine sr ?_;refine cv hh [_,_] ?_;intro b2 w2 hh;refine bP hh ?_;intro b4 w4 hh;refine aa (ah (sr (mI ?_)));refine dL (aa (cF (aq (ai (sr (mI ?_))))));refine lz rfl rfl Xk ?_;refine aI (aa (ah ?_));rw [e1];refine EP ?_;refine ej ?_;refine fN 1 ?_;refine dJ ?_;refine Fj ?_;refine dC (fun _ hj=>hcs _) ?_;refine ej ?_;refine fN 1 ?_;refine dB [_,_] ?_;refine dC (fun _ hj=>dz false (sN (bN a/2^m)) _) ?_;refine Gm ?_;refine aO ?_;intro f W hJ hV;have hb_4:=hJ.bl;obtain ⟨v5,v26,v25,v24,v23,v22,v21,v20,v19,v18,_⟩:=hV;obtain ⟨b5,e5,hl5,hc5⟩:dm _ _ _ (f 9) W:=v5;replace hh:=hJ.newVar hh hl5 hc5;refine E5 ?_;dsimp only [cd];clear e5 hJ;rw [e3];refine bR hh 0 [_,_] ?_;intro ws hh;replace hh:Hp _ (.blk _ _ [_,_] _::_) _:=hh;refine aa (ah (sr (bH ?_)));refine bE hh 2 ?_;refine mB ?_;refine gS (gS ?_);refine gy ?_;refine gS ?_;refine ez ?_;exact PS
 |true=>
  have hb:=gO a;have e4:iv true (sN (bN a/2^m))= -((bN a/2^m:Nat):Int):=by
   unfold iv;rw [eU,Xo rfl]
  have e5:iv true a= -(bN a:Int):=by unfold iv;rw [Xo rfl]
  by_cases hz:bN a=0
  ·have e3:iv true (sN (bN a/2^m))=iv true a/2^m:=by
    rw [e4,e5,hz];simp
   refine LG ?_;refine sr ?_;refine cv hh [_,_] ?_;intro b2 w2 hh;refine bP hh ?_;intro b4 w4 hh;refine aa (ah (sr (mI ?_)));refine dL (aa (cF (aq (ai (sr (mI ?_))))));refine lz rfl rfl Xk ?_;refine aI (aa (ah ?_));rw [e1];refine EP ?_;refine ej ?_;refine fN 1 ?_;refine dJ ?_;refine Fj ?_;refine dC (fun _ hj=>hcs _) ?_;refine ej ?_;refine fN 1 ?_;refine dB [_,_] ?_;refine dC (fun _ hj=>dz true (sN (bN a/2^m)) _) ?_;refine Gm ?_;refine aO ?_;intro f W hJ hV;have hb_4:=hJ.bl;obtain ⟨v5,v26,v25,v24,v23,v22,v21,v20,v19,v18,_⟩:=hV;obtain ⟨b5,e5,hl5,hc5⟩:dm _ _ _ (f 9) W:=v5;replace hh:=hJ.newVar hh hl5 hc5;refine E5 ?_;dsimp only [cd];clear e5 hJ;rw [e3];refine bR hh 0 [_,_] ?_;intro ws hh;replace hh:Hp _ (.blk _ _ [_,_] _::_) _:=hh;refine aa (ah (sr (bH ?_)));refine bE hh 2 ?_;refine mB (gT (bH (gT ?_)));refine bE hh 2 ?_;refine aD rfl rfl ?_;refine bA hh (mf a _ Xj) rfl ?_;intro w32 hh;rw [hz,lB];refine gT ?_;refine cj ?_;refine eR ?_;exact PS
  ·have hbp:=qi hz;by_cases hd:2^m∣bN a
   ·have e3:iv true (sN (bN a/2^m))=iv true a/2^m:=by
     rw [e4,e5];exact Cy _ _ hd
    have htz:=(I5 hz).1 hd;refine LG ?_;refine sr ?_;refine cv hh [_,_] ?_;intro b2 w2 hh;refine bP hh ?_;intro b4 w4 hh;refine aa (ah (sr (mI ?_)));refine dL (aa (cF (aq (ai (sr (mI ?_))))));refine lz rfl rfl Xk ?_;refine aI (aa (ah ?_));rw [e1];refine EP ?_;refine ej ?_;refine fN 1 ?_;refine dJ ?_;refine Fj ?_;refine dC (fun _ hj=>hcs _) ?_;refine ej ?_;refine fN 1 ?_;refine dB [_,_] ?_;refine dC (fun _ hj=>dz true (sN (bN a/2^m)) _) ?_;refine Gm ?_;refine aO ?_;intro f W hJ hV;have hb_4:=hJ.bl;obtain ⟨v5,v26,v25,v24,v23,v22,v21,v20,v19,v18,_⟩:=hV;obtain ⟨b5,e5,hl5,hc5⟩:dm _ _ _ (f 9) W:=v5;replace hh:=hJ.newVar hh hl5 hc5;refine E5 ?_;dsimp only [cd];clear e5 hJ;rw [e3];refine bR hh 0 [_,_] ?_;intro ws hh;replace hh:Hp _ (.blk _ _ [_,_] _::_) _:=hh;refine aa (ah (sr (bH ?_)));refine bE hh 2 ?_;refine mB (gT (bH (gT ?_)));refine bE hh 2 ?_;refine aD rfl rfl ?_;refine bA hh (mf a _ Xj) rfl ?_;intro w32 hh;refine gT ?_;refine cj ?_;refine eR ?_;refine mB (gT (bH (gT ?_)));refine bE hh 2 ?_;refine aD rfl rfl ?_;refine bA hh (kd a _ Xj (hT.hp hh)) rfl ?_;intro w38 hh;refine gT (mI (gT ?_));refine z3 rfl Xj Xj Xk ?_;refine gT ?_;refine bf ?_
    refine eR ?_;refine oJ ?_;refine cg hh 0 [_,_] ?_;exact LH
   ·have e3:iv true (sN (bN a/2^m))-1=iv true a/2^m:=by
     rw [e4,e5];exact yR _ _ hd
    have htz:tz (bN a)<m:=aav fun h=>hd ((I5 hz).2 h);have hsz:(iM (iv true (sN (bN a/2^m)))).size≤100000000:=by
     have:=p9 (bN a) m;rw [ef,kg,eU];omega
    have hsub:∀w1,Calls Tryz.prog 166 #[.agg #[.bool (iN (iv true (sN (bN a/2^m)))),.string (iM (iv true (sN (bN a/2^m))))],.agg #[.bool (iN 1),.string (iM 1)]] w1 fun e w'=>e=.returned (.agg #[.bool (iN (iv true a/2^m)),.string (iM (iv true a/2^m))])∧Below w1.heap.size w1 w':=fun w1=>by
     have:=uw (iN (iv true (sN (bN a/2^m)))) (iN 1) (iM (iv true (sN (bN a/2^m)))) (iM 1) w1 hsz (by rw [ef,Int.natAbs_one,vf];omega);rw [fh,fh,e3] at this;exact this
    refine LG ?_;refine sr ?_;refine cv hh [_,_] ?_;intro b2 w2 hh;refine bP hh ?_;intro b4 w4 hh;refine aa (ah (sr (mI ?_)));refine dL (aa (cF (aq (ai (sr (mI ?_))))));refine lz rfl rfl Xk ?_;refine aI (aa (ah ?_));rw [e1];refine EP ?_;refine ej ?_;refine fN 1 ?_;refine dJ ?_;refine Fj ?_;refine dC (fun _ hj=>hcs _) ?_;refine ej ?_;refine fN 1 ?_;refine dB [_,_] ?_;refine dC (fun _ hj=>dz true (sN (bN a/2^m)) _) ?_;refine Gm ?_;refine aO ?_;intro f W hJ hV;have hb_4:=hJ.bl;obtain ⟨v5,v26,v25,v24,v23,v22,v21,v20,v19,v18,_⟩:=hV;obtain ⟨b5,e5,hl5,hc5⟩:dm _ _ _ (f 9) W:=v5;replace hh:=hJ.newVar hh hl5 hc5;refine E5 ?_;dsimp only [cd];clear e5 hJ;refine bR hh 0 [_,_] ?_;intro ws hh;replace hh:Hp _ (.blk _ _ [_,_] _::_) _:=hh;refine aa (ah (sr (bH ?_)));refine bE hh 2 ?_;refine mB (gT (bH (gT ?_)));refine bE hh 2 ?_;refine aD rfl rfl ?_;refine bA hh (mf a _ Xj) rfl ?_;intro w32 hh;refine gT ?_;refine cj ?_;refine eR ?_;refine mB (gT (bH (gT ?_)));refine bE hh 2 ?_;refine aD rfl rfl ?_;refine bA hh (kd a _ Xj (hT.hp hh)) rfl ?_;intro w38 hh;refine gT (mI (gT ?_));refine z3 rfl Xj Xj Xk ?_;refine gT ?_;refine bf ?_;refine eR ?_;refine aa (cT (ah ?_))
    refine a0 2 [[(5,none)],[]] [(1,44),(0,43)] hh mixed Xl ?_;refine fG 0 [_,_] ?_;refine dC (fun _ hj=>nH 1 _ Xj Xj) ?_;refine aO ?_;intro f W hJ hV;have hb_6:=hJ.bl;obtain ⟨v44,v43,_⟩:=hV;replace hh:=hJ.hp;refine aW (bm (ae v44 (ae v43 aV))) ?_;dsimp only [cd];clear hJ;refine bA hh (hsub _) rfl ?_;intro w45 hh;refine bR hh 1 [_,_] ?_;intro ws hh;replace hh:Hp _ (_::.blk _ _ [_,_] _::_) _:=hh;refine aa (aw (aK ?_));exact PM
theorem SS:(2:Rat)≠0:=by decide
theorem two_pos (k:Int):(0:Rat)<2^k:=Rat.zpow_pos Xk
theorem kO (i p:Int):(Dyadic.ofIntWithPrec i p).toRat=i*2^(-p):=Dyadic.toRat_ofIntWithPrec_eq_mul_two_pow
theorem rA (i p:Int) (n:Nat):Dyadic.ofIntWithPrec (i*2^n) (p+n)=Dyadic.ofIntWithPrec i p:=by
 rw [←Int.shiftLeft_eq];exact Dyadic.ofIntWithPrec_shiftLeft_add
theorem lY (i:Int) {p q:Int} (h:q=p+n):Dyadic.ofIntWithPrec i p=Dyadic.ofIntWithPrec (i*2^n) q:=by
 subst h;exact (rA i p n).symm
theorem zd (i j p:Int):Dyadic.ofIntWithPrec i p+Dyadic.ofIntWithPrec j p=Dyadic.ofIntWithPrec (i+j) p:=by
 rw [←Dyadic.toRat_inj,Dyadic.toRat_add,kO,kO,kO,Rat.intCast_add,Rat.add_mul]
theorem GH (i p:Int): -Dyadic.ofIntWithPrec i p=Dyadic.ofIntWithPrec (-i) p:=Dyadic.neg_ofIntWithPrec
theorem tE (i j p q:Int):Dyadic.ofIntWithPrec i p*Dyadic.ofIntWithPrec j q=Dyadic.ofIntWithPrec (i*j) (p+q):=by
 rw [←Dyadic.toRat_inj,Dyadic.toRat_mul,kO,kO,kO,Rat.intCast_mul,Int.neg_add,Rat.zpow_add SS];grind
theorem we (i j p:Int):Dyadic.ofIntWithPrec i p<Dyadic.ofIntWithPrec j p↔i<j:=by
 rw [←Dyadic.toRat_lt_toRat_iff,kO,kO];rw [←Rat.intCast_lt_intCast];constructor
 ·intro h;exact Rat.lt_of_mul_lt_mul_right h (Rat.le_of_lt (two_pos _))
 ·intro h;exact Rat.mul_lt_mul_of_pos_right h (two_pos _)
theorem lN (p:Int):Dyadic.ofIntWithPrec 0 p=0:=rfl
theorem N6 {i j p:Int} (h:Dyadic.ofIntWithPrec i p=Dyadic.ofIntWithPrec j p):i=j:=by
 rcases aad i j with h1|h1|h1
 ·rw [←we i j p,h] at h1;exact absurd h1 (by rw [we];omega)
 ·exact h1
 ·rw [←we j i p,h] at h1;exact absurd h1 (by rw [we];omega)
theorem sQ {i p:Int} (h:Dyadic.ofIntWithPrec i p=0):i=0:=N6 (p:=p) (by rw [h];rfl)
theorem Fm (n k:Int) (h:n % 2=1):Dyadic.ofOdd n k h=Dyadic.ofIntWithPrec n k:=Dyadic.ofOdd_eq_ofIntWithPrec
theorem ze {i p:Int} (h:i≠0):Dyadic.ofIntWithPrec i p=.ofOdd (i>>>i.trailingZeros) (p-i.trailingZeros) (Int.shiftRight_trailingZeros_mod_two h):=by
 rw [Dyadic.ofIntWithPrec,dif_neg h]
structure NR where
 neg:Bool
 bg:ByteArray
 e:Int
def NR.cells (a:NR):List Value:=[.bool a.neg,.string a.bg,.int .i64 a.e]
theorem NR.len (a:NR):a.cells.length=3:=rfl
theorem NR.one (a:NR):a.cells.all Value.oneCell'=true:=rfl
def NR.i (a:NR):Int:=iv a.neg a.bg
def NR.d (a:NR):Dyadic:=Dyadic.ofIntWithPrec a.i (-a.e)
def nR:Dyadic→NR
 |.zero=>⟨false,ByteArray.mk #[],0⟩
 |.ofOdd n k _=>⟨iN n,iM n, -k⟩
theorem l3:nR 0=⟨false,ByteArray.mk #[],0⟩:=rfl
theorem bI (x:Dyadic):(nR x).d=x:=by
 cases x with
 |zero=>rfl
 |ofOdd n k h=>
  simp only [nR,NR.d,NR.i,fh,Int.neg_neg];exact (Fm n k h).symm
theorem Sc {x y:Dyadic}:nR x=nR y↔x=y:=⟨fun h=>by rw [←bI x,h,bI],fun h=>by rw [h]⟩
theorem UH (s:Bool) (a:ByteArray):(iv s a).trailingZeros=tz (bN a):=by
 unfold iv;split
 ·rw [Int.trailingZeros_neg];rfl
 ·rfl
theorem F2 (s:Bool) (a:ByteArray):iv s a=0↔bN a=0:=by
 have:=kg s a;omega
theorem q8 {s:Bool}{a:ByteArray}{e:Int} (h:iv s a≠0):nR (Dyadic.ofIntWithPrec (iv s a) (-e))=⟨iN (iv s a/2^tz (bN a)),iM (iv s a/2^tz (bN a)),e+tz (bN a)⟩:=by
 rw [ze h,nR,Int.shiftRight_eq_div_pow,UH];have e1: -(-e-(tz (bN a):Int))=e+tz (bN a):=Xj;rw [e1,aak]
 rfl
def Sz (k:Nat) (x:Dyadic):Prop:=∃i:Int,x=Dyadic.ofIntWithPrec i k∧i.natAbs<2^(2*k)
theorem Sz.zero (k:Nat):Sz k 0:=⟨0,rfl,by simpa using X7 Xj⟩
theorem Sz.mono {l:Nat}{x:Dyadic} (h:Sz k x) (hl:k≤l):Sz l x:=by
 obtain ⟨i,rfl,hi⟩:=h;refine ⟨i*2^(l-k),lY i Xj, ?_⟩;rw [Zz,Z7];have h1:i.natAbs*2^(l-k)<2^(2*k)*2^(l-k):=ZW hi (X7 Xj);rw [←XS] at h1;exact Yt h1 (Yf Xj Xj)
theorem Sz.neg {x:Dyadic} (h:Sz k x):Sz k (-x):=by
 obtain ⟨i,rfl,hi⟩:=h;exact ⟨-i,GH _ _,by rw [Int.natAbs_neg];exact hi⟩
theorem Sz.add {x y:Dyadic} (hx:Sz k x) (hy:Sz k y):Sz (k+1) (x+y):=by
 obtain ⟨i,rfl,hi⟩:=hx;obtain ⟨j,rfl,hj⟩:=hy;rw [zd];refine ⟨(i+j)*2^1,lY _ Xj, ?_⟩;have h1:2^(2*(k+1))=4*2^(2*k):=by rw [show 2*(k+1)=2*k+2 by omega,XS];omega
 rw [h1];omega
theorem Sz.sub {x y:Dyadic} (hx:Sz k x) (hy:Sz k y):Sz (k+1) (x-y):=hx.add hy.neg
theorem Sz.mul {l:Nat}{x y:Dyadic} (hx:Sz k x) (hy:Sz l y):Sz (k+l) (x*y):=by
 obtain ⟨i,rfl,hi⟩:=hx;obtain ⟨j,rfl,hj⟩:=hy;rw [tE];refine ⟨i*j,by rw [Zm], ?_⟩;rw [Zz,Yl,XS];exact Nat.mul_lt_mul'' hi hj
theorem lk {i:Int} (h:i≠0):2^i.trailingZeros≤i.natAbs:=by
 have h1:=Int.two_pow_trailingZeros_dvd h;have h2:=Int.natAbs_dvd_natAbs.2 h1;rw [Z7] at h2;exact Nat.le_of_dvd Xj h2
theorem Sz.nr {x:Dyadic} (h:Sz k x):(nR x).bg.size≤(2*k+7)/8∧ -(k:Int)≤(nR x).e∧(nR x).e≤k:=by
 obtain ⟨i,rfl,hi⟩:=h;by_cases h0:i=0
 ·subst h0;rw [lN,l3];exact ⟨Xs _,(by omega: -(k:Int)≤0),(by omega:(0:Int)≤k)⟩
 ·have h2:=lk h0;rw [ze h0,nR];simp only;refine ⟨?_,Xj, ?_⟩
  ·rw [ef];have:bG (i>>>i.trailingZeros).natAbs≤2*k:=by
    apply dK;refine Yv ?_ hi;rw [Int.shiftRight_eq_div_pow];exact aaS _ _
   omega
  ·have h3:2^i.trailingZeros<2^(2*k):=Yv h2 hi;have:=(aaV Xj).1 h3;omega
theorem Sz.raw {a:NR}{E:Nat} (hm:8*a.bg.size≤m) (h1: -(E:Int)≤a.e) (h2:a.e≤E):Sz (m+E) a.d:=by
 refine ⟨a.i*2^(a.e+m+E).toNat,lY _ Xj, ?_⟩;have h3:a.i.natAbs<2^m:=by
  rw [NR.i,kg];refine Yt (dt _) (Yf Xj ?_);have:=gO a.bg;omega
 rw [Zz,Z7];have h4:=ZW h3 (X7 (n:=(a.e+m+E).toNat) (show 0<2 by omega));rw [←XS] at h4;exact Yt h4 (Yf Xj Xj)
def Gd (i n:Int):Int:=if 0≤n then i*2^n.toNat else i/2^(-n).toNat
theorem I3 (n:Int):Gd 0 n=0:=by unfold Gd;split<;>simp
def cW:Dyadic→Int→Int
 |.zero,_=>0
 |.ofOdd n k _,p=>Gd n (p-k)
def dr:Dyadic→Dyadic→Int
 |.zero,.zero=>0
 |.zero,.ofOdd _ k _=>k
 |.ofOdd _ k _,.zero=>k
 |.ofOdd _ k _,.ofOdd _ l _=>max k l
theorem nx (n k p:Int) (h:n % 2=1) (hp:k≤p):Dyadic.ofIntWithPrec (cW (.ofOdd n k h) p) p=.ofOdd n k h:=by
 simp only [cW];rw [Fm,Gd,Xo Xj];exact (lY n Xj).symm
theorem Jt (x y:Dyadic):Dyadic.ofIntWithPrec (cW x (dr x y)) (dr x y)=x:=by
 cases x with
 |zero=>rfl
 |ofOdd n k h=>
  cases y with
  |zero=>exact nx _ _ _ _ (Int.le_refl _)
  |ofOdd m l g=>exact nx _ _ _ _ (Int.le_max_left _ _)
theorem Ki (x y:Dyadic):Dyadic.ofIntWithPrec (cW y (dr x y)) (dr x y)=y:=by
 cases y with
 |zero=>rfl
 |ofOdd n k h=>
  cases x with
  |zero=>exact nx _ _ _ _ (Int.le_refl _)
  |ofOdd m l g=>exact nx _ _ _ _ (Int.le_max_right _ _)
theorem O3 (x y:Dyadic):Dyadic.ofIntWithPrec (cW x (dr x y)+cW y (dr x y)) (dr x y)=x+y:=by
 rw [←zd,Jt,Ki]
theorem K5 (i n:Int):bG (Gd i n).natAbs≤bG i.natAbs+n.toNat:=by
 unfold Gd;split
 ·rw [Zz,Z7];exact pZ _ _
 ·have:bG (i/2^(-n).toNat).natAbs≤bG i.natAbs:=dK (Yv (aaS _ _) (dt _));omega
theorem Fz (x y:Dyadic) (E:Int) (h1: -E≤(nR x).e∧(nR x).e≤E) (h2: -E≤(nR y).e∧(nR y).e≤E): -E≤dr x y∧dr x y≤E:=by
 cases x<;>cases y<;>simp only [nR,dr] at* <;>omega
theorem vK (x:Dyadic) (p:Int):bG (cW x p).natAbs≤8*(nR x).bg.size+(p+(nR x).e).toNat:=by
 cases x with
 |zero=>simp [cW,lB]
 |ofOdd n k h=>
  have h1:=K5 n (p-k);have h2:=gO (iM n);rw [iM,eU] at h2;simp only [cW,nR];rw [show p+ -k=p-k by omega];rw [←iM] at h2;omega
variable {P:Program}{by' off:Nat}{r:Bool}{zc:List Value}
section
variable {ro:Mode}
theorem Gv {t:TypeId}{cs:Array Value}{v:Value} (ht:cQ P t=some (n,false,by',zc)) (hv:cs[off]?=some v) (w:World):(part t cs off).run P w=.ok v w:=by
 simp [part,jc ht,hv]
theorem Qf {t:TypeId}{cs vs:Array Value} (ht:cQ P t=some (n,true,by',zc)) (hv:cs.extract off (off+n)=vs) (w:World):(part t cs off).run P w=.ok (.agg vs) w:=by
 simp [part,jc ht,eM ht,hv]
theorem U1 (n:Nat) (a b:Bool) (w:World):(Op.equalIn (n+1) 4 (.bool a) (.bool b)).run Tryz.prog w=.ok (a==b) w:=by
 simp [Op.equalIn,run_underlying Tryz.underlying4]
theorem Ul (n:Nat) (a b:ByteArray) (w:World):(Op.equalIn (n+1) 9 (.string a) (.string b)).run Tryz.prog w=.ok (a==b) w:=by
 simp [Op.equalIn,run_underlying Tryz.underlying9]
theorem VC (n:Nat) (a b:Int) (w:World):(Op.equalIn (n+1) 3 (.int .i64 a) (.int .i64 b)).run Tryz.prog w=.ok (a==b) w:=by
 simp [Op.equalIn,run_underlying Tryz.underlying3]
theorem eq_int (n:Nat) (s s':Bool) (a a':ByteArray) (w:World):(Op.equalIn (n+2) 38 (.agg #[.bool s,.string a]) (.agg #[.bool s',.string a'])).run Tryz.prog w=.ok (s==s' && a==a') w:=by
 have h1:=fun (x:Bool) (y:ByteArray)=>Gv (P:=Tryz.prog) (cs:= #[.bool x,.string y]) (off:=0) (aM.out (P:=Tryz.prog) (t:=4)) rfl;have h2:=fun (x:Bool) (y:ByteArray)=>Gv (P:=Tryz.prog) (cs:= #[.bool x,.string y]) (off:=1) (aM.out (P:=Tryz.prog) (t:=9)) rfl;rw [Op.equalIn];simp [run_underlying Tryz.underlying38,h1,h2,U1,Ul]
 cases h:s==s'<;>cases h':a==a'<;>simp_all
theorem IX (n:Nat) (s s':Bool) (a a':ByteArray) (e e':Int) (w:World):(Op.equalIn (n+3) 40 (.agg #[.bool s,.string a,.int .i64 e]) (.agg #[.bool s',.string a',.int .i64 e'])).run Tryz.prog w=.ok ((s==s' && a==a') && e==e') w:=by
 have h1:=fun (x:Bool) (y:ByteArray) (z:Int)=>Qf (P:=Tryz.prog) (cs:= #[.bool x,.string y,.int .i64 z]) (vs:= #[.bool x,.string y]) (off:=0) (aM.out (P:=Tryz.prog) (t:=38)) rfl;have h2:=fun (x:Bool) (y:ByteArray) (z:Int)=>Gv (P:=Tryz.prog) (cs:= #[.bool x,.string y,.int .i64 z]) (off:=2) (aM.out (P:=Tryz.prog) (t:=3)) rfl;rw [Op.equalIn];simp [run_underlying Tryz.underlying40,h1,h2,eq_int,VC]
 cases h:s==s'<;>cases h':a==a'<;>cases h2:e==e'<;>simp_all
section
variable {ρ:Rf}{w:World}{d:Option Nat}{ty u:TypeId}{pos:String}{af:Array Edge}{g:Option (Nat×Bool)}{x y:Operand}{s s':Bool}{a a':ByteArray}{e e':Int}
theorem KN {a b:ByteArray}:(a==b)=true↔a=b:=by
 have:(a==b)=(a.data==b.data):=rfl;rw [this,YA];exact ⟨fun h=>by cases a;cases b;simp_all,fun h=>by rw [h]⟩
theorem nU:((s==s' && a==a') && e==e')=true↔NR.mk s a e=NR.mk s' a' e':=by
 rw [XF,XF,YA,KN,YA,NR.mk.injEq,and_assoc]
theorem PT (hx:ev ρ x=.agg #[.bool s,.string a,.int .i64 e]) (hy:ev ρ y=.agg #[.bool s',.string a',.int .i64 e']) (hr:((s==s' && a==a') && e==e')=r):
  (execOp (ev ρ) ⟨d,.binOp .eql 40 x y u,ty,pos,af,g⟩).run Tryz.prog w=.ok (.value (.bool r)) w:=by
 exact TX
theorem Rl (hx:ev ρ x=.agg #[.bool s,.string a,.int .i64 e]) (hy:ev ρ y=.agg #[.bool s',.string a',.int .i64 e']) (hr:((s==s' && a==a') && e==e')=r):
  (execOp (ev ρ) ⟨d,.binOp .neq 40 x y u,ty,pos,af,g⟩).run Tryz.prog w=.ok (.value (.bool !r)) w:=by
 exact TX
theorem Gr (hx:ev ρ x=.agg #[.bool s,.string a,.int .i64 e]) (hy:ev ρ y=.agg #[.bool s',.string a',.int .i64 e']) (h:NR.mk s a e=NR.mk s' a' e'):
  (execOp (ev ρ) ⟨d,.binOp .eql 40 x y u,ty,pos,af,g⟩).run Tryz.prog w=.ok (.value (.bool true)) w:=PT hx hy (nU.2 h)
theorem Na (hx:ev ρ x=.agg #[.bool s,.string a,.int .i64 e]) (hy:ev ρ y=.agg #[.bool s',.string a',.int .i64 e']) (h:¬NR.mk s a e=NR.mk s' a' e'):
  (execOp (ev ρ) ⟨d,.binOp .eql 40 x y u,ty,pos,af,g⟩).run Tryz.prog w=.ok (.value (.bool false)) w:=PT hx hy (by rw [Z4];exact fun h1=>h (nU.1 h1))
theorem GJ (hx:ev ρ x=.agg #[.bool s,.string a,.int .i64 e]) (hy:ev ρ y=.agg #[.bool s',.string a',.int .i64 e']) (h:NR.mk s a e=NR.mk s' a' e'):
  (execOp (ev ρ) ⟨d,.binOp .neq 40 x y u,ty,pos,af,g⟩).run Tryz.prog w=.ok (.value (.bool false)) w:=Rl hx hy (nU.2 h)
theorem FO (hx:ev ρ x=.agg #[.bool s,.string a,.int .i64 e]) (hy:ev ρ y=.agg #[.bool s',.string a',.int .i64 e']) (h:¬NR.mk s a e=NR.mk s' a' e'):
  (execOp (ev ρ) ⟨d,.binOp .neq 40 x y u,ty,pos,af,g⟩).run Tryz.prog w=.ok (.value (.bool true)) w:=Rl hx hy (r:=false) (by rw [Z4];exact fun h1=>h (nU.1 h1))
end
section
variable {N:Nat}{ops:Array Oper}{Q:Kq}{ρ:Rf}{w:World}{rest:List Oper}{d:Nat}{ty u:TypeId}{pos:String}{af:Array Edge}{x y:Operand}{s s':Bool}{a a':ByteArray}{e e':Int}
theorem yx (hx:ev ρ x=.agg #[.bool s,.string a,.int .i64 e]) (hy:ev ρ y=.agg #[.bool s',.string a',.int .i64 e']) (h:NR.mk s a e=NR.mk s' a' e') (hN:d<N) (kk:WL ro Tryz.prog N ops Q rest (cG ρ d (.bool true)) w):
  WL ro Tryz.prog N ops Q (⟨some d,.binOp .eql 40 x y u,ty,pos,af,none⟩::rest) ρ w:=aP rfl rfl hN (Gr hx hy h) kk
theorem tk (hx:ev ρ x=.agg #[.bool s,.string a,.int .i64 e]) (hy:ev ρ y=.agg #[.bool s',.string a',.int .i64 e']) (h:¬NR.mk s a e=NR.mk s' a' e') (hN:d<N) (kk:WL ro Tryz.prog N ops Q rest (cG ρ d (.bool false)) w):
  WL ro Tryz.prog N ops Q (⟨some d,.binOp .eql 40 x y u,ty,pos,af,none⟩::rest) ρ w:=aP rfl rfl hN (Na hx hy h) kk
theorem yD (hx:ev ρ x=.agg #[.bool s,.string a,.int .i64 e]) (hy:ev ρ y=.agg #[.bool s',.string a',.int .i64 e']) (h:¬NR.mk s a e=NR.mk s' a' e') (hN:d<N) (kk:WL ro Tryz.prog N ops Q rest (cG ρ d (.bool true)) w):
  WL ro Tryz.prog N ops Q (⟨some d,.binOp .neq 40 x y u,ty,pos,af,none⟩::rest) ρ w:=aP rfl rfl hN (FO hx hy h) kk
theorem tw (hx:ev ρ x=.agg #[.bool s,.string a,.int .i64 e]) (hy:ev ρ y=.agg #[.bool s',.string a',.int .i64 e']) (h:NR.mk s a e=NR.mk s' a' e') (hN:d<N) (kk:WL ro Tryz.prog N ops Q rest (cG ρ d (.bool false)) w):
  WL ro Tryz.prog N ops Q (⟨some d,.binOp .neq 40 x y u,ty,pos,af,none⟩::rest) ρ w:=aP rfl rfl hN (GJ hx hy h) kk
end
theorem qp (s:Bool) (a:ByteArray) (n:Int) (w:World) (hT:dN w) (ha:a.size≤100000000) (h1: -1000000000≤n) (h2:n≤1000000000):
  Calls Tryz.prog 119 #[.agg #[.bool s,.string a],.int .i64 n] w fun e w'=>e=.returned (.agg #[.bool (iN (Gd (iv s a) n)),.string (iM (Gd (iv s a) n))])∧Below w.heap.size w w':=by
 unfold Gd;by_cases h:0≤n
 ·rw [Xo h];obtain ⟨m,rfl⟩:=aaF h;rw [YN];exact DY s a m w ha Xj
 ·rw [Xp h];obtain ⟨m,hm⟩:=aaF (show 0≤ -n by omega);rw [hm,YN,show n= -(m:Int) by omega];exact C9 s a m w hT ha Xj Xj
theorem ik (s:Bool) (a:ByteArray) (e:Int) (w:World) (hT:dN w) (ha:a.size≤100000000) (h1: -1000000000000≤e) (h2:e≤1000000000000):
  Calls Tryz.prog 68 #[.agg #[.bool s,.string a],.int .i64 e] w fun r w'=>r=.returned (.agg #[.bool (nR (Dyadic.ofIntWithPrec (iv s a) (-e))).neg,.string (nR (Dyadic.ofIntWithPrec (iv s a) (-e))).bg,.int .i64 (nR (Dyadic.ofIntWithPrec (iv s a) (-e))).e])∧Below w.heap.size w w':=by
 have hh:=Hp.start w;by_cases h0:iv s a=0
 ·rw [h0,lN,l3];refine aj (N:=21) (l:=[.agg #[.bool s,.string a],.int .i64 e]) Tryz.func68 rfl rfl (by simp) ?_;refine sr ?_;refine cv hh [_,_] ?_;intro b2 w2 hh;refine bP hh ?_;intro b4 w4 hh;refine aa (ah (sr ?_));refine cg hh 1 [_,_] ?_;refine bA hh (kP s a _) rfl ?_;intro w7 hh;rw [h0];refine cR (aa (cT (sr ?_)));refine fP [_,_,_] ?_;exact J9
 ·have hs:(iv s a).sign≠0:=by rw [ne_eq,Int.sign_eq_zero_iff_zero];exact h0
  rw [q8 h0];have hz:bN a≠0:=fun h=>h0 ((F2 s a).2 h);have htz:tz (bN a)<8*a.size+1:=by
   have:=xZ a;rw [show (256:Nat)=2^8 from rfl,←Yi] at this;have:=xl hz this;omega
  have hsh:Gd (iv s a) (-(tz (bN a):Int))=iv s a/2^tz (bN a):=by
   unfold Gd;split
   ·have:tz (bN a)=0:=Xj;rw [this];simp
   ·rw [Int.neg_neg,YN]
  refine aj (N:=21) (l:=[.agg #[.bool s,.string a],.int .i64 e]) Tryz.func68 rfl rfl (by simp) ?_;refine sr ?_;refine cv hh [_,_] ?_;intro b2 w2 hh;refine bP hh ?_;intro b4 w4 hh;refine aa (ah (sr ?_));refine cg hh 1 [_,_] ?_;refine bA hh (kP s a _) rfl ?_;intro w7 hh;refine cR (aa (cF (aq (ai (sr (bH ?_))))));refine bE hh 1 ?_;refine bA hh (kd a _ Xj (hT.hp hh)) rfl ?_;intro w12 hh;refine aI (aa (sr ?_));refine cg hh 1 [_,_] (mI ?_);refine z3 rfl Xj Xj Xk ?_;refine bA hh (qp s a (-(tz (bN a):Int)) _ (hT.hp hh) ha Xj Xj) rfl ?_;intro w16 hh;rw [hsh];refine mI (mI ?_);refine bk ?_;refine fP [_,_,_] ?_;exact Mc
def NR.ok (a:NR):Prop:=a.bg.size≤1000000∧ -10000000≤a.e∧a.e≤10000000
theorem Sz.ok {x:Dyadic} (h:Sz k x) (hk:k≤3999990):(nR x).ok:=by
 have:=h.nr;refine ⟨Xj,Xj,Xj⟩
theorem ja (n:Int) (w:World) (hT:dN w) (h1: -9223372036854775808≤n) (h2:n≤9223372036854775807):
  Calls Tryz.prog 17 #[.int .i64 n] w fun r w'=>r=.returned (.agg #[.bool (nR (n:Dyadic)).neg,.string (nR (n:Dyadic)).bg,.int .i64 (nR (n:Dyadic)).e])∧Below w.heap.size w w':=by
 have hh:=Hp.start w;have hsz:(iM n).size≤100000000:=by
  rw [ef];have:bG n.natAbs≤64:=dK Xj;omega
 have hc:∀w1,dN w1→Calls Tryz.prog 68 #[.agg #[.bool (iN n),.string (iM n)],.int .i64 0] w1 fun r w'=>r=.returned (.agg #[.bool (nR (n:Dyadic)).neg,.string (nR (n:Dyadic)).bg,.int .i64 (nR (n:Dyadic)).e])∧Below w1.heap.size w1 w':=fun w1 hT1=>by
  have:=ik (iN n) (iM n) 0 w1 hT1 hsz Xj Xj;rw [fh] at this;exact this
 refine aj (N:=6) (l:=[.int .i64 n]) Tryz.func17 rfl rfl (by simp) ?_;refine sr ?_;refine bP hh ?_;intro b2 w2 hh;refine aa (sr (mI ?_));refine bA hh (nH n _ h1 h2) rfl ?_;intro w4 hh;refine bA hh (hc _ (hT.hp hh)) rfl ?_;intro w5 hh;exact Mc
theorem eN (a:NR) (w:World) (hT:dN w) (ha:a.bg.size≤100000000) (h1: -1000000000000≤a.e) (h2:a.e≤1000000000000):
  Calls Tryz.prog 64 #[.agg #[.bool a.neg,.string a.bg,.int .i64 a.e]] w fun r w'=>r=.returned (.agg #[.bool (nR a.d).neg,.string (nR a.d).bg,.int .i64 (nR a.d).e])∧Below w.heap.size w w':=by
 have hh:=Hp.start w;refine aj (N:=8) (l:=[.agg #[.bool a.neg,.string a.bg,.int .i64 a.e]]) Tryz.func64 rfl rfl (by simp) ?_;refine sr ?_;refine cv hh [_,_,_] ?_;intro b1 w1 hh;refine bP hh ?_;intro b2 w2 hh;refine aa (sr (bH ?_));refine cg hh 1 [_,_] (bH ?_);refine bE hh 1 ?_;refine bA hh (ik a.neg a.bg a.e _ (hT.hp hh) ha h1 h2) rfl ?_;intro w7 hh;exact Mc
theorem iB (a:NR) (w:World):
  Calls Tryz.prog 110 #[.agg #[.bool a.neg,.string a.bg,.int .i64 a.e]] w fun r w'=>r=.returned (.int .i64 a.i.sign)∧Below w.heap.size w w':=by
 have hh:=Hp.start w;refine aj (N:=6) (l:=[.agg #[.bool a.neg,.string a.bg,.int .i64 a.e]]) Tryz.func110 rfl rfl (by simp) ?_;refine sr ?_;refine cv hh [_,_,_] ?_;intro b1 w1 hh;refine aI (aa (sr (bH ?_)));refine cg hh 0 [_,_] ?_;refine bA hh (kP a.neg a.bg _) rfl ?_;intro w5 hh;exact Ag
theorem pg (a:NR) (w:World) (hT:dN w) (ha:a.bg.size≤100000000) (h1: -1000000000000≤a.e) (h2:a.e≤1000000000000):
  Calls Tryz.prog 85 #[.agg #[.bool a.neg,.string a.bg,.int .i64 a.e]] w fun r w'=>r=.returned (.agg #[.bool (nR (-a.d)).neg,.string (nR (-a.d)).bg,.int .i64 (nR (-a.d)).e])∧Below w.heap.size w w':=by
 have hh:=Hp.start w;have hc:∀w1,dN w1→Calls Tryz.prog 68 #[.agg #[.bool (iN (-(iv a.neg a.bg))),.string (iM (-(iv a.neg a.bg)))],.int .i64 a.e] w1 fun r w'=>r=.returned (.agg #[.bool (nR (-a.d)).neg,.string (nR (-a.d)).bg,.int .i64 (nR (-a.d)).e])∧Below w1.heap.size w1 w':=fun w1 hT1=>by
  have hs:=sU a.neg a.bg;have:=ik (iN (-(iv a.neg a.bg))) (iM (-(iv a.neg a.bg))) a.e w1 hT1 Xj h1 h2;rw [fh,←GH] at this;exact this
 refine aj (N:=9) (l:=[.agg #[.bool a.neg,.string a.bg,.int .i64 a.e]]) Tryz.func85 rfl rfl (by simp) ?_;refine sr ?_;refine cv hh [_,_,_] ?_;intro b1 w1 hh;refine bP hh ?_;intro b2 w2 hh;refine aa (ah ?_);refine a0 5 [[(1,none)],[(3,some 0)],[(4,some 1)],[(1,none)],[(6,some 3)]] [(4,7),(3,6),(2,5),(1,4),(0,3)] hh mixed Xl ?_;refine ej ?_;refine fG 1 [_,_] ?_;refine dC (fun _ hj=>wb a.neg a.bg _) ?_;refine ej ?_;refine fN 1 ?_;refine aO ?_;intro f W hJ hV;have hb_1:=hJ.bl;obtain ⟨v7,v6,v5,v4,v3,_⟩:=hV;replace hh:=hJ.hp;refine aW (bm (ae v7 (ae v6 (ae v5 (ae v4 (ae v3 aV)))))) ?_;dsimp only [cd];clear hJ;refine bA hh (hc _ (hT.hp hh)) rfl ?_;intro w8 hh;exact Mc
theorem xo (s:Int) (a:NR) (w:World) (hT:dN w) (ha:a.bg.size≤100000000) (h1: -1000000000≤a.e-s) (h2:a.e-s≤1000000000):
  Calls Tryz.prog 157 #[.int .i64 s,.agg #[.bool a.neg,.string a.bg,.int .i64 a.e]] w fun r w'=>r=.returned (.agg #[.bool (iN (Gd a.i (a.e-s))),.string (iM (Gd a.i (a.e-s)))])∧Below w.heap.size w w':=by
 have hh:=Hp.start w;refine aj (N:=12) (l:=[.int .i64 s,.agg #[.bool a.neg,.string a.bg,.int .i64 a.e]]) Tryz.func157 rfl rfl (by simp) ?_;refine sr ?_;refine cv hh [_,_,_] ?_;intro b3 w3 hh;refine bP hh ?_;intro b4 w4 hh;refine aa (sr (bH ?_));refine cg hh 1 [_,_] (bH ?_);refine bE hh 1 ?_;refine mI ?_;refine ep ?_;refine bA hh (qp a.neg a.bg (a.e-s) _ (hT.hp hh) ha h1 h2) rfl ?_;intro w11 hh;exact BM
theorem DA (x:Dyadic) (p:Int):Gd (nR x).i ((nR x).e - -p)=cW x p:=by
 cases x with
 |zero=>exact I3 _
 |ofOdd n k h=>
  simp only [nR,NR.i,fh,cW];congr 1;omega
theorem kN (x:Dyadic):nR x=⟨false,ByteArray.mk #[],0⟩↔x=0:=by rw [←l3,Sc]
theorem mA {a:NR} (h:a.ok):Sz 18000000 a.d∧(nR a.d).bg.size≤1000000∧ -18000000≤(nR a.d).e∧(nR a.d).e≤18000000:=by
 obtain ⟨h1,h2,h3⟩:=h;refine ⟨Sz.raw (m:=8000000) (E:=10000000) Xj Xj Xj, ?_⟩;by_cases h0:iv a.neg a.bg=0
 ·rw [NR.d,NR.i,h0,lN,l3];exact ⟨Xs _,by simp,by simp⟩
 ·rw [NR.d,NR.i,q8 h0];have hz:bN a.bg≠0:=fun h=>h0 ((F2 a.neg a.bg).2 h);have htz:tz (bN a.bg)<8*a.bg.size+1:=by
   have:=xZ a.bg;rw [show (256:Nat)=2^8 from rfl,←Yi] at this;have:=xl hz this;omega
  have hb:bG (iv a.neg a.bg/2^tz (bN a.bg)).natAbs≤8*a.bg.size:=by
   apply dK;refine Yv (aaS _ _) ?_;rw [kg];exact Yt (dt _) (Yf Xj (gO _))
  simp only;rw [ef];refine ⟨Xj,Xj,Xj⟩
theorem qk (a b:NR) (w:World) (hT:dN w) (ha:a.ok) (hb:b.ok):
  Calls Tryz.prog 112 #[.agg #[.bool a.neg,.string a.bg,.int .i64 a.e],.agg #[.bool b.neg,.string b.bg,.int .i64 b.e]] w fun r w'=>r=.returned (.agg #[.int .i64 (-(dr a.d b.d)),.bool (iN (cW a.d (dr a.d b.d))),.string (iM (cW a.d (dr a.d b.d))),.bool (iN (cW b.d (dr a.d b.d))),.string (iM (cW b.d (dr a.d b.d)))])∧Below w.heap.size w w':=by
 have hh:=Hp.start w;obtain ⟨ha1,ha2,ha3⟩:=ha;obtain ⟨hb1,hb2,hb3⟩:=hb;obtain ⟨_,fa1,fa2,fa3⟩:=mA (a:=a) ⟨ha1,ha2,ha3⟩;obtain ⟨_,fb1,fb2,fb3⟩:=mA (a:=b) ⟨hb1,hb2,hb3⟩;have hP:=Fz a.d b.d 18000000 Xj Xj;have hcx:=fun w1 hT1=>xo (-(dr a.d b.d)) (nR a.d) w1 hT1 Xj Xj Xj;have hcy:=fun w1 hT1=>xo (-(dr a.d b.d)) (nR b.d) w1 hT1 Xj Xj Xj;rw [DA] at hcx hcy;by_cases h0:a.d=0
 ·have h0':=(kN a.d).2 h0;have hs:(nR b.d).e= -(dr a.d b.d):=by
   rw [h0]
   cases b.d with
   |zero=>rfl
   |ofOdd n k h=>rfl
  refine I2 ?_;refine sr ?_;refine cv hh [_,_,_] ?_;intro b2 w2 hh;refine cv hh [_,_,_] ?_;intro b3 w3 hh;refine bP hh ?_;intro b4 w4 hh;refine aa (ah ?_);refine Lm ?_;refine fG 2 [_,_,_] ?_;refine LW ?_;refine fG 1 [_,_,_] ?_;refine aO ?_;intro f W hJ hV;have hb_1:=hJ.bl;obtain ⟨v9,v8,v7,_⟩:=hV;replace hh:=hJ.hp;refine aW (bm (ae v9 (ae v8 (ae v7 aV)))) ?_;dsimp only [cd];clear hJ;refine bA hh (eN b _ (hT.hp hh) Xj Xj Xj) rfl ?_;intro w10 hh;refine bR hh 2 [_,_,_] ?_;intro ws hh;replace hh:Hp _ (_::_::.blk _ _ [_,_,_] _::_) _:=hh;refine bR hh 1 [_,_,_] ?_;intro ws hh;replace hh:Hp _ (_::.blk _ _ [_,_,_] _::_) _:=hh;refine aa (sr (bH ?_));refine bE hh 2 ?_;refine bH ?_;refine bE hh 1 ?_;refine xG rfl rfl Xk ?_;refine aI (aa (ah (ao (sr ?_))));refine cg hh 2 [_,_,_] ?_;refine fP [_,_,_] ?_;refine yx rfl rfl (by first|assumption|rfl) Xk ?_;refine aB (aa (cT (al (bH ?_))));refine bE hh 1 ?_;refine aI (aA (bz (ai (sr ?_))));exact U5
 ·have h0':¬nR a.d=⟨false,ByteArray.mk #[],0⟩:=fun h=>h0 ((kN _).1 h);by_cases h1:b.d=0
  ·have h1':=(kN b.d).2 h1;have hs:(nR a.d).e= -(dr a.d b.d):=by
    rw [h1]
    cases a.d with
    |zero=>rfl
    |ofOdd n k h=>rfl
   refine I2 ?_;refine sr ?_;refine cv hh [_,_,_] ?_;intro b2 w2 hh;refine cv hh [_,_,_] ?_;intro b3 w3 hh;refine bP hh ?_;intro b4 w4 hh;refine aa (ah ?_);refine Lm ?_;refine fG 2 [_,_,_] ?_;refine LW ?_;refine fG 1 [_,_,_] ?_;refine aO ?_;intro f W hJ hV;have hb_1:=hJ.bl;obtain ⟨v9,v8,v7,_⟩:=hV;replace hh:=hJ.hp;refine aW (bm (ae v9 (ae v8 (ae v7 aV)))) ?_;dsimp only [cd];clear hJ;refine bA hh (eN b _ (hT.hp hh) Xj Xj Xj) rfl ?_;intro w10 hh;refine bR hh 2 [_,_,_] ?_;intro ws hh;replace hh:Hp _ (_::_::.blk _ _ [_,_,_] _::_) _:=hh;refine bR hh 1 [_,_,_] ?_;intro ws hh;replace hh:Hp _ (_::.blk _ _ [_,_,_] _::_) _:=hh;refine aa (sr (bH ?_));refine bE hh 2 ?_;refine bH ?_;refine bE hh 1 ?_;refine xG rfl rfl Xk ?_;refine aI (aa (ah (ao (sr ?_))));refine cg hh 2 [_,_,_] ?_;refine fP [_,_,_] ?_;refine tk rfl rfl (by assumption) Xk ?_;refine aB (aa (cF (sr ?_)));refine cg hh 1 [_,_,_] ?_;refine fP [_,_,_] ?_;refine yx rfl rfl (by first|assumption|rfl) Xk ?_;refine aB (aa (cT (al (bH ?_))));refine bE hh 2 ?_;refine aI (aA (bz (ai (sr ?_))));exact U5
  ·have h1':¬nR b.d=⟨false,ByteArray.mk #[],0⟩:=fun h=>h1 ((kN _).1 h);have hs:(if (nR b.d).e<(nR a.d).e then (nR b.d).e else (nR a.d).e)= -(dr a.d b.d):=by
    revert h0 h1
    cases a.d with
    |zero=>intro h;exact absurd rfl h
    |ofOdd n k h=>
     cases b.d with
     |zero=>intro _ h;exact absurd rfl h
     |ofOdd m l g=>
      intro _ _;simp only [nR,dr];omega
   refine I2 ?_;refine sr ?_;refine cv hh [_,_,_] ?_;intro b2 w2 hh;refine cv hh [_,_,_] ?_;intro b3 w3 hh;refine bP hh ?_;intro b4 w4 hh;refine aa (ah ?_);refine Lm ?_;refine fG 2 [_,_,_] ?_;refine LW ?_;refine fG 1 [_,_,_] ?_;refine aO ?_;intro f W hJ hV;have hb_1:=hJ.bl;obtain ⟨v9,v8,v7,_⟩:=hV;replace hh:=hJ.hp;refine aW (bm (ae v9 (ae v8 (ae v7 aV)))) ?_;dsimp only [cd];clear hJ;refine bA hh (eN b _ (hT.hp hh) Xj Xj Xj) rfl ?_;intro w10 hh;refine bR hh 2 [_,_,_] ?_;intro ws hh;replace hh:Hp _ (_::_::.blk _ _ [_,_,_] _::_) _:=hh;refine bR hh 1 [_,_,_] ?_;intro ws hh;replace hh:Hp _ (_::.blk _ _ [_,_,_] _::_) _:=hh;refine aa (sr (bH ?_));refine bE hh 2 ?_;refine bH ?_;refine bE hh 1 ?_;refine xG rfl rfl Xk ?_;refine aI (aa (ah (ao (sr ?_))));refine cg hh 2 [_,_,_] ?_;refine fP [_,_,_] ?_;refine tk rfl rfl (by assumption) Xk ?_;refine aB (aa (cF (sr ?_)));refine cg hh 1 [_,_,_] ?_;refine fP [_,_,_] ?_;refine tk rfl rfl (by assumption) Xk ?_;refine aB (aa (cF (aq (bz (ai (sr ?_))))));exact U5
end
def lr (x y:Dyadic):Int:=if x<y then -1 else if y<x then 1 else 0
theorem Al (i j p:Int):(i-j).sign=lr (Dyadic.ofIntWithPrec i p) (Dyadic.ofIntWithPrec j p):=by
 unfold lr;simp only [we]
 rcases aad i j with h|h|h
 ·rw [Xo h,YV Xj]
 ·subst h;simp
 ·rw [Xp Xj,Xo h,YU Xj]
theorem C2 (i p:Int):i.sign=lr (Dyadic.ofIntWithPrec i p) 0:=by
 have:=Al i 0 p;rwa [Int.sub_zero,lN] at this
theorem NR.sign (a:NR):a.i.sign=lr a.d 0:=C2 _ _
theorem BS (x y:Dyadic):(cW x (dr x y)-cW y (dr x y)).sign=lr x y:=by
 rw [Al _ _ (dr x y),Jt,Ki]
theorem Ha (X Y:Int) (h:X.sign≠Y.sign):(if (if X.sign-Y.sign<1 then X.sign-Y.sign else 1)> -1 then (if X.sign-Y.sign<1 then X.sign-Y.sign else 1) else -1)=(X-Y).sign:=by
 rcases aad X 0 with hx|hx|hx<;>rcases aad Y 0 with hy|hy|hy
 ·rw [YV hx,YV hy] at h;omega
 ·rw [YV hx,hy,Int.sub_zero,YV hx];simp
 ·rw [YV hx,YU hy,YV Xj];simp
 ·subst hx;rw [Int.sign_zero,YV hy,YU (a:=0-Y) Xj];simp
 ·rw [hx,hy] at h;omega
 ·subst hx;rw [Int.sign_zero,YU hy,YV (a:=0-Y) Xj];simp
 ·rw [YU hx,YV hy,YU Xj];simp
 ·rw [YU hx,hy,Int.sub_zero,YU hx];simp
 ·rw [YU hx,YU hy] at h;omega
theorem rf {a b:NR} (ha:a.ok) (hb:b.ok):(iM (cW a.d (dr a.d b.d))).size≤6000000∧(iM (cW b.d (dr a.d b.d))).size≤6000000∧ -18000000≤dr a.d b.d∧dr a.d b.d≤18000000:=by
 obtain ⟨_,fa1,fa2,fa3⟩:=mA ha;obtain ⟨_,fb1,fb2,fb3⟩:=mA hb;have hP:=Fz a.d b.d 18000000 Xj Xj;have h1:=vK a.d (dr a.d b.d);have h2:=vK b.d (dr a.d b.d);rw [ef,ef];refine ⟨Xj,Xj,hP.1,hP.2⟩
theorem GD (i:Int): -1≤i.sign∧i.sign≤1:=by
 rcases aad i 0 with h|h|h
 ·rw [YV h];omega
 ·rw [h];simp
 ·rw [YU h];omega
theorem oL (a b:NR) (w:World) (hT:dN w) (ha:a.ok) (hb:b.ok):
  Calls Tryz.prog 125 #[.agg #[.bool a.neg,.string a.bg,.int .i64 a.e],.agg #[.bool b.neg,.string b.bg,.int .i64 b.e]] w fun r w'=>r=.returned (.int .i64 (lr a.d b.d))∧Below w.heap.size w w':=by
 have hh:=Hp.start w;obtain ⟨hs1,hs2,_⟩:=rf ha hb;have hsa:a.i.sign=(cW a.d (dr a.d b.d)).sign:=by rw [NR.sign,C2 _ (dr a.d b.d),Jt]
 have hsb:b.i.sign=(cW b.d (dr a.d b.d)).sign:=by rw [NR.sign,C2 _ (dr a.d b.d),Ki]
 have hba:=GD a.i;have hbb:=GD b.i;by_cases hne:a.i.sign=b.i.sign
 ·refine PF ?_;refine sr ?_;refine cv hh [_,_,_] ?_;intro b2 w2 hh;refine cv hh [_,_,_] ?_;intro b3 w3 hh;refine aI (aa (ah (ah ?_)));refine a0 3 [[(2,none)],[(8,some 0)],[(3,none)]] [(2,10),(1,9),(0,8)] hh mixed Xl ?_;refine fG 1 [_,_,_] ?_;refine dC (fun _ hj=>iB a _) ?_;refine fG 0 [_,_,_] ?_;refine aO ?_;intro f W hJ hV;have hb_1:=hJ.bl;obtain ⟨v10,v9,v8,_⟩:=hV;replace hh:=hJ.hp;refine aW (bm (ae v10 (ae v9 (ae v8 aV)))) ?_;dsimp only [cd];clear hJ;refine bA hh (iB b _) rfl ?_;intro w11 hh;refine aI (aI (aa (sr (mI (mI ?_)))));refine wV ?_;refine cg hh 1 [_,_,_] ?_;refine cg hh 0 [_,_,_] ?_;refine bA hh (qk a b _ (hT.hp hh) ha hb) rfl ?_;intro w22 hh;refine bP hh ?_;intro b7 w7 hh;refine bR hh 0 [_,_,_,_,_] ?_;intro ws hh;replace hh:Hp _ (.blk _ _ [_,_,_,_,_] _::_) _:=hh;refine aa (sr (bH ?_));refine cg hh 0 [_,_] (bH ?_);refine cg hh 0 [_,_] ?_;refine bA hh (DL _ _ _ _ _ Xj Xj) rfl ?_;intro w27 hh;rw [fh,fh,BS];exact Ag
 ·refine PF ?_;refine sr ?_;refine cv hh [_,_,_] ?_;intro b2 w2 hh;refine cv hh [_,_,_] ?_;intro b3 w3 hh;refine aI (aa (ah (ah ?_)));refine a0 3 [[(2,none)],[(8,some 0)],[(3,none)]] [(2,10),(1,9),(0,8)] hh mixed Xl ?_;refine fG 1 [_,_,_] ?_;refine dC (fun _ hj=>iB a _) ?_;refine fG 0 [_,_,_] ?_;refine aO ?_;intro f W hJ hV;have hb_1:=hJ.bl;obtain ⟨v10,v9,v8,_⟩:=hV;replace hh:=hJ.hp;refine aW (bm (ae v10 (ae v9 (ae v8 aV)))) ?_;dsimp only [cd];clear hJ;refine bA hh (iB b _) rfl ?_;intro w11 hh;refine aI (aI (aa (sr (mI (mI ?_)))));refine cJ (aa (cT (sr (mI (mI ?_)))));refine ep ?_;refine xG rfl rfl Xk ?_;refine lz rfl rfl Xk ?_;refine aI (aa (aw (aK ?_)));refine df ?_;refine ⟨?_,hh.below⟩;rw [hsa,hsb] at hne;rw [hsa,hsb,←BS a.d b.d,←Ha _ _ hne]
def m9 (n:Int):Dyadic:=Dyadic.ofIntWithPrec 1 (-n)
theorem NH (i p n:Int):Dyadic.ofIntWithPrec i (p-n)=Dyadic.ofIntWithPrec i p*m9 n:=by
 rw [m9,tE,Int.mul_one];rfl
def l4:List Dyadic→Dyadic:=fun l=>l.foldl (· + ·) 0
theorem xM (l:List Dyadic) (x:Dyadic):l4 (l++[x])=l4 l+x:=by simp [l4]
theorem Sz.sum {l:List Dyadic} (h:∀x∈l,Sz k x):Sz (k+l.length) (l4 l):=by
 have:∀(n:Nat),n≤l.length→Sz (k+n) (l4 (l.take n)):=by
  intro n
  induction n with
  |zero=>intro _;exact Sz.zero _
  |succ n ih=>
   intro hn;obtain ⟨x,hx⟩:=ak (l:=l) (k:=n) Xj;rw [az hx,xM];exact (ih Xj).add ((h x (Xt hx)).mono Xj)
 have h2:=this l.length (Xr _);rwa [Z2] at h2
theorem vC (a b:NR) (w:World) (hT:dN w) (ha:a.ok) (hb:b.ok):
  Calls Tryz.prog 68 #[.agg #[.bool (iN (cW a.d (dr a.d b.d)+cW b.d (dr a.d b.d))),.string (iM (cW a.d (dr a.d b.d)+cW b.d (dr a.d b.d)))],.int .i64 (-(dr a.d b.d))] w fun r w'=>r=.returned (.agg #[.bool (nR (a.d+b.d)).neg,.string (nR (a.d+b.d)).bg,.int .i64 (nR (a.d+b.d)).e])∧Below w.heap.size w w':=by
 obtain ⟨hs1,hs2,hP1,hP2⟩:=rf ha hb;rw [ef] at hs1 hs2;have h3:=ql (cW a.d (dr a.d b.d)) (cW b.d (dr a.d b.d));have:=ik (iN (cW a.d (dr a.d b.d)+cW b.d (dr a.d b.d))) (iM (cW a.d (dr a.d b.d)+cW b.d (dr a.d b.d))) (-(dr a.d b.d)) w hT (by rw [ef];omega) Xj Xj;rw [fh,Int.neg_neg,O3] at this;exact this
theorem fY (L:Option Addr) (n c:Nat) (l:List NR) (w:World) (hT:dN w) (hS:Sl w L n 3 (ay NR.cells l)) (hl:∀a∈l,a.ok) (k:Nat) (hk:∀a∈l,Sz k a.d) (hkn:k+n≤3999990):
  Calls Tryz.prog 56 #[.slice L n c] w fun r w'=>r=.returned (.agg #[.bool (nR (l4 (l.map NR.d))).neg,.string (nR (l4 (l.map NR.d))).bg,.int .i64 (nR (l4 (l.map NR.d))).e])∧Below w.heap.size w w':=by
 have hln:=hS.bp NR.len Xj;have hh:=Hp.start w;refine aj (N:=27) (l:=[.slice L n c]) Tryz.func56 rfl rfl (by simp) ?_;refine sr ?_;refine bP hh ?_;intro b2 w2 hh;refine aa (sr ?_);refine bP hh ?_;intro b3 w3 hh;refine yc ?_;refine aR [5,6,9,10,11,12,13,14,15,16,17,18,19,20,21,22,23,24,25] 9
  (fun j w'=>∃(i:Nat) (S:Dyadic),i≤n∧j=.int .i64 i∧S=l4 ((l.take i).map NR.d)∧Hp w [.blk b3 40 [.bool (nR S).neg,.string (nR S).bg,.int .i64 (nR S).e] (0,0),.blk b2 40 [.bool false,.string (ByteArray.mk #[]),.int .i64 0] (0,0)] w')
  (fun j _=>n-(intOf j).toNat) ?_ ?_
 ·exact ⟨0,0,Xs _,rfl,rfl,hh⟩
 ·clear hh;rintro ρ' j w' ⟨i,S,hi,rfl,hS2,hh⟩;by_cases hlt:i<n
  ·obtain ⟨x,hx⟩:=ak (l:=l) (k:=i) Xj;obtain ⟨ad,rfl,hr⟩:=hS.at_ Xj;have hxm:=Xt hx;have hS3:l4 ((l.take (i+1)).map NR.d)=S+x.d:=by rw [az hx,Yc,ZX,xM,hS2]
   have hSz:Sz (k+i) S:=by
    rw [hS2];have:=Sz.sum (k:=k) (l:=(l.take i).map NR.d) (fun y hy=>by
     obtain ⟨a,ha,rfl⟩:=XG.1 hy;exact hk a (YY ha))
    rw [XA,XP,Ys Xj] at this;exact this
   have hSo:=hSz.ok Xj;have hlc:=fun w1 hT1=>qk (nR S) x w1 hT1 hSo (hl x hxm);have hmc:=fun w1 hT1=>vC (nR S) x w1 hT1 hSo (hl x hxm);obtain ⟨hs1,hs2,_⟩:=rf hSo (hl x hxm);rw [bI] at hlc hmc hs1 hs2;have e1:([iR (cW S (dr S x.d)),iR (cW x.d (dr S x.d))].map IR.v).sum=cW S (dr S x.d)+cW x.d (dr S x.d):=by
    simp only [XQ,Ye,List.sum_cons,List.sum_nil,T0];omega
   have hac:∀(A:Option Addr) (cc:Nat) (w1:World),Sl w1 A 2 2 (ay IR.cells [iR (cW S (dr S x.d)),iR (cW x.d (dr S x.d))])→Calls Tryz.prog 113 #[.slice A 2 cc] w1 fun e w'=>e=.returned (.agg #[.bool (iN (cW S (dr S x.d)+cW x.d (dr S x.d))),.string (iM (cW S (dr S x.d)+cW x.d (dr S x.d)))])∧Below w1.heap.size w1 w':=fun A cc w1 hsl=>by
    have:=vO A 2 cc [iR (cW S (dr S x.d)),iR (cW x.d (dr S x.d))] w1 hsl Xj (by simp [iR];omega);rw [e1] at this;exact this
   refine sr ?_;refine dT ?_;refine cx ?_;refine EN ?_;refine bP hh ?_;intro b5 w5 hh;refine bR hh 0 [_,_,_] ?_;intro ws hh;replace hh:Hp _ (.blk _ _ [_,_,_] _::_) _:=hh;refine aa (sr ?_);refine cg hh 1 [_,_,_] ?_;refine cg hh 0 [_,_,_] ?_;refine bA hh (hlc _ (hT.hp hh)) rfl ?_;intro w15 hh;refine bP hh ?_;intro b6 w6 hh;refine bR hh 0 [_,_,_,_,_] ?_;intro ws hh;replace hh:Hp _ (.blk _ _ [_,_,_,_,_] _::_) _:=hh;refine aa ?_;refine a0 8 [[(6,none)],[(16,some 0)],[(6,none)],[(18,some 2)],[(17,some 1),(19,some 3)],[(20,some 4)],[(6,none)],[(22,some 6)]] [(7,23),(6,22),(5,21),(4,20),(3,19),(2,18),(1,17),(0,16)] hh mixed Xl ?_;refine ej ?_;refine fG 0 [_,_] ?_;refine ej ?_;refine fG 0 [_,_] ?_;refine rD [_,_,_,_] ?_;refine aQ (i:=5) (Is (.agg #[.bool (iN (cW S (dr S x.d)+cW x.d (dr S x.d))),.string (iM (cW S (dr S x.d)+cW x.d (dr S x.d)))])) Is.ext ?_ ?_
   ·intro ρ1 w1 hj hR;obtain ⟨A20,c20,h20,s20⟩:=hR.1;exact aY rfl (aJ ar.out (av h20 aU)) (hac A20 c20 _ s20) (fun _ _ hq=>⟨_,hq.1,hq.2,rfl⟩)
   refine ej ?_;refine fN 0 ?_;refine aO ?_;intro f W hJ hV;have hb_6:=hJ.bl;obtain ⟨v23,v22,v21,v20,v19,v18,v17,v16,_⟩:=hV;obtain ⟨A20,c20,e20,f20⟩:Rows _ _ _ (f 4) W:=v20;replace hh:=hJ.hp;refine aW (bm (ae v23 (ae v22 (ae v21 (ae e20 (ae v19 (ae v18 (ae v17 (ae v16 aV))))))))) ?_;dsimp only [cd];clear e20 hJ;refine bA hh (hmc _ (hT.hp hh)) rfl ?_;intro w24 hh;refine bR hh 2 [_,_,_] ?_;intro ws hh;replace hh:Hp _ (_::_::.blk _ _ [_,_,_] _::_) _:=hh;refine fp ?_;refine bk (mI (aA (ai ?_)));replace hh:=hh.sub ((X9 _ _).trans (X9 _ _));exact Pr
  ·exact Uk
theorem jA (x y:Dyadic):l4 [x,y]=x+y:=by
 show (0+x)+y=x+y;rw [ZF]
theorem kx (a b:NR) (w:World) (hT:dN w) (ha:a.ok) (hb:b.ok) (k:Nat) (hka:Sz k a.d) (hkb:Sz k b.d) (hk:k≤3999980):
  Calls Tryz.prog 89 #[.agg #[.bool a.neg,.string a.bg,.int .i64 a.e],.agg #[.bool b.neg,.string b.bg,.int .i64 b.e]] w fun r w'=>r=.returned (.agg #[.bool (nR (a.d-b.d)).neg,.string (nR (a.d-b.d)).bg,.int .i64 (nR (a.d-b.d)).e])∧Below w.heap.size w w':=by
 have hh:=Hp.start w;obtain ⟨hb1,hb2,hb3⟩:=hb;have e1:l4 ([a,nR (-b.d)].map NR.d)=a.d-b.d:=by
  simp only [XQ,Ye,bI,jA];rfl
 have hac:∀(A:Option Addr) (cc:Nat) (w1:World),dN w1→Sl w1 A 2 3 (ay NR.cells [a,nR (-b.d)])→Calls Tryz.prog 56 #[.slice A 2 cc] w1 fun r w'=>r=.returned (.agg #[.bool (nR (a.d-b.d)).neg,.string (nR (a.d-b.d)).bg,.int .i64 (nR (a.d-b.d)).e])∧Below w1.heap.size w1 w':=fun A cc w1 hT1 hsl=>by
  have:=fY A 2 cc [a,nR (-b.d)] w1 hT1 hsl (by simpa using ⟨ha,hkb.neg.ok Xj⟩) k (by simpa [bI] using ⟨hka,hkb.neg⟩) Xj;rw [e1] at this;exact this
 refine aj (N:=10) (l:=[.agg #[.bool a.neg,.string a.bg,.int .i64 a.e],.agg #[.bool b.neg,.string b.bg,.int .i64 b.e]]) Tryz.func89 rfl rfl (by simp) ?_;refine sr ?_;refine cv hh [_,_,_] ?_;intro b2 w2 hh;refine cv hh [_,_,_] ?_;intro b3 w3 hh;refine bP hh ?_;intro b4 w4 hh;refine aa (ah ?_);refine a0 3 [[(2,none)],[(3,none)],[(6,some 1)]] [(2,7),(1,6),(0,5)] hh mixed Xl ?_;refine fG 2 [_,_,_] ?_;refine fG 1 [_,_,_] ?_;refine dC (fun _ hj=>pg b _ (hT.hp hj.hp) Xj Xj Xj) ?_;refine aO ?_;intro f W hJ hV;have hb_1:=hJ.bl;obtain ⟨v7,v6,v5,_⟩:=hV;replace hh:=hJ.hp;refine aW (bm (ae v7 (ae v6 (ae v5 aV)))) ?_;dsimp only [cd];clear hJ;refine sj ?_;intro b8 w8 hh;refine bA hh (hac _ _ _ (hT.hp hh) (hh.aC (i:=0) rfl)) rfl ?_;intro w9 hh;exact Lk
def fU:List Dyadic→Dyadic:=fun l=>l.foldl (· * ·) 1
theorem tU (l:List Dyadic) (x:Dyadic):fU (l++[x])=fU l*x:=by simp [fU]
theorem Sz.one:Sz 1 1:=⟨2,by decide+kernel,Xk⟩
theorem Sz.prod {l:List Dyadic} (h:∀x∈l,Sz k x):Sz (1+k*l.length) (fU l):=by
 have:∀(n:Nat),n≤l.length→Sz (1+k*n) (fU (l.take n)):=by
  intro n
  induction n with
  |zero=>intro _;exact Sz.one
  |succ n ih=>
   intro hn;obtain ⟨x,hx⟩:=ak (l:=l) (k:=n) Xj;rw [az hx,tU];exact ((ih Xj).mul (h x (Xt hx))).mono (by rw [YS];omega)
 have h2:=this l.length (Xr _);rwa [Z2] at h2
theorem dW (L:Option Addr) (n c:Nat) (l:List NR) (w:World) (hT:dN w) (hS:Sl w L n 3 (ay NR.cells l)) (hl:∀a∈l,a.ok) (k:Nat) (hk:∀a∈l,Sz k a.d) (hkn:k*n≤3999980) (hn:n≤1000000):
  Calls Tryz.prog 54 #[.slice L n c] w fun r w'=>r=.returned (.agg #[.bool (nR (fU (l.map NR.d))).neg,.string (nR (fU (l.map NR.d))).bg,.int .i64 (nR (fU (l.map NR.d))).e])∧Below w.heap.size w w':=by
 have hln:=hS.bp NR.len Xj;have hh:=Hp.start w;refine aj (N:=27) (l:=[.slice L n c]) Tryz.func54 rfl rfl (by simp) ?_;refine sr ?_;refine bP hh ?_;intro b2 w2 hh;refine aa (sr ?_);refine AM ?_;intro w6 hh;refine bP hh ?_;intro b3 w3 hh;refine bR hh 0 [_,_,_] ?_;intro ws hh;replace hh:Hp _ (.blk _ _ [_,_,_] _::_) _:=hh;refine yc ?_;refine aR [5,9,10,11,12,13,14,15,16,17,18,19,20,21,22,23,24,25] 9
  (fun j w'=>∃(i:Nat) (S:Dyadic),i≤n∧j=.int .i64 i∧S=fU ((l.take i).map NR.d)∧Hp w [.blk b3 40 [.bool (nR S).neg,.string (nR S).bg,.int .i64 (nR S).e] (0,0),.blk b2 40 [.bool false,.string (ByteArray.mk #[]),.int .i64 0] (0,0)] w')
  (fun j _=>n-(intOf j).toNat) ?_ ?_
 ·exact ⟨0,_,Xs _,rfl,rfl,hh⟩
 ·clear hh;rintro ρ' j w' ⟨i,S,hi,rfl,hS2,hh⟩;by_cases hlt:i<n
  ·obtain ⟨x,hx⟩:=ak (l:=l) (k:=i) Xj;obtain ⟨ad,rfl,hr⟩:=hS.at_ Xj;have hxm:=Xt hx;have hS3:fU ((l.take (i+1)).map NR.d)=S*x.d:=by rw [az hx,Yc,ZX,tU,hS2]
   have hSz:Sz (1+k*i) S:=by
    rw [hS2];have:=Sz.prod (k:=k) (l:=(l.take i).map NR.d) (fun y hy=>by
     obtain ⟨a,ha,rfl⟩:=XG.1 hy;exact hk a (YY ha))
    rw [XA,XP,Ys Xj] at this;exact this
   have hki:k*i≤k*n:=X4 _ hi;obtain ⟨so1,so2,so3⟩:=hSz.ok Xj;obtain ⟨xo1,xo2,xo3⟩:=hl x hxm;have e1:mN ([IR.mk (nR S).neg (nR S).bg,IR.mk x.neg x.bg].map IR.v)=(nR S).i*x.i:=by
    simp only [XQ,Ye,mN,Int.mul_one];rfl
   have e2:Dyadic.ofIntWithPrec ((nR S).i*x.i) (-((nR S).e+x.e))=S*x.d:=by
    have:=tE (nR S).i x.i (-(nR S).e) (-x.e);rw [Int.neg_add,←this];congr 1;exact bI S
   have hac:∀(A:Option Addr) (cc:Nat) (w1:World),Sl w1 A 2 2 (ay IR.cells [IR.mk (nR S).neg (nR S).bg,IR.mk x.neg x.bg])→Calls Tryz.prog 111 #[.slice A 2 cc] w1 fun e w'=>e=.returned (.agg #[.bool (iN ((nR S).i*x.i)),.string (iM ((nR S).i*x.i))])∧Below w1.heap.size w1 w':=fun A cc w1 hsl=>by
    have:=Dq A 2 cc [IR.mk (nR S).neg (nR S).bg,IR.mk x.neg x.bg] w1 hsl Xj (by simp;omega);rw [e1] at this;exact this
   have hmc:∀w1,dN w1→Calls Tryz.prog 68 #[.agg #[.bool (iN ((nR S).i*x.i)),.string (iM ((nR S).i*x.i))],.int .i64 ((nR S).e+x.e)] w1 fun r w'=>r=.returned (.agg #[.bool (nR (S*x.d)).neg,.string (nR (S*x.d)).bg,.int .i64 (nR (S*x.d)).e])∧Below w1.heap.size w1 w':=fun w1 hT1=>by
    have hb1:=kS (nR S).neg (nR S).bg;have hb2:=kS x.neg x.bg;have hb3:=lW (nR S).i x.i;have:=ik (iN ((nR S).i*x.i)) (iM ((nR S).i*x.i)) ((nR S).e+x.e) w1 hT1 (by rw [ef];unfold NR.i at hb3 ⊢;omega) Xj Xj;rw [fh,e2] at this;exact this
   refine sr ?_;refine dT ?_;refine cx ?_;refine EN ?_;refine bP hh ?_;intro b5 w5 hh;refine bR hh 0 [_,_,_] ?_;intro ws hh;replace hh:Hp _ (.blk _ _ [_,_,_] _::_) _:=hh;refine aa ?_;refine a0 11 [[(3,none)],[(13,some 0)],[(5,none)],[(15,some 2)],[(14,some 1),(16,some 3)],[(17,some 4)],[(3,none)],[(19,some 6)],[(5,none)],[(21,some 8)],[(20,some 7),(22,some 9)]] [(10,23),(9,22),(8,21),(7,20),(6,19),(5,18),(4,17),(3,16),(2,15),(1,14),(0,13)] hh mixed Xl ?_;refine ej ?_;refine fG 1 [_,_] ?_;refine ej ?_;refine fG 0 [_,_] ?_;refine rD [_,_,_,_] ?_;refine aQ (i:=5) (Is (.agg #[.bool (iN ((nR S).i*x.i)),.string (iM ((nR S).i*x.i))])) Is.ext ?_ ?_
   ·intro ρ1 w1 hj hR;obtain ⟨A17,c17,h17,s17⟩:=hR.1;exact aY rfl (aJ ar.out (av h17 aU)) (hac A17 c17 _ s17) (fun _ _ hq=>⟨_,hq.1,hq.2,rfl⟩)
   refine ej ?_;refine fN 1 ?_;refine ej ?_;refine fN 0 ?_;refine rL ?_;refine aO ?_;intro f W hJ hV;have hb_5:=hJ.bl;obtain ⟨v23,v22,v21,v20,v19,v18,v17,v16,v15,v14,v13,_⟩:=hV;obtain ⟨A17,c17,e17,f17⟩:Rows _ _ _ (f 4) W:=v17;replace hh:=hJ.hp;refine aW (bm (ae v23 (ae v22 (ae v21 (ae v20 (ae v19 (ae v18 (ae e17 (ae v16 (ae v15 (ae v14 (ae v13 aV)))))))))))) ?_;dsimp only [cd];clear e17 hJ;refine bA hh (hmc _ (hT.hp hh)) rfl ?_;intro w24 hh;refine bR hh 1 [_,_,_] ?_;intro ws hh;replace hh:Hp _ (_::.blk _ _ [_,_,_] _::_) _:=hh;refine fp ?_;refine bk (mI (aA (ai ?_)));replace hh:=hh.sub (X9 _ _);exact Pr
  ·exact Uk
theorem Ot (i p:Int) (n:Nat):Dyadic.ofIntWithPrec i p^n=Dyadic.ofIntWithPrec (i^n) (p*n):=by
 induction n with
 |zero=>rw [ZS];simp;rfl
 |succ n ih=>rw [aah,ih,tE,Int.pow_succ,Zm,Int.mul_add];simp
theorem Tj (i p:Int):(nR (Dyadic.ofIntWithPrec i p)).bg.size≤(bG i.natAbs+7)/8∧(i=0∨ -p≤(nR (Dyadic.ofIntWithPrec i p)).e∧(nR (Dyadic.ofIntWithPrec i p)).e≤ -p+bG i.natAbs)∧(i=0→(nR (Dyadic.ofIntWithPrec i p)).e=0):=by
 by_cases h0:i=0
 ·subst h0;rw [lN,l3];exact ⟨Xs _,.inl rfl,fun _=>rfl⟩
 ·have h2:=lk h0;rw [ze h0,nR];simp only;refine ⟨?_,.inr ⟨Xj, ?_⟩,fun h=>absurd h h0⟩
  ·rw [ef];have:bG (i>>>i.trailingZeros).natAbs≤bG i.natAbs:=by
    apply dK;refine Yv ?_ (dt _);rw [Int.shiftRight_eq_div_pow];exact aaS _ _
   omega
  ·have h3:2^i.trailingZeros<2^bG i.natAbs:=Yv h2 (dt _);have:=(aaV Xj).1 h3;omega
theorem uD (a:NR) (n:Int) (w:World) (hT:dN w) (ha:a.ok) (hs:n.toNat*a.bg.size≤1000000) (hn:n≤1000):
  Calls Tryz.prog 88 #[.agg #[.bool a.neg,.string a.bg,.int .i64 a.e],.int .i64 n] w fun r w'=>r=.returned (.agg #[.bool (nR (a.d^n.toNat)).neg,.string (nR (a.d^n.toNat)).bg,.int .i64 (nR (a.d^n.toNat)).e])∧Below w.heap.size w w':=by
 have hh:=Hp.start w;obtain ⟨ha1,ha2,ha3⟩:=ha;obtain ⟨_,fa1,fa2,fa3⟩:=mA (a:=a) ⟨ha1,ha2,ha3⟩;have hsz:(nR a.d).bg.size≤a.bg.size:=by
  have:=(Tj a.i (-a.e)).1;have h2:=kS a.neg a.bg;unfold NR.d NR.i at*;omega
 have hms:n.toNat*(nR a.d).bg.size≤n.toNat*a.bg.size:=X4 _ hsz;have e1:(if (0:Int)>n then 0 else n)=(n.toNat:Int):=by split<;>omega
 have hm:n.toNat≤1000:=Xj;have hlo: -18000000*1000≤(nR a.d).e*(n.toNat:Int):=by
  have h1:(-18000000:Int)*n.toNat≤(nR a.d).e*n.toNat:=Int.mul_le_mul_of_nonneg_right fa2 Xj;omega
 have hhi:(nR a.d).e*(n.toNat:Int)≤18000000*1000:=by
  have h1:(nR a.d).e*n.toNat≤(18000000:Int)*n.toNat:=Int.mul_le_mul_of_nonneg_right fa3 Xj;omega
 have hpc:=fun w1=>DF (nR a.d).neg (nR a.d).bg n w1 Xj Xj Xj;have hmc:∀w1,dN w1→Calls Tryz.prog 68 #[.agg #[.bool (iN (iv (nR a.d).neg (nR a.d).bg^n.toNat)),.string (iM (iv (nR a.d).neg (nR a.d).bg^n.toNat))],.int .i64 ((nR a.d).e*(n.toNat:Int))] w1 fun r w'=>r=.returned (.agg #[.bool (nR (a.d^n.toNat)).neg,.string (nR (a.d^n.toNat)).bg,.int .i64 (nR (a.d^n.toNat)).e])∧Below w1.heap.size w1 w':=fun w1 hT1=>by
  have hb:=qh (iv (nR a.d).neg (nR a.d).bg) n.toNat;have hb2:=kS (nR a.d).neg (nR a.d).bg;have hb3:n.toNat*bG (iv (nR a.d).neg (nR a.d).bg).natAbs≤n.toNat*(8*(nR a.d).bg.size):=X4 _ hb2;rw [aaL] at hb3;have:=ik (iN (iv (nR a.d).neg (nR a.d).bg^n.toNat)) (iM (iv (nR a.d).neg (nR a.d).bg^n.toNat)) ((nR a.d).e*(n.toNat:Int)) w1 hT1 (by rw [ef];omega) Xj Xj;have e2:Dyadic.ofIntWithPrec (iv (nR a.d).neg (nR a.d).bg^n.toNat) (-((nR a.d).e*(n.toNat:Int)))=a.d^n.toNat:=by
   have h3:=bI a.d
   conv=>rhs;rw [←h3,NR.d,Ot]
   rw [Int.neg_mul];rfl
  rw [fh,e2] at this;exact this
 refine aj (N:=17) (l:=[.agg #[.bool a.neg,.string a.bg,.int .i64 a.e],.int .i64 n]) Tryz.func88 rfl rfl (by simp) ?_;refine sr ?_;refine cv hh [_,_,_] ?_;intro b2 w2 hh;refine bP hh ?_;intro b4 w4 hh;refine aa (sr ?_);refine cg hh 1 [_,_,_] ?_;refine bA hh (eN a _ (hT.hp hh) Xj Xj Xj) rfl ?_;intro w6 hh;refine bR hh 1 [_,_,_] ?_;intro ws hh;replace hh:Hp _ (_::.blk _ _ [_,_,_] _::_) _:=hh;refine aa (ah ?_);refine a0 9 [[(2,none)],[(7,some 0)],[(1,none)],[(8,some 1),(9,some 2)],[(2,none)],[(11,some 4)],[(1,none)],[(13,some 6)],[(12,some 5),(14,some 7)]] [(8,15),(7,14),(6,13),(5,12),(4,11),(3,10),(2,9),(1,8),(0,7)] hh mixed Xl ?_;refine ej ?_;refine fG 1 [_,_] ?_;refine dJ ?_;refine dC (fun _ hj=>hpc _) ?_;refine ej ?_;refine fN 1 ?_;refine dJ ?_;refine aQ (i:=7) (Is (.int .i64 (n.toNat:Int))) (Is.ext) ?_ ?_
 ·intro ρ1 w1 hj hR;exact db rfl ((Qm (ρ:=ρ1) (x:=.tmp 13) (show ρ1 13=Value.int .i64 n from hR.1) rfl).trans (by rw [e1])) ⟨Below.refl _ _,rfl⟩
 refine Nq ?_;refine aO ?_;intro f W hJ hV;have hb_2:=hJ.bl;obtain ⟨v15,v14,v13,v12,v11,v10,v9,v8,v7,_⟩:=hV;replace hh:=hJ.hp;refine aW (bm (ae v15 (ae v14 (ae v13 (ae v12 (ae v11 (ae v10 (ae v9 (ae v8 (ae v7 aV)))))))))) ?_;dsimp only [cd];clear hJ;refine bA hh (hmc _ (hT.hp hh)) rfl ?_;intro w16 hh;exact Mc
def iP (f:Dyadic→Dyadic→Bool):List Dyadic→Dyadic
 |[]=>0
 |a::r=>r.foldl (fun out a=>if f a out then a else out) a
theorem Et (f:Dyadic→Dyadic→Bool) {l:List Dyadic} (h:l≠[]) (x:Dyadic):iP f (l++[x])=if f x (iP f l) then x else iP f l:=by
 cases l with
 |nil=>exact absurd rfl h
 |cons a r=>
  show (r++[x]).foldl _ a=_;rw [aaH]
  rfl
theorem pH (L:Option Addr) (n c:Nat) (l:List NR) (g:FuncId) (f:Dyadic→Dyadic→Bool) (w:World) (hT:dN w) (hS:Sl w L n 3 (ay NR.cells l)) (hl:∀a∈l,a.ok) (hn:n≤1000000) [ar Tryz.prog g]
  (hg:∀(a b:NR) (w:World),dN w→a.ok→b.ok→Calls Tryz.prog g #[.agg #[.bool a.neg,.string a.bg,.int .i64 a.e],.agg #[.bool b.neg,.string b.bg,.int .i64 b.e]] w fun r w'=>r=.returned (.bool (f a.d b.d))∧Below w.heap.size w w'):
  Calls Tryz.prog 214 #[.slice L n c,.func (.func g) #[] #[]] w fun r w'=>r=.returned (.agg #[.bool (nR (iP f (l.map NR.d))).neg,.string (nR (iP f (l.map NR.d))).bg,.int .i64 (nR (iP f (l.map NR.d))).e])∧Below w.heap.size w w':=by
 have hln:=hS.bp NR.len Xj;have hh:=Hp.start w;refine aj (N:=27) (l:=[.slice L n c,.func (.func g) #[] #[]]) Tryz.func214 rfl rfl (by simp) ?_;refine sr ?_;refine bP hh ?_;intro b4 w4 hh;refine aa (sr ?_);refine bP hh ?_;intro b5 w5 hh;refine yc ?_;refine aR [6,7,10,11,12,13,14,15,16,17,18,19,20,21,22,23,24] 10
  (fun j w'=>∃(i:Nat) (o:NR),i≤n∧j=.int .i64 i∧o.ok∧o.d=iP f ((l.take i).map NR.d)∧Hp w [.blk b5 40 [.bool o.neg,.string o.bg,.int .i64 o.e] (0,0),.blk b4 40 [.bool false,.string (ByteArray.mk #[]),.int .i64 0] (0,0)] w')
  (fun j _=>n-(intOf j).toNat) ?_ ?_
 ·exact ⟨0,nR 0,Xs _,rfl,(Sz.zero 0).ok Xj,rfl,hh⟩
 ·clear hh;rintro ρ' j w' ⟨i,o,hi,rfl,hok,hod,hh⟩;by_cases hlt:i<n
  ·obtain ⟨x,hx⟩:=ak (l:=l) (k:=i) Xj;obtain ⟨ad,rfl,hr⟩:=hS.at_ Xj;have hxo:=hl x (Xt hx);have htk:(l.take (i+1)).map NR.d=(l.take i).map NR.d++[x.d]:=by rw [az hx,Yc,ZX]
   by_cases h0:i=0
   ·subst h0;refine sr ?_;refine dR ?_;refine EZ ?_;refine EN ?_;refine bP hh ?_;intro b7 w7 hh;refine aI ?_;refine bR hh 0 [_,_,_] ?_;intro ws hh;replace hh:Hp _ (.blk _ _ [_,_,_] _::_) _:=hh;refine aa (sr (mI ?_));refine cR (mB ?_);refine gS (gS (gS ?_));refine gy ?_;refine eR ?_;refine aa (cT (al ?_));refine cg hh 0 [_,_,_] ?_;refine bR hh 1 [_,_,_] ?_;intro ws hh;replace hh:Hp _ (_::.blk _ _ [_,_,_] _::_) _:=hh;refine fp ?_;refine bk (mI (aA (ai ?_)));replace hh:=hh.sub (X9 _ _);refine ⟨⟨1,x,Xj,rfl,hxo,by rw [htk];rfl,hh⟩,by show n-(0+1)<n-0;omega, ?_⟩;exact dV
   ·have hne:(l.take i).map NR.d≠[]:=by
     intro h;have:=Yu List.length h;rw [XA,XP,aae] at this;omega
    have hb:=Et f hne x.d;rw [←htk,←hod] at hb;refine sr ?_;refine dR ?_;refine cx ?_;refine EN ?_;refine bP hh ?_;intro b7 w7 hh;refine aI ?_;refine bR hh 0 [_,_,_] ?_;intro ws hh;replace hh:Hp _ (.blk _ _ [_,_,_] _::_) _:=hh;refine aa (sr (mI ?_));refine cR (mB (gT ?_));refine iQ ?_;refine gT ?_;refine cg hh 0 [_,_,_] (gT ?_);refine cg hh 1 [_,_,_] ?_;refine aD rfl rfl ?_;refine fI (hg x o _ (hT.hp hh) hxo hok) ar.out rfl rfl Xk ?_;rintro e_ w21 ⟨rfl,hb_⟩;refine ⟨_,rfl, ?_⟩;replace hh:=hh.ext hb_
    cases hf:f x.d o.d with
    |true=>
     rw [hf,Xo rfl] at hb;refine ez ?_;refine aa (cT (al ?_));refine cg hh 0 [_,_,_] ?_;refine bR hh 1 [_,_,_] ?_;intro ws hh;replace hh:Hp _ (_::.blk _ _ [_,_,_] _::_) _:=hh;refine fp ?_;refine bk (mI (aA (ai ?_)));replace hh:=hh.sub (X9 _ _);refine ⟨⟨i+1,x,Xj,rfl,hxo,hb.symm,hh⟩,by show n-(i+1)<n-i;omega, ?_⟩;exact dV
    |false=>
     rw [hf] at hb;refine ez ?_;refine B1 ?_;refine bk (mI (aA (ai ?_)));replace hh:=hh.sub (X9 _ _);refine ⟨⟨i+1,o,Xj,rfl,hok,hb.symm,hh⟩,by show n-(i+1)<n-i;omega, ?_⟩;exact dV
  ·rw [Xz Xj] at hod;obtain ⟨o1,o2,o3⟩:=hok;refine sr ?_;refine ll ?_;refine cg hh 0 [_,_,_] ?_;refine bA hh (eN o _ (hT.hp hh) Xj Xj Xj) rfl ?_;intro w26 hh;rw [hod];exact Lk
theorem OP (x y:Dyadic):lr x y<0↔x<y:=by
 unfold lr;split
 ·rename_i h;simp [h]
 ·rename_i h;split<;>simp [h]
theorem Om (x y:Dyadic):0<lr x y↔y<x:=by
 unfold lr;split
 ·rename_i h;have:¬y<x:=by grind
  simp [this]
 ·split<;>rename_i h<;>simp [h]
theorem BK (a b:NR) (w:World) (hT:dN w) (ha:a.ok) (hb:b.ok):
  Calls Tryz.prog 215 #[.agg #[.bool a.neg,.string a.bg,.int .i64 a.e],.agg #[.bool b.neg,.string b.bg,.int .i64 b.e]] w fun r w'=>r=.returned (.bool (decide (a.d<b.d)))∧Below w.heap.size w w':=by
 have hh:=Hp.start w;have e1:decide (lr a.d b.d<0)=decide (a.d<b.d):=decide_eq_decide.2 (OP _ _);refine aj (N:=9) (l:=[.agg #[.bool a.neg,.string a.bg,.int .i64 a.e],.agg #[.bool b.neg,.string b.bg,.int .i64 b.e]]) Tryz.func215 rfl rfl (by simp) ?_;refine sr ?_;refine cv hh [_,_,_] ?_;intro b2 w2 hh;refine cv hh [_,_,_] ?_;intro b3 w3 hh;refine aB (aa (sr ?_));refine cg hh 1 [_,_,_] ?_;refine cg hh 0 [_,_,_] ?_;refine bA hh (oL a b _ (hT.hp hh) ha hb) rfl ?_;intro w7 hh;refine bf (aB (aa (aw ?_)));refine df ?_;rw [e1];exact ⟨rfl,hh.below⟩
theorem B7 (a b:NR) (w:World) (hT:dN w) (ha:a.ok) (hb:b.ok):
  Calls Tryz.prog 216 #[.agg #[.bool a.neg,.string a.bg,.int .i64 a.e],.agg #[.bool b.neg,.string b.bg,.int .i64 b.e]] w fun r w'=>r=.returned (.bool (decide (b.d<a.d)))∧Below w.heap.size w w':=by
 have hh:=Hp.start w;have e1:decide (0<lr a.d b.d)=decide (b.d<a.d):=decide_eq_decide.2 (Om _ _);refine aj (N:=9) (l:=[.agg #[.bool a.neg,.string a.bg,.int .i64 a.e],.agg #[.bool b.neg,.string b.bg,.int .i64 b.e]]) Tryz.func216 rfl rfl (by simp) ?_;refine sr ?_;refine cv hh [_,_,_] ?_;intro b2 w2 hh;refine cv hh [_,_,_] ?_;intro b3 w3 hh;refine aB (aa (sr ?_));refine cg hh 1 [_,_,_] ?_;refine cg hh 0 [_,_,_] ?_;refine bA hh (oL a b _ (hT.hp hh) ha hb) rfl ?_;intro w7 hh;refine cj (aB (aa (aw ?_)));refine df ?_;rw [e1];exact ⟨rfl,hh.below⟩
theorem DT (L:Option Addr) (n c:Nat) (l:List NR) (w:World) (hT:dN w) (hS:Sl w L n 3 (ay NR.cells l)) (hl:∀a∈l,a.ok) (hn:n≤1000000):
  Calls Tryz.prog 193 #[.slice L n c] w fun r w'=>r=.returned (.agg #[.bool (nR (iP (fun x y=>decide (x<y)) (l.map NR.d))).neg,.string (nR (iP (fun x y=>decide (x<y)) (l.map NR.d))).bg,.int .i64 (nR (iP (fun x y=>decide (x<y)) (l.map NR.d))).e])∧Below w.heap.size w w':=by
 have hh:=Hp.start w;refine aj (N:=5) (l:=[.slice L n c]) Tryz.func193 rfl rfl (by simp) ?_;refine sr ?_;refine bP hh ?_;intro b2 w2 hh;refine aa (sr (mL ?_));refine bA hh (pH L n c l 215 (fun x y=>decide (x<y)) _ (hT.hp hh) (hS.ext hh.below) hl hn BK) rfl ?_;intro w4 hh;exact Mc
theorem Ez (L:Option Addr) (n c:Nat) (l:List NR) (w:World) (hT:dN w) (hS:Sl w L n 3 (ay NR.cells l)) (hl:∀a∈l,a.ok) (hn:n≤1000000):
  Calls Tryz.prog 194 #[.slice L n c] w fun r w'=>r=.returned (.agg #[.bool (nR (iP (fun x y=>decide (y<x)) (l.map NR.d))).neg,.string (nR (iP (fun x y=>decide (y<x)) (l.map NR.d))).bg,.int .i64 (nR (iP (fun x y=>decide (y<x)) (l.map NR.d))).e])∧Below w.heap.size w w':=by
 have hh:=Hp.start w;refine aj (N:=5) (l:=[.slice L n c]) Tryz.func194 rfl rfl (by simp) ?_;refine sr ?_;refine bP hh ?_;intro b2 w2 hh;refine aa (sr (mL ?_));refine bA hh (pH L n c l 216 (fun x y=>decide (y<x)) _ (hT.hp hh) (hS.ext hh.below) hl hn B7) rfl ?_;intro w4 hh;exact Mc
theorem Eh {x y:Dyadic} (h:x<y):lr x y= -1:=by rw [lr,Xo h]
theorem Dc {x y:Dyadic} (h:y<x):lr x y=1:=by
 have:¬x<y:=by grind
 rw [lr,Xp this,Xo h]
theorem IH (x:Dyadic):lr x x=0:=by
 have:¬x<x:=by grind
 rw [lr,Xp this,Xp this]
theorem T2 (x y:Dyadic):x<y∨x=y∨y<x:=by
 rcases Classical.em (x<y) with h|h
 ·exact .inl h
 ·rcases Classical.em (y<x) with h2|h2
  ·exact .inr (.inr h2)
  ·exact .inr (.inl (by grind))
theorem Sl.UI {A:Option Addr}{xs:List Nat} (h:Sl w A n 1 (gI xs)) (hk:k≤n):Sl w A k 1 (gI (xs.take k)):=by
 have hl:=h.1;rw [cV] at hl;refine ⟨by rw [cV,XP];omega,fun h0=> ?_⟩;obtain ⟨ad,he,hr⟩:=h.2 Xj;exact ⟨ad,he,by rw [AA];exact hr.take k⟩
theorem Sl.Um {A:Option Addr}{xs:List Nat} (h:Sl w A n 1 (gI xs)):Sl w A (dX xs).length 1 (gI (dX xs)):=by
 have hl:=h.1;rw [cV] at hl;have:=fg xs;have h2:=h.UI (k:=(dX xs).length) Xj;rwa [←j0] at h2
theorem Hp.SC {H:List HE}{A:Option Addr}{t:TypeId}{xs:List Nat} (h:Hp w0 (.row A n c t 1 (gI xs)::H) w) (hl:xs.length=n):Hp w0 (.row A (dX xs).length c t 1 (gI (dX xs))::H) w:=by
 have h1:=fg xs;have h2:=h.Dv (k:=(dX xs).length) Xj;rw [XK,←AA,←j0] at h2;exact h2
theorem lZ (A:Option Addr) (n c:Nat) (xs:List Nat) (w:World) (hx:Sl w A n 1 (gI xs)) (hc:n≤c) (hn:n≤1000000000000):
  Calls Tryz.prog 206 #[.slice A n c] w fun e w'=>e=.returned (.slice A (dX xs).length c)∧Below w.heap.size w w':=by
 have hlen:xs.length=n:=by have:=hx.1;rw [cV] at this;omega
 have hh:=Hp.start w;refine aj (N:=21) (l:=[.slice A n c]) Tryz.func206 rfl rfl (by simp) ?_;refine sr (aL (aa (sr (mL (aH (aI (aa (ah (ao ?_)))))))));refine aR [3,6,7,8,9,10,11,12,13,14,15,16,17] 3
  (fun v w'=>∃k:Nat,k≤n∧v=.int .i64 k∧dX (xs.take k)=dX xs∧w'=w)
  (fun v _=>(intOf v).toNat) ?_ ?_
 ·exact ⟨n,Xr _,rfl,by rw [Xz Xj],rfl⟩
 ·rintro ρ' v w' ⟨k,hk,rfl,hcut,rfl⟩;by_cases h0:k=0
  ·subst h0;refine ah (sr (mI ?_));refine cj (mB ?_);refine gS (gS (gS (gS ?_)));refine gy ?_;refine gS ?_;refine ez ?_;refine aa (cF (a6 (aE (aE (bq (ai (sr (mL (mI ?_)))))))));refine qN (h:=0) bh.out aM.size rfl rfl Xj Xj Xk ?_;refine aL (aa (aw ?_));refine df ?_;rw [←hcut];exact ⟨rfl,hh.below⟩
  ·obtain ⟨j,rfl⟩:∃j,k=j+1:=⟨k-1,Xj⟩;obtain ⟨d,hd⟩:=ak (l:=xs) (k:=j) Xj;obtain ⟨ad,rfl,hr⟩:=hx.at_ Xj;have hd2:=ru hd;rw [az hd] at hcut;by_cases hz:d=0
   ·subst hz;rw [uF] at hcut;refine ah (sr (mI ?_));refine cj (mB (gT (mL (gT (mI (gT ?_))))));refine ep (gT ?_);refine pK ?_;refine gT ?_;refine jG ?_;refine gT ?_;refine cR ?_;refine eR ?_;refine aa (cT (aq (ai (ao (al (mI ?_))))));refine ep (aI (aA (bz (ai ?_))));refine ⟨⟨j,Xj,by show Value.int _ _=Value.int _ _;congr 1;omega,hcut,rfl⟩,by show (((j+1:Nat):Int)-1).toNat<(((j+1:Nat):Int)).toNat;omega, ?_⟩;exact dV
   ·rw [xg hz] at hcut;refine ah (sr (mI ?_));refine cj (mB (gT (mL (gT (mI (gT ?_))))));refine ep (gT ?_);refine pK ?_;refine gT ?_;refine jG ?_;refine gT ?_;refine cR ?_;refine eR ?_;refine aa (cF (a6 (aE (aE (bq (ai (sr (mL (mI ?_)))))))));refine qN (h:=j+1) bh.out aM.size rfl rfl Xj Xj Xk ?_;refine aL (aa (aw ?_));exact Qq
theorem Hg {s:List UInt8}{c:UInt8} (hc:(Ah s)[j]?=some c.toNat) (hk:k<8):c.toNat/2^k % 2=bn s/2^(8*j+k) % 2:=by
 have h1:=tG (y5 s) hc;rw [←h1,←bn,XS,Yi,show (2^8:Nat)=256 from rfl,←Y6];generalize bn s/256^j=m;have e:(256:Nat)=2^k*2^(8-k):=by rw [←XS,show k+(8-k)=8 by omega]
 have e2:2^(8-k)=2*2^(7-k):=by rw [←Nat.pow_succ'];congr 1;omega
 rw [e,Nat.mod_mul_right_div_self,e2,Nat.mod_mul_right_mod]
theorem eW (a:ByteArray) (w:World) (ha:a.size≤1000000000):
  Calls Tryz.prog 186 #[.string a] w fun e w'=>∃A c,e=.returned (.slice A (aZ 2 (bN a)).length c)∧w'.ownsRow w.heap.size 5 1 (.slice A (aZ 2 (bN a)).length c) (aZ 2 (bN a)).length (gI (aZ 2 (bN a)))∧Below w.heap.size w w':=by
 have hsz:=dQ a;have hh:=Hp.start w;refine aj (N:=28) (l:=[.string a]) Tryz.func186 rfl rfl (by simp) ?_;refine sr (aL (aa (sr (aL (aa (ah (sr (mS ?_))))))));refine bO bh.out rfl Xk ?_;refine ep (aI (aa (ao ?_)));replace hh:=hh.cU 5 1;refine bK [3,4,5,9,10,11,12,13,14,15,16,17,18,19,20,21,22,23,24,25] 3 4
  (fun o v w'=>∃(j:Nat) (A:Option Addr) (c:Nat),j≤a.size∧v=.int .i64 ((a.size:Int)-1-j)∧o=.slice A (8*j) c∧Hp w [.row A (8*j) c 5 1 (gI (bV 2 (8*j) (bN a)))] w')
  (fun _ v _=>(intOf v+1).toNat) ?_ ?_
 ·exact ⟨0,none,0,Xs _,by show Value.int _ _=Value.int _ _;congr 1;omega,rfl,hh⟩
 ·clear hh;rintro ρ' o v w' ⟨j,A,c,hj,rfl,rfl,hh⟩;by_cases hlt:j<a.size
  ·obtain ⟨ch,hc⟩:=ak (l:=a.data.toList) (k:=((a.size:Int)-1-j).toNat) Xj;have hlo:=MA (s:=a.data.toList) (i:=j) (c:=ch) Xj (by rw [←hc];congr 1;omega);have hc8:=ch.toNat_lt;refine ah (sr (mI ?_));refine dL (aa (cT (aq (ai (ah (ao (sr (aI (aa (ao ?_))))))))));refine bK [3,5,13,14,15,16,17,18,19,20,21,22,23,24,25] 3 5
    (fun o v w'=>∃(k:Nat) (A:Option Addr) (c:Nat),k≤8∧v=.int .i64 (k:Int)∧o=.slice A (8*j+k) c∧Hp w [.row A (8*j+k) c 5 1 (gI (bV 2 (8*j+k) (bN a)))] w')
    (fun _ v _=>8-(intOf v).toNat) ?_ ?_
   ·exact ⟨0,A,c,Xs _,rfl,rfl,hh⟩
   ·clear hh;rintro ρ2 o v w2 ⟨k,A2,c2,hk,rfl,rfl,hh⟩;by_cases hk8:k<8
    ·have hst:=Hg hlo hk8;have hand:∀z:Nat,z &&& 1=z % 2:=fun z=>Nat.and_one_is_mod z;have hcl:ch.toNat/2^(k:Int).toNat<256:=Yv (ZM _ _) hc8;refine ah (sr (mI ?_));refine bf (aa (cT (aq (ai (ah (ao (al (mL (mS (mI ?_))))))))));refine j7 ?_;refine mI ?_;refine Ei rfl rfl Xj Xk ?_;refine K8 ?_;refine xm ?_;intro b24 w24 hh;refine qM ?_;intro A25 c25 w25 hh;simp only [XC,X6] at hh;replace hh:=hh.sub (X9 _ _);refine x9 ?_;refine bk (aI (aA (ai ?_)));have e1:gI (bV 2 (8*j+k) (bN a))++[Value.int .u8 ((ch.toNat/2^(k:Int).toNat &&& 1:Nat):Int)]=gI (bV 2 (8*j+(k+1)) (bN a)):=by
      rw [hand,YN,hst,←ZU,k9,uU];rfl
     rw [e1] at hh;refine ⟨⟨k+1,A25,c25,Xj,rfl,rfl,hh⟩,by show 8-(k+1)<8-k;omega, ?_⟩;exact dV
    ·obtain rfl:k=8:=Xj;refine ah (sr (mI ?_));refine bf (aa (cF (a6 (aE (aE (bq (bz (ai (al (mI ?_))))))))));refine ep (aI (aA (ai ?_)));refine ⟨⟨j+1,A2,c2,Xj,by show Value.int _ _=Value.int _ _;congr 1;omega,rfl,hh⟩,by show ((a.size:Int)-1-j-1+1).toNat<((a.size:Int)-1-j+1).toNat;omega, ?_⟩;exact dV
  ·obtain rfl:j=a.size:=Xj;refine ah (sr (mI ?_));refine dL (aa (cF (a6 (aE (aE (bq (ai (sr (mL ?_)))))))));refine bA hh (lZ _ _ _ (bV 2 (8*a.size) (bN a)) _ (hh.aC (i:=0) rfl) (hh.fM (i:=0) rfl) Xj) rfl ?_;intro w27 hh;refine aL (aa (aw ?_));refine df ?_;have hb:=xZ a;rw [show (256:Nat)=2^8 from rfl,←Yi] at hb;have hd:dX (bV 2 (8*a.size) (bN a))=aZ 2 (bN a):=by
    rw [ie Xj (gk Xj _ _),dq hb]
   have h1:=(Hp.SC (xs:=bV 2 (8*a.size) (bN a)) hh (aT _ _)).at_ (i:=0) rfl;exact E9
theorem Oo {l:List Nat}{v:Nat} (h:j<l.length):l.reverse.set (l.length-1-j) v=(l.set j v).reverse:=by
 apply YG;intro i
 rcases Yb i l.length with hi|hi
 ·rw [Ze (by rw [ZG];exact hi),ZG,Zw,Zw,Ze hi,X8];by_cases he:l.length-1-j=i
  ·rw [Xo he,Xo Xj,Xo Xj,Xo h]
  ·rw [Xp he,Xp Xj]
 ·rw [X1 (by simp;omega),X1 (by simp;omega)]
theorem CZ {i:Nat} (P:Nat) (hP:P<2^i) (hb:b<2) (hk:i/8<k):P/256^(i/8) % 256+b*2^(i % 8)<256∧(bV 256 k P).set (i/8) (P/256^(i/8) % 256+b*2^(i % 8))=bV 256 k (P+2^i*b):=by
 have hp:2^i=256^(i/8)*2^(i % 8):=by
  rw [show (256:Nat)=2^8 from rfl,←Yi,←XS];congr 1;omega
 have h1:P/256^(i/8)<2^(i % 8):=by
  rw [YR (X7 Xj),XY,←hp];exact hP
 have h2:2^(i % 8)≤128:=by
  have:=Yf (show 0<2 by omega) (show i % 8≤7 by omega);omega
 have h3:P/256^(i/8) % 256<2^(i % 8):=Yv (Nat.mod_le _ _) h1;have h4:b*2^(i % 8)≤1*2^(i % 8):=Yr _ Xj;have h5:2^i*b=256^(i/8)*(b*2^(i % 8)):=by rw [hp,Yp,XY b]
 refine ⟨Xj, ?_⟩;rw [h5];refine qb Xj hk ?_ Xj;rw [←h5];have h6:2^i*b≤2^i*1:=X4 _ Xj;have h7:2^(i+1)≤256^k:=by
  rw [show (256:Nat)=2^8 from rfl,←Yi];exact Yf Xj Xj
 rw [Yj] at h7;omega
theorem iA (A:Option Addr) (n c:Nat) (xs:List Nat) (w:World) (hx:Sl w A n 1 (gI xs)) (hd:Dg 2 xs) (hc:n≤c) (hn:n≤100000000000):
  Calls Tryz.prog 187 #[.slice A n c] w fun e w'=>e=.returned (.string (sN (bB 2 xs)))∧Below w.heap.size w w':=by
 have hl:=hx.1;rw [cV] at hl;have hcl:=fg xs;have hcx:=hx.Um;have hcan:=ie Xj hd;have hlen:=Ek (bB 2 xs);rw [hcan] at hcl hcx;have hcd:=(ea (B:=2) Xj (bB 2 xs)).1;have hcv:=ee (B:=2) Xj (bB 2 xs);have hbl:(aZ 2 (bB 2 xs)).length=bG (bB 2 xs):=rfl;have hh:=Hp.start w;refine aj (N:=38) (l:=[.slice A n c]) Tryz.func187 rfl rfl (by simp) ?_;refine sr (aS (aa (sr (mL ?_))));refine bA hh (lZ _ _ _ xs _ hx hc Xj) rfl ?_;intro w6 hh;rw [hcan];generalize bB 2 xs=M at*;generalize aZ 2 M=xs' at*;refine aL (aa (sr (mL (aH ?_))));refine bk ?_;refine oe ?_;refine fO (n:=(xs'.length+7)/8) hh rfl rfl Xj Xj bh.out aM.out rfl Xj Xj Xk ?_;intro b11 w11 hh;refine aL (aa (ah (sr (aI (aa (ao ?_))))));rw [qF] at hh;refine aR [4,12,13,14,15,16,17,18,19,20,21,22,23,24,25,26,27,28,29,30,31,32,33,34,35] 4
  (fun v w'=>∃i:Nat,i≤xs'.length∧v=.int .i64 i∧Hp w [.row (some ⟨b11,0,none⟩) ((xs'.length+7)/8) ((xs'.length+7)/8) 5 1 (gI (bV 256 ((xs'.length+7)/8) (bB 2 (xs'.take i))).reverse)] w')
  (fun v _=>xs'.length-(intOf v).toNat) ?_ ?_
 ·exact ⟨0,Xs _,rfl,by rw [ZH,bB,rE,List.reverse_replicate];exact hh⟩
 ·clear hh;rintro ρ' v w' ⟨i,hi,rfl,hh⟩;by_cases hlt:i<xs'.length
  ·obtain ⟨d,hdi⟩:=ak (l:=xs') (k:=i) Xj;obtain ⟨ad,rfl,hr⟩:=hcx.at_ Xj;have hd2:=ru hdi;have hdw:=hcd.at_ hdi;have hP:=iI (hcd.take i);rw [XP,Ys Xj] at hP;obtain ⟨s1,s2⟩:=CZ (k:=(xs'.length+7)/8) (bB 2 (xs'.take i)) hP hdw Xj;have hg:(bV 256 ((xs'.length+7)/8) (bB 2 (xs'.take i))).reverse[(xs'.length+7)/8-1-i/8]?=some (bB 2 (xs'.take i)/256^(i/8) % 256):=by
    rw [Ze (by rw [aT];omega),aT,show (xs'.length+7)/8-1-((xs'.length+7)/8-1-i/8)=i/8 by omega];exact iF _ _ _ Xj
   have hg2:=ru hg;have e1:((i:Int) % 8).toNat=i % 8:=Xj;have hset:=Oo (l:=bV 256 ((xs'.length+7)/8) (bB 2 (xs'.take i))) (j:=i/8) (v:=bB 2 (xs'.take i)/256^(i/8) % 256+d*2^(i % 8)) (by rw [aT];omega);rw [aT,s2] at hset;refine ah (sr (mI (mL (aH ?_))));refine bf (aa (cT (aq (ai (ah (ao ?_))))));refine a0 16 [[(3,none)],[(3,none)],[(19,some 1)],[(20,some 2)],[(4,none)],[(22,some 4)],[(21,some 3),(23,some 5)],[(18,some 0),(24,some 6)],[(25,some 7)],[(0,none)],[(4,none)],[(27,some 9),(28,some 10)],[(29,some 11)],[(4,none)],[(31,some 13)],[(30,some 12),(32,some 14)]] [(15,33),(14,32),(13,31),(12,30),(11,29),(10,28),(9,27),(8,26),(7,25),(6,24),(5,23),(4,22),(3,21),(2,20),(1,19),(0,18)] hh mixed Xl ?_;refine fS ?_;refine fS ?_;refine AU ?_;refine vx ?_;refine dJ ?_;refine bj (i:=5) (fun ρ1 w1 hj hR=>pr (show ρ1 22=Value.int _ _ from hR.1) rfl Xj Xj Xj) ?_;refine vx ?_;refine LC ((xs'.length+7)/8-1-i/8) ?_;refine bj (i:=8) (fun ρ1 w1 hj hR=>jN aM.out (show ρ1 25=Value.pointer _ from hR.1) (hj.hp.eH (i:=0) rfl (by rw [XK];exact hg2))) ?_;refine fS ?_
   refine dJ ?_;refine ow (i) ?_;refine qS (fun _ hj=>(hr.ext hj.hp.below).wj hd2) ?_;refine dJ ?_;refine bj (i:=14) (fun ρ1 w1 hj hR=>mJ (show ρ1 31=Value.int _ _ from hR.1) rfl Xj Xj) ?_;refine bj (i:=15) (fun ρ1 w1 hj hR=>zz (show ρ1 30=Value.int _ _ from hR.1) (show ρ1 32=Value.int _ _ from hR.2.1) Xj) ?_;refine aO ?_;intro f W hJ hV;have hb_6:=hJ.bl;obtain ⟨v33,v32,v31,v30,v29,v28,v27,v26,v25,v24,v23,v22,v21,v20,v19,v18,_⟩:=hV;replace hh:=hJ.hp;refine aW (bm (ae v33 (ae v32 (ae v31 (ae v30 (ae v29 (ae v28 (ae v27 (ae v26 (ae v25 (ae v24 (ae v23 (ae v22 (ae v21 (ae v20 (ae v19 (ae v18 aV))))))))))))))))) ?_;dsimp only [cd];clear hJ;refine iL rfl rfl Xk ?_;refine da (k:=(xs'.length+7)/8-1-i/8) bh.out aM.size rfl rfl Xj Xj Xk ?_;refine bW hh (i:=0) (vs:=[_]) rfl rfl (cO rfl) rfl aM.out rfl (by rw [cV,X8,aT];omega) rfl ?_;intro ws hh;simp only [XC] at hh;rw [e1,X5 (show d*2^(i % 8)<256 by omega),X5 s1,XK,cM (by rw [cV,X8,aT];omega),qa,hset,←fu hdi] at hh;refine aA (bz (ai (al (mI ?_))));refine bk (aI (aA (ai ?_)))
   refine ⟨⟨i+1,Xj,rfl,hh⟩,by show xs'.length-(i+1)<xs'.length-i;omega, ?_⟩;exact dV
  ·obtain rfl:i=xs'.length:=Xj;rw [Z2,hcv,hbl] at hh;have hfin:gI (bV 256 ((bG M+7)/8) M).reverse=nV (sb M):=by
    rw [←hlen];exact Un
   rw [hfin,←hbl] at hh;refine ah (sr (mI (mL (aH ?_))));refine bf (aa (cF (a6 (aE (aE (bq (ai (sr (mL ?_)))))))));exact Pv
theorem NT {xs:List Nat} (h:Dg 2 xs) (i:Nat):bB 2 xs/2^i % 2=(xs[i]?).getD 0:=by
 cases hi:xs[i]? with
 |some d=>exact tG h hi
 |none=>
  rw [tT h (aa0.1 hi) Xj];rfl
theorem iY (A:Option Addr) (n c i:Nat) (xs:List Nat) (w:World) (hx:Sl w A n 1 (gI xs)) (hd:Dg 2 xs) (hn:n≤1000000000000) (hi:i≤1000000000000):
  Calls Tryz.prog 222 #[.slice A n c,.int .i64 (i:Int)] w fun e w'=>e=.returned (.int .u8 ((bB 2 xs/2^i % 2:Nat):Int))∧Below w.heap.size w w':=by
 have hl:=hx.1;rw [cV] at hl;have hh:=Hp.start w;rw [NT hd];by_cases hlt:i<n
 ·obtain ⟨d,hdi⟩:=ak (l:=xs) (k:=i) Xj;obtain ⟨ad,rfl,hr⟩:=hx.at_ Xj;have hd2:=ru hdi;rw [hdi];refine aj (N:=13) (l:=[.slice (some ad) n c,.int .i64 (i:Int)]) Tryz.func222 rfl rfl (by simp) ?_;refine sr (aI (aa (ah (sr (mI (mL (aH ?_)))))));refine bf (aa (cT (sr (mL (mI ?_)))));refine cx ?_;refine jG ?_;refine aI (aa (aw (aK ?_)));refine df ?_;exact ⟨rfl,hh.below⟩
 ·rw [X1 Xj];refine aj (N:=13) (l:=[.slice A n c,.int .i64 (i:Int)]) Tryz.func222 rfl rfl (by simp) ?_;refine sr (aI (aa (ah (sr (mI (mL (aH ?_)))))));refine bf (aa (cF (aq (ai (sr (aI (aa (aw ?_))))))));refine df ?_;exact ⟨rfl,hh.below⟩
theorem mb (X i:Nat):X/2^i=2*(X/2^(i+1))+X/2^i % 2:=by
 rw [Yj,←Y6];omega
theorem xH {X Y:Nat} (h:X/2^k<Y/2^k):X<Y:=by
 refine aav fun h2=> ?_;have:=Nat.div_le_div_right (c:=2^k) h2;omega
theorem ni (A B:Option Addr) (n c m c':Nat) (xs ys:List Nat) (w:World) (hx:Sl w A n 1 (gI xs)) (hy:Sl w B m 1 (gI ys)) (hdx:Dg 2 xs) (hdy:Dg 2 ys) (hn:n≤100000000000) (hm:m≤100000000000):
  Calls Tryz.prog 207 #[.slice A n c,.slice B m c'] w fun e w'=>e=.returned (.int .i64 (lE (bB 2 xs) (bB 2 ys)))∧Below w.heap.size w w':=by
 have hlx:=hx.1;have hly:=hy.1;rw [cV] at hlx hly;have hh:=Hp.start w;have e1:(if (m:Int)>(n:Int) then (m:Int) else (n:Int))-1=((max n m:Nat):Int)-1:=by split<;>omega
 refine aj (N:=30) (l:=[.slice A n c,.slice B m c']) Tryz.func207 rfl rfl (by simp) ?_;refine sr (aI (aa (ah (sr (mL (aH (mL (aH ?_))))))));refine lz rfl rfl Xk ?_;refine ep (aI (aa (ao ?_)));rw [e1];refine aR [4,5,12,13,14,15,16,17,18,19,20,21,22,23,24,25,26,27,28,29] 5
  (fun v w'=>∃k:Nat,k≤max n m∧v=.int .i64 ((k:Int)-1)∧bB 2 xs/2^k=bB 2 ys/2^k∧Hp w [] w')
  (fun v _=>(intOf v+1).toNat) ?_ ?_
 ·exact ⟨max n m,Xr _,rfl,by rw [tT hdx Xj Xj,tT hdy Xj Xj],hh⟩
 ·clear hh;rintro ρ' v w' ⟨k,hk,rfl,heq,hh⟩;by_cases h0:k=0
  ·subst h0;refine ah (sr (mI ?_));refine dL (aa (cF (a6 (aE (aE (bq (ai (sr (aI (aa (aw ?_)))))))))));refine df ?_;rw [ZY,Nat.div_one,Nat.div_one] at heq;exact ⟨by rw [EG heq],hh.below⟩
  ·obtain ⟨j,rfl⟩:∃j,k=j+1:=⟨k-1,Xj⟩;have hj:((j+1:Nat):Int)-1=(j:Int):=Xj;have hXb:=mb (bB 2 xs) j;have hYb:=mb (bB 2 ys) j;by_cases hlt:bB 2 xs/2^j % 2<bB 2 ys/2^j % 2
   ·have hf:bB 2 xs<bB 2 ys:=xH (k:=j) Xj;rw [hj];refine ah (sr (mI ?_));refine Mt ?_;refine Bw ?_;intro w18 hh;refine mL (mI ?_);refine Ay ?_;intro w21 hh;refine bf (aa (cT (sr (aI (aa (aw (aK (cf (aK (aK (cf (aK ?_))))))))))));refine df ?_;exact ⟨by rw [l7 hf],hh.below⟩
   ·by_cases hgt:bB 2 ys/2^j % 2<bB 2 xs/2^j % 2
    ·have hf:bB 2 ys<bB 2 xs:=xH (k:=j) Xj;rw [hj];refine ah (sr (mI ?_));refine Mt ?_;refine Bw ?_;intro w18 hh;refine mL (mI ?_);refine Ay ?_;intro w21 hh;refine bf (aa (cF (aq (ai (sr (mL (mI ?_)))))));refine Bw ?_;intro w25 hh;refine mL (mI ?_);refine Ay ?_;intro w28 hh;refine cj (aa (cT (sr (aI (aa (aw (cf (aK (aK (cf (aK ?_)))))))))));refine df ?_;exact ⟨by rw [yK hf],hh.below⟩
    ·rw [hj];refine ah (sr (mI ?_));refine Mt ?_;refine Bw ?_;intro w18 hh;refine mL (mI ?_);refine Ay ?_;intro w21 hh;refine bf (aa (cF (aq (ai (sr (mL (mI ?_)))))));refine Bw ?_;intro w25 hh;refine mL (mI ?_);refine Ay ?_;intro w28 hh;refine cj (aa (cF (aq (bz (ai (al (mI ?_)))))));refine ep (aI (aA (ai ?_)));refine ⟨⟨j,Xj,rfl,Xj,hh⟩,by show ((j:Int)-1+1).toNat<((j:Int)+1).toNat;omega, ?_⟩;exact dV
theorem N3 (S T i:Nat):(S+T)/2^i % 2=(S/2^i % 2+(S % 2^i+T % 2^i)/2^i+T/2^i % 2) % 2∧(S % 2^(i+1)+T % 2^(i+1))/2^(i+1)=(S/2^i % 2+(S % 2^i+T % 2^i)/2^i+T/2^i % 2)/2∧(S % 2^i+T % 2^i)/2^i≤1:=by
 have hS:=Y8 S (2^i);have hT:=Y8 T (2^i);have hp:0<2^i:=X7 Xj;have hS2:S % 2^(i+1)=S % 2^i+2^i*(S/2^i % 2):=by rw [Yj,Nat.mod_mul]
 have hT2:T % 2^(i+1)=T % 2^i+2^i*(T/2^i % 2):=by rw [Yj,Nat.mod_mul]
 have hSl:=XW S hp;have hTl:=XW T hp;have hc:=Y8 (S % 2^i+T % 2^i) (2^i);have hcl:=XW (S % 2^i+T % 2^i) hp;have hc1:(S % 2^i+T % 2^i)/2^i≤1:=by
  have:(S % 2^i+T % 2^i)/2^i<2:=by rw [YR hp];omega
  omega
 have e1:(S+T)/2^i=S/2^i+T/2^i+(S % 2^i+T % 2^i)/2^i:=by
  have:S+T=(S % 2^i+T % 2^i) % 2^i+2^i*(S/2^i+T/2^i+(S % 2^i+T % 2^i)/2^i):=by
   rw [Yl,Yl];omega
  conv=>lhs;rw [this]
  rw [Yy _ _ hp,Yk hcl,XJ]
 refine ⟨by rw [e1];omega, ?_,hc1⟩;rw [hS2,hT2];have e2:S % 2^i+2^i*(S/2^i % 2)+(T % 2^i+2^i*(T/2^i % 2))=(S % 2^i+T % 2^i) % 2^i+2^i*(S/2^i % 2+(S % 2^i+T % 2^i)/2^i+T/2^i % 2):=by
  rw [Yl,Yl];omega
 rw [e2,Yj,←Y6,Yy _ _ hp,Yk hcl,XJ]
theorem SJ (Y up i:Nat):Y*2^up/2^i % 2=if up≤i then Y/2^(i-up) % 2 else 0:=by
 split
 ·rename_i h;have e:2^i=2^up*2^(i-up):=by rw [←XS];congr 1;omega
  rw [e,←Y6,Nat.mul_div_cancel _ (X7 Xj)]
 ·rename_i h;have e:2^up=2^i*2*2^(up-i-1):=by rw [←Yj,←XS];congr 1;omega
  have e2:Y*2^up=2^i*(2*(Y*2^(up-i-1))):=by rw [e];simp only [Yp,aaL]
  rw [e2,Nat.mul_div_cancel_left _ (X7 Xj)];omega
theorem PH {K i:Nat} (h:i<K):(bV 2 i N++List.replicate (K-i) 0).set i (N/2^i % 2)=bV 2 (i+1) N++List.replicate (K-(i+1)) 0:=by
 rw [show K-i=(K-(i+1))+1 by omega,ZB,ZA _ _ (by rw [aT];omega),aT,Yq,XC,k9];simp
theorem B9 (A B:Option Addr) (n c m c' up:Nat) (xs ys:List Nat) (w:World) (hx:Sl w A n 1 (gI xs)) (hy:Sl w B m 1 (gI ys)) (hdx:Dg 2 xs) (hdy:Dg 2 ys) (hn:n≤100000000000) (hm:m≤100000000000) (hup:up≤100000000000):
  Calls Tryz.prog 200 #[.slice A n c,.slice B m c',.int .i64 (up:Int)] w fun e w'=>∃b,e=.returned (.slice (some ⟨b,0,none⟩) (max n (m+up)+1) (max n (m+up)+1))∧w'.ownsRow w.heap.size 5 1 (.slice (some ⟨b,0,none⟩) (max n (m+up)+1) (max n (m+up)+1)) (max n (m+up)+1) (gI (bV 2 (max n (m+up)+1) (bB 2 xs+bB 2 ys*2^up)))∧Below w.heap.size w w':=by
 have hlx:=hx.1;have hly:=hy.1;rw [cV] at hlx hly;have hh:=Hp.start w;have e1:(if ((m:Int)+(up:Int))>(n:Int) then ((m:Int)+(up:Int)) else (n:Int))+1=((max n (m+up)+1:Nat):Int):=by split<;>omega
 have hand:∀z:Nat,z &&& 1=z % 2:=fun z=>Nat.and_one_is_mod z;refine aj (N:=49) (l:=[.slice A n c,.slice B m c',.int .i64 (up:Int)]) Tryz.func200 rfl rfl (by simp) ?_;refine sr (aL (aa (sr (mL (aH (mL (aH (mI ?_))))))));refine bk ?_;refine lz rfl rfl Xk ?_;refine bk ?_;rw [e1];generalize hK:max n (m+up)+1=K at*;refine fO (n:=K) hh rfl rfl Xj Xj bh.out aM.out rfl Xj Xj Xk ?_;intro b19 w19 hh;refine aL (aa (sr (aI (aa (ah (sr (aI (aa (ao ?_)))))))));rw [qF] at hh;refine bK [8,9,10,20,21,22,23,24,25,26,27,28,29,30,31,32,33,34,35,36,37,38,39,40,41,42,43,44,45,46,47] 8 9
  (fun cr v w'=>∃i:Nat,i≤K∧v=.int .i64 (i:Int)∧cr=.int .u8 (((bB 2 xs % 2^i+bB 2 ys*2^up % 2^i)/2^i:Nat):Int)∧Hp w [.row (some ⟨b19,0,none⟩) K K 5 1 (gI (bV 2 i (bB 2 xs+bB 2 ys*2^up)++List.replicate (K-i) 0))] w')
  (fun _ v _=>K-(intOf v).toNat) ?_ ?_
 ·exact ⟨0,Xs _,rfl,by simp [Nat.mod_one];rfl,hh⟩
 ·clear hh;rintro ρ' cr v w' ⟨i,hi,rfl,rfl,hh⟩;by_cases hlt:i<K
  ·obtain ⟨b1,b2,b3⟩:=N3 (bB 2 xs) (bB 2 ys*2^up) i;have hbu:=SJ (bB 2 ys) up i;have hxb:bB 2 xs/2^i % 2<2:=XW _ Xj;have hyb:bB 2 ys/2^(i-up) % 2<2:=XW _ Xj;have hll:(gI (bV 2 i (bB 2 xs+bB 2 ys*2^up)++List.replicate (K-i) 0)).length=K:=by rw [cV,Xy,aT,YP];omega
   have hfk:=PH (N:=bB 2 xs+bB 2 ys*2^up) hlt;generalize hC:(bB 2 xs % 2^i+bB 2 ys*2^up % 2^i)/2^i=C at*;generalize hX:bB 2 xs/2^i % 2=X at*;refine ah (sr (mI (mL (aH ?_))));refine sG ?_;refine bA hh (iY A n c i xs _ (hx.ext hh.below) hdx Xj Xj) rfl ?_;intro w28 hh;rw [hX];by_cases hiu:up≤i
   ·rw [Xo hiu] at hbu;rw [hbu] at b1 b2;generalize hY:bB 2 ys/2^(i-up) % 2=Y at*;have es:((X+C) % 256+Y) % 256=X+C+Y:=Xj;have ei:(i:Int)-(up:Int)=((i-up:Nat):Int):=Xj;refine mI ?_;refine iL rfl rfl Xk ?_;refine aI (aa (ah (sr (mI (mI ?_)))));refine dL (aa (cT (al (mI (mL (mI (mI ?_)))))));refine ep ?_;rw [ei];refine bA hh (iY B m c' (i-up) ys _ (hy.ext hh.below) hdy Xj Xj) rfl ?_;intro w39 hh;rw [hY];refine iL rfl rfl Xk ?_;refine aI (aa (sr (mL (mI (mI ?_)))));exact PE
   ·rw [Xp hiu] at hbu;rw [hbu] at b1 b2;have es:(X+C) % 256=X+C+0:=Xj;refine mI ?_;refine iL rfl rfl Xk ?_;refine aI (aa (ah (sr (mI (mI ?_)))));refine dL (aa (cF (aq (ai (sr (mL (mI (mI ?_))))))));exact PE
  ·obtain rfl:i=K:=Xj;exact Tm
theorem Ph {X Y:Nat} (h:Y≤X) (i:Nat):((2+X/2^i % 2+256-Y/2^i % 2) % 256+256-(if X % 2^i<Y % 2^i then 1 else 0)) % 256 % 2=(X-Y)/2^i % 2∧
  (1+256-((2+X/2^i % 2+256-Y/2^i % 2) % 256+256-(if X % 2^i<Y % 2^i then 1 else 0)) % 256/2) % 256=(if X % 2^(i+1)<Y % 2^(i+1) then 1 else 0):=by
 have hX:=Y8 X (2^i);have hY:=Y8 Y (2^i);have hp:0<2^i:=X7 Xj;have hX2:X % 2^(i+1)=X % 2^i+2^i*(X/2^i % 2):=by rw [Yj,Nat.mod_mul]
 have hY2:Y % 2^(i+1)=Y % 2^i+2^i*(Y/2^i % 2):=by rw [Yj,Nat.mod_mul]
 have hXl:=XW X hp;have hYl:=XW Y hp;rw [hX2,hY2];generalize hx1:X/2^i=x1 at*;generalize hy1:Y/2^i=y1 at*;generalize hx0:X % 2^i=x0 at*;generalize hy0:Y % 2^i=y0 at*;have key:∀b:Nat,b=(if x0<y0 then 1 else 0)→(X-Y)/2^i=x1-y1-b∧y1+b≤x1:=by
  intro b hb;have hle:y1+b≤x1:=by
   refine Nat.le_of_not_lt fun hlt=> ?_;have h1:2^i*(x1+1)≤2^i*(y1+b):=X4 _ hlt;rw [Yl,Yl] at h1;split at hb
   ·subst hb;omega
   ·subst hb;omega
  refine ⟨?_,hle⟩;have e:X-Y=(x0+2^i*b-y0)+2^i*(x1-y1-b):=by
   have h2:2^i*(x1-y1-b)=2^i*x1-2^i*y1-2^i*b:=by rw [Nat.mul_sub,Nat.mul_sub]
   have h3:2^i*(y1+b)≤2^i*x1:=X4 _ hle;rw [Yl] at h3;split at hb
   ·subst hb;omega
   ·subst hb;omega
  rw [e,Yy _ _ hp,Yk,XJ];split at hb
  ·subst hb;omega
  ·subst hb;omega
 obtain ⟨k1,k2⟩:=key _ rfl;rw [k1];have hlt:(x0+2^i*(x1 % 2)<y0+2^i*(y1 % 2))↔(x1 % 2<y1 % 2∨x1 % 2=y1 % 2∧x0<y0):=by
  rcases Nat.mod_two_eq_zero_or_one x1 with h1|h1<;>rcases Nat.mod_two_eq_zero_or_one y1 with h2|h2<;>rw [h1,h2]<;>omega
 by_cases hb:x0<y0
 ·rw [Xo hb] at k2 ⊢;exact TQ
 ·rw [Xp hb] at k2 ⊢;exact TQ
theorem p5 (A B:Option Addr) (n c m c':Nat) (xs ys:List Nat) (w:World) (hx:Sl w A n 1 (gI xs)) (hy:Sl w B m 1 (gI ys)) (hdx:Dg 2 xs) (hdy:Dg 2 ys) (hn:n≤100000000000) (hm:m≤100000000000) (hle:bB 2 ys≤bB 2 xs):
  Calls Tryz.prog 205 #[.slice A n c,.slice B m c'] w fun e w'=>∃b,e=.returned (.slice (some ⟨b,0,none⟩) n n)∧w'.ownsRow w.heap.size 5 1 (.slice (some ⟨b,0,none⟩) n n) n (gI (bV 2 n (bB 2 xs-bB 2 ys)))∧Below w.heap.size w w':=by
 have hlx:=hx.1;have hly:=hy.1;rw [cV] at hlx hly;have hh:=Hp.start w;have hand:∀z:Nat,z &&& 1=z % 2:=fun z=>Nat.and_one_is_mod z;refine aj (N:=37) (l:=[.slice A n c,.slice B m c']) Tryz.func205 rfl rfl (by simp) ?_;refine sr (aL (aa (sr (mL (aH ?_)))));refine Jh ?_;intro b11 w11 hh;refine aL (aa (sr (aI (aa (ah (sr (aI (aa (ao ?_)))))))));rw [qF] at hh;refine bK [6,7,8,12,13,14,15,16,17,18,19,20,21,22,23,24,25,26,27,28,29,30,31,32,33,34,35] 6 7
  (fun cr v w'=>∃i:Nat,i≤n∧v=.int .i64 (i:Int)∧cr=.int .u8 ((if bB 2 xs % 2^i<bB 2 ys % 2^i then 1 else 0:Nat):Int)∧Hp w [.row (some ⟨b11,0,none⟩) n n 5 1 (gI (bV 2 i (bB 2 xs-bB 2 ys)++List.replicate (n-i) 0))] w')
  (fun _ v _=>n-(intOf v).toNat) ?_ ?_
 ·exact ⟨0,Xs _,rfl,by simp [Nat.mod_one];rfl,hh⟩
 ·clear hh;rintro ρ' cr v w' ⟨i,hi,rfl,rfl,hh⟩;by_cases hlt:i<n
  ·obtain ⟨b1,b2⟩:=Ph hle i;have hxb:bB 2 xs/2^i % 2<2:=XW _ Xj;have hyb:bB 2 ys/2^i % 2<2:=XW _ Xj;have hcb:(if bB 2 xs % 2^i<bB 2 ys % 2^i then 1 else 0:Nat)≤1:=by split<;>omega
   have hll:(gI (bV 2 i (bB 2 xs-bB 2 ys)++List.replicate (n-i) 0)).length=n:=by rw [cV,Xy,aT,YP];omega
   have hfk:=PH (N:=bB 2 xs-bB 2 ys) hlt;refine ah (sr (mI (mL (aH ?_))));refine sG ?_;refine bA hh (iY A n c i xs _ (hx.ext hh.below) hdx Xj Xj) rfl ?_;intro w20 hh;refine iL (a:=2) rfl rfl Xk ?_;refine mL (mI ?_);refine bA hh (iY B m c' i ys _ (hy.ext hh.below) hdy Xj Xj) rfl ?_;intro w24 hh;generalize hC:(if bB 2 xs % 2^i<bB 2 ys % 2^i then 1 else 0:Nat)=C at*;generalize hX:bB 2 xs/2^i % 2=X at*;generalize hY:bB 2 ys/2^i % 2=Y at*;have es:((2+X) % 256+256-Y) % 256=(2+X+256-Y) % 256:=Xj;have hS:((2+X+256-Y) % 256+256-C) % 256<256:=XW _ Xj;refine Ev rfl rfl Xj Xk ?_;refine mI ?_;rw [es];refine Ev rfl rfl Xj Xk ?_;refine aI (aa (sr (mL (mI (mI ?_)))));refine K8 ?_;refine fT ?_;refine K1 ?_;intro ws hh;simp only [XC] at hh;rw [hand,b1,XK,cM (by rw [hll];omega),qa,hfk] at hh;refine aa (al (mI ?_));refine l5 (s:=1) (m:=2) rfl rfl Xk Xk Xk ?_;refine Ev (a:=1) rfl rfl Xj Xk ?_;refine aI (aA (bz (ai (al (mI ?_)))));refine bk (aI (aA (ai ?_)));refine ⟨⟨i+1,Xj,rfl,by rw [←b2];rfl,hh⟩,by show n-(i+1)<n-i;omega, ?_⟩;exact dV
  ·obtain rfl:i=n:=Xj;exact Tm
theorem xL (n:Nat) (w:World) (hn:n<18446744073709551616):
  Calls Tryz.prog 154 #[.int .u64 (n:Int)] w fun e w'=>e=.returned (.string (sN n))∧Below w.heap.size w w':=by
 have hh:=Hp.start w;refine aj (N:=16) (l:=[.int .u64 (n:Int)]) Tryz.func154 rfl rfl (by simp) ?_;refine sr (aS (aa (sr (aL (aa (ah (ao ?_)))))));replace hh:=hh.cU 5 1;refine bK [0,3,4,5,6,7,8,9,10,11,12,13] 0 3
  (fun v o w'=>∃(k m:Nat) (A:Option Addr) (c:Nat),v=.int .u64 (m:Int)∧m<18446744073709551616∧k≤64∧m<2^(64-k)∧o=.slice A k c∧m=n/2^k∧Hp w [.row A k c 5 1 (gI (bV 2 k n))] w')
  (fun v _ _=>(intOf v).toNat) ?_ ?_
 ·exact ⟨0,n,none,0,rfl,hn,Xj,by simpa using hn,rfl,by simp,hh⟩
 ·clear hh;rintro ρ' v o w' ⟨k,m,A,c,rfl,hm,hk,hmk,rfl,hmn,hh⟩;by_cases h0:m=0
  ·subst h0;refine ah (sr (mI ?_));refine cj (aa (cF (a6 (aE (aE (bq (ai (sr (mL ?_)))))))));refine bA hh (iA _ _ _ (bV 2 k n) _ (hh.aC (i:=0) rfl) (gk Xj _ _) (hh.fM (i:=0) rfl) Xj) rfl ?_;intro w15 hh;have hlt:n<2^k:=by
    have:=Y8 n (2^k);have h2:=XW n (X7 (n:=k) (show 0<2 by omega));rw [←hmn] at this;omega
   rw [dq hlt];exact HK
  ·have hk64:k<64:=by
    refine aav fun h=> ?_;rw [show 64-k=0 by omega] at hmk;omega
   have hm2:m % 2<256:=Xj;refine ah (sr (mI ?_));refine cj (aa (cT (aq (ai (ah (ao (al (mL (mI ?_)))))))));refine Di (b:=2) rfl rfl Xj Xk ?_;refine mm ?_;refine xm ?_;intro b12 w12 hh;refine qM ?_;intro A13 c13 w13 hh;simp only [XC,X6] at hh;replace hh:=hh.sub (X9 _ _);refine x9 ?_;refine Ta (b:=2) rfl rfl Xj (by first|assumption|omega) Xk ?_;refine aI (aA (ai ?_));have e1:gI (bV 2 k n)++[Value.int .u8 ((m % 2:Nat):Int)]=gI (bV 2 (k+1) n):=by
    rw [hmn,k9,uU];rfl
   rw [e1] at hh;refine ⟨⟨k+1,m/2,A13,c13,rfl,Xj,Xj, ?_,rfl, ?_,hh⟩,by show (((m/2:Nat):Int)).toNat<((m:Int)).toNat;omega, ?_⟩
   ·rw [show 64-k=(64-(k+1))+1 by omega,Yj] at hmk;omega
   ·rw [hmn,Y6,Yj]
   ·exact dV
theorem jq (a:ByteArray):(aZ 2 (bN a)).length≤8*a.size:=gO a
theorem lG (n:Nat):Dg 2 (aZ 2 n):=(ea Xj n).1
theorem iH (n:Nat):bB 2 (aZ 2 n)=n:=ee Xj n
theorem ui (a b:ByteArray) (w:World) (ha:a.size≤1000000000) (hb:b.size≤1000000000):
  Calls Tryz.prog 204 #[.string a,.string b] w fun e w'=>e=.returned (.int .i64 (lE (bN a) (bN b)))∧Below w.heap.size w w':=by
 have hh:=Hp.start w;have h1:=jq a;have h2:=jq b;refine aj (N:=10) (l:=[.string a,.string b]) Tryz.func204 rfl rfl (by simp) ?_;refine sr (aI (aa (sr (mS ?_))));refine Gp ?_;rintro e_ w6 ⟨A6,c6,rfl,hown_,hb_⟩;refine ⟨_,rfl, ?_⟩;replace hh:=hh.aX (x:=.row _ _ _ _ _ _) hb_ hown_;refine mS ?_;refine aF (eW b _ hb) ar.out rfl Xk ?_;rintro e_ w8 ⟨A8,c8,rfl,hown_,hb_⟩;refine ⟨_,rfl, ?_⟩;replace hh:=hh.aX (x:=.row _ _ _ _ _ _) hb_ hown_;refine bA hh (ni _ _ _ _ _ _ (aZ 2 (bN a)) (aZ 2 (bN b)) _ (hh.aC (i:=1) rfl) (hh.aC (i:=0) rfl) (lG _) (lG _) Xj Xj) rfl ?_;intro w9 hh;rw [iH,iH];exact Ag
theorem oO (a:ByteArray) (w:World) (ha:a.size≤1000000000):
  Calls Tryz.prog 203 #[.string a] w fun e w'=>e=.returned (.int .i64 (bG (bN a)))∧Below w.heap.size w w':=by
 have hh:=Hp.start w;refine aj (N:=6) (l:=[.string a]) Tryz.func203 rfl rfl (by simp) ?_;refine sr (aI (aa (sr (mS ?_))));refine Gp ?_;rintro e_ w4 ⟨A4,c4,rfl,hown_,hb_⟩;refine ⟨_,rfl, ?_⟩;replace hh:=hh.aX (x:=.row _ _ _ _ _ _) hb_ hown_;refine aH (aI (aa (aw ?_)));refine df ?_;exact ⟨rfl,hh.below⟩
theorem oK (a b:ByteArray) (w:World) (ha:a.size≤1000000000) (hb:b.size≤1000000000):
  Calls Tryz.prog 184 #[.string a,.string b] w fun e w'=>e=.returned (.tuple #[.string (sN (bN a-bN b)),.bool (decide (bN b≤bN a))])∧Below w.heap.size w w':=by
 have hh:=Hp.start w;have h1:=jq a;have h2:=jq b;by_cases hlt:bN a<bN b
 ·refine aj (N:=16) (l:=[.string a,.string b]) Tryz.func184 rfl rfl (by simp) ?_;refine sr (aS (aB (aa (ah (sr (mS (mS ?_)))))));refine bA hh (ui a b _ ha hb) rfl ?_;intro w8 hh;rw [l7 hlt];exact Up
 ·have hc:¬lE (bN a) (bN b)<0:=by unfold lE;split<;>(try split)<;>omega
  have hbl:bN a-bN b<2^(aZ 2 (bN a)).length:=Yv (Nat.sub_le _ _) (dt (bN a));refine aj (N:=16) (l:=[.string a,.string b]) Tryz.func184 rfl rfl (by simp) ?_;refine sr (aS (aB (aa (ah (sr (mS (mS ?_)))))));refine bA hh (ui a b _ ha hb) rfl ?_;intro w8 hh;refine bf (aa (cF (aq (ai (sr (mS ?_))))));refine Gp ?_;rintro e_ w11 ⟨A11,c11,rfl,hown_,hb_⟩;refine ⟨_,rfl, ?_⟩;replace hh:=hh.aX (x:=.row _ _ _ _ _ _) hb_ hown_;refine mS ?_;refine aF (eW b _ hb) ar.out rfl Xk ?_;rintro e_ w13 ⟨A13,c13,rfl,hown_,hb_⟩;refine ⟨_,rfl, ?_⟩;replace hh:=hh.aX (x:=.row _ _ _ _ _ _) hb_ hown_;refine aF (p5 _ _ _ _ _ _ (aZ 2 (bN a)) (aZ 2 (bN b)) _ (hh.aC (i:=1) rfl) (hh.aC (i:=0) rfl) (lG _) (lG _) Xj Xj (by rw [iH,iH];omega)) ar.out rfl Xk ?_;rintro e_ w_ ⟨b14,rfl,hown_,hb_⟩;refine ⟨_,rfl, ?_⟩;replace hh:=hh.aX (x:=.row _ _ _ _ _ _) hb_ hown_;rw [iH,iH] at hh;refine bA hh (iA _ _ _ (bV 2 (aZ 2 (bN a)).length (bN a-bN b)) _ (hh.aC (i:=0) rfl) (gk Xj _ _) (Xr _) Xj) rfl ?_;intro w15 hh;rw [dq hbl];exact Q0
theorem EE (L:Option Addr) (n c:Nat) (ss:List ByteArray) (w:World) (hS:Sl w L n 1 (lV ss)) (hn:n≤1000000) (hs:∀s∈ss,s.size≤1000000000):
  Calls Tryz.prog 183 #[.slice L n c] w fun e w'=>e=.returned (.string (sN (ss.map bN).sum))∧Below w.heap.size w w':=by
 have hsl:ss.length=n:=by have:=hS.1;rw [rT] at this;omega
 have hh:=Hp.start w;refine aj (N:=20) (l:=[.slice L n c]) Tryz.func183 rfl rfl (by simp) ?_;refine sr (aS (aa (sr (aL (aa (ah (sr (aI (aa (ao ?_))))))))));replace hh:=hh.cU 5 1;refine bK [3,4,5,6,7,8,9,10,11,12,13,14,15,16,17] 3 4
  (fun v j w'=>∃(i:Nat) (A:Option Addr) (c' T K:Nat),i≤n∧j=.int .i64 i∧T=((ss.take i).map bN).sum∧v=.slice A K c'∧K≤8000000000+i∧T<2^K∧Hp w [.row A K c' 5 1 (gI (bV 2 K T))] w')
  (fun _ j _=>n-(intOf j).toNat) ?_ ?_
 ·exact ⟨0,none,0,0,0,Xs _,rfl,rfl,rfl,Xj,by simp,hh⟩
 ·clear hh;rintro ρ' v j w' ⟨i,A,c',T,K,hi,rfl,hT,rfl,hTl,hTb,hh⟩;by_cases hlt:i<n
  ·obtain ⟨s,hsi⟩:=ak (l:=ss) (k:=i) Xj;obtain ⟨ad,rfl,hr⟩:=hS.at_ Xj;have hs2:=F7 hsi;have hsz:=hs s (Xt hsi);have hlx:=jq s;have hT2:((ss.take (i+1)).map bN).sum=T+bN s:=by rw [az hsi,Yc,ZX,rj,hT]
   have hbs:bN s<2^(aZ 2 (bN s)).length:=dt _;have hb2:T+bN s<2^(max K ((aZ 2 (bN s)).length+0)+1):=by
    have h1:2^K≤2^max K ((aZ 2 (bN s)).length+0):=Yf Xj Xj;have h2:2^(aZ 2 (bN s)).length≤2^max K ((aZ 2 (bN s)).length+0):=Yf Xj Xj;rw [Yj];omega
   refine ah (sr (mI (mL (aH ?_))));refine Ky ?_;refine cx ?_;refine jG ?_;refine aF (eW s _ hsz) ar.out rfl Xk ?_;rintro e_ w16 ⟨A16,c16,rfl,hown_,hb_⟩;refine ⟨_,rfl, ?_⟩;replace hh:=hh.aX (x:=.row _ _ _ _ _ _) hb_ hown_;refine aF (B9 _ _ _ _ _ _ 0 (bV 2 K T) (aZ 2 (bN s)) _ (hh.aC (i:=1) rfl) (hh.aC (i:=0) rfl) (gk Xj _ _) (lG _) Xj Xj Xj) ar.out rfl Xk ?_;rintro e_ w_ ⟨b17,rfl,hown_,hb_⟩;refine ⟨_,rfl, ?_⟩;rw [iH,dq hTb,ZY,XK] at hown_;replace hh:=(hh.aX (x:=.row _ _ _ _ _ _) hb_ hown_).sub (ZJ [_] _);refine x9 ?_;refine bk (aI (aA (ai ?_)));refine ⟨⟨i+1,_,_,T+bN s,_,Xj,rfl,hT2.symm,rfl,Xj,hb2,hh⟩,by show n-(i+1)<n-i;omega, ?_⟩;exact dV
  ·refine ah (sr (mI (mL (aH ?_))));refine bf (aa (cF (a6 (aE (aE (bq (ai (sr (mL ?_)))))))));refine bA hh (iA _ _ _ (bV 2 K T) _ (hh.aC (i:=0) rfl) (gk Xj _ _) (hh.fM (i:=0) rfl) Xj) rfl ?_;intro w19 hh;rw [dq hTb];exact Qk
theorem Mx (X Y k:Nat) (hY:0<Y):X/2^k % Y=(if Y≤X/2^k % 2+2*(X/2^(k+1) % Y) then X/2^k % 2+2*(X/2^(k+1) % Y)-Y else X/2^k % 2+2*(X/2^(k+1) % Y))∧
  X/2^k/Y % 2=(if Y≤X/2^k % 2+2*(X/2^(k+1) % Y) then 1 else 0)∧X/2^k/Y/2=X/2^(k+1)/Y:=by
 have h1:=mb X k;have hb:X/2^k % 2<2:=XW _ Xj;generalize X/2^k % 2=b at*;generalize X/2^k=Z at*;generalize X/2^(k+1)=V at*;have h2:=Y8 V Y;have h3:=XW V hY;generalize V/Y=q at*;generalize V % Y=r at*;have e:Z=(b+2*r)+Y*(2*q):=by rw [h1,←h2,Yl,aaL];omega
 rw [e,YW,Yy _ _ hY];by_cases hc:Y≤b+2*r
 ·rw [Xo hc,Xo hc];have e2:b+2*r=(b+2*r-Y)+Y*1:=Xj;have h4:b+2*r-Y<Y:=Xj;have h5:(b+2*r)/Y=1:=by rw [e2,Yy _ _ hY,Yk h4]
  have h6:(b+2*r) % Y=b+2*r-Y:=by conv=>lhs;rw [e2,YW,X5 h4]
  rw [h5,h6];omega
 ·rw [Xp hc,Xp hc,X5 Xj,Yk Xj];omega
theorem oS (a b:ByteArray) (w:World) (ha:a.size≤1000000000) (hb:b.size≤1000000000) (hb0:bN b≠0):
  Calls Tryz.prog 188 #[.string a,.string b] w fun e w'=>e=.returned (.tuple #[.string (sN (bN a/bN b)),.string (sN (bN a % bN b)),.bool true])∧Below w.heap.size w w':=by
 have hh:=Hp.start w;have h1:=jq a;have h2:=jq b;have hX:=iH (bN a);have hXd:=lG (bN a);have hXl:bN a<2^(aZ 2 (bN a)).length:=dt _;have hYp:0<(aZ 2 (bN b)).length:=qi hb0;have hget:∀k,k<(aZ 2 (bN a)).length→(aZ 2 (bN a))[k]?=some (bN a/2^k % 2):=fun k hk=>At Xj hk;refine aj (N:=52) (l:=[.string a,.string b]) Tryz.func188 rfl rfl (by simp) ?_;refine sr (aS (aS (aB (aa (sr (mS ?_))))));refine Gp ?_;rintro e_ w13 ⟨A13,c13,rfl,hown_,hb_⟩;refine ⟨_,rfl, ?_⟩;replace hh:=hh.aX (x:=.row _ _ _ _ _ _) hb_ hown_;refine mS ?_;refine aF (eW b _ hb) ar.out rfl Xk ?_;rintro e_ w15 ⟨A15,c15,rfl,hown_,hb_⟩;refine ⟨_,rfl, ?_⟩;replace hh:=hh.aX (x:=.row _ _ _ _ _ _) hb_ hown_;refine aL (aL (aa (ah (sr (mL (aH ?_))))));refine cR (aa (cF (aq (ai (sr (mL (aH ?_)))))));refine fO hh rfl rfl rfl rfl bh.out aM.out rfl Xj Xj Xk ?_;intro b21 w21 hh;refine aL (aa (sr (aL (aa (ah (sr (mL (aH ?_))))))));refine ep (aI (aa (ao ?_)));rw [qF] at hh;generalize hxs:aZ 2 (bN a)=xs at*;replace hh:=hh.cU 5 1;refine bK [10,11,25,26,27,28,29,30,31,32,33,34,35,36,37,38,39,40,41,42,43,44,45,46,47] 10 11
  (fun v j w'=>∃(k:Nat) (A:Option Addr) (c':Nat),k≤xs.length∧j=.int .i64 ((k:Int)-1)∧v=.slice A (aZ 2 (bN a/2^k % bN b)).length c'∧Hp w [.row A (aZ 2 (bN a/2^k % bN b)).length c' 5 1 (gI (aZ 2 (bN a/2^k % bN b))),.row (some ⟨b21,0,none⟩) xs.length xs.length 5 1 (gI (List.replicate k 0++bV 2 (xs.length-k) (bN a/2^k/bN b))),.row A15 (aZ 2 (bN b)).length c15 5 1 (gI (aZ 2 (bN b))),.row A13 xs.length c13 5 1 (gI xs)] w')
  (fun _ j _=>(intOf j+1).toNat) ?_ ?_
 ·refine ⟨xs.length,none,0,Xr _,rfl, ?_, ?_⟩
  ·rw [Yk hXl,Nat.zero_mod,gu Xj];rfl
  ·rw [Yk hXl,Nat.zero_mod,gu Xj,Yq];simp only [bV,XZ];exact hh
 ·clear hh;rintro ρ' v j w' ⟨k,A,c',hk,rfl,rfl,hh⟩;by_cases h0:k=0
  ·subst h0;rw [ZY,Nat.div_one,Nat.sub_zero,aay,Xu] at hh;rw [ZY,Nat.div_one];have hq:bN a/bN b<2^xs.length:=Yv (ZM _ _) hXl;have hrl:(aZ 2 (bN a % bN b)).length≤(aZ 2 (bN b)).length:=oE Xj (Nat.le_of_lt (XW _ Xj));refine ah (sr (mI ?_));refine dL (aa (cF (a6 (aE (aE (bq (ai (sr (mL ?_)))))))));refine bA hh (iA _ _ _ (bV 2 xs.length (bN a/bN b)) _ (hh.aC (i:=1) rfl) (gk Xj _ _) (Xr _) Xj) rfl ?_;intro w49 hh;rw [dq hq];refine mL ?_;refine bA hh (iA _ _ _ (aZ 2 (bN a % bN b)) _ (hh.aC (i:=0) rfl) (lG _) (hh.fM (i:=0) rfl) Xj) rfl ?_;intro w51 hh;rw [iH];refine aS (aS (aB (aa (aw ?_))));refine WX ?_;exact ⟨rfl,hh.below⟩
  ·obtain ⟨i,rfl⟩:∃i,k=i+1:=⟨k-1,Xj⟩;have hji:((i+1:Nat):Int)-1=(i:Int):=Xj;obtain ⟨d1,d2,d3⟩:=Mx (bN a) (bN b) i Xj;have hgi:=ru (hget i Xj);have hdw:bN a/2^i % 2<2:=XW _ Xj;have hrl:(aZ 2 (bN a/2^(i+1) % bN b)).length≤(aZ 2 (bN b)).length:=oE Xj (Nat.le_of_lt (XW _ Xj));have hqk:bV 2 (xs.length-i) (bN a/2^i/bN b)=(bN a/2^i/bN b % 2)::bV 2 (xs.length-(i+1)) (bN a/2^(i+1)/bN b):=by
    rw [show xs.length-i=(xs.length-(i+1))+1 by omega,bV,d3]
   rw [hji];obtain ⟨g,rfl⟩:=hh.cn (i:=3) rfl Xj;refine ah (sr (mI ?_));refine dL (aa (cT (aq (ai (ah (ao (sr (mL (mI ?_)))))))));refine fT ?_;refine bU aM.out rfl (hh.eH (i:=3) rfl (by first|assumption|(simp only [XK];assumption))) Xk ?_;refine xm ?_;intro b33 w33 hh;refine mL ?_;refine cw hh (i:=0) rfl rfl rfl (hh.aC (i:=1) rfl) bh.out aM.out rfl Xk (by first|rfl|exact dv _|exact cY _|exact bF _|exact bT NR.one _) Xj Xj Xk ?_;intro A35 c35 w35 hh;simp only [XC] at hh;have e35:[Value.int .u8 ((bN a/2^i % 2:Nat):Int)]++gI (aZ 2 (bN a/2^(i+1) % bN b))=gI ((bN a/2^i % 2)::aZ 2 (bN a/2^(i+1) % bN b)):=rfl;rw [e35] at hh;generalize hR:bN a/2^(i+1) % bN b=R at*;generalize hbt:bN a/2^i % 2=bt at*;have hdg:Dg 2 (bt::aZ 2 R):=Dg.cons hdw (lG _);have hcv:dX (bt::aZ 2 R)=aZ 2 (bt+2*R):=by rw [ie Xj hdg,bB,iH]
   have hll:(bt::aZ 2 R).length=1+(aZ 2 R).length:=by rw [XR];omega
   have hcl:=fg (bt::aZ 2 R);refine bA hh (lZ _ _ _ (bt::aZ 2 R) _ (hh.aC (i:=0) rfl) (hh.fM (i:=0) rfl) Xj) rfl ?_;intro w36 hh;replace hh:=hh.SC hll;rw [hcv] at hh hcl;rw [hcv];refine aL (aa (sr (mL (mL ?_))));refine bA hh (ni _ _ _ _ _ _ (aZ 2 (bt+2*R)) (aZ 2 (bN b)) _ (hh.aC (i:=0) rfl) (hh.aC (i:=3) rfl) (lG _) (lG _) Xj Xj) rfl ?_;intro w39 hh;rw [iH,iH];by_cases hge:bN b≤bt+2*R
   ·have hc:0≤lE (bt+2*R) (bN b):=by unfold lE;rw [Xp Xj];split<;>omega
    rw [Xo hge] at d1 d2;have hml:bt+2*R-bN b<2^(aZ 2 (bt+2*R)).length:=Yv (Nat.sub_le _ _) (dt _);have hcm:dX (bV 2 (aZ 2 (bt+2*R)).length (bt+2*R-bN b))=aZ 2 (bt+2*R-bN b):=by rw [ie Xj (gk Xj _ _),dq hml]
    refine dL (aa (cT (sr (mL (mL ?_)))));refine aF (p5 _ _ _ _ _ _ (aZ 2 (bt+2*R)) (aZ 2 (bN b)) _ (hh.aC (i:=0) rfl) (hh.aC (i:=3) rfl) (lG _) (lG _) Xj Xj (by rw [iH,iH];exact hge)) ar.out rfl Xk ?_;rintro e_ w_ ⟨b43,rfl,hown_,hb_⟩;refine ⟨_,rfl, ?_⟩;replace hh:=hh.aX (x:=.row _ _ _ _ _ _) hb_ hown_;rw [iH,iH] at hh;refine bA hh (lZ _ _ _ (bV 2 (aZ 2 (bt+2*R)).length (bt+2*R-bN b)) _ (hh.aC (i:=0) rfl) (Xr _) Xj) rfl ?_;intro w44 hh;replace hh:=hh.SC (aT _ _);rw [hcm] at hh;rw [hcm];have hql:(gI (List.replicate (i+1) 0++bV 2 (xs.length-(i+1)) (bN a/2^(i+1)/bN b))).length=xs.length:=by rw [cV,Xy,YP,aT];omega
    refine aL (aa (al (mL (mI ?_))));refine fT ?_;refine bW hh (i:=3) (vs:=[_]) rfl rfl (cO rfl) rfl aM.out rfl (by rw [hql];omega) rfl ?_;intro ws hh;simp only [XC,X6] at hh;rw [XK,cM (by rw [hql];omega)] at hh;have hset:(gI (List.replicate (i+1) 0++bV 2 (xs.length-(i+1)) (bN a/2^(i+1)/bN b))).set i (.int .u8 1)=gI (List.replicate i 0++bV 2 (xs.length-i) (bN a/2^i/bN b)):=by
     have:=qa (List.replicate (i+1) 0++bV 2 (xs.length-(i+1)) (bN a/2^(i+1)/bN b)) i 1;rw [hqk,d2,←E1];exact this
    rw [hset] at hh;replace hh:=hh.sub (.cons_cons _ (.cons _ (.cons _ (Yo _))));refine aA (bz (ai (al (mI ?_))));refine ep (aI (aA (ai ?_)));exact PN
   ·have hc:¬0≤lE (bt+2*R) (bN b):=by rw [l7 Xj];omega
    rw [Xp hge] at d1 d2;refine dL (aa (cF (aq (bz (ai (al (mI ?_)))))));refine ep (aI (aA (ai ?_)));have hrep:List.replicate (i+1) 0++bV 2 (xs.length-(i+1)) (bN a/2^(i+1)/bN b)=List.replicate i 0++bV 2 (xs.length-i) (bN a/2^i/bN b):=by
     rw [hqk,d2,List.replicate_succ',Ya];rfl
    rw [hrep] at hh;replace hh:=hh.sub (.cons_cons _ (.cons _ (Yo _)));exact PN
end Go.Proofs.YtolamocnngihpaaGreatDoor
