/- Lemmas for bernOf, part 4. -/
import Derived.Test.YteeckcbbnegmcaaGreatDoorZ3
namespace Go.Proofs.YteeckcbbnegmcaaGreatDoor
variable {C N b c c' cy j k m n ny:Nat}{ad:Addr}{w w0:World}
open Go.RowKit
theorem iz (A:Option Addr) (n c:Nat) (xs:List Nat) (w:World) (hx:Sl w A n 1 (dn xs)) (hc:n≤c) (hn:n≤1000000000000):
  Calls Tryz.prog 245 #[.slice A n c] w fun e w'=>e=.returned (.slice A (dW xs).length c)∧Below w.heap.size w w':=by
 have hlen:xs.length=n:=by have:=hx.1;rw [bq] at this;omega
 have hh:=Hp.start w;refine aj (N:=21) (l:=[.slice A n c]) Tryz.func245 rfl rfl (by simp) ?_;refine sr (aL (aa (ah (aq ?_))));refine aM [0,3,4,5,6,7,8,9,10,11,12,13,14,15,16,17,18,19] 0
  (fun v w'=>∃k:Nat,k≤n∧v=.slice A k c∧dW (xs.take k)=dW xs∧w'=w)
  (fun v _=>lenOf v) ?_ ?_
 ·exact ⟨n,V8 _,rfl,by rw [Wa VX],rfl⟩
 ·rintro ρ' v w' ⟨k,hk,rfl,hcut,rfl⟩;by_cases h0:k=0
  ·subst h0;refine ah (sr (mL (aF ?_)));refine bM (mB ?_);refine gS (gS (gS (gS (gS ?_))));refine ic ?_;refine gS ?_;refine dE ?_;refine aa (cF (aU (aD (aD (bk (ai (sr (mL (aL (aa (au ?_)))))))))));refine cS ?_;rw [←hcut];exact ⟨rfl,hh.below⟩
  ·obtain ⟨j,rfl⟩:∃j,k=j+1:=⟨k-1,VX⟩;obtain ⟨d,hd⟩:=ak (l:=xs) (k:=j) VX;obtain ⟨ad,rfl,hr⟩:=hx.at_ VX;have hd2:=eG hd;rw [aw hd] at hcut;by_cases hz:d=0
   ·subst hz;rw [tg] at hcut;refine ah (sr (mL (aF ?_)));refine bM (mB (gT (mL (gT (mL (gT (aF (gT ?_))))))));refine dQ (gT ?_);refine k8 ?_;refine gT ?_;refine gZ ?_;refine gT ?_;refine cB ?_;refine eM ?_;refine aa (cT (ao (ai (aq (al (mL (mL (aF ?_))))))));refine dQ ?_;refine qo (h:=j) bj.out aO.size rfl rfl VX VX VY ?_;refine aL (aA (bF (ai ?_)));refine ⟨⟨j,VX,rfl,hcut,rfl⟩,by show j<j+1;omega, ?_⟩;exact dy
   ·rw [wX hz] at hcut;refine ah (sr (mL (aF ?_)));refine bM (mB (gT (mL (gT (mL (gT (aF (gT ?_))))))));refine dQ (gT ?_);refine k8 ?_;refine gT ?_;refine gZ ?_;refine gT ?_;refine cB ?_;refine eM ?_;refine aa (cF (aU (aD (aD (bk (ai (sr (mL (aL (aa (au ?_)))))))))));exact Oz
theorem fe {B:Nat}{l:List Nat}{i:Nat} (h:l[i]?=some c):bJ B (l.take (i+1))=bJ B (l.take i)+B^i*c:=by
 have hi:=(Wi.1 h).1;rw [aw h,fi,Wp,Xd VX];simp [bJ]
theorem Hp.Gk {H:List HE}{A:Option Addr}{t:TypeId}{xs:List Nat} (h:Hp w0 (.row A n c t 1 (dn xs)::H) w) (hl:xs.length=n):Hp w0 (.row A (dW xs).length c t 1 (dn (dW xs))::H) w:=by
 have h1:=fO xs;have h2:=h.DP (k:=(dW xs).length) VX;rw [Wo,←xO,←km] at h2;exact h2
theorem HO (a:ByteArray) (w:World) (ha:a.size≤100000000000):
  Calls Tryz.prog 224 #[.string a] w fun e w'=>∃b c,e=.returned (.slice (some ⟨b,0,none⟩) (a0 18446744073709551616 (bn a.data.toList)).length c)∧w'.ownsRow w.heap.size 204 1 (.slice (some ⟨b,0,none⟩) (a0 18446744073709551616 (bn a.data.toList)).length c) (a0 18446744073709551616 (bn a.data.toList)).length (dn (a0 18446744073709551616 (bn a.data.toList)))∧Below w.heap.size w w':=by
 have hsz:=dD a;have hh:=Hp.start w;refine aj (N:=39) (l:=[.string a]) Tryz.func224 rfl rfl (by simp) ?_;refine sr (aL (aa (sr (mS ?_))));refine bA bj.out rfl VY ?_;refine a9 ?_;refine oJ ?_;refine gj (n:=(a.size+7)/8) hh rfl rfl VX VX bj.out aO.out rfl VX VX VY ?_;intro b10 w10 hh;refine aL (aa (ah (sr (mS ?_))));refine bA bj.out rfl VY ?_;refine mI (aa (aq ?_));rw [qf] at hh;refine aM [4,5,13,14,15,16,17,18,19,20,21,22,23,24,25,26,27,28,29,30,31,32,33,34,35,36] 13
  (fun v w'=>∃i:Nat,i≤a.size∧v=.int .i64 i∧Hp w [.row (some ⟨b10,0,none⟩) ((a.size+7)/8) ((a.size+7)/8) 204 1 (dn (bW 18446744073709551616 ((a.size+7)/8) (bJ 256 ((Cf a.data.toList).take i))))] w')
  (fun v _=>a.size-(intOf v).toNat) ?_ ?_
 ·exact ⟨0,V5 _,rfl,by rw [XV,bJ,rH];exact hh⟩
 ·clear hh;rintro ρ' v w' ⟨i,hi,rfl,hh⟩;by_cases hlt:i<a.size
  ·obtain ⟨c,hc⟩:=ak (l:=a.data.toList) (k:=((a.size:Int)-1-i).toNat) VX;have hlo:=I6 (s:=a.data.toList) (i:=i) (c:=c) VX (by rw [←hc];congr 1;omega);have hc8:=c.toNat_lt;have hn:=ja ((yP a.data.toList).take i);rw [Wp,pk,Xd VX] at hn;obtain ⟨s1,s2,s3⟩:=Mq (k:=(a.size+7)/8) (bJ 256 ((Cf a.data.toList).take i)) hn hc8 VX;have hg:=eG (iX (B:=18446744073709551616) ((a.size+7)/8) (bJ 256 ((Cf a.data.toList).take i)) (i/8) VX);have e1:((i:Int) % 8*8).toNat=i % 8*8:=VX;refine sr ?_;refine aW (aa (ah (cT (ao (ai (ah (aq (sr (mI (aI (aa (sr (mS ?_)))))))))))));refine bA bj.out rfl VY ?_;refine dQ (mI ?_);refine dQ (aI (aa ?_));refine aT 13 [[(3,none)],[(4,none)],[(22,some 1)],[(21,some 0),(23,some 2)],[(24,some 3)],[(0,none)],[(5,none)],[(26,some 5),(27,some 6)],[(28,some 7)],[(4,none)],[(30,some 9)],[(31,some 10)],[(29,some 8),(32,some 11)]] [(12,33),(11,32),(10,31),(9,30),(8,29),(7,28),(6,27),(5,26),(4,25),(3,24),(2,23),(1,22),(0,21)] hh mixed VZ ?_;refine dI ?_;refine cM ?_
   refine bm (i:=2) (fun ρ1 w1 hj hR=>rf (show ρ1 22=Value.int _ _ from hR.1) rfl VX VX VX) ?_;refine FG (i/8) ?_;refine bm (i:=4) (fun ρ1 w1 hj hR=>ij aO.out (show ρ1 24=Value.pointer _ from hR.1) (hj.hp.fM (i:=0) rfl (by first|assumption|(simp only [Wo];assumption)))) ?_;refine T5 ?_;refine cM ?_;refine bm (i:=7) (fun ρ1 w1 hj hR=>jL bj.out (show ρ1 26=Value.string _ from hR.1) (show ρ1 27=Value.int _ _ from hR.2.1) VX (by assumption)) ?_;refine bm (i:=8) (fun ρ1 w1 hj hR=>uX bj.out bj.out (show ρ1 28=Value.int _ _ from hR.1) (by first|assumption|omega)) ?_;refine cM ?_;refine bm (i:=10) (fun ρ1 w1 hj hR=>pr (show ρ1 30=Value.int _ _ from hR.1) rfl VX VX) ?_;refine Tr ?_;refine bm (i:=12) (fun ρ1 w1 hj hR=>yr (show ρ1 29=Value.int _ _ from hR.1) (show ρ1 32=Value.int _ _ from hR.2.1) VX) ?_;refine aJ ?_;intro f W hJ hV;have hb_6:=hJ.bl;obtain ⟨v33,v32,v31,v30,v29,v28,v27,v26,v25,v24,v23,v22,v21,_⟩:=hV;replace hh:=hJ.hp;refine aR (a8 (ae v33 (ae v32 (ae v31 (ae v30 (ae v29 (ae v28 (ae v27 (ae v26 (ae v25 (ae v24 (ae v23 (ae v22 (ae v21 aQ)))))))))))))) ?_;dsimp only [bH];clear hJ;refine Gc ?_
   refine cX (k:=i/8) bj.out aO.size rfl rfl VX VX VY ?_;refine Ij ?_;intro ws hh;simp only [Wd] at hh;rw [e1,WU s2,D7 s1,cV (by rw [bq,aZ];omega),Wo,gD,s3,←fe hlo] at hh;refine gy ?_;refine a9 (mI (aA (ai ?_)));refine ⟨⟨i+1,VX,rfl,hh⟩,by show a.size-(i+1)<a.size-i;omega, ?_⟩;exact dy
  ·refine sr ?_;refine oP ?_;rw [Wa (by rw [pk];omega)] at hh;refine br hh (iz _ _ _ (bW 18446744073709551616 ((a.size+7)/8) (bn a.data.toList)) _ (hh.aC (i:=0) rfl) (V8 _) VX) rfl ?_;intro w38 hh;refine aL (aa (au ?_));refine cS ?_;have hbd:bn a.data.toList<18446744073709551616^((a.size+7)/8):=by
    refine Xa (PH _) ?_;rw [←hsz,show (256:Nat)=2^8 from rfl,show (18446744073709551616:Nat)=2^64 from rfl,←WW,←WW];exact WM VX VX
   have hd:dW (bW 18446744073709551616 ((a.size+7)/8) (bn a.data.toList))=a0 18446744073709551616 (bn a.data.toList):=by
    exact KR
   have h1:=(Hp.Gk (xs:=bW 18446744073709551616 ((a.size+7)/8) (bn a.data.toList)) hh (aZ _ _)).at_ (i:=0) rfl;exact Fb
theorem Sl.Qx {A:Option Addr}{xs:List Nat} (h:Sl w A n 1 (dn xs)) (hk:k≤n):Sl w A k 1 (dn (xs.take k)):=by
 have hl:=h.1;rw [bq] at hl;refine ⟨by rw [bq,Wp];omega,fun h0=> ?_⟩;obtain ⟨ad,he,hr⟩:=h.2 VX;exact ⟨ad,he,by rw [xO];exact hr.take k⟩
theorem Sl.ym {A:Option Addr}{xs:List Nat} (h:Sl w A n 1 (dn xs)):Sl w A (dW xs).length 1 (dn (dW xs)):=by
 have hl:=h.1;rw [bq] at hl;have:=fO xs;have h2:=h.Qx (k:=(dW xs).length) VX;rwa [←km] at h2
theorem Cz {xs:List Nat} (h:Dg 18446744073709551616 xs):bO (bJ 18446744073709551616 xs)≤64*xs.length:=by
 apply dO;rw [WW];exact ja h
theorem u4 (A:Option Addr) (n c:Nat) (xs:List Nat) (w:World) (hx:Sl w A n 1 (dn xs)) (hd:Dg 18446744073709551616 xs) (hc:n≤c) (hn:n≤100000000000):
  Calls Tryz.prog 248 #[.slice A n c] w fun e w'=>e=.returned (.int .i64 (bO (bJ 18446744073709551616 xs)))∧Below w.heap.size w w':=by
 have hl:=hx.1;rw [bq] at hl;have hcl:=fO xs;have hcx:=hx.ym;have hcd:=hd.cut;have hlast:=wV xs;rw [←lF];generalize hcs:dW xs=cs at*;have hh:=Hp.start w;refine aj (N:=19) (l:=[.slice A n c]) Tryz.func248 rfl rfl (by simp) ?_;refine sr (aI (aa (sr (mL ?_))));refine br hh (iz _ _ _ xs _ hx hc VX) rfl ?_;intro w4 hh;rw [hcs];by_cases h0:cs.length=0
 ·refine aL (aa (ah (sr (mL (aF ?_)))));refine xB ?_;refine cS ?_;have:cs=[]:=Xt h0;subst this;exact ⟨by rw [bJ,lU];rfl,hh.below⟩
 ·obtain ⟨ad,rfl,hr⟩:=hcx.at_ VX;obtain ⟨d,hd⟩:=ak (l:=cs) (k:=cs.length-1) VX;have hd2:=eG hd;have hd3:=hcd.at_ hd;have e1:cs.take (cs.length-1)++[d]=cs:=by rw [←aw hd,Wa VX]
  have hnz:d≠0:=by
   intro h;subst h;apply hlast;rw [List.getLast?_eq_getElem?];exact hd
  have hb:=KM (B:=18446744073709551616) (b:=64) (m:=cs.length-1) VY (hcd.take (cs.length-1)) (by rw [Wp];omega) hnz;rw [e1] at hb;have hb2:bO d≤64:=dO (by simpa using hd3);refine aL (aa (ah (sr (mL (aF ?_)))));refine cB (aa (cF (ao (ai (sr (mL (aF ?_)))))));refine mulC (mL (mL (aF ?_)));refine dQ ?_;refine dp (k:=cs.length-1) bj.out aO.size rfl rfl VX VX VY ?_;refine gZ ?_;refine br hh (CT _ _ hd3) rfl ?_;intro w17 hh;refine dQ (aI (aa (au ?_)));refine cS ?_;refine ⟨?_,hh.below⟩;congr 2;omega
theorem CH (N:Nat):(a0 256 N).length=(bO N+7)/8:=by
 have h256:(256:Nat)=2^8:=rfl;have h1:(a0 256 N).length≤(bO N+7)/8:=by
  apply iF VX;refine Xa (dk N) ?_;rw [h256,←WW];exact WM VX VX
 have h2:=qQ (B:=256) VX N;have h3:bO N≤8*(a0 256 N).length:=by
  apply dO;rw [WW];exact h2
 omega
theorem lJ {B:Nat} (i N:Nat):bW B (i+1) N=bW B i N++[N/B^i % B]:=by
 apply XN;intro j
 rcases Nat.lt_trichotomy j i with h|h|h
 ·rw [iX _ _ _ VX,Yp (by rw [aZ];exact h),iX _ _ _ h]
 ·subst h;rw [iX _ _ _ VX,Xm (by rw [aZ];omega),aZ];simp
 ·rw [WK (by rw [aZ];omega),WK (by rw [Wc,aZ];simp;omega)]
theorem Fv {R:List Nat}{x:Nat}:(List.replicate (k+1) 0++R).set k x=List.replicate k 0++(x::R):=by
 rw [List.replicate_succ',WQ,X4 _ _ (by simp)];simp
theorem iG (A:Option Addr) (n c:Nat) (xs:List Nat) (w:World) (hx:Sl w A n 1 (dn xs)) (hd:Dg 18446744073709551616 xs) (hc:n≤c) (hn:n≤10000000000):
  Calls Tryz.prog 235 #[.slice A n c] w fun e w'=>e=.returned (.string (str (sb (bJ 18446744073709551616 xs))))∧Below w.heap.size w w':=by
 have hl:=hx.1;rw [bq] at hl;have hcl:=fO xs;have hcx:=hx.ym;have hcd:=hd.cut;have hbl:=Cz hcd;have hcan:=iB VX hd;have hlen:=CH (bJ 18446744073709551616 xs);rw [lF] at hbl;have hh:=Hp.start w;refine aj (N:=37) (l:=[.slice A n c]) Tryz.func235 rfl rfl (by simp) ?_;refine sr (aS (aa (sr (mL ?_))));refine br hh (iz _ _ _ xs _ hx hc VX) rfl ?_;intro w7 hh;rw [hcan] at hcl hcx hcd hbl;rw [hcan];refine aL (aa (sr (mL ?_)));refine br hh (u4 _ _ _ (a0 18446744073709551616 (bJ 18446744073709551616 xs)) _ (hcx.ext hh.below) hcd VX VX) rfl ?_;intro w9 hh;rw [ea VX];generalize bJ 18446744073709551616 xs=M at*;refine a9 ?_;refine oJ ?_;refine aI (aa (sr (mI ?_)));refine gj (n:=(bO M+7)/8) hh rfl rfl VX VX bj.out aO.out rfl VX VX VY ?_;intro b13 w13 hh;refine aL (aa (ah (sr (mI (mI (aa (aq ?_)))))));rw [pL] at hh;refine aM [5,15,16,17,18,19,20,21,22,23,24,25,26,27,28,29,30,31,32,33,34] 15
  (fun v w'=>∃i:Nat,i≤(bO M+7)/8∧v=.int .i64 i∧Hp w [.row (some ⟨b13,0,none⟩) ((bO M+7)/8) ((bO M+7)/8) 5 1 (gP (List.replicate ((bO M+7)/8-i) 0++(bW 256 i M).reverse))] w')
  (fun v _=>(bO M+7)/8-(intOf v).toNat) ?_ ?_
 ·exact ⟨0,V5 _,rfl,by simpa [bW] using hh⟩
 ·clear hh;rintro ρ' v w' ⟨i,hi,rfl,hh⟩;by_cases hlt:i<(bO M+7)/8
  ·obtain ⟨ad,rfl,hr⟩:=hcx.at_ VX;have hg:=BA (B:=18446744073709551616) (n:=M) (i:=i/8) VX VX;have hg2:=eG hg;have e1:((i:Int) % 8*8).toNat=i % 8*8:=VX;refine sr ?_;refine aW (aa (ah (cT (ao (ai (ah (aq (sr (mI (aI (aa (al (mL (mI ?_))))))))))))));refine dQ (mI ?_);refine dQ (mL (mI ?_));refine oJ ?_;refine dp (k:=i/8) bj.out aO.size rfl rfl VX VX VY ?_;refine gZ ?_;refine mI ?_;refine rY ?_;refine mulC ?_;refine CA rfl rfl VX VY ?_;refine NJ bj.out bj.out rfl VY ?_;refine cX (k:=(bO M+7)/8-1-i) bj.out aO.size rfl rfl VX VX VY ?_;refine cd hh (i:=0) (vs:=[_]) rfl rfl (cR rfl) rfl aO.out rfl (by rw [cY,Wc,W3,Xo,aZ];omega) rfl ?_;intro ws hh;simp only [Wd] at hh;obtain ⟨k,hk⟩:∃k,(bO M+7)/8-i=k+1:=⟨(bO M+7)/8-i-1,VX⟩;rw [e1,HI,Wo,cV (by rw [cY,Wc,W3,Xo,aZ];omega),pS,hk,show (bO M+7)/8-1-i=k by omega,Fv,←List.reverse_concat,←lJ] at hh;refine gy ?_;refine a9 (mI (aA (ai ?_)))
   refine ⟨⟨i+1,VX,rfl,by rw [show (bO M+7)/8-(i+1)=k by omega];exact hh⟩,by show (bO M+7)/8-(i+1)<(bO M+7)/8-i;omega, ?_⟩;exact dy
  ·obtain rfl:i=(bO M+7)/8:=VX;have hfin:gP (List.replicate ((bO M+7)/8-(bO M+7)/8) 0++(bW 256 ((bO M+7)/8) M).reverse)=lX (sb M):=by
    rw [W9,Y8,V9,←hlen];exact SF
   rw [hfin] at hh;refine sr ?_;refine oP ?_;exact P0
theorem oI (A:Option Addr) (n c m:Nat) (xs:List Nat) (w:World) (hx:Sl w A n 1 (dn xs)) (hn:n≤10000000000) (hm:m≤10000000000):
  Calls Tryz.prog 249 #[.slice A n c,.int .i64 m] w fun e w'=>∃b,e=.returned (.slice (some ⟨b,0,none⟩) (max m n) (max m n))∧w'.ownsRow w.heap.size 204 1 (.slice (some ⟨b,0,none⟩) (max m n) (max m n)) (max m n) (dn (xs++List.replicate (max m n-n) 0))∧Below w.heap.size w w':=by
 have hl:=hx.1;rw [bq] at hl;have hh:=Hp.start w;refine aj (N:=15) (l:=[.slice A n c,.int .i64 m]) Tryz.func249 rfl rfl (by simp) ?_;refine sr (aL (aa (sr (mI (mL (aF ?_))))));refine kF rfl rfl VY ?_;refine gj (n:=max m n) hh rfl rfl VX VX bj.out aO.out rfl VX VX VY ?_;intro b10 w10 hh;refine aL (aa (sr (mL (mL ?_))));rw [qf] at hh;refine MZ hh (i:=0) (o:=0) rfl rfl rfl (hx.ext hh.below) bj.out aO.out (by rw [bq,Xo];omega) (cD _) VY ?_;intro w13 hh;skip;have e1:cz (dn (List.replicate (max m n) 0)) 0 ((dn xs).take (min n (max m n)*1))=dn (xs++List.replicate (max m n-n) 0):=by
  rw [Wa (by rw [bq];omega),cz,XV,V9,bq,←xK,←Bd,List.drop_replicate];congr 3;omega
 simp only [Wd,e1] at hh;refine aa (sr (mL (aL (aa (au ?_)))));refine cS ?_;exact ⟨_,rfl,hh.at_ (i:=0) rfl,hh.below⟩
theorem Dm (A B:Option Addr) (n c m c':Nat) (xs ys:List Nat) (w:World) (hx:Sl w A n 1 (dn xs)) (hy:Sl w B m 1 (dn ys)) (hdx:Dg 18446744073709551616 xs) (hdy:Dg 18446744073709551616 ys) (hc:n≤c) (hc':m≤c') (hn:n≤100000000000) (hm:m≤100000000000):
  Calls Tryz.prog 252 #[.slice A n c,.slice B m c'] w fun e w'=>e=.returned (.int .i64 (lB (bJ 18446744073709551616 xs) (bJ 18446744073709551616 ys)))∧Below w.heap.size w w':=by
 have hlx:=hx.1;have hly:=hy.1;rw [bq] at hlx hly;have hcx:=hx.ym;have hcy:=hy.ym;have hxl:=fO xs;have hyl:=fO ys;have hx2:=Can.cut hdx;have hy2:=Can.cut hdy;have hh:=Hp.start w;rw [←lF xs,←lF ys];refine aj (N:=47) (l:=[.slice A n c,.slice B m c']) Tryz.func252 rfl rfl (by simp) ?_;refine sr (aI (aa (sr (mL ?_))));refine br hh (iz _ _ _ xs _ hx hc VX) rfl ?_;intro w7 hh;refine mL ?_;refine br hh (iz _ _ _ ys _ (hy.ext hh.below) hc' VX) rfl ?_;intro w9 hh;generalize dW xs=us at*;generalize dW ys=vs at*;by_cases hlen:us.length=vs.length
 ·refine aL (aL (aa (ah (sr (mL (aF (mL (aF ?_))))))));refine EA ?_;refine dQ (aI (aa (aq ?_)));refine aM [4,5,23,24,25,26,27,28,29,30,31,32,33,34,35,36,37,38,39,40,41,42,43,44,45,46] 5
   (fun v w'=>∃k:Nat,k≤us.length∧v=.int .i64 ((k:Int)-1)∧us.drop k=vs.drop k∧Hp w [] w')
   (fun v _=>(intOf v+1).toNat) ?_ ?_
  ·exact ⟨us.length,V8 _,rfl,by rw [List.drop_length,List.drop_eq_nil_of_le VX],hh⟩
  ·clear hh;rintro ρ' v w' ⟨k,hk,rfl,hd,hh⟩;by_cases h0:k=0
   ·subst h0;refine ah (sr (mI ?_));refine dJ (aa (cF (aU (aD (aD (bk (ai (sr (aI (aa (au ?_)))))))))));refine cS ?_;rw [List.drop_zero,List.drop_zero] at hd;rw [hd];exact ⟨by rw [Fj rfl],hh.below⟩
   ·obtain ⟨j,rfl⟩:∃j,k=j+1:=⟨k-1,VX⟩;obtain ⟨x,hxj⟩:=ak (l:=us) (k:=j) VX;obtain ⟨y,hyj⟩:=ak (l:=vs) (k:=j) VX;obtain ⟨ad,rfl,hr⟩:=hcx.at_ VX;obtain ⟨ad2,rfl,hs⟩:=hcy.at_ VX;have hx3:=eG hxj;have hy3:=eG hyj;by_cases hlt:x<y
    ·have hf:=wC hx2.1 hxj hyj hd hlt;refine ah (sr (mI ?_));refine Jn ?_;refine JB ?_;refine dI ?_;refine cM ?_;refine iL (j) ?_;refine Am ?_;refine dI ?_;refine cM ?_;refine iL (j) ?_;refine zZ ?_;refine aJ ?_;intro f W hJ hV;have hb_9:=hJ.bl;obtain ⟨v35,v34,v33,v32,v31,v30,v29,v28,_⟩:=hV;replace hh:=hJ.hp;refine IP ?_;dsimp only [bH];clear hJ;refine aW (aB (aa (cT (sr (aI (aa (au (bI (bI (aE (aE (bI (aE ?_)))))))))))));refine cS ?_;exact ⟨by rw [ma hf],hh.below⟩
    ·by_cases hgt:y<x
     ·have hf:=wC hy2.1 hyj hxj hd.symm hgt;refine ah (sr (mI ?_));refine Jn ?_;refine JB ?_;refine dI ?_;refine cM ?_;refine iL (j) ?_;refine Am ?_;refine dI ?_;refine cM ?_;refine iL (j) ?_;refine zZ ?_;refine aJ ?_;intro f W hJ hV;have hb_9:=hJ.bl;obtain ⟨v35,v34,v33,v32,v31,v30,v29,v28,_⟩:=hV;replace hh:=hJ.hp;refine IP ?_;dsimp only [bH];clear hJ;refine aW (aB (aa (cF (ah ?_))));refine Ot ?_;refine dI ?_;refine cM ?_;refine iL (j) ?_;refine Am ?_;refine dI ?_;refine cM ?_;refine iL (j) ?_;refine zZ ?_;refine aJ ?_;intro f W hJ hV;have hb_11:=hJ.bl;obtain ⟨v45,v44,v43,v42,v41,v40,v39,v38,_⟩:=hV;replace hh:=hJ.hp;refine Pr ?_;dsimp only [bH];clear hJ;refine bM (aB (aa (cT (sr (aI (aa (au (bI (bI (aE (aE (bI (aE ?_)))))))))))));refine cS ?_;exact ⟨by rw [yC hf],hh.below⟩
     ·refine ah (sr (mI ?_));refine Jn ?_;refine JB ?_;refine dI ?_;refine cM ?_;refine iL (j) ?_;refine Am ?_;refine dI ?_;refine cM ?_;refine iL (j) ?_;refine zZ ?_;refine aJ ?_;intro f W hJ hV;have hb_9:=hJ.bl;obtain ⟨v35,v34,v33,v32,v31,v30,v29,v28,_⟩:=hV;replace hh:=hJ.hp;refine IP ?_;dsimp only [bH];clear hJ;refine aW (aB (aa (cF (ah ?_))));refine Ot ?_;refine dI ?_;refine cM ?_;refine iL (j) ?_;refine Am ?_;refine dI ?_;refine cM ?_;refine iL (j) ?_;refine zZ ?_;refine aJ ?_;intro f W hJ hV;have hb_11:=hJ.bl;obtain ⟨v45,v44,v43,v42,v41,v40,v39,v38,_⟩:=hV;replace hh:=hJ.hp;refine Pr ?_;dsimp only [bH];clear hJ;refine bM (aB (aa (cF (ao (bF (bF (ai (al (mI ?_)))))))));refine dQ (aI (aA (ai ?_)));refine ⟨⟨j,VX,by show Value.int _ _=Value.int _ _;congr 1;omega,zv hxj hyj hd VX,hh⟩,by show ((((j+1:Nat):Int)-1-1)+1).toNat<((((j+1:Nat):Int)-1)+1).toNat;omega, ?_⟩;exact dy
 ·by_cases hlt:us.length<vs.length
  ·have hf:bJ 18446744073709551616 us<bJ 18446744073709551616 vs:=by
    refine YR fun h=> ?_;have:=hy2.vr hx2 VX h;omega
   refine aL (aL (aa (ah (sr (mL (aF (mL (aF ?_))))))));refine cJ (aa (cT (ah (sr (mL (aF (mL (aF ?_))))))));refine aW (aa (cT (sr (aI (aa (au (aE (aE ?_))))))));refine cS ?_;exact ⟨by rw [ma hf],hh.below⟩
  ·have hf:bJ 18446744073709551616 vs<bJ 18446744073709551616 us:=by
    refine YR fun h=> ?_;have:=hx2.vr hy2 VX h;omega
   refine aL (aL (aa (ah (sr (mL (aF (mL (aF ?_))))))));refine cJ (aa (cT (ah (sr (mL (aF (mL (aF ?_))))))));refine aW (aa (cF (ao (ai (sr (aI (aa (au (aE ?_)))))))));refine cS ?_;exact ⟨by rw [yC hf],hh.below⟩
theorem TJ {y:Nat} (hy:y<18446744073709551616) (hm:m<18446744073709551616):y*m≤340282366920938463426481119284349108225:=XM (by omega:y≤18446744073709551615) (by omega:m≤18446744073709551615)
theorem wu {x y P:Nat} (hx:x<18446744073709551616) (hc:c<18446744073709551616) (hP:P≤340282366920938463426481119284349108225) (he:P=y*m):
  (x+(P % 18446744073709551616+c+0) % 18446744073709551616+0) % 18446744073709551616=(x+y*m+c) % 18446744073709551616∧((P/18446744073709551616+(P % 18446744073709551616+c+0)/18446744073709551616) % 18446744073709551616+(x+(P % 18446744073709551616+c+0) % 18446744073709551616+0)/18446744073709551616) % 18446744073709551616=(x+y*m+c)/18446744073709551616∧(x+y*m+c)/18446744073709551616<18446744073709551616:=by
 rw [←he];omega
theorem Aj {H:List HE}{M:Nat}{Y:Option Addr} (pre xs post ys:List Nat) (w:World) (hh:Hp w0 (.row (some ⟨b,0,none⟩) M C 204 1 (dn (pre++xs++post))::H) w)
  (hy:∀w1 cs,Hp w0 (.row (some ⟨b,0,none⟩) M C 204 1 cs::H) w1→Sl w1 Y ny 1 (dn ys)) (hxd:Dg 18446744073709551616 xs) (hyd:Dg 18446744073709551616 ys) (hm:m<18446744073709551616) (hM:xs.length≤100000000000) (hny:ny≤100000000000):
  Calls Tryz.prog 255 #[.slice (some ⟨b,pre.length,none⟩) xs.length c',.slice Y ny cy,.int .u64 (m:Int)] w fun e w'=>e=.returned (.tuple #[])∧Hp w0 (.row (some ⟨b,0,none⟩) M C 204 1 (dn (pre++iC 18446744073709551616 xs ys m 0++post))::H) w':=by
 have hly:=(hy _ _ hh).1;rw [bq] at hly;refine aj (N:=56) (l:=[.slice (some ⟨b,pre.length,none⟩) xs.length c',.slice Y ny cy,.int .u64 (m:Int)]) Tryz.func255 rfl rfl (by simp) ?_;refine sr (aI (aa (sr (mL (aF (mI (aa (aq ?_))))))));refine bp [6,7,8,9,10,11,14,15,16,17,18,19,20,21,22,23,24,25,26,27,28,29,30,31,32,33,34,35,36,37,38,39,40,41,42,43,44,45,46,47,48,49,50,51,52,53,54,55] 6 14
  (fun c i w'=>∃(done rest:List Nat) (cr:Nat),done.length+rest.length=xs.length∧i=.int .i64 done.length∧c=.int .u64 (cr:Int)∧cr<18446744073709551616∧Dg 18446744073709551616 rest∧done++iC 18446744073709551616 rest (ys.drop done.length) m cr=iC 18446744073709551616 xs ys m 0∧Hp w0 (.row (some ⟨b,0,none⟩) M C 204 1 (dn (pre++(done++rest)++post))::H) w')
  (fun _ i _=>xs.length-(intOf i).toNat) ?_ ?_
 ·exact ⟨[],xs,0,by simp,rfl,rfl,VX,hxd,rfl,hh⟩
 ·clear hh;rintro ρ' c i w' ⟨done,rest,cr,hlen,rfl,rfl,hcr,hrd,heq,hh⟩;by_cases hlt:done.length<xs.length
  ·obtain ⟨x,r,rfl⟩:∃x r,rest=x::r:=by
    exact IU
   have hx:=hrd.head;have hg:=eG (y6 (pre:=pre) (done:=done) (r:=r) (post:=post) (x:=x));have hlr:done.length+(r.length+1)=xs.length:=by simpa using hlen
   simp only [iC,tail_drop,ug] at heq;by_cases hiy:done.length<ny
   ·obtain ⟨y,hyk⟩:=ak (l:=ys) (k:=done.length) VX;obtain ⟨ad,rfl,_⟩:=(hy _ _ hh).at_ VX;rw [hyk,Xq] at heq;have hyw:=hyd.at_ hyk;refine sr ?_;refine xA ?_;refine aW (aa (cT (al (mL (mI ?_)))));refine JD ?_;refine bX aO.out rfl ((hy _ _ hh).RV hyk) VY ?_;refine aI (aa (sr (mI (mI ?_))));obtain ⟨p1,p2,p3⟩:=wu (y:=y) (m:=m) hx hcr (TJ hyw hm) rfl;refine br hh (r8 y m _ hyw hm) rfl ?_;intro w28 hh;refine mT ?_;refine du ?_;refine du ?_;refine aI (aI (aa (sr (mI (mI ?_)))));refine kN (ke (y*m % 18446744073709551616) cr 0 VX _) (av (cR rfl) (av (cR rfl) (av rfl a6))) VY ?_;refine mT ?_;refine du ?_;refine du ?_;refine aI (aI (aa (sr (mI (mI ?_)))));refine jd rfl rfl VY ?_;refine aI (aa (sr (mL (mI (mL (mI ?_))))));refine pf bj.out aO.size rfl rfl rfl VX VY ?_;refine jO ?_;refine mI ?_;refine kN (ke x ((y*m % 18446744073709551616+cr+0) % 18446744073709551616) 0 VX _) (av (cR rfl) (av (cR rfl) (av rfl a6))) VY ?_;refine mT ?_;refine du ?_;refine du ?_;refine oH ?_;refine wy ?_;intro ws hh;simp only [Wd] at hh;rw [p1,Wo,cV (by rw [bq];simp only [Wc,Wx];omega),gD,nX] at hh
    refine aI (aa (al (mI (mI ?_))));refine jd rfl rfl VY ?_;refine wh ?_;refine a9 (mI (aA (ai ?_)));rw [p2];refine ⟨⟨done++[(x+y*m+cr) % 18446744073709551616],r,_,by simp;omega,by rw [Wc];rfl,rfl,p3,hrd.tail, ?_,hh⟩,by show xs.length-(done.length+1)<xs.length-done.length;omega, ?_⟩
    ·rw [←heq,WQ,Wc];rfl
    exact V0
   ·rw [WK VX,Option.getD_none] at heq;have h0w:(0:Nat)<18446744073709551616:=VX;refine sr ?_;refine xA ?_;refine aW (aa (cF (ao (ai (sr (mI (mI ?_)))))));obtain ⟨p1,p2,p3⟩:=wu (y:=0) (m:=m) hx hcr (TJ h0w hm) rfl;refine br hh (r8 0 m _ h0w hm) rfl ?_;intro w28 hh;refine mT ?_;refine du ?_;refine du ?_;refine aI (aI (aa (sr (mI (mI ?_)))));refine kN (ke (0*m % 18446744073709551616) cr 0 VX _) (av (cR rfl) (av (cR rfl) (av rfl a6))) VY ?_;refine mT ?_;refine du ?_;refine du ?_;refine aI (aI (aa (sr (mI (mI ?_)))));refine jd rfl rfl VY ?_;refine aI (aa (sr (mL (mI (mL (mI ?_))))));refine pf bj.out aO.size rfl rfl rfl VX VY ?_;refine jO ?_;refine mI ?_;refine kN (ke x ((0*m % 18446744073709551616+cr+0) % 18446744073709551616) 0 VX _) (av (cR rfl) (av (cR rfl) (av rfl a6))) VY ?_;refine mT ?_;refine du ?_;refine du ?_;refine oH ?_;refine wy ?_;intro ws hh;simp only [Wd] at hh;rw [p1,Wo,cV (by rw [bq];simp only [Wc,Wx];omega),gD,nX] at hh;refine aI (aa (al (mI (mI ?_))));refine jd rfl rfl VY ?_;refine wh ?_;refine a9 (mI (aA (ai ?_)));rw [p2]
    refine ⟨⟨done++[(x+0*m+cr) % 18446744073709551616],r,_,by simp;omega,by rw [Wc];rfl,rfl,p3,hrd.tail, ?_,hh⟩,by show xs.length-(done.length+1)<xs.length-done.length;omega, ?_⟩
    ·rw [←heq,WQ,Wc];rfl
    exact V0
  ·exact S3
theorem Ao {H:List HE}{M:Nat}{Y:Option Addr} (pre xs post ys:List Nat) (w:World) (hh:Hp w0 (.row (some ⟨b,0,none⟩) M C 204 1 (dn (pre++xs++post))::H) w)
  (hy:∀w1 cs,Hp w0 (.row (some ⟨b,0,none⟩) M C 204 1 cs::H) w1→Sl w1 Y ny 1 (dn ys)) (hxd:Dg 18446744073709551616 xs) (hyd:Dg 18446744073709551616 ys) (hM:xs.length≤100000000000) (hny:ny≤100000000000) (hsub:Al 18446744073709551616 xs ys 0=0):
  Calls Tryz.prog 253 #[.slice (some ⟨b,pre.length,none⟩) xs.length c',.slice Y ny cy] w fun e w'=>e=.returned (.bool true)∧Hp w0 (.row (some ⟨b,0,none⟩) M C 204 1 (dn (pre++sA 18446744073709551616 xs ys 0++post))::H) w':=by
 have hly:=(hy _ _ hh).1;rw [bq] at hly;refine aj (N:=37) (l:=[.slice (some ⟨b,pre.length,none⟩) xs.length c',.slice Y ny cy]) Tryz.func253 rfl rfl (by simp) ?_;refine sr (aB (aa (sr (aI (aa (ah (sr (mL (aF (mI (aa (aq ?_))))))))))));refine bp [5,6,7,10,11,12,13,14,15,16,17,18,19,20,21,22,23,24,25,26,27,28,29,30,31,32,33,34] 5 10
  (fun c i w'=>∃(done rest:List Nat) (cr:Nat),done.length+rest.length=xs.length∧i=.int .i64 done.length∧c=.int .u64 (cr:Int)∧cr≤1∧Dg 18446744073709551616 rest∧done++sA 18446744073709551616 rest (ys.drop done.length) cr=sA 18446744073709551616 xs ys 0∧Al 18446744073709551616 rest (ys.drop done.length) cr=0∧Hp w0 (.row (some ⟨b,0,none⟩) M C 204 1 (dn (pre++(done++rest)++post))::H) w')
  (fun _ i _=>xs.length-(intOf i).toNat) ?_ ?_
 ·exact ⟨[],xs,0,by simp,rfl,rfl,VX,hxd,rfl,hsub,hh⟩
 ·clear hh;rintro ρ' c i w' ⟨done,rest,cr,hlen,rfl,rfl,hcr,hrd,heq,hsb,hh⟩;by_cases hlt:done.length<xs.length
  ·obtain ⟨x,r,rfl⟩:∃x r,rest=x::r:=by
    exact IU
   have hx:=hrd.head;have hg:=eG (y6 (pre:=pre) (done:=done) (r:=r) (post:=post) (x:=x));have hlr:done.length+(r.length+1)=xs.length:=by simpa using hlen
   simp only [sA,Al,tail_drop,ug] at heq hsb;by_cases hiy:done.length<ny
   ·obtain ⟨y,hyk⟩:=ak (l:=ys) (k:=done.length) VX;obtain ⟨ad,rfl,_⟩:=(hy _ _ hh).at_ VX;rw [hyk,Xq] at heq hsb;have hyw:=hyd.at_ hyk;refine sr ?_;refine xA ?_;refine aW (aa (cT (al (mL (mI ?_)))));refine JD ?_;refine bX aO.out rfl ((hy _ _ hh).RV hyk) VY ?_;refine aI (aa (al (mL (mI (mL (mI ?_))))));refine oH ?_;refine jO ?_;refine mI (mI ?_);refine kN (wJ x y cr hcr _) (av (cR rfl) (av (cR rfl) (av (cR rfl) a6))) VY ?_;refine mT ?_;refine du ?_;refine du ?_;refine oH ?_;refine wy ?_;intro ws hh;simp only [Wd] at hh;rw [Wo,cV (by rw [bq];simp only [Wc,Wx];omega),gD,nX] at hh;refine wh ?_;refine a9 (mI (aA (ai ?_)));refine ⟨⟨done++[(x+18446744073709551616-y-cr) % 18446744073709551616],r,_,by simp;omega,by rw [Wc];rfl,rfl,by split<;>omega,hrd.tail, ?_, ?_,hh⟩,by show xs.length-(done.length+1)<xs.length-done.length;omega, ?_⟩
    ·rw [←heq,WQ,Wc];rfl
    ·rw [Wc];exact hsb
    exact V0
   ·rw [WK VX,Option.getD_none] at heq hsb;refine sr ?_;refine xA ?_;refine aW (aa (cF (ao (ai (al (mL (mI (mL (mI ?_)))))))));refine oH ?_;refine jO ?_;refine mI (mI ?_);refine kN (wJ x 0 cr hcr _) (av (cR rfl) (av (cR rfl) (av (cR rfl) a6))) VY ?_;refine mT ?_;refine du ?_;refine du ?_;refine oH ?_;refine wy ?_;intro ws hh;simp only [Wd] at hh;rw [Wo,cV (by rw [bq];simp only [Wc,Wx];omega),gD,nX] at hh;refine wh ?_;refine a9 (mI (aA (ai ?_)));refine ⟨⟨done++[(x+18446744073709551616-0-cr) % 18446744073709551616],r,_,by simp;omega,by rw [Wc];rfl,rfl,by split<;>omega,hrd.tail, ?_, ?_,hh⟩,by show xs.length-(done.length+1)<xs.length-done.length;omega, ?_⟩
    ·rw [←heq,WQ,Wc];rfl
    ·rw [Wc];exact hsb
    exact V0
  ·have hr0:rest=[]:=Xt VX;subst hr0;obtain rfl:cr=0:=hsb;refine sr ?_;refine aW (aa (ah (cF (aU (aD (aD (bk (ai (sr (mI ?_))))))))));refine cB (aB (aa (au ?_)));refine cS ?_;rw [WG,sA,WG] at*;rw [←heq];exact ⟨rfl,hh⟩
theorem D5 {H:List HE}{M:Nat}{Y:Option Addr} (pre xs post ys:List Nat) (w:World) (hh:Hp w0 (.row (some ⟨b,0,none⟩) M C 204 1 (dn (pre++xs++post))::H) w)
  (hy:∀w1 cs,Hp w0 (.row (some ⟨b,0,none⟩) M C 204 1 cs::H) w1→Sl w1 Y ny 1 (dn ys)) (hxd:Dg 18446744073709551616 xs) (hyd:Dg 18446744073709551616 ys) (hM:xs.length≤100000000000) (hny:ny≤100000000000):
  Calls Tryz.prog 250 #[.slice (some ⟨b,pre.length,none⟩) xs.length c',.slice Y ny cy] w fun e w'=>e=.returned (.tuple #[])∧Hp w0 (.row (some ⟨b,0,none⟩) M C 204 1 (dn (pre++iC 18446744073709551616 xs ys 1 0++post))::H) w':=by
 have hly:=(hy _ _ hh).1;rw [bq] at hly;refine aj (N:=34) (l:=[.slice (some ⟨b,pre.length,none⟩) xs.length c',.slice Y ny cy]) Tryz.func250 rfl rfl (by simp) ?_;refine sr (aI (aa (sr (mL (aF (mI (aa (aq ?_))))))));refine bp [4,5,6,9,10,11,12,13,14,15,16,17,18,19,20,21,22,23,24,25,26,27,28,29,30,31,32,33] 4 9
  (fun c i w'=>∃(done rest:List Nat) (cr:Nat),done.length+rest.length=xs.length∧i=.int .i64 done.length∧c=.int .u64 (cr:Int)∧cr≤1∧Dg 18446744073709551616 rest∧done++iC 18446744073709551616 rest (ys.drop done.length) 1 cr=iC 18446744073709551616 xs ys 1 0∧Hp w0 (.row (some ⟨b,0,none⟩) M C 204 1 (dn (pre++(done++rest)++post))::H) w')
  (fun _ i _=>xs.length-(intOf i).toNat) ?_ ?_
 ·exact ⟨[],xs,0,by simp,rfl,rfl,VX,hxd,rfl,hh⟩
 ·clear hh;rintro ρ' c i w' ⟨done,rest,cr,hlen,rfl,rfl,hcr,hrd,heq,hh⟩;by_cases hlt:done.length<xs.length
  ·obtain ⟨x,r,rfl⟩:∃x r,rest=x::r:=by
    exact IU
   have hx:=hrd.head;have hg:=eG (y6 (pre:=pre) (done:=done) (r:=r) (post:=post) (x:=x));have hlr:done.length+(r.length+1)=xs.length:=by simpa using hlen
   simp only [iC,tail_drop,ug,Wo] at heq;by_cases hiy:done.length<ny
   ·obtain ⟨y,hyk⟩:=ak (l:=ys) (k:=done.length) VX;obtain ⟨ad,rfl,_⟩:=(hy _ _ hh).at_ VX;rw [hyk,Xq] at heq;have hyw:=hyd.at_ hyk;refine sr ?_;refine xA ?_;refine aW (aa (cT (al (mL (mI ?_)))));refine JD ?_;refine bX aO.out rfl ((hy _ _ hh).RV hyk) VY ?_;refine aI (aa (al (mL (mI (mL (mI ?_))))));refine oH ?_;refine jO ?_;refine mI (mI ?_);refine kN (ke x y cr hcr _) (av (cR rfl) (av (cR rfl) (av (cR rfl) a6))) VY ?_;refine mT ?_;refine du ?_;refine du ?_;refine oH ?_;refine wy ?_;intro ws hh;simp only [Wd] at hh;rw [Wo,cV (by rw [bq];simp only [Wc,Wx];omega),gD,nX] at hh;refine wh ?_;refine a9 (mI (aA (ai ?_)));refine ⟨⟨done++[(x+y+cr) % 18446744073709551616],r,_,by simp;omega,by rw [Wc];rfl,rfl,VX,hrd.tail, ?_,hh⟩,by show xs.length-(done.length+1)<xs.length-done.length;omega, ?_⟩
    ·rw [←heq,WQ,Wc];rfl
    exact V0
   ·rw [WK VX,Option.getD_none] at heq;refine sr ?_;refine xA ?_;refine aW (aa (cF (ao (ai (al (mL (mI (mL (mI ?_)))))))));refine oH ?_;refine jO ?_;refine mI (mI ?_);refine kN (ke x 0 cr hcr _) (av (cR rfl) (av (cR rfl) (av (cR rfl) a6))) VY ?_;refine mT ?_;refine du ?_;refine du ?_;refine oH ?_;refine wy ?_;intro ws hh;simp only [Wd] at hh;rw [Wo,cV (by rw [bq];simp only [Wc,Wx];omega),gD,nX] at hh;refine wh ?_;refine a9 (mI (aA (ai ?_)));refine ⟨⟨done++[(x+0+cr) % 18446744073709551616],r,_,by simp;omega,by rw [Wc];rfl,rfl,VX,hrd.tail, ?_,hh⟩,by show xs.length-(done.length+1)<xs.length-done.length;omega, ?_⟩
    ·rw [←heq,WQ,Wc];rfl
    exact V0
  ·exact S3
theorem L8 {i d:Nat} (D:Nat) (hD:D<18446744073709551616^i) (hd:d<18446744073709551616) (hk:i+n/64+1<k):
  (D*2^n)/18446744073709551616^(i+n/64) % 18446744073709551616<2^(n % 64)∧d*2^(n % 64) % 18446744073709551616=(d % 2^(64-n % 64))*2^(n % 64)∧
  (bW 18446744073709551616 k (D*2^n)).set (i+n/64) ((D*2^n)/18446744073709551616^(i+n/64) % 18446744073709551616+d*2^(n % 64) % 18446744073709551616)=bW 18446744073709551616 k (D*2^n+18446744073709551616^(i+n/64)*(d*2^(n % 64) % 18446744073709551616))∧
  (D*2^n+18446744073709551616^(i+n/64)*(d*2^(n % 64) % 18446744073709551616))/18446744073709551616^(i+n/64+1) % 18446744073709551616=0∧
  (bW 18446744073709551616 k (D*2^n+18446744073709551616^(i+n/64)*(d*2^(n % 64) % 18446744073709551616))).set (i+n/64+1) (d/2^(64-n % 64))=bW 18446744073709551616 k ((D+18446744073709551616^i*d)*2^n)∧
  (n % 64=0→D*2^n+18446744073709551616^(i+n/64)*(d*2^(n % 64) % 18446744073709551616)=(D+18446744073709551616^i*d)*2^n):=by
 have hW:(18446744073709551616:Nat)=2^64:=by decide
 have hs:n % 64<64:=Wy _ VX;have hn:2^n=18446744073709551616^(n/64)*2^(n % 64):=by
  rw [hW,←WW,←Ws];congr 1;omega
 generalize hq:n/64=q at*;generalize hse:n % 64=s at*;have e:(18446744073709551616:Nat)=2^(64-s)*2^s:=by rw [←Ws,hW];congr 1;omega
 have hpos:0<2^s:=WJ VX;have hwp:∀j:Nat,0<18446744073709551616^j:=fun j=>WJ VY;have hP:D*2^n<18446744073709551616^(i+q)*2^s:=by
  rw [hn,←W6,Ws];exact Yr (Yr hD (hwp q)) hpos
 have h1:(D*2^n)/18446744073709551616^(i+q)<2^s:=by rw [Xv (hwp _),WB (2^s)];exact hP
 have hsW:2^s≤18446744073709551616:=by rw [hW];exact WM VX VX
 have h2:d*2^s % 18446744073709551616=(d % 2^(64-s))*2^s:=by rw [e,Nat.mul_mod_mul_right]
 have h3:(d % 2^(64-s)+1)*2^s≤18446744073709551616:=by
  rw [e];exact Xi _ (Wy _ (WJ VX))
 rw [Xj] at h3;have h4:(D*2^n)/18446744073709551616^(i+q) % 18446744073709551616=(D*2^n)/18446744073709551616^(i+q):=WU VX;have hlt1:D*2^n+18446744073709551616^(i+q)*(d*2^s % 18446744073709551616)<18446744073709551616^(i+q+1):=by
  rw [h2,WY];have:18446744073709551616^(i+q)*((d % 2^(64-s))*2^s+2^s)≤18446744073709551616^(i+q)*18446744073709551616:=WS _ h3;rw [W0] at this;omega
 have hup:=Qo (d:=d) (s:=s) hd VX;have hfin:D*2^n+18446744073709551616^(i+q)*(d*2^s % 18446744073709551616)+18446744073709551616^(i+q+1)*(d/2^(64-s))=(D+18446744073709551616^i*d)*2^n:=by
  have h5:18446744073709551616^(i+q)*(d*2^s % 18446744073709551616)+18446744073709551616^(i+q+1)*(d/2^(64-s))=18446744073709551616^(i+q)*(d*2^s):=by
   conv=>rhs;rw [←hup.1,W0]
   rw [WY,W6,WB 18446744073709551616]
  rw [Nat.add_assoc,h5,Ya,hn,Ws];congr 1;simp only [W6,Y4,WB]
 have hbig:∀j,j<k→18446744073709551616^j*18446744073709551616≤18446744073709551616^k:=fun j hj=>by rw [←WY];exact WM VY hj
 have hb1:=hbig (i+q) VX;rw [←WY] at hb1;refine ⟨by rw [h4];exact h1,h2, ?_, ?_, ?_, ?_⟩
 ·exact p5 VY VX VX (by rw [h4,h2];omega)
 ·rw [Xg hlt1]
 ·have h6:(D*2^n+18446744073709551616^(i+q)*(d*2^s % 18446744073709551616))/18446744073709551616^(i+q+1) % 18446744073709551616=0:=by rw [Xg hlt1]
  have h7:d/2^(64-s)<18446744073709551616:=Xb (Yt _ _) hd;have h8:=p5 (B:=18446744073709551616) (k:=k) (n:=D*2^n+18446744073709551616^(i+q)*(d*2^s % 18446744073709551616)) (j:=i+q+1) (v:=d/2^(64-s)) VY hk ?_ (by rw [h6];omega)
  ·rw [h6,Wr,hfin] at h8;exact h8
  ·have h9:18446744073709551616^(i+q+1)*(d/2^(64-s)+1)≤18446744073709551616^(i+q+1)*18446744073709551616:=WS _ h7;have h10:=hbig (i+q+1) hk;rw [XI] at h9;omega
 ·intro h0;subst h0;rw [←hfin];have:d/2^(64-0)=0:=Xg (by rw [←hW];exact hd);rw [this];simp
theorem H6 (A:Option Addr) (n c m:Nat) (xs:List Nat) (w:World) (hx:Sl w A n 1 (dn xs)) (hd:Dg 18446744073709551616 xs) (hn:n≤1000000000) (hm:m≤10000000000):
  Calls Tryz.prog 246 #[.slice A n c,.int .i64 (m:Int)] w fun e w'=>∃A c,e=.returned (.slice A (a0 18446744073709551616 (bJ 18446744073709551616 xs*2^m)).length c)∧w'.ownsRow w.heap.size 204 1 (.slice A (a0 18446744073709551616 (bJ 18446744073709551616 xs*2^m)).length c) (a0 18446744073709551616 (bJ 18446744073709551616 xs*2^m)).length (dn (a0 18446744073709551616 (bJ 18446744073709551616 xs*2^m)))∧Below w.heap.size w w':=by
 have hl:=hx.1;rw [bq] at hl;have hh:=Hp.start w;have hs1:((m:Int) % 64).toNat=m % 64:=VX;refine aj (N:=55) (l:=[.slice A n c,.int .i64 (m:Int)]) Tryz.func246 rfl rfl (by simp) ?_;refine sr (aL (aa (sr (mL (aF (mI ?_))))));refine oJ ?_;refine a9 ?_;refine a9 ?_;refine gj (n:=n+m/64+1) hh rfl rfl VX VX bj.out aO.out rfl VX VX VY ?_;intro b15 w15 hh;refine rZ ?_;rw [qf] at hh;refine aM [6,7,8,18,19,20,21,22,23,24,25,26,27,28,29,30,31,32,33,34,35,36,37,38,39,40,41,42,43,44,45,46,47,48,49,50,51,52] 18
  (fun v w'=>∃i:Nat,i≤n∧v=.int .i64 i∧Hp w [.row (some ⟨b15,0,none⟩) (n+m/64+1) (n+m/64+1) 204 1 (dn (bW 18446744073709551616 (n+m/64+1) (bJ 18446744073709551616 (xs.take i)*2^m)))] w')
  (fun v _=>n-(intOf v).toNat) ?_ ?_
 ·exact ⟨0,V5 _,rfl,by rw [XV,bJ,YA,rH];exact hh⟩
 ·clear hh;rintro ρ' v w' ⟨i,hi,rfl,hh⟩;by_cases hlt:i<n
  ·obtain ⟨d,hdi⟩:=ak (l:=xs) (k:=i) VX;obtain ⟨ad,rfl,hr⟩:=hx.at_ VX;have hd2:=eG hdi;have hdw:=hd.at_ hdi;have hD:=ja (hd.take i);rw [Wp,Xd VX] at hD;obtain ⟨s1,s2,s3,s4,s5,s6⟩:=L8 (k:=n+m/64+1) (n:=m) (bJ 18446744073709551616 (xs.take i)) hD hdw VX;have hg:=eG (iX (B:=18446744073709551616) (n+m/64+1) (bJ 18446744073709551616 (xs.take i)*2^m) (i+m/64) VX);refine sr ?_;refine eH ?_;refine dp bj.out aO.size rfl rfl rfl VX VY ?_;refine gZ ?_;refine aI (aI (aa (sr (mI (mI ?_)))));refine oJ ?_;refine a9 (aI (aa (ah ?_)));refine aT 8 [[(5,none)],[(8,none)],[(27,some 0),(28,some 1)],[(29,some 2)],[(7,none)],[(1,none)],[(32,some 5)],[(31,some 4),(33,some 6)]] [(7,34),(6,33),(5,32),(4,31),(3,30),(2,29),(1,28),(0,27)] hh mixed VZ ?_;refine dI ?_;refine cM ?_;refine FG (i+m/64) ?_;refine bm (i:=3) (fun ρ1 w1 hj hR=>ij aO.out (show ρ1 29=Value.pointer _ from hR.1) (hj.hp.fM (i:=0) rfl (by rw [Wo];exact hg))) ?_;refine cM ?_;refine cM ?_;refine bm (i:=6) (fun ρ1 w1 hj hR=>pr (show ρ1 32=Value.int _ _ from hR.1) rfl VX VX) ?_
   refine bm (i:=7) (fun ρ1 w1 hj hR=>yr (show ρ1 31=Value.int _ _ from hR.1) (show ρ1 33=Value.int _ _ from hR.2.1) VX) ?_;refine aJ ?_;intro f W hJ hV;have hb_6:=hJ.bl;obtain ⟨v34,v33,v32,v31,v30,v29,v28,v27,_⟩:=hV;replace hh:=hJ.hp;refine aR (a8 (ae v34 (ae v33 (ae v32 (ae v31 (ae v30 (ae v29 (ae v28 (ae v27 aQ))))))))) ?_;dsimp only [bH];clear hJ;refine Gc ?_;refine cX (k:=i+m/64) bj.out aO.size rfl rfl VX VX VY ?_;refine Ij ?_;intro ws hh;simp only [Wd] at hh;rw [hs1,s2,D7 s1,←s2,Wo,cV (by rw [bq,aZ];omega),gD,s3] at hh;by_cases h0:m % 64=0
   ·refine aa (sr (mI ?_));refine rY ?_;refine bM (aa (cF (ao (bF (ai (al ?_))))));refine a9 (mI (aA (ai ?_)));rw [s6 h0,←fe hdi] at hh;exact Jm
   ·have hg2:=eG (iX (B:=18446744073709551616) (n+m/64+1) (bJ 18446744073709551616 (xs.take i)*2^m+18446744073709551616^(i+m/64)*(d*2^(m % 64) % 18446744073709551616)) (i+m/64+1) VX);rw [s4] at hg2;have hs2:(64-(m:Int) % 64).toNat=64-m % 64:=VX;have hd64:d/2^(64-(m:Int) % 64).toNat<18446744073709551616:=Xb (Yt _ _) hdw;have h0w:(0:Nat)<18446744073709551616:=VX;refine aa (sr (mI ?_));refine rY ?_;refine bM (aa (cT ?_));refine aT 10 [[(5,none)],[(8,none)],[(41,some 1)],[(40,some 0),(42,some 2)],[(43,some 3)],[(7,none)],[(1,none)],[(46,some 6)],[(47,some 7)],[(45,some 5),(48,some 8)]] [(9,49),(8,48),(7,47),(6,46),(5,45),(4,44),(3,43),(2,42),(1,41),(0,40)] hh mixed VZ ?_;refine dI ?_;refine cM ?_;refine qG ?_;refine FG (i+m/64+1) ?_;refine bm (i:=4) (fun ρ1 w1 hj hR=>ij aO.out (show ρ1 43=Value.pointer _ from hR.1) (hj.hp.fM (i:=0) rfl (by rw [Wo];exact hg2))) ?_;refine cM ?_;refine cM ?_;refine bm (i:=7) (fun ρ1 w1 hj hR=>pr (show ρ1 46=Value.int _ _ from hR.1) rfl VX VX) ?_;refine pE ?_
    refine bm (i:=9) (fun ρ1 w1 hj hR=>De (show ρ1 45=Value.int _ _ from hR.1) (show ρ1 48=Value.int _ _ from hR.2.1) VX) ?_;refine aJ ?_;intro f W hJ hV;have hb_8:=hJ.bl;obtain ⟨v49,v48,v47,v46,v45,v44,v43,v42,v41,v40,_⟩:=hV;replace hh:=hJ.hp;refine aR (a8 (ae v49 (ae v48 (ae v47 (ae v46 (ae v45 (ae v44 (ae v43 (ae v42 (ae v41 (ae v40 aQ))))))))))) ?_;dsimp only [bH];clear hJ;refine Gc ?_;refine cX (k:=i+m/64+1) bj.out aO.size rfl rfl VX VX VY ?_;refine Ij ?_;intro ws hh;simp only [Wd] at hh;rw [hs2,Nat.zero_or,Wo,cV (by rw [bq,aZ];omega),gD,s5,←fe hdi] at hh;refine gy ?_;refine a9 (mI (aA (ai ?_)));exact Jm
  ·refine sr ?_;refine oP ?_;rw [Wa VX] at hh;refine br hh (iz _ _ _ (bW 18446744073709551616 (n+m/64+1) (bJ 18446744073709551616 xs*2^m)) _ (hh.aC (i:=0) rfl) (V8 _) VX) rfl ?_;intro w54 hh;refine aL (aa (au ?_));refine cS ?_;have hbd:bJ 18446744073709551616 xs*2^m<18446744073709551616^(n+m/64+1):=by
    have h1:=ja hd;rw [show xs.length=n by omega] at h1;have h2:2^m≤18446744073709551616^(m/64+1):=by
     exact Qb
    rw [show n+m/64+1=n+(m/64+1) by omega,Ws];exact Xa (Yr h1 (WJ VX)) (WS _ h2)
   have hd:dW (bW 18446744073709551616 (n+m/64+1) (bJ 18446744073709551616 xs*2^m))=a0 18446744073709551616 (bJ 18446744073709551616 xs*2^m):=by
    exact KR
   have h1:=(Hp.Gk (xs:=bW 18446744073709551616 (n+m/64+1) (bJ 18446744073709551616 xs*2^m)) hh (aZ _ _)).at_ (i:=0) rfl;exact Fb
theorem Sl.Qn {xs:List Nat} (h:Sl w (some ad) n 1 (dn xs)) (hk:k<n):Sl w (some (ad.add (k*1))) (n-k) 1 (dn (xs.drop k)):=by
 have hl:=h.1;rw [bq] at hl;refine ⟨by rw [bq,Xk];omega,fun h0=>⟨_,rfl, ?_⟩⟩;obtain ⟨ad',he,hr⟩:=h.2 VX;injection he with he
 subst he;rw [Wo,xK];exact hr.drop k
theorem Hy {s:Nat} (hs:s<64) (h0:0<s):
  (N/18446744073709551616^(j+1) % 18446744073709551616)*2^(64-s) % 18446744073709551616=N/18446744073709551616^(j+1) % 2^s*2^(64-s)∧
  (N/18446744073709551616^j % 18446744073709551616/2^s|||(N/18446744073709551616^(j+1) % 18446744073709551616)*2^(64-s) % 18446744073709551616)=N/2^(64*j+s) % 18446744073709551616:=by
 have hW:(18446744073709551616:Nat)=2^64:=by decide
 have e:(18446744073709551616:Nat)=2^s*2^(64-s):=by rw [←Ws,hW];congr 1;omega
 have h1:(N/18446744073709551616^(j+1) % 18446744073709551616)*2^(64-s) % 18446744073709551616=N/18446744073709551616^(j+1) % 2^s*2^(64-s):=by
  generalize N/18446744073709551616^(j+1)=m;rw [e,Nat.mul_mod_mul_right,Nat.mod_mul_right_mod]
 obtain ⟨h2,h3⟩:=wA N j s hs h0;exact ⟨h1,by rw [h1,D7 h2,h3]⟩
theorem Cc (A:Option Addr) (n c m:Nat) (xs:List Nat) (w:World) (hx:Sl w A n 1 (dn xs)) (hd:Dg 18446744073709551616 xs) (hc:n≤c) (hn:n≤1000000000) (hm:m≤1000000000000):
  Calls Tryz.prog 247 #[.slice A n c,.int .i64 (m:Int)] w fun e w'=>∃A c,e=.returned (.slice A (a0 18446744073709551616 (bJ 18446744073709551616 xs/2^m)).length c)∧w'.ownsRow w.heap.size 204 1 (.slice A (a0 18446744073709551616 (bJ 18446744073709551616 xs/2^m)).length c) (a0 18446744073709551616 (bJ 18446744073709551616 xs/2^m)).length (dn (a0 18446744073709551616 (bJ 18446744073709551616 xs/2^m)))∧Below w.heap.size w w':=by
 have hl:=hx.1;rw [bq] at hl;have hh:=Hp.start w;have hs1:((m:Int) % 64).toNat=m % 64:=VX;have hW:(18446744073709551616:Nat)=2^64:=by decide
 have hmm:2^m=18446744073709551616^(m/64)*2^(m % 64):=by
  rw [hW,←WW,←Ws];congr 1;omega
 have hlt:=ja hd;rw [show xs.length=n by omega] at hlt;by_cases hbig:n≤m/64
 ·have h0:bJ 18446744073709551616 xs/2^m=0:=by
   apply Xg;refine Xa hlt (Wz (WM VY hbig) ?_);rw [hmm];exact Zn _ (WJ VX)
  refine aj (N:=61) (l:=[.slice A n c,.int .i64 (m:Int)]) Tryz.func247 rfl rfl (by simp) ?_;refine sr (aL (aa (ah (sr (mI ?_)))));refine oJ ?_;refine mL (aF ?_);refine dJ (aa (cT (sr (aL (aa (au (aE ?_)))))));refine cS ?_;rw [h0,gG VX];exact QH
 ·obtain ⟨ad,rfl,hr⟩:=hx.at_ VX;have hsd:=hx.Qn (k:=m/64) VX;have hget:∀j,j<n→xs[j]?=some (bJ 18446744073709551616 xs/18446744073709551616^j % 18446744073709551616):=fun j hj=>by
   obtain ⟨d,hdj⟩:=ak (l:=xs) (k:=j) VX;rw [hdj,sK hd hdj]
  refine aj (N:=61) (l:=[.slice (some ad) n c,.int .i64 (m:Int)]) Tryz.func247 rfl rfl (by simp) ?_;refine sr (aL (aa (ah (sr (mI ?_)))));refine oJ ?_;refine mL (aF ?_);refine dJ (aa (cF (ao (ai (sr (mL (mI ?_)))))));refine oJ ?_;refine Cq (l:=m/64) bj.out aO.size rfl rfl VX VX VX VX VY ?_;refine aG (oI _ _ _ 0 _ _ hsd VX VX) ar.out rfl VY ?_;rintro e_ w_ ⟨b16,rfl,hown_,hb_⟩;refine ⟨_,rfl, ?_⟩;replace hh:=hh.aY (x:=.row _ _ _ _ _ _) hb_ hown_;rw [Nat.zero_max,W9,Y8,WG] at hh;rw [Nat.zero_max];refine rZ ?_;refine aM [6,19,20,21,22,23,24,25,26,27,28,29,30,31,32,33,34,35,36,37,38,39,40,41,42,43,44,45,46,47,48,49,50,51,52,53,54,55,56,57,58] 19
   (fun v w'=>∃i:Nat,i≤n-m/64∧v=.int .i64 i∧Hp w [.row (some ⟨b16,0,none⟩) (n-m/64) (n-m/64) 204 1 (dn (bW 18446744073709551616 i (bJ 18446744073709551616 xs/2^m)++xs.drop (m/64+i)))] w')
   (fun v _=>(n-m/64)-(intOf v).toNat) ?_ ?_
  ·exact ⟨0,V5 _,rfl,hh⟩
  ·clear hh;rintro ρ' v w' ⟨i,hi,rfl,hh⟩;by_cases hlt2:i<n-m/64
   ·have hgi:=hget (m/64+i) VX;have hdr:xs.drop (m/64+i)=(bJ 18446744073709551616 xs/18446744073709551616^(m/64+i) % 18446744073709551616)::xs.drop (m/64+i+1):=by
     rw [Xl VX];congr 1;have:=Wi.1 hgi;exact this.2
    have hcell:(bW 18446744073709551616 i (bJ 18446744073709551616 xs/2^m)++xs.drop (m/64+i))[i]?=some (bJ 18446744073709551616 xs/18446744073709551616^(m/64+i) % 18446744073709551616):=by
     rw [Xm (by rw [aZ];omega),aZ,hdr];simp
    have hg:=eG hcell;have hset:∀y,(bW 18446744073709551616 i (bJ 18446744073709551616 xs/2^m)++xs.drop (m/64+i)).set i y=bW 18446744073709551616 i (bJ 18446744073709551616 xs/2^m)++y::xs.drop (m/64+i+1):=fun y=>by
     rw [hdr,X4 _ _ (by rw [aZ];omega),aZ,W9,Wd]
    have hll:(bW 18446744073709551616 i (bJ 18446744073709551616 xs/2^m)++xs.drop (m/64+i)).length=n-m/64:=by rw [Wc,aZ,Xk];omega
    have hac:∀y,bW 18446744073709551616 i (bJ 18446744073709551616 xs/2^m)++y::xs.drop (m/64+i+1)=(bW 18446744073709551616 i (bJ 18446744073709551616 xs/2^m)++[y])++xs.drop (m/64+(i+1)):=fun y=>List.append_cons _ _ _;have hnew:bW 18446744073709551616 (i+1) (bJ 18446744073709551616 xs/2^m)=bW 18446744073709551616 i (bJ 18446744073709551616 xs/2^m)++[bJ 18446744073709551616 xs/2^(64*(m/64+i)+m % 64) % 18446744073709551616]:=by
     rw [lJ,XQ];congr 4;rw [hW,←WW,←Ws];congr 1;omega
    refine sr ?_;refine aW (aa (ah (cT (ao (ai (ah (aq (sr (mI (aI (aa (sr (mL (mI ?_))))))))))))));refine gh ?_;refine jO ?_;refine mI ?_;refine rY ?_;refine CA rfl rfl VX VY ?_;refine gh ?_;refine cd hh (i:=0) (vs:=[_]) rfl rfl (cR rfl) rfl aO.out rfl (by rw [bq,hll];omega) rfl ?_;intro ws hh;simp only [Wd] at hh;rw [hs1,Wo,cV (by rw [bq,hll];omega),gD,hset] at hh;by_cases h0:m % 64=0
    ·have e1:bJ 18446744073709551616 xs/18446744073709551616^(m/64+i) % 18446744073709551616/2^(m % 64)=bJ 18446744073709551616 xs/2^(64*(m/64+i)+m % 64) % 18446744073709551616:=by
      rw [h0,YF,Nat.div_one,XT,WW,←hW]
     by_cases hl:i+1<n-m/64
     ·refine aa (sr (mI ?_));refine a9 (mL (aF ?_));refine aW (mB (gT (mI (gT ?_))));refine rY ?_;refine gT ?_;refine bM ?_;refine eM ?_;exact Qk
     ·exact OK
    ·by_cases hl:i+1<n-m/64
     ·have hgj:=hget (m/64+i+1) VX;have hgj2:=eG hgj;obtain ⟨d1,d2⟩:=Hy (N:=bJ 18446744073709551616 xs) (j:=m/64+i) (s:=m % 64) (Wy _ VX) VX;have hcell2:(bW 18446744073709551616 i (bJ 18446744073709551616 xs/2^m)++(bJ 18446744073709551616 xs/18446744073709551616^(m/64+i) % 18446744073709551616/2^(m % 64))::xs.drop (m/64+i+1))[i]?=some (bJ 18446744073709551616 xs/18446744073709551616^(m/64+i) % 18446744073709551616/2^(m % 64)):=by
       rw [Xm (by rw [aZ];omega),aZ];simp
      have hg2:=eG hcell2;have hset2:∀y z,(bW 18446744073709551616 i (bJ 18446744073709551616 xs/2^m)++y::xs.drop (m/64+i+1)).set i z=bW 18446744073709551616 i (bJ 18446744073709551616 xs/2^m)++z::xs.drop (m/64+i+1):=fun y z=>by
       rw [X4 _ _ (by rw [aZ];omega),aZ,W9,Wd]
      have hll2:∀y,(bW 18446744073709551616 i (bJ 18446744073709551616 xs/2^m)++y::xs.drop (m/64+i+1)).length=n-m/64:=fun y=>by rw [Wc,aZ,Wx,Xk];omega
      have hs2:(64-(m:Int) % 64).toNat=64-m % 64:=VX;have b1:bJ 18446744073709551616 xs/18446744073709551616^(m/64+i) % 18446744073709551616/2^(m % 64)<18446744073709551616:=Xb (Yt _ _) (Wy _ VX);have b2:bJ 18446744073709551616 xs/18446744073709551616^(m/64+i+1) % 18446744073709551616*2^(64-(m:Int) % 64).toNat % 18446744073709551616<18446744073709551616:=Wy _ VX;refine aa (sr (mI ?_));refine a9 (mL (aF ?_));refine aW (mB (gT (mI (gT ?_))));refine rY ?_;refine gT ?_;refine bM ?_;refine eM ?_;refine aa (cT ?_);refine aT 16 [[(5,none)],[(6,none)],[(40,some 0),(41,some 1)],[(42,some 2)],[(0,none)],[(1,none)],[(45,some 5)],[(6,none)],[(46,some 6),(47,some 7)],[(48,some 8)],[(44,some 4),(49,some 9)],[(50,some 10)],[(1,none)],[(52,some 12)],[(53,some 13)],[(51,some 11),(54,some 14)]] [(15,55),(14,54),(13,53),(12,52),(11,51),(10,50),(9,49),(8,48),(7,47),(6,46),(5,45),(4,44),(3,43),(2,42),(1,41),(0,40)] hh mixed VZ ?_;refine dI ?_;refine cM ?_;refine FG (i) ?_
      refine bm (i:=3) (fun ρ1 w1 hj hR=>ij aO.out (show ρ1 42=Value.pointer _ from hR.1) (hj.hp.fM (i:=0) rfl (by rw [Wo];exact hg2))) ?_;refine dI ?_;refine cM ?_;refine bm (i:=6) (fun ρ1 w1 hj hR=>rf (show ρ1 45=Value.int _ _ from hR.1) rfl VX VX VX) ?_;refine cM ?_;refine qG ?_;refine qG ?_;refine iL (m/64+i+1) ?_;refine mO (fun _ hj=>(hr.ext hj.hp.below).su hgj2) ?_;refine cM ?_;refine bm (i:=13) (fun ρ1 w1 hj hR=>pr (show ρ1 52=Value.int _ _ from hR.1) rfl VX VX) ?_;refine pE ?_;refine bm (i:=15) (fun ρ1 w1 hj hR=>yr (show ρ1 51=Value.int _ _ from hR.1) (show ρ1 54=Value.int _ _ from hR.2.1) VX) ?_;refine aJ ?_;intro f W hJ hV;have hb_9:=hJ.bl;obtain ⟨v55,v54,v53,v52,v51,v50,v49,v48,v47,v46,v45,v44,v43,v42,v41,v40,_⟩:=hV;replace hh:=hJ.hp;refine aR (a8 (ae v55 (ae v54 (ae v53 (ae v52 (ae v51 (ae v50 (ae v49 (ae v48 (ae v47 (ae v46 (ae v45 (ae v44 (ae v43 (ae v42 (ae v41 (ae v40 aQ))))))))))))))))) ?_;dsimp only [bH];clear hJ;refine Gc ?_;refine gh ?_;refine cd hh (i:=0) (vs:=[_]) rfl rfl (cR rfl) rfl aO.out rfl (by rw [bq,hll2];omega) rfl ?_;intro ws hh;simp only [Wd] at hh
      rw [hs2,d2,Wo,cV (by rw [bq,hll2];omega),gD,hset2,hac,←hnew] at hh;refine gy ?_;refine a9 (mI (aA (ai ?_)));exact Ou
     ·have e1:bJ 18446744073709551616 xs/18446744073709551616^(m/64+i) % 18446744073709551616/2^(m % 64)=bJ 18446744073709551616 xs/2^(64*(m/64+i)+m % 64) % 18446744073709551616:=by
       obtain ⟨h2,h3⟩:=wA (bJ 18446744073709551616 xs) (m/64+i) (m % 64) (Wy _ VX) VX;have h4:bJ 18446744073709551616 xs/18446744073709551616^(m/64+i+1)=0:=Xg (Xa hlt (WM VY VX));rw [h4] at h3;simpa using h3
      exact OK
   ·obtain rfl:i=n-m/64:=VX;rw [List.drop_eq_nil_of_le VX,WG] at hh;refine sr ?_;refine oP ?_;refine br hh (iz _ _ _ (bW 18446744073709551616 (n-m/64) (bJ 18446744073709551616 xs/2^m)) _ (hh.aC (i:=0) rfl) (V8 _) VX) rfl ?_;intro w60 hh;refine aL (aa (au ?_));refine cS ?_;have hbd:bJ 18446744073709551616 xs/2^m<18446744073709551616^(n-m/64):=by
     rw [Xv (WJ VX),hmm,←W6,←Ws,show n-m/64+m/64=n by omega];exact Xa hlt (Zn _ (WJ VX))
    have hd:dW (bW 18446744073709551616 (n-m/64) (bJ 18446744073709551616 xs/2^m))=a0 18446744073709551616 (bJ 18446744073709551616 xs/2^m):=by
     exact KR
    have h1:=(Hp.Gk (xs:=bW 18446744073709551616 (n-m/64) (bJ 18446744073709551616 xs/2^m)) hh (aZ _ _)).at_ (i:=0) rfl;exact Fb
def bN (a:ByteArray):Nat:=bn a.data.toList
def sN (n:Nat):ByteArray:=str (sb n)
theorem fq (n:Nat):bN (sN n)=n:=by rw [bN,sN,dT,TA]
theorem j7 (n:Nat):(sN n).size=(bO n+7)/8:=by rw [sN,jb,Hc,CH]
theorem Lq {a:Nat} (h:sN a=sN b):a=b:=by rw [←fq a,h,fq]
theorem nL:sN 0=ByteArray.mk #[]:=by rw [sN,MX];rfl
theorem wI (a:ByteArray):bN a<256^a.size:=by rw [dD];exact PH _
theorem fK (a:ByteArray):bO (bN a)≤8*a.size:=by
 apply dO;have:=wI a;rwa [show (256:Nat)=2^8 from rfl,←WW] at this
theorem HK (h:n<256^k):(a0 18446744073709551616 n).length≤(k+7)/8:=by
 apply iF VX;refine Xa h ?_;rw [show (256:Nat)=2^8 from rfl,show (18446744073709551616:Nat)=2^64 from rfl,←WW,←WW];exact WM VX VX
theorem gk (a:ByteArray):(a0 18446744073709551616 (bN a)).length≤(a.size+7)/8:=HK (wI a)
theorem jF (n:Nat):Dg 18446744073709551616 (a0 18446744073709551616 n):=(eb VX n).1
theorem gO (n:Nat):bJ 18446744073709551616 (a0 18446744073709551616 n)=n:=ea VX n
theorem pD (a:ByteArray) (w:World) (ha:a.size≤1000000000):
  Calls Tryz.prog 224 #[.string a] w fun e w'=>∃b c,e=.returned (.slice (some ⟨b,0,none⟩) (a0 18446744073709551616 (bN a)).length c)∧w'.ownsRow w.heap.size 204 1 (.slice (some ⟨b,0,none⟩) (a0 18446744073709551616 (bN a)).length c) (a0 18446744073709551616 (bN a)).length (dn (a0 18446744073709551616 (bN a)))∧Below w.heap.size w w':=HO a w VX
theorem rL (n:Nat) (w:World) (hn:n<18446744073709551616):
  Calls Tryz.prog 202 #[.int .u64 (n:Int)] w fun e w'=>e=.returned (.string (sN n))∧Below w.heap.size w w':=by
 have hh:=Hp.start w;refine aj (N:=6) (l:=[.int .u64 (n:Int)]) Tryz.func202 rfl rfl (by simp) ?_;refine sr (aS (aa (sr (mI ?_))));refine se ?_;intro b4 w4 hh;refine br hh (iG _ _ _ [n] _ (hh.aC (i:=0) rfl) (Dg.cons hn Dg.nil) (V8 _) VX) rfl ?_;intro w5 hh;refine aS (aa (au ?_));refine cS ?_;refine ⟨?_,hh.below⟩;rw [sN];simp [bJ]
theorem zD (a b:ByteArray) (w:World) (ha:a.size≤1000000000) (hb:b.size≤1000000000):
  Calls Tryz.prog 251 #[.string a,.string b] w fun e w'=>e=.returned (.int .i64 (lB (bN a) (bN b)))∧Below w.heap.size w w':=by
 have hh:=Hp.start w;have h1:=gk a;have h2:=gk b;refine aj (N:=10) (l:=[.string a,.string b]) Tryz.func251 rfl rfl (by simp) ?_;refine sr (aI (aa (sr (mS ?_))));refine so ?_;rintro e_ w6 ⟨A6,c6,rfl,hown_,hb_⟩;refine ⟨_,rfl, ?_⟩;replace hh:=hh.aY (x:=.row _ _ _ _ _ _) hb_ hown_;refine mS ?_;refine EG ?_;rintro e_ w8 ⟨A8,c8,rfl,hown_,hb_⟩;refine ⟨_,rfl, ?_⟩;replace hh:=hh.aY (x:=.row _ _ _ _ _ _) hb_ hown_;refine Ju ?_;intro w9 hh;rw [gO,gO];exact vJ
theorem mi (a:ByteArray) (w:World) (ha:a.size≤1000000000):
  Calls Tryz.prog 228 #[.string a] w fun e w'=>e=.returned (.int .i64 (bO (bN a)))∧Below w.heap.size w w':=by
 have hh:=Hp.start w;have h1:=gk a;refine aj (N:=6) (l:=[.string a]) Tryz.func228 rfl rfl (by simp) ?_;refine sr (aI (aa (sr (mS ?_))));refine so ?_;rintro e_ w4 ⟨A4,c4,rfl,hown_,hb_⟩;refine ⟨_,rfl, ?_⟩;replace hh:=hh.aY (x:=.row _ _ _ _ _ _) hb_ hown_;refine br hh (u4 _ _ _ (a0 18446744073709551616 (bN a)) _ (hh.aC (i:=0) rfl) (jF _) (hh.fJ (i:=0) rfl) VX) rfl ?_;intro w5 hh;rw [gO];exact vJ
theorem iU (n m:Nat):bO (n*2^m)≤bO n+m:=by
 apply dO;rw [Ws];exact Yr (dk n) (WJ VX)
theorem ud (n:Nat):(a0 18446744073709551616 n).length≤(bO n+63)/64:=by
 apply iF VX;refine Xa (dk n) ?_;exact Qb
theorem zt (a:ByteArray) (m:Nat) (w:World) (ha:a.size≤1000000000) (hm:m≤10000000000):
  Calls Tryz.prog 226 #[.string a,.int .i64 (m:Int)] w fun e w'=>e=.returned (.string (sN (bN a*2^m)))∧Below w.heap.size w w':=by
 have hh:=Hp.start w;have h1:=gk a;have h2:=ud (bN a*2^m);have h3:=iU (bN a) m;have h4:=fK a;have e1:(if (0:Int)>(m:Int) then 0 else (m:Int))=m:=V3 VX;refine aj (N:=11) (l:=[.string a,.int .i64 (m:Int)]) Tryz.func226 rfl rfl (by simp) ?_;refine sr (aS (aa (sr (mS ?_))));refine so ?_;rintro e_ w6 ⟨A6,c6,rfl,hown_,hb_⟩;refine ⟨_,rfl, ?_⟩;replace hh:=hh.aY (x:=.row _ _ _ _ _ _) hb_ hown_;refine mI ?_;refine kF rfl rfl VY ?_;rw [e1];refine aG (H6 _ _ _ m (a0 18446744073709551616 (bN a)) _ (hh.aC (i:=0) rfl) (jF _) VX hm) ar.out rfl VY ?_;rintro e_ w9 ⟨A9,c9,rfl,hown_,hb_⟩;refine ⟨_,rfl, ?_⟩;replace hh:=hh.aY (x:=.row _ _ _ _ _ _) hb_ hown_;rw [gO] at*;refine br hh (iG _ _ _ (a0 18446744073709551616 (bN a*2^m)) _ (hh.aC (i:=0) rfl) (jF _) (hh.fJ (i:=0) rfl) VX) rfl ?_;intro w10 hh;rw [gO];exact BH
theorem qi (n m:Nat):bO (n/2^m)≤bO n:=by
 apply dO;exact Xb (Yt _ _) (dk n)
theorem yo (a:ByteArray) (m:Nat) (w:World) (ha:a.size≤1000000000) (hm:m≤1000000000000):
  Calls Tryz.prog 227 #[.string a,.int .i64 (m:Int)] w fun e w'=>e=.returned (.string (sN (bN a/2^m)))∧Below w.heap.size w w':=by
 have hh:=Hp.start w;have h1:=gk a;have h2:=ud (bN a/2^m);have h3:=qi (bN a) m;have h4:=fK a;have e1:(if (0:Int)>(m:Int) then 0 else (m:Int))=m:=V3 VX;refine aj (N:=11) (l:=[.string a,.int .i64 (m:Int)]) Tryz.func227 rfl rfl (by simp) ?_;refine sr (aS (aa (sr (mS ?_))));refine so ?_;rintro e_ w6 ⟨A6,c6,rfl,hown_,hb_⟩;refine ⟨_,rfl, ?_⟩;replace hh:=hh.aY (x:=.row _ _ _ _ _ _) hb_ hown_;refine mI ?_;refine kF rfl rfl VY ?_;rw [e1];refine aG (Cc _ _ _ m (a0 18446744073709551616 (bN a)) _ (hh.aC (i:=0) rfl) (jF _) (hh.fJ (i:=0) rfl) VX hm) ar.out rfl VY ?_;rintro e_ w9 ⟨A9,c9,rfl,hown_,hb_⟩;refine ⟨_,rfl, ?_⟩;replace hh:=hh.aY (x:=.row _ _ _ _ _ _) hb_ hown_;rw [gO] at*;refine br hh (iG _ _ _ (a0 18446744073709551616 (bN a/2^m)) _ (hh.aC (i:=0) rfl) (jF _) (hh.fJ (i:=0) rfl) VX) rfl ?_;intro w10 hh;rw [gO];exact BH
theorem Nb {x y:Nat} (h:y≤x):Al 18446744073709551616 (a0 18446744073709551616 x) (a0 18446744073709551616 y) 0=0∧bJ 18446744073709551616 (sA 18446744073709551616 (a0 18446744073709551616 x) (a0 18446744073709551616 y) 0)=x-y:=by
 have:=Kz (B:=18446744073709551616) VX (a0 18446744073709551616 x) (a0 18446744073709551616 y) 0 (jF _) (jF _) VX (by rw [gO,gO];omega);rw [gO,gO] at this;exact ⟨this.2,VX⟩
theorem qL (a b:ByteArray) (w:World) (ha:a.size≤1000000000) (hb:b.size≤1000000000):
  Calls Tryz.prog 232 #[.string a,.string b] w fun e w'=>e=.returned (.tuple #[.string (sN (bN a-bN b)),.bool (decide (bN b≤bN a))])∧Below w.heap.size w w':=by
 have hh:=Hp.start w;have h1:=gk a;have h2:=gk b;by_cases hlt:bN a<bN b
 ·refine aj (N:=21) (l:=[.string a,.string b]) Tryz.func232 rfl rfl (by simp) ?_;refine sr (aS (aB (aa (sr (mS ?_)))));refine so ?_;rintro e_ w9 ⟨A9,c9,rfl,hown_,hb_⟩;refine ⟨_,rfl, ?_⟩;replace hh:=hh.aY (x:=.row _ _ _ _ _ _) hb_ hown_;refine mS ?_;refine EG ?_;rintro e_ w11 ⟨A11,c11,rfl,hown_,hb_⟩;refine ⟨_,rfl, ?_⟩;replace hh:=hh.aY (x:=.row _ _ _ _ _ _) hb_ hown_;refine aL (aL (aa (ah (sr (mL (mL ?_))))));refine Ju ?_;intro w14 hh;rw [gO,gO,ma hlt];exact SM
 ·obtain ⟨s1,s2⟩:=Nb (Nat.le_of_not_lt hlt);have hc:¬lB (bN a) (bN b)<0:=by unfold lB;split<;>(try split)<;>omega
  refine aj (N:=21) (l:=[.string a,.string b]) Tryz.func232 rfl rfl (by simp) ?_;refine sr (aS (aB (aa (sr (mS ?_)))));refine so ?_;rintro e_ w9 ⟨A9,c9,rfl,hown_,hb_⟩;refine ⟨_,rfl, ?_⟩;replace hh:=hh.aY (x:=.row _ _ _ _ _ _) hb_ hown_;refine mS ?_;refine EG ?_;rintro e_ w11 ⟨A11,c11,rfl,hown_,hb_⟩;refine ⟨_,rfl, ?_⟩;replace hh:=hh.aY (x:=.row _ _ _ _ _ _) hb_ hown_;refine aL (aL (aa (ah (sr (mL (mL ?_))))));refine Ju ?_;intro w14 hh;rw [gO,gO];refine aW (aa (cF (ao (ai (sr (mL (mL ?_)))))));replace hh:=hh.front 1 rfl;rw [←WG (a0 18446744073709551616 (bN a)),←V9 (a0 18446744073709551616 (bN a))] at hh;have hll:=(hh.MG (i:=0) rfl);rw [V9,WG] at hll;refine aG (Ao [] (a0 18446744073709551616 (bN a)) [] (a0 18446744073709551616 (bN b)) _ hh (fun w1 cs h=>h.aC (i:=1) rfl) (jF _) (jF _) VX VX s1) ar.out rfl VY ?_;rintro e_ w_ ⟨rfl,hh⟩;refine ⟨_,rfl, ?_⟩;simp only [V9,WG] at hh;refine aa (sr (mL ?_))
  refine br hh (iG _ _ _ (sA 18446744073709551616 (a0 18446744073709551616 (bN a)) (a0 18446744073709551616 (bN b)) 0) _ (hh.aC (i:=0) rfl) (M4 VX _ _ _) (hh.fJ (i:=0) rfl) VX) rfl ?_;intro w20 hh;rw [s2];exact Pv
theorem yV (a b:ByteArray) (w:World) (ha:a.size≤1000000000) (hb:b.size≤1000000000):
  Calls Tryz.prog 234 #[.string a,.string b] w fun e w'=>e=.returned (.string (sN (bN a*bN b)))∧Below w.heap.size w w':=by
 have hh:=Hp.start w;have h1:=gk a;have h2:=gk b;refine aj (N:=37) (l:=[.string a,.string b]) Tryz.func234 rfl rfl (by simp) ?_;refine sr (aS (aa (sr (mS ?_))));refine so ?_;rintro e_ w11 ⟨A11,c11,rfl,hown_,hb_⟩;refine ⟨_,rfl, ?_⟩;replace hh:=hh.aY (x:=.row _ _ _ _ _ _) hb_ hown_;refine mS ?_;refine EG ?_;rintro e_ w13 ⟨A13,c13,rfl,hown_,hb_⟩;refine ⟨_,rfl, ?_⟩;replace hh:=hh.aY (x:=.row _ _ _ _ _ _) hb_ hown_;have hxd:=jF (bN a);have hyd:=jF (bN b);have hX:=gO (bN a);have hY:=gO (bN b);generalize a0 18446744073709551616 (bN a)=xs at*;generalize a0 18446744073709551616 (bN b)=ys at*;refine aL (aL (aa (sr (mL (aF (mL (aF ?_)))))));refine a9 ?_;refine a9 ?_;refine gj (n:=xs.length+ys.length+1) hh rfl rfl VX VX bj.out aO.out rfl VX VX VY ?_;intro b20 w20 hh;refine rZ ?_;rw [qf] at hh;refine aM [8,9,23,24,25,26,27,28,29,30,31,32,33,34] 23
  (fun v w'=>∃(i:Nat) (L:List Nat),i≤xs.length∧v=.int .i64 i∧Dg 18446744073709551616 L∧L.length=xs.length+ys.length+1∧bJ 18446744073709551616 L=bJ 18446744073709551616 (xs.take i)*bJ 18446744073709551616 ys∧Hp w [.row (some ⟨b20,0,none⟩) (xs.length+ys.length+1) (xs.length+ys.length+1) 204 1 (dn L),.row (some ⟨A13,0,none⟩) ys.length c13 204 1 (dn ys),.row (some ⟨A11,0,none⟩) xs.length c11 204 1 (dn xs)] w')
  (fun v _=>xs.length-(intOf v).toNat) ?_ ?_
 ·exact ⟨0,_,V5 _,rfl,Dg.gC VX _,by simp,by simp [rk,bJ],hh⟩
 ·clear hh;rintro ρ' v w' ⟨i,L,hi,rfl,hLd,hLl,hLv,hh⟩;by_cases hlt:i<xs.length
  ·obtain ⟨m,hm⟩:=ak (l:=xs) (k:=i) VX;have hm2:=eG hm;have hmw:=hxd.at_ hm;have hpl:(L.take i).length=i:=by rw [Wp];omega
   have hsl:(L.drop i).length=xs.length+ys.length+1-i:=by rw [Xk];omega
   refine sr ?_;refine eH ?_;refine gh ?_;refine F3 ?_;refine aI (aI (aa (al (mL (mI ?_)))));refine D0 (l:=i) bj.out aO.size rfl rfl VX VX VX VX VY ?_;refine mL (mI ?_);have hc:=Aj (c':=xs.length+ys.length+1-i) (ny:=ys.length) (cy:=c13) (m:=m) (Y:=some ⟨A13,0,none⟩) (L.take i) (L.drop i) [] ys _ (by rw [WG,W4];exact hh) (fun w1 cs h=>h.aC (i:=1) rfl) (hLd.drop i) hyd hmw VX VX;rw [hpl,hsl,WG] at hc;rw [Wr,Wo];refine aG (hc) ar.out rfl VY ?_;rintro e_ w_ ⟨rfl,hh⟩;refine ⟨_,rfl, ?_⟩;have hlt1:=ja (hxd.take (i+1));have hlt2:=ja hyd;rw [Wp,Xd VX] at hlt1;have hsn:=fe (B:=18446744073709551616) hm;have hsplit:=jB (B:=18446744073709551616) L i VX;have hnew:18446744073709551616^i*(bJ 18446744073709551616 (L.drop i)+bJ 18446744073709551616 ys*m+0)+bJ 18446744073709551616 (L.take i)=bJ 18446744073709551616 (xs.take (i+1))*bJ 18446744073709551616 ys:=by
    rw [hsn,Ya,←hLv,hsplit,XT,W0,W6,WB m];omega
   have hbd:bJ 18446744073709551616 (L.drop i)+bJ 18446744073709551616 ys*m+0<18446744073709551616^(L.drop i).length:=by
    refine Nat.lt_of_mul_lt_mul_left (a:=18446744073709551616^i) ?_;rw [←Ws,hsl];refine Xb (Nat.le_add_right _ (bJ 18446744073709551616 (L.take i))) ?_;rw [hnew];refine Xa (Nat.mul_lt_mul'' hlt1 hlt2) ?_;rw [←Ws];exact WM VY VX
   have hdp:=wm (B:=18446744073709551616) VX _ _ _ _ hbd;refine gy ?_;refine a9 (mI (aA (ai ?_)));refine ⟨⟨i+1,L.take i++iC 18446744073709551616 (L.drop i) ys m 0,VX,rfl,(hLd.take i).append (Bk VX _ _ _ _),by rw [Wc,pX,hpl,hsl];omega, ?_,hh⟩,by show xs.length-(i+1)<xs.length-i;omega, ?_⟩
   ·rw [fi,hdp,hpl,XY];exact hnew
   exact V0
  ·obtain rfl:i=xs.length:=VX;rw [YV,hX,hY] at hLv;refine sr ?_;refine oP ?_;refine br hh (iG _ _ _ L _ (hh.aC (i:=0) rfl) hLd (V8 _) VX) rfl ?_;intro w36 hh;rw [hLv];exact BH
theorem My {d r:Nat} (hd:d≠0) (hdw:d<18446744073709551616) (hn:n=18446744073709551616^k*(d+18446744073709551616*r)):tz n=64*k+tz d:=by
 obtain ⟨m,hm⟩:=sM hd;have ht:tz d<64:=xP hd (by simpa using hdw);have hW:(18446744073709551616:Nat)=2^64:=by decide
 generalize tz d=t at*;have e:n=2^(64*k+t)*(2*(m+2^(63-t)*r)+1):=by
  rw [hn,Ws,WW,←hW,W6];congr 1;have h1:18446744073709551616=2^t*(2*2^(63-t)):=by rw [hW,←Nat.pow_succ',←Ws];congr 1;omega
  have h2:18446744073709551616*r=2^t*(2*2^(63-t)*r):=by rw [←W6,←h1]
  rw [h2]
  conv=>lhs;rw [hm]
  rw [←W0];congr 1;rw [W0,W6];omega
 rw [e,Ez]
theorem ky (a:ByteArray) (w:World) (ha:a.size≤1000000000) (hT:eK w):
  Calls Tryz.prog 196 #[.string a] w fun e w'=>e=.returned (.int .i64 (tz (bN a)))∧Below w.heap.size w w':=by
 have hh:=Hp.start w;have h1:=gk a;refine aj (N:=21) (l:=[.string a]) Tryz.func196 rfl rfl (by simp) ?_;refine sr (aI (aa (ah (sr (mS ?_)))));refine so ?_;rintro e_ w6 ⟨A6,c6,rfl,hown_,hb_⟩;refine ⟨_,rfl, ?_⟩;replace hh:=hh.aY (x:=.row _ _ _ _ _ _) hb_ hown_;have hxd:=jF (bN a);have hX:=gO (bN a);generalize a0 18446744073709551616 (bN a)=xs at*;refine aF (mI (aa (aq ?_)));refine aM [2,3,4,8,9,10,11,12,13,14,15,16,17,18,19,20] 8
  (fun v w'=>∃(i:Nat),i≤xs.length∧v=.int .i64 i∧bJ 18446744073709551616 (xs.take i)=0∧Hp w [.row (some ⟨A6,0,none⟩) xs.length c6 204 1 (dn xs)] w')
  (fun v _=>xs.length-(intOf v).toNat) ?_ ?_
 ·exact ⟨0,V5 _,rfl,rfl,hh⟩
 ·clear hh;rintro ρ' v w' ⟨i,hi,rfl,hz,hh⟩;by_cases hlt:i<xs.length
  ·obtain ⟨d,hm⟩:=ak (l:=xs) (k:=i) VX;have hm2:=eG hm;have hmw:=hxd.at_ hm;by_cases h0:d=0
   ·subst h0;refine sr ?_;refine eH ?_;refine gh ?_;refine jO ?_;refine aI (aI (aa (sr (mI ?_))));refine cJ (aa (cF (ao (bF (ai (al ?_))))));refine a9 (mI (aA (ai ?_)));refine ⟨⟨i+1,VX,rfl,by rw [fe hm,hz];simp,hh⟩,by show xs.length-(i+1)<xs.length-i;omega, ?_⟩;exact dy
   ·have htz:tz (bN a)=64*i+tz d:=by
     have h3:=jB (B:=18446744073709551616) xs i VX;have h4:=(Wi.1 hm);rw [hz,Xl hlt,h4.2,bJ,hX,Wr] at h3;exact My h0 hmw h3
    have ht:tz d<64:=xP h0 (by simpa using hmw);refine sr ?_;refine eH ?_;refine gh ?_;refine jO ?_;refine aI (aI (aa (sr (mI ?_))));refine cJ (aa (cT (sr (mI ?_))));refine mulC (mI ?_);refine br hh (Ed _ _ hmw h0 (hT.hp hh)) rfl ?_;intro w18 hh;refine a9 (aI (aa (au (bI (aE (aE (bI (aE ?_))))))));refine cS ?_;refine ⟨?_,hh.below⟩;congr 2;omega
  ·refine sr ?_;refine Fk ?_;refine cS ?_;rw [Wa VX,hX] at hz;rw [hz];exact ⟨rfl,hh.below⟩
theorem MK {x y:Nat} (hx:x<18446744073709551616^k) (hy:y<18446744073709551616^k):bJ 18446744073709551616 (iC 18446744073709551616 (a0 18446744073709551616 x++List.replicate (k+1-(a0 18446744073709551616 x).length) 0) (a0 18446744073709551616 y) 1 0)=x+y:=by
 have hl:=iF (B:=18446744073709551616) VX hx;have h1:bJ 18446744073709551616 (a0 18446744073709551616 x++List.replicate (k+1-(a0 18446744073709551616 x).length) 0)=x:=by rw [fi,rk,gO];simp
 have h2:(a0 18446744073709551616 x++List.replicate (k+1-(a0 18446744073709551616 x).length) 0).length=k+1:=by rw [Wc,Xo];omega
 rw [wm VX,h1,gO]
 ·omega
 ·rw [h1,h2,gO,WY];have:0<18446744073709551616^k:=WJ VY;omega
theorem q9 (l:List Nat) (x:Nat):(l++[x]).sum=l.sum+x:=by simp
theorem zk (L:Option Addr) (n c:Nat) (ss:List ByteArray) (w:World) (hS:Sl w L n 1 (iq ss)) (hn:n≤1000000) (hs:∀s∈ss,s.size≤1000000000):
  Calls Tryz.prog 230 #[.slice L n c] w fun e w'=>e=.returned (.string (sN (ss.map bN).sum))∧Below w.heap.size w w':=by
 have hsl:ss.length=n:=by have:=hS.1;rw [na] at this;omega
 have hh:=Hp.start w;refine aj (N:=31) (l:=[.slice L n c]) Tryz.func230 rfl rfl (by simp) ?_;refine sr (aS (aa (sr (aL (aa (ah (sr (mL (aF (mI (aa (aq ?_))))))))))));replace hh:=hh.ck 204 1;refine bp [3,5,6,9,10,11,12,13,14,15,16,17,18,19,20,21,22,23,24,25,26,27,28] 3 9
  (fun v j w'=>∃(i:Nat) (A:Option Addr) (c' T:Nat),i≤n∧j=.int .i64 i∧T=((ss.take i).map bN).sum∧v=.slice A (a0 18446744073709551616 T).length c'∧(a0 18446744073709551616 T).length≤125000001+i∧Hp w [.row A (a0 18446744073709551616 T).length c' 204 1 (dn (a0 18446744073709551616 T))] w')
  (fun _ j _=>n-(intOf j).toNat) ?_ ?_
 ·exact ⟨0,none,0,0,V5 _,rfl,rfl,by rw [gG VX];rfl,by rw [gG VX];simp,by rw [gG VX];exact hh⟩
 ·clear hh;rintro ρ' v j w' ⟨i,A,c',T,hi,rfl,hT,rfl,hTl,hh⟩;by_cases hlt:i<n
  ·obtain ⟨s,hsi⟩:=ak (l:=ss) (k:=i) VX;obtain ⟨ad,rfl,hr⟩:=hS.at_ VX;have hs2:=s7 hsi;have hsz:=hs s (V7 hsi);have hlx:=gk s;have hT2:((ss.take (i+1)).map bN).sum=T+bN s:=by rw [aw hsi,WT,YC,q9,hT]
   have e1:(if ((a0 18446744073709551616 (bN s)).length:Int)>((a0 18446744073709551616 T).length:Int) then ((a0 18446744073709551616 (bN s)).length:Int) else ((a0 18446744073709551616 T).length:Int))+1=((max (a0 18446744073709551616 T).length (a0 18446744073709551616 (bN s)).length+1:Nat):Int):=by split<;>omega
   have hb1:T<18446744073709551616^max (a0 18446744073709551616 T).length (a0 18446744073709551616 (bN s)).length:=Xa (qQ VX T) (WM VY (Nat.le_max_left _ _));have hb2:bN s<18446744073709551616^max (a0 18446744073709551616 T).length (a0 18446744073709551616 (bN s)).length:=Xa (qQ VX (bN s)) (WM VY (Nat.le_max_right _ _));have hadd:=MK hb1 hb2;refine sr ?_;refine dZ ?_;refine dp bj.out aO.size rfl rfl rfl VX VY ?_;refine gZ ?_;refine aS (aa (sr (mS ?_)));refine aG (pD s _ hsz) ar.out rfl VY ?_;rintro e_ w14 ⟨A14,c14,rfl,hown_,hb_⟩;refine ⟨_,rfl, ?_⟩;replace hh:=hh.aY (x:=.row _ _ _ _ _ _) hb_ hown_;refine aL (aa (sr (mL (mL (aF (mL (aF ?_)))))));refine kF rfl rfl VY ?_;refine a9 ?_;rw [e1];generalize hM:max (a0 18446744073709551616 T).length (a0 18446744073709551616 (bN s)).length=M at*;refine aG (oI _ _ _ (M+1) _ _ (hh.aC (i:=1) rfl) VX VX) ar.out rfl VY ?_;rintro e_ w_ ⟨b22,rfl,hown_,hb_⟩;refine ⟨_,rfl, ?_⟩;replace hh:=hh.aY (x:=.row _ _ _ _ _ _) hb_ hown_;have e2:max (M+1) (a0 18446744073709551616 T).length=M+1:=VX;rw [e2] at hh;rw [e2]
   refine aL (aa (sr (mL (mL ?_))));have hc:=D5 (c':=M+1) (ny:=(a0 18446744073709551616 (bN s)).length) (cy:=c14) (Y:=some ⟨A14,0,none⟩) [] (a0 18446744073709551616 T++List.replicate (M+1-(a0 18446744073709551616 T).length) 0) [] (a0 18446744073709551616 (bN s)) _ (by rw [WG,V9];exact hh) (fun w1 cs h=>h.aC (i:=1) rfl) ((jF _).append (Dg.gC VX _)) (jF _) (by rw [Wc,Xo];omega) VX;have e3:(a0 18446744073709551616 T++List.replicate (M+1-(a0 18446744073709551616 T).length) 0).length=M+1:=by rw [Wc,Xo];omega
   rw [e3,WG,V9] at hc;refine aG (hc) ar.out rfl VY ?_;rintro e_ w_ ⟨rfl,hh⟩;refine ⟨_,rfl, ?_⟩;have hpl:(iC 18446744073709551616 (a0 18446744073709551616 T++List.replicate (M+1-(a0 18446744073709551616 T).length) 0) (a0 18446744073709551616 (bN s)) 1 0).length=M+1:=by rw [pX,e3]
   have hpd:=Bk (B:=18446744073709551616) VX (a0 18446744073709551616 T++List.replicate (M+1-(a0 18446744073709551616 T).length) 0) (a0 18446744073709551616 (bN s)) 1 0;generalize iC 18446744073709551616 (a0 18446744073709551616 T++List.replicate (M+1-(a0 18446744073709551616 T).length) 0) (a0 18446744073709551616 (bN s)) 1 0=Z at*;have hcz:dW Z=a0 18446744073709551616 (T+bN s):=by rw [iB VX hpd,hadd]
   have hcl:=fO Z;refine aa (al (mL ?_));refine br hh (iz _ _ _ Z _ (hh.aC (i:=0) rfl) (V8 _) VX) rfl ?_;intro w27 hh;replace hh:=(hh.Gk hpl).sub (Yo [_] _);rw [hcz] at*;refine lR ?_;refine a9 (mI (aA (ai ?_)));refine ⟨⟨i+1,_,_,T+bN s,VX,rfl,hT2.symm,rfl,VX,hh⟩,by show n-(i+1)<n-i;omega, ?_⟩;exact dy
  ·refine sr ?_;refine oP ?_;refine br hh (iG _ _ _ (a0 18446744073709551616 T) _ (hh.aC (i:=0) rfl) (jF _) (hh.fJ (i:=0) rfl) VX) rfl ?_;intro w30 hh;rw [gO];exact Qc
theorem CF (s:ByteArray) (l h:Nat):s.extract l h=str ((s.data.toList.take h).drop l):=by
 apply u3;rw [dT];simp [ByteArray.extract,ByteArray.copySlice,List.drop_take]
def Q9:Value→Nat
 |.string t=>t.size
 |_=>0
theorem vq (s:ByteArray) (w:World):
  Calls Tryz.prog 263 #[.string s,.int .u8 ((0:UInt8).toNat:Int)] w fun e w'=>e=.returned (.string (sN (bN s)))∧Below w.heap.size w w':=by
 have hh:=Hp.start w;refine aj (N:=17) (l:=[.string s,.int .u8 ((0:UInt8).toNat:Int)]) Tryz.func263 rfl rfl (by simp) ?_;refine sr (aS (aa (ah (aq ?_))));refine aM [0,5,6,7,8,9,10,11,12,13,14,15] 0
  (fun v w'=>∃l:List UInt8,v=.string (str l)∧l.length≤s.size∧bn l=bN s∧w'=w)
  (fun v _=>Q9 v) ?_ ?_
 ·exact ⟨s.data.toList,by rw [R5];rfl,by rw [dD];exact V8 _,rfl,rfl⟩
 ·rintro ρ' v w' ⟨l,rfl,hl,hb,rfl⟩;have hsz:=jb l
  cases l with
  |nil=>
   refine ah (sr (mS ?_));refine bA bj.out rfl VY ?_;refine bM (mB ?_);refine gS (gS (gS (gS ?_)));refine dE ?_;refine aa (cF (aU (aD (aD (bk (ai (sr (mS (aS (aa (au ?_)))))))))));refine cS ?_;rw [sN,←hb];exact ⟨rfl,hh.below⟩
  |cons c l=>
   have hc0:(str (c::l)).data.toList[(0:Int).toNat]?=some c:=by rw [dT];rfl
   have hc8:=c.toNat_lt;have hlen:(str (c::l)).size=l.length+1:=by rw [hsz];rfl
   have hz:(0:UInt8).toNat=0:=rfl;by_cases h0:c=0
   ·subst h0;refine ah (sr (mS ?_));refine bA bj.out rfl VY ?_;refine bM (mB (gT (mS (gT ?_))));refine hH ?_;refine gT (mI (gT ?_));refine cB ?_;refine eM ?_;refine aa (cT (ao (ai (aq (al (mS ?_))))));refine rS (l:=1) (h:=(str ((0:UInt8)::l)).size) bj.out rfl ⟨_,_,rfl,VX⟩ rfl VX VX VY ?_;refine aS (aA (bF (ai ?_)));rw [CF,dT,Wa (by rw [hlen];simp),List.drop_succ_cons,List.drop_zero];refine ⟨⟨l,rfl,by simp at hl;omega,by rw [←hb,KD],rfl⟩, ?_, ?_⟩
    ·show (str l).size<(str (0::l)).size;rw [hlen,jb];omega
    exact V0
   ·have hcn:c.toNat≠0:=fun h=>h0 (YP.1 h);refine ah (sr (mS ?_));refine bA bj.out rfl VY ?_;refine bM (mB (gT (mS (gT ?_))));refine hH ?_;refine gT (mI (gT ?_));refine cB ?_;refine eM ?_;refine aa (cF (aU (aD (aD (bk (ai (sr (mS (aS (aa (au ?_)))))))))));refine cS ?_;rw [sN,←hb,Ty (by simpa using h0)];exact ⟨rfl,hh.below⟩
theorem tp (s:ByteArray) (w:World):
  Calls Tryz.prog 254 #[.string s,.string (ByteArray.mk #[0])] w fun e w'=>e=.returned (.string (sN (bN s)))∧Below w.heap.size w w':=by
 have hh:=Hp.start w;have hne:¬ByteArray.mk #[(0:UInt8)]=ByteArray.mk #[]:=by intro h;injection h with h;simp at h
 have hsz1:(ByteArray.mk #[(0:UInt8)]).size=1:=rfl;have hc0:(ByteArray.mk #[(0:UInt8)]).data.toList[(0:Int).toNat]?=some 0:=rfl;have hz:(0:UInt8).toNat=0:=rfl;by_cases h0:s=ByteArray.mk #[]
 ·subst h0;refine aj (N:=37) (l:=[.string (ByteArray.mk #[]),.string (ByteArray.mk #[0])]) Tryz.func254 rfl rfl (by simp) ?_;refine sr (aS (aa (ah (sr (mS ?_)))));refine iK rfl rfl (by first|rfl|assumption|decide) VY ?_;refine mB ?_;refine gS (gS ?_);refine eM ?_;refine aa (cT (sr (mS (aS (aa (au (aE ?_)))))));refine cS ?_;rw [show bN (ByteArray.mk #[])=0 from rfl,nL];exact ⟨rfl,hh.below⟩
 ·refine aj (N:=37) (l:=[.string s,.string (ByteArray.mk #[0])]) Tryz.func254 rfl rfl (by simp) ?_;refine sr (aS (aa (ah (sr (mS ?_)))));refine iH rfl rfl (by first|assumption|decide) VY ?_;refine mB (gT (mS (gT ?_)))
  (first|refine iK rfl rfl (by first|rfl|assumption|decide) VY ?_|refine iH rfl rfl (by first|assumption|decide) VY ?_)
  refine dE ?_;refine aa (cF (ao (ai (ah (sr (mS ?_))))));refine bA bj.out rfl VY ?_;refine cB (mB (gT (mS (gT ?_))));refine hH ?_;refine gT ?_;refine aW ?_;refine eM ?_;refine aa (cT (sr (mS (mS ?_))));refine hH ?_;refine br hh (vq s _) rfl ?_;intro w25 hh;refine aS (aa (au (aE ?_)));refine cS ?_;exact ⟨rfl,hh.below⟩
theorem lh (s:ByteArray) (w:World):
  Calls Tryz.prog 233 #[.string s] w fun e w'=>e=.returned (.string (sN (bN s)))∧Below w.heap.size w w':=by
 have hh:=Hp.start w;refine aj (N:=5) (l:=[.string s]) Tryz.func233 rfl rfl (by simp) ?_;refine sr (aS (aa (sr (mS ?_))));refine br hh (tp s _) rfl ?_;intro w4 hh;exact BH
variable {z:Int}
def iv (s:Bool) (m:ByteArray):Int:=if s then -(bN m:Int) else bN m
def iN (z:Int):Bool:=decide (z<0)
def iM (z:Int):ByteArray:=sN z.natAbs
theorem fD (z:Int):iv (iN z) (iM z)=z:=by
 unfold iv iN iM;rw [fq];by_cases h:z<0
 ·rw [Wm h,V2 rfl];omega
 ·rw [Wu h,V3 (by simp)];omega
theorem sT:iM z=ByteArray.mk #[]↔z=0:=by
 rw [iM,←nL];constructor
 ·intro h;have:=Lq h;omega
 ·intro h;rw [h];rfl
theorem jw (s:Bool) (m:ByteArray):(iv s m).natAbs=bN m:=by
 unfold iv;split<;>omega
theorem F0 (s:Bool) (m:ByteArray):iM (iv s m)=sN (bN m):=by rw [iM,jw]
theorem PS (s:Bool) (m:ByteArray):iN (iv s m)=(s && decide (bN m≠0)):=by
 unfold iN iv;rw [Bool.eq_iff_iff,Wl,Wt,Wt]
 cases s
 ·simp only [Y2,if_false,false_and,iff_false];omega
 ·simp only [if_true,true_and];omega
theorem kf (s:Bool) (m:ByteArray) (w:World):
  Calls Tryz.prog 199 #[.agg #[.bool s,.string m]] w fun e w'=>e=.returned (.agg #[.string m,.bool s])∧Below w.heap.size w w':=by
 have hh:=Hp.start w;refine aj (N:=8) (l:=[.agg #[.bool s,.string m]]) Tryz.func199 rfl rfl (by simp) ?_;refine sr ?_;refine cf hh [_,_] ?_;intro b1 w1 hh;refine bQ hh ?_;intro b2 w2 hh;refine aa (sr (bE ?_));refine bB hh 1 ?_;refine bE ?_;refine bB hh 1 ?_;refine eV [_,_] ?_;exact LA
theorem dF (s:Bool) (m:ByteArray) (w:World):
  Calls Tryz.prog 200 #[.agg #[.string m,.bool s]] w fun e w'=>e=.returned (.agg #[.bool (iN (iv s m)),.string (iM (iv s m))])∧Below w.heap.size w w':=by
 have hh:=Hp.start w;rw [PS,F0]
 cases s with
 |false=>
  refine aj (N:=15) (l:=[.agg #[.string m,.bool false]]) Tryz.func200 rfl rfl (by simp) ?_;refine sr ?_;refine cf hh [_,_] ?_;intro b1 w1 hh;refine bQ hh ?_;intro b2 w2 hh;refine aa (sr (bE ?_));refine bB hh 1 ?_;refine br hh (lh m _) rfl ?_;intro w6 hh;refine aS (aa (sr (bE ?_)));refine bB hh 1 ?_;refine mB ?_;refine gS (gS ?_);refine dE ?_;refine mS ?_;refine eV [_,_] ?_;exact LA
 |true=>
  by_cases h0:sN (bN m)=ByteArray.mk #[]
  ·refine aj (N:=15) (l:=[.agg #[.string m,.bool true]]) Tryz.func200 rfl rfl (by simp) ?_;refine sr ?_;refine cf hh [_,_] ?_;intro b1 w1 hh;refine bQ hh ?_;intro b2 w2 hh;refine aa (sr (bE ?_));refine bB hh 1 ?_;refine br hh (lh m _) rfl ?_;intro w6 hh;refine aS (aa (sr (bE ?_)));refine bB hh 1 ?_;refine mB (gT (mS (gT ?_)))
   (first|refine kV rfl rfl (by first|rfl|assumption|decide) VY ?_|refine kJ rfl rfl (by first|assumption|decide) VY ?_)
   refine eM ?_;refine mS ?_;refine eV [_,_] ?_;refine bR hh 0 [_,_] ?_;intro ws hh;replace hh:Hp _ (.blk _ _ [_,_] _::_) _:=hh;refine aa (au ?_);refine qJ ?_;exact OO
  ·refine aj (N:=15) (l:=[.agg #[.string m,.bool true]]) Tryz.func200 rfl rfl (by simp) ?_;refine sr ?_;refine cf hh [_,_] ?_;intro b1 w1 hh;refine bQ hh ?_;intro b2 w2 hh;refine aa (sr (bE ?_));refine bB hh 1 ?_;refine br hh (lh m _) rfl ?_;intro w6 hh;refine aS (aa (sr (bE ?_)));refine bB hh 1 ?_;refine mB (gT (mS (gT ?_)))
   (first|refine kV rfl rfl (by first|rfl|assumption|decide) VY ?_|refine kJ rfl rfl (by first|assumption|decide) VY ?_)
   refine eM ?_;refine mS ?_;refine eV [_,_] ?_;refine bR hh 0 [_,_] ?_;intro ws hh;replace hh:Hp _ (.blk _ _ [_,_] _::_) _:=hh;refine aa (au ?_);refine qJ ?_;exact OB
def Vk (s:Bool) (m:ByteArray):Value:=.agg #[.string m,.bool s]
theorem uI (a b:ByteArray) (w:World) (ha:a.size≤1000000000) (hb:b.size≤1000000000):
  Calls Tryz.prog 231 #[.string a,.string b] w fun e w'=>e=.returned (.int .i64 (lB (bN a) (bN b)))∧Below w.heap.size w w':=by
 have hh:=Hp.start w;refine aj (N:=8) (l:=[.string a,.string b]) Tryz.func231 rfl rfl (by simp) ?_;refine sr (aI (aa (sr (mS (mS ?_)))));refine br hh (zD a b _ ha hb) rfl ?_;intro w7 hh;exact vJ
theorem mR (s:Bool) (m:ByteArray) (w:World):
  Calls Tryz.prog 223 #[.agg #[.bool s,.string m]] w fun e w'=>e=.returned (.agg #[.bool (iN (iv s m)),.string (iM (iv s m))])∧Below w.heap.size w w':=by
 have hh:=Hp.start w;refine aj (N:=6) (l:=[.agg #[.bool s,.string m]]) Tryz.func223 rfl rfl (by simp) ?_;refine sr ?_;refine cf hh [_,_] ?_;intro b1 w1 hh;refine bQ hh ?_;intro b2 w2 hh;refine aa (sr ?_);refine cn hh 1 [_,_] ?_;refine br hh (kf s m _) rfl ?_;intro w4 hh;refine br hh (dF s m _) rfl ?_;intro w5 hh;exact LA
theorem uj (s:Bool) (m:ByteArray) (w:World):
  Calls Tryz.prog 185 #[.agg #[.bool s,.string m]] w fun e w'=>e=.returned (.agg #[.bool (iN (-(iv s m))),.string (iM (-(iv s m)))])∧Below w.heap.size w w':=by
 have hh:=Hp.start w;have e1:iv (!s) m= -(iv s m):=by unfold iv;cases s<;>simp
 refine aj (N:=10) (l:=[.agg #[.bool s,.string m]]) Tryz.func185 rfl rfl (by simp) ?_;refine sr ?_;refine cf hh [_,_] ?_;intro b1 w1 hh;refine bQ hh ?_;intro b2 w2 hh;refine aa (sr (bE ?_));refine bB hh 1 ?_;refine bE ?_;refine bB hh 1 ?_;refine fI ?_;refine eV [_,_] ?_;refine br hh (dF (!s) m _) rfl ?_;intro w9 hh;rw [e1];exact LA
theorem kS (s:Bool) (m:ByteArray) (w:World):
  Calls Tryz.prog 195 #[.agg #[.bool s,.string m]] w fun e w'=>e=.returned (.int .i64 (iv s m).sign)∧Below w.heap.size w w':=by
 have hh:=Hp.start w;by_cases h1:iv s m<0
 ·have hn:iN (iv s m)=true:=Wm h1;refine Ln ?_;refine sr ?_;refine cf hh [_,_] ?_;intro b1 w1 hh;refine aI (aa (sr ?_));refine cn hh 0 [_,_] ?_;refine br hh (mR s m _) rfl ?_;intro w5 hh;rw [hn];refine bQ hh ?_;intro b3 w3 hh;refine bR hh 0 [_,_] ?_;intro ws hh;replace hh:Hp _ (.blk _ _ [_,_] _::_) _:=hh;refine aa (ah (aq (sr (bE ?_))));refine bB hh 0 ?_;refine Fq ?_;refine cS ?_;exact ⟨by rw [XG h1],hh.below⟩
 ·have hn:iN (iv s m)=false:=Wu h1;by_cases h0:iM (iv s m)=ByteArray.mk #[]
  ·refine Ln ?_;refine sr ?_;refine cf hh [_,_] ?_;intro b1 w1 hh;refine aI (aa (sr ?_));refine cn hh 0 [_,_] ?_;refine br hh (mR s m _) rfl ?_;intro w5 hh;rw [hn];refine bQ hh ?_;intro b3 w3 hh;refine bR hh 0 [_,_] ?_;intro ws hh;replace hh:Hp _ (.blk _ _ [_,_] _::_) _:=hh;refine aa (ah (aq (sr (bE ?_))));refine bB hh 0 ?_;refine aB (aa (cF (sr (bE ?_))));refine bB hh 0 ?_;refine iK rfl rfl (by first|rfl|assumption|decide) VY ?_;refine Fq ?_;refine cS ?_;exact ⟨by rw [sT.1 h0];rfl,hh.below⟩
  ·have h2:0<iv s m:=by
    have:iv s m≠0:=fun h=>h0 (sT.2 h);omega
   refine Ln ?_;refine sr ?_;refine cf hh [_,_] ?_;intro b1 w1 hh;refine aI (aa (sr ?_));refine cn hh 0 [_,_] ?_;refine br hh (mR s m _) rfl ?_;intro w5 hh;rw [hn];refine bQ hh ?_;intro b3 w3 hh;refine bR hh 0 [_,_] ?_;intro ws hh;replace hh:Hp _ (.blk _ _ [_,_] _::_) _:=hh;refine aa (ah (aq (sr (bE ?_))));refine bB hh 0 ?_;refine aB (aa (cF (sr (bE ?_))));refine bB hh 0 ?_;refine iH rfl rfl (by first|assumption|decide) VY ?_;refine aB (aa (cF (ao (bF (ai (sr (aI (aa (au ?_)))))))));refine cS ?_;exact ⟨by rw [XF h2],hh.below⟩
theorem dH (z:Int):(iM z).size=(bO z.natAbs+7)/8:=j7 _
def xm (s t:Bool) (a b:ByteArray):Bool:=if s=t then s else if bN a<bN b then t else s
theorem M9 (s t:Bool) (a b:ByteArray):iv (xm s t a b) (iM (iv s a+iv t b))=iv s a+iv t b:=by
 unfold iM iv;rw [fq];unfold xm
 cases s<;>cases t<;>simp<;>(try split)<;>(try simp)<;>omega
theorem tH (s t:Bool) (a b:ByteArray):iv (s !=t) (iM (iv s a*iv t b))=iv s a*iv t b:=by
 rw [iM,XW,jw,jw];unfold iv;rw [fq]
 cases s<;>cases t<;>simp [Int.mul_neg,Int.neg_mul]
theorem BC (s t:Bool) (a b:ByteArray) (w:World) (ha:a.size≤1000000000) (hb:b.size≤1000000000):
  Calls Tryz.prog 198 #[.agg #[.string a,.bool s],.agg #[.string b,.bool t]] w fun e w'=>e=.returned (.agg #[.string (iM (iv s a+iv t b)),.bool (xm s t a b)])∧Below w.heap.size w w':=by
 have hh:=Hp.start w;have hiv:∀(u:Bool) (n:Nat) (z:Int),(z=if u then -(n:Int) else n)→sN n=iM z:=by
  intro u n z hz;have h1:z.natAbs=n:=by rw [hz];split<;>omega
  rw [iM,h1]
 by_cases hst:s=t
 ·subst hst;have e1:=hiv s (bN a+bN b) (iv s a+iv s b) (by unfold iv;split<;>omega);refine aj (N:=41) (l:=[.agg #[.string a,.bool s],.agg #[.string b,.bool s]]) Tryz.func198 rfl rfl (by simp) ?_;refine sr ?_;refine cf hh [_,_] ?_;intro b2 w2 hh;refine cf hh [_,_] ?_;intro b3 w3 hh;refine bQ hh ?_;intro b4 w4 hh;refine aa (ah (sr (bE ?_)));refine bB hh 2 ?_;refine bE ?_;refine bB hh 1 ?_;refine FR bj.out rfl rfl (by first|rfl|assumption) VY ?_;refine aa (cT (ah ?_));refine aT 8 [[(2,none)],[(12,some 0)],[(3,none)],[(14,some 2)],[(13,some 1),(15,some 3)],[(16,some 4)],[(2,none)],[(18,some 6)]] [(7,19),(6,18),(5,17),(4,16),(3,15),(2,14),(1,13),(0,12)] hh mixed VZ ?_;refine cP ?_;refine dL 2 ?_;refine cP ?_;refine dL 1 ?_;refine oB [_,_] ?_;refine aN (i:=5) (Is (.string (sN (bN a+bN b)))) Is.ext ?_ ?_
  ·intro ρ1 w1 hj hR;obtain ⟨A16,c16,h16,s16⟩:=hR.1;exact bh rfl (aP ar.out (av h16 a6)) (zk A16 2 c16 [a,b] _ s16 VX (by simp;omega)) (fun _ _ hq=>⟨_,hq.1,hq.2,rfl⟩)
  refine cP ?_;refine dL 2 ?_;refine aJ ?_;intro f W hJ hV;have hb_2:=hJ.bl;obtain ⟨v19,v18,v17,v16,v15,v14,v13,v12,_⟩:=hV;obtain ⟨A16,c16,e16,f16⟩:Rows _ _ _ (f 4) W:=v16;replace hh:=hJ.hp;refine aR (a8 (ae v19 (ae v18 (ae v17 (ae e16 (ae v15 (ae v14 (ae v13 (ae v12 aQ))))))))) ?_;dsimp only [bH];clear e16 hJ;refine eV [_,_] ?_;refine bR hh 0 [_,_] ?_;intro ws hh;replace hh:Hp _ (.blk _ _ [_,_] _::_) _:=hh;refine aa (au (aE ?_));refine qJ ?_;rw [e1,xm,V2 rfl];exact ⟨rfl,hh.below⟩
 ·by_cases hlt:bN a<bN b
  ·have e1:=hiv t (bN b-bN a) (iv s a+iv t b) (by unfold iv;cases s<;>cases t<;>simp at hst ⊢ <;>omega);refine aj (N:=41) (l:=[.agg #[.string a,.bool s],.agg #[.string b,.bool t]]) Tryz.func198 rfl rfl (by simp) ?_;refine sr ?_;refine cf hh [_,_] ?_;intro b2 w2 hh;refine cf hh [_,_] ?_;intro b3 w3 hh;refine bQ hh ?_;intro b4 w4 hh;refine aa (ah (sr (bE ?_)));refine bB hh 2 ?_;refine bE ?_;refine bB hh 1 ?_;refine FM ?_;refine Bw ?_;refine bB hh 2 ?_;refine bE ?_;refine bB hh 1 ?_;refine br hh (uI a b _ ha hb) rfl ?_;intro w25 hh;rw [ma hlt];refine aW (aa (cT (al ?_)));refine cn hh 1 [_,_] ?_;refine cn hh 2 [_,_] ?_;refine bR hh 2 [_,_] ?_;intro ws hh;replace hh:Hp _ (_::_::.blk _ _ [_,_] _::_) _:=hh;refine bR hh 1 [_,_] ?_;intro ws hh;replace hh:Hp _ (_::.blk _ _ [_,_] _::_) _:=hh;refine aa (sr (bE ?_));refine bB hh 2 ?_;refine bE ?_;refine bB hh 1 ?_;refine br hh (qL b a _ hb ha) rfl ?_;intro w34 hh;refine mT ?_;refine du ?_;refine du ?_;refine aS (aB (aa (sr (mS (bE ?_)))));refine bB hh 2 ?_;refine eV [_,_] ?_;refine bR hh 0 [_,_] ?_;intro ws hh;replace hh:Hp _ (.blk _ _ [_,_] _::_) _:=hh;refine aa (au ?_);refine qJ ?_
   rw [e1,xm,V3 hst,V2 hlt];exact ⟨rfl,hh.below⟩
  ·have e1:=hiv s (bN a-bN b) (iv s a+iv t b) (by unfold iv;cases s<;>cases t<;>simp at hst ⊢ <;>omega);have hc:¬lB (bN a) (bN b)<0:=by unfold lB;split<;>(try split)<;>omega
   refine aj (N:=41) (l:=[.agg #[.string a,.bool s],.agg #[.string b,.bool t]]) Tryz.func198 rfl rfl (by simp) ?_;refine sr ?_;refine cf hh [_,_] ?_;intro b2 w2 hh;refine cf hh [_,_] ?_;intro b3 w3 hh;refine bQ hh ?_;intro b4 w4 hh;refine aa (ah (sr (bE ?_)));refine bB hh 2 ?_;refine bE ?_;refine bB hh 1 ?_;refine FM ?_;refine Bw ?_;refine bB hh 2 ?_;refine bE ?_;refine bB hh 1 ?_;refine br hh (uI a b _ ha hb) rfl ?_;intro w25 hh;refine aW (aa (cF (ao (ai (sr (bE ?_))))));refine bB hh 2 ?_;refine bE ?_;refine bB hh 1 ?_;refine br hh (qL a b _ ha hb) rfl ?_;intro w34 hh;refine mT ?_;refine du ?_;refine du ?_;refine aS (aB (aa (sr (mS (bE ?_)))));refine bB hh 2 ?_;refine eV [_,_] ?_;refine bR hh 0 [_,_] ?_;intro ws hh;replace hh:Hp _ (.blk _ _ [_,_] _::_) _:=hh;refine aa (au ?_);refine qJ ?_;rw [e1,xm,V3 hst,V3 hlt];exact ⟨rfl,hh.below⟩
theorem p8 (s t:Bool) (a b:ByteArray) (w:World) (ha:a.size≤1000000000) (hb:b.size≤1000000000):
  Calls Tryz.prog 201 #[.agg #[.string a,.bool s],.agg #[.string b,.bool t]] w fun e w'=>e=.returned (.agg #[.string (iM (iv s a*iv t b)),.bool (s !=t)])∧Below w.heap.size w w':=by
 have hh:=Hp.start w;have e0:(iv s a*iv t b).natAbs=bN a*bN b:=by rw [XW,jw,jw]
 have e1:iM (iv s a*iv t b)=sN (bN a*bN b):=by rw [iM,e0]
 refine aj (N:=16) (l:=[.agg #[.string a,.bool s],.agg #[.string b,.bool t]]) Tryz.func201 rfl rfl (by simp) ?_;refine sr ?_;refine cf hh [_,_] ?_;intro b2 w2 hh;refine cf hh [_,_] ?_;intro b3 w3 hh;refine bQ hh ?_;intro b4 w4 hh;refine aa (ah ?_);refine Iv ?_;refine cP ?_;refine dL 2 ?_;refine cP ?_;refine dL 1 ?_;refine dC (fun _ hj=>yV a b _ ha hb) ?_;refine cP ?_;refine dL 2 ?_;refine cP ?_;refine dL 1 ?_;refine bm (i:=9) (fun ρ1 w1 hj hR=>mz bj.out (show ρ1 11=Value.bool _ from hR.1) (show ρ1 13=Value.bool _ from hR.2.1)) ?_;refine aJ ?_;intro f W hJ hV;have hb_1:=hJ.bl;obtain ⟨v14,v13,v12,v11,v10,v9,v8,v7,v6,v5,_⟩:=hV;replace hh:=hJ.hp;refine Et ?_;dsimp only [bH];clear hJ;refine eV [_,_] ?_;refine bR hh 0 [_,_] ?_;intro ws hh;replace hh:Hp _ (.blk _ _ [_,_] _::_) _:=hh;refine aa (au ?_);refine qJ ?_;rw [e1];exact ⟨rfl,hh.below⟩
theorem nT (n:Int) (w:World) (h1: -9223372036854775808≤n) (h2:n≤9223372036854775807):
  Calls Tryz.prog 140 #[.int .i64 n] w fun e w'=>e=.returned (.agg #[.bool (iN n),.string (iM n)])∧Below w.heap.size w w':=by
 have hh:=Hp.start w;by_cases h0:n<0
 ·have e1:iv true (sN n.natAbs)=n:=by unfold iv;rw [fq,V2 rfl];omega
  have hw:IntKind.u64.wrap n=((18446744073709551616-n.natAbs:Nat):Int):=by
   rw [show n=((18446744073709551616-n.natAbs:Nat):Int)+ -((18446744073709551616:Nat):Int) by omega];have:=UK.wrap_add (k:=.u64) (((18446744073709551616-n.natAbs:Nat):Int)+ -((18446744073709551616:Nat):Int));rw [←this,Int.neg_add_cancel_right,UK.pQ VX];omega
  have hn:(18446744073709551616-(18446744073709551616-n.natAbs)) % 18446744073709551616=n.natAbs:=VX;refine aj (N:=16) (l:=[.int .i64 n]) Tryz.func140 rfl rfl (by simp) ?_;refine sr ?_;refine bQ hh ?_;intro b2 w2 hh;refine aa (ah (sr (mI ?_)));refine aW (aa (cT (sr (mI ?_))));refine oZ bj.out bj.out rfl VY ?_;rw [hw];refine Kl rfl VX VY ?_;rw [hn];skip;refine br hh (rL n.natAbs _ VX) rfl ?_;intro w8 hh;refine eV [_,_] ?_;refine br hh (dF true (sN n.natAbs) _) rfl ?_;intro w10 hh;rw [e1];exact B4
 ·obtain ⟨m,rfl⟩:=Y3 (by omega:0≤n);have e1:iv false (sN m)=m:=by unfold iv;rw [fq];simp
  have hm:m<18446744073709551616:=VX;refine aj (N:=16) (l:=[.int .i64 (m:Int)]) Tryz.func140 rfl rfl (by simp) ?_;refine sr ?_;refine bQ hh ?_;intro b2 w2 hh;refine aa (ah (sr (mI ?_)));refine aW (aa (cF (ao (ai (sr (mI ?_))))));refine mH ?_;refine br hh (rL m _ hm) rfl ?_;intro w13 hh;refine eV [_,_] ?_;refine br hh (dF false (sN m) _) rfl ?_;intro w15 hh;rw [e1];exact LA
structure IR where
 neg:Bool
 bf:ByteArray
def IR.cells (a:IR):List Value:=[.bool a.neg,.string a.bf]
def IR.v (a:IR):Int:=iv a.neg a.bf
def iR (z:Int):IR:=⟨iN z,iM z⟩
theorem TF (z:Int):(iR z).v=z:=fD z
theorem IR.len (a:IR):a.cells.length=2:=rfl
theorem mm (x y:Int):bO (x+y).natAbs≤max (bO x.natAbs) (bO y.natAbs)+1:=by
 apply dO;have h1:=dk x.natAbs;have h2:=dk y.natAbs;have h3:2^bO x.natAbs≤2^max (bO x.natAbs) (bO y.natAbs):=WM VX (Nat.le_max_left _ _);have h4:2^bO y.natAbs≤2^max (bO x.natAbs) (bO y.natAbs):=WM VX (Nat.le_max_right _ _);rw [WY];omega
theorem ie (s:Bool) (m:ByteArray):bO (iv s m).natAbs≤8*m.size:=by rw [jw];exact fK m
theorem GO (l:List Int) (x:Int):(l++[x]).sum=l.sum+x:=by simp
theorem u7 (L:Option Addr) (n c:Nat) (l:List IR) (w:World) (hS:Sl w L n 2 (az IR.cells l)) (hn:n≤1000000) (hs:∀s∈l,s.bf.size≤100000000):
  Calls Tryz.prog 138 #[.slice L n c] w fun e w'=>e=.returned (.agg #[.bool (iN (l.map IR.v).sum),.string (iM (l.map IR.v).sum)])∧Below w.heap.size w w':=by
 have hl:=hS.bg IR.len VX;have hh:=Hp.start w;refine aj (N:=19) (l:=[.slice L n c]) Tryz.func138 rfl rfl (by simp) ?_;refine sr ?_;refine bQ hh ?_;intro b2 w2 hh;refine aa (sr ?_);refine bQ hh ?_;intro b3 w3 hh;refine vY ?_;refine aM [5,8,9,10,11,12,13,14,15,16] 8
  (fun j w'=>∃(i:Nat) (u:Bool) (S:Int),i≤n∧j=.int .i64 i∧S=((l.take i).map IR.v).sum∧iv u (iM S)=S∧bO S.natAbs≤800000000+i∧Hp w [.blk b3 199 [.string (iM S),.bool u] (0,0),.blk b2 63 [.bool false,.string (ByteArray.mk #[])] (0,0)] w')
  (fun j _=>n-(intOf j).toNat) ?_ ?_
 ·exact ⟨0,false,0,V5 _,rfl,rfl,by rw [iM];exact W8 _ (fq 0),by simp [lU],by rw [iM,Int.natAbs_zero,nL];exact hh⟩
 ·clear hh;rintro ρ' j w' ⟨i,u,S,hi,rfl,hS2,hu,hb,hh⟩;by_cases hlt:i<n
  ·obtain ⟨x,hx⟩:=ak (l:=l) (k:=i) VX;obtain ⟨ad,rfl,hr⟩:=hS.at_ VX;have hxs:=hs x (V7 hx);have hS3:((l.take (i+1)).map IR.v).sum=S+x.v:=by rw [aw hx,WT,YC,GO,hS2]
   have hms:(iM S).size≤1000000000:=by rw [dH];omega
   have hbx:=ie x.neg x.bf;have hba:=mm S x.v;have hpl:=M9 u x.neg (iM S) x.bf;rw [hu] at hpl;have hwc:=fun w1=>BC u x.neg (iM S) x.bf w1 hms VX;rw [hu] at hwc;refine sr ?_;refine dZ ?_;refine bY ?_;refine cA (vs:=[_,_]) aO.out rfl (((hr.ext hh.below).recAt IR.len hx)) rfl VY ?_;refine bQ hh ?_;intro b5 w5 hh;refine bR hh 0 [_,_] ?_;intro ws hh;replace hh:Hp _ (.blk _ _ [_,_] _::_) _:=hh;refine aa ?_;refine aT 3 [[(3,none)],[(5,none)],[(13,some 1)]] [(2,14),(1,13),(0,12)] hh mixed VZ ?_;refine ee 1 [_,_] ?_;refine ee 0 [_,_] ?_;refine dC (fun _ hj=>kf x.neg x.bf _) ?_;refine aJ ?_;intro f W hJ hV;have hb_5:=hJ.bl;obtain ⟨v14,v13,v12,_⟩:=hV;replace hh:=hJ.hp;refine aR (a8 (ae v14 (ae v13 (ae v12 aQ)))) ?_;dsimp only [bH];clear hJ;refine br hh (hwc _) rfl ?_;intro w15 hh;exact P9
  ·refine sr ?_;refine mY ?_;refine cn hh 0 [_,_] ?_;refine br hh (dF u (iM S) _) rfl ?_;intro w18 hh;exact TN
theorem nh (s:Bool) (b:ByteArray):(iM (-(iv s b))).size≤b.size:=by
 have:=ie s b;rw [dH,Int.natAbs_neg];omega
theorem vv (s t:Bool) (a b:ByteArray) (w:World) (ha:a.size≤100000000) (hb:b.size≤100000000):
  Calls Tryz.prog 229 #[.agg #[.bool s,.string a],.agg #[.bool t,.string b]] w fun e w'=>e=.returned (.agg #[.bool (iN (iv s a-iv t b)),.string (iM (iv s a-iv t b))])∧Below w.heap.size w w':=by
 have hh:=Hp.start w;have h1:=nh t b;have e1:([IR.mk s a,iR (-(iv t b))].map IR.v).sum=iv s a-iv t b:=by
  simp only [Wv,WV,List.sum_cons,List.sum_nil,TF];simp only [IR.v];omega
 refine aj (N:=10) (l:=[.agg #[.bool s,.string a],.agg #[.bool t,.string b]]) Tryz.func229 rfl rfl (by simp) ?_;refine sr ?_;refine cf hh [_,_] ?_;intro b2 w2 hh;refine cf hh [_,_] ?_;intro b3 w3 hh;refine bQ hh ?_;intro b4 w4 hh;refine aa (ah ?_);refine Jy ?_;refine ee 2 [_,_] ?_;refine ee 1 [_,_] ?_;refine dC (fun _ hj=>uj t b _) ?_;refine aJ ?_;intro f W hJ hV;have hb_1:=hJ.bl;obtain ⟨v7,v6,v5,_⟩:=hV;replace hh:=hJ.hp;refine uJ ?_;dsimp only [bH];clear hJ;refine xr ?_;intro b8 w8 hh;refine br hh (u7 _ 2 _ [IR.mk s a,iR (-(iv t b))] _ (hh.aC (i:=0) rfl) VX (by simp [iR];omega)) rfl ?_;intro w9 hh;rw [e1];exact I2
theorem Dt (s t:Bool) (a b:ByteArray) (w:World) (ha:a.size≤100000000) (hb:b.size≤100000000):
  Calls Tryz.prog 219 #[.agg #[.bool s,.string a],.agg #[.bool t,.string b]] w fun e w'=>e=.returned (.int .i64 (iv s a-iv t b).sign)∧Below w.heap.size w w':=by
 have hh:=Hp.start w;refine aj (N:=9) (l:=[.agg #[.bool s,.string a],.agg #[.bool t,.string b]]) Tryz.func219 rfl rfl (by simp) ?_;refine sr ?_;refine cf hh [_,_] ?_;intro b2 w2 hh;refine cf hh [_,_] ?_;intro b3 w3 hh;refine aI (aa (sr ?_));refine cn hh 1 [_,_] ?_;refine cn hh 0 [_,_] ?_;refine br hh (vv s t a b _ ha hb) rfl ?_;intro w7 hh;refine br hh (kS _ _ _) rfl ?_;intro w8 hh;rw [fD];exact vJ
theorem zK (a b:Nat):bO (a*b)≤bO a+bO b:=by
 apply dO;rw [Ws];exact Nat.mul_lt_mul'' (dk a) (dk b)
theorem j6 (a b:Int):bO (a*b).natAbs≤bO a.natAbs+bO b.natAbs:=by rw [XW];exact zK _ _
def m9:List Int→Int
 |[]=>1
 |x::l=>x*m9 l
theorem CR (l:List Int) (x:Int):m9 (l++[x])=m9 l*x:=by
 induction l with
 |nil=>simp [m9]
 |cons y l ih=>simp only [Wb,m9,ih,Int.mul_assoc]
theorem BT (l:List Nat) (i:Nat):(l.take i).sum≤l.sum:=by
 rw [←List.sum_append_nat.symm.trans (W8 List.sum (W4 i l))];omega
theorem tO:bO 1=1:=by decide+kernel
theorem D2 (L:Option Addr) (n c:Nat) (l:List IR) (w:World) (hS:Sl w L n 2 (az IR.cells l)) (hn:n≤1000000) (hs:(l.map fun a=>a.bf.size).sum≤100000000):
  Calls Tryz.prog 139 #[.slice L n c] w fun e w'=>e=.returned (.agg #[.bool (iN (m9 (l.map IR.v))),.string (iM (m9 (l.map IR.v)))])∧Below w.heap.size w w':=by
 have hl:=hS.bg IR.len VX;have hh:=Hp.start w;have hsum:=BT (l.map fun a=>a.bf.size);refine aj (N:=21) (l:=[.slice L n c]) Tryz.func139 rfl rfl (by simp) ?_;refine sr ?_;refine bQ hh ?_;intro b2 w2 hh;refine aa (sr ?_);refine br hh (nT 1 _ VX VX) rfl ?_;intro w6 hh;refine br hh (kf _ _ _) rfl ?_;intro w7 hh;refine bQ hh ?_;intro b3 w3 hh;refine bR hh 0 [_,_] ?_;intro ws hh;replace hh:Hp _ (.blk _ _ [_,_] _::_) _:=hh;refine vY ?_;refine aM [5,10,11,12,13,14,15,16,17,18] 10
  (fun j w'=>∃(i:Nat) (u:Bool) (S:Int),i≤n∧j=.int .i64 i∧S=m9 ((l.take i).map IR.v)∧iv u (iM S)=S∧bO S.natAbs≤1+8*((l.map fun a=>a.bf.size).take i).sum∧Hp w [.blk b3 199 [.string (iM S),.bool u] (0,0),.blk b2 63 [.bool false,.string (ByteArray.mk #[])] (0,0)] w')
  (fun j _=>n-(intOf j).toNat) ?_ ?_
 ·exact ⟨0,_,1,V5 _,rfl,rfl,fD 1,by rw [Int.natAbs_one,tO];omega,hh⟩
 ·clear hh;rintro ρ' j w' ⟨i,u,S,hi,rfl,hS2,hu,hb,hh⟩;by_cases hlt:i<n
  ·obtain ⟨x,hx⟩:=ak (l:=l) (k:=i) VX;obtain ⟨ad,rfl,hr⟩:=hS.at_ VX;have hsi:=hsum i;have hsi2:=hsum (i+1);have hsz:((l.map fun a=>a.bf.size).take (i+1)).sum=((l.map fun a=>a.bf.size).take i).sum+x.bf.size:=by
    rw [aw (x:=x.bf.size) (by rw [Wf,hx];rfl),q9]
   have hS3:m9 ((l.take (i+1)).map IR.v)=S*x.v:=by rw [aw hx,WT,YC,CR,hS2]
   have hms:(iM S).size≤1000000000:=by rw [dH];omega
   have hbx:=ie x.neg x.bf;have hba:=j6 S x.v;have hpl:=tH u x.neg (iM S) x.bf;rw [hu] at hpl;have hwc:=fun w1=>p8 u x.neg (iM S) x.bf w1 hms VX;rw [hu] at hwc;refine sr ?_;refine dZ ?_;refine bY ?_;refine cA (vs:=[_,_]) aO.out rfl (((hr.ext hh.below).recAt IR.len hx)) rfl VY ?_;refine bQ hh ?_;intro b5 w5 hh;refine bR hh 0 [_,_] ?_;intro ws hh;replace hh:Hp _ (.blk _ _ [_,_] _::_) _:=hh;refine aa ?_;refine aT 3 [[(3,none)],[(5,none)],[(15,some 1)]] [(2,16),(1,15),(0,14)] hh mixed VZ ?_;refine ee 1 [_,_] ?_;refine ee 0 [_,_] ?_;refine dC (fun _ hj=>kf x.neg x.bf _) ?_;refine aJ ?_;intro f W hJ hV;have hb_5:=hJ.bl;obtain ⟨v16,v15,v14,_⟩:=hV;replace hh:=hJ.hp;refine aR (a8 (ae v16 (ae v15 (ae v14 aQ)))) ?_;dsimp only [bH];clear hJ;refine br hh (hwc _) rfl ?_;intro w17 hh;exact P9
  ·refine sr ?_;refine mY ?_;refine cn hh 0 [_,_] ?_;refine br hh (dF u (iM S) _) rfl ?_;intro w20 hh;exact TN
theorem Aq (M k:Nat) (h:2^k∣M): -((M/2^k:Nat):Int)= -(M:Int)/2^k:=by
 obtain ⟨q,rfl⟩:=h;have hp:(0:Int)<2^k:=Int.pow_pos VX;rw [Nat.mul_div_cancel_left _ (WJ VX),Xn,←Int.mul_neg,Int.natCast_pow];exact (Int.mul_ediv_cancel_left _ (by exact Int.ne_of_gt hp)).symm
theorem yR (M k:Nat) (h:¬2^k∣M): -((M/2^k:Nat):Int)-1= -(M:Int)/2^k:=by
 have hp:(0:Int)<2^k:=Int.pow_pos VX;have h1:=XH M (2^k);have h2:=Wy M (WJ (n:=k) (show 0<2 by omega));have h3:M % 2^k≠0:=fun h0=>h (Nat.dvd_of_mod_eq_zero h0);have hc:((2^k:Nat):Int)=2^k:=by simp
 symm
 rw [Int.ediv_eq_iff_of_pos hp,←hc];have h4:(M:Int)=(2^k:Nat)*(M/2^k:Nat)+(M % 2^k:Nat):=by rw [←Xn,←X6,h1]
 generalize hK:((2^k:Nat):Int)=K at*;generalize ((M/2^k:Nat):Int)=q at*;have e:(-q-1)*K= -(K*q)-K:=by rw [Int.sub_mul,Int.neg_mul,Int.mul_comm q];omega
 have e2:(-q-1+1)*K= -(K*q):=by rw [Int.sub_add_cancel,Int.neg_mul,Int.mul_comm]
 omega
theorem Jf {M:Nat} (h0:M≠0):2^k∣M↔k≤tz M:=by
 obtain ⟨m,hm⟩:=sM h0;generalize tz M=t at*;constructor
 ·intro h
  rcases WX t k with hlt|hge
  ·exfalso;obtain ⟨q,hq⟩:=h;rw [hm,show k=t+(1+(k-t-1)) by omega,Ws,Ws,W6] at hq;have:=Nat.eq_of_mul_eq_mul_left (WJ VX) hq;rw [Nat.pow_one,W6] at this;omega
  ·exact hge
 ·intro h;rw [hm];exact Nat.dvd_trans (Nat.pow_dvd_pow 2 h) (Nat.dvd_mul_right _ _)
theorem pU (a:Int) (n:Nat):bO (a^n).natAbs≤1+n*bO a.natAbs:=by
 induction n with
 |zero=>simp [tO]
 |succ n ih=>
  rw [Int.pow_succ];have:=j6 (a^n) a;rw [Xj];omega
theorem DL (s:Bool) (a:ByteArray) (n:Int) (w:World) (h0:n.toNat*a.size≤100000000) (hn:n≤1000000000) (ha:a.size≤100000000):
  Calls Tryz.prog 141 #[.agg #[.bool s,.string a],.int .i64 n] w fun e w'=>e=.returned (.agg #[.bool (iN (iv s a^n.toNat)),.string (iM (iv s a^n.toNat))])∧Below w.heap.size w w':=by
 have hh:=Hp.start w;have e1:(if (0:Int)>n then 0 else n)=(n.toNat:Int):=by split<;>omega
 have hm:n.toNat≤1000000000:=VX;generalize n.toNat=m at*;refine aj (N:=19) (l:=[.agg #[.bool s,.string a],.int .i64 n]) Tryz.func141 rfl rfl (by simp) ?_;refine sr ?_;refine cf hh [_,_] ?_;intro b2 w2 hh;refine bQ hh ?_;intro b4 w4 hh;refine aa (sr ?_);refine br hh (nT 1 _ VX VX) rfl ?_;intro w6 hh;refine br hh (kf _ _ _) rfl ?_;intro w7 hh;refine bQ hh ?_;intro b5 w5 hh;refine bR hh 0 [_,_] ?_;intro ws hh;replace hh:Hp _ (.blk _ _ [_,_] _::_) _:=hh;refine aa (ah (sr (mI ?_)));refine kF rfl rfl VY ?_;refine mI (aa (aq ?_));rw [e1];refine aM [10,11,12,13,14,15,16] 10
  (fun j w'=>∃(i:Nat) (u:Bool) (S:Int),i≤m∧j=.int .i64 i∧S=iv s a^i∧iv u (iM S)=S∧Hp w [.blk b5 199 [.string (iM S),.bool u] (0,0),.blk b4 63 [.bool false,.string (ByteArray.mk #[])] (0,0),.blk b2 63 [.bool s,.string a] (0,0)] w')
  (fun j _=>m-(intOf j).toNat) ?_ ?_
 ·exact ⟨0,_,1,V5 _,rfl,by rw [Int.pow_zero],fD 1,hh⟩
 ·clear hh;rintro ρ' j w' ⟨i,u,S,hi,rfl,hS2,hu,hh⟩;by_cases hlt:i<m
  ·have hb:=pU (iv s a) i;rw [←hS2] at hb;have hbx:=ie s a;have hle:i*bO (iv s a).natAbs≤m*(8*a.size):=XM hi hbx;rw [Y4] at hle;have hms:(iM S).size≤1000000000:=by rw [dH];omega
   have hpl:=tH u s (iM S) a;rw [hu] at hpl;have hwc:=fun w1=>p8 u s (iM S) a w1 hms VX;rw [hu] at hwc;refine sr ?_;refine aW (aa (ah (cT (ao (ai (ah (aq ?_)))))));refine aT 3 [[(5,none)],[(2,none)],[(13,some 1)]] [(2,14),(1,13),(0,12)] hh mixed VZ ?_;refine ee 0 [_,_] ?_;refine ee 2 [_,_] ?_;refine dC (fun _ hj=>kf s a _) ?_;refine aJ ?_;intro f W hJ hV;have hb_4:=hJ.bl;obtain ⟨v14,v13,v12,_⟩:=hV;replace hh:=hJ.hp;refine aR (a8 (ae v14 (ae v13 (ae v12 aQ)))) ?_;dsimp only [bH];clear hJ;refine br hh (hwc _) rfl ?_;intro w15 hh;refine bR hh 0 [_,_] ?_;intro ws hh;replace hh:Hp _ (.blk _ _ [_,_] _::_) _:=hh;refine gy ?_;refine a9 (mI (aA (ai ?_)));refine ⟨⟨i+1,_,_,VX,rfl,by rw [Int.pow_succ,hS2],hpl,hh⟩,by show m-(i+1)<m-i;omega, ?_⟩;exact dy
  ·obtain rfl:i=m:=VX;refine sr ?_;refine mY ?_;refine cn hh 0 [_,_] ?_;refine br hh (dF u (iM S) _) rfl ?_;intro w18 hh;rw [hu,hS2];exact I2
theorem Q7 (s:Bool) (a:ByteArray) (m:Nat):iv s (sN (bN a*2^m))=iv s a*2^m:=by
 unfold iv;rw [fq]
 cases s<;>simp [Xn,Int.neg_mul]
theorem DD (s:Bool) (a:ByteArray) (m:Nat) (w:World) (ha:a.size≤100000000) (hm:m≤1000000000):
  Calls Tryz.prog 197 #[.agg #[.bool s,.string a],.int .i64 (m:Int)] w fun e w'=>e=.returned (.agg #[.bool (iN (iv s a*2^m)),.string (iM (iv s a*2^m))])∧Below w.heap.size w w':=by
 have hh:=Hp.start w;refine aj (N:=47) (l:=[.agg #[.bool s,.string a],.int .i64 (m:Int)]) Tryz.func197 rfl rfl (by simp) ?_;refine sr ?_;refine cf hh [_,_] ?_;intro b2 w2 hh;refine bQ hh ?_;intro b4 w4 hh;refine aa (ah (sr (mI ?_)));refine dJ (aa (cT (ah ?_)));refine aT 6 [[(2,none)],[(8,some 0)],[(1,none)],[(9,some 1),(10,some 2)],[(2,none)],[(12,some 4)]] [(5,13),(4,12),(3,11),(2,10),(1,9),(0,8)] hh mixed VZ ?_;refine cP ?_;refine dL 1 ?_;refine cM ?_;refine dC (fun _ hj=>zt a m _ VX VX) ?_;refine cP ?_;refine dL 1 ?_;refine aJ ?_;intro f W hJ hV;have hb_2:=hJ.bl;obtain ⟨v13,v12,v11,v10,v9,v8,_⟩:=hV;replace hh:=hJ.hp;refine aR (a8 (ae v13 (ae v12 (ae v11 (ae v10 (ae v9 (ae v8 aQ))))))) ?_;dsimp only [bH];clear hJ;refine eV [_,_] ?_;refine br hh (dF s (sN (bN a*2^m)) _) rfl ?_;intro w15 hh;rw [Q7];exact B4
theorem DJ (s:Bool) (a:ByteArray) (m:Nat) (w:World) (hT:eK w) (ha:a.size≤100000000) (h0:0<m) (hm:m≤1000000000000):
  Calls Tryz.prog 197 #[.agg #[.bool s,.string a],.int .i64 (-(m:Int))] w fun e w'=>e=.returned (.agg #[.bool (iN (iv s a/2^m)),.string (iM (iv s a/2^m))])∧Below w.heap.size w w':=by
 have hh:=Hp.start w;have e1:(if (-1099511627776:Int)> -(m:Int) then -1099511627776 else -(m:Int))= -(m:Int):=V3 VX;have e2: -(-(m:Int))=(m:Int):=VX;have hcs:∀w1,Calls Tryz.prog 227 #[.string a,.int .i64 (-(-(m:Int)))] w1 fun e w'=>e=.returned (.string (sN (bN a/2^m)))∧Below w1.heap.size w1 w':=fun w1=>by
  rw [e2];exact yo a m w1 VX VX
 cases s with
 |false=>
  have e3:iv false (sN (bN a/2^m))=iv false a/2^m:=by
   unfold iv;rw [fq];simp
  refine aj (N:=47) (l:=[.agg #[.bool false,.string a],.int .i64 (-(m:Int))]) Tryz.func197 rfl rfl (by simp) ?_;refine sr ?_;refine cf hh [_,_] ?_;intro b2 w2 hh;refine bQ hh ?_;intro b4 w4 hh;refine aa (ah (sr (mI ?_)));refine dJ (aa (cF (ao (ai (sr (mI ?_))))));refine kF rfl rfl VY ?_;refine aI (aa (ah ?_));rw [e1];refine FJ ?_;refine cP ?_;refine dL 1 ?_;refine cM ?_;refine EW ?_;refine dC (fun _ hj=>hcs _) ?_;refine cP ?_;refine dL 1 ?_;refine dB [_,_] ?_;refine dC (fun _ hj=>dF false (sN (bN a/2^m)) _) ?_;refine Fu ?_;refine aJ ?_;intro f W hJ hV;have hb_4:=hJ.bl;obtain ⟨v5,v26,v25,v24,v23,v22,v21,v20,v19,v18,_⟩:=hV;obtain ⟨b5,e5,hl5,hc5⟩:cO _ _ _ (f 9) W:=v5;replace hh:=hJ.newVar hh hl5 hc5;refine FK ?_;dsimp only [bH];clear e5 hJ;rw [e3];refine bR hh 0 [_,_] ?_;intro ws hh;replace hh:Hp _ (.blk _ _ [_,_] _::_) _:=hh;refine aa (ah (sr (bE ?_)));refine bB hh 2 ?_;refine mB ?_;refine gS (gS ?_);refine ic ?_;refine gS ?_;refine dE ?_;exact N4
 |true=>
  have hb:=fK a;have e4:iv true (sN (bN a/2^m))= -((bN a/2^m:Nat):Int):=by
   unfold iv;rw [fq,V2 rfl]
  have e5:iv true a= -(bN a:Int):=by unfold iv;rw [V2 rfl]
  by_cases hz:bN a=0
  ·have e3:iv true (sN (bN a/2^m))=iv true a/2^m:=by
    rw [e4,e5,hz];simp
   refine Ie ?_;refine sr ?_;refine cf hh [_,_] ?_;intro b2 w2 hh;refine bQ hh ?_;intro b4 w4 hh;refine aa (ah (sr (mI ?_)));refine dJ (aa (cF (ao (ai (sr (mI ?_))))));refine kF rfl rfl VY ?_;refine aI (aa (ah ?_));rw [e1];refine FJ ?_;refine cP ?_;refine dL 1 ?_;refine cM ?_;refine EW ?_;refine dC (fun _ hj=>hcs _) ?_;refine cP ?_;refine dL 1 ?_;refine dB [_,_] ?_;refine dC (fun _ hj=>dF true (sN (bN a/2^m)) _) ?_;refine Fu ?_;refine aJ ?_;intro f W hJ hV;have hb_4:=hJ.bl;obtain ⟨v5,v26,v25,v24,v23,v22,v21,v20,v19,v18,_⟩:=hV;obtain ⟨b5,e5,hl5,hc5⟩:cO _ _ _ (f 9) W:=v5;replace hh:=hJ.newVar hh hl5 hc5;refine FK ?_;dsimp only [bH];clear e5 hJ;rw [e3];refine bR hh 0 [_,_] ?_;intro ws hh;replace hh:Hp _ (.blk _ _ [_,_] _::_) _:=hh;refine aa (ah (sr (bE ?_)));refine bB hh 2 ?_;refine mB (gT (bE (gT ?_)));refine bB hh 2 ?_;refine aK rfl rfl ?_;refine br hh (mi a _ VX) rfl ?_;intro w32 hh;rw [hz,lU];refine gT ?_;refine bM ?_;refine eM ?_;exact N4
  ·have hbp:=pM hz;by_cases hd:2^m∣bN a
   ·have e3:iv true (sN (bN a/2^m))=iv true a/2^m:=by
     rw [e4,e5];exact Aq _ _ hd
    have htz:=(Jf hz).1 hd;refine Ie ?_;refine sr ?_;refine cf hh [_,_] ?_;intro b2 w2 hh;refine bQ hh ?_;intro b4 w4 hh;refine aa (ah (sr (mI ?_)));refine dJ (aa (cF (ao (ai (sr (mI ?_))))));refine kF rfl rfl VY ?_;refine aI (aa (ah ?_));rw [e1];refine FJ ?_;refine cP ?_;refine dL 1 ?_;refine cM ?_;refine EW ?_;refine dC (fun _ hj=>hcs _) ?_;refine cP ?_;refine dL 1 ?_;refine dB [_,_] ?_;refine dC (fun _ hj=>dF true (sN (bN a/2^m)) _) ?_;refine Fu ?_;refine aJ ?_;intro f W hJ hV;have hb_4:=hJ.bl;obtain ⟨v5,v26,v25,v24,v23,v22,v21,v20,v19,v18,_⟩:=hV;obtain ⟨b5,e5,hl5,hc5⟩:cO _ _ _ (f 9) W:=v5;replace hh:=hJ.newVar hh hl5 hc5;refine FK ?_;dsimp only [bH];clear e5 hJ;rw [e3];refine bR hh 0 [_,_] ?_;intro ws hh;replace hh:Hp _ (.blk _ _ [_,_] _::_) _:=hh;refine aa (ah (sr (bE ?_)));refine bB hh 2 ?_;refine mB (gT (bE (gT ?_)));refine bB hh 2 ?_;refine aK rfl rfl ?_;refine br hh (mi a _ VX) rfl ?_;intro w32 hh;refine gT ?_;refine bM ?_;refine eM ?_;refine mB (gT (bE (gT ?_)));refine bB hh 2 ?_;refine aK rfl rfl ?_;refine br hh (ky a _ VX (hT.hp hh)) rfl ?_;intro w38 hh;refine gT (mI (gT ?_));refine yl rfl VX VX VY ?_;refine gT ?_;refine aW ?_
    refine eM ?_;refine tF ?_;refine cn hh 0 [_,_] ?_;exact I2
   ·have e3:iv true (sN (bN a/2^m))-1=iv true a/2^m:=by
     rw [e4,e5];exact yR _ _ hd
    have htz:tz (bN a)<m:=YR fun h=>hd ((Jf hz).2 h);have hsz:(iM (iv true (sN (bN a/2^m)))).size≤100000000:=by
     have:=qi (bN a) m;rw [dH,jw,fq];omega
    have hsub:∀w1,Calls Tryz.prog 229 #[.agg #[.bool (iN (iv true (sN (bN a/2^m)))),.string (iM (iv true (sN (bN a/2^m))))],.agg #[.bool (iN 1),.string (iM 1)]] w1 fun e w'=>e=.returned (.agg #[.bool (iN (iv true a/2^m)),.string (iM (iv true a/2^m))])∧Below w1.heap.size w1 w':=fun w1=>by
     have:=vv (iN (iv true (sN (bN a/2^m)))) (iN 1) (iM (iv true (sN (bN a/2^m)))) (iM 1) w1 hsz (by rw [dH,Int.natAbs_one,tO];omega);rw [fD,fD,e3] at this;exact this
    refine Ie ?_;refine sr ?_;refine cf hh [_,_] ?_;intro b2 w2 hh;refine bQ hh ?_;intro b4 w4 hh;refine aa (ah (sr (mI ?_)));refine dJ (aa (cF (ao (ai (sr (mI ?_))))));refine kF rfl rfl VY ?_;refine aI (aa (ah ?_));rw [e1];refine FJ ?_;refine cP ?_;refine dL 1 ?_;refine cM ?_;refine EW ?_;refine dC (fun _ hj=>hcs _) ?_;refine cP ?_;refine dL 1 ?_;refine dB [_,_] ?_;refine dC (fun _ hj=>dF true (sN (bN a/2^m)) _) ?_;refine Fu ?_;refine aJ ?_;intro f W hJ hV;have hb_4:=hJ.bl;obtain ⟨v5,v26,v25,v24,v23,v22,v21,v20,v19,v18,_⟩:=hV;obtain ⟨b5,e5,hl5,hc5⟩:cO _ _ _ (f 9) W:=v5;replace hh:=hJ.newVar hh hl5 hc5;refine FK ?_;dsimp only [bH];clear e5 hJ;refine bR hh 0 [_,_] ?_;intro ws hh;replace hh:Hp _ (.blk _ _ [_,_] _::_) _:=hh;refine aa (ah (sr (bE ?_)));refine bB hh 2 ?_;refine mB (gT (bE (gT ?_)));refine bB hh 2 ?_;refine aK rfl rfl ?_;refine br hh (mi a _ VX) rfl ?_;intro w32 hh;refine gT ?_;refine bM ?_;refine eM ?_;refine mB (gT (bE (gT ?_)));refine bB hh 2 ?_;refine aK rfl rfl ?_;refine br hh (ky a _ VX (hT.hp hh)) rfl ?_;intro w38 hh;refine gT (mI (gT ?_));refine yl rfl VX VX VY ?_;refine gT ?_;refine aW ?_;refine eM ?_;refine aa (cT (ah ?_))
    refine aT 2 [[(5,none)],[]] [(1,44),(0,43)] hh mixed VZ ?_;refine ee 0 [_,_] ?_;refine dC (fun _ hj=>nT 1 _ VX VX) ?_;refine aJ ?_;intro f W hJ hV;have hb_6:=hJ.bl;obtain ⟨v44,v43,_⟩:=hV;replace hh:=hJ.hp;refine aR (a8 (ae v44 (ae v43 aQ))) ?_;dsimp only [bH];clear hJ;refine br hh (hsub _) rfl ?_;intro w45 hh;refine bR hh 1 [_,_] ?_;intro ws hh;replace hh:Hp _ (_::.blk _ _ [_,_] _::_) _:=hh;refine aa (au (aE ?_));exact PJ
theorem QS:(2:Rat)≠0:=by decide
theorem two_pos (k:Int):(0:Rat)<2^k:=Rat.zpow_pos VY
theorem k4 (i p:Int):(Dyadic.ofIntWithPrec i p).toRat=i*2^(-p):=Dyadic.toRat_ofIntWithPrec_eq_mul_two_pow
theorem nE (i p:Int) (n:Nat):Dyadic.ofIntWithPrec (i*2^n) (p+n)=Dyadic.ofIntWithPrec i p:=by
 rw [←Int.shiftLeft_eq];exact Dyadic.ofIntWithPrec_shiftLeft_add
theorem mn (i:Int) {p q:Int} (h:q=p+n):Dyadic.ofIntWithPrec i p=Dyadic.ofIntWithPrec (i*2^n) q:=by
 subst h;exact (nE i p n).symm
theorem sI (i j p:Int):Dyadic.ofIntWithPrec i p+Dyadic.ofIntWithPrec j p=Dyadic.ofIntWithPrec (i+j) p:=by
 rw [←Dyadic.toRat_inj,Dyadic.toRat_add,k4,k4,k4,Rat.intCast_add,Rat.add_mul]
theorem zF (i p:Int): -Dyadic.ofIntWithPrec i p=Dyadic.ofIntWithPrec (-i) p:=Dyadic.neg_ofIntWithPrec
theorem qj (i j p q:Int):Dyadic.ofIntWithPrec i p*Dyadic.ofIntWithPrec j q=Dyadic.ofIntWithPrec (i*j) (p+q):=by
 rw [←Dyadic.toRat_inj,Dyadic.toRat_mul,k4,k4,k4,Rat.intCast_mul,Int.neg_add,Rat.zpow_add QS];grind
theorem vk (i j p:Int):Dyadic.ofIntWithPrec i p<Dyadic.ofIntWithPrec j p↔i<j:=by
 rw [←Dyadic.toRat_lt_toRat_iff,k4,k4];rw [←Rat.intCast_lt_intCast];constructor
 ·intro h;exact Rat.lt_of_mul_lt_mul_right h (Rat.le_of_lt (two_pos _))
 ·intro h;exact Rat.mul_lt_mul_of_pos_right h (two_pos _)
theorem kz (p:Int):Dyadic.ofIntWithPrec 0 p=0:=rfl
theorem LM {i j p:Int} (h:Dyadic.ofIntWithPrec i p=Dyadic.ofIntWithPrec j p):i=j:=by
 rcases YW i j with h1|h1|h1
 ·rw [←vk i j p,h] at h1;exact absurd h1 (by rw [vk];omega)
 ·exact h1
 ·rw [←vk j i p,h] at h1;exact absurd h1 (by rw [vk];omega)
theorem BI {i p:Int} (h:Dyadic.ofIntWithPrec i p=0):i=0:=LM (p:=p) (by rw [h];rfl)
theorem FU (n k:Int) (h:n % 2=1):Dyadic.ofOdd n k h=Dyadic.ofIntWithPrec n k:=Dyadic.ofOdd_eq_ofIntWithPrec
theorem yK {i p:Int} (h:i≠0):Dyadic.ofIntWithPrec i p=.ofOdd (i>>>i.trailingZeros) (p-i.trailingZeros) (Int.shiftRight_trailingZeros_mod_two h):=by
 rw [Dyadic.ofIntWithPrec,dif_neg h]
structure NR where
 neg:Bool
 bf:ByteArray
 e:Int
def NR.cells (a:NR):List Value:=[.bool a.neg,.string a.bf,.int .i64 a.e]
theorem NR.len (a:NR):a.cells.length=3:=rfl
theorem NR.one (a:NR):a.cells.all Value.oneCell'=true:=rfl
def NR.i (a:NR):Int:=iv a.neg a.bf
def NR.d (a:NR):Dyadic:=Dyadic.ofIntWithPrec a.i (-a.e)
def nR:Dyadic→NR
 |.zero=>⟨false,ByteArray.mk #[],0⟩
 |.ofOdd n k _=>⟨iN n,iM n, -k⟩
theorem mb:nR 0=⟨false,ByteArray.mk #[],0⟩:=rfl
theorem cm (x:Dyadic):(nR x).d=x:=by
 cases x with
 |zero=>rfl
 |ofOdd n k h=>
  simp only [nR,NR.d,NR.i,fD,Int.neg_neg];exact (FU n k h).symm
theorem Rb {x y:Dyadic}:nR x=nR y↔x=y:=⟨fun h=>by rw [←cm x,h,cm],fun h=>by rw [h]⟩
theorem Sc (s:Bool) (a:ByteArray):(iv s a).trailingZeros=tz (bN a):=by
 unfold iv;split
 ·rw [Int.trailingZeros_neg];rfl
 ·rfl
theorem Gl (s:Bool) (a:ByteArray):iv s a=0↔bN a=0:=by
 have:=jw s a;omega
theorem rl {s:Bool}{a:ByteArray}{e:Int} (h:iv s a≠0):nR (Dyadic.ofIntWithPrec (iv s a) (-e))=⟨iN (iv s a/2^tz (bN a)),iM (iv s a/2^tz (bN a)),e+tz (bN a)⟩:=by
 rw [yK h,nR,Int.shiftRight_eq_div_pow,Sc];have e1: -(-e-(tz (bN a):Int))=e+tz (bN a):=VX;rw [e1,Int.natCast_pow]
 rfl
def Sz (k:Nat) (x:Dyadic):Prop:=∃i:Int,x=Dyadic.ofIntWithPrec i k∧i.natAbs<2^(2*k)
theorem Sz.zero (k:Nat):Sz k 0:=⟨0,rfl,by simpa using WJ VX⟩
theorem Sz.mono {l:Nat}{x:Dyadic} (h:Sz k x) (hl:k≤l):Sz l x:=by
 obtain ⟨i,rfl,hi⟩:=h;refine ⟨i*2^(l-k),mn i VX, ?_⟩;rw [XW,Yn];have h1:i.natAbs*2^(l-k)<2^(2*k)*2^(l-k):=Yr hi (WJ VX);rw [←Ws] at h1;exact Xa h1 (WM VX VX)
theorem Sz.neg {x:Dyadic} (h:Sz k x):Sz k (-x):=by
 obtain ⟨i,rfl,hi⟩:=h;exact ⟨-i,zF _ _,by rw [Int.natAbs_neg];exact hi⟩
theorem Sz.add {x y:Dyadic} (hx:Sz k x) (hy:Sz k y):Sz (k+1) (x+y):=by
 obtain ⟨i,rfl,hi⟩:=hx;obtain ⟨j,rfl,hj⟩:=hy;rw [sI];refine ⟨(i+j)*2^1,mn _ VX, ?_⟩;have h1:2^(2*(k+1))=4*2^(2*k):=by rw [show 2*(k+1)=2*k+2 by omega,Ws];omega
 rw [h1];omega
theorem Sz.sub {x y:Dyadic} (hx:Sz k x) (hy:Sz k y):Sz (k+1) (x-y):=hx.add hy.neg
theorem Sz.mul {l:Nat}{x y:Dyadic} (hx:Sz k x) (hy:Sz l y):Sz (k+l) (x*y):=by
 obtain ⟨i,rfl,hi⟩:=hx;obtain ⟨j,rfl,hj⟩:=hy;rw [qj];refine ⟨i*j,by rw [X6], ?_⟩;rw [XW,W0,Ws];exact Nat.mul_lt_mul'' hi hj
theorem lH {i:Int} (h:i≠0):2^i.trailingZeros≤i.natAbs:=by
 have h1:=Int.two_pow_trailingZeros_dvd h;have h2:=Int.natAbs_dvd_natAbs.2 h1;rw [Yn] at h2;exact Nat.le_of_dvd VX h2
theorem Sz.nr {x:Dyadic} (h:Sz k x):(nR x).bf.size≤(2*k+7)/8∧ -(k:Int)≤(nR x).e∧(nR x).e≤k:=by
 obtain ⟨i,rfl,hi⟩:=h;by_cases h0:i=0
 ·subst h0;rw [kz,mb];exact ⟨V5 _,(by omega: -(k:Int)≤0),(by omega:(0:Int)≤k)⟩
 ·have h2:=lH h0;rw [yK h0,nR];simp only;refine ⟨?_,VX, ?_⟩
  ·rw [dH];have:bO (i>>>i.trailingZeros).natAbs≤2*k:=by
    apply dO;refine Xb ?_ hi;rw [Int.shiftRight_eq_div_pow];exact Zm _ _
   omega
  ·have h3:2^i.trailingZeros<2^(2*k):=Xb h2 hi;have:=(Zl VX).1 h3;omega
theorem Sz.raw {a:NR}{E:Nat} (hm:8*a.bf.size≤m) (h1: -(E:Int)≤a.e) (h2:a.e≤E):Sz (m+E) a.d:=by
 refine ⟨a.i*2^(a.e+m+E).toNat,mn _ VX, ?_⟩;have h3:a.i.natAbs<2^m:=by
  rw [NR.i,jw];refine Xa (dk _) (WM VX ?_);have:=fK a.bf;omega
 rw [XW,Yn];have h4:=Yr h3 (WJ (n:=(a.e+m+E).toNat) (show 0<2 by omega));rw [←Ws] at h4;exact Xa h4 (WM VX VX)
def EZ (i n:Int):Int:=if 0≤n then i*2^n.toNat else i/2^(-n).toNat
theorem JU (n:Int):EZ 0 n=0:=by unfold EZ;split<;>simp
def cW:Dyadic→Int→Int
 |.zero,_=>0
 |.ofOdd n k _,p=>EZ n (p-k)
def dw:Dyadic→Dyadic→Int
 |.zero,.zero=>0
 |.zero,.ofOdd _ k _=>k
 |.ofOdd _ k _,.zero=>k
 |.ofOdd _ k _,.ofOdd _ l _=>max k l
theorem nH (n k p:Int) (h:n % 2=1) (hp:k≤p):Dyadic.ofIntWithPrec (cW (.ofOdd n k h) p) p=.ofOdd n k h:=by
 simp only [cW];rw [FU,EZ,V2 VX];exact (mn n VX).symm
theorem IE (x y:Dyadic):Dyadic.ofIntWithPrec (cW x (dw x y)) (dw x y)=x:=by
 cases x with
 |zero=>rfl
 |ofOdd n k h=>
  cases y with
  |zero=>exact nH _ _ _ _ (Int.le_refl _)
  |ofOdd m l g=>exact nH _ _ _ _ (Int.le_max_left _ _)
theorem J9 (x y:Dyadic):Dyadic.ofIntWithPrec (cW y (dw x y)) (dw x y)=y:=by
 cases y with
 |zero=>rfl
 |ofOdd n k h=>
  cases x with
  |zero=>exact nH _ _ _ _ (Int.le_refl _)
  |ofOdd m l g=>exact nH _ _ _ _ (Int.le_max_right _ _)
theorem Na (x y:Dyadic):Dyadic.ofIntWithPrec (cW x (dw x y)+cW y (dw x y)) (dw x y)=x+y:=by
 rw [←sI,IE,J9]
theorem IY (i n:Int):bO (EZ i n).natAbs≤bO i.natAbs+n.toNat:=by
 unfold EZ;split
 ·rw [XW,Yn];exact iU _ _
 ·have:bO (i/2^(-n).toNat).natAbs≤bO i.natAbs:=dO (Xb (Zm _ _) (dk _));omega
theorem FB (x y:Dyadic) (E:Int) (h1: -E≤(nR x).e∧(nR x).e≤E) (h2: -E≤(nR y).e∧(nR y).e≤E): -E≤dw x y∧dw x y≤E:=by
 cases x<;>cases y<;>simp only [nR,dw] at* <;>omega
theorem vp (x:Dyadic) (p:Int):bO (cW x p).natAbs≤8*(nR x).bf.size+(p+(nR x).e).toNat:=by
 cases x with
 |zero=>simp [cW,lU]
 |ofOdd n k h=>
  have h1:=IY n (p-k);have h2:=fK (iM n);rw [iM,fq] at h2;simp only [cW,nR];rw [show p+ -k=p-k by omega];rw [←iM] at h2;omega
variable {P:Program}{by' off:Nat}{r:Bool}{zc:List Value}
section
variable {ro:Mode}
theorem EF {t:TypeId}{cs:Array Value}{v:Value} (ht:di P t=some (n,false,by',zc)) (hv:cs[off]?=some v) (w:World):(part t cs off).run P w=.ok v w:=by
 simp [part,jx ht,hv]
theorem GB {t:TypeId}{cs vs:Array Value} (ht:di P t=some (n,true,by',zc)) (hv:cs.extract off (off+n)=vs) (w:World):(part t cs off).run P w=.ok (.agg vs) w:=by
 simp [part,jx ht,eZ ht,hv]
theorem Ur (n:Nat) (a b:Bool) (w:World):(Op.equalIn (n+1) 4 (.bool a) (.bool b)).run Tryz.prog w=.ok (a==b) w:=by
 simp [Op.equalIn,run_underlying Tryz.underlying4]
theorem Tv (n:Nat) (a b:ByteArray) (w:World):(Op.equalIn (n+1) 9 (.string a) (.string b)).run Tryz.prog w=.ok (a==b) w:=by
 simp [Op.equalIn,run_underlying Tryz.underlying9]
theorem T7 (n:Nat) (a b:Int) (w:World):(Op.equalIn (n+1) 3 (.int .i64 a) (.int .i64 b)).run Tryz.prog w=.ok (a==b) w:=by
 simp [Op.equalIn,run_underlying Tryz.underlying3]
theorem eq_int (n:Nat) (s s':Bool) (a a':ByteArray) (w:World):(Op.equalIn (n+2) 63 (.agg #[.bool s,.string a]) (.agg #[.bool s',.string a'])).run Tryz.prog w=.ok (s==s' && a==a') w:=by
 have h1:=fun (x:Bool) (y:ByteArray)=>EF (P:=Tryz.prog) (cs:= #[.bool x,.string y]) (off:=0) (aO.out (P:=Tryz.prog) (t:=4)) rfl;have h2:=fun (x:Bool) (y:ByteArray)=>EF (P:=Tryz.prog) (cs:= #[.bool x,.string y]) (off:=1) (aO.out (P:=Tryz.prog) (t:=9)) rfl;rw [Op.equalIn];simp [run_underlying Tryz.underlying63,h1,h2,Ur,Tv]
 cases h:s==s'<;>cases h':a==a'<;>simp_all
theorem Eo (n:Nat) (s s':Bool) (a a':ByteArray) (e e':Int) (w:World):(Op.equalIn (n+3) 65 (.agg #[.bool s,.string a,.int .i64 e]) (.agg #[.bool s',.string a',.int .i64 e'])).run Tryz.prog w=.ok ((s==s' && a==a') && e==e') w:=by
 have h1:=fun (x:Bool) (y:ByteArray) (z:Int)=>GB (P:=Tryz.prog) (cs:= #[.bool x,.string y,.int .i64 z]) (vs:= #[.bool x,.string y]) (off:=0) (aO.out (P:=Tryz.prog) (t:=63)) rfl;have h2:=fun (x:Bool) (y:ByteArray) (z:Int)=>EF (P:=Tryz.prog) (cs:= #[.bool x,.string y,.int .i64 z]) (off:=2) (aO.out (P:=Tryz.prog) (t:=3)) rfl;rw [Op.equalIn];simp [run_underlying Tryz.underlying65,h1,h2,eq_int,T7]
 cases h:s==s'<;>cases h':a==a'<;>cases h2:e==e'<;>simp_all
section
variable {ρ:Rf}{w:World}{d:Option Nat}{ty u:TypeId}{pos:String}{af:Array Edge}{g:Option (Nat×Bool)}{x y:Operand}{s s':Bool}{a a':ByteArray}{e e':Int}
theorem Kr {a b:ByteArray}:(a==b)=true↔a=b:=by
 have:(a==b)=(a.data==b.data):=rfl;rw [this,XK];exact ⟨fun h=>by cases a;cases b;simp_all,fun h=>by rw [h]⟩
theorem k9:((s==s' && a==a') && e==e')=true↔NR.mk s a e=NR.mk s' a' e':=by
 rw [Wl,Wl,XK,Kr,XK,NR.mk.injEq,and_assoc]
theorem PF (hx:ev ρ x=.agg #[.bool s,.string a,.int .i64 e]) (hy:ev ρ y=.agg #[.bool s',.string a',.int .i64 e']) (hr:((s==s' && a==a') && e==e')=r):
  (execOp (ev ρ) ⟨d,.binOp .eql 65 x y u,ty,pos,af,g⟩).run Tryz.prog w=.ok (.value (.bool r)) w:=by
 exact Sr
theorem Oj (hx:ev ρ x=.agg #[.bool s,.string a,.int .i64 e]) (hy:ev ρ y=.agg #[.bool s',.string a',.int .i64 e']) (hr:((s==s' && a==a') && e==e')=r):
  (execOp (ev ρ) ⟨d,.binOp .neq 65 x y u,ty,pos,af,g⟩).run Tryz.prog w=.ok (.value (.bool !r)) w:=by
 exact Sr
theorem EN (hx:ev ρ x=.agg #[.bool s,.string a,.int .i64 e]) (hy:ev ρ y=.agg #[.bool s',.string a',.int .i64 e']) (h:NR.mk s a e=NR.mk s' a' e'):
  (execOp (ev ρ) ⟨d,.binOp .eql 65 x y u,ty,pos,af,g⟩).run Tryz.prog w=.ok (.value (.bool true)) w:=PF hx hy (k9.2 h)
theorem Mk (hx:ev ρ x=.agg #[.bool s,.string a,.int .i64 e]) (hy:ev ρ y=.agg #[.bool s',.string a',.int .i64 e']) (h:¬NR.mk s a e=NR.mk s' a' e'):
  (execOp (ev ρ) ⟨d,.binOp .eql 65 x y u,ty,pos,af,g⟩).run Tryz.prog w=.ok (.value (.bool false)) w:=PF hx hy (by rw [Yv];exact fun h1=>h (k9.1 h1))
theorem Gm (hx:ev ρ x=.agg #[.bool s,.string a,.int .i64 e]) (hy:ev ρ y=.agg #[.bool s',.string a',.int .i64 e']) (h:NR.mk s a e=NR.mk s' a' e'):
  (execOp (ev ρ) ⟨d,.binOp .neq 65 x y u,ty,pos,af,g⟩).run Tryz.prog w=.ok (.value (.bool false)) w:=Oj hx hy (k9.2 h)
theorem F5 (hx:ev ρ x=.agg #[.bool s,.string a,.int .i64 e]) (hy:ev ρ y=.agg #[.bool s',.string a',.int .i64 e']) (h:¬NR.mk s a e=NR.mk s' a' e'):
  (execOp (ev ρ) ⟨d,.binOp .neq 65 x y u,ty,pos,af,g⟩).run Tryz.prog w=.ok (.value (.bool true)) w:=Oj hx hy (r:=false) (by rw [Yv];exact fun h1=>h (k9.1 h1))
end
section
variable {N:Nat}{ops:Array Oper}{Q:Kq}{ρ:Rf}{w:World}{rest:List Oper}{d:Nat}{ty u:TypeId}{pos:String}{af:Array Edge}{x y:Operand}{s s':Bool}{a a':ByteArray}{e e':Int}
theorem Eu (hx:ev ρ x=.agg #[.bool s,.string a,.int .i64 e]) (hy:ev ρ y=.agg #[.bool s',.string a',.int .i64 e']) (h:NR.mk s a e=NR.mk s' a' e') (hN:d<N) (kk:WL ro Tryz.prog N ops Q rest (cL ρ d (.bool true)) w):
  WL ro Tryz.prog N ops Q (⟨some d,.binOp .eql 65 x y u,ty,pos,af,none⟩::rest) ρ w:=aV rfl rfl hN (EN hx hy h) kk
theorem yA (hx:ev ρ x=.agg #[.bool s,.string a,.int .i64 e]) (hy:ev ρ y=.agg #[.bool s',.string a',.int .i64 e']) (h:¬NR.mk s a e=NR.mk s' a' e') (hN:d<N) (kk:WL ro Tryz.prog N ops Q rest (cL ρ d (.bool false)) w):
  WL ro Tryz.prog N ops Q (⟨some d,.binOp .eql 65 x y u,ty,pos,af,none⟩::rest) ρ w:=aV rfl rfl hN (Mk hx hy h) kk
theorem yF (hx:ev ρ x=.agg #[.bool s,.string a,.int .i64 e]) (hy:ev ρ y=.agg #[.bool s',.string a',.int .i64 e']) (h:¬NR.mk s a e=NR.mk s' a' e') (hN:d<N) (kk:WL ro Tryz.prog N ops Q rest (cL ρ d (.bool true)) w):
  WL ro Tryz.prog N ops Q (⟨some d,.binOp .neq 65 x y u,ty,pos,af,none⟩::rest) ρ w:=aV rfl rfl hN (F5 hx hy h) kk
theorem sY (hx:ev ρ x=.agg #[.bool s,.string a,.int .i64 e]) (hy:ev ρ y=.agg #[.bool s',.string a',.int .i64 e']) (h:NR.mk s a e=NR.mk s' a' e') (hN:d<N) (kk:WL ro Tryz.prog N ops Q rest (cL ρ d (.bool false)) w):
  WL ro Tryz.prog N ops Q (⟨some d,.binOp .neq 65 x y u,ty,pos,af,none⟩::rest) ρ w:=aV rfl rfl hN (Gm hx hy h) kk
end
theorem qk (s:Bool) (a:ByteArray) (n:Int) (w:World) (hT:eK w) (ha:a.size≤100000000) (h1: -1000000000≤n) (h2:n≤1000000000):
  Calls Tryz.prog 197 #[.agg #[.bool s,.string a],.int .i64 n] w fun e w'=>e=.returned (.agg #[.bool (iN (EZ (iv s a) n)),.string (iM (EZ (iv s a) n))])∧Below w.heap.size w w':=by
 unfold EZ;by_cases h:0≤n
 ·rw [V2 h];obtain ⟨m,rfl⟩:=Y3 h;rw [Xs];exact DD s a m w ha VX
 ·rw [V3 h];obtain ⟨m,hm⟩:=Y3 (show 0≤ -n by omega);rw [hm,Xs,show n= -(m:Int) by omega];exact DJ s a m w hT ha VX VX
theorem iA (s:Bool) (a:ByteArray) (e:Int) (w:World) (hT:eK w) (ha:a.size≤100000000) (h1: -1000000000000≤e) (h2:e≤1000000000000):
  Calls Tryz.prog 137 #[.agg #[.bool s,.string a],.int .i64 e] w fun r w'=>r=.returned (.agg #[.bool (nR (Dyadic.ofIntWithPrec (iv s a) (-e))).neg,.string (nR (Dyadic.ofIntWithPrec (iv s a) (-e))).bf,.int .i64 (nR (Dyadic.ofIntWithPrec (iv s a) (-e))).e])∧Below w.heap.size w w':=by
 have hh:=Hp.start w;by_cases h0:iv s a=0
 ·rw [h0,kz,mb];refine aj (N:=21) (l:=[.agg #[.bool s,.string a],.int .i64 e]) Tryz.func137 rfl rfl (by simp) ?_;refine sr ?_;refine cf hh [_,_] ?_;intro b2 w2 hh;refine bQ hh ?_;intro b4 w4 hh;refine aa (ah (sr ?_));refine cn hh 1 [_,_] ?_;refine br hh (kS s a _) rfl ?_;intro w7 hh;rw [h0];refine cB (aa (cT (sr ?_)));refine eV [_,_,_] ?_;exact PW
 ·have hs:(iv s a).sign≠0:=by rw [ne_eq,Int.sign_eq_zero_iff_zero];exact h0
  rw [rl h0];have hz:bN a≠0:=fun h=>h0 ((Gl s a).2 h);have htz:tz (bN a)<8*a.size+1:=by
   have:=wI a;rw [show (256:Nat)=2^8 from rfl,←WW] at this;have:=xP hz this;omega
  have hsh:EZ (iv s a) (-(tz (bN a):Int))=iv s a/2^tz (bN a):=by
   unfold EZ;split
   ·have:tz (bN a)=0:=VX;rw [this];simp
   ·rw [Int.neg_neg,Xs]
  refine aj (N:=21) (l:=[.agg #[.bool s,.string a],.int .i64 e]) Tryz.func137 rfl rfl (by simp) ?_;refine sr ?_;refine cf hh [_,_] ?_;intro b2 w2 hh;refine bQ hh ?_;intro b4 w4 hh;refine aa (ah (sr ?_));refine cn hh 1 [_,_] ?_;refine br hh (kS s a _) rfl ?_;intro w7 hh;refine cB (aa (cF (ao (ai (sr (bE ?_))))));refine bB hh 1 ?_;refine br hh (ky a _ VX (hT.hp hh)) rfl ?_;intro w12 hh;refine aI (aa (sr ?_));refine cn hh 1 [_,_] (mI ?_);refine yl rfl VX VX VY ?_;refine br hh (qk s a (-(tz (bN a):Int)) _ (hT.hp hh) ha VX VX) rfl ?_;intro w16 hh;rw [hsh];refine mI (mI ?_);refine a9 ?_;refine eV [_,_,_] ?_;exact Df
def NR.ok (a:NR):Prop:=a.bf.size≤1000000∧ -10000000≤a.e∧a.e≤10000000
theorem Sz.ok {x:Dyadic} (h:Sz k x) (hk:k≤3999990):(nR x).ok:=by
 have:=h.nr;refine ⟨VX,VX,VX⟩
theorem lN (n:Int) (w:World) (hT:eK w) (h1: -9223372036854775808≤n) (h2:n≤9223372036854775807):
  Calls Tryz.prog 50 #[.int .i64 n] w fun r w'=>r=.returned (.agg #[.bool (nR (n:Dyadic)).neg,.string (nR (n:Dyadic)).bf,.int .i64 (nR (n:Dyadic)).e])∧Below w.heap.size w w':=by
 have hh:=Hp.start w;have hsz:(iM n).size≤100000000:=by
  rw [dH];have:bO n.natAbs≤64:=dO VX;omega
 have hc:∀w1,eK w1→Calls Tryz.prog 137 #[.agg #[.bool (iN n),.string (iM n)],.int .i64 0] w1 fun r w'=>r=.returned (.agg #[.bool (nR (n:Dyadic)).neg,.string (nR (n:Dyadic)).bf,.int .i64 (nR (n:Dyadic)).e])∧Below w1.heap.size w1 w':=fun w1 hT1=>by
  have:=iA (iN n) (iM n) 0 w1 hT1 hsz VX VX;rw [fD] at this;exact this
 refine aj (N:=6) (l:=[.int .i64 n]) Tryz.func50 rfl rfl (by simp) ?_;refine sr ?_;refine bQ hh ?_;intro b2 w2 hh;refine aa (sr (mI ?_));refine br hh (nT n _ h1 h2) rfl ?_;intro w4 hh;refine br hh (hc _ (hT.hp hh)) rfl ?_;intro w5 hh;exact Df
theorem eY (a:NR) (w:World) (hT:eK w) (ha:a.bf.size≤100000000) (h1: -1000000000000≤a.e) (h2:a.e≤1000000000000):
  Calls Tryz.prog 132 #[.agg #[.bool a.neg,.string a.bf,.int .i64 a.e]] w fun r w'=>r=.returned (.agg #[.bool (nR a.d).neg,.string (nR a.d).bf,.int .i64 (nR a.d).e])∧Below w.heap.size w w':=by
 have hh:=Hp.start w;refine aj (N:=8) (l:=[.agg #[.bool a.neg,.string a.bf,.int .i64 a.e]]) Tryz.func132 rfl rfl (by simp) ?_;refine sr ?_;refine cf hh [_,_,_] ?_;intro b1 w1 hh;refine bQ hh ?_;intro b2 w2 hh;refine aa (sr (bE ?_));refine cn hh 1 [_,_] (bE ?_);refine bB hh 1 ?_;refine br hh (iA a.neg a.bf a.e _ (hT.hp hh) ha h1 h2) rfl ?_;intro w7 hh;exact Df
theorem ix (a:NR) (w:World):
  Calls Tryz.prog 164 #[.agg #[.bool a.neg,.string a.bf,.int .i64 a.e]] w fun r w'=>r=.returned (.int .i64 a.i.sign)∧Below w.heap.size w w':=by
 have hh:=Hp.start w;refine aj (N:=6) (l:=[.agg #[.bool a.neg,.string a.bf,.int .i64 a.e]]) Tryz.func164 rfl rfl (by simp) ?_;refine sr ?_;refine cf hh [_,_,_] ?_;intro b1 w1 hh;refine aI (aa (sr (bE ?_)));refine cn hh 0 [_,_] ?_;refine br hh (kS a.neg a.bf _) rfl ?_;intro w5 hh;exact vJ
theorem pd (a:NR) (w:World) (hT:eK w) (ha:a.bf.size≤100000000) (h1: -1000000000000≤a.e) (h2:a.e≤1000000000000):
  Calls Tryz.prog 118 #[.agg #[.bool a.neg,.string a.bf,.int .i64 a.e]] w fun r w'=>r=.returned (.agg #[.bool (nR (-a.d)).neg,.string (nR (-a.d)).bf,.int .i64 (nR (-a.d)).e])∧Below w.heap.size w w':=by
 have hh:=Hp.start w;have hc:∀w1,eK w1→Calls Tryz.prog 137 #[.agg #[.bool (iN (-(iv a.neg a.bf))),.string (iM (-(iv a.neg a.bf)))],.int .i64 a.e] w1 fun r w'=>r=.returned (.agg #[.bool (nR (-a.d)).neg,.string (nR (-a.d)).bf,.int .i64 (nR (-a.d)).e])∧Below w1.heap.size w1 w':=fun w1 hT1=>by
  have hs:=nh a.neg a.bf;have:=iA (iN (-(iv a.neg a.bf))) (iM (-(iv a.neg a.bf))) a.e w1 hT1 VX h1 h2;rw [fD,←zF] at this;exact this
 refine aj (N:=9) (l:=[.agg #[.bool a.neg,.string a.bf,.int .i64 a.e]]) Tryz.func118 rfl rfl (by simp) ?_;refine sr ?_;refine cf hh [_,_,_] ?_;intro b1 w1 hh;refine bQ hh ?_;intro b2 w2 hh;refine aa (ah ?_);refine O1 ?_;refine cP ?_;refine ee 1 [_,_] ?_;refine dC (fun _ hj=>uj a.neg a.bf _) ?_;refine cP ?_;refine dL 1 ?_;refine aJ ?_;intro f W hJ hV;have hb_1:=hJ.bl;obtain ⟨v7,v6,v5,v4,v3,_⟩:=hV;replace hh:=hJ.hp;refine aR (a8 (ae v7 (ae v6 (ae v5 (ae v4 (ae v3 aQ)))))) ?_;dsimp only [bH];clear hJ;refine br hh (hc _ (hT.hp hh)) rfl ?_;intro w8 hh;exact Df
theorem wB (s:Int) (a:NR) (w:World) (hT:eK w) (ha:a.bf.size≤100000000) (h1: -1000000000≤a.e-s) (h2:a.e-s≤1000000000):
  Calls Tryz.prog 194 #[.int .i64 s,.agg #[.bool a.neg,.string a.bf,.int .i64 a.e]] w fun r w'=>r=.returned (.agg #[.bool (iN (EZ a.i (a.e-s))),.string (iM (EZ a.i (a.e-s)))])∧Below w.heap.size w w':=by
 have hh:=Hp.start w;refine aj (N:=12) (l:=[.int .i64 s,.agg #[.bool a.neg,.string a.bf,.int .i64 a.e]]) Tryz.func194 rfl rfl (by simp) ?_;refine sr ?_;refine cf hh [_,_,_] ?_;intro b3 w3 hh;refine bQ hh ?_;intro b4 w4 hh;refine aa (sr (bE ?_));refine cn hh 1 [_,_] (bE ?_);refine bB hh 1 ?_;refine mI ?_;refine dQ ?_;refine br hh (qk a.neg a.bf (a.e-s) _ (hT.hp hh) ha h1 h2) rfl ?_;intro w11 hh;exact LA
theorem Dq (x:Dyadic) (p:Int):EZ (nR x).i ((nR x).e - -p)=cW x p:=by
 cases x with
 |zero=>exact JU _
 |ofOdd n k h=>
  simp only [nR,NR.i,fD,cW];congr 1;omega
theorem kP (x:Dyadic):nR x=⟨false,ByteArray.mk #[],0⟩↔x=0:=by rw [←mb,Rb]
theorem kH {a:NR} (h:a.ok):Sz 18000000 a.d∧(nR a.d).bf.size≤1000000∧ -18000000≤(nR a.d).e∧(nR a.d).e≤18000000:=by
 obtain ⟨h1,h2,h3⟩:=h;refine ⟨Sz.raw (m:=8000000) (E:=10000000) VX VX VX, ?_⟩;by_cases h0:iv a.neg a.bf=0
 ·rw [NR.d,NR.i,h0,kz,mb];exact ⟨V5 _,by simp,by simp⟩
 ·rw [NR.d,NR.i,rl h0];have hz:bN a.bf≠0:=fun h=>h0 ((Gl a.neg a.bf).2 h);have htz:tz (bN a.bf)<8*a.bf.size+1:=by
   have:=wI a.bf;rw [show (256:Nat)=2^8 from rfl,←WW] at this;have:=xP hz this;omega
  have hb:bO (iv a.neg a.bf/2^tz (bN a.bf)).natAbs≤8*a.bf.size:=by
   apply dO;refine Xb (Zm _ _) ?_;rw [jw];exact Xa (dk _) (WM VX (fK _))
  simp only;rw [dH];refine ⟨VX,VX,VX⟩
theorem qW (a b:NR) (w:World) (hT:eK w) (ha:a.ok) (hb:b.ok):
  Calls Tryz.prog 136 #[.agg #[.bool a.neg,.string a.bf,.int .i64 a.e],.agg #[.bool b.neg,.string b.bf,.int .i64 b.e]] w fun r w'=>r=.returned (.agg #[.int .i64 (-(dw a.d b.d)),.bool (iN (cW a.d (dw a.d b.d))),.string (iM (cW a.d (dw a.d b.d))),.bool (iN (cW b.d (dw a.d b.d))),.string (iM (cW b.d (dw a.d b.d)))])∧Below w.heap.size w w':=by
 have hh:=Hp.start w;obtain ⟨ha1,ha2,ha3⟩:=ha;obtain ⟨hb1,hb2,hb3⟩:=hb;obtain ⟨_,fa1,fa2,fa3⟩:=kH (a:=a) ⟨ha1,ha2,ha3⟩;obtain ⟨_,fb1,fb2,fb3⟩:=kH (a:=b) ⟨hb1,hb2,hb3⟩;have hP:=FB a.d b.d 18000000 VX VX;have hcx:=fun w1 hT1=>wB (-(dw a.d b.d)) (nR a.d) w1 hT1 VX VX VX;have hcy:=fun w1 hT1=>wB (-(dw a.d b.d)) (nR b.d) w1 hT1 VX VX VX;rw [Dq] at hcx hcy;by_cases h0:a.d=0
 ·have h0':=(kP a.d).2 h0;have hs:(nR b.d).e= -(dw a.d b.d):=by
   rw [h0]
   cases b.d with
   |zero=>rfl
   |ofOdd n k h=>rfl
  refine Ii ?_;refine sr ?_;refine cf hh [_,_,_] ?_;intro b2 w2 hh;refine cf hh [_,_,_] ?_;intro b3 w3 hh;refine bQ hh ?_;intro b4 w4 hh;refine aa (ah ?_);refine Jt ?_;refine ee 2 [_,_,_] ?_;refine Jq ?_;refine ee 1 [_,_,_] ?_;refine aJ ?_;intro f W hJ hV;have hb_1:=hJ.bl;obtain ⟨v9,v8,v7,_⟩:=hV;replace hh:=hJ.hp;refine aR (a8 (ae v9 (ae v8 (ae v7 aQ)))) ?_;dsimp only [bH];clear hJ;refine br hh (eY b _ (hT.hp hh) VX VX VX) rfl ?_;intro w10 hh;refine bR hh 2 [_,_,_] ?_;intro ws hh;replace hh:Hp _ (_::_::.blk _ _ [_,_,_] _::_) _:=hh;refine bR hh 1 [_,_,_] ?_;intro ws hh;replace hh:Hp _ (_::.blk _ _ [_,_,_] _::_) _:=hh;refine aa (sr (bE ?_));refine bB hh 2 ?_;refine bE ?_;refine bB hh 1 ?_;refine xo rfl rfl VY ?_;refine aI (aa (ah (aq (sr ?_))));refine cn hh 2 [_,_,_] ?_;refine eV [_,_,_] ?_;refine Eu rfl rfl (by first|assumption|rfl) VY ?_;refine aB (aa (cT (al (bE ?_))));refine bB hh 1 ?_;refine aI (aA (bF (ai (sr ?_))));exact Uk
 ·have h0':¬nR a.d=⟨false,ByteArray.mk #[],0⟩:=fun h=>h0 ((kP _).1 h);by_cases h1:b.d=0
  ·have h1':=(kP b.d).2 h1;have hs:(nR a.d).e= -(dw a.d b.d):=by
    rw [h1]
    cases a.d with
    |zero=>rfl
    |ofOdd n k h=>rfl
   refine Ii ?_;refine sr ?_;refine cf hh [_,_,_] ?_;intro b2 w2 hh;refine cf hh [_,_,_] ?_;intro b3 w3 hh;refine bQ hh ?_;intro b4 w4 hh;refine aa (ah ?_);refine Jt ?_;refine ee 2 [_,_,_] ?_;refine Jq ?_;refine ee 1 [_,_,_] ?_;refine aJ ?_;intro f W hJ hV;have hb_1:=hJ.bl;obtain ⟨v9,v8,v7,_⟩:=hV;replace hh:=hJ.hp;refine aR (a8 (ae v9 (ae v8 (ae v7 aQ)))) ?_;dsimp only [bH];clear hJ;refine br hh (eY b _ (hT.hp hh) VX VX VX) rfl ?_;intro w10 hh;refine bR hh 2 [_,_,_] ?_;intro ws hh;replace hh:Hp _ (_::_::.blk _ _ [_,_,_] _::_) _:=hh;refine bR hh 1 [_,_,_] ?_;intro ws hh;replace hh:Hp _ (_::.blk _ _ [_,_,_] _::_) _:=hh;refine aa (sr (bE ?_));refine bB hh 2 ?_;refine bE ?_;refine bB hh 1 ?_;refine xo rfl rfl VY ?_;refine aI (aa (ah (aq (sr ?_))));refine cn hh 2 [_,_,_] ?_;refine eV [_,_,_] ?_;refine yA rfl rfl (by assumption) VY ?_;refine aB (aa (cF (sr ?_)));refine cn hh 1 [_,_,_] ?_;refine eV [_,_,_] ?_;refine Eu rfl rfl (by first|assumption|rfl) VY ?_;refine aB (aa (cT (al (bE ?_))));refine bB hh 2 ?_;refine aI (aA (bF (ai (sr ?_))));exact Uk
  ·have h1':¬nR b.d=⟨false,ByteArray.mk #[],0⟩:=fun h=>h1 ((kP _).1 h);have hs:(if (nR b.d).e<(nR a.d).e then (nR b.d).e else (nR a.d).e)= -(dw a.d b.d):=by
    revert h0 h1
    cases a.d with
    |zero=>intro h;exact absurd rfl h
    |ofOdd n k h=>
     cases b.d with
     |zero=>intro _ h;exact absurd rfl h
     |ofOdd m l g=>
      intro _ _;simp only [nR,dw];omega
   refine Ii ?_;refine sr ?_;refine cf hh [_,_,_] ?_;intro b2 w2 hh;refine cf hh [_,_,_] ?_;intro b3 w3 hh;refine bQ hh ?_;intro b4 w4 hh;refine aa (ah ?_);refine Jt ?_;refine ee 2 [_,_,_] ?_;refine Jq ?_;refine ee 1 [_,_,_] ?_;refine aJ ?_;intro f W hJ hV;have hb_1:=hJ.bl;obtain ⟨v9,v8,v7,_⟩:=hV;replace hh:=hJ.hp;refine aR (a8 (ae v9 (ae v8 (ae v7 aQ)))) ?_;dsimp only [bH];clear hJ;refine br hh (eY b _ (hT.hp hh) VX VX VX) rfl ?_;intro w10 hh;refine bR hh 2 [_,_,_] ?_;intro ws hh;replace hh:Hp _ (_::_::.blk _ _ [_,_,_] _::_) _:=hh;refine bR hh 1 [_,_,_] ?_;intro ws hh;replace hh:Hp _ (_::.blk _ _ [_,_,_] _::_) _:=hh;refine aa (sr (bE ?_));refine bB hh 2 ?_;refine bE ?_;refine bB hh 1 ?_;refine xo rfl rfl VY ?_;refine aI (aa (ah (aq (sr ?_))));refine cn hh 2 [_,_,_] ?_;refine eV [_,_,_] ?_;refine yA rfl rfl (by assumption) VY ?_;refine aB (aa (cF (sr ?_)));refine cn hh 1 [_,_,_] ?_;refine eV [_,_,_] ?_;refine yA rfl rfl (by assumption) VY ?_;refine aB (aa (cF (ao (bF (ai (sr ?_))))));exact Uk
end
def jU (x y:Dyadic):Int:=if x<y then -1 else if y<x then 1 else 0
theorem Ay (i j p:Int):(i-j).sign=jU (Dyadic.ofIntWithPrec i p) (Dyadic.ofIntWithPrec j p):=by
 unfold jU;simp only [vk]
 rcases YW i j with h|h|h
 ·rw [V2 h,XG VX]
 ·subst h;simp
 ·rw [V3 VX,V2 h,XF VX]
theorem Em (i p:Int):i.sign=jU (Dyadic.ofIntWithPrec i p) 0:=by
 have:=Ay i 0 p;rwa [Int.sub_zero,kz] at this
theorem NR.sign (a:NR):a.i.sign=jU a.d 0:=Em _ _
theorem B2 (x y:Dyadic):(cW x (dw x y)-cW y (dw x y)).sign=jU x y:=by
 rw [Ay _ _ (dw x y),IE,J9]
theorem Hu (X Y:Int) (h:X.sign≠Y.sign):(if (if X.sign-Y.sign<1 then X.sign-Y.sign else 1)> -1 then (if X.sign-Y.sign<1 then X.sign-Y.sign else 1) else -1)=(X-Y).sign:=by
 rcases YW X 0 with hx|hx|hx<;>rcases YW Y 0 with hy|hy|hy
 ·rw [XG hx,XG hy] at h;omega
 ·rw [XG hx,hy,Int.sub_zero,XG hx];simp
 ·rw [XG hx,XF hy,XG VX];simp
 ·subst hx;rw [Int.sign_zero,XG hy,XF (a:=0-Y) VX];simp
 ·rw [hx,hy] at h;omega
 ·subst hx;rw [Int.sign_zero,XF hy,XG (a:=0-Y) VX];simp
 ·rw [XF hx,XG hy,XF VX];simp
 ·rw [XF hx,hy,Int.sub_zero,XF hx];simp
 ·rw [XF hx,XF hy] at h;omega
theorem rA {a b:NR} (ha:a.ok) (hb:b.ok):(iM (cW a.d (dw a.d b.d))).size≤6000000∧(iM (cW b.d (dw a.d b.d))).size≤6000000∧ -18000000≤dw a.d b.d∧dw a.d b.d≤18000000:=by
 obtain ⟨_,fa1,fa2,fa3⟩:=kH ha;obtain ⟨_,fb1,fb2,fb3⟩:=kH hb;have hP:=FB a.d b.d 18000000 VX VX;have h1:=vp a.d (dw a.d b.d);have h2:=vp b.d (dw a.d b.d);rw [dH,dH];refine ⟨VX,VX,hP.1,hP.2⟩
theorem E2 (i:Int): -1≤i.sign∧i.sign≤1:=by
 rcases YW i 0 with h|h|h
 ·rw [XG h];omega
 ·rw [h];simp
 ·rw [XF h];omega
theorem pG (a b:NR) (w:World) (hT:eK w) (ha:a.ok) (hb:b.ok):
  Calls Tryz.prog 184 #[.agg #[.bool a.neg,.string a.bf,.int .i64 a.e],.agg #[.bool b.neg,.string b.bf,.int .i64 b.e]] w fun r w'=>r=.returned (.int .i64 (jU a.d b.d))∧Below w.heap.size w w':=by
 have hh:=Hp.start w;obtain ⟨hs1,hs2,_⟩:=rA ha hb;have hsa:a.i.sign=(cW a.d (dw a.d b.d)).sign:=by rw [NR.sign,Em _ (dw a.d b.d),IE]
 have hsb:b.i.sign=(cW b.d (dw a.d b.d)).sign:=by rw [NR.sign,Em _ (dw a.d b.d),J9]
 have hba:=E2 a.i;have hbb:=E2 b.i;by_cases hne:a.i.sign=b.i.sign
 ·refine P3 ?_;refine sr ?_;refine cf hh [_,_,_] ?_;intro b2 w2 hh;refine cf hh [_,_,_] ?_;intro b3 w3 hh;refine aI (aa (ah (ah ?_)));refine aT 3 [[(2,none)],[(8,some 0)],[(3,none)]] [(2,10),(1,9),(0,8)] hh mixed VZ ?_;refine ee 1 [_,_,_] ?_;refine dC (fun _ hj=>ix a _) ?_;refine ee 0 [_,_,_] ?_;refine aJ ?_;intro f W hJ hV;have hb_1:=hJ.bl;obtain ⟨v10,v9,v8,_⟩:=hV;replace hh:=hJ.hp;refine aR (a8 (ae v10 (ae v9 (ae v8 aQ)))) ?_;dsimp only [bH];clear hJ;refine br hh (ix b _) rfl ?_;intro w11 hh;refine aI (aI (aa (sr (mI (mI ?_)))));refine rQ ?_;refine cn hh 1 [_,_,_] ?_;refine cn hh 0 [_,_,_] ?_;refine br hh (qW a b _ (hT.hp hh) ha hb) rfl ?_;intro w22 hh;refine bQ hh ?_;intro b7 w7 hh;refine bR hh 0 [_,_,_,_,_] ?_;intro ws hh;replace hh:Hp _ (.blk _ _ [_,_,_,_,_] _::_) _:=hh;refine aa (sr (bE ?_));refine cn hh 0 [_,_] (bE ?_);refine cn hh 0 [_,_] ?_;refine br hh (Dt _ _ _ _ _ VX VX) rfl ?_;intro w27 hh;rw [fD,fD,B2];exact vJ
 ·refine P3 ?_;refine sr ?_;refine cf hh [_,_,_] ?_;intro b2 w2 hh;refine cf hh [_,_,_] ?_;intro b3 w3 hh;refine aI (aa (ah (ah ?_)));refine aT 3 [[(2,none)],[(8,some 0)],[(3,none)]] [(2,10),(1,9),(0,8)] hh mixed VZ ?_;refine ee 1 [_,_,_] ?_;refine dC (fun _ hj=>ix a _) ?_;refine ee 0 [_,_,_] ?_;refine aJ ?_;intro f W hJ hV;have hb_1:=hJ.bl;obtain ⟨v10,v9,v8,_⟩:=hV;replace hh:=hJ.hp;refine aR (a8 (ae v10 (ae v9 (ae v8 aQ)))) ?_;dsimp only [bH];clear hJ;refine br hh (ix b _) rfl ?_;intro w11 hh;refine aI (aI (aa (sr (mI (mI ?_)))));refine cJ (aa (cT (sr (mI (mI ?_)))));refine dQ ?_;refine xo rfl rfl VY ?_;refine kF rfl rfl VY ?_;refine aI (aa (au (aE ?_)));refine cS ?_;refine ⟨?_,hh.below⟩;rw [hsa,hsb] at hne;rw [hsa,hsb,←B2 a.d b.d,←Hu _ _ hne]
def qV (n:Int):Dyadic:=Dyadic.ofIntWithPrec 1 (-n)
theorem Np (i p n:Int):Dyadic.ofIntWithPrec i (p-n)=Dyadic.ofIntWithPrec i p*qV n:=by
 rw [qV,qj,Int.mul_one];rfl
def m6:List Dyadic→Dyadic:=fun l=>l.foldl (· + ·) 0
theorem wD (l:List Dyadic) (x:Dyadic):m6 (l++[x])=m6 l+x:=by simp [m6]
theorem Sz.sum {l:List Dyadic} (h:∀x∈l,Sz k x):Sz (k+l.length) (m6 l):=by
 have:∀(n:Nat),n≤l.length→Sz (k+n) (m6 (l.take n)):=by
  intro n
  induction n with
  |zero=>intro _;exact Sz.zero _
  |succ n ih=>
   intro hn;obtain ⟨x,hx⟩:=ak (l:=l) (k:=n) VX;rw [aw hx,wD];exact (ih VX).add ((h x (V7 hx)).mono VX)
 have h2:=this l.length (V8 _);rwa [YV] at h2
theorem vc (a b:NR) (w:World) (hT:eK w) (ha:a.ok) (hb:b.ok):
  Calls Tryz.prog 137 #[.agg #[.bool (iN (cW a.d (dw a.d b.d)+cW b.d (dw a.d b.d))),.string (iM (cW a.d (dw a.d b.d)+cW b.d (dw a.d b.d)))],.int .i64 (-(dw a.d b.d))] w fun r w'=>r=.returned (.agg #[.bool (nR (a.d+b.d)).neg,.string (nR (a.d+b.d)).bf,.int .i64 (nR (a.d+b.d)).e])∧Below w.heap.size w w':=by
 obtain ⟨hs1,hs2,hP1,hP2⟩:=rA ha hb;rw [dH] at hs1 hs2;have h3:=mm (cW a.d (dw a.d b.d)) (cW b.d (dw a.d b.d));have:=iA (iN (cW a.d (dw a.d b.d)+cW b.d (dw a.d b.d))) (iM (cW a.d (dw a.d b.d)+cW b.d (dw a.d b.d))) (-(dw a.d b.d)) w hT (by rw [dH];omega) VX VX;rw [fD,Int.neg_neg,Na] at this;exact this
theorem jl (L:Option Addr) (n c:Nat) (l:List NR) (w:World) (hT:eK w) (hS:Sl w L n 3 (az NR.cells l)) (hl:∀a∈l,a.ok) (k:Nat) (hk:∀a∈l,Sz k a.d) (hkn:k+n≤3999990):
  Calls Tryz.prog 47 #[.slice L n c] w fun r w'=>r=.returned (.agg #[.bool (nR (m6 (l.map NR.d))).neg,.string (nR (m6 (l.map NR.d))).bf,.int .i64 (nR (m6 (l.map NR.d))).e])∧Below w.heap.size w w':=by
 have hln:=hS.bg NR.len VX;have hh:=Hp.start w;refine aj (N:=27) (l:=[.slice L n c]) Tryz.func47 rfl rfl (by simp) ?_;refine sr ?_;refine bQ hh ?_;intro b2 w2 hh;refine aa (sr ?_);refine bQ hh ?_;intro b3 w3 hh;refine vY ?_;refine aM [5,6,9,10,11,12,13,14,15,16,17,18,19,20,21,22,23,24,25] 9
  (fun j w'=>∃(i:Nat) (S:Dyadic),i≤n∧j=.int .i64 i∧S=m6 ((l.take i).map NR.d)∧Hp w [.blk b3 65 [.bool (nR S).neg,.string (nR S).bf,.int .i64 (nR S).e] (0,0),.blk b2 65 [.bool false,.string (ByteArray.mk #[]),.int .i64 0] (0,0)] w')
  (fun j _=>n-(intOf j).toNat) ?_ ?_
 ·exact ⟨0,0,V5 _,rfl,rfl,hh⟩
 ·clear hh;rintro ρ' j w' ⟨i,S,hi,rfl,hS2,hh⟩;by_cases hlt:i<n
  ·obtain ⟨x,hx⟩:=ak (l:=l) (k:=i) VX;obtain ⟨ad,rfl,hr⟩:=hS.at_ VX;have hxm:=V7 hx;have hS3:m6 ((l.take (i+1)).map NR.d)=S+x.d:=by rw [aw hx,WT,YC,wD,hS2]
   have hSz:Sz (k+i) S:=by
    rw [hS2];have:=Sz.sum (k:=k) (l:=(l.take i).map NR.d) (fun y hy=>by
     obtain ⟨a,ha,rfl⟩:=Wn.1 hy;exact hk a (X1 ha))
    rw [Wh,Wp,Xd VX] at this;exact this
   have hSo:=hSz.ok VX;have hlc:=fun w1 hT1=>qW (nR S) x w1 hT1 hSo (hl x hxm);have hmc:=fun w1 hT1=>vc (nR S) x w1 hT1 hSo (hl x hxm);obtain ⟨hs1,hs2,_⟩:=rA hSo (hl x hxm);rw [cm] at hlc hmc hs1 hs2;have e1:([iR (cW S (dw S x.d)),iR (cW x.d (dw S x.d))].map IR.v).sum=cW S (dw S x.d)+cW x.d (dw S x.d):=by
    simp only [Wv,WV,List.sum_cons,List.sum_nil,TF];omega
   have hac:∀(A:Option Addr) (cc:Nat) (w1:World),Sl w1 A 2 2 (az IR.cells [iR (cW S (dw S x.d)),iR (cW x.d (dw S x.d))])→Calls Tryz.prog 138 #[.slice A 2 cc] w1 fun e w'=>e=.returned (.agg #[.bool (iN (cW S (dw S x.d)+cW x.d (dw S x.d))),.string (iM (cW S (dw S x.d)+cW x.d (dw S x.d)))])∧Below w1.heap.size w1 w':=fun A cc w1 hsl=>by
    have:=u7 A 2 cc [iR (cW S (dw S x.d)),iR (cW x.d (dw S x.d))] w1 hsl VX (by simp [iR];omega);rw [e1] at this;exact this
   refine sr ?_;refine dZ ?_;refine bY ?_;refine FP ?_;refine bQ hh ?_;intro b5 w5 hh;refine bR hh 0 [_,_,_] ?_;intro ws hh;replace hh:Hp _ (.blk _ _ [_,_,_] _::_) _:=hh;refine aa (sr ?_);refine cn hh 1 [_,_,_] ?_;refine cn hh 0 [_,_,_] ?_;refine br hh (hlc _ (hT.hp hh)) rfl ?_;intro w15 hh;refine bQ hh ?_;intro b6 w6 hh;refine bR hh 0 [_,_,_,_,_] ?_;intro ws hh;replace hh:Hp _ (.blk _ _ [_,_,_,_,_] _::_) _:=hh;refine aa ?_;refine aT 8 [[(6,none)],[(16,some 0)],[(6,none)],[(18,some 2)],[(17,some 1),(19,some 3)],[(20,some 4)],[(6,none)],[(22,some 6)]] [(7,23),(6,22),(5,21),(4,20),(3,19),(2,18),(1,17),(0,16)] hh mixed VZ ?_;refine cP ?_;refine ee 0 [_,_] ?_;refine cP ?_;refine ee 0 [_,_] ?_;refine oB [_,_,_,_] ?_;refine aN (i:=5) (Is (.agg #[.bool (iN (cW S (dw S x.d)+cW x.d (dw S x.d))),.string (iM (cW S (dw S x.d)+cW x.d (dw S x.d)))])) Is.ext ?_ ?_
   ·intro ρ1 w1 hj hR;obtain ⟨A20,c20,h20,s20⟩:=hR.1;exact bh rfl (aP ar.out (av h20 a6)) (hac A20 c20 _ s20) (fun _ _ hq=>⟨_,hq.1,hq.2,rfl⟩)
   refine cP ?_;refine dL 0 ?_;refine aJ ?_;intro f W hJ hV;have hb_6:=hJ.bl;obtain ⟨v23,v22,v21,v20,v19,v18,v17,v16,_⟩:=hV;obtain ⟨A20,c20,e20,f20⟩:Rows _ _ _ (f 4) W:=v20;replace hh:=hJ.hp;refine aR (a8 (ae v23 (ae v22 (ae v21 (ae e20 (ae v19 (ae v18 (ae v17 (ae v16 aQ))))))))) ?_;dsimp only [bH];clear e20 hJ;refine br hh (hmc _ (hT.hp hh)) rfl ?_;intro w24 hh;refine bR hh 2 [_,_,_] ?_;intro ws hh;replace hh:Hp _ (_::_::.blk _ _ [_,_,_] _::_) _:=hh;refine gy ?_;refine a9 (mI (aA (ai ?_)));replace hh:=hh.sub ((WE _ _).trans (WE _ _));exact PK
  ·exact Ts
theorem lL (x y:Dyadic):m6 [x,y]=x+y:=by
 show (0+x)+y=x+y;rw [X9]
theorem mj (a b:NR) (w:World) (hT:eK w) (ha:a.ok) (hb:b.ok) (k:Nat) (hka:Sz k a.d) (hkb:Sz k b.d) (hk:k≤3999980):
  Calls Tryz.prog 52 #[.agg #[.bool a.neg,.string a.bf,.int .i64 a.e],.agg #[.bool b.neg,.string b.bf,.int .i64 b.e]] w fun r w'=>r=.returned (.agg #[.bool (nR (a.d-b.d)).neg,.string (nR (a.d-b.d)).bf,.int .i64 (nR (a.d-b.d)).e])∧Below w.heap.size w w':=by
 have hh:=Hp.start w;obtain ⟨hb1,hb2,hb3⟩:=hb;have e1:m6 ([a,nR (-b.d)].map NR.d)=a.d-b.d:=by
  simp only [Wv,WV,cm,lL];rfl
 have hac:∀(A:Option Addr) (cc:Nat) (w1:World),eK w1→Sl w1 A 2 3 (az NR.cells [a,nR (-b.d)])→Calls Tryz.prog 47 #[.slice A 2 cc] w1 fun r w'=>r=.returned (.agg #[.bool (nR (a.d-b.d)).neg,.string (nR (a.d-b.d)).bf,.int .i64 (nR (a.d-b.d)).e])∧Below w1.heap.size w1 w':=fun A cc w1 hT1 hsl=>by
  have:=jl A 2 cc [a,nR (-b.d)] w1 hT1 hsl (by simpa using ⟨ha,hkb.neg.ok VX⟩) k (by simpa [cm] using ⟨hka,hkb.neg⟩) VX;rw [e1] at this;exact this
 refine aj (N:=10) (l:=[.agg #[.bool a.neg,.string a.bf,.int .i64 a.e],.agg #[.bool b.neg,.string b.bf,.int .i64 b.e]]) Tryz.func52 rfl rfl (by simp) ?_;refine sr ?_;refine cf hh [_,_,_] ?_;intro b2 w2 hh;refine cf hh [_,_,_] ?_;intro b3 w3 hh;refine bQ hh ?_;intro b4 w4 hh;refine aa (ah ?_);refine Jy ?_;refine ee 2 [_,_,_] ?_;refine ee 1 [_,_,_] ?_;refine dC (fun _ hj=>pd b _ (hT.hp hj.hp) VX VX VX) ?_;refine aJ ?_;intro f W hJ hV;have hb_1:=hJ.bl;obtain ⟨v7,v6,v5,_⟩:=hV;replace hh:=hJ.hp;refine uJ ?_;dsimp only [bH];clear hJ;refine wQ ?_;intro b8 w8 hh;refine br hh (hac _ _ _ (hT.hp hh) (hh.aC (i:=0) rfl)) rfl ?_;intro w9 hh;exact RO
def iD:List Dyadic→Dyadic:=fun l=>l.foldl (· * ·) 1
theorem tE (l:List Dyadic) (x:Dyadic):iD (l++[x])=iD l*x:=by simp [iD]
theorem Sz.one:Sz 1 1:=⟨2,by decide+kernel,VY⟩
theorem Sz.prod {l:List Dyadic} (h:∀x∈l,Sz k x):Sz (1+k*l.length) (iD l):=by
 have:∀(n:Nat),n≤l.length→Sz (1+k*n) (iD (l.take n)):=by
  intro n
  induction n with
  |zero=>intro _;exact Sz.one
  |succ n ih=>
   intro hn;obtain ⟨x,hx⟩:=ak (l:=l) (k:=n) VX;rw [aw hx,tE];exact ((ih VX).mul (h x (V7 hx))).mono (by rw [XI];omega)
 have h2:=this l.length (V8 _);rwa [YV] at h2
theorem fH (L:Option Addr) (n c:Nat) (l:List NR) (w:World) (hT:eK w) (hS:Sl w L n 3 (az NR.cells l)) (hl:∀a∈l,a.ok) (k:Nat) (hk:∀a∈l,Sz k a.d) (hkn:k*n≤3999980) (hn:n≤1000000):
  Calls Tryz.prog 48 #[.slice L n c] w fun r w'=>r=.returned (.agg #[.bool (nR (iD (l.map NR.d))).neg,.string (nR (iD (l.map NR.d))).bf,.int .i64 (nR (iD (l.map NR.d))).e])∧Below w.heap.size w w':=by
 have hln:=hS.bg NR.len VX;have hh:=Hp.start w;refine aj (N:=27) (l:=[.slice L n c]) Tryz.func48 rfl rfl (by simp) ?_;refine sr ?_;refine bQ hh ?_;intro b2 w2 hh;refine aa (sr ?_);refine Bi ?_;intro w6 hh;refine bQ hh ?_;intro b3 w3 hh;refine bR hh 0 [_,_,_] ?_;intro ws hh;replace hh:Hp _ (.blk _ _ [_,_,_] _::_) _:=hh;refine vY ?_;refine aM [5,9,10,11,12,13,14,15,16,17,18,19,20,21,22,23,24,25] 9
  (fun j w'=>∃(i:Nat) (S:Dyadic),i≤n∧j=.int .i64 i∧S=iD ((l.take i).map NR.d)∧Hp w [.blk b3 65 [.bool (nR S).neg,.string (nR S).bf,.int .i64 (nR S).e] (0,0),.blk b2 65 [.bool false,.string (ByteArray.mk #[]),.int .i64 0] (0,0)] w')
  (fun j _=>n-(intOf j).toNat) ?_ ?_
 ·exact ⟨0,_,V5 _,rfl,rfl,hh⟩
 ·clear hh;rintro ρ' j w' ⟨i,S,hi,rfl,hS2,hh⟩;by_cases hlt:i<n
  ·obtain ⟨x,hx⟩:=ak (l:=l) (k:=i) VX;obtain ⟨ad,rfl,hr⟩:=hS.at_ VX;have hxm:=V7 hx;have hS3:iD ((l.take (i+1)).map NR.d)=S*x.d:=by rw [aw hx,WT,YC,tE,hS2]
   have hSz:Sz (1+k*i) S:=by
    rw [hS2];have:=Sz.prod (k:=k) (l:=(l.take i).map NR.d) (fun y hy=>by
     obtain ⟨a,ha,rfl⟩:=Wn.1 hy;exact hk a (X1 ha))
    rw [Wh,Wp,Xd VX] at this;exact this
   have hki:k*i≤k*n:=WS _ hi;obtain ⟨so1,so2,so3⟩:=hSz.ok VX;obtain ⟨xo1,xo2,xo3⟩:=hl x hxm;have e1:m9 ([IR.mk (nR S).neg (nR S).bf,IR.mk x.neg x.bf].map IR.v)=(nR S).i*x.i:=by
    simp only [Wv,WV,m9,Int.mul_one];rfl
   have e2:Dyadic.ofIntWithPrec ((nR S).i*x.i) (-((nR S).e+x.e))=S*x.d:=by
    have:=qj (nR S).i x.i (-(nR S).e) (-x.e);rw [Int.neg_add,←this];congr 1;exact cm S
   have hac:∀(A:Option Addr) (cc:Nat) (w1:World),Sl w1 A 2 2 (az IR.cells [IR.mk (nR S).neg (nR S).bf,IR.mk x.neg x.bf])→Calls Tryz.prog 139 #[.slice A 2 cc] w1 fun e w'=>e=.returned (.agg #[.bool (iN ((nR S).i*x.i)),.string (iM ((nR S).i*x.i))])∧Below w1.heap.size w1 w':=fun A cc w1 hsl=>by
    have:=D2 A 2 cc [IR.mk (nR S).neg (nR S).bf,IR.mk x.neg x.bf] w1 hsl VX (by simp;omega);rw [e1] at this;exact this
   have hmc:∀w1,eK w1→Calls Tryz.prog 137 #[.agg #[.bool (iN ((nR S).i*x.i)),.string (iM ((nR S).i*x.i))],.int .i64 ((nR S).e+x.e)] w1 fun r w'=>r=.returned (.agg #[.bool (nR (S*x.d)).neg,.string (nR (S*x.d)).bf,.int .i64 (nR (S*x.d)).e])∧Below w1.heap.size w1 w':=fun w1 hT1=>by
    have hb1:=ie (nR S).neg (nR S).bf;have hb2:=ie x.neg x.bf;have hb3:=j6 (nR S).i x.i;have:=iA (iN ((nR S).i*x.i)) (iM ((nR S).i*x.i)) ((nR S).e+x.e) w1 hT1 (by rw [dH];unfold NR.i at hb3 ⊢;omega) VX VX;rw [fD,e2] at this;exact this
   refine sr ?_;refine dZ ?_;refine bY ?_;refine FP ?_;refine bQ hh ?_;intro b5 w5 hh;refine bR hh 0 [_,_,_] ?_;intro ws hh;replace hh:Hp _ (.blk _ _ [_,_,_] _::_) _:=hh;refine aa ?_;refine aT 11 [[(3,none)],[(13,some 0)],[(5,none)],[(15,some 2)],[(14,some 1),(16,some 3)],[(17,some 4)],[(3,none)],[(19,some 6)],[(5,none)],[(21,some 8)],[(20,some 7),(22,some 9)]] [(10,23),(9,22),(8,21),(7,20),(6,19),(5,18),(4,17),(3,16),(2,15),(1,14),(0,13)] hh mixed VZ ?_;refine cP ?_;refine ee 1 [_,_] ?_;refine cP ?_;refine ee 0 [_,_] ?_;refine oB [_,_,_,_] ?_;refine aN (i:=5) (Is (.agg #[.bool (iN ((nR S).i*x.i)),.string (iM ((nR S).i*x.i))])) Is.ext ?_ ?_
   ·intro ρ1 w1 hj hR;obtain ⟨A17,c17,h17,s17⟩:=hR.1;exact bh rfl (aP ar.out (av h17 a6)) (hac A17 c17 _ s17) (fun _ _ hq=>⟨_,hq.1,hq.2,rfl⟩)
   refine cP ?_;refine dL 1 ?_;refine cP ?_;refine dL 0 ?_;refine qG ?_;refine aJ ?_;intro f W hJ hV;have hb_5:=hJ.bl;obtain ⟨v23,v22,v21,v20,v19,v18,v17,v16,v15,v14,v13,_⟩:=hV;obtain ⟨A17,c17,e17,f17⟩:Rows _ _ _ (f 4) W:=v17;replace hh:=hJ.hp;refine aR (a8 (ae v23 (ae v22 (ae v21 (ae v20 (ae v19 (ae v18 (ae e17 (ae v16 (ae v15 (ae v14 (ae v13 aQ)))))))))))) ?_;dsimp only [bH];clear e17 hJ;refine br hh (hmc _ (hT.hp hh)) rfl ?_;intro w24 hh;refine bR hh 1 [_,_,_] ?_;intro ws hh;replace hh:Hp _ (_::.blk _ _ [_,_,_] _::_) _:=hh;refine gy ?_;refine a9 (mI (aA (ai ?_)));replace hh:=hh.sub (WE _ _);exact PK
  ·exact Ts
theorem Nt (i p:Int) (n:Nat):Dyadic.ofIntWithPrec i p^n=Dyadic.ofIntWithPrec (i^n) (p*n):=by
 induction n with
 |zero=>rw [Dyadic.pow_zero];simp;rfl
 |succ n ih=>rw [Dyadic.pow_succ,ih,qj,Int.pow_succ,X6,Int.mul_add];simp
theorem TX (i p:Int):(nR (Dyadic.ofIntWithPrec i p)).bf.size≤(bO i.natAbs+7)/8∧(i=0∨ -p≤(nR (Dyadic.ofIntWithPrec i p)).e∧(nR (Dyadic.ofIntWithPrec i p)).e≤ -p+bO i.natAbs)∧(i=0→(nR (Dyadic.ofIntWithPrec i p)).e=0):=by
 by_cases h0:i=0
 ·subst h0;rw [kz,mb];exact ⟨V5 _,.inl rfl,fun _=>rfl⟩
 ·have h2:=lH h0;rw [yK h0,nR];simp only;refine ⟨?_,.inr ⟨VX, ?_⟩,fun h=>absurd h h0⟩
  ·rw [dH];have:bO (i>>>i.trailingZeros).natAbs≤bO i.natAbs:=by
    apply dO;refine Xb ?_ (dk _);rw [Int.shiftRight_eq_div_pow];exact Zm _ _
   omega
  ·have h3:2^i.trailingZeros<2^bO i.natAbs:=Xb h2 (dk _);have:=(Zl VX).1 h3;omega
theorem uL (a:NR) (n:Int) (w:World) (hT:eK w) (ha:a.ok) (hs:n.toNat*a.bf.size≤1000000) (hn:n≤1000):
  Calls Tryz.prog 51 #[.agg #[.bool a.neg,.string a.bf,.int .i64 a.e],.int .i64 n] w fun r w'=>r=.returned (.agg #[.bool (nR (a.d^n.toNat)).neg,.string (nR (a.d^n.toNat)).bf,.int .i64 (nR (a.d^n.toNat)).e])∧Below w.heap.size w w':=by
 have hh:=Hp.start w;obtain ⟨ha1,ha2,ha3⟩:=ha;obtain ⟨_,fa1,fa2,fa3⟩:=kH (a:=a) ⟨ha1,ha2,ha3⟩;have hsz:(nR a.d).bf.size≤a.bf.size:=by
  have:=(TX a.i (-a.e)).1;have h2:=ie a.neg a.bf;unfold NR.d NR.i at*;omega
 have hms:n.toNat*(nR a.d).bf.size≤n.toNat*a.bf.size:=WS _ hsz;have e1:(if (0:Int)>n then 0 else n)=(n.toNat:Int):=by split<;>omega
 have hm:n.toNat≤1000:=VX;have hlo: -18000000*1000≤(nR a.d).e*(n.toNat:Int):=by
  have h1:(-18000000:Int)*n.toNat≤(nR a.d).e*n.toNat:=Int.mul_le_mul_of_nonneg_right fa2 VX;omega
 have hhi:(nR a.d).e*(n.toNat:Int)≤18000000*1000:=by
  have h1:(nR a.d).e*n.toNat≤(18000000:Int)*n.toNat:=Int.mul_le_mul_of_nonneg_right fa3 VX;omega
 have hpc:=fun w1=>DL (nR a.d).neg (nR a.d).bf n w1 VX VX VX;have hmc:∀w1,eK w1→Calls Tryz.prog 137 #[.agg #[.bool (iN (iv (nR a.d).neg (nR a.d).bf^n.toNat)),.string (iM (iv (nR a.d).neg (nR a.d).bf^n.toNat))],.int .i64 ((nR a.d).e*(n.toNat:Int))] w1 fun r w'=>r=.returned (.agg #[.bool (nR (a.d^n.toNat)).neg,.string (nR (a.d^n.toNat)).bf,.int .i64 (nR (a.d^n.toNat)).e])∧Below w1.heap.size w1 w':=fun w1 hT1=>by
  have hb:=pU (iv (nR a.d).neg (nR a.d).bf) n.toNat;have hb2:=ie (nR a.d).neg (nR a.d).bf;have hb3:n.toNat*bO (iv (nR a.d).neg (nR a.d).bf).natAbs≤n.toNat*(8*(nR a.d).bf.size):=WS _ hb2;rw [Y4] at hb3;have:=iA (iN (iv (nR a.d).neg (nR a.d).bf^n.toNat)) (iM (iv (nR a.d).neg (nR a.d).bf^n.toNat)) ((nR a.d).e*(n.toNat:Int)) w1 hT1 (by rw [dH];omega) VX VX;have e2:Dyadic.ofIntWithPrec (iv (nR a.d).neg (nR a.d).bf^n.toNat) (-((nR a.d).e*(n.toNat:Int)))=a.d^n.toNat:=by
   have h3:=cm a.d
   conv=>rhs;rw [←h3,NR.d,Nt]
   rw [Int.neg_mul];rfl
  rw [fD,e2] at this;exact this
 refine aj (N:=17) (l:=[.agg #[.bool a.neg,.string a.bf,.int .i64 a.e],.int .i64 n]) Tryz.func51 rfl rfl (by simp) ?_;refine sr ?_;refine cf hh [_,_,_] ?_;intro b2 w2 hh;refine bQ hh ?_;intro b4 w4 hh;refine aa (sr ?_);refine cn hh 1 [_,_,_] ?_;refine br hh (eY a _ (hT.hp hh) VX VX VX) rfl ?_;intro w6 hh;refine bR hh 1 [_,_,_] ?_;intro ws hh;replace hh:Hp _ (_::.blk _ _ [_,_,_] _::_) _:=hh;refine aa (ah ?_);refine aT 9 [[(2,none)],[(7,some 0)],[(1,none)],[(8,some 1),(9,some 2)],[(2,none)],[(11,some 4)],[(1,none)],[(13,some 6)],[(12,some 5),(14,some 7)]] [(8,15),(7,14),(6,13),(5,12),(4,11),(3,10),(2,9),(1,8),(0,7)] hh mixed VZ ?_;refine cP ?_;refine ee 1 [_,_] ?_;refine cM ?_;refine dC (fun _ hj=>hpc _) ?_;refine cP ?_;refine dL 1 ?_;refine cM ?_;refine aN (i:=7) (Is (.int .i64 (n.toNat:Int))) (Is.ext) ?_ ?_
 ·intro ρ1 w1 hj hR;exact eI rfl ((Qj (ρ:=ρ1) (x:=.tmp 13) (show ρ1 13=Value.int .i64 n from hR.1) rfl).trans (by rw [e1])) ⟨Below.refl _ _,rfl⟩
 refine Tr ?_;refine aJ ?_;intro f W hJ hV;have hb_2:=hJ.bl;obtain ⟨v15,v14,v13,v12,v11,v10,v9,v8,v7,_⟩:=hV;replace hh:=hJ.hp;refine aR (a8 (ae v15 (ae v14 (ae v13 (ae v12 (ae v11 (ae v10 (ae v9 (ae v8 (ae v7 aQ)))))))))) ?_;dsimp only [bH];clear hJ;refine br hh (hmc _ (hT.hp hh)) rfl ?_;intro w16 hh;exact Df
theorem RU (x:Dyadic):(nR (-x)).bf=(nR x).bf∧(nR (-x)).e=(nR x).e:=by
 cases x with
 |zero=>exact ⟨rfl,rfl⟩
 |ofOdd n k h=>
  refine ⟨?_,rfl⟩;show iM (-n)=iM n;rw [iM,iM,Int.natAbs_neg]
def iW (f:Dyadic→Dyadic→Bool):List Dyadic→Dyadic
 |[]=>0
 |a::r=>r.foldl (fun out a=>if f a out then a else out) a
theorem DK (f:Dyadic→Dyadic→Bool) {l:List Dyadic} (h:l≠[]) (x:Dyadic):iW f (l++[x])=if f x (iW f l) then x else iW f l:=by
 cases l with
 |nil=>exact absurd rfl h
 |cons a r=>
  show (r++[x]).foldl _ a=_;rw [Zc]
  rfl
theorem qN (L:Option Addr) (n c:Nat) (l:List NR) (g:FuncId) (f:Dyadic→Dyadic→Bool) (w:World) (hT:eK w) (hS:Sl w L n 3 (az NR.cells l)) (hl:∀a∈l,a.ok) (hn:n≤1000000) [ar Tryz.prog g]
  (hg:∀(a b:NR) (w:World),eK w→a.ok→b.ok→Calls Tryz.prog g #[.agg #[.bool a.neg,.string a.bf,.int .i64 a.e],.agg #[.bool b.neg,.string b.bf,.int .i64 b.e]] w fun r w'=>r=.returned (.bool (f a.d b.d))∧Below w.heap.size w w'):
  Calls Tryz.prog 268 #[.slice L n c,.func (.func g) #[] #[]] w fun r w'=>r=.returned (.agg #[.bool (nR (iW f (l.map NR.d))).neg,.string (nR (iW f (l.map NR.d))).bf,.int .i64 (nR (iW f (l.map NR.d))).e])∧Below w.heap.size w w':=by
 have hln:=hS.bg NR.len VX;have hh:=Hp.start w;refine aj (N:=27) (l:=[.slice L n c,.func (.func g) #[] #[]]) Tryz.func268 rfl rfl (by simp) ?_;refine sr ?_;refine bQ hh ?_;intro b4 w4 hh;refine aa (sr ?_);refine bQ hh ?_;intro b5 w5 hh;refine vY ?_;refine aM [6,7,10,11,12,13,14,15,16,17,18,19,20,21,22,23,24] 10
  (fun j w'=>∃(i:Nat) (o:NR),i≤n∧j=.int .i64 i∧o.ok∧o.d=iW f ((l.take i).map NR.d)∧Hp w [.blk b5 65 [.bool o.neg,.string o.bf,.int .i64 o.e] (0,0),.blk b4 65 [.bool false,.string (ByteArray.mk #[]),.int .i64 0] (0,0)] w')
  (fun j _=>n-(intOf j).toNat) ?_ ?_
 ·exact ⟨0,nR 0,V5 _,rfl,(Sz.zero 0).ok VX,rfl,hh⟩
 ·clear hh;rintro ρ' j w' ⟨i,o,hi,rfl,hok,hod,hh⟩;by_cases hlt:i<n
  ·obtain ⟨x,hx⟩:=ak (l:=l) (k:=i) VX;obtain ⟨ad,rfl,hr⟩:=hS.at_ VX;have hxo:=hl x (V7 hx);have htk:(l.take (i+1)).map NR.d=(l.take i).map NR.d++[x.d]:=by rw [aw hx,WT,YC]
   by_cases h0:i=0
   ·subst h0;refine sr ?_;refine eH ?_;refine Cj ?_;refine FP ?_;refine bQ hh ?_;intro b7 w7 hh;refine aI ?_;refine bR hh 0 [_,_,_] ?_;intro ws hh;replace hh:Hp _ (.blk _ _ [_,_,_] _::_) _:=hh;refine aa (sr (mI ?_));refine cB (mB ?_);refine gS (gS (gS ?_));refine ic ?_;refine eM ?_;refine aa (cT (al ?_));refine cn hh 0 [_,_,_] ?_;refine bR hh 1 [_,_,_] ?_;intro ws hh;replace hh:Hp _ (_::.blk _ _ [_,_,_] _::_) _:=hh;refine gy ?_;refine a9 (mI (aA (ai ?_)));replace hh:=hh.sub (WE _ _);refine ⟨⟨1,x,VX,rfl,hxo,by rw [htk];rfl,hh⟩,by show n-(0+1)<n-0;omega, ?_⟩;exact dy
   ·have hne:(l.take i).map NR.d≠[]:=by
     intro h;have:=W8 List.length h;rw [Wh,Wp,YS] at this;omega
    have hb:=DK f hne x.d;rw [←htk,←hod] at hb;refine sr ?_;refine eH ?_;refine bY ?_;refine FP ?_;refine bQ hh ?_;intro b7 w7 hh;refine aI ?_;refine bR hh 0 [_,_,_] ?_;intro ws hh;replace hh:Hp _ (.blk _ _ [_,_,_] _::_) _:=hh;refine aa (sr (mI ?_));refine cB (mB (gT ?_));refine jh ?_;refine gT ?_;refine cn hh 0 [_,_,_] (gT ?_);refine cn hh 1 [_,_,_] ?_;refine aK rfl rfl ?_;refine gM (hg x o _ (hT.hp hh) hxo hok) ar.out rfl rfl VY ?_;rintro e_ w21 ⟨rfl,hb_⟩;refine ⟨_,rfl, ?_⟩;replace hh:=hh.ext hb_
    cases hf:f x.d o.d with
    |true=>
     rw [hf,V2 rfl] at hb;refine dE ?_;refine aa (cT (al ?_));refine cn hh 0 [_,_,_] ?_;refine bR hh 1 [_,_,_] ?_;intro ws hh;replace hh:Hp _ (_::.blk _ _ [_,_,_] _::_) _:=hh;refine gy ?_;refine a9 (mI (aA (ai ?_)));replace hh:=hh.sub (WE _ _);refine ⟨⟨i+1,x,VX,rfl,hxo,hb.symm,hh⟩,by show n-(i+1)<n-i;omega, ?_⟩;exact dy
    |false=>
     rw [hf] at hb;refine dE ?_;refine An ?_;refine a9 (mI (aA (ai ?_)));replace hh:=hh.sub (WE _ _);refine ⟨⟨i+1,o,VX,rfl,hok,hb.symm,hh⟩,by show n-(i+1)<n-i;omega, ?_⟩;exact dy
  ·rw [Wa VX] at hod;obtain ⟨o1,o2,o3⟩:=hok;refine sr ?_;refine mY ?_;refine cn hh 0 [_,_,_] ?_;refine br hh (eY o _ (hT.hp hh) VX VX VX) rfl ?_;intro w26 hh;rw [hod];exact RO
theorem LD (x y:Dyadic):jU x y<0↔x<y:=by
 unfold jU;split
 ·rename_i h;simp [h]
 ·rename_i h;split<;>simp [h]
theorem Nj (x y:Dyadic):0<jU x y↔y<x:=by
 unfold jU;split
 ·rename_i h;have:¬y<x:=by grind
  simp [this]
 ·split<;>rename_i h<;>simp [h]
theorem Ax (a b:NR) (w:World) (hT:eK w) (ha:a.ok) (hb:b.ok):
  Calls Tryz.prog 269 #[.agg #[.bool a.neg,.string a.bf,.int .i64 a.e],.agg #[.bool b.neg,.string b.bf,.int .i64 b.e]] w fun r w'=>r=.returned (.bool (decide (a.d<b.d)))∧Below w.heap.size w w':=by
 have hh:=Hp.start w;have e1:decide (jU a.d b.d<0)=decide (a.d<b.d):=decide_eq_decide.2 (LD _ _);refine aj (N:=9) (l:=[.agg #[.bool a.neg,.string a.bf,.int .i64 a.e],.agg #[.bool b.neg,.string b.bf,.int .i64 b.e]]) Tryz.func269 rfl rfl (by simp) ?_;refine sr ?_;refine cf hh [_,_,_] ?_;intro b2 w2 hh;refine cf hh [_,_,_] ?_;intro b3 w3 hh;refine aB (aa (sr ?_));refine cn hh 1 [_,_,_] ?_;refine cn hh 0 [_,_,_] ?_;refine br hh (pG a b _ (hT.hp hh) ha hb) rfl ?_;intro w7 hh;refine aW (aB (aa (au ?_)));refine cS ?_;rw [e1];exact ⟨rfl,hh.below⟩
theorem z7 (a b:NR) (w:World) (hT:eK w) (ha:a.ok) (hb:b.ok):
  Calls Tryz.prog 270 #[.agg #[.bool a.neg,.string a.bf,.int .i64 a.e],.agg #[.bool b.neg,.string b.bf,.int .i64 b.e]] w fun r w'=>r=.returned (.bool (decide (b.d<a.d)))∧Below w.heap.size w w':=by
 have hh:=Hp.start w;have e1:decide (0<jU a.d b.d)=decide (b.d<a.d):=decide_eq_decide.2 (Nj _ _);refine aj (N:=9) (l:=[.agg #[.bool a.neg,.string a.bf,.int .i64 a.e],.agg #[.bool b.neg,.string b.bf,.int .i64 b.e]]) Tryz.func270 rfl rfl (by simp) ?_;refine sr ?_;refine cf hh [_,_,_] ?_;intro b2 w2 hh;refine cf hh [_,_,_] ?_;intro b3 w3 hh;refine aB (aa (sr ?_));refine cn hh 1 [_,_,_] ?_;refine cn hh 0 [_,_,_] ?_;refine br hh (pG a b _ (hT.hp hh) ha hb) rfl ?_;intro w7 hh;refine bM (aB (aa (au ?_)));refine cS ?_;rw [e1];exact ⟨rfl,hh.below⟩
theorem Dd (L:Option Addr) (n c:Nat) (l:List NR) (w:World) (hT:eK w) (hS:Sl w L n 3 (az NR.cells l)) (hl:∀a∈l,a.ok) (hn:n≤1000000):
  Calls Tryz.prog 256 #[.slice L n c] w fun r w'=>r=.returned (.agg #[.bool (nR (iW (fun x y=>decide (x<y)) (l.map NR.d))).neg,.string (nR (iW (fun x y=>decide (x<y)) (l.map NR.d))).bf,.int .i64 (nR (iW (fun x y=>decide (x<y)) (l.map NR.d))).e])∧Below w.heap.size w w':=by
 have hh:=Hp.start w;refine aj (N:=5) (l:=[.slice L n c]) Tryz.func256 rfl rfl (by simp) ?_;refine sr ?_;refine bQ hh ?_;intro b2 w2 hh;refine aa (sr (mL ?_));refine br hh (qN L n c l 269 (fun x y=>decide (x<y)) _ (hT.hp hh) (hS.ext hh.below) hl hn Ax) rfl ?_;intro w4 hh;exact Df
theorem Ee (L:Option Addr) (n c:Nat) (l:List NR) (w:World) (hT:eK w) (hS:Sl w L n 3 (az NR.cells l)) (hl:∀a∈l,a.ok) (hn:n≤1000000):
  Calls Tryz.prog 257 #[.slice L n c] w fun r w'=>r=.returned (.agg #[.bool (nR (iW (fun x y=>decide (y<x)) (l.map NR.d))).neg,.string (nR (iW (fun x y=>decide (y<x)) (l.map NR.d))).bf,.int .i64 (nR (iW (fun x y=>decide (y<x)) (l.map NR.d))).e])∧Below w.heap.size w w':=by
 have hh:=Hp.start w;refine aj (N:=5) (l:=[.slice L n c]) Tryz.func257 rfl rfl (by simp) ?_;refine sr ?_;refine bQ hh ?_;intro b2 w2 hh;refine aa (sr (mL ?_));refine br hh (qN L n c l 270 (fun x y=>decide (y<x)) _ (hT.hp hh) (hS.ext hh.below) hl hn z7) rfl ?_;intro w4 hh;exact Df
theorem CQ {x y:Dyadic} (h:x<y):jU x y= -1:=by rw [jU,V2 h]
theorem CI {x y:Dyadic} (h:y<x):jU x y=1:=by
 have:¬x<y:=by grind
 rw [jU,V3 this,V2 h]
theorem HN (x:Dyadic):jU x x=0:=by
 have:¬x<x:=by grind
 rw [jU,V3 this,V3 this]
theorem SV (x y:Dyadic):x<y∨x=y∨y<x:=by
 rcases Classical.em (x<y) with h|h
 ·exact .inl h
 ·rcases Classical.em (y<x) with h2|h2
  ·exact .inr (.inr h2)
  ·exact .inr (.inl (by grind))
theorem Sl.TU {A:Option Addr}{xs:List Nat} (h:Sl w A n 1 (gP xs)) (hk:k≤n):Sl w A k 1 (gP (xs.take k)):=by
 have hl:=h.1;rw [cY] at hl;refine ⟨by rw [cY,Wp];omega,fun h0=> ?_⟩;obtain ⟨ad,he,hr⟩:=h.2 VX;exact ⟨ad,he,by rw [Ai];exact hr.take k⟩
theorem Sl.TL {A:Option Addr}{xs:List Nat} (h:Sl w A n 1 (gP xs)):Sl w A (dW xs).length 1 (gP (dW xs)):=by
 have hl:=h.1;rw [cY] at hl;have:=fO xs;have h2:=h.TU (k:=(dW xs).length) VX;rwa [←km] at h2
theorem Hp.RI {H:List HE}{A:Option Addr}{t:TypeId}{xs:List Nat} (h:Hp w0 (.row A n c t 1 (gP xs)::H) w) (hl:xs.length=n):Hp w0 (.row A (dW xs).length c t 1 (gP (dW xs))::H) w:=by
 have h1:=fO xs;have h2:=h.DP (k:=(dW xs).length) VX;rw [Wo,←Ai,←km] at h2;exact h2
theorem l4 (A:Option Addr) (n c:Nat) (xs:List Nat) (w:World) (hx:Sl w A n 1 (gP xs)) (hc:n≤c) (hn:n≤1000000000000):
  Calls Tryz.prog 243 #[.slice A n c] w fun e w'=>e=.returned (.slice A (dW xs).length c)∧Below w.heap.size w w':=by
 have hlen:xs.length=n:=by have:=hx.1;rw [cY] at this;omega
 have hh:=Hp.start w;refine aj (N:=21) (l:=[.slice A n c]) Tryz.func243 rfl rfl (by simp) ?_;refine sr (aL (aa (sr (mL (aF (aI (aa (ah (aq ?_)))))))));refine aM [3,6,7,8,9,10,11,12,13,14,15,16,17] 3
  (fun v w'=>∃k:Nat,k≤n∧v=.int .i64 k∧dW (xs.take k)=dW xs∧w'=w)
  (fun v _=>(intOf v).toNat) ?_ ?_
 ·exact ⟨n,V8 _,rfl,by rw [Wa VX],rfl⟩
 ·rintro ρ' v w' ⟨k,hk,rfl,hcut,rfl⟩;by_cases h0:k=0
  ·subst h0;refine ah (sr (mI ?_));refine bM (mB ?_);refine gS (gS (gS (gS ?_)));refine ic ?_;refine gS ?_;refine dE ?_;refine aa (cF (aU (aD (aD (bk (ai (sr (mL (mI ?_)))))))));refine qo (h:=0) bj.out aO.size rfl rfl VX VX VY ?_;refine aL (aa (au ?_));refine cS ?_;rw [←hcut];exact ⟨rfl,hh.below⟩
  ·obtain ⟨j,rfl⟩:∃j,k=j+1:=⟨k-1,VX⟩;obtain ⟨d,hd⟩:=ak (l:=xs) (k:=j) VX;obtain ⟨ad,rfl,hr⟩:=hx.at_ VX;have hd2:=pz hd;rw [aw hd] at hcut;by_cases hz:d=0
   ·subst hz;rw [tg] at hcut;refine ah (sr (mI ?_));refine bM (mB (gT (mL (gT (mI (gT ?_))))));refine dQ (gT ?_);refine k8 ?_;refine gT ?_;refine gZ ?_;refine gT ?_;refine cB ?_;refine eM ?_;refine aa (cT (ao (ai (aq (al (mI ?_))))));refine dQ (aI (aA (bF (ai ?_))));refine ⟨⟨j,VX,by show Value.int _ _=Value.int _ _;congr 1;omega,hcut,rfl⟩,by show (((j+1:Nat):Int)-1).toNat<(((j+1:Nat):Int)).toNat;omega, ?_⟩;exact dy
   ·rw [wX hz] at hcut;refine ah (sr (mI ?_));refine bM (mB (gT (mL (gT (mI (gT ?_))))));refine dQ (gT ?_);refine k8 ?_;refine gT ?_;refine gZ ?_;refine gT ?_;refine cB ?_;refine eM ?_;refine aa (cF (aU (aD (aD (bk (ai (sr (mL (mI ?_)))))))));refine qo (h:=j+1) bj.out aO.size rfl rfl VX VX VY ?_;refine aL (aa (au ?_));exact Oz
theorem GX {s:List UInt8}{c:UInt8} (hc:(Cf s)[j]?=some c.toNat) (hk:k<8):c.toNat/2^k % 2=bn s/2^(8*j+k) % 2:=by
 have h1:=sK (yP s) hc;rw [←h1,←bn,Ws,WW,show (2^8:Nat)=256 from rfl,←XQ];generalize bn s/256^j=m;have e:(256:Nat)=2^k*2^(8-k):=by rw [←Ws,show k+(8-k)=8 by omega]
 have e2:2^(8-k)=2*2^(7-k):=by rw [←Nat.pow_succ'];congr 1;omega
 rw [e,Nat.mod_mul_right_div_self,e2,Nat.mod_mul_right_mod]
theorem iy (a:ByteArray) (w:World) (ha:a.size≤1000000000):
  Calls Tryz.prog 218 #[.string a] w fun e w'=>∃A c,e=.returned (.slice A (a0 2 (bN a)).length c)∧w'.ownsRow w.heap.size 5 1 (.slice A (a0 2 (bN a)).length c) (a0 2 (bN a)).length (gP (a0 2 (bN a)))∧Below w.heap.size w w':=by
 have hsz:=dD a;have hh:=Hp.start w;refine aj (N:=28) (l:=[.string a]) Tryz.func218 rfl rfl (by simp) ?_;refine sr (aL (aa (sr (aL (aa (ah (sr (mS ?_))))))));refine bA bj.out rfl VY ?_;refine dQ (aI (aa (aq ?_)));replace hh:=hh.ck 5 1;refine bp [3,4,5,9,10,11,12,13,14,15,16,17,18,19,20,21,22,23,24,25] 3 4
  (fun o v w'=>∃(j:Nat) (A:Option Addr) (c:Nat),j≤a.size∧v=.int .i64 ((a.size:Int)-1-j)∧o=.slice A (8*j) c∧Hp w [.row A (8*j) c 5 1 (gP (bW 2 (8*j) (bN a)))] w')
  (fun _ v _=>(intOf v+1).toNat) ?_ ?_
 ·exact ⟨0,none,0,V5 _,by show Value.int _ _=Value.int _ _;congr 1;omega,rfl,hh⟩
 ·clear hh;rintro ρ' o v w' ⟨j,A,c,hj,rfl,rfl,hh⟩;by_cases hlt:j<a.size
  ·obtain ⟨ch,hc⟩:=ak (l:=a.data.toList) (k:=((a.size:Int)-1-j).toNat) VX;have hlo:=I6 (s:=a.data.toList) (i:=j) (c:=ch) VX (by rw [←hc];congr 1;omega);have hc8:=ch.toNat_lt;refine ah (sr (mI ?_));refine dJ (aa (cT (ao (ai (ah (aq (sr (aI (aa (aq ?_))))))))));refine bp [3,5,13,14,15,16,17,18,19,20,21,22,23,24,25] 3 5
    (fun o v w'=>∃(k:Nat) (A:Option Addr) (c:Nat),k≤8∧v=.int .i64 (k:Int)∧o=.slice A (8*j+k) c∧Hp w [.row A (8*j+k) c 5 1 (gP (bW 2 (8*j+k) (bN a)))] w')
    (fun _ v _=>8-(intOf v).toNat) ?_ ?_
   ·exact ⟨0,A,c,V5 _,rfl,rfl,hh⟩
   ·clear hh;rintro ρ2 o v w2 ⟨k,A2,c2,hk,rfl,rfl,hh⟩;by_cases hk8:k<8
    ·have hst:=GX hlo hk8;have hand:∀z:Nat,z &&& 1=z % 2:=fun z=>Nat.and_one_is_mod z;have hcl:ch.toNat/2^(k:Int).toNat<256:=Xb (Yt _ _) hc8;refine ah (sr (mI ?_));refine aW (aa (cT (ao (ai (ah (aq (al (mL (mS (mI ?_))))))))));refine hH ?_;refine mI ?_;refine CA rfl rfl VX VY ?_;refine J2 ?_;refine se ?_;intro b24 w24 hh;refine mF ?_;intro A25 c25 w25 hh;simp only [Wd,WH] at hh;replace hh:=hh.sub (WE _ _);refine jK ?_;refine a9 (aI (aA (ai ?_)));have e1:gP (bW 2 (8*j+k) (bN a))++[Value.int .u8 ((ch.toNat/2^(k:Int).toNat &&& 1:Nat):Int)]=gP (bW 2 (8*j+(k+1)) (bN a)):=by
      rw [hand,Xs,hst,←Nat.add_assoc,lJ,vf];rfl
     rw [e1] at hh;refine ⟨⟨k+1,A25,c25,VX,rfl,rfl,hh⟩,by show 8-(k+1)<8-k;omega, ?_⟩;exact dy
    ·obtain rfl:k=8:=VX;refine ah (sr (mI ?_));refine KA ?_;refine dQ (aI (aA (ai ?_)));refine ⟨⟨j+1,A2,c2,VX,by show Value.int _ _=Value.int _ _;congr 1;omega,rfl,hh⟩,by show ((a.size:Int)-1-j-1+1).toNat<((a.size:Int)-1-j+1).toNat;omega, ?_⟩;exact dy
  ·obtain rfl:j=a.size:=VX;refine ah (sr (mI ?_));refine dJ (aa (cF (aU (aD (aD (bk (ai (sr (mL ?_)))))))));refine br hh (l4 _ _ _ (bW 2 (8*a.size) (bN a)) _ (hh.aC (i:=0) rfl) (hh.fJ (i:=0) rfl) VX) rfl ?_;intro w27 hh;refine aL (aa (au ?_));refine cS ?_;have hb:=wI a;rw [show (256:Nat)=2^8 from rfl,←WW] at hb;have hd:dW (bW 2 (8*a.size) (bN a))=a0 2 (bN a):=by
    rw [iB VX (fm VX _ _),cN hb]
   have h1:=(Hp.RI (xs:=bW 2 (8*a.size) (bN a)) hh (aZ _ _)).at_ (i:=0) rfl;exact Fb
theorem LP {l:List Nat}{v:Nat} (h:j<l.length):l.reverse.set (l.length-1-j) v=(l.set j v).reverse:=by
 apply XN;intro i
 rcases WX i l.length with hi|hi
 ·rw [XE (by rw [YU];exact hi),YU,Yf,Yf,XE hi,W3];by_cases he:l.length-1-j=i
  ·rw [V2 he,V2 VX,V2 VX,V2 h]
  ·rw [V3 he,V3 VX]
 ·rw [WK (by simp;omega),WK (by simp;omega)]
theorem Dw {i:Nat} (P:Nat) (hP:P<2^i) (hb:b<2) (hk:i/8<k):P/256^(i/8) % 256+b*2^(i % 8)<256∧(bW 256 k P).set (i/8) (P/256^(i/8) % 256+b*2^(i % 8))=bW 256 k (P+2^i*b):=by
 have hp:2^i=256^(i/8)*2^(i % 8):=by
  rw [show (256:Nat)=2^8 from rfl,←WW,←Ws];congr 1;omega
 have h1:P/256^(i/8)<2^(i % 8):=by
  rw [Xv (WJ VX),WB,←hp];exact hP
 have h2:2^(i % 8)≤128:=by
  have:=WM (show 0<2 by omega) (show i % 8≤7 by omega);omega
 have h3:P/256^(i/8) % 256<2^(i % 8):=Xb (Nat.mod_le _ _) h1;have h4:b*2^(i % 8)≤1*2^(i % 8):=Xi _ VX;have h5:2^i*b=256^(i/8)*(b*2^(i % 8)):=by rw [hp,W6,WB b]
 refine ⟨VX, ?_⟩;rw [h5];refine p5 VX hk ?_ VX;rw [←h5];have h6:2^i*b≤2^i*1:=WS _ VX;have h7:2^(i+1)≤256^k:=by
  rw [show (256:Nat)=2^8 from rfl,←WW];exact WM VX VX
 rw [WY] at h7;omega
theorem fG (A:Option Addr) (n c:Nat) (xs:List Nat) (w:World) (hx:Sl w A n 1 (gP xs)) (hd:Dg 2 xs) (hc:n≤c) (hn:n≤100000000000):
  Calls Tryz.prog 237 #[.slice A n c] w fun e w'=>e=.returned (.string (sN (bJ 2 xs)))∧Below w.heap.size w w':=by
 have hl:=hx.1;rw [cY] at hl;have hcl:=fO xs;have hcx:=hx.TL;have hcan:=iB VX hd;have hlen:=CH (bJ 2 xs);rw [hcan] at hcl hcx;have hcd:=(eb (B:=2) VX (bJ 2 xs)).1;have hcv:=ea (B:=2) VX (bJ 2 xs);have hbl:(a0 2 (bJ 2 xs)).length=bO (bJ 2 xs):=rfl;have hh:=Hp.start w;refine aj (N:=38) (l:=[.slice A n c]) Tryz.func237 rfl rfl (by simp) ?_;refine sr (aS (aa (sr (mL ?_))));refine br hh (l4 _ _ _ xs _ hx hc VX) rfl ?_;intro w6 hh;rw [hcan];generalize bJ 2 xs=M at*;generalize a0 2 M=xs' at*;refine aL (aa (sr (mL (aF ?_))));refine a9 ?_;refine oJ ?_;refine gj (n:=(xs'.length+7)/8) hh rfl rfl VX VX bj.out aO.out rfl VX VX VY ?_;intro b11 w11 hh;refine EK ?_;rw [pL] at hh;refine aM [4,12,13,14,15,16,17,18,19,20,21,22,23,24,25,26,27,28,29,30,31,32,33,34,35] 4
  (fun v w'=>∃i:Nat,i≤xs'.length∧v=.int .i64 i∧Hp w [.row (some ⟨b11,0,none⟩) ((xs'.length+7)/8) ((xs'.length+7)/8) 5 1 (gP (bW 256 ((xs'.length+7)/8) (bJ 2 (xs'.take i))).reverse)] w')
  (fun v _=>xs'.length-(intOf v).toNat) ?_ ?_
 ·exact ⟨0,V5 _,rfl,by rw [XV,bJ,rH,List.reverse_replicate];exact hh⟩
 ·clear hh;rintro ρ' v w' ⟨i,hi,rfl,hh⟩;by_cases hlt:i<xs'.length
  ·obtain ⟨d,hdi⟩:=ak (l:=xs') (k:=i) VX;obtain ⟨ad,rfl,hr⟩:=hcx.at_ VX;have hd2:=pz hdi;have hdw:=hcd.at_ hdi;have hP:=ja (hcd.take i);rw [Wp,Xd VX] at hP;obtain ⟨s1,s2⟩:=Dw (k:=(xs'.length+7)/8) (bJ 2 (xs'.take i)) hP hdw VX;have hg:(bW 256 ((xs'.length+7)/8) (bJ 2 (xs'.take i))).reverse[(xs'.length+7)/8-1-i/8]?=some (bJ 2 (xs'.take i)/256^(i/8) % 256):=by
    rw [XE (by rw [aZ];omega),aZ,show (xs'.length+7)/8-1-((xs'.length+7)/8-1-i/8)=i/8 by omega];exact iX _ _ _ VX
   have hg2:=pz hg;have e1:((i:Int) % 8).toNat=i % 8:=VX;have hset:=LP (l:=bW 256 ((xs'.length+7)/8) (bJ 2 (xs'.take i))) (j:=i/8) (v:=bJ 2 (xs'.take i)/256^(i/8) % 256+d*2^(i % 8)) (by rw [aZ];omega);rw [aZ,s2] at hset;refine ah (sr (mI (mL (aF ?_))));refine F7 ?_;refine aT 16 [[(3,none)],[(3,none)],[(19,some 1)],[(20,some 2)],[(4,none)],[(22,some 4)],[(21,some 3),(23,some 5)],[(18,some 0),(24,some 6)],[(25,some 7)],[(0,none)],[(4,none)],[(27,some 9),(28,some 10)],[(29,some 11)],[(4,none)],[(31,some 13)],[(30,some 12),(32,some 14)]] [(15,33),(14,32),(13,31),(12,30),(11,29),(10,28),(9,27),(8,26),(7,25),(6,24),(5,23),(4,22),(3,21),(2,20),(1,19),(0,18)] hh mixed VZ ?_;refine dI ?_;refine dI ?_;refine rE ?_;refine pE ?_;refine cM ?_;refine bm (i:=5) (fun ρ1 w1 hj hR=>rf (show ρ1 22=Value.int _ _ from hR.1) rfl VX VX VX) ?_;refine pE ?_;refine FG ((xs'.length+7)/8-1-i/8) ?_;refine bm (i:=8) (fun ρ1 w1 hj hR=>ij aO.out (show ρ1 25=Value.pointer _ from hR.1) (hj.hp.fM (i:=0) rfl (by rw [Wo];exact hg2))) ?_;refine dI ?_;refine cM ?_;refine iL (i) ?_
   refine mO (fun _ hj=>(hr.ext hj.hp.below).su hd2) ?_;refine cM ?_;refine bm (i:=14) (fun ρ1 w1 hj hR=>pr (show ρ1 31=Value.int _ _ from hR.1) rfl VX VX) ?_;refine bm (i:=15) (fun ρ1 w1 hj hR=>yr (show ρ1 30=Value.int _ _ from hR.1) (show ρ1 32=Value.int _ _ from hR.2.1) VX) ?_;refine aJ ?_;intro f W hJ hV;have hb_6:=hJ.bl;obtain ⟨v33,v32,v31,v30,v29,v28,v27,v26,v25,v24,v23,v22,v21,v20,v19,v18,_⟩:=hV;replace hh:=hJ.hp;refine aR (a8 (ae v33 (ae v32 (ae v31 (ae v30 (ae v29 (ae v28 (ae v27 (ae v26 (ae v25 (ae v24 (ae v23 (ae v22 (ae v21 (ae v20 (ae v19 (ae v18 aQ))))))))))))))))) ?_;dsimp only [bH];clear hJ;refine jd rfl rfl VY ?_;refine cX (k:=(xs'.length+7)/8-1-i/8) bj.out aO.size rfl rfl VX VX VY ?_;refine cd hh (i:=0) (vs:=[_]) rfl rfl (cR rfl) rfl aO.out rfl (by rw [cY,W3,aZ];omega) rfl ?_;intro ws hh;simp only [Wd] at hh;rw [e1,WU (show d*2^(i % 8)<256 by omega),WU s1,Wo,cV (by rw [cY,W3,aZ];omega),pS,hset,←fe hdi] at hh;refine xM ?_;refine a9 (aI (aA (ai ?_)))
   refine ⟨⟨i+1,VX,rfl,hh⟩,by show xs'.length-(i+1)<xs'.length-i;omega, ?_⟩;exact dy
  ·obtain rfl:i=xs'.length:=VX;rw [YV,hcv,hbl] at hh;have hfin:gP (bW 256 ((bO M+7)/8) M).reverse=lX (sb M):=by
    rw [←hlen];exact SF
   rw [hfin,←hbl] at hh;refine ah (sr (mI (mL (aF ?_))));refine Ar ?_;exact P0
theorem NT {xs:List Nat} (h:Dg 2 xs) (i:Nat):bJ 2 xs/2^i % 2=(xs[i]?).getD 0:=by
 cases hi:xs[i]? with
 |some d=>exact sK h hi
 |none=>
  rw [uz h (List.getElem?_eq_none_iff.1 hi) VX];rfl
theorem jA (A:Option Addr) (n c i:Nat) (xs:List Nat) (w:World) (hx:Sl w A n 1 (gP xs)) (hd:Dg 2 xs) (hn:n≤1000000000000) (hi:i≤1000000000000):
  Calls Tryz.prog 259 #[.slice A n c,.int .i64 (i:Int)] w fun e w'=>e=.returned (.int .u8 ((bJ 2 xs/2^i % 2:Nat):Int))∧Below w.heap.size w w':=by
 have hl:=hx.1;rw [cY] at hl;have hh:=Hp.start w;rw [NT hd];by_cases hlt:i<n
 ·obtain ⟨d,hdi⟩:=ak (l:=xs) (k:=i) VX;obtain ⟨ad,rfl,hr⟩:=hx.at_ VX;have hd2:=pz hdi;rw [hdi];refine aj (N:=13) (l:=[.slice (some ad) n c,.int .i64 (i:Int)]) Tryz.func259 rfl rfl (by simp) ?_;refine sr (aI (aa (ah (sr (mI (mL (aF ?_)))))));refine aW (aa (cT (sr (mL (mI ?_)))));refine bY ?_;refine gZ ?_;refine aI (aa (au (aE ?_)));refine cS ?_;exact ⟨rfl,hh.below⟩
 ·rw [WK VX];refine aj (N:=13) (l:=[.slice A n c,.int .i64 (i:Int)]) Tryz.func259 rfl rfl (by simp) ?_;refine sr (aI (aa (ah (sr (mI (mL (aF ?_)))))));refine aW (aa (cF (ao (ai (sr (aI (aa (au ?_))))))));refine cS ?_;exact ⟨rfl,hh.below⟩
theorem mh (X i:Nat):X/2^i=2*(X/2^(i+1))+X/2^i % 2:=by
 rw [WY,←XQ];omega
theorem xF {X Y:Nat} (h:X/2^k<Y/2^k):X<Y:=by
 refine YR fun h2=> ?_;have:=Nat.div_le_div_right (c:=2^k) h2;omega
theorem mX (A B:Option Addr) (n c m c':Nat) (xs ys:List Nat) (w:World) (hx:Sl w A n 1 (gP xs)) (hy:Sl w B m 1 (gP ys)) (hdx:Dg 2 xs) (hdy:Dg 2 ys) (hn:n≤100000000000) (hm:m≤100000000000):
  Calls Tryz.prog 258 #[.slice A n c,.slice B m c'] w fun e w'=>e=.returned (.int .i64 (lB (bJ 2 xs) (bJ 2 ys)))∧Below w.heap.size w w':=by
 have hlx:=hx.1;have hly:=hy.1;rw [cY] at hlx hly;have hh:=Hp.start w;have e1:(if (m:Int)>(n:Int) then (m:Int) else (n:Int))-1=((max n m:Nat):Int)-1:=by split<;>omega
 refine aj (N:=30) (l:=[.slice A n c,.slice B m c']) Tryz.func258 rfl rfl (by simp) ?_;refine sr (aI (aa (ah (sr (mL (aF (mL (aF ?_))))))));refine kF rfl rfl VY ?_;refine dQ (aI (aa (aq ?_)));rw [e1];refine aM [4,5,12,13,14,15,16,17,18,19,20,21,22,23,24,25,26,27,28,29] 5
  (fun v w'=>∃k:Nat,k≤max n m∧v=.int .i64 ((k:Int)-1)∧bJ 2 xs/2^k=bJ 2 ys/2^k∧Hp w [] w')
  (fun v _=>(intOf v+1).toNat) ?_ ?_
 ·exact ⟨max n m,V8 _,rfl,by rw [uz hdx VX VX,uz hdy VX VX],hh⟩
 ·clear hh;rintro ρ' v w' ⟨k,hk,rfl,heq,hh⟩;by_cases h0:k=0
  ·subst h0;refine ah (sr (mI ?_));refine dJ (aa (cF (aU (aD (aD (bk (ai (sr (aI (aa (au ?_)))))))))));refine cS ?_;rw [YF,Nat.div_one,Nat.div_one] at heq;exact ⟨by rw [Fj heq],hh.below⟩
  ·obtain ⟨j,rfl⟩:∃j,k=j+1:=⟨k-1,VX⟩;have hj:((j+1:Nat):Int)-1=(j:Int):=VX;have hXb:=mh (bJ 2 xs) j;have hYb:=mh (bJ 2 ys) j;by_cases hlt:bJ 2 xs/2^j % 2<bJ 2 ys/2^j % 2
   ·have hf:bJ 2 xs<bJ 2 ys:=xF (k:=j) VX;rw [hj];refine ah (sr (mI ?_));refine JI ?_;refine As ?_;intro w18 hh;refine mL (mI ?_);refine Af ?_;intro w21 hh;refine aW (aa (cT (sr (aI (aa (au (aE (bI (aE (aE (bI (aE ?_))))))))))));refine cS ?_;exact ⟨by rw [ma hf],hh.below⟩
   ·by_cases hgt:bJ 2 ys/2^j % 2<bJ 2 xs/2^j % 2
    ·have hf:bJ 2 ys<bJ 2 xs:=xF (k:=j) VX;rw [hj];refine ah (sr (mI ?_));refine JI ?_;refine As ?_;intro w18 hh;refine mL (mI ?_);refine Af ?_;intro w21 hh;refine aW (aa (cF (ao (ai (sr (mL (mI ?_)))))));refine As ?_;intro w25 hh;refine mL (mI ?_);refine Af ?_;intro w28 hh;refine bM (aa (cT (sr (aI (aa (au (bI (aE (aE (bI (aE ?_)))))))))));refine cS ?_;exact ⟨by rw [yC hf],hh.below⟩
    ·rw [hj];refine ah (sr (mI ?_));refine JI ?_;refine As ?_;intro w18 hh;refine mL (mI ?_);refine Af ?_;intro w21 hh;refine aW (aa (cF (ao (ai (sr (mL (mI ?_)))))));refine As ?_;intro w25 hh;refine mL (mI ?_);refine Af ?_;intro w28 hh;refine bM (aa (cF (ao (bF (ai (al (mI ?_)))))));refine dQ (aI (aA (ai ?_)));refine ⟨⟨j,VX,rfl,VX,hh⟩,by show ((j:Int)-1+1).toNat<((j:Int)+1).toNat;omega, ?_⟩;exact dy
theorem LJ (S T i:Nat):(S+T)/2^i % 2=(S/2^i % 2+(S % 2^i+T % 2^i)/2^i+T/2^i % 2) % 2∧(S % 2^(i+1)+T % 2^(i+1))/2^(i+1)=(S/2^i % 2+(S % 2^i+T % 2^i)/2^i+T/2^i % 2)/2∧(S % 2^i+T % 2^i)/2^i≤1:=by
 have hS:=XH S (2^i);have hT:=XH T (2^i);have hp:0<2^i:=WJ VX;have hS2:S % 2^(i+1)=S % 2^i+2^i*(S/2^i % 2):=by rw [WY,Nat.mod_mul]
 have hT2:T % 2^(i+1)=T % 2^i+2^i*(T/2^i % 2):=by rw [WY,Nat.mod_mul]
 have hSl:=Wy S hp;have hTl:=Wy T hp;have hc:=XH (S % 2^i+T % 2^i) (2^i);have hcl:=Wy (S % 2^i+T % 2^i) hp;have hc1:(S % 2^i+T % 2^i)/2^i≤1:=by
  have:(S % 2^i+T % 2^i)/2^i<2:=by rw [Xv hp];omega
  omega
 have e1:(S+T)/2^i=S/2^i+T/2^i+(S % 2^i+T % 2^i)/2^i:=by
  have:S+T=(S % 2^i+T % 2^i) % 2^i+2^i*(S/2^i+T/2^i+(S % 2^i+T % 2^i)/2^i):=by
   rw [W0,W0];omega
  conv=>lhs;rw [this]
  rw [XC _ _ hp,Xg hcl,Wr]
 refine ⟨by rw [e1];omega, ?_,hc1⟩;rw [hS2,hT2];have e2:S % 2^i+2^i*(S/2^i % 2)+(T % 2^i+2^i*(T/2^i % 2))=(S % 2^i+T % 2^i) % 2^i+2^i*(S/2^i % 2+(S % 2^i+T % 2^i)/2^i+T/2^i % 2):=by
  rw [W0,W0];omega
 rw [e2,WY,←XQ,XC _ _ hp,Xg hcl,Wr]
theorem Q0 (Y up i:Nat):Y*2^up/2^i % 2=if up≤i then Y/2^(i-up) % 2 else 0:=by
 split
 ·rename_i h;have e:2^i=2^up*2^(i-up):=by rw [←Ws];congr 1;omega
  rw [e,←XQ,Nat.mul_div_cancel _ (WJ VX)]
 ·rename_i h;have e:2^up=2^i*2*2^(up-i-1):=by rw [←WY,←Ws];congr 1;omega
  have e2:Y*2^up=2^i*(2*(Y*2^(up-i-1))):=by rw [e];simp only [W6,Y4]
  rw [e2,Nat.mul_div_cancel_left _ (WJ VX)];omega
theorem OP {K i:Nat} (h:i<K):(bW 2 i N++List.replicate (K-i) 0).set i (N/2^i % 2)=bW 2 (i+1) N++List.replicate (K-(i+1)) 0:=by
 rw [show K-i=(K-(i+1))+1 by omega,Yi,X4 _ _ (by rw [aZ];omega),aZ,W9,Wd,lJ];simp
theorem np (A B:Option Addr) (n c m c' up:Nat) (xs ys:List Nat) (w:World) (hx:Sl w A n 1 (gP xs)) (hy:Sl w B m 1 (gP ys)) (hdx:Dg 2 xs) (hdy:Dg 2 ys) (hn:n≤100000000000) (hm:m≤100000000000) (hup:up≤100000000000):
  Calls Tryz.prog 240 #[.slice A n c,.slice B m c',.int .i64 (up:Int)] w fun e w'=>∃b,e=.returned (.slice (some ⟨b,0,none⟩) (max n (m+up)+1) (max n (m+up)+1))∧w'.ownsRow w.heap.size 5 1 (.slice (some ⟨b,0,none⟩) (max n (m+up)+1) (max n (m+up)+1)) (max n (m+up)+1) (gP (bW 2 (max n (m+up)+1) (bJ 2 xs+bJ 2 ys*2^up)))∧Below w.heap.size w w':=by
 have hlx:=hx.1;have hly:=hy.1;rw [cY] at hlx hly;have hh:=Hp.start w;have e1:(if ((m:Int)+(up:Int))>(n:Int) then ((m:Int)+(up:Int)) else (n:Int))+1=((max n (m+up)+1:Nat):Int):=by split<;>omega
 have hand:∀z:Nat,z &&& 1=z % 2:=fun z=>Nat.and_one_is_mod z;refine aj (N:=49) (l:=[.slice A n c,.slice B m c',.int .i64 (up:Int)]) Tryz.func240 rfl rfl (by simp) ?_;refine sr (aL (aa (sr (mL (aF (mL (aF (mI ?_))))))));refine a9 ?_;refine kF rfl rfl VY ?_;refine a9 ?_;rw [e1];generalize hK:max n (m+up)+1=K at*;refine gj (n:=K) hh rfl rfl VX VX bj.out aO.out rfl VX VX VY ?_;intro b19 w19 hh;refine aL (aa (sr (aI (aa (ah (sr (aI (aa (aq ?_)))))))));rw [pL] at hh;refine bp [8,9,10,20,21,22,23,24,25,26,27,28,29,30,31,32,33,34,35,36,37,38,39,40,41,42,43,44,45,46,47] 8 9
  (fun cr v w'=>∃i:Nat,i≤K∧v=.int .i64 (i:Int)∧cr=.int .u8 (((bJ 2 xs % 2^i+bJ 2 ys*2^up % 2^i)/2^i:Nat):Int)∧Hp w [.row (some ⟨b19,0,none⟩) K K 5 1 (gP (bW 2 i (bJ 2 xs+bJ 2 ys*2^up)++List.replicate (K-i) 0))] w')
  (fun _ v _=>K-(intOf v).toNat) ?_ ?_
 ·exact ⟨0,V5 _,rfl,by simp [Nat.mod_one];rfl,hh⟩
 ·clear hh;rintro ρ' cr v w' ⟨i,hi,rfl,rfl,hh⟩;by_cases hlt:i<K
  ·obtain ⟨b1,b2,b3⟩:=LJ (bJ 2 xs) (bJ 2 ys*2^up) i;have hbu:=Q0 (bJ 2 ys) up i;have hxb:bJ 2 xs/2^i % 2<2:=Wy _ VX;have hyb:bJ 2 ys/2^(i-up) % 2<2:=Wy _ VX;have hll:(gP (bW 2 i (bJ 2 xs+bJ 2 ys*2^up)++List.replicate (K-i) 0)).length=K:=by rw [cY,Wc,aZ,Xo];omega
   have hfk:=OP (N:=bJ 2 xs+bJ 2 ys*2^up) hlt;generalize hC:(bJ 2 xs % 2^i+bJ 2 ys*2^up % 2^i)/2^i=C at*;generalize hX:bJ 2 xs/2^i % 2=X at*;refine ah (sr (mI (mL (aF ?_))));refine je ?_;refine br hh (jA A n c i xs _ (hx.ext hh.below) hdx VX VX) rfl ?_;intro w28 hh;rw [hX];by_cases hiu:up≤i
   ·rw [V2 hiu] at hbu;rw [hbu] at b1 b2;generalize hY:bJ 2 ys/2^(i-up) % 2=Y at*;have es:((X+C) % 256+Y) % 256=X+C+Y:=VX;have ei:(i:Int)-(up:Int)=((i-up:Nat):Int):=VX;refine mI ?_;refine jd rfl rfl VY ?_;refine aI (aa (ah (sr (mI (mI ?_)))));refine dJ (aa (cT (al (mI (mL (mI (mI ?_)))))));refine dQ ?_;rw [ei];refine br hh (jA B m c' (i-up) ys _ (hy.ext hh.below) hdy VX VX) rfl ?_;intro w39 hh;rw [hY];refine jd rfl rfl VY ?_;refine aI (aa (sr (mL (mI (mI ?_)))));exact Pj
   ·rw [V3 hiu] at hbu;rw [hbu] at b1 b2;have es:(X+C) % 256=X+C+0:=VX;refine mI ?_;refine jd rfl rfl VY ?_;refine aI (aa (ah (sr (mI (mI ?_)))));refine dJ (aa (cF (ao (ai (sr (mL (mI (mI ?_))))))));exact Pj
  ·obtain rfl:i=K:=VX;exact Te
theorem L0 {X Y:Nat} (h:Y≤X) (i:Nat):((2+X/2^i % 2+256-Y/2^i % 2) % 256+256-(if X % 2^i<Y % 2^i then 1 else 0)) % 256 % 2=(X-Y)/2^i % 2∧
  (1+256-((2+X/2^i % 2+256-Y/2^i % 2) % 256+256-(if X % 2^i<Y % 2^i then 1 else 0)) % 256/2) % 256=(if X % 2^(i+1)<Y % 2^(i+1) then 1 else 0):=by
 have hX:=XH X (2^i);have hY:=XH Y (2^i);have hp:0<2^i:=WJ VX;have hX2:X % 2^(i+1)=X % 2^i+2^i*(X/2^i % 2):=by rw [WY,Nat.mod_mul]
 have hY2:Y % 2^(i+1)=Y % 2^i+2^i*(Y/2^i % 2):=by rw [WY,Nat.mod_mul]
 have hXl:=Wy X hp;have hYl:=Wy Y hp;rw [hX2,hY2];generalize hx1:X/2^i=x1 at*;generalize hy1:Y/2^i=y1 at*;generalize hx0:X % 2^i=x0 at*;generalize hy0:Y % 2^i=y0 at*;have key:∀b:Nat,b=(if x0<y0 then 1 else 0)→(X-Y)/2^i=x1-y1-b∧y1+b≤x1:=by
  intro b hb;have hle:y1+b≤x1:=by
   refine Nat.le_of_not_lt fun hlt=> ?_;have h1:2^i*(x1+1)≤2^i*(y1+b):=WS _ hlt;rw [W0,W0] at h1;split at hb
   ·subst hb;omega
   ·subst hb;omega
  refine ⟨?_,hle⟩;have e:X-Y=(x0+2^i*b-y0)+2^i*(x1-y1-b):=by
   have h2:2^i*(x1-y1-b)=2^i*x1-2^i*y1-2^i*b:=by rw [Nat.mul_sub,Nat.mul_sub]
   have h3:2^i*(y1+b)≤2^i*x1:=WS _ hle;rw [W0] at h3;split at hb
   ·subst hb;omega
   ·subst hb;omega
  rw [e,XC _ _ hp,Xg,Wr];split at hb
  ·subst hb;omega
  ·subst hb;omega
 obtain ⟨k1,k2⟩:=key _ rfl;rw [k1];have hlt:(x0+2^i*(x1 % 2)<y0+2^i*(y1 % 2))↔(x1 % 2<y1 % 2∨x1 % 2=y1 % 2∧x0<y0):=by
  rcases Nat.mod_two_eq_zero_or_one x1 with h1|h1<;>rcases Nat.mod_two_eq_zero_or_one y1 with h2|h2<;>rw [h1,h2]<;>omega
 by_cases hb:x0<y0
 ·rw [V2 hb] at k2 ⊢;exact Qg
 ·rw [V3 hb] at k2 ⊢;exact Qg
theorem pT (A B:Option Addr) (n c m c':Nat) (xs ys:List Nat) (w:World) (hx:Sl w A n 1 (gP xs)) (hy:Sl w B m 1 (gP ys)) (hdx:Dg 2 xs) (hdy:Dg 2 ys) (hn:n≤100000000000) (hm:m≤100000000000) (hle:bJ 2 ys≤bJ 2 xs):
  Calls Tryz.prog 242 #[.slice A n c,.slice B m c'] w fun e w'=>∃b,e=.returned (.slice (some ⟨b,0,none⟩) n n)∧w'.ownsRow w.heap.size 5 1 (.slice (some ⟨b,0,none⟩) n n) n (gP (bW 2 n (bJ 2 xs-bJ 2 ys)))∧Below w.heap.size w w':=by
 have hlx:=hx.1;have hly:=hy.1;rw [cY] at hlx hly;have hh:=Hp.start w;have hand:∀z:Nat,z &&& 1=z % 2:=fun z=>Nat.and_one_is_mod z;refine aj (N:=37) (l:=[.slice A n c,.slice B m c']) Tryz.func242 rfl rfl (by simp) ?_;refine sr (aL (aa (sr (mL (aF ?_)))));refine JT ?_;intro b11 w11 hh;refine aL (aa (sr (aI (aa (ah (sr (aI (aa (aq ?_)))))))));rw [pL] at hh;refine bp [6,7,8,12,13,14,15,16,17,18,19,20,21,22,23,24,25,26,27,28,29,30,31,32,33,34,35] 6 7
  (fun cr v w'=>∃i:Nat,i≤n∧v=.int .i64 (i:Int)∧cr=.int .u8 ((if bJ 2 xs % 2^i<bJ 2 ys % 2^i then 1 else 0:Nat):Int)∧Hp w [.row (some ⟨b11,0,none⟩) n n 5 1 (gP (bW 2 i (bJ 2 xs-bJ 2 ys)++List.replicate (n-i) 0))] w')
  (fun _ v _=>n-(intOf v).toNat) ?_ ?_
 ·exact ⟨0,V5 _,rfl,by simp [Nat.mod_one];rfl,hh⟩
 ·clear hh;rintro ρ' cr v w' ⟨i,hi,rfl,rfl,hh⟩;by_cases hlt:i<n
  ·obtain ⟨b1,b2⟩:=L0 hle i;have hxb:bJ 2 xs/2^i % 2<2:=Wy _ VX;have hyb:bJ 2 ys/2^i % 2<2:=Wy _ VX;have hcb:(if bJ 2 xs % 2^i<bJ 2 ys % 2^i then 1 else 0:Nat)≤1:=by split<;>omega
   have hll:(gP (bW 2 i (bJ 2 xs-bJ 2 ys)++List.replicate (n-i) 0)).length=n:=by rw [cY,Wc,aZ,Xo];omega
   have hfk:=OP (N:=bJ 2 xs-bJ 2 ys) hlt;refine ah (sr (mI (mL (aF ?_))));refine je ?_;refine br hh (jA A n c i xs _ (hx.ext hh.below) hdx VX VX) rfl ?_;intro w20 hh;refine jd (a:=2) rfl rfl VY ?_;refine mL (mI ?_);refine br hh (jA B m c' i ys _ (hy.ext hh.below) hdy VX VX) rfl ?_;intro w24 hh;generalize hC:(if bJ 2 xs % 2^i<bJ 2 ys % 2^i then 1 else 0:Nat)=C at*;generalize hX:bJ 2 xs/2^i % 2=X at*;generalize hY:bJ 2 ys/2^i % 2=Y at*;have es:((2+X) % 256+256-Y) % 256=(2+X+256-Y) % 256:=VX;have hS:((2+X+256-Y) % 256+256-C) % 256<256:=Wy _ VX;refine DM rfl rfl VX VY ?_;refine mI ?_;rw [es];refine DM rfl rfl VX VY ?_;refine aI (aa (sr (mL (mI (mI ?_)))));refine J2 ?_;refine gh ?_;refine Gp ?_;intro ws hh;simp only [Wd] at hh;rw [hand,b1,Wo,cV (by rw [hll];omega),pS,hfk] at hh;refine aa (al (mI ?_));refine md (s:=1) (m:=2) rfl rfl VY VY VY ?_;refine DM (a:=1) rfl rfl VX VY ?_;refine aI (aA (bF (ai (al (mI ?_)))));refine a9 (aI (aA (ai ?_)));refine ⟨⟨i+1,VX,rfl,by rw [←b2];rfl,hh⟩,by show n-(i+1)<n-i;omega, ?_⟩;exact dy
  ·obtain rfl:i=n:=VX;exact Te
theorem wR (n:Nat) (w:World) (hn:n<18446744073709551616):
  Calls Tryz.prog 211 #[.int .u64 (n:Int)] w fun e w'=>e=.returned (.string (sN n))∧Below w.heap.size w w':=by
 have hh:=Hp.start w;refine aj (N:=16) (l:=[.int .u64 (n:Int)]) Tryz.func211 rfl rfl (by simp) ?_;refine sr (aS (aa (sr (aL (aa (ah (aq ?_)))))));replace hh:=hh.ck 5 1;refine bp [0,3,4,5,6,7,8,9,10,11,12,13] 0 3
  (fun v o w'=>∃(k m:Nat) (A:Option Addr) (c:Nat),v=.int .u64 (m:Int)∧m<18446744073709551616∧k≤64∧m<2^(64-k)∧o=.slice A k c∧m=n/2^k∧Hp w [.row A k c 5 1 (gP (bW 2 k n))] w')
  (fun v _ _=>(intOf v).toNat) ?_ ?_
 ·exact ⟨0,n,none,0,rfl,hn,VX,by simpa using hn,rfl,by simp,hh⟩
 ·clear hh;rintro ρ' v o w' ⟨k,m,A,c,rfl,hm,hk,hmk,rfl,hmn,hh⟩;by_cases h0:m=0
  ·subst h0;refine ah (sr (mI ?_));refine bM (aa (cF (aU (aD (aD (bk (ai (sr (mL ?_)))))))));refine br hh (fG _ _ _ (bW 2 k n) _ (hh.aC (i:=0) rfl) (fm VX _ _) (hh.fJ (i:=0) rfl) VX) rfl ?_;intro w15 hh;have hlt:n<2^k:=by
    have:=XH n (2^k);have h2:=Wy n (WJ (n:=k) (show 0<2 by omega));rw [←hmn] at this;omega
   rw [cN hlt];exact BH
  ·have hk64:k<64:=by
    refine YR fun h=> ?_;rw [show 64-k=0 by omega] at hmk;omega
   have hm2:m % 2<256:=VX;refine ah (sr (mI ?_));refine bM (aa (cT (ao (ai (ah (aq (al (mL (mI ?_)))))))));refine D4 (b:=2) rfl rfl VX VY ?_;refine mH ?_;refine se ?_;intro b12 w12 hh;refine mF ?_;intro A13 c13 w13 hh;simp only [Wd,WH] at hh;replace hh:=hh.sub (WE _ _);refine jK ?_;refine Qw (b:=2) rfl rfl VX (by first|assumption|omega) VY ?_;refine aI (aA (ai ?_));have e1:gP (bW 2 k n)++[Value.int .u8 ((m % 2:Nat):Int)]=gP (bW 2 (k+1) n):=by
    rw [hmn,lJ,vf];rfl
   rw [e1] at hh;refine ⟨⟨k+1,m/2,A13,c13,rfl,VX,VX, ?_,rfl, ?_,hh⟩,by show (((m/2:Nat):Int)).toNat<((m:Int)).toNat;omega, ?_⟩
   ·rw [show 64-k=(64-(k+1))+1 by omega,WY] at hmk;omega
   ·rw [hmn,XQ,WY]
   ·exact dy
theorem gB (a:ByteArray):(a0 2 (bN a)).length≤8*a.size:=fK a
theorem jZ (n:Nat):Dg 2 (a0 2 n):=(eb VX n).1
theorem gR (n:Nat):bJ 2 (a0 2 n)=n:=ea VX n
theorem tP (a b:ByteArray) (w:World) (ha:a.size≤1000000000) (hb:b.size≤1000000000):
  Calls Tryz.prog 241 #[.string a,.string b] w fun e w'=>e=.returned (.int .i64 (lB (bN a) (bN b)))∧Below w.heap.size w w':=by
 have hh:=Hp.start w;have h1:=gB a;have h2:=gB b;refine aj (N:=10) (l:=[.string a,.string b]) Tryz.func241 rfl rfl (by simp) ?_;refine sr (aI (aa (sr (mS ?_))));refine xf ?_;rintro e_ w6 ⟨A6,c6,rfl,hown_,hb_⟩;refine ⟨_,rfl, ?_⟩;replace hh:=hh.aY (x:=.row _ _ _ _ _ _) hb_ hown_;refine mS ?_;refine E1 ?_;rintro e_ w8 ⟨A8,c8,rfl,hown_,hb_⟩;refine ⟨_,rfl, ?_⟩;replace hh:=hh.aY (x:=.row _ _ _ _ _ _) hb_ hown_;refine br hh (mX _ _ _ _ _ _ (a0 2 (bN a)) (a0 2 (bN b)) _ (hh.aC (i:=1) rfl) (hh.aC (i:=0) rfl) (jZ _) (jZ _) VX VX) rfl ?_;intro w9 hh;rw [gR,gR];exact vJ
theorem pH (a:ByteArray) (w:World) (ha:a.size≤1000000000):
  Calls Tryz.prog 239 #[.string a] w fun e w'=>e=.returned (.int .i64 (bO (bN a)))∧Below w.heap.size w w':=by
 have hh:=Hp.start w;refine aj (N:=6) (l:=[.string a]) Tryz.func239 rfl rfl (by simp) ?_;refine sr (aI (aa (sr (mS ?_))));refine xf ?_;rintro e_ w4 ⟨A4,c4,rfl,hown_,hb_⟩;refine ⟨_,rfl, ?_⟩;replace hh:=hh.aY (x:=.row _ _ _ _ _ _) hb_ hown_;refine aF (aI (aa (au ?_)));refine cS ?_;exact ⟨rfl,hh.below⟩
theorem oW (a b:ByteArray) (w:World) (ha:a.size≤1000000000) (hb:b.size≤1000000000):
  Calls Tryz.prog 216 #[.string a,.string b] w fun e w'=>e=.returned (.tuple #[.string (sN (bN a-bN b)),.bool (decide (bN b≤bN a))])∧Below w.heap.size w w':=by
 have hh:=Hp.start w;have h1:=gB a;have h2:=gB b;by_cases hlt:bN a<bN b
 ·refine aj (N:=16) (l:=[.string a,.string b]) Tryz.func216 rfl rfl (by simp) ?_;refine sr (aS (aB (aa (ah (sr (mS (mS ?_)))))));refine br hh (tP a b _ ha hb) rfl ?_;intro w8 hh;rw [ma hlt];exact SM
 ·have hc:¬lB (bN a) (bN b)<0:=by unfold lB;split<;>(try split)<;>omega
  have hbl:bN a-bN b<2^(a0 2 (bN a)).length:=Xb (Nat.sub_le _ _) (dk (bN a));refine aj (N:=16) (l:=[.string a,.string b]) Tryz.func216 rfl rfl (by simp) ?_;refine sr (aS (aB (aa (ah (sr (mS (mS ?_)))))));refine br hh (tP a b _ ha hb) rfl ?_;intro w8 hh;refine aW (aa (cF (ao (ai (sr (mS ?_))))));refine xf ?_;rintro e_ w11 ⟨A11,c11,rfl,hown_,hb_⟩;refine ⟨_,rfl, ?_⟩;replace hh:=hh.aY (x:=.row _ _ _ _ _ _) hb_ hown_;refine mS ?_;refine E1 ?_;rintro e_ w13 ⟨A13,c13,rfl,hown_,hb_⟩;refine ⟨_,rfl, ?_⟩;replace hh:=hh.aY (x:=.row _ _ _ _ _ _) hb_ hown_;refine aG (pT _ _ _ _ _ _ (a0 2 (bN a)) (a0 2 (bN b)) _ (hh.aC (i:=1) rfl) (hh.aC (i:=0) rfl) (jZ _) (jZ _) VX VX (by rw [gR,gR];omega)) ar.out rfl VY ?_;rintro e_ w_ ⟨b14,rfl,hown_,hb_⟩;refine ⟨_,rfl, ?_⟩;replace hh:=hh.aY (x:=.row _ _ _ _ _ _) hb_ hown_;rw [gR,gR] at hh;refine br hh (fG _ _ _ (bW 2 (a0 2 (bN a)).length (bN a-bN b)) _ (hh.aC (i:=0) rfl) (fm VX _ _) (V8 _) VX) rfl ?_;intro w15 hh;rw [cN hbl];exact Pv
theorem CB (a:ByteArray) (m:Nat) (w:World) (ha:a.size≤1000000000) (hm:m≤10000000000):
  Calls Tryz.prog 217 #[.string a,.int .i64 (m:Int)] w fun e w'=>e=.returned (.string (sN (bN a*2^m)))∧Below w.heap.size w w':=by
 have hh:=Hp.start w;have h1:=gB a;have e1:(if (0:Int)>(m:Int) then 0 else (m:Int))=m:=V3 VX;have hbd:bN a*2^m<2^(max 0 ((a0 2 (bN a)).length+m)+1):=by
  refine Xa (dk _) (WM VX ?_);have:=iU (bN a) m;show bO _≤max 0 (bO _+m)+1;omega
 refine aj (N:=11) (l:=[.string a,.int .i64 (m:Int)]) Tryz.func217 rfl rfl (by simp) ?_;refine sr (aS (aa (sr (mS ?_))));refine xf ?_;rintro e_ w6 ⟨A6,c6,rfl,hown_,hb_⟩;refine ⟨_,rfl, ?_⟩;replace hh:=hh.aY (x:=.row _ _ _ _ _ _) hb_ hown_;refine mI ?_;refine kF rfl rfl VY ?_;rw [e1];refine aG (np none _ 0 0 _ _ m [] (a0 2 (bN a)) _ (Sl.nil _ _ _) (hh.aC (i:=0) rfl) Dg.nil (jZ _) VX VX VX) ar.out rfl VY ?_;rintro e_ w_ ⟨b9,rfl,hown_,hb_⟩;refine ⟨_,rfl, ?_⟩;replace hh:=hh.aY (x:=.row _ _ _ _ _ _) hb_ hown_;rw [gR,bJ,Wr] at hh;refine br hh (fG _ _ _ (bW 2 (max 0 ((a0 2 (bN a)).length+m)+1) (bN a*2^m)) _ (hh.aC (i:=0) rfl) (fm VX _ _) (V8 _) VX) rfl ?_;intro w10 hh;rw [cN hbd];exact BH
theorem DN (L:Option Addr) (n c:Nat) (ss:List ByteArray) (w:World) (hS:Sl w L n 1 (iq ss)) (hn:n≤1000000) (hs:∀s∈ss,s.size≤1000000000):
  Calls Tryz.prog 215 #[.slice L n c] w fun e w'=>e=.returned (.string (sN (ss.map bN).sum))∧Below w.heap.size w w':=by
 have hsl:ss.length=n:=by have:=hS.1;rw [na] at this;omega
 have hh:=Hp.start w;refine aj (N:=20) (l:=[.slice L n c]) Tryz.func215 rfl rfl (by simp) ?_;refine sr (aS (aa (sr (aL (aa (ah (sr (aI (aa (aq ?_))))))))));replace hh:=hh.ck 5 1;refine bp [3,4,5,6,7,8,9,10,11,12,13,14,15,16,17] 3 4
  (fun v j w'=>∃(i:Nat) (A:Option Addr) (c' T K:Nat),i≤n∧j=.int .i64 i∧T=((ss.take i).map bN).sum∧v=.slice A K c'∧K≤8000000000+i∧T<2^K∧Hp w [.row A K c' 5 1 (gP (bW 2 K T))] w')
  (fun _ j _=>n-(intOf j).toNat) ?_ ?_
 ·exact ⟨0,none,0,0,0,V5 _,rfl,rfl,rfl,VX,by simp,hh⟩
 ·clear hh;rintro ρ' v j w' ⟨i,A,c',T,K,hi,rfl,hT,rfl,hTl,hTb,hh⟩;by_cases hlt:i<n
  ·obtain ⟨s,hsi⟩:=ak (l:=ss) (k:=i) VX;obtain ⟨ad,rfl,hr⟩:=hS.at_ VX;have hs2:=s7 hsi;have hsz:=hs s (V7 hsi);have hlx:=gB s;have hT2:((ss.take (i+1)).map bN).sum=T+bN s:=by rw [aw hsi,WT,YC,q9,hT]
   have hbs:bN s<2^(a0 2 (bN s)).length:=dk _;have hb2:T+bN s<2^(max K ((a0 2 (bN s)).length+0)+1):=by
    have h1:2^K≤2^max K ((a0 2 (bN s)).length+0):=WM VX VX;have h2:2^(a0 2 (bN s)).length≤2^max K ((a0 2 (bN s)).length+0):=WM VX VX;rw [WY];omega
   refine ah (sr (mI (mL (aF ?_))));refine B5 ?_;refine bY ?_;refine gZ ?_;refine aG (iy s _ hsz) ar.out rfl VY ?_;rintro e_ w16 ⟨A16,c16,rfl,hown_,hb_⟩;refine ⟨_,rfl, ?_⟩;replace hh:=hh.aY (x:=.row _ _ _ _ _ _) hb_ hown_;refine aG (np _ _ _ _ _ _ 0 (bW 2 K T) (a0 2 (bN s)) _ (hh.aC (i:=1) rfl) (hh.aC (i:=0) rfl) (fm VX _ _) (jZ _) VX VX VX) ar.out rfl VY ?_;rintro e_ w_ ⟨b17,rfl,hown_,hb_⟩;refine ⟨_,rfl, ?_⟩;rw [gR,cN hTb,YF,Wo] at hown_;replace hh:=(hh.aY (x:=.row _ _ _ _ _ _) hb_ hown_).sub (Yo [_] _);refine jK ?_;refine a9 (aI (aA (ai ?_)));refine ⟨⟨i+1,_,_,T+bN s,_,VX,rfl,hT2.symm,rfl,VX,hb2,hh⟩,by show n-(i+1)<n-i;omega, ?_⟩;exact dy
  ·refine ah (sr (mI (mL (aF ?_))));refine Ar ?_;refine br hh (fG _ _ _ (bW 2 K T) _ (hh.aC (i:=0) rfl) (fm VX _ _) (hh.fJ (i:=0) rfl) VX) rfl ?_;intro w19 hh;rw [cN hTb];exact Qc
theorem Ek (a b:ByteArray) (w:World) (ha:a.size≤1000000000) (hb:b.size≤1000000000):
  Calls Tryz.prog 214 #[.string a,.string b] w fun e w'=>e=.returned (.string (sN (bN a*bN b)))∧Below w.heap.size w w':=by
 have hh:=Hp.start w;have h1:=gB a;have h2:=gB b;have hYl:bN b<2^(a0 2 (bN b)).length:=dk _;have hXd:=jZ (bN a);have hX:=gR (bN a);refine aj (N:=30) (l:=[.string a,.string b]) Tryz.func214 rfl rfl (by simp) ?_;refine sr (aS (aa (sr (mS ?_))));refine xf ?_;rintro e_ w10 ⟨A10,c10,rfl,hown_,hb_⟩;refine ⟨_,rfl, ?_⟩;replace hh:=hh.aY (x:=.row _ _ _ _ _ _) hb_ hown_;refine mS ?_;refine E1 ?_;rintro e_ w12 ⟨A12,c12,rfl,hown_,hb_⟩;refine ⟨_,rfl, ?_⟩;replace hh:=hh.aY (x:=.row _ _ _ _ _ _) hb_ hown_;generalize a0 2 (bN a)=xs at*;refine aL (aL (aa (sr (aL (aa (ah (sr (aI (aa (aq ?_))))))))));replace hh:=hh.ck 5 1;refine bp [7,8,13,14,15,16,17,18,19,20,21,22,23,24,25,26,27] 7 8
  (fun v j w'=>∃(i:Nat) (A:Option Addr) (c' P K:Nat),i≤xs.length∧j=.int .i64 i∧P=bJ 2 (xs.take i)*bN b∧v=.slice A K c'∧K≤(a0 2 (bN b)).length+i∧P<2^K∧Hp w [.row A K c' 5 1 (gP (bW 2 K P)),.row A12 (a0 2 (bN b)).length c12 5 1 (gP (a0 2 (bN b))),.row A10 xs.length c10 5 1 (gP xs)] w')
  (fun _ j _=>xs.length-(intOf j).toNat) ?_ ?_
 ·exact ⟨0,none,0,0,0,V5 _,rfl,by simp [bJ],rfl,VX,by simp,hh⟩
 ·clear hh;rintro ρ' v j w' ⟨i,A,c',P,K,hi,rfl,hP,rfl,hK,hPb,hh⟩;by_cases hlt:i<xs.length
  ·obtain ⟨d,hd⟩:=ak (l:=xs) (k:=i) VX;have hd2:=pz hd;have hdw:=hXd.at_ hd;have hsn:=fe (B:=2) hd;obtain ⟨g,rfl⟩:=hh.cu (i:=2) rfl VX;by_cases h0:d=0
   ·subst h0;refine ah (sr (mI (mL (aF ?_))));refine je ?_;refine gh ?_;refine F3 ?_;refine cB (aa (cF (ao (bF (ai (al (mI ?_)))))));refine a9 (aI (aA (ai ?_)));refine ⟨⟨i+1,_,_,P,_,VX,rfl,by rw [hsn,hP];simp,rfl,VX,hPb,hh⟩,by show xs.length-(i+1)<xs.length-i;omega, ?_⟩;exact dy
   ·obtain rfl:d=1:=VX;have hb2:P+bN b*2^i<2^(max K ((a0 2 (bN b)).length+i)+1):=by
     have h1:2^K≤2^max K ((a0 2 (bN b)).length+i):=WM VX VX;have h2:2^((a0 2 (bN b)).length+i)≤2^max K ((a0 2 (bN b)).length+i):=WM VX VX;have h3:bN b*2^i<2^(a0 2 (bN b)).length*2^i:=Yr hYl (WJ VX);rw [←Ws] at h3;rw [WY];omega
    refine ah (sr (mI (mL (aF ?_))));refine je ?_;refine gh ?_;refine F3 ?_;refine cB (aa (cT (al (mL (mL (mI ?_))))));refine aG (np _ _ _ _ _ _ i (bW 2 K P) (a0 2 (bN b)) _ (hh.aC (i:=0) rfl) (hh.aC (i:=1) rfl) (fm VX _ _) (jZ _) VX VX VX) ar.out rfl VY ?_;rintro e_ w_ ⟨b27,rfl,hown_,hb_⟩;refine ⟨_,rfl, ?_⟩;rw [gR,cN hPb] at hown_;replace hh:=(hh.aY (x:=.row _ _ _ _ _ _) hb_ hown_).sub (.cons_cons _ (.cons _ (Xh _)));refine jK ?_;refine a9 (aI (aA (ai ?_)));refine ⟨⟨i+1,_,_,_,_,VX,rfl, ?_,rfl,VX,hb2,hh⟩,by show xs.length-(i+1)<xs.length-i;omega, ?_⟩
    ·rw [hsn,hP,Ya,Wo,WB (2^i)]
    ·exact dy
  ·rw [Wa VX,hX] at hP;refine ah (sr (mI (mL (aF ?_))));refine Ar ?_;refine br hh (fG _ _ _ (bW 2 K P) _ (hh.aC (i:=0) rfl) (fm VX _ _) (hh.fJ (i:=0) rfl) VX) rfl ?_;intro w29 hh;rw [cN hPb,hP];exact BH
theorem JQ (X Y k:Nat) (hY:0<Y):X/2^k % Y=(if Y≤X/2^k % 2+2*(X/2^(k+1) % Y) then X/2^k % 2+2*(X/2^(k+1) % Y)-Y else X/2^k % 2+2*(X/2^(k+1) % Y))∧
  X/2^k/Y % 2=(if Y≤X/2^k % 2+2*(X/2^(k+1) % Y) then 1 else 0)∧X/2^k/Y/2=X/2^(k+1)/Y:=by
 have h1:=mh X k;have hb:X/2^k % 2<2:=Wy _ VX;generalize X/2^k % 2=b at*;generalize X/2^k=Z at*;generalize X/2^(k+1)=V at*;have h2:=XH V Y;have h3:=Wy V hY;generalize V/Y=q at*;generalize V % Y=r at*;have e:Z=(b+2*r)+Y*(2*q):=by rw [h1,←h2,W0,Y4];omega
 rw [e,Yh,XC _ _ hY];by_cases hc:Y≤b+2*r
 ·rw [V2 hc,V2 hc];have e2:b+2*r=(b+2*r-Y)+Y*1:=VX;have h4:b+2*r-Y<Y:=VX;have h5:(b+2*r)/Y=1:=by rw [e2,XC _ _ hY,Xg h4]
  have h6:(b+2*r) % Y=b+2*r-Y:=by conv=>lhs;rw [e2,Yh,WU h4]
  rw [h5,h6];omega
 ·rw [V3 hc,V3 hc,WU VX,Xg VX];omega
theorem pj (a b:ByteArray) (w:World) (ha:a.size≤1000000000) (hb:b.size≤1000000000) (hb0:bN b≠0):
  Calls Tryz.prog 238 #[.string a,.string b] w fun e w'=>e=.returned (.tuple #[.string (sN (bN a/bN b)),.string (sN (bN a % bN b)),.bool true])∧Below w.heap.size w w':=by
 have hh:=Hp.start w;have h1:=gB a;have h2:=gB b;have hX:=gR (bN a);have hXd:=jZ (bN a);have hXl:bN a<2^(a0 2 (bN a)).length:=dk _;have hYp:0<(a0 2 (bN b)).length:=pM hb0;have hget:∀k,k<(a0 2 (bN a)).length→(a0 2 (bN a))[k]?=some (bN a/2^k % 2):=fun k hk=>BA VX hk;refine aj (N:=52) (l:=[.string a,.string b]) Tryz.func238 rfl rfl (by simp) ?_;refine sr (aS (aS (aB (aa (sr (mS ?_))))));refine xf ?_;rintro e_ w13 ⟨A13,c13,rfl,hown_,hb_⟩;refine ⟨_,rfl, ?_⟩;replace hh:=hh.aY (x:=.row _ _ _ _ _ _) hb_ hown_;refine mS ?_;refine E1 ?_;rintro e_ w15 ⟨A15,c15,rfl,hown_,hb_⟩;refine ⟨_,rfl, ?_⟩;replace hh:=hh.aY (x:=.row _ _ _ _ _ _) hb_ hown_;refine aL (aL (aa (ah (sr (mL (aF ?_))))));refine cB (aa (cF (ao (ai (sr (mL (aF ?_)))))));refine gj hh rfl rfl rfl rfl bj.out aO.out rfl VX VX VY ?_;intro b21 w21 hh;refine aL (aa (sr (aL (aa (ah (sr (mL (aF ?_))))))));refine dQ (aI (aa (aq ?_)));rw [pL] at hh;generalize hxs:a0 2 (bN a)=xs at*;replace hh:=hh.ck 5 1;refine bp [10,11,25,26,27,28,29,30,31,32,33,34,35,36,37,38,39,40,41,42,43,44,45,46,47] 10 11
  (fun v j w'=>∃(k:Nat) (A:Option Addr) (c':Nat),k≤xs.length∧j=.int .i64 ((k:Int)-1)∧v=.slice A (a0 2 (bN a/2^k % bN b)).length c'∧Hp w [.row A (a0 2 (bN a/2^k % bN b)).length c' 5 1 (gP (a0 2 (bN a/2^k % bN b))),.row (some ⟨b21,0,none⟩) xs.length xs.length 5 1 (gP (List.replicate k 0++bW 2 (xs.length-k) (bN a/2^k/bN b))),.row A15 (a0 2 (bN b)).length c15 5 1 (gP (a0 2 (bN b))),.row A13 xs.length c13 5 1 (gP xs)] w')
  (fun _ j _=>(intOf j+1).toNat) ?_ ?_
 ·refine ⟨xs.length,none,0,V8 _,rfl, ?_, ?_⟩
  ·rw [Xg hXl,Nat.zero_mod,gG VX];rfl
  ·rw [Xg hXl,Nat.zero_mod,gG VX,W9];simp only [bW,WG];exact hh
 ·clear hh;rintro ρ' v j w' ⟨k,A,c',hk,rfl,rfl,hh⟩;by_cases h0:k=0
  ·subst h0;rw [YF,Nat.div_one,Nat.sub_zero,Y8,V9] at hh;rw [YF,Nat.div_one];have hq:bN a/bN b<2^xs.length:=Xb (Yt _ _) hXl;have hrl:(a0 2 (bN a % bN b)).length≤(a0 2 (bN b)).length:=oK VX (Nat.le_of_lt (Wy _ VX));refine ah (sr (mI ?_));refine dJ (aa (cF (aU (aD (aD (bk (ai (sr (mL ?_)))))))));refine br hh (fG _ _ _ (bW 2 xs.length (bN a/bN b)) _ (hh.aC (i:=1) rfl) (fm VX _ _) (V8 _) VX) rfl ?_;intro w49 hh;rw [cN hq];refine mL ?_;refine br hh (fG _ _ _ (a0 2 (bN a % bN b)) _ (hh.aC (i:=0) rfl) (jZ _) (hh.fJ (i:=0) rfl) VX) rfl ?_;intro w51 hh;rw [gR];refine aS (aS (aB (aa (au ?_))));refine VB ?_;exact ⟨rfl,hh.below⟩
  ·obtain ⟨i,rfl⟩:∃i,k=i+1:=⟨k-1,VX⟩;have hji:((i+1:Nat):Int)-1=(i:Int):=VX;obtain ⟨d1,d2,d3⟩:=JQ (bN a) (bN b) i VX;have hgi:=pz (hget i VX);have hdw:bN a/2^i % 2<2:=Wy _ VX;have hrl:(a0 2 (bN a/2^(i+1) % bN b)).length≤(a0 2 (bN b)).length:=oK VX (Nat.le_of_lt (Wy _ VX));have hqk:bW 2 (xs.length-i) (bN a/2^i/bN b)=(bN a/2^i/bN b % 2)::bW 2 (xs.length-(i+1)) (bN a/2^(i+1)/bN b):=by
    rw [show xs.length-i=(xs.length-(i+1))+1 by omega,bW,d3]
   rw [hji];obtain ⟨g,rfl⟩:=hh.cu (i:=3) rfl VX;refine ah (sr (mI ?_));refine dJ (aa (cT (ao (ai (ah (aq (sr (mL (mI ?_)))))))));refine gh ?_;refine bX aO.out rfl (hh.fM (i:=3) rfl (by first|assumption|(simp only [Wo];assumption))) VY ?_;refine se ?_;intro b33 w33 hh;refine mL ?_;refine bK hh (i:=0) rfl rfl rfl (hh.aC (i:=1) rfl) bj.out aO.out rfl VY (by first|rfl|exact cQ _|exact cD _|exact a7 _|exact bu NR.one _) VX VX VY ?_;intro A35 c35 w35 hh;simp only [Wd] at hh;have e35:[Value.int .u8 ((bN a/2^i % 2:Nat):Int)]++gP (a0 2 (bN a/2^(i+1) % bN b))=gP ((bN a/2^i % 2)::a0 2 (bN a/2^(i+1) % bN b)):=rfl;rw [e35] at hh;generalize hR:bN a/2^(i+1) % bN b=R at*;generalize hbt:bN a/2^i % 2=bt at*;have hdg:Dg 2 (bt::a0 2 R):=Dg.cons hdw (jZ _);have hcv:dW (bt::a0 2 R)=a0 2 (bt+2*R):=by rw [iB VX hdg,bJ,gR]
   have hll:(bt::a0 2 R).length=1+(a0 2 R).length:=by rw [Wx];omega
   have hcl:=fO (bt::a0 2 R);refine br hh (l4 _ _ _ (bt::a0 2 R) _ (hh.aC (i:=0) rfl) (hh.fJ (i:=0) rfl) VX) rfl ?_;intro w36 hh;replace hh:=hh.RI hll;rw [hcv] at hh hcl;rw [hcv];refine aL (aa (sr (mL (mL ?_))));refine br hh (mX _ _ _ _ _ _ (a0 2 (bt+2*R)) (a0 2 (bN b)) _ (hh.aC (i:=0) rfl) (hh.aC (i:=3) rfl) (jZ _) (jZ _) VX VX) rfl ?_;intro w39 hh;rw [gR,gR];by_cases hge:bN b≤bt+2*R
   ·have hc:0≤lB (bt+2*R) (bN b):=by unfold lB;rw [V3 VX];split<;>omega
    rw [V2 hge] at d1 d2;have hml:bt+2*R-bN b<2^(a0 2 (bt+2*R)).length:=Xb (Nat.sub_le _ _) (dk _);have hcm:dW (bW 2 (a0 2 (bt+2*R)).length (bt+2*R-bN b))=a0 2 (bt+2*R-bN b):=by rw [iB VX (fm VX _ _),cN hml]
    refine dJ (aa (cT (sr (mL (mL ?_)))));refine aG (pT _ _ _ _ _ _ (a0 2 (bt+2*R)) (a0 2 (bN b)) _ (hh.aC (i:=0) rfl) (hh.aC (i:=3) rfl) (jZ _) (jZ _) VX VX (by rw [gR,gR];exact hge)) ar.out rfl VY ?_;rintro e_ w_ ⟨b43,rfl,hown_,hb_⟩;refine ⟨_,rfl, ?_⟩;replace hh:=hh.aY (x:=.row _ _ _ _ _ _) hb_ hown_;rw [gR,gR] at hh;refine br hh (l4 _ _ _ (bW 2 (a0 2 (bt+2*R)).length (bt+2*R-bN b)) _ (hh.aC (i:=0) rfl) (V8 _) VX) rfl ?_;intro w44 hh;replace hh:=hh.RI (aZ _ _);rw [hcm] at hh;rw [hcm];have hql:(gP (List.replicate (i+1) 0++bW 2 (xs.length-(i+1)) (bN a/2^(i+1)/bN b))).length=xs.length:=by rw [cY,Wc,Xo,aZ];omega
    refine aL (aa (al (mL (mI ?_))));refine gh ?_;refine cd hh (i:=3) (vs:=[_]) rfl rfl (cR rfl) rfl aO.out rfl (by rw [hql];omega) rfl ?_;intro ws hh;simp only [Wd,WH] at hh;rw [Wo,cV (by rw [hql];omega)] at hh;have hset:(gP (List.replicate (i+1) 0++bW 2 (xs.length-(i+1)) (bN a/2^(i+1)/bN b))).set i (.int .u8 1)=gP (List.replicate i 0++bW 2 (xs.length-i) (bN a/2^i/bN b)):=by
     have:=pS (List.replicate (i+1) 0++bW 2 (xs.length-(i+1)) (bN a/2^(i+1)/bN b)) i 1;rw [hqk,d2,←Fv];exact this
    rw [hset] at hh;replace hh:=hh.sub (.cons_cons _ (.cons _ (.cons _ (Xh _))));refine xM ?_;refine dQ (aI (aA (ai ?_)));exact Pb
   ·have hc:¬0≤lB (bt+2*R) (bN b):=by rw [ma VX];omega
    rw [V3 hge] at d1 d2;refine dJ (aa (cF (ao (bF (ai (al (mI ?_)))))));refine dQ (aI (aA (ai ?_)));have hrep:List.replicate (i+1) 0++bW 2 (xs.length-(i+1)) (bN a/2^(i+1)/bN b)=List.replicate i 0++bW 2 (xs.length-i) (bN a/2^i/bN b):=by
     rw [hqk,d2,List.replicate_succ',WQ];rfl
    rw [hrep] at hh;replace hh:=hh.sub (.cons_cons _ (.cons _ (Xh _)));exact Pb
end Go.Proofs.YteeckcbbnegmcaaGreatDoor
