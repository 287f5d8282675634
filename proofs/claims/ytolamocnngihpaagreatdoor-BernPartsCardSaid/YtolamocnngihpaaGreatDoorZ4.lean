/- Lemmas for bernParts, part 4. -/
import Derived.Test.YtolamocnngihpaaGreatDoorZ3
namespace Go.Proofs.YtolamocnngihpaaGreatDoor
variable {C N b c c' cy j k m n ny:Nat}{ad:Addr}{w w0:World}
open Go.RowKit
theorem ie (A:Option Addr) (n c:Nat) (xs:List Nat) (w:World) (hx:Sl w A n 1 (dm xs)) (hc:n≤c) (hn:n≤1000000000000):
  Calls Tryz.prog 195 #[.slice A n c] w fun e w'=>e=.returned (.slice A (dX xs).length c)∧Below w.heap.size w w':=by
 have hlen:xs.length=n:=by have:=hx.1;rw [bm] at this;omega
 have hh:=Hp.start w;refine aj (N:=21) (l:=[.slice A n c]) Tryz.func195 rfl rfl (by simp) ?_;refine sr (aL (aa (ah (aq ?_))));refine aW [0,3,4,5,6,7,8,9,10,11,12,13,14,15,16,17,18,19] 0
  (fun v w'=>∃k:Nat,k≤n∧v=.slice A k c∧dX (xs.take k)=dX xs∧w'=w)
  (fun v _=>lenOf v) ?_ ?_
 ·exact ⟨n,V9 _,rfl,by rw [Wc VZ],rfl⟩
 ·rintro ρ' v w' ⟨k,hk,rfl,hcut,rfl⟩;by_cases h0:k=0
  ·subst h0;refine ah (sr (mL (aF ?_)));refine bH (mB ?_);refine gS (gS (gS (gS (gS ?_))));refine jg ?_;refine gS ?_;refine dR ?_;refine aa (cF (aZ (aC (aC (br (ai (sr (mL (aL (aa (av ?_)))))))))));refine cW ?_;rw [←hcut];exact ⟨rfl,hh.below⟩
  ·obtain ⟨j,rfl⟩:∃j,k=j+1:=⟨k-1,VZ⟩;obtain ⟨d,hd⟩:=al (l:=xs) (k:=j) VZ;obtain ⟨ad,rfl,hr⟩:=hx.at_ VZ;have hd2:=ew hd;rw [ay hd] at hcut;by_cases hz:d=0
   ·subst hz;rw [sY] at hcut;refine ah (sr (mL (aF ?_)));refine bH (mB (gT (mL (gT (mL (gT (aF (gT ?_))))))));refine dQ (gT ?_);refine kx ?_;refine gT ?_;refine gP ?_;refine gT ?_;refine ct ?_;refine fi ?_;refine aa (cT (ao (ai (aq (ak (mL (mL (aF ?_))))))));refine dQ ?_;refine p9 (h:=j) a9.out aJ.size rfl rfl VZ VZ V0 ?_;refine aL (az (bF (ai ?_)));refine ⟨⟨j,VZ,rfl,hcut,rfl⟩,by show j<j+1;omega, ?_⟩;exact dF
   ·rw [xn hz] at hcut;refine ah (sr (mL (aF ?_)));refine bH (mB (gT (mL (gT (mL (gT (aF (gT ?_))))))));refine dQ (gT ?_);refine kx ?_;refine gT ?_;refine gP ?_;refine gT ?_;refine ct ?_;refine fi ?_;refine aa (cF (aZ (aC (aC (br (ai (sr (mL (aL (aa (av ?_)))))))))));exact PK
theorem eL {B:Nat}{l:List Nat}{i:Nat} (h:l[i]?=some c):bD B (l.take (i+1))=bD B (l.take i)+B^i*c:=by
 have hi:=(Wk.1 h).1;rw [ay h,eN,Ww,Xg VZ];simp [bD]
theorem Hp.EZ {H:List HE}{A:Option Addr}{t:TypeId}{xs:List Nat} (h:Hp w0 (.row A n c t 1 (dm xs)::H) w) (hl:xs.length=n):Hp w0 (.row A (dX xs).length c t 1 (dm (dX xs))::H) w:=by
 have h1:=fF xs;have h2:=h.DT (k:=(dX xs).length) VZ;rw [Wn,←wI,←jV] at h2;exact h2
theorem HP (a:ByteArray) (w:World) (ha:a.size≤100000000000):
  Calls Tryz.prog 161 #[.string a] w fun e w'=>∃b c,e=.returned (.slice (some ⟨b,0,none⟩) (aY 18446744073709551616 (bn a.data.toList)).length c)∧w'.ownsRow w.heap.size 151 1 (.slice (some ⟨b,0,none⟩) (aY 18446744073709551616 (bn a.data.toList)).length c) (aY 18446744073709551616 (bn a.data.toList)).length (dm (aY 18446744073709551616 (bn a.data.toList)))∧Below w.heap.size w w':=by
 have hsz:=eh a;have hh:=Hp.start w;refine aj (N:=39) (l:=[.string a]) Tryz.func161 rfl rfl (by simp) ?_;refine sr (aL (aa (sr (mS ?_))));refine cg a9.out rfl V0 ?_;refine bj ?_;refine me ?_;refine gB (n:=(a.size+7)/8) hh rfl rfl VZ VZ a9.out aJ.out rfl VZ VZ V0 ?_;intro b10 w10 hh;refine aL (aa (ah (sr (mS ?_))));refine cg a9.out rfl V0 ?_;refine mI (aa (aq ?_));rw [qw] at hh;refine aW [4,5,13,14,15,16,17,18,19,20,21,22,23,24,25,26,27,28,29,30,31,32,33,34,35,36] 13
  (fun v w'=>∃i:Nat,i≤a.size∧v=.int .i64 i∧Hp w [.row (some ⟨b10,0,none⟩) ((a.size+7)/8) ((a.size+7)/8) 151 1 (dm (bO 18446744073709551616 ((a.size+7)/8) (bD 256 ((zK a.data.toList).take i))))] w')
  (fun v _=>a.size-(intOf v).toNat) ?_ ?_
 ·exact ⟨0,V8 _,rfl,by rw [XS,bD,qP];exact hh⟩
 ·clear hh;rintro ρ' v w' ⟨i,hi,rfl,hh⟩;by_cases hlt:i<a.size
  ·obtain ⟨c,hc⟩:=al (l:=a.data.toList) (k:=((a.size:Int)-1-i).toNat) VZ;have hlo:=JM (s:=a.data.toList) (i:=i) (c:=c) VZ (by rw [←hc];congr 1;omega);have hc8:=c.toNat_lt;have hn:=iD ((zl a.data.toList).take i);rw [Ww,oW,Xg VZ] at hn;obtain ⟨s1,s2,s3⟩:=MQ (k:=(a.size+7)/8) (bD 256 ((zK a.data.toList).take i)) hn hc8 VZ;have hg:=ew (iA (B:=18446744073709551616) ((a.size+7)/8) (bD 256 ((zK a.data.toList).take i)) (i/8) VZ);have e1:((i:Int) % 8*8).toNat=i % 8*8:=VZ;refine sr ?_;refine a0 (aa (ah (cT (ao (ai (ah (aq (sr (mI (aI (aa (sr (mS ?_)))))))))))));refine cg a9.out rfl V0 ?_;refine dQ (mI ?_);refine dQ (aI (aa ?_));refine aN 13 [[(3,none)],[(4,none)],[(22,some 1)],[(21,some 0),(23,some 2)],[(24,some 3)],[(0,none)],[(5,none)],[(26,some 5),(27,some 6)],[(28,some 7)],[(4,none)],[(30,some 9)],[(31,some 10)],[(29,some 8),(32,some 11)]] [(12,33),(11,32),(10,31),(9,30),(8,29),(7,28),(6,27),(5,26),(4,25),(3,24),(2,23),(1,22),(0,21)] hh mixed V2 ?_;refine fD ?_;refine dn ?_
   refine a6 (i:=2) (fun ρ1 w1 hj hR=>oV (show ρ1 22=Value.int _ _ from hR.1) rfl VZ VZ VZ) ?_;refine Gn (i/8) ?_;refine a6 (i:=4) (fun ρ1 w1 hj hR=>fj aJ.out (show ρ1 24=Value.pointer _ from hR.1) (hj.hp.eK (i:=0) rfl (by first|assumption|(simp only [Wn];assumption)))) ?_;refine UM ?_;refine dn ?_;refine a6 (i:=7) (fun ρ1 w1 hj hR=>jq a9.out (show ρ1 26=Value.string _ from hR.1) (show ρ1 27=Value.int _ _ from hR.2.1) VZ (by assumption)) ?_;refine a6 (i:=8) (fun ρ1 w1 hj hR=>u2 a9.out a9.out (show ρ1 28=Value.int _ _ from hR.1) (by first|assumption|omega)) ?_;refine dn ?_;refine a6 (i:=10) (fun ρ1 w1 hj hR=>mU (show ρ1 30=Value.int _ _ from hR.1) rfl VZ VZ) ?_;refine Dq ?_;refine a6 (i:=12) (fun ρ1 w1 hj hR=>yK (show ρ1 29=Value.int _ _ from hR.1) (show ρ1 32=Value.int _ _ from hR.2.1) VZ) ?_;refine aG ?_;intro f W hJ hV;have hb_6:=hJ.bl;obtain ⟨v33,v32,v31,v30,v29,v28,v27,v26,v25,v24,v23,v22,v21,_⟩:=hV;replace hh:=hJ.hp;refine aU (bg (ae v33 (ae v32 (ae v31 (ae v30 (ae v29 (ae v28 (ae v27 (ae v26 (ae v25 (ae v24 (ae v23 (ae v22 (ae v21 aT)))))))))))))) ?_;dsimp only [bI];clear hJ;refine Gp ?_
   refine dq (k:=i/8) a9.out aJ.size rfl rfl VZ VZ V0 ?_;refine Ij ?_;intro ws hh;simp only [Wh] at hh;rw [e1,WU s2,Cs s1,cN (by rw [bm,aX];omega),Wn,gl,s3,←eL hlo] at hh;refine fN ?_;refine bj (mI (az (ai ?_)));refine ⟨⟨i+1,VZ,rfl,hh⟩,by show a.size-(i+1)<a.size-i;omega, ?_⟩;exact dF
  ·refine sr ?_;refine oE ?_;rw [Wc (by rw [oW];omega)] at hh;refine bq hh (ie _ _ _ (bO 18446744073709551616 ((a.size+7)/8) (bn a.data.toList)) _ (hh.aD (i:=0) rfl) (V9 _) VZ) rfl ?_;intro w38 hh;refine aL (aa (av ?_));refine cW ?_;have hbd:bn a.data.toList<18446744073709551616^((a.size+7)/8):=by
    refine Xe (OJ _) ?_;rw [←hsz,show (256:Nat)=2^8 from rfl,show (18446744073709551616:Nat)=2^64 from rfl,←W5,←W5];exact WS VZ VZ
   have hd:dX (bO 18446744073709551616 ((a.size+7)/8) (bn a.data.toList))=aY 18446744073709551616 (bn a.data.toList):=by
    exact Kv
   have h1:=(Hp.EZ (xs:=bO 18446744073709551616 ((a.size+7)/8) (bn a.data.toList)) hh (aX _ _)).at_ (i:=0) rfl;exact Fy
theorem Sl.Rr {A:Option Addr}{xs:List Nat} (h:Sl w A n 1 (dm xs)) (hk:k≤n):Sl w A k 1 (dm (xs.take k)):=by
 have hl:=h.1;rw [bm] at hl;refine ⟨by rw [bm,Ww];omega,fun h0=> ?_⟩;obtain ⟨ad,he,hr⟩:=h.2 VZ;exact ⟨ad,he,by rw [wI];exact hr.take k⟩
theorem Sl.yj {A:Option Addr}{xs:List Nat} (h:Sl w A n 1 (dm xs)):Sl w A (dX xs).length 1 (dm (dX xs)):=by
 have hl:=h.1;rw [bm] at hl;have:=fF xs;have h2:=h.Rr (k:=(dX xs).length) VZ;rwa [←jV] at h2
theorem DS {xs:List Nat} (h:Dg 18446744073709551616 xs):bG (bD 18446744073709551616 xs)≤64*xs.length:=by
 apply dL;rw [W5];exact iD h
theorem uB (A:Option Addr) (n c:Nat) (xs:List Nat) (w:World) (hx:Sl w A n 1 (dm xs)) (hd:Dg 18446744073709551616 xs) (hc:n≤c) (hn:n≤100000000000):
  Calls Tryz.prog 198 #[.slice A n c] w fun e w'=>e=.returned (.int .i64 (bG (bD 18446744073709551616 xs)))∧Below w.heap.size w w':=by
 have hl:=hx.1;rw [bm] at hl;have hcl:=fF xs;have hcx:=hx.yj;have hcd:=hd.cut;have hlast:=wv xs;rw [←lr];generalize hcs:dX xs=cs at*;have hh:=Hp.start w;refine aj (N:=19) (l:=[.slice A n c]) Tryz.func198 rfl rfl (by simp) ?_;refine sr (aI (aa (sr (mL ?_))));refine bq hh (ie _ _ _ xs _ hx hc VZ) rfl ?_;intro w4 hh;rw [hcs];by_cases h0:cs.length=0
 ·refine aL (aa (ah (sr (mL (aF ?_)))));refine Eo ?_;refine cW ?_;have:cs=[]:=XA h0;subst this;exact ⟨by rw [bD,lC];rfl,hh.below⟩
 ·obtain ⟨ad,rfl,hr⟩:=hcx.at_ VZ;obtain ⟨d,hd⟩:=al (l:=cs) (k:=cs.length-1) VZ;have hd2:=ew hd;have hd3:=hcd.at_ hd;have e1:cs.take (cs.length-1)++[d]=cs:=by rw [←ay hd,Wc VZ]
  have hnz:d≠0:=by
   intro h;subst h;apply hlast;rw [List.getLast?_eq_getElem?];exact hd
  have hb:=I1 (B:=18446744073709551616) (b:=64) (m:=cs.length-1) V0 (hcd.take (cs.length-1)) (by rw [Ww];omega) hnz;rw [e1] at hb;have hb2:bG d≤64:=dL (by simpa using hd3);refine aL (aa (ah (sr (mL (aF ?_)))));refine ct (aa (cF (ao (ai (sr (mL (aF ?_)))))));refine mulC (mL (mL (aF ?_)));refine dQ ?_;refine cK (k:=cs.length-1) a9.out aJ.size rfl rfl VZ VZ V0 ?_;refine gP ?_;refine bq hh (Dl _ _ hd3) rfl ?_;intro w17 hh;refine dQ (aI (aa (av ?_)));refine cW ?_;refine ⟨?_,hh.below⟩;congr 2;omega
theorem Cm (N:Nat):(aY 256 N).length=(bG N+7)/8:=by
 have h256:(256:Nat)=2^8:=rfl;have h1:(aY 256 N).length≤(bG N+7)/8:=by
  apply ij VZ;refine Xe (db N) ?_;rw [h256,←W5];exact WS VZ VZ
 have h2:=qy (B:=256) VZ N;have h3:bG N≤8*(aY 256 N).length:=by
  apply dL;rw [W5];exact h2
 omega
theorem lu {B:Nat} (i N:Nat):bO B (i+1) N=bO B i N++[N/B^i % B]:=by
 apply XK;intro j
 rcases Nat.lt_trichotomy j i with h|h|h
 ·rw [iA _ _ _ VZ,Yh (by rw [aX];exact h),iA _ _ _ h]
 ·subst h;rw [iA _ _ _ VZ,Xt (by rw [aX];omega),aX];simp
 ·rw [WN (by rw [aX];omega),WN (by rw [We,aX];simp;omega)]
theorem Ga {R:List Nat}{x:Nat}:(List.replicate (k+1) 0++R).set k x=List.replicate k 0++(x::R):=by
 rw [List.replicate_succ',WY,Yf _ _ (by simp)];simp
theorem ic (A:Option Addr) (n c:Nat) (xs:List Nat) (w:World) (hx:Sl w A n 1 (dm xs)) (hd:Dg 18446744073709551616 xs) (hc:n≤c) (hn:n≤10000000000):
  Calls Tryz.prog 167 #[.slice A n c] w fun e w'=>e=.returned (.string (str (sb (bD 18446744073709551616 xs))))∧Below w.heap.size w w':=by
 have hl:=hx.1;rw [bm] at hl;have hcl:=fF xs;have hcx:=hx.yj;have hcd:=hd.cut;have hbl:=DS hcd;have hcan:=hU VZ hd;have hlen:=Cm (bD 18446744073709551616 xs);rw [lr] at hbl;have hh:=Hp.start w;refine aj (N:=37) (l:=[.slice A n c]) Tryz.func167 rfl rfl (by simp) ?_;refine sr (aS (aa (sr (mL ?_))));refine bq hh (ie _ _ _ xs _ hx hc VZ) rfl ?_;intro w7 hh;rw [hcan] at hcl hcx hcd hbl;rw [hcan];refine aL (aa (sr (mL ?_)));refine bq hh (uB _ _ _ (aY 18446744073709551616 (bD 18446744073709551616 xs)) _ (hcx.ext hh.below) hcd VZ VZ) rfl ?_;intro w9 hh;rw [ee VZ];generalize bD 18446744073709551616 xs=M at*;refine bj ?_;refine me ?_;refine aI (aa (sr (mI ?_)));refine gB (n:=(bG M+7)/8) hh rfl rfl VZ VZ a9.out aJ.out rfl VZ VZ V0 ?_;intro b13 w13 hh;refine aL (aa (ah (sr (mI (mI (aa (aq ?_)))))));rw [qm] at hh;refine aW [5,15,16,17,18,19,20,21,22,23,24,25,26,27,28,29,30,31,32,33,34] 15
  (fun v w'=>∃i:Nat,i≤(bG M+7)/8∧v=.int .i64 i∧Hp w [.row (some ⟨b13,0,none⟩) ((bG M+7)/8) ((bG M+7)/8) 5 1 (gE (List.replicate ((bG M+7)/8-i) 0++(bO 256 i M).reverse))] w')
  (fun v _=>(bG M+7)/8-(intOf v).toNat) ?_ ?_
 ·exact ⟨0,V8 _,rfl,by simpa [bO] using hh⟩
 ·clear hh;rintro ρ' v w' ⟨i,hi,rfl,hh⟩;by_cases hlt:i<(bG M+7)/8
  ·obtain ⟨ad,rfl,hr⟩:=hcx.at_ VZ;have hg:=Ay (B:=18446744073709551616) (n:=M) (i:=i/8) VZ VZ;have hg2:=ew hg;have e1:((i:Int) % 8*8).toNat=i % 8*8:=VZ;refine sr ?_;refine a0 (aa (ah (cT (ao (ai (ah (aq (sr (mI (aI (aa (ak (mL (mI ?_))))))))))))));refine dQ (mI ?_);refine dQ (mL (mI ?_));refine me ?_;refine cK (k:=i/8) a9.out aJ.size rfl rfl VZ VZ V0 ?_;refine gP ?_;refine mI ?_;refine oB ?_;refine mulC ?_;refine Dp rfl rfl VZ V0 ?_;refine NZ a9.out a9.out rfl V0 ?_;refine dq (k:=(bG M+7)/8-1-i) a9.out aJ.size rfl rfl VZ VZ V0 ?_;refine cf hh (i:=0) (vs:=[_]) rfl rfl (cP rfl) rfl aJ.out rfl (by rw [cU,We,WE,XD,aX];omega) rfl ?_;intro ws hh;simp only [Wh] at hh;obtain ⟨k,hk⟩:∃k,(bG M+7)/8-i=k+1:=⟨(bG M+7)/8-i-1,VZ⟩;rw [e1,HU,Wn,cN (by rw [cU,We,WE,XD,aX];omega),qd,hk,show (bG M+7)/8-1-i=k by omega,Ga,←List.reverse_concat,←lu] at hh;refine fN ?_;refine bj (mI (az (ai ?_)))
   refine ⟨⟨i+1,VZ,rfl,by rw [show (bG M+7)/8-(i+1)=k by omega];exact hh⟩,by show (bG M+7)/8-(i+1)<(bG M+7)/8-i;omega, ?_⟩;exact dF
  ·obtain rfl:i=(bG M+7)/8:=VZ;have hfin:gE (List.replicate ((bG M+7)/8-(bG M+7)/8) 0++(bO 256 ((bG M+7)/8) M).reverse)=jB (sb M):=by
    rw [Xc,Zl,Wd,←hlen];exact Ta
   rw [hfin] at hh;refine sr ?_;refine oE ?_;exact O7
theorem oD (A:Option Addr) (n c m:Nat) (xs:List Nat) (w:World) (hx:Sl w A n 1 (dm xs)) (hn:n≤10000000000) (hm:m≤10000000000):
  Calls Tryz.prog 209 #[.slice A n c,.int .i64 m] w fun e w'=>∃b,e=.returned (.slice (some ⟨b,0,none⟩) (max m n) (max m n))∧w'.ownsRow w.heap.size 151 1 (.slice (some ⟨b,0,none⟩) (max m n) (max m n)) (max m n) (dm (xs++List.replicate (max m n-n) 0))∧Below w.heap.size w w':=by
 have hl:=hx.1;rw [bm] at hl;have hh:=Hp.start w;refine aj (N:=15) (l:=[.slice A n c,.int .i64 m]) Tryz.func209 rfl rfl (by simp) ?_;refine sr (aL (aa (sr (mI (mL (aF ?_))))));refine j0 rfl rfl V0 ?_;refine gB (n:=max m n) hh rfl rfl VZ VZ a9.out aJ.out rfl VZ VZ V0 ?_;intro b10 w10 hh;refine aL (aa (sr (mL (mL ?_))));rw [qw] at hh;refine Ma hh (i:=0) (o:=0) rfl rfl rfl (hx.ext hh.below) a9.out aJ.out (by rw [bm,XD];omega) (cX _) V0 ?_;intro w13 hh;skip;have e1:cd (dm (List.replicate (max m n) 0)) 0 ((dm xs).take (min n (max m n)*1))=dm (xs++List.replicate (max m n-n) 0):=by
  rw [Wc (by rw [bm];omega),cd,XS,Wd,bm,←xt,←BQ,List.drop_replicate];congr 3;omega
 simp only [Wh,e1] at hh;refine aa (sr (mL (aL (aa (av ?_)))));refine cW ?_;exact ⟨_,rfl,hh.at_ (i:=0) rfl,hh.below⟩
theorem Cv (A B:Option Addr) (n c m c':Nat) (xs ys:List Nat) (w:World) (hx:Sl w A n 1 (dm xs)) (hy:Sl w B m 1 (dm ys)) (hdx:Dg 18446744073709551616 xs) (hdy:Dg 18446744073709551616 ys) (hc:n≤c) (hc':m≤c') (hn:n≤100000000000) (hm:m≤100000000000):
  Calls Tryz.prog 212 #[.slice A n c,.slice B m c'] w fun e w'=>e=.returned (.int .i64 (ld (bD 18446744073709551616 xs) (bD 18446744073709551616 ys)))∧Below w.heap.size w w':=by
 have hlx:=hx.1;have hly:=hy.1;rw [bm] at hlx hly;have hcx:=hx.yj;have hcy:=hy.yj;have hxl:=fF xs;have hyl:=fF ys;have hx2:=Can.cut hdx;have hy2:=Can.cut hdy;have hh:=Hp.start w;rw [←lr xs,←lr ys];refine aj (N:=47) (l:=[.slice A n c,.slice B m c']) Tryz.func212 rfl rfl (by simp) ?_;refine sr (aI (aa (sr (mL ?_))));refine bq hh (ie _ _ _ xs _ hx hc VZ) rfl ?_;intro w7 hh;refine mL ?_;refine bq hh (ie _ _ _ ys _ (hy.ext hh.below) hc' VZ) rfl ?_;intro w9 hh;generalize dX xs=us at*;generalize dX ys=vs at*;by_cases hlen:us.length=vs.length
 ·refine aL (aL (aa (ah (sr (mL (aF (mL (aF ?_))))))));refine cY (aa (cF (ao (ai (ah (sr (mL (aF ?_))))))));refine dQ (aI (aa (aq ?_)));refine aW [4,5,23,24,25,26,27,28,29,30,31,32,33,34,35,36,37,38,39,40,41,42,43,44,45,46] 5
   (fun v w'=>∃k:Nat,k≤us.length∧v=.int .i64 ((k:Int)-1)∧us.drop k=vs.drop k∧Hp w [] w')
   (fun v _=>(intOf v+1).toNat) ?_ ?_
  ·exact ⟨us.length,V9 _,rfl,by rw [List.drop_length,List.drop_eq_nil_of_le VZ],hh⟩
  ·clear hh;rintro ρ' v w' ⟨k,hk,rfl,hd,hh⟩;by_cases h0:k=0
   ·subst h0;refine ah (sr (mI ?_));refine dP (aa (cF (aZ (aC (aC (br (ai (sr (aI (aa (av ?_)))))))))));refine cW ?_;rw [List.drop_zero,List.drop_zero] at hd;rw [hd];exact ⟨by rw [EG rfl],hh.below⟩
   ·obtain ⟨j,rfl⟩:∃j,k=j+1:=⟨k-1,VZ⟩;obtain ⟨x,hxj⟩:=al (l:=us) (k:=j) VZ;obtain ⟨y,hyj⟩:=al (l:=vs) (k:=j) VZ;obtain ⟨ad,rfl,hr⟩:=hcx.at_ VZ;obtain ⟨ad2,rfl,hs⟩:=hcy.at_ VZ;have hx3:=ew hxj;have hy3:=ew hyj;by_cases hlt:x<y
    ·have hf:=wy hx2.1 hxj hyj hd hlt;refine ah (sr (mI ?_));refine II ?_;refine Ie ?_;refine fD ?_;refine dn ?_;refine nC (j) ?_;refine AY ?_;refine fD ?_;refine dn ?_;refine nC (j) ?_;refine z4 ?_;refine aG ?_;intro f W hJ hV;have hb_9:=hJ.bl;obtain ⟨v35,v34,v33,v32,v31,v30,v29,v28,_⟩:=hV;replace hh:=hJ.hp;refine JQ ?_;dsimp only [bI];clear hJ;refine a0 (aB (aa (cT (sr (aI (aa (av (cm (cm (aK (aK (cm (aK ?_)))))))))))));refine cW ?_;exact ⟨by rw [lK hf],hh.below⟩
    ·by_cases hgt:y<x
     ·have hf:=wy hy2.1 hyj hxj hd.symm hgt;refine ah (sr (mI ?_));refine II ?_;refine Ie ?_;refine fD ?_;refine dn ?_;refine nC (j) ?_;refine AY ?_;refine fD ?_;refine dn ?_;refine nC (j) ?_;refine z4 ?_;refine aG ?_;intro f W hJ hV;have hb_9:=hJ.bl;obtain ⟨v35,v34,v33,v32,v31,v30,v29,v28,_⟩:=hV;replace hh:=hJ.hp;refine JQ ?_;dsimp only [bI];clear hJ;refine a0 (aB (aa (cF (ah ?_))));refine PS ?_;refine fD ?_;refine dn ?_;refine nC (j) ?_;refine AY ?_;refine fD ?_;refine dn ?_;refine nC (j) ?_;refine z4 ?_;refine aG ?_;intro f W hJ hV;have hb_11:=hJ.bl;obtain ⟨v45,v44,v43,v42,v41,v40,v39,v38,_⟩:=hV;replace hh:=hJ.hp;refine O6 ?_;dsimp only [bI];clear hJ;refine bH (aB (aa (cT (sr (aI (aa (av (cm (cm (aK (aK (cm (aK ?_)))))))))))));refine cW ?_;exact ⟨by rw [yE hf],hh.below⟩
     ·refine ah (sr (mI ?_));refine II ?_;refine Ie ?_;refine fD ?_;refine dn ?_;refine nC (j) ?_;refine AY ?_;refine fD ?_;refine dn ?_;refine nC (j) ?_;refine z4 ?_;refine aG ?_;intro f W hJ hV;have hb_9:=hJ.bl;obtain ⟨v35,v34,v33,v32,v31,v30,v29,v28,_⟩:=hV;replace hh:=hJ.hp;refine JQ ?_;dsimp only [bI];clear hJ;refine a0 (aB (aa (cF (ah ?_))));refine PS ?_;refine fD ?_;refine dn ?_;refine nC (j) ?_;refine AY ?_;refine fD ?_;refine dn ?_;refine nC (j) ?_;refine z4 ?_;refine aG ?_;intro f W hJ hV;have hb_11:=hJ.bl;obtain ⟨v45,v44,v43,v42,v41,v40,v39,v38,_⟩:=hV;replace hh:=hJ.hp;refine O6 ?_;dsimp only [bI];clear hJ;refine bH (aB (aa (cF (ao (bF (bF (ai (ak (mI ?_)))))))));refine dQ (aI (az (ai ?_)));refine ⟨⟨j,VZ,by show Value.int _ _=Value.int _ _;congr 1;omega,zr hxj hyj hd VZ,hh⟩,by show ((((j+1:Nat):Int)-1-1)+1).toNat<((((j+1:Nat):Int)-1)+1).toNat;omega, ?_⟩;exact dF
 ·by_cases hlt:us.length<vs.length
  ·have hf:bD 18446744073709551616 us<bD 18446744073709551616 vs:=by
    refine Y0 fun h=> ?_;have:=hy2.vc hx2 VZ h;omega
   refine aL (aL (aa (ah (sr (mL (aF (mL (aF ?_))))))));refine cY (aa (cT (ah (sr (mL (aF (mL (aF ?_))))))));refine a0 (aa (cT (sr (aI (aa (av (aK (aK ?_))))))));refine cW ?_;exact ⟨by rw [lK hf],hh.below⟩
  ·have hf:bD 18446744073709551616 vs<bD 18446744073709551616 us:=by
    refine Y0 fun h=> ?_;have:=hx2.vc hy2 VZ h;omega
   refine aL (aL (aa (ah (sr (mL (aF (mL (aF ?_))))))));refine cY (aa (cT (ah (sr (mL (aF (mL (aF ?_))))))));refine a0 (aa (cF (ao (ai (sr (aI (aa (av (aK ?_)))))))));refine cW ?_;exact ⟨by rw [yE hf],hh.below⟩
theorem Tv {y:Nat} (hy:y<18446744073709551616) (hm:m<18446744073709551616):y*m≤340282366920938463426481119284349108225:=Yr (by omega:y≤18446744073709551615) (by omega:m≤18446744073709551615)
theorem xF {x y P:Nat} (hx:x<18446744073709551616) (hc:c<18446744073709551616) (hP:P≤340282366920938463426481119284349108225) (he:P=y*m):
  (x+(P % 18446744073709551616+c+0) % 18446744073709551616+0) % 18446744073709551616=(x+y*m+c) % 18446744073709551616∧((P/18446744073709551616+(P % 18446744073709551616+c+0)/18446744073709551616) % 18446744073709551616+(x+(P % 18446744073709551616+c+0) % 18446744073709551616+0)/18446744073709551616) % 18446744073709551616=(x+y*m+c)/18446744073709551616∧(x+y*m+c)/18446744073709551616<18446744073709551616:=by
 rw [←he];omega
theorem Ap {H:List HE}{M:Nat}{Y:Option Addr} (pre xs post ys:List Nat) (w:World) (hh:Hp w0 (.row (some ⟨b,0,none⟩) M C 151 1 (dm (pre++xs++post))::H) w)
  (hy:∀w1 cs,Hp w0 (.row (some ⟨b,0,none⟩) M C 151 1 cs::H) w1→Sl w1 Y ny 1 (dm ys)) (hxd:Dg 18446744073709551616 xs) (hyd:Dg 18446744073709551616 ys) (hm:m<18446744073709551616) (hM:xs.length≤100000000000) (hny:ny≤100000000000):
  Calls Tryz.prog 208 #[.slice (some ⟨b,pre.length,none⟩) xs.length c',.slice Y ny cy,.int .u64 (m:Int)] w fun e w'=>e=.returned (.tuple #[])∧Hp w0 (.row (some ⟨b,0,none⟩) M C 151 1 (dm (pre++hH 18446744073709551616 xs ys m 0++post))::H) w':=by
 have hly:=(hy _ _ hh).1;rw [bm] at hly;refine aj (N:=56) (l:=[.slice (some ⟨b,pre.length,none⟩) xs.length c',.slice Y ny cy,.int .u64 (m:Int)]) Tryz.func208 rfl rfl (by simp) ?_;refine sr (aI (aa (sr (mL (aF (mI (aa (aq ?_))))))));refine bz [6,7,8,9,10,11,14,15,16,17,18,19,20,21,22,23,24,25,26,27,28,29,30,31,32,33,34,35,36,37,38,39,40,41,42,43,44,45,46,47,48,49,50,51,52,53,54,55] 6 14
  (fun c i w'=>∃(done rest:List Nat) (cr:Nat),done.length+rest.length=xs.length∧i=.int .i64 done.length∧c=.int .u64 (cr:Int)∧cr<18446744073709551616∧Dg 18446744073709551616 rest∧done++hH 18446744073709551616 rest (ys.drop done.length) m cr=hH 18446744073709551616 xs ys m 0∧Hp w0 (.row (some ⟨b,0,none⟩) M C 151 1 (dm (pre++(done++rest)++post))::H) w')
  (fun _ i _=>xs.length-(intOf i).toNat) ?_ ?_
 ·exact ⟨[],xs,0,by simp,rfl,rfl,VZ,hxd,rfl,hh⟩
 ·clear hh;rintro ρ' c i w' ⟨done,rest,cr,hlen,rfl,rfl,hcr,hrd,heq,hh⟩;by_cases hlt:done.length<xs.length
  ·obtain ⟨x,r,rfl⟩:∃x r,rest=x::r:=by
    exact Lb
   have hx:=hrd.head;have hg:=ew (yL (pre:=pre) (done:=done) (r:=r) (post:=post) (x:=x));have hlr:done.length+(r.length+1)=xs.length:=by simpa using hlen
   simp only [hH,tail_drop,tY] at heq;by_cases hiy:done.length<ny
   ·obtain ⟨y,hyk⟩:=al (l:=ys) (k:=done.length) VZ;obtain ⟨ad,rfl,_⟩:=(hy _ _ hh).at_ VZ;rw [hyk,Xj] at heq;have hyw:=hyd.at_ hyk;refine sr ?_;refine wF ?_;refine a0 (aa (cT (ak (mL (mI ?_)))));refine LF ?_;refine bX aJ.out rfl ((hy _ _ hh).Q4 hyk) V0 ?_;refine aI (aa (sr (mI (mI ?_))));obtain ⟨p1,p2,p3⟩:=xF (y:=y) (m:=m) hx hcr (Tv hyw hm) rfl;refine bq hh (rS y m _ hyw hm) rfl ?_;intro w28 hh;refine mT ?_;refine dE ?_;refine dE ?_;refine aI (aI (aa (sr (mI (mI ?_)))));refine kH (jX (y*m % 18446744073709551616) cr 0 VZ _) (aw (cP rfl) (aw (cP rfl) (aw rfl a8))) V0 ?_;refine mT ?_;refine dE ?_;refine dE ?_;refine aI (aI (aa (sr (mI (mI ?_)))));refine gW rfl rfl V0 ?_;refine aI (aa (sr (mL (mI (mL (mI ?_))))));refine pg a9.out aJ.size rfl rfl rfl VZ V0 ?_;refine ji ?_;refine mI ?_;refine kH (jX x ((y*m % 18446744073709551616+cr+0) % 18446744073709551616) 0 VZ _) (aw (cP rfl) (aw (cP rfl) (aw rfl a8))) V0 ?_;refine mT ?_;refine dE ?_;refine dE ?_;refine oe ?_;refine wE ?_;intro ws hh;simp only [Wh] at hh;rw [p1,Wn,cN (by rw [bm];simp only [We,WH];omega),gl,nG] at hh
    refine aI (aa (ak (mI (mI ?_))));refine gW rfl rfl V0 ?_;refine wU ?_;refine bj (mI (az (ai ?_)));rw [p2];refine ⟨⟨done++[(x+y*m+cr) % 18446744073709551616],r,_,by simp;omega,by rw [We];rfl,rfl,p3,hrd.tail, ?_,hh⟩,by show xs.length-(done.length+1)<xs.length-done.length;omega, ?_⟩
    ·rw [←heq,WY,We];rfl
    exact V3
   ·rw [WN VZ,Option.getD_none] at heq;have h0w:(0:Nat)<18446744073709551616:=VZ;refine sr ?_;refine wF ?_;refine a0 (aa (cF (ao (ai (sr (mI (mI ?_)))))));obtain ⟨p1,p2,p3⟩:=xF (y:=0) (m:=m) hx hcr (Tv h0w hm) rfl;refine bq hh (rS 0 m _ h0w hm) rfl ?_;intro w28 hh;refine mT ?_;refine dE ?_;refine dE ?_;refine aI (aI (aa (sr (mI (mI ?_)))));refine kH (jX (0*m % 18446744073709551616) cr 0 VZ _) (aw (cP rfl) (aw (cP rfl) (aw rfl a8))) V0 ?_;refine mT ?_;refine dE ?_;refine dE ?_;refine aI (aI (aa (sr (mI (mI ?_)))));refine gW rfl rfl V0 ?_;refine aI (aa (sr (mL (mI (mL (mI ?_))))));refine pg a9.out aJ.size rfl rfl rfl VZ V0 ?_;refine ji ?_;refine mI ?_;refine kH (jX x ((0*m % 18446744073709551616+cr+0) % 18446744073709551616) 0 VZ _) (aw (cP rfl) (aw (cP rfl) (aw rfl a8))) V0 ?_;refine mT ?_;refine dE ?_;refine dE ?_;refine oe ?_;refine wE ?_;intro ws hh;simp only [Wh] at hh;rw [p1,Wn,cN (by rw [bm];simp only [We,WH];omega),gl,nG] at hh;refine aI (aa (ak (mI (mI ?_))));refine gW rfl rfl V0 ?_;refine wU ?_;refine bj (mI (az (ai ?_)));rw [p2]
    refine ⟨⟨done++[(x+0*m+cr) % 18446744073709551616],r,_,by simp;omega,by rw [We];rfl,rfl,p3,hrd.tail, ?_,hh⟩,by show xs.length-(done.length+1)<xs.length-done.length;omega, ?_⟩
    ·rw [←heq,WY,We];rfl
    exact V3
  ·exact Ts
theorem BF {H:List HE}{M:Nat}{Y:Option Addr} (pre xs post ys:List Nat) (w:World) (hh:Hp w0 (.row (some ⟨b,0,none⟩) M C 151 1 (dm (pre++xs++post))::H) w)
  (hy:∀w1 cs,Hp w0 (.row (some ⟨b,0,none⟩) M C 151 1 cs::H) w1→Sl w1 Y ny 1 (dm ys)) (hxd:Dg 18446744073709551616 xs) (hyd:Dg 18446744073709551616 ys) (hM:xs.length≤100000000000) (hny:ny≤100000000000) (hsub:zG 18446744073709551616 xs ys 0=0):
  Calls Tryz.prog 213 #[.slice (some ⟨b,pre.length,none⟩) xs.length c',.slice Y ny cy] w fun e w'=>e=.returned (.bool true)∧Hp w0 (.row (some ⟨b,0,none⟩) M C 151 1 (dm (pre++sv 18446744073709551616 xs ys 0++post))::H) w':=by
 have hly:=(hy _ _ hh).1;rw [bm] at hly;refine aj (N:=37) (l:=[.slice (some ⟨b,pre.length,none⟩) xs.length c',.slice Y ny cy]) Tryz.func213 rfl rfl (by simp) ?_;refine sr (aB (aa (sr (aI (aa (ah (sr (mL (aF (mI (aa (aq ?_))))))))))));refine bz [5,6,7,10,11,12,13,14,15,16,17,18,19,20,21,22,23,24,25,26,27,28,29,30,31,32,33,34] 5 10
  (fun c i w'=>∃(done rest:List Nat) (cr:Nat),done.length+rest.length=xs.length∧i=.int .i64 done.length∧c=.int .u64 (cr:Int)∧cr≤1∧Dg 18446744073709551616 rest∧done++sv 18446744073709551616 rest (ys.drop done.length) cr=sv 18446744073709551616 xs ys 0∧zG 18446744073709551616 rest (ys.drop done.length) cr=0∧Hp w0 (.row (some ⟨b,0,none⟩) M C 151 1 (dm (pre++(done++rest)++post))::H) w')
  (fun _ i _=>xs.length-(intOf i).toNat) ?_ ?_
 ·exact ⟨[],xs,0,by simp,rfl,rfl,VZ,hxd,rfl,hsub,hh⟩
 ·clear hh;rintro ρ' c i w' ⟨done,rest,cr,hlen,rfl,rfl,hcr,hrd,heq,hsb,hh⟩;by_cases hlt:done.length<xs.length
  ·obtain ⟨x,r,rfl⟩:∃x r,rest=x::r:=by
    exact Lb
   have hx:=hrd.head;have hg:=ew (yL (pre:=pre) (done:=done) (r:=r) (post:=post) (x:=x));have hlr:done.length+(r.length+1)=xs.length:=by simpa using hlen
   simp only [sv,zG,tail_drop,tY] at heq hsb;by_cases hiy:done.length<ny
   ·obtain ⟨y,hyk⟩:=al (l:=ys) (k:=done.length) VZ;obtain ⟨ad,rfl,_⟩:=(hy _ _ hh).at_ VZ;rw [hyk,Xj] at heq hsb;have hyw:=hyd.at_ hyk;refine sr ?_;refine wF ?_;refine a0 (aa (cT (ak (mL (mI ?_)))));refine LF ?_;refine bX aJ.out rfl ((hy _ _ hh).Q4 hyk) V0 ?_;refine aI (aa (ak (mL (mI (mL (mI ?_))))));refine oe ?_;refine ji ?_;refine mI (mI ?_);refine kH (xz x y cr hcr _) (aw (cP rfl) (aw (cP rfl) (aw (cP rfl) a8))) V0 ?_;refine mT ?_;refine dE ?_;refine dE ?_;refine oe ?_;refine wE ?_;intro ws hh;simp only [Wh] at hh;rw [Wn,cN (by rw [bm];simp only [We,WH];omega),gl,nG] at hh;refine wU ?_;refine bj (mI (az (ai ?_)));refine ⟨⟨done++[(x+18446744073709551616-y-cr) % 18446744073709551616],r,_,by simp;omega,by rw [We];rfl,rfl,by split<;>omega,hrd.tail, ?_, ?_,hh⟩,by show xs.length-(done.length+1)<xs.length-done.length;omega, ?_⟩
    ·rw [←heq,WY,We];rfl
    ·rw [We];exact hsb
    exact V3
   ·rw [WN VZ,Option.getD_none] at heq hsb;refine sr ?_;refine wF ?_;refine a0 (aa (cF (ao (ai (ak (mL (mI (mL (mI ?_)))))))));refine oe ?_;refine ji ?_;refine mI (mI ?_);refine kH (xz x 0 cr hcr _) (aw (cP rfl) (aw (cP rfl) (aw (cP rfl) a8))) V0 ?_;refine mT ?_;refine dE ?_;refine dE ?_;refine oe ?_;refine wE ?_;intro ws hh;simp only [Wh] at hh;rw [Wn,cN (by rw [bm];simp only [We,WH];omega),gl,nG] at hh;refine wU ?_;refine bj (mI (az (ai ?_)));refine ⟨⟨done++[(x+18446744073709551616-0-cr) % 18446744073709551616],r,_,by simp;omega,by rw [We];rfl,rfl,by split<;>omega,hrd.tail, ?_, ?_,hh⟩,by show xs.length-(done.length+1)<xs.length-done.length;omega, ?_⟩
    ·rw [←heq,WY,We];rfl
    ·rw [We];exact hsb
    exact V3
  ·have hr0:rest=[]:=XA VZ;subst hr0;obtain rfl:cr=0:=hsb;refine sr ?_;refine a0 (aa (ah (cF (aZ (aC (aC (br (ai (sr (mI ?_))))))))));refine ct (aB (aa (av ?_)));refine cW ?_;rw [WJ,sv,WJ] at*;rw [←heq];exact ⟨rfl,hh⟩
theorem Cr {H:List HE}{M:Nat}{Y:Option Addr} (pre xs post ys:List Nat) (w:World) (hh:Hp w0 (.row (some ⟨b,0,none⟩) M C 151 1 (dm (pre++xs++post))::H) w)
  (hy:∀w1 cs,Hp w0 (.row (some ⟨b,0,none⟩) M C 151 1 cs::H) w1→Sl w1 Y ny 1 (dm ys)) (hxd:Dg 18446744073709551616 xs) (hyd:Dg 18446744073709551616 ys) (hM:xs.length≤100000000000) (hny:ny≤100000000000):
  Calls Tryz.prog 210 #[.slice (some ⟨b,pre.length,none⟩) xs.length c',.slice Y ny cy] w fun e w'=>e=.returned (.tuple #[])∧Hp w0 (.row (some ⟨b,0,none⟩) M C 151 1 (dm (pre++hH 18446744073709551616 xs ys 1 0++post))::H) w':=by
 have hly:=(hy _ _ hh).1;rw [bm] at hly;refine aj (N:=34) (l:=[.slice (some ⟨b,pre.length,none⟩) xs.length c',.slice Y ny cy]) Tryz.func210 rfl rfl (by simp) ?_;refine sr (aI (aa (sr (mL (aF (mI (aa (aq ?_))))))));refine bz [4,5,6,9,10,11,12,13,14,15,16,17,18,19,20,21,22,23,24,25,26,27,28,29,30,31,32,33] 4 9
  (fun c i w'=>∃(done rest:List Nat) (cr:Nat),done.length+rest.length=xs.length∧i=.int .i64 done.length∧c=.int .u64 (cr:Int)∧cr≤1∧Dg 18446744073709551616 rest∧done++hH 18446744073709551616 rest (ys.drop done.length) 1 cr=hH 18446744073709551616 xs ys 1 0∧Hp w0 (.row (some ⟨b,0,none⟩) M C 151 1 (dm (pre++(done++rest)++post))::H) w')
  (fun _ i _=>xs.length-(intOf i).toNat) ?_ ?_
 ·exact ⟨[],xs,0,by simp,rfl,rfl,VZ,hxd,rfl,hh⟩
 ·clear hh;rintro ρ' c i w' ⟨done,rest,cr,hlen,rfl,rfl,hcr,hrd,heq,hh⟩;by_cases hlt:done.length<xs.length
  ·obtain ⟨x,r,rfl⟩:∃x r,rest=x::r:=by
    exact Lb
   have hx:=hrd.head;have hg:=ew (yL (pre:=pre) (done:=done) (r:=r) (post:=post) (x:=x));have hlr:done.length+(r.length+1)=xs.length:=by simpa using hlen
   simp only [hH,tail_drop,tY,Wn] at heq;by_cases hiy:done.length<ny
   ·obtain ⟨y,hyk⟩:=al (l:=ys) (k:=done.length) VZ;obtain ⟨ad,rfl,_⟩:=(hy _ _ hh).at_ VZ;rw [hyk,Xj] at heq;have hyw:=hyd.at_ hyk;refine sr ?_;refine wF ?_;refine a0 (aa (cT (ak (mL (mI ?_)))));refine LF ?_;refine bX aJ.out rfl ((hy _ _ hh).Q4 hyk) V0 ?_;refine aI (aa (ak (mL (mI (mL (mI ?_))))));refine oe ?_;refine ji ?_;refine mI (mI ?_);refine kH (jX x y cr hcr _) (aw (cP rfl) (aw (cP rfl) (aw (cP rfl) a8))) V0 ?_;refine mT ?_;refine dE ?_;refine dE ?_;refine oe ?_;refine wE ?_;intro ws hh;simp only [Wh] at hh;rw [Wn,cN (by rw [bm];simp only [We,WH];omega),gl,nG] at hh;refine wU ?_;refine bj (mI (az (ai ?_)));refine ⟨⟨done++[(x+y+cr) % 18446744073709551616],r,_,by simp;omega,by rw [We];rfl,rfl,VZ,hrd.tail, ?_,hh⟩,by show xs.length-(done.length+1)<xs.length-done.length;omega, ?_⟩
    ·rw [←heq,WY,We];rfl
    exact V3
   ·rw [WN VZ,Option.getD_none] at heq;refine sr ?_;refine wF ?_;refine a0 (aa (cF (ao (ai (ak (mL (mI (mL (mI ?_)))))))));refine oe ?_;refine ji ?_;refine mI (mI ?_);refine kH (jX x 0 cr hcr _) (aw (cP rfl) (aw (cP rfl) (aw (cP rfl) a8))) V0 ?_;refine mT ?_;refine dE ?_;refine dE ?_;refine oe ?_;refine wE ?_;intro ws hh;simp only [Wh] at hh;rw [Wn,cN (by rw [bm];simp only [We,WH];omega),gl,nG] at hh;refine wU ?_;refine bj (mI (az (ai ?_)));refine ⟨⟨done++[(x+0+cr) % 18446744073709551616],r,_,by simp;omega,by rw [We];rfl,rfl,VZ,hrd.tail, ?_,hh⟩,by show xs.length-(done.length+1)<xs.length-done.length;omega, ?_⟩
    ·rw [←heq,WY,We];rfl
    exact V3
  ·exact Ts
theorem M7 {i d:Nat} (D:Nat) (hD:D<18446744073709551616^i) (hd:d<18446744073709551616) (hk:i+n/64+1<k):
  (D*2^n)/18446744073709551616^(i+n/64) % 18446744073709551616<2^(n % 64)∧d*2^(n % 64) % 18446744073709551616=(d % 2^(64-n % 64))*2^(n % 64)∧
  (bO 18446744073709551616 k (D*2^n)).set (i+n/64) ((D*2^n)/18446744073709551616^(i+n/64) % 18446744073709551616+d*2^(n % 64) % 18446744073709551616)=bO 18446744073709551616 k (D*2^n+18446744073709551616^(i+n/64)*(d*2^(n % 64) % 18446744073709551616))∧
  (D*2^n+18446744073709551616^(i+n/64)*(d*2^(n % 64) % 18446744073709551616))/18446744073709551616^(i+n/64+1) % 18446744073709551616=0∧
  (bO 18446744073709551616 k (D*2^n+18446744073709551616^(i+n/64)*(d*2^(n % 64) % 18446744073709551616))).set (i+n/64+1) (d/2^(64-n % 64))=bO 18446744073709551616 k ((D+18446744073709551616^i*d)*2^n)∧
  (n % 64=0→D*2^n+18446744073709551616^(i+n/64)*(d*2^(n % 64) % 18446744073709551616)=(D+18446744073709551616^i*d)*2^n):=by
 have hW:(18446744073709551616:Nat)=2^64:=by decide
 have hs:n % 64<64:=WB _ VZ;have hn:2^n=18446744073709551616^(n/64)*2^(n % 64):=by
  rw [hW,←W5,←Wy];congr 1;omega
 generalize hq:n/64=q at*;generalize hse:n % 64=s at*;have e:(18446744073709551616:Nat)=2^(64-s)*2^s:=by rw [←Wy,hW];congr 1;omega
 have hpos:0<2^s:=WQ VZ;have hwp:∀j:Nat,0<18446744073709551616^j:=fun j=>WQ V0;have hP:D*2^n<18446744073709551616^(i+q)*2^s:=by
  rw [hn,←Xb,Wy];exact YE (YE hD (hwp q)) hpos
 have h1:(D*2^n)/18446744073709551616^(i+q)<2^s:=by rw [XH (hwp _),Wz (2^s)];exact hP
 have hsW:2^s≤18446744073709551616:=by rw [hW];exact WS VZ VZ
 have h2:d*2^s % 18446744073709551616=(d % 2^(64-s))*2^s:=by rw [e,Nat.mul_mod_mul_right]
 have h3:(d % 2^(64-s)+1)*2^s≤18446744073709551616:=by
  rw [e];exact Xr _ (WB _ (WQ VZ))
 rw [Xs] at h3;have h4:(D*2^n)/18446744073709551616^(i+q) % 18446744073709551616=(D*2^n)/18446744073709551616^(i+q):=WU VZ;have hlt1:D*2^n+18446744073709551616^(i+q)*(d*2^s % 18446744073709551616)<18446744073709551616^(i+q+1):=by
  rw [h2,W0];have:18446744073709551616^(i+q)*((d % 2^(64-s))*2^s+2^s)≤18446744073709551616^(i+q)*18446744073709551616:=WM _ h3;rw [W7] at this;omega
 have hup:=QV (d:=d) (s:=s) hd VZ;have hfin:D*2^n+18446744073709551616^(i+q)*(d*2^s % 18446744073709551616)+18446744073709551616^(i+q+1)*(d/2^(64-s))=(D+18446744073709551616^i*d)*2^n:=by
  have h5:18446744073709551616^(i+q)*(d*2^s % 18446744073709551616)+18446744073709551616^(i+q+1)*(d/2^(64-s))=18446744073709551616^(i+q)*(d*2^s):=by
   conv=>rhs;rw [←hup.1,W7]
   rw [W0,Xb,Wz 18446744073709551616]
  rw [Y7,h5,Yl,hn,Wy];congr 1;simp only [Xb,Zp,Wz]
 have hbig:∀j,j<k→18446744073709551616^j*18446744073709551616≤18446744073709551616^k:=fun j hj=>by rw [←W0];exact WS V0 hj
 have hb1:=hbig (i+q) VZ;rw [←W0] at hb1;refine ⟨by rw [h4];exact h1,h2, ?_, ?_, ?_, ?_⟩
 ·exact pz V0 VZ VZ (by rw [h4,h2];omega)
 ·rw [Xa hlt1]
 ·have h6:(D*2^n+18446744073709551616^(i+q)*(d*2^s % 18446744073709551616))/18446744073709551616^(i+q+1) % 18446744073709551616=0:=by rw [Xa hlt1]
  have h7:d/2^(64-s)<18446744073709551616:=Xi (Yw _ _) hd;have h8:=pz (B:=18446744073709551616) (k:=k) (n:=D*2^n+18446744073709551616^(i+q)*(d*2^s % 18446744073709551616)) (j:=i+q+1) (v:=d/2^(64-s)) V0 hk ?_ (by rw [h6];omega)
  ·rw [h6,Ws,hfin] at h8;exact h8
  ·have h9:18446744073709551616^(i+q+1)*(d/2^(64-s)+1)≤18446744073709551616^(i+q+1)*18446744073709551616:=WM _ h7;have h10:=hbig (i+q+1) hk;rw [XC] at h9;omega
 ·intro h0;subst h0;rw [←hfin];have:d/2^(64-0)=0:=Xa (by rw [←hW];exact hd);rw [this];simp
theorem GN (A:Option Addr) (n c m:Nat) (xs:List Nat) (w:World) (hx:Sl w A n 1 (dm xs)) (hd:Dg 18446744073709551616 xs) (hn:n≤1000000000) (hm:m≤10000000000):
  Calls Tryz.prog 196 #[.slice A n c,.int .i64 (m:Int)] w fun e w'=>∃A c,e=.returned (.slice A (aY 18446744073709551616 (bD 18446744073709551616 xs*2^m)).length c)∧w'.ownsRow w.heap.size 151 1 (.slice A (aY 18446744073709551616 (bD 18446744073709551616 xs*2^m)).length c) (aY 18446744073709551616 (bD 18446744073709551616 xs*2^m)).length (dm (aY 18446744073709551616 (bD 18446744073709551616 xs*2^m)))∧Below w.heap.size w w':=by
 have hl:=hx.1;rw [bm] at hl;have hh:=Hp.start w;have hs1:((m:Int) % 64).toNat=m % 64:=VZ;refine aj (N:=55) (l:=[.slice A n c,.int .i64 (m:Int)]) Tryz.func196 rfl rfl (by simp) ?_;refine sr (aL (aa (sr (mL (aF (mI ?_))))));refine me ?_;refine bj ?_;refine bj ?_;refine gB (n:=n+m/64+1) hh rfl rfl VZ VZ a9.out aJ.out rfl VZ VZ V0 ?_;intro b15 w15 hh;refine sa ?_;rw [qw] at hh;refine aW [6,7,8,18,19,20,21,22,23,24,25,26,27,28,29,30,31,32,33,34,35,36,37,38,39,40,41,42,43,44,45,46,47,48,49,50,51,52] 18
  (fun v w'=>∃i:Nat,i≤n∧v=.int .i64 i∧Hp w [.row (some ⟨b15,0,none⟩) (n+m/64+1) (n+m/64+1) 151 1 (dm (bO 18446744073709551616 (n+m/64+1) (bD 18446744073709551616 (xs.take i)*2^m)))] w')
  (fun v _=>n-(intOf v).toNat) ?_ ?_
 ·exact ⟨0,V8 _,rfl,by rw [XS,bD,YW,qP];exact hh⟩
 ·clear hh;rintro ρ' v w' ⟨i,hi,rfl,hh⟩;by_cases hlt:i<n
  ·obtain ⟨d,hdi⟩:=al (l:=xs) (k:=i) VZ;obtain ⟨ad,rfl,hr⟩:=hx.at_ VZ;have hd2:=ew hdi;have hdw:=hd.at_ hdi;have hD:=iD (hd.take i);rw [Ww,Xg VZ] at hD;obtain ⟨s1,s2,s3,s4,s5,s6⟩:=M7 (k:=n+m/64+1) (n:=m) (bD 18446744073709551616 (xs.take i)) hD hdw VZ;have hg:=ew (iA (B:=18446744073709551616) (n+m/64+1) (bD 18446744073709551616 (xs.take i)*2^m) (i+m/64) VZ);refine sr ?_;refine dY ?_;refine cK a9.out aJ.size rfl rfl rfl VZ V0 ?_;refine gP ?_;refine aI (aI (aa (sr (mI (mI ?_)))));refine me ?_;refine bj (aI (aa (ah ?_)));refine aN 8 [[(5,none)],[(8,none)],[(27,some 0),(28,some 1)],[(29,some 2)],[(7,none)],[(1,none)],[(32,some 5)],[(31,some 4),(33,some 6)]] [(7,34),(6,33),(5,32),(4,31),(3,30),(2,29),(1,28),(0,27)] hh mixed V2 ?_;refine fD ?_;refine dn ?_;refine Gn (i+m/64) ?_;refine a6 (i:=3) (fun ρ1 w1 hj hR=>fj aJ.out (show ρ1 29=Value.pointer _ from hR.1) (hj.hp.eK (i:=0) rfl (by rw [Wn];exact hg))) ?_;refine dn ?_;refine dn ?_;refine a6 (i:=6) (fun ρ1 w1 hj hR=>mU (show ρ1 32=Value.int _ _ from hR.1) rfl VZ VZ) ?_
   refine a6 (i:=7) (fun ρ1 w1 hj hR=>yK (show ρ1 31=Value.int _ _ from hR.1) (show ρ1 33=Value.int _ _ from hR.2.1) VZ) ?_;refine aG ?_;intro f W hJ hV;have hb_6:=hJ.bl;obtain ⟨v34,v33,v32,v31,v30,v29,v28,v27,_⟩:=hV;replace hh:=hJ.hp;refine aU (bg (ae v34 (ae v33 (ae v32 (ae v31 (ae v30 (ae v29 (ae v28 (ae v27 aT))))))))) ?_;dsimp only [bI];clear hJ;refine Gp ?_;refine dq (k:=i+m/64) a9.out aJ.size rfl rfl VZ VZ V0 ?_;refine Ij ?_;intro ws hh;simp only [Wh] at hh;rw [hs1,s2,Cs s1,←s2,Wn,cN (by rw [bm,aX];omega),gl,s3] at hh;by_cases h0:m % 64=0
   ·refine aa (sr (mI ?_));refine oB ?_;refine bH (aa (cF (ao (bF (ai (ak ?_))))));refine bj (mI (az (ai ?_)));rw [s6 h0,←eL hdi] at hh;exact Iq
   ·have hg2:=ew (iA (B:=18446744073709551616) (n+m/64+1) (bD 18446744073709551616 (xs.take i)*2^m+18446744073709551616^(i+m/64)*(d*2^(m % 64) % 18446744073709551616)) (i+m/64+1) VZ);rw [s4] at hg2;have hs2:(64-(m:Int) % 64).toNat=64-m % 64:=VZ;have hd64:d/2^(64-(m:Int) % 64).toNat<18446744073709551616:=Xi (Yw _ _) hdw;have h0w:(0:Nat)<18446744073709551616:=VZ;refine aa (sr (mI ?_));refine oB ?_;refine bH (aa (cT ?_));refine aN 10 [[(5,none)],[(8,none)],[(41,some 1)],[(40,some 0),(42,some 2)],[(43,some 3)],[(7,none)],[(1,none)],[(46,some 6)],[(47,some 7)],[(45,some 5),(48,some 8)]] [(9,49),(8,48),(7,47),(6,46),(5,45),(4,44),(3,43),(2,42),(1,41),(0,40)] hh mixed V2 ?_;refine fD ?_;refine dn ?_;refine nX ?_;refine Gn (i+m/64+1) ?_;refine a6 (i:=4) (fun ρ1 w1 hj hR=>fj aJ.out (show ρ1 43=Value.pointer _ from hR.1) (hj.hp.eK (i:=0) rfl (by rw [Wn];exact hg2))) ?_;refine dn ?_;refine dn ?_;refine a6 (i:=7) (fun ρ1 w1 hj hR=>mU (show ρ1 46=Value.int _ _ from hR.1) rfl VZ VZ) ?_;refine so ?_
    refine a6 (i:=9) (fun ρ1 w1 hj hR=>Cj (show ρ1 45=Value.int _ _ from hR.1) (show ρ1 48=Value.int _ _ from hR.2.1) VZ) ?_;refine aG ?_;intro f W hJ hV;have hb_8:=hJ.bl;obtain ⟨v49,v48,v47,v46,v45,v44,v43,v42,v41,v40,_⟩:=hV;replace hh:=hJ.hp;refine aU (bg (ae v49 (ae v48 (ae v47 (ae v46 (ae v45 (ae v44 (ae v43 (ae v42 (ae v41 (ae v40 aT))))))))))) ?_;dsimp only [bI];clear hJ;refine Gp ?_;refine dq (k:=i+m/64+1) a9.out aJ.size rfl rfl VZ VZ V0 ?_;refine Ij ?_;intro ws hh;simp only [Wh] at hh;rw [hs2,Nat.zero_or,Wn,cN (by rw [bm,aX];omega),gl,s5,←eL hdi] at hh;refine fN ?_;refine bj (mI (az (ai ?_)));exact Iq
  ·refine sr ?_;refine oE ?_;rw [Wc VZ] at hh;refine bq hh (ie _ _ _ (bO 18446744073709551616 (n+m/64+1) (bD 18446744073709551616 xs*2^m)) _ (hh.aD (i:=0) rfl) (V9 _) VZ) rfl ?_;intro w54 hh;refine aL (aa (av ?_));refine cW ?_;have hbd:bD 18446744073709551616 xs*2^m<18446744073709551616^(n+m/64+1):=by
    have h1:=iD hd;rw [show xs.length=n by omega] at h1;have h2:2^m≤18446744073709551616^(m/64+1):=by
     exact Qa
    rw [show n+m/64+1=n+(m/64+1) by omega,Wy];exact Xe (YE h1 (WQ VZ)) (WM _ h2)
   have hd:dX (bO 18446744073709551616 (n+m/64+1) (bD 18446744073709551616 xs*2^m))=aY 18446744073709551616 (bD 18446744073709551616 xs*2^m):=by
    exact Kv
   have h1:=(Hp.EZ (xs:=bO 18446744073709551616 (n+m/64+1) (bD 18446744073709551616 xs*2^m)) hh (aX _ _)).at_ (i:=0) rfl;exact Fy
theorem Sl.QY {xs:List Nat} (h:Sl w (some ad) n 1 (dm xs)) (hk:k<n):Sl w (some (ad.add (k*1))) (n-k) 1 (dm (xs.drop k)):=by
 have hl:=h.1;rw [bm] at hl;refine ⟨by rw [bm,Xu];omega,fun h0=>⟨_,rfl, ?_⟩⟩;obtain ⟨ad',he,hr⟩:=h.2 VZ;injection he with he
 subst he;rw [Wn,xt];exact hr.drop k
theorem HJ {s:Nat} (hs:s<64) (h0:0<s):
  (N/18446744073709551616^(j+1) % 18446744073709551616)*2^(64-s) % 18446744073709551616=N/18446744073709551616^(j+1) % 2^s*2^(64-s)∧
  (N/18446744073709551616^j % 18446744073709551616/2^s|||(N/18446744073709551616^(j+1) % 18446744073709551616)*2^(64-s) % 18446744073709551616)=N/2^(64*j+s) % 18446744073709551616:=by
 have hW:(18446744073709551616:Nat)=2^64:=by decide
 have e:(18446744073709551616:Nat)=2^s*2^(64-s):=by rw [←Wy,hW];congr 1;omega
 have h1:(N/18446744073709551616^(j+1) % 18446744073709551616)*2^(64-s) % 18446744073709551616=N/18446744073709551616^(j+1) % 2^s*2^(64-s):=by
  generalize N/18446744073709551616^(j+1)=m;rw [e,Nat.mul_mod_mul_right,Nat.mod_mul_right_mod]
 obtain ⟨h2,h3⟩:=xa N j s hs h0;exact ⟨h1,by rw [h1,Cs h2,h3]⟩
theorem BB (A:Option Addr) (n c m:Nat) (xs:List Nat) (w:World) (hx:Sl w A n 1 (dm xs)) (hd:Dg 18446744073709551616 xs) (hc:n≤c) (hn:n≤1000000000) (hm:m≤1000000000000):
  Calls Tryz.prog 197 #[.slice A n c,.int .i64 (m:Int)] w fun e w'=>∃A c,e=.returned (.slice A (aY 18446744073709551616 (bD 18446744073709551616 xs/2^m)).length c)∧w'.ownsRow w.heap.size 151 1 (.slice A (aY 18446744073709551616 (bD 18446744073709551616 xs/2^m)).length c) (aY 18446744073709551616 (bD 18446744073709551616 xs/2^m)).length (dm (aY 18446744073709551616 (bD 18446744073709551616 xs/2^m)))∧Below w.heap.size w w':=by
 have hl:=hx.1;rw [bm] at hl;have hh:=Hp.start w;have hs1:((m:Int) % 64).toNat=m % 64:=VZ;have hW:(18446744073709551616:Nat)=2^64:=by decide
 have hmm:2^m=18446744073709551616^(m/64)*2^(m % 64):=by
  rw [hW,←W5,←Wy];congr 1;omega
 have hlt:=iD hd;rw [show xs.length=n by omega] at hlt;by_cases hbig:n≤m/64
 ·have h0:bD 18446744073709551616 xs/2^m=0:=by
   apply Xa;refine Xe hlt (WK (WS V0 hbig) ?_);rw [hmm];exact ZC _ (WQ VZ)
  refine aj (N:=61) (l:=[.slice A n c,.int .i64 (m:Int)]) Tryz.func197 rfl rfl (by simp) ?_;refine sr (aL (aa (ah (sr (mI ?_)))));refine me ?_;refine mL (aF ?_);refine dP (aa (cT (sr (aL (aa (av (aK ?_)))))));refine cW ?_;rw [h0,gp VZ];exact Rh
 ·obtain ⟨ad,rfl,hr⟩:=hx.at_ VZ;have hsd:=hx.QY (k:=m/64) VZ;have hget:∀j,j<n→xs[j]?=some (bD 18446744073709551616 xs/18446744073709551616^j % 18446744073709551616):=fun j hj=>by
   obtain ⟨d,hdj⟩:=al (l:=xs) (k:=j) VZ;rw [hdj,sJ hd hdj]
  refine aj (N:=61) (l:=[.slice (some ad) n c,.int .i64 (m:Int)]) Tryz.func197 rfl rfl (by simp) ?_;refine sr (aL (aa (ah (sr (mI ?_)))));refine me ?_;refine mL (aF ?_);refine dP (aa (cF (ao (ai (sr (mL (mI ?_)))))));refine me ?_;refine Ag (l:=m/64) a9.out aJ.size rfl rfl VZ VZ VZ VZ V0 ?_;refine aE (oD _ _ _ 0 _ _ hsd VZ VZ) au.out rfl V0 ?_;rintro e_ w_ ⟨b16,rfl,hown_,hb_⟩;refine ⟨_,rfl, ?_⟩;replace hh:=hh.aO (x:=.row _ _ _ _ _ _) hb_ hown_;rw [Nat.zero_max,Xc,Zl,WJ] at hh;rw [Nat.zero_max];refine sa ?_;refine aW [6,19,20,21,22,23,24,25,26,27,28,29,30,31,32,33,34,35,36,37,38,39,40,41,42,43,44,45,46,47,48,49,50,51,52,53,54,55,56,57,58] 19
   (fun v w'=>∃i:Nat,i≤n-m/64∧v=.int .i64 i∧Hp w [.row (some ⟨b16,0,none⟩) (n-m/64) (n-m/64) 151 1 (dm (bO 18446744073709551616 i (bD 18446744073709551616 xs/2^m)++xs.drop (m/64+i)))] w')
   (fun v _=>(n-m/64)-(intOf v).toNat) ?_ ?_
  ·exact ⟨0,V8 _,rfl,hh⟩
  ·clear hh;rintro ρ' v w' ⟨i,hi,rfl,hh⟩;by_cases hlt2:i<n-m/64
   ·have hgi:=hget (m/64+i) VZ;have hdr:xs.drop (m/64+i)=(bD 18446744073709551616 xs/18446744073709551616^(m/64+i) % 18446744073709551616)::xs.drop (m/64+i+1):=by
     rw [Xv VZ];congr 1;have:=Wk.1 hgi;exact this.2
    have hcell:(bO 18446744073709551616 i (bD 18446744073709551616 xs/2^m)++xs.drop (m/64+i))[i]?=some (bD 18446744073709551616 xs/18446744073709551616^(m/64+i) % 18446744073709551616):=by
     rw [Xt (by rw [aX];omega),aX,hdr];simp
    have hg:=ew hcell;have hset:∀y,(bO 18446744073709551616 i (bD 18446744073709551616 xs/2^m)++xs.drop (m/64+i)).set i y=bO 18446744073709551616 i (bD 18446744073709551616 xs/2^m)++y::xs.drop (m/64+i+1):=fun y=>by
     rw [hdr,Yf _ _ (by rw [aX];omega),aX,Xc,Wh]
    have hll:(bO 18446744073709551616 i (bD 18446744073709551616 xs/2^m)++xs.drop (m/64+i)).length=n-m/64:=by rw [We,aX,Xu];omega
    have hac:∀y,bO 18446744073709551616 i (bD 18446744073709551616 xs/2^m)++y::xs.drop (m/64+i+1)=(bO 18446744073709551616 i (bD 18446744073709551616 xs/2^m)++[y])++xs.drop (m/64+(i+1)):=fun y=>List.append_cons _ _ _;have hnew:bO 18446744073709551616 (i+1) (bD 18446744073709551616 xs/2^m)=bO 18446744073709551616 i (bD 18446744073709551616 xs/2^m)++[bD 18446744073709551616 xs/2^(64*(m/64+i)+m % 64) % 18446744073709551616]:=by
     rw [lu,XG];congr 4;rw [hW,←W5,←Wy];congr 1;omega
    refine sr ?_;refine a0 (aa (ah (cT (ao (ai (ah (aq (sr (mI (aI (aa (sr (mL (mI ?_))))))))))))));refine fP ?_;refine ji ?_;refine mI ?_;refine oB ?_;refine Dp rfl rfl VZ V0 ?_;refine fP ?_;refine cf hh (i:=0) (vs:=[_]) rfl rfl (cP rfl) rfl aJ.out rfl (by rw [bm,hll];omega) rfl ?_;intro ws hh;simp only [Wh] at hh;rw [hs1,Wn,cN (by rw [bm,hll];omega),gl,hset] at hh;by_cases h0:m % 64=0
    ·have e1:bD 18446744073709551616 xs/18446744073709551616^(m/64+i) % 18446744073709551616/2^(m % 64)=bD 18446744073709551616 xs/2^(64*(m/64+i)+m % 64) % 18446744073709551616:=by
      rw [h0,YA,YG,XZ,W5,←hW]
     by_cases hl:i+1<n-m/64
     ·refine aa (sr (mI ?_));refine bj (mL (aF ?_));refine a0 (mB (gT (mI (gT ?_))));refine oB ?_;refine gT ?_;refine bH ?_;refine fi ?_;exact PA
     ·exact OH
    ·by_cases hl:i+1<n-m/64
     ·have hgj:=hget (m/64+i+1) VZ;have hgj2:=ew hgj;obtain ⟨d1,d2⟩:=HJ (N:=bD 18446744073709551616 xs) (j:=m/64+i) (s:=m % 64) (WB _ VZ) VZ;have hcell2:(bO 18446744073709551616 i (bD 18446744073709551616 xs/2^m)++(bD 18446744073709551616 xs/18446744073709551616^(m/64+i) % 18446744073709551616/2^(m % 64))::xs.drop (m/64+i+1))[i]?=some (bD 18446744073709551616 xs/18446744073709551616^(m/64+i) % 18446744073709551616/2^(m % 64)):=by
       rw [Xt (by rw [aX];omega),aX];simp
      have hg2:=ew hcell2;have hset2:∀y z,(bO 18446744073709551616 i (bD 18446744073709551616 xs/2^m)++y::xs.drop (m/64+i+1)).set i z=bO 18446744073709551616 i (bD 18446744073709551616 xs/2^m)++z::xs.drop (m/64+i+1):=fun y z=>by
       rw [Yf _ _ (by rw [aX];omega),aX,Xc,Wh]
      have hll2:∀y,(bO 18446744073709551616 i (bD 18446744073709551616 xs/2^m)++y::xs.drop (m/64+i+1)).length=n-m/64:=fun y=>by rw [We,aX,WH,Xu];omega
      have hs2:(64-(m:Int) % 64).toNat=64-m % 64:=VZ;have b1:bD 18446744073709551616 xs/18446744073709551616^(m/64+i) % 18446744073709551616/2^(m % 64)<18446744073709551616:=Xi (Yw _ _) (WB _ VZ);have b2:bD 18446744073709551616 xs/18446744073709551616^(m/64+i+1) % 18446744073709551616*2^(64-(m:Int) % 64).toNat % 18446744073709551616<18446744073709551616:=WB _ VZ;refine aa (sr (mI ?_));refine bj (mL (aF ?_));refine a0 (mB (gT (mI (gT ?_))));refine oB ?_;refine gT ?_;refine bH ?_;refine fi ?_;refine aa (cT ?_);refine aN 16 [[(5,none)],[(6,none)],[(40,some 0),(41,some 1)],[(42,some 2)],[(0,none)],[(1,none)],[(45,some 5)],[(6,none)],[(46,some 6),(47,some 7)],[(48,some 8)],[(44,some 4),(49,some 9)],[(50,some 10)],[(1,none)],[(52,some 12)],[(53,some 13)],[(51,some 11),(54,some 14)]] [(15,55),(14,54),(13,53),(12,52),(11,51),(10,50),(9,49),(8,48),(7,47),(6,46),(5,45),(4,44),(3,43),(2,42),(1,41),(0,40)] hh mixed V2 ?_;refine fD ?_;refine dn ?_;refine Gn (i) ?_
      refine a6 (i:=3) (fun ρ1 w1 hj hR=>fj aJ.out (show ρ1 42=Value.pointer _ from hR.1) (hj.hp.eK (i:=0) rfl (by rw [Wn];exact hg2))) ?_;refine fD ?_;refine dn ?_;refine a6 (i:=6) (fun ρ1 w1 hj hR=>oV (show ρ1 45=Value.int _ _ from hR.1) rfl VZ VZ VZ) ?_;refine dn ?_;refine nX ?_;refine nX ?_;refine nC (m/64+i+1) ?_;refine uF (fun _ hj=>(hr.ext hj.hp.below).wN hgj2) ?_;refine dn ?_;refine a6 (i:=13) (fun ρ1 w1 hj hR=>mU (show ρ1 52=Value.int _ _ from hR.1) rfl VZ VZ) ?_;refine so ?_;refine a6 (i:=15) (fun ρ1 w1 hj hR=>yK (show ρ1 51=Value.int _ _ from hR.1) (show ρ1 54=Value.int _ _ from hR.2.1) VZ) ?_;refine aG ?_;intro f W hJ hV;have hb_9:=hJ.bl;obtain ⟨v55,v54,v53,v52,v51,v50,v49,v48,v47,v46,v45,v44,v43,v42,v41,v40,_⟩:=hV;replace hh:=hJ.hp;refine aU (bg (ae v55 (ae v54 (ae v53 (ae v52 (ae v51 (ae v50 (ae v49 (ae v48 (ae v47 (ae v46 (ae v45 (ae v44 (ae v43 (ae v42 (ae v41 (ae v40 aT))))))))))))))))) ?_;dsimp only [bI];clear hJ;refine Gp ?_;refine fP ?_;refine cf hh (i:=0) (vs:=[_]) rfl rfl (cP rfl) rfl aJ.out rfl (by rw [bm,hll2];omega) rfl ?_;intro ws hh;simp only [Wh] at hh
      rw [hs2,d2,Wn,cN (by rw [bm,hll2];omega),gl,hset2,hac,←hnew] at hh;refine fN ?_;refine bj (mI (az (ai ?_)));exact Qb
     ·have e1:bD 18446744073709551616 xs/18446744073709551616^(m/64+i) % 18446744073709551616/2^(m % 64)=bD 18446744073709551616 xs/2^(64*(m/64+i)+m % 64) % 18446744073709551616:=by
       obtain ⟨h2,h3⟩:=xa (bD 18446744073709551616 xs) (m/64+i) (m % 64) (WB _ VZ) VZ;have h4:bD 18446744073709551616 xs/18446744073709551616^(m/64+i+1)=0:=Xa (Xe hlt (WS V0 VZ));rw [h4] at h3;simpa using h3
      exact OH
   ·obtain rfl:i=n-m/64:=VZ;rw [List.drop_eq_nil_of_le VZ,WJ] at hh;refine sr ?_;refine oE ?_;refine bq hh (ie _ _ _ (bO 18446744073709551616 (n-m/64) (bD 18446744073709551616 xs/2^m)) _ (hh.aD (i:=0) rfl) (V9 _) VZ) rfl ?_;intro w60 hh;refine aL (aa (av ?_));refine cW ?_;have hbd:bD 18446744073709551616 xs/2^m<18446744073709551616^(n-m/64):=by
     rw [XH (WQ VZ),hmm,←Xb,←Wy,show n-m/64+m/64=n by omega];exact Xe hlt (ZC _ (WQ VZ))
    have hd:dX (bO 18446744073709551616 (n-m/64) (bD 18446744073709551616 xs/2^m))=aY 18446744073709551616 (bD 18446744073709551616 xs/2^m):=by
     exact Kv
    have h1:=(Hp.EZ (xs:=bO 18446744073709551616 (n-m/64) (bD 18446744073709551616 xs/2^m)) hh (aX _ _)).at_ (i:=0) rfl;exact Fy
def bN (a:ByteArray):Nat:=bn a.data.toList
def sN (n:Nat):ByteArray:=str (sb n)
theorem eY (n:Nat):bN (sN n)=n:=by rw [bN,sN,dV,Tf]
theorem jP (n:Nat):(sN n).size=(bG n+7)/8:=by rw [sN,jr,GD,Cm]
theorem J8 {a:Nat} (h:sN a=sN b):a=b:=by rw [←eY a,h,eY]
theorem nn:sN 0=ByteArray.mk #[]:=by rw [sN,NH];rfl
theorem wG (a:ByteArray):bN a<256^a.size:=by rw [eh];exact OJ _
theorem fq (a:ByteArray):bG (bN a)≤8*a.size:=by
 apply dL;have:=wG a;rwa [show (256:Nat)=2^8 from rfl,←W5] at this
theorem G6 (h:n<256^k):(aY 18446744073709551616 n).length≤(k+7)/8:=by
 apply ij VZ;refine Xe h ?_;rw [show (256:Nat)=2^8 from rfl,show (18446744073709551616:Nat)=2^64 from rfl,←W5,←W5];exact WS VZ VZ
theorem fT (a:ByteArray):(aY 18446744073709551616 (bN a)).length≤(a.size+7)/8:=G6 (wG a)
theorem jm (n:Nat):Dg 18446744073709551616 (aY 18446744073709551616 n):=(dZ VZ n).1
theorem gG (n:Nat):bD 18446744073709551616 (aY 18446744073709551616 n)=n:=ee VZ n
theorem oP (a:ByteArray) (w:World) (ha:a.size≤1000000000):
  Calls Tryz.prog 161 #[.string a] w fun e w'=>∃b c,e=.returned (.slice (some ⟨b,0,none⟩) (aY 18446744073709551616 (bN a)).length c)∧w'.ownsRow w.heap.size 151 1 (.slice (some ⟨b,0,none⟩) (aY 18446744073709551616 (bN a)).length c) (aY 18446744073709551616 (bN a)).length (dm (aY 18446744073709551616 (bN a)))∧Below w.heap.size w w':=HP a w VZ
theorem rT (n:Nat) (w:World) (hn:n<18446744073709551616):
  Calls Tryz.prog 120 #[.int .u64 (n:Int)] w fun e w'=>e=.returned (.string (sN n))∧Below w.heap.size w w':=by
 have hh:=Hp.start w;refine aj (N:=6) (l:=[.int .u64 (n:Int)]) Tryz.func120 rfl rfl (by simp) ?_;refine sr (aS (aa (sr (mI ?_))));refine ub ?_;intro b4 w4 hh;refine bq hh (ic _ _ _ [n] _ (hh.aD (i:=0) rfl) (Dg.cons hn Dg.nil) (V9 _) VZ) rfl ?_;intro w5 hh;refine aS (aa (av ?_));refine cW ?_;refine ⟨?_,hh.below⟩;rw [sN];simp [bD]
theorem xU (a b:ByteArray) (w:World) (ha:a.size≤1000000000) (hb:b.size≤1000000000):
  Calls Tryz.prog 211 #[.string a,.string b] w fun e w'=>e=.returned (.int .i64 (ld (bN a) (bN b)))∧Below w.heap.size w w':=by
 have hh:=Hp.start w;have h1:=fT a;have h2:=fT b;refine aj (N:=10) (l:=[.string a,.string b]) Tryz.func211 rfl rfl (by simp) ?_;refine sr (aI (aa (sr (mS ?_))));refine se ?_;rintro e_ w6 ⟨A6,c6,rfl,hown_,hb_⟩;refine ⟨_,rfl, ?_⟩;replace hh:=hh.aO (x:=.row _ _ _ _ _ _) hb_ hown_;refine mS ?_;refine Gc ?_;rintro e_ w8 ⟨A8,c8,rfl,hown_,hb_⟩;refine ⟨_,rfl, ?_⟩;replace hh:=hh.aO (x:=.row _ _ _ _ _ _) hb_ hown_;refine Jk ?_;intro w9 hh;rw [gG,gG];exact yG
theorem lF (a:ByteArray) (w:World) (ha:a.size≤1000000000):
  Calls Tryz.prog 165 #[.string a] w fun e w'=>e=.returned (.int .i64 (bG (bN a)))∧Below w.heap.size w w':=by
 have hh:=Hp.start w;have h1:=fT a;refine aj (N:=6) (l:=[.string a]) Tryz.func165 rfl rfl (by simp) ?_;refine sr (aI (aa (sr (mS ?_))));refine se ?_;rintro e_ w4 ⟨A4,c4,rfl,hown_,hb_⟩;refine ⟨_,rfl, ?_⟩;replace hh:=hh.aO (x:=.row _ _ _ _ _ _) hb_ hown_;refine bq hh (uB _ _ _ (aY 18446744073709551616 (bN a)) _ (hh.aD (i:=0) rfl) (jm _) (hh.fm (i:=0) rfl) VZ) rfl ?_;intro w5 hh;rw [gG];exact yG
theorem iE (n m:Nat):bG (n*2^m)≤bG n+m:=by
 apply dL;rw [Wy];exact YE (db n) (WQ VZ)
theorem uG (n:Nat):(aY 18446744073709551616 n).length≤(bG n+63)/64:=by
 apply ij VZ;refine Xe (db n) ?_;exact Qa
theorem yM (a:ByteArray) (m:Nat) (w:World) (ha:a.size≤1000000000) (hm:m≤10000000000):
  Calls Tryz.prog 163 #[.string a,.int .i64 (m:Int)] w fun e w'=>e=.returned (.string (sN (bN a*2^m)))∧Below w.heap.size w w':=by
 have hh:=Hp.start w;have h1:=fT a;have h2:=uG (bN a*2^m);have h3:=iE (bN a) m;have h4:=fq a;have e1:(if (0:Int)>(m:Int) then 0 else (m:Int))=m:=V6 VZ;refine aj (N:=11) (l:=[.string a,.int .i64 (m:Int)]) Tryz.func163 rfl rfl (by simp) ?_;refine sr (aS (aa (sr (mS ?_))));refine se ?_;rintro e_ w6 ⟨A6,c6,rfl,hown_,hb_⟩;refine ⟨_,rfl, ?_⟩;replace hh:=hh.aO (x:=.row _ _ _ _ _ _) hb_ hown_;refine mI ?_;refine j0 rfl rfl V0 ?_;rw [e1];refine aE (GN _ _ _ m (aY 18446744073709551616 (bN a)) _ (hh.aD (i:=0) rfl) (jm _) VZ hm) au.out rfl V0 ?_;rintro e_ w9 ⟨A9,c9,rfl,hown_,hb_⟩;refine ⟨_,rfl, ?_⟩;replace hh:=hh.aO (x:=.row _ _ _ _ _ _) hb_ hown_;rw [gG] at*;refine bq hh (ic _ _ _ (aY 18446744073709551616 (bN a*2^m)) _ (hh.aD (i:=0) rfl) (jm _) (hh.fm (i:=0) rfl) VZ) rfl ?_;intro w10 hh;rw [gG];exact BG
theorem qD (n m:Nat):bG (n/2^m)≤bG n:=by
 apply dL;exact Xi (Yw _ _) (db n)
theorem x4 (a:ByteArray) (m:Nat) (w:World) (ha:a.size≤1000000000) (hm:m≤1000000000000):
  Calls Tryz.prog 164 #[.string a,.int .i64 (m:Int)] w fun e w'=>e=.returned (.string (sN (bN a/2^m)))∧Below w.heap.size w w':=by
 have hh:=Hp.start w;have h1:=fT a;have h2:=uG (bN a/2^m);have h3:=qD (bN a) m;have h4:=fq a;have e1:(if (0:Int)>(m:Int) then 0 else (m:Int))=m:=V6 VZ;refine aj (N:=11) (l:=[.string a,.int .i64 (m:Int)]) Tryz.func164 rfl rfl (by simp) ?_;refine sr (aS (aa (sr (mS ?_))));refine se ?_;rintro e_ w6 ⟨A6,c6,rfl,hown_,hb_⟩;refine ⟨_,rfl, ?_⟩;replace hh:=hh.aO (x:=.row _ _ _ _ _ _) hb_ hown_;refine mI ?_;refine j0 rfl rfl V0 ?_;rw [e1];refine aE (BB _ _ _ m (aY 18446744073709551616 (bN a)) _ (hh.aD (i:=0) rfl) (jm _) (hh.fm (i:=0) rfl) VZ hm) au.out rfl V0 ?_;rintro e_ w9 ⟨A9,c9,rfl,hown_,hb_⟩;refine ⟨_,rfl, ?_⟩;replace hh:=hh.aO (x:=.row _ _ _ _ _ _) hb_ hown_;rw [gG] at*;refine bq hh (ic _ _ _ (aY 18446744073709551616 (bN a/2^m)) _ (hh.aD (i:=0) rfl) (jm _) (hh.fm (i:=0) rfl) VZ) rfl ?_;intro w10 hh;rw [gG];exact BG
theorem Mc {x y:Nat} (h:y≤x):zG 18446744073709551616 (aY 18446744073709551616 x) (aY 18446744073709551616 y) 0=0∧bD 18446744073709551616 (sv 18446744073709551616 (aY 18446744073709551616 x) (aY 18446744073709551616 y) 0)=x-y:=by
 have:=Kw (B:=18446744073709551616) VZ (aY 18446744073709551616 x) (aY 18446744073709551616 y) 0 (jm _) (jm _) VZ (by rw [gG,gG];omega);rw [gG,gG] at this;exact ⟨this.2,VZ⟩
theorem p8 (a b:ByteArray) (w:World) (ha:a.size≤1000000000) (hb:b.size≤1000000000):
  Calls Tryz.prog 192 #[.string a,.string b] w fun e w'=>e=.returned (.tuple #[.string (sN (bN a-bN b)),.bool (decide (bN b≤bN a))])∧Below w.heap.size w w':=by
 have hh:=Hp.start w;have h1:=fT a;have h2:=fT b;by_cases hlt:bN a<bN b
 ·refine aj (N:=21) (l:=[.string a,.string b]) Tryz.func192 rfl rfl (by simp) ?_;refine sr (aS (aB (aa (sr (mS ?_)))));refine se ?_;rintro e_ w9 ⟨A9,c9,rfl,hown_,hb_⟩;refine ⟨_,rfl, ?_⟩;replace hh:=hh.aO (x:=.row _ _ _ _ _ _) hb_ hown_;refine mS ?_;refine Gc ?_;rintro e_ w11 ⟨A11,c11,rfl,hown_,hb_⟩;refine ⟨_,rfl, ?_⟩;replace hh:=hh.aO (x:=.row _ _ _ _ _ _) hb_ hown_;refine aL (aL (aa (ah (sr (mL (mL ?_))))));refine Jk ?_;intro w14 hh;rw [gG,gG,lK hlt];exact Sp
 ·obtain ⟨s1,s2⟩:=Mc (Nat.le_of_not_lt hlt);have hc:¬ld (bN a) (bN b)<0:=by unfold ld;split<;>(try split)<;>omega
  refine aj (N:=21) (l:=[.string a,.string b]) Tryz.func192 rfl rfl (by simp) ?_;refine sr (aS (aB (aa (sr (mS ?_)))));refine se ?_;rintro e_ w9 ⟨A9,c9,rfl,hown_,hb_⟩;refine ⟨_,rfl, ?_⟩;replace hh:=hh.aO (x:=.row _ _ _ _ _ _) hb_ hown_;refine mS ?_;refine Gc ?_;rintro e_ w11 ⟨A11,c11,rfl,hown_,hb_⟩;refine ⟨_,rfl, ?_⟩;replace hh:=hh.aO (x:=.row _ _ _ _ _ _) hb_ hown_;refine aL (aL (aa (ah (sr (mL (mL ?_))))));refine Jk ?_;intro w14 hh;rw [gG,gG];refine a0 (aa (cF (ao (ai (sr (mL (mL ?_)))))));replace hh:=hh.front 1 rfl;rw [←WJ (aY 18446744073709551616 (bN a)),←Wd (aY 18446744073709551616 (bN a))] at hh;have hll:=(hh.Oa (i:=0) rfl);rw [Wd,WJ] at hll;refine aE (BF [] (aY 18446744073709551616 (bN a)) [] (aY 18446744073709551616 (bN b)) _ hh (fun w1 cs h=>h.aD (i:=1) rfl) (jm _) (jm _) VZ VZ s1) au.out rfl V0 ?_;rintro e_ w_ ⟨rfl,hh⟩;refine ⟨_,rfl, ?_⟩;simp only [Wd,WJ] at hh;refine aa (sr (mL ?_))
  refine bq hh (ic _ _ _ (sv 18446744073709551616 (aY 18446744073709551616 (bN a)) (aY 18446744073709551616 (bN b)) 0) _ (hh.aD (i:=0) rfl) (M1 VZ _ _ _) (hh.fm (i:=0) rfl) VZ) rfl ?_;intro w20 hh;rw [s2];exact Qk
theorem yH (a b:ByteArray) (w:World) (ha:a.size≤1000000000) (hb:b.size≤1000000000):
  Calls Tryz.prog 189 #[.string a,.string b] w fun e w'=>e=.returned (.string (sN (bN a*bN b)))∧Below w.heap.size w w':=by
 have hh:=Hp.start w;have h1:=fT a;have h2:=fT b;refine aj (N:=37) (l:=[.string a,.string b]) Tryz.func189 rfl rfl (by simp) ?_;refine sr (aS (aa (sr (mS ?_))));refine se ?_;rintro e_ w11 ⟨A11,c11,rfl,hown_,hb_⟩;refine ⟨_,rfl, ?_⟩;replace hh:=hh.aO (x:=.row _ _ _ _ _ _) hb_ hown_;refine mS ?_;refine Gc ?_;rintro e_ w13 ⟨A13,c13,rfl,hown_,hb_⟩;refine ⟨_,rfl, ?_⟩;replace hh:=hh.aO (x:=.row _ _ _ _ _ _) hb_ hown_;have hxd:=jm (bN a);have hyd:=jm (bN b);have hX:=gG (bN a);have hY:=gG (bN b);generalize aY 18446744073709551616 (bN a)=xs at*;generalize aY 18446744073709551616 (bN b)=ys at*;refine aL (aL (aa (sr (mL (aF (mL (aF ?_)))))));refine bj ?_;refine bj ?_;refine gB (n:=xs.length+ys.length+1) hh rfl rfl VZ VZ a9.out aJ.out rfl VZ VZ V0 ?_;intro b20 w20 hh;refine sa ?_;rw [qw] at hh;refine aW [8,9,23,24,25,26,27,28,29,30,31,32,33,34] 23
  (fun v w'=>∃(i:Nat) (L:List Nat),i≤xs.length∧v=.int .i64 i∧Dg 18446744073709551616 L∧L.length=xs.length+ys.length+1∧bD 18446744073709551616 L=bD 18446744073709551616 (xs.take i)*bD 18446744073709551616 ys∧Hp w [.row (some ⟨b20,0,none⟩) (xs.length+ys.length+1) (xs.length+ys.length+1) 151 1 (dm L),.row (some ⟨A13,0,none⟩) ys.length c13 151 1 (dm ys),.row (some ⟨A11,0,none⟩) xs.length c11 151 1 (dm xs)] w')
  (fun v _=>xs.length-(intOf v).toNat) ?_ ?_
 ·exact ⟨0,_,V8 _,rfl,Dg.fW VZ _,by simp,by simp [rA,bD],hh⟩
 ·clear hh;rintro ρ' v w' ⟨i,L,hi,rfl,hLd,hLl,hLv,hh⟩;by_cases hlt:i<xs.length
  ·obtain ⟨m,hm⟩:=al (l:=xs) (k:=i) VZ;have hm2:=ew hm;have hmw:=hxd.at_ hm;have hpl:(L.take i).length=i:=by rw [Ww];omega
   have hsl:(L.drop i).length=xs.length+ys.length+1-i:=by rw [Xu];omega
   refine sr ?_;refine dY ?_;refine fP ?_;refine Ce ?_;refine aI (aI (aa (ak (mL (mI ?_)))));refine DF (l:=i) a9.out aJ.size rfl rfl VZ VZ VZ VZ V0 ?_;refine mL (mI ?_);have hc:=Ap (c':=xs.length+ys.length+1-i) (ny:=ys.length) (cy:=c13) (m:=m) (Y:=some ⟨A13,0,none⟩) (L.take i) (L.drop i) [] ys _ (by rw [WJ,W9];exact hh) (fun w1 cs h=>h.aD (i:=1) rfl) (hLd.drop i) hyd hmw VZ VZ;rw [hpl,hsl,WJ] at hc;rw [Ws,Wn];refine aE (hc) au.out rfl V0 ?_;rintro e_ w_ ⟨rfl,hh⟩;refine ⟨_,rfl, ?_⟩;have hlt1:=iD (hxd.take (i+1));have hlt2:=iD hyd;rw [Ww,Xg VZ] at hlt1;have hsn:=eL (B:=18446744073709551616) hm;have hsplit:=jf (B:=18446744073709551616) L i VZ;have hnew:18446744073709551616^i*(bD 18446744073709551616 (L.drop i)+bD 18446744073709551616 ys*m+0)+bD 18446744073709551616 (L.take i)=bD 18446744073709551616 (xs.take (i+1))*bD 18446744073709551616 ys:=by
    rw [hsn,Yl,←hLv,hsplit,XZ,W7,Xb,Wz m];omega
   have hbd:bD 18446744073709551616 (L.drop i)+bD 18446744073709551616 ys*m+0<18446744073709551616^(L.drop i).length:=by
    refine Nat.lt_of_mul_lt_mul_left (a:=18446744073709551616^i) ?_;rw [←Wy,hsl];refine Xi (Nat.le_add_right _ (bD 18446744073709551616 (L.take i))) ?_;rw [hnew];refine Xe (Nat.mul_lt_mul'' hlt1 hlt2) ?_;rw [←Wy];exact WS V0 VZ
   have hdp:=wM (B:=18446744073709551616) VZ _ _ _ _ hbd;refine fN ?_;refine bj (mI (az (ai ?_)));refine ⟨⟨i+1,L.take i++hH 18446744073709551616 (L.drop i) ys m 0,VZ,rfl,(hLd.take i).append (AF VZ _ _ _ _),by rw [We,pq,hpl,hsl];omega, ?_,hh⟩,by show xs.length-(i+1)<xs.length-i;omega, ?_⟩
   ·rw [eN,hdp,hpl,X6];exact hnew
   exact V3
  ·obtain rfl:i=xs.length:=VZ;rw [Y3,hX,hY] at hLv;refine sr ?_;refine oE ?_;refine bq hh (ic _ _ _ L _ (hh.aD (i:=0) rfl) hLd (V9 _) VZ) rfl ?_;intro w36 hh;rw [hLv];exact BG
theorem N6 {d r:Nat} (hd:d≠0) (hdw:d<18446744073709551616) (hn:n=18446744073709551616^k*(d+18446744073709551616*r)):tz n=64*k+tz d:=by
 obtain ⟨m,hm⟩:=sI hd;have ht:tz d<64:=xy hd (by simpa using hdw);have hW:(18446744073709551616:Nat)=2^64:=by decide
 generalize tz d=t at*;have e:n=2^(64*k+t)*(2*(m+2^(63-t)*r)+1):=by
  rw [hn,Wy,W5,←hW,Xb];congr 1;have h1:18446744073709551616=2^t*(2*2^(63-t)):=by rw [hW,←Nat.pow_succ',←Wy];congr 1;omega
  have h2:18446744073709551616*r=2^t*(2*2^(63-t)*r):=by rw [←Xb,←h1]
  rw [h2]
  conv=>lhs;rw [hm]
  rw [←W7];congr 1;rw [W7,Xb];omega
 rw [e,FE]
theorem kf (a:ByteArray) (w:World) (ha:a.size≤1000000000) (hT:er w):
  Calls Tryz.prog 118 #[.string a] w fun e w'=>e=.returned (.int .i64 (tz (bN a)))∧Below w.heap.size w w':=by
 have hh:=Hp.start w;have h1:=fT a;refine aj (N:=21) (l:=[.string a]) Tryz.func118 rfl rfl (by simp) ?_;refine sr (aI (aa (ah (sr (mS ?_)))));refine se ?_;rintro e_ w6 ⟨A6,c6,rfl,hown_,hb_⟩;refine ⟨_,rfl, ?_⟩;replace hh:=hh.aO (x:=.row _ _ _ _ _ _) hb_ hown_;have hxd:=jm (bN a);have hX:=gG (bN a);generalize aY 18446744073709551616 (bN a)=xs at*;refine aF (mI (aa (aq ?_)));refine aW [2,3,4,8,9,10,11,12,13,14,15,16,17,18,19,20] 8
  (fun v w'=>∃(i:Nat),i≤xs.length∧v=.int .i64 i∧bD 18446744073709551616 (xs.take i)=0∧Hp w [.row (some ⟨A6,0,none⟩) xs.length c6 151 1 (dm xs)] w')
  (fun v _=>xs.length-(intOf v).toNat) ?_ ?_
 ·exact ⟨0,V8 _,rfl,rfl,hh⟩
 ·clear hh;rintro ρ' v w' ⟨i,hi,rfl,hz,hh⟩;by_cases hlt:i<xs.length
  ·obtain ⟨d,hm⟩:=al (l:=xs) (k:=i) VZ;have hm2:=ew hm;have hmw:=hxd.at_ hm;by_cases h0:d=0
   ·subst h0;refine sr ?_;refine dY ?_;refine fP ?_;refine ji ?_;refine aI (aI (aa (sr (mI ?_))));refine cY (aa (cF (ao (bF (ai (ak ?_))))));refine bj (mI (az (ai ?_)));refine ⟨⟨i+1,VZ,rfl,by rw [eL hm,hz];simp,hh⟩,by show xs.length-(i+1)<xs.length-i;omega, ?_⟩;exact dF
   ·have htz:tz (bN a)=64*i+tz d:=by
     have h3:=jf (B:=18446744073709551616) xs i VZ;have h4:=(Wk.1 hm);rw [hz,Xv hlt,h4.2,bD,hX,Ws] at h3;exact N6 h0 hmw h3
    have ht:tz d<64:=xy h0 (by simpa using hmw);refine sr ?_;refine dY ?_;refine fP ?_;refine ji ?_;refine aI (aI (aa (sr (mI ?_))));refine cY (aa (cT (sr (mI ?_))));refine mulC (mI ?_);refine bq hh (DH _ _ hmw h0 (hT.hp hh)) rfl ?_;intro w18 hh;refine bj (aI (aa (av (cm (aK (aK (cm (aK ?_))))))));refine cW ?_;refine ⟨?_,hh.below⟩;congr 2;omega
  ·refine sr ?_;refine Gm ?_;refine cW ?_;rw [Wc VZ,hX] at hz;rw [hz];exact ⟨rfl,hh.below⟩
theorem NW {x y:Nat} (hx:x<18446744073709551616^k) (hy:y<18446744073709551616^k):bD 18446744073709551616 (hH 18446744073709551616 (aY 18446744073709551616 x++List.replicate (k+1-(aY 18446744073709551616 x).length) 0) (aY 18446744073709551616 y) 1 0)=x+y:=by
 have hl:=ij (B:=18446744073709551616) VZ hx;have h1:bD 18446744073709551616 (aY 18446744073709551616 x++List.replicate (k+1-(aY 18446744073709551616 x).length) 0)=x:=by rw [eN,rA,gG];simp
 have h2:(aY 18446744073709551616 x++List.replicate (k+1-(aY 18446744073709551616 x).length) 0).length=k+1:=by rw [We,XD];omega
 rw [wM VZ,h1,gG]
 ·omega
 ·rw [h1,h2,gG,W0];have:0<18446744073709551616^k:=WQ V0;omega
theorem rg (l:List Nat) (x:Nat):(l++[x]).sum=l.sum+x:=by simp
theorem ym (L:Option Addr) (n c:Nat) (ss:List ByteArray) (w:World) (hS:Sl w L n 1 (gM ss)) (hn:n≤1000000) (hs:∀s∈ss,s.size≤1000000000):
  Calls Tryz.prog 190 #[.slice L n c] w fun e w'=>e=.returned (.string (sN (ss.map bN).sum))∧Below w.heap.size w w':=by
 have hsl:ss.length=n:=by have:=hS.1;rw [mE] at this;omega
 have hh:=Hp.start w;refine aj (N:=31) (l:=[.slice L n c]) Tryz.func190 rfl rfl (by simp) ?_;refine sr (aS (aa (sr (aL (aa (ah (sr (mL (aF (mI (aa (aq ?_))))))))))));replace hh:=hh.cx 151 1;refine bz [3,5,6,9,10,11,12,13,14,15,16,17,18,19,20,21,22,23,24,25,26,27,28] 3 9
  (fun v j w'=>∃(i:Nat) (A:Option Addr) (c' T:Nat),i≤n∧j=.int .i64 i∧T=((ss.take i).map bN).sum∧v=.slice A (aY 18446744073709551616 T).length c'∧(aY 18446744073709551616 T).length≤125000001+i∧Hp w [.row A (aY 18446744073709551616 T).length c' 151 1 (dm (aY 18446744073709551616 T))] w')
  (fun _ j _=>n-(intOf j).toNat) ?_ ?_
 ·exact ⟨0,none,0,0,V8 _,rfl,rfl,by rw [gp VZ];rfl,by rw [gp VZ];simp,by rw [gp VZ];exact hh⟩
 ·clear hh;rintro ρ' v j w' ⟨i,A,c',T,hi,rfl,hT,rfl,hTl,hh⟩;by_cases hlt:i<n
  ·obtain ⟨s,hsi⟩:=al (l:=ss) (k:=i) VZ;obtain ⟨ad,rfl,hr⟩:=hS.at_ VZ;have hs2:=nQ hsi;have hsz:=hs s (Wb hsi);have hlx:=fT s;have hT2:((ss.take (i+1)).map bN).sum=T+bN s:=by rw [ay hsi,WX,YL,rg,hT]
   have e1:(if ((aY 18446744073709551616 (bN s)).length:Int)>((aY 18446744073709551616 T).length:Int) then ((aY 18446744073709551616 (bN s)).length:Int) else ((aY 18446744073709551616 T).length:Int))+1=((max (aY 18446744073709551616 T).length (aY 18446744073709551616 (bN s)).length+1:Nat):Int):=by split<;>omega
   have hb1:T<18446744073709551616^max (aY 18446744073709551616 T).length (aY 18446744073709551616 (bN s)).length:=Xe (qy VZ T) (WS V0 (Nat.le_max_left _ _));have hb2:bN s<18446744073709551616^max (aY 18446744073709551616 T).length (aY 18446744073709551616 (bN s)).length:=Xe (qy VZ (bN s)) (WS V0 (Nat.le_max_right _ _));have hadd:=NW hb1 hb2;refine sr ?_;refine eb ?_;refine cK a9.out aJ.size rfl rfl rfl VZ V0 ?_;refine gP ?_;refine aS (aa (sr (mS ?_)));refine aE (oP s _ hsz) au.out rfl V0 ?_;rintro e_ w14 ⟨A14,c14,rfl,hown_,hb_⟩;refine ⟨_,rfl, ?_⟩;replace hh:=hh.aO (x:=.row _ _ _ _ _ _) hb_ hown_;refine aL (aa (sr (mL (mL (aF (mL (aF ?_)))))));refine j0 rfl rfl V0 ?_;refine bj ?_;rw [e1];generalize hM:max (aY 18446744073709551616 T).length (aY 18446744073709551616 (bN s)).length=M at*;refine aE (oD _ _ _ (M+1) _ _ (hh.aD (i:=1) rfl) VZ VZ) au.out rfl V0 ?_;rintro e_ w_ ⟨b22,rfl,hown_,hb_⟩;refine ⟨_,rfl, ?_⟩;replace hh:=hh.aO (x:=.row _ _ _ _ _ _) hb_ hown_;have e2:max (M+1) (aY 18446744073709551616 T).length=M+1:=VZ;rw [e2] at hh;rw [e2]
   refine aL (aa (sr (mL (mL ?_))));have hc:=Cr (c':=M+1) (ny:=(aY 18446744073709551616 (bN s)).length) (cy:=c14) (Y:=some ⟨A14,0,none⟩) [] (aY 18446744073709551616 T++List.replicate (M+1-(aY 18446744073709551616 T).length) 0) [] (aY 18446744073709551616 (bN s)) _ (by rw [WJ,Wd];exact hh) (fun w1 cs h=>h.aD (i:=1) rfl) ((jm _).append (Dg.fW VZ _)) (jm _) (by rw [We,XD];omega) VZ;have e3:(aY 18446744073709551616 T++List.replicate (M+1-(aY 18446744073709551616 T).length) 0).length=M+1:=by rw [We,XD];omega
   rw [e3,WJ,Wd] at hc;refine aE (hc) au.out rfl V0 ?_;rintro e_ w_ ⟨rfl,hh⟩;refine ⟨_,rfl, ?_⟩;have hpl:(hH 18446744073709551616 (aY 18446744073709551616 T++List.replicate (M+1-(aY 18446744073709551616 T).length) 0) (aY 18446744073709551616 (bN s)) 1 0).length=M+1:=by rw [pq,e3]
   have hpd:=AF (B:=18446744073709551616) VZ (aY 18446744073709551616 T++List.replicate (M+1-(aY 18446744073709551616 T).length) 0) (aY 18446744073709551616 (bN s)) 1 0;generalize hH 18446744073709551616 (aY 18446744073709551616 T++List.replicate (M+1-(aY 18446744073709551616 T).length) 0) (aY 18446744073709551616 (bN s)) 1 0=Z at*;have hcz:dX Z=aY 18446744073709551616 (T+bN s):=by rw [hU VZ hpd,hadd]
   have hcl:=fF Z;refine aa (ak (mL ?_));refine bq hh (ie _ _ _ Z _ (hh.aD (i:=0) rfl) (V9 _) VZ) rfl ?_;intro w27 hh;replace hh:=(hh.EZ hpl).sub (X1 [_] _);rw [hcz] at*;refine lf ?_;refine bj (mI (az (ai ?_)));refine ⟨⟨i+1,_,_,T+bN s,VZ,rfl,hT2.symm,rfl,VZ,hh⟩,by show n-(i+1)<n-i;omega, ?_⟩;exact dF
  ·refine sr ?_;refine oE ?_;refine bq hh (ic _ _ _ (aY 18446744073709551616 T) _ (hh.aD (i:=0) rfl) (jm _) (hh.fm (i:=0) rfl) VZ) rfl ?_;intro w30 hh;rw [gG];exact Ox
theorem CC (s:ByteArray) (l h:Nat):s.extract l h=str ((s.data.toList.take h).drop l):=by
 apply uR;rw [dV];simp [ByteArray.extract,ByteArray.copySlice,List.drop_take]
def Rw:Value→Nat
 |.string t=>t.size
 |_=>0
theorem uh (s:ByteArray) (w:World):
  Calls Tryz.prog 218 #[.string s,.int .u8 ((0:UInt8).toNat:Int)] w fun e w'=>e=.returned (.string (sN (bN s)))∧Below w.heap.size w w':=by
 have hh:=Hp.start w;refine aj (N:=17) (l:=[.string s,.int .u8 ((0:UInt8).toNat:Int)]) Tryz.func218 rfl rfl (by simp) ?_;refine sr (aS (aa (ah (aq ?_))));refine aW [0,5,6,7,8,9,10,11,12,13,14,15] 0
  (fun v w'=>∃l:List UInt8,v=.string (str l)∧l.length≤s.size∧bn l=bN s∧w'=w)
  (fun v _=>Rw v) ?_ ?_
 ·exact ⟨s.data.toList,by rw [RT];rfl,by rw [eh];exact V9 _,rfl,rfl⟩
 ·rintro ρ' v w' ⟨l,rfl,hl,hb,rfl⟩;have hsz:=jr l
  cases l with
  |nil=>
   refine ah (sr (mS ?_));refine cg a9.out rfl V0 ?_;refine bH (mB ?_);refine gS (gS (gS (gS ?_)));refine dR ?_;refine aa (cF (aZ (aC (aC (br (ai (sr (mS (aS (aa (av ?_)))))))))));refine cW ?_;rw [sN,←hb];exact ⟨rfl,hh.below⟩
  |cons c l=>
   have hc0:(str (c::l)).data.toList[(0:Int).toNat]?=some c:=by rw [dV];rfl
   have hc8:=c.toNat_lt;have hlen:(str (c::l)).size=l.length+1:=by rw [hsz];rfl
   have hz:(0:UInt8).toNat=0:=rfl;by_cases h0:c=0
   ·subst h0;refine ah (sr (mS ?_));refine cg a9.out rfl V0 ?_;refine bH (mB (gT (mS (gT ?_))));refine kW ?_;refine gT (mI (gT ?_));refine ct ?_;refine fi ?_;refine aa (cT (ao (ai (aq (ak (mS ?_))))));refine rX (l:=1) (h:=(str ((0:UInt8)::l)).size) a9.out rfl ⟨_,_,rfl,VZ⟩ rfl VZ VZ V0 ?_;refine aS (az (bF (ai ?_)));rw [CC,dV,Wc (by rw [hlen];simp),List.drop_succ_cons,List.drop_zero];refine ⟨⟨l,rfl,by simp at hl;omega,by rw [←hb,I3],rfl⟩, ?_, ?_⟩
    ·show (str l).size<(str (0::l)).size;rw [hlen,jr];omega
    exact V3
   ·have hcn:c.toNat≠0:=fun h=>h0 (Y2.1 h);refine ah (sr (mS ?_));refine cg a9.out rfl V0 ?_;refine bH (mB (gT (mS (gT ?_))));refine kW ?_;refine gT (mI (gT ?_));refine ct ?_;refine fi ?_;refine aa (cF (aZ (aC (aC (br (ai (sr (mS (aS (aa (av ?_)))))))))));refine cW ?_;rw [sN,←hb,TP (by simpa using h0)];exact ⟨rfl,hh.below⟩
theorem u5 (s:ByteArray) (w:World):
  Calls Tryz.prog 199 #[.string s,.string (ByteArray.mk #[0])] w fun e w'=>e=.returned (.string (sN (bN s)))∧Below w.heap.size w w':=by
 have hh:=Hp.start w;have hne:¬ByteArray.mk #[(0:UInt8)]=ByteArray.mk #[]:=by intro h;injection h with h;simp at h
 have hsz1:(ByteArray.mk #[(0:UInt8)]).size=1:=rfl;have hc0:(ByteArray.mk #[(0:UInt8)]).data.toList[(0:Int).toNat]?=some 0:=rfl;have hz:(0:UInt8).toNat=0:=rfl;by_cases h0:s=ByteArray.mk #[]
 ·subst h0;refine aj (N:=37) (l:=[.string (ByteArray.mk #[]),.string (ByteArray.mk #[0])]) Tryz.func199 rfl rfl (by simp) ?_;refine sr (aS (aa (ah (sr (mS ?_)))));refine ky rfl rfl (by first|rfl|assumption|decide) V0 ?_;refine mB ?_;refine gS (gS ?_);refine fi ?_;refine aa (cT (sr (mS (aS (aa (av (aK ?_)))))));refine cW ?_;rw [show bN (ByteArray.mk #[])=0 from rfl,nn];exact ⟨rfl,hh.below⟩
 ·refine aj (N:=37) (l:=[.string s,.string (ByteArray.mk #[0])]) Tryz.func199 rfl rfl (by simp) ?_;refine sr (aS (aa (ah (sr (mS ?_)))));refine kz rfl rfl (by first|assumption|decide) V0 ?_;refine mB (gT (mS (gT ?_)))
  (first|refine ky rfl rfl (by first|rfl|assumption|decide) V0 ?_|refine kz rfl rfl (by first|assumption|decide) V0 ?_)
  refine dR ?_;refine aa (cF (ao (ai (ah (sr (mS ?_))))));refine cg a9.out rfl V0 ?_;refine ct (mB (gT (mS (gT ?_))));refine kW ?_;refine gT ?_;refine a0 ?_;refine fi ?_;refine aa (cT (sr (mS (mS ?_))));refine kW ?_;refine bq hh (uh s _) rfl ?_;intro w25 hh;refine aS (aa (av (aK ?_)));refine cW ?_;exact ⟨rfl,hh.below⟩
theorem kO (s:ByteArray) (w:World):
  Calls Tryz.prog 168 #[.string s] w fun e w'=>e=.returned (.string (sN (bN s)))∧Below w.heap.size w w':=by
 have hh:=Hp.start w;refine aj (N:=5) (l:=[.string s]) Tryz.func168 rfl rfl (by simp) ?_;refine sr (aS (aa (sr (mS ?_))));refine bq hh (u5 s _) rfl ?_;intro w4 hh;exact BG
variable {z:Int}
def iv (s:Bool) (m:ByteArray):Int:=if s then -(bN m:Int) else bN m
def iN (z:Int):Bool:=decide (z<0)
def iM (z:Int):ByteArray:=sN z.natAbs
theorem ff (z:Int):iv (iN z) (iM z)=z:=by
 unfold iv iN iM;rw [eY];by_cases h:z<0
 ·rw [Wr h,V5 rfl];omega
 ·rw [WG h,V6 (by simp)];omega
theorem sT:iM z=ByteArray.mk #[]↔z=0:=by
 rw [iM,←nn];constructor
 ·intro h;have:=J8 h;omega
 ·intro h;rw [h];rfl
theorem iK (s:Bool) (m:ByteArray):(iv s m).natAbs=bN m:=by
 unfold iv;split<;>omega
theorem FB (s:Bool) (m:ByteArray):iM (iv s m)=sN (bN m):=by rw [iM,iK]
theorem OX (s:Bool) (m:ByteArray):iN (iv s m)=(s && decide (bN m≠0)):=by
 unfold iN iv;rw [Bool.eq_iff_iff,Wm,Wt,Wt]
 cases s
 ·simp only [Y5,if_false,false_and,iff_false];omega
 ·simp only [if_true,true_and];omega
theorem jZ (s:Bool) (m:ByteArray) (w:World):
  Calls Tryz.prog 155 #[.agg #[.bool s,.string m]] w fun e w'=>e=.returned (.agg #[.string m,.bool s])∧Below w.heap.size w w':=by
 have hh:=Hp.start w;refine aj (N:=8) (l:=[.agg #[.bool s,.string m]]) Tryz.func155 rfl rfl (by simp) ?_;refine sr ?_;refine bV hh [_,_] ?_;intro b1 w1 hh;refine bJ hh ?_;intro b2 w2 hh;refine aa (sr (bC ?_));refine bA hh 1 ?_;refine bC ?_;refine bA hh 1 ?_;refine fe [_,_] ?_;exact LM
theorem dA (s:Bool) (m:ByteArray) (w:World):
  Calls Tryz.prog 121 #[.agg #[.string m,.bool s]] w fun e w'=>e=.returned (.agg #[.bool (iN (iv s m)),.string (iM (iv s m))])∧Below w.heap.size w w':=by
 have hh:=Hp.start w;rw [OX,FB]
 cases s with
 |false=>
  refine aj (N:=15) (l:=[.agg #[.string m,.bool false]]) Tryz.func121 rfl rfl (by simp) ?_;refine sr ?_;refine bV hh [_,_] ?_;intro b1 w1 hh;refine bJ hh ?_;intro b2 w2 hh;refine aa (sr (bC ?_));refine bA hh 1 ?_;refine bq hh (kO m _) rfl ?_;intro w6 hh;refine aS (aa (sr (bC ?_)));refine bA hh 1 ?_;refine mB ?_;refine gS (gS ?_);refine dR ?_;refine mS ?_;refine fe [_,_] ?_;exact LM
 |true=>
  by_cases h0:sN (bN m)=ByteArray.mk #[]
  ·refine aj (N:=15) (l:=[.agg #[.string m,.bool true]]) Tryz.func121 rfl rfl (by simp) ?_;refine sr ?_;refine bV hh [_,_] ?_;intro b1 w1 hh;refine bJ hh ?_;intro b2 w2 hh;refine aa (sr (bC ?_));refine bA hh 1 ?_;refine bq hh (kO m _) rfl ?_;intro w6 hh;refine aS (aa (sr (bC ?_)));refine bA hh 1 ?_;refine mB (gT (mS (gT ?_)))
   (first|refine kA rfl rfl (by first|rfl|assumption|decide) V0 ?_|refine kG rfl rfl (by first|assumption|decide) V0 ?_)
   refine fi ?_;refine mS ?_;refine fe [_,_] ?_;refine bL hh 0 [_,_] ?_;intro ws hh;replace hh:Hp _ (.blk _ _ [_,_] _::_) _:=hh;refine aa (av ?_);refine pw ?_;exact OM
  ·refine aj (N:=15) (l:=[.agg #[.string m,.bool true]]) Tryz.func121 rfl rfl (by simp) ?_;refine sr ?_;refine bV hh [_,_] ?_;intro b1 w1 hh;refine bJ hh ?_;intro b2 w2 hh;refine aa (sr (bC ?_));refine bA hh 1 ?_;refine bq hh (kO m _) rfl ?_;intro w6 hh;refine aS (aa (sr (bC ?_)));refine bA hh 1 ?_;refine mB (gT (mS (gT ?_)))
   (first|refine kA rfl rfl (by first|rfl|assumption|decide) V0 ?_|refine kG rfl rfl (by first|assumption|decide) V0 ?_)
   refine fi ?_;refine mS ?_;refine fe [_,_] ?_;refine bL hh 0 [_,_] ?_;intro ws hh;replace hh:Hp _ (.blk _ _ [_,_] _::_) _:=hh;refine aa (av ?_);refine pw ?_;exact P2
def Ve (s:Bool) (m:ByteArray):Value:=.agg #[.string m,.bool s]
theorem tw (a b:ByteArray) (w:World) (ha:a.size≤1000000000) (hb:b.size≤1000000000):
  Calls Tryz.prog 191 #[.string a,.string b] w fun e w'=>e=.returned (.int .i64 (ld (bN a) (bN b)))∧Below w.heap.size w w':=by
 have hh:=Hp.start w;refine aj (N:=8) (l:=[.string a,.string b]) Tryz.func191 rfl rfl (by simp) ?_;refine sr (aI (aa (sr (mS (mS ?_)))));refine bq hh (xU a b _ ha hb) rfl ?_;intro w7 hh;exact yG
theorem mD (s:Bool) (m:ByteArray) (w:World):
  Calls Tryz.prog 160 #[.agg #[.bool s,.string m]] w fun e w'=>e=.returned (.agg #[.bool (iN (iv s m)),.string (iM (iv s m))])∧Below w.heap.size w w':=by
 have hh:=Hp.start w;refine aj (N:=6) (l:=[.agg #[.bool s,.string m]]) Tryz.func160 rfl rfl (by simp) ?_;refine sr ?_;refine bV hh [_,_] ?_;intro b1 w1 hh;refine bJ hh ?_;intro b2 w2 hh;refine aa (sr ?_);refine bY hh 1 [_,_] ?_;refine bq hh (jZ s m _) rfl ?_;intro w4 hh;refine bq hh (dA s m _) rfl ?_;intro w5 hh;exact LM
theorem u3 (s:Bool) (m:ByteArray) (w:World):
  Calls Tryz.prog 127 #[.agg #[.bool s,.string m]] w fun e w'=>e=.returned (.agg #[.bool (iN (-(iv s m))),.string (iM (-(iv s m)))])∧Below w.heap.size w w':=by
 have hh:=Hp.start w;have e1:iv (!s) m= -(iv s m):=by unfold iv;cases s<;>simp
 refine aj (N:=10) (l:=[.agg #[.bool s,.string m]]) Tryz.func127 rfl rfl (by simp) ?_;refine sr ?_;refine bV hh [_,_] ?_;intro b1 w1 hh;refine bJ hh ?_;intro b2 w2 hh;refine aa (sr (bC ?_));refine bA hh 1 ?_;refine bC ?_;refine bA hh 1 ?_;refine gj ?_;refine fe [_,_] ?_;refine bq hh (dA (!s) m _) rfl ?_;intro w9 hh;rw [e1];exact LM
theorem kt (s:Bool) (m:ByteArray) (w:World):
  Calls Tryz.prog 117 #[.agg #[.bool s,.string m]] w fun e w'=>e=.returned (.int .i64 (iv s m).sign)∧Below w.heap.size w w':=by
 have hh:=Hp.start w;by_cases h1:iv s m<0
 ·have hn:iN (iv s m)=true:=Wr h1;refine J9 ?_;refine sr ?_;refine bV hh [_,_] ?_;intro b1 w1 hh;refine aI (aa (sr ?_));refine bY hh 0 [_,_] ?_;refine bq hh (mD s m _) rfl ?_;intro w5 hh;rw [hn];refine bJ hh ?_;intro b3 w3 hh;refine bL hh 0 [_,_] ?_;intro ws hh;replace hh:Hp _ (.blk _ _ [_,_] _::_) _:=hh;refine aa (ah (aq (sr (bC ?_))));refine bA hh 0 ?_;refine EP ?_;refine cW ?_;exact ⟨by rw [XO h1],hh.below⟩
 ·have hn:iN (iv s m)=false:=WG h1;by_cases h0:iM (iv s m)=ByteArray.mk #[]
  ·refine J9 ?_;refine sr ?_;refine bV hh [_,_] ?_;intro b1 w1 hh;refine aI (aa (sr ?_));refine bY hh 0 [_,_] ?_;refine bq hh (mD s m _) rfl ?_;intro w5 hh;rw [hn];refine bJ hh ?_;intro b3 w3 hh;refine bL hh 0 [_,_] ?_;intro ws hh;replace hh:Hp _ (.blk _ _ [_,_] _::_) _:=hh;refine aa (ah (aq (sr (bC ?_))));refine bA hh 0 ?_;refine aB (aa (cF (sr (bC ?_))));refine bA hh 0 ?_;refine ky rfl rfl (by first|rfl|assumption|decide) V0 ?_;refine EP ?_;refine cW ?_;exact ⟨by rw [sT.1 h0];rfl,hh.below⟩
  ·have h2:0<iv s m:=by
    have:iv s m≠0:=fun h=>h0 (sT.2 h);omega
   refine J9 ?_;refine sr ?_;refine bV hh [_,_] ?_;intro b1 w1 hh;refine aI (aa (sr ?_));refine bY hh 0 [_,_] ?_;refine bq hh (mD s m _) rfl ?_;intro w5 hh;rw [hn];refine bJ hh ?_;intro b3 w3 hh;refine bL hh 0 [_,_] ?_;intro ws hh;replace hh:Hp _ (.blk _ _ [_,_] _::_) _:=hh;refine aa (ah (aq (sr (bC ?_))));refine bA hh 0 ?_;refine aB (aa (cF (sr (bC ?_))));refine bA hh 0 ?_;refine kz rfl rfl (by first|assumption|decide) V0 ?_;refine aB (aa (cF (ao (bF (ai (sr (aI (aa (av ?_)))))))));refine cW ?_;exact ⟨by rw [XL h2],hh.below⟩
theorem dI (z:Int):(iM z).size=(bG z.natAbs+7)/8:=jP _
def xv (s t:Bool) (a b:ByteArray):Bool:=if s=t then s else if bN a<bN b then t else s
theorem Mj (s t:Bool) (a b:ByteArray):iv (xv s t a b) (iM (iv s a+iv t b))=iv s a+iv t b:=by
 unfold iM iv;rw [eY];unfold xv
 cases s<;>cases t<;>simp<;>(try split)<;>(try simp)<;>omega
theorem vj (s t:Bool) (a b:ByteArray):iv (s !=t) (iM (iv s a*iv t b))=iv s a*iv t b:=by
 rw [iM,X9,iK,iK];unfold iv;rw [eY]
 cases s<;>cases t<;>simp [Int.mul_neg,Int.neg_mul]
theorem At (s t:Bool) (a b:ByteArray) (w:World) (ha:a.size≤1000000000) (hb:b.size≤1000000000):
  Calls Tryz.prog 158 #[.agg #[.string a,.bool s],.agg #[.string b,.bool t]] w fun e w'=>e=.returned (.agg #[.string (iM (iv s a+iv t b)),.bool (xv s t a b)])∧Below w.heap.size w w':=by
 have hh:=Hp.start w;have hiv:∀(u:Bool) (n:Nat) (z:Int),(z=if u then -(n:Int) else n)→sN n=iM z:=by
  intro u n z hz;have h1:z.natAbs=n:=by rw [hz];split<;>omega
  rw [iM,h1]
 by_cases hst:s=t
 ·subst hst;have e1:=hiv s (bN a+bN b) (iv s a+iv s b) (by unfold iv;split<;>omega);refine aj (N:=41) (l:=[.agg #[.string a,.bool s],.agg #[.string b,.bool s]]) Tryz.func158 rfl rfl (by simp) ?_;refine sr ?_;refine bV hh [_,_] ?_;intro b2 w2 hh;refine bV hh [_,_] ?_;intro b3 w3 hh;refine bJ hh ?_;intro b4 w4 hh;refine aa (ah (sr (bC ?_)));refine bA hh 2 ?_;refine bC ?_;refine bA hh 1 ?_;refine EN a9.out rfl rfl (by first|rfl|assumption) V0 ?_;refine aa (cT (ah ?_));refine aN 8 [[(2,none)],[(12,some 0)],[(3,none)],[(14,some 2)],[(13,some 1),(15,some 3)],[(16,some 4)],[(2,none)],[(18,some 6)]] [(7,19),(6,18),(5,17),(4,16),(3,15),(2,14),(1,13),(0,12)] hh mixed V2 ?_;refine da ?_;refine dN 2 ?_;refine da ?_;refine dN 1 ?_;refine rh [_,_] ?_;refine aP (i:=5) (Is (.string (sN (bN a+bN b)))) Is.ext ?_ ?_
  ·intro ρ1 w1 hj hR;obtain ⟨A16,c16,h16,s16⟩:=hR.1;exact bf rfl (aQ au.out (aw h16 a8)) (ym A16 2 c16 [a,b] _ s16 VZ (by simp;omega)) (fun _ _ hq=>⟨_,hq.1,hq.2,rfl⟩)
  refine da ?_;refine dN 2 ?_;refine aG ?_;intro f W hJ hV;have hb_2:=hJ.bl;obtain ⟨v19,v18,v17,v16,v15,v14,v13,v12,_⟩:=hV;obtain ⟨A16,c16,e16,f16⟩:Rows _ _ _ (f 4) W:=v16;replace hh:=hJ.hp;refine aU (bg (ae v19 (ae v18 (ae v17 (ae e16 (ae v15 (ae v14 (ae v13 (ae v12 aT))))))))) ?_;dsimp only [bI];clear e16 hJ;refine fe [_,_] ?_;refine bL hh 0 [_,_] ?_;intro ws hh;replace hh:Hp _ (.blk _ _ [_,_] _::_) _:=hh;refine aa (av (aK ?_));refine pw ?_;rw [e1,xv,V5 rfl];exact ⟨rfl,hh.below⟩
 ·by_cases hlt:bN a<bN b
  ·have e1:=hiv t (bN b-bN a) (iv s a+iv t b) (by unfold iv;cases s<;>cases t<;>simp at hst ⊢ <;>omega);refine aj (N:=41) (l:=[.agg #[.string a,.bool s],.agg #[.string b,.bool t]]) Tryz.func158 rfl rfl (by simp) ?_;refine sr ?_;refine bV hh [_,_] ?_;intro b2 w2 hh;refine bV hh [_,_] ?_;intro b3 w3 hh;refine bJ hh ?_;intro b4 w4 hh;refine aa (ah (sr (bC ?_)));refine bA hh 2 ?_;refine bC ?_;refine bA hh 1 ?_;refine Gb ?_;refine E5 ?_;refine bA hh 2 ?_;refine bC ?_;refine bA hh 1 ?_;refine bq hh (tw a b _ ha hb) rfl ?_;intro w25 hh;rw [lK hlt];refine a0 (aa (cT (ak ?_)));refine bY hh 1 [_,_] ?_;refine bY hh 2 [_,_] ?_;refine bL hh 2 [_,_] ?_;intro ws hh;replace hh:Hp _ (_::_::.blk _ _ [_,_] _::_) _:=hh;refine bL hh 1 [_,_] ?_;intro ws hh;replace hh:Hp _ (_::.blk _ _ [_,_] _::_) _:=hh;refine aa (sr (bC ?_));refine bA hh 2 ?_;refine bC ?_;refine bA hh 1 ?_;refine bq hh (p8 b a _ hb ha) rfl ?_;intro w34 hh;refine mT ?_;refine dE ?_;refine dE ?_;refine aS (aB (aa (sr (mS (bC ?_)))));refine bA hh 2 ?_;refine fe [_,_] ?_;refine bL hh 0 [_,_] ?_;intro ws hh;replace hh:Hp _ (.blk _ _ [_,_] _::_) _:=hh;refine aa (av ?_);refine pw ?_
   rw [e1,xv,V6 hst,V5 hlt];exact ⟨rfl,hh.below⟩
  ·have e1:=hiv s (bN a-bN b) (iv s a+iv t b) (by unfold iv;cases s<;>cases t<;>simp at hst ⊢ <;>omega);have hc:¬ld (bN a) (bN b)<0:=by unfold ld;split<;>(try split)<;>omega
   refine aj (N:=41) (l:=[.agg #[.string a,.bool s],.agg #[.string b,.bool t]]) Tryz.func158 rfl rfl (by simp) ?_;refine sr ?_;refine bV hh [_,_] ?_;intro b2 w2 hh;refine bV hh [_,_] ?_;intro b3 w3 hh;refine bJ hh ?_;intro b4 w4 hh;refine aa (ah (sr (bC ?_)));refine bA hh 2 ?_;refine bC ?_;refine bA hh 1 ?_;refine Gb ?_;refine E5 ?_;refine bA hh 2 ?_;refine bC ?_;refine bA hh 1 ?_;refine bq hh (tw a b _ ha hb) rfl ?_;intro w25 hh;refine a0 (aa (cF (ao (ai (sr (bC ?_))))));refine bA hh 2 ?_;refine bC ?_;refine bA hh 1 ?_;refine bq hh (p8 a b _ ha hb) rfl ?_;intro w34 hh;refine mT ?_;refine dE ?_;refine dE ?_;refine aS (aB (aa (sr (mS (bC ?_)))));refine bA hh 2 ?_;refine fe [_,_] ?_;refine bL hh 0 [_,_] ?_;intro ws hh;replace hh:Hp _ (.blk _ _ [_,_] _::_) _:=hh;refine aa (av ?_);refine pw ?_;rw [e1,xv,V6 hst,V6 hlt];exact ⟨rfl,hh.below⟩
theorem pF (s t:Bool) (a b:ByteArray) (w:World) (ha:a.size≤1000000000) (hb:b.size≤1000000000):
  Calls Tryz.prog 156 #[.agg #[.string a,.bool s],.agg #[.string b,.bool t]] w fun e w'=>e=.returned (.agg #[.string (iM (iv s a*iv t b)),.bool (s !=t)])∧Below w.heap.size w w':=by
 have hh:=Hp.start w;have e0:(iv s a*iv t b).natAbs=bN a*bN b:=by rw [X9,iK,iK]
 have e1:iM (iv s a*iv t b)=sN (bN a*bN b):=by rw [iM,e0]
 refine aj (N:=16) (l:=[.agg #[.string a,.bool s],.agg #[.string b,.bool t]]) Tryz.func156 rfl rfl (by simp) ?_;refine sr ?_;refine bV hh [_,_] ?_;intro b2 w2 hh;refine bV hh [_,_] ?_;intro b3 w3 hh;refine bJ hh ?_;intro b4 w4 hh;refine aa (ah ?_);refine I8 ?_;refine da ?_;refine dN 2 ?_;refine da ?_;refine dN 1 ?_;refine dC (fun _ hj=>yH a b _ ha hb) ?_;refine da ?_;refine dN 2 ?_;refine da ?_;refine dN 1 ?_;refine a6 (i:=9) (fun ρ1 w1 hj hR=>l6 a9.out (show ρ1 11=Value.bool _ from hR.1) (show ρ1 13=Value.bool _ from hR.2.1)) ?_;refine aG ?_;intro f W hJ hV;have hb_1:=hJ.bl;obtain ⟨v14,v13,v12,v11,v10,v9,v8,v7,v6,v5,_⟩:=hV;replace hh:=hJ.hp;refine F3 ?_;dsimp only [bI];clear hJ;refine fe [_,_] ?_;refine bL hh 0 [_,_] ?_;intro ws hh;replace hh:Hp _ (.blk _ _ [_,_] _::_) _:=hh;refine aa (av ?_);refine pw ?_;rw [e1];exact ⟨rfl,hh.below⟩
theorem nI (n:Int) (w:World) (h1: -9223372036854775808≤n) (h2:n≤9223372036854775807):
  Calls Tryz.prog 69 #[.int .i64 n] w fun e w'=>e=.returned (.agg #[.bool (iN n),.string (iM n)])∧Below w.heap.size w w':=by
 have hh:=Hp.start w;by_cases h0:n<0
 ·have e1:iv true (sN n.natAbs)=n:=by unfold iv;rw [eY,V5 rfl];omega
  have hw:IntKind.u64.wrap n=((18446744073709551616-n.natAbs:Nat):Int):=by
   rw [show n=((18446744073709551616-n.natAbs:Nat):Int)+ -((18446744073709551616:Nat):Int) by omega];have:=UK.wrap_add (k:=.u64) (((18446744073709551616-n.natAbs:Nat):Int)+ -((18446744073709551616:Nat):Int));rw [←this,Int.neg_add_cancel_right,UK.qI VZ];omega
  have hn:(18446744073709551616-(18446744073709551616-n.natAbs)) % 18446744073709551616=n.natAbs:=VZ;refine aj (N:=16) (l:=[.int .i64 n]) Tryz.func69 rfl rfl (by simp) ?_;refine sr ?_;refine bJ hh ?_;intro b2 w2 hh;refine aa (ah (sr (mI ?_)));refine a0 (aa (cT (sr (mI ?_))));refine uK a9.out a9.out rfl V0 ?_;rw [hw];refine K7 rfl VZ V0 ?_;rw [hn];skip;refine bq hh (rT n.natAbs _ VZ) rfl ?_;intro w8 hh;refine fe [_,_] ?_;refine bq hh (dA true (sN n.natAbs) _) rfl ?_;intro w10 hh;rw [e1];exact Ak
 ·obtain ⟨m,rfl⟩:=Zs (by omega:0≤n);have e1:iv false (sN m)=m:=by unfold iv;rw [eY];simp
  have hm:m<18446744073709551616:=VZ;refine aj (N:=16) (l:=[.int .i64 (m:Int)]) Tryz.func69 rfl rfl (by simp) ?_;refine sr ?_;refine bJ hh ?_;intro b2 w2 hh;refine aa (ah (sr (mI ?_)));refine a0 (aa (cF (ao (ai (sr (mI ?_))))));refine kV ?_;refine bq hh (rT m _ hm) rfl ?_;intro w13 hh;refine fe [_,_] ?_;refine bq hh (dA false (sN m) _) rfl ?_;intro w15 hh;rw [e1];exact LM
structure IR where
 neg:Bool
 bk:ByteArray
def IR.cells (a:IR):List Value:=[.bool a.neg,.string a.bk]
def IR.v (a:IR):Int:=iv a.neg a.bk
def iR (z:Int):IR:=⟨iN z,iM z⟩
theorem Ss (z:Int):(iR z).v=z:=ff z
theorem IR.len (a:IR):a.cells.length=2:=rfl
theorem lU (x y:Int):bG (x+y).natAbs≤max (bG x.natAbs) (bG y.natAbs)+1:=by
 apply dL;have h1:=db x.natAbs;have h2:=db y.natAbs;have h3:2^bG x.natAbs≤2^max (bG x.natAbs) (bG y.natAbs):=WS VZ (Nat.le_max_left _ _);have h4:2^bG y.natAbs≤2^max (bG x.natAbs) (bG y.natAbs):=WS VZ (Nat.le_max_right _ _);rw [W0];omega
theorem gQ (s:Bool) (m:ByteArray):bG (iv s m).natAbs≤8*m.size:=by rw [iK];exact fq m
theorem GM (l:List Int) (x:Int):(l++[x]).sum=l.sum+x:=by simp
theorem tk (L:Option Addr) (n c:Nat) (l:List IR) (w:World) (hS:Sl w L n 2 (aA IR.cells l)) (hn:n≤1000000) (hs:∀s∈l,s.bk.size≤100000000):
  Calls Tryz.prog 113 #[.slice L n c] w fun e w'=>e=.returned (.agg #[.bool (iN (l.map IR.v).sum),.string (iM (l.map IR.v).sum)])∧Below w.heap.size w w':=by
 have hl:=hS.bE IR.len VZ;have hh:=Hp.start w;refine aj (N:=19) (l:=[.slice L n c]) Tryz.func113 rfl rfl (by simp) ?_;refine sr ?_;refine bJ hh ?_;intro b2 w2 hh;refine aa (sr ?_);refine bJ hh ?_;intro b3 w3 hh;refine xw ?_;refine aW [5,8,9,10,11,12,13,14,15,16] 8
  (fun j w'=>∃(i:Nat) (u:Bool) (S:Int),i≤n∧j=.int .i64 i∧S=((l.take i).map IR.v).sum∧iv u (iM S)=S∧bG S.natAbs≤800000000+i∧Hp w [.blk b3 153 [.string (iM S),.bool u] (0,0),.blk b2 38 [.bool false,.string (ByteArray.mk #[])] (0,0)] w')
  (fun j _=>n-(intOf j).toNat) ?_ ?_
 ·exact ⟨0,false,0,V8 _,rfl,rfl,by rw [iM];exact Xm _ (eY 0),by simp [lC],by rw [iM,Int.natAbs_zero,nn];exact hh⟩
 ·clear hh;rintro ρ' j w' ⟨i,u,S,hi,rfl,hS2,hu,hb,hh⟩;by_cases hlt:i<n
  ·obtain ⟨x,hx⟩:=al (l:=l) (k:=i) VZ;obtain ⟨ad,rfl,hr⟩:=hS.at_ VZ;have hxs:=hs x (Wb hx);have hS3:((l.take (i+1)).map IR.v).sum=S+x.v:=by rw [ay hx,WX,YL,GM,hS2]
   have hms:(iM S).size≤1000000000:=by rw [dI];omega
   have hbx:=gQ x.neg x.bk;have hba:=lU S x.v;have hpl:=Mj u x.neg (iM S) x.bk;rw [hu] at hpl;have hwc:=fun w1=>At u x.neg (iM S) x.bk w1 hms VZ;rw [hu] at hwc;refine sr ?_;refine eb ?_;refine cA ?_;refine cz (vs:=[_,_]) aJ.out rfl (((hr.ext hh.below).recAt IR.len hx)) rfl V0 ?_;refine bJ hh ?_;intro b5 w5 hh;refine bL hh 0 [_,_] ?_;intro ws hh;replace hh:Hp _ (.blk _ _ [_,_] _::_) _:=hh;refine aa ?_;refine aN 3 [[(3,none)],[(5,none)],[(13,some 1)]] [(2,14),(1,13),(0,12)] hh mixed V2 ?_;refine eJ 1 [_,_] ?_;refine eJ 0 [_,_] ?_;refine dC (fun _ hj=>jZ x.neg x.bk _) ?_;refine aG ?_;intro f W hJ hV;have hb_5:=hJ.bl;obtain ⟨v14,v13,v12,_⟩:=hV;replace hh:=hJ.hp;refine aU (bg (ae v14 (ae v13 (ae v12 aT)))) ?_;dsimp only [bI];clear hJ;refine bq hh (hwc _) rfl ?_;intro w15 hh;exact Qp
  ·refine sr ?_;refine mf ?_;refine bY hh 0 [_,_] ?_;refine bq hh (dA u (iM S) _) rfl ?_;intro w18 hh;exact Sw
theorem mQ (s:Bool) (b:ByteArray):(iM (-(iv s b))).size≤b.size:=by
 have:=gQ s b;rw [dI,Int.natAbs_neg];omega
theorem uz (s t:Bool) (a b:ByteArray) (w:World) (ha:a.size≤100000000) (hb:b.size≤100000000):
  Calls Tryz.prog 166 #[.agg #[.bool s,.string a],.agg #[.bool t,.string b]] w fun e w'=>e=.returned (.agg #[.bool (iN (iv s a-iv t b)),.string (iM (iv s a-iv t b))])∧Below w.heap.size w w':=by
 have hh:=Hp.start w;have h1:=mQ t b;have e1:([IR.mk s a,iR (-(iv t b))].map IR.v).sum=iv s a-iv t b:=by
  simp only [Wv,WV,List.sum_cons,List.sum_nil,Ss];simp only [IR.v];omega
 refine aj (N:=10) (l:=[.agg #[.bool s,.string a],.agg #[.bool t,.string b]]) Tryz.func166 rfl rfl (by simp) ?_;refine sr ?_;refine bV hh [_,_] ?_;intro b2 w2 hh;refine bV hh [_,_] ?_;intro b3 w3 hh;refine bJ hh ?_;intro b4 w4 hh;refine aa (ah ?_);refine Jc ?_;refine eJ 2 [_,_] ?_;refine eJ 1 [_,_] ?_;refine dC (fun _ hj=>u3 t b _) ?_;refine aG ?_;intro f W hJ hV;have hb_1:=hJ.bl;obtain ⟨v7,v6,v5,_⟩:=hV;replace hh:=hJ.hp;refine tK ?_;dsimp only [bI];clear hJ;refine Fq ?_;intro b8 w8 hh;refine bq hh (tk _ 2 _ [IR.mk s a,iR (-(iv t b))] _ (hh.aD (i:=0) rfl) VZ (by simp [iR];omega)) rfl ?_;intro w9 hh;rw [e1];exact J4
theorem D6 (s t:Bool) (a b:ByteArray) (w:World) (ha:a.size≤100000000) (hb:b.size≤100000000):
  Calls Tryz.prog 171 #[.agg #[.bool s,.string a],.agg #[.bool t,.string b]] w fun e w'=>e=.returned (.int .i64 (iv s a-iv t b).sign)∧Below w.heap.size w w':=by
 have hh:=Hp.start w;refine aj (N:=9) (l:=[.agg #[.bool s,.string a],.agg #[.bool t,.string b]]) Tryz.func171 rfl rfl (by simp) ?_;refine sr ?_;refine bV hh [_,_] ?_;intro b2 w2 hh;refine bV hh [_,_] ?_;intro b3 w3 hh;refine aI (aa (sr ?_));refine bY hh 1 [_,_] ?_;refine bY hh 0 [_,_] ?_;refine bq hh (uz s t a b _ ha hb) rfl ?_;intro w7 hh;refine bq hh (kt _ _ _) rfl ?_;intro w8 hh;rw [ff];exact yG
theorem AU (a b:Nat):bG (a*b)≤bG a+bG b:=by
 apply dL;rw [Wy];exact Nat.mul_lt_mul'' (db a) (db b)
theorem jM (a b:Int):bG (a*b).natAbs≤bG a.natAbs+bG b.natAbs:=by rw [X9];exact AU _ _
def mZ:List Int→Int
 |[]=>1
 |x::l=>x*mZ l
theorem C7 (l:List Int) (x:Int):mZ (l++[x])=mZ l*x:=by
 induction l with
 |nil=>simp [mZ]
 |cons y l ih=>simp only [Wf,mZ,ih,Int.mul_assoc]
theorem BI (l:List Nat) (i:Nat):(l.take i).sum≤l.sum:=by
 rw [←List.sum_append_nat.symm.trans (Xm List.sum (W9 i l))];omega
theorem th:bG 1=1:=by decide+kernel
theorem Di (L:Option Addr) (n c:Nat) (l:List IR) (w:World) (hS:Sl w L n 2 (aA IR.cells l)) (hn:n≤1000000) (hs:(l.map fun a=>a.bk.size).sum≤100000000):
  Calls Tryz.prog 111 #[.slice L n c] w fun e w'=>e=.returned (.agg #[.bool (iN (mZ (l.map IR.v))),.string (iM (mZ (l.map IR.v)))])∧Below w.heap.size w w':=by
 have hl:=hS.bE IR.len VZ;have hh:=Hp.start w;have hsum:=BI (l.map fun a=>a.bk.size);refine aj (N:=21) (l:=[.slice L n c]) Tryz.func111 rfl rfl (by simp) ?_;refine sr ?_;refine bJ hh ?_;intro b2 w2 hh;refine aa (sr ?_);refine bq hh (nI 1 _ VZ VZ) rfl ?_;intro w6 hh;refine bq hh (jZ _ _ _) rfl ?_;intro w7 hh;refine bJ hh ?_;intro b3 w3 hh;refine bL hh 0 [_,_] ?_;intro ws hh;replace hh:Hp _ (.blk _ _ [_,_] _::_) _:=hh;refine xw ?_;refine aW [5,10,11,12,13,14,15,16,17,18] 10
  (fun j w'=>∃(i:Nat) (u:Bool) (S:Int),i≤n∧j=.int .i64 i∧S=mZ ((l.take i).map IR.v)∧iv u (iM S)=S∧bG S.natAbs≤1+8*((l.map fun a=>a.bk.size).take i).sum∧Hp w [.blk b3 153 [.string (iM S),.bool u] (0,0),.blk b2 38 [.bool false,.string (ByteArray.mk #[])] (0,0)] w')
  (fun j _=>n-(intOf j).toNat) ?_ ?_
 ·exact ⟨0,_,1,V8 _,rfl,rfl,ff 1,by rw [Int.natAbs_one,th];omega,hh⟩
 ·clear hh;rintro ρ' j w' ⟨i,u,S,hi,rfl,hS2,hu,hb,hh⟩;by_cases hlt:i<n
  ·obtain ⟨x,hx⟩:=al (l:=l) (k:=i) VZ;obtain ⟨ad,rfl,hr⟩:=hS.at_ VZ;have hsi:=hsum i;have hsi2:=hsum (i+1);have hsz:((l.map fun a=>a.bk.size).take (i+1)).sum=((l.map fun a=>a.bk.size).take i).sum+x.bk.size:=by
    rw [ay (x:=x.bk.size) (by rw [Wg,hx];rfl),rg]
   have hS3:mZ ((l.take (i+1)).map IR.v)=S*x.v:=by rw [ay hx,WX,YL,C7,hS2]
   have hms:(iM S).size≤1000000000:=by rw [dI];omega
   have hbx:=gQ x.neg x.bk;have hba:=jM S x.v;have hpl:=vj u x.neg (iM S) x.bk;rw [hu] at hpl;have hwc:=fun w1=>pF u x.neg (iM S) x.bk w1 hms VZ;rw [hu] at hwc;refine sr ?_;refine eb ?_;refine cA ?_;refine cz (vs:=[_,_]) aJ.out rfl (((hr.ext hh.below).recAt IR.len hx)) rfl V0 ?_;refine bJ hh ?_;intro b5 w5 hh;refine bL hh 0 [_,_] ?_;intro ws hh;replace hh:Hp _ (.blk _ _ [_,_] _::_) _:=hh;refine aa ?_;refine aN 3 [[(3,none)],[(5,none)],[(15,some 1)]] [(2,16),(1,15),(0,14)] hh mixed V2 ?_;refine eJ 1 [_,_] ?_;refine eJ 0 [_,_] ?_;refine dC (fun _ hj=>jZ x.neg x.bk _) ?_;refine aG ?_;intro f W hJ hV;have hb_5:=hJ.bl;obtain ⟨v16,v15,v14,_⟩:=hV;replace hh:=hJ.hp;refine aU (bg (ae v16 (ae v15 (ae v14 aT)))) ?_;dsimp only [bI];clear hJ;refine bq hh (hwc _) rfl ?_;intro w17 hh;exact Qp
  ·refine sr ?_;refine mf ?_;refine bY hh 0 [_,_] ?_;refine bq hh (dA u (iM S) _) rfl ?_;intro w20 hh;exact Sw
theorem Bi (M k:Nat) (h:2^k∣M): -((M/2^k:Nat):Int)= -(M:Int)/2^k:=by
 obtain ⟨q,rfl⟩:=h;have hp:(0:Int)<2^k:=Int.pow_pos VZ;rw [Nat.mul_div_cancel_left _ (WQ VZ),Xk,←Int.mul_neg,Zm];exact (Int.mul_ediv_cancel_left _ (by exact Int.ne_of_gt hp)).symm
theorem yF (M k:Nat) (h:¬2^k∣M): -((M/2^k:Nat):Int)-1= -(M:Int)/2^k:=by
 have hp:(0:Int)<2^k:=Int.pow_pos VZ;have h1:=XT M (2^k);have h2:=WB M (WQ (n:=k) (show 0<2 by omega));have h3:M % 2^k≠0:=fun h0=>h (Nat.dvd_of_mod_eq_zero h0);have hc:((2^k:Nat):Int)=2^k:=by simp
 symm
 rw [Int.ediv_eq_iff_of_pos hp,←hc];have h4:(M:Int)=(2^k:Nat)*(M/2^k:Nat)+(M % 2^k:Nat):=by rw [←Xk,←X7,h1]
 generalize hK:((2^k:Nat):Int)=K at*;generalize ((M/2^k:Nat):Int)=q at*;have e:(-q-1)*K= -(K*q)-K:=by rw [Int.sub_mul,Int.neg_mul,Ze q];omega
 have e2:(-q-1+1)*K= -(K*q):=by rw [Int.sub_add_cancel,Int.neg_mul,Ze]
 omega
theorem Kk {M:Nat} (h0:M≠0):2^k∣M↔k≤tz M:=by
 obtain ⟨m,hm⟩:=sI h0;generalize tz M=t at*;constructor
 ·intro h
  rcases WW t k with hlt|hge
  ·exfalso;obtain ⟨q,hq⟩:=h;rw [hm,show k=t+(1+(k-t-1)) by omega,Wy,Wy,Xb] at hq;have:=Nat.eq_of_mul_eq_mul_left (WQ VZ) hq;rw [Nat.pow_one,Xb] at this;omega
  ·exact hge
 ·intro h;rw [hm];exact Nat.dvd_trans (Nat.pow_dvd_pow 2 h) (Nat.dvd_mul_right _ _)
theorem pV (a:Int) (n:Nat):bG (a^n).natAbs≤1+n*bG a.natAbs:=by
 induction n with
 |zero=>simp [th]
 |succ n ih=>
  rw [Int.pow_succ];have:=jM (a^n) a;rw [Xs];omega
theorem CD (s:Bool) (a:ByteArray) (n:Int) (w:World) (h0:n.toNat*a.size≤100000000) (hn:n≤1000000000) (ha:a.size≤100000000):
  Calls Tryz.prog 135 #[.agg #[.bool s,.string a],.int .i64 n] w fun e w'=>e=.returned (.agg #[.bool (iN (iv s a^n.toNat)),.string (iM (iv s a^n.toNat))])∧Below w.heap.size w w':=by
 have hh:=Hp.start w;have e1:(if (0:Int)>n then 0 else n)=(n.toNat:Int):=by split<;>omega
 have hm:n.toNat≤1000000000:=VZ;generalize n.toNat=m at*;refine aj (N:=19) (l:=[.agg #[.bool s,.string a],.int .i64 n]) Tryz.func135 rfl rfl (by simp) ?_;refine sr ?_;refine bV hh [_,_] ?_;intro b2 w2 hh;refine bJ hh ?_;intro b4 w4 hh;refine aa (sr ?_);refine bq hh (nI 1 _ VZ VZ) rfl ?_;intro w6 hh;refine bq hh (jZ _ _ _) rfl ?_;intro w7 hh;refine bJ hh ?_;intro b5 w5 hh;refine bL hh 0 [_,_] ?_;intro ws hh;replace hh:Hp _ (.blk _ _ [_,_] _::_) _:=hh;refine aa (ah (sr (mI ?_)));refine j0 rfl rfl V0 ?_;refine mI (aa (aq ?_));rw [e1];refine aW [10,11,12,13,14,15,16] 10
  (fun j w'=>∃(i:Nat) (u:Bool) (S:Int),i≤m∧j=.int .i64 i∧S=iv s a^i∧iv u (iM S)=S∧Hp w [.blk b5 153 [.string (iM S),.bool u] (0,0),.blk b4 38 [.bool false,.string (ByteArray.mk #[])] (0,0),.blk b2 38 [.bool s,.string a] (0,0)] w')
  (fun j _=>m-(intOf j).toNat) ?_ ?_
 ·exact ⟨0,_,1,V8 _,rfl,by rw [Int.pow_zero],ff 1,hh⟩
 ·clear hh;rintro ρ' j w' ⟨i,u,S,hi,rfl,hS2,hu,hh⟩;by_cases hlt:i<m
  ·have hb:=pV (iv s a) i;rw [←hS2] at hb;have hbx:=gQ s a;have hle:i*bG (iv s a).natAbs≤m*(8*a.size):=Yr hi hbx;rw [Zp] at hle;have hms:(iM S).size≤1000000000:=by rw [dI];omega
   have hpl:=vj u s (iM S) a;rw [hu] at hpl;have hwc:=fun w1=>pF u s (iM S) a w1 hms VZ;rw [hu] at hwc;refine sr ?_;refine a0 (aa (ah (cT (ao (ai (ah (aq ?_)))))));refine aN 3 [[(5,none)],[(2,none)],[(13,some 1)]] [(2,14),(1,13),(0,12)] hh mixed V2 ?_;refine eJ 0 [_,_] ?_;refine eJ 2 [_,_] ?_;refine dC (fun _ hj=>jZ s a _) ?_;refine aG ?_;intro f W hJ hV;have hb_4:=hJ.bl;obtain ⟨v14,v13,v12,_⟩:=hV;replace hh:=hJ.hp;refine aU (bg (ae v14 (ae v13 (ae v12 aT)))) ?_;dsimp only [bI];clear hJ;refine bq hh (hwc _) rfl ?_;intro w15 hh;refine bL hh 0 [_,_] ?_;intro ws hh;replace hh:Hp _ (.blk _ _ [_,_] _::_) _:=hh;refine fN ?_;refine bj (mI (az (ai ?_)));refine ⟨⟨i+1,_,_,VZ,rfl,by rw [Int.pow_succ,hS2],hpl,hh⟩,by show m-(i+1)<m-i;omega, ?_⟩;exact dF
  ·obtain rfl:i=m:=VZ;refine sr ?_;refine mf ?_;refine bY hh 0 [_,_] ?_;refine bq hh (dA u (iM S) _) rfl ?_;intro w18 hh;rw [hu,hS2];exact J4
theorem Rt (s:Bool) (a:ByteArray) (m:Nat):iv s (sN (bN a*2^m))=iv s a*2^m:=by
 unfold iv;rw [eY]
 cases s<;>simp [Xk,Int.neg_mul]
theorem Dx (s:Bool) (a:ByteArray) (m:Nat) (w:World) (ha:a.size≤100000000) (hm:m≤1000000000):
  Calls Tryz.prog 119 #[.agg #[.bool s,.string a],.int .i64 (m:Int)] w fun e w'=>e=.returned (.agg #[.bool (iN (iv s a*2^m)),.string (iM (iv s a*2^m))])∧Below w.heap.size w w':=by
 have hh:=Hp.start w;refine aj (N:=47) (l:=[.agg #[.bool s,.string a],.int .i64 (m:Int)]) Tryz.func119 rfl rfl (by simp) ?_;refine sr ?_;refine bV hh [_,_] ?_;intro b2 w2 hh;refine bJ hh ?_;intro b4 w4 hh;refine aa (ah (sr (mI ?_)));refine dP (aa (cT (ah ?_)));refine aN 6 [[(2,none)],[(8,some 0)],[(1,none)],[(9,some 1),(10,some 2)],[(2,none)],[(12,some 4)]] [(5,13),(4,12),(3,11),(2,10),(1,9),(0,8)] hh mixed V2 ?_;refine da ?_;refine dN 1 ?_;refine dn ?_;refine dC (fun _ hj=>yM a m _ VZ VZ) ?_;refine da ?_;refine dN 1 ?_;refine aG ?_;intro f W hJ hV;have hb_2:=hJ.bl;obtain ⟨v13,v12,v11,v10,v9,v8,_⟩:=hV;replace hh:=hJ.hp;refine aU (bg (ae v13 (ae v12 (ae v11 (ae v10 (ae v9 (ae v8 aT))))))) ?_;dsimp only [bI];clear hJ;refine fe [_,_] ?_;refine bq hh (dA s (sN (bN a*2^m)) _) rfl ?_;intro w15 hh;rw [Rt];exact Ak
theorem DQ (s:Bool) (a:ByteArray) (m:Nat) (w:World) (hT:er w) (ha:a.size≤100000000) (h0:0<m) (hm:m≤1000000000000):
  Calls Tryz.prog 119 #[.agg #[.bool s,.string a],.int .i64 (-(m:Int))] w fun e w'=>e=.returned (.agg #[.bool (iN (iv s a/2^m)),.string (iM (iv s a/2^m))])∧Below w.heap.size w w':=by
 have hh:=Hp.start w;have e1:(if (-1099511627776:Int)> -(m:Int) then -1099511627776 else -(m:Int))= -(m:Int):=V6 VZ;have e2: -(-(m:Int))=(m:Int):=VZ;have hcs:∀w1,Calls Tryz.prog 164 #[.string a,.int .i64 (-(-(m:Int)))] w1 fun e w'=>e=.returned (.string (sN (bN a/2^m)))∧Below w1.heap.size w1 w':=fun w1=>by
  rw [e2];exact x4 a m w1 VZ VZ
 cases s with
 |false=>
  have e3:iv false (sN (bN a/2^m))=iv false a/2^m:=by
   unfold iv;rw [eY];simp
  refine aj (N:=47) (l:=[.agg #[.bool false,.string a],.int .i64 (-(m:Int))]) Tryz.func119 rfl rfl (by simp) ?_;refine sr ?_;refine bV hh [_,_] ?_;intro b2 w2 hh;refine bJ hh ?_;intro b4 w4 hh;refine aa (ah (sr (mI ?_)));refine dP (aa (cF (ao (ai (sr (mI ?_))))));refine j0 rfl rfl V0 ?_;refine aI (aa (ah ?_));rw [e1];refine EV ?_;refine da ?_;refine dN 1 ?_;refine dn ?_;refine E4 ?_;refine dC (fun _ hj=>hcs _) ?_;refine da ?_;refine dN 1 ?_;refine dB [_,_] ?_;refine dC (fun _ hj=>dA false (sN (bN a/2^m)) _) ?_;refine Eh ?_;refine aG ?_;intro f W hJ hV;have hb_4:=hJ.bl;obtain ⟨v5,v26,v25,v24,v23,v22,v21,v20,v19,v18,_⟩:=hV;obtain ⟨b5,e5,hl5,hc5⟩:cu _ _ _ (f 9) W:=v5;replace hh:=hJ.newVar hh hl5 hc5;refine Fm ?_;dsimp only [bI];clear e5 hJ;rw [e3];refine bL hh 0 [_,_] ?_;intro ws hh;replace hh:Hp _ (.blk _ _ [_,_] _::_) _:=hh;refine aa (ah (sr (bC ?_)));refine bA hh 2 ?_;refine mB ?_;refine gS (gS ?_);refine jg ?_;refine gS ?_;refine dR ?_;exact Ps
 |true=>
  have hb:=fq a;have e4:iv true (sN (bN a/2^m))= -((bN a/2^m:Nat):Int):=by
   unfold iv;rw [eY,V5 rfl]
  have e5:iv true a= -(bN a:Int):=by unfold iv;rw [V5 rfl]
  by_cases hz:bN a=0
  ·have e3:iv true (sN (bN a/2^m))=iv true a/2^m:=by
    rw [e4,e5,hz];simp
   refine K8 ?_;refine sr ?_;refine bV hh [_,_] ?_;intro b2 w2 hh;refine bJ hh ?_;intro b4 w4 hh;refine aa (ah (sr (mI ?_)));refine dP (aa (cF (ao (ai (sr (mI ?_))))));refine j0 rfl rfl V0 ?_;refine aI (aa (ah ?_));rw [e1];refine EV ?_;refine da ?_;refine dN 1 ?_;refine dn ?_;refine E4 ?_;refine dC (fun _ hj=>hcs _) ?_;refine da ?_;refine dN 1 ?_;refine dB [_,_] ?_;refine dC (fun _ hj=>dA true (sN (bN a/2^m)) _) ?_;refine Eh ?_;refine aG ?_;intro f W hJ hV;have hb_4:=hJ.bl;obtain ⟨v5,v26,v25,v24,v23,v22,v21,v20,v19,v18,_⟩:=hV;obtain ⟨b5,e5,hl5,hc5⟩:cu _ _ _ (f 9) W:=v5;replace hh:=hJ.newVar hh hl5 hc5;refine Fm ?_;dsimp only [bI];clear e5 hJ;rw [e3];refine bL hh 0 [_,_] ?_;intro ws hh;replace hh:Hp _ (.blk _ _ [_,_] _::_) _:=hh;refine aa (ah (sr (bC ?_)));refine bA hh 2 ?_;refine mB (gT (bC (gT ?_)));refine bA hh 2 ?_;refine aH rfl rfl ?_;refine bq hh (lF a _ VZ) rfl ?_;intro w32 hh;rw [hz,lC];refine gT ?_;refine bH ?_;refine fi ?_;exact Ps
  ·have hbp:=qJ hz;by_cases hd:2^m∣bN a
   ·have e3:iv true (sN (bN a/2^m))=iv true a/2^m:=by
     rw [e4,e5];exact Bi _ _ hd
    have htz:=(Kk hz).1 hd;refine K8 ?_;refine sr ?_;refine bV hh [_,_] ?_;intro b2 w2 hh;refine bJ hh ?_;intro b4 w4 hh;refine aa (ah (sr (mI ?_)));refine dP (aa (cF (ao (ai (sr (mI ?_))))));refine j0 rfl rfl V0 ?_;refine aI (aa (ah ?_));rw [e1];refine EV ?_;refine da ?_;refine dN 1 ?_;refine dn ?_;refine E4 ?_;refine dC (fun _ hj=>hcs _) ?_;refine da ?_;refine dN 1 ?_;refine dB [_,_] ?_;refine dC (fun _ hj=>dA true (sN (bN a/2^m)) _) ?_;refine Eh ?_;refine aG ?_;intro f W hJ hV;have hb_4:=hJ.bl;obtain ⟨v5,v26,v25,v24,v23,v22,v21,v20,v19,v18,_⟩:=hV;obtain ⟨b5,e5,hl5,hc5⟩:cu _ _ _ (f 9) W:=v5;replace hh:=hJ.newVar hh hl5 hc5;refine Fm ?_;dsimp only [bI];clear e5 hJ;rw [e3];refine bL hh 0 [_,_] ?_;intro ws hh;replace hh:Hp _ (.blk _ _ [_,_] _::_) _:=hh;refine aa (ah (sr (bC ?_)));refine bA hh 2 ?_;refine mB (gT (bC (gT ?_)));refine bA hh 2 ?_;refine aH rfl rfl ?_;refine bq hh (lF a _ VZ) rfl ?_;intro w32 hh;refine gT ?_;refine bH ?_;refine fi ?_;refine mB (gT (bC (gT ?_)));refine bA hh 2 ?_;refine aH rfl rfl ?_;refine bq hh (kf a _ VZ (hT.hp hh)) rfl ?_;intro w38 hh;refine gT (mI (gT ?_));refine ye rfl VZ VZ V0 ?_;refine gT ?_;refine a0 ?_
    refine fi ?_;refine uk ?_;refine bY hh 0 [_,_] ?_;exact J4
   ·have e3:iv true (sN (bN a/2^m))-1=iv true a/2^m:=by
     rw [e4,e5];exact yF _ _ hd
    have htz:tz (bN a)<m:=Y0 fun h=>hd ((Kk hz).2 h);have hsz:(iM (iv true (sN (bN a/2^m)))).size≤100000000:=by
     have:=qD (bN a) m;rw [dI,iK,eY];omega
    have hsub:∀w1,Calls Tryz.prog 166 #[.agg #[.bool (iN (iv true (sN (bN a/2^m)))),.string (iM (iv true (sN (bN a/2^m))))],.agg #[.bool (iN 1),.string (iM 1)]] w1 fun e w'=>e=.returned (.agg #[.bool (iN (iv true a/2^m)),.string (iM (iv true a/2^m))])∧Below w1.heap.size w1 w':=fun w1=>by
     have:=uz (iN (iv true (sN (bN a/2^m)))) (iN 1) (iM (iv true (sN (bN a/2^m)))) (iM 1) w1 hsz (by rw [dI,Int.natAbs_one,th];omega);rw [ff,ff,e3] at this;exact this
    refine K8 ?_;refine sr ?_;refine bV hh [_,_] ?_;intro b2 w2 hh;refine bJ hh ?_;intro b4 w4 hh;refine aa (ah (sr (mI ?_)));refine dP (aa (cF (ao (ai (sr (mI ?_))))));refine j0 rfl rfl V0 ?_;refine aI (aa (ah ?_));rw [e1];refine EV ?_;refine da ?_;refine dN 1 ?_;refine dn ?_;refine E4 ?_;refine dC (fun _ hj=>hcs _) ?_;refine da ?_;refine dN 1 ?_;refine dB [_,_] ?_;refine dC (fun _ hj=>dA true (sN (bN a/2^m)) _) ?_;refine Eh ?_;refine aG ?_;intro f W hJ hV;have hb_4:=hJ.bl;obtain ⟨v5,v26,v25,v24,v23,v22,v21,v20,v19,v18,_⟩:=hV;obtain ⟨b5,e5,hl5,hc5⟩:cu _ _ _ (f 9) W:=v5;replace hh:=hJ.newVar hh hl5 hc5;refine Fm ?_;dsimp only [bI];clear e5 hJ;refine bL hh 0 [_,_] ?_;intro ws hh;replace hh:Hp _ (.blk _ _ [_,_] _::_) _:=hh;refine aa (ah (sr (bC ?_)));refine bA hh 2 ?_;refine mB (gT (bC (gT ?_)));refine bA hh 2 ?_;refine aH rfl rfl ?_;refine bq hh (lF a _ VZ) rfl ?_;intro w32 hh;refine gT ?_;refine bH ?_;refine fi ?_;refine mB (gT (bC (gT ?_)));refine bA hh 2 ?_;refine aH rfl rfl ?_;refine bq hh (kf a _ VZ (hT.hp hh)) rfl ?_;intro w38 hh;refine gT (mI (gT ?_));refine ye rfl VZ VZ V0 ?_;refine gT ?_;refine a0 ?_;refine fi ?_;refine aa (cT (ah ?_))
    refine aN 2 [[(5,none)],[]] [(1,44),(0,43)] hh mixed V2 ?_;refine eJ 0 [_,_] ?_;refine dC (fun _ hj=>nI 1 _ VZ VZ) ?_;refine aG ?_;intro f W hJ hV;have hb_6:=hJ.bl;obtain ⟨v44,v43,_⟩:=hV;replace hh:=hJ.hp;refine aU (bg (ae v44 (ae v43 aT))) ?_;dsimp only [bI];clear hJ;refine bq hh (hsub _) rfl ?_;intro w45 hh;refine bL hh 1 [_,_] ?_;intro ws hh;replace hh:Hp _ (_::.blk _ _ [_,_] _::_) _:=hh;refine aa (av (aK ?_));exact PD
theorem QN:(2:Rat)≠0:=by decide
theorem two_pos (k:Int):(0:Rat)<2^k:=Rat.zpow_pos V0
theorem kq (i p:Int):(Dyadic.ofIntWithPrec i p).toRat=i*2^(-p):=Dyadic.toRat_ofIntWithPrec_eq_mul_two_pow
theorem nP (i p:Int) (n:Nat):Dyadic.ofIntWithPrec (i*2^n) (p+n)=Dyadic.ofIntWithPrec i p:=by
 rw [←Int.shiftLeft_eq];exact Dyadic.ofIntWithPrec_shiftLeft_add
theorem l3 (i:Int) {p q:Int} (h:q=p+n):Dyadic.ofIntWithPrec i p=Dyadic.ofIntWithPrec (i*2^n) q:=by
 subst h;exact (nP i p n).symm
theorem sx (i j p:Int):Dyadic.ofIntWithPrec i p+Dyadic.ofIntWithPrec j p=Dyadic.ofIntWithPrec (i+j) p:=by
 rw [←Dyadic.toRat_inj,Dyadic.toRat_add,kq,kq,kq,Rat.intCast_add,Rat.add_mul]
theorem yz (i p:Int): -Dyadic.ofIntWithPrec i p=Dyadic.ofIntWithPrec (-i) p:=Dyadic.neg_ofIntWithPrec
theorem qx (i j p q:Int):Dyadic.ofIntWithPrec i p*Dyadic.ofIntWithPrec j q=Dyadic.ofIntWithPrec (i*j) (p+q):=by
 rw [←Dyadic.toRat_inj,Dyadic.toRat_mul,kq,kq,kq,Rat.intCast_mul,Int.neg_add,Rat.zpow_add QN];grind
theorem uP (i j p:Int):Dyadic.ofIntWithPrec i p<Dyadic.ofIntWithPrec j p↔i<j:=by
 rw [←Dyadic.toRat_lt_toRat_iff,kq,kq];rw [←Rat.intCast_lt_intCast];constructor
 ·intro h;exact Rat.lt_of_mul_lt_mul_right h (Rat.le_of_lt (two_pos _))
 ·intro h;exact Rat.mul_lt_mul_of_pos_right h (two_pos _)
theorem j9 (p:Int):Dyadic.ofIntWithPrec 0 p=0:=rfl
theorem M5 {i j p:Int} (h:Dyadic.ofIntWithPrec i p=Dyadic.ofIntWithPrec j p):i=j:=by
 rcases Zb i j with h1|h1|h1
 ·rw [←uP i j p,h] at h1;exact absurd h1 (by rw [uP];omega)
 ·exact h1
 ·rw [←uP j i p,h] at h1;exact absurd h1 (by rw [uP];omega)
theorem rP {i p:Int} (h:Dyadic.ofIntWithPrec i p=0):i=0:=M5 (p:=p) (by rw [h];rfl)
theorem FF (n k:Int) (h:n % 2=1):Dyadic.ofOdd n k h=Dyadic.ofIntWithPrec n k:=Dyadic.ofOdd_eq_ofIntWithPrec
theorem x6 {i p:Int} (h:i≠0):Dyadic.ofIntWithPrec i p=.ofOdd (i>>>i.trailingZeros) (p-i.trailingZeros) (Int.shiftRight_trailingZeros_mod_two h):=by
 rw [Dyadic.ofIntWithPrec,dif_neg h]
structure NR where
 neg:Bool
 bk:ByteArray
 e:Int
def NR.cells (a:NR):List Value:=[.bool a.neg,.string a.bk,.int .i64 a.e]
theorem NR.len (a:NR):a.cells.length=3:=rfl
theorem NR.one (a:NR):a.cells.all Value.oneCell'=true:=rfl
def NR.i (a:NR):Int:=iv a.neg a.bk
def NR.d (a:NR):Dyadic:=Dyadic.ofIntWithPrec a.i (-a.e)
def nR:Dyadic→NR
 |.zero=>⟨false,ByteArray.mk #[],0⟩
 |.ofOdd n k _=>⟨iN n,iM n, -k⟩
theorem lH:nR 0=⟨false,ByteArray.mk #[],0⟩:=rfl
theorem cj (x:Dyadic):(nR x).d=x:=by
 cases x with
 |zero=>rfl
 |ofOdd n k h=>
  simp only [nR,NR.d,NR.i,ff,Int.neg_neg];exact (FF n k h).symm
theorem QU {x y:Dyadic}:nR x=nR y↔x=y:=⟨fun h=>by rw [←cj x,h,cj],fun h=>by rw [h]⟩
theorem Tl (s:Bool) (a:ByteArray):(iv s a).trailingZeros=tz (bN a):=by
 unfold iv;split
 ·rw [Int.trailingZeros_neg];rfl
 ·rfl
theorem Fs (s:Bool) (a:ByteArray):iv s a=0↔bN a=0:=by
 have:=iK s a;omega
theorem rj {s:Bool}{a:ByteArray}{e:Int} (h:iv s a≠0):nR (Dyadic.ofIntWithPrec (iv s a) (-e))=⟨iN (iv s a/2^tz (bN a)),iM (iv s a/2^tz (bN a)),e+tz (bN a)⟩:=by
 rw [x6 h,nR,Int.shiftRight_eq_div_pow,Tl];have e1: -(-e-(tz (bN a):Int))=e+tz (bN a):=VZ;rw [e1,Zm]
 rfl
def Sz (k:Nat) (x:Dyadic):Prop:=∃i:Int,x=Dyadic.ofIntWithPrec i k∧i.natAbs<2^(2*k)
theorem Sz.zero (k:Nat):Sz k 0:=⟨0,rfl,by simpa using WQ VZ⟩
theorem Sz.mono {l:Nat}{x:Dyadic} (h:Sz k x) (hl:k≤l):Sz l x:=by
 obtain ⟨i,rfl,hi⟩:=h;refine ⟨i*2^(l-k),l3 i VZ, ?_⟩;rw [X9,YH];have h1:i.natAbs*2^(l-k)<2^(2*k)*2^(l-k):=YE hi (WQ VZ);rw [←Wy] at h1;exact Xe h1 (WS VZ VZ)
theorem Sz.neg {x:Dyadic} (h:Sz k x):Sz k (-x):=by
 obtain ⟨i,rfl,hi⟩:=h;exact ⟨-i,yz _ _,by rw [Int.natAbs_neg];exact hi⟩
theorem Sz.add {x y:Dyadic} (hx:Sz k x) (hy:Sz k y):Sz (k+1) (x+y):=by
 obtain ⟨i,rfl,hi⟩:=hx;obtain ⟨j,rfl,hj⟩:=hy;rw [sx];refine ⟨(i+j)*2^1,l3 _ VZ, ?_⟩;have h1:2^(2*(k+1))=4*2^(2*k):=by rw [show 2*(k+1)=2*k+2 by omega,Wy];omega
 rw [h1];omega
theorem Sz.sub {x y:Dyadic} (hx:Sz k x) (hy:Sz k y):Sz (k+1) (x-y):=hx.add hy.neg
theorem Sz.mul {l:Nat}{x y:Dyadic} (hx:Sz k x) (hy:Sz l y):Sz (k+l) (x*y):=by
 obtain ⟨i,rfl,hi⟩:=hx;obtain ⟨j,rfl,hj⟩:=hy;rw [qx];refine ⟨i*j,by rw [X7], ?_⟩;rw [X9,W7,Wy];exact Nat.mul_lt_mul'' hi hj
theorem kX {i:Int} (h:i≠0):2^i.trailingZeros≤i.natAbs:=by
 have h1:=Int.two_pow_trailingZeros_dvd h;have h2:=Int.natAbs_dvd_natAbs.2 h1;rw [YH] at h2;exact Nat.le_of_dvd VZ h2
theorem Sz.nr {x:Dyadic} (h:Sz k x):(nR x).bk.size≤(2*k+7)/8∧ -(k:Int)≤(nR x).e∧(nR x).e≤k:=by
 obtain ⟨i,rfl,hi⟩:=h;by_cases h0:i=0
 ·subst h0;rw [j9,lH];exact ⟨V8 _,(by omega: -(k:Int)≤0),(by omega:(0:Int)≤k)⟩
 ·have h2:=kX h0;rw [x6 h0,nR];simp only;refine ⟨?_,VZ, ?_⟩
  ·rw [dI];have:bG (i>>>i.trailingZeros).natAbs≤2*k:=by
    apply dL;refine Xi ?_ hi;rw [Int.shiftRight_eq_div_pow];exact Zu _ _
   omega
  ·have h3:2^i.trailingZeros<2^(2*k):=Xi h2 hi;have:=(Nat.pow_lt_pow_iff_right VZ).1 h3;omega
theorem Sz.raw {a:NR}{E:Nat} (hm:8*a.bk.size≤m) (h1: -(E:Int)≤a.e) (h2:a.e≤E):Sz (m+E) a.d:=by
 refine ⟨a.i*2^(a.e+m+E).toNat,l3 _ VZ, ?_⟩;have h3:a.i.natAbs<2^m:=by
  rw [NR.i,iK];refine Xe (db _) (WS VZ ?_);have:=fq a.bk;omega
 rw [X9,YH];have h4:=YE h3 (WQ (n:=(a.e+m+E).toNat) (show 0<2 by omega));rw [←Wy] at h4;exact Xe h4 (WS VZ VZ)
def EA (i n:Int):Int:=if 0≤n then i*2^n.toNat else i/2^(-n).toNat
theorem Lu (n:Int):EA 0 n=0:=by unfold EA;split<;>simp
def cS:Dyadic→Int→Int
 |.zero,_=>0
 |.ofOdd n k _,p=>EA n (p-k)
def dt:Dyadic→Dyadic→Int
 |.zero,.zero=>0
 |.zero,.ofOdd _ k _=>k
 |.ofOdd _ k _,.zero=>k
 |.ofOdd _ k _,.ofOdd _ l _=>max k l
theorem nA (n k p:Int) (h:n % 2=1) (hp:k≤p):Dyadic.ofIntWithPrec (cS (.ofOdd n k h) p) p=.ofOdd n k h:=by
 simp only [cS];rw [FF,EA,V5 VZ];exact (l3 n VZ).symm
theorem KY (x y:Dyadic):Dyadic.ofIntWithPrec (cS x (dt x y)) (dt x y)=x:=by
 cases x with
 |zero=>rfl
 |ofOdd n k h=>
  cases y with
  |zero=>exact nA _ _ _ _ (Int.le_refl _)
  |ofOdd m l g=>exact nA _ _ _ _ (Int.le_max_left _ _)
theorem KB (x y:Dyadic):Dyadic.ofIntWithPrec (cS y (dt x y)) (dt x y)=y:=by
 cases y with
 |zero=>rfl
 |ofOdd n k h=>
  cases x with
  |zero=>exact nA _ _ _ _ (Int.le_refl _)
  |ofOdd m l g=>exact nA _ _ _ _ (Int.le_max_right _ _)
theorem Nl (x y:Dyadic):Dyadic.ofIntWithPrec (cS x (dt x y)+cS y (dt x y)) (dt x y)=x+y:=by
 rw [←sx,KY,KB]
theorem J1 (i n:Int):bG (EA i n).natAbs≤bG i.natAbs+n.toNat:=by
 unfold EA;split
 ·rw [X9,YH];exact iE _ _
 ·have:bG (i/2^(-n).toNat).natAbs≤bG i.natAbs:=dL (Xi (Zu _ _) (db _));omega
theorem Ex (x y:Dyadic) (E:Int) (h1: -E≤(nR x).e∧(nR x).e≤E) (h2: -E≤(nR y).e∧(nR y).e≤E): -E≤dt x y∧dt x y≤E:=by
 cases x<;>cases y<;>simp only [nR,dt] at* <;>omega
theorem ve (x:Dyadic) (p:Int):bG (cS x p).natAbs≤8*(nR x).bk.size+(p+(nR x).e).toNat:=by
 cases x with
 |zero=>simp [cS,lC]
 |ofOdd n k h=>
  have h1:=J1 n (p-k);have h2:=fq (iM n);rw [iM,eY] at h2;simp only [cS,nR];rw [show p+ -k=p-k by omega];rw [←iM] at h2;omega
variable {P:Program}{by' off:Nat}{r:Bool}{zc:List Value}
section
variable {ro:Mode}
theorem ER {t:TypeId}{cs:Array Value}{v:Value} (ht:cQ P t=some (n,false,by',zc)) (hv:cs[off]?=some v) (w:World):(part t cs off).run P w=.ok v w:=by
 simp [part,ja ht,hv]
theorem PR {t:TypeId}{cs vs:Array Value} (ht:cQ P t=some (n,true,by',zc)) (hv:cs.extract off (off+n)=vs) (w:World):(part t cs off).run P w=.ok (.agg vs) w:=by
 simp [part,ja ht,eG ht,hv]
theorem Us (n:Nat) (a b:Bool) (w:World):(Op.equalIn (n+1) 4 (.bool a) (.bool b)).run Tryz.prog w=.ok (a==b) w:=by
 simp [Op.equalIn,run_underlying Tryz.underlying4]
theorem Tp (n:Nat) (a b:ByteArray) (w:World):(Op.equalIn (n+1) 9 (.string a) (.string b)).run Tryz.prog w=.ok (a==b) w:=by
 simp [Op.equalIn,run_underlying Tryz.underlying9]
theorem Ud (n:Nat) (a b:Int) (w:World):(Op.equalIn (n+1) 3 (.int .i64 a) (.int .i64 b)).run Tryz.prog w=.ok (a==b) w:=by
 simp [Op.equalIn,run_underlying Tryz.underlying3]
theorem eq_int (n:Nat) (s s':Bool) (a a':ByteArray) (w:World):(Op.equalIn (n+2) 38 (.agg #[.bool s,.string a]) (.agg #[.bool s',.string a'])).run Tryz.prog w=.ok (s==s' && a==a') w:=by
 have h1:=fun (x:Bool) (y:ByteArray)=>ER (P:=Tryz.prog) (cs:= #[.bool x,.string y]) (off:=0) (aJ.out (P:=Tryz.prog) (t:=4)) rfl;have h2:=fun (x:Bool) (y:ByteArray)=>ER (P:=Tryz.prog) (cs:= #[.bool x,.string y]) (off:=1) (aJ.out (P:=Tryz.prog) (t:=9)) rfl;rw [Op.equalIn];simp [run_underlying Tryz.underlying38,h1,h2,Us,Tp]
 cases h:s==s'<;>cases h':a==a'<;>simp_all
theorem LI (n:Nat) (s s':Bool) (a a':ByteArray) (e e':Int) (w:World):(Op.equalIn (n+3) 40 (.agg #[.bool s,.string a,.int .i64 e]) (.agg #[.bool s',.string a',.int .i64 e'])).run Tryz.prog w=.ok ((s==s' && a==a') && e==e') w:=by
 have h1:=fun (x:Bool) (y:ByteArray) (z:Int)=>PR (P:=Tryz.prog) (cs:= #[.bool x,.string y,.int .i64 z]) (vs:= #[.bool x,.string y]) (off:=0) (aJ.out (P:=Tryz.prog) (t:=38)) rfl;have h2:=fun (x:Bool) (y:ByteArray) (z:Int)=>ER (P:=Tryz.prog) (cs:= #[.bool x,.string y,.int .i64 z]) (off:=2) (aJ.out (P:=Tryz.prog) (t:=3)) rfl;rw [Op.equalIn];simp [run_underlying Tryz.underlying40,h1,h2,eq_int,Ud]
 cases h:s==s'<;>cases h':a==a'<;>cases h2:e==e'<;>simp_all
section
variable {ρ:Rf}{w:World}{d:Option Nat}{ty u:TypeId}{pos:String}{af:Array Edge}{g:Option (Nat×Bool)}{x y:Operand}{s s':Bool}{a a':ByteArray}{e e':Int}
theorem Ln {a b:ByteArray}:(a==b)=true↔a=b:=by
 have:(a==b)=(a.data==b.data):=rfl;rw [this,Xy];exact ⟨fun h=>by cases a;cases b;simp_all,fun h=>by rw [h]⟩
theorem nK:((s==s' && a==a') && e==e')=true↔NR.mk s a e=NR.mk s' a' e':=by
 rw [Wm,Wm,Xy,Ln,Xy,NR.mk.injEq,and_assoc]
theorem Ow (hx:ev ρ x=.agg #[.bool s,.string a,.int .i64 e]) (hy:ev ρ y=.agg #[.bool s',.string a',.int .i64 e']) (hr:((s==s' && a==a') && e==e')=r):
  (execOp (ev ρ) ⟨d,.binOp .eql 40 x y u,ty,pos,af,g⟩).run Tryz.prog w=.ok (.value (.bool r)) w:=by
 exact Tb
theorem P1 (hx:ev ρ x=.agg #[.bool s,.string a,.int .i64 e]) (hy:ev ρ y=.agg #[.bool s',.string a',.int .i64 e']) (hr:((s==s' && a==a') && e==e')=r):
  (execOp (ev ρ) ⟨d,.binOp .neq 40 x y u,ty,pos,af,g⟩).run Tryz.prog w=.ok (.value (.bool !r)) w:=by
 exact Tb
theorem F6 (hx:ev ρ x=.agg #[.bool s,.string a,.int .i64 e]) (hy:ev ρ y=.agg #[.bool s',.string a',.int .i64 e']) (h:NR.mk s a e=NR.mk s' a' e'):
  (execOp (ev ρ) ⟨d,.binOp .eql 40 x y u,ty,pos,af,g⟩).run Tryz.prog w=.ok (.value (.bool true)) w:=Ow hx hy (nK.2 h)
theorem MW (hx:ev ρ x=.agg #[.bool s,.string a,.int .i64 e]) (hy:ev ρ y=.agg #[.bool s',.string a',.int .i64 e']) (h:¬NR.mk s a e=NR.mk s' a' e'):
  (execOp (ev ρ) ⟨d,.binOp .eql 40 x y u,ty,pos,af,g⟩).run Tryz.prog w=.ok (.value (.bool false)) w:=Ow hx hy (by rw [YK];exact fun h1=>h (nK.1 h1))
theorem Fx (hx:ev ρ x=.agg #[.bool s,.string a,.int .i64 e]) (hy:ev ρ y=.agg #[.bool s',.string a',.int .i64 e']) (h:NR.mk s a e=NR.mk s' a' e'):
  (execOp (ev ρ) ⟨d,.binOp .neq 40 x y u,ty,pos,af,g⟩).run Tryz.prog w=.ok (.value (.bool false)) w:=P1 hx hy (nK.2 h)
theorem Fb (hx:ev ρ x=.agg #[.bool s,.string a,.int .i64 e]) (hy:ev ρ y=.agg #[.bool s',.string a',.int .i64 e']) (h:¬NR.mk s a e=NR.mk s' a' e'):
  (execOp (ev ρ) ⟨d,.binOp .neq 40 x y u,ty,pos,af,g⟩).run Tryz.prog w=.ok (.value (.bool true)) w:=P1 hx hy (r:=false) (by rw [YK];exact fun h1=>h (nK.1 h1))
end
section
variable {N:Nat}{ops:Array Oper}{Q:Kq}{ρ:Rf}{w:World}{rest:List Oper}{d:Nat}{ty u:TypeId}{pos:String}{af:Array Edge}{x y:Operand}{s s':Bool}{a a':ByteArray}{e e':Int}
theorem Es (hx:ev ρ x=.agg #[.bool s,.string a,.int .i64 e]) (hy:ev ρ y=.agg #[.bool s',.string a',.int .i64 e']) (h:NR.mk s a e=NR.mk s' a' e') (hN:d<N) (kk:WL ro Tryz.prog N ops Q rest (cH ρ d (.bool true)) w):
  WL ro Tryz.prog N ops Q (⟨some d,.binOp .eql 40 x y u,ty,pos,af,none⟩::rest) ρ w:=aR rfl rfl hN (F6 hx hy h) kk
theorem x8 (hx:ev ρ x=.agg #[.bool s,.string a,.int .i64 e]) (hy:ev ρ y=.agg #[.bool s',.string a',.int .i64 e']) (h:¬NR.mk s a e=NR.mk s' a' e') (hN:d<N) (kk:WL ro Tryz.prog N ops Q rest (cH ρ d (.bool false)) w):
  WL ro Tryz.prog N ops Q (⟨some d,.binOp .eql 40 x y u,ty,pos,af,none⟩::rest) ρ w:=aR rfl rfl hN (MW hx hy h) kk
theorem Fl (hx:ev ρ x=.agg #[.bool s,.string a,.int .i64 e]) (hy:ev ρ y=.agg #[.bool s',.string a',.int .i64 e']) (h:¬NR.mk s a e=NR.mk s' a' e') (hN:d<N) (kk:WL ro Tryz.prog N ops Q rest (cH ρ d (.bool true)) w):
  WL ro Tryz.prog N ops Q (⟨some d,.binOp .neq 40 x y u,ty,pos,af,none⟩::rest) ρ w:=aR rfl rfl hN (Fb hx hy h) kk
theorem NM (hx:ev ρ x=.agg #[.bool s,.string a,.int .i64 e]) (hy:ev ρ y=.agg #[.bool s',.string a',.int .i64 e']) (h:NR.mk s a e=NR.mk s' a' e') (hN:d<N) (kk:WL ro Tryz.prog N ops Q rest (cH ρ d (.bool false)) w):
  WL ro Tryz.prog N ops Q (⟨some d,.binOp .neq 40 x y u,ty,pos,af,none⟩::rest) ρ w:=aR rfl rfl hN (Fx hx hy h) kk
end
theorem pI (s:Bool) (a:ByteArray) (n:Int) (w:World) (hT:er w) (ha:a.size≤100000000) (h1: -1000000000≤n) (h2:n≤1000000000):
  Calls Tryz.prog 119 #[.agg #[.bool s,.string a],.int .i64 n] w fun e w'=>e=.returned (.agg #[.bool (iN (EA (iv s a) n)),.string (iM (EA (iv s a) n))])∧Below w.heap.size w w':=by
 unfold EA;by_cases h:0≤n
 ·rw [V5 h];obtain ⟨m,rfl⟩:=Zs h;rw [Xd];exact Dx s a m w ha VZ
 ·rw [V6 h];obtain ⟨m,hm⟩:=Zs (show 0≤ -n by omega);rw [hm,Xd,show n= -(m:Int) by omega];exact DQ s a m w hT ha VZ VZ
theorem g9 (s:Bool) (a:ByteArray) (e:Int) (w:World) (hT:er w) (ha:a.size≤100000000) (h1: -1000000000000≤e) (h2:e≤1000000000000):
  Calls Tryz.prog 68 #[.agg #[.bool s,.string a],.int .i64 e] w fun r w'=>r=.returned (.agg #[.bool (nR (Dyadic.ofIntWithPrec (iv s a) (-e))).neg,.string (nR (Dyadic.ofIntWithPrec (iv s a) (-e))).bk,.int .i64 (nR (Dyadic.ofIntWithPrec (iv s a) (-e))).e])∧Below w.heap.size w w':=by
 have hh:=Hp.start w;by_cases h0:iv s a=0
 ·rw [h0,j9,lH];refine aj (N:=21) (l:=[.agg #[.bool s,.string a],.int .i64 e]) Tryz.func68 rfl rfl (by simp) ?_;refine sr ?_;refine bV hh [_,_] ?_;intro b2 w2 hh;refine bJ hh ?_;intro b4 w4 hh;refine aa (ah (sr ?_));refine bY hh 1 [_,_] ?_;refine bq hh (kt s a _) rfl ?_;intro w7 hh;rw [h0];refine ct (aa (cT (sr ?_)));refine fe [_,_,_] ?_;exact PO
 ·have hs:(iv s a).sign≠0:=by rw [ne_eq,ZB];exact h0
  rw [rj h0];have hz:bN a≠0:=fun h=>h0 ((Fs s a).2 h);have htz:tz (bN a)<8*a.size+1:=by
   have:=wG a;rw [show (256:Nat)=2^8 from rfl,←W5] at this;have:=xy hz this;omega
  have hsh:EA (iv s a) (-(tz (bN a):Int))=iv s a/2^tz (bN a):=by
   unfold EA;split
   ·have:tz (bN a)=0:=VZ;rw [this];simp
   ·rw [Int.neg_neg,Xd]
  refine aj (N:=21) (l:=[.agg #[.bool s,.string a],.int .i64 e]) Tryz.func68 rfl rfl (by simp) ?_;refine sr ?_;refine bV hh [_,_] ?_;intro b2 w2 hh;refine bJ hh ?_;intro b4 w4 hh;refine aa (ah (sr ?_));refine bY hh 1 [_,_] ?_;refine bq hh (kt s a _) rfl ?_;intro w7 hh;refine ct (aa (cF (ao (ai (sr (bC ?_))))));refine bA hh 1 ?_;refine bq hh (kf a _ VZ (hT.hp hh)) rfl ?_;intro w12 hh;refine aI (aa (sr ?_));refine bY hh 1 [_,_] (mI ?_);refine ye rfl VZ VZ V0 ?_;refine bq hh (pI s a (-(tz (bN a):Int)) _ (hT.hp hh) ha VZ VZ) rfl ?_;intro w16 hh;rw [hsh];refine mI (mI ?_);refine bj ?_;refine fe [_,_,_] ?_;exact Dd
def NR.ok (a:NR):Prop:=a.bk.size≤1000000∧ -10000000≤a.e∧a.e≤10000000
theorem Sz.ok {x:Dyadic} (h:Sz k x) (hk:k≤3999990):(nR x).ok:=by
 have:=h.nr;refine ⟨VZ,VZ,VZ⟩
theorem lj (n:Int) (w:World) (hT:er w) (h1: -9223372036854775808≤n) (h2:n≤9223372036854775807):
  Calls Tryz.prog 17 #[.int .i64 n] w fun r w'=>r=.returned (.agg #[.bool (nR (n:Dyadic)).neg,.string (nR (n:Dyadic)).bk,.int .i64 (nR (n:Dyadic)).e])∧Below w.heap.size w w':=by
 have hh:=Hp.start w;have hsz:(iM n).size≤100000000:=by
  rw [dI];have:bG n.natAbs≤64:=dL VZ;omega
 have hc:∀w1,er w1→Calls Tryz.prog 68 #[.agg #[.bool (iN n),.string (iM n)],.int .i64 0] w1 fun r w'=>r=.returned (.agg #[.bool (nR (n:Dyadic)).neg,.string (nR (n:Dyadic)).bk,.int .i64 (nR (n:Dyadic)).e])∧Below w1.heap.size w1 w':=fun w1 hT1=>by
  have:=g9 (iN n) (iM n) 0 w1 hT1 hsz VZ VZ;rw [ff] at this;exact this
 refine aj (N:=6) (l:=[.int .i64 n]) Tryz.func17 rfl rfl (by simp) ?_;refine sr ?_;refine bJ hh ?_;intro b2 w2 hh;refine aa (sr (mI ?_));refine bq hh (nI n _ h1 h2) rfl ?_;intro w4 hh;refine bq hh (hc _ (hT.hp hh)) rfl ?_;intro w5 hh;exact Dd
theorem eF (a:NR) (w:World) (hT:er w) (ha:a.bk.size≤100000000) (h1: -1000000000000≤a.e) (h2:a.e≤1000000000000):
  Calls Tryz.prog 64 #[.agg #[.bool a.neg,.string a.bk,.int .i64 a.e]] w fun r w'=>r=.returned (.agg #[.bool (nR a.d).neg,.string (nR a.d).bk,.int .i64 (nR a.d).e])∧Below w.heap.size w w':=by
 have hh:=Hp.start w;refine aj (N:=8) (l:=[.agg #[.bool a.neg,.string a.bk,.int .i64 a.e]]) Tryz.func64 rfl rfl (by simp) ?_;refine sr ?_;refine bV hh [_,_,_] ?_;intro b1 w1 hh;refine bJ hh ?_;intro b2 w2 hh;refine aa (sr (bC ?_));refine bY hh 1 [_,_] (bC ?_);refine bA hh 1 ?_;refine bq hh (g9 a.neg a.bk a.e _ (hT.hp hh) ha h1 h2) rfl ?_;intro w7 hh;exact Dd
theorem ig (a:NR) (w:World):
  Calls Tryz.prog 110 #[.agg #[.bool a.neg,.string a.bk,.int .i64 a.e]] w fun r w'=>r=.returned (.int .i64 a.i.sign)∧Below w.heap.size w w':=by
 have hh:=Hp.start w;refine aj (N:=6) (l:=[.agg #[.bool a.neg,.string a.bk,.int .i64 a.e]]) Tryz.func110 rfl rfl (by simp) ?_;refine sr ?_;refine bV hh [_,_,_] ?_;intro b1 w1 hh;refine aI (aa (sr (bC ?_)));refine bY hh 0 [_,_] ?_;refine bq hh (kt a.neg a.bk _) rfl ?_;intro w5 hh;exact yG
theorem oN (a:NR) (w:World) (hT:er w) (ha:a.bk.size≤100000000) (h1: -1000000000000≤a.e) (h2:a.e≤1000000000000):
  Calls Tryz.prog 85 #[.agg #[.bool a.neg,.string a.bk,.int .i64 a.e]] w fun r w'=>r=.returned (.agg #[.bool (nR (-a.d)).neg,.string (nR (-a.d)).bk,.int .i64 (nR (-a.d)).e])∧Below w.heap.size w w':=by
 have hh:=Hp.start w;have hc:∀w1,er w1→Calls Tryz.prog 68 #[.agg #[.bool (iN (-(iv a.neg a.bk))),.string (iM (-(iv a.neg a.bk)))],.int .i64 a.e] w1 fun r w'=>r=.returned (.agg #[.bool (nR (-a.d)).neg,.string (nR (-a.d)).bk,.int .i64 (nR (-a.d)).e])∧Below w1.heap.size w1 w':=fun w1 hT1=>by
  have hs:=mQ a.neg a.bk;have:=g9 (iN (-(iv a.neg a.bk))) (iM (-(iv a.neg a.bk))) a.e w1 hT1 VZ h1 h2;rw [ff,←yz] at this;exact this
 refine aj (N:=9) (l:=[.agg #[.bool a.neg,.string a.bk,.int .i64 a.e]]) Tryz.func85 rfl rfl (by simp) ?_;refine sr ?_;refine bV hh [_,_,_] ?_;intro b1 w1 hh;refine bJ hh ?_;intro b2 w2 hh;refine aa (ah ?_);refine Ou ?_;refine da ?_;refine eJ 1 [_,_] ?_;refine dC (fun _ hj=>u3 a.neg a.bk _) ?_;refine da ?_;refine dN 1 ?_;refine aG ?_;intro f W hJ hV;have hb_1:=hJ.bl;obtain ⟨v7,v6,v5,v4,v3,_⟩:=hV;replace hh:=hJ.hp;refine aU (bg (ae v7 (ae v6 (ae v5 (ae v4 (ae v3 aT)))))) ?_;dsimp only [bI];clear hJ;refine bq hh (hc _ (hT.hp hh)) rfl ?_;intro w8 hh;exact Dd
theorem wC (s:Int) (a:NR) (w:World) (hT:er w) (ha:a.bk.size≤100000000) (h1: -1000000000≤a.e-s) (h2:a.e-s≤1000000000):
  Calls Tryz.prog 157 #[.int .i64 s,.agg #[.bool a.neg,.string a.bk,.int .i64 a.e]] w fun r w'=>r=.returned (.agg #[.bool (iN (EA a.i (a.e-s))),.string (iM (EA a.i (a.e-s)))])∧Below w.heap.size w w':=by
 have hh:=Hp.start w;refine aj (N:=12) (l:=[.int .i64 s,.agg #[.bool a.neg,.string a.bk,.int .i64 a.e]]) Tryz.func157 rfl rfl (by simp) ?_;refine sr ?_;refine bV hh [_,_,_] ?_;intro b3 w3 hh;refine bJ hh ?_;intro b4 w4 hh;refine aa (sr (bC ?_));refine bY hh 1 [_,_] (bC ?_);refine bA hh 1 ?_;refine mI ?_;refine dQ ?_;refine bq hh (pI a.neg a.bk (a.e-s) _ (hT.hp hh) ha h1 h2) rfl ?_;intro w11 hh;exact LM
theorem DR (x:Dyadic) (p:Int):EA (nR x).i ((nR x).e - -p)=cS x p:=by
 cases x with
 |zero=>exact Lu _
 |ofOdd n k h=>
  simp only [nR,NR.i,ff,cS];congr 1;omega
theorem kL (x:Dyadic):nR x=⟨false,ByteArray.mk #[],0⟩↔x=0:=by rw [←lH,QU]
theorem ka {a:NR} (h:a.ok):Sz 18000000 a.d∧(nR a.d).bk.size≤1000000∧ -18000000≤(nR a.d).e∧(nR a.d).e≤18000000:=by
 obtain ⟨h1,h2,h3⟩:=h;refine ⟨Sz.raw (m:=8000000) (E:=10000000) VZ VZ VZ, ?_⟩;by_cases h0:iv a.neg a.bk=0
 ·rw [NR.d,NR.i,h0,j9,lH];exact ⟨V8 _,by simp,by simp⟩
 ·rw [NR.d,NR.i,rj h0];have hz:bN a.bk≠0:=fun h=>h0 ((Fs a.neg a.bk).2 h);have htz:tz (bN a.bk)<8*a.bk.size+1:=by
   have:=wG a.bk;rw [show (256:Nat)=2^8 from rfl,←W5] at this;have:=xy hz this;omega
  have hb:bG (iv a.neg a.bk/2^tz (bN a.bk)).natAbs≤8*a.bk.size:=by
   apply dL;refine Xi (Zu _ _) ?_;rw [iK];exact Xe (db _) (WS VZ (fq _))
  simp only;rw [dI];refine ⟨VZ,VZ,VZ⟩
theorem qF (a b:NR) (w:World) (hT:er w) (ha:a.ok) (hb:b.ok):
  Calls Tryz.prog 112 #[.agg #[.bool a.neg,.string a.bk,.int .i64 a.e],.agg #[.bool b.neg,.string b.bk,.int .i64 b.e]] w fun r w'=>r=.returned (.agg #[.int .i64 (-(dt a.d b.d)),.bool (iN (cS a.d (dt a.d b.d))),.string (iM (cS a.d (dt a.d b.d))),.bool (iN (cS b.d (dt a.d b.d))),.string (iM (cS b.d (dt a.d b.d)))])∧Below w.heap.size w w':=by
 have hh:=Hp.start w;obtain ⟨ha1,ha2,ha3⟩:=ha;obtain ⟨hb1,hb2,hb3⟩:=hb;obtain ⟨_,fa1,fa2,fa3⟩:=ka (a:=a) ⟨ha1,ha2,ha3⟩;obtain ⟨_,fb1,fb2,fb3⟩:=ka (a:=b) ⟨hb1,hb2,hb3⟩;have hP:=Ex a.d b.d 18000000 VZ VZ;have hcx:=fun w1 hT1=>wC (-(dt a.d b.d)) (nR a.d) w1 hT1 VZ VZ VZ;have hcy:=fun w1 hT1=>wC (-(dt a.d b.d)) (nR b.d) w1 hT1 VZ VZ VZ;rw [DR] at hcx hcy;by_cases h0:a.d=0
 ·have h0':=(kL a.d).2 h0;have hs:(nR b.d).e= -(dt a.d b.d):=by
   rw [h0]
   cases b.d with
   |zero=>rfl
   |ofOdd n k h=>rfl
  refine JA ?_;refine sr ?_;refine bV hh [_,_,_] ?_;intro b2 w2 hh;refine bV hh [_,_,_] ?_;intro b3 w3 hh;refine bJ hh ?_;intro b4 w4 hh;refine aa (ah ?_);refine Lg ?_;refine eJ 2 [_,_,_] ?_;refine Io ?_;refine eJ 1 [_,_,_] ?_;refine aG ?_;intro f W hJ hV;have hb_1:=hJ.bl;obtain ⟨v9,v8,v7,_⟩:=hV;replace hh:=hJ.hp;refine aU (bg (ae v9 (ae v8 (ae v7 aT)))) ?_;dsimp only [bI];clear hJ;refine bq hh (eF b _ (hT.hp hh) VZ VZ VZ) rfl ?_;intro w10 hh;refine bL hh 2 [_,_,_] ?_;intro ws hh;replace hh:Hp _ (_::_::.blk _ _ [_,_,_] _::_) _:=hh;refine bL hh 1 [_,_,_] ?_;intro ws hh;replace hh:Hp _ (_::.blk _ _ [_,_,_] _::_) _:=hh;refine aa (sr (bC ?_));refine bA hh 2 ?_;refine bC ?_;refine bA hh 1 ?_;refine vY rfl rfl V0 ?_;refine aI (aa (ah (aq (sr ?_))));refine bY hh 2 [_,_,_] ?_;refine fe [_,_,_] ?_;refine Es rfl rfl (by first|assumption|rfl) V0 ?_;refine aB (aa (cT (ak (bC ?_))));refine bA hh 1 ?_;refine aI (az (bF (ai (sr ?_))));exact Uu
 ·have h0':¬nR a.d=⟨false,ByteArray.mk #[],0⟩:=fun h=>h0 ((kL _).1 h);by_cases h1:b.d=0
  ·have h1':=(kL b.d).2 h1;have hs:(nR a.d).e= -(dt a.d b.d):=by
    rw [h1]
    cases a.d with
    |zero=>rfl
    |ofOdd n k h=>rfl
   refine JA ?_;refine sr ?_;refine bV hh [_,_,_] ?_;intro b2 w2 hh;refine bV hh [_,_,_] ?_;intro b3 w3 hh;refine bJ hh ?_;intro b4 w4 hh;refine aa (ah ?_);refine Lg ?_;refine eJ 2 [_,_,_] ?_;refine Io ?_;refine eJ 1 [_,_,_] ?_;refine aG ?_;intro f W hJ hV;have hb_1:=hJ.bl;obtain ⟨v9,v8,v7,_⟩:=hV;replace hh:=hJ.hp;refine aU (bg (ae v9 (ae v8 (ae v7 aT)))) ?_;dsimp only [bI];clear hJ;refine bq hh (eF b _ (hT.hp hh) VZ VZ VZ) rfl ?_;intro w10 hh;refine bL hh 2 [_,_,_] ?_;intro ws hh;replace hh:Hp _ (_::_::.blk _ _ [_,_,_] _::_) _:=hh;refine bL hh 1 [_,_,_] ?_;intro ws hh;replace hh:Hp _ (_::.blk _ _ [_,_,_] _::_) _:=hh;refine aa (sr (bC ?_));refine bA hh 2 ?_;refine bC ?_;refine bA hh 1 ?_;refine vY rfl rfl V0 ?_;refine aI (aa (ah (aq (sr ?_))));refine bY hh 2 [_,_,_] ?_;refine fe [_,_,_] ?_;refine x8 rfl rfl (by assumption) V0 ?_;refine aB (aa (cF (sr ?_)));refine bY hh 1 [_,_,_] ?_;refine fe [_,_,_] ?_;refine Es rfl rfl (by first|assumption|rfl) V0 ?_;refine aB (aa (cT (ak (bC ?_))));refine bA hh 2 ?_;refine aI (az (bF (ai (sr ?_))));exact Uu
  ·have h1':¬nR b.d=⟨false,ByteArray.mk #[],0⟩:=fun h=>h1 ((kL _).1 h);have hs:(if (nR b.d).e<(nR a.d).e then (nR b.d).e else (nR a.d).e)= -(dt a.d b.d):=by
    revert h0 h1
    cases a.d with
    |zero=>intro h;exact absurd rfl h
    |ofOdd n k h=>
     cases b.d with
     |zero=>intro _ h;exact absurd rfl h
     |ofOdd m l g=>
      intro _ _;simp only [nR,dt];omega
   refine JA ?_;refine sr ?_;refine bV hh [_,_,_] ?_;intro b2 w2 hh;refine bV hh [_,_,_] ?_;intro b3 w3 hh;refine bJ hh ?_;intro b4 w4 hh;refine aa (ah ?_);refine Lg ?_;refine eJ 2 [_,_,_] ?_;refine Io ?_;refine eJ 1 [_,_,_] ?_;refine aG ?_;intro f W hJ hV;have hb_1:=hJ.bl;obtain ⟨v9,v8,v7,_⟩:=hV;replace hh:=hJ.hp;refine aU (bg (ae v9 (ae v8 (ae v7 aT)))) ?_;dsimp only [bI];clear hJ;refine bq hh (eF b _ (hT.hp hh) VZ VZ VZ) rfl ?_;intro w10 hh;refine bL hh 2 [_,_,_] ?_;intro ws hh;replace hh:Hp _ (_::_::.blk _ _ [_,_,_] _::_) _:=hh;refine bL hh 1 [_,_,_] ?_;intro ws hh;replace hh:Hp _ (_::.blk _ _ [_,_,_] _::_) _:=hh;refine aa (sr (bC ?_));refine bA hh 2 ?_;refine bC ?_;refine bA hh 1 ?_;refine vY rfl rfl V0 ?_;refine aI (aa (ah (aq (sr ?_))));refine bY hh 2 [_,_,_] ?_;refine fe [_,_,_] ?_;refine x8 rfl rfl (by assumption) V0 ?_;refine aB (aa (cF (sr ?_)));refine bY hh 1 [_,_,_] ?_;refine fe [_,_,_] ?_;refine x8 rfl rfl (by assumption) V0 ?_;refine aB (aa (cF (ao (bF (ai (sr ?_))))));exact Uu
end
def k7 (x y:Dyadic):Int:=if x<y then -1 else if y<x then 1 else 0
theorem Bn (i j p:Int):(i-j).sign=k7 (Dyadic.ofIntWithPrec i p) (Dyadic.ofIntWithPrec j p):=by
 unfold k7;simp only [uP]
 rcases Zb i j with h|h|h
 ·rw [V5 h,XO VZ]
 ·subst h;simp
 ·rw [V6 VZ,V5 h,XL VZ]
theorem CE (i p:Int):i.sign=k7 (Dyadic.ofIntWithPrec i p) 0:=by
 have:=Bn i 0 p;rwa [Int.sub_zero,j9] at this
theorem NR.sign (a:NR):a.i.sign=k7 a.d 0:=CE _ _
theorem B6 (x y:Dyadic):(cS x (dt x y)-cS y (dt x y)).sign=k7 x y:=by
 rw [Bn _ _ (dt x y),KY,KB]
theorem H5 (X Y:Int) (h:X.sign≠Y.sign):(if (if X.sign-Y.sign<1 then X.sign-Y.sign else 1)> -1 then (if X.sign-Y.sign<1 then X.sign-Y.sign else 1) else -1)=(X-Y).sign:=by
 rcases Zb X 0 with hx|hx|hx<;>rcases Zb Y 0 with hy|hy|hy
 ·rw [XO hx,XO hy] at h;omega
 ·rw [XO hx,hy,Int.sub_zero,XO hx];simp
 ·rw [XO hx,XL hy,XO VZ];simp
 ·subst hx;rw [Int.sign_zero,XO hy,XL (a:=0-Y) VZ];simp
 ·rw [hx,hy] at h;omega
 ·subst hx;rw [Int.sign_zero,XL hy,XO (a:=0-Y) VZ];simp
 ·rw [XL hx,XO hy,XL VZ];simp
 ·rw [XL hx,hy,Int.sub_zero,XL hx];simp
 ·rw [XL hx,XL hy] at h;omega
theorem re {a b:NR} (ha:a.ok) (hb:b.ok):(iM (cS a.d (dt a.d b.d))).size≤6000000∧(iM (cS b.d (dt a.d b.d))).size≤6000000∧ -18000000≤dt a.d b.d∧dt a.d b.d≤18000000:=by
 obtain ⟨_,fa1,fa2,fa3⟩:=ka ha;obtain ⟨_,fb1,fb2,fb3⟩:=ka hb;have hP:=Ex a.d b.d 18000000 VZ VZ;have h1:=ve a.d (dt a.d b.d);have h2:=ve b.d (dt a.d b.d);rw [dI,dI];refine ⟨VZ,VZ,hP.1,hP.2⟩
theorem EE (i:Int): -1≤i.sign∧i.sign≤1:=by
 rcases Zb i 0 with h|h|h
 ·rw [XO h];omega
 ·rw [h];simp
 ·rw [XL h];omega
theorem oZ (a b:NR) (w:World) (hT:er w) (ha:a.ok) (hb:b.ok):
  Calls Tryz.prog 125 #[.agg #[.bool a.neg,.string a.bk,.int .i64 a.e],.agg #[.bool b.neg,.string b.bk,.int .i64 b.e]] w fun r w'=>r=.returned (.int .i64 (k7 a.d b.d))∧Below w.heap.size w w':=by
 have hh:=Hp.start w;obtain ⟨hs1,hs2,_⟩:=re ha hb;have hsa:a.i.sign=(cS a.d (dt a.d b.d)).sign:=by rw [NR.sign,CE _ (dt a.d b.d),KY]
 have hsb:b.i.sign=(cS b.d (dt a.d b.d)).sign:=by rw [NR.sign,CE _ (dt a.d b.d),KB]
 have hba:=EE a.i;have hbb:=EE b.i;by_cases hne:a.i.sign=b.i.sign
 ·refine P4 ?_;refine sr ?_;refine bV hh [_,_,_] ?_;intro b2 w2 hh;refine bV hh [_,_,_] ?_;intro b3 w3 hh;refine aI (aa (ah (ah ?_)));refine aN 3 [[(2,none)],[(8,some 0)],[(3,none)]] [(2,10),(1,9),(0,8)] hh mixed V2 ?_;refine eJ 1 [_,_,_] ?_;refine dC (fun _ hj=>ig a _) ?_;refine eJ 0 [_,_,_] ?_;refine aG ?_;intro f W hJ hV;have hb_1:=hJ.bl;obtain ⟨v10,v9,v8,_⟩:=hV;replace hh:=hJ.hp;refine aU (bg (ae v10 (ae v9 (ae v8 aT)))) ?_;dsimp only [bI];clear hJ;refine bq hh (ig b _) rfl ?_;intro w11 hh;refine aI (aI (aa (sr (mI (mI ?_)))));refine te ?_;refine bY hh 1 [_,_,_] ?_;refine bY hh 0 [_,_,_] ?_;refine bq hh (qF a b _ (hT.hp hh) ha hb) rfl ?_;intro w22 hh;refine bJ hh ?_;intro b7 w7 hh;refine bL hh 0 [_,_,_,_,_] ?_;intro ws hh;replace hh:Hp _ (.blk _ _ [_,_,_,_,_] _::_) _:=hh;refine aa (sr (bC ?_));refine bY hh 0 [_,_] (bC ?_);refine bY hh 0 [_,_] ?_;refine bq hh (D6 _ _ _ _ _ VZ VZ) rfl ?_;intro w27 hh;rw [ff,ff,B6];exact yG
 ·refine P4 ?_;refine sr ?_;refine bV hh [_,_,_] ?_;intro b2 w2 hh;refine bV hh [_,_,_] ?_;intro b3 w3 hh;refine aI (aa (ah (ah ?_)));refine aN 3 [[(2,none)],[(8,some 0)],[(3,none)]] [(2,10),(1,9),(0,8)] hh mixed V2 ?_;refine eJ 1 [_,_,_] ?_;refine dC (fun _ hj=>ig a _) ?_;refine eJ 0 [_,_,_] ?_;refine aG ?_;intro f W hJ hV;have hb_1:=hJ.bl;obtain ⟨v10,v9,v8,_⟩:=hV;replace hh:=hJ.hp;refine aU (bg (ae v10 (ae v9 (ae v8 aT)))) ?_;dsimp only [bI];clear hJ;refine bq hh (ig b _) rfl ?_;intro w11 hh;refine aI (aI (aa (sr (mI (mI ?_)))));refine cY (aa (cT (sr (mI (mI ?_)))));refine dQ ?_;refine vY rfl rfl V0 ?_;refine j0 rfl rfl V0 ?_;refine aI (aa (av (aK ?_)));refine cW ?_;refine ⟨?_,hh.below⟩;rw [hsa,hsb] at hne;rw [hsa,hsb,←B6 a.d b.d,←H5 _ _ hne]
def p5 (n:Int):Dyadic:=Dyadic.ofIntWithPrec 1 (-n)
theorem N0 (i p n:Int):Dyadic.ofIntWithPrec i (p-n)=Dyadic.ofIntWithPrec i p*p5 n:=by
 rw [p5,qx,Int.mul_one];rfl
def mv:List Dyadic→Dyadic:=fun l=>l.foldl (· + ·) 0
theorem wa (l:List Dyadic) (x:Dyadic):mv (l++[x])=mv l+x:=by simp [mv]
theorem Sz.sum {l:List Dyadic} (h:∀x∈l,Sz k x):Sz (k+l.length) (mv l):=by
 have:∀(n:Nat),n≤l.length→Sz (k+n) (mv (l.take n)):=by
  intro n
  induction n with
  |zero=>intro _;exact Sz.zero _
  |succ n ih=>
   intro hn;obtain ⟨x,hx⟩:=al (l:=l) (k:=n) VZ;rw [ay hx,wa];exact (ih VZ).add ((h x (Wb hx)).mono VZ)
 have h2:=this l.length (V9 _);rwa [Y3] at h2
theorem tU (a b:NR) (w:World) (hT:er w) (ha:a.ok) (hb:b.ok):
  Calls Tryz.prog 68 #[.agg #[.bool (iN (cS a.d (dt a.d b.d)+cS b.d (dt a.d b.d))),.string (iM (cS a.d (dt a.d b.d)+cS b.d (dt a.d b.d)))],.int .i64 (-(dt a.d b.d))] w fun r w'=>r=.returned (.agg #[.bool (nR (a.d+b.d)).neg,.string (nR (a.d+b.d)).bk,.int .i64 (nR (a.d+b.d)).e])∧Below w.heap.size w w':=by
 obtain ⟨hs1,hs2,hP1,hP2⟩:=re ha hb;rw [dI] at hs1 hs2;have h3:=lU (cS a.d (dt a.d b.d)) (cS b.d (dt a.d b.d));have:=g9 (iN (cS a.d (dt a.d b.d)+cS b.d (dt a.d b.d))) (iM (cS a.d (dt a.d b.d)+cS b.d (dt a.d b.d))) (-(dt a.d b.d)) w hT (by rw [dI];omega) VZ VZ;rw [ff,Int.neg_neg,Nl] at this;exact this
theorem iW (L:Option Addr) (n c:Nat) (l:List NR) (w:World) (hT:er w) (hS:Sl w L n 3 (aA NR.cells l)) (hl:∀a∈l,a.ok) (k:Nat) (hk:∀a∈l,Sz k a.d) (hkn:k+n≤3999990):
  Calls Tryz.prog 56 #[.slice L n c] w fun r w'=>r=.returned (.agg #[.bool (nR (mv (l.map NR.d))).neg,.string (nR (mv (l.map NR.d))).bk,.int .i64 (nR (mv (l.map NR.d))).e])∧Below w.heap.size w w':=by
 have hln:=hS.bE NR.len VZ;have hh:=Hp.start w;refine aj (N:=27) (l:=[.slice L n c]) Tryz.func56 rfl rfl (by simp) ?_;refine sr ?_;refine bJ hh ?_;intro b2 w2 hh;refine aa (sr ?_);refine bJ hh ?_;intro b3 w3 hh;refine xw ?_;refine aW [5,6,9,10,11,12,13,14,15,16,17,18,19,20,21,22,23,24,25] 9
  (fun j w'=>∃(i:Nat) (S:Dyadic),i≤n∧j=.int .i64 i∧S=mv ((l.take i).map NR.d)∧Hp w [.blk b3 40 [.bool (nR S).neg,.string (nR S).bk,.int .i64 (nR S).e] (0,0),.blk b2 40 [.bool false,.string (ByteArray.mk #[]),.int .i64 0] (0,0)] w')
  (fun j _=>n-(intOf j).toNat) ?_ ?_
 ·exact ⟨0,0,V8 _,rfl,rfl,hh⟩
 ·clear hh;rintro ρ' j w' ⟨i,S,hi,rfl,hS2,hh⟩;by_cases hlt:i<n
  ·obtain ⟨x,hx⟩:=al (l:=l) (k:=i) VZ;obtain ⟨ad,rfl,hr⟩:=hS.at_ VZ;have hxm:=Wb hx;have hS3:mv ((l.take (i+1)).map NR.d)=S+x.d:=by rw [ay hx,WX,YL,wa,hS2]
   have hSz:Sz (k+i) S:=by
    rw [hS2];have:=Sz.sum (k:=k) (l:=(l.take i).map NR.d) (fun y hy=>by
     obtain ⟨a,ha,rfl⟩:=Wo.1 hy;exact hk a (Yd ha))
    rw [Wi,Ww,Xg VZ] at this;exact this
   have hSo:=hSz.ok VZ;have hlc:=fun w1 hT1=>qF (nR S) x w1 hT1 hSo (hl x hxm);have hmc:=fun w1 hT1=>tU (nR S) x w1 hT1 hSo (hl x hxm);obtain ⟨hs1,hs2,_⟩:=re hSo (hl x hxm);rw [cj] at hlc hmc hs1 hs2;have e1:([iR (cS S (dt S x.d)),iR (cS x.d (dt S x.d))].map IR.v).sum=cS S (dt S x.d)+cS x.d (dt S x.d):=by
    simp only [Wv,WV,List.sum_cons,List.sum_nil,Ss];omega
   have hac:∀(A:Option Addr) (cc:Nat) (w1:World),Sl w1 A 2 2 (aA IR.cells [iR (cS S (dt S x.d)),iR (cS x.d (dt S x.d))])→Calls Tryz.prog 113 #[.slice A 2 cc] w1 fun e w'=>e=.returned (.agg #[.bool (iN (cS S (dt S x.d)+cS x.d (dt S x.d))),.string (iM (cS S (dt S x.d)+cS x.d (dt S x.d)))])∧Below w1.heap.size w1 w':=fun A cc w1 hsl=>by
    have:=tk A 2 cc [iR (cS S (dt S x.d)),iR (cS x.d (dt S x.d))] w1 hsl VZ (by simp [iR];omega);rw [e1] at this;exact this
   refine sr ?_;refine eb ?_;refine cA ?_;refine FN ?_;refine bJ hh ?_;intro b5 w5 hh;refine bL hh 0 [_,_,_] ?_;intro ws hh;replace hh:Hp _ (.blk _ _ [_,_,_] _::_) _:=hh;refine aa (sr ?_);refine bY hh 1 [_,_,_] ?_;refine bY hh 0 [_,_,_] ?_;refine bq hh (hlc _ (hT.hp hh)) rfl ?_;intro w15 hh;refine bJ hh ?_;intro b6 w6 hh;refine bL hh 0 [_,_,_,_,_] ?_;intro ws hh;replace hh:Hp _ (.blk _ _ [_,_,_,_,_] _::_) _:=hh;refine aa ?_;refine aN 8 [[(6,none)],[(16,some 0)],[(6,none)],[(18,some 2)],[(17,some 1),(19,some 3)],[(20,some 4)],[(6,none)],[(22,some 6)]] [(7,23),(6,22),(5,21),(4,20),(3,19),(2,18),(1,17),(0,16)] hh mixed V2 ?_;refine da ?_;refine eJ 0 [_,_] ?_;refine da ?_;refine eJ 0 [_,_] ?_;refine rh [_,_,_,_] ?_;refine aP (i:=5) (Is (.agg #[.bool (iN (cS S (dt S x.d)+cS x.d (dt S x.d))),.string (iM (cS S (dt S x.d)+cS x.d (dt S x.d)))])) Is.ext ?_ ?_
   ·intro ρ1 w1 hj hR;obtain ⟨A20,c20,h20,s20⟩:=hR.1;exact bf rfl (aQ au.out (aw h20 a8)) (hac A20 c20 _ s20) (fun _ _ hq=>⟨_,hq.1,hq.2,rfl⟩)
   refine da ?_;refine dN 0 ?_;refine aG ?_;intro f W hJ hV;have hb_6:=hJ.bl;obtain ⟨v23,v22,v21,v20,v19,v18,v17,v16,_⟩:=hV;obtain ⟨A20,c20,e20,f20⟩:Rows _ _ _ (f 4) W:=v20;replace hh:=hJ.hp;refine aU (bg (ae v23 (ae v22 (ae v21 (ae e20 (ae v19 (ae v18 (ae v17 (ae v16 aT))))))))) ?_;dsimp only [bI];clear e20 hJ;refine bq hh (hmc _ (hT.hp hh)) rfl ?_;intro w24 hh;refine bL hh 2 [_,_,_] ?_;intro ws hh;replace hh:Hp _ (_::_::.blk _ _ [_,_,_] _::_) _:=hh;refine fN ?_;refine bj (mI (az (ai ?_)));replace hh:=hh.sub ((WO _ _).trans (WO _ _));exact Po
  ·exact SF
theorem k8 (x y:Dyadic):mv [x,y]=x+y:=by
 show (0+x)+y=x+y;rw [Yk]
theorem l9 (a b:NR) (w:World) (hT:er w) (ha:a.ok) (hb:b.ok) (k:Nat) (hka:Sz k a.d) (hkb:Sz k b.d) (hk:k≤3999980):
  Calls Tryz.prog 89 #[.agg #[.bool a.neg,.string a.bk,.int .i64 a.e],.agg #[.bool b.neg,.string b.bk,.int .i64 b.e]] w fun r w'=>r=.returned (.agg #[.bool (nR (a.d-b.d)).neg,.string (nR (a.d-b.d)).bk,.int .i64 (nR (a.d-b.d)).e])∧Below w.heap.size w w':=by
 have hh:=Hp.start w;obtain ⟨hb1,hb2,hb3⟩:=hb;have e1:mv ([a,nR (-b.d)].map NR.d)=a.d-b.d:=by
  simp only [Wv,WV,cj,k8];rfl
 have hac:∀(A:Option Addr) (cc:Nat) (w1:World),er w1→Sl w1 A 2 3 (aA NR.cells [a,nR (-b.d)])→Calls Tryz.prog 56 #[.slice A 2 cc] w1 fun r w'=>r=.returned (.agg #[.bool (nR (a.d-b.d)).neg,.string (nR (a.d-b.d)).bk,.int .i64 (nR (a.d-b.d)).e])∧Below w1.heap.size w1 w':=fun A cc w1 hT1 hsl=>by
  have:=iW A 2 cc [a,nR (-b.d)] w1 hT1 hsl (by simpa using ⟨ha,hkb.neg.ok VZ⟩) k (by simpa [cj] using ⟨hka,hkb.neg⟩) VZ;rw [e1] at this;exact this
 refine aj (N:=10) (l:=[.agg #[.bool a.neg,.string a.bk,.int .i64 a.e],.agg #[.bool b.neg,.string b.bk,.int .i64 b.e]]) Tryz.func89 rfl rfl (by simp) ?_;refine sr ?_;refine bV hh [_,_,_] ?_;intro b2 w2 hh;refine bV hh [_,_,_] ?_;intro b3 w3 hh;refine bJ hh ?_;intro b4 w4 hh;refine aa (ah ?_);refine Jc ?_;refine eJ 2 [_,_,_] ?_;refine eJ 1 [_,_,_] ?_;refine dC (fun _ hj=>oN b _ (hT.hp hj.hp) VZ VZ VZ) ?_;refine aG ?_;intro f W hJ hV;have hb_1:=hJ.bl;obtain ⟨v7,v6,v5,_⟩:=hV;replace hh:=hJ.hp;refine tK ?_;dsimp only [bI];clear hJ;refine xI ?_;intro b8 w8 hh;refine bq hh (hac _ _ _ (hT.hp hh) (hh.aD (i:=0) rfl)) rfl ?_;intro w9 hh;exact QG
def ik:List Dyadic→Dyadic:=fun l=>l.foldl (· * ·) 1
theorem vm (l:List Dyadic) (x:Dyadic):ik (l++[x])=ik l*x:=by simp [ik]
theorem Sz.one:Sz 1 1:=⟨2,by decide+kernel,V0⟩
theorem Sz.prod {l:List Dyadic} (h:∀x∈l,Sz k x):Sz (1+k*l.length) (ik l):=by
 have:∀(n:Nat),n≤l.length→Sz (1+k*n) (ik (l.take n)):=by
  intro n
  induction n with
  |zero=>intro _;exact Sz.one
  |succ n ih=>
   intro hn;obtain ⟨x,hx⟩:=al (l:=l) (k:=n) VZ;rw [ay hx,vm];exact ((ih VZ).mul (h x (Wb hx))).mono (by rw [XC];omega)
 have h2:=this l.length (V9 _);rwa [Y3] at h2
theorem fk (L:Option Addr) (n c:Nat) (l:List NR) (w:World) (hT:er w) (hS:Sl w L n 3 (aA NR.cells l)) (hl:∀a∈l,a.ok) (k:Nat) (hk:∀a∈l,Sz k a.d) (hkn:k*n≤3999980) (hn:n≤1000000):
  Calls Tryz.prog 54 #[.slice L n c] w fun r w'=>r=.returned (.agg #[.bool (nR (ik (l.map NR.d))).neg,.string (nR (ik (l.map NR.d))).bk,.int .i64 (nR (ik (l.map NR.d))).e])∧Below w.heap.size w w':=by
 have hln:=hS.bE NR.len VZ;have hh:=Hp.start w;refine aj (N:=27) (l:=[.slice L n c]) Tryz.func54 rfl rfl (by simp) ?_;refine sr ?_;refine bJ hh ?_;intro b2 w2 hh;refine aa (sr ?_);refine Cd ?_;intro w6 hh;refine bJ hh ?_;intro b3 w3 hh;refine bL hh 0 [_,_,_] ?_;intro ws hh;replace hh:Hp _ (.blk _ _ [_,_,_] _::_) _:=hh;refine xw ?_;refine aW [5,9,10,11,12,13,14,15,16,17,18,19,20,21,22,23,24,25] 9
  (fun j w'=>∃(i:Nat) (S:Dyadic),i≤n∧j=.int .i64 i∧S=ik ((l.take i).map NR.d)∧Hp w [.blk b3 40 [.bool (nR S).neg,.string (nR S).bk,.int .i64 (nR S).e] (0,0),.blk b2 40 [.bool false,.string (ByteArray.mk #[]),.int .i64 0] (0,0)] w')
  (fun j _=>n-(intOf j).toNat) ?_ ?_
 ·exact ⟨0,_,V8 _,rfl,rfl,hh⟩
 ·clear hh;rintro ρ' j w' ⟨i,S,hi,rfl,hS2,hh⟩;by_cases hlt:i<n
  ·obtain ⟨x,hx⟩:=al (l:=l) (k:=i) VZ;obtain ⟨ad,rfl,hr⟩:=hS.at_ VZ;have hxm:=Wb hx;have hS3:ik ((l.take (i+1)).map NR.d)=S*x.d:=by rw [ay hx,WX,YL,vm,hS2]
   have hSz:Sz (1+k*i) S:=by
    rw [hS2];have:=Sz.prod (k:=k) (l:=(l.take i).map NR.d) (fun y hy=>by
     obtain ⟨a,ha,rfl⟩:=Wo.1 hy;exact hk a (Yd ha))
    rw [Wi,Ww,Xg VZ] at this;exact this
   have hki:k*i≤k*n:=WM _ hi;obtain ⟨so1,so2,so3⟩:=hSz.ok VZ;obtain ⟨xo1,xo2,xo3⟩:=hl x hxm;have e1:mZ ([IR.mk (nR S).neg (nR S).bk,IR.mk x.neg x.bk].map IR.v)=(nR S).i*x.i:=by
    simp only [Wv,WV,mZ,Int.mul_one];rfl
   have e2:Dyadic.ofIntWithPrec ((nR S).i*x.i) (-((nR S).e+x.e))=S*x.d:=by
    have:=qx (nR S).i x.i (-(nR S).e) (-x.e);rw [Int.neg_add,←this];congr 1;exact cj S
   have hac:∀(A:Option Addr) (cc:Nat) (w1:World),Sl w1 A 2 2 (aA IR.cells [IR.mk (nR S).neg (nR S).bk,IR.mk x.neg x.bk])→Calls Tryz.prog 111 #[.slice A 2 cc] w1 fun e w'=>e=.returned (.agg #[.bool (iN ((nR S).i*x.i)),.string (iM ((nR S).i*x.i))])∧Below w1.heap.size w1 w':=fun A cc w1 hsl=>by
    have:=Di A 2 cc [IR.mk (nR S).neg (nR S).bk,IR.mk x.neg x.bk] w1 hsl VZ (by simp;omega);rw [e1] at this;exact this
   have hmc:∀w1,er w1→Calls Tryz.prog 68 #[.agg #[.bool (iN ((nR S).i*x.i)),.string (iM ((nR S).i*x.i))],.int .i64 ((nR S).e+x.e)] w1 fun r w'=>r=.returned (.agg #[.bool (nR (S*x.d)).neg,.string (nR (S*x.d)).bk,.int .i64 (nR (S*x.d)).e])∧Below w1.heap.size w1 w':=fun w1 hT1=>by
    have hb1:=gQ (nR S).neg (nR S).bk;have hb2:=gQ x.neg x.bk;have hb3:=jM (nR S).i x.i;have:=g9 (iN ((nR S).i*x.i)) (iM ((nR S).i*x.i)) ((nR S).e+x.e) w1 hT1 (by rw [dI];unfold NR.i at hb3 ⊢;omega) VZ VZ;rw [ff,e2] at this;exact this
   refine sr ?_;refine eb ?_;refine cA ?_;refine FN ?_;refine bJ hh ?_;intro b5 w5 hh;refine bL hh 0 [_,_,_] ?_;intro ws hh;replace hh:Hp _ (.blk _ _ [_,_,_] _::_) _:=hh;refine aa ?_;refine aN 11 [[(3,none)],[(13,some 0)],[(5,none)],[(15,some 2)],[(14,some 1),(16,some 3)],[(17,some 4)],[(3,none)],[(19,some 6)],[(5,none)],[(21,some 8)],[(20,some 7),(22,some 9)]] [(10,23),(9,22),(8,21),(7,20),(6,19),(5,18),(4,17),(3,16),(2,15),(1,14),(0,13)] hh mixed V2 ?_;refine da ?_;refine eJ 1 [_,_] ?_;refine da ?_;refine eJ 0 [_,_] ?_;refine rh [_,_,_,_] ?_;refine aP (i:=5) (Is (.agg #[.bool (iN ((nR S).i*x.i)),.string (iM ((nR S).i*x.i))])) Is.ext ?_ ?_
   ·intro ρ1 w1 hj hR;obtain ⟨A17,c17,h17,s17⟩:=hR.1;exact bf rfl (aQ au.out (aw h17 a8)) (hac A17 c17 _ s17) (fun _ _ hq=>⟨_,hq.1,hq.2,rfl⟩)
   refine da ?_;refine dN 1 ?_;refine da ?_;refine dN 0 ?_;refine nX ?_;refine aG ?_;intro f W hJ hV;have hb_5:=hJ.bl;obtain ⟨v23,v22,v21,v20,v19,v18,v17,v16,v15,v14,v13,_⟩:=hV;obtain ⟨A17,c17,e17,f17⟩:Rows _ _ _ (f 4) W:=v17;replace hh:=hJ.hp;refine aU (bg (ae v23 (ae v22 (ae v21 (ae v20 (ae v19 (ae v18 (ae e17 (ae v16 (ae v15 (ae v14 (ae v13 aT)))))))))))) ?_;dsimp only [bI];clear e17 hJ;refine bq hh (hmc _ (hT.hp hh)) rfl ?_;intro w24 hh;refine bL hh 1 [_,_,_] ?_;intro ws hh;replace hh:Hp _ (_::.blk _ _ [_,_,_] _::_) _:=hh;refine fN ?_;refine bj (mI (az (ai ?_)));replace hh:=hh.sub (WO _ _);exact Po
  ·exact SF
theorem LV (i p:Int) (n:Nat):Dyadic.ofIntWithPrec i p^n=Dyadic.ofIntWithPrec (i^n) (p*n):=by
 induction n with
 |zero=>rw [Dyadic.pow_zero];simp;rfl
 |succ n ih=>rw [Dyadic.pow_succ,ih,qx,Int.pow_succ,X7,Int.mul_add];simp
theorem SL (i p:Int):(nR (Dyadic.ofIntWithPrec i p)).bk.size≤(bG i.natAbs+7)/8∧(i=0∨ -p≤(nR (Dyadic.ofIntWithPrec i p)).e∧(nR (Dyadic.ofIntWithPrec i p)).e≤ -p+bG i.natAbs)∧(i=0→(nR (Dyadic.ofIntWithPrec i p)).e=0):=by
 by_cases h0:i=0
 ·subst h0;rw [j9,lH];exact ⟨V8 _,.inl rfl,fun _=>rfl⟩
 ·have h2:=kX h0;rw [x6 h0,nR];simp only;refine ⟨?_,.inr ⟨VZ, ?_⟩,fun h=>absurd h h0⟩
  ·rw [dI];have:bG (i>>>i.trailingZeros).natAbs≤bG i.natAbs:=by
    apply dL;refine Xi ?_ (db _);rw [Int.shiftRight_eq_div_pow];exact Zu _ _
   omega
  ·have h3:2^i.trailingZeros<2^bG i.natAbs:=Xi h2 (db _);have:=(Nat.pow_lt_pow_iff_right VZ).1 h3;omega
theorem uX (a:NR) (n:Int) (w:World) (hT:er w) (ha:a.ok) (hs:n.toNat*a.bk.size≤1000000) (hn:n≤1000):
  Calls Tryz.prog 88 #[.agg #[.bool a.neg,.string a.bk,.int .i64 a.e],.int .i64 n] w fun r w'=>r=.returned (.agg #[.bool (nR (a.d^n.toNat)).neg,.string (nR (a.d^n.toNat)).bk,.int .i64 (nR (a.d^n.toNat)).e])∧Below w.heap.size w w':=by
 have hh:=Hp.start w;obtain ⟨ha1,ha2,ha3⟩:=ha;obtain ⟨_,fa1,fa2,fa3⟩:=ka (a:=a) ⟨ha1,ha2,ha3⟩;have hsz:(nR a.d).bk.size≤a.bk.size:=by
  have:=(SL a.i (-a.e)).1;have h2:=gQ a.neg a.bk;unfold NR.d NR.i at*;omega
 have hms:n.toNat*(nR a.d).bk.size≤n.toNat*a.bk.size:=WM _ hsz;have e1:(if (0:Int)>n then 0 else n)=(n.toNat:Int):=by split<;>omega
 have hm:n.toNat≤1000:=VZ;have hlo: -18000000*1000≤(nR a.d).e*(n.toNat:Int):=by
  have h1:(-18000000:Int)*n.toNat≤(nR a.d).e*n.toNat:=Int.mul_le_mul_of_nonneg_right fa2 VZ;omega
 have hhi:(nR a.d).e*(n.toNat:Int)≤18000000*1000:=by
  have h1:(nR a.d).e*n.toNat≤(18000000:Int)*n.toNat:=Int.mul_le_mul_of_nonneg_right fa3 VZ;omega
 have hpc:=fun w1=>CD (nR a.d).neg (nR a.d).bk n w1 VZ VZ VZ;have hmc:∀w1,er w1→Calls Tryz.prog 68 #[.agg #[.bool (iN (iv (nR a.d).neg (nR a.d).bk^n.toNat)),.string (iM (iv (nR a.d).neg (nR a.d).bk^n.toNat))],.int .i64 ((nR a.d).e*(n.toNat:Int))] w1 fun r w'=>r=.returned (.agg #[.bool (nR (a.d^n.toNat)).neg,.string (nR (a.d^n.toNat)).bk,.int .i64 (nR (a.d^n.toNat)).e])∧Below w1.heap.size w1 w':=fun w1 hT1=>by
  have hb:=pV (iv (nR a.d).neg (nR a.d).bk) n.toNat;have hb2:=gQ (nR a.d).neg (nR a.d).bk;have hb3:n.toNat*bG (iv (nR a.d).neg (nR a.d).bk).natAbs≤n.toNat*(8*(nR a.d).bk.size):=WM _ hb2;rw [Zp] at hb3;have:=g9 (iN (iv (nR a.d).neg (nR a.d).bk^n.toNat)) (iM (iv (nR a.d).neg (nR a.d).bk^n.toNat)) ((nR a.d).e*(n.toNat:Int)) w1 hT1 (by rw [dI];omega) VZ VZ;have e2:Dyadic.ofIntWithPrec (iv (nR a.d).neg (nR a.d).bk^n.toNat) (-((nR a.d).e*(n.toNat:Int)))=a.d^n.toNat:=by
   have h3:=cj a.d
   conv=>rhs;rw [←h3,NR.d,LV]
   rw [Int.neg_mul];rfl
  rw [ff,e2] at this;exact this
 refine aj (N:=17) (l:=[.agg #[.bool a.neg,.string a.bk,.int .i64 a.e],.int .i64 n]) Tryz.func88 rfl rfl (by simp) ?_;refine sr ?_;refine bV hh [_,_,_] ?_;intro b2 w2 hh;refine bJ hh ?_;intro b4 w4 hh;refine aa (sr ?_);refine bY hh 1 [_,_,_] ?_;refine bq hh (eF a _ (hT.hp hh) VZ VZ VZ) rfl ?_;intro w6 hh;refine bL hh 1 [_,_,_] ?_;intro ws hh;replace hh:Hp _ (_::.blk _ _ [_,_,_] _::_) _:=hh;refine aa (ah ?_);refine aN 9 [[(2,none)],[(7,some 0)],[(1,none)],[(8,some 1),(9,some 2)],[(2,none)],[(11,some 4)],[(1,none)],[(13,some 6)],[(12,some 5),(14,some 7)]] [(8,15),(7,14),(6,13),(5,12),(4,11),(3,10),(2,9),(1,8),(0,7)] hh mixed V2 ?_;refine da ?_;refine eJ 1 [_,_] ?_;refine dn ?_;refine dC (fun _ hj=>hpc _) ?_;refine da ?_;refine dN 1 ?_;refine dn ?_;refine aP (i:=7) (Is (.int .i64 (n.toNat:Int))) (Is.ext) ?_ ?_
 ·intro ρ1 w1 hj hR;exact dv rfl ((OI (ρ:=ρ1) (x:=.tmp 13) (show ρ1 13=Value.int .i64 n from hR.1) rfl).trans (by rw [e1])) ⟨Below.refl _ _,rfl⟩
 refine Dq ?_;refine aG ?_;intro f W hJ hV;have hb_2:=hJ.bl;obtain ⟨v15,v14,v13,v12,v11,v10,v9,v8,v7,_⟩:=hV;replace hh:=hJ.hp;refine aU (bg (ae v15 (ae v14 (ae v13 (ae v12 (ae v11 (ae v10 (ae v9 (ae v8 (ae v7 aT)))))))))) ?_;dsimp only [bI];clear hJ;refine bq hh (hmc _ (hT.hp hh)) rfl ?_;intro w16 hh;exact Dd
theorem RJ (x:Dyadic):(nR (-x)).bk=(nR x).bk∧(nR (-x)).e=(nR x).e:=by
 cases x with
 |zero=>exact ⟨rfl,rfl⟩
 |ofOdd n k h=>
  refine ⟨?_,rfl⟩;show iM (-n)=iM n;rw [iM,iM,Int.natAbs_neg]
def iH (f:Dyadic→Dyadic→Bool):List Dyadic→Dyadic
 |[]=>0
 |a::r=>r.foldl (fun out a=>if f a out then a else out) a
theorem CT (f:Dyadic→Dyadic→Bool) {l:List Dyadic} (h:l≠[]) (x:Dyadic):iH f (l++[x])=if f x (iH f l) then x else iH f l:=by
 cases l with
 |nil=>exact absurd rfl h
 |cons a r=>
  show (r++[x]).foldl _ a=_;rw [Zk]
  rfl
theorem qH (L:Option Addr) (n c:Nat) (l:List NR) (g:FuncId) (f:Dyadic→Dyadic→Bool) (w:World) (hT:er w) (hS:Sl w L n 3 (aA NR.cells l)) (hl:∀a∈l,a.ok) (hn:n≤1000000) [au Tryz.prog g]
  (hg:∀(a b:NR) (w:World),er w→a.ok→b.ok→Calls Tryz.prog g #[.agg #[.bool a.neg,.string a.bk,.int .i64 a.e],.agg #[.bool b.neg,.string b.bk,.int .i64 b.e]] w fun r w'=>r=.returned (.bool (f a.d b.d))∧Below w.heap.size w w'):
  Calls Tryz.prog 214 #[.slice L n c,.func (.func g) #[] #[]] w fun r w'=>r=.returned (.agg #[.bool (nR (iH f (l.map NR.d))).neg,.string (nR (iH f (l.map NR.d))).bk,.int .i64 (nR (iH f (l.map NR.d))).e])∧Below w.heap.size w w':=by
 have hln:=hS.bE NR.len VZ;have hh:=Hp.start w;refine aj (N:=27) (l:=[.slice L n c,.func (.func g) #[] #[]]) Tryz.func214 rfl rfl (by simp) ?_;refine sr ?_;refine bJ hh ?_;intro b4 w4 hh;refine aa (sr ?_);refine bJ hh ?_;intro b5 w5 hh;refine xw ?_;refine aW [6,7,10,11,12,13,14,15,16,17,18,19,20,21,22,23,24] 10
  (fun j w'=>∃(i:Nat) (o:NR),i≤n∧j=.int .i64 i∧o.ok∧o.d=iH f ((l.take i).map NR.d)∧Hp w [.blk b5 40 [.bool o.neg,.string o.bk,.int .i64 o.e] (0,0),.blk b4 40 [.bool false,.string (ByteArray.mk #[]),.int .i64 0] (0,0)] w')
  (fun j _=>n-(intOf j).toNat) ?_ ?_
 ·exact ⟨0,nR 0,V8 _,rfl,(Sz.zero 0).ok VZ,rfl,hh⟩
 ·clear hh;rintro ρ' j w' ⟨i,o,hi,rfl,hok,hod,hh⟩;by_cases hlt:i<n
  ·obtain ⟨x,hx⟩:=al (l:=l) (k:=i) VZ;obtain ⟨ad,rfl,hr⟩:=hS.at_ VZ;have hxo:=hl x (Wb hx);have htk:(l.take (i+1)).map NR.d=(l.take i).map NR.d++[x.d]:=by rw [ay hx,WX,YL]
   by_cases h0:i=0
   ·subst h0;refine sr ?_;refine dY ?_;refine D9 ?_;refine FN ?_;refine bJ hh ?_;intro b7 w7 hh;refine aI ?_;refine bL hh 0 [_,_,_] ?_;intro ws hh;replace hh:Hp _ (.blk _ _ [_,_,_] _::_) _:=hh;refine aa (sr (mI ?_));refine ct (mB ?_);refine gS (gS (gS ?_));refine jg ?_;refine fi ?_;refine aa (cT (ak ?_));refine bY hh 0 [_,_,_] ?_;refine bL hh 1 [_,_,_] ?_;intro ws hh;replace hh:Hp _ (_::.blk _ _ [_,_,_] _::_) _:=hh;refine fN ?_;refine bj (mI (az (ai ?_)));replace hh:=hh.sub (WO _ _);refine ⟨⟨1,x,VZ,rfl,hxo,by rw [htk];rfl,hh⟩,by show n-(0+1)<n-0;omega, ?_⟩;exact dF
   ·have hne:(l.take i).map NR.d≠[]:=by
     intro h;have:=Xm List.length h;rw [Wi,Ww,YZ] at this;omega
    have hb:=CT f hne x.d;rw [←htk,←hod] at hb;refine sr ?_;refine dY ?_;refine cA ?_;refine FN ?_;refine bJ hh ?_;intro b7 w7 hh;refine aI ?_;refine bL hh 0 [_,_,_] ?_;intro ws hh;replace hh:Hp _ (.blk _ _ [_,_,_] _::_) _:=hh;refine aa (sr (mI ?_));refine ct (mB (gT ?_));refine iJ ?_;refine gT ?_;refine bY hh 0 [_,_,_] (gT ?_);refine bY hh 1 [_,_,_] ?_;refine aH rfl rfl ?_;refine gy (hg x o _ (hT.hp hh) hxo hok) au.out rfl rfl V0 ?_;rintro e_ w21 ⟨rfl,hb_⟩;refine ⟨_,rfl, ?_⟩;replace hh:=hh.ext hb_
    cases hf:f x.d o.d with
    |true=>
     rw [hf,V5 rfl] at hb;refine dR ?_;refine aa (cT (ak ?_));refine bY hh 0 [_,_,_] ?_;refine bL hh 1 [_,_,_] ?_;intro ws hh;replace hh:Hp _ (_::.blk _ _ [_,_,_] _::_) _:=hh;refine fN ?_;refine bj (mI (az (ai ?_)));replace hh:=hh.sub (WO _ _);refine ⟨⟨i+1,x,VZ,rfl,hxo,hb.symm,hh⟩,by show n-(i+1)<n-i;omega, ?_⟩;exact dF
    |false=>
     rw [hf] at hb;refine dR ?_;refine BZ ?_;refine bj (mI (az (ai ?_)));replace hh:=hh.sub (WO _ _);refine ⟨⟨i+1,o,VZ,rfl,hok,hb.symm,hh⟩,by show n-(i+1)<n-i;omega, ?_⟩;exact dF
  ·rw [Wc VZ] at hod;obtain ⟨o1,o2,o3⟩:=hok;refine sr ?_;refine mf ?_;refine bY hh 0 [_,_,_] ?_;refine bq hh (eF o _ (hT.hp hh) VZ VZ VZ) rfl ?_;intro w26 hh;rw [hod];exact QG
theorem Ny (x y:Dyadic):k7 x y<0↔x<y:=by
 unfold k7;split
 ·rename_i h;simp [h]
 ·rename_i h;split<;>simp [h]
theorem Nv (x y:Dyadic):0<k7 x y↔y<x:=by
 unfold k7;split
 ·rename_i h;have:¬y<x:=by grind
  simp [this]
 ·split<;>rename_i h<;>simp [h]
theorem AW (a b:NR) (w:World) (hT:er w) (ha:a.ok) (hb:b.ok):
  Calls Tryz.prog 215 #[.agg #[.bool a.neg,.string a.bk,.int .i64 a.e],.agg #[.bool b.neg,.string b.bk,.int .i64 b.e]] w fun r w'=>r=.returned (.bool (decide (a.d<b.d)))∧Below w.heap.size w w':=by
 have hh:=Hp.start w;have e1:decide (k7 a.d b.d<0)=decide (a.d<b.d):=decide_eq_decide.2 (Ny _ _);refine aj (N:=9) (l:=[.agg #[.bool a.neg,.string a.bk,.int .i64 a.e],.agg #[.bool b.neg,.string b.bk,.int .i64 b.e]]) Tryz.func215 rfl rfl (by simp) ?_;refine sr ?_;refine bV hh [_,_,_] ?_;intro b2 w2 hh;refine bV hh [_,_,_] ?_;intro b3 w3 hh;refine aB (aa (sr ?_));refine bY hh 1 [_,_,_] ?_;refine bY hh 0 [_,_,_] ?_;refine bq hh (oZ a b _ (hT.hp hh) ha hb) rfl ?_;intro w7 hh;refine a0 (aB (aa (av ?_)));refine cW ?_;rw [e1];exact ⟨rfl,hh.below⟩
theorem Ad (a b:NR) (w:World) (hT:er w) (ha:a.ok) (hb:b.ok):
  Calls Tryz.prog 216 #[.agg #[.bool a.neg,.string a.bk,.int .i64 a.e],.agg #[.bool b.neg,.string b.bk,.int .i64 b.e]] w fun r w'=>r=.returned (.bool (decide (b.d<a.d)))∧Below w.heap.size w w':=by
 have hh:=Hp.start w;have e1:decide (0<k7 a.d b.d)=decide (b.d<a.d):=decide_eq_decide.2 (Nv _ _);refine aj (N:=9) (l:=[.agg #[.bool a.neg,.string a.bk,.int .i64 a.e],.agg #[.bool b.neg,.string b.bk,.int .i64 b.e]]) Tryz.func216 rfl rfl (by simp) ?_;refine sr ?_;refine bV hh [_,_,_] ?_;intro b2 w2 hh;refine bV hh [_,_,_] ?_;intro b3 w3 hh;refine aB (aa (sr ?_));refine bY hh 1 [_,_,_] ?_;refine bY hh 0 [_,_,_] ?_;refine bq hh (oZ a b _ (hT.hp hh) ha hb) rfl ?_;intro w7 hh;refine bH (aB (aa (av ?_)));refine cW ?_;rw [e1];exact ⟨rfl,hh.below⟩
theorem CZ (L:Option Addr) (n c:Nat) (l:List NR) (w:World) (hT:er w) (hS:Sl w L n 3 (aA NR.cells l)) (hl:∀a∈l,a.ok) (hn:n≤1000000):
  Calls Tryz.prog 193 #[.slice L n c] w fun r w'=>r=.returned (.agg #[.bool (nR (iH (fun x y=>decide (x<y)) (l.map NR.d))).neg,.string (nR (iH (fun x y=>decide (x<y)) (l.map NR.d))).bk,.int .i64 (nR (iH (fun x y=>decide (x<y)) (l.map NR.d))).e])∧Below w.heap.size w w':=by
 have hh:=Hp.start w;refine aj (N:=5) (l:=[.slice L n c]) Tryz.func193 rfl rfl (by simp) ?_;refine sr ?_;refine bJ hh ?_;intro b2 w2 hh;refine aa (sr (mL ?_));refine bq hh (qH L n c l 215 (fun x y=>decide (x<y)) _ (hT.hp hh) (hS.ext hh.below) hl hn AW) rfl ?_;intro w4 hh;exact Dd
theorem Db (L:Option Addr) (n c:Nat) (l:List NR) (w:World) (hT:er w) (hS:Sl w L n 3 (aA NR.cells l)) (hl:∀a∈l,a.ok) (hn:n≤1000000):
  Calls Tryz.prog 194 #[.slice L n c] w fun r w'=>r=.returned (.agg #[.bool (nR (iH (fun x y=>decide (y<x)) (l.map NR.d))).neg,.string (nR (iH (fun x y=>decide (y<x)) (l.map NR.d))).bk,.int .i64 (nR (iH (fun x y=>decide (y<x)) (l.map NR.d))).e])∧Below w.heap.size w w':=by
 have hh:=Hp.start w;refine aj (N:=5) (l:=[.slice L n c]) Tryz.func194 rfl rfl (by simp) ?_;refine sr ?_;refine bJ hh ?_;intro b2 w2 hh;refine aa (sr (mL ?_));refine bq hh (qH L n c l 216 (fun x y=>decide (y<x)) _ (hT.hp hh) (hS.ext hh.below) hl hn Ad) rfl ?_;intro w4 hh;exact Dd
theorem DA {x y:Dyadic} (h:x<y):k7 x y= -1:=by rw [k7,V5 h]
theorem DE {x y:Dyadic} (h:y<x):k7 x y=1:=by
 have:¬x<y:=by grind
 rw [k7,V6 this,V5 h]
theorem GH (x:Dyadic):k7 x x=0:=by
 have:¬x<x:=by grind
 rw [k7,V6 this,V6 this]
theorem SM (x y:Dyadic):x<y∨x=y∨y<x:=by
 rcases Classical.em (x<y) with h|h
 ·exact .inl h
 ·rcases Classical.em (y<x) with h2|h2
  ·exact .inr (.inr h2)
  ·exact .inr (.inl (by grind))
theorem Sl.TW {A:Option Addr}{xs:List Nat} (h:Sl w A n 1 (gE xs)) (hk:k≤n):Sl w A k 1 (gE (xs.take k)):=by
 have hl:=h.1;rw [cU] at hl;refine ⟨by rw [cU,Ww];omega,fun h0=> ?_⟩;obtain ⟨ad,he,hr⟩:=h.2 VZ;exact ⟨ad,he,by rw [Bk];exact hr.take k⟩
theorem Sl.Sx {A:Option Addr}{xs:List Nat} (h:Sl w A n 1 (gE xs)):Sl w A (dX xs).length 1 (gE (dX xs)):=by
 have hl:=h.1;rw [cU] at hl;have:=fF xs;have h2:=h.TW (k:=(dX xs).length) VZ;rwa [←jV] at h2
theorem Hp.Qy {H:List HE}{A:Option Addr}{t:TypeId}{xs:List Nat} (h:Hp w0 (.row A n c t 1 (gE xs)::H) w) (hl:xs.length=n):Hp w0 (.row A (dX xs).length c t 1 (gE (dX xs))::H) w:=by
 have h1:=fF xs;have h2:=h.DT (k:=(dX xs).length) VZ;rw [Wn,←Bk,←jV] at h2;exact h2
theorem lS (A:Option Addr) (n c:Nat) (xs:List Nat) (w:World) (hx:Sl w A n 1 (gE xs)) (hc:n≤c) (hn:n≤1000000000000):
  Calls Tryz.prog 206 #[.slice A n c] w fun e w'=>e=.returned (.slice A (dX xs).length c)∧Below w.heap.size w w':=by
 have hlen:xs.length=n:=by have:=hx.1;rw [cU] at this;omega
 have hh:=Hp.start w;refine aj (N:=21) (l:=[.slice A n c]) Tryz.func206 rfl rfl (by simp) ?_;refine sr (aL (aa (sr (mL (aF (aI (aa (ah (aq ?_)))))))));refine aW [3,6,7,8,9,10,11,12,13,14,15,16,17] 3
  (fun v w'=>∃k:Nat,k≤n∧v=.int .i64 k∧dX (xs.take k)=dX xs∧w'=w)
  (fun v _=>(intOf v).toNat) ?_ ?_
 ·exact ⟨n,V9 _,rfl,by rw [Wc VZ],rfl⟩
 ·rintro ρ' v w' ⟨k,hk,rfl,hcut,rfl⟩;by_cases h0:k=0
  ·subst h0;refine ah (sr (mI ?_));refine bH (mB ?_);refine gS (gS (gS (gS ?_)));refine jg ?_;refine gS ?_;refine dR ?_;refine aa (cF (aZ (aC (aC (br (ai (sr (mL (mI ?_)))))))));refine p9 (h:=0) a9.out aJ.size rfl rfl VZ VZ V0 ?_;refine aL (aa (av ?_));refine cW ?_;rw [←hcut];exact ⟨rfl,hh.below⟩
  ·obtain ⟨j,rfl⟩:∃j,k=j+1:=⟨k-1,VZ⟩;obtain ⟨d,hd⟩:=al (l:=xs) (k:=j) VZ;obtain ⟨ad,rfl,hr⟩:=hx.at_ VZ;have hd2:=oT hd;rw [ay hd] at hcut;by_cases hz:d=0
   ·subst hz;rw [sY] at hcut;refine ah (sr (mI ?_));refine bH (mB (gT (mL (gT (mI (gT ?_))))));refine dQ (gT ?_);refine kx ?_;refine gT ?_;refine gP ?_;refine gT ?_;refine ct ?_;refine fi ?_;refine aa (cT (ao (ai (aq (ak (mI ?_))))));refine dQ (aI (az (bF (ai ?_))));refine ⟨⟨j,VZ,by show Value.int _ _=Value.int _ _;congr 1;omega,hcut,rfl⟩,by show (((j+1:Nat):Int)-1).toNat<(((j+1:Nat):Int)).toNat;omega, ?_⟩;exact dF
   ·rw [xn hz] at hcut;refine ah (sr (mI ?_));refine bH (mB (gT (mL (gT (mI (gT ?_))))));refine dQ (gT ?_);refine kx ?_;refine gT ?_;refine gP ?_;refine gT ?_;refine ct ?_;refine fi ?_;refine aa (cF (aZ (aC (aC (br (ai (sr (mL (mI ?_)))))))));refine p9 (h:=j+1) a9.out aJ.size rfl rfl VZ VZ V0 ?_;refine aL (aa (av ?_));exact PK
theorem Hv {s:List UInt8}{c:UInt8} (hc:(zK s)[j]?=some c.toNat) (hk:k<8):c.toNat/2^k % 2=bn s/2^(8*j+k) % 2:=by
 have h1:=sJ (zl s) hc;rw [←h1,←bn,Wy,W5,show (2^8:Nat)=256 from rfl,←XG];generalize bn s/256^j=m;have e:(256:Nat)=2^k*2^(8-k):=by rw [←Wy,show k+(8-k)=8 by omega]
 have e2:2^(8-k)=2*2^(7-k):=by rw [←Nat.pow_succ'];congr 1;omega
 rw [e,Nat.mod_mul_right_div_self,e2,Nat.mod_mul_right_mod]
theorem hZ (a:ByteArray) (w:World) (ha:a.size≤1000000000):
  Calls Tryz.prog 186 #[.string a] w fun e w'=>∃A c,e=.returned (.slice A (aY 2 (bN a)).length c)∧w'.ownsRow w.heap.size 5 1 (.slice A (aY 2 (bN a)).length c) (aY 2 (bN a)).length (gE (aY 2 (bN a)))∧Below w.heap.size w w':=by
 have hsz:=eh a;have hh:=Hp.start w;refine aj (N:=28) (l:=[.string a]) Tryz.func186 rfl rfl (by simp) ?_;refine sr (aL (aa (sr (aL (aa (ah (sr (mS ?_))))))));refine cg a9.out rfl V0 ?_;refine dQ (aI (aa (aq ?_)));replace hh:=hh.cx 5 1;refine bz [3,4,5,9,10,11,12,13,14,15,16,17,18,19,20,21,22,23,24,25] 3 4
  (fun o v w'=>∃(j:Nat) (A:Option Addr) (c:Nat),j≤a.size∧v=.int .i64 ((a.size:Int)-1-j)∧o=.slice A (8*j) c∧Hp w [.row A (8*j) c 5 1 (gE (bO 2 (8*j) (bN a)))] w')
  (fun _ v _=>(intOf v+1).toNat) ?_ ?_
 ·exact ⟨0,none,0,V8 _,by show Value.int _ _=Value.int _ _;congr 1;omega,rfl,hh⟩
 ·clear hh;rintro ρ' o v w' ⟨j,A,c,hj,rfl,rfl,hh⟩;by_cases hlt:j<a.size
  ·obtain ⟨ch,hc⟩:=al (l:=a.data.toList) (k:=((a.size:Int)-1-j).toNat) VZ;have hlo:=JM (s:=a.data.toList) (i:=j) (c:=ch) VZ (by rw [←hc];congr 1;omega);have hc8:=ch.toNat_lt;refine ah (sr (mI ?_));refine dP (aa (cT (ao (ai (ah (aq (sr (aI (aa (aq ?_))))))))));refine bz [3,5,13,14,15,16,17,18,19,20,21,22,23,24,25] 3 5
    (fun o v w'=>∃(k:Nat) (A:Option Addr) (c:Nat),k≤8∧v=.int .i64 (k:Int)∧o=.slice A (8*j+k) c∧Hp w [.row A (8*j+k) c 5 1 (gE (bO 2 (8*j+k) (bN a)))] w')
    (fun _ v _=>8-(intOf v).toNat) ?_ ?_
   ·exact ⟨0,A,c,V8 _,rfl,rfl,hh⟩
   ·clear hh;rintro ρ2 o v w2 ⟨k,A2,c2,hk,rfl,rfl,hh⟩;by_cases hk8:k<8
    ·have hst:=Hv hlo hk8;have hand:∀z:Nat,z &&& 1=z % 2:=fun z=>Nat.and_one_is_mod z;have hcl:ch.toNat/2^(k:Int).toNat<256:=Xi (Yw _ _) hc8;refine ah (sr (mI ?_));refine a0 (aa (cT (ao (ai (ah (aq (ak (mL (mS (mI ?_))))))))));refine kW ?_;refine mI ?_;refine Dp rfl rfl VZ V0 ?_;refine Ir ?_;refine ub ?_;intro b24 w24 hh;refine nj ?_;intro A25 c25 w25 hh;simp only [Wh,WI] at hh;replace hh:=hh.sub (WO _ _);refine pQ ?_;refine bj (aI (az (ai ?_)));have e1:gE (bO 2 (8*j+k) (bN a))++[Value.int .u8 ((ch.toNat/2^(k:Int).toNat &&& 1:Nat):Int)]=gE (bO 2 (8*j+(k+1)) (bN a)):=by
      rw [hand,Xd,hst,←Y7,lu,sZ];rfl
     rw [e1] at hh;refine ⟨⟨k+1,A25,c25,VZ,rfl,rfl,hh⟩,by show 8-(k+1)<8-k;omega, ?_⟩;exact dF
    ·obtain rfl:k=8:=VZ;refine ah (sr (mI ?_));refine a0 (aa (cF (aZ (aC (aC (br (bF (ai (ak (mI ?_))))))))));refine dQ (aI (az (ai ?_)));refine ⟨⟨j+1,A2,c2,VZ,by show Value.int _ _=Value.int _ _;congr 1;omega,rfl,hh⟩,by show ((a.size:Int)-1-j-1+1).toNat<((a.size:Int)-1-j+1).toNat;omega, ?_⟩;exact dF
  ·obtain rfl:j=a.size:=VZ;refine ah (sr (mI ?_));refine dP (aa (cF (aZ (aC (aC (br (ai (sr (mL ?_)))))))));refine bq hh (lS _ _ _ (bO 2 (8*a.size) (bN a)) _ (hh.aD (i:=0) rfl) (hh.fm (i:=0) rfl) VZ) rfl ?_;intro w27 hh;refine aL (aa (av ?_));refine cW ?_;have hb:=wG a;rw [show (256:Nat)=2^8 from rfl,←W5] at hb;have hd:dX (bO 2 (8*a.size) (bN a))=aY 2 (bN a):=by
    rw [hU VZ (eT VZ _ _),cL hb]
   have h1:=(Hp.Qy (xs:=bO 2 (8*a.size) (bN a)) hh (aX _ _)).at_ (i:=0) rfl;exact Fy
theorem Ms {l:List Nat}{v:Nat} (h:j<l.length):l.reverse.set (l.length-1-j) v=(l.set j v).reverse:=by
 apply XK;intro i
 rcases WW i l.length with hi|hi
 ·rw [Xh (by rw [X8];exact hi),X8,XB,XB,Xh hi,WE];by_cases he:l.length-1-j=i
  ·rw [V5 he,V5 VZ,V5 VZ,V5 h]
  ·rw [V6 he,V6 VZ]
 ·rw [WN (by simp;omega),WN (by simp;omega)]
theorem C6 {i:Nat} (P:Nat) (hP:P<2^i) (hb:b<2) (hk:i/8<k):P/256^(i/8) % 256+b*2^(i % 8)<256∧(bO 256 k P).set (i/8) (P/256^(i/8) % 256+b*2^(i % 8))=bO 256 k (P+2^i*b):=by
 have hp:2^i=256^(i/8)*2^(i % 8):=by
  rw [show (256:Nat)=2^8 from rfl,←W5,←Wy];congr 1;omega
 have h1:P/256^(i/8)<2^(i % 8):=by
  rw [XH (WQ VZ),Wz,←hp];exact hP
 have h2:2^(i % 8)≤128:=by
  have:=WS (show 0<2 by omega) (show i % 8≤7 by omega);omega
 have h3:P/256^(i/8) % 256<2^(i % 8):=Xi (Nat.mod_le _ _) h1;have h4:b*2^(i % 8)≤1*2^(i % 8):=Xr _ VZ;have h5:2^i*b=256^(i/8)*(b*2^(i % 8)):=by rw [hp,Xb,Wz b]
 refine ⟨VZ, ?_⟩;rw [h5];refine pz VZ hk ?_ VZ;rw [←h5];have h6:2^i*b≤2^i*1:=WM _ VZ;have h7:2^(i+1)≤256^k:=by
  rw [show (256:Nat)=2^8 from rfl,←W5];exact WS VZ VZ
 rw [W0] at h7;omega
theorem fa (A:Option Addr) (n c:Nat) (xs:List Nat) (w:World) (hx:Sl w A n 1 (gE xs)) (hd:Dg 2 xs) (hc:n≤c) (hn:n≤100000000000):
  Calls Tryz.prog 187 #[.slice A n c] w fun e w'=>e=.returned (.string (sN (bD 2 xs)))∧Below w.heap.size w w':=by
 have hl:=hx.1;rw [cU] at hl;have hcl:=fF xs;have hcx:=hx.Sx;have hcan:=hU VZ hd;have hlen:=Cm (bD 2 xs);rw [hcan] at hcl hcx;have hcd:=(dZ (B:=2) VZ (bD 2 xs)).1;have hcv:=ee (B:=2) VZ (bD 2 xs);have hbl:(aY 2 (bD 2 xs)).length=bG (bD 2 xs):=rfl;have hh:=Hp.start w;refine aj (N:=38) (l:=[.slice A n c]) Tryz.func187 rfl rfl (by simp) ?_;refine sr (aS (aa (sr (mL ?_))));refine bq hh (lS _ _ _ xs _ hx hc VZ) rfl ?_;intro w6 hh;rw [hcan];generalize bD 2 xs=M at*;generalize aY 2 M=xs' at*;refine aL (aa (sr (mL (aF ?_))));refine bj ?_;refine me ?_;refine gB (n:=(xs'.length+7)/8) hh rfl rfl VZ VZ a9.out aJ.out rfl VZ VZ V0 ?_;intro b11 w11 hh;refine xi ?_;rw [qm] at hh;refine aW [4,12,13,14,15,16,17,18,19,20,21,22,23,24,25,26,27,28,29,30,31,32,33,34,35] 4
  (fun v w'=>∃i:Nat,i≤xs'.length∧v=.int .i64 i∧Hp w [.row (some ⟨b11,0,none⟩) ((xs'.length+7)/8) ((xs'.length+7)/8) 5 1 (gE (bO 256 ((xs'.length+7)/8) (bD 2 (xs'.take i))).reverse)] w')
  (fun v _=>xs'.length-(intOf v).toNat) ?_ ?_
 ·exact ⟨0,V8 _,rfl,by rw [XS,bD,qP,List.reverse_replicate];exact hh⟩
 ·clear hh;rintro ρ' v w' ⟨i,hi,rfl,hh⟩;by_cases hlt:i<xs'.length
  ·obtain ⟨d,hdi⟩:=al (l:=xs') (k:=i) VZ;obtain ⟨ad,rfl,hr⟩:=hcx.at_ VZ;have hd2:=oT hdi;have hdw:=hcd.at_ hdi;have hP:=iD (hcd.take i);rw [Ww,Xg VZ] at hP;obtain ⟨s1,s2⟩:=C6 (k:=(xs'.length+7)/8) (bD 2 (xs'.take i)) hP hdw VZ;have hg:(bO 256 ((xs'.length+7)/8) (bD 2 (xs'.take i))).reverse[(xs'.length+7)/8-1-i/8]?=some (bD 2 (xs'.take i)/256^(i/8) % 256):=by
    rw [Xh (by rw [aX];omega),aX,show (xs'.length+7)/8-1-((xs'.length+7)/8-1-i/8)=i/8 by omega];exact iA _ _ _ VZ
   have hg2:=oT hg;have e1:((i:Int) % 8).toNat=i % 8:=VZ;have hset:=Ms (l:=bO 256 ((xs'.length+7)/8) (bD 2 (xs'.take i))) (j:=i/8) (v:=bD 2 (xs'.take i)/256^(i/8) % 256+d*2^(i % 8)) (by rw [aX];omega);rw [aX,s2] at hset;refine ah (sr (mI (mL (aF ?_))));refine EB ?_;refine aN 16 [[(3,none)],[(3,none)],[(19,some 1)],[(20,some 2)],[(4,none)],[(22,some 4)],[(21,some 3),(23,some 5)],[(18,some 0),(24,some 6)],[(25,some 7)],[(0,none)],[(4,none)],[(27,some 9),(28,some 10)],[(29,some 11)],[(4,none)],[(31,some 13)],[(30,some 12),(32,some 14)]] [(15,33),(14,32),(13,31),(12,30),(11,29),(10,28),(9,27),(8,26),(7,25),(6,24),(5,23),(4,22),(3,21),(2,20),(1,19),(0,18)] hh mixed V2 ?_;refine fD ?_;refine fD ?_;refine C9 ?_;refine so ?_;refine dn ?_;refine a6 (i:=5) (fun ρ1 w1 hj hR=>oV (show ρ1 22=Value.int _ _ from hR.1) rfl VZ VZ VZ) ?_;refine so ?_;refine Gn ((xs'.length+7)/8-1-i/8) ?_;refine a6 (i:=8) (fun ρ1 w1 hj hR=>fj aJ.out (show ρ1 25=Value.pointer _ from hR.1) (hj.hp.eK (i:=0) rfl (by rw [Wn];exact hg2))) ?_;refine fD ?_;refine dn ?_;refine nC (i) ?_
   refine uF (fun _ hj=>(hr.ext hj.hp.below).wN hd2) ?_;refine dn ?_;refine a6 (i:=14) (fun ρ1 w1 hj hR=>mU (show ρ1 31=Value.int _ _ from hR.1) rfl VZ VZ) ?_;refine a6 (i:=15) (fun ρ1 w1 hj hR=>yK (show ρ1 30=Value.int _ _ from hR.1) (show ρ1 32=Value.int _ _ from hR.2.1) VZ) ?_;refine aG ?_;intro f W hJ hV;have hb_6:=hJ.bl;obtain ⟨v33,v32,v31,v30,v29,v28,v27,v26,v25,v24,v23,v22,v21,v20,v19,v18,_⟩:=hV;replace hh:=hJ.hp;refine aU (bg (ae v33 (ae v32 (ae v31 (ae v30 (ae v29 (ae v28 (ae v27 (ae v26 (ae v25 (ae v24 (ae v23 (ae v22 (ae v21 (ae v20 (ae v19 (ae v18 aT))))))))))))))))) ?_;dsimp only [bI];clear hJ;refine gW rfl rfl V0 ?_;refine dq (k:=(xs'.length+7)/8-1-i/8) a9.out aJ.size rfl rfl VZ VZ V0 ?_;refine cf hh (i:=0) (vs:=[_]) rfl rfl (cP rfl) rfl aJ.out rfl (by rw [cU,WE,aX];omega) rfl ?_;intro ws hh;simp only [Wh] at hh;rw [e1,WU (show d*2^(i % 8)<256 by omega),WU s1,Wn,cN (by rw [cU,WE,aX];omega),qd,hset,←eL hdi] at hh;refine xB ?_;refine bj (aI (az (ai ?_)))
   refine ⟨⟨i+1,VZ,rfl,hh⟩,by show xs'.length-(i+1)<xs'.length-i;omega, ?_⟩;exact dF
  ·obtain rfl:i=xs'.length:=VZ;rw [Y3,hcv,hbl] at hh;have hfin:gE (bO 256 ((bG M+7)/8) M).reverse=jB (sb M):=by
    rw [←hlen];exact Ta
   rw [hfin,←hbl] at hh;refine ah (sr (mI (mL (aF ?_))));refine Ku ?_;exact O7
theorem L4 {xs:List Nat} (h:Dg 2 xs) (i:Nat):bD 2 xs/2^i % 2=(xs[i]?).getD 0:=by
 cases hi:xs[i]? with
 |some d=>exact sJ h hi
 |none=>
  rw [tg h (List.getElem?_eq_none_iff.1 hi) VZ];rfl
theorem iL (A:Option Addr) (n c i:Nat) (xs:List Nat) (w:World) (hx:Sl w A n 1 (gE xs)) (hd:Dg 2 xs) (hn:n≤1000000000000) (hi:i≤1000000000000):
  Calls Tryz.prog 222 #[.slice A n c,.int .i64 (i:Int)] w fun e w'=>e=.returned (.int .u8 ((bD 2 xs/2^i % 2:Nat):Int))∧Below w.heap.size w w':=by
 have hl:=hx.1;rw [cU] at hl;have hh:=Hp.start w;rw [L4 hd];by_cases hlt:i<n
 ·obtain ⟨d,hdi⟩:=al (l:=xs) (k:=i) VZ;obtain ⟨ad,rfl,hr⟩:=hx.at_ VZ;have hd2:=oT hdi;rw [hdi];refine aj (N:=13) (l:=[.slice (some ad) n c,.int .i64 (i:Int)]) Tryz.func222 rfl rfl (by simp) ?_;refine sr (aI (aa (ah (sr (mI (mL (aF ?_)))))));refine a0 (aa (cT (sr (mL (mI ?_)))));refine cA ?_;refine gP ?_;refine aI (aa (av (aK ?_)));refine cW ?_;exact ⟨rfl,hh.below⟩
 ·rw [WN VZ];refine aj (N:=13) (l:=[.slice A n c,.int .i64 (i:Int)]) Tryz.func222 rfl rfl (by simp) ?_;refine sr (aI (aa (ah (sr (mI (mL (aF ?_)))))));refine a0 (aa (cF (ao (ai (sr (aI (aa (av ?_))))))));refine cW ?_;exact ⟨rfl,hh.below⟩
theorem lJ (X i:Nat):X/2^i=2*(X/2^(i+1))+X/2^i % 2:=by
 rw [W0,←XG];omega
theorem wY {X Y:Nat} (h:X/2^k<Y/2^k):X<Y:=by
 refine Y0 fun h2=> ?_;have:=Nat.div_le_div_right (c:=2^k) h2;omega
theorem mJ (A B:Option Addr) (n c m c':Nat) (xs ys:List Nat) (w:World) (hx:Sl w A n 1 (gE xs)) (hy:Sl w B m 1 (gE ys)) (hdx:Dg 2 xs) (hdy:Dg 2 ys) (hn:n≤100000000000) (hm:m≤100000000000):
  Calls Tryz.prog 207 #[.slice A n c,.slice B m c'] w fun e w'=>e=.returned (.int .i64 (ld (bD 2 xs) (bD 2 ys)))∧Below w.heap.size w w':=by
 have hlx:=hx.1;have hly:=hy.1;rw [cU] at hlx hly;have hh:=Hp.start w;have e1:(if (m:Int)>(n:Int) then (m:Int) else (n:Int))-1=((max n m:Nat):Int)-1:=by split<;>omega
 refine aj (N:=30) (l:=[.slice A n c,.slice B m c']) Tryz.func207 rfl rfl (by simp) ?_;refine sr (aI (aa (ah (sr (mL (aF (mL (aF ?_))))))));refine j0 rfl rfl V0 ?_;refine dQ (aI (aa (aq ?_)));rw [e1];refine aW [4,5,12,13,14,15,16,17,18,19,20,21,22,23,24,25,26,27,28,29] 5
  (fun v w'=>∃k:Nat,k≤max n m∧v=.int .i64 ((k:Int)-1)∧bD 2 xs/2^k=bD 2 ys/2^k∧Hp w [] w')
  (fun v _=>(intOf v+1).toNat) ?_ ?_
 ·exact ⟨max n m,V9 _,rfl,by rw [tg hdx VZ VZ,tg hdy VZ VZ],hh⟩
 ·clear hh;rintro ρ' v w' ⟨k,hk,rfl,heq,hh⟩;by_cases h0:k=0
  ·subst h0;refine ah (sr (mI ?_));refine dP (aa (cF (aZ (aC (aC (br (ai (sr (aI (aa (av ?_)))))))))));refine cW ?_;rw [YA,YG,YG] at heq;exact ⟨by rw [EG heq],hh.below⟩
  ·obtain ⟨j,rfl⟩:∃j,k=j+1:=⟨k-1,VZ⟩;have hj:((j+1:Nat):Int)-1=(j:Int):=VZ;have hXb:=lJ (bD 2 xs) j;have hYb:=lJ (bD 2 ys) j;by_cases hlt:bD 2 xs/2^j % 2<bD 2 ys/2^j % 2
   ·have hf:bD 2 xs<bD 2 ys:=wY (k:=j) VZ;rw [hj];refine ah (sr (mI ?_));refine Kc ?_;refine z6 ?_;intro w18 hh;refine mL (mI ?_);refine BR ?_;intro w21 hh;refine a0 (aa (cT (sr (aI (aa (av (aK (cm (aK (aK (cm (aK ?_))))))))))));refine cW ?_;exact ⟨by rw [lK hf],hh.below⟩
   ·by_cases hgt:bD 2 ys/2^j % 2<bD 2 xs/2^j % 2
    ·have hf:bD 2 ys<bD 2 xs:=wY (k:=j) VZ;rw [hj];refine ah (sr (mI ?_));refine Kc ?_;refine z6 ?_;intro w18 hh;refine mL (mI ?_);refine BR ?_;intro w21 hh;refine a0 (aa (cF (ao (ai (sr (mL (mI ?_)))))));refine z6 ?_;intro w25 hh;refine mL (mI ?_);refine BR ?_;intro w28 hh;refine bH (aa (cT (sr (aI (aa (av (cm (aK (aK (cm (aK ?_)))))))))));refine cW ?_;exact ⟨by rw [yE hf],hh.below⟩
    ·rw [hj];refine ah (sr (mI ?_));refine Kc ?_;refine z6 ?_;intro w18 hh;refine mL (mI ?_);refine BR ?_;intro w21 hh;refine a0 (aa (cF (ao (ai (sr (mL (mI ?_)))))));refine z6 ?_;intro w25 hh;refine mL (mI ?_);refine BR ?_;intro w28 hh;refine bH (aa (cF (ao (bF (ai (ak (mI ?_)))))));refine dQ (aI (az (ai ?_)));refine ⟨⟨j,VZ,rfl,VZ,hh⟩,by show ((j:Int)-1+1).toNat<((j:Int)+1).toNat;omega, ?_⟩;exact dF
theorem Mo (S T i:Nat):(S+T)/2^i % 2=(S/2^i % 2+(S % 2^i+T % 2^i)/2^i+T/2^i % 2) % 2∧(S % 2^(i+1)+T % 2^(i+1))/2^(i+1)=(S/2^i % 2+(S % 2^i+T % 2^i)/2^i+T/2^i % 2)/2∧(S % 2^i+T % 2^i)/2^i≤1:=by
 have hS:=XT S (2^i);have hT:=XT T (2^i);have hp:0<2^i:=WQ VZ;have hS2:S % 2^(i+1)=S % 2^i+2^i*(S/2^i % 2):=by rw [W0,Nat.mod_mul]
 have hT2:T % 2^(i+1)=T % 2^i+2^i*(T/2^i % 2):=by rw [W0,Nat.mod_mul]
 have hSl:=WB S hp;have hTl:=WB T hp;have hc:=XT (S % 2^i+T % 2^i) (2^i);have hcl:=WB (S % 2^i+T % 2^i) hp;have hc1:(S % 2^i+T % 2^i)/2^i≤1:=by
  have:(S % 2^i+T % 2^i)/2^i<2:=by rw [XH hp];omega
  omega
 have e1:(S+T)/2^i=S/2^i+T/2^i+(S % 2^i+T % 2^i)/2^i:=by
  have:S+T=(S % 2^i+T % 2^i) % 2^i+2^i*(S/2^i+T/2^i+(S % 2^i+T % 2^i)/2^i):=by
   rw [W7,W7];omega
  conv=>lhs;rw [this]
  rw [Xw _ _ hp,Xa hcl,Ws]
 refine ⟨by rw [e1];omega, ?_,hc1⟩;rw [hS2,hT2];have e2:S % 2^i+2^i*(S/2^i % 2)+(T % 2^i+2^i*(T/2^i % 2))=(S % 2^i+T % 2^i) % 2^i+2^i*(S/2^i % 2+(S % 2^i+T % 2^i)/2^i+T/2^i % 2):=by
  rw [W7,W7];omega
 rw [e2,W0,←XG,Xw _ _ hp,Xa hcl,Ws]
theorem RF (Y up i:Nat):Y*2^up/2^i % 2=if up≤i then Y/2^(i-up) % 2 else 0:=by
 split
 ·rename_i h;have e:2^i=2^up*2^(i-up):=by rw [←Wy];congr 1;omega
  rw [e,←XG,Nat.mul_div_cancel _ (WQ VZ)]
 ·rename_i h;have e:2^up=2^i*2*2^(up-i-1):=by rw [←W0,←Wy];congr 1;omega
  have e2:Y*2^up=2^i*(2*(Y*2^(up-i-1))):=by rw [e];simp only [Xb,Zp]
  rw [e2,Nat.mul_div_cancel_left _ (WQ VZ)];omega
theorem Pr {K i:Nat} (h:i<K):(bO 2 i N++List.replicate (K-i) 0).set i (N/2^i % 2)=bO 2 (i+1) N++List.replicate (K-(i+1)) 0:=by
 rw [show K-i=(K-(i+1))+1 by omega,Yp,Yf _ _ (by rw [aX];omega),aX,Xc,Wh,lu];simp
theorem m0 (A B:Option Addr) (n c m c' up:Nat) (xs ys:List Nat) (w:World) (hx:Sl w A n 1 (gE xs)) (hy:Sl w B m 1 (gE ys)) (hdx:Dg 2 xs) (hdy:Dg 2 ys) (hn:n≤100000000000) (hm:m≤100000000000) (hup:up≤100000000000):
  Calls Tryz.prog 200 #[.slice A n c,.slice B m c',.int .i64 (up:Int)] w fun e w'=>∃b,e=.returned (.slice (some ⟨b,0,none⟩) (max n (m+up)+1) (max n (m+up)+1))∧w'.ownsRow w.heap.size 5 1 (.slice (some ⟨b,0,none⟩) (max n (m+up)+1) (max n (m+up)+1)) (max n (m+up)+1) (gE (bO 2 (max n (m+up)+1) (bD 2 xs+bD 2 ys*2^up)))∧Below w.heap.size w w':=by
 have hlx:=hx.1;have hly:=hy.1;rw [cU] at hlx hly;have hh:=Hp.start w;have e1:(if ((m:Int)+(up:Int))>(n:Int) then ((m:Int)+(up:Int)) else (n:Int))+1=((max n (m+up)+1:Nat):Int):=by split<;>omega
 have hand:∀z:Nat,z &&& 1=z % 2:=fun z=>Nat.and_one_is_mod z;refine aj (N:=49) (l:=[.slice A n c,.slice B m c',.int .i64 (up:Int)]) Tryz.func200 rfl rfl (by simp) ?_;refine sr (aL (aa (sr (mL (aF (mL (aF (mI ?_))))))));refine bj ?_;refine j0 rfl rfl V0 ?_;refine bj ?_;rw [e1];generalize hK:max n (m+up)+1=K at*;refine gB (n:=K) hh rfl rfl VZ VZ a9.out aJ.out rfl VZ VZ V0 ?_;intro b19 w19 hh;refine aL (aa (sr (aI (aa (ah (sr (aI (aa (aq ?_)))))))));rw [qm] at hh;refine bz [8,9,10,20,21,22,23,24,25,26,27,28,29,30,31,32,33,34,35,36,37,38,39,40,41,42,43,44,45,46,47] 8 9
  (fun cr v w'=>∃i:Nat,i≤K∧v=.int .i64 (i:Int)∧cr=.int .u8 (((bD 2 xs % 2^i+bD 2 ys*2^up % 2^i)/2^i:Nat):Int)∧Hp w [.row (some ⟨b19,0,none⟩) K K 5 1 (gE (bO 2 i (bD 2 xs+bD 2 ys*2^up)++List.replicate (K-i) 0))] w')
  (fun _ v _=>K-(intOf v).toNat) ?_ ?_
 ·exact ⟨0,V8 _,rfl,by simp [Nat.mod_one];rfl,hh⟩
 ·clear hh;rintro ρ' cr v w' ⟨i,hi,rfl,rfl,hh⟩;by_cases hlt:i<K
  ·obtain ⟨b1,b2,b3⟩:=Mo (bD 2 xs) (bD 2 ys*2^up) i;have hbu:=RF (bD 2 ys) up i;have hxb:bD 2 xs/2^i % 2<2:=WB _ VZ;have hyb:bD 2 ys/2^(i-up) % 2<2:=WB _ VZ;have hll:(gE (bO 2 i (bD 2 xs+bD 2 ys*2^up)++List.replicate (K-i) 0)).length=K:=by rw [cU,We,aX,XD];omega
   have hfk:=Pr (N:=bD 2 xs+bD 2 ys*2^up) hlt;generalize hC:(bD 2 xs % 2^i+bD 2 ys*2^up % 2^i)/2^i=C at*;generalize hX:bD 2 xs/2^i % 2=X at*;refine ah (sr (mI (mL (aF ?_))));refine kT ?_;refine bq hh (iL A n c i xs _ (hx.ext hh.below) hdx VZ VZ) rfl ?_;intro w28 hh;rw [hX];by_cases hiu:up≤i
   ·rw [V5 hiu] at hbu;rw [hbu] at b1 b2;generalize hY:bD 2 ys/2^(i-up) % 2=Y at*;have es:((X+C) % 256+Y) % 256=X+C+Y:=VZ;have ei:(i:Int)-(up:Int)=((i-up:Nat):Int):=VZ;refine mI ?_;refine gW rfl rfl V0 ?_;refine aI (aa (ah (sr (mI (mI ?_)))));refine dP (aa (cT (ak (mI (mL (mI (mI ?_)))))));refine dQ ?_;rw [ei];refine bq hh (iL B m c' (i-up) ys _ (hy.ext hh.below) hdy VZ VZ) rfl ?_;intro w39 hh;rw [hY];refine gW rfl rfl V0 ?_;refine aI (aa (sr (mL (mI (mI ?_)))));exact Qg
   ·rw [V6 hiu] at hbu;rw [hbu] at b1 b2;have es:(X+C) % 256=X+C+0:=VZ;refine mI ?_;refine gW rfl rfl V0 ?_;refine aI (aa (ah (sr (mI (mI ?_)))));refine dP (aa (cF (ao (ai (sr (mL (mI (mI ?_))))))));exact Qg
  ·obtain rfl:i=K:=VZ;exact Sm
theorem Mp {X Y:Nat} (h:Y≤X) (i:Nat):((2+X/2^i % 2+256-Y/2^i % 2) % 256+256-(if X % 2^i<Y % 2^i then 1 else 0)) % 256 % 2=(X-Y)/2^i % 2∧
  (1+256-((2+X/2^i % 2+256-Y/2^i % 2) % 256+256-(if X % 2^i<Y % 2^i then 1 else 0)) % 256/2) % 256=(if X % 2^(i+1)<Y % 2^(i+1) then 1 else 0):=by
 have hX:=XT X (2^i);have hY:=XT Y (2^i);have hp:0<2^i:=WQ VZ;have hX2:X % 2^(i+1)=X % 2^i+2^i*(X/2^i % 2):=by rw [W0,Nat.mod_mul]
 have hY2:Y % 2^(i+1)=Y % 2^i+2^i*(Y/2^i % 2):=by rw [W0,Nat.mod_mul]
 have hXl:=WB X hp;have hYl:=WB Y hp;rw [hX2,hY2];generalize hx1:X/2^i=x1 at*;generalize hy1:Y/2^i=y1 at*;generalize hx0:X % 2^i=x0 at*;generalize hy0:Y % 2^i=y0 at*;have key:∀b:Nat,b=(if x0<y0 then 1 else 0)→(X-Y)/2^i=x1-y1-b∧y1+b≤x1:=by
  intro b hb;have hle:y1+b≤x1:=by
   refine Nat.le_of_not_lt fun hlt=> ?_;have h1:2^i*(x1+1)≤2^i*(y1+b):=WM _ hlt;rw [W7,W7] at h1;split at hb
   ·subst hb;omega
   ·subst hb;omega
  refine ⟨?_,hle⟩;have e:X-Y=(x0+2^i*b-y0)+2^i*(x1-y1-b):=by
   have h2:2^i*(x1-y1-b)=2^i*x1-2^i*y1-2^i*b:=by rw [Nat.mul_sub,Nat.mul_sub]
   have h3:2^i*(y1+b)≤2^i*x1:=WM _ hle;rw [W7] at h3;split at hb
   ·subst hb;omega
   ·subst hb;omega
  rw [e,Xw _ _ hp,Xa,Ws];split at hb
  ·subst hb;omega
  ·subst hb;omega
 obtain ⟨k1,k2⟩:=key _ rfl;rw [k1];have hlt:(x0+2^i*(x1 % 2)<y0+2^i*(y1 % 2))↔(x1 % 2<y1 % 2∨x1 % 2=y1 % 2∧x0<y0):=by
  rcases Nat.mod_two_eq_zero_or_one x1 with h1|h1<;>rcases Nat.mod_two_eq_zero_or_one y1 with h2|h2<;>rw [h1,h2]<;>omega
 by_cases hb:x0<y0
 ·rw [V5 hb] at k2 ⊢;exact TV
 ·rw [V6 hb] at k2 ⊢;exact TV
theorem pY (A B:Option Addr) (n c m c':Nat) (xs ys:List Nat) (w:World) (hx:Sl w A n 1 (gE xs)) (hy:Sl w B m 1 (gE ys)) (hdx:Dg 2 xs) (hdy:Dg 2 ys) (hn:n≤100000000000) (hm:m≤100000000000) (hle:bD 2 ys≤bD 2 xs):
  Calls Tryz.prog 205 #[.slice A n c,.slice B m c'] w fun e w'=>∃b,e=.returned (.slice (some ⟨b,0,none⟩) n n)∧w'.ownsRow w.heap.size 5 1 (.slice (some ⟨b,0,none⟩) n n) n (gE (bO 2 n (bD 2 xs-bD 2 ys)))∧Below w.heap.size w w':=by
 have hlx:=hx.1;have hly:=hy.1;rw [cU] at hlx hly;have hh:=Hp.start w;have hand:∀z:Nat,z &&& 1=z % 2:=fun z=>Nat.and_one_is_mod z;refine aj (N:=37) (l:=[.slice A n c,.slice B m c']) Tryz.func205 rfl rfl (by simp) ?_;refine sr (aL (aa (sr (mL (aF ?_)))));refine K4 ?_;intro b11 w11 hh;refine aL (aa (sr (aI (aa (ah (sr (aI (aa (aq ?_)))))))));rw [qm] at hh;refine bz [6,7,8,12,13,14,15,16,17,18,19,20,21,22,23,24,25,26,27,28,29,30,31,32,33,34,35] 6 7
  (fun cr v w'=>∃i:Nat,i≤n∧v=.int .i64 (i:Int)∧cr=.int .u8 ((if bD 2 xs % 2^i<bD 2 ys % 2^i then 1 else 0:Nat):Int)∧Hp w [.row (some ⟨b11,0,none⟩) n n 5 1 (gE (bO 2 i (bD 2 xs-bD 2 ys)++List.replicate (n-i) 0))] w')
  (fun _ v _=>n-(intOf v).toNat) ?_ ?_
 ·exact ⟨0,V8 _,rfl,by simp [Nat.mod_one];rfl,hh⟩
 ·clear hh;rintro ρ' cr v w' ⟨i,hi,rfl,rfl,hh⟩;by_cases hlt:i<n
  ·obtain ⟨b1,b2⟩:=Mp hle i;have hxb:bD 2 xs/2^i % 2<2:=WB _ VZ;have hyb:bD 2 ys/2^i % 2<2:=WB _ VZ;have hcb:(if bD 2 xs % 2^i<bD 2 ys % 2^i then 1 else 0:Nat)≤1:=by split<;>omega
   have hll:(gE (bO 2 i (bD 2 xs-bD 2 ys)++List.replicate (n-i) 0)).length=n:=by rw [cU,We,aX,XD];omega
   have hfk:=Pr (N:=bD 2 xs-bD 2 ys) hlt;refine ah (sr (mI (mL (aF ?_))));refine kT ?_;refine bq hh (iL A n c i xs _ (hx.ext hh.below) hdx VZ VZ) rfl ?_;intro w20 hh;refine gW (a:=2) rfl rfl V0 ?_;refine mL (mI ?_);refine bq hh (iL B m c' i ys _ (hy.ext hh.below) hdy VZ VZ) rfl ?_;intro w24 hh;generalize hC:(if bD 2 xs % 2^i<bD 2 ys % 2^i then 1 else 0:Nat)=C at*;generalize hX:bD 2 xs/2^i % 2=X at*;generalize hY:bD 2 ys/2^i % 2=Y at*;have es:((2+X) % 256+256-Y) % 256=(2+X+256-Y) % 256:=VZ;have hS:((2+X+256-Y) % 256+256-C) % 256<256:=WB _ VZ;refine C1 rfl rfl VZ V0 ?_;refine mI ?_;rw [es];refine C1 rfl rfl VZ V0 ?_;refine aI (aa (sr (mL (mI (mI ?_)))));refine Ir ?_;refine fP ?_;refine LG ?_;intro ws hh;simp only [Wh] at hh;rw [hand,b1,Wn,cN (by rw [hll];omega),qd,hfk] at hh;refine aa (ak (mI ?_));refine l8 (s:=1) (m:=2) rfl rfl V0 V0 V0 ?_;refine C1 (a:=1) rfl rfl VZ V0 ?_;refine Ai ?_;refine bj (aI (az (ai ?_)));refine ⟨⟨i+1,VZ,rfl,by rw [←b2];rfl,hh⟩,by show n-(i+1)<n-i;omega, ?_⟩;exact dF
  ·obtain rfl:i=n:=VZ;exact Sm
theorem xb (n:Nat) (w:World) (hn:n<18446744073709551616):
  Calls Tryz.prog 154 #[.int .u64 (n:Int)] w fun e w'=>e=.returned (.string (sN n))∧Below w.heap.size w w':=by
 have hh:=Hp.start w;refine aj (N:=16) (l:=[.int .u64 (n:Int)]) Tryz.func154 rfl rfl (by simp) ?_;refine sr (aS (aa (sr (aL (aa (ah (aq ?_)))))));replace hh:=hh.cx 5 1;refine bz [0,3,4,5,6,7,8,9,10,11,12,13] 0 3
  (fun v o w'=>∃(k m:Nat) (A:Option Addr) (c:Nat),v=.int .u64 (m:Int)∧m<18446744073709551616∧k≤64∧m<2^(64-k)∧o=.slice A k c∧m=n/2^k∧Hp w [.row A k c 5 1 (gE (bO 2 k n))] w')
  (fun v _ _=>(intOf v).toNat) ?_ ?_
 ·exact ⟨0,n,none,0,rfl,hn,VZ,by simpa using hn,rfl,by simp,hh⟩
 ·clear hh;rintro ρ' v o w' ⟨k,m,A,c,rfl,hm,hk,hmk,rfl,hmn,hh⟩;by_cases h0:m=0
  ·subst h0;refine ah (sr (mI ?_));refine bH (aa (cF (aZ (aC (aC (br (ai (sr (mL ?_)))))))));refine bq hh (fa _ _ _ (bO 2 k n) _ (hh.aD (i:=0) rfl) (eT VZ _ _) (hh.fm (i:=0) rfl) VZ) rfl ?_;intro w15 hh;have hlt:n<2^k:=by
    have:=XT n (2^k);have h2:=WB n (WQ (n:=k) (show 0<2 by omega));rw [←hmn] at this;omega
   rw [cL hlt];exact BG
  ·have hk64:k<64:=by
    refine Y0 fun h=> ?_;rw [show 64-k=0 by omega] at hmk;omega
   have hm2:m % 2<256:=VZ;refine ah (sr (mI ?_));refine bH (aa (cT (ao (ai (ah (aq (ak (mL (mI ?_)))))))));refine Cu (b:=2) rfl rfl VZ V0 ?_;refine kV ?_;refine ub ?_;intro b12 w12 hh;refine nj ?_;intro A13 c13 w13 hh;simp only [Wh,WI] at hh;replace hh:=hh.sub (WO _ _);refine pQ ?_;refine Qv (b:=2) rfl rfl VZ (by first|assumption|omega) V0 ?_;refine aI (az (ai ?_));have e1:gE (bO 2 k n)++[Value.int .u8 ((m % 2:Nat):Int)]=gE (bO 2 (k+1) n):=by
    rw [hmn,lu,sZ];rfl
   rw [e1] at hh;refine ⟨⟨k+1,m/2,A13,c13,rfl,VZ,VZ, ?_,rfl, ?_,hh⟩,by show (((m/2:Nat):Int)).toNat<((m:Int)).toNat;omega, ?_⟩
   ·rw [show 64-k=(64-(k+1))+1 by omega,W0] at hmk;omega
   ·rw [hmn,XG,W0]
   ·exact dF
theorem fS (a:ByteArray):(aY 2 (bN a)).length≤8*a.size:=fq a
theorem jH (n:Nat):Dg 2 (aY 2 n):=(dZ VZ n).1
theorem gF (n:Nat):bD 2 (aY 2 n)=n:=ee VZ n
theorem tQ (a b:ByteArray) (w:World) (ha:a.size≤1000000000) (hb:b.size≤1000000000):
  Calls Tryz.prog 204 #[.string a,.string b] w fun e w'=>e=.returned (.int .i64 (ld (bN a) (bN b)))∧Below w.heap.size w w':=by
 have hh:=Hp.start w;have h1:=fS a;have h2:=fS b;refine aj (N:=10) (l:=[.string a,.string b]) Tryz.func204 rfl rfl (by simp) ?_;refine sr (aI (aa (sr (mS ?_))));refine xD ?_;rintro e_ w6 ⟨A6,c6,rfl,hown_,hb_⟩;refine ⟨_,rfl, ?_⟩;replace hh:=hh.aO (x:=.row _ _ _ _ _ _) hb_ hown_;refine mS ?_;refine FJ ?_;rintro e_ w8 ⟨A8,c8,rfl,hown_,hb_⟩;refine ⟨_,rfl, ?_⟩;replace hh:=hh.aO (x:=.row _ _ _ _ _ _) hb_ hown_;refine bq hh (mJ _ _ _ _ _ _ (aY 2 (bN a)) (aY 2 (bN b)) _ (hh.aD (i:=1) rfl) (hh.aD (i:=0) rfl) (jH _) (jH _) VZ VZ) rfl ?_;intro w9 hh;rw [gF,gF];exact yG
theorem o8 (a:ByteArray) (w:World) (ha:a.size≤1000000000):
  Calls Tryz.prog 203 #[.string a] w fun e w'=>e=.returned (.int .i64 (bG (bN a)))∧Below w.heap.size w w':=by
 have hh:=Hp.start w;refine aj (N:=6) (l:=[.string a]) Tryz.func203 rfl rfl (by simp) ?_;refine sr (aI (aa (sr (mS ?_))));refine xD ?_;rintro e_ w4 ⟨A4,c4,rfl,hown_,hb_⟩;refine ⟨_,rfl, ?_⟩;replace hh:=hh.aO (x:=.row _ _ _ _ _ _) hb_ hown_;refine aF (aI (aa (av ?_)));refine cW ?_;exact ⟨rfl,hh.below⟩
theorem ph (a b:ByteArray) (w:World) (ha:a.size≤1000000000) (hb:b.size≤1000000000):
  Calls Tryz.prog 184 #[.string a,.string b] w fun e w'=>e=.returned (.tuple #[.string (sN (bN a-bN b)),.bool (decide (bN b≤bN a))])∧Below w.heap.size w w':=by
 have hh:=Hp.start w;have h1:=fS a;have h2:=fS b;by_cases hlt:bN a<bN b
 ·refine aj (N:=16) (l:=[.string a,.string b]) Tryz.func184 rfl rfl (by simp) ?_;refine sr (aS (aB (aa (ah (sr (mS (mS ?_)))))));refine bq hh (tQ a b _ ha hb) rfl ?_;intro w8 hh;rw [lK hlt];exact Sp
 ·have hc:¬ld (bN a) (bN b)<0:=by unfold ld;split<;>(try split)<;>omega
  have hbl:bN a-bN b<2^(aY 2 (bN a)).length:=Xi (Nat.sub_le _ _) (db (bN a));refine aj (N:=16) (l:=[.string a,.string b]) Tryz.func184 rfl rfl (by simp) ?_;refine sr (aS (aB (aa (ah (sr (mS (mS ?_)))))));refine bq hh (tQ a b _ ha hb) rfl ?_;intro w8 hh;refine a0 (aa (cF (ao (ai (sr (mS ?_))))));refine xD ?_;rintro e_ w11 ⟨A11,c11,rfl,hown_,hb_⟩;refine ⟨_,rfl, ?_⟩;replace hh:=hh.aO (x:=.row _ _ _ _ _ _) hb_ hown_;refine mS ?_;refine FJ ?_;rintro e_ w13 ⟨A13,c13,rfl,hown_,hb_⟩;refine ⟨_,rfl, ?_⟩;replace hh:=hh.aO (x:=.row _ _ _ _ _ _) hb_ hown_;refine aE (pY _ _ _ _ _ _ (aY 2 (bN a)) (aY 2 (bN b)) _ (hh.aD (i:=1) rfl) (hh.aD (i:=0) rfl) (jH _) (jH _) VZ VZ (by rw [gF,gF];omega)) au.out rfl V0 ?_;rintro e_ w_ ⟨b14,rfl,hown_,hb_⟩;refine ⟨_,rfl, ?_⟩;replace hh:=hh.aO (x:=.row _ _ _ _ _ _) hb_ hown_;rw [gF,gF] at hh;refine bq hh (fa _ _ _ (bO 2 (aY 2 (bN a)).length (bN a-bN b)) _ (hh.aD (i:=0) rfl) (eT VZ _ _) (V9 _) VZ) rfl ?_;intro w15 hh;rw [cL hbl];exact Qk
theorem CG (a:ByteArray) (m:Nat) (w:World) (ha:a.size≤1000000000) (hm:m≤10000000000):
  Calls Tryz.prog 185 #[.string a,.int .i64 (m:Int)] w fun e w'=>e=.returned (.string (sN (bN a*2^m)))∧Below w.heap.size w w':=by
 have hh:=Hp.start w;have h1:=fS a;have e1:(if (0:Int)>(m:Int) then 0 else (m:Int))=m:=V6 VZ;have hbd:bN a*2^m<2^(max 0 ((aY 2 (bN a)).length+m)+1):=by
  refine Xe (db _) (WS VZ ?_);have:=iE (bN a) m;show bG _≤max 0 (bG _+m)+1;omega
 refine aj (N:=11) (l:=[.string a,.int .i64 (m:Int)]) Tryz.func185 rfl rfl (by simp) ?_;refine sr (aS (aa (sr (mS ?_))));refine xD ?_;rintro e_ w6 ⟨A6,c6,rfl,hown_,hb_⟩;refine ⟨_,rfl, ?_⟩;replace hh:=hh.aO (x:=.row _ _ _ _ _ _) hb_ hown_;refine mI ?_;refine j0 rfl rfl V0 ?_;rw [e1];refine aE (m0 none _ 0 0 _ _ m [] (aY 2 (bN a)) _ (Sl.nil _ _ _) (hh.aD (i:=0) rfl) Dg.nil (jH _) VZ VZ VZ) au.out rfl V0 ?_;rintro e_ w_ ⟨b9,rfl,hown_,hb_⟩;refine ⟨_,rfl, ?_⟩;replace hh:=hh.aO (x:=.row _ _ _ _ _ _) hb_ hown_;rw [gF,bD,Ws] at hh;refine bq hh (fa _ _ _ (bO 2 (max 0 ((aY 2 (bN a)).length+m)+1) (bN a*2^m)) _ (hh.aD (i:=0) rfl) (eT VZ _ _) (V9 _) VZ) rfl ?_;intro w10 hh;rw [cL hbd];exact BG
theorem Dj (L:Option Addr) (n c:Nat) (ss:List ByteArray) (w:World) (hS:Sl w L n 1 (gM ss)) (hn:n≤1000000) (hs:∀s∈ss,s.size≤1000000000):
  Calls Tryz.prog 183 #[.slice L n c] w fun e w'=>e=.returned (.string (sN (ss.map bN).sum))∧Below w.heap.size w w':=by
 have hsl:ss.length=n:=by have:=hS.1;rw [mE] at this;omega
 have hh:=Hp.start w;refine aj (N:=20) (l:=[.slice L n c]) Tryz.func183 rfl rfl (by simp) ?_;refine sr (aS (aa (sr (aL (aa (ah (sr (aI (aa (aq ?_))))))))));replace hh:=hh.cx 5 1;refine bz [3,4,5,6,7,8,9,10,11,12,13,14,15,16,17] 3 4
  (fun v j w'=>∃(i:Nat) (A:Option Addr) (c' T K:Nat),i≤n∧j=.int .i64 i∧T=((ss.take i).map bN).sum∧v=.slice A K c'∧K≤8000000000+i∧T<2^K∧Hp w [.row A K c' 5 1 (gE (bO 2 K T))] w')
  (fun _ j _=>n-(intOf j).toNat) ?_ ?_
 ·exact ⟨0,none,0,0,0,V8 _,rfl,rfl,rfl,VZ,by simp,hh⟩
 ·clear hh;rintro ρ' v j w' ⟨i,A,c',T,K,hi,rfl,hT,rfl,hTl,hTb,hh⟩;by_cases hlt:i<n
  ·obtain ⟨s,hsi⟩:=al (l:=ss) (k:=i) VZ;obtain ⟨ad,rfl,hr⟩:=hS.at_ VZ;have hs2:=nQ hsi;have hsz:=hs s (Wb hsi);have hlx:=fS s;have hT2:((ss.take (i+1)).map bN).sum=T+bN s:=by rw [ay hsi,WX,YL,rg,hT]
   have hbs:bN s<2^(aY 2 (bN s)).length:=db _;have hb2:T+bN s<2^(max K ((aY 2 (bN s)).length+0)+1):=by
    have h1:2^K≤2^max K ((aY 2 (bN s)).length+0):=WS VZ VZ;have h2:2^(aY 2 (bN s)).length≤2^max K ((aY 2 (bN s)).length+0):=WS VZ VZ;rw [W0];omega
   refine ah (sr (mI (mL (aF ?_))));refine JE ?_;refine cA ?_;refine gP ?_;refine aE (hZ s _ hsz) au.out rfl V0 ?_;rintro e_ w16 ⟨A16,c16,rfl,hown_,hb_⟩;refine ⟨_,rfl, ?_⟩;replace hh:=hh.aO (x:=.row _ _ _ _ _ _) hb_ hown_;refine aE (m0 _ _ _ _ _ _ 0 (bO 2 K T) (aY 2 (bN s)) _ (hh.aD (i:=1) rfl) (hh.aD (i:=0) rfl) (eT VZ _ _) (jH _) VZ VZ VZ) au.out rfl V0 ?_;rintro e_ w_ ⟨b17,rfl,hown_,hb_⟩;refine ⟨_,rfl, ?_⟩;rw [gF,cL hTb,YA,Wn] at hown_;replace hh:=(hh.aO (x:=.row _ _ _ _ _ _) hb_ hown_).sub (X1 [_] _);refine pQ ?_;refine bj (aI (az (ai ?_)));refine ⟨⟨i+1,_,_,T+bN s,_,VZ,rfl,hT2.symm,rfl,VZ,hb2,hh⟩,by show n-(i+1)<n-i;omega, ?_⟩;exact dF
  ·refine ah (sr (mI (mL (aF ?_))));refine Ku ?_;refine bq hh (fa _ _ _ (bO 2 K T) _ (hh.aD (i:=0) rfl) (eT VZ _ _) (hh.fm (i:=0) rfl) VZ) rfl ?_;intro w19 hh;rw [cL hTb];exact Ox
theorem Dw (a b:ByteArray) (w:World) (ha:a.size≤1000000000) (hb:b.size≤1000000000):
  Calls Tryz.prog 169 #[.string a,.string b] w fun e w'=>e=.returned (.string (sN (bN a*bN b)))∧Below w.heap.size w w':=by
 have hh:=Hp.start w;have h1:=fS a;have h2:=fS b;have hYl:bN b<2^(aY 2 (bN b)).length:=db _;have hXd:=jH (bN a);have hX:=gF (bN a);refine aj (N:=30) (l:=[.string a,.string b]) Tryz.func169 rfl rfl (by simp) ?_;refine sr (aS (aa (sr (mS ?_))));refine xD ?_;rintro e_ w10 ⟨A10,c10,rfl,hown_,hb_⟩;refine ⟨_,rfl, ?_⟩;replace hh:=hh.aO (x:=.row _ _ _ _ _ _) hb_ hown_;refine mS ?_;refine FJ ?_;rintro e_ w12 ⟨A12,c12,rfl,hown_,hb_⟩;refine ⟨_,rfl, ?_⟩;replace hh:=hh.aO (x:=.row _ _ _ _ _ _) hb_ hown_;generalize aY 2 (bN a)=xs at*;refine aL (aL (aa (sr (aL (aa (ah (sr (aI (aa (aq ?_))))))))));replace hh:=hh.cx 5 1;refine bz [7,8,13,14,15,16,17,18,19,20,21,22,23,24,25,26,27] 7 8
  (fun v j w'=>∃(i:Nat) (A:Option Addr) (c' P K:Nat),i≤xs.length∧j=.int .i64 i∧P=bD 2 (xs.take i)*bN b∧v=.slice A K c'∧K≤(aY 2 (bN b)).length+i∧P<2^K∧Hp w [.row A K c' 5 1 (gE (bO 2 K P)),.row A12 (aY 2 (bN b)).length c12 5 1 (gE (aY 2 (bN b))),.row A10 xs.length c10 5 1 (gE xs)] w')
  (fun _ j _=>xs.length-(intOf j).toNat) ?_ ?_
 ·exact ⟨0,none,0,0,0,V8 _,rfl,by simp [bD],rfl,VZ,by simp,hh⟩
 ·clear hh;rintro ρ' v j w' ⟨i,A,c',P,K,hi,rfl,hP,rfl,hK,hPb,hh⟩;by_cases hlt:i<xs.length
  ·obtain ⟨d,hd⟩:=al (l:=xs) (k:=i) VZ;have hd2:=oT hd;have hdw:=hXd.at_ hd;have hsn:=eL (B:=2) hd;obtain ⟨g,rfl⟩:=hh.bZ (i:=2) rfl VZ;by_cases h0:d=0
   ·subst h0;refine ah (sr (mI (mL (aF ?_))));refine kT ?_;refine fP ?_;refine Ce ?_;refine ct (aa (cF (ao (bF (ai (ak (mI ?_)))))));refine bj (aI (az (ai ?_)));refine ⟨⟨i+1,_,_,P,_,VZ,rfl,by rw [hsn,hP];simp,rfl,VZ,hPb,hh⟩,by show xs.length-(i+1)<xs.length-i;omega, ?_⟩;exact dF
   ·obtain rfl:d=1:=VZ;have hb2:P+bN b*2^i<2^(max K ((aY 2 (bN b)).length+i)+1):=by
     have h1:2^K≤2^max K ((aY 2 (bN b)).length+i):=WS VZ VZ;have h2:2^((aY 2 (bN b)).length+i)≤2^max K ((aY 2 (bN b)).length+i):=WS VZ VZ;have h3:bN b*2^i<2^(aY 2 (bN b)).length*2^i:=YE hYl (WQ VZ);rw [←Wy] at h3;rw [W0];omega
    refine ah (sr (mI (mL (aF ?_))));refine kT ?_;refine fP ?_;refine Ce ?_;refine ct (aa (cT (ak (mL (mL (mI ?_))))));refine aE (m0 _ _ _ _ _ _ i (bO 2 K P) (aY 2 (bN b)) _ (hh.aD (i:=0) rfl) (hh.aD (i:=1) rfl) (eT VZ _ _) (jH _) VZ VZ VZ) au.out rfl V0 ?_;rintro e_ w_ ⟨b27,rfl,hown_,hb_⟩;refine ⟨_,rfl, ?_⟩;rw [gF,cL hPb] at hown_;replace hh:=(hh.aO (x:=.row _ _ _ _ _ _) hb_ hown_).sub (.cons_cons _ (.cons _ (Xf _)));refine pQ ?_;refine bj (aI (az (ai ?_)));refine ⟨⟨i+1,_,_,_,_,VZ,rfl, ?_,rfl,VZ,hb2,hh⟩,by show xs.length-(i+1)<xs.length-i;omega, ?_⟩
    ·rw [hsn,hP,Yl,Wn,Wz (2^i)]
    ·exact dF
  ·rw [Wc VZ,hX] at hP;refine ah (sr (mI (mL (aF ?_))));refine Ku ?_;refine bq hh (fa _ _ _ (bO 2 K P) _ (hh.aD (i:=0) rfl) (eT VZ _ _) (hh.fm (i:=0) rfl) VZ) rfl ?_;intro w29 hh;rw [cL hPb,hP];exact BG
theorem K9 (X Y k:Nat) (hY:0<Y):X/2^k % Y=(if Y≤X/2^k % 2+2*(X/2^(k+1) % Y) then X/2^k % 2+2*(X/2^(k+1) % Y)-Y else X/2^k % 2+2*(X/2^(k+1) % Y))∧
  X/2^k/Y % 2=(if Y≤X/2^k % 2+2*(X/2^(k+1) % Y) then 1 else 0)∧X/2^k/Y/2=X/2^(k+1)/Y:=by
 have h1:=lJ X k;have hb:X/2^k % 2<2:=WB _ VZ;generalize X/2^k % 2=b at*;generalize X/2^k=Z at*;generalize X/2^(k+1)=V at*;have h2:=XT V Y;have h3:=WB V hY;generalize V/Y=q at*;generalize V % Y=r at*;have e:Z=(b+2*r)+Y*(2*q):=by rw [h1,←h2,W7,Zp];omega
 rw [e,XV,Xw _ _ hY];by_cases hc:Y≤b+2*r
 ·rw [V5 hc,V5 hc];have e2:b+2*r=(b+2*r-Y)+Y*1:=VZ;have h4:b+2*r-Y<Y:=VZ;have h5:(b+2*r)/Y=1:=by rw [e2,Xw _ _ hY,Xa h4]
  have h6:(b+2*r) % Y=b+2*r-Y:=by conv=>lhs;rw [e2,XV,WU h4]
  rw [h5,h6];omega
 ·rw [V6 hc,V6 hc,WU VZ,Xa VZ];omega
theorem o7 (a b:ByteArray) (w:World) (ha:a.size≤1000000000) (hb:b.size≤1000000000) (hb0:bN b≠0):
  Calls Tryz.prog 188 #[.string a,.string b] w fun e w'=>e=.returned (.tuple #[.string (sN (bN a/bN b)),.string (sN (bN a % bN b)),.bool true])∧Below w.heap.size w w':=by
 have hh:=Hp.start w;have h1:=fS a;have h2:=fS b;have hX:=gF (bN a);have hXd:=jH (bN a);have hXl:bN a<2^(aY 2 (bN a)).length:=db _;have hYp:0<(aY 2 (bN b)).length:=qJ hb0;have hget:∀k,k<(aY 2 (bN a)).length→(aY 2 (bN a))[k]?=some (bN a/2^k % 2):=fun k hk=>Ay VZ hk;refine aj (N:=52) (l:=[.string a,.string b]) Tryz.func188 rfl rfl (by simp) ?_;refine sr (aS (aS (aB (aa (sr (mS ?_))))));refine xD ?_;rintro e_ w13 ⟨A13,c13,rfl,hown_,hb_⟩;refine ⟨_,rfl, ?_⟩;replace hh:=hh.aO (x:=.row _ _ _ _ _ _) hb_ hown_;refine mS ?_;refine FJ ?_;rintro e_ w15 ⟨A15,c15,rfl,hown_,hb_⟩;refine ⟨_,rfl, ?_⟩;replace hh:=hh.aO (x:=.row _ _ _ _ _ _) hb_ hown_;refine aL (aL (aa (ah (sr (mL (aF ?_))))));refine ct (aa (cF (ao (ai (sr (mL (aF ?_)))))));refine gB hh rfl rfl rfl rfl a9.out aJ.out rfl VZ VZ V0 ?_;intro b21 w21 hh;refine aL (aa (sr (aL (aa (ah (sr (mL (aF ?_))))))));refine dQ (aI (aa (aq ?_)));rw [qm] at hh;generalize hxs:aY 2 (bN a)=xs at*;replace hh:=hh.cx 5 1;refine bz [10,11,25,26,27,28,29,30,31,32,33,34,35,36,37,38,39,40,41,42,43,44,45,46,47] 10 11
  (fun v j w'=>∃(k:Nat) (A:Option Addr) (c':Nat),k≤xs.length∧j=.int .i64 ((k:Int)-1)∧v=.slice A (aY 2 (bN a/2^k % bN b)).length c'∧Hp w [.row A (aY 2 (bN a/2^k % bN b)).length c' 5 1 (gE (aY 2 (bN a/2^k % bN b))),.row (some ⟨b21,0,none⟩) xs.length xs.length 5 1 (gE (List.replicate k 0++bO 2 (xs.length-k) (bN a/2^k/bN b))),.row A15 (aY 2 (bN b)).length c15 5 1 (gE (aY 2 (bN b))),.row A13 xs.length c13 5 1 (gE xs)] w')
  (fun _ j _=>(intOf j+1).toNat) ?_ ?_
 ·refine ⟨xs.length,none,0,V9 _,rfl, ?_, ?_⟩
  ·rw [Xa hXl,Nat.zero_mod,gp VZ];rfl
  ·rw [Xa hXl,Nat.zero_mod,gp VZ,Xc];simp only [bO,WJ];exact hh
 ·clear hh;rintro ρ' v j w' ⟨k,A,c',hk,rfl,rfl,hh⟩;by_cases h0:k=0
  ·subst h0;rw [YA,YG,Nat.sub_zero,Zl,Wd] at hh;rw [YA,YG];have hq:bN a/bN b<2^xs.length:=Xi (Yw _ _) hXl;have hrl:(aY 2 (bN a % bN b)).length≤(aY 2 (bN b)).length:=oC VZ (Nat.le_of_lt (WB _ VZ));refine ah (sr (mI ?_));refine dP (aa (cF (aZ (aC (aC (br (ai (sr (mL ?_)))))))));refine bq hh (fa _ _ _ (bO 2 xs.length (bN a/bN b)) _ (hh.aD (i:=1) rfl) (eT VZ _ _) (V9 _) VZ) rfl ?_;intro w49 hh;rw [cL hq];refine mL ?_;refine bq hh (fa _ _ _ (aY 2 (bN a % bN b)) _ (hh.aD (i:=0) rfl) (jH _) (hh.fm (i:=0) rfl) VZ) rfl ?_;intro w51 hh;rw [gF];refine aS (aS (aB (aa (av ?_))));refine Vn ?_;exact ⟨rfl,hh.below⟩
  ·obtain ⟨i,rfl⟩:∃i,k=i+1:=⟨k-1,VZ⟩;have hji:((i+1:Nat):Int)-1=(i:Int):=VZ;obtain ⟨d1,d2,d3⟩:=K9 (bN a) (bN b) i VZ;have hgi:=oT (hget i VZ);have hdw:bN a/2^i % 2<2:=WB _ VZ;have hrl:(aY 2 (bN a/2^(i+1) % bN b)).length≤(aY 2 (bN b)).length:=oC VZ (Nat.le_of_lt (WB _ VZ));have hqk:bO 2 (xs.length-i) (bN a/2^i/bN b)=(bN a/2^i/bN b % 2)::bO 2 (xs.length-(i+1)) (bN a/2^(i+1)/bN b):=by
    rw [show xs.length-i=(xs.length-(i+1))+1 by omega,bO,d3]
   rw [hji];obtain ⟨g,rfl⟩:=hh.bZ (i:=3) rfl VZ;refine ah (sr (mI ?_));refine dP (aa (cT (ao (ai (ah (aq (sr (mL (mI ?_)))))))));refine fP ?_;refine bX aJ.out rfl (hh.eK (i:=3) rfl (by first|assumption|(simp only [Wn];assumption))) V0 ?_;refine ub ?_;intro b33 w33 hh;refine mL ?_;refine cv hh (i:=0) rfl rfl rfl (hh.aD (i:=1) rfl) a9.out aJ.out rfl V0 (by first|rfl|exact dz _|exact cX _|exact bB _|exact bU NR.one _) VZ VZ V0 ?_;intro A35 c35 w35 hh;simp only [Wh] at hh;have e35:[Value.int .u8 ((bN a/2^i % 2:Nat):Int)]++gE (aY 2 (bN a/2^(i+1) % bN b))=gE ((bN a/2^i % 2)::aY 2 (bN a/2^(i+1) % bN b)):=rfl;rw [e35] at hh;generalize hR:bN a/2^(i+1) % bN b=R at*;generalize hbt:bN a/2^i % 2=bt at*;have hdg:Dg 2 (bt::aY 2 R):=Dg.cons hdw (jH _);have hcv:dX (bt::aY 2 R)=aY 2 (bt+2*R):=by rw [hU VZ hdg,bD,gF]
   have hll:(bt::aY 2 R).length=1+(aY 2 R).length:=by rw [WH];omega
   have hcl:=fF (bt::aY 2 R);refine bq hh (lS _ _ _ (bt::aY 2 R) _ (hh.aD (i:=0) rfl) (hh.fm (i:=0) rfl) VZ) rfl ?_;intro w36 hh;replace hh:=hh.Qy hll;rw [hcv] at hh hcl;rw [hcv];refine aL (aa (sr (mL (mL ?_))));refine bq hh (mJ _ _ _ _ _ _ (aY 2 (bt+2*R)) (aY 2 (bN b)) _ (hh.aD (i:=0) rfl) (hh.aD (i:=3) rfl) (jH _) (jH _) VZ VZ) rfl ?_;intro w39 hh;rw [gF,gF];by_cases hge:bN b≤bt+2*R
   ·have hc:0≤ld (bt+2*R) (bN b):=by unfold ld;rw [V6 VZ];split<;>omega
    rw [V5 hge] at d1 d2;have hml:bt+2*R-bN b<2^(aY 2 (bt+2*R)).length:=Xi (Nat.sub_le _ _) (db _);have hcm:dX (bO 2 (aY 2 (bt+2*R)).length (bt+2*R-bN b))=aY 2 (bt+2*R-bN b):=by rw [hU VZ (eT VZ _ _),cL hml]
    refine dP (aa (cT (sr (mL (mL ?_)))));refine aE (pY _ _ _ _ _ _ (aY 2 (bt+2*R)) (aY 2 (bN b)) _ (hh.aD (i:=0) rfl) (hh.aD (i:=3) rfl) (jH _) (jH _) VZ VZ (by rw [gF,gF];exact hge)) au.out rfl V0 ?_;rintro e_ w_ ⟨b43,rfl,hown_,hb_⟩;refine ⟨_,rfl, ?_⟩;replace hh:=hh.aO (x:=.row _ _ _ _ _ _) hb_ hown_;rw [gF,gF] at hh;refine bq hh (lS _ _ _ (bO 2 (aY 2 (bt+2*R)).length (bt+2*R-bN b)) _ (hh.aD (i:=0) rfl) (V9 _) VZ) rfl ?_;intro w44 hh;replace hh:=hh.Qy (aX _ _);rw [hcm] at hh;rw [hcm];have hql:(gE (List.replicate (i+1) 0++bO 2 (xs.length-(i+1)) (bN a/2^(i+1)/bN b))).length=xs.length:=by rw [cU,We,XD,aX];omega
    refine aL (aa (ak (mL (mI ?_))));refine fP ?_;refine cf hh (i:=3) (vs:=[_]) rfl rfl (cP rfl) rfl aJ.out rfl (by rw [hql];omega) rfl ?_;intro ws hh;simp only [Wh,WI] at hh;rw [Wn,cN (by rw [hql];omega)] at hh;have hset:(gE (List.replicate (i+1) 0++bO 2 (xs.length-(i+1)) (bN a/2^(i+1)/bN b))).set i (.int .u8 1)=gE (List.replicate i 0++bO 2 (xs.length-i) (bN a/2^i/bN b)):=by
     have:=qd (List.replicate (i+1) 0++bO 2 (xs.length-(i+1)) (bN a/2^(i+1)/bN b)) i 1;rw [hqk,d2,←Ga];exact this
    rw [hset] at hh;replace hh:=hh.sub (.cons_cons _ (.cons _ (.cons _ (Xf _))));refine xB ?_;refine dQ (aI (az (ai ?_)));exact OW
   ·have hc:¬0≤ld (bt+2*R) (bN b):=by rw [lK VZ];omega
    rw [V6 hge] at d1 d2;refine dP (aa (cF (ao (bF (ai (ak (mI ?_)))))));refine dQ (aI (az (ai ?_)));have hrep:List.replicate (i+1) 0++bO 2 (xs.length-(i+1)) (bN a/2^(i+1)/bN b)=List.replicate i 0++bO 2 (xs.length-i) (bN a/2^i/bN b):=by
     rw [hqk,d2,List.replicate_succ',WY];rfl
    rw [hrep] at hh;replace hh:=hh.sub (.cons_cons _ (.cons _ (Xf _)));exact OW
end Go.Proofs.YtolamocnngihpaaGreatDoor
