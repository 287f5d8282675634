/- Lemmas for bernBacks, part 4. -/
import Derived.Test.YtolamocnngihpaaGreatDoorZ3
namespace Go.Proofs.YtolamocnngihpaaGreatDoor
variable {N b c c' cy j k m n ny:Nat}{ad:Addr}{w w0:World}
open Go.RowKit
theorem jd (A:Option Addr) (n c:Nat) (xs:List Nat) (w:World) (hx:Sl w A n 1 (dF xs)) (hc:n≤c) (hn:n≤1000000000000):
  Calls Tryz.prog 195 #[.slice A n c] w fun e w'=>e=.returned (.slice A (eu xs).length c)∧Below w.heap.size w w':=by
 have hlen:xs.length=n:=by have:=hx.1;rw [bq] at this;omega
 have hh:=Hp.start w;refine ak (N:=21) (l:=[.slice A n c]) Tryz.func195 rfl rfl (by simp) ?_;refine sr (aL (aa (ai (av ?_))));refine aT [0,3,4,5,6,7,8,9,10,11,12,13,14,15,16,17,18,19] 0
  (fun v w'=>∃k:Nat,k≤n∧v=.slice A k c∧eu (xs.take k)=eu xs∧w'=w)
  (fun v _=>lenOf v) ?_ ?_
 ·exact ⟨n,YE _,rfl,by rw [YG Yv],rfl⟩
 ·rintro ρ' v w' ⟨k,hk,rfl,hcut,rfl⟩;by_cases h0:k=0
  ·subst h0;refine ai (sr (mL (aK ?_)));refine bT (mB ?_);refine gS (gS (gS (gS (gS ?_))));refine jG ?_;refine gS ?_;refine dX ?_;refine aa (cF (a6 (aH (aH (bB (aj (sr (mL (aL (aa (ay ?_)))))))))));refine dh ?_;rw [←hcut];exact ⟨rfl,hh.below⟩
  ·obtain ⟨j,rfl⟩:∃j,k=j+1:=⟨k-1,Yv⟩;obtain ⟨d,hd⟩:=ao (l:=xs) (k:=j) Yv;obtain ⟨ad,rfl,hr⟩:=hx.at_ Yv;have hd2:=eX hd;rw [aC hd] at hcut;by_cases hz:d=0
   ·subst hz;rw [wY] at hcut;refine ai (sr (mL (aK ?_)));refine bT (mB (gT (mL (gT (mL (gT (aK (gT ?_))))))));refine eP (gT ?_);refine lW ?_;refine gT ?_;refine iD ?_;refine gT ?_;refine di ?_;refine fG ?_;refine aa (cT (au (aj (av (ar (mL (mL (aK ?_))))))));refine eP ?_;refine qT (h:=j) bo.out aU.size rfl rfl Yv Yv Yw ?_;refine aL (aE (bM (aj ?_)));refine ⟨⟨j,Yv,rfl,hcut,rfl⟩,by show j<j+1;omega, ?_⟩;exact dO
   ·rw [xS hz] at hcut;refine ai (sr (mL (aK ?_)));refine bT (mB (gT (mL (gT (mL (gT (aK (gT ?_))))))));refine eP (gT ?_);refine lW ?_;refine gT ?_;refine iD ?_;refine gT ?_;refine di ?_;refine fG ?_;refine aa (cF (a6 (aH (aH (bB (aj (sr (mL (aL (aa (ay ?_)))))))))));exact Rx
theorem fq {B:Nat}{l:List Nat}{i:Nat} (h:l[i]?=some c):bR B (l.take (i+1))=bR B (l.take i)+B^i*c:=by
 have hi:=(YQ.1 h).1;rw [aC h,fu,YW,ZB Yv];simp [bR]
theorem Hp.Il {H:List HE}{A:Option Addr}{t:TypeId}{xs:List Nat} (h:Hp w0 (.row A n c t 1 (dF xs)::H) w) (hl:xs.length=n):Hp w0 (.row A (eu xs).length c t 1 (dF (eu xs))::H) w:=by
 have h1:=gi xs;have h2:=h.E3 (k:=(eu xs).length) Yv;rw [YX,←yT,←kF] at h2;exact h2
theorem Jg (a:ByteArray) (w:World) (ha:a.size≤100000000000):
  Calls Tryz.prog 161 #[.string a] w fun e w'=>∃b c,e=.returned (.slice (some ⟨b,0,none⟩) (a9 18446744073709551616 (bn a.data.toList)).length c)∧w'.ownsRow w.heap.size 151 1 (.slice (some ⟨b,0,none⟩) (a9 18446744073709551616 (bn a.data.toList)).length c) (a9 18446744073709551616 (bn a.data.toList)).length (dF (a9 18446744073709551616 (bn a.data.toList)))∧Below w.heap.size w w':=by
 have hsz:=dP a;have hh:=Hp.start w;refine ak (N:=39) (l:=[.string a]) Tryz.func161 rfl rfl (by simp) ?_;refine sr (aL (aa (sr (mS ?_))));refine bP bo.out rfl Yw ?_;refine bm ?_;refine qd ?_;refine gE (n:=(a.size+7)/8) hh rfl rfl Yv Yv bo.out aU.out rfl Yv Yv Yw ?_;intro b10 w10 hh;refine aL (aa (ai (sr (mS ?_))));refine bP bo.out rfl Yw ?_;refine mI (aa (av ?_));rw [rV] at hh;refine aT [4,5,13,14,15,16,17,18,19,20,21,22,23,24,25,26,27,28,29,30,31,32,33,34,35,36] 13
  (fun v w'=>∃i:Nat,i≤a.size∧v=.int .i64 i∧Hp w [.row (some ⟨b10,0,none⟩) ((a.size+7)/8) ((a.size+7)/8) 151 1 (dF (ct 18446744073709551616 ((a.size+7)/8) (bR 256 ((Ei a.data.toList).take i))))] w')
  (fun v _=>a.size-(intOf v).toNat) ?_ ?_
 ·exact ⟨0,YD _,rfl,by rw [ZS,bR,sQ];exact hh⟩
 ·clear hh;rintro ρ' v w' ⟨i,hi,rfl,hh⟩;by_cases hlt:i<a.size
  ·obtain ⟨c,hc⟩:=ao (l:=a.data.toList) (k:=((a.size:Int)-1-i).toNat) Yv;have hlo:=KA (s:=a.data.toList) (i:=i) (c:=c) Yv (by rw [←hc];congr 1;omega);have hc8:=c.toNat_lt;have hn:=jv ((Ab a.data.toList).take i);rw [YW,qB,ZB Yv] at hn;obtain ⟨s1,s2,s3⟩:=PC (k:=(a.size+7)/8) (bR 256 ((Ei a.data.toList).take i)) hn hc8 Yv;have hg:=eX (jz (B:=18446744073709551616) ((a.size+7)/8) (bR 256 ((Ei a.data.toList).take i)) (i/8) Yv);have e1:((i:Int) % 8*8).toNat=i % 8*8:=Yv;refine sr ?_;refine a8 (aa (ai (cT (au (aj (ai (av (sr (mI (aI (aa (sr (mS ?_)))))))))))));refine bP bo.out rfl Yw ?_;refine eP (mI ?_);refine eP (aI (aa ?_));refine aW 13 [[(3,none)],[(4,none)],[(22,some 1)],[(21,some 0),(23,some 2)],[(24,some 3)],[(0,none)],[(5,none)],[(26,some 5),(27,some 6)],[(28,some 7)],[(4,none)],[(30,some 9)],[(31,some 10)],[(29,some 8),(32,some 11)]] [(12,33),(11,32),(10,31),(9,30),(8,29),(7,28),(6,27),(5,26),(4,25),(3,24),(2,23),(1,22),(0,21)] hh mixed Yx ?_;refine eQ ?_;refine cZ ?_
   refine bu (i:=2) (fun ρ1 w1 hj hR=>s8 (show ρ1 22=Value.int _ _ from hR.1) rfl Yv Yv Yv) ?_;refine N2 (i/8) ?_;refine bu (i:=4) (fun ρ1 w1 hj hR=>jT aU.out (show ρ1 24=Value.pointer _ from hR.1) (hj.hp.fU (i:=0) rfl (by first|assumption|(simp only [YX];assumption)))) ?_;refine Wj ?_;refine cZ ?_;refine bu (i:=7) (fun ρ1 w1 hj hR=>lG bo.out (show ρ1 26=Value.string _ from hR.1) (show ρ1 27=Value.int _ _ from hR.2.1) Yv (by assumption)) ?_;refine bu (i:=8) (fun ρ1 w1 hj hR=>wE bo.out bo.out (show ρ1 28=Value.int _ _ from hR.1) (by first|assumption|omega)) ?_;refine cZ ?_;refine bu (i:=10) (fun ρ1 w1 hj hR=>qD (show ρ1 30=Value.int _ _ from hR.1) rfl Yv Yv) ?_;refine V3 ?_;refine bu (i:=12) (fun ρ1 w1 hj hR=>A5 (show ρ1 29=Value.int _ _ from hR.1) (show ρ1 32=Value.int _ _ from hR.2.1) Yv) ?_;refine aM ?_;intro f W hJ hV;have hb_6:=hJ.bl;obtain ⟨v33,v32,v31,v30,v29,v28,v27,v26,v25,v24,v23,v22,v21,_⟩:=hV;replace hh:=hJ.hp;refine aQ (bg (ae v33 (ae v32 (ae v31 (ae v30 (ae v29 (ae v28 (ae v27 (ae v26 (ae v25 (ae v24 (ae v23 (ae v22 (ae v21 aR)))))))))))))) ?_;dsimp only [bO];clear hJ;refine Ic ?_
   refine dn (k:=i/8) bo.out aU.size rfl rfl Yv Yv Yw ?_;refine Mh ?_;intro ws hh;simp only [YM] at hh;rw [e1,Zk s2,Gb s1,dp (by rw [bq,a7];omega),YX,gR,s3,←fq hlo] at hh;refine gN ?_;refine bm (mI (aE (aj ?_)));refine ⟨⟨i+1,Yv,rfl,hh⟩,by show a.size-(i+1)<a.size-i;omega, ?_⟩;exact dO
  ·refine sr ?_;refine qb ?_;rw [YG (by rw [qB];omega)] at hh;refine bA hh (jd _ _ _ (ct 18446744073709551616 ((a.size+7)/8) (bn a.data.toList)) _ (hh.aG (i:=0) rfl) (YE _) Yv) rfl ?_;intro w38 hh;refine aL (aa (ay ?_));refine dh ?_;have hbd:bn a.data.toList<18446744073709551616^((a.size+7)/8):=by
    refine ZC (Ri _) ?_;rw [←hsz,show (256:Nat)=2^8 from rfl,show (18446744073709551616:Nat)=2^64 from rfl,←Zm,←Zm];exact Zf Yv Yv
   have hd:eu (ct 18446744073709551616 ((a.size+7)/8) (bn a.data.toList))=a9 18446744073709551616 (bn a.data.toList):=by
    exact KY
   have h1:=(Hp.Il (xs:=ct 18446744073709551616 ((a.size+7)/8) (bn a.data.toList)) hh (a7 _ _)).at_ (i:=0) rfl;exact HX
theorem Sl.Tr {A:Option Addr}{xs:List Nat} (h:Sl w A n 1 (dF xs)) (hk:k≤n):Sl w A k 1 (dF (xs.take k)):=by
 have hl:=h.1;rw [bq] at hl;refine ⟨by rw [bq,YW];omega,fun h0=> ?_⟩;obtain ⟨ad,he,hr⟩:=h.2 Yv;exact ⟨ad,he,by rw [yT];exact hr.take k⟩
theorem Sl.z4 {A:Option Addr}{xs:List Nat} (h:Sl w A n 1 (dF xs)):Sl w A (eu xs).length 1 (dF (eu xs)):=by
 have hl:=h.1;rw [bq] at hl;have:=gi xs;have h2:=h.Tr (k:=(eu xs).length) Yv;rwa [←kF] at h2
theorem EM {xs:List Nat} (h:Dg 18446744073709551616 xs):bX (bR 18446744073709551616 xs)≤64*xs.length:=by
 apply eb;rw [Zm];exact jv h
theorem vy (A:Option Addr) (n c:Nat) (xs:List Nat) (w:World) (hx:Sl w A n 1 (dF xs)) (hd:Dg 18446744073709551616 xs) (hc:n≤c) (hn:n≤100000000000):
  Calls Tryz.prog 198 #[.slice A n c] w fun e w'=>e=.returned (.int .i64 (bX (bR 18446744073709551616 xs)))∧Below w.heap.size w w':=by
 have hl:=hx.1;rw [bq] at hl;have hcl:=gi xs;have hcx:=hx.z4;have hcd:=hd.cut;have hlast:=yu xs;rw [←mK];generalize hcs:eu xs=cs at*;have hh:=Hp.start w;refine ak (N:=19) (l:=[.slice A n c]) Tryz.func198 rfl rfl (by simp) ?_;refine sr (aI (aa (sr (mL ?_))));refine bA hh (jd _ _ _ xs _ hx hc Yv) rfl ?_;intro w4 hh;rw [hcs];by_cases h0:cs.length=0
 ·refine aL (aa (ai (sr (mL (aK ?_)))));refine x6 ?_;refine dh ?_;have:cs=[]:=ZO h0;subst this;exact ⟨by rw [bR,mJ];rfl,hh.below⟩
 ·obtain ⟨ad,rfl,hr⟩:=hcx.at_ Yv;obtain ⟨d,hd⟩:=ao (l:=cs) (k:=cs.length-1) Yv;have hd2:=eX hd;have hd3:=hcd.at_ hd;have e1:cs.take (cs.length-1)++[d]=cs:=by rw [←aC hd,YG Yv]
  have hnz:d≠0:=by
   intro h;subst h;apply hlast;rw [List.getLast?_eq_getElem?];exact hd
  have hb:=Lx (B:=18446744073709551616) (b:=64) (m:=cs.length-1) Yw (hcd.take (cs.length-1)) (by rw [YW];omega) hnz;rw [e1] at hb;have hb2:bX d≤64:=eb (by simpa using hd3);refine aL (aa (ai (sr (mL (aK ?_)))));refine di (aa (cF (au (aj (sr (mL (aK ?_)))))));refine mulC (mL (mL (aK ?_)));refine eP ?_;refine dm (k:=cs.length-1) bo.out aU.size rfl rfl Yv Yv Yw ?_;refine iD ?_;refine bA hh (El _ _ hd3) rfl ?_;intro w17 hh;refine eP (aI (aa (ay ?_)));refine dh ?_;refine ⟨?_,hh.below⟩;congr 2;omega
theorem EX (N:Nat):(a9 256 N).length=(bX N+7)/8:=by
 have h256:(256:Nat)=2^8:=rfl;have h1:(a9 256 N).length≤(bX N+7)/8:=by
  apply jh Yv;refine ZC (dD N) ?_;rw [h256,←Zm];exact Zf Yv Yv
 have h2:=rA (B:=256) Yv N;have h3:bX N≤8*(a9 256 N).length:=by
  apply eb;rw [Zm];exact h2
 omega
theorem mv {B:Nat} (i N:Nat):ct B (i+1) N=ct B i N++[N/B^i % B]:=by
 apply ZN;intro j
 rcases Nat.lt_trichotomy j i with h|h|h
 ·rw [jz _ _ _ Yv,aaM (by rw [a7];exact h),jz _ _ _ h]
 ·subst h;rw [jz _ _ _ Yv,ZQ (by rw [a7];omega),a7];simp
 ·rw [Y7 (by rw [a7];omega),Y7 (by rw [YK,a7];simp;omega)]
theorem Hx {R:List Nat}{x:Nat}:(List.replicate (k+1) 0++R).set k x=List.replicate k 0++(x::R):=by
 rw [List.replicate_succ',Ze,aaI _ _ (by simp)];simp
theorem iV (A:Option Addr) (n c:Nat) (xs:List Nat) (w:World) (hx:Sl w A n 1 (dF xs)) (hd:Dg 18446744073709551616 xs) (hc:n≤c) (hn:n≤10000000000):
  Calls Tryz.prog 167 #[.slice A n c] w fun e w'=>e=.returned (.string (str (sb (bR 18446744073709551616 xs))))∧Below w.heap.size w w':=by
 have hl:=hx.1;rw [bq] at hl;have hcl:=gi xs;have hcx:=hx.z4;have hcd:=hd.cut;have hbl:=EM hcd;have hcan:=jg Yv hd;have hlen:=EX (bR 18446744073709551616 xs);rw [mK] at hbl;have hh:=Hp.start w;refine ak (N:=37) (l:=[.slice A n c]) Tryz.func167 rfl rfl (by simp) ?_;refine sr (aS (aa (sr (mL ?_))));refine bA hh (jd _ _ _ xs _ hx hc Yv) rfl ?_;intro w7 hh;rw [hcan] at hcl hcx hcd hbl;rw [hcan];refine aL (aa (sr (mL ?_)));refine bA hh (vy _ _ _ (a9 18446744073709551616 (bR 18446744073709551616 xs)) _ (hcx.ext hh.below) hcd Yv Yv) rfl ?_;intro w9 hh;rw [eB Yv];generalize bR 18446744073709551616 xs=M at*;refine bm ?_;refine qd ?_;refine aI (aa (sr (mI ?_)));refine gE (n:=(bX M+7)/8) hh rfl rfl Yv Yv bo.out aU.out rfl Yv Yv Yw ?_;intro b13 w13 hh;refine aL (aa (ai (sr (mI (mI (aa (av ?_)))))));rw [sa] at hh;refine aT [5,15,16,17,18,19,20,21,22,23,24,25,26,27,28,29,30,31,32,33,34] 15
  (fun v w'=>∃i:Nat,i≤(bX M+7)/8∧v=.int .i64 i∧Hp w [.row (some ⟨b13,0,none⟩) ((bX M+7)/8) ((bX M+7)/8) 5 1 (ij (List.replicate ((bX M+7)/8-i) 0++(ct 256 i M).reverse))] w')
  (fun v _=>(bX M+7)/8-(intOf v).toNat) ?_ ?_
 ·exact ⟨0,YD _,rfl,by simpa [ct] using hh⟩
 ·clear hh;rintro ρ' v w' ⟨i,hi,rfl,hh⟩;by_cases hlt:i<(bX M+7)/8
  ·obtain ⟨ad,rfl,hr⟩:=hcx.at_ Yv;have hg:=CH (B:=18446744073709551616) (n:=M) (i:=i/8) Yv Yv;have hg2:=eX hg;have e1:((i:Int) % 8*8).toNat=i % 8*8:=Yv;refine sr ?_;refine a8 (aa (ai (cT (au (aj (ai (av (sr (mI (aI (aa (ar (mL (mI ?_))))))))))))));refine eP (mI ?_);refine eP (mL (mI ?_));refine qd ?_;refine dm (k:=i/8) bo.out aU.size rfl rfl Yv Yv Yw ?_;refine iD ?_;refine mI ?_;refine ua ?_;refine mulC ?_;refine Ge rfl rfl Yv Yw ?_;refine PF bo.out bo.out rfl Yw ?_;refine dn (k:=(bX M+7)/8-1-i) bo.out aU.size rfl rfl Yv Yv Yw ?_;refine cA hh (i:=0) (vs:=[_]) rfl rfl (dk rfl) rfl aU.out rfl (by rw [dq,YK,Zs,ZX,a7];omega) rfl ?_;intro ws hh;simp only [YM] at hh;obtain ⟨k,hk⟩:∃k,(bX M+7)/8-i=k+1:=⟨(bX M+7)/8-i-1,Yv⟩;rw [e1,J4,YX,dp (by rw [dq,YK,Zs,ZX,a7];omega),sx,hk,show (bX M+7)/8-1-i=k by omega,Hx,←List.reverse_concat,←mv] at hh;refine gN ?_;refine bm (mI (aE (aj ?_)))
   refine ⟨⟨i+1,Yv,rfl,by rw [show (bX M+7)/8-(i+1)=k by omega];exact hh⟩,by show (bX M+7)/8-(i+1)<(bX M+7)/8-i;omega, ?_⟩;exact dO
  ·obtain rfl:i=(bX M+7)/8:=Yv;have hfin:ij (List.replicate ((bX M+7)/8-(bX M+7)/8) 0++(ct 256 ((bX M+7)/8) M).reverse)=mM (sb M):=by
    rw [Zu,abB,YH,←hlen];exact UW
   rw [hfin] at hh;refine sr ?_;refine qb ?_;exact Rv
theorem pZ (A:Option Addr) (n c m:Nat) (xs:List Nat) (w:World) (hx:Sl w A n 1 (dF xs)) (hn:n≤10000000000) (hm:m≤10000000000):
  Calls Tryz.prog 209 #[.slice A n c,.int .i64 m] w fun e w'=>∃b,e=.returned (.slice (some ⟨b,0,none⟩) (max m n) (max m n))∧w'.ownsRow w.heap.size 151 1 (.slice (some ⟨b,0,none⟩) (max m n) (max m n)) (max m n) (dF (xs++List.replicate (max m n-n) 0))∧Below w.heap.size w w':=by
 have hl:=hx.1;rw [bq] at hl;have hh:=Hp.start w;refine ak (N:=15) (l:=[.slice A n c,.int .i64 m]) Tryz.func209 rfl rfl (by simp) ?_;refine sr (aL (aa (sr (mI (mL (aK ?_))))));refine lL rfl rfl Yw ?_;refine gE (n:=max m n) hh rfl rfl Yv Yv bo.out aU.out rfl Yv Yv Yw ?_;intro b10 w10 hh;refine aL (aa (sr (mL (mL ?_))));rw [rV] at hh;refine PA hh (i:=0) (o:=0) rfl rfl rfl (hx.ext hh.below) bo.out aU.out (by rw [bq,ZX];omega) (cR _) Yw ?_;intro w13 hh;skip;have e1:cM (dF (List.replicate (max m n) 0)) 0 ((dF xs).take (min n (max m n)*1))=dF (xs++List.replicate (max m n-n) 0):=by
  rw [YG (by rw [bq];omega),cM,ZS,YH,bq,←xV,←D2,List.drop_replicate];congr 3;omega
 simp only [YM,e1] at hh;refine aa (sr (mL (aL (aa (ay ?_)))));refine dh ?_;exact ⟨_,rfl,hh.at_ (i:=0) rfl,hh.below⟩
theorem FP (A B:Option Addr) (n c m c':Nat) (xs ys:List Nat) (w:World) (hx:Sl w A n 1 (dF xs)) (hy:Sl w B m 1 (dF ys)) (hdx:Dg 18446744073709551616 xs) (hdy:Dg 18446744073709551616 ys) (hc:n≤c) (hc':m≤c') (hn:n≤100000000000) (hm:m≤100000000000):
  Calls Tryz.prog 212 #[.slice A n c,.slice B m c'] w fun e w'=>e=.returned (.int .i64 (mg (bR 18446744073709551616 xs) (bR 18446744073709551616 ys)))∧Below w.heap.size w w':=by
 have hlx:=hx.1;have hly:=hy.1;rw [bq] at hlx hly;have hcx:=hx.z4;have hcy:=hy.z4;have hxl:=gi xs;have hyl:=gi ys;have hx2:=Can.cut hdx;have hy2:=Can.cut hdy;have hh:=Hp.start w;rw [←mK xs,←mK ys];refine ak (N:=47) (l:=[.slice A n c,.slice B m c']) Tryz.func212 rfl rfl (by simp) ?_;refine sr (aI (aa (sr (mL ?_))));refine bA hh (jd _ _ _ xs _ hx hc Yv) rfl ?_;intro w7 hh;refine mL ?_;refine bA hh (jd _ _ _ ys _ (hy.ext hh.below) hc' Yv) rfl ?_;intro w9 hh;generalize eu xs=us at*;generalize eu ys=vs at*;by_cases hlen:us.length=vs.length
 ·refine aL (aL (aa (ai (sr (mL (aK (mL (aK ?_))))))));refine db (aa (cF (au (aj (ai (sr (mL (aK ?_))))))));refine eP (aI (aa (av ?_)));refine aT [4,5,23,24,25,26,27,28,29,30,31,32,33,34,35,36,37,38,39,40,41,42,43,44,45,46] 5
   (fun v w'=>∃k:Nat,k≤us.length∧v=.int .i64 ((k:Int)-1)∧us.drop k=vs.drop k∧Hp w [] w')
   (fun v _=>(intOf v+1).toNat) ?_ ?_
  ·exact ⟨us.length,YE _,rfl,by rw [List.drop_length,List.drop_eq_nil_of_le Yv],hh⟩
  ·clear hh;rintro ρ' v w' ⟨k,hk,rfl,hd,hh⟩;by_cases h0:k=0
   ·subst h0;refine ai (sr (mI ?_));refine ej (aa (cF (a6 (aH (aH (bB (aj (sr (aI (aa (ay ?_)))))))))));refine dh ?_;rw [abt,abt] at hd;rw [hd];exact ⟨by rw [GI rfl],hh.below⟩
   ·obtain ⟨j,rfl⟩:∃j,k=j+1:=⟨k-1,Yv⟩;obtain ⟨x,hxj⟩:=ao (l:=us) (k:=j) Yv;obtain ⟨y,hyj⟩:=ao (l:=vs) (k:=j) Yv;obtain ⟨ad,rfl,hr⟩:=hcx.at_ Yv;obtain ⟨ad2,rfl,hs⟩:=hcy.at_ Yv;have hx3:=eX hxj;have hy3:=eX hyj;by_cases hlt:x<y
    ·have hf:=yD hx2.1 hxj hyj hd hlt;refine ai (sr (mI ?_));refine KJ ?_;refine LX ?_;refine eQ ?_;refine cZ ?_;refine jA (j) ?_;refine C6 ?_;refine eQ ?_;refine cZ ?_;refine jA (j) ?_;refine BA ?_;refine aM ?_;intro f W hJ hV;have hb_9:=hJ.bl;obtain ⟨v35,v34,v33,v32,v31,v30,v29,v28,_⟩:=hV;replace hh:=hJ.hp;refine MG ?_;dsimp only [bO];clear hJ;refine a8 (aB (aa (cT (sr (aI (aa (ay (cm (cm (aN (aN (cm (aN ?_)))))))))))));refine dh ?_;exact ⟨by rw [np hf],hh.below⟩
    ·by_cases hgt:y<x
     ·have hf:=yD hy2.1 hyj hxj hd.symm hgt;refine ai (sr (mI ?_));refine KJ ?_;refine LX ?_;refine eQ ?_;refine cZ ?_;refine jA (j) ?_;refine C6 ?_;refine eQ ?_;refine cZ ?_;refine jA (j) ?_;refine BA ?_;refine aM ?_;intro f W hJ hV;have hb_9:=hJ.bl;obtain ⟨v35,v34,v33,v32,v31,v30,v29,v28,_⟩:=hV;replace hh:=hJ.hp;refine MG ?_;dsimp only [bO];clear hJ;refine a8 (aB (aa (cF (ai ?_))));refine R1 ?_;refine eQ ?_;refine cZ ?_;refine jA (j) ?_;refine C6 ?_;refine eQ ?_;refine cZ ?_;refine jA (j) ?_;refine BA ?_;refine aM ?_;intro f W hJ hV;have hb_11:=hJ.bl;obtain ⟨v45,v44,v43,v42,v41,v40,v39,v38,_⟩:=hV;replace hh:=hJ.hp;refine Rh ?_;dsimp only [bO];clear hJ;refine bT (aB (aa (cT (sr (aI (aa (ay (cm (cm (aN (aN (cm (aN ?_)))))))))))));refine dh ?_;exact ⟨by rw [zV hf],hh.below⟩
     ·refine ai (sr (mI ?_));refine KJ ?_;refine LX ?_;refine eQ ?_;refine cZ ?_;refine jA (j) ?_;refine C6 ?_;refine eQ ?_;refine cZ ?_;refine jA (j) ?_;refine BA ?_;refine aM ?_;intro f W hJ hV;have hb_9:=hJ.bl;obtain ⟨v35,v34,v33,v32,v31,v30,v29,v28,_⟩:=hV;replace hh:=hJ.hp;refine MG ?_;dsimp only [bO];clear hJ;refine a8 (aB (aa (cF (ai ?_))));refine R1 ?_;refine eQ ?_;refine cZ ?_;refine jA (j) ?_;refine C6 ?_;refine eQ ?_;refine cZ ?_;refine jA (j) ?_;refine BA ?_;refine aM ?_;intro f W hJ hV;have hb_11:=hJ.bl;obtain ⟨v45,v44,v43,v42,v41,v40,v39,v38,_⟩:=hV;replace hh:=hJ.hp;refine Rh ?_;dsimp only [bO];clear hJ;refine bT (aB (aa (cF (au (bM (bM (aj (ar (mI ?_)))))))));refine eP (aI (aE (aj ?_)));refine ⟨⟨j,Yv,by show Value.int _ _=Value.int _ _;congr 1;omega,Bd hxj hyj hd Yv,hh⟩,by show ((((j+1:Nat):Int)-1-1)+1).toNat<((((j+1:Nat):Int)-1)+1).toNat;omega, ?_⟩;exact dO
 ·by_cases hlt:us.length<vs.length
  ·have hf:bR 18446744073709551616 us<bR 18446744073709551616 vs:=by
    refine abu fun h=> ?_;have:=hy2.xm hx2 Yv h;omega
   refine aL (aL (aa (ai (sr (mL (aK (mL (aK ?_))))))));refine db (aa (cT (ai (sr (mL (aK (mL (aK ?_))))))));refine a8 (aa (cT (sr (aI (aa (ay (aN (aN ?_))))))));refine dh ?_;exact ⟨by rw [np hf],hh.below⟩
  ·have hf:bR 18446744073709551616 vs<bR 18446744073709551616 us:=by
    refine abu fun h=> ?_;have:=hx2.xm hy2 Yv h;omega
   refine aL (aL (aa (ai (sr (mL (aK (mL (aK ?_))))))));refine db (aa (cT (ai (sr (mL (aK (mL (aK ?_))))))));refine a8 (aa (cF (au (aj (sr (aI (aa (ay (aN ?_)))))))));refine dh ?_;exact ⟨by rw [zV hf],hh.below⟩
theorem UO {y:Nat} (hy:y<18446744073709551616) (hm:m<18446744073709551616):y*m≤340282366920938463426481119284349108225:=ZV (by omega:y≤18446744073709551615) (by omega:m≤18446744073709551615)
theorem yq {x y P:Nat} (hx:x<18446744073709551616) (hc:c<18446744073709551616) (hP:P≤340282366920938463426481119284349108225) (he:P=y*m):
  (x+(P % 18446744073709551616+c+0) % 18446744073709551616+0) % 18446744073709551616=(x+y*m+c) % 18446744073709551616∧((P/18446744073709551616+(P % 18446744073709551616+c+0)/18446744073709551616) % 18446744073709551616+(x+(P % 18446744073709551616+c+0) % 18446744073709551616+0)/18446744073709551616) % 18446744073709551616=(x+y*m+c)/18446744073709551616∧(x+y*m+c)/18446744073709551616<18446744073709551616:=by
 rw [←he];omega
theorem Dt {H:List HE}{M C:Nat}{Y:Option Addr} (pre xs post ys:List Nat) (w:World) (hh:Hp w0 (.row (some ⟨b,0,none⟩) M C 151 1 (dF (pre++xs++post))::H) w)
  (hy:∀w1 cs,Hp w0 (.row (some ⟨b,0,none⟩) M C 151 1 cs::H) w1→Sl w1 Y ny 1 (dF ys)) (hxd:Dg 18446744073709551616 xs) (hyd:Dg 18446744073709551616 ys) (hm:m<18446744073709551616) (hM:xs.length≤100000000000) (hny:ny≤100000000000):
  Calls Tryz.prog 208 #[.slice (some ⟨b,pre.length,none⟩) xs.length c',.slice Y ny cy,.int .u64 (m:Int)] w fun e w'=>e=.returned (.tuple #[])∧Hp w0 (.row (some ⟨b,0,none⟩) M C 151 1 (dF (pre++iY 18446744073709551616 xs ys m 0++post))::H) w':=by
 have hly:=(hy _ _ hh).1;rw [bq] at hly;refine ak (N:=56) (l:=[.slice (some ⟨b,pre.length,none⟩) xs.length c',.slice Y ny cy,.int .u64 (m:Int)]) Tryz.func208 rfl rfl (by simp) ?_;refine sr (aI (aa (sr (mL (aK (mI (aa (av ?_))))))));refine bC [6,7,8,9,10,11,14,15,16,17,18,19,20,21,22,23,24,25,26,27,28,29,30,31,32,33,34,35,36,37,38,39,40,41,42,43,44,45,46,47,48,49,50,51,52,53,54,55] 6 14
  (fun c i w'=>∃(done rest:List Nat) (cr:Nat),done.length+rest.length=xs.length∧i=.int .i64 done.length∧c=.int .u64 (cr:Int)∧cr<18446744073709551616∧Dg 18446744073709551616 rest∧done++iY 18446744073709551616 rest (ys.drop done.length) m cr=iY 18446744073709551616 xs ys m 0∧Hp w0 (.row (some ⟨b,0,none⟩) M C 151 1 (dF (pre++(done++rest)++post))::H) w')
  (fun _ i _=>xs.length-(intOf i).toNat) ?_ ?_
 ·exact ⟨[],xs,0,by simp,rfl,rfl,Yv,hxd,rfl,hh⟩
 ·clear hh;rintro ρ' c i w' ⟨done,rest,cr,hlen,rfl,rfl,hcr,hrd,heq,hh⟩;by_cases hlt:done.length<xs.length
  ·obtain ⟨x,r,rfl⟩:∃x r,rest=x::r:=by
    exact MB
   have hx:=hrd.head;have hg:=eX (AY (pre:=pre) (done:=done) (r:=r) (post:=post) (x:=x));have hlr:done.length+(r.length+1)=xs.length:=by simpa using hlen
   simp only [iY,tail_drop,vV] at heq;by_cases hiy:done.length<ny
   ·obtain ⟨y,hyk⟩:=ao (l:=ys) (k:=done.length) Yv;obtain ⟨ad,rfl,_⟩:=(hy _ _ hh).at_ Yv;rw [hyk,ZY] at heq;have hyw:=hyd.at_ hyk;refine sr ?_;refine yB ?_;refine a8 (aa (cT (ar (mL (mI ?_)))));refine NB ?_;refine cv aU.out rfl ((hy _ _ hh).TE hyk) Yw ?_;refine aI (aa (sr (mI (mI ?_))));obtain ⟨p1,p2,p3⟩:=yq (y:=y) (m:=m) hx hcr (UO hyw hm) rfl;refine bA hh (tw y m _ hyw hm) rfl ?_;intro w28 hh;refine mT ?_;refine dx ?_;refine dx ?_;refine aI (aI (aa (sr (mI (mI ?_)))));refine lX (kI (y*m % 18446744073709551616) cr 0 Yv _) (az (dk rfl) (az (dk rfl) (az rfl bf))) Yw ?_;refine mT ?_;refine dx ?_;refine dx ?_;refine aI (aI (aa (sr (mI (mI ?_)))));refine jt rfl rfl Yw ?_;refine aI (aa (sr (mL (mI (mL (mI ?_))))));refine qL bo.out aU.size rfl rfl rfl Yv Yw ?_;refine jY ?_;refine mI ?_;refine lX (kI x ((y*m % 18446744073709551616+cr+0) % 18446744073709551616) 0 Yv _) (az (dk rfl) (az (dk rfl) (az rfl bf))) Yw ?_;refine mT ?_;refine dx ?_;refine dx ?_;refine pT ?_;refine yp ?_;intro ws hh;simp only [YM] at hh;rw [p1,YX,dp (by rw [bq];simp only [YK,YZ];omega),gR,oQ] at hh
    refine aI (aa (ar (mI (mI ?_))));refine jt rfl rfl Yw ?_;refine yM ?_;refine bm (mI (aE (aj ?_)));rw [p2];refine ⟨⟨done++[(x+y*m+cr) % 18446744073709551616],r,_,by simp;omega,by rw [YK];rfl,rfl,p3,hrd.tail, ?_,hh⟩,by show xs.length-(done.length+1)<xs.length-done.length;omega, ?_⟩
    ·rw [←heq,Ze,YK];rfl
    exact Yy
   ·rw [Y7 Yv,Option.getD_none] at heq;have h0w:(0:Nat)<18446744073709551616:=Yv;refine sr ?_;refine yB ?_;refine a8 (aa (cF (au (aj (sr (mI (mI ?_)))))));obtain ⟨p1,p2,p3⟩:=yq (y:=0) (m:=m) hx hcr (UO h0w hm) rfl;refine bA hh (tw 0 m _ h0w hm) rfl ?_;intro w28 hh;refine mT ?_;refine dx ?_;refine dx ?_;refine aI (aI (aa (sr (mI (mI ?_)))));refine lX (kI (0*m % 18446744073709551616) cr 0 Yv _) (az (dk rfl) (az (dk rfl) (az rfl bf))) Yw ?_;refine mT ?_;refine dx ?_;refine dx ?_;refine aI (aI (aa (sr (mI (mI ?_)))));refine jt rfl rfl Yw ?_;refine aI (aa (sr (mL (mI (mL (mI ?_))))));refine qL bo.out aU.size rfl rfl rfl Yv Yw ?_;refine jY ?_;refine mI ?_;refine lX (kI x ((0*m % 18446744073709551616+cr+0) % 18446744073709551616) 0 Yv _) (az (dk rfl) (az (dk rfl) (az rfl bf))) Yw ?_;refine mT ?_;refine dx ?_;refine dx ?_;refine pT ?_;refine yp ?_;intro ws hh;simp only [YM] at hh;rw [p1,YX,dp (by rw [bq];simp only [YK,YZ];omega),gR,oQ] at hh;refine aI (aa (ar (mI (mI ?_))));refine jt rfl rfl Yw ?_;refine yM ?_;refine bm (mI (aE (aj ?_)));rw [p2]
    refine ⟨⟨done++[(x+0*m+cr) % 18446744073709551616],r,_,by simp;omega,by rw [YK];rfl,rfl,p3,hrd.tail, ?_,hh⟩,by show xs.length-(done.length+1)<xs.length-done.length;omega, ?_⟩
    ·rw [←heq,Ze,YK];rfl
    exact Yy
  ·exact Wa
theorem DH {H:List HE}{M C:Nat}{Y:Option Addr} (pre xs post ys:List Nat) (w:World) (hh:Hp w0 (.row (some ⟨b,0,none⟩) M C 151 1 (dF (pre++xs++post))::H) w)
  (hy:∀w1 cs,Hp w0 (.row (some ⟨b,0,none⟩) M C 151 1 cs::H) w1→Sl w1 Y ny 1 (dF ys)) (hxd:Dg 18446744073709551616 xs) (hyd:Dg 18446744073709551616 ys) (hM:xs.length≤100000000000) (hny:ny≤100000000000) (hsub:CT 18446744073709551616 xs ys 0=0):
  Calls Tryz.prog 213 #[.slice (some ⟨b,pre.length,none⟩) xs.length c',.slice Y ny cy] w fun e w'=>e=.returned (.bool true)∧Hp w0 (.row (some ⟨b,0,none⟩) M C 151 1 (dF (pre++ui 18446744073709551616 xs ys 0++post))::H) w':=by
 have hly:=(hy _ _ hh).1;rw [bq] at hly;refine ak (N:=37) (l:=[.slice (some ⟨b,pre.length,none⟩) xs.length c',.slice Y ny cy]) Tryz.func213 rfl rfl (by simp) ?_;refine sr (aB (aa (sr (aI (aa (ai (sr (mL (aK (mI (aa (av ?_))))))))))));refine bC [5,6,7,10,11,12,13,14,15,16,17,18,19,20,21,22,23,24,25,26,27,28,29,30,31,32,33,34] 5 10
  (fun c i w'=>∃(done rest:List Nat) (cr:Nat),done.length+rest.length=xs.length∧i=.int .i64 done.length∧c=.int .u64 (cr:Int)∧cr≤1∧Dg 18446744073709551616 rest∧done++ui 18446744073709551616 rest (ys.drop done.length) cr=ui 18446744073709551616 xs ys 0∧CT 18446744073709551616 rest (ys.drop done.length) cr=0∧Hp w0 (.row (some ⟨b,0,none⟩) M C 151 1 (dF (pre++(done++rest)++post))::H) w')
  (fun _ i _=>xs.length-(intOf i).toNat) ?_ ?_
 ·exact ⟨[],xs,0,by simp,rfl,rfl,Yv,hxd,rfl,hsub,hh⟩
 ·clear hh;rintro ρ' c i w' ⟨done,rest,cr,hlen,rfl,rfl,hcr,hrd,heq,hsb,hh⟩;by_cases hlt:done.length<xs.length
  ·obtain ⟨x,r,rfl⟩:∃x r,rest=x::r:=by
    exact MB
   have hx:=hrd.head;have hg:=eX (AY (pre:=pre) (done:=done) (r:=r) (post:=post) (x:=x));have hlr:done.length+(r.length+1)=xs.length:=by simpa using hlen
   simp only [ui,CT,tail_drop,vV] at heq hsb;by_cases hiy:done.length<ny
   ·obtain ⟨y,hyk⟩:=ao (l:=ys) (k:=done.length) Yv;obtain ⟨ad,rfl,_⟩:=(hy _ _ hh).at_ Yv;rw [hyk,ZY] at heq hsb;have hyw:=hyd.at_ hyk;refine sr ?_;refine yB ?_;refine a8 (aa (cT (ar (mL (mI ?_)))));refine NB ?_;refine cv aU.out rfl ((hy _ _ hh).TE hyk) Yw ?_;refine aI (aa (ar (mL (mI (mL (mI ?_))))));refine pT ?_;refine jY ?_;refine mI (mI ?_);refine lX (zg x y cr hcr _) (az (dk rfl) (az (dk rfl) (az (dk rfl) bf))) Yw ?_;refine mT ?_;refine dx ?_;refine dx ?_;refine pT ?_;refine yp ?_;intro ws hh;simp only [YM] at hh;rw [YX,dp (by rw [bq];simp only [YK,YZ];omega),gR,oQ] at hh;refine yM ?_;refine bm (mI (aE (aj ?_)));refine ⟨⟨done++[(x+18446744073709551616-y-cr) % 18446744073709551616],r,_,by simp;omega,by rw [YK];rfl,rfl,by split<;>omega,hrd.tail, ?_, ?_,hh⟩,by show xs.length-(done.length+1)<xs.length-done.length;omega, ?_⟩
    ·rw [←heq,Ze,YK];rfl
    ·rw [YK];exact hsb
    exact Yy
   ·rw [Y7 Yv,Option.getD_none] at heq hsb;refine sr ?_;refine yB ?_;refine a8 (aa (cF (au (aj (ar (mL (mI (mL (mI ?_)))))))));refine pT ?_;refine jY ?_;refine mI (mI ?_);refine lX (zg x 0 cr hcr _) (az (dk rfl) (az (dk rfl) (az (dk rfl) bf))) Yw ?_;refine mT ?_;refine dx ?_;refine dx ?_;refine pT ?_;refine yp ?_;intro ws hh;simp only [YM] at hh;rw [YX,dp (by rw [bq];simp only [YK,YZ];omega),gR,oQ] at hh;refine yM ?_;refine bm (mI (aE (aj ?_)));refine ⟨⟨done++[(x+18446744073709551616-0-cr) % 18446744073709551616],r,_,by simp;omega,by rw [YK];rfl,rfl,by split<;>omega,hrd.tail, ?_, ?_,hh⟩,by show xs.length-(done.length+1)<xs.length-done.length;omega, ?_⟩
    ·rw [←heq,Ze,YK];rfl
    ·rw [YK];exact hsb
    exact Yy
  ·have hr0:rest=[]:=ZO Yv;subst hr0;obtain rfl:cr=0:=hsb;refine sr ?_;refine a8 (aa (ai (cF (a6 (aH (aH (bB (aj (sr (mI ?_))))))))));refine di (aB (aa (ay ?_)));refine dh ?_;rw [Y9,ui,Y9] at*;rw [←heq];exact ⟨rfl,hh⟩
theorem EE {H:List HE}{M C:Nat}{Y:Option Addr} (pre xs post ys:List Nat) (w:World) (hh:Hp w0 (.row (some ⟨b,0,none⟩) M C 151 1 (dF (pre++xs++post))::H) w)
  (hy:∀w1 cs,Hp w0 (.row (some ⟨b,0,none⟩) M C 151 1 cs::H) w1→Sl w1 Y ny 1 (dF ys)) (hxd:Dg 18446744073709551616 xs) (hyd:Dg 18446744073709551616 ys) (hM:xs.length≤100000000000) (hny:ny≤100000000000):
  Calls Tryz.prog 210 #[.slice (some ⟨b,pre.length,none⟩) xs.length c',.slice Y ny cy] w fun e w'=>e=.returned (.tuple #[])∧Hp w0 (.row (some ⟨b,0,none⟩) M C 151 1 (dF (pre++iY 18446744073709551616 xs ys 1 0++post))::H) w':=by
 have hly:=(hy _ _ hh).1;rw [bq] at hly;refine ak (N:=34) (l:=[.slice (some ⟨b,pre.length,none⟩) xs.length c',.slice Y ny cy]) Tryz.func210 rfl rfl (by simp) ?_;refine sr (aI (aa (sr (mL (aK (mI (aa (av ?_))))))));refine bC [4,5,6,9,10,11,12,13,14,15,16,17,18,19,20,21,22,23,24,25,26,27,28,29,30,31,32,33] 4 9
  (fun c i w'=>∃(done rest:List Nat) (cr:Nat),done.length+rest.length=xs.length∧i=.int .i64 done.length∧c=.int .u64 (cr:Int)∧cr≤1∧Dg 18446744073709551616 rest∧done++iY 18446744073709551616 rest (ys.drop done.length) 1 cr=iY 18446744073709551616 xs ys 1 0∧Hp w0 (.row (some ⟨b,0,none⟩) M C 151 1 (dF (pre++(done++rest)++post))::H) w')
  (fun _ i _=>xs.length-(intOf i).toNat) ?_ ?_
 ·exact ⟨[],xs,0,by simp,rfl,rfl,Yv,hxd,rfl,hh⟩
 ·clear hh;rintro ρ' c i w' ⟨done,rest,cr,hlen,rfl,rfl,hcr,hrd,heq,hh⟩;by_cases hlt:done.length<xs.length
  ·obtain ⟨x,r,rfl⟩:∃x r,rest=x::r:=by
    exact MB
   have hx:=hrd.head;have hg:=eX (AY (pre:=pre) (done:=done) (r:=r) (post:=post) (x:=x));have hlr:done.length+(r.length+1)=xs.length:=by simpa using hlen
   simp only [iY,tail_drop,vV,YX] at heq;by_cases hiy:done.length<ny
   ·obtain ⟨y,hyk⟩:=ao (l:=ys) (k:=done.length) Yv;obtain ⟨ad,rfl,_⟩:=(hy _ _ hh).at_ Yv;rw [hyk,ZY] at heq;have hyw:=hyd.at_ hyk;refine sr ?_;refine yB ?_;refine a8 (aa (cT (ar (mL (mI ?_)))));refine NB ?_;refine cv aU.out rfl ((hy _ _ hh).TE hyk) Yw ?_;refine aI (aa (ar (mL (mI (mL (mI ?_))))));refine pT ?_;refine jY ?_;refine mI (mI ?_);refine lX (kI x y cr hcr _) (az (dk rfl) (az (dk rfl) (az (dk rfl) bf))) Yw ?_;refine mT ?_;refine dx ?_;refine dx ?_;refine pT ?_;refine yp ?_;intro ws hh;simp only [YM] at hh;rw [YX,dp (by rw [bq];simp only [YK,YZ];omega),gR,oQ] at hh;refine yM ?_;refine bm (mI (aE (aj ?_)));refine ⟨⟨done++[(x+y+cr) % 18446744073709551616],r,_,by simp;omega,by rw [YK];rfl,rfl,Yv,hrd.tail, ?_,hh⟩,by show xs.length-(done.length+1)<xs.length-done.length;omega, ?_⟩
    ·rw [←heq,Ze,YK];rfl
    exact Yy
   ·rw [Y7 Yv,Option.getD_none] at heq;refine sr ?_;refine yB ?_;refine a8 (aa (cF (au (aj (ar (mL (mI (mL (mI ?_)))))))));refine pT ?_;refine jY ?_;refine mI (mI ?_);refine lX (kI x 0 cr hcr _) (az (dk rfl) (az (dk rfl) (az (dk rfl) bf))) Yw ?_;refine mT ?_;refine dx ?_;refine dx ?_;refine pT ?_;refine yp ?_;intro ws hh;simp only [YM] at hh;rw [YX,dp (by rw [bq];simp only [YK,YZ];omega),gR,oQ] at hh;refine yM ?_;refine bm (mI (aE (aj ?_)));refine ⟨⟨done++[(x+0+cr) % 18446744073709551616],r,_,by simp;omega,by rw [YK];rfl,rfl,Yv,hrd.tail, ?_,hh⟩,by show xs.length-(done.length+1)<xs.length-done.length;omega, ?_⟩
    ·rw [←heq,Ze,YK];rfl
    exact Yy
  ·exact Wa
theorem PQ {i d:Nat} (D:Nat) (hD:D<18446744073709551616^i) (hd:d<18446744073709551616) (hk:i+n/64+1<k):
  (D*2^n)/18446744073709551616^(i+n/64) % 18446744073709551616<2^(n % 64)∧d*2^(n % 64) % 18446744073709551616=(d % 2^(64-n % 64))*2^(n % 64)∧
  (ct 18446744073709551616 k (D*2^n)).set (i+n/64) ((D*2^n)/18446744073709551616^(i+n/64) % 18446744073709551616+d*2^(n % 64) % 18446744073709551616)=ct 18446744073709551616 k (D*2^n+18446744073709551616^(i+n/64)*(d*2^(n % 64) % 18446744073709551616))∧
  (D*2^n+18446744073709551616^(i+n/64)*(d*2^(n % 64) % 18446744073709551616))/18446744073709551616^(i+n/64+1) % 18446744073709551616=0∧
  (ct 18446744073709551616 k (D*2^n+18446744073709551616^(i+n/64)*(d*2^(n % 64) % 18446744073709551616))).set (i+n/64+1) (d/2^(64-n % 64))=ct 18446744073709551616 k ((D+18446744073709551616^i*d)*2^n)∧
  (n % 64=0→D*2^n+18446744073709551616^(i+n/64)*(d*2^(n % 64) % 18446744073709551616)=(D+18446744073709551616^i*d)*2^n):=by
 have hW:(18446744073709551616:Nat)=2^64:=by decide
 have hs:n % 64<64:=Y8 _ Yv;have hn:2^n=18446744073709551616^(n/64)*2^(n % 64):=by
  rw [hW,←Zm,←Y4];congr 1;omega
 generalize hq:n/64=q at*;generalize hse:n % 64=s at*;have e:(18446744073709551616:Nat)=2^(64-s)*2^s:=by rw [←Y4,hW];congr 1;omega
 have hpos:0<2^s:=Zd Yv;have hwp:∀j:Nat,0<18446744073709551616^j:=fun j=>Zd Yw;have hP:D*2^n<18446744073709551616^(i+q)*2^s:=by
  rw [hn,←Zw,Y4];exact aa5 (aa5 hD (hwp q)) hpos
 have h1:(D*2^n)/18446744073709551616^(i+q)<2^s:=by rw [Z2 (hwp _),Za (2^s)];exact hP
 have hsW:2^s≤18446744073709551616:=by rw [hW];exact Zf Yv Yv
 have h2:d*2^s % 18446744073709551616=(d % 2^(64-s))*2^s:=by rw [e,Nat.mul_mod_mul_right]
 have h3:(d % 2^(64-s)+1)*2^s≤18446744073709551616:=by
  rw [e];exact ZH _ (Y8 _ (Zd Yv))
 rw [ZE] at h3;have h4:(D*2^n)/18446744073709551616^(i+q) % 18446744073709551616=(D*2^n)/18446744073709551616^(i+q):=Zk Yv;have hlt1:D*2^n+18446744073709551616^(i+q)*(d*2^s % 18446744073709551616)<18446744073709551616^(i+q+1):=by
  rw [h2,Zn];have:18446744073709551616^(i+q)*((d % 2^(64-s))*2^s+2^s)≤18446744073709551616^(i+q)*18446744073709551616:=Zc _ h3;rw [Zt] at this;omega
 have hup:=TV (d:=d) (s:=s) hd Yv;have hfin:D*2^n+18446744073709551616^(i+q)*(d*2^s % 18446744073709551616)+18446744073709551616^(i+q+1)*(d/2^(64-s))=(D+18446744073709551616^i*d)*2^n:=by
  have h5:18446744073709551616^(i+q)*(d*2^s % 18446744073709551616)+18446744073709551616^(i+q+1)*(d/2^(64-s))=18446744073709551616^(i+q)*(d*2^s):=by
   conv=>rhs;rw [←hup.1,Zt]
   rw [Zn,Zw,Za 18446744073709551616]
  rw [abk,h5,aay,hn,Y4];congr 1;simp only [Zw,abM,Za]
 have hbig:∀j,j<k→18446744073709551616^j*18446744073709551616≤18446744073709551616^k:=fun j hj=>by rw [←Zn];exact Zf Yw hj
 have hb1:=hbig (i+q) Yv;rw [←Zn] at hb1;refine ⟨by rw [h4];exact h1,h2, ?_, ?_, ?_, ?_⟩
 ·exact rU Yw Yv Yv (by rw [h4,h2];omega)
 ·rw [ZG hlt1]
 ·have h6:(D*2^n+18446744073709551616^(i+q)*(d*2^s % 18446744073709551616))/18446744073709551616^(i+q+1) % 18446744073709551616=0:=by rw [ZG hlt1]
  have h7:d/2^(64-s)<18446744073709551616:=ZF (aaU _ _) hd;have h8:=rU (B:=18446744073709551616) (k:=k) (n:=D*2^n+18446744073709551616^(i+q)*(d*2^s % 18446744073709551616)) (j:=i+q+1) (v:=d/2^(64-s)) Yw hk ?_ (by rw [h6];omega)
  ·rw [h6,Y0,hfin] at h8;exact h8
  ·have h9:18446744073709551616^(i+q+1)*(d/2^(64-s)+1)≤18446744073709551616^(i+q+1)*18446744073709551616:=Zc _ h7;have h10:=hbig (i+q+1) hk;rw [aad] at h9;omega
 ·intro h0;subst h0;rw [←hfin];have:d/2^(64-0)=0:=ZG (by rw [←hW];exact hd);rw [this];simp
theorem JN (A:Option Addr) (n c m:Nat) (xs:List Nat) (w:World) (hx:Sl w A n 1 (dF xs)) (hd:Dg 18446744073709551616 xs) (hn:n≤1000000000) (hm:m≤10000000000):
  Calls Tryz.prog 196 #[.slice A n c,.int .i64 (m:Int)] w fun e w'=>∃A c,e=.returned (.slice A (a9 18446744073709551616 (bR 18446744073709551616 xs*2^m)).length c)∧w'.ownsRow w.heap.size 151 1 (.slice A (a9 18446744073709551616 (bR 18446744073709551616 xs*2^m)).length c) (a9 18446744073709551616 (bR 18446744073709551616 xs*2^m)).length (dF (a9 18446744073709551616 (bR 18446744073709551616 xs*2^m)))∧Below w.heap.size w w':=by
 have hl:=hx.1;rw [bq] at hl;have hh:=Hp.start w;have hs1:((m:Int) % 64).toNat=m % 64:=Yv;refine ak (N:=55) (l:=[.slice A n c,.int .i64 (m:Int)]) Tryz.func196 rfl rfl (by simp) ?_;refine sr (aL (aa (sr (mL (aK (mI ?_))))));refine qd ?_;refine bm ?_;refine bm ?_;refine gE (n:=n+m/64+1) hh rfl rfl Yv Yv bo.out aU.out rfl Yv Yv Yw ?_;intro b15 w15 hh;refine tE ?_;rw [rV] at hh;refine aT [6,7,8,18,19,20,21,22,23,24,25,26,27,28,29,30,31,32,33,34,35,36,37,38,39,40,41,42,43,44,45,46,47,48,49,50,51,52] 18
  (fun v w'=>∃i:Nat,i≤n∧v=.int .i64 i∧Hp w [.row (some ⟨b15,0,none⟩) (n+m/64+1) (n+m/64+1) 151 1 (dF (ct 18446744073709551616 (n+m/64+1) (bR 18446744073709551616 (xs.take i)*2^m)))] w')
  (fun v _=>n-(intOf v).toNat) ?_ ?_
 ·exact ⟨0,YD _,rfl,by rw [ZS,bR,aba,sQ];exact hh⟩
 ·clear hh;rintro ρ' v w' ⟨i,hi,rfl,hh⟩;by_cases hlt:i<n
  ·obtain ⟨d,hdi⟩:=ao (l:=xs) (k:=i) Yv;obtain ⟨ad,rfl,hr⟩:=hx.at_ Yv;have hd2:=eX hdi;have hdw:=hd.at_ hdi;have hD:=jv (hd.take i);rw [YW,ZB Yv] at hD;obtain ⟨s1,s2,s3,s4,s5,s6⟩:=PQ (k:=n+m/64+1) (n:=m) (bR 18446744073709551616 (xs.take i)) hD hdw Yv;have hg:=eX (jz (B:=18446744073709551616) (n+m/64+1) (bR 18446744073709551616 (xs.take i)*2^m) (i+m/64) Yv);refine sr ?_;refine e9 ?_;refine dm bo.out aU.size rfl rfl rfl Yv Yw ?_;refine iD ?_;refine aI (aI (aa (sr (mI (mI ?_)))));refine qd ?_;refine bm (aI (aa (ai ?_)));refine aW 8 [[(5,none)],[(8,none)],[(27,some 0),(28,some 1)],[(29,some 2)],[(7,none)],[(1,none)],[(32,some 5)],[(31,some 4),(33,some 6)]] [(7,34),(6,33),(5,32),(4,31),(3,30),(2,29),(1,28),(0,27)] hh mixed Yx ?_;refine eQ ?_;refine cZ ?_;refine N2 (i+m/64) ?_;refine bu (i:=3) (fun ρ1 w1 hj hR=>jT aU.out (show ρ1 29=Value.pointer _ from hR.1) (hj.hp.fU (i:=0) rfl (by rw [YX];exact hg))) ?_;refine cZ ?_;refine cZ ?_;refine bu (i:=6) (fun ρ1 w1 hj hR=>qD (show ρ1 32=Value.int _ _ from hR.1) rfl Yv Yv) ?_
   refine bu (i:=7) (fun ρ1 w1 hj hR=>A5 (show ρ1 31=Value.int _ _ from hR.1) (show ρ1 33=Value.int _ _ from hR.2.1) Yv) ?_;refine aM ?_;intro f W hJ hV;have hb_6:=hJ.bl;obtain ⟨v34,v33,v32,v31,v30,v29,v28,v27,_⟩:=hV;replace hh:=hJ.hp;refine aQ (bg (ae v34 (ae v33 (ae v32 (ae v31 (ae v30 (ae v29 (ae v28 (ae v27 aR))))))))) ?_;dsimp only [bO];clear hJ;refine Ic ?_;refine dn (k:=i+m/64) bo.out aU.size rfl rfl Yv Yv Yw ?_;refine Mh ?_;intro ws hh;simp only [YM] at hh;rw [hs1,s2,Gb s1,←s2,YX,dp (by rw [bq,a7];omega),gR,s3] at hh;by_cases h0:m % 64=0
   ·refine aa (sr (mI ?_));refine ua ?_;refine bT (aa (cF (au (bM (aj (ar ?_))))));refine bm (mI (aE (aj ?_)));rw [s6 h0,←fq hdi] at hh;exact Nv
   ·have hg2:=eX (jz (B:=18446744073709551616) (n+m/64+1) (bR 18446744073709551616 (xs.take i)*2^m+18446744073709551616^(i+m/64)*(d*2^(m % 64) % 18446744073709551616)) (i+m/64+1) Yv);rw [s4] at hg2;have hs2:(64-(m:Int) % 64).toNat=64-m % 64:=Yv;have hd64:d/2^(64-(m:Int) % 64).toNat<18446744073709551616:=ZF (aaU _ _) hdw;have h0w:(0:Nat)<18446744073709551616:=Yv;refine aa (sr (mI ?_));refine ua ?_;refine bT (aa (cT ?_));refine aW 10 [[(5,none)],[(8,none)],[(41,some 1)],[(40,some 0),(42,some 2)],[(43,some 3)],[(7,none)],[(1,none)],[(46,some 6)],[(47,some 7)],[(45,some 5),(48,some 8)]] [(9,49),(8,48),(7,47),(6,46),(5,45),(4,44),(3,43),(2,42),(1,41),(0,40)] hh mixed Yx ?_;refine eQ ?_;refine cZ ?_;refine r6 ?_;refine N2 (i+m/64+1) ?_;refine bu (i:=4) (fun ρ1 w1 hj hR=>jT aU.out (show ρ1 43=Value.pointer _ from hR.1) (hj.hp.fU (i:=0) rfl (by rw [YX];exact hg2))) ?_;refine cZ ?_;refine cZ ?_;refine bu (i:=7) (fun ρ1 w1 hj hR=>qD (show ρ1 46=Value.int _ _ from hR.1) rfl Yv Yv) ?_;refine qE ?_
    refine bu (i:=9) (fun ρ1 w1 hj hR=>E5 (show ρ1 45=Value.int _ _ from hR.1) (show ρ1 48=Value.int _ _ from hR.2.1) Yv) ?_;refine aM ?_;intro f W hJ hV;have hb_8:=hJ.bl;obtain ⟨v49,v48,v47,v46,v45,v44,v43,v42,v41,v40,_⟩:=hV;replace hh:=hJ.hp;refine aQ (bg (ae v49 (ae v48 (ae v47 (ae v46 (ae v45 (ae v44 (ae v43 (ae v42 (ae v41 (ae v40 aR))))))))))) ?_;dsimp only [bO];clear hJ;refine Ic ?_;refine dn (k:=i+m/64+1) bo.out aU.size rfl rfl Yv Yv Yw ?_;refine Mh ?_;intro ws hh;simp only [YM] at hh;rw [hs2,Nat.zero_or,YX,dp (by rw [bq,a7];omega),gR,s5,←fq hdi] at hh;refine gN ?_;refine bm (mI (aE (aj ?_)));exact Nv
  ·refine sr ?_;refine qb ?_;rw [YG Yv] at hh;refine bA hh (jd _ _ _ (ct 18446744073709551616 (n+m/64+1) (bR 18446744073709551616 xs*2^m)) _ (hh.aG (i:=0) rfl) (YE _) Yv) rfl ?_;intro w54 hh;refine aL (aa (ay ?_));refine dh ?_;have hbd:bR 18446744073709551616 xs*2^m<18446744073709551616^(n+m/64+1):=by
    have h1:=jv hd;rw [show xs.length=n by omega] at h1;have h2:2^m≤18446744073709551616^(m/64+1):=by
     exact Ro
    rw [show n+m/64+1=n+(m/64+1) by omega,Y4];exact ZC (aa5 h1 (Zd Yv)) (Zc _ h2)
   have hd:eu (ct 18446744073709551616 (n+m/64+1) (bR 18446744073709551616 xs*2^m))=a9 18446744073709551616 (bR 18446744073709551616 xs*2^m):=by
    exact KY
   have h1:=(Hp.Il (xs:=ct 18446744073709551616 (n+m/64+1) (bR 18446744073709551616 xs*2^m)) hh (a7 _ _)).at_ (i:=0) rfl;exact HX
theorem Sl.TU {xs:List Nat} (h:Sl w (some ad) n 1 (dF xs)) (hk:k<n):Sl w (some (ad.add (k*1))) (n-k) 1 (dF (xs.drop k)):=by
 have hl:=h.1;rw [bq] at hl;refine ⟨by rw [bq,ZM];omega,fun h0=>⟨_,rfl, ?_⟩⟩;obtain ⟨ad',he,hr⟩:=h.2 Yv;injection he with he
 subst he;rw [YX,xV];exact hr.drop k
theorem Jl {s:Nat} (hs:s<64) (h0:0<s):
  (N/18446744073709551616^(j+1) % 18446744073709551616)*2^(64-s) % 18446744073709551616=N/18446744073709551616^(j+1) % 2^s*2^(64-s)∧
  (N/18446744073709551616^j % 18446744073709551616/2^s|||(N/18446744073709551616^(j+1) % 18446744073709551616)*2^(64-s) % 18446744073709551616)=N/2^(64*j+s) % 18446744073709551616:=by
 have hW:(18446744073709551616:Nat)=2^64:=by decide
 have e:(18446744073709551616:Nat)=2^s*2^(64-s):=by rw [←Y4,hW];congr 1;omega
 have h1:(N/18446744073709551616^(j+1) % 18446744073709551616)*2^(64-s) % 18446744073709551616=N/18446744073709551616^(j+1) % 2^s*2^(64-s):=by
  generalize N/18446744073709551616^(j+1)=m;rw [e,Nat.mul_mod_mul_right,Nat.mod_mul_right_mod]
 obtain ⟨h2,h3⟩:=yj N j s hs h0;exact ⟨h1,by rw [h1,Gb h2,h3]⟩
theorem DC (A:Option Addr) (n c m:Nat) (xs:List Nat) (w:World) (hx:Sl w A n 1 (dF xs)) (hd:Dg 18446744073709551616 xs) (hc:n≤c) (hn:n≤1000000000) (hm:m≤1000000000000):
  Calls Tryz.prog 197 #[.slice A n c,.int .i64 (m:Int)] w fun e w'=>∃A c,e=.returned (.slice A (a9 18446744073709551616 (bR 18446744073709551616 xs/2^m)).length c)∧w'.ownsRow w.heap.size 151 1 (.slice A (a9 18446744073709551616 (bR 18446744073709551616 xs/2^m)).length c) (a9 18446744073709551616 (bR 18446744073709551616 xs/2^m)).length (dF (a9 18446744073709551616 (bR 18446744073709551616 xs/2^m)))∧Below w.heap.size w w':=by
 have hl:=hx.1;rw [bq] at hl;have hh:=Hp.start w;have hs1:((m:Int) % 64).toNat=m % 64:=Yv;have hW:(18446744073709551616:Nat)=2^64:=by decide
 have hmm:2^m=18446744073709551616^(m/64)*2^(m % 64):=by
  rw [hW,←Zm,←Y4];congr 1;omega
 have hlt:=jv hd;rw [show xs.length=n by omega] at hlt;by_cases hbig:n≤m/64
 ·have h0:bR 18446744073709551616 xs/2^m=0:=by
   apply ZG;refine ZC hlt (Y2 (Zf Yw hbig) ?_);rw [hmm];exact abQ _ (Zd Yv)
  refine ak (N:=61) (l:=[.slice A n c,.int .i64 (m:Int)]) Tryz.func197 rfl rfl (by simp) ?_;refine sr (aL (aa (ai (sr (mI ?_)))));refine qd ?_;refine mL (aK ?_);refine ej (aa (cT (sr (aL (aa (ay (aN ?_)))))));refine dh ?_;rw [h0,hU Yv];exact TD
 ·obtain ⟨ad,rfl,hr⟩:=hx.at_ Yv;have hsd:=hx.TU (k:=m/64) Yv;have hget:∀j,j<n→xs[j]?=some (bR 18446744073709551616 xs/18446744073709551616^j % 18446744073709551616):=fun j hj=>by
   obtain ⟨d,hdj⟩:=ao (l:=xs) (k:=j) Yv;rw [hdj,uz hd hdj]
  refine ak (N:=61) (l:=[.slice (some ad) n c,.int .i64 (m:Int)]) Tryz.func197 rfl rfl (by simp) ?_;refine sr (aL (aa (ai (sr (mI ?_)))));refine qd ?_;refine mL (aK ?_);refine ej (aa (cF (au (aj (sr (mL (mI ?_)))))));refine qd ?_;refine DS (l:=m/64) bo.out aU.size rfl rfl Yv Yv Yv Yv Yw ?_;refine aJ (pZ _ _ _ 0 _ _ hsd Yv Yv) aw.out rfl Yw ?_;rintro e_ w_ ⟨b16,rfl,hown_,hb_⟩;refine ⟨_,rfl, ?_⟩;replace hh:=hh.aY (x:=.row _ _ _ _ _ _) hb_ hown_;rw [Nat.zero_max,Zu,abB,Y9] at hh;rw [Nat.zero_max];refine tE ?_;refine aT [6,19,20,21,22,23,24,25,26,27,28,29,30,31,32,33,34,35,36,37,38,39,40,41,42,43,44,45,46,47,48,49,50,51,52,53,54,55,56,57,58] 19
   (fun v w'=>∃i:Nat,i≤n-m/64∧v=.int .i64 i∧Hp w [.row (some ⟨b16,0,none⟩) (n-m/64) (n-m/64) 151 1 (dF (ct 18446744073709551616 i (bR 18446744073709551616 xs/2^m)++xs.drop (m/64+i)))] w')
   (fun v _=>(n-m/64)-(intOf v).toNat) ?_ ?_
  ·exact ⟨0,YD _,rfl,hh⟩
  ·clear hh;rintro ρ' v w' ⟨i,hi,rfl,hh⟩;by_cases hlt2:i<n-m/64
   ·have hgi:=hget (m/64+i) Yv;have hdr:xs.drop (m/64+i)=(bR 18446744073709551616 xs/18446744073709551616^(m/64+i) % 18446744073709551616)::xs.drop (m/64+i+1):=by
     rw [ZR Yv];congr 1;have:=YQ.1 hgi;exact this.2
    have hcell:(ct 18446744073709551616 i (bR 18446744073709551616 xs/2^m)++xs.drop (m/64+i))[i]?=some (bR 18446744073709551616 xs/18446744073709551616^(m/64+i) % 18446744073709551616):=by
     rw [ZQ (by rw [a7];omega),a7,hdr];simp
    have hg:=eX hcell;have hset:∀y,(ct 18446744073709551616 i (bR 18446744073709551616 xs/2^m)++xs.drop (m/64+i)).set i y=ct 18446744073709551616 i (bR 18446744073709551616 xs/2^m)++y::xs.drop (m/64+i+1):=fun y=>by
     rw [hdr,aaI _ _ (by rw [a7];omega),a7,Zu,YM]
    have hll:(ct 18446744073709551616 i (bR 18446744073709551616 xs/2^m)++xs.drop (m/64+i)).length=n-m/64:=by rw [YK,a7,ZM];omega
    have hac:∀y,ct 18446744073709551616 i (bR 18446744073709551616 xs/2^m)++y::xs.drop (m/64+i+1)=(ct 18446744073709551616 i (bR 18446744073709551616 xs/2^m)++[y])++xs.drop (m/64+(i+1)):=fun y=>List.append_cons _ _ _;have hnew:ct 18446744073709551616 (i+1) (bR 18446744073709551616 xs/2^m)=ct 18446744073709551616 i (bR 18446744073709551616 xs/2^m)++[bR 18446744073709551616 xs/2^(64*(m/64+i)+m % 64) % 18446744073709551616]:=by
     rw [mv,aae];congr 4;rw [hW,←Zm,←Y4];congr 1;omega
    refine sr ?_;refine a8 (aa (ai (cT (au (aj (ai (av (sr (mI (aI (aa (sr (mL (mI ?_))))))))))))));refine gD ?_;refine jY ?_;refine mI ?_;refine ua ?_;refine Ge rfl rfl Yv Yw ?_;refine gD ?_;refine cA hh (i:=0) (vs:=[_]) rfl rfl (dk rfl) rfl aU.out rfl (by rw [bq,hll];omega) rfl ?_;intro ws hh;simp only [YM] at hh;rw [hs1,YX,dp (by rw [bq,hll];omega),gR,hset] at hh;by_cases h0:m % 64=0
    ·have e1:bR 18446744073709551616 xs/18446744073709551616^(m/64+i) % 18446744073709551616/2^(m % 64)=bR 18446744073709551616 xs/2^(64*(m/64+i)+m % 64) % 18446744073709551616:=by
      rw [h0,aa9,Nat.div_one,aab,Zm,←hW]
     by_cases hl:i+1<n-m/64
     ·refine aa (sr (mI ?_));refine bm (mL (aK ?_));refine a8 (mB (gT (mI (gT ?_))));refine ua ?_;refine gT ?_;refine bT ?_;refine fG ?_;exact Sy
     ·exact Q3
    ·by_cases hl:i+1<n-m/64
     ·have hgj:=hget (m/64+i+1) Yv;have hgj2:=eX hgj;obtain ⟨d1,d2⟩:=Jl (N:=bR 18446744073709551616 xs) (j:=m/64+i) (s:=m % 64) (Y8 _ Yv) Yv;have hcell2:(ct 18446744073709551616 i (bR 18446744073709551616 xs/2^m)++(bR 18446744073709551616 xs/18446744073709551616^(m/64+i) % 18446744073709551616/2^(m % 64))::xs.drop (m/64+i+1))[i]?=some (bR 18446744073709551616 xs/18446744073709551616^(m/64+i) % 18446744073709551616/2^(m % 64)):=by
       rw [ZQ (by rw [a7];omega),a7];simp
      have hg2:=eX hcell2;have hset2:∀y z,(ct 18446744073709551616 i (bR 18446744073709551616 xs/2^m)++y::xs.drop (m/64+i+1)).set i z=ct 18446744073709551616 i (bR 18446744073709551616 xs/2^m)++z::xs.drop (m/64+i+1):=fun y z=>by
       rw [aaI _ _ (by rw [a7];omega),a7,Zu,YM]
      have hll2:∀y,(ct 18446744073709551616 i (bR 18446744073709551616 xs/2^m)++y::xs.drop (m/64+i+1)).length=n-m/64:=fun y=>by rw [YK,a7,YZ,ZM];omega
      have hs2:(64-(m:Int) % 64).toNat=64-m % 64:=Yv;have b1:bR 18446744073709551616 xs/18446744073709551616^(m/64+i) % 18446744073709551616/2^(m % 64)<18446744073709551616:=ZF (aaU _ _) (Y8 _ Yv);have b2:bR 18446744073709551616 xs/18446744073709551616^(m/64+i+1) % 18446744073709551616*2^(64-(m:Int) % 64).toNat % 18446744073709551616<18446744073709551616:=Y8 _ Yv;refine aa (sr (mI ?_));refine bm (mL (aK ?_));refine a8 (mB (gT (mI (gT ?_))));refine ua ?_;refine gT ?_;refine bT ?_;refine fG ?_;refine aa (cT ?_);refine aW 16 [[(5,none)],[(6,none)],[(40,some 0),(41,some 1)],[(42,some 2)],[(0,none)],[(1,none)],[(45,some 5)],[(6,none)],[(46,some 6),(47,some 7)],[(48,some 8)],[(44,some 4),(49,some 9)],[(50,some 10)],[(1,none)],[(52,some 12)],[(53,some 13)],[(51,some 11),(54,some 14)]] [(15,55),(14,54),(13,53),(12,52),(11,51),(10,50),(9,49),(8,48),(7,47),(6,46),(5,45),(4,44),(3,43),(2,42),(1,41),(0,40)] hh mixed Yx ?_;refine eQ ?_;refine cZ ?_;refine N2 (i) ?_
      refine bu (i:=3) (fun ρ1 w1 hj hR=>jT aU.out (show ρ1 42=Value.pointer _ from hR.1) (hj.hp.fU (i:=0) rfl (by rw [YX];exact hg2))) ?_;refine eQ ?_;refine cZ ?_;refine bu (i:=6) (fun ρ1 w1 hj hR=>s8 (show ρ1 45=Value.int _ _ from hR.1) rfl Yv Yv Yv) ?_;refine cZ ?_;refine r6 ?_;refine r6 ?_;refine jA (m/64+i+1) ?_;refine pK (fun _ hj=>(hr.ext hj.hp.below).xv hgj2) ?_;refine cZ ?_;refine bu (i:=13) (fun ρ1 w1 hj hR=>qD (show ρ1 52=Value.int _ _ from hR.1) rfl Yv Yv) ?_;refine qE ?_;refine bu (i:=15) (fun ρ1 w1 hj hR=>A5 (show ρ1 51=Value.int _ _ from hR.1) (show ρ1 54=Value.int _ _ from hR.2.1) Yv) ?_;refine aM ?_;intro f W hJ hV;have hb_9:=hJ.bl;obtain ⟨v55,v54,v53,v52,v51,v50,v49,v48,v47,v46,v45,v44,v43,v42,v41,v40,_⟩:=hV;replace hh:=hJ.hp;refine aQ (bg (ae v55 (ae v54 (ae v53 (ae v52 (ae v51 (ae v50 (ae v49 (ae v48 (ae v47 (ae v46 (ae v45 (ae v44 (ae v43 (ae v42 (ae v41 (ae v40 aR))))))))))))))))) ?_;dsimp only [bO];clear hJ;refine Ic ?_;refine gD ?_;refine cA hh (i:=0) (vs:=[_]) rfl rfl (dk rfl) rfl aU.out rfl (by rw [bq,hll2];omega) rfl ?_;intro ws hh;simp only [YM] at hh
      rw [hs2,d2,YX,dp (by rw [bq,hll2];omega),gR,hset2,hac,←hnew] at hh;refine gN ?_;refine bm (mI (aE (aj ?_)));exact Qs
     ·have e1:bR 18446744073709551616 xs/18446744073709551616^(m/64+i) % 18446744073709551616/2^(m % 64)=bR 18446744073709551616 xs/2^(64*(m/64+i)+m % 64) % 18446744073709551616:=by
       obtain ⟨h2,h3⟩:=yj (bR 18446744073709551616 xs) (m/64+i) (m % 64) (Y8 _ Yv) Yv;have h4:bR 18446744073709551616 xs/18446744073709551616^(m/64+i+1)=0:=ZG (ZC hlt (Zf Yw Yv));rw [h4] at h3;simpa using h3
      exact Q3
   ·obtain rfl:i=n-m/64:=Yv;rw [List.drop_eq_nil_of_le Yv,Y9] at hh;refine sr ?_;refine qb ?_;refine bA hh (jd _ _ _ (ct 18446744073709551616 (n-m/64) (bR 18446744073709551616 xs/2^m)) _ (hh.aG (i:=0) rfl) (YE _) Yv) rfl ?_;intro w60 hh;refine aL (aa (ay ?_));refine dh ?_;have hbd:bR 18446744073709551616 xs/2^m<18446744073709551616^(n-m/64):=by
     rw [Z2 (Zd Yv),hmm,←Zw,←Y4,show n-m/64+m/64=n by omega];exact ZC hlt (abQ _ (Zd Yv))
    have hd:eu (ct 18446744073709551616 (n-m/64) (bR 18446744073709551616 xs/2^m))=a9 18446744073709551616 (bR 18446744073709551616 xs/2^m):=by
     exact KY
    have h1:=(Hp.Il (xs:=ct 18446744073709551616 (n-m/64) (bR 18446744073709551616 xs/2^m)) hh (a7 _ _)).at_ (i:=0) rfl;exact HX
def bN (a:ByteArray):Nat:=bn a.data.toList
def sN (n:Nat):ByteArray:=str (sb n)
theorem fD (n:Nat):bN (sN n)=n:=by rw [bN,sN,dY,VD]
theorem ky (n:Nat):(sN n).size=(bX n+7)/8:=by rw [sN,jm,JV,EX]
theorem Mz {a:Nat} (h:sN a=sN b):a=b:=by rw [←fD a,h,fD]
theorem pw:sN 0=ByteArray.mk #[]:=by rw [sN,O6];rfl
theorem yg (a:ByteArray):bN a<256^a.size:=by rw [dP];exact Ri _
theorem fO (a:ByteArray):bX (bN a)≤8*a.size:=by
 apply eb;have:=yg a;rwa [show (256:Nat)=2^8 from rfl,←Zm] at this
theorem JD (h:n<256^k):(a9 18446744073709551616 n).length≤(k+7)/8:=by
 apply jh Yv;refine ZC h ?_;rw [show (256:Nat)=2^8 from rfl,show (18446744073709551616:Nat)=2^64 from rfl,←Zm,←Zm];exact Zf Yv Yv
theorem gI (a:ByteArray):(a9 18446744073709551616 (bN a)).length≤(a.size+7)/8:=JD (yg a)
theorem j1 (n:Nat):Dg 18446744073709551616 (a9 18446744073709551616 n):=(eG Yv n).1
theorem ik (n:Nat):bR 18446744073709551616 (a9 18446744073709551616 n)=n:=eB Yv n
theorem qh (a:ByteArray) (w:World) (ha:a.size≤1000000000):
  Calls Tryz.prog 161 #[.string a] w fun e w'=>∃b c,e=.returned (.slice (some ⟨b,0,none⟩) (a9 18446744073709551616 (bN a)).length c)∧w'.ownsRow w.heap.size 151 1 (.slice (some ⟨b,0,none⟩) (a9 18446744073709551616 (bN a)).length c) (a9 18446744073709551616 (bN a)).length (dF (a9 18446744073709551616 (bN a)))∧Below w.heap.size w w':=Jg a w Yv
theorem tO (n:Nat) (w:World) (hn:n<18446744073709551616):
  Calls Tryz.prog 120 #[.int .u64 (n:Int)] w fun e w'=>e=.returned (.string (sN n))∧Below w.heap.size w w':=by
 have hh:=Hp.start w;refine ak (N:=6) (l:=[.int .u64 (n:Int)]) Tryz.func120 rfl rfl (by simp) ?_;refine sr (aS (aa (sr (mI ?_))));refine vN ?_;intro b4 w4 hh;refine bA hh (iV _ _ _ [n] _ (hh.aG (i:=0) rfl) (Dg.cons hn Dg.nil) (YE _) Yv) rfl ?_;intro w5 hh;refine aS (aa (ay ?_));refine dh ?_;refine ⟨?_,hh.below⟩;rw [sN];simp [bR]
theorem Aq (a b:ByteArray) (w:World) (ha:a.size≤1000000000) (hb:b.size≤1000000000):
  Calls Tryz.prog 211 #[.string a,.string b] w fun e w'=>e=.returned (.int .i64 (mg (bN a) (bN b)))∧Below w.heap.size w w':=by
 have hh:=Hp.start w;have h1:=gI a;have h2:=gI b;refine ak (N:=10) (l:=[.string a,.string b]) Tryz.func211 rfl rfl (by simp) ?_;refine sr (aI (aa (sr (mS ?_))));refine tB ?_;rintro e_ w6 ⟨A6,c6,rfl,hown_,hb_⟩;refine ⟨_,rfl, ?_⟩;replace hh:=hh.aY (x:=.row _ _ _ _ _ _) hb_ hown_;refine mS ?_;refine Hn ?_;rintro e_ w8 ⟨A8,c8,rfl,hown_,hb_⟩;refine ⟨_,rfl, ?_⟩;replace hh:=hh.aY (x:=.row _ _ _ _ _ _) hb_ hown_;refine KX ?_;intro w9 hh;rw [ik,ik];exact xA
theorem mP (a:ByteArray) (w:World) (ha:a.size≤1000000000):
  Calls Tryz.prog 165 #[.string a] w fun e w'=>e=.returned (.int .i64 (bX (bN a)))∧Below w.heap.size w w':=by
 have hh:=Hp.start w;have h1:=gI a;refine ak (N:=6) (l:=[.string a]) Tryz.func165 rfl rfl (by simp) ?_;refine sr (aI (aa (sr (mS ?_))));refine tB ?_;rintro e_ w4 ⟨A4,c4,rfl,hown_,hb_⟩;refine ⟨_,rfl, ?_⟩;replace hh:=hh.aY (x:=.row _ _ _ _ _ _) hb_ hown_;refine bA hh (vy _ _ _ (a9 18446744073709551616 (bN a)) _ (hh.aG (i:=0) rfl) (j1 _) (hh.fQ (i:=0) rfl) Yv) rfl ?_;intro w5 hh;rw [ik];exact xA
theorem jr (n m:Nat):bX (n*2^m)≤bX n+m:=by
 apply eb;rw [Y4];exact aa5 (dD n) (Zd Yv)
theorem wW (n:Nat):(a9 18446744073709551616 n).length≤(bX n+63)/64:=by
 apply jh Yv;refine ZC (dD n) ?_;exact Ro
theorem AR (a:ByteArray) (m:Nat) (w:World) (ha:a.size≤1000000000) (hm:m≤10000000000):
  Calls Tryz.prog 163 #[.string a,.int .i64 (m:Int)] w fun e w'=>e=.returned (.string (sN (bN a*2^m)))∧Below w.heap.size w w':=by
 have hh:=Hp.start w;have h1:=gI a;have h2:=wW (bN a*2^m);have h3:=jr (bN a) m;have h4:=fO a;have e1:(if (0:Int)>(m:Int) then 0 else (m:Int))=m:=YB Yv;refine ak (N:=11) (l:=[.string a,.int .i64 (m:Int)]) Tryz.func163 rfl rfl (by simp) ?_;refine sr (aS (aa (sr (mS ?_))));refine tB ?_;rintro e_ w6 ⟨A6,c6,rfl,hown_,hb_⟩;refine ⟨_,rfl, ?_⟩;replace hh:=hh.aY (x:=.row _ _ _ _ _ _) hb_ hown_;refine mI ?_;refine lL rfl rfl Yw ?_;rw [e1];refine aJ (JN _ _ _ m (a9 18446744073709551616 (bN a)) _ (hh.aG (i:=0) rfl) (j1 _) Yv hm) aw.out rfl Yw ?_;rintro e_ w9 ⟨A9,c9,rfl,hown_,hb_⟩;refine ⟨_,rfl, ?_⟩;replace hh:=hh.aY (x:=.row _ _ _ _ _ _) hb_ hown_;rw [ik] at*;refine bA hh (iV _ _ _ (a9 18446744073709551616 (bN a*2^m)) _ (hh.aG (i:=0) rfl) (j1 _) (hh.fQ (i:=0) rfl) Yv) rfl ?_;intro w10 hh;rw [ik];exact Bv
theorem rf (n m:Nat):bX (n/2^m)≤bX n:=by
 apply eb;exact ZF (aaU _ _) (dD n)
theorem Aj (a:ByteArray) (m:Nat) (w:World) (ha:a.size≤1000000000) (hm:m≤1000000000000):
  Calls Tryz.prog 164 #[.string a,.int .i64 (m:Int)] w fun e w'=>e=.returned (.string (sN (bN a/2^m)))∧Below w.heap.size w w':=by
 have hh:=Hp.start w;have h1:=gI a;have h2:=wW (bN a/2^m);have h3:=rf (bN a) m;have h4:=fO a;have e1:(if (0:Int)>(m:Int) then 0 else (m:Int))=m:=YB Yv;refine ak (N:=11) (l:=[.string a,.int .i64 (m:Int)]) Tryz.func164 rfl rfl (by simp) ?_;refine sr (aS (aa (sr (mS ?_))));refine tB ?_;rintro e_ w6 ⟨A6,c6,rfl,hown_,hb_⟩;refine ⟨_,rfl, ?_⟩;replace hh:=hh.aY (x:=.row _ _ _ _ _ _) hb_ hown_;refine mI ?_;refine lL rfl rfl Yw ?_;rw [e1];refine aJ (DC _ _ _ m (a9 18446744073709551616 (bN a)) _ (hh.aG (i:=0) rfl) (j1 _) (hh.fQ (i:=0) rfl) Yv hm) aw.out rfl Yw ?_;rintro e_ w9 ⟨A9,c9,rfl,hown_,hb_⟩;refine ⟨_,rfl, ?_⟩;replace hh:=hh.aY (x:=.row _ _ _ _ _ _) hb_ hown_;rw [ik] at*;refine bA hh (iV _ _ _ (a9 18446744073709551616 (bN a/2^m)) _ (hh.aG (i:=0) rfl) (j1 _) (hh.fQ (i:=0) rfl) Yv) rfl ?_;intro w10 hh;rw [ik];exact Bv
theorem OE {x y:Nat} (h:y≤x):CT 18446744073709551616 (a9 18446744073709551616 x) (a9 18446744073709551616 y) 0=0∧bR 18446744073709551616 (ui 18446744073709551616 (a9 18446744073709551616 x) (a9 18446744073709551616 y) 0)=x-y:=by
 have:=Mo (B:=18446744073709551616) Yv (a9 18446744073709551616 x) (a9 18446744073709551616 y) 0 (j1 _) (j1 _) Yv (by rw [ik,ik];omega);rw [ik,ik] at this;exact ⟨this.2,Yv⟩
theorem rQ (a b:ByteArray) (w:World) (ha:a.size≤1000000000) (hb:b.size≤1000000000):
  Calls Tryz.prog 192 #[.string a,.string b] w fun e w'=>e=.returned (.tuple #[.string (sN (bN a-bN b)),.bool (decide (bN b≤bN a))])∧Below w.heap.size w w':=by
 have hh:=Hp.start w;have h1:=gI a;have h2:=gI b;by_cases hlt:bN a<bN b
 ·refine ak (N:=21) (l:=[.string a,.string b]) Tryz.func192 rfl rfl (by simp) ?_;refine sr (aS (aB (aa (sr (mS ?_)))));refine tB ?_;rintro e_ w9 ⟨A9,c9,rfl,hown_,hb_⟩;refine ⟨_,rfl, ?_⟩;replace hh:=hh.aY (x:=.row _ _ _ _ _ _) hb_ hown_;refine mS ?_;refine Hn ?_;rintro e_ w11 ⟨A11,c11,rfl,hown_,hb_⟩;refine ⟨_,rfl, ?_⟩;replace hh:=hh.aY (x:=.row _ _ _ _ _ _) hb_ hown_;refine aL (aL (aa (ai (sr (mL (mL ?_))))));refine KX ?_;intro w14 hh;rw [ik,ik,np hlt];exact UP
 ·obtain ⟨s1,s2⟩:=OE (Nat.le_of_not_lt hlt);have hc:¬mg (bN a) (bN b)<0:=by unfold mg;split<;>(try split)<;>omega
  refine ak (N:=21) (l:=[.string a,.string b]) Tryz.func192 rfl rfl (by simp) ?_;refine sr (aS (aB (aa (sr (mS ?_)))));refine tB ?_;rintro e_ w9 ⟨A9,c9,rfl,hown_,hb_⟩;refine ⟨_,rfl, ?_⟩;replace hh:=hh.aY (x:=.row _ _ _ _ _ _) hb_ hown_;refine mS ?_;refine Hn ?_;rintro e_ w11 ⟨A11,c11,rfl,hown_,hb_⟩;refine ⟨_,rfl, ?_⟩;replace hh:=hh.aY (x:=.row _ _ _ _ _ _) hb_ hown_;refine aL (aL (aa (ai (sr (mL (mL ?_))))));refine KX ?_;intro w14 hh;rw [ik,ik];refine a8 (aa (cF (au (aj (sr (mL (mL ?_)))))));replace hh:=hh.front 1 rfl;rw [←Y9 (a9 18446744073709551616 (bN a)),←YH (a9 18446744073709551616 (bN a))] at hh;have hll:=(hh.Pu (i:=0) rfl);rw [YH,Y9] at hll;refine aJ (DH [] (a9 18446744073709551616 (bN a)) [] (a9 18446744073709551616 (bN b)) _ hh (fun w1 cs h=>h.aG (i:=1) rfl) (j1 _) (j1 _) Yv Yv s1) aw.out rfl Yw ?_;rintro e_ w_ ⟨rfl,hh⟩;refine ⟨_,rfl, ?_⟩;simp only [YH,Y9] at hh;refine aa (sr (mL ?_))
  refine bA hh (iV _ _ _ (ui 18446744073709551616 (a9 18446744073709551616 (bN a)) (a9 18446744073709551616 (bN b)) 0) _ (hh.aG (i:=0) rfl) (OM Yv _ _ _) (hh.fQ (i:=0) rfl) Yv) rfl ?_;intro w20 hh;rw [s2];exact R5
theorem AW (a b:ByteArray) (w:World) (ha:a.size≤1000000000) (hb:b.size≤1000000000):
  Calls Tryz.prog 189 #[.string a,.string b] w fun e w'=>e=.returned (.string (sN (bN a*bN b)))∧Below w.heap.size w w':=by
 have hh:=Hp.start w;have h1:=gI a;have h2:=gI b;refine ak (N:=37) (l:=[.string a,.string b]) Tryz.func189 rfl rfl (by simp) ?_;refine sr (aS (aa (sr (mS ?_))));refine tB ?_;rintro e_ w11 ⟨A11,c11,rfl,hown_,hb_⟩;refine ⟨_,rfl, ?_⟩;replace hh:=hh.aY (x:=.row _ _ _ _ _ _) hb_ hown_;refine mS ?_;refine Hn ?_;rintro e_ w13 ⟨A13,c13,rfl,hown_,hb_⟩;refine ⟨_,rfl, ?_⟩;replace hh:=hh.aY (x:=.row _ _ _ _ _ _) hb_ hown_;have hxd:=j1 (bN a);have hyd:=j1 (bN b);have hX:=ik (bN a);have hY:=ik (bN b);generalize a9 18446744073709551616 (bN a)=xs at*;generalize a9 18446744073709551616 (bN b)=ys at*;refine aL (aL (aa (sr (mL (aK (mL (aK ?_)))))));refine bm ?_;refine bm ?_;refine gE (n:=xs.length+ys.length+1) hh rfl rfl Yv Yv bo.out aU.out rfl Yv Yv Yw ?_;intro b20 w20 hh;refine tE ?_;rw [rV] at hh;refine aT [8,9,23,24,25,26,27,28,29,30,31,32,33,34] 23
  (fun v w'=>∃(i:Nat) (L:List Nat),i≤xs.length∧v=.int .i64 i∧Dg 18446744073709551616 L∧L.length=xs.length+ys.length+1∧bR 18446744073709551616 L=bR 18446744073709551616 (xs.take i)*bR 18446744073709551616 ys∧Hp w [.row (some ⟨b20,0,none⟩) (xs.length+ys.length+1) (xs.length+ys.length+1) 151 1 (dF L),.row (some ⟨A13,0,none⟩) ys.length c13 151 1 (dF ys),.row (some ⟨A11,0,none⟩) xs.length c11 151 1 (dF xs)] w')
  (fun v _=>xs.length-(intOf v).toNat) ?_ ?_
 ·exact ⟨0,_,YD _,rfl,Dg.gY Yv _,by simp,by simp [tf,bR],hh⟩
 ·clear hh;rintro ρ' v w' ⟨i,L,hi,rfl,hLd,hLl,hLv,hh⟩;by_cases hlt:i<xs.length
  ·obtain ⟨m,hm⟩:=ao (l:=xs) (k:=i) Yv;have hm2:=eX hm;have hmw:=hxd.at_ hm;have hpl:(L.take i).length=i:=by rw [YW];omega
   have hsl:(L.drop i).length=xs.length+ys.length+1-i:=by rw [ZM];omega
   refine sr ?_;refine e9 ?_;refine gD ?_;refine DR ?_;refine aI (aI (aa (ar (mL (mI ?_)))));refine FQ (l:=i) bo.out aU.size rfl rfl Yv Yv Yv Yv Yw ?_;refine mL (mI ?_);have hc:=Dt (c':=xs.length+ys.length+1-i) (ny:=ys.length) (cy:=c13) (m:=m) (Y:=some ⟨A13,0,none⟩) (L.take i) (L.drop i) [] ys _ (by rw [Y9,Zv];exact hh) (fun w1 cs h=>h.aG (i:=1) rfl) (hLd.drop i) hyd hmw Yv Yv;rw [hpl,hsl,Y9] at hc;rw [Y0,YX];refine aJ (hc) aw.out rfl Yw ?_;rintro e_ w_ ⟨rfl,hh⟩;refine ⟨_,rfl, ?_⟩;have hlt1:=jv (hxd.take (i+1));have hlt2:=jv hyd;rw [YW,ZB Yv] at hlt1;have hsn:=fq (B:=18446744073709551616) hm;have hsplit:=jU (B:=18446744073709551616) L i Yv;have hnew:18446744073709551616^i*(bR 18446744073709551616 (L.drop i)+bR 18446744073709551616 ys*m+0)+bR 18446744073709551616 (L.take i)=bR 18446744073709551616 (xs.take (i+1))*bR 18446744073709551616 ys:=by
    rw [hsn,aay,←hLv,hsplit,aab,Zt,Zw,Za m];omega
   have hbd:bR 18446744073709551616 (L.drop i)+bR 18446744073709551616 ys*m+0<18446744073709551616^(L.drop i).length:=by
    refine Nat.lt_of_mul_lt_mul_left (a:=18446744073709551616^i) ?_;rw [←Y4,hsl];refine ZF (Nat.le_add_right _ (bR 18446744073709551616 (L.take i))) ?_;rw [hnew];refine ZC (Nat.mul_lt_mul'' hlt1 hlt2) ?_;rw [←Y4];exact Zf Yw Yv
   have hdp:=yz (B:=18446744073709551616) Yv _ _ _ _ hbd;refine gN ?_;refine bm (mI (aE (aj ?_)));refine ⟨⟨i+1,L.take i++iY 18446744073709551616 (L.drop i) ys m 0,Yv,rfl,(hLd.take i).append (BB Yv _ _ _ _),by rw [YK,rJ,hpl,hsl];omega, ?_,hh⟩,by show xs.length-(i+1)<xs.length-i;omega, ?_⟩
   ·rw [fu,hdp,hpl,aat];exact hnew
   exact Yy
  ·obtain rfl:i=xs.length:=Yv;rw [abr,hX,hY] at hLv;refine sr ?_;refine qb ?_;refine bA hh (iV _ _ _ L _ (hh.aG (i:=0) rfl) hLd (YE _) Yv) rfl ?_;intro w36 hh;rw [hLv];exact Bv
theorem OR {d r:Nat} (hd:d≠0) (hdw:d<18446744073709551616) (hn:n=18446744073709551616^k*(d+18446744073709551616*r)):tz n=64*k+tz d:=by
 obtain ⟨m,hm⟩:=ur hd;have ht:tz d<64:=yo hd (by simpa using hdw);have hW:(18446744073709551616:Nat)=2^64:=by decide
 generalize tz d=t at*;have e:n=2^(64*k+t)*(2*(m+2^(63-t)*r)+1):=by
  rw [hn,Y4,Zm,←hW,Zw];congr 1;have h1:18446744073709551616=2^t*(2*2^(63-t)):=by rw [hW,←Nat.pow_succ',←Y4];congr 1;omega
  have h2:18446744073709551616*r=2^t*(2*2^(63-t)*r):=by rw [←Zw,←h1]
  rw [h2]
  conv=>lhs;rw [hm]
  rw [←Zt];congr 1;rw [Zt,Zw];omega
 rw [e,Hw]
theorem lf (a:ByteArray) (w:World) (ha:a.size≤1000000000) (hT:e8 w):
  Calls Tryz.prog 118 #[.string a] w fun e w'=>e=.returned (.int .i64 (tz (bN a)))∧Below w.heap.size w w':=by
 have hh:=Hp.start w;have h1:=gI a;refine ak (N:=21) (l:=[.string a]) Tryz.func118 rfl rfl (by simp) ?_;refine sr (aI (aa (ai (sr (mS ?_)))));refine tB ?_;rintro e_ w6 ⟨A6,c6,rfl,hown_,hb_⟩;refine ⟨_,rfl, ?_⟩;replace hh:=hh.aY (x:=.row _ _ _ _ _ _) hb_ hown_;have hxd:=j1 (bN a);have hX:=ik (bN a);generalize a9 18446744073709551616 (bN a)=xs at*;refine aK (mI (aa (av ?_)));refine aT [2,3,4,8,9,10,11,12,13,14,15,16,17,18,19,20] 8
  (fun v w'=>∃(i:Nat),i≤xs.length∧v=.int .i64 i∧bR 18446744073709551616 (xs.take i)=0∧Hp w [.row (some ⟨A6,0,none⟩) xs.length c6 151 1 (dF xs)] w')
  (fun v _=>xs.length-(intOf v).toNat) ?_ ?_
 ·exact ⟨0,YD _,rfl,rfl,hh⟩
 ·clear hh;rintro ρ' v w' ⟨i,hi,rfl,hz,hh⟩;by_cases hlt:i<xs.length
  ·obtain ⟨d,hm⟩:=ao (l:=xs) (k:=i) Yv;have hm2:=eX hm;have hmw:=hxd.at_ hm;by_cases h0:d=0
   ·subst h0;refine sr ?_;refine e9 ?_;refine gD ?_;refine jY ?_;refine aI (aI (aa (sr (mI ?_))));refine db (aa (cF (au (bM (aj (ar ?_))))));refine bm (mI (aE (aj ?_)));refine ⟨⟨i+1,Yv,rfl,by rw [fq hm,hz];simp,hh⟩,by show xs.length-(i+1)<xs.length-i;omega, ?_⟩;exact dO
   ·have htz:tz (bN a)=64*i+tz d:=by
     have h3:=jU (B:=18446744073709551616) xs i Yv;have h4:=(YQ.1 hm);rw [hz,ZR hlt,h4.2,bR,hX,Y0] at h3;exact OR h0 hmw h3
    have ht:tz d<64:=yo h0 (by simpa using hmw);refine sr ?_;refine e9 ?_;refine gD ?_;refine jY ?_;refine aI (aI (aa (sr (mI ?_))));refine db (aa (cT (sr (mI ?_))));refine mulC (mI ?_);refine bA hh (FA _ _ hmw h0 (hT.hp hh)) rfl ?_;intro w18 hh;refine bm (aI (aa (ay (cm (aN (aN (cm (aN ?_))))))));refine dh ?_;refine ⟨?_,hh.below⟩;congr 2;omega
  ·refine sr ?_;refine Iw ?_;refine dh ?_;rw [YG Yv,hX] at hz;rw [hz];exact ⟨rfl,hh.below⟩
theorem O9 {x y:Nat} (hx:x<18446744073709551616^k) (hy:y<18446744073709551616^k):bR 18446744073709551616 (iY 18446744073709551616 (a9 18446744073709551616 x++List.replicate (k+1-(a9 18446744073709551616 x).length) 0) (a9 18446744073709551616 y) 1 0)=x+y:=by
 have hl:=jh (B:=18446744073709551616) Yv hx;have h1:bR 18446744073709551616 (a9 18446744073709551616 x++List.replicate (k+1-(a9 18446744073709551616 x).length) 0)=x:=by rw [fu,tf,ik];simp
 have h2:(a9 18446744073709551616 x++List.replicate (k+1-(a9 18446744073709551616 x).length) 0).length=k+1:=by rw [YK,ZX];omega
 rw [yz Yv,h1,ik]
 ·omega
 ·rw [h1,h2,ik,Zn];have:0<18446744073709551616^k:=Zd Yw;omega
theorem sU (l:List Nat) (x:Nat):(l++[x]).sum=l.sum+x:=by simp
theorem Al (L:Option Addr) (n c:Nat) (ss:List ByteArray) (w:World) (hS:Sl w L n 1 (iw ss)) (hn:n≤1000000) (hs:∀s∈ss,s.size≤1000000000):
  Calls Tryz.prog 190 #[.slice L n c] w fun e w'=>e=.returned (.string (sN (ss.map bN).sum))∧Below w.heap.size w w':=by
 have hsl:ss.length=n:=by have:=hS.1;rw [nH] at this;omega
 have hh:=Hp.start w;refine ak (N:=31) (l:=[.slice L n c]) Tryz.func190 rfl rfl (by simp) ?_;refine sr (aS (aa (sr (aL (aa (ai (sr (mL (aK (mI (aa (av ?_))))))))))));replace hh:=hh.cN 151 1;refine bC [3,5,6,9,10,11,12,13,14,15,16,17,18,19,20,21,22,23,24,25,26,27,28] 3 9
  (fun v j w'=>∃(i:Nat) (A:Option Addr) (c' T:Nat),i≤n∧j=.int .i64 i∧T=((ss.take i).map bN).sum∧v=.slice A (a9 18446744073709551616 T).length c'∧(a9 18446744073709551616 T).length≤125000001+i∧Hp w [.row A (a9 18446744073709551616 T).length c' 151 1 (dF (a9 18446744073709551616 T))] w')
  (fun _ j _=>n-(intOf j).toNat) ?_ ?_
 ·exact ⟨0,none,0,0,YD _,rfl,rfl,by rw [hU Yv];rfl,by rw [hU Yv];simp,by rw [hU Yv];exact hh⟩
 ·clear hh;rintro ρ' v j w' ⟨i,A,c',T,hi,rfl,hT,rfl,hTl,hh⟩;by_cases hlt:i<n
  ·obtain ⟨s,hsi⟩:=ao (l:=ss) (k:=i) Yv;obtain ⟨ad,rfl,hr⟩:=hS.at_ Yv;have hs2:=sw hsi;have hsz:=hs s (YF hsi);have hlx:=gI s;have hT2:((ss.take (i+1)).map bN).sum=T+bN s:=by rw [aC hsi,Zq,abb,sU,hT]
   have e1:(if ((a9 18446744073709551616 (bN s)).length:Int)>((a9 18446744073709551616 T).length:Int) then ((a9 18446744073709551616 (bN s)).length:Int) else ((a9 18446744073709551616 T).length:Int))+1=((max (a9 18446744073709551616 T).length (a9 18446744073709551616 (bN s)).length+1:Nat):Int):=by split<;>omega
   have hb1:T<18446744073709551616^max (a9 18446744073709551616 T).length (a9 18446744073709551616 (bN s)).length:=ZC (rA Yv T) (Zf Yw (Nat.le_max_left _ _));have hb2:bN s<18446744073709551616^max (a9 18446744073709551616 T).length (a9 18446744073709551616 (bN s)).length:=ZC (rA Yv (bN s)) (Zf Yw (Nat.le_max_right _ _));have hadd:=O9 hb1 hb2;refine sr ?_;refine eC ?_;refine dm bo.out aU.size rfl rfl rfl Yv Yw ?_;refine iD ?_;refine aS (aa (sr (mS ?_)));refine aJ (qh s _ hsz) aw.out rfl Yw ?_;rintro e_ w14 ⟨A14,c14,rfl,hown_,hb_⟩;refine ⟨_,rfl, ?_⟩;replace hh:=hh.aY (x:=.row _ _ _ _ _ _) hb_ hown_;refine aL (aa (sr (mL (mL (aK (mL (aK ?_)))))));refine lL rfl rfl Yw ?_;refine bm ?_;rw [e1];generalize hM:max (a9 18446744073709551616 T).length (a9 18446744073709551616 (bN s)).length=M at*;refine aJ (pZ _ _ _ (M+1) _ _ (hh.aG (i:=1) rfl) Yv Yv) aw.out rfl Yw ?_;rintro e_ w_ ⟨b22,rfl,hown_,hb_⟩;refine ⟨_,rfl, ?_⟩;replace hh:=hh.aY (x:=.row _ _ _ _ _ _) hb_ hown_;have e2:max (M+1) (a9 18446744073709551616 T).length=M+1:=Yv;rw [e2] at hh;rw [e2]
   refine aL (aa (sr (mL (mL ?_))));have hc:=EE (c':=M+1) (ny:=(a9 18446744073709551616 (bN s)).length) (cy:=c14) (Y:=some ⟨A14,0,none⟩) [] (a9 18446744073709551616 T++List.replicate (M+1-(a9 18446744073709551616 T).length) 0) [] (a9 18446744073709551616 (bN s)) _ (by rw [Y9,YH];exact hh) (fun w1 cs h=>h.aG (i:=1) rfl) ((j1 _).append (Dg.gY Yv _)) (j1 _) (by rw [YK,ZX];omega) Yv;have e3:(a9 18446744073709551616 T++List.replicate (M+1-(a9 18446744073709551616 T).length) 0).length=M+1:=by rw [YK,ZX];omega
   rw [e3,Y9,YH] at hc;refine aJ (hc) aw.out rfl Yw ?_;rintro e_ w_ ⟨rfl,hh⟩;refine ⟨_,rfl, ?_⟩;have hpl:(iY 18446744073709551616 (a9 18446744073709551616 T++List.replicate (M+1-(a9 18446744073709551616 T).length) 0) (a9 18446744073709551616 (bN s)) 1 0).length=M+1:=by rw [rJ,e3]
   have hpd:=BB (B:=18446744073709551616) Yv (a9 18446744073709551616 T++List.replicate (M+1-(a9 18446744073709551616 T).length) 0) (a9 18446744073709551616 (bN s)) 1 0;generalize iY 18446744073709551616 (a9 18446744073709551616 T++List.replicate (M+1-(a9 18446744073709551616 T).length) 0) (a9 18446744073709551616 (bN s)) 1 0=Z at*;have hcz:eu Z=a9 18446744073709551616 (T+bN s):=by rw [jg Yv hpd,hadd]
   have hcl:=gi Z;refine aa (ar (mL ?_));refine bA hh (jd _ _ _ Z _ (hh.aG (i:=0) rfl) (YE _) Yv) rfl ?_;intro w27 hh;replace hh:=(hh.Il hpl).sub (aaG [_] _);rw [hcz] at*;refine mE ?_;refine bm (mI (aE (aj ?_)));refine ⟨⟨i+1,_,_,T+bN s,Yv,rfl,hT2.symm,rfl,Yv,hh⟩,by show n-(i+1)<n-i;omega, ?_⟩;exact dO
  ·refine sr ?_;refine qb ?_;refine bA hh (iV _ _ _ (a9 18446744073709551616 T) _ (hh.aG (i:=0) rfl) (j1 _) (hh.fQ (i:=0) rfl) Yv) rfl ?_;intro w30 hh;rw [ik];exact QV
theorem Fi (s:ByteArray) (l h:Nat):s.extract l h=str ((s.data.toList.take h).drop l):=by
 apply sW;rw [dY];simp [ByteArray.extract,ByteArray.copySlice,List.drop_take]
def Un:Value→Nat
 |.string t=>t.size
 |_=>0
theorem wk (s:ByteArray) (w:World):
  Calls Tryz.prog 218 #[.string s,.int .u8 ((0:UInt8).toNat:Int)] w fun e w'=>e=.returned (.string (sN (bN s)))∧Below w.heap.size w w':=by
 have hh:=Hp.start w;refine ak (N:=17) (l:=[.string s,.int .u8 ((0:UInt8).toNat:Int)]) Tryz.func218 rfl rfl (by simp) ?_;refine sr (aS (aa (ai (av ?_))));refine aT [0,5,6,7,8,9,10,11,12,13,14,15] 0
  (fun v w'=>∃l:List UInt8,v=.string (str l)∧l.length≤s.size∧bn l=bN s∧w'=w)
  (fun v _=>Un v) ?_ ?_
 ·exact ⟨s.data.toList,by rw [TH];rfl,by rw [dP];exact YE _,rfl,rfl⟩
 ·rintro ρ' v w' ⟨l,rfl,hl,hb,rfl⟩;have hsz:=jm l
  cases l with
  |nil=>
   refine ai (sr (mS ?_));refine bP bo.out rfl Yw ?_;refine bT (mB ?_);refine gS (gS (gS (gS ?_)));refine dX ?_;refine aa (cF (a6 (aH (aH (bB (aj (sr (mS (aS (aa (ay ?_)))))))))));refine dh ?_;rw [sN,←hb];exact ⟨rfl,hh.below⟩
  |cons c l=>
   have hc0:(str (c::l)).data.toList[(0:Int).toNat]?=some c:=by rw [dY];rfl
   have hc8:=c.toNat_lt;have hlen:(str (c::l)).size=l.length+1:=by rw [hsz];rfl
   have hz:(0:UInt8).toNat=0:=rfl;by_cases h0:c=0
   ·subst h0;refine ai (sr (mS ?_));refine bP bo.out rfl Yw ?_;refine bT (mB (gT (mS (gT ?_))));refine j4 ?_;refine gT (mI (gT ?_));refine di ?_;refine fG ?_;refine aa (cT (au (aj (av (ar (mS ?_))))));refine tN (l:=1) (h:=(str ((0:UInt8)::l)).size) bo.out rfl ⟨_,_,rfl,Yv⟩ rfl Yv Yv Yw ?_;refine aS (aE (bM (aj ?_)));rw [Fi,dY,YG (by rw [hlen];simp),List.drop_succ_cons,abt];refine ⟨⟨l,rfl,by simp at hl;omega,by rw [←hb,MV],rfl⟩, ?_, ?_⟩
    ·show (str l).size<(str (0::l)).size;rw [hlen,jm];omega
    exact Yy
   ·have hcn:c.toNat≠0:=fun h=>h0 (abq.1 h);refine ai (sr (mS ?_));refine bP bo.out rfl Yw ?_;refine bT (mB (gT (mS (gT ?_))));refine j4 ?_;refine gT (mI (gT ?_));refine di ?_;refine fG ?_;refine aa (cF (a6 (aH (aH (bB (aj (sr (mS (aS (aa (ay ?_)))))))))));refine dh ?_;rw [sN,←hb,V8 (by simpa using h0)];exact ⟨rfl,hh.below⟩
theorem wU (s:ByteArray) (w:World):
  Calls Tryz.prog 199 #[.string s,.string (ByteArray.mk #[0])] w fun e w'=>e=.returned (.string (sN (bN s)))∧Below w.heap.size w w':=by
 have hh:=Hp.start w;have hne:¬ByteArray.mk #[(0:UInt8)]=ByteArray.mk #[]:=by intro h;injection h with h;simp at h
 have hsz1:(ByteArray.mk #[(0:UInt8)]).size=1:=rfl;have hc0:(ByteArray.mk #[(0:UInt8)]).data.toList[(0:Int).toNat]?=some 0:=rfl;have hz:(0:UInt8).toNat=0:=rfl;by_cases h0:s=ByteArray.mk #[]
 ·subst h0;refine ak (N:=37) (l:=[.string (ByteArray.mk #[]),.string (ByteArray.mk #[0])]) Tryz.func199 rfl rfl (by simp) ?_;refine sr (aS (aa (ai (sr (mS ?_)))));refine iS rfl rfl (by first|rfl|assumption|decide) Yw ?_;refine mB ?_;refine gS (gS ?_);refine fG ?_;refine aa (cT (sr (mS (aS (aa (ay (aN ?_)))))));refine dh ?_;rw [show bN (ByteArray.mk #[])=0 from rfl,pw];exact ⟨rfl,hh.below⟩
 ·refine ak (N:=37) (l:=[.string s,.string (ByteArray.mk #[0])]) Tryz.func199 rfl rfl (by simp) ?_;refine sr (aS (aa (ai (sr (mS ?_)))));refine jb rfl rfl (by first|assumption|decide) Yw ?_;refine mB (gT (mS (gT ?_)))
  (first|refine iS rfl rfl (by first|rfl|assumption|decide) Yw ?_|refine jb rfl rfl (by first|assumption|decide) Yw ?_)
  refine dX ?_;refine aa (cF (au (aj (ai (sr (mS ?_))))));refine bP bo.out rfl Yw ?_;refine di (mB (gT (mS (gT ?_))));refine j4 ?_;refine gT ?_;refine a8 ?_;refine fG ?_;refine aa (cT (sr (mS (mS ?_))));refine j4 ?_;refine bA hh (wk s _) rfl ?_;intro w25 hh;refine aS (aa (ay (aN ?_)));refine dh ?_;exact ⟨rfl,hh.below⟩
theorem lZ (s:ByteArray) (w:World):
  Calls Tryz.prog 168 #[.string s] w fun e w'=>e=.returned (.string (sN (bN s)))∧Below w.heap.size w w':=by
 have hh:=Hp.start w;refine ak (N:=5) (l:=[.string s]) Tryz.func168 rfl rfl (by simp) ?_;refine sr (aS (aa (sr (mS ?_))));refine bA hh (wU s _) rfl ?_;intro w4 hh;exact Bv
variable {z:Int}
def iv (s:Bool) (m:ByteArray):Int:=if s then -(bN m:Int) else bN m
def iN (z:Int):Bool:=decide (z<0)
def iM (z:Int):ByteArray:=sN z.natAbs
theorem fL (z:Int):iv (iN z) (iM z)=z:=by
 unfold iv iN iM;rw [fD];by_cases h:z<0
 ·rw [YV h,YA rfl];omega
 ·rw [Y3 h,YB (by simp)];omega
theorem uo:iM z=ByteArray.mk #[]↔z=0:=by
 rw [iM,←pw];constructor
 ·intro h;have:=Mz h;omega
 ·intro h;rw [h];rfl
theorem jP (s:Bool) (m:ByteArray):(iv s m).natAbs=bN m:=by
 unfold iv;split<;>omega
theorem HL (s:Bool) (m:ByteArray):iM (iv s m)=sN (bN m):=by rw [iM,jP]
theorem Qu (s:Bool) (m:ByteArray):iN (iv s m)=(s && decide (bN m≠0)):=by
 unfold iN iv;rw [Bool.eq_iff_iff,YU,YY,YY]
 cases s
 ·simp only [abG,if_false,false_and,iff_false];omega
 ·simp only [if_true,true_and];omega
theorem kH (s:Bool) (m:ByteArray) (w:World):
  Calls Tryz.prog 155 #[.agg #[.bool s,.string m]] w fun e w'=>e=.returned (.agg #[.string m,.bool s])∧Below w.heap.size w w':=by
 have hh:=Hp.start w;refine ak (N:=8) (l:=[.agg #[.bool s,.string m]]) Tryz.func155 rfl rfl (by simp) ?_;refine sr ?_;refine cu hh [_,_] ?_;intro b1 w1 hh;refine bW hh ?_;intro b2 w2 hh;refine aa (sr (bJ ?_));refine bG hh 1 ?_;refine bJ ?_;refine bG hh 1 ?_;refine fH [_,_] ?_;exact N4
theorem dR (s:Bool) (m:ByteArray) (w:World):
  Calls Tryz.prog 121 #[.agg #[.string m,.bool s]] w fun e w'=>e=.returned (.agg #[.bool (iN (iv s m)),.string (iM (iv s m))])∧Below w.heap.size w w':=by
 have hh:=Hp.start w;rw [Qu,HL]
 cases s with
 |false=>
  refine ak (N:=15) (l:=[.agg #[.string m,.bool false]]) Tryz.func121 rfl rfl (by simp) ?_;refine sr ?_;refine cu hh [_,_] ?_;intro b1 w1 hh;refine bW hh ?_;intro b2 w2 hh;refine aa (sr (bJ ?_));refine bG hh 1 ?_;refine bA hh (lZ m _) rfl ?_;intro w6 hh;refine aS (aa (sr (bJ ?_)));refine bG hh 1 ?_;refine mB ?_;refine gS (gS ?_);refine dX ?_;refine mS ?_;refine fH [_,_] ?_;exact N4
 |true=>
  by_cases h0:sN (bN m)=ByteArray.mk #[]
  ·refine ak (N:=15) (l:=[.agg #[.string m,.bool true]]) Tryz.func121 rfl rfl (by simp) ?_;refine sr ?_;refine cu hh [_,_] ?_;intro b1 w1 hh;refine bW hh ?_;intro b2 w2 hh;refine aa (sr (bJ ?_));refine bG hh 1 ?_;refine bA hh (lZ m _) rfl ?_;intro w6 hh;refine aS (aa (sr (bJ ?_)));refine bG hh 1 ?_;refine mB (gT (mS (gT ?_)))
   (first|refine lP rfl rfl (by first|rfl|assumption|decide) Yw ?_|refine lT rfl rfl (by first|assumption|decide) Yw ?_)
   refine fG ?_;refine mS ?_;refine fH [_,_] ?_;refine bV hh 0 [_,_] ?_;intro ws hh;replace hh:Hp _ (.blk _ _ [_,_] _::_) _:=hh;refine aa (ay ?_);refine rq ?_;exact Sn
  ·refine ak (N:=15) (l:=[.agg #[.string m,.bool true]]) Tryz.func121 rfl rfl (by simp) ?_;refine sr ?_;refine cu hh [_,_] ?_;intro b1 w1 hh;refine bW hh ?_;intro b2 w2 hh;refine aa (sr (bJ ?_));refine bG hh 1 ?_;refine bA hh (lZ m _) rfl ?_;intro w6 hh;refine aS (aa (sr (bJ ?_)));refine bG hh 1 ?_;refine mB (gT (mS (gT ?_)))
   (first|refine lP rfl rfl (by first|rfl|assumption|decide) Yw ?_|refine lT rfl rfl (by first|assumption|decide) Yw ?_)
   refine fG ?_;refine mS ?_;refine fH [_,_] ?_;refine bV hh 0 [_,_] ?_;intro ws hh;replace hh:Hp _ (.blk _ _ [_,_] _::_) _:=hh;refine aa (ay ?_);refine rq ?_;exact QP
def XL (s:Bool) (m:ByteArray):Value:=.agg #[.string m,.bool s]
theorem wh (a b:ByteArray) (w:World) (ha:a.size≤1000000000) (hb:b.size≤1000000000):
  Calls Tryz.prog 191 #[.string a,.string b] w fun e w'=>e=.returned (.int .i64 (mg (bN a) (bN b)))∧Below w.heap.size w w':=by
 have hh:=Hp.start w;refine ak (N:=8) (l:=[.string a,.string b]) Tryz.func191 rfl rfl (by simp) ?_;refine sr (aI (aa (sr (mS (mS ?_)))));refine bA hh (Aq a b _ ha hb) rfl ?_;intro w7 hh;exact xA
theorem nZ (s:Bool) (m:ByteArray) (w:World):
  Calls Tryz.prog 160 #[.agg #[.bool s,.string m]] w fun e w'=>e=.returned (.agg #[.bool (iN (iv s m)),.string (iM (iv s m))])∧Below w.heap.size w w':=by
 have hh:=Hp.start w;refine ak (N:=6) (l:=[.agg #[.bool s,.string m]]) Tryz.func160 rfl rfl (by simp) ?_;refine sr ?_;refine cu hh [_,_] ?_;intro b1 w1 hh;refine bW hh ?_;intro b2 w2 hh;refine aa (sr ?_);refine cC hh 1 [_,_] ?_;refine bA hh (kH s m _) rfl ?_;intro w4 hh;refine bA hh (dR s m _) rfl ?_;intro w5 hh;exact N4
theorem wM (s:Bool) (m:ByteArray) (w:World):
  Calls Tryz.prog 127 #[.agg #[.bool s,.string m]] w fun e w'=>e=.returned (.agg #[.bool (iN (-(iv s m))),.string (iM (-(iv s m)))])∧Below w.heap.size w w':=by
 have hh:=Hp.start w;have e1:iv (!s) m= -(iv s m):=by unfold iv;cases s<;>simp
 refine ak (N:=10) (l:=[.agg #[.bool s,.string m]]) Tryz.func127 rfl rfl (by simp) ?_;refine sr ?_;refine cu hh [_,_] ?_;intro b1 w1 hh;refine bW hh ?_;intro b2 w2 hh;refine aa (sr (bJ ?_));refine bG hh 1 ?_;refine bJ ?_;refine bG hh 1 ?_;refine fV ?_;refine fH [_,_] ?_;refine bA hh (dR (!s) m _) rfl ?_;intro w9 hh;rw [e1];exact N4
theorem lF (s:Bool) (m:ByteArray) (w:World):
  Calls Tryz.prog 117 #[.agg #[.bool s,.string m]] w fun e w'=>e=.returned (.int .i64 (iv s m).sign)∧Below w.heap.size w w':=by
 have hh:=Hp.start w;by_cases h1:iv s m<0
 ·have hn:iN (iv s m)=true:=YV h1;refine MK ?_;refine sr ?_;refine cu hh [_,_] ?_;intro b1 w1 hh;refine aI (aa (sr ?_));refine cC hh 0 [_,_] ?_;refine bA hh (nZ s m _) rfl ?_;intro w5 hh;rw [hn];refine bW hh ?_;intro b3 w3 hh;refine bV hh 0 [_,_] ?_;intro ws hh;replace hh:Hp _ (.blk _ _ [_,_] _::_) _:=hh;refine aa (ai (av (sr (bJ ?_))));refine bG hh 0 ?_;refine Gm ?_;refine dh ?_;exact ⟨by rw [Z7 h1],hh.below⟩
 ·have hn:iN (iv s m)=false:=Y3 h1;by_cases h0:iM (iv s m)=ByteArray.mk #[]
  ·refine MK ?_;refine sr ?_;refine cu hh [_,_] ?_;intro b1 w1 hh;refine aI (aa (sr ?_));refine cC hh 0 [_,_] ?_;refine bA hh (nZ s m _) rfl ?_;intro w5 hh;rw [hn];refine bW hh ?_;intro b3 w3 hh;refine bV hh 0 [_,_] ?_;intro ws hh;replace hh:Hp _ (.blk _ _ [_,_] _::_) _:=hh;refine aa (ai (av (sr (bJ ?_))));refine bG hh 0 ?_;refine aB (aa (cF (sr (bJ ?_))));refine bG hh 0 ?_;refine iS rfl rfl (by first|rfl|assumption|decide) Yw ?_;refine Gm ?_;refine dh ?_;exact ⟨by rw [uo.1 h0];rfl,hh.below⟩
  ·have h2:0<iv s m:=by
    have:iv s m≠0:=fun h=>h0 (uo.2 h);omega
   refine MK ?_;refine sr ?_;refine cu hh [_,_] ?_;intro b1 w1 hh;refine aI (aa (sr ?_));refine cC hh 0 [_,_] ?_;refine bA hh (nZ s m _) rfl ?_;intro w5 hh;rw [hn];refine bW hh ?_;intro b3 w3 hh;refine bV hh 0 [_,_] ?_;intro ws hh;replace hh:Hp _ (.blk _ _ [_,_] _::_) _:=hh;refine aa (ai (av (sr (bJ ?_))));refine bG hh 0 ?_;refine aB (aa (cF (sr (bJ ?_))));refine bG hh 0 ?_;refine jb rfl rfl (by first|assumption|decide) Yw ?_;refine aB (aa (cF (au (bM (aj (sr (aI (aa (ay ?_)))))))));refine dh ?_;exact ⟨by rw [aac h2],hh.below⟩
theorem dV (z:Int):(iM z).size=(bX z.natAbs+7)/8:=ky _
def yH (s t:Bool) (a b:ByteArray):Bool:=if s=t then s else if bN a<bN b then t else s
theorem O4 (s t:Bool) (a b:ByteArray):iv (yH s t a b) (iM (iv s a+iv t b))=iv s a+iv t b:=by
 unfold iM iv;rw [fD];unfold yH
 cases s<;>cases t<;>simp<;>(try split)<;>(try simp)<;>omega
theorem uW (s t:Bool) (a b:ByteArray):iv (s !=t) (iM (iv s a*iv t b))=iv s a*iv t b:=by
 rw [iM,aaq,jP,jP];unfold iv;rw [fD]
 cases s<;>cases t<;>simp [Int.mul_neg,Int.neg_mul]
theorem CK (s t:Bool) (a b:ByteArray) (w:World) (ha:a.size≤1000000000) (hb:b.size≤1000000000):
  Calls Tryz.prog 158 #[.agg #[.string a,.bool s],.agg #[.string b,.bool t]] w fun e w'=>e=.returned (.agg #[.string (iM (iv s a+iv t b)),.bool (yH s t a b)])∧Below w.heap.size w w':=by
 have hh:=Hp.start w;have hiv:∀(u:Bool) (n:Nat) (z:Int),(z=if u then -(n:Int) else n)→sN n=iM z:=by
  intro u n z hz;have h1:z.natAbs=n:=by rw [hz];split<;>omega
  rw [iM,h1]
 by_cases hst:s=t
 ·subst hst;have e1:=hiv s (bN a+bN b) (iv s a+iv s b) (by unfold iv;split<;>omega);refine ak (N:=41) (l:=[.agg #[.string a,.bool s],.agg #[.string b,.bool s]]) Tryz.func158 rfl rfl (by simp) ?_;refine sr ?_;refine cu hh [_,_] ?_;intro b2 w2 hh;refine cu hh [_,_] ?_;intro b3 w3 hh;refine bW hh ?_;intro b4 w4 hh;refine aa (ai (sr (bJ ?_)));refine bG hh 2 ?_;refine bJ ?_;refine bG hh 1 ?_;refine Hq bo.out rfl rfl (by first|rfl|assumption) Yw ?_;refine aa (cT (ai ?_));refine aW 8 [[(2,none)],[(12,some 0)],[(3,none)],[(14,some 2)],[(13,some 1),(15,some 3)],[(16,some 4)],[(2,none)],[(18,some 6)]] [(7,19),(6,18),(5,17),(4,16),(3,15),(2,14),(1,13),(0,12)] hh mixed Yx ?_;refine cX ?_;refine dT 2 ?_;refine cX ?_;refine dT 1 ?_;refine pL [_,_] ?_;refine aO (i:=5) (Is (.string (sN (bN a+bN b)))) Is.ext ?_ ?_
  ·intro ρ1 w1 hj hR;obtain ⟨A16,c16,h16,s16⟩:=hR.1;exact bk rfl (aV aw.out (az h16 bf)) (Al A16 2 c16 [a,b] _ s16 Yv (by simp;omega)) (fun _ _ hq=>⟨_,hq.1,hq.2,rfl⟩)
  refine cX ?_;refine dT 2 ?_;refine aM ?_;intro f W hJ hV;have hb_2:=hJ.bl;obtain ⟨v19,v18,v17,v16,v15,v14,v13,v12,_⟩:=hV;obtain ⟨A16,c16,e16,f16⟩:Rows _ _ _ (f 4) W:=v16;replace hh:=hJ.hp;refine aQ (bg (ae v19 (ae v18 (ae v17 (ae e16 (ae v15 (ae v14 (ae v13 (ae v12 aR))))))))) ?_;dsimp only [bO];clear e16 hJ;refine fH [_,_] ?_;refine bV hh 0 [_,_] ?_;intro ws hh;replace hh:Hp _ (.blk _ _ [_,_] _::_) _:=hh;refine aa (ay (aN ?_));refine rq ?_;rw [e1,yH,YA rfl];exact ⟨rfl,hh.below⟩
 ·by_cases hlt:bN a<bN b
  ·have e1:=hiv t (bN b-bN a) (iv s a+iv t b) (by unfold iv;cases s<;>cases t<;>simp at hst ⊢ <;>omega);refine ak (N:=41) (l:=[.agg #[.string a,.bool s],.agg #[.string b,.bool t]]) Tryz.func158 rfl rfl (by simp) ?_;refine sr ?_;refine cu hh [_,_] ?_;intro b2 w2 hh;refine cu hh [_,_] ?_;intro b3 w3 hh;refine bW hh ?_;intro b4 w4 hh;refine aa (ai (sr (bJ ?_)));refine bG hh 2 ?_;refine bJ ?_;refine bG hh 1 ?_;refine IA ?_;refine Bx ?_;refine bG hh 2 ?_;refine bJ ?_;refine bG hh 1 ?_;refine bA hh (wh a b _ ha hb) rfl ?_;intro w25 hh;rw [np hlt];refine a8 (aa (cT (ar ?_)));refine cC hh 1 [_,_] ?_;refine cC hh 2 [_,_] ?_;refine bV hh 2 [_,_] ?_;intro ws hh;replace hh:Hp _ (_::_::.blk _ _ [_,_] _::_) _:=hh;refine bV hh 1 [_,_] ?_;intro ws hh;replace hh:Hp _ (_::.blk _ _ [_,_] _::_) _:=hh;refine aa (sr (bJ ?_));refine bG hh 2 ?_;refine bJ ?_;refine bG hh 1 ?_;refine bA hh (rQ b a _ hb ha) rfl ?_;intro w34 hh;refine mT ?_;refine dx ?_;refine dx ?_;refine aS (aB (aa (sr (mS (bJ ?_)))));refine bG hh 2 ?_;refine fH [_,_] ?_;refine bV hh 0 [_,_] ?_;intro ws hh;replace hh:Hp _ (.blk _ _ [_,_] _::_) _:=hh;refine aa (ay ?_);refine rq ?_
   rw [e1,yH,YB hst,YA hlt];exact ⟨rfl,hh.below⟩
  ·have e1:=hiv s (bN a-bN b) (iv s a+iv t b) (by unfold iv;cases s<;>cases t<;>simp at hst ⊢ <;>omega);have hc:¬mg (bN a) (bN b)<0:=by unfold mg;split<;>(try split)<;>omega
   refine ak (N:=41) (l:=[.agg #[.string a,.bool s],.agg #[.string b,.bool t]]) Tryz.func158 rfl rfl (by simp) ?_;refine sr ?_;refine cu hh [_,_] ?_;intro b2 w2 hh;refine cu hh [_,_] ?_;intro b3 w3 hh;refine bW hh ?_;intro b4 w4 hh;refine aa (ai (sr (bJ ?_)));refine bG hh 2 ?_;refine bJ ?_;refine bG hh 1 ?_;refine IA ?_;refine Bx ?_;refine bG hh 2 ?_;refine bJ ?_;refine bG hh 1 ?_;refine bA hh (wh a b _ ha hb) rfl ?_;intro w25 hh;refine a8 (aa (cF (au (aj (sr (bJ ?_))))));refine bG hh 2 ?_;refine bJ ?_;refine bG hh 1 ?_;refine bA hh (rQ a b _ ha hb) rfl ?_;intro w34 hh;refine mT ?_;refine dx ?_;refine dx ?_;refine aS (aB (aa (sr (mS (bJ ?_)))));refine bG hh 2 ?_;refine fH [_,_] ?_;refine bV hh 0 [_,_] ?_;intro ws hh;replace hh:Hp _ (.blk _ _ [_,_] _::_) _:=hh;refine aa (ay ?_);refine rq ?_;rw [e1,yH,YB hst,YB hlt];exact ⟨rfl,hh.below⟩
theorem rH (s t:Bool) (a b:ByteArray) (w:World) (ha:a.size≤1000000000) (hb:b.size≤1000000000):
  Calls Tryz.prog 156 #[.agg #[.string a,.bool s],.agg #[.string b,.bool t]] w fun e w'=>e=.returned (.agg #[.string (iM (iv s a*iv t b)),.bool (s !=t)])∧Below w.heap.size w w':=by
 have hh:=Hp.start w;have e0:(iv s a*iv t b).natAbs=bN a*bN b:=by rw [aaq,jP,jP]
 have e1:iM (iv s a*iv t b)=sN (bN a*bN b):=by rw [iM,e0]
 refine ak (N:=16) (l:=[.agg #[.string a,.bool s],.agg #[.string b,.bool t]]) Tryz.func156 rfl rfl (by simp) ?_;refine sr ?_;refine cu hh [_,_] ?_;intro b2 w2 hh;refine cu hh [_,_] ?_;intro b3 w3 hh;refine bW hh ?_;intro b4 w4 hh;refine aa (ai ?_);refine KN ?_;refine cX ?_;refine dT 2 ?_;refine cX ?_;refine dT 1 ?_;refine dC (fun _ hj=>AW a b _ ha hb) ?_;refine cX ?_;refine dT 2 ?_;refine cX ?_;refine dT 1 ?_;refine bu (i:=9) (fun ρ1 w1 hj hR=>mQ bo.out (show ρ1 11=Value.bool _ from hR.1) (show ρ1 13=Value.bool _ from hR.2.1)) ?_;refine aM ?_;intro f W hJ hV;have hb_1:=hJ.bl;obtain ⟨v14,v13,v12,v11,v10,v9,v8,v7,v6,v5,_⟩:=hV;replace hh:=hJ.hp;refine G1 ?_;dsimp only [bO];clear hJ;refine fH [_,_] ?_;refine bV hh 0 [_,_] ?_;intro ws hh;replace hh:Hp _ (.blk _ _ [_,_] _::_) _:=hh;refine aa (ay ?_);refine rq ?_;rw [e1];exact ⟨rfl,hh.below⟩
theorem pj (n:Int) (w:World) (h1: -9223372036854775808≤n) (h2:n≤9223372036854775807):
  Calls Tryz.prog 69 #[.int .i64 n] w fun e w'=>e=.returned (.agg #[.bool (iN n),.string (iM n)])∧Below w.heap.size w w':=by
 have hh:=Hp.start w;by_cases h0:n<0
 ·have e1:iv true (sN n.natAbs)=n:=by unfold iv;rw [fD,YA rfl];omega
  have hw:IntKind.u64.wrap n=((18446744073709551616-n.natAbs:Nat):Int):=by
   rw [show n=((18446744073709551616-n.natAbs:Nat):Int)+ -((18446744073709551616:Nat):Int) by omega];have:=UK.wrap_add (k:=.u64) (((18446744073709551616-n.natAbs:Nat):Int)+ -((18446744073709551616:Nat):Int));rw [←this,Int.neg_add_cancel_right,UK.qX Yv];omega
  have hn:(18446744073709551616-(18446744073709551616-n.natAbs)) % 18446744073709551616=n.natAbs:=Yv;refine ak (N:=16) (l:=[.int .i64 n]) Tryz.func69 rfl rfl (by simp) ?_;refine sr ?_;refine bW hh ?_;intro b2 w2 hh;refine aa (ai (sr (mI ?_)));refine a8 (aa (cT (sr (mI ?_))));refine ql bo.out bo.out rfl Yw ?_;rw [hw];refine Ky rfl Yv Yw ?_;rw [hn];skip;refine bA hh (tO n.natAbs _ Yv) rfl ?_;intro w8 hh;refine fH [_,_] ?_;refine bA hh (dR true (sN n.natAbs) _) rfl ?_;intro w10 hh;rw [e1];exact B2
 ·obtain ⟨m,rfl⟩:=abN (by omega:0≤n);have e1:iv false (sN m)=m:=by unfold iv;rw [fD];simp
  have hm:m<18446744073709551616:=Yv;refine ak (N:=16) (l:=[.int .i64 (m:Int)]) Tryz.func69 rfl rfl (by simp) ?_;refine sr ?_;refine bW hh ?_;intro b2 w2 hh;refine aa (ai (sr (mI ?_)));refine a8 (aa (cF (au (aj (sr (mI ?_))))));refine nu ?_;refine bA hh (tO m _ hm) rfl ?_;intro w13 hh;refine fH [_,_] ?_;refine bA hh (dR false (sN m) _) rfl ?_;intro w15 hh;rw [e1];exact N4
structure IR where
 neg:Bool
 bj:ByteArray
def IR.cells (a:IR):List Value:=[.bool a.neg,.string a.bj]
def IR.v (a:IR):Int:=iv a.neg a.bj
def iR (z:Int):IR:=⟨iN z,iM z⟩
theorem Vy (z:Int):(iR z).v=z:=fL z
theorem IR.len (a:IR):a.cells.length=2:=rfl
theorem nk (x y:Int):bX (x+y).natAbs≤max (bX x.natAbs) (bX y.natAbs)+1:=by
 apply eb;have h1:=dD x.natAbs;have h2:=dD y.natAbs;have h3:2^bX x.natAbs≤2^max (bX x.natAbs) (bX y.natAbs):=Zf Yv (Nat.le_max_left _ _);have h4:2^bX y.natAbs≤2^max (bX x.natAbs) (bX y.natAbs):=Zf Yv (Nat.le_max_right _ _);rw [Zn];omega
theorem iF (s:Bool) (m:ByteArray):bX (iv s m).natAbs≤8*m.size:=by rw [jP];exact fO m
theorem I8 (l:List Int) (x:Int):(l++[x]).sum=l.sum+x:=by simp
theorem vS (L:Option Addr) (n c:Nat) (l:List IR) (w:World) (hS:Sl w L n 2 (aD IR.cells l)) (hn:n≤1000000) (hs:∀s∈l,s.bj.size≤100000000):
  Calls Tryz.prog 113 #[.slice L n c] w fun e w'=>e=.returned (.agg #[.bool (iN (l.map IR.v).sum),.string (iM (l.map IR.v).sum)])∧Below w.heap.size w w':=by
 have hl:=hS.bh IR.len Yv;have hh:=Hp.start w;refine ak (N:=19) (l:=[.slice L n c]) Tryz.func113 rfl rfl (by simp) ?_;refine sr ?_;refine bW hh ?_;intro b2 w2 hh;refine aa (sr ?_);refine bW hh ?_;intro b3 w3 hh;refine yS ?_;refine aT [5,8,9,10,11,12,13,14,15,16] 8
  (fun j w'=>∃(i:Nat) (u:Bool) (S:Int),i≤n∧j=.int .i64 i∧S=((l.take i).map IR.v).sum∧iv u (iM S)=S∧bX S.natAbs≤800000000+i∧Hp w [.blk b3 153 [.string (iM S),.bool u] (0,0),.blk b2 38 [.bool false,.string (ByteArray.mk #[])] (0,0)] w')
  (fun j _=>n-(intOf j).toNat) ?_ ?_
 ·exact ⟨0,false,0,YD _,rfl,rfl,by rw [iM];exact Zz _ (fD 0),by simp [mJ],by rw [iM,Int.natAbs_zero,pw];exact hh⟩
 ·clear hh;rintro ρ' j w' ⟨i,u,S,hi,rfl,hS2,hu,hb,hh⟩;by_cases hlt:i<n
  ·obtain ⟨x,hx⟩:=ao (l:=l) (k:=i) Yv;obtain ⟨ad,rfl,hr⟩:=hS.at_ Yv;have hxs:=hs x (YF hx);have hS3:((l.take (i+1)).map IR.v).sum=S+x.v:=by rw [aC hx,Zq,abb,I8,hS2]
   have hms:(iM S).size≤1000000000:=by rw [dV];omega
   have hbx:=iF x.neg x.bj;have hba:=nk S x.v;have hpl:=O4 u x.neg (iM S) x.bj;rw [hu] at hpl;have hwc:=fun w1=>CK u x.neg (iM S) x.bj w1 hms Yv;rw [hu] at hwc;refine sr ?_;refine eC ?_;refine cE ?_;refine cG (vs:=[_,_]) aU.out rfl (((hr.ext hh.below).recAt IR.len hx)) rfl Yw ?_;refine bW hh ?_;intro b5 w5 hh;refine bV hh 0 [_,_] ?_;intro ws hh;replace hh:Hp _ (.blk _ _ [_,_] _::_) _:=hh;refine aa ?_;refine aW 3 [[(3,none)],[(5,none)],[(13,some 1)]] [(2,14),(1,13),(0,12)] hh mixed Yx ?_;refine ef 1 [_,_] ?_;refine ef 0 [_,_] ?_;refine dC (fun _ hj=>kH x.neg x.bj _) ?_;refine aM ?_;intro f W hJ hV;have hb_5:=hJ.bl;obtain ⟨v14,v13,v12,_⟩:=hV;replace hh:=hJ.hp;refine aQ (bg (ae v14 (ae v13 (ae v12 aR)))) ?_;dsimp only [bO];clear hJ;refine bA hh (hwc _) rfl ?_;intro w15 hh;exact QF
  ·refine sr ?_;refine oa ?_;refine cC hh 0 [_,_] ?_;refine bA hh (dR u (iM S) _) rfl ?_;intro w18 hh;exact UJ
theorem oG (s:Bool) (b:ByteArray):(iM (-(iv s b))).size≤b.size:=by
 have:=iF s b;rw [dV,Int.natAbs_neg];omega
theorem xe (s t:Bool) (a b:ByteArray) (w:World) (ha:a.size≤100000000) (hb:b.size≤100000000):
  Calls Tryz.prog 166 #[.agg #[.bool s,.string a],.agg #[.bool t,.string b]] w fun e w'=>e=.returned (.agg #[.bool (iN (iv s a-iv t b)),.string (iM (iv s a-iv t b))])∧Below w.heap.size w w':=by
 have hh:=Hp.start w;have h1:=oG t b;have e1:([IR.mk s a,iR (-(iv t b))].map IR.v).sum=iv s a-iv t b:=by
  simp only [Y1,Zp,List.sum_cons,List.sum_nil,Vy];simp only [IR.v];omega
 refine ak (N:=10) (l:=[.agg #[.bool s,.string a],.agg #[.bool t,.string b]]) Tryz.func166 rfl rfl (by simp) ?_;refine sr ?_;refine cu hh [_,_] ?_;intro b2 w2 hh;refine cu hh [_,_] ?_;intro b3 w3 hh;refine bW hh ?_;intro b4 w4 hh;refine aa (ai ?_);refine Me ?_;refine ef 2 [_,_] ?_;refine ef 1 [_,_] ?_;refine dC (fun _ hj=>wM t b _) ?_;refine aM ?_;intro f W hJ hV;have hb_1:=hJ.bl;obtain ⟨v7,v6,v5,_⟩:=hV;replace hh:=hJ.hp;refine vv ?_;dsimp only [bO];clear hJ;refine vg ?_;intro b8 w8 hh;refine bA hh (vS _ 2 _ [IR.mk s a,iR (-(iv t b))] _ (hh.aG (i:=0) rfl) Yv (by simp [iR];omega)) rfl ?_;intro w9 hh;rw [e1];exact Ln
theorem Gh (s t:Bool) (a b:ByteArray) (w:World) (ha:a.size≤100000000) (hb:b.size≤100000000):
  Calls Tryz.prog 171 #[.agg #[.bool s,.string a],.agg #[.bool t,.string b]] w fun e w'=>e=.returned (.int .i64 (iv s a-iv t b).sign)∧Below w.heap.size w w':=by
 have hh:=Hp.start w;refine ak (N:=9) (l:=[.agg #[.bool s,.string a],.agg #[.bool t,.string b]]) Tryz.func171 rfl rfl (by simp) ?_;refine sr ?_;refine cu hh [_,_] ?_;intro b2 w2 hh;refine cu hh [_,_] ?_;intro b3 w3 hh;refine aI (aa (sr ?_));refine cC hh 1 [_,_] ?_;refine cC hh 0 [_,_] ?_;refine bA hh (xe s t a b _ ha hb) rfl ?_;intro w7 hh;refine bA hh (lF _ _ _) rfl ?_;intro w8 hh;rw [fL];exact xA
theorem DP (a b:Nat):bX (a*b)≤bX a+bX b:=by
 apply eb;rw [Y4];exact Nat.mul_lt_mul'' (dD a) (dD b)
theorem kx (a b:Int):bX (a*b).natAbs≤bX a.natAbs+bX b.natAbs:=by rw [aaq];exact DP _ _
def nV:List Int→Int
 |[]=>1
 |x::l=>x*nV l
theorem F8 (l:List Int) (x:Int):nV (l++[x])=nV l*x:=by
 induction l with
 |nil=>simp [nV]
 |cons y l ih=>simp only [YJ,nV,ih,Int.mul_assoc]
theorem Ee (l:List Nat) (i:Nat):(l.take i).sum≤l.sum:=by
 rw [←List.sum_append_nat.symm.trans (Zz List.sum (Zv i l))];omega
theorem vX:bX 1=1:=by decide+kernel
theorem FH (L:Option Addr) (n c:Nat) (l:List IR) (w:World) (hS:Sl w L n 2 (aD IR.cells l)) (hn:n≤1000000) (hs:(l.map fun a=>a.bj.size).sum≤100000000):
  Calls Tryz.prog 111 #[.slice L n c] w fun e w'=>e=.returned (.agg #[.bool (iN (nV (l.map IR.v))),.string (iM (nV (l.map IR.v)))])∧Below w.heap.size w w':=by
 have hl:=hS.bh IR.len Yv;have hh:=Hp.start w;have hsum:=Ee (l.map fun a=>a.bj.size);refine ak (N:=21) (l:=[.slice L n c]) Tryz.func111 rfl rfl (by simp) ?_;refine sr ?_;refine bW hh ?_;intro b2 w2 hh;refine aa (sr ?_);refine bA hh (pj 1 _ Yv Yv) rfl ?_;intro w6 hh;refine bA hh (kH _ _ _) rfl ?_;intro w7 hh;refine bW hh ?_;intro b3 w3 hh;refine bV hh 0 [_,_] ?_;intro ws hh;replace hh:Hp _ (.blk _ _ [_,_] _::_) _:=hh;refine yS ?_;refine aT [5,10,11,12,13,14,15,16,17,18] 10
  (fun j w'=>∃(i:Nat) (u:Bool) (S:Int),i≤n∧j=.int .i64 i∧S=nV ((l.take i).map IR.v)∧iv u (iM S)=S∧bX S.natAbs≤1+8*((l.map fun a=>a.bj.size).take i).sum∧Hp w [.blk b3 153 [.string (iM S),.bool u] (0,0),.blk b2 38 [.bool false,.string (ByteArray.mk #[])] (0,0)] w')
  (fun j _=>n-(intOf j).toNat) ?_ ?_
 ·exact ⟨0,_,1,YD _,rfl,rfl,fL 1,by rw [Int.natAbs_one,vX];omega,hh⟩
 ·clear hh;rintro ρ' j w' ⟨i,u,S,hi,rfl,hS2,hu,hb,hh⟩;by_cases hlt:i<n
  ·obtain ⟨x,hx⟩:=ao (l:=l) (k:=i) Yv;obtain ⟨ad,rfl,hr⟩:=hS.at_ Yv;have hsi:=hsum i;have hsi2:=hsum (i+1);have hsz:((l.map fun a=>a.bj.size).take (i+1)).sum=((l.map fun a=>a.bj.size).take i).sum+x.bj.size:=by
    rw [aC (x:=x.bj.size) (by rw [YN,hx];rfl),sU]
   have hS3:nV ((l.take (i+1)).map IR.v)=S*x.v:=by rw [aC hx,Zq,abb,F8,hS2]
   have hms:(iM S).size≤1000000000:=by rw [dV];omega
   have hbx:=iF x.neg x.bj;have hba:=kx S x.v;have hpl:=uW u x.neg (iM S) x.bj;rw [hu] at hpl;have hwc:=fun w1=>rH u x.neg (iM S) x.bj w1 hms Yv;rw [hu] at hwc;refine sr ?_;refine eC ?_;refine cE ?_;refine cG (vs:=[_,_]) aU.out rfl (((hr.ext hh.below).recAt IR.len hx)) rfl Yw ?_;refine bW hh ?_;intro b5 w5 hh;refine bV hh 0 [_,_] ?_;intro ws hh;replace hh:Hp _ (.blk _ _ [_,_] _::_) _:=hh;refine aa ?_;refine aW 3 [[(3,none)],[(5,none)],[(15,some 1)]] [(2,16),(1,15),(0,14)] hh mixed Yx ?_;refine ef 1 [_,_] ?_;refine ef 0 [_,_] ?_;refine dC (fun _ hj=>kH x.neg x.bj _) ?_;refine aM ?_;intro f W hJ hV;have hb_5:=hJ.bl;obtain ⟨v16,v15,v14,_⟩:=hV;replace hh:=hJ.hp;refine aQ (bg (ae v16 (ae v15 (ae v14 aR)))) ?_;dsimp only [bO];clear hJ;refine bA hh (hwc _) rfl ?_;intro w17 hh;exact QF
  ·refine sr ?_;refine oa ?_;refine cC hh 0 [_,_] ?_;refine bA hh (dR u (iM S) _) rfl ?_;intro w20 hh;exact UJ
theorem Bz (M k:Nat) (h:2^k∣M): -((M/2^k:Nat):Int)= -(M:Int)/2^k:=by
 obtain ⟨q,rfl⟩:=h;have hp:(0:Int)<2^k:=Int.pow_pos Yv;rw [Nat.mul_div_cancel_left _ (Zd Yv),ZU,←Int.mul_neg,Int.natCast_pow];exact (Int.mul_ediv_cancel_left _ (by exact Int.ne_of_gt hp)).symm
theorem Ai (M k:Nat) (h:¬2^k∣M): -((M/2^k:Nat):Int)-1= -(M:Int)/2^k:=by
 have hp:(0:Int)<2^k:=Int.pow_pos Yv;have h1:=aah M (2^k);have h2:=Y8 M (Zd (n:=k) (show 0<2 by omega));have h3:M % 2^k≠0:=fun h0=>h (Nat.dvd_of_mod_eq_zero h0);have hc:((2^k:Nat):Int)=2^k:=by simp
 symm
 rw [Int.ediv_eq_iff_of_pos hp,←hc];have h4:(M:Int)=(2^k:Nat)*(M/2^k:Nat)+(M % 2^k:Nat):=by rw [←ZU,←aaw,h1]
 generalize hK:((2^k:Nat):Int)=K at*;generalize ((M/2^k:Nat):Int)=q at*;have e:(-q-1)*K= -(K*q)-K:=by rw [Int.sub_mul,Int.neg_mul,Int.mul_comm q];omega
 have e2:(-q-1+1)*K= -(K*q):=by rw [Int.sub_add_cancel,Int.neg_mul,Int.mul_comm]
 omega
theorem LH {M:Nat} (h0:M≠0):2^k∣M↔k≤tz M:=by
 obtain ⟨m,hm⟩:=ur h0;generalize tz M=t at*;constructor
 ·intro h
  rcases Zj t k with hlt|hge
  ·exfalso;obtain ⟨q,hq⟩:=h;rw [hm,show k=t+(1+(k-t-1)) by omega,Y4,Y4,Zw] at hq;have:=Nat.eq_of_mul_eq_mul_left (Zd Yv) hq;rw [Nat.pow_one,Zw] at this;omega
  ·exact hge
 ·intro h;rw [hm];exact Nat.dvd_trans (Nat.pow_dvd_pow 2 h) (Nat.dvd_mul_right _ _)
theorem rE (a:Int) (n:Nat):bX (a^n).natAbs≤1+n*bX a.natAbs:=by
 induction n with
 |zero=>simp [vX]
 |succ n ih=>
  rw [Int.pow_succ];have:=kx (a^n) a;rw [ZE];omega
theorem ER (s:Bool) (a:ByteArray) (n:Int) (w:World) (h0:n.toNat*a.size≤100000000) (hn:n≤1000000000) (ha:a.size≤100000000):
  Calls Tryz.prog 135 #[.agg #[.bool s,.string a],.int .i64 n] w fun e w'=>e=.returned (.agg #[.bool (iN (iv s a^n.toNat)),.string (iM (iv s a^n.toNat))])∧Below w.heap.size w w':=by
 have hh:=Hp.start w;have e1:(if (0:Int)>n then 0 else n)=(n.toNat:Int):=by split<;>omega
 have hm:n.toNat≤1000000000:=Yv;generalize n.toNat=m at*;refine ak (N:=19) (l:=[.agg #[.bool s,.string a],.int .i64 n]) Tryz.func135 rfl rfl (by simp) ?_;refine sr ?_;refine cu hh [_,_] ?_;intro b2 w2 hh;refine bW hh ?_;intro b4 w4 hh;refine aa (sr ?_);refine bA hh (pj 1 _ Yv Yv) rfl ?_;intro w6 hh;refine bA hh (kH _ _ _) rfl ?_;intro w7 hh;refine bW hh ?_;intro b5 w5 hh;refine bV hh 0 [_,_] ?_;intro ws hh;replace hh:Hp _ (.blk _ _ [_,_] _::_) _:=hh;refine aa (ai (sr (mI ?_)));refine lL rfl rfl Yw ?_;refine mI (aa (av ?_));rw [e1];refine aT [10,11,12,13,14,15,16] 10
  (fun j w'=>∃(i:Nat) (u:Bool) (S:Int),i≤m∧j=.int .i64 i∧S=iv s a^i∧iv u (iM S)=S∧Hp w [.blk b5 153 [.string (iM S),.bool u] (0,0),.blk b4 38 [.bool false,.string (ByteArray.mk #[])] (0,0),.blk b2 38 [.bool s,.string a] (0,0)] w')
  (fun j _=>m-(intOf j).toNat) ?_ ?_
 ·exact ⟨0,_,1,YD _,rfl,by rw [Int.pow_zero],fL 1,hh⟩
 ·clear hh;rintro ρ' j w' ⟨i,u,S,hi,rfl,hS2,hu,hh⟩;by_cases hlt:i<m
  ·have hb:=rE (iv s a) i;rw [←hS2] at hb;have hbx:=iF s a;have hle:i*bX (iv s a).natAbs≤m*(8*a.size):=ZV hi hbx;rw [abM] at hle;have hms:(iM S).size≤1000000000:=by rw [dV];omega
   have hpl:=uW u s (iM S) a;rw [hu] at hpl;have hwc:=fun w1=>rH u s (iM S) a w1 hms Yv;rw [hu] at hwc;refine sr ?_;refine a8 (aa (ai (cT (au (aj (ai (av ?_)))))));refine aW 3 [[(5,none)],[(2,none)],[(13,some 1)]] [(2,14),(1,13),(0,12)] hh mixed Yx ?_;refine ef 0 [_,_] ?_;refine ef 2 [_,_] ?_;refine dC (fun _ hj=>kH s a _) ?_;refine aM ?_;intro f W hJ hV;have hb_4:=hJ.bl;obtain ⟨v14,v13,v12,_⟩:=hV;replace hh:=hJ.hp;refine aQ (bg (ae v14 (ae v13 (ae v12 aR)))) ?_;dsimp only [bO];clear hJ;refine bA hh (hwc _) rfl ?_;intro w15 hh;refine bV hh 0 [_,_] ?_;intro ws hh;replace hh:Hp _ (.blk _ _ [_,_] _::_) _:=hh;refine gN ?_;refine bm (mI (aE (aj ?_)));refine ⟨⟨i+1,_,_,Yv,rfl,by rw [Int.pow_succ,hS2],hpl,hh⟩,by show m-(i+1)<m-i;omega, ?_⟩;exact dO
  ·obtain rfl:i=m:=Yv;refine sr ?_;refine oa ?_;refine cC hh 0 [_,_] ?_;refine bA hh (dR u (iM S) _) rfl ?_;intro w18 hh;rw [hu,hS2];exact Ln
theorem TL (s:Bool) (a:ByteArray) (m:Nat):iv s (sN (bN a*2^m))=iv s a*2^m:=by
 unfold iv;rw [fD]
 cases s<;>simp [ZU,Int.neg_mul]
theorem Fz (s:Bool) (a:ByteArray) (m:Nat) (w:World) (ha:a.size≤100000000) (hm:m≤1000000000):
  Calls Tryz.prog 119 #[.agg #[.bool s,.string a],.int .i64 (m:Int)] w fun e w'=>e=.returned (.agg #[.bool (iN (iv s a*2^m)),.string (iM (iv s a*2^m))])∧Below w.heap.size w w':=by
 have hh:=Hp.start w;refine ak (N:=47) (l:=[.agg #[.bool s,.string a],.int .i64 (m:Int)]) Tryz.func119 rfl rfl (by simp) ?_;refine sr ?_;refine cu hh [_,_] ?_;intro b2 w2 hh;refine bW hh ?_;intro b4 w4 hh;refine aa (ai (sr (mI ?_)));refine ej (aa (cT (ai ?_)));refine aW 6 [[(2,none)],[(8,some 0)],[(1,none)],[(9,some 1),(10,some 2)],[(2,none)],[(12,some 4)]] [(5,13),(4,12),(3,11),(2,10),(1,9),(0,8)] hh mixed Yx ?_;refine cX ?_;refine dT 1 ?_;refine cZ ?_;refine dC (fun _ hj=>AR a m _ Yv Yv) ?_;refine cX ?_;refine dT 1 ?_;refine aM ?_;intro f W hJ hV;have hb_2:=hJ.bl;obtain ⟨v13,v12,v11,v10,v9,v8,_⟩:=hV;replace hh:=hJ.hp;refine aQ (bg (ae v13 (ae v12 (ae v11 (ae v10 (ae v9 (ae v8 aR))))))) ?_;dsimp only [bO];clear hJ;refine fH [_,_] ?_;refine bA hh (dR s (sN (bN a*2^m)) _) rfl ?_;intro w15 hh;rw [TL];exact B2
theorem Fv (s:Bool) (a:ByteArray) (m:Nat) (w:World) (hT:e8 w) (ha:a.size≤100000000) (h0:0<m) (hm:m≤1000000000000):
  Calls Tryz.prog 119 #[.agg #[.bool s,.string a],.int .i64 (-(m:Int))] w fun e w'=>e=.returned (.agg #[.bool (iN (iv s a/2^m)),.string (iM (iv s a/2^m))])∧Below w.heap.size w w':=by
 have hh:=Hp.start w;have e1:(if (-1099511627776:Int)> -(m:Int) then -1099511627776 else -(m:Int))= -(m:Int):=YB Yv;have e2: -(-(m:Int))=(m:Int):=Yv;have hcs:∀w1,Calls Tryz.prog 164 #[.string a,.int .i64 (-(-(m:Int)))] w1 fun e w'=>e=.returned (.string (sN (bN a/2^m)))∧Below w1.heap.size w1 w':=fun w1=>by
  rw [e2];exact Aj a m w1 Yv Yv
 cases s with
 |false=>
  have e3:iv false (sN (bN a/2^m))=iv false a/2^m:=by
   unfold iv;rw [fD];simp
  refine ak (N:=47) (l:=[.agg #[.bool false,.string a],.int .i64 (-(m:Int))]) Tryz.func119 rfl rfl (by simp) ?_;refine sr ?_;refine cu hh [_,_] ?_;intro b2 w2 hh;refine bW hh ?_;intro b4 w4 hh;refine aa (ai (sr (mI ?_)));refine ej (aa (cF (au (aj (sr (mI ?_))))));refine lL rfl rfl Yw ?_;refine aI (aa (ai ?_));rw [e1];refine HQ ?_;refine cX ?_;refine dT 1 ?_;refine cZ ?_;refine HF ?_;refine dC (fun _ hj=>hcs _) ?_;refine cX ?_;refine dT 1 ?_;refine dB [_,_] ?_;refine dC (fun _ hj=>dR false (sN (bN a/2^m)) _) ?_;refine H7 ?_;refine aM ?_;intro f W hJ hV;have hb_4:=hJ.bl;obtain ⟨v5,v26,v25,v24,v23,v22,v21,v20,v19,v18,_⟩:=hV;obtain ⟨b5,e5,hl5,hc5⟩:cS _ _ _ (f 9) W:=v5;replace hh:=hJ.newVar hh hl5 hc5;refine GZ ?_;dsimp only [bO];clear e5 hJ;rw [e3];refine bV hh 0 [_,_] ?_;intro ws hh;replace hh:Hp _ (.blk _ _ [_,_] _::_) _:=hh;refine aa (ai (sr (bJ ?_)));refine bG hh 2 ?_;refine mB ?_;refine gS (gS ?_);refine jG ?_;refine gS ?_;refine dX ?_;exact Qw
 |true=>
  have hb:=fO a;have e4:iv true (sN (bN a/2^m))= -((bN a/2^m:Nat):Int):=by
   unfold iv;rw [fD,YA rfl]
  have e5:iv true a= -(bN a:Int):=by unfold iv;rw [YA rfl]
  by_cases hz:bN a=0
  ·have e3:iv true (sN (bN a/2^m))=iv true a/2^m:=by
    rw [e4,e5,hz];simp
   refine LU ?_;refine sr ?_;refine cu hh [_,_] ?_;intro b2 w2 hh;refine bW hh ?_;intro b4 w4 hh;refine aa (ai (sr (mI ?_)));refine ej (aa (cF (au (aj (sr (mI ?_))))));refine lL rfl rfl Yw ?_;refine aI (aa (ai ?_));rw [e1];refine HQ ?_;refine cX ?_;refine dT 1 ?_;refine cZ ?_;refine HF ?_;refine dC (fun _ hj=>hcs _) ?_;refine cX ?_;refine dT 1 ?_;refine dB [_,_] ?_;refine dC (fun _ hj=>dR true (sN (bN a/2^m)) _) ?_;refine H7 ?_;refine aM ?_;intro f W hJ hV;have hb_4:=hJ.bl;obtain ⟨v5,v26,v25,v24,v23,v22,v21,v20,v19,v18,_⟩:=hV;obtain ⟨b5,e5,hl5,hc5⟩:cS _ _ _ (f 9) W:=v5;replace hh:=hJ.newVar hh hl5 hc5;refine GZ ?_;dsimp only [bO];clear e5 hJ;rw [e3];refine bV hh 0 [_,_] ?_;intro ws hh;replace hh:Hp _ (.blk _ _ [_,_] _::_) _:=hh;refine aa (ai (sr (bJ ?_)));refine bG hh 2 ?_;refine mB (gT (bJ (gT ?_)));refine bG hh 2 ?_;refine aP rfl rfl ?_;refine bA hh (mP a _ Yv) rfl ?_;intro w32 hh;rw [hz,mJ];refine gT ?_;refine bT ?_;refine fG ?_;exact Qw
  ·have hbp:=rB hz;by_cases hd:2^m∣bN a
   ·have e3:iv true (sN (bN a/2^m))=iv true a/2^m:=by
     rw [e4,e5];exact Bz _ _ hd
    have htz:=(LH hz).1 hd;refine LU ?_;refine sr ?_;refine cu hh [_,_] ?_;intro b2 w2 hh;refine bW hh ?_;intro b4 w4 hh;refine aa (ai (sr (mI ?_)));refine ej (aa (cF (au (aj (sr (mI ?_))))));refine lL rfl rfl Yw ?_;refine aI (aa (ai ?_));rw [e1];refine HQ ?_;refine cX ?_;refine dT 1 ?_;refine cZ ?_;refine HF ?_;refine dC (fun _ hj=>hcs _) ?_;refine cX ?_;refine dT 1 ?_;refine dB [_,_] ?_;refine dC (fun _ hj=>dR true (sN (bN a/2^m)) _) ?_;refine H7 ?_;refine aM ?_;intro f W hJ hV;have hb_4:=hJ.bl;obtain ⟨v5,v26,v25,v24,v23,v22,v21,v20,v19,v18,_⟩:=hV;obtain ⟨b5,e5,hl5,hc5⟩:cS _ _ _ (f 9) W:=v5;replace hh:=hJ.newVar hh hl5 hc5;refine GZ ?_;dsimp only [bO];clear e5 hJ;rw [e3];refine bV hh 0 [_,_] ?_;intro ws hh;replace hh:Hp _ (.blk _ _ [_,_] _::_) _:=hh;refine aa (ai (sr (bJ ?_)));refine bG hh 2 ?_;refine mB (gT (bJ (gT ?_)));refine bG hh 2 ?_;refine aP rfl rfl ?_;refine bA hh (mP a _ Yv) rfl ?_;intro w32 hh;refine gT ?_;refine bT ?_;refine fG ?_;refine mB (gT (bJ (gT ?_)));refine bG hh 2 ?_;refine aP rfl rfl ?_;refine bA hh (lf a _ Yv (hT.hp hh)) rfl ?_;intro w38 hh;refine gT (mI (gT ?_));refine AX rfl Yv Yv Yw ?_;refine gT ?_;refine a8 ?_
    refine fG ?_;refine wc ?_;refine cC hh 0 [_,_] ?_;exact Ln
   ·have e3:iv true (sN (bN a/2^m))-1=iv true a/2^m:=by
     rw [e4,e5];exact Ai _ _ hd
    have htz:tz (bN a)<m:=abu fun h=>hd ((LH hz).2 h);have hsz:(iM (iv true (sN (bN a/2^m)))).size≤100000000:=by
     have:=rf (bN a) m;rw [dV,jP,fD];omega
    have hsub:∀w1,Calls Tryz.prog 166 #[.agg #[.bool (iN (iv true (sN (bN a/2^m)))),.string (iM (iv true (sN (bN a/2^m))))],.agg #[.bool (iN 1),.string (iM 1)]] w1 fun e w'=>e=.returned (.agg #[.bool (iN (iv true a/2^m)),.string (iM (iv true a/2^m))])∧Below w1.heap.size w1 w':=fun w1=>by
     have:=xe (iN (iv true (sN (bN a/2^m)))) (iN 1) (iM (iv true (sN (bN a/2^m)))) (iM 1) w1 hsz (by rw [dV,Int.natAbs_one,vX];omega);rw [fL,fL,e3] at this;exact this
    refine LU ?_;refine sr ?_;refine cu hh [_,_] ?_;intro b2 w2 hh;refine bW hh ?_;intro b4 w4 hh;refine aa (ai (sr (mI ?_)));refine ej (aa (cF (au (aj (sr (mI ?_))))));refine lL rfl rfl Yw ?_;refine aI (aa (ai ?_));rw [e1];refine HQ ?_;refine cX ?_;refine dT 1 ?_;refine cZ ?_;refine HF ?_;refine dC (fun _ hj=>hcs _) ?_;refine cX ?_;refine dT 1 ?_;refine dB [_,_] ?_;refine dC (fun _ hj=>dR true (sN (bN a/2^m)) _) ?_;refine H7 ?_;refine aM ?_;intro f W hJ hV;have hb_4:=hJ.bl;obtain ⟨v5,v26,v25,v24,v23,v22,v21,v20,v19,v18,_⟩:=hV;obtain ⟨b5,e5,hl5,hc5⟩:cS _ _ _ (f 9) W:=v5;replace hh:=hJ.newVar hh hl5 hc5;refine GZ ?_;dsimp only [bO];clear e5 hJ;refine bV hh 0 [_,_] ?_;intro ws hh;replace hh:Hp _ (.blk _ _ [_,_] _::_) _:=hh;refine aa (ai (sr (bJ ?_)));refine bG hh 2 ?_;refine mB (gT (bJ (gT ?_)));refine bG hh 2 ?_;refine aP rfl rfl ?_;refine bA hh (mP a _ Yv) rfl ?_;intro w32 hh;refine gT ?_;refine bT ?_;refine fG ?_;refine mB (gT (bJ (gT ?_)));refine bG hh 2 ?_;refine aP rfl rfl ?_;refine bA hh (lf a _ Yv (hT.hp hh)) rfl ?_;intro w38 hh;refine gT (mI (gT ?_));refine AX rfl Yv Yv Yw ?_;refine gT ?_;refine a8 ?_;refine fG ?_;refine aa (cT (ai ?_))
    refine aW 2 [[(5,none)],[]] [(1,44),(0,43)] hh mixed Yx ?_;refine ef 0 [_,_] ?_;refine dC (fun _ hj=>pj 1 _ Yv Yv) ?_;refine aM ?_;intro f W hJ hV;have hb_6:=hJ.bl;obtain ⟨v44,v43,_⟩:=hV;replace hh:=hJ.hp;refine aQ (bg (ae v44 (ae v43 aR))) ?_;dsimp only [bO];clear hJ;refine bA hh (hsub _) rfl ?_;intro w45 hh;refine bV hh 1 [_,_] ?_;intro ws hh;replace hh:Hp _ (_::.blk _ _ [_,_] _::_) _:=hh;refine aa (ay (aN ?_));exact RZ
theorem Uc:(2:Rat)≠0:=by decide
theorem two_pos (k:Int):(0:Rat)<2^k:=Rat.zpow_pos Yw
theorem lI (i p:Int):(Dyadic.ofIntWithPrec i p).toRat=i*2^(-p):=Dyadic.toRat_ofIntWithPrec_eq_mul_two_pow
theorem oS (i p:Int) (n:Nat):Dyadic.ofIntWithPrec (i*2^n) (p+n)=Dyadic.ofIntWithPrec i p:=by
 rw [←Int.shiftLeft_eq];exact Dyadic.ofIntWithPrec_shiftLeft_add
theorem ng (i:Int) {p q:Int} (h:q=p+n):Dyadic.ofIntWithPrec i p=Dyadic.ofIntWithPrec (i*2^n) q:=by
 subst h;exact (oS i p n).symm
theorem uJ (i j p:Int):Dyadic.ofIntWithPrec i p+Dyadic.ofIntWithPrec j p=Dyadic.ofIntWithPrec (i+j) p:=by
 rw [←Dyadic.toRat_inj,Dyadic.toRat_add,lI,lI,lI,Rat.intCast_add,Rat.add_mul]
theorem Ap (i p:Int): -Dyadic.ofIntWithPrec i p=Dyadic.ofIntWithPrec (-i) p:=Dyadic.neg_ofIntWithPrec
theorem sg (i j p q:Int):Dyadic.ofIntWithPrec i p*Dyadic.ofIntWithPrec j q=Dyadic.ofIntWithPrec (i*j) (p+q):=by
 rw [←Dyadic.toRat_inj,Dyadic.toRat_mul,lI,lI,lI,Rat.intCast_mul,Int.neg_add,Rat.zpow_add Uc];grind
theorem wL (i j p:Int):Dyadic.ofIntWithPrec i p<Dyadic.ofIntWithPrec j p↔i<j:=by
 rw [←Dyadic.toRat_lt_toRat_iff,lI,lI];rw [←Rat.intCast_lt_intCast];constructor
 ·intro h;exact Rat.lt_of_mul_lt_mul_right h (Rat.le_of_lt (two_pos _))
 ·intro h;exact Rat.mul_lt_mul_of_pos_right h (two_pos _)
theorem k5 (p:Int):Dyadic.ofIntWithPrec 0 p=0:=rfl
theorem Pj {i j p:Int} (h:Dyadic.ofIntWithPrec i p=Dyadic.ofIntWithPrec j p):i=j:=by
 rcases abw i j with h1|h1|h1
 ·rw [←wL i j p,h] at h1;exact absurd h1 (by rw [wL];omega)
 ·exact h1
 ·rw [←wL j i p,h] at h1;exact absurd h1 (by rw [wL];omega)
theorem BL {i p:Int} (h:Dyadic.ofIntWithPrec i p=0):i=0:=Pj (p:=p) (by rw [h];rfl)
theorem Gt (n k:Int) (h:n % 2=1):Dyadic.ofOdd n k h=Dyadic.ofIntWithPrec n k:=Dyadic.ofOdd_eq_ofIntWithPrec
theorem Bg {i p:Int} (h:i≠0):Dyadic.ofIntWithPrec i p=.ofOdd (i>>>i.trailingZeros) (p-i.trailingZeros) (Int.shiftRight_trailingZeros_mod_two h):=by
 rw [Dyadic.ofIntWithPrec,dif_neg h]
structure NR where
 neg:Bool
 bj:ByteArray
 e:Int
def NR.cells (a:NR):List Value:=[.bool a.neg,.string a.bj,.int .i64 a.e]
theorem NR.len (a:NR):a.cells.length=3:=rfl
theorem NR.one (a:NR):a.cells.all Value.oneCell'=true:=rfl
def NR.i (a:NR):Int:=iv a.neg a.bj
def NR.d (a:NR):Dyadic:=Dyadic.ofIntWithPrec a.i (-a.e)
def nR:Dyadic→NR
 |.zero=>⟨false,ByteArray.mk #[],0⟩
 |.ofOdd n k _=>⟨iN n,iM n, -k⟩
theorem nn:nR 0=⟨false,ByteArray.mk #[],0⟩:=rfl
theorem cj (x:Dyadic):(nR x).d=x:=by
 cases x with
 |zero=>rfl
 |ofOdd n k h=>
  simp only [nR,NR.d,NR.i,fL,Int.neg_neg];exact (Gt n k h).symm
theorem Tz {x y:Dyadic}:nR x=nR y↔x=y:=⟨fun h=>by rw [←cj x,h,cj],fun h=>by rw [h]⟩
theorem VV (s:Bool) (a:ByteArray):(iv s a).trailingZeros=tz (bN a):=by
 unfold iv;split
 ·rw [Int.trailingZeros_neg];rfl
 ·rfl
theorem Hv (s:Bool) (a:ByteArray):iv s a=0↔bN a=0:=by
 have:=jP s a;omega
theorem sB {s:Bool}{a:ByteArray}{e:Int} (h:iv s a≠0):nR (Dyadic.ofIntWithPrec (iv s a) (-e))=⟨iN (iv s a/2^tz (bN a)),iM (iv s a/2^tz (bN a)),e+tz (bN a)⟩:=by
 rw [Bg h,nR,Int.shiftRight_eq_div_pow,VV];have e1: -(-e-(tz (bN a):Int))=e+tz (bN a):=Yv;rw [e1,Int.natCast_pow]
 rfl
def Sz (k:Nat) (x:Dyadic):Prop:=∃i:Int,x=Dyadic.ofIntWithPrec i k∧i.natAbs<2^(2*k)
theorem Sz.zero (k:Nat):Sz k 0:=⟨0,rfl,by simpa using Zd Yv⟩
theorem Sz.mono {l:Nat}{x:Dyadic} (h:Sz k x) (hl:k≤l):Sz l x:=by
 obtain ⟨i,rfl,hi⟩:=h;refine ⟨i*2^(l-k),ng i Yv, ?_⟩;rw [aaq,aaZ];have h1:i.natAbs*2^(l-k)<2^(2*k)*2^(l-k):=aa5 hi (Zd Yv);rw [←Y4] at h1;exact ZC h1 (Zf Yv Yv)
theorem Sz.neg {x:Dyadic} (h:Sz k x):Sz k (-x):=by
 obtain ⟨i,rfl,hi⟩:=h;exact ⟨-i,Ap _ _,by rw [Int.natAbs_neg];exact hi⟩
theorem Sz.add {x y:Dyadic} (hx:Sz k x) (hy:Sz k y):Sz (k+1) (x+y):=by
 obtain ⟨i,rfl,hi⟩:=hx;obtain ⟨j,rfl,hj⟩:=hy;rw [uJ];refine ⟨(i+j)*2^1,ng _ Yv, ?_⟩;have h1:2^(2*(k+1))=4*2^(2*k):=by rw [show 2*(k+1)=2*k+2 by omega,Y4];omega
 rw [h1];omega
theorem Sz.sub {x y:Dyadic} (hx:Sz k x) (hy:Sz k y):Sz (k+1) (x-y):=hx.add hy.neg
theorem Sz.mul {l:Nat}{x y:Dyadic} (hx:Sz k x) (hy:Sz l y):Sz (k+l) (x*y):=by
 obtain ⟨i,rfl,hi⟩:=hx;obtain ⟨j,rfl,hj⟩:=hy;rw [sg];refine ⟨i*j,by rw [aaw], ?_⟩;rw [aaq,Zt,Y4];exact Nat.mul_lt_mul'' hi hj
theorem mC {i:Int} (h:i≠0):2^i.trailingZeros≤i.natAbs:=by
 have h1:=Int.two_pow_trailingZeros_dvd h;have h2:=Int.natAbs_dvd_natAbs.2 h1;rw [aaZ] at h2;exact Nat.le_of_dvd Yv h2
theorem Sz.nr {x:Dyadic} (h:Sz k x):(nR x).bj.size≤(2*k+7)/8∧ -(k:Int)≤(nR x).e∧(nR x).e≤k:=by
 obtain ⟨i,rfl,hi⟩:=h;by_cases h0:i=0
 ·subst h0;rw [k5,nn];exact ⟨YD _,(by omega: -(k:Int)≤0),(by omega:(0:Int)≤k)⟩
 ·have h2:=mC h0;rw [Bg h0,nR];simp only;refine ⟨?_,Yv, ?_⟩
  ·rw [dV];have:bX (i>>>i.trailingZeros).natAbs≤2*k:=by
    apply eb;refine ZF ?_ hi;rw [Int.shiftRight_eq_div_pow];exact abS _ _
   omega
  ·have h3:2^i.trailingZeros<2^(2*k):=ZF h2 hi;have:=(Nat.pow_lt_pow_iff_right Yv).1 h3;omega
theorem Sz.raw {a:NR}{E:Nat} (hm:8*a.bj.size≤m) (h1: -(E:Int)≤a.e) (h2:a.e≤E):Sz (m+E) a.d:=by
 refine ⟨a.i*2^(a.e+m+E).toNat,ng _ Yv, ?_⟩;have h3:a.i.natAbs<2^m:=by
  rw [NR.i,jP];refine ZC (dD _) (Zf Yv ?_);have:=fO a.bj;omega
 rw [aaq,aaZ];have h4:=aa5 h3 (Zd (n:=(a.e+m+E).toNat) (show 0<2 by omega));rw [←Y4] at h4;exact ZC h4 (Zf Yv Yv)
def Iq (i n:Int):Int:=if 0≤n then i*2^n.toNat else i/2^(-n).toNat
theorem Mn (n:Int):Iq 0 n=0:=by unfold Iq;split<;>simp
def dt:Dyadic→Int→Int
 |.zero,_=>0
 |.ofOdd n k _,p=>Iq n (p-k)
def dN:Dyadic→Dyadic→Int
 |.zero,.zero=>0
 |.zero,.ofOdd _ k _=>k
 |.ofOdd _ k _,.zero=>k
 |.ofOdd _ k _,.ofOdd _ l _=>max k l
theorem pe (n k p:Int) (h:n % 2=1) (hp:k≤p):Dyadic.ofIntWithPrec (dt (.ofOdd n k h) p) p=.ofOdd n k h:=by
 simp only [dt];rw [Gt,Iq,YA Yv];exact (ng n Yv).symm
theorem KI (x y:Dyadic):Dyadic.ofIntWithPrec (dt x (dN x y)) (dN x y)=x:=by
 cases x with
 |zero=>rfl
 |ofOdd n k h=>
  cases y with
  |zero=>exact pe _ _ _ _ (Int.le_refl _)
  |ofOdd m l g=>exact pe _ _ _ _ (Int.le_max_left _ _)
theorem Na (x y:Dyadic):Dyadic.ofIntWithPrec (dt y (dN x y)) (dN x y)=y:=by
 cases y with
 |zero=>rfl
 |ofOdd n k h=>
  cases x with
  |zero=>exact pe _ _ _ _ (Int.le_refl _)
  |ofOdd m l g=>exact pe _ _ _ _ (Int.le_max_right _ _)
theorem PJ (x y:Dyadic):Dyadic.ofIntWithPrec (dt x (dN x y)+dt y (dN x y)) (dN x y)=x+y:=by
 rw [←uJ,KI,Na]
theorem Lr (i n:Int):bX (Iq i n).natAbs≤bX i.natAbs+n.toNat:=by
 unfold Iq;split
 ·rw [aaq,aaZ];exact jr _ _
 ·have:bX (i/2^(-n).toNat).natAbs≤bX i.natAbs:=eb (ZF (abS _ _) (dD _));omega
theorem Iz (x y:Dyadic) (E:Int) (h1: -E≤(nR x).e∧(nR x).e≤E) (h2: -E≤(nR y).e∧(nR y).e≤E): -E≤dN x y∧dN x y≤E:=by
 cases x<;>cases y<;>simp only [nR,dN] at* <;>omega
theorem xk (x:Dyadic) (p:Int):bX (dt x p).natAbs≤8*(nR x).bj.size+(p+(nR x).e).toNat:=by
 cases x with
 |zero=>simp [dt,mJ]
 |ofOdd n k h=>
  have h1:=Lr n (p-k);have h2:=fO (iM n);rw [iM,fD] at h2;simp only [dt,nR];rw [show p+ -k=p-k by omega];rw [←iM] at h2;omega
variable {P:Program}{by' off:Nat}{r:Bool}{zc:List Value}
section
variable {ro:Mode}
theorem HT {t:TypeId}{cs:Array Value}{v:Value} (ht:dH P t=some (n,false,by',zc)) (hv:cs[off]?=some v) (w:World):(part t cs off).run P w=.ok v w:=by
 simp [part,jJ ht,hv]
theorem Ss {t:TypeId}{cs vs:Array Value} (ht:dH P t=some (n,true,by',zc)) (hv:cs.extract off (off+n)=vs) (w:World):(part t cs off).run P w=.ok (.agg vs) w:=by
 simp [part,jJ ht,fk ht,hv]
theorem W8 (n:Nat) (a b:Bool) (w:World):(Op.equalIn (n+1) 4 (.bool a) (.bool b)).run Tryz.prog w=.ok (a==b) w:=by
 simp [Op.equalIn,run_underlying Tryz.underlying4]
theorem UN (n:Nat) (a b:ByteArray) (w:World):(Op.equalIn (n+1) 9 (.string a) (.string b)).run Tryz.prog w=.ok (a==b) w:=by
 simp [Op.equalIn,run_underlying Tryz.underlying9]
theorem Xb (n:Nat) (a b:Int) (w:World):(Op.equalIn (n+1) 3 (.int .i64 a) (.int .i64 b)).run Tryz.prog w=.ok (a==b) w:=by
 simp [Op.equalIn,run_underlying Tryz.underlying3]
theorem eq_int (n:Nat) (s s':Bool) (a a':ByteArray) (w:World):(Op.equalIn (n+2) 38 (.agg #[.bool s,.string a]) (.agg #[.bool s',.string a'])).run Tryz.prog w=.ok (s==s' && a==a') w:=by
 have h1:=fun (x:Bool) (y:ByteArray)=>HT (P:=Tryz.prog) (cs:= #[.bool x,.string y]) (off:=0) (aU.out (P:=Tryz.prog) (t:=4)) rfl;have h2:=fun (x:Bool) (y:ByteArray)=>HT (P:=Tryz.prog) (cs:= #[.bool x,.string y]) (off:=1) (aU.out (P:=Tryz.prog) (t:=9)) rfl;rw [Op.equalIn];simp [run_underlying Tryz.underlying38,h1,h2,W8,UN]
 cases h:s==s'<;>cases h':a==a'<;>simp_all
theorem L5 (n:Nat) (s s':Bool) (a a':ByteArray) (e e':Int) (w:World):(Op.equalIn (n+3) 40 (.agg #[.bool s,.string a,.int .i64 e]) (.agg #[.bool s',.string a',.int .i64 e'])).run Tryz.prog w=.ok ((s==s' && a==a') && e==e') w:=by
 have h1:=fun (x:Bool) (y:ByteArray) (z:Int)=>Ss (P:=Tryz.prog) (cs:= #[.bool x,.string y,.int .i64 z]) (vs:= #[.bool x,.string y]) (off:=0) (aU.out (P:=Tryz.prog) (t:=38)) rfl;have h2:=fun (x:Bool) (y:ByteArray) (z:Int)=>HT (P:=Tryz.prog) (cs:= #[.bool x,.string y,.int .i64 z]) (off:=2) (aU.out (P:=Tryz.prog) (t:=3)) rfl;rw [Op.equalIn];simp [run_underlying Tryz.underlying40,h1,h2,eq_int,Xb]
 cases h:s==s'<;>cases h':a==a'<;>cases h2:e==e'<;>simp_all
section
variable {ρ:Rf}{w:World}{d:Option Nat}{ty u:TypeId}{pos:String}{af:Array Edge}{g:Option (Nat×Bool)}{x y:Operand}{s s':Bool}{a a':ByteArray}{e e':Int}
theorem Nf {a b:ByteArray}:(a==b)=true↔a=b:=by
 have:(a==b)=(a.data==b.data):=rfl;rw [this,aam];exact ⟨fun h=>by cases a;cases b;simp_all,fun h=>by rw [h]⟩
theorem pD:((s==s' && a==a') && e==e')=true↔NR.mk s a e=NR.mk s' a' e':=by
 rw [YU,YU,aam,Nf,aam,NR.mk.injEq,and_assoc]
theorem Ry (hx:ev ρ x=.agg #[.bool s,.string a,.int .i64 e]) (hy:ev ρ y=.agg #[.bool s',.string a',.int .i64 e']) (hr:((s==s' && a==a') && e==e')=r):
  (execOp (ev ρ) ⟨d,.binOp .eql 40 x y u,ty,pos,af,g⟩).run Tryz.prog w=.ok (.value (.bool r)) w:=by
 exact V7
theorem Qm (hx:ev ρ x=.agg #[.bool s,.string a,.int .i64 e]) (hy:ev ρ y=.agg #[.bool s',.string a',.int .i64 e']) (hr:((s==s' && a==a') && e==e')=r):
  (execOp (ev ρ) ⟨d,.binOp .neq 40 x y u,ty,pos,af,g⟩).run Tryz.prog w=.ok (.value (.bool !r)) w:=by
 exact V7
theorem zK (hx:ev ρ x=.agg #[.bool s,.string a,.int .i64 e]) (hy:ev ρ y=.agg #[.bool s',.string a',.int .i64 e']) (h:NR.mk s a e=NR.mk s' a' e'):
  (execOp (ev ρ) ⟨d,.binOp .eql 40 x y u,ty,pos,af,g⟩).run Tryz.prog w=.ok (.value (.bool true)) w:=Ry hx hy (pD.2 h)
theorem PS (hx:ev ρ x=.agg #[.bool s,.string a,.int .i64 e]) (hy:ev ρ y=.agg #[.bool s',.string a',.int .i64 e']) (h:¬NR.mk s a e=NR.mk s' a' e'):
  (execOp (ev ρ) ⟨d,.binOp .eql 40 x y u,ty,pos,af,g⟩).run Tryz.prog w=.ok (.value (.bool false)) w:=Ry hx hy (by rw [aaV];exact fun h1=>h (pD.1 h1))
theorem ID (hx:ev ρ x=.agg #[.bool s,.string a,.int .i64 e]) (hy:ev ρ y=.agg #[.bool s',.string a',.int .i64 e']) (h:NR.mk s a e=NR.mk s' a' e'):
  (execOp (ev ρ) ⟨d,.binOp .neq 40 x y u,ty,pos,af,g⟩).run Tryz.prog w=.ok (.value (.bool false)) w:=Qm hx hy (pD.2 h)
theorem HH (hx:ev ρ x=.agg #[.bool s,.string a,.int .i64 e]) (hy:ev ρ y=.agg #[.bool s',.string a',.int .i64 e']) (h:¬NR.mk s a e=NR.mk s' a' e'):
  (execOp (ev ρ) ⟨d,.binOp .neq 40 x y u,ty,pos,af,g⟩).run Tryz.prog w=.ok (.value (.bool true)) w:=Qm hx hy (r:=false) (by rw [aaV];exact fun h1=>h (pD.1 h1))
end
section
variable {N:Nat}{ops:Array Oper}{Q:Kq}{ρ:Rf}{w:World}{rest:List Oper}{d:Nat}{ty u:TypeId}{pos:String}{af:Array Edge}{x y:Operand}{s s':Bool}{a a':ByteArray}{e e':Int}
theorem GX (hx:ev ρ x=.agg #[.bool s,.string a,.int .i64 e]) (hy:ev ρ y=.agg #[.bool s',.string a',.int .i64 e']) (h:NR.mk s a e=NR.mk s' a' e') (hN:d<N) (kk:WL ro Tryz.prog N ops Q rest (cY ρ d (.bool true)) w):
  WL ro Tryz.prog N ops Q (⟨some d,.binOp .eql 40 x y u,ty,pos,af,none⟩::rest) ρ w:=aZ rfl rfl hN (zK hx hy h) kk
theorem Ad (hx:ev ρ x=.agg #[.bool s,.string a,.int .i64 e]) (hy:ev ρ y=.agg #[.bool s',.string a',.int .i64 e']) (h:¬NR.mk s a e=NR.mk s' a' e') (hN:d<N) (kk:WL ro Tryz.prog N ops Q rest (cY ρ d (.bool false)) w):
  WL ro Tryz.prog N ops Q (⟨some d,.binOp .eql 40 x y u,ty,pos,af,none⟩::rest) ρ w:=aZ rfl rfl hN (PS hx hy h) kk
theorem uH (hx:ev ρ x=.agg #[.bool s,.string a,.int .i64 e]) (hy:ev ρ y=.agg #[.bool s',.string a',.int .i64 e']) (h:¬NR.mk s a e=NR.mk s' a' e') (hN:d<N) (kk:WL ro Tryz.prog N ops Q rest (cY ρ d (.bool true)) w):
  WL ro Tryz.prog N ops Q (⟨some d,.binOp .neq 40 x y u,ty,pos,af,none⟩::rest) ρ w:=aZ rfl rfl hN (HH hx hy h) kk
theorem rX (hx:ev ρ x=.agg #[.bool s,.string a,.int .i64 e]) (hy:ev ρ y=.agg #[.bool s',.string a',.int .i64 e']) (h:NR.mk s a e=NR.mk s' a' e') (hN:d<N) (kk:WL ro Tryz.prog N ops Q rest (cY ρ d (.bool false)) w):
  WL ro Tryz.prog N ops Q (⟨some d,.binOp .neq 40 x y u,ty,pos,af,none⟩::rest) ρ w:=aZ rfl rfl hN (ID hx hy h) kk
end
theorem rW (s:Bool) (a:ByteArray) (n:Int) (w:World) (hT:e8 w) (ha:a.size≤100000000) (h1: -1000000000≤n) (h2:n≤1000000000):
  Calls Tryz.prog 119 #[.agg #[.bool s,.string a],.int .i64 n] w fun e w'=>e=.returned (.agg #[.bool (iN (Iq (iv s a) n)),.string (iM (Iq (iv s a) n))])∧Below w.heap.size w w':=by
 unfold Iq;by_cases h:0≤n
 ·rw [YA h];obtain ⟨m,rfl⟩:=abN h;rw [ZL];exact Fz s a m w ha Yv
 ·rw [YB h];obtain ⟨m,hm⟩:=abN (show 0≤ -n by omega);rw [hm,ZL,show n= -(m:Int) by omega];exact Fv s a m w hT ha Yv Yv
theorem jf (s:Bool) (a:ByteArray) (e:Int) (w:World) (hT:e8 w) (ha:a.size≤100000000) (h1: -1000000000000≤e) (h2:e≤1000000000000):
  Calls Tryz.prog 68 #[.agg #[.bool s,.string a],.int .i64 e] w fun r w'=>r=.returned (.agg #[.bool (nR (Dyadic.ofIntWithPrec (iv s a) (-e))).neg,.string (nR (Dyadic.ofIntWithPrec (iv s a) (-e))).bj,.int .i64 (nR (Dyadic.ofIntWithPrec (iv s a) (-e))).e])∧Below w.heap.size w w':=by
 have hh:=Hp.start w;by_cases h0:iv s a=0
 ·rw [h0,k5,nn];refine ak (N:=21) (l:=[.agg #[.bool s,.string a],.int .i64 e]) Tryz.func68 rfl rfl (by simp) ?_;refine sr ?_;refine cu hh [_,_] ?_;intro b2 w2 hh;refine bW hh ?_;intro b4 w4 hh;refine aa (ai (sr ?_));refine cC hh 1 [_,_] ?_;refine bA hh (lF s a _) rfl ?_;intro w7 hh;rw [h0];refine di (aa (cT (sr ?_)));refine fH [_,_,_] ?_;refine bV hh 0 [_,_,_] ?_;intro ws hh;replace hh:Hp _ (.blk _ _ [_,_,_] _::_) _:=hh;refine aa (ay (aN ?_));exact Rj
 ·have hs:(iv s a).sign≠0:=by rw [ne_eq,Int.sign_eq_zero_iff_zero];exact h0
  rw [sB h0];have hz:bN a≠0:=fun h=>h0 ((Hv s a).2 h);have htz:tz (bN a)<8*a.size+1:=by
   have:=yg a;rw [show (256:Nat)=2^8 from rfl,←Zm] at this;have:=yo hz this;omega
  have hsh:Iq (iv s a) (-(tz (bN a):Int))=iv s a/2^tz (bN a):=by
   unfold Iq;split
   ·have:tz (bN a)=0:=Yv;rw [this];simp
   ·rw [Int.neg_neg,ZL]
  refine ak (N:=21) (l:=[.agg #[.bool s,.string a],.int .i64 e]) Tryz.func68 rfl rfl (by simp) ?_;refine sr ?_;refine cu hh [_,_] ?_;intro b2 w2 hh;refine bW hh ?_;intro b4 w4 hh;refine aa (ai (sr ?_));refine cC hh 1 [_,_] ?_;refine bA hh (lF s a _) rfl ?_;intro w7 hh;refine di (aa (cF (au (aj (sr (bJ ?_))))));refine bG hh 1 ?_;refine bA hh (lf a _ Yv (hT.hp hh)) rfl ?_;intro w12 hh;refine aI (aa (sr ?_));refine cC hh 1 [_,_] (mI ?_);refine AX rfl Yv Yv Yw ?_;refine bA hh (rW s a (-(tz (bN a):Int)) _ (hT.hp hh) ha Yv Yv) rfl ?_;intro w16 hh;rw [hsh];refine mI (mI ?_);refine bm ?_;refine fH [_,_,_] ?_;exact HR
def NR.ok (a:NR):Prop:=a.bj.size≤1000000∧ -10000000≤a.e∧a.e≤10000000
theorem Sz.ok {x:Dyadic} (h:Sz k x) (hk:k≤3999990):(nR x).ok:=by
 have:=h.nr;refine ⟨Yv,Yv,Yv⟩
theorem mF (n:Int) (w:World) (hT:e8 w) (h1: -9223372036854775808≤n) (h2:n≤9223372036854775807):
  Calls Tryz.prog 17 #[.int .i64 n] w fun r w'=>r=.returned (.agg #[.bool (nR (n:Dyadic)).neg,.string (nR (n:Dyadic)).bj,.int .i64 (nR (n:Dyadic)).e])∧Below w.heap.size w w':=by
 have hh:=Hp.start w;have hsz:(iM n).size≤100000000:=by
  rw [dV];have:bX n.natAbs≤64:=eb Yv;omega
 have hc:∀w1,e8 w1→Calls Tryz.prog 68 #[.agg #[.bool (iN n),.string (iM n)],.int .i64 0] w1 fun r w'=>r=.returned (.agg #[.bool (nR (n:Dyadic)).neg,.string (nR (n:Dyadic)).bj,.int .i64 (nR (n:Dyadic)).e])∧Below w1.heap.size w1 w':=fun w1 hT1=>by
  have:=jf (iN n) (iM n) 0 w1 hT1 hsz Yv Yv;rw [fL] at this;exact this
 refine ak (N:=6) (l:=[.int .i64 n]) Tryz.func17 rfl rfl (by simp) ?_;refine sr ?_;refine bW hh ?_;intro b2 w2 hh;refine aa (sr (mI ?_));refine bA hh (pj n _ h1 h2) rfl ?_;intro w4 hh;refine bA hh (hc _ (hT.hp hh)) rfl ?_;intro w5 hh;exact HR
theorem fp (a:NR) (w:World) (hT:e8 w) (ha:a.bj.size≤100000000) (h1: -1000000000000≤a.e) (h2:a.e≤1000000000000):
  Calls Tryz.prog 64 #[.agg #[.bool a.neg,.string a.bj,.int .i64 a.e]] w fun r w'=>r=.returned (.agg #[.bool (nR a.d).neg,.string (nR a.d).bj,.int .i64 (nR a.d).e])∧Below w.heap.size w w':=by
 have hh:=Hp.start w;refine ak (N:=8) (l:=[.agg #[.bool a.neg,.string a.bj,.int .i64 a.e]]) Tryz.func64 rfl rfl (by simp) ?_;refine sr ?_;refine cu hh [_,_,_] ?_;intro b1 w1 hh;refine bW hh ?_;intro b2 w2 hh;refine aa (sr (bJ ?_));refine cC hh 1 [_,_] (bJ ?_);refine bG hh 1 ?_;refine bA hh (jf a.neg a.bj a.e _ (hT.hp hh) ha h1 h2) rfl ?_;intro w7 hh;exact HR
theorem iU (a:NR) (w:World):
  Calls Tryz.prog 110 #[.agg #[.bool a.neg,.string a.bj,.int .i64 a.e]] w fun r w'=>r=.returned (.int .i64 a.i.sign)∧Below w.heap.size w w':=by
 have hh:=Hp.start w;refine ak (N:=6) (l:=[.agg #[.bool a.neg,.string a.bj,.int .i64 a.e]]) Tryz.func110 rfl rfl (by simp) ?_;refine sr ?_;refine cu hh [_,_,_] ?_;intro b1 w1 hh;refine aI (aa (sr (bJ ?_)));refine cC hh 0 [_,_] ?_;refine bA hh (lF a.neg a.bj _) rfl ?_;intro w5 hh;exact xA
theorem qu (a:NR) (w:World) (hT:e8 w) (ha:a.bj.size≤100000000) (h1: -1000000000000≤a.e) (h2:a.e≤1000000000000):
  Calls Tryz.prog 85 #[.agg #[.bool a.neg,.string a.bj,.int .i64 a.e]] w fun r w'=>r=.returned (.agg #[.bool (nR (-a.d)).neg,.string (nR (-a.d)).bj,.int .i64 (nR (-a.d)).e])∧Below w.heap.size w w':=by
 have hh:=Hp.start w;have hc:∀w1,e8 w1→Calls Tryz.prog 68 #[.agg #[.bool (iN (-(iv a.neg a.bj))),.string (iM (-(iv a.neg a.bj)))],.int .i64 a.e] w1 fun r w'=>r=.returned (.agg #[.bool (nR (-a.d)).neg,.string (nR (-a.d)).bj,.int .i64 (nR (-a.d)).e])∧Below w1.heap.size w1 w':=fun w1 hT1=>by
  have hs:=oG a.neg a.bj;have:=jf (iN (-(iv a.neg a.bj))) (iM (-(iv a.neg a.bj))) a.e w1 hT1 Yv h1 h2;rw [fL,←Ap] at this;exact this
 refine ak (N:=9) (l:=[.agg #[.bool a.neg,.string a.bj,.int .i64 a.e]]) Tryz.func85 rfl rfl (by simp) ?_;refine sr ?_;refine cu hh [_,_,_] ?_;intro b1 w1 hh;refine bW hh ?_;intro b2 w2 hh;refine aa (ai ?_);refine Su ?_;refine cX ?_;refine ef 1 [_,_] ?_;refine dC (fun _ hj=>wM a.neg a.bj _) ?_;refine cX ?_;refine dT 1 ?_;refine aM ?_;intro f W hJ hV;have hb_1:=hJ.bl;obtain ⟨v7,v6,v5,v4,v3,_⟩:=hV;replace hh:=hJ.hp;refine aQ (bg (ae v7 (ae v6 (ae v5 (ae v4 (ae v3 aR)))))) ?_;dsimp only [bO];clear hJ;refine bA hh (hc _ (hT.hp hh)) rfl ?_;intro w8 hh;exact HR
theorem yx (s:Int) (a:NR) (w:World) (hT:e8 w) (ha:a.bj.size≤100000000) (h1: -1000000000≤a.e-s) (h2:a.e-s≤1000000000):
  Calls Tryz.prog 157 #[.int .i64 s,.agg #[.bool a.neg,.string a.bj,.int .i64 a.e]] w fun r w'=>r=.returned (.agg #[.bool (iN (Iq a.i (a.e-s))),.string (iM (Iq a.i (a.e-s)))])∧Below w.heap.size w w':=by
 have hh:=Hp.start w;refine ak (N:=12) (l:=[.int .i64 s,.agg #[.bool a.neg,.string a.bj,.int .i64 a.e]]) Tryz.func157 rfl rfl (by simp) ?_;refine sr ?_;refine cu hh [_,_,_] ?_;intro b3 w3 hh;refine bW hh ?_;intro b4 w4 hh;refine aa (sr (bJ ?_));refine cC hh 1 [_,_] (bJ ?_);refine bG hh 1 ?_;refine mI ?_;refine eP ?_;refine bA hh (rW a.neg a.bj (a.e-s) _ (hT.hp hh) ha h1 h2) rfl ?_;intro w11 hh;exact N4
theorem ED (x:Dyadic) (p:Int):Iq (nR x).i ((nR x).e - -p)=dt x p:=by
 cases x with
 |zero=>exact Mn _
 |ofOdd n k h=>
  simp only [nR,NR.i,fL,dt];congr 1;omega
theorem lK (x:Dyadic):nR x=⟨false,ByteArray.mk #[],0⟩↔x=0:=by rw [←nn,Tz]
theorem lk {a:NR} (h:a.ok):Sz 18000000 a.d∧(nR a.d).bj.size≤1000000∧ -18000000≤(nR a.d).e∧(nR a.d).e≤18000000:=by
 obtain ⟨h1,h2,h3⟩:=h;refine ⟨Sz.raw (m:=8000000) (E:=10000000) Yv Yv Yv, ?_⟩;by_cases h0:iv a.neg a.bj=0
 ·rw [NR.d,NR.i,h0,k5,nn];exact ⟨YD _,by simp,by simp⟩
 ·rw [NR.d,NR.i,sB h0];have hz:bN a.bj≠0:=fun h=>h0 ((Hv a.neg a.bj).2 h);have htz:tz (bN a.bj)<8*a.bj.size+1:=by
   have:=yg a.bj;rw [show (256:Nat)=2^8 from rfl,←Zm] at this;have:=yo hz this;omega
  have hb:bX (iv a.neg a.bj/2^tz (bN a.bj)).natAbs≤8*a.bj.size:=by
   apply eb;refine ZF (abS _ _) ?_;rw [jP];exact ZC (dD _) (Zf Yv (fO _))
  simp only;rw [dV];refine ⟨Yv,Yv,Yv⟩
theorem rS (a b:NR) (w:World) (hT:e8 w) (ha:a.ok) (hb:b.ok):
  Calls Tryz.prog 112 #[.agg #[.bool a.neg,.string a.bj,.int .i64 a.e],.agg #[.bool b.neg,.string b.bj,.int .i64 b.e]] w fun r w'=>r=.returned (.agg #[.int .i64 (-(dN a.d b.d)),.bool (iN (dt a.d (dN a.d b.d))),.string (iM (dt a.d (dN a.d b.d))),.bool (iN (dt b.d (dN a.d b.d))),.string (iM (dt b.d (dN a.d b.d)))])∧Below w.heap.size w w':=by
 have hh:=Hp.start w;obtain ⟨ha1,ha2,ha3⟩:=ha;obtain ⟨hb1,hb2,hb3⟩:=hb;obtain ⟨_,fa1,fa2,fa3⟩:=lk (a:=a) ⟨ha1,ha2,ha3⟩;obtain ⟨_,fb1,fb2,fb3⟩:=lk (a:=b) ⟨hb1,hb2,hb3⟩;have hP:=Iz a.d b.d 18000000 Yv Yv;have hcx:=fun w1 hT1=>yx (-(dN a.d b.d)) (nR a.d) w1 hT1 Yv Yv Yv;have hcy:=fun w1 hT1=>yx (-(dN a.d b.d)) (nR b.d) w1 hT1 Yv Yv Yv;rw [ED] at hcx hcy;by_cases h0:a.d=0
 ·have h0':=(lK a.d).2 h0;have hs:(nR b.d).e= -(dN a.d b.d):=by
   rw [h0]
   cases b.d with
   |zero=>rfl
   |ofOdd n k h=>rfl
  refine L3 ?_;refine sr ?_;refine cu hh [_,_,_] ?_;intro b2 w2 hh;refine cu hh [_,_,_] ?_;intro b3 w3 hh;refine bW hh ?_;intro b4 w4 hh;refine aa (ai ?_);refine Kr ?_;refine ef 2 [_,_,_] ?_;refine K1 ?_;refine ef 1 [_,_,_] ?_;refine aM ?_;intro f W hJ hV;have hb_1:=hJ.bl;obtain ⟨v9,v8,v7,_⟩:=hV;replace hh:=hJ.hp;refine aQ (bg (ae v9 (ae v8 (ae v7 aR)))) ?_;dsimp only [bO];clear hJ;refine bA hh (fp b _ (hT.hp hh) Yv Yv Yv) rfl ?_;intro w10 hh;refine bV hh 2 [_,_,_] ?_;intro ws hh;replace hh:Hp _ (_::_::.blk _ _ [_,_,_] _::_) _:=hh;refine bV hh 1 [_,_,_] ?_;intro ws hh;replace hh:Hp _ (_::.blk _ _ [_,_,_] _::_) _:=hh;refine aa (sr (bJ ?_));refine bG hh 2 ?_;refine bJ ?_;refine bG hh 1 ?_;refine zd rfl rfl Yw ?_;refine aI (aa (ai (av (sr ?_))));refine cC hh 2 [_,_,_] ?_;refine fH [_,_,_] ?_;refine GX rfl rfl (by first|assumption|rfl) Yw ?_;refine aB (aa (cT (ar (bJ ?_))));refine bG hh 1 ?_;refine aI (aE (bM (aj (sr ?_))));exact WY
 ·have h0':¬nR a.d=⟨false,ByteArray.mk #[],0⟩:=fun h=>h0 ((lK _).1 h);by_cases h1:b.d=0
  ·have h1':=(lK b.d).2 h1;have hs:(nR a.d).e= -(dN a.d b.d):=by
    rw [h1]
    cases a.d with
    |zero=>rfl
    |ofOdd n k h=>rfl
   refine L3 ?_;refine sr ?_;refine cu hh [_,_,_] ?_;intro b2 w2 hh;refine cu hh [_,_,_] ?_;intro b3 w3 hh;refine bW hh ?_;intro b4 w4 hh;refine aa (ai ?_);refine Kr ?_;refine ef 2 [_,_,_] ?_;refine K1 ?_;refine ef 1 [_,_,_] ?_;refine aM ?_;intro f W hJ hV;have hb_1:=hJ.bl;obtain ⟨v9,v8,v7,_⟩:=hV;replace hh:=hJ.hp;refine aQ (bg (ae v9 (ae v8 (ae v7 aR)))) ?_;dsimp only [bO];clear hJ;refine bA hh (fp b _ (hT.hp hh) Yv Yv Yv) rfl ?_;intro w10 hh;refine bV hh 2 [_,_,_] ?_;intro ws hh;replace hh:Hp _ (_::_::.blk _ _ [_,_,_] _::_) _:=hh;refine bV hh 1 [_,_,_] ?_;intro ws hh;replace hh:Hp _ (_::.blk _ _ [_,_,_] _::_) _:=hh;refine aa (sr (bJ ?_));refine bG hh 2 ?_;refine bJ ?_;refine bG hh 1 ?_;refine zd rfl rfl Yw ?_;refine aI (aa (ai (av (sr ?_))));refine cC hh 2 [_,_,_] ?_;refine fH [_,_,_] ?_;refine Ad rfl rfl (by assumption) Yw ?_;refine aB (aa (cF (sr ?_)));refine cC hh 1 [_,_,_] ?_;refine fH [_,_,_] ?_;refine GX rfl rfl (by first|assumption|rfl) Yw ?_;refine aB (aa (cT (ar (bJ ?_))));refine bG hh 2 ?_;refine aI (aE (bM (aj (sr ?_))));exact WY
  ·have h1':¬nR b.d=⟨false,ByteArray.mk #[],0⟩:=fun h=>h1 ((lK _).1 h);have hs:(if (nR b.d).e<(nR a.d).e then (nR b.d).e else (nR a.d).e)= -(dN a.d b.d):=by
    revert h0 h1
    cases a.d with
    |zero=>intro h;exact absurd rfl h
    |ofOdd n k h=>
     cases b.d with
     |zero=>intro _ h;exact absurd rfl h
     |ofOdd m l g=>
      intro _ _;simp only [nR,dN];omega
   refine L3 ?_;refine sr ?_;refine cu hh [_,_,_] ?_;intro b2 w2 hh;refine cu hh [_,_,_] ?_;intro b3 w3 hh;refine bW hh ?_;intro b4 w4 hh;refine aa (ai ?_);refine Kr ?_;refine ef 2 [_,_,_] ?_;refine K1 ?_;refine ef 1 [_,_,_] ?_;refine aM ?_;intro f W hJ hV;have hb_1:=hJ.bl;obtain ⟨v9,v8,v7,_⟩:=hV;replace hh:=hJ.hp;refine aQ (bg (ae v9 (ae v8 (ae v7 aR)))) ?_;dsimp only [bO];clear hJ;refine bA hh (fp b _ (hT.hp hh) Yv Yv Yv) rfl ?_;intro w10 hh;refine bV hh 2 [_,_,_] ?_;intro ws hh;replace hh:Hp _ (_::_::.blk _ _ [_,_,_] _::_) _:=hh;refine bV hh 1 [_,_,_] ?_;intro ws hh;replace hh:Hp _ (_::.blk _ _ [_,_,_] _::_) _:=hh;refine aa (sr (bJ ?_));refine bG hh 2 ?_;refine bJ ?_;refine bG hh 1 ?_;refine zd rfl rfl Yw ?_;refine aI (aa (ai (av (sr ?_))));refine cC hh 2 [_,_,_] ?_;refine fH [_,_,_] ?_;refine Ad rfl rfl (by assumption) Yw ?_;refine aB (aa (cF (sr ?_)));refine cC hh 1 [_,_,_] ?_;refine fH [_,_,_] ?_;refine Ad rfl rfl (by assumption) Yw ?_;refine aB (aa (cF (au (bM (aj (sr ?_))))));exact WY
end
def kf (x y:Dyadic):Int:=if x<y then -1 else if y<x then 1 else 0
theorem CB (i j p:Int):(i-j).sign=kf (Dyadic.ofIntWithPrec i p) (Dyadic.ofIntWithPrec j p):=by
 unfold kf;simp only [wL]
 rcases abw i j with h|h|h
 ·rw [YA h,Z7 Yv]
 ·subst h;simp
 ·rw [YB Yv,YA h,aac Yv]
theorem F3 (i p:Int):i.sign=kf (Dyadic.ofIntWithPrec i p) 0:=by
 have:=CB i 0 p;rwa [Int.sub_zero,k5] at this
theorem NR.sign (a:NR):a.i.sign=kf a.d 0:=F3 _ _
theorem Eg (x y:Dyadic):(dt x (dN x y)-dt y (dN x y)).sign=kf x y:=by
 rw [CB _ _ (dN x y),KI,Na]
theorem Jj (X Y:Int) (h:X.sign≠Y.sign):(if (if X.sign-Y.sign<1 then X.sign-Y.sign else 1)> -1 then (if X.sign-Y.sign<1 then X.sign-Y.sign else 1) else -1)=(X-Y).sign:=by
 rcases abw X 0 with hx|hx|hx<;>rcases abw Y 0 with hy|hy|hy
 ·rw [Z7 hx,Z7 hy] at h;omega
 ·rw [Z7 hx,hy,Int.sub_zero,Z7 hx];simp
 ·rw [Z7 hx,aac hy,Z7 Yv];simp
 ·subst hx;rw [Int.sign_zero,Z7 hy,aac (a:=0-Y) Yv];simp
 ·rw [hx,hy] at h;omega
 ·subst hx;rw [Int.sign_zero,aac hy,Z7 (a:=0-Y) Yv];simp
 ·rw [aac hx,Z7 hy,aac Yv];simp
 ·rw [aac hx,hy,Int.sub_zero,aac hx];simp
 ·rw [aac hx,aac hy] at h;omega
theorem sZ {a b:NR} (ha:a.ok) (hb:b.ok):(iM (dt a.d (dN a.d b.d))).size≤6000000∧(iM (dt b.d (dN a.d b.d))).size≤6000000∧ -18000000≤dN a.d b.d∧dN a.d b.d≤18000000:=by
 obtain ⟨_,fa1,fa2,fa3⟩:=lk ha;obtain ⟨_,fb1,fb2,fb3⟩:=lk hb;have hP:=Iz a.d b.d 18000000 Yv Yv;have h1:=xk a.d (dN a.d b.d);have h2:=xk b.d (dN a.d b.d);rw [dV,dV];refine ⟨Yv,Yv,hP.1,hP.2⟩
theorem Hy (i:Int): -1≤i.sign∧i.sign≤1:=by
 rcases abw i 0 with h|h|h
 ·rw [Z7 h];omega
 ·rw [h];simp
 ·rw [aac h];omega
theorem qo (a b:NR) (w:World) (hT:e8 w) (ha:a.ok) (hb:b.ok):
  Calls Tryz.prog 125 #[.agg #[.bool a.neg,.string a.bj,.int .i64 a.e],.agg #[.bool b.neg,.string b.bj,.int .i64 b.e]] w fun r w'=>r=.returned (.int .i64 (kf a.d b.d))∧Below w.heap.size w w':=by
 have hh:=Hp.start w;obtain ⟨hs1,hs2,_⟩:=sZ ha hb;have hsa:a.i.sign=(dt a.d (dN a.d b.d)).sign:=by rw [NR.sign,F3 _ (dN a.d b.d),KI]
 have hsb:b.i.sign=(dt b.d (dN a.d b.d)).sign:=by rw [NR.sign,F3 _ (dN a.d b.d),Na]
 have hba:=Hy a.i;have hbb:=Hy b.i;by_cases hne:a.i.sign=b.i.sign
 ·refine QR ?_;refine sr ?_;refine cu hh [_,_,_] ?_;intro b2 w2 hh;refine cu hh [_,_,_] ?_;intro b3 w3 hh;refine aI (aa (ai (ai ?_)));refine aW 3 [[(2,none)],[(8,some 0)],[(3,none)]] [(2,10),(1,9),(0,8)] hh mixed Yx ?_;refine ef 1 [_,_,_] ?_;refine dC (fun _ hj=>iU a _) ?_;refine ef 0 [_,_,_] ?_;refine aM ?_;intro f W hJ hV;have hb_1:=hJ.bl;obtain ⟨v10,v9,v8,_⟩:=hV;replace hh:=hJ.hp;refine aQ (bg (ae v10 (ae v9 (ae v8 aR)))) ?_;dsimp only [bO];clear hJ;refine bA hh (iU b _) rfl ?_;intro w11 hh;refine aI (aI (aa (sr (mI (mI ?_)))));refine wZ ?_;refine cC hh 1 [_,_,_] ?_;refine cC hh 0 [_,_,_] ?_;refine bA hh (rS a b _ (hT.hp hh) ha hb) rfl ?_;intro w22 hh;refine bW hh ?_;intro b7 w7 hh;refine bV hh 0 [_,_,_,_,_] ?_;intro ws hh;replace hh:Hp _ (.blk _ _ [_,_,_,_,_] _::_) _:=hh;refine aa (sr (bJ ?_));refine cC hh 0 [_,_] (bJ ?_);refine cC hh 0 [_,_] ?_;refine bA hh (Gh _ _ _ _ _ Yv Yv) rfl ?_;intro w27 hh;rw [fL,fL,Eg];exact xA
 ·refine QR ?_;refine sr ?_;refine cu hh [_,_,_] ?_;intro b2 w2 hh;refine cu hh [_,_,_] ?_;intro b3 w3 hh;refine aI (aa (ai (ai ?_)));refine aW 3 [[(2,none)],[(8,some 0)],[(3,none)]] [(2,10),(1,9),(0,8)] hh mixed Yx ?_;refine ef 1 [_,_,_] ?_;refine dC (fun _ hj=>iU a _) ?_;refine ef 0 [_,_,_] ?_;refine aM ?_;intro f W hJ hV;have hb_1:=hJ.bl;obtain ⟨v10,v9,v8,_⟩:=hV;replace hh:=hJ.hp;refine aQ (bg (ae v10 (ae v9 (ae v8 aR)))) ?_;dsimp only [bO];clear hJ;refine bA hh (iU b _) rfl ?_;intro w11 hh;refine aI (aI (aa (sr (mI (mI ?_)))));refine db (aa (cT (sr (mI (mI ?_)))));refine eP ?_;refine zd rfl rfl Yw ?_;refine lL rfl rfl Yw ?_;refine aI (aa (ay (aN ?_)));refine dh ?_;refine ⟨?_,hh.below⟩;rw [hsa,hsb] at hne;rw [hsa,hsb,←Eg a.d b.d,←Jj _ _ hne]
def se (n:Int):Dyadic:=Dyadic.ofIntWithPrec 1 (-n)
theorem Qe (i p n:Int):Dyadic.ofIntWithPrec i (p-n)=Dyadic.ofIntWithPrec i p*se n:=by
 rw [se,sg,Int.mul_one];rfl
def oK:List Dyadic→Dyadic:=fun l=>l.foldl (· + ·) 0
theorem xW (l:List Dyadic) (x:Dyadic):oK (l++[x])=oK l+x:=by simp [oK]
theorem Sz.sum {l:List Dyadic} (h:∀x∈l,Sz k x):Sz (k+l.length) (oK l):=by
 have:∀(n:Nat),n≤l.length→Sz (k+n) (oK (l.take n)):=by
  intro n
  induction n with
  |zero=>intro _;exact Sz.zero _
  |succ n ih=>
   intro hn;obtain ⟨x,hx⟩:=ao (l:=l) (k:=n) Yv;rw [aC hx,xW];exact (ih Yv).add ((h x (YF hx)).mono Yv)
 have h2:=this l.length (YE _);rwa [abr] at h2
theorem vY (a b:NR) (w:World) (hT:e8 w) (ha:a.ok) (hb:b.ok):
  Calls Tryz.prog 68 #[.agg #[.bool (iN (dt a.d (dN a.d b.d)+dt b.d (dN a.d b.d))),.string (iM (dt a.d (dN a.d b.d)+dt b.d (dN a.d b.d)))],.int .i64 (-(dN a.d b.d))] w fun r w'=>r=.returned (.agg #[.bool (nR (a.d+b.d)).neg,.string (nR (a.d+b.d)).bj,.int .i64 (nR (a.d+b.d)).e])∧Below w.heap.size w w':=by
 obtain ⟨hs1,hs2,hP1,hP2⟩:=sZ ha hb;rw [dV] at hs1 hs2;have h3:=nk (dt a.d (dN a.d b.d)) (dt b.d (dN a.d b.d));have:=jf (iN (dt a.d (dN a.d b.d)+dt b.d (dN a.d b.d))) (iM (dt a.d (dN a.d b.d)+dt b.d (dN a.d b.d))) (-(dN a.d b.d)) w hT (by rw [dV];omega) Yv Yv;rw [fL,Int.neg_neg,PJ] at this;exact this
theorem jM (L:Option Addr) (n c:Nat) (l:List NR) (w:World) (hT:e8 w) (hS:Sl w L n 3 (aD NR.cells l)) (hl:∀a∈l,a.ok) (k:Nat) (hk:∀a∈l,Sz k a.d) (hkn:k+n≤3999990):
  Calls Tryz.prog 56 #[.slice L n c] w fun r w'=>r=.returned (.agg #[.bool (nR (oK (l.map NR.d))).neg,.string (nR (oK (l.map NR.d))).bj,.int .i64 (nR (oK (l.map NR.d))).e])∧Below w.heap.size w w':=by
 have hln:=hS.bh NR.len Yv;have hh:=Hp.start w;refine ak (N:=27) (l:=[.slice L n c]) Tryz.func56 rfl rfl (by simp) ?_;refine sr ?_;refine bW hh ?_;intro b2 w2 hh;refine aa (sr ?_);refine bW hh ?_;intro b3 w3 hh;refine yS ?_;refine aT [5,6,9,10,11,12,13,14,15,16,17,18,19,20,21,22,23,24,25] 9
  (fun j w'=>∃(i:Nat) (S:Dyadic),i≤n∧j=.int .i64 i∧S=oK ((l.take i).map NR.d)∧Hp w [.blk b3 40 [.bool (nR S).neg,.string (nR S).bj,.int .i64 (nR S).e] (0,0),.blk b2 40 [.bool false,.string (ByteArray.mk #[]),.int .i64 0] (0,0)] w')
  (fun j _=>n-(intOf j).toNat) ?_ ?_
 ·exact ⟨0,0,YD _,rfl,rfl,hh⟩
 ·clear hh;rintro ρ' j w' ⟨i,S,hi,rfl,hS2,hh⟩;by_cases hlt:i<n
  ·obtain ⟨x,hx⟩:=ao (l:=l) (k:=i) Yv;obtain ⟨ad,rfl,hr⟩:=hS.at_ Yv;have hxm:=YF hx;have hS3:oK ((l.take (i+1)).map NR.d)=S+x.d:=by rw [aC hx,Zq,abb,xW,hS2]
   have hSz:Sz (k+i) S:=by
    rw [hS2];have:=Sz.sum (k:=k) (l:=(l.take i).map NR.d) (fun y hy=>by
     obtain ⟨a,ha,rfl⟩:=YR.1 hy;exact hk a (aau ha))
    rw [YO,YW,ZB Yv] at this;exact this
   have hSo:=hSz.ok Yv;have hlc:=fun w1 hT1=>rS (nR S) x w1 hT1 hSo (hl x hxm);have hmc:=fun w1 hT1=>vY (nR S) x w1 hT1 hSo (hl x hxm);obtain ⟨hs1,hs2,_⟩:=sZ hSo (hl x hxm);rw [cj] at hlc hmc hs1 hs2;have e1:([iR (dt S (dN S x.d)),iR (dt x.d (dN S x.d))].map IR.v).sum=dt S (dN S x.d)+dt x.d (dN S x.d):=by
    simp only [Y1,Zp,List.sum_cons,List.sum_nil,Vy];omega
   have hac:∀(A:Option Addr) (cc:Nat) (w1:World),Sl w1 A 2 2 (aD IR.cells [iR (dt S (dN S x.d)),iR (dt x.d (dN S x.d))])→Calls Tryz.prog 113 #[.slice A 2 cc] w1 fun e w'=>e=.returned (.agg #[.bool (iN (dt S (dN S x.d)+dt x.d (dN S x.d))),.string (iM (dt S (dN S x.d)+dt x.d (dN S x.d)))])∧Below w1.heap.size w1 w':=fun A cc w1 hsl=>by
    have:=vS A 2 cc [iR (dt S (dN S x.d)),iR (dt x.d (dN S x.d))] w1 hsl Yv (by simp [iR];omega);rw [e1] at this;exact this
   refine sr ?_;refine eC ?_;refine cE ?_;refine IH ?_;refine bW hh ?_;intro b5 w5 hh;refine bV hh 0 [_,_,_] ?_;intro ws hh;replace hh:Hp _ (.blk _ _ [_,_,_] _::_) _:=hh;refine aa (sr ?_);refine cC hh 1 [_,_,_] ?_;refine cC hh 0 [_,_,_] ?_;refine bA hh (hlc _ (hT.hp hh)) rfl ?_;intro w15 hh;refine bW hh ?_;intro b6 w6 hh;refine bV hh 0 [_,_,_,_,_] ?_;intro ws hh;replace hh:Hp _ (.blk _ _ [_,_,_,_,_] _::_) _:=hh;refine aa ?_;refine aW 8 [[(6,none)],[(16,some 0)],[(6,none)],[(18,some 2)],[(17,some 1),(19,some 3)],[(20,some 4)],[(6,none)],[(22,some 6)]] [(7,23),(6,22),(5,21),(4,20),(3,19),(2,18),(1,17),(0,16)] hh mixed Yx ?_;refine cX ?_;refine ef 0 [_,_] ?_;refine cX ?_;refine ef 0 [_,_] ?_;refine pL [_,_,_,_] ?_;refine aO (i:=5) (Is (.agg #[.bool (iN (dt S (dN S x.d)+dt x.d (dN S x.d))),.string (iM (dt S (dN S x.d)+dt x.d (dN S x.d)))])) Is.ext ?_ ?_
   ·intro ρ1 w1 hj hR;obtain ⟨A20,c20,h20,s20⟩:=hR.1;exact bk rfl (aV aw.out (az h20 bf)) (hac A20 c20 _ s20) (fun _ _ hq=>⟨_,hq.1,hq.2,rfl⟩)
   refine cX ?_;refine dT 0 ?_;refine aM ?_;intro f W hJ hV;have hb_6:=hJ.bl;obtain ⟨v23,v22,v21,v20,v19,v18,v17,v16,_⟩:=hV;obtain ⟨A20,c20,e20,f20⟩:Rows _ _ _ (f 4) W:=v20;replace hh:=hJ.hp;refine aQ (bg (ae v23 (ae v22 (ae v21 (ae e20 (ae v19 (ae v18 (ae v17 (ae v16 aR))))))))) ?_;dsimp only [bO];clear e20 hJ;refine bA hh (hmc _ (hT.hp hh)) rfl ?_;intro w24 hh;refine bV hh 2 [_,_,_] ?_;intro ws hh;replace hh:Hp _ (_::_::.blk _ _ [_,_,_] _::_) _:=hh;refine gN ?_;refine bm (mI (aE (aj ?_)));replace hh:=hh.sub ((Zi _ _).trans (Zi _ _));exact Qy
  ·exact U3
theorem mA (x y:Dyadic):oK [x,y]=x+y:=by
 show (0+x)+y=x+y;rw [aaz]
theorem na (a b:NR) (w:World) (hT:e8 w) (ha:a.ok) (hb:b.ok) (k:Nat) (hka:Sz k a.d) (hkb:Sz k b.d) (hk:k≤3999980):
  Calls Tryz.prog 89 #[.agg #[.bool a.neg,.string a.bj,.int .i64 a.e],.agg #[.bool b.neg,.string b.bj,.int .i64 b.e]] w fun r w'=>r=.returned (.agg #[.bool (nR (a.d-b.d)).neg,.string (nR (a.d-b.d)).bj,.int .i64 (nR (a.d-b.d)).e])∧Below w.heap.size w w':=by
 have hh:=Hp.start w;obtain ⟨hb1,hb2,hb3⟩:=hb;have e1:oK ([a,nR (-b.d)].map NR.d)=a.d-b.d:=by
  simp only [Y1,Zp,cj,mA];rfl
 have hac:∀(A:Option Addr) (cc:Nat) (w1:World),e8 w1→Sl w1 A 2 3 (aD NR.cells [a,nR (-b.d)])→Calls Tryz.prog 56 #[.slice A 2 cc] w1 fun r w'=>r=.returned (.agg #[.bool (nR (a.d-b.d)).neg,.string (nR (a.d-b.d)).bj,.int .i64 (nR (a.d-b.d)).e])∧Below w1.heap.size w1 w':=fun A cc w1 hT1 hsl=>by
  have:=jM A 2 cc [a,nR (-b.d)] w1 hT1 hsl (by simpa using ⟨ha,hkb.neg.ok Yv⟩) k (by simpa [cj] using ⟨hka,hkb.neg⟩) Yv;rw [e1] at this;exact this
 refine ak (N:=10) (l:=[.agg #[.bool a.neg,.string a.bj,.int .i64 a.e],.agg #[.bool b.neg,.string b.bj,.int .i64 b.e]]) Tryz.func89 rfl rfl (by simp) ?_;refine sr ?_;refine cu hh [_,_,_] ?_;intro b2 w2 hh;refine cu hh [_,_,_] ?_;intro b3 w3 hh;refine bW hh ?_;intro b4 w4 hh;refine aa (ai ?_);refine Me ?_;refine ef 2 [_,_,_] ?_;refine ef 1 [_,_,_] ?_;refine dC (fun _ hj=>qu b _ (hT.hp hj.hp) Yv Yv Yv) ?_;refine aM ?_;intro f W hJ hV;have hb_1:=hJ.bl;obtain ⟨v7,v6,v5,_⟩:=hV;replace hh:=hJ.hp;refine vv ?_;dsimp only [bO];clear hJ;refine zA ?_;intro b8 w8 hh;refine bA hh (hac _ _ _ (hT.hp hh) (hh.aG (i:=0) rfl)) rfl ?_;intro w9 hh;exact Uj
def iZ:List Dyadic→Dyadic:=fun l=>l.foldl (· * ·) 1
theorem xg (l:List Dyadic) (x:Dyadic):iZ (l++[x])=iZ l*x:=by simp [iZ]
theorem Sz.one:Sz 1 1:=⟨2,by decide+kernel,Yw⟩
theorem Sz.prod {l:List Dyadic} (h:∀x∈l,Sz k x):Sz (1+k*l.length) (iZ l):=by
 have:∀(n:Nat),n≤l.length→Sz (1+k*n) (iZ (l.take n)):=by
  intro n
  induction n with
  |zero=>intro _;exact Sz.one
  |succ n ih=>
   intro hn;obtain ⟨x,hx⟩:=ao (l:=l) (k:=n) Yv;rw [aC hx,xg];exact ((ih Yv).mul (h x (YF hx))).mono (by rw [aad];omega)
 have h2:=this l.length (YE _);rwa [abr] at h2
theorem fS (L:Option Addr) (n c:Nat) (l:List NR) (w:World) (hT:e8 w) (hS:Sl w L n 3 (aD NR.cells l)) (hl:∀a∈l,a.ok) (k:Nat) (hk:∀a∈l,Sz k a.d) (hkn:k*n≤3999980) (hn:n≤1000000):
  Calls Tryz.prog 54 #[.slice L n c] w fun r w'=>r=.returned (.agg #[.bool (nR (iZ (l.map NR.d))).neg,.string (nR (iZ (l.map NR.d))).bj,.int .i64 (nR (iZ (l.map NR.d))).e])∧Below w.heap.size w w':=by
 have hln:=hS.bh NR.len Yv;have hh:=Hp.start w;refine ak (N:=27) (l:=[.slice L n c]) Tryz.func54 rfl rfl (by simp) ?_;refine sr ?_;refine bW hh ?_;intro b2 w2 hh;refine aa (sr ?_);refine DN ?_;intro w6 hh;refine bW hh ?_;intro b3 w3 hh;refine bV hh 0 [_,_,_] ?_;intro ws hh;replace hh:Hp _ (.blk _ _ [_,_,_] _::_) _:=hh;refine yS ?_;refine aT [5,9,10,11,12,13,14,15,16,17,18,19,20,21,22,23,24,25] 9
  (fun j w'=>∃(i:Nat) (S:Dyadic),i≤n∧j=.int .i64 i∧S=iZ ((l.take i).map NR.d)∧Hp w [.blk b3 40 [.bool (nR S).neg,.string (nR S).bj,.int .i64 (nR S).e] (0,0),.blk b2 40 [.bool false,.string (ByteArray.mk #[]),.int .i64 0] (0,0)] w')
  (fun j _=>n-(intOf j).toNat) ?_ ?_
 ·exact ⟨0,_,YD _,rfl,rfl,hh⟩
 ·clear hh;rintro ρ' j w' ⟨i,S,hi,rfl,hS2,hh⟩;by_cases hlt:i<n
  ·obtain ⟨x,hx⟩:=ao (l:=l) (k:=i) Yv;obtain ⟨ad,rfl,hr⟩:=hS.at_ Yv;have hxm:=YF hx;have hS3:iZ ((l.take (i+1)).map NR.d)=S*x.d:=by rw [aC hx,Zq,abb,xg,hS2]
   have hSz:Sz (1+k*i) S:=by
    rw [hS2];have:=Sz.prod (k:=k) (l:=(l.take i).map NR.d) (fun y hy=>by
     obtain ⟨a,ha,rfl⟩:=YR.1 hy;exact hk a (aau ha))
    rw [YO,YW,ZB Yv] at this;exact this
   have hki:k*i≤k*n:=Zc _ hi;obtain ⟨so1,so2,so3⟩:=hSz.ok Yv;obtain ⟨xo1,xo2,xo3⟩:=hl x hxm;have e1:nV ([IR.mk (nR S).neg (nR S).bj,IR.mk x.neg x.bj].map IR.v)=(nR S).i*x.i:=by
    simp only [Y1,Zp,nV,Int.mul_one];rfl
   have e2:Dyadic.ofIntWithPrec ((nR S).i*x.i) (-((nR S).e+x.e))=S*x.d:=by
    have:=sg (nR S).i x.i (-(nR S).e) (-x.e);rw [Int.neg_add,←this];congr 1;exact cj S
   have hac:∀(A:Option Addr) (cc:Nat) (w1:World),Sl w1 A 2 2 (aD IR.cells [IR.mk (nR S).neg (nR S).bj,IR.mk x.neg x.bj])→Calls Tryz.prog 111 #[.slice A 2 cc] w1 fun e w'=>e=.returned (.agg #[.bool (iN ((nR S).i*x.i)),.string (iM ((nR S).i*x.i))])∧Below w1.heap.size w1 w':=fun A cc w1 hsl=>by
    have:=FH A 2 cc [IR.mk (nR S).neg (nR S).bj,IR.mk x.neg x.bj] w1 hsl Yv (by simp;omega);rw [e1] at this;exact this
   have hmc:∀w1,e8 w1→Calls Tryz.prog 68 #[.agg #[.bool (iN ((nR S).i*x.i)),.string (iM ((nR S).i*x.i))],.int .i64 ((nR S).e+x.e)] w1 fun r w'=>r=.returned (.agg #[.bool (nR (S*x.d)).neg,.string (nR (S*x.d)).bj,.int .i64 (nR (S*x.d)).e])∧Below w1.heap.size w1 w':=fun w1 hT1=>by
    have hb1:=iF (nR S).neg (nR S).bj;have hb2:=iF x.neg x.bj;have hb3:=kx (nR S).i x.i;have:=jf (iN ((nR S).i*x.i)) (iM ((nR S).i*x.i)) ((nR S).e+x.e) w1 hT1 (by rw [dV];unfold NR.i at hb3 ⊢;omega) Yv Yv;rw [fL,e2] at this;exact this
   refine sr ?_;refine eC ?_;refine cE ?_;refine IH ?_;refine bW hh ?_;intro b5 w5 hh;refine bV hh 0 [_,_,_] ?_;intro ws hh;replace hh:Hp _ (.blk _ _ [_,_,_] _::_) _:=hh;refine aa ?_;refine aW 11 [[(3,none)],[(13,some 0)],[(5,none)],[(15,some 2)],[(14,some 1),(16,some 3)],[(17,some 4)],[(3,none)],[(19,some 6)],[(5,none)],[(21,some 8)],[(20,some 7),(22,some 9)]] [(10,23),(9,22),(8,21),(7,20),(6,19),(5,18),(4,17),(3,16),(2,15),(1,14),(0,13)] hh mixed Yx ?_;refine cX ?_;refine ef 1 [_,_] ?_;refine cX ?_;refine ef 0 [_,_] ?_;refine pL [_,_,_,_] ?_;refine aO (i:=5) (Is (.agg #[.bool (iN ((nR S).i*x.i)),.string (iM ((nR S).i*x.i))])) Is.ext ?_ ?_
   ·intro ρ1 w1 hj hR;obtain ⟨A17,c17,h17,s17⟩:=hR.1;exact bk rfl (aV aw.out (az h17 bf)) (hac A17 c17 _ s17) (fun _ _ hq=>⟨_,hq.1,hq.2,rfl⟩)
   refine cX ?_;refine dT 1 ?_;refine cX ?_;refine dT 0 ?_;refine r6 ?_;refine aM ?_;intro f W hJ hV;have hb_5:=hJ.bl;obtain ⟨v23,v22,v21,v20,v19,v18,v17,v16,v15,v14,v13,_⟩:=hV;obtain ⟨A17,c17,e17,f17⟩:Rows _ _ _ (f 4) W:=v17;replace hh:=hJ.hp;refine aQ (bg (ae v23 (ae v22 (ae v21 (ae v20 (ae v19 (ae v18 (ae e17 (ae v16 (ae v15 (ae v14 (ae v13 aR)))))))))))) ?_;dsimp only [bO];clear e17 hJ;refine bA hh (hmc _ (hT.hp hh)) rfl ?_;intro w24 hh;refine bV hh 1 [_,_,_] ?_;intro ws hh;replace hh:Hp _ (_::.blk _ _ [_,_,_] _::_) _:=hh;refine gN ?_;refine bm (mI (aE (aj ?_)));replace hh:=hh.sub (Zi _ _);exact Qy
  ·exact U3
theorem N6 (i p:Int) (n:Nat):Dyadic.ofIntWithPrec i p^n=Dyadic.ofIntWithPrec (i^n) (p*n):=by
 induction n with
 |zero=>rw [aaO];simp;rfl
 |succ n ih=>rw [abh,ih,sg,Int.pow_succ,aaw,Int.mul_add];simp
theorem V4 (i p:Int):(nR (Dyadic.ofIntWithPrec i p)).bj.size≤(bX i.natAbs+7)/8∧(i=0∨ -p≤(nR (Dyadic.ofIntWithPrec i p)).e∧(nR (Dyadic.ofIntWithPrec i p)).e≤ -p+bX i.natAbs)∧(i=0→(nR (Dyadic.ofIntWithPrec i p)).e=0):=by
 by_cases h0:i=0
 ·subst h0;rw [k5,nn];exact ⟨YD _,.inl rfl,fun _=>rfl⟩
 ·have h2:=mC h0;rw [Bg h0,nR];simp only;refine ⟨?_,.inr ⟨Yv, ?_⟩,fun h=>absurd h h0⟩
  ·rw [dV];have:bX (i>>>i.trailingZeros).natAbs≤bX i.natAbs:=by
    apply eb;refine ZF ?_ (dD _);rw [Int.shiftRight_eq_div_pow];exact abS _ _
   omega
  ·have h3:2^i.trailingZeros<2^bX i.natAbs:=ZF h2 (dD _);have:=(Nat.pow_lt_pow_iff_right Yv).1 h3;omega
theorem wD (a:NR) (n:Int) (w:World) (hT:e8 w) (ha:a.ok) (hs:n.toNat*a.bj.size≤1000000) (hn:n≤1000):
  Calls Tryz.prog 88 #[.agg #[.bool a.neg,.string a.bj,.int .i64 a.e],.int .i64 n] w fun r w'=>r=.returned (.agg #[.bool (nR (a.d^n.toNat)).neg,.string (nR (a.d^n.toNat)).bj,.int .i64 (nR (a.d^n.toNat)).e])∧Below w.heap.size w w':=by
 have hh:=Hp.start w;obtain ⟨ha1,ha2,ha3⟩:=ha;obtain ⟨_,fa1,fa2,fa3⟩:=lk (a:=a) ⟨ha1,ha2,ha3⟩;have hsz:(nR a.d).bj.size≤a.bj.size:=by
  have:=(V4 a.i (-a.e)).1;have h2:=iF a.neg a.bj;unfold NR.d NR.i at*;omega
 have hms:n.toNat*(nR a.d).bj.size≤n.toNat*a.bj.size:=Zc _ hsz;have e1:(if (0:Int)>n then 0 else n)=(n.toNat:Int):=by split<;>omega
 have hm:n.toNat≤1000:=Yv;have hlo: -18000000*1000≤(nR a.d).e*(n.toNat:Int):=by
  have h1:(-18000000:Int)*n.toNat≤(nR a.d).e*n.toNat:=Int.mul_le_mul_of_nonneg_right fa2 Yv;omega
 have hhi:(nR a.d).e*(n.toNat:Int)≤18000000*1000:=by
  have h1:(nR a.d).e*n.toNat≤(18000000:Int)*n.toNat:=Int.mul_le_mul_of_nonneg_right fa3 Yv;omega
 have hpc:=fun w1=>ER (nR a.d).neg (nR a.d).bj n w1 Yv Yv Yv;have hmc:∀w1,e8 w1→Calls Tryz.prog 68 #[.agg #[.bool (iN (iv (nR a.d).neg (nR a.d).bj^n.toNat)),.string (iM (iv (nR a.d).neg (nR a.d).bj^n.toNat))],.int .i64 ((nR a.d).e*(n.toNat:Int))] w1 fun r w'=>r=.returned (.agg #[.bool (nR (a.d^n.toNat)).neg,.string (nR (a.d^n.toNat)).bj,.int .i64 (nR (a.d^n.toNat)).e])∧Below w1.heap.size w1 w':=fun w1 hT1=>by
  have hb:=rE (iv (nR a.d).neg (nR a.d).bj) n.toNat;have hb2:=iF (nR a.d).neg (nR a.d).bj;have hb3:n.toNat*bX (iv (nR a.d).neg (nR a.d).bj).natAbs≤n.toNat*(8*(nR a.d).bj.size):=Zc _ hb2;rw [abM] at hb3;have:=jf (iN (iv (nR a.d).neg (nR a.d).bj^n.toNat)) (iM (iv (nR a.d).neg (nR a.d).bj^n.toNat)) ((nR a.d).e*(n.toNat:Int)) w1 hT1 (by rw [dV];omega) Yv Yv;have e2:Dyadic.ofIntWithPrec (iv (nR a.d).neg (nR a.d).bj^n.toNat) (-((nR a.d).e*(n.toNat:Int)))=a.d^n.toNat:=by
   have h3:=cj a.d
   conv=>rhs;rw [←h3,NR.d,N6]
   rw [Int.neg_mul];rfl
  rw [fL,e2] at this;exact this
 refine ak (N:=17) (l:=[.agg #[.bool a.neg,.string a.bj,.int .i64 a.e],.int .i64 n]) Tryz.func88 rfl rfl (by simp) ?_;refine sr ?_;refine cu hh [_,_,_] ?_;intro b2 w2 hh;refine bW hh ?_;intro b4 w4 hh;refine aa (sr ?_);refine cC hh 1 [_,_,_] ?_;refine bA hh (fp a _ (hT.hp hh) Yv Yv Yv) rfl ?_;intro w6 hh;refine bV hh 1 [_,_,_] ?_;intro ws hh;replace hh:Hp _ (_::.blk _ _ [_,_,_] _::_) _:=hh;refine aa (ai ?_);refine aW 9 [[(2,none)],[(7,some 0)],[(1,none)],[(8,some 1),(9,some 2)],[(2,none)],[(11,some 4)],[(1,none)],[(13,some 6)],[(12,some 5),(14,some 7)]] [(8,15),(7,14),(6,13),(5,12),(4,11),(3,10),(2,9),(1,8),(0,7)] hh mixed Yx ?_;refine cX ?_;refine ef 1 [_,_] ?_;refine cZ ?_;refine dC (fun _ hj=>hpc _) ?_;refine cX ?_;refine dT 1 ?_;refine cZ ?_;refine aO (i:=7) (Is (.int .i64 (n.toNat:Int))) (Is.ext) ?_ ?_
 ·intro ρ1 w1 hj hR;exact eJ rfl ((So (ρ:=ρ1) (x:=.tmp 13) (show ρ1 13=Value.int .i64 n from hR.1) rfl).trans (by rw [e1])) ⟨Below.refl _ _,rfl⟩
 refine V3 ?_;refine aM ?_;intro f W hJ hV;have hb_2:=hJ.bl;obtain ⟨v15,v14,v13,v12,v11,v10,v9,v8,v7,_⟩:=hV;replace hh:=hJ.hp;refine aQ (bg (ae v15 (ae v14 (ae v13 (ae v12 (ae v11 (ae v10 (ae v9 (ae v8 (ae v7 aR)))))))))) ?_;dsimp only [bO];clear hJ;refine bA hh (hmc _ (hT.hp hh)) rfl ?_;intro w16 hh;exact HR
theorem Ut (x:Dyadic):(nR (-x)).bj=(nR x).bj∧(nR (-x)).e=(nR x).e:=by
 cases x with
 |zero=>exact ⟨rfl,rfl⟩
 |ofOdd n k h=>
  refine ⟨?_,rfl⟩;show iM (-n)=iM n;rw [iM,iM,Int.natAbs_neg]
def jk (f:Dyadic→Dyadic→Bool):List Dyadic→Dyadic
 |[]=>0
 |a::r=>r.foldl (fun out a=>if f a out then a else out) a
theorem EF (f:Dyadic→Dyadic→Bool) {l:List Dyadic} (h:l≠[]) (x:Dyadic):jk f (l++[x])=if f x (jk f l) then x else jk f l:=by
 cases l with
 |nil=>exact absurd rfl h
 |cons a r=>
  show (r++[x]).foldl _ a=_;rw [abi]
  rfl
theorem qS (L:Option Addr) (n c:Nat) (l:List NR) (g:FuncId) (f:Dyadic→Dyadic→Bool) (w:World) (hT:e8 w) (hS:Sl w L n 3 (aD NR.cells l)) (hl:∀a∈l,a.ok) (hn:n≤1000000) [aw Tryz.prog g]
  (hg:∀(a b:NR) (w:World),e8 w→a.ok→b.ok→Calls Tryz.prog g #[.agg #[.bool a.neg,.string a.bj,.int .i64 a.e],.agg #[.bool b.neg,.string b.bj,.int .i64 b.e]] w fun r w'=>r=.returned (.bool (f a.d b.d))∧Below w.heap.size w w'):
  Calls Tryz.prog 214 #[.slice L n c,.func (.func g) #[] #[]] w fun r w'=>r=.returned (.agg #[.bool (nR (jk f (l.map NR.d))).neg,.string (nR (jk f (l.map NR.d))).bj,.int .i64 (nR (jk f (l.map NR.d))).e])∧Below w.heap.size w w':=by
 have hln:=hS.bh NR.len Yv;have hh:=Hp.start w;refine ak (N:=27) (l:=[.slice L n c,.func (.func g) #[] #[]]) Tryz.func214 rfl rfl (by simp) ?_;refine sr ?_;refine bW hh ?_;intro b4 w4 hh;refine aa (sr ?_);refine bW hh ?_;intro b5 w5 hh;refine yS ?_;refine aT [6,7,10,11,12,13,14,15,16,17,18,19,20,21,22,23,24] 10
  (fun j w'=>∃(i:Nat) (o:NR),i≤n∧j=.int .i64 i∧o.ok∧o.d=jk f ((l.take i).map NR.d)∧Hp w [.blk b5 40 [.bool o.neg,.string o.bj,.int .i64 o.e] (0,0),.blk b4 40 [.bool false,.string (ByteArray.mk #[]),.int .i64 0] (0,0)] w')
  (fun j _=>n-(intOf j).toNat) ?_ ?_
 ·exact ⟨0,nR 0,YD _,rfl,(Sz.zero 0).ok Yv,rfl,hh⟩
 ·clear hh;rintro ρ' j w' ⟨i,o,hi,rfl,hok,hod,hh⟩;by_cases hlt:i<n
  ·obtain ⟨x,hx⟩:=ao (l:=l) (k:=i) Yv;obtain ⟨ad,rfl,hr⟩:=hS.at_ Yv;have hxo:=hl x (YF hx);have htk:(l.take (i+1)).map NR.d=(l.take i).map NR.d++[x.d]:=by rw [aC hx,Zq,abb]
   by_cases h0:i=0
   ·subst h0;refine sr ?_;refine e9 ?_;refine D9 ?_;refine IH ?_;refine bW hh ?_;intro b7 w7 hh;refine aI ?_;refine bV hh 0 [_,_,_] ?_;intro ws hh;replace hh:Hp _ (.blk _ _ [_,_,_] _::_) _:=hh;refine aa (sr (mI ?_));refine di (mB ?_);refine gS (gS (gS ?_));refine jG ?_;refine fG ?_;refine aa (cT (ar ?_));refine cC hh 0 [_,_,_] ?_;refine bV hh 1 [_,_,_] ?_;intro ws hh;replace hh:Hp _ (_::.blk _ _ [_,_,_] _::_) _:=hh;refine gN ?_;refine bm (mI (aE (aj ?_)));replace hh:=hh.sub (Zi _ _);refine ⟨⟨1,x,Yv,rfl,hxo,by rw [htk];rfl,hh⟩,by show n-(0+1)<n-0;omega, ?_⟩;exact dO
   ·have hne:(l.take i).map NR.d≠[]:=by
     intro h;have:=Zz List.length h;rw [YO,YW,abv] at this;omega
    have hb:=EF f hne x.d;rw [←htk,←hod] at hb;refine sr ?_;refine e9 ?_;refine cE ?_;refine IH ?_;refine bW hh ?_;intro b7 w7 hh;refine aI ?_;refine bV hh 0 [_,_,_] ?_;intro ws hh;replace hh:Hp _ (.blk _ _ [_,_,_] _::_) _:=hh;refine aa (sr (mI ?_));refine di (mB (gT ?_));refine jC ?_;refine gT ?_;refine cC hh 0 [_,_,_] (gT ?_);refine cC hh 1 [_,_,_] ?_;refine aP rfl rfl ?_;refine hH (hg x o _ (hT.hp hh) hxo hok) aw.out rfl rfl Yw ?_;rintro e_ w21 ⟨rfl,hb_⟩;refine ⟨_,rfl, ?_⟩;replace hh:=hh.ext hb_
    cases hf:f x.d o.d with
    |true=>
     rw [hf,YA rfl] at hb;refine dX ?_;refine aa (cT (ar ?_));refine cC hh 0 [_,_,_] ?_;refine bV hh 1 [_,_,_] ?_;intro ws hh;replace hh:Hp _ (_::.blk _ _ [_,_,_] _::_) _:=hh;refine gN ?_;refine bm (mI (aE (aj ?_)));replace hh:=hh.sub (Zi _ _);refine ⟨⟨i+1,x,Yv,rfl,hxo,hb.symm,hh⟩,by show n-(i+1)<n-i;omega, ?_⟩;exact dO
    |false=>
     rw [hf] at hb;refine dX ?_;refine Cz ?_;refine bm (mI (aE (aj ?_)));replace hh:=hh.sub (Zi _ _);refine ⟨⟨i+1,o,Yv,rfl,hok,hb.symm,hh⟩,by show n-(i+1)<n-i;omega, ?_⟩;exact dO
  ·rw [YG Yv] at hod;obtain ⟨o1,o2,o3⟩:=hok;refine sr ?_;refine oa ?_;refine cC hh 0 [_,_,_] ?_;refine bA hh (fp o _ (hT.hp hh) Yv Yv Yv) rfl ?_;intro w26 hh;rw [hod];exact Uj
theorem Oi (x y:Dyadic):kf x y<0↔x<y:=by
 unfold kf;split
 ·rename_i h;simp [h]
 ·rename_i h;split<;>simp [h]
theorem Po (x y:Dyadic):0<kf x y↔y<x:=by
 unfold kf;split
 ·rename_i h;have:¬y<x:=by grind
  simp [this]
 ·split<;>rename_i h<;>simp [h]
theorem DD (a b:NR) (w:World) (hT:e8 w) (ha:a.ok) (hb:b.ok):
  Calls Tryz.prog 215 #[.agg #[.bool a.neg,.string a.bj,.int .i64 a.e],.agg #[.bool b.neg,.string b.bj,.int .i64 b.e]] w fun r w'=>r=.returned (.bool (decide (a.d<b.d)))∧Below w.heap.size w w':=by
 have hh:=Hp.start w;have e1:decide (kf a.d b.d<0)=decide (a.d<b.d):=decide_eq_decide.2 (Oi _ _);refine ak (N:=9) (l:=[.agg #[.bool a.neg,.string a.bj,.int .i64 a.e],.agg #[.bool b.neg,.string b.bj,.int .i64 b.e]]) Tryz.func215 rfl rfl (by simp) ?_;refine sr ?_;refine cu hh [_,_,_] ?_;intro b2 w2 hh;refine cu hh [_,_,_] ?_;intro b3 w3 hh;refine aB (aa (sr ?_));refine cC hh 1 [_,_,_] ?_;refine cC hh 0 [_,_,_] ?_;refine bA hh (qo a b _ (hT.hp hh) ha hb) rfl ?_;intro w7 hh;refine a8 (aB (aa (ay ?_)));refine dh ?_;rw [e1];exact ⟨rfl,hh.below⟩
theorem BO (a b:NR) (w:World) (hT:e8 w) (ha:a.ok) (hb:b.ok):
  Calls Tryz.prog 216 #[.agg #[.bool a.neg,.string a.bj,.int .i64 a.e],.agg #[.bool b.neg,.string b.bj,.int .i64 b.e]] w fun r w'=>r=.returned (.bool (decide (b.d<a.d)))∧Below w.heap.size w w':=by
 have hh:=Hp.start w;have e1:decide (0<kf a.d b.d)=decide (b.d<a.d):=decide_eq_decide.2 (Po _ _);refine ak (N:=9) (l:=[.agg #[.bool a.neg,.string a.bj,.int .i64 a.e],.agg #[.bool b.neg,.string b.bj,.int .i64 b.e]]) Tryz.func216 rfl rfl (by simp) ?_;refine sr ?_;refine cu hh [_,_,_] ?_;intro b2 w2 hh;refine cu hh [_,_,_] ?_;intro b3 w3 hh;refine aB (aa (sr ?_));refine cC hh 1 [_,_,_] ?_;refine cC hh 0 [_,_,_] ?_;refine bA hh (qo a b _ (hT.hp hh) ha hb) rfl ?_;intro w7 hh;refine bT (aB (aa (ay ?_)));refine dh ?_;rw [e1];exact ⟨rfl,hh.below⟩
theorem E9 (L:Option Addr) (n c:Nat) (l:List NR) (w:World) (hT:e8 w) (hS:Sl w L n 3 (aD NR.cells l)) (hl:∀a∈l,a.ok) (hn:n≤1000000):
  Calls Tryz.prog 193 #[.slice L n c] w fun r w'=>r=.returned (.agg #[.bool (nR (jk (fun x y=>decide (x<y)) (l.map NR.d))).neg,.string (nR (jk (fun x y=>decide (x<y)) (l.map NR.d))).bj,.int .i64 (nR (jk (fun x y=>decide (x<y)) (l.map NR.d))).e])∧Below w.heap.size w w':=by
 have hh:=Hp.start w;refine ak (N:=5) (l:=[.slice L n c]) Tryz.func193 rfl rfl (by simp) ?_;refine sr ?_;refine bW hh ?_;intro b2 w2 hh;refine aa (sr (mL ?_));refine bA hh (qS L n c l 215 (fun x y=>decide (x<y)) _ (hT.hp hh) (hS.ext hh.below) hl hn DD) rfl ?_;intro w4 hh;exact HR
theorem Fe (L:Option Addr) (n c:Nat) (l:List NR) (w:World) (hT:e8 w) (hS:Sl w L n 3 (aD NR.cells l)) (hl:∀a∈l,a.ok) (hn:n≤1000000):
  Calls Tryz.prog 194 #[.slice L n c] w fun r w'=>r=.returned (.agg #[.bool (nR (jk (fun x y=>decide (y<x)) (l.map NR.d))).neg,.string (nR (jk (fun x y=>decide (y<x)) (l.map NR.d))).bj,.int .i64 (nR (jk (fun x y=>decide (y<x)) (l.map NR.d))).e])∧Below w.heap.size w w':=by
 have hh:=Hp.start w;refine ak (N:=5) (l:=[.slice L n c]) Tryz.func194 rfl rfl (by simp) ?_;refine sr ?_;refine bW hh ?_;intro b2 w2 hh;refine aa (sr (mL ?_));refine bA hh (qS L n c l 216 (fun x y=>decide (y<x)) _ (hT.hp hh) (hS.ext hh.below) hl hn BO) rfl ?_;intro w4 hh;exact HR
theorem Fu {x y:Dyadic} (h:x<y):kf x y= -1:=by rw [kf,YA h]
theorem Gg {x y:Dyadic} (h:y<x):kf x y=1:=by
 have:¬x<y:=by grind
 rw [kf,YB this,YA h]
theorem Jd (x:Dyadic):kf x x=0:=by
 have:¬x<x:=by grind
 rw [kf,YB this,YB this]
theorem Vu (x y:Dyadic):x<y∨x=y∨y<x:=by
 rcases Classical.em (x<y) with h|h
 ·exact .inl h
 ·rcases Classical.em (y<x) with h2|h2
  ·exact .inr (.inr h2)
  ·exact .inr (.inl (by grind))
theorem Sl.Vp {A:Option Addr}{xs:List Nat} (h:Sl w A n 1 (ij xs)) (hk:k≤n):Sl w A k 1 (ij (xs.take k)):=by
 have hl:=h.1;rw [dq] at hl;refine ⟨by rw [dq,YW];omega,fun h0=> ?_⟩;obtain ⟨ad,he,hr⟩:=h.2 Yv;exact ⟨ad,he,by rw [B6];exact hr.take k⟩
theorem Sl.Wd {A:Option Addr}{xs:List Nat} (h:Sl w A n 1 (ij xs)):Sl w A (eu xs).length 1 (ij (eu xs)):=by
 have hl:=h.1;rw [dq] at hl;have:=gi xs;have h2:=h.Vp (k:=(eu xs).length) Yv;rwa [←kF] at h2
theorem Hp.T1 {H:List HE}{A:Option Addr}{t:TypeId}{xs:List Nat} (h:Hp w0 (.row A n c t 1 (ij xs)::H) w) (hl:xs.length=n):Hp w0 (.row A (eu xs).length c t 1 (ij (eu xs))::H) w:=by
 have h1:=gi xs;have h2:=h.E3 (k:=(eu xs).length) Yv;rw [YX,←B6,←kF] at h2;exact h2
theorem ni (A:Option Addr) (n c:Nat) (xs:List Nat) (w:World) (hx:Sl w A n 1 (ij xs)) (hc:n≤c) (hn:n≤1000000000000):
  Calls Tryz.prog 206 #[.slice A n c] w fun e w'=>e=.returned (.slice A (eu xs).length c)∧Below w.heap.size w w':=by
 have hlen:xs.length=n:=by have:=hx.1;rw [dq] at this;omega
 have hh:=Hp.start w;refine ak (N:=21) (l:=[.slice A n c]) Tryz.func206 rfl rfl (by simp) ?_;refine sr (aL (aa (sr (mL (aK (aI (aa (ai (av ?_)))))))));refine aT [3,6,7,8,9,10,11,12,13,14,15,16,17] 3
  (fun v w'=>∃k:Nat,k≤n∧v=.int .i64 k∧eu (xs.take k)=eu xs∧w'=w)
  (fun v _=>(intOf v).toNat) ?_ ?_
 ·exact ⟨n,YE _,rfl,by rw [YG Yv],rfl⟩
 ·rintro ρ' v w' ⟨k,hk,rfl,hcut,rfl⟩;by_cases h0:k=0
  ·subst h0;refine ai (sr (mI ?_));refine bT (mB ?_);refine gS (gS (gS (gS ?_)));refine jG ?_;refine gS ?_;refine dX ?_;refine aa (cF (a6 (aH (aH (bB (aj (sr (mL (mI ?_)))))))));refine qT (h:=0) bo.out aU.size rfl rfl Yv Yv Yw ?_;refine aL (aa (ay ?_));refine dh ?_;rw [←hcut];exact ⟨rfl,hh.below⟩
  ·obtain ⟨j,rfl⟩:∃j,k=j+1:=⟨k-1,Yv⟩;obtain ⟨d,hd⟩:=ao (l:=xs) (k:=j) Yv;obtain ⟨ad,rfl,hr⟩:=hx.at_ Yv;have hd2:=qH hd;rw [aC hd] at hcut;by_cases hz:d=0
   ·subst hz;rw [wY] at hcut;refine ai (sr (mI ?_));refine bT (mB (gT (mL (gT (mI (gT ?_))))));refine eP (gT ?_);refine lW ?_;refine gT ?_;refine iD ?_;refine gT ?_;refine di ?_;refine fG ?_;refine aa (cT (au (aj (av (ar (mI ?_))))));refine eP (aI (aE (bM (aj ?_))));refine ⟨⟨j,Yv,by show Value.int _ _=Value.int _ _;congr 1;omega,hcut,rfl⟩,by show (((j+1:Nat):Int)-1).toNat<(((j+1:Nat):Int)).toNat;omega, ?_⟩;exact dO
   ·rw [xS hz] at hcut;refine ai (sr (mI ?_));refine bT (mB (gT (mL (gT (mI (gT ?_))))));refine eP (gT ?_);refine lW ?_;refine gT ?_;refine iD ?_;refine gT ?_;refine di ?_;refine fG ?_;refine aa (cF (a6 (aH (aH (bB (aj (sr (mL (mI ?_)))))))));refine qT (h:=j+1) bo.out aU.size rfl rfl Yv Yv Yw ?_;refine aL (aa (ay ?_));exact Rx
theorem JO {s:List UInt8}{c:UInt8} (hc:(Ei s)[j]?=some c.toNat) (hk:k<8):c.toNat/2^k % 2=bn s/2^(8*j+k) % 2:=by
 have h1:=uz (Ab s) hc;rw [←h1,←bn,Y4,Zm,show (2^8:Nat)=256 from rfl,←aae];generalize bn s/256^j=m;have e:(256:Nat)=2^k*2^(8-k):=by rw [←Y4,show k+(8-k)=8 by omega]
 have e2:2^(8-k)=2*2^(7-k):=by rw [←Nat.pow_succ'];congr 1;omega
 rw [e,Nat.mod_mul_right_div_self,e2,Nat.mod_mul_right_mod]
theorem jc (a:ByteArray) (w:World) (ha:a.size≤1000000000):
  Calls Tryz.prog 186 #[.string a] w fun e w'=>∃A c,e=.returned (.slice A (a9 2 (bN a)).length c)∧w'.ownsRow w.heap.size 5 1 (.slice A (a9 2 (bN a)).length c) (a9 2 (bN a)).length (ij (a9 2 (bN a)))∧Below w.heap.size w w':=by
 have hsz:=dP a;have hh:=Hp.start w;refine ak (N:=28) (l:=[.string a]) Tryz.func186 rfl rfl (by simp) ?_;refine sr (aL (aa (sr (aL (aa (ai (sr (mS ?_))))))));refine bP bo.out rfl Yw ?_;refine eP (aI (aa (av ?_)));replace hh:=hh.cN 5 1;refine bC [3,4,5,9,10,11,12,13,14,15,16,17,18,19,20,21,22,23,24,25] 3 4
  (fun o v w'=>∃(j:Nat) (A:Option Addr) (c:Nat),j≤a.size∧v=.int .i64 ((a.size:Int)-1-j)∧o=.slice A (8*j) c∧Hp w [.row A (8*j) c 5 1 (ij (ct 2 (8*j) (bN a)))] w')
  (fun _ v _=>(intOf v+1).toNat) ?_ ?_
 ·exact ⟨0,none,0,YD _,by show Value.int _ _=Value.int _ _;congr 1;omega,rfl,hh⟩
 ·clear hh;rintro ρ' o v w' ⟨j,A,c,hj,rfl,rfl,hh⟩;by_cases hlt:j<a.size
  ·obtain ⟨ch,hc⟩:=ao (l:=a.data.toList) (k:=((a.size:Int)-1-j).toNat) Yv;have hlo:=KA (s:=a.data.toList) (i:=j) (c:=ch) Yv (by rw [←hc];congr 1;omega);have hc8:=ch.toNat_lt;refine ai (sr (mI ?_));refine ej (aa (cT (au (aj (ai (av (sr (aI (aa (av ?_))))))))));refine bC [3,5,13,14,15,16,17,18,19,20,21,22,23,24,25] 3 5
    (fun o v w'=>∃(k:Nat) (A:Option Addr) (c:Nat),k≤8∧v=.int .i64 (k:Int)∧o=.slice A (8*j+k) c∧Hp w [.row A (8*j+k) c 5 1 (ij (ct 2 (8*j+k) (bN a)))] w')
    (fun _ v _=>8-(intOf v).toNat) ?_ ?_
   ·exact ⟨0,A,c,YD _,rfl,rfl,hh⟩
   ·clear hh;rintro ρ2 o v w2 ⟨k,A2,c2,hk,rfl,rfl,hh⟩;by_cases hk8:k<8
    ·have hst:=JO hlo hk8;have hand:∀z:Nat,z &&& 1=z % 2:=fun z=>Nat.and_one_is_mod z;have hcl:ch.toNat/2^(k:Int).toNat<256:=ZF (aaU _ _) hc8;refine ai (sr (mI ?_));refine a8 (aa (cT (au (aj (ai (av (ar (mL (mS (mI ?_))))))))));refine j4 ?_;refine mI ?_;refine Ge rfl rfl Yv Yw ?_;refine L0 ?_;refine vN ?_;intro b24 w24 hh;refine pR ?_;intro A25 c25 w25 hh;simp only [YM,Zg] at hh;replace hh:=hh.sub (Zi _ _);refine lC ?_;refine bm (aI (aE (aj ?_)));have e1:ij (ct 2 (8*j+k) (bN a))++[Value.int .u8 ((ch.toNat/2^(k:Int).toNat &&& 1:Nat):Int)]=ij (ct 2 (8*j+(k+1)) (bN a)):=by
      rw [hand,ZL,hst,←abk,mv,wN];rfl
     rw [e1] at hh;refine ⟨⟨k+1,A25,c25,Yv,rfl,rfl,hh⟩,by show 8-(k+1)<8-k;omega, ?_⟩;exact dO
    ·obtain rfl:k=8:=Yv;refine ai (sr (mI ?_));refine a8 (aa (cF (a6 (aH (aH (bB (bM (aj (ar (mI ?_))))))))));refine eP (aI (aE (aj ?_)));refine ⟨⟨j+1,A2,c2,Yv,by show Value.int _ _=Value.int _ _;congr 1;omega,rfl,hh⟩,by show ((a.size:Int)-1-j-1+1).toNat<((a.size:Int)-1-j+1).toNat;omega, ?_⟩;exact dO
  ·obtain rfl:j=a.size:=Yv;refine ai (sr (mI ?_));refine ej (aa (cF (a6 (aH (aH (bB (aj (sr (mL ?_)))))))));refine bA hh (ni _ _ _ (ct 2 (8*a.size) (bN a)) _ (hh.aG (i:=0) rfl) (hh.fQ (i:=0) rfl) Yv) rfl ?_;intro w27 hh;refine aL (aa (ay ?_));refine dh ?_;have hb:=yg a;rw [show (256:Nat)=2^8 from rfl,←Zm] at hb;have hd:eu (ct 2 (8*a.size) (bN a))=a9 2 (bN a):=by
    rw [jg Yv (fC Yv _ _),da hb]
   have h1:=(Hp.T1 (xs:=ct 2 (8*a.size) (bN a)) hh (a7 _ _)).at_ (i:=0) rfl;exact HX
theorem OA {l:List Nat}{v:Nat} (h:j<l.length):l.reverse.set (l.length-1-j) v=(l.set j v).reverse:=by
 apply ZN;intro i
 rcases Zj i l.length with hi|hi
 ·rw [Z4 (by rw [aaX];exact hi),aaX,aal,aal,Z4 hi,Zs];by_cases he:l.length-1-j=i
  ·rw [YA he,YA Yv,YA Yv,YA h]
  ·rw [YB he,YB Yv]
 ·rw [Y7 (by simp;omega),Y7 (by simp;omega)]
theorem Ga {i:Nat} (P:Nat) (hP:P<2^i) (hb:b<2) (hk:i/8<k):P/256^(i/8) % 256+b*2^(i % 8)<256∧(ct 256 k P).set (i/8) (P/256^(i/8) % 256+b*2^(i % 8))=ct 256 k (P+2^i*b):=by
 have hp:2^i=256^(i/8)*2^(i % 8):=by
  rw [show (256:Nat)=2^8 from rfl,←Zm,←Y4];congr 1;omega
 have h1:P/256^(i/8)<2^(i % 8):=by
  rw [Z2 (Zd Yv),Za,←hp];exact hP
 have h2:2^(i % 8)≤128:=by
  have:=Zf (show 0<2 by omega) (show i % 8≤7 by omega);omega
 have h3:P/256^(i/8) % 256<2^(i % 8):=ZF (Nat.mod_le _ _) h1;have h4:b*2^(i % 8)≤1*2^(i % 8):=ZH _ Yv;have h5:2^i*b=256^(i/8)*(b*2^(i % 8)):=by rw [hp,Zw,Za b]
 refine ⟨Yv, ?_⟩;rw [h5];refine rU Yv hk ?_ Yv;rw [←h5];have h6:2^i*b≤2^i*1:=Zc _ Yv;have h7:2^(i+1)≤256^k:=by
  rw [show (256:Nat)=2^8 from rfl,←Zm];exact Zf Yv Yv
 rw [Zn] at h7;omega
theorem fN (A:Option Addr) (n c:Nat) (xs:List Nat) (w:World) (hx:Sl w A n 1 (ij xs)) (hd:Dg 2 xs) (hc:n≤c) (hn:n≤100000000000):
  Calls Tryz.prog 187 #[.slice A n c] w fun e w'=>e=.returned (.string (sN (bR 2 xs)))∧Below w.heap.size w w':=by
 have hl:=hx.1;rw [dq] at hl;have hcl:=gi xs;have hcx:=hx.Wd;have hcan:=jg Yv hd;have hlen:=EX (bR 2 xs);rw [hcan] at hcl hcx;have hcd:=(eG (B:=2) Yv (bR 2 xs)).1;have hcv:=eB (B:=2) Yv (bR 2 xs);have hbl:(a9 2 (bR 2 xs)).length=bX (bR 2 xs):=rfl;have hh:=Hp.start w;refine ak (N:=38) (l:=[.slice A n c]) Tryz.func187 rfl rfl (by simp) ?_;refine sr (aS (aa (sr (mL ?_))));refine bA hh (ni _ _ _ xs _ hx hc Yv) rfl ?_;intro w6 hh;rw [hcan];generalize bR 2 xs=M at*;generalize a9 2 M=xs' at*;refine aL (aa (sr (mL (aK ?_))));refine bm ?_;refine qd ?_;refine gE (n:=(xs'.length+7)/8) hh rfl rfl Yv Yv bo.out aU.out rfl Yv Yv Yw ?_;intro b11 w11 hh;refine DQ ?_;rw [sa] at hh;refine aT [4,12,13,14,15,16,17,18,19,20,21,22,23,24,25,26,27,28,29,30,31,32,33,34,35] 4
  (fun v w'=>∃i:Nat,i≤xs'.length∧v=.int .i64 i∧Hp w [.row (some ⟨b11,0,none⟩) ((xs'.length+7)/8) ((xs'.length+7)/8) 5 1 (ij (ct 256 ((xs'.length+7)/8) (bR 2 (xs'.take i))).reverse)] w')
  (fun v _=>xs'.length-(intOf v).toNat) ?_ ?_
 ·exact ⟨0,YD _,rfl,by rw [ZS,bR,sQ,List.reverse_replicate];exact hh⟩
 ·clear hh;rintro ρ' v w' ⟨i,hi,rfl,hh⟩;by_cases hlt:i<xs'.length
  ·obtain ⟨d,hdi⟩:=ao (l:=xs') (k:=i) Yv;obtain ⟨ad,rfl,hr⟩:=hcx.at_ Yv;have hd2:=qH hdi;have hdw:=hcd.at_ hdi;have hP:=jv (hcd.take i);rw [YW,ZB Yv] at hP;obtain ⟨s1,s2⟩:=Ga (k:=(xs'.length+7)/8) (bR 2 (xs'.take i)) hP hdw Yv;have hg:(ct 256 ((xs'.length+7)/8) (bR 2 (xs'.take i))).reverse[(xs'.length+7)/8-1-i/8]?=some (bR 2 (xs'.take i)/256^(i/8) % 256):=by
    rw [Z4 (by rw [a7];omega),a7,show (xs'.length+7)/8-1-((xs'.length+7)/8-1-i/8)=i/8 by omega];exact jz _ _ _ Yv
   have hg2:=qH hg;have e1:((i:Int) % 8).toNat=i % 8:=Yv;have hset:=OA (l:=ct 256 ((xs'.length+7)/8) (bR 2 (xs'.take i))) (j:=i/8) (v:=bR 2 (xs'.take i)/256^(i/8) % 256+d*2^(i % 8)) (by rw [a7];omega);rw [a7,s2] at hset;refine ai (sr (mI (mL (aK ?_))));refine HV ?_;refine aW 16 [[(3,none)],[(3,none)],[(19,some 1)],[(20,some 2)],[(4,none)],[(22,some 4)],[(21,some 3),(23,some 5)],[(18,some 0),(24,some 6)],[(25,some 7)],[(0,none)],[(4,none)],[(27,some 9),(28,some 10)],[(29,some 11)],[(4,none)],[(31,some 13)],[(30,some 12),(32,some 14)]] [(15,33),(14,32),(13,31),(12,30),(11,29),(10,28),(9,27),(8,26),(7,25),(6,24),(5,23),(4,22),(3,21),(2,20),(1,19),(0,18)] hh mixed Yx ?_;refine eQ ?_;refine eQ ?_;refine sY ?_;refine qE ?_;refine cZ ?_;refine bu (i:=5) (fun ρ1 w1 hj hR=>s8 (show ρ1 22=Value.int _ _ from hR.1) rfl Yv Yv Yv) ?_;refine qE ?_;refine N2 ((xs'.length+7)/8-1-i/8) ?_;refine bu (i:=8) (fun ρ1 w1 hj hR=>jT aU.out (show ρ1 25=Value.pointer _ from hR.1) (hj.hp.fU (i:=0) rfl (by rw [YX];exact hg2))) ?_;refine eQ ?_;refine cZ ?_;refine jA (i) ?_
   refine pK (fun _ hj=>(hr.ext hj.hp.below).xv hd2) ?_;refine cZ ?_;refine bu (i:=14) (fun ρ1 w1 hj hR=>qD (show ρ1 31=Value.int _ _ from hR.1) rfl Yv Yv) ?_;refine bu (i:=15) (fun ρ1 w1 hj hR=>A5 (show ρ1 30=Value.int _ _ from hR.1) (show ρ1 32=Value.int _ _ from hR.2.1) Yv) ?_;refine aM ?_;intro f W hJ hV;have hb_6:=hJ.bl;obtain ⟨v33,v32,v31,v30,v29,v28,v27,v26,v25,v24,v23,v22,v21,v20,v19,v18,_⟩:=hV;replace hh:=hJ.hp;refine aQ (bg (ae v33 (ae v32 (ae v31 (ae v30 (ae v29 (ae v28 (ae v27 (ae v26 (ae v25 (ae v24 (ae v23 (ae v22 (ae v21 (ae v20 (ae v19 (ae v18 aR))))))))))))))))) ?_;dsimp only [bO];clear hJ;refine jt rfl rfl Yw ?_;refine dn (k:=(xs'.length+7)/8-1-i/8) bo.out aU.size rfl rfl Yv Yv Yw ?_;refine cA hh (i:=0) (vs:=[_]) rfl rfl (dk rfl) rfl aU.out rfl (by rw [dq,Zs,a7];omega) rfl ?_;intro ws hh;simp only [YM] at hh;rw [e1,Zk (show d*2^(i % 8)<256 by omega),Zk s1,YX,dp (by rw [dq,Zs,a7];omega),sx,hset,←fq hdi] at hh;refine p9 ?_;refine bm (aI (aE (aj ?_)))
   refine ⟨⟨i+1,Yv,rfl,hh⟩,by show xs'.length-(i+1)<xs'.length-i;omega, ?_⟩;exact dO
  ·obtain rfl:i=xs'.length:=Yv;rw [abr,hcv,hbl] at hh;have hfin:ij (ct 256 ((bX M+7)/8) M).reverse=mM (sb M):=by
    rw [←hlen];exact UW
   rw [hfin,←hbl] at hh;refine ai (sr (mI (mL (aK ?_))));refine DZ ?_;exact Rv
theorem Oq {xs:List Nat} (h:Dg 2 xs) (i:Nat):bR 2 xs/2^i % 2=(xs[i]?).getD 0:=by
 cases hi:xs[i]? with
 |some d=>exact uz h hi
 |none=>
  rw [vk h (List.getElem?_eq_none_iff.1 hi) Yv];rfl
theorem jK (A:Option Addr) (n c i:Nat) (xs:List Nat) (w:World) (hx:Sl w A n 1 (ij xs)) (hd:Dg 2 xs) (hn:n≤1000000000000) (hi:i≤1000000000000):
  Calls Tryz.prog 222 #[.slice A n c,.int .i64 (i:Int)] w fun e w'=>e=.returned (.int .u8 ((bR 2 xs/2^i % 2:Nat):Int))∧Below w.heap.size w w':=by
 have hl:=hx.1;rw [dq] at hl;have hh:=Hp.start w;rw [Oq hd];by_cases hlt:i<n
 ·obtain ⟨d,hdi⟩:=ao (l:=xs) (k:=i) Yv;obtain ⟨ad,rfl,hr⟩:=hx.at_ Yv;have hd2:=qH hdi;rw [hdi];refine ak (N:=13) (l:=[.slice (some ad) n c,.int .i64 (i:Int)]) Tryz.func222 rfl rfl (by simp) ?_;refine sr (aI (aa (ai (sr (mI (mL (aK ?_)))))));refine a8 (aa (cT (sr (mL (mI ?_)))));refine cE ?_;refine iD ?_;refine aI (aa (ay (aN ?_)));refine dh ?_;exact ⟨rfl,hh.below⟩
 ·rw [Y7 Yv];refine ak (N:=13) (l:=[.slice A n c,.int .i64 (i:Int)]) Tryz.func222 rfl rfl (by simp) ?_;refine sr (aI (aa (ai (sr (mI (mL (aK ?_)))))));refine a8 (aa (cF (au (aj (sr (aI (aa (ay ?_))))))));refine dh ?_;exact ⟨rfl,hh.below⟩
theorem mN (X i:Nat):X/2^i=2*(X/2^(i+1))+X/2^i % 2:=by
 rw [Zn,←aae];omega
theorem yL {X Y:Nat} (h:X/2^k<Y/2^k):X<Y:=by
 refine abu fun h2=> ?_;have:=Nat.div_le_div_right (c:=2^k) h2;omega
theorem n8 (A B:Option Addr) (n c m c':Nat) (xs ys:List Nat) (w:World) (hx:Sl w A n 1 (ij xs)) (hy:Sl w B m 1 (ij ys)) (hdx:Dg 2 xs) (hdy:Dg 2 ys) (hn:n≤100000000000) (hm:m≤100000000000):
  Calls Tryz.prog 207 #[.slice A n c,.slice B m c'] w fun e w'=>e=.returned (.int .i64 (mg (bR 2 xs) (bR 2 ys)))∧Below w.heap.size w w':=by
 have hlx:=hx.1;have hly:=hy.1;rw [dq] at hlx hly;have hh:=Hp.start w;have e1:(if (m:Int)>(n:Int) then (m:Int) else (n:Int))-1=((max n m:Nat):Int)-1:=by split<;>omega
 refine ak (N:=30) (l:=[.slice A n c,.slice B m c']) Tryz.func207 rfl rfl (by simp) ?_;refine sr (aI (aa (ai (sr (mL (aK (mL (aK ?_))))))));refine lL rfl rfl Yw ?_;refine eP (aI (aa (av ?_)));rw [e1];refine aT [4,5,12,13,14,15,16,17,18,19,20,21,22,23,24,25,26,27,28,29] 5
  (fun v w'=>∃k:Nat,k≤max n m∧v=.int .i64 ((k:Int)-1)∧bR 2 xs/2^k=bR 2 ys/2^k∧Hp w [] w')
  (fun v _=>(intOf v+1).toNat) ?_ ?_
 ·exact ⟨max n m,YE _,rfl,by rw [vk hdx Yv Yv,vk hdy Yv Yv],hh⟩
 ·clear hh;rintro ρ' v w' ⟨k,hk,rfl,heq,hh⟩;by_cases h0:k=0
  ·subst h0;refine ai (sr (mI ?_));refine ej (aa (cF (a6 (aH (aH (bB (aj (sr (aI (aa (ay ?_)))))))))));refine dh ?_;rw [aa9,Nat.div_one,Nat.div_one] at heq;exact ⟨by rw [GI heq],hh.below⟩
  ·obtain ⟨j,rfl⟩:∃j,k=j+1:=⟨k-1,Yv⟩;have hj:((j+1:Nat):Int)-1=(j:Int):=Yv;have hXb:=mN (bR 2 xs) j;have hYb:=mN (bR 2 ys) j;by_cases hlt:bR 2 xs/2^j % 2<bR 2 ys/2^j % 2
   ·have hf:bR 2 xs<bR 2 ys:=yL (k:=j) Yv;rw [hj];refine ai (sr (mI ?_));refine KL ?_;refine DV ?_;intro w18 hh;refine mL (mI ?_);refine Bu ?_;intro w21 hh;refine a8 (aa (cT (sr (aI (aa (ay (aN (cm (aN (aN (cm (aN ?_))))))))))));refine dh ?_;exact ⟨by rw [np hf],hh.below⟩
   ·by_cases hgt:bR 2 ys/2^j % 2<bR 2 xs/2^j % 2
    ·have hf:bR 2 ys<bR 2 xs:=yL (k:=j) Yv;rw [hj];refine ai (sr (mI ?_));refine KL ?_;refine DV ?_;intro w18 hh;refine mL (mI ?_);refine Bu ?_;intro w21 hh;refine a8 (aa (cF (au (aj (sr (mL (mI ?_)))))));refine DV ?_;intro w25 hh;refine mL (mI ?_);refine Bu ?_;intro w28 hh;refine bT (aa (cT (sr (aI (aa (ay (cm (aN (aN (cm (aN ?_)))))))))));refine dh ?_;exact ⟨by rw [zV hf],hh.below⟩
    ·rw [hj];refine ai (sr (mI ?_));refine KL ?_;refine DV ?_;intro w18 hh;refine mL (mI ?_);refine Bu ?_;intro w21 hh;refine a8 (aa (cF (au (aj (sr (mL (mI ?_)))))));refine DV ?_;intro w25 hh;refine mL (mI ?_);refine Bu ?_;intro w28 hh;refine bT (aa (cF (au (bM (aj (ar (mI ?_)))))));refine eP (aI (aE (aj ?_)));refine ⟨⟨j,Yv,rfl,Yv,hh⟩,by show ((j:Int)-1+1).toNat<((j:Int)+1).toNat;omega, ?_⟩;exact dO
theorem Py (S T i:Nat):(S+T)/2^i % 2=(S/2^i % 2+(S % 2^i+T % 2^i)/2^i+T/2^i % 2) % 2∧(S % 2^(i+1)+T % 2^(i+1))/2^(i+1)=(S/2^i % 2+(S % 2^i+T % 2^i)/2^i+T/2^i % 2)/2∧(S % 2^i+T % 2^i)/2^i≤1:=by
 have hS:=aah S (2^i);have hT:=aah T (2^i);have hp:0<2^i:=Zd Yv;have hS2:S % 2^(i+1)=S % 2^i+2^i*(S/2^i % 2):=by rw [Zn,Nat.mod_mul]
 have hT2:T % 2^(i+1)=T % 2^i+2^i*(T/2^i % 2):=by rw [Zn,Nat.mod_mul]
 have hSl:=Y8 S hp;have hTl:=Y8 T hp;have hc:=aah (S % 2^i+T % 2^i) (2^i);have hcl:=Y8 (S % 2^i+T % 2^i) hp;have hc1:(S % 2^i+T % 2^i)/2^i≤1:=by
  have:(S % 2^i+T % 2^i)/2^i<2:=by rw [Z2 hp];omega
  omega
 have e1:(S+T)/2^i=S/2^i+T/2^i+(S % 2^i+T % 2^i)/2^i:=by
  have:S+T=(S % 2^i+T % 2^i) % 2^i+2^i*(S/2^i+T/2^i+(S % 2^i+T % 2^i)/2^i):=by
   rw [Zt,Zt];omega
  conv=>lhs;rw [this]
  rw [Z3 _ _ hp,ZG hcl,Y0]
 refine ⟨by rw [e1];omega, ?_,hc1⟩;rw [hS2,hT2];have e2:S % 2^i+2^i*(S/2^i % 2)+(T % 2^i+2^i*(T/2^i % 2))=(S % 2^i+T % 2^i) % 2^i+2^i*(S/2^i % 2+(S % 2^i+T % 2^i)/2^i+T/2^i % 2):=by
  rw [Zt,Zt];omega
 rw [e2,Zn,←aae,Z3 _ _ hp,ZG hcl,Y0]
theorem TJ (Y up i:Nat):Y*2^up/2^i % 2=if up≤i then Y/2^(i-up) % 2 else 0:=by
 split
 ·rename_i h;have e:2^i=2^up*2^(i-up):=by rw [←Y4];congr 1;omega
  rw [e,←aae,Nat.mul_div_cancel _ (Zd Yv)]
 ·rename_i h;have e:2^up=2^i*2*2^(up-i-1):=by rw [←Zn,←Y4];congr 1;omega
  have e2:Y*2^up=2^i*(2*(Y*2^(up-i-1))):=by rw [e];simp only [Zw,abM]
  rw [e2,Nat.mul_div_cancel_left _ (Zd Yv)];omega
theorem QB {K i:Nat} (h:i<K):(ct 2 i N++List.replicate (K-i) 0).set i (N/2^i % 2)=ct 2 (i+1) N++List.replicate (K-(i+1)) 0:=by
 rw [show K-i=(K-(i+1))+1 by omega,aax,aaI _ _ (by rw [a7];omega),a7,Zu,YM,mv];simp
theorem nM (A B:Option Addr) (n c m c' up:Nat) (xs ys:List Nat) (w:World) (hx:Sl w A n 1 (ij xs)) (hy:Sl w B m 1 (ij ys)) (hdx:Dg 2 xs) (hdy:Dg 2 ys) (hn:n≤100000000000) (hm:m≤100000000000) (hup:up≤100000000000):
  Calls Tryz.prog 200 #[.slice A n c,.slice B m c',.int .i64 (up:Int)] w fun e w'=>∃b,e=.returned (.slice (some ⟨b,0,none⟩) (max n (m+up)+1) (max n (m+up)+1))∧w'.ownsRow w.heap.size 5 1 (.slice (some ⟨b,0,none⟩) (max n (m+up)+1) (max n (m+up)+1)) (max n (m+up)+1) (ij (ct 2 (max n (m+up)+1) (bR 2 xs+bR 2 ys*2^up)))∧Below w.heap.size w w':=by
 have hlx:=hx.1;have hly:=hy.1;rw [dq] at hlx hly;have hh:=Hp.start w;have e1:(if ((m:Int)+(up:Int))>(n:Int) then ((m:Int)+(up:Int)) else (n:Int))+1=((max n (m+up)+1:Nat):Int):=by split<;>omega
 have hand:∀z:Nat,z &&& 1=z % 2:=fun z=>Nat.and_one_is_mod z;refine ak (N:=49) (l:=[.slice A n c,.slice B m c',.int .i64 (up:Int)]) Tryz.func200 rfl rfl (by simp) ?_;refine sr (aL (aa (sr (mL (aK (mL (aK (mI ?_))))))));refine bm ?_;refine lL rfl rfl Yw ?_;refine bm ?_;rw [e1];generalize hK:max n (m+up)+1=K at*;refine gE (n:=K) hh rfl rfl Yv Yv bo.out aU.out rfl Yv Yv Yw ?_;intro b19 w19 hh;refine aL (aa (sr (aI (aa (ai (sr (aI (aa (av ?_)))))))));rw [sa] at hh;refine bC [8,9,10,20,21,22,23,24,25,26,27,28,29,30,31,32,33,34,35,36,37,38,39,40,41,42,43,44,45,46,47] 8 9
  (fun cr v w'=>∃i:Nat,i≤K∧v=.int .i64 (i:Int)∧cr=.int .u8 (((bR 2 xs % 2^i+bR 2 ys*2^up % 2^i)/2^i:Nat):Int)∧Hp w [.row (some ⟨b19,0,none⟩) K K 5 1 (ij (ct 2 i (bR 2 xs+bR 2 ys*2^up)++List.replicate (K-i) 0))] w')
  (fun _ v _=>K-(intOf v).toNat) ?_ ?_
 ·exact ⟨0,YD _,rfl,by simp [Nat.mod_one];rfl,hh⟩
 ·clear hh;rintro ρ' cr v w' ⟨i,hi,rfl,rfl,hh⟩;by_cases hlt:i<K
  ·obtain ⟨b1,b2,b3⟩:=Py (bR 2 xs) (bR 2 ys*2^up) i;have hbu:=TJ (bR 2 ys) up i;have hxb:bR 2 xs/2^i % 2<2:=Y8 _ Yv;have hyb:bR 2 ys/2^(i-up) % 2<2:=Y8 _ Yv;have hll:(ij (ct 2 i (bR 2 xs+bR 2 ys*2^up)++List.replicate (K-i) 0)).length=K:=by rw [dq,YK,a7,ZX];omega
   have hfk:=QB (N:=bR 2 xs+bR 2 ys*2^up) hlt;generalize hC:(bR 2 xs % 2^i+bR 2 ys*2^up % 2^i)/2^i=C at*;generalize hX:bR 2 xs/2^i % 2=X at*;refine ai (sr (mI (mL (aK ?_))));refine jq ?_;refine bA hh (jK A n c i xs _ (hx.ext hh.below) hdx Yv Yv) rfl ?_;intro w28 hh;rw [hX];by_cases hiu:up≤i
   ·rw [YA hiu] at hbu;rw [hbu] at b1 b2;generalize hY:bR 2 ys/2^(i-up) % 2=Y at*;have es:((X+C) % 256+Y) % 256=X+C+Y:=Yv;have ei:(i:Int)-(up:Int)=((i-up:Nat):Int):=Yv;refine mI ?_;refine jt rfl rfl Yw ?_;refine aI (aa (ai (sr (mI (mI ?_)))));refine ej (aa (cT (ar (mI (mL (mI (mI ?_)))))));refine eP ?_;rw [ei];refine bA hh (jK B m c' (i-up) ys _ (hy.ext hh.below) hdy Yv Yv) rfl ?_;intro w39 hh;rw [hY];refine jt rfl rfl Yw ?_;refine aI (aa (sr (mL (mI (mI ?_)))));exact Qv
   ·rw [YB hiu] at hbu;rw [hbu] at b1 b2;have es:(X+C) % 256=X+C+0:=Yv;refine mI ?_;refine jt rfl rfl Yw ?_;refine aI (aa (ai (sr (mI (mI ?_)))));refine ej (aa (cF (au (aj (sr (mL (mI (mI ?_))))))));exact Qv
  ·obtain rfl:i=K:=Yv;exact Vk
theorem OK {X Y:Nat} (h:Y≤X) (i:Nat):((2+X/2^i % 2+256-Y/2^i % 2) % 256+256-(if X % 2^i<Y % 2^i then 1 else 0)) % 256 % 2=(X-Y)/2^i % 2∧
  (1+256-((2+X/2^i % 2+256-Y/2^i % 2) % 256+256-(if X % 2^i<Y % 2^i then 1 else 0)) % 256/2) % 256=(if X % 2^(i+1)<Y % 2^(i+1) then 1 else 0):=by
 have hX:=aah X (2^i);have hY:=aah Y (2^i);have hp:0<2^i:=Zd Yv;have hX2:X % 2^(i+1)=X % 2^i+2^i*(X/2^i % 2):=by rw [Zn,Nat.mod_mul]
 have hY2:Y % 2^(i+1)=Y % 2^i+2^i*(Y/2^i % 2):=by rw [Zn,Nat.mod_mul]
 have hXl:=Y8 X hp;have hYl:=Y8 Y hp;rw [hX2,hY2];generalize hx1:X/2^i=x1 at*;generalize hy1:Y/2^i=y1 at*;generalize hx0:X % 2^i=x0 at*;generalize hy0:Y % 2^i=y0 at*;have key:∀b:Nat,b=(if x0<y0 then 1 else 0)→(X-Y)/2^i=x1-y1-b∧y1+b≤x1:=by
  intro b hb;have hle:y1+b≤x1:=by
   refine Nat.le_of_not_lt fun hlt=> ?_;have h1:2^i*(x1+1)≤2^i*(y1+b):=Zc _ hlt;rw [Zt,Zt] at h1;split at hb
   ·subst hb;omega
   ·subst hb;omega
  refine ⟨?_,hle⟩;have e:X-Y=(x0+2^i*b-y0)+2^i*(x1-y1-b):=by
   have h2:2^i*(x1-y1-b)=2^i*x1-2^i*y1-2^i*b:=by rw [Nat.mul_sub,Nat.mul_sub]
   have h3:2^i*(y1+b)≤2^i*x1:=Zc _ hle;rw [Zt] at h3;split at hb
   ·subst hb;omega
   ·subst hb;omega
  rw [e,Z3 _ _ hp,ZG,Y0];split at hb
  ·subst hb;omega
  ·subst hb;omega
 obtain ⟨k1,k2⟩:=key _ rfl;rw [k1];have hlt:(x0+2^i*(x1 % 2)<y0+2^i*(y1 % 2))↔(x1 % 2<y1 % 2∨x1 % 2=y1 % 2∧x0<y0):=by
  rcases Nat.mod_two_eq_zero_or_one x1 with h1|h1<;>rcases Nat.mod_two_eq_zero_or_one y1 with h2|h2<;>rw [h1,h2]<;>omega
 by_cases hb:x0<y0
 ·rw [YA hb] at k2 ⊢;exact UT
 ·rw [YB hb] at k2 ⊢;exact UT
theorem ri (A B:Option Addr) (n c m c':Nat) (xs ys:List Nat) (w:World) (hx:Sl w A n 1 (ij xs)) (hy:Sl w B m 1 (ij ys)) (hdx:Dg 2 xs) (hdy:Dg 2 ys) (hn:n≤100000000000) (hm:m≤100000000000) (hle:bR 2 ys≤bR 2 xs):
  Calls Tryz.prog 205 #[.slice A n c,.slice B m c'] w fun e w'=>∃b,e=.returned (.slice (some ⟨b,0,none⟩) n n)∧w'.ownsRow w.heap.size 5 1 (.slice (some ⟨b,0,none⟩) n n) n (ij (ct 2 n (bR 2 xs-bR 2 ys)))∧Below w.heap.size w w':=by
 have hlx:=hx.1;have hly:=hy.1;rw [dq] at hlx hly;have hh:=Hp.start w;have hand:∀z:Nat,z &&& 1=z % 2:=fun z=>Nat.and_one_is_mod z;refine ak (N:=37) (l:=[.slice A n c,.slice B m c']) Tryz.func205 rfl rfl (by simp) ?_;refine sr (aL (aa (sr (mL (aK ?_)))));refine Mc ?_;intro b11 w11 hh;refine aL (aa (sr (aI (aa (ai (sr (aI (aa (av ?_)))))))));rw [sa] at hh;refine bC [6,7,8,12,13,14,15,16,17,18,19,20,21,22,23,24,25,26,27,28,29,30,31,32,33,34,35] 6 7
  (fun cr v w'=>∃i:Nat,i≤n∧v=.int .i64 (i:Int)∧cr=.int .u8 ((if bR 2 xs % 2^i<bR 2 ys % 2^i then 1 else 0:Nat):Int)∧Hp w [.row (some ⟨b11,0,none⟩) n n 5 1 (ij (ct 2 i (bR 2 xs-bR 2 ys)++List.replicate (n-i) 0))] w')
  (fun _ v _=>n-(intOf v).toNat) ?_ ?_
 ·exact ⟨0,YD _,rfl,by simp [Nat.mod_one];rfl,hh⟩
 ·clear hh;rintro ρ' cr v w' ⟨i,hi,rfl,rfl,hh⟩;by_cases hlt:i<n
  ·obtain ⟨b1,b2⟩:=OK hle i;have hxb:bR 2 xs/2^i % 2<2:=Y8 _ Yv;have hyb:bR 2 ys/2^i % 2<2:=Y8 _ Yv;have hcb:(if bR 2 xs % 2^i<bR 2 ys % 2^i then 1 else 0:Nat)≤1:=by split<;>omega
   have hll:(ij (ct 2 i (bR 2 xs-bR 2 ys)++List.replicate (n-i) 0)).length=n:=by rw [dq,YK,a7,ZX];omega
   have hfk:=QB (N:=bR 2 xs-bR 2 ys) hlt;refine ai (sr (mI (mL (aK ?_))));refine jq ?_;refine bA hh (jK A n c i xs _ (hx.ext hh.below) hdx Yv Yv) rfl ?_;intro w20 hh;refine jt (a:=2) rfl rfl Yw ?_;refine mL (mI ?_);refine bA hh (jK B m c' i ys _ (hy.ext hh.below) hdy Yv Yv) rfl ?_;intro w24 hh;generalize hC:(if bR 2 xs % 2^i<bR 2 ys % 2^i then 1 else 0:Nat)=C at*;generalize hX:bR 2 xs/2^i % 2=X at*;generalize hY:bR 2 ys/2^i % 2=Y at*;have es:((2+X) % 256+256-Y) % 256=(2+X+256-Y) % 256:=Yv;have hS:((2+X+256-Y) % 256+256-C) % 256<256:=Y8 _ Yv;refine E8 rfl rfl Yv Yw ?_;refine mI ?_;rw [es];refine E8 rfl rfl Yv Yw ?_;refine aI (aa (sr (mL (mI (mI ?_)))));refine L0 ?_;refine gD ?_;refine GR ?_;intro ws hh;simp only [YM] at hh;rw [hand,b1,YX,dp (by rw [hll];omega),sx,hfk] at hh;refine aa (ar (mI ?_));refine nj (s:=1) (m:=2) rfl rfl Yw Yw Yw ?_;refine E8 (a:=1) rfl rfl Yv Yw ?_;refine aI (aE (bM (aj (ar (mI ?_)))));refine bm (aI (aE (aj ?_)));refine ⟨⟨i+1,Yv,rfl,by rw [←b2];rfl,hh⟩,by show n-(i+1)<n-i;omega, ?_⟩;exact dO
  ·obtain rfl:i=n:=Yv;exact Vk
theorem zn (n:Nat) (w:World) (hn:n<18446744073709551616):
  Calls Tryz.prog 154 #[.int .u64 (n:Int)] w fun e w'=>e=.returned (.string (sN n))∧Below w.heap.size w w':=by
 have hh:=Hp.start w;refine ak (N:=16) (l:=[.int .u64 (n:Int)]) Tryz.func154 rfl rfl (by simp) ?_;refine sr (aS (aa (sr (aL (aa (ai (av ?_)))))));replace hh:=hh.cN 5 1;refine bC [0,3,4,5,6,7,8,9,10,11,12,13] 0 3
  (fun v o w'=>∃(k m:Nat) (A:Option Addr) (c:Nat),v=.int .u64 (m:Int)∧m<18446744073709551616∧k≤64∧m<2^(64-k)∧o=.slice A k c∧m=n/2^k∧Hp w [.row A k c 5 1 (ij (ct 2 k n))] w')
  (fun v _ _=>(intOf v).toNat) ?_ ?_
 ·exact ⟨0,n,none,0,rfl,hn,Yv,by simpa using hn,rfl,by simp,hh⟩
 ·clear hh;rintro ρ' v o w' ⟨k,m,A,c,rfl,hm,hk,hmk,rfl,hmn,hh⟩;by_cases h0:m=0
  ·subst h0;refine ai (sr (mI ?_));refine bT (aa (cF (a6 (aH (aH (bB (aj (sr (mL ?_)))))))));refine bA hh (fN _ _ _ (ct 2 k n) _ (hh.aG (i:=0) rfl) (fC Yv _ _) (hh.fQ (i:=0) rfl) Yv) rfl ?_;intro w15 hh;have hlt:n<2^k:=by
    have:=aah n (2^k);have h2:=Y8 n (Zd (n:=k) (show 0<2 by omega));rw [←hmn] at this;omega
   rw [da hlt];exact Bv
  ·have hk64:k<64:=by
    refine abu fun h=> ?_;rw [show 64-k=0 by omega] at hmk;omega
   have hm2:m % 2<256:=Yv;refine ai (sr (mI ?_));refine bT (aa (cT (au (aj (ai (av (ar (mL (mI ?_)))))))));refine F4 (b:=2) rfl rfl Yv Yw ?_;refine nu ?_;refine vN ?_;intro b12 w12 hh;refine pR ?_;intro A13 c13 w13 hh;simp only [YM,Zg] at hh;replace hh:=hh.sub (Zi _ _);refine lC ?_;refine TN (b:=2) rfl rfl Yv (by first|assumption|omega) Yw ?_;refine aI (aE (aj ?_));have e1:ij (ct 2 k n)++[Value.int .u8 ((m % 2:Nat):Int)]=ij (ct 2 (k+1) n):=by
    rw [hmn,mv,wN];rfl
   rw [e1] at hh;refine ⟨⟨k+1,m/2,A13,c13,rfl,Yv,Yv, ?_,rfl, ?_,hh⟩,by show (((m/2:Nat):Int)).toNat<((m:Int)).toNat;omega, ?_⟩
   ·rw [show 64-k=(64-(k+1))+1 by omega,Zn] at hmk;omega
   ·rw [hmn,aae,Zn]
   ·exact dO
theorem gO (a:ByteArray):(a9 2 (bN a)).length≤8*a.size:=fO a
theorem ko (n:Nat):Dg 2 (a9 2 n):=(eG Yv n).1
theorem im (n:Nat):bR 2 (a9 2 n)=n:=eB Yv n
theorem vF (a b:ByteArray) (w:World) (ha:a.size≤1000000000) (hb:b.size≤1000000000):
  Calls Tryz.prog 204 #[.string a,.string b] w fun e w'=>e=.returned (.int .i64 (mg (bN a) (bN b)))∧Below w.heap.size w w':=by
 have hh:=Hp.start w;have h1:=gO a;have h2:=gO b;refine ak (N:=10) (l:=[.string a,.string b]) Tryz.func204 rfl rfl (by simp) ?_;refine sr (aI (aa (sr (mS ?_))));refine xY ?_;rintro e_ w6 ⟨A6,c6,rfl,hown_,hb_⟩;refine ⟨_,rfl, ?_⟩;replace hh:=hh.aY (x:=.row _ _ _ _ _ _) hb_ hown_;refine mS ?_;refine Hg ?_;rintro e_ w8 ⟨A8,c8,rfl,hown_,hb_⟩;refine ⟨_,rfl, ?_⟩;replace hh:=hh.aY (x:=.row _ _ _ _ _ _) hb_ hown_;refine bA hh (n8 _ _ _ _ _ _ (a9 2 (bN a)) (a9 2 (bN b)) _ (hh.aG (i:=1) rfl) (hh.aG (i:=0) rfl) (ko _) (ko _) Yv Yv) rfl ?_;intro w9 hh;rw [im,im];exact xA
theorem qN (a:ByteArray) (w:World) (ha:a.size≤1000000000):
  Calls Tryz.prog 203 #[.string a] w fun e w'=>e=.returned (.int .i64 (bX (bN a)))∧Below w.heap.size w w':=by
 have hh:=Hp.start w;refine ak (N:=6) (l:=[.string a]) Tryz.func203 rfl rfl (by simp) ?_;refine sr (aI (aa (sr (mS ?_))));refine xY ?_;rintro e_ w4 ⟨A4,c4,rfl,hown_,hb_⟩;refine ⟨_,rfl, ?_⟩;replace hh:=hh.aY (x:=.row _ _ _ _ _ _) hb_ hown_;refine aK (aI (aa (ay ?_)));refine dh ?_;exact ⟨rfl,hh.below⟩
theorem qp (a b:ByteArray) (w:World) (ha:a.size≤1000000000) (hb:b.size≤1000000000):
  Calls Tryz.prog 184 #[.string a,.string b] w fun e w'=>e=.returned (.tuple #[.string (sN (bN a-bN b)),.bool (decide (bN b≤bN a))])∧Below w.heap.size w w':=by
 have hh:=Hp.start w;have h1:=gO a;have h2:=gO b;by_cases hlt:bN a<bN b
 ·refine ak (N:=16) (l:=[.string a,.string b]) Tryz.func184 rfl rfl (by simp) ?_;refine sr (aS (aB (aa (ai (sr (mS (mS ?_)))))));refine bA hh (vF a b _ ha hb) rfl ?_;intro w8 hh;rw [np hlt];exact UP
 ·have hc:¬mg (bN a) (bN b)<0:=by unfold mg;split<;>(try split)<;>omega
  have hbl:bN a-bN b<2^(a9 2 (bN a)).length:=ZF (Nat.sub_le _ _) (dD (bN a));refine ak (N:=16) (l:=[.string a,.string b]) Tryz.func184 rfl rfl (by simp) ?_;refine sr (aS (aB (aa (ai (sr (mS (mS ?_)))))));refine bA hh (vF a b _ ha hb) rfl ?_;intro w8 hh;refine a8 (aa (cF (au (aj (sr (mS ?_))))));refine xY ?_;rintro e_ w11 ⟨A11,c11,rfl,hown_,hb_⟩;refine ⟨_,rfl, ?_⟩;replace hh:=hh.aY (x:=.row _ _ _ _ _ _) hb_ hown_;refine mS ?_;refine Hg ?_;rintro e_ w13 ⟨A13,c13,rfl,hown_,hb_⟩;refine ⟨_,rfl, ?_⟩;replace hh:=hh.aY (x:=.row _ _ _ _ _ _) hb_ hown_;refine aJ (ri _ _ _ _ _ _ (a9 2 (bN a)) (a9 2 (bN b)) _ (hh.aG (i:=1) rfl) (hh.aG (i:=0) rfl) (ko _) (ko _) Yv Yv (by rw [im,im];omega)) aw.out rfl Yw ?_;rintro e_ w_ ⟨b14,rfl,hown_,hb_⟩;refine ⟨_,rfl, ?_⟩;replace hh:=hh.aY (x:=.row _ _ _ _ _ _) hb_ hown_;rw [im,im] at hh;refine bA hh (fN _ _ _ (ct 2 (a9 2 (bN a)).length (bN a-bN b)) _ (hh.aG (i:=0) rfl) (fC Yv _ _) (YE _) Yv) rfl ?_;intro w15 hh;rw [da hbl];exact R5
theorem EV (a:ByteArray) (m:Nat) (w:World) (ha:a.size≤1000000000) (hm:m≤10000000000):
  Calls Tryz.prog 185 #[.string a,.int .i64 (m:Int)] w fun e w'=>e=.returned (.string (sN (bN a*2^m)))∧Below w.heap.size w w':=by
 have hh:=Hp.start w;have h1:=gO a;have e1:(if (0:Int)>(m:Int) then 0 else (m:Int))=m:=YB Yv;have hbd:bN a*2^m<2^(max 0 ((a9 2 (bN a)).length+m)+1):=by
  refine ZC (dD _) (Zf Yv ?_);have:=jr (bN a) m;show bX _≤max 0 (bX _+m)+1;omega
 refine ak (N:=11) (l:=[.string a,.int .i64 (m:Int)]) Tryz.func185 rfl rfl (by simp) ?_;refine sr (aS (aa (sr (mS ?_))));refine xY ?_;rintro e_ w6 ⟨A6,c6,rfl,hown_,hb_⟩;refine ⟨_,rfl, ?_⟩;replace hh:=hh.aY (x:=.row _ _ _ _ _ _) hb_ hown_;refine mI ?_;refine lL rfl rfl Yw ?_;rw [e1];refine aJ (nM none _ 0 0 _ _ m [] (a9 2 (bN a)) _ (Sl.nil _ _ _) (hh.aG (i:=0) rfl) Dg.nil (ko _) Yv Yv Yv) aw.out rfl Yw ?_;rintro e_ w_ ⟨b9,rfl,hown_,hb_⟩;refine ⟨_,rfl, ?_⟩;replace hh:=hh.aY (x:=.row _ _ _ _ _ _) hb_ hown_;rw [im,bR,Y0] at hh;refine bA hh (fN _ _ _ (ct 2 (max 0 ((a9 2 (bN a)).length+m)+1) (bN a*2^m)) _ (hh.aG (i:=0) rfl) (fC Yv _ _) (YE _) Yv) rfl ?_;intro w10 hh;rw [da hbd];exact Bv
theorem En (L:Option Addr) (n c:Nat) (ss:List ByteArray) (w:World) (hS:Sl w L n 1 (iw ss)) (hn:n≤1000000) (hs:∀s∈ss,s.size≤1000000000):
  Calls Tryz.prog 183 #[.slice L n c] w fun e w'=>e=.returned (.string (sN (ss.map bN).sum))∧Below w.heap.size w w':=by
 have hsl:ss.length=n:=by have:=hS.1;rw [nH] at this;omega
 have hh:=Hp.start w;refine ak (N:=20) (l:=[.slice L n c]) Tryz.func183 rfl rfl (by simp) ?_;refine sr (aS (aa (sr (aL (aa (ai (sr (aI (aa (av ?_))))))))));replace hh:=hh.cN 5 1;refine bC [3,4,5,6,7,8,9,10,11,12,13,14,15,16,17] 3 4
  (fun v j w'=>∃(i:Nat) (A:Option Addr) (c' T K:Nat),i≤n∧j=.int .i64 i∧T=((ss.take i).map bN).sum∧v=.slice A K c'∧K≤8000000000+i∧T<2^K∧Hp w [.row A K c' 5 1 (ij (ct 2 K T))] w')
  (fun _ j _=>n-(intOf j).toNat) ?_ ?_
 ·exact ⟨0,none,0,0,0,YD _,rfl,rfl,rfl,Yv,by simp,hh⟩
 ·clear hh;rintro ρ' v j w' ⟨i,A,c',T,K,hi,rfl,hT,rfl,hTl,hTb,hh⟩;by_cases hlt:i<n
  ·obtain ⟨s,hsi⟩:=ao (l:=ss) (k:=i) Yv;obtain ⟨ad,rfl,hr⟩:=hS.at_ Yv;have hs2:=sw hsi;have hsz:=hs s (YF hsi);have hlx:=gO s;have hT2:((ss.take (i+1)).map bN).sum=T+bN s:=by rw [aC hsi,Zq,abb,sU,hT]
   have hbs:bN s<2^(a9 2 (bN s)).length:=dD _;have hb2:T+bN s<2^(max K ((a9 2 (bN s)).length+0)+1):=by
    have h1:2^K≤2^max K ((a9 2 (bN s)).length+0):=Zf Yv Yv;have h2:2^(a9 2 (bN s)).length≤2^max K ((a9 2 (bN s)).length+0):=Zf Yv Yv;rw [Zn];omega
   refine ai (sr (mI (mL (aK ?_))));refine C0 ?_;refine cE ?_;refine iD ?_;refine aJ (jc s _ hsz) aw.out rfl Yw ?_;rintro e_ w16 ⟨A16,c16,rfl,hown_,hb_⟩;refine ⟨_,rfl, ?_⟩;replace hh:=hh.aY (x:=.row _ _ _ _ _ _) hb_ hown_;refine aJ (nM _ _ _ _ _ _ 0 (ct 2 K T) (a9 2 (bN s)) _ (hh.aG (i:=1) rfl) (hh.aG (i:=0) rfl) (fC Yv _ _) (ko _) Yv Yv Yv) aw.out rfl Yw ?_;rintro e_ w_ ⟨b17,rfl,hown_,hb_⟩;refine ⟨_,rfl, ?_⟩;rw [im,da hTb,aa9,YX] at hown_;replace hh:=(hh.aY (x:=.row _ _ _ _ _ _) hb_ hown_).sub (aaG [_] _);refine lC ?_;refine bm (aI (aE (aj ?_)));refine ⟨⟨i+1,_,_,T+bN s,_,Yv,rfl,hT2.symm,rfl,Yv,hb2,hh⟩,by show n-(i+1)<n-i;omega, ?_⟩;exact dO
  ·refine ai (sr (mI (mL (aK ?_))));refine DZ ?_;refine bA hh (fN _ _ _ (ct 2 K T) _ (hh.aG (i:=0) rfl) (fC Yv _ _) (hh.fQ (i:=0) rfl) Yv) rfl ?_;intro w19 hh;rw [da hTb];exact QV
theorem FY (a b:ByteArray) (w:World) (ha:a.size≤1000000000) (hb:b.size≤1000000000):
  Calls Tryz.prog 169 #[.string a,.string b] w fun e w'=>e=.returned (.string (sN (bN a*bN b)))∧Below w.heap.size w w':=by
 have hh:=Hp.start w;have h1:=gO a;have h2:=gO b;have hYl:bN b<2^(a9 2 (bN b)).length:=dD _;have hXd:=ko (bN a);have hX:=im (bN a);refine ak (N:=30) (l:=[.string a,.string b]) Tryz.func169 rfl rfl (by simp) ?_;refine sr (aS (aa (sr (mS ?_))));refine xY ?_;rintro e_ w10 ⟨A10,c10,rfl,hown_,hb_⟩;refine ⟨_,rfl, ?_⟩;replace hh:=hh.aY (x:=.row _ _ _ _ _ _) hb_ hown_;refine mS ?_;refine Hg ?_;rintro e_ w12 ⟨A12,c12,rfl,hown_,hb_⟩;refine ⟨_,rfl, ?_⟩;replace hh:=hh.aY (x:=.row _ _ _ _ _ _) hb_ hown_;generalize a9 2 (bN a)=xs at*;refine aL (aL (aa (sr (aL (aa (ai (sr (aI (aa (av ?_))))))))));replace hh:=hh.cN 5 1;refine bC [7,8,13,14,15,16,17,18,19,20,21,22,23,24,25,26,27] 7 8
  (fun v j w'=>∃(i:Nat) (A:Option Addr) (c' P K:Nat),i≤xs.length∧j=.int .i64 i∧P=bR 2 (xs.take i)*bN b∧v=.slice A K c'∧K≤(a9 2 (bN b)).length+i∧P<2^K∧Hp w [.row A K c' 5 1 (ij (ct 2 K P)),.row A12 (a9 2 (bN b)).length c12 5 1 (ij (a9 2 (bN b))),.row A10 xs.length c10 5 1 (ij xs)] w')
  (fun _ j _=>xs.length-(intOf j).toNat) ?_ ?_
 ·exact ⟨0,none,0,0,0,YD _,rfl,by simp [bR],rfl,Yv,by simp,hh⟩
 ·clear hh;rintro ρ' v j w' ⟨i,A,c',P,K,hi,rfl,hP,rfl,hK,hPb,hh⟩;by_cases hlt:i<xs.length
  ·obtain ⟨d,hd⟩:=ao (l:=xs) (k:=i) Yv;have hd2:=qH hd;have hdw:=hXd.at_ hd;have hsn:=fq (B:=2) hd;obtain ⟨g,rfl⟩:=hh.cK (i:=2) rfl Yv;by_cases h0:d=0
   ·subst h0;refine ai (sr (mI (mL (aK ?_))));refine jq ?_;refine gD ?_;refine DR ?_;refine di (aa (cF (au (bM (aj (ar (mI ?_)))))));refine bm (aI (aE (aj ?_)));refine ⟨⟨i+1,_,_,P,_,Yv,rfl,by rw [hsn,hP];simp,rfl,Yv,hPb,hh⟩,by show xs.length-(i+1)<xs.length-i;omega, ?_⟩;exact dO
   ·obtain rfl:d=1:=Yv;have hb2:P+bN b*2^i<2^(max K ((a9 2 (bN b)).length+i)+1):=by
     have h1:2^K≤2^max K ((a9 2 (bN b)).length+i):=Zf Yv Yv;have h2:2^((a9 2 (bN b)).length+i)≤2^max K ((a9 2 (bN b)).length+i):=Zf Yv Yv;have h3:bN b*2^i<2^(a9 2 (bN b)).length*2^i:=aa5 hYl (Zd Yv);rw [←Y4] at h3;rw [Zn];omega
    refine ai (sr (mI (mL (aK ?_))));refine jq ?_;refine gD ?_;refine DR ?_;refine di (aa (cT (ar (mL (mL (mI ?_))))));refine aJ (nM _ _ _ _ _ _ i (ct 2 K P) (a9 2 (bN b)) _ (hh.aG (i:=0) rfl) (hh.aG (i:=1) rfl) (fC Yv _ _) (ko _) Yv Yv Yv) aw.out rfl Yw ?_;rintro e_ w_ ⟨b27,rfl,hown_,hb_⟩;refine ⟨_,rfl, ?_⟩;rw [im,da hPb] at hown_;replace hh:=(hh.aY (x:=.row _ _ _ _ _ _) hb_ hown_).sub (.cons_cons _ (.cons _ (ZK _)));refine lC ?_;refine bm (aI (aE (aj ?_)));refine ⟨⟨i+1,_,_,_,_,Yv,rfl, ?_,rfl,Yv,hb2,hh⟩,by show xs.length-(i+1)<xs.length-i;omega, ?_⟩
    ·rw [hsn,hP,aay,YX,Za (2^i)]
    ·exact dO
  ·rw [YG Yv,hX] at hP;refine ai (sr (mI (mL (aK ?_))));refine DZ ?_;refine bA hh (fN _ _ _ (ct 2 K P) _ (hh.aG (i:=0) rfl) (fC Yv _ _) (hh.fQ (i:=0) rfl) Yv) rfl ?_;intro w29 hh;rw [da hPb,hP];exact Bv
theorem Lg (X Y k:Nat) (hY:0<Y):X/2^k % Y=(if Y≤X/2^k % 2+2*(X/2^(k+1) % Y) then X/2^k % 2+2*(X/2^(k+1) % Y)-Y else X/2^k % 2+2*(X/2^(k+1) % Y))∧
  X/2^k/Y % 2=(if Y≤X/2^k % 2+2*(X/2^(k+1) % Y) then 1 else 0)∧X/2^k/Y/2=X/2^(k+1)/Y:=by
 have h1:=mN X k;have hb:X/2^k % 2<2:=Y8 _ Yv;generalize X/2^k % 2=b at*;generalize X/2^k=Z at*;generalize X/2^(k+1)=V at*;have h2:=aah V Y;have h3:=Y8 V hY;generalize V/Y=q at*;generalize V % Y=r at*;have e:Z=(b+2*r)+Y*(2*q):=by rw [h1,←h2,Zt,abM];omega
 rw [e,aaD,Z3 _ _ hY];by_cases hc:Y≤b+2*r
 ·rw [YA hc,YA hc];have e2:b+2*r=(b+2*r-Y)+Y*1:=Yv;have h4:b+2*r-Y<Y:=Yv;have h5:(b+2*r)/Y=1:=by rw [e2,Z3 _ _ hY,ZG h4]
  have h6:(b+2*r) % Y=b+2*r-Y:=by conv=>lhs;rw [e2,aaD,Zk h4]
  rw [h5,h6];omega
 ·rw [YB hc,YB hc,Zk Yv,ZG Yv];omega
theorem qm (a b:ByteArray) (w:World) (ha:a.size≤1000000000) (hb:b.size≤1000000000) (hb0:bN b≠0):
  Calls Tryz.prog 188 #[.string a,.string b] w fun e w'=>e=.returned (.tuple #[.string (sN (bN a/bN b)),.string (sN (bN a % bN b)),.bool true])∧Below w.heap.size w w':=by
 have hh:=Hp.start w;have h1:=gO a;have h2:=gO b;have hX:=im (bN a);have hXd:=ko (bN a);have hXl:bN a<2^(a9 2 (bN a)).length:=dD _;have hYp:0<(a9 2 (bN b)).length:=rB hb0;have hget:∀k,k<(a9 2 (bN a)).length→(a9 2 (bN a))[k]?=some (bN a/2^k % 2):=fun k hk=>CH Yv hk;refine ak (N:=52) (l:=[.string a,.string b]) Tryz.func188 rfl rfl (by simp) ?_;refine sr (aS (aS (aB (aa (sr (mS ?_))))));refine xY ?_;rintro e_ w13 ⟨A13,c13,rfl,hown_,hb_⟩;refine ⟨_,rfl, ?_⟩;replace hh:=hh.aY (x:=.row _ _ _ _ _ _) hb_ hown_;refine mS ?_;refine Hg ?_;rintro e_ w15 ⟨A15,c15,rfl,hown_,hb_⟩;refine ⟨_,rfl, ?_⟩;replace hh:=hh.aY (x:=.row _ _ _ _ _ _) hb_ hown_;refine aL (aL (aa (ai (sr (mL (aK ?_))))));refine di (aa (cF (au (aj (sr (mL (aK ?_)))))));refine gE hh rfl rfl rfl rfl bo.out aU.out rfl Yv Yv Yw ?_;intro b21 w21 hh;refine aL (aa (sr (aL (aa (ai (sr (mL (aK ?_))))))));refine eP (aI (aa (av ?_)));rw [sa] at hh;generalize hxs:a9 2 (bN a)=xs at*;replace hh:=hh.cN 5 1;refine bC [10,11,25,26,27,28,29,30,31,32,33,34,35,36,37,38,39,40,41,42,43,44,45,46,47] 10 11
  (fun v j w'=>∃(k:Nat) (A:Option Addr) (c':Nat),k≤xs.length∧j=.int .i64 ((k:Int)-1)∧v=.slice A (a9 2 (bN a/2^k % bN b)).length c'∧Hp w [.row A (a9 2 (bN a/2^k % bN b)).length c' 5 1 (ij (a9 2 (bN a/2^k % bN b))),.row (some ⟨b21,0,none⟩) xs.length xs.length 5 1 (ij (List.replicate k 0++ct 2 (xs.length-k) (bN a/2^k/bN b))),.row A15 (a9 2 (bN b)).length c15 5 1 (ij (a9 2 (bN b))),.row A13 xs.length c13 5 1 (ij xs)] w')
  (fun _ j _=>(intOf j+1).toNat) ?_ ?_
 ·refine ⟨xs.length,none,0,YE _,rfl, ?_, ?_⟩
  ·rw [ZG hXl,Nat.zero_mod,hU Yv];rfl
  ·rw [ZG hXl,Nat.zero_mod,hU Yv,Zu];simp only [ct,Y9];exact hh
 ·clear hh;rintro ρ' v j w' ⟨k,A,c',hk,rfl,rfl,hh⟩;by_cases h0:k=0
  ·subst h0;rw [aa9,Nat.div_one,Nat.sub_zero,abB,YH] at hh;rw [aa9,Nat.div_one];have hq:bN a/bN b<2^xs.length:=ZF (aaU _ _) hXl;have hrl:(a9 2 (bN a % bN b)).length≤(a9 2 (bN b)).length:=pW Yv (Nat.le_of_lt (Y8 _ Yv));refine ai (sr (mI ?_));refine ej (aa (cF (a6 (aH (aH (bB (aj (sr (mL ?_)))))))));refine bA hh (fN _ _ _ (ct 2 xs.length (bN a/bN b)) _ (hh.aG (i:=1) rfl) (fC Yv _ _) (YE _) Yv) rfl ?_;intro w49 hh;rw [da hq];refine mL ?_;refine bA hh (fN _ _ _ (a9 2 (bN a % bN b)) _ (hh.aG (i:=0) rfl) (ko _) (hh.fQ (i:=0) rfl) Yv) rfl ?_;intro w51 hh;rw [im];refine aS (aS (aB (aa (ay ?_))));refine X9 ?_;exact ⟨rfl,hh.below⟩
  ·obtain ⟨i,rfl⟩:∃i,k=i+1:=⟨k-1,Yv⟩;have hji:((i+1:Nat):Int)-1=(i:Int):=Yv;obtain ⟨d1,d2,d3⟩:=Lg (bN a) (bN b) i Yv;have hgi:=qH (hget i Yv);have hdw:bN a/2^i % 2<2:=Y8 _ Yv;have hrl:(a9 2 (bN a/2^(i+1) % bN b)).length≤(a9 2 (bN b)).length:=pW Yv (Nat.le_of_lt (Y8 _ Yv));have hqk:ct 2 (xs.length-i) (bN a/2^i/bN b)=(bN a/2^i/bN b % 2)::ct 2 (xs.length-(i+1)) (bN a/2^(i+1)/bN b):=by
    rw [show xs.length-i=(xs.length-(i+1))+1 by omega,ct,d3]
   rw [hji];obtain ⟨g,rfl⟩:=hh.cK (i:=3) rfl Yv;refine ai (sr (mI ?_));refine ej (aa (cT (au (aj (ai (av (sr (mL (mI ?_)))))))));refine gD ?_;refine cv aU.out rfl (hh.fU (i:=3) rfl (by first|assumption|(simp only [YX];assumption))) Yw ?_;refine vN ?_;intro b33 w33 hh;refine mL ?_;refine cd hh (i:=0) rfl rfl rfl (hh.aG (i:=1) rfl) bo.out aU.out rfl Yw (by first|rfl|exact dv _|exact cR _|exact br _|exact bD NR.one _) Yv Yv Yw ?_;intro A35 c35 w35 hh;simp only [YM] at hh;have e35:[Value.int .u8 ((bN a/2^i % 2:Nat):Int)]++ij (a9 2 (bN a/2^(i+1) % bN b))=ij ((bN a/2^i % 2)::a9 2 (bN a/2^(i+1) % bN b)):=rfl;rw [e35] at hh;generalize hR:bN a/2^(i+1) % bN b=R at*;generalize hbt:bN a/2^i % 2=bt at*;have hdg:Dg 2 (bt::a9 2 R):=Dg.cons hdw (ko _);have hcv:eu (bt::a9 2 R)=a9 2 (bt+2*R):=by rw [jg Yv hdg,bR,im]
   have hll:(bt::a9 2 R).length=1+(a9 2 R).length:=by rw [YZ];omega
   have hcl:=gi (bt::a9 2 R);refine bA hh (ni _ _ _ (bt::a9 2 R) _ (hh.aG (i:=0) rfl) (hh.fQ (i:=0) rfl) Yv) rfl ?_;intro w36 hh;replace hh:=hh.T1 hll;rw [hcv] at hh hcl;rw [hcv];refine aL (aa (sr (mL (mL ?_))));refine bA hh (n8 _ _ _ _ _ _ (a9 2 (bt+2*R)) (a9 2 (bN b)) _ (hh.aG (i:=0) rfl) (hh.aG (i:=3) rfl) (ko _) (ko _) Yv Yv) rfl ?_;intro w39 hh;rw [im,im];by_cases hge:bN b≤bt+2*R
   ·have hc:0≤mg (bt+2*R) (bN b):=by unfold mg;rw [YB Yv];split<;>omega
    rw [YA hge] at d1 d2;have hml:bt+2*R-bN b<2^(a9 2 (bt+2*R)).length:=ZF (Nat.sub_le _ _) (dD _);have hcm:eu (ct 2 (a9 2 (bt+2*R)).length (bt+2*R-bN b))=a9 2 (bt+2*R-bN b):=by rw [jg Yv (fC Yv _ _),da hml]
    refine ej (aa (cT (sr (mL (mL ?_)))));refine aJ (ri _ _ _ _ _ _ (a9 2 (bt+2*R)) (a9 2 (bN b)) _ (hh.aG (i:=0) rfl) (hh.aG (i:=3) rfl) (ko _) (ko _) Yv Yv (by rw [im,im];exact hge)) aw.out rfl Yw ?_;rintro e_ w_ ⟨b43,rfl,hown_,hb_⟩;refine ⟨_,rfl, ?_⟩;replace hh:=hh.aY (x:=.row _ _ _ _ _ _) hb_ hown_;rw [im,im] at hh;refine bA hh (ni _ _ _ (ct 2 (a9 2 (bt+2*R)).length (bt+2*R-bN b)) _ (hh.aG (i:=0) rfl) (YE _) Yv) rfl ?_;intro w44 hh;replace hh:=hh.T1 (a7 _ _);rw [hcm] at hh;rw [hcm];have hql:(ij (List.replicate (i+1) 0++ct 2 (xs.length-(i+1)) (bN a/2^(i+1)/bN b))).length=xs.length:=by rw [dq,YK,ZX,a7];omega
    refine aL (aa (ar (mL (mI ?_))));refine gD ?_;refine cA hh (i:=3) (vs:=[_]) rfl rfl (dk rfl) rfl aU.out rfl (by rw [hql];omega) rfl ?_;intro ws hh;simp only [YM,Zg] at hh;rw [YX,dp (by rw [hql];omega)] at hh;have hset:(ij (List.replicate (i+1) 0++ct 2 (xs.length-(i+1)) (bN a/2^(i+1)/bN b))).set i (.int .u8 1)=ij (List.replicate i 0++ct 2 (xs.length-i) (bN a/2^i/bN b)):=by
     have:=sx (List.replicate (i+1) 0++ct 2 (xs.length-(i+1)) (bN a/2^(i+1)/bN b)) i 1;rw [hqk,d2,←Hx];exact this
    rw [hset] at hh;replace hh:=hh.sub (.cons_cons _ (.cons _ (.cons _ (ZK _))));refine p9 ?_;refine eP (aI (aE (aj ?_)));exact Sa
   ·have hc:¬0≤mg (bt+2*R) (bN b):=by rw [np Yv];omega
    rw [YB hge] at d1 d2;refine ej (aa (cF (au (bM (aj (ar (mI ?_)))))));refine eP (aI (aE (aj ?_)));have hrep:List.replicate (i+1) 0++ct 2 (xs.length-(i+1)) (bN a/2^(i+1)/bN b)=List.replicate i 0++ct 2 (xs.length-i) (bN a/2^i/bN b):=by
     rw [hqk,d2,List.replicate_succ',Ze];rfl
    rw [hrep] at hh;replace hh:=hh.sub (.cons_cons _ (.cons _ (ZK _)));exact Sa
end Go.Proofs.YtolamocnngihpaaGreatDoor
