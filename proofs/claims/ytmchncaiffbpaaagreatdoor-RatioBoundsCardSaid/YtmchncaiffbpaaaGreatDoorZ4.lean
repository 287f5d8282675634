/- Lemmas for ratioBounds, part 4. -/
import Derived.Test.YtmchncaiffbpaaaGreatDoorZ3
set_option linter.all false
set_option maxHeartbeats 0
namespace Go.Proofs.YtmchncaiffbpaaaGreatDoor
variable {C N b c' cy j k m n ny:Nat}{ad:Addr}{w w0:World}
open Go.RowKit
theorem gg (A:Option Addr) (n c:Nat) (xs:List Nat) (w:World) (hx:Sl w A n 1 (cn xs)) (hc:n≤c) (hn:n≤1000000000000):
  Calls Tryz.prog 213 #[.slice A n c] w fun e w'=>e=.returned (.slice A (eh xs).length c)∧Below w.heap.size w w':=by
 have hlen:xs.length=n:=by have:=hx.1;rw [aY] at this;omega
 have hh:=Hp.start w;refine ae (N:=21) (l:=[.slice A n c]) Tryz.func213 rfl rfl (by simp) ?_;refine aj ?_;refine aD [0,3,4,5,6,7,8,9,10,11,12,13,14,15,16,17,18,19] 0
  (fun v w'=>∃k:Nat,k≤n∧v=.slice A k c∧eh (xs.take k)=eh xs∧w'=w)
  (fun v _=>lenOf v) ?_ ?_
 ·exact ⟨n,ZM _,rfl,by rw [ZO ZB],rfl⟩
 ·rintro ρ' v w' ⟨k,hk,rfl,hcut,rfl⟩;by_cases h0:k=0
  ·subst h0;refine aj ?_;rw [←hcut];exact ⟨rfl,hh.below⟩
  ·obtain ⟨j,rfl⟩:∃j,k=j+1:=⟨k-1,ZB⟩;obtain ⟨d,hd⟩:=ah (l:=xs) (k:=j) ZB;obtain ⟨ad,rfl,hr⟩:=hx.at_ ZB;have hd2:=eo hd;rw [al hd] at hcut;by_cases hz:d=0
   ·subst hz;rw [xm] at hcut;refine bX (sr (mL (sU ?_)));refine Bp (mB (gT (mL (gT (mL (gT (sU (gT ?_))))))));refine qf (gT ?_);refine GY ?_;refine gT ?_;refine ld ?_;refine aj ?_;refine nV (h:=j) bj.out aC.size rfl rfl ZB ZB ZC ?_;refine aj ?_;refine ⟨⟨j,ZB,rfl,hcut,rfl⟩,by show j<j+1;omega, ?_⟩;exact dh
   ·rw [zk hz] at hcut;refine bX (sr (mL (sU ?_)));refine Bp (mB (gT (mL (gT (mL (gT (sU (gT ?_))))))));refine qf (gT ?_);refine GY ?_;refine gT ?_;refine ld ?_;exact Tu
theorem gR {B:Nat}{l:List Nat}{i c:Nat} (h:l[i]?=some c):aX B (l.take (i+1))=aX B (l.take i)+B^i*c:=by
 have hi:=(ZV.1 h).1;rw [al h,cS,Z1,aaT ZB];simp [aX]
theorem Hp.Im {H:List HE}{A:Option Addr}{c:Nat}{t:TypeId}{xs:List Nat} (h:Hp w0 (.row A n c t 1 (cn xs)::H) w) (hl:xs.length=n):Hp w0 (.row A (eh xs).length c t 1 (cn (eh xs))::H) w:=by
 have h1:=eM xs;have h2:=h.Bv (k:=(eh xs).length) ZB;rw [Z8,←yH,←kK] at h2;exact h2
theorem Kv (a:ByteArray) (w:World) (ha:a.size≤100000000000):
  Calls Tryz.prog 177 #[.string a] w fun e w'=>∃b c,e=.returned (.slice (some ⟨b,0,none⟩) (aO 18446744073709551616 (bn a.data.toList)).length c)∧w'.ownsRow w.heap.size 160 1 (.slice (some ⟨b,0,none⟩) (aO 18446744073709551616 (bn a.data.toList)).length c) (aO 18446744073709551616 (bn a.data.toList)).length (cn (aO 18446744073709551616 (bn a.data.toList)))∧Below w.heap.size w w':=by
 have hsz:=eS a;have hh:=Hp.start w;refine ae (N:=39) (l:=[.string a]) Tryz.func177 rfl rfl (by simp) ?_;refine aj ?_;refine fT (n:=(a.size+7)/8) hh rfl rfl ZB ZB bj.out aC.out rfl ZB ZB ZC ?_;intro b10 w10 hh;refine aj ?_;rw [lh] at hh;refine aD [4,5,13,14,15,16,17,18,19,20,21,22,23,24,25,26,27,28,29,30,31,32,33,34,35,36] 13
  (fun v w'=>∃i:Nat,i≤a.size∧v=.int .i64 i∧Hp w [.row (some ⟨b10,0,none⟩) ((a.size+7)/8) ((a.size+7)/8) 160 1 (cn (bM 18446744073709551616 ((a.size+7)/8) (aX 256 ((Eu a.data.toList).take i))))] w')
  (fun v _=>a.size-(intOf v).toNat) ?_ ?_
 ·exact ⟨0,ZK _,rfl,by rw [aa7,aX,sI];exact hh⟩
 ·clear hh;rintro ρ' v w' ⟨i,hi,rfl,hh⟩;by_cases hlt:i<a.size
  ·obtain ⟨c,hc⟩:=ah (l:=a.data.toList) (k:=((a.size:Int)-1-i).toNat) ZB;have hlo:=K2 (s:=a.data.toList) (i:=i) (c:=c) ZB (by rw [←hc];congr 1;omega);have hc8:=c.toNat_lt;have hn:=gH ((AF a.data.toList).take i);rw [Z1,ql,aaT ZB] at hn;obtain ⟨s1,s2,s3⟩:=Qo (k:=(a.size+7)/8) (aX 256 ((Eu a.data.toList).take i)) hn hc8 ZB;have hg:=eo (jF (B:=18446744073709551616) ((a.size+7)/8) (aX 256 ((Eu a.data.toList).take i)) (i/8) ZB);have e1:((i:Int) % 8*8).toNat=i % 8*8:=ZB;refine aj ?_;refine aw 13 [[(3,none)],[(4,none)],[(22,some 1)],[(21,some 0),(23,some 2)],[(24,some 3)],[(0,none)],[(5,none)],[(26,some 5),(27,some 6)],[(28,some 7)],[(4,none)],[(30,some 9)],[(31,some 10)],[(29,some 8),(32,some 11)]] [(12,33),(11,32),(10,31),(9,30),(8,29),(7,28),(6,27),(5,26),(4,25),(3,24),(2,23),(1,22),(0,21)] hh mixed ZD ?_;refine dR ?_;refine cj ?_;refine aV (i:=2) (fun ρ1 w1 hj hR=>u4 (show ρ1 22=Value.int _ _ from hR.1) rfl ZB ZB ZB) ?_;refine uC (i/8) ?_
   refine aV (i:=4) (fun ρ1 w1 hj hR=>eB aC.out (show ρ1 24=Value.pointer _ from hR.1) (hj.hp.dZ (i:=0) rfl (by first|assumption|(simp only [Z8];assumption)))) ?_;refine YD ?_;refine cj ?_;refine aV (i:=7) (fun ρ1 w1 hj hR=>ow bj.out (show ρ1 26=Value.string _ from hR.1) (show ρ1 27=Value.int _ _ from hR.2.1) ZB (by assumption)) ?_;refine aV (i:=8) (fun ρ1 w1 hj hR=>wR bj.out bj.out (show ρ1 28=Value.int _ _ from hR.1) (by first|assumption|omega)) ?_;refine cj ?_;refine aV (i:=10) (fun ρ1 w1 hj hR=>qi (show ρ1 30=Value.int _ _ from hR.1) rfl ZB ZB) ?_;refine Ug ?_;refine aV (i:=12) (fun ρ1 w1 hj hR=>xo (show ρ1 29=Value.int _ _ from hR.1) (show ρ1 32=Value.int _ _ from hR.2.1) ZB) ?_;refine au ?_;intro f W hJ hV;have hb_6:=hJ.bl;obtain ⟨v33,v32,v31,v30,v29,v28,v27,v26,v25,v24,v23,v22,v21,_⟩:=hV;replace hh:=hJ.hp;refine az (aH (aa v33 (aa v32 (aa v31 (aa v30 (aa v29 (aa v28 (aa v27 (aa v26 (aa v25 (aa v24 (aa v23 (aa v22 (aa v21 ay)))))))))))))) ?_;dsimp only [bf];clear hJ;refine Ch ?_;refine dN (k:=i/8) bj.out aC.size rfl rfl ZB ZB ZC ?_;refine K5 ?_;intro ws hh;simp only [ZP] at hh
   rw [e1,aas s2,EX s1,cw (by rw [aY,aU];omega),Z8,gL,s3,←gR hlo] at hh;refine aj ?_;refine ⟨⟨i+1,ZB,rfl,hh⟩,by show a.size-(i+1)<a.size-i;omega, ?_⟩;exact dh
  ·refine aj ?_;rw [ZO (by rw [ql];omega)] at hh;refine a0 hh (gg _ _ _ (bM 18446744073709551616 ((a.size+7)/8) (bn a.data.toList)) _ (hh.ar (i:=0) rfl) (ZM _) ZB) rfl ?_;intro w38 hh;refine aj ?_;have hbd:bn a.data.toList<18446744073709551616^((a.size+7)/8):=by
    refine aaF (SE _) ?_;rw [←hsz,show (256:Nat)=2^8 from rfl,show (18446744073709551616:Nat)=2^64 from rfl,←aax,←aax];exact aao ZB ZB
   have hd:eh (bM 18446744073709551616 ((a.size+7)/8) (bn a.data.toList))=aO 18446744073709551616 (bn a.data.toList):=by
    exact KK
   have h1:=(Hp.Im (xs:=bM 18446744073709551616 ((a.size+7)/8) (bn a.data.toList)) hh (aU _ _)).at_ (i:=0) rfl;exact HL
theorem Sl.LO {A:Option Addr}{xs:List Nat} (h:Sl w A n 1 (cn xs)) (hk:k≤n):Sl w A k 1 (cn (xs.take k)):=by
 have hl:=h.1;rw [aY] at hl;refine ⟨by rw [aY,Z1];omega,fun h0=> ?_⟩;obtain ⟨ad,he,hr⟩:=h.2 ZB;exact ⟨ad,he,by rw [yH];exact hr.take k⟩
theorem Sl.qp {A:Option Addr}{xs:List Nat} (h:Sl w A n 1 (cn xs)):Sl w A (eh xs).length 1 (cn (eh xs)):=by
 have hl:=h.1;rw [aY] at hl;have:=eM xs;have h2:=h.LO (k:=(eh xs).length) ZB;rwa [←kK] at h2
theorem F2 {xs:List Nat} (h:Dg 18446744073709551616 xs):bg (aX 18446744073709551616 xs)≤64*xs.length:=by
 apply di;rw [aax];exact gH h
theorem vO (A:Option Addr) (n c:Nat) (xs:List Nat) (w:World) (hx:Sl w A n 1 (cn xs)) (hd:Dg 18446744073709551616 xs) (hc:n≤c) (hn:n≤100000000000):
  Calls Tryz.prog 208 #[.slice A n c] w fun e w'=>e=.returned (.int .i64 (bg (aX 18446744073709551616 xs)))∧Below w.heap.size w w':=by
 have hl:=hx.1;rw [aY] at hl;have hcl:=eM xs;have hcx:=hx.qp;have hcd:=hd.cut;have hlast:=zO xs;rw [←jz];generalize hcs:eh xs=cs at*;have hh:=Hp.start w;refine ae (N:=19) (l:=[.slice A n c]) Tryz.func208 rfl rfl (by simp) ?_;refine aj ?_;refine a0 hh (gg _ _ _ xs _ hx hc ZB) rfl ?_;intro w4 hh;rw [hcs];by_cases h0:cs.length=0
 ·refine aj ?_;have:cs=[]:=abl h0;subst this;exact ⟨by rw [aX,mh];rfl,hh.below⟩
 ·obtain ⟨ad,rfl,hr⟩:=hcx.at_ ZB;obtain ⟨d,hd⟩:=ah (l:=cs) (k:=cs.length-1) ZB;have hd2:=eo hd;have hd3:=hcd.at_ hd;have e1:cs.take (cs.length-1)++[d]=cs:=by rw [←al hd,ZO ZB]
  have hnz:d≠0:=by
   intro h;subst h;apply hlast;rw [List.getLast?_eq_getElem?];exact hd
  have hb:=De (B:=18446744073709551616) (b:=64) (m:=cs.length-1) ZC (hcd.take (cs.length-1)) (by rw [Z1];omega) hnz;rw [e1] at hb;have hb2:bg d≤64:=di (by simpa using hd3);refine aL (aN (bX (sr (mL (sU ?_)))));refine Pb (aN (cF (dP (eF (sr (mL (sU ?_)))))));refine mulC (mL (mL (sU ?_)));refine qf ?_;refine dt (k:=cs.length-1) bj.out aC.size rfl rfl ZB ZB ZC ?_;refine ld ?_;refine a0 hh (qM _ _ hd3) rfl ?_;intro w17 hh;refine aj ?_;refine ⟨?_,hh.below⟩;congr 2;omega
theorem EN (N:Nat):(aO 256 N).length=(bg N+7)/8:=by
 have h256:(256:Nat)=2^8:=rfl;have h1:(aO 256 N).length≤(bg N+7)/8:=by
  apply gj ZB;refine aaF (cu N) ?_;rw [h256,←aax];exact aao ZB ZB
 have h2:=m6 (B:=256) ZB N;have h3:bg N≤8*(aO 256 N).length:=by
  apply di;rw [aax];exact h2
 omega
theorem mg {B:Nat} (i N:Nat):bM B (i+1) N=bM B i N++[N/B^i % B]:=by
 apply aaM;intro j
 rcases Nat.lt_trichotomy j i with h|h|h
 ·rw [jF _ _ _ ZB,abf (by rw [aU];exact h),jF _ _ _ h]
 ·subst h;rw [jF _ _ _ ZB,aa0 (by rw [aU];omega),aU];simp
 ·rw [Z5 (by rw [aU];omega),Z5 (by rw [ZS,aU];simp;omega)]
theorem H0 {R:List Nat}{x:Nat}:(List.replicate (k+1) 0++R).set k x=List.replicate k 0++(x::R):=by
 rw [List.replicate_succ',aam,abP _ _ (by simp)];simp
theorem fF (A:Option Addr) (n c:Nat) (xs:List Nat) (w:World) (hx:Sl w A n 1 (cn xs)) (hd:Dg 18446744073709551616 xs) (hc:n≤c) (hn:n≤10000000000):
  Calls Tryz.prog 179 #[.slice A n c] w fun e w'=>e=.returned (.string (str (sb (aX 18446744073709551616 xs))))∧Below w.heap.size w w':=by
 have hl:=hx.1;rw [aY] at hl;have hcl:=eM xs;have hcx:=hx.qp;have hcd:=hd.cut;have hbl:=F2 hcd;have hcan:=jf ZB hd;have hlen:=EN (aX 18446744073709551616 xs);rw [jz] at hbl;have hh:=Hp.start w;refine ae (N:=37) (l:=[.slice A n c]) Tryz.func179 rfl rfl (by simp) ?_;refine aj ?_;refine a0 hh (gg _ _ _ xs _ hx hc ZB) rfl ?_;intro w7 hh;rw [hcan] at hcl hcx hcd hbl;rw [hcan];refine aj ?_;refine a0 hh (vO _ _ _ (aO 18446744073709551616 (aX 18446744073709551616 xs)) _ (hcx.ext hh.below) hcd ZB ZB) rfl ?_;intro w9 hh;rw [eO ZB];generalize aX 18446744073709551616 xs=M at*;refine aj ?_;refine fT (n:=(bg M+7)/8) hh rfl rfl ZB ZB bj.out aC.out rfl ZB ZB ZC ?_;intro b13 w13 hh;refine aj ?_;rw [rT] at hh;refine aD [5,15,16,17,18,19,20,21,22,23,24,25,26,27,28,29,30,31,32,33,34] 15
  (fun v w'=>∃i:Nat,i≤(bg M+7)/8∧v=.int .i64 i∧Hp w [.row (some ⟨b13,0,none⟩) ((bg M+7)/8) ((bg M+7)/8) 5 1 (iK (List.replicate ((bg M+7)/8-i) 0++(bM 256 i M).reverse))] w')
  (fun v _=>(bg M+7)/8-(intOf v).toNat) ?_ ?_
 ·exact ⟨0,ZK _,rfl,by simpa [bM] using hh⟩
 ·clear hh;rintro ρ' v w' ⟨i,hi,rfl,hh⟩;by_cases hlt:i<(bg M+7)/8
  ·obtain ⟨ad,rfl,hr⟩:=hcx.at_ ZB;have hg:=xv (B:=18446744073709551616) (n:=M) (i:=i/8) ZB ZB;have hg2:=eo hg;have e1:((i:Int) % 8*8).toNat=i % 8*8:=ZB;refine sr ?_;refine nC (aN (bX (cT (dP (eF (bX (k9 (sr (mI (aI (aN (bZ (mL (mI ?_))))))))))))));refine qf (mI ?_);refine qf (mL (mI ?_));refine EG rfl rfl ZB ZB ZB ZC ?_;refine dt (k:=i/8) bj.out aC.size rfl rfl ZB ZB ZC ?_;refine ld ?_;refine aj ?_;refine vd rfl rfl ZB ZC ?_;refine Rr bj.out bj.out rfl ZC ?_;refine dN (k:=(bg M+7)/8-1-i) bj.out aC.size rfl rfl ZB ZB ZC ?_;refine bV hh (i:=0) (vs:=[_]) rfl rfl (cz rfl) rfl aC.out rfl (by rw [da,ZS,Z6,aaZ,aU];omega) rfl ?_;intro ws hh;simp only [ZP] at hh;obtain ⟨k,hk⟩:∃k,(bg M+7)/8-i=k+1:=⟨(bg M+7)/8-i-1,ZB⟩;rw [e1,Jh,Z8,cw (by rw [da,ZS,Z6,aaZ,aU];omega),ri,hk,show (bg M+7)/8-1-i=k by omega,H0,←List.reverse_concat,←mg] at hh;refine aj ?_
   refine ⟨⟨i+1,ZB,rfl,by rw [show (bg M+7)/8-(i+1)=k by omega];exact hh⟩,by show (bg M+7)/8-(i+1)<(bg M+7)/8-i;omega, ?_⟩;exact dh
  ·obtain rfl:i=(bg M+7)/8:=ZB;have hfin:iK (List.replicate ((bg M+7)/8-(bg M+7)/8) 0++(bM 256 ((bg M+7)/8) M).reverse)=jQ (sb M):=by
    rw [aaz,ac1,ZN,←hlen];exact V8
   rw [hfin] at hh;exact SF
theorem lR (A:Option Addr) (n c m:Nat) (xs:List Nat) (w:World) (hx:Sl w A n 1 (cn xs)) (hn:n≤10000000000) (hm:m≤10000000000):
  Calls Tryz.prog 211 #[.slice A n c,.int .i64 m] w fun e w'=>∃b,e=.returned (.slice (some ⟨b,0,none⟩) (max m n) (max m n))∧w'.ownsRow w.heap.size 160 1 (.slice (some ⟨b,0,none⟩) (max m n) (max m n)) (max m n) (cn (xs++List.replicate (max m n-n) 0))∧Below w.heap.size w w':=by
 have hl:=hx.1;rw [aY] at hl;have hh:=Hp.start w;refine ae (N:=15) (l:=[.slice A n c,.int .i64 m]) Tryz.func211 rfl rfl (by simp) ?_;refine aj ?_;refine fT (n:=max m n) hh rfl rfl ZB ZB bj.out aC.out rfl ZB ZB ZC ?_;intro b10 w10 hh;refine aj ?_;rw [lh] at hh;refine G8 hh (i:=0) (o:=0) rfl rfl rfl (hx.ext hh.below) bj.out aC.out (by rw [aY,aaZ];omega) (cL _) ZC ?_;intro w13 hh;skip;have e1:bO (cn (List.replicate (max m n) 0)) 0 ((cn xs).take (min n (max m n)*1))=cn (xs++List.replicate (max m n-n) 0):=by
  rw [ZO (by rw [aY];omega),bO,aa7,ZN,aY,←zR,←CG,List.drop_replicate];congr 3;omega
 simp only [ZP,e1] at hh;refine aj ?_;exact ⟨_,rfl,hh.at_ (i:=0) rfl,hh.below⟩
theorem qz (A B:Option Addr) (n c m c':Nat) (xs ys:List Nat) (w:World) (hx:Sl w A n 1 (cn xs)) (hy:Sl w B m 1 (cn ys)) (hdx:Dg 18446744073709551616 xs) (hdy:Dg 18446744073709551616 ys) (hc:n≤c) (hc':m≤c') (hn:n≤100000000000) (hm:m≤100000000000):
  Calls Tryz.prog 209 #[.slice A n c,.slice B m c'] w fun e w'=>e=.returned (.int .i64 (jw (aX 18446744073709551616 xs) (aX 18446744073709551616 ys)))∧Below w.heap.size w w':=by
 have hlx:=hx.1;have hly:=hy.1;rw [aY] at hlx hly;have hcx:=hx.qp;have hcy:=hy.qp;have hxl:=eM xs;have hyl:=eM ys;have hx2:=Can.cut hdx;have hy2:=Can.cut hdy;have hh:=Hp.start w;rw [←jz xs,←jz ys];refine ae (N:=47) (l:=[.slice A n c,.slice B m c']) Tryz.func209 rfl rfl (by simp) ?_;refine aj ?_;refine a0 hh (gg _ _ _ xs _ hx hc ZB) rfl ?_;intro w7 hh;refine mL ?_;refine a0 hh (gg _ _ _ ys _ (hy.ext hh.below) hc' ZB) rfl ?_;intro w9 hh;generalize eh xs=us at*;generalize eh ys=vs at*;by_cases hlen:us.length=vs.length
 ·refine aj ?_;refine aD [4,5,23,24,25,26,27,28,29,30,31,32,33,34,35,36,37,38,39,40,41,42,43,44,45,46] 5
   (fun v w'=>∃k:Nat,k≤us.length∧v=.int .i64 ((k:Int)-1)∧us.drop k=vs.drop k∧Hp w [] w')
   (fun v _=>(intOf v+1).toNat) ?_ ?_
  ·exact ⟨us.length,ZM _,rfl,by rw [List.drop_length,adl ZB],hh⟩
  ·clear hh;rintro ρ' v w' ⟨k,hk,rfl,hd,hh⟩;by_cases h0:k=0
   ·subst h0;refine aj ?_;rw [ab6,ab6] at hd;rw [hd];exact ⟨by rw [IA rfl],hh.below⟩
   ·obtain ⟨j,rfl⟩:∃j,k=j+1:=⟨k-1,ZB⟩;obtain ⟨x,hxj⟩:=ah (l:=us) (k:=j) ZB;obtain ⟨y,hyj⟩:=ah (l:=vs) (k:=j) ZB;obtain ⟨ad,rfl,hr⟩:=hcx.at_ ZB;obtain ⟨ad2,rfl,hs⟩:=hcy.at_ ZB;have hx3:=eo hxj;have hy3:=eo hyj;by_cases hlt:x<y
    ·have hf:=zd hx2.1 hxj hyj hd hlt;refine aj ?_;refine M9 ?_;refine dR ?_;refine cj ?_;refine jK (j) ?_;refine D3 ?_;refine dR ?_;refine cj ?_;refine jK (j) ?_;refine D5 ?_;refine au ?_;intro f W hJ hV;have hb_9:=hJ.bl;obtain ⟨v35,v34,v33,v32,v31,v30,v29,v28,_⟩:=hV;replace hh:=hJ.hp;refine Ow ?_;dsimp only [bf];clear hJ;refine aj ?_;exact ⟨by rw [lu hf],hh.below⟩
    ·by_cases hgt:y<x
     ·have hf:=zd hy2.1 hyj hxj hd.symm hgt;refine aj ?_;refine M9 ?_;refine dR ?_;refine cj ?_;refine jK (j) ?_;refine D3 ?_;refine dR ?_;refine cj ?_;refine jK (j) ?_;refine D5 ?_;refine au ?_;intro f W hJ hV;have hb_9:=hJ.bl;obtain ⟨v35,v34,v33,v32,v31,v30,v29,v28,_⟩:=hV;replace hh:=hJ.hp;refine Ow ?_;dsimp only [bf];clear hJ;refine aj ?_;refine Ta ?_;refine dR ?_;refine cj ?_;refine jK (j) ?_;refine D3 ?_;refine dR ?_;refine cj ?_;refine jK (j) ?_;refine D5 ?_;refine au ?_;intro f W hJ hV;have hb_11:=hJ.bl;obtain ⟨v45,v44,v43,v42,v41,v40,v39,v38,_⟩:=hV;replace hh:=hJ.hp;refine Tx ?_;dsimp only [bf];clear hJ;refine aj ?_;exact ⟨by rw [rY hf],hh.below⟩
     ·refine aj ?_;refine M9 ?_;refine dR ?_;refine cj ?_;refine jK (j) ?_;refine D3 ?_;refine dR ?_;refine cj ?_;refine jK (j) ?_;refine D5 ?_;refine au ?_;intro f W hJ hV;have hb_9:=hJ.bl;obtain ⟨v35,v34,v33,v32,v31,v30,v29,v28,_⟩:=hV;replace hh:=hJ.hp;refine Ow ?_;dsimp only [bf];clear hJ;refine aj ?_;refine Ta ?_;refine dR ?_;refine cj ?_;refine jK (j) ?_;refine D3 ?_;refine dR ?_;refine cj ?_;refine jK (j) ?_;refine D5 ?_;refine au ?_;intro f W hJ hV;have hb_11:=hJ.bl;obtain ⟨v45,v44,v43,v42,v41,v40,v39,v38,_⟩:=hV;replace hh:=hJ.hp;refine Tx ?_;dsimp only [bf];clear hJ;refine aj ?_;refine ⟨⟨j,ZB,by show Value.int _ _=Value.int _ _;congr 1;omega,AQ hxj hyj hd ZB,hh⟩,by show ((((j+1:Nat):Int)-1-1)+1).toNat<((((j+1:Nat):Int)-1)+1).toNat;omega, ?_⟩;exact dh
 ·by_cases hlt:us.length<vs.length
  ·have hf:aX 18446744073709551616 us<aX 18446744073709551616 vs:=by
    refine acM fun h=> ?_;have:=hy2.xL hx2 ZB h;omega
   refine aj ?_;exact ⟨by rw [lu hf],hh.below⟩
  ·have hf:aX 18446744073709551616 vs<aX 18446744073709551616 us:=by
    refine acM fun h=> ?_;have:=hx2.xL hy2 ZB h;omega
   refine aj ?_;exact ⟨by rw [rY hf],hh.below⟩
theorem Xn {y:Nat} (hy:y<18446744073709551616) (hm:m<18446744073709551616):y*m≤340282366920938463426481119284349108225:=abz (by omega:y≤18446744073709551615) (by omega:m≤18446744073709551615)
theorem yq {x y c P:Nat} (hx:x<18446744073709551616) (hc:c<18446744073709551616) (hP:P≤340282366920938463426481119284349108225) (he:P=y*m):
  (x+(P % 18446744073709551616+c+0) % 18446744073709551616+0) % 18446744073709551616=(x+y*m+c) % 18446744073709551616∧((P/18446744073709551616+(P % 18446744073709551616+c+0)/18446744073709551616) % 18446744073709551616+(x+(P % 18446744073709551616+c+0) % 18446744073709551616+0)/18446744073709551616) % 18446744073709551616=(x+y*m+c)/18446744073709551616∧(x+y*m+c)/18446744073709551616<18446744073709551616:=by
 rw [←he];omega
theorem nQ {H:List HE}{M:Nat}{Y:Option Addr} (pre xs post ys:List Nat) (w:World) (hh:Hp w0 (.row (some ⟨b,0,none⟩) M C 160 1 (cn (pre++xs++post))::H) w)
  (hy:∀w1 cs,Hp w0 (.row (some ⟨b,0,none⟩) M C 160 1 cs::H) w1→Sl w1 Y ny 1 (cn ys)) (hxd:Dg 18446744073709551616 xs) (hyd:Dg 18446744073709551616 ys) (hm:m<18446744073709551616) (hM:xs.length≤100000000000) (hny:ny≤100000000000):
  Calls Tryz.prog 215 #[.slice (some ⟨b,pre.length,none⟩) xs.length c',.slice Y ny cy,.int .u64 (m:Int)] w fun e w'=>e=.returned (.tuple #[])∧Hp w0 (.row (some ⟨b,0,none⟩) M C 160 1 (cn (pre++ig 18446744073709551616 xs ys m 0++post))::H) w':=by
 have hly:=(hy _ _ hh).1;rw [aY] at hly;refine ae (N:=56) (l:=[.slice (some ⟨b,pre.length,none⟩) xs.length c',.slice Y ny cy,.int .u64 (m:Int)]) Tryz.func215 rfl rfl (by simp) ?_;refine aj ?_;refine a7 [6,7,8,9,10,11,14,15,16,17,18,19,20,21,22,23,24,25,26,27,28,29,30,31,32,33,34,35,36,37,38,39,40,41,42,43,44,45,46,47,48,49,50,51,52,53,54,55] 6 14
  (fun c i w'=>∃(done rest:List Nat) (cr:Nat),done.length+rest.length=xs.length∧i=.int .i64 done.length∧c=.int .u64 (cr:Int)∧cr<18446744073709551616∧Dg 18446744073709551616 rest∧done++ig 18446744073709551616 rest (ys.drop done.length) m cr=ig 18446744073709551616 xs ys m 0∧Hp w0 (.row (some ⟨b,0,none⟩) M C 160 1 (cn (pre++(done++rest)++post))::H) w')
  (fun _ i _=>xs.length-(intOf i).toNat) ?_ ?_
 ·exact ⟨[],xs,0,by simp,rfl,rfl,ZB,hxd,rfl,hh⟩
 ·clear hh;rintro ρ' c i w' ⟨done,rest,cr,hlen,rfl,rfl,hcr,hrd,heq,hh⟩;by_cases hlt:done.length<xs.length
  ·obtain ⟨x,r,rfl⟩:∃x r,rest=x::r:=by
    exact K8
   have hx:=hrd.head;have hg:=eo (AJ (pre:=pre) (done:=done) (r:=r) (post:=post) (x:=x));have hlr:done.length+(r.length+1)=xs.length:=by simpa using hlen
   simp only [ig,tail_drop,xh] at heq;by_cases hiy:done.length<ny
   ·obtain ⟨y,hyk⟩:=ah (l:=ys) (k:=done.length) ZB;obtain ⟨ad,rfl,_⟩:=(hy _ _ hh).at_ ZB;rw [hyk,aa1] at heq;have hyw:=hyd.at_ hyk;refine sr ?_;refine Eo ?_;refine nC (aN (cT (bZ (mL (mI ?_)))));refine LP ?_;refine bF aC.out rfl ((hy _ _ hh).AN hyk) ZC ?_;refine aj ?_;obtain ⟨p1,p2,p3⟩:=yq (y:=y) (m:=m) hx hcr (Xn hyw hm) rfl;refine a0 hh (tW y m _ hyw hm) rfl ?_;intro w28 hh;refine aj ?_;refine lO (kI (y*m % 18446744073709551616) cr 0 ZB _) (av (cz rfl) (av (cz rfl) (av rfl bh))) ZC ?_;refine aj ?_;refine fO rfl rfl ZC ?_;refine aI (aN (sr (mL (mI (mL (mI ?_))))));refine mQ bj.out aC.size rfl rfl rfl ZB ZC ?_;refine lj ?_;refine mI ?_;refine lO (kI x ((y*m % 18446744073709551616+cr+0) % 18446744073709551616) 0 ZB _) (av (cz rfl) (av (cz rfl) (av rfl bh))) ZC ?_;refine mT ?_;refine uI ?_;refine uI ?_;refine pW ?_;refine y9 ?_;intro ws hh;simp only [ZP] at hh;rw [p1,Z8,cw (by rw [aY];simp only [ZS,aae];omega),gL,pj] at hh;refine aj ?_;refine fO rfl rfl ZC ?_;refine aj ?_;rw [p2]
    refine ⟨⟨done++[(x+y*m+cr) % 18446744073709551616],r,_,by simp;omega,by rw [ZS];rfl,rfl,p3,hrd.tail, ?_,hh⟩,by show xs.length-(done.length+1)<xs.length-done.length;omega, ?_⟩
    ·rw [←heq,aam,ZS];rfl
    exact ZE
   ·rw [Z5 ZB,Option.getD_none] at heq;have h0w:(0:Nat)<18446744073709551616:=ZB;refine aj ?_;obtain ⟨p1,p2,p3⟩:=yq (y:=0) (m:=m) hx hcr (Xn h0w hm) rfl;refine a0 hh (tW 0 m _ h0w hm) rfl ?_;intro w28 hh;refine aj ?_;refine lO (kI (0*m % 18446744073709551616) cr 0 ZB _) (av (cz rfl) (av (cz rfl) (av rfl bh))) ZC ?_;refine aj ?_;refine fO rfl rfl ZC ?_;refine aI (aN (sr (mL (mI (mL (mI ?_))))));refine mQ bj.out aC.size rfl rfl rfl ZB ZC ?_;refine lj ?_;refine mI ?_;refine lO (kI x ((0*m % 18446744073709551616+cr+0) % 18446744073709551616) 0 ZB _) (av (cz rfl) (av (cz rfl) (av rfl bh))) ZC ?_;refine mT ?_;refine uI ?_;refine uI ?_;refine pW ?_;refine y9 ?_;intro ws hh;simp only [ZP] at hh;rw [p1,Z8,cw (by rw [aY];simp only [ZS,aae];omega),gL,pj] at hh;refine aj ?_;refine fO rfl rfl ZC ?_;refine aj ?_;rw [p2];refine ⟨⟨done++[(x+0*m+cr) % 18446744073709551616],r,_,by simp;omega,by rw [ZS];rfl,rfl,p3,hrd.tail, ?_,hh⟩,by show xs.length-(done.length+1)<xs.length-done.length;omega, ?_⟩
    ·rw [←heq,aam,ZS];rfl
    exact ZE
  ·exact VM
theorem n8 {H:List HE}{M:Nat}{Y:Option Addr} (pre xs post ys:List Nat) (w:World) (hh:Hp w0 (.row (some ⟨b,0,none⟩) M C 160 1 (cn (pre++xs++post))::H) w)
  (hy:∀w1 cs,Hp w0 (.row (some ⟨b,0,none⟩) M C 160 1 cs::H) w1→Sl w1 Y ny 1 (cn ys)) (hxd:Dg 18446744073709551616 xs) (hyd:Dg 18446744073709551616 ys) (hM:xs.length≤100000000000) (hny:ny≤100000000000) (hsub:Dn 18446744073709551616 xs ys 0=0):
  Calls Tryz.prog 231 #[.slice (some ⟨b,pre.length,none⟩) xs.length c',.slice Y ny cy] w fun e w'=>e=.returned (.bool true)∧Hp w0 (.row (some ⟨b,0,none⟩) M C 160 1 (cn (pre++qw 18446744073709551616 xs ys 0++post))::H) w':=by
 have hly:=(hy _ _ hh).1;rw [aY] at hly;refine ae (N:=37) (l:=[.slice (some ⟨b,pre.length,none⟩) xs.length c',.slice Y ny cy]) Tryz.func231 rfl rfl (by simp) ?_;refine aj ?_;refine a7 [5,6,7,10,11,12,13,14,15,16,17,18,19,20,21,22,23,24,25,26,27,28,29,30,31,32,33,34] 5 10
  (fun c i w'=>∃(done rest:List Nat) (cr:Nat),done.length+rest.length=xs.length∧i=.int .i64 done.length∧c=.int .u64 (cr:Int)∧cr≤1∧Dg 18446744073709551616 rest∧done++qw 18446744073709551616 rest (ys.drop done.length) cr=qw 18446744073709551616 xs ys 0∧Dn 18446744073709551616 rest (ys.drop done.length) cr=0∧Hp w0 (.row (some ⟨b,0,none⟩) M C 160 1 (cn (pre++(done++rest)++post))::H) w')
  (fun _ i _=>xs.length-(intOf i).toNat) ?_ ?_
 ·exact ⟨[],xs,0,by simp,rfl,rfl,ZB,hxd,rfl,hsub,hh⟩
 ·clear hh;rintro ρ' c i w' ⟨done,rest,cr,hlen,rfl,rfl,hcr,hrd,heq,hsb,hh⟩;by_cases hlt:done.length<xs.length
  ·obtain ⟨x,r,rfl⟩:∃x r,rest=x::r:=by
    exact K8
   have hx:=hrd.head;have hg:=eo (AJ (pre:=pre) (done:=done) (r:=r) (post:=post) (x:=x));have hlr:done.length+(r.length+1)=xs.length:=by simpa using hlen
   simp only [qw,Dn,tail_drop,xh] at heq hsb;by_cases hiy:done.length<ny
   ·obtain ⟨y,hyk⟩:=ah (l:=ys) (k:=done.length) ZB;obtain ⟨ad,rfl,_⟩:=(hy _ _ hh).at_ ZB;rw [hyk,aa1] at heq hsb;have hyw:=hyd.at_ hyk;refine sr ?_;refine Eo ?_;refine nC (aN (cT (bZ (mL (mI ?_)))));refine LP ?_;refine bF aC.out rfl ((hy _ _ hh).AN hyk) ZC ?_;refine aI (aN (bZ (mL (mI (mL (mI ?_))))));refine pW ?_;refine lj ?_;refine aj ?_;refine lO (yY x y cr hcr _) (av (cz rfl) (av (cz rfl) (av (cz rfl) bh))) ZC ?_;refine mT ?_;refine uI ?_;refine uI ?_;refine pW ?_;refine y9 ?_;intro ws hh;simp only [ZP] at hh;rw [Z8,cw (by rw [aY];simp only [ZS,aae];omega),gL,pj] at hh;refine aj ?_;refine ⟨⟨done++[(x+18446744073709551616-y-cr) % 18446744073709551616],r,_,by simp;omega,by rw [ZS];rfl,rfl,by split<;>omega,hrd.tail, ?_, ?_,hh⟩,by show xs.length-(done.length+1)<xs.length-done.length;omega, ?_⟩
    ·rw [←heq,aam,ZS];rfl
    ·rw [ZS];exact hsb
    exact ZE
   ·rw [Z5 ZB,Option.getD_none] at heq hsb;refine sr ?_;refine Eo ?_;refine nC (aN (cF (dP (eF (bZ (mL (mI (mL (mI ?_)))))))));refine pW ?_;refine lj ?_;refine aj ?_;refine lO (yY x 0 cr hcr _) (av (cz rfl) (av (cz rfl) (av (cz rfl) bh))) ZC ?_;refine mT ?_;refine uI ?_;refine uI ?_;refine pW ?_;refine y9 ?_;intro ws hh;simp only [ZP] at hh;rw [Z8,cw (by rw [aY];simp only [ZS,aae];omega),gL,pj] at hh;refine aj ?_;refine ⟨⟨done++[(x+18446744073709551616-0-cr) % 18446744073709551616],r,_,by simp;omega,by rw [ZS];rfl,rfl,by split<;>omega,hrd.tail, ?_, ?_,hh⟩,by show xs.length-(done.length+1)<xs.length-done.length;omega, ?_⟩
    ·rw [←heq,aam,ZS];rfl
    ·rw [ZS];exact hsb
    exact ZE
  ·have hr0:rest=[]:=abl ZB;subst hr0;obtain rfl:cr=0:=hsb;refine aj ?_;rw [aal,qw,aal] at*;rw [←heq];exact ⟨rfl,hh⟩
theorem FN {H:List HE}{M:Nat}{Y:Option Addr} (pre xs post ys:List Nat) (w:World) (hh:Hp w0 (.row (some ⟨b,0,none⟩) M C 160 1 (cn (pre++xs++post))::H) w)
  (hy:∀w1 cs,Hp w0 (.row (some ⟨b,0,none⟩) M C 160 1 cs::H) w1→Sl w1 Y ny 1 (cn ys)) (hxd:Dg 18446744073709551616 xs) (hyd:Dg 18446744073709551616 ys) (hM:xs.length≤100000000000) (hny:ny≤100000000000):
  Calls Tryz.prog 229 #[.slice (some ⟨b,pre.length,none⟩) xs.length c',.slice Y ny cy] w fun e w'=>e=.returned (.tuple #[])∧Hp w0 (.row (some ⟨b,0,none⟩) M C 160 1 (cn (pre++ig 18446744073709551616 xs ys 1 0++post))::H) w':=by
 have hly:=(hy _ _ hh).1;rw [aY] at hly;refine ae (N:=34) (l:=[.slice (some ⟨b,pre.length,none⟩) xs.length c',.slice Y ny cy]) Tryz.func229 rfl rfl (by simp) ?_;refine aj ?_;refine a7 [4,5,6,9,10,11,12,13,14,15,16,17,18,19,20,21,22,23,24,25,26,27,28,29,30,31,32,33] 4 9
  (fun c i w'=>∃(done rest:List Nat) (cr:Nat),done.length+rest.length=xs.length∧i=.int .i64 done.length∧c=.int .u64 (cr:Int)∧cr≤1∧Dg 18446744073709551616 rest∧done++ig 18446744073709551616 rest (ys.drop done.length) 1 cr=ig 18446744073709551616 xs ys 1 0∧Hp w0 (.row (some ⟨b,0,none⟩) M C 160 1 (cn (pre++(done++rest)++post))::H) w')
  (fun _ i _=>xs.length-(intOf i).toNat) ?_ ?_
 ·exact ⟨[],xs,0,by simp,rfl,rfl,ZB,hxd,rfl,hh⟩
 ·clear hh;rintro ρ' c i w' ⟨done,rest,cr,hlen,rfl,rfl,hcr,hrd,heq,hh⟩;by_cases hlt:done.length<xs.length
  ·obtain ⟨x,r,rfl⟩:∃x r,rest=x::r:=by
    exact K8
   have hx:=hrd.head;have hg:=eo (AJ (pre:=pre) (done:=done) (r:=r) (post:=post) (x:=x));have hlr:done.length+(r.length+1)=xs.length:=by simpa using hlen
   simp only [ig,tail_drop,xh,Z8] at heq;by_cases hiy:done.length<ny
   ·obtain ⟨y,hyk⟩:=ah (l:=ys) (k:=done.length) ZB;obtain ⟨ad,rfl,_⟩:=(hy _ _ hh).at_ ZB;rw [hyk,aa1] at heq;have hyw:=hyd.at_ hyk;refine sr ?_;refine Eo ?_;refine nC (aN (cT (bZ (mL (mI ?_)))));refine LP ?_;refine bF aC.out rfl ((hy _ _ hh).AN hyk) ZC ?_;refine aI (aN (bZ (mL (mI (mL (mI ?_))))));refine pW ?_;refine lj ?_;refine aj ?_;refine lO (kI x y cr hcr _) (av (cz rfl) (av (cz rfl) (av (cz rfl) bh))) ZC ?_;refine mT ?_;refine uI ?_;refine uI ?_;refine pW ?_;refine y9 ?_;intro ws hh;simp only [ZP] at hh;rw [Z8,cw (by rw [aY];simp only [ZS,aae];omega),gL,pj] at hh;refine aj ?_;refine ⟨⟨done++[(x+y+cr) % 18446744073709551616],r,_,by simp;omega,by rw [ZS];rfl,rfl,ZB,hrd.tail, ?_,hh⟩,by show xs.length-(done.length+1)<xs.length-done.length;omega, ?_⟩
    ·rw [←heq,aam,ZS];rfl
    exact ZE
   ·rw [Z5 ZB,Option.getD_none] at heq;refine sr ?_;refine Eo ?_;refine nC (aN (cF (dP (eF (bZ (mL (mI (mL (mI ?_)))))))));refine pW ?_;refine lj ?_;refine aj ?_;refine lO (kI x 0 cr hcr _) (av (cz rfl) (av (cz rfl) (av (cz rfl) bh))) ZC ?_;refine mT ?_;refine uI ?_;refine uI ?_;refine pW ?_;refine y9 ?_;intro ws hh;simp only [ZP] at hh;rw [Z8,cw (by rw [aY];simp only [ZS,aae];omega),gL,pj] at hh;refine aj ?_;refine ⟨⟨done++[(x+0+cr) % 18446744073709551616],r,_,by simp;omega,by rw [ZS];rfl,rfl,ZB,hrd.tail, ?_,hh⟩,by show xs.length-(done.length+1)<xs.length-done.length;omega, ?_⟩
    ·rw [←heq,aam,ZS];rfl
    exact ZE
  ·exact VM
theorem P5 {i d:Nat} (D:Nat) (hD:D<18446744073709551616^i) (hd:d<18446744073709551616) (hk:i+n/64+1<k):
  (D*2^n)/18446744073709551616^(i+n/64) % 18446744073709551616<2^(n % 64)∧d*2^(n % 64) % 18446744073709551616=(d % 2^(64-n % 64))*2^(n % 64)∧
  (bM 18446744073709551616 k (D*2^n)).set (i+n/64) ((D*2^n)/18446744073709551616^(i+n/64) % 18446744073709551616+d*2^(n % 64) % 18446744073709551616)=bM 18446744073709551616 k (D*2^n+18446744073709551616^(i+n/64)*(d*2^(n % 64) % 18446744073709551616))∧
  (D*2^n+18446744073709551616^(i+n/64)*(d*2^(n % 64) % 18446744073709551616))/18446744073709551616^(i+n/64+1) % 18446744073709551616=0∧
  (bM 18446744073709551616 k (D*2^n+18446744073709551616^(i+n/64)*(d*2^(n % 64) % 18446744073709551616))).set (i+n/64+1) (d/2^(64-n % 64))=bM 18446744073709551616 k ((D+18446744073709551616^i*d)*2^n)∧
  (n % 64=0→D*2^n+18446744073709551616^(i+n/64)*(d*2^(n % 64) % 18446744073709551616)=(D+18446744073709551616^i*d)*2^n):=by
 have hW:(18446744073709551616:Nat)=2^64:=by decide
 have hs:n % 64<64:=aab _ ZB;have hn:2^n=18446744073709551616^(n/64)*2^(n % 64):=by
  rw [hW,←aax,←aag];congr 1;omega
 generalize hq:n/64=q at*;generalize hse:n % 64=s at*;have e:(18446744073709551616:Nat)=2^(64-s)*2^s:=by rw [←aag,hW];congr 1;omega
 have hpos:0<2^s:=aak ZB;have hwp:∀j:Nat,0<18446744073709551616^j:=fun j=>aak ZC;have hP:D*2^n<18446744073709551616^(i+q)*2^s:=by
  rw [hn,←aaE,aag];exact ab8 (ab8 hD (hwp q)) hpos
 have h1:(D*2^n)/18446744073709551616^(i+q)<2^s:=by rw [aaW (hwp _),Z2 (2^s)];exact hP
 have hsW:2^s≤18446744073709551616:=by rw [hW];exact aao ZB ZB
 have h2:d*2^s % 18446744073709551616=(d % 2^(64-s))*2^s:=by rw [e,Nat.mul_mod_mul_right]
 have h3:(d % 2^(64-s)+1)*2^s≤18446744073709551616:=by
  rw [e];exact aaV _ (aab _ (aak ZB))
 rw [aaS] at h3;have h4:(D*2^n)/18446744073709551616^(i+q) % 18446744073709551616=(D*2^n)/18446744073709551616^(i+q):=aas ZB;have hlt1:D*2^n+18446744073709551616^(i+q)*(d*2^s % 18446744073709551616)<18446744073709551616^(i+q+1):=by
  rw [h2,aar];have:18446744073709551616^(i+q)*((d % 2^(64-s))*2^s+2^s)≤18446744073709551616^(i+q)*18446744073709551616:=aah _ h3;rw [aaw] at this;omega
 have hup:=UN (d:=d) (s:=s) hd ZB;have hfin:D*2^n+18446744073709551616^(i+q)*(d*2^s % 18446744073709551616)+18446744073709551616^(i+q+1)*(d/2^(64-s))=(D+18446744073709551616^i*d)*2^n:=by
  have h5:18446744073709551616^(i+q)*(d*2^s % 18446744073709551616)+18446744073709551616^(i+q+1)*(d/2^(64-s))=18446744073709551616^(i+q)*(d*2^s):=by
   conv=>rhs;rw [←hup.1,aaw]
   rw [aar,aaE,Z2 18446744073709551616]
  rw [acS,h5,ab1,hn,aag];congr 1;simp only [aaE,acf,Z2]
 have hbig:∀j,j<k→18446744073709551616^j*18446744073709551616≤18446744073709551616^k:=fun j hj=>by rw [←aar];exact aao ZC hj
 have hb1:=hbig (i+q) ZB;rw [←aar] at hb1;refine ⟨by rw [h4];exact h1,h2, ?_, ?_, ?_, ?_⟩
 ·exact q8 ZC ZB ZB (by rw [h4,h2];omega)
 ·rw [aaN hlt1]
 ·have h6:(D*2^n+18446744073709551616^(i+q)*(d*2^s % 18446744073709551616))/18446744073709551616^(i+q+1) % 18446744073709551616=0:=by rw [aaN hlt1]
  have h7:d/2^(64-s)<18446744073709551616:=aaI (abJ _ _) hd;have h8:=q8 (B:=18446744073709551616) (k:=k) (n:=D*2^n+18446744073709551616^(i+q)*(d*2^s % 18446744073709551616)) (j:=i+q+1) (v:=d/2^(64-s)) ZC hk ?_ (by rw [h6];omega)
  ·rw [h6,Z9,hfin] at h8;exact h8
  ·have h9:18446744073709551616^(i+q+1)*(d/2^(64-s)+1)≤18446744073709551616^(i+q+1)*18446744073709551616:=aah _ h7;have h10:=hbig (i+q+1) hk;rw [abb] at h9;omega
 ·intro h0;subst h0;rw [←hfin];have:d/2^(64-0)=0:=aaN (by rw [←hW];exact hd);rw [this];simp
theorem sK (A:Option Addr) (n c m:Nat) (xs:List Nat) (w:World) (hx:Sl w A n 1 (cn xs)) (hd:Dg 18446744073709551616 xs) (hn:n≤1000000000) (hm:m≤10000000000):
  Calls Tryz.prog 206 #[.slice A n c,.int .i64 (m:Int)] w fun e w'=>∃A c,e=.returned (.slice A (aO 18446744073709551616 (aX 18446744073709551616 xs*2^m)).length c)∧w'.ownsRow w.heap.size 160 1 (.slice A (aO 18446744073709551616 (aX 18446744073709551616 xs*2^m)).length c) (aO 18446744073709551616 (aX 18446744073709551616 xs*2^m)).length (cn (aO 18446744073709551616 (aX 18446744073709551616 xs*2^m)))∧Below w.heap.size w w':=by
 have hl:=hx.1;rw [aY] at hl;have hh:=Hp.start w;have hs1:((m:Int) % 64).toNat=m % 64:=ZB;refine ae (N:=55) (l:=[.slice A n c,.int .i64 (m:Int)]) Tryz.func206 rfl rfl (by simp) ?_;refine aj ?_;refine fT (n:=n+m/64+1) hh rfl rfl ZB ZB bj.out aC.out rfl ZB ZB ZC ?_;intro b15 w15 hh;refine aj ?_;rw [lh] at hh;refine aD [6,7,8,18,19,20,21,22,23,24,25,26,27,28,29,30,31,32,33,34,35,36,37,38,39,40,41,42,43,44,45,46,47,48,49,50,51,52] 18
  (fun v w'=>∃i:Nat,i≤n∧v=.int .i64 i∧Hp w [.row (some ⟨b15,0,none⟩) (n+m/64+1) (n+m/64+1) 160 1 (cn (bM 18446744073709551616 (n+m/64+1) (aX 18446744073709551616 (xs.take i)*2^m)))] w')
  (fun v _=>n-(intOf v).toNat) ?_ ?_
 ·exact ⟨0,ZK _,rfl,by rw [aa7,aX,ab4,sI];exact hh⟩
 ·clear hh;rintro ρ' v w' ⟨i,hi,rfl,hh⟩;by_cases hlt:i<n
  ·obtain ⟨d,hdi⟩:=ah (l:=xs) (k:=i) ZB;obtain ⟨ad,rfl,hr⟩:=hx.at_ ZB;have hd2:=eo hdi;have hdw:=hd.at_ hdi;have hD:=gH (hd.take i);rw [Z1,aaT ZB] at hD;obtain ⟨s1,s2,s3,s4,s5,s6⟩:=P5 (k:=n+m/64+1) (n:=m) (aX 18446744073709551616 (xs.take i)) hD hdw ZB;have hg:=eo (jF (B:=18446744073709551616) (n+m/64+1) (aX 18446744073709551616 (xs.take i)*2^m) (i+m/64) ZB);refine aj ?_;refine ld ?_;refine aj ?_;refine aw 8 [[(5,none)],[(8,none)],[(27,some 0),(28,some 1)],[(29,some 2)],[(7,none)],[(1,none)],[(32,some 5)],[(31,some 4),(33,some 6)]] [(7,34),(6,33),(5,32),(4,31),(3,30),(2,29),(1,28),(0,27)] hh mixed ZD ?_;refine dR ?_;refine cj ?_;refine uC (i+m/64) ?_;refine aV (i:=3) (fun ρ1 w1 hj hR=>eB aC.out (show ρ1 29=Value.pointer _ from hR.1) (hj.hp.dZ (i:=0) rfl (by rw [Z8];exact hg))) ?_;refine cj ?_;refine cj ?_;refine aV (i:=6) (fun ρ1 w1 hj hR=>qi (show ρ1 32=Value.int _ _ from hR.1) rfl ZB ZB) ?_;refine aV (i:=7) (fun ρ1 w1 hj hR=>xo (show ρ1 31=Value.int _ _ from hR.1) (show ρ1 33=Value.int _ _ from hR.2.1) ZB) ?_;refine au ?_
   intro f W hJ hV;have hb_6:=hJ.bl;obtain ⟨v34,v33,v32,v31,v30,v29,v28,v27,_⟩:=hV;replace hh:=hJ.hp;refine az (aH (aa v34 (aa v33 (aa v32 (aa v31 (aa v30 (aa v29 (aa v28 (aa v27 ay))))))))) ?_;dsimp only [bf];clear hJ;refine Ch ?_;refine dN (k:=i+m/64) bj.out aC.size rfl rfl ZB ZB ZC ?_;refine K5 ?_;intro ws hh;simp only [ZP] at hh;rw [hs1,s2,EX s1,←s2,Z8,cw (by rw [aY,aU];omega),gL,s3] at hh;by_cases h0:m % 64=0
   ·refine aj ?_;rw [s6 h0,←gR hdi] at hh;exact vt
   ·have hg2:=eo (jF (B:=18446744073709551616) (n+m/64+1) (aX 18446744073709551616 (xs.take i)*2^m+18446744073709551616^(i+m/64)*(d*2^(m % 64) % 18446744073709551616)) (i+m/64+1) ZB);rw [s4] at hg2;have hs2:(64-(m:Int) % 64).toNat=64-m % 64:=ZB;have hd64:d/2^(64-(m:Int) % 64).toNat<18446744073709551616:=aaI (abJ _ _) hdw;have h0w:(0:Nat)<18446744073709551616:=ZB;refine aj ?_;refine aw 10 [[(5,none)],[(8,none)],[(41,some 1)],[(40,some 0),(42,some 2)],[(43,some 3)],[(7,none)],[(1,none)],[(46,some 6)],[(47,some 7)],[(45,some 5),(48,some 8)]] [(9,49),(8,48),(7,47),(6,46),(5,45),(4,44),(3,43),(2,42),(1,41),(0,40)] hh mixed ZD ?_;refine dR ?_;refine cj ?_;refine p8 ?_;refine uC (i+m/64+1) ?_;refine aV (i:=4) (fun ρ1 w1 hj hR=>eB aC.out (show ρ1 43=Value.pointer _ from hR.1) (hj.hp.dZ (i:=0) rfl (by rw [Z8];exact hg2))) ?_;refine cj ?_;refine cj ?_;refine aV (i:=7) (fun ρ1 w1 hj hR=>qi (show ρ1 46=Value.int _ _ from hR.1) rfl ZB ZB) ?_;refine s7 ?_
    refine aV (i:=9) (fun ρ1 w1 hj hR=>Gl (show ρ1 45=Value.int _ _ from hR.1) (show ρ1 48=Value.int _ _ from hR.2.1) ZB) ?_;refine au ?_;intro f W hJ hV;have hb_8:=hJ.bl;obtain ⟨v49,v48,v47,v46,v45,v44,v43,v42,v41,v40,_⟩:=hV;replace hh:=hJ.hp;refine az (aH (aa v49 (aa v48 (aa v47 (aa v46 (aa v45 (aa v44 (aa v43 (aa v42 (aa v41 (aa v40 ay))))))))))) ?_;dsimp only [bf];clear hJ;refine Ch ?_;refine dN (k:=i+m/64+1) bj.out aC.size rfl rfl ZB ZB ZC ?_;refine K5 ?_;intro ws hh;simp only [ZP] at hh;rw [hs2,Nat.zero_or,Z8,cw (by rw [aY,aU];omega),gL,s5,←gR hdi] at hh;refine aj ?_;exact vt
  ·refine aj ?_;rw [ZO ZB] at hh;refine a0 hh (gg _ _ _ (bM 18446744073709551616 (n+m/64+1) (aX 18446744073709551616 xs*2^m)) _ (hh.ar (i:=0) rfl) (ZM _) ZB) rfl ?_;intro w54 hh;refine aj ?_;have hbd:aX 18446744073709551616 xs*2^m<18446744073709551616^(n+m/64+1):=by
    have h1:=gH hd;rw [show xs.length=n by omega] at h1;have h2:2^m≤18446744073709551616^(m/64+1):=by
     exact TE
    rw [show n+m/64+1=n+(m/64+1) by omega,aag];exact aaF (ab8 h1 (aak ZB)) (aah _ h2)
   have hd:eh (bM 18446744073709551616 (n+m/64+1) (aX 18446744073709551616 xs*2^m))=aO 18446744073709551616 (aX 18446744073709551616 xs*2^m):=by
    exact KK
   have h1:=(Hp.Im (xs:=bM 18446744073709551616 (n+m/64+1) (aX 18446744073709551616 xs*2^m)) hh (aU _ _)).at_ (i:=0) rfl;exact HL
theorem Sl.MR {xs:List Nat} (h:Sl w (some ad) n 1 (cn xs)) (hk:k<n):Sl w (some (ad.add (k*1))) (n-k) 1 (cn (xs.drop k)):=by
 have hl:=h.1;rw [aY] at hl;refine ⟨by rw [aY,aaU];omega,fun h0=>⟨_,rfl, ?_⟩⟩;obtain ⟨ad',he,hr⟩:=h.2 ZB;injection he with he
 subst he;rw [Z8,zR];exact hr.drop k
theorem JT {s:Nat} (hs:s<64) (h0:0<s):
  (N/18446744073709551616^(j+1) % 18446744073709551616)*2^(64-s) % 18446744073709551616=N/18446744073709551616^(j+1) % 2^s*2^(64-s)∧
  (N/18446744073709551616^j % 18446744073709551616/2^s|||(N/18446744073709551616^(j+1) % 18446744073709551616)*2^(64-s) % 18446744073709551616)=N/2^(64*j+s) % 18446744073709551616:=by
 have hW:(18446744073709551616:Nat)=2^64:=by decide
 have e:(18446744073709551616:Nat)=2^s*2^(64-s):=by rw [←aag,hW];congr 1;omega
 have h1:(N/18446744073709551616^(j+1) % 18446744073709551616)*2^(64-s) % 18446744073709551616=N/18446744073709551616^(j+1) % 2^s*2^(64-s):=by
  generalize N/18446744073709551616^(j+1)=m;rw [e,Nat.mul_mod_mul_right,Nat.mod_mul_right_mod]
 obtain ⟨h2,h3⟩:=zN N j s hs h0;exact ⟨h1,by rw [h1,EX h2,h3]⟩
theorem tK (A:Option Addr) (n c m:Nat) (xs:List Nat) (w:World) (hx:Sl w A n 1 (cn xs)) (hd:Dg 18446744073709551616 xs) (hc:n≤c) (hn:n≤1000000000) (hm:m≤1000000000000):
  Calls Tryz.prog 207 #[.slice A n c,.int .i64 (m:Int)] w fun e w'=>∃A c,e=.returned (.slice A (aO 18446744073709551616 (aX 18446744073709551616 xs/2^m)).length c)∧w'.ownsRow w.heap.size 160 1 (.slice A (aO 18446744073709551616 (aX 18446744073709551616 xs/2^m)).length c) (aO 18446744073709551616 (aX 18446744073709551616 xs/2^m)).length (cn (aO 18446744073709551616 (aX 18446744073709551616 xs/2^m)))∧Below w.heap.size w w':=by
 have hl:=hx.1;rw [aY] at hl;have hh:=Hp.start w;have hs1:((m:Int) % 64).toNat=m % 64:=ZB;have hW:(18446744073709551616:Nat)=2^64:=by decide
 have hmm:2^m=18446744073709551616^(m/64)*2^(m % 64):=by
  rw [hW,←aax,←aag];congr 1;omega
 have hlt:=gH hd;rw [show xs.length=n by omega] at hlt;by_cases hbig:n≤m/64
 ·have h0:aX 18446744073709551616 xs/2^m=0:=by
   apply aaN;refine aaF hlt (aac (aao ZC hbig) ?_);rw [hmm];exact adj _ (aak ZB)
  refine ae (N:=61) (l:=[.slice A n c,.int .i64 (m:Int)]) Tryz.func207 rfl rfl (by simp) ?_;refine aj ?_;rw [h0,iy ZB];exact QU
 ·obtain ⟨ad,rfl,hr⟩:=hx.at_ ZB;have hsd:=hx.MR (k:=m/64) ZB;have hget:∀j,j<n→xs[j]?=some (aX 18446744073709551616 xs/18446744073709551616^j % 18446744073709551616):=fun j hj=>by
   obtain ⟨d,hdj⟩:=ah (l:=xs) (k:=j) ZB;rw [hdj,uR hd hdj]
  refine ae (N:=61) (l:=[.slice (some ad) n c,.int .i64 (m:Int)]) Tryz.func207 rfl rfl (by simp) ?_;refine aj ?_;refine C6 (l:=m/64) bj.out aC.size rfl rfl ZB ZB ZB ZB ZC ?_;refine aq (lR _ _ _ 0 _ _ hsd ZB ZB) ak.out rfl ZC ?_;rintro e_ w_ ⟨b16,rfl,hown_,hb_⟩;refine ⟨_,rfl, ?_⟩;replace hh:=hh.aE (x:=.row _ _ _ _ _ _) hb_ hown_;rw [Nat.zero_max,aaz,ac1,aal] at hh;rw [Nat.zero_max];refine aj ?_;refine aD [6,19,20,21,22,23,24,25,26,27,28,29,30,31,32,33,34,35,36,37,38,39,40,41,42,43,44,45,46,47,48,49,50,51,52,53,54,55,56,57,58] 19
   (fun v w'=>∃i:Nat,i≤n-m/64∧v=.int .i64 i∧Hp w [.row (some ⟨b16,0,none⟩) (n-m/64) (n-m/64) 160 1 (cn (bM 18446744073709551616 i (aX 18446744073709551616 xs/2^m)++xs.drop (m/64+i)))] w')
   (fun v _=>(n-m/64)-(intOf v).toNat) ?_ ?_
  ·exact ⟨0,ZK _,rfl,hh⟩
  ·clear hh;rintro ρ' v w' ⟨i,hi,rfl,hh⟩;by_cases hlt2:i<n-m/64
   ·have hgi:=hget (m/64+i) ZB;have hdr:xs.drop (m/64+i)=(aX 18446744073709551616 xs/18446744073709551616^(m/64+i) % 18446744073709551616)::xs.drop (m/64+i+1):=by
     rw [abi ZB];congr 1;have:=ZV.1 hgi;exact this.2
    have hcell:(bM 18446744073709551616 i (aX 18446744073709551616 xs/2^m)++xs.drop (m/64+i))[i]?=some (aX 18446744073709551616 xs/18446744073709551616^(m/64+i) % 18446744073709551616):=by
     rw [aa0 (by rw [aU];omega),aU,hdr];simp
    have hg:=eo hcell;have hset:∀y,(bM 18446744073709551616 i (aX 18446744073709551616 xs/2^m)++xs.drop (m/64+i)).set i y=bM 18446744073709551616 i (aX 18446744073709551616 xs/2^m)++y::xs.drop (m/64+i+1):=fun y=>by
     rw [hdr,abP _ _ (by rw [aU];omega),aU,aaz,ZP]
    have hll:(bM 18446744073709551616 i (aX 18446744073709551616 xs/2^m)++xs.drop (m/64+i)).length=n-m/64:=by rw [ZS,aU,aaU];omega
    have hac:∀y,bM 18446744073709551616 i (aX 18446744073709551616 xs/2^m)++y::xs.drop (m/64+i+1)=(bM 18446744073709551616 i (aX 18446744073709551616 xs/2^m)++[y])++xs.drop (m/64+(i+1)):=fun y=>List.append_cons _ _ _;have hnew:bM 18446744073709551616 (i+1) (aX 18446744073709551616 xs/2^m)=bM 18446744073709551616 i (aX 18446744073709551616 xs/2^m)++[aX 18446744073709551616 xs/2^(64*(m/64+i)+m % 64) % 18446744073709551616]:=by
     rw [mg,aa9];congr 4;rw [hW,←aax,←aag];congr 1;omega
    refine aj ?_;refine lj ?_;refine aj ?_;refine vd rfl rfl ZB ZC ?_;refine aj ?_;refine bV hh (i:=0) (vs:=[_]) rfl rfl (cz rfl) rfl aC.out rfl (by rw [aY,hll];omega) rfl ?_;intro ws hh;simp only [ZP] at hh;rw [hs1,Z8,cw (by rw [aY,hll];omega),gL,hset] at hh;by_cases h0:m % 64=0
    ·have e1:aX 18446744073709551616 xs/18446744073709551616^(m/64+i) % 18446744073709551616/2^(m % 64)=aX 18446744073709551616 xs/2^(64*(m/64+i)+m % 64) % 18446744073709551616:=by
      rw [h0,aci,abN,aa8,aax,←hW]
     by_cases hl:i+1<n-m/64
     ·refine aj ?_;rw [e1,hac,←hnew] at hh;exact Hx
     ·refine aj ?_;rw [e1,hac,←hnew] at hh;exact Hx
    ·by_cases hl:i+1<n-m/64
     ·have hgj:=hget (m/64+i+1) ZB;have hgj2:=eo hgj;obtain ⟨d1,d2⟩:=JT (N:=aX 18446744073709551616 xs) (j:=m/64+i) (s:=m % 64) (aab _ ZB) ZB;have hcell2:(bM 18446744073709551616 i (aX 18446744073709551616 xs/2^m)++(aX 18446744073709551616 xs/18446744073709551616^(m/64+i) % 18446744073709551616/2^(m % 64))::xs.drop (m/64+i+1))[i]?=some (aX 18446744073709551616 xs/18446744073709551616^(m/64+i) % 18446744073709551616/2^(m % 64)):=by
       rw [aa0 (by rw [aU];omega),aU];simp
      have hg2:=eo hcell2;have hset2:∀y z,(bM 18446744073709551616 i (aX 18446744073709551616 xs/2^m)++y::xs.drop (m/64+i+1)).set i z=bM 18446744073709551616 i (aX 18446744073709551616 xs/2^m)++z::xs.drop (m/64+i+1):=fun y z=>by
       rw [abP _ _ (by rw [aU];omega),aU,aaz,ZP]
      have hll2:∀y,(bM 18446744073709551616 i (aX 18446744073709551616 xs/2^m)++y::xs.drop (m/64+i+1)).length=n-m/64:=fun y=>by rw [ZS,aU,aae,aaU];omega
      have hs2:(64-(m:Int) % 64).toNat=64-m % 64:=ZB;have b1:aX 18446744073709551616 xs/18446744073709551616^(m/64+i) % 18446744073709551616/2^(m % 64)<18446744073709551616:=aaI (abJ _ _) (aab _ ZB);have b2:aX 18446744073709551616 xs/18446744073709551616^(m/64+i+1) % 18446744073709551616*2^(64-(m:Int) % 64).toNat % 18446744073709551616<18446744073709551616:=aab _ ZB;refine aj ?_;refine aw 16 [[(5,none)],[(6,none)],[(40,some 0),(41,some 1)],[(42,some 2)],[(0,none)],[(1,none)],[(45,some 5)],[(6,none)],[(46,some 6),(47,some 7)],[(48,some 8)],[(44,some 4),(49,some 9)],[(50,some 10)],[(1,none)],[(52,some 12)],[(53,some 13)],[(51,some 11),(54,some 14)]] [(15,55),(14,54),(13,53),(12,52),(11,51),(10,50),(9,49),(8,48),(7,47),(6,46),(5,45),(4,44),(3,43),(2,42),(1,41),(0,40)] hh mixed ZD ?_;refine dR ?_;refine cj ?_;refine uC (i) ?_;refine aV (i:=3) (fun ρ1 w1 hj hR=>eB aC.out (show ρ1 42=Value.pointer _ from hR.1) (hj.hp.dZ (i:=0) rfl (by rw [Z8];exact hg2))) ?_;refine dR ?_;refine cj ?_
      refine aV (i:=6) (fun ρ1 w1 hj hR=>u4 (show ρ1 45=Value.int _ _ from hR.1) rfl ZB ZB ZB) ?_;refine cj ?_;refine p8 ?_;refine p8 ?_;refine jK (m/64+i+1) ?_;refine mZ (fun _ hj=>(hr.ext hj.hp.below).mX hgj2) ?_;refine cj ?_;refine aV (i:=13) (fun ρ1 w1 hj hR=>qi (show ρ1 52=Value.int _ _ from hR.1) rfl ZB ZB) ?_;refine s7 ?_;refine aV (i:=15) (fun ρ1 w1 hj hR=>xo (show ρ1 51=Value.int _ _ from hR.1) (show ρ1 54=Value.int _ _ from hR.2.1) ZB) ?_;refine au ?_;intro f W hJ hV;have hb_9:=hJ.bl;obtain ⟨v55,v54,v53,v52,v51,v50,v49,v48,v47,v46,v45,v44,v43,v42,v41,v40,_⟩:=hV;replace hh:=hJ.hp;refine az (aH (aa v55 (aa v54 (aa v53 (aa v52 (aa v51 (aa v50 (aa v49 (aa v48 (aa v47 (aa v46 (aa v45 (aa v44 (aa v43 (aa v42 (aa v41 (aa v40 ay))))))))))))))))) ?_;dsimp only [bf];clear hJ;refine Ch ?_;refine aj ?_;refine bV hh (i:=0) (vs:=[_]) rfl rfl (cz rfl) rfl aC.out rfl (by rw [aY,hll2];omega) rfl ?_;intro ws hh;simp only [ZP] at hh;rw [hs2,d2,Z8,cw (by rw [aY,hll2];omega),gL,hset2,hac,←hnew] at hh;refine aj ?_;exact Hx
     ·have e1:aX 18446744073709551616 xs/18446744073709551616^(m/64+i) % 18446744073709551616/2^(m % 64)=aX 18446744073709551616 xs/2^(64*(m/64+i)+m % 64) % 18446744073709551616:=by
       obtain ⟨h2,h3⟩:=zN (aX 18446744073709551616 xs) (m/64+i) (m % 64) (aab _ ZB) ZB;have h4:aX 18446744073709551616 xs/18446744073709551616^(m/64+i+1)=0:=aaN (aaF hlt (aao ZC ZB));rw [h4] at h3;simpa using h3
      refine aj ?_;rw [e1,hac,←hnew] at hh;exact Hx
   ·obtain rfl:i=n-m/64:=ZB;rw [adl ZB,aal] at hh;refine aj ?_;refine a0 hh (gg _ _ _ (bM 18446744073709551616 (n-m/64) (aX 18446744073709551616 xs/2^m)) _ (hh.ar (i:=0) rfl) (ZM _) ZB) rfl ?_;intro w60 hh;refine aj ?_;have hbd:aX 18446744073709551616 xs/2^m<18446744073709551616^(n-m/64):=by
     rw [aaW (aak ZB),hmm,←aaE,←aag,show n-m/64+m/64=n by omega];exact aaF hlt (adj _ (aak ZB))
    have hd:eh (bM 18446744073709551616 (n-m/64) (aX 18446744073709551616 xs/2^m))=aO 18446744073709551616 (aX 18446744073709551616 xs/2^m):=by
     exact KK
    have h1:=(Hp.Im (xs:=bM 18446744073709551616 (n-m/64) (aX 18446744073709551616 xs/2^m)) hh (aU _ _)).at_ (i:=0) rfl;exact HL
def bN (a:ByteArray):Nat:=bn a.data.toList
def sN (n:Nat):ByteArray:=str (sb n)
theorem fH (n:Nat):bN (sN n)=n:=by rw [bN,sN,dx,WU]
theorem j5 (n:Nat):(sN n).size=(bg n+7)/8:=by rw [sN,iI,JV,EN]
theorem Ga {a:Nat} (h:sN a=sN b):a=b:=by rw [←fH a,h,fH]
theorem kt:sN 0=ByteArray.mk #[]:=by rw [sN,Qh];rfl
theorem zm (a:ByteArray):bN a<256^a.size:=by rw [eS];exact SE _
theorem gZ (a:ByteArray):bg (bN a)≤8*a.size:=by
 apply di;have:=zm a;rwa [show (256:Nat)=2^8 from rfl,←aax] at this
theorem Kb (h:n<256^k):(aO 18446744073709551616 n).length≤(k+7)/8:=by
 apply gj ZB;refine aaF h ?_;rw [show (256:Nat)=2^8 from rfl,show (18446744073709551616:Nat)=2^64 from rfl,←aax,←aax];exact aao ZB ZB
theorem fV (a:ByteArray):(aO 18446744073709551616 (bN a)).length≤(a.size+7)/8:=Kb (zm a)
theorem gN (n:Nat):Dg 18446744073709551616 (aO 18446744073709551616 n):=(er ZB n).1
theorem eA (n:Nat):aX 18446744073709551616 (aO 18446744073709551616 n)=n:=eO ZB n
theorem jc (a:ByteArray) (w:World) (ha:a.size≤1000000000):
  Calls Tryz.prog 177 #[.string a] w fun e w'=>∃b c,e=.returned (.slice (some ⟨b,0,none⟩) (aO 18446744073709551616 (bN a)).length c)∧w'.ownsRow w.heap.size 160 1 (.slice (some ⟨b,0,none⟩) (aO 18446744073709551616 (bN a)).length c) (aO 18446744073709551616 (bN a)).length (cn (aO 18446744073709551616 (bN a)))∧Below w.heap.size w w':=Kv a w ZB
theorem tQ (n:Nat) (w:World) (hn:n<18446744073709551616):
  Calls Tryz.prog 129 #[.int .u64 (n:Int)] w fun e w'=>e=.returned (.string (sN n))∧Below w.heap.size w w':=by
 have hh:=Hp.start w;refine ae (N:=6) (l:=[.int .u64 (n:Int)]) Tryz.func129 rfl rfl (by simp) ?_;refine aj ?_;refine ue ?_;intro b4 w4 hh;refine a0 hh (fF _ _ _ [n] _ (hh.ar (i:=0) rfl) (Dg.cons hn Dg.nil) (ZM _) ZB) rfl ?_;intro w5 hh;refine aj ?_;refine ⟨?_,hh.below⟩;rw [sN];simp [aX]
theorem Bf (a b:ByteArray) (w:World) (ha:a.size≤1000000000) (hb:b.size≤1000000000):
  Calls Tryz.prog 230 #[.string a,.string b] w fun e w'=>e=.returned (.int .i64 (jw (bN a) (bN b)))∧Below w.heap.size w w':=by
 have hh:=Hp.start w;have h1:=fV a;have h2:=fV b;refine ae (N:=10) (l:=[.string a,.string b]) Tryz.func230 rfl rfl (by simp) ?_;refine aj ?_;refine tS ?_;rintro e_ w6 ⟨A6,c6,rfl,hown_,hb_⟩;refine ⟨_,rfl, ?_⟩;replace hh:=hh.aE (x:=.row _ _ _ _ _ _) hb_ hown_;refine mS ?_;refine Ic ?_;rintro e_ w8 ⟨A8,c8,rfl,hown_,hb_⟩;refine ⟨_,rfl, ?_⟩;replace hh:=hh.aE (x:=.row _ _ _ _ _ _) hb_ hown_;refine Cz ?_;intro w9 hh;rw [eA,eA];refine aj ?_;exact ⟨rfl,hh.below⟩
theorem nE (a:ByteArray) (w:World) (ha:a.size≤1000000000):
  Calls Tryz.prog 172 #[.string a] w fun e w'=>e=.returned (.int .i64 (bg (bN a)))∧Below w.heap.size w w':=by
 have hh:=Hp.start w;have h1:=fV a;refine ae (N:=6) (l:=[.string a]) Tryz.func172 rfl rfl (by simp) ?_;refine aj ?_;refine tS ?_;rintro e_ w4 ⟨A4,c4,rfl,hown_,hb_⟩;refine ⟨_,rfl, ?_⟩;replace hh:=hh.aE (x:=.row _ _ _ _ _ _) hb_ hown_;refine a0 hh (vO _ _ _ (aO 18446744073709551616 (bN a)) _ (hh.ar (i:=0) rfl) (gN _) (hh.fG (i:=0) rfl) ZB) rfl ?_;intro w5 hh;rw [eA];refine aj ?_;exact ⟨rfl,hh.below⟩
theorem iB (n m:Nat):bg (n*2^m)≤bg n+m:=by
 apply di;rw [aag];exact ab8 (cu n) (aak ZB)
theorem vB (n:Nat):(aO 18446744073709551616 n).length≤(bg n+63)/64:=by
 apply gj ZB;refine aaF (cu n) ?_;exact TE
theorem Ba (a:ByteArray) (m:Nat) (w:World) (ha:a.size≤1000000000) (hm:m≤10000000000):
  Calls Tryz.prog 170 #[.string a,.int .i64 (m:Int)] w fun e w'=>e=.returned (.string (sN (bN a*2^m)))∧Below w.heap.size w w':=by
 have hh:=Hp.start w;have h1:=fV a;have h2:=vB (bN a*2^m);have h3:=iB (bN a) m;have h4:=gZ a;have e1:(if (0:Int)>(m:Int) then 0 else (m:Int))=m:=ZG ZB;refine ae (N:=11) (l:=[.string a,.int .i64 (m:Int)]) Tryz.func170 rfl rfl (by simp) ?_;refine aj ?_;refine tS ?_;rintro e_ w6 ⟨A6,c6,rfl,hown_,hb_⟩;refine ⟨_,rfl, ?_⟩;replace hh:=hh.aE (x:=.row _ _ _ _ _ _) hb_ hown_;refine aj ?_;rw [e1];refine aq (sK _ _ _ m (aO 18446744073709551616 (bN a)) _ (hh.ar (i:=0) rfl) (gN _) ZB hm) ak.out rfl ZC ?_;rintro e_ w9 ⟨A9,c9,rfl,hown_,hb_⟩;refine ⟨_,rfl, ?_⟩;replace hh:=hh.aE (x:=.row _ _ _ _ _ _) hb_ hown_;rw [eA] at*;refine a0 hh (fF _ _ _ (aO 18446744073709551616 (bN a*2^m)) _ (hh.ar (i:=0) rfl) (gN _) (hh.fG (i:=0) rfl) ZB) rfl ?_;intro w10 hh;rw [eA];refine aj ?_;exact ⟨rfl,hh.below⟩
theorem re (n m:Nat):bg (n/2^m)≤bg n:=by
 apply di;exact aaI (abJ _ _) (cu n)
theorem AW (a:ByteArray) (m:Nat) (w:World) (ha:a.size≤1000000000) (hm:m≤1000000000000):
  Calls Tryz.prog 171 #[.string a,.int .i64 (m:Int)] w fun e w'=>e=.returned (.string (sN (bN a/2^m)))∧Below w.heap.size w w':=by
 have hh:=Hp.start w;have h1:=fV a;have h2:=vB (bN a/2^m);have h3:=re (bN a) m;have h4:=gZ a;have e1:(if (0:Int)>(m:Int) then 0 else (m:Int))=m:=ZG ZB;refine ae (N:=11) (l:=[.string a,.int .i64 (m:Int)]) Tryz.func171 rfl rfl (by simp) ?_;refine aj ?_;refine tS ?_;rintro e_ w6 ⟨A6,c6,rfl,hown_,hb_⟩;refine ⟨_,rfl, ?_⟩;replace hh:=hh.aE (x:=.row _ _ _ _ _ _) hb_ hown_;refine aj ?_;rw [e1];refine aq (tK _ _ _ m (aO 18446744073709551616 (bN a)) _ (hh.ar (i:=0) rfl) (gN _) (hh.fG (i:=0) rfl) ZB hm) ak.out rfl ZC ?_;rintro e_ w9 ⟨A9,c9,rfl,hown_,hb_⟩;refine ⟨_,rfl, ?_⟩;replace hh:=hh.aE (x:=.row _ _ _ _ _ _) hb_ hown_;rw [eA] at*;refine a0 hh (fF _ _ _ (aO 18446744073709551616 (bN a/2^m)) _ (hh.ar (i:=0) rfl) (gN _) (hh.fG (i:=0) rfl) ZB) rfl ?_;intro w10 hh;rw [eA];refine aj ?_;exact ⟨rfl,hh.below⟩
theorem Ro {x y:Nat} (h:y≤x):Dn 18446744073709551616 (aO 18446744073709551616 x) (aO 18446744073709551616 y) 0=0∧aX 18446744073709551616 (qw 18446744073709551616 (aO 18446744073709551616 x) (aO 18446744073709551616 y) 0)=x-y:=by
 have:=BZ (B:=18446744073709551616) ZB (aO 18446744073709551616 x) (aO 18446744073709551616 y) 0 (gN _) (gN _) ZB (by rw [eA,eA];omega);rw [eA,eA] at this;exact ⟨this.2,ZB⟩
theorem su (a b:ByteArray) (w:World) (ha:a.size≤1000000000) (hb:b.size≤1000000000):
  Calls Tryz.prog 201 #[.string a,.string b] w fun e w'=>e=.returned (.tuple #[.string (sN (bN a-bN b)),.bool (decide (bN b≤bN a))])∧Below w.heap.size w w':=by
 have hh:=Hp.start w;have h1:=fV a;have h2:=fV b;by_cases hlt:bN a<bN b
 ·refine ae (N:=21) (l:=[.string a,.string b]) Tryz.func201 rfl rfl (by simp) ?_;refine aj ?_;refine tS ?_;rintro e_ w9 ⟨A9,c9,rfl,hown_,hb_⟩;refine ⟨_,rfl, ?_⟩;replace hh:=hh.aE (x:=.row _ _ _ _ _ _) hb_ hown_;refine mS ?_;refine Ic ?_;rintro e_ w11 ⟨A11,c11,rfl,hown_,hb_⟩;refine ⟨_,rfl, ?_⟩;replace hh:=hh.aE (x:=.row _ _ _ _ _ _) hb_ hown_;refine aj ?_;refine Cz ?_;intro w14 hh;rw [eA,eA,lu hlt];exact SA
 ·obtain ⟨s1,s2⟩:=Ro (ac0 hlt);have hc:¬jw (bN a) (bN b)<0:=by unfold jw;split<;>(try split)<;>omega
  refine ae (N:=21) (l:=[.string a,.string b]) Tryz.func201 rfl rfl (by simp) ?_;refine aj ?_;refine tS ?_;rintro e_ w9 ⟨A9,c9,rfl,hown_,hb_⟩;refine ⟨_,rfl, ?_⟩;replace hh:=hh.aE (x:=.row _ _ _ _ _ _) hb_ hown_;refine mS ?_;refine Ic ?_;rintro e_ w11 ⟨A11,c11,rfl,hown_,hb_⟩;refine ⟨_,rfl, ?_⟩;replace hh:=hh.aE (x:=.row _ _ _ _ _ _) hb_ hown_;refine aj ?_;refine Cz ?_;intro w14 hh;rw [eA,eA];refine aj ?_;replace hh:=hh.front 1 rfl;rw [←aal (aO 18446744073709551616 (bN a)),←ZN (aO 18446744073709551616 (bN a))] at hh;have hll:=(hh.Rh (i:=0) rfl);rw [ZN,aal] at hll;refine aq (n8 [] (aO 18446744073709551616 (bN a)) [] (aO 18446744073709551616 (bN b)) _ hh (fun w1 cs h=>h.ar (i:=1) rfl) (gN _) (gN _) ZB ZB s1) ak.out rfl ZC ?_;rintro e_ w_ ⟨rfl,hh⟩;refine ⟨_,rfl, ?_⟩;simp only [ZN,aal] at hh;refine aj ?_;refine a0 hh (fF _ _ _ (qw 18446744073709551616 (aO 18446744073709551616 (bN a)) (aO 18446744073709551616 (bN b)) 0) _ (hh.ar (i:=0) rfl) (GP ZB _ _ _) (hh.fG (i:=0) rfl) ZB) rfl ?_;intro w20 hh;rw [s2];refine aj ?_;rw [ZX ZB];exact ⟨rfl,hh.below⟩
theorem z9 (a b:ByteArray) (w:World) (ha:a.size≤1000000000) (hb:b.size≤1000000000):
  Calls Tryz.prog 181 #[.string a,.string b] w fun e w'=>e=.returned (.string (sN (bN a*bN b)))∧Below w.heap.size w w':=by
 have hh:=Hp.start w;have h1:=fV a;have h2:=fV b;refine ae (N:=37) (l:=[.string a,.string b]) Tryz.func181 rfl rfl (by simp) ?_;refine aj ?_;refine tS ?_;rintro e_ w11 ⟨A11,c11,rfl,hown_,hb_⟩;refine ⟨_,rfl, ?_⟩;replace hh:=hh.aE (x:=.row _ _ _ _ _ _) hb_ hown_;refine mS ?_;refine Ic ?_;rintro e_ w13 ⟨A13,c13,rfl,hown_,hb_⟩;refine ⟨_,rfl, ?_⟩;replace hh:=hh.aE (x:=.row _ _ _ _ _ _) hb_ hown_;have hxd:=gN (bN a);have hyd:=gN (bN b);have hX:=eA (bN a);have hY:=eA (bN b);generalize aO 18446744073709551616 (bN a)=xs at*;generalize aO 18446744073709551616 (bN b)=ys at*;refine aj ?_;refine fT (n:=xs.length+ys.length+1) hh rfl rfl ZB ZB bj.out aC.out rfl ZB ZB ZC ?_;intro Vz w20 hh;refine aj ?_;rw [lh] at hh;refine aD [8,9,23,24,25,26,27,28,29,30,31,32,33,34] 23
  (fun v w'=>∃(i:Nat) (L:List Nat),i≤xs.length∧v=.int .i64 i∧Dg 18446744073709551616 L∧L.length=xs.length+ys.length+1∧aX 18446744073709551616 L=aX 18446744073709551616 (xs.take i)*aX 18446744073709551616 ys∧Hp w [.row (some ⟨Vz,0,none⟩) (xs.length+ys.length+1) (xs.length+ys.length+1) 160 1 (cn L),.row (some ⟨A13,0,none⟩) ys.length c13 160 1 (cn ys),.row (some ⟨A11,0,none⟩) xs.length c11 160 1 (cn xs)] w')
  (fun v _=>xs.length-(intOf v).toNat) ?_ ?_
 ·exact ⟨0,_,ZK _,rfl,Dg.eJ ZB _,by simp,by simp [jX,aX],hh⟩
 ·clear hh;rintro ρ' v w' ⟨i,L,hi,rfl,hLd,hLl,hLv,hh⟩;by_cases hlt:i<xs.length
  ·obtain ⟨m,hm⟩:=ah (l:=xs) (k:=i) ZB;have hm2:=eo hm;have hmw:=hxd.at_ hm;have hpl:(L.take i).length=i:=by rw [Z1];omega
   have hsl:(L.drop i).length=xs.length+ys.length+1-i:=by rw [aaU];omega
   refine aj ?_;refine bF aC.out rfl (hh.dZ (i:=2) rfl (by first|assumption|(simp only [Z8];assumption))) ZC ?_;refine aj ?_;refine F6 (l:=i) bj.out aC.size rfl rfl ZB ZB ZB ZB ZC ?_;refine aj ?_;have hc:=nQ (c':=xs.length+ys.length+1-i) (ny:=ys.length) (cy:=c13) (m:=m) (Y:=some ⟨A13,0,none⟩) (L.take i) (L.drop i) [] ys _ (by rw [aal,aaL];exact hh) (fun w1 cs h=>h.ar (i:=1) rfl) (hLd.drop i) hyd hmw ZB ZB;rw [hpl,hsl,aal] at hc;rw [Z9,Z8];refine aq (hc) ak.out rfl ZC ?_;rintro e_ w_ ⟨rfl,hh⟩;refine ⟨_,rfl, ?_⟩;have hlt1:=gH (hxd.take (i+1));have hlt2:=gH hyd;rw [Z1,aaT ZB] at hlt1;have hsn:=gR (B:=18446744073709551616) hm;have hsplit:=gQ (B:=18446744073709551616) L i ZB;have hnew:18446744073709551616^i*(aX 18446744073709551616 (L.drop i)+aX 18446744073709551616 ys*m+0)+aX 18446744073709551616 (L.take i)=aX 18446744073709551616 (xs.take (i+1))*aX 18446744073709551616 ys:=by
    rw [hsn,ab1,←hLv,hsplit,aa8,aaw,aaE,Z2 m];omega
   have hbd:aX 18446744073709551616 (L.drop i)+aX 18446744073709551616 ys*m+0<18446744073709551616^(L.drop i).length:=by
    refine Nat.lt_of_mul_lt_mul_left (a:=18446744073709551616^i) ?_;rw [←aag,hsl];refine aaI (Nat.le_add_right _ (aX 18446744073709551616 (L.take i))) ?_;rw [hnew];refine aaF (ada hlt1 hlt2) ?_;rw [←aag];exact aao ZC ZB
   have hdp:=tg (B:=18446744073709551616) ZB _ _ _ _ hbd;refine aj ?_;refine ⟨⟨i+1,L.take i++ig 18446744073709551616 (L.drop i) ys m 0,ZB,rfl,(hLd.take i).append (vJ ZB _ _ _ _),by rw [ZS,na,hpl,hsl];omega, ?_,hh⟩,by show xs.length-(i+1)<xs.length-i;omega, ?_⟩
   ·rw [cS,hdp,hpl,abF];exact hnew
   exact ZE
  ·obtain rfl:i=xs.length:=ZB;rw [acX,hX,hY] at hLv;refine aj ?_;refine a0 hh (fF _ _ _ L _ (hh.ar (i:=0) rfl) hLd (ZM _) ZB) rfl ?_;intro w36 hh;rw [hLv];refine aj ?_;exact ⟨rfl,hh.below⟩
theorem Q5 {d r:Nat} (hd:d≠0) (hdw:d<18446744073709551616) (hn:n=18446744073709551616^k*(d+18446744073709551616*r)):tz n=64*k+tz d:=by
 obtain ⟨m,hm⟩:=uB hd;have ht:tz d<64:=zt hd (by simpa using hdw);have hW:(18446744073709551616:Nat)=2^64:=by decide
 generalize tz d=t at*;have e:n=2^(64*k+t)*(2*(m+2^(63-t)*r)+1):=by
  rw [hn,aag,aax,←hW,aaE];congr 1;have h1:18446744073709551616=2^t*(2*2^(63-t)):=by rw [hW,←Nat.pow_succ',←aag];congr 1;omega
  have h2:18446744073709551616*r=2^t*(2*2^(63-t)*r):=by rw [←aaE,←h1]
  rw [h2]
  conv=>lhs;rw [hm]
  rw [←aaw];congr 1;rw [aaw,aaE];omega
 rw [e,H6]
theorem kO (a:ByteArray) (w:World) (ha:a.size≤1000000000) (hT:dO w):
  Calls Tryz.prog 128 #[.string a] w fun e w'=>e=.returned (.int .i64 (tz (bN a)))∧Below w.heap.size w w':=by
 have hh:=Hp.start w;have h1:=fV a;refine ae (N:=21) (l:=[.string a]) Tryz.func128 rfl rfl (by simp) ?_;refine aj ?_;refine tS ?_;rintro e_ w6 ⟨A6,c6,rfl,hown_,hb_⟩;refine ⟨_,rfl, ?_⟩;replace hh:=hh.aE (x:=.row _ _ _ _ _ _) hb_ hown_;have hxd:=gN (bN a);have hX:=eA (bN a);generalize aO 18446744073709551616 (bN a)=xs at*;refine aj ?_;refine aD [2,3,4,8,9,10,11,12,13,14,15,16,17,18,19,20] 8
  (fun v w'=>∃(i:Nat),i≤xs.length∧v=.int .i64 i∧aX 18446744073709551616 (xs.take i)=0∧Hp w [.row (some ⟨A6,0,none⟩) xs.length c6 160 1 (cn xs)] w')
  (fun v _=>xs.length-(intOf v).toNat) ?_ ?_
 ·exact ⟨0,ZK _,rfl,rfl,hh⟩
 ·clear hh;rintro ρ' v w' ⟨i,hi,rfl,hz,hh⟩;by_cases hlt:i<xs.length
  ·obtain ⟨d,hm⟩:=ah (l:=xs) (k:=i) ZB;have hm2:=eo hm;have hmw:=hxd.at_ hm;by_cases h0:d=0
   ·subst h0;refine aj ?_;refine lj ?_;refine aj ?_;refine ⟨⟨i+1,ZB,rfl,by rw [gR hm,hz];simp,hh⟩,by show xs.length-(i+1)<xs.length-i;omega, ?_⟩;exact dh
   ·have htz:tz (bN a)=64*i+tz d:=by
     have h3:=gQ (B:=18446744073709551616) xs i ZB;have h4:=(ZV.1 hm);rw [hz,abi hlt,h4.2,aX,hX,Z9] at h3;exact Q5 h0 hmw h3
    have ht:tz d<64:=zt h0 (by simpa using hmw);refine aj ?_;refine lj ?_;refine aj ?_;refine a0 hh (Fp _ _ hmw h0 (hT.hp hh)) rfl ?_;intro w18 hh;refine aj ?_;refine ⟨?_,hh.below⟩;congr 2;omega
  ·refine aj ?_;rw [ZO ZB,hX] at hz;rw [hz];exact ⟨rfl,hh.below⟩
theorem PB {x y:Nat} (hx:x<18446744073709551616^k) (hy:y<18446744073709551616^k):aX 18446744073709551616 (ig 18446744073709551616 (aO 18446744073709551616 x++List.replicate (k+1-(aO 18446744073709551616 x).length) 0) (aO 18446744073709551616 y) 1 0)=x+y:=by
 have hl:=gj (B:=18446744073709551616) ZB hx;have h1:aX 18446744073709551616 (aO 18446744073709551616 x++List.replicate (k+1-(aO 18446744073709551616 x).length) 0)=x:=by rw [cS,jX,eA];simp
 have h2:(aO 18446744073709551616 x++List.replicate (k+1-(aO 18446744073709551616 x).length) 0).length=k+1:=by rw [ZS,aaZ];omega
 rw [tg ZB,h1,eA]
 ·omega
 ·rw [h1,h2,eA,aar];have:0<18446744073709551616^k:=aak ZC;omega
theorem tk (l:List Nat) (x:Nat):(l++[x]).sum=l.sum+x:=by simp
theorem AD (L:Option Addr) (n c:Nat) (ss:List ByteArray) (w:World) (hS:Sl w L n 1 (l4 ss)) (hn:n≤1000000) (hs:∀s∈ss,s.size≤1000000000):
  Calls Tryz.prog 199 #[.slice L n c] w fun e w'=>e=.returned (.string (sN (ss.map bN).sum))∧Below w.heap.size w w':=by
 have hsl:ss.length=n:=by have:=hS.1;rw [nW] at this;omega
 have hh:=Hp.start w;refine ae (N:=31) (l:=[.slice L n c]) Tryz.func199 rfl rfl (by simp) ?_;refine aj ?_;replace hh:=hh.cq 160 1;refine a7 [3,5,6,9,10,11,12,13,14,15,16,17,18,19,20,21,22,23,24,25,26,27,28] 3 9
  (fun v j w'=>∃(i:Nat) (A:Option Addr) (c' T:Nat),i≤n∧j=.int .i64 i∧T=((ss.take i).map bN).sum∧v=.slice A (aO 18446744073709551616 T).length c'∧(aO 18446744073709551616 T).length≤125000001+i∧Hp w [.row A (aO 18446744073709551616 T).length c' 160 1 (cn (aO 18446744073709551616 T))] w')
  (fun _ j _=>n-(intOf j).toNat) ?_ ?_
 ·exact ⟨0,none,0,0,ZK _,rfl,rfl,by rw [iy ZB];rfl,by rw [iy ZB];simp,by rw [iy ZB];exact hh⟩
 ·clear hh;rintro ρ' v j w' ⟨i,A,c',T,hi,rfl,hT,rfl,hTl,hh⟩;by_cases hlt:i<n
  ·obtain ⟨s,hsi⟩:=ah (l:=ss) (k:=i) ZB;obtain ⟨ad,rfl,hr⟩:=hS.at_ ZB;have hs2:=uO hsi;have hsz:=hs s (ZL hsi);have hlx:=fV s;have hT2:((ss.take (i+1)).map bN).sum=T+bN s:=by rw [al hsi,aaG,acb,tk,hT]
   have e1:(if ((aO 18446744073709551616 (bN s)).length:Int)>((aO 18446744073709551616 T).length:Int) then ((aO 18446744073709551616 (bN s)).length:Int) else ((aO 18446744073709551616 T).length:Int))+1=((max (aO 18446744073709551616 T).length (aO 18446744073709551616 (bN s)).length+1:Nat):Int):=by split<;>omega
   have hb1:T<18446744073709551616^max (aO 18446744073709551616 T).length (aO 18446744073709551616 (bN s)).length:=aaF (m6 ZB T) (aao ZC (Nat.le_max_left _ _));have hb2:bN s<18446744073709551616^max (aO 18446744073709551616 T).length (aO 18446744073709551616 (bN s)).length:=aaF (m6 ZB (bN s)) (aao ZC (Nat.le_max_right _ _));have hadd:=PB hb1 hb2;refine aj ?_;refine ld ?_;refine aj ?_;refine aq (jc s _ hsz) ak.out rfl ZC ?_;rintro e_ w14 ⟨A14,c14,rfl,hown_,hb_⟩;refine ⟨_,rfl, ?_⟩;replace hh:=hh.aE (x:=.row _ _ _ _ _ _) hb_ hown_;refine aj ?_;rw [e1];generalize hM:max (aO 18446744073709551616 T).length (aO 18446744073709551616 (bN s)).length=M at*;refine aq (lR _ _ _ (M+1) _ _ (hh.ar (i:=1) rfl) ZB ZB) ak.out rfl ZC ?_;rintro e_ w_ ⟨b22,rfl,hown_,hb_⟩;refine ⟨_,rfl, ?_⟩;replace hh:=hh.aE (x:=.row _ _ _ _ _ _) hb_ hown_;have e2:max (M+1) (aO 18446744073709551616 T).length=M+1:=ZB;rw [e2] at hh;rw [e2];refine aj ?_
   have hc:=FN (c':=M+1) (ny:=(aO 18446744073709551616 (bN s)).length) (cy:=c14) (Y:=some ⟨A14,0,none⟩) [] (aO 18446744073709551616 T++List.replicate (M+1-(aO 18446744073709551616 T).length) 0) [] (aO 18446744073709551616 (bN s)) _ (by rw [aal,ZN];exact hh) (fun w1 cs h=>h.ar (i:=1) rfl) ((gN _).append (Dg.eJ ZB _)) (gN _) (by rw [ZS,aaZ];omega) ZB;have e3:(aO 18446744073709551616 T++List.replicate (M+1-(aO 18446744073709551616 T).length) 0).length=M+1:=by rw [ZS,aaZ];omega
   rw [e3,aal,ZN] at hc;refine aq (hc) ak.out rfl ZC ?_;rintro e_ w_ ⟨rfl,hh⟩;refine ⟨_,rfl, ?_⟩;have hpl:(ig 18446744073709551616 (aO 18446744073709551616 T++List.replicate (M+1-(aO 18446744073709551616 T).length) 0) (aO 18446744073709551616 (bN s)) 1 0).length=M+1:=by rw [na,e3]
   have hpd:=vJ (B:=18446744073709551616) ZB (aO 18446744073709551616 T++List.replicate (M+1-(aO 18446744073709551616 T).length) 0) (aO 18446744073709551616 (bN s)) 1 0;generalize ig 18446744073709551616 (aO 18446744073709551616 T++List.replicate (M+1-(aO 18446744073709551616 T).length) 0) (aO 18446744073709551616 (bN s)) 1 0=Z at*;have hcz:eh Z=aO 18446744073709551616 (T+bN s):=by rw [jf ZB hpd,hadd]
   have hcl:=eM Z;refine aj ?_;refine a0 hh (gg _ _ _ Z _ (hh.ar (i:=0) rfl) (ZM _) ZB) rfl ?_;intro w27 hh;replace hh:=(hh.Im hpl).sub (acv [_] _);rw [hcz] at*;refine aj ?_;refine ⟨⟨i+1,_,_,T+bN s,ZB,rfl,hT2.symm,rfl,ZB,hh⟩,by show n-(i+1)<n-i;omega, ?_⟩;exact dh
  ·refine aj ?_;refine a0 hh (fF _ _ _ (aO 18446744073709551616 T) _ (hh.ar (i:=0) rfl) (gN _) (hh.fG (i:=0) rfl) ZB) rfl ?_;intro w30 hh;rw [eA];refine aj ?_;rw [ZO ZB] at hT;rw [hT];exact ⟨rfl,hh.below⟩
theorem ED (s:ByteArray) (l h:Nat):s.extract l h=str ((s.data.toList.take h).drop l):=by
 apply vQ;rw [dx];simp [ByteArray.extract,ByteArray.copySlice,List.drop_take]
def Vg:Value→Nat
 |.string t=>t.size
 |_=>0
theorem vm (s:ByteArray) (w:World):
  Calls Tryz.prog 235 #[.string s,.int .u8 ((0:UInt8).toNat:Int)] w fun e w'=>e=.returned (.string (sN (bN s)))∧Below w.heap.size w w':=by
 have hh:=Hp.start w;refine ae (N:=17) (l:=[.string s,.int .u8 ((0:UInt8).toNat:Int)]) Tryz.func235 rfl rfl (by simp) ?_;refine aj ?_;refine aD [0,5,6,7,8,9,10,11,12,13,14,15] 0
  (fun v w'=>∃l:List UInt8,v=.string (str l)∧l.length≤s.size∧bn l=bN s∧w'=w)
  (fun v _=>Vg v) ?_ ?_
 ·exact ⟨s.data.toList,by rw [Nj];rfl,by rw [eS];exact ZM _,rfl,rfl⟩
 ·rintro ρ' v w' ⟨l,rfl,hl,hb,rfl⟩;have hsz:=iI l
  cases l with
  |nil=>
   refine aj ?_;rw [sN,←hb];exact ⟨rfl,hh.below⟩
  |cons c l=>
   have hc0:(str (c::l)).data.toList[(0:Int).toNat]?=some c:=by rw [dx];rfl
   have hc8:=c.toNat_lt;have hlen:(str (c::l)).size=l.length+1:=by rw [hsz];rfl
   have hz:(0:UInt8).toNat=0:=rfl;by_cases h0:c=0
   ·subst h0;refine aj ?_;refine tE (l:=1) (h:=(str ((0:UInt8)::l)).size) bj.out rfl ⟨_,_,rfl,ZB⟩ rfl ZB ZB ZC ?_;refine aj ?_;rw [ED,dx,ZO (by rw [hlen];simp),List.drop_succ_cons,ab6];refine ⟨⟨l,rfl,by simp at hl;omega,by rw [←hb,NI],rfl⟩, ?_, ?_⟩
    ·show (str l).size<(str (0::l)).size;rw [hlen,iI];omega
    exact ZE
   ·have hcn:c.toNat≠0:=fun h=>h0 (acG.1 h);refine aj ?_;rw [sN,←hb,WN (by simpa using h0)];exact ⟨rfl,hh.below⟩
theorem u5 (s:ByteArray) (w:World):
  Calls Tryz.prog 214 #[.string s,.string (ByteArray.mk #[0])] w fun e w'=>e=.returned (.string (sN (bN s)))∧Below w.heap.size w w':=by
 have hh:=Hp.start w;have hne:¬ByteArray.mk #[(0:UInt8)]=ByteArray.mk #[]:=by intro h;injection h with h;simp at h
 have hsz1:(ByteArray.mk #[(0:UInt8)]).size=1:=rfl;have hc0:(ByteArray.mk #[(0:UInt8)]).data.toList[(0:Int).toNat]?=some 0:=rfl;have hz:(0:UInt8).toNat=0:=rfl;by_cases h0:s=ByteArray.mk #[]
 ·subst h0;refine ae (N:=37) (l:=[.string (ByteArray.mk #[]),.string (ByteArray.mk #[0])]) Tryz.func214 rfl rfl (by simp) ?_;refine aj ?_;refine jm rfl rfl (by first|rfl|assumption|decide) ZC ?_;refine aj ?_;rw [show bN (ByteArray.mk #[])=0 from rfl,kt];exact ⟨rfl,hh.below⟩
 ·refine ae (N:=37) (l:=[.string s,.string (ByteArray.mk #[0])]) Tryz.func214 rfl rfl (by simp) ?_;refine aj ?_;refine ji rfl rfl (by first|assumption|decide) ZC ?_;refine aj ?_
  (first|refine jm rfl rfl (by first|rfl|assumption|decide) ZC ?_|refine ji rfl rfl (by first|assumption|decide) ZC ?_)
  refine aj ?_;refine a0 hh (vm s _) rfl ?_;intro w25 hh;refine aj ?_;exact ⟨rfl,hh.below⟩
theorem lW (s:ByteArray) (w:World):
  Calls Tryz.prog 180 #[.string s] w fun e w'=>e=.returned (.string (sN (bN s)))∧Below w.heap.size w w':=by
 have hh:=Hp.start w;refine ae (N:=5) (l:=[.string s]) Tryz.func180 rfl rfl (by simp) ?_;refine aj ?_;refine a0 hh (u5 s _) rfl ?_;intro w4 hh;refine aj ?_;exact ⟨rfl,hh.below⟩
variable {z:Int}
def iv (s:Bool) (m:ByteArray):Int:=if s then -(bN m:Int) else bN m
def iN (z:Int):Bool:=decide (z<0)
def iM (z:Int):ByteArray:=sN z.natAbs
theorem dI (z:Int):iv (iN z) (iM z)=z:=by
 unfold iv iN iM;rw [fH];by_cases h:z<0
 ·rw [ZX h,ZH rfl];omega
 ·rw [Z3 h,ZG (by simp)];omega
theorem uG:iM z=ByteArray.mk #[]↔z=0:=by
 rw [iM,←kt];constructor
 ·intro h;have:=Ga h;omega
 ·intro h;rw [h];rfl
theorem k7 (s:Bool) (m:ByteArray):(iv s m).natAbs=bN m:=by
 unfold iv;split<;>omega
theorem GW (s:Bool) (m:ByteArray):iM (iv s m)=sN (bN m):=by rw [iM,k7]
theorem TK (s:Bool) (m:ByteArray):iN (iv s m)=(s && decide (bN m≠0)):=by
 unfold iN iv;rw [Bool.eq_iff_iff,Z7,aad,aad]
 cases s
 ·simp only [acK,if_false,false_and,iff_false];omega
 ·simp only [if_true,true_and];omega
theorem kG (s:Bool) (m:ByteArray) (w:World):
  Calls Tryz.prog 135 #[.agg #[.bool s,.string m]] w fun e w'=>e=.returned (.agg #[.string m,.bool s])∧Below w.heap.size w w':=by
 have hh:=Hp.start w;refine ae (N:=8) (l:=[.agg #[.bool s,.string m]]) Tryz.func135 rfl rfl (by simp) ?_;refine kb ?_;intro b1 w1 hh b2 w2 hh ws hh;exact Tn
theorem dV (s:Bool) (m:ByteArray) (w:World):
  Calls Tryz.prog 130 #[.agg #[.string m,.bool s]] w fun e w'=>e=.returned (.agg #[.bool (iN (iv s m)),.string (iM (iv s m))])∧Below w.heap.size w w':=by
 have hh:=Hp.start w;rw [TK,GW]
 cases s with
 |false=>
  refine ae (N:=15) (l:=[.agg #[.string m,.bool false]]) Tryz.func130 rfl rfl (by simp) ?_;refine bU ?_;intro b1 w1 hh b2 w2 hh;refine a0 hh (lW m _) rfl ?_;intro w6 hh;exact sG
 |true=>
  by_cases h0:sN (bN m)=ByteArray.mk #[]
  ·refine ae (N:=15) (l:=[.agg #[.string m,.bool true]]) Tryz.func130 rfl rfl (by simp) ?_;refine bU ?_;intro b1 w1 hh b2 w2 hh;refine a0 hh (lW m _) rfl ?_;intro w6 hh;refine aj ?_
   (first|refine jv rfl rfl (by first|rfl|assumption|decide) ZC ?_|refine jj rfl rfl (by first|assumption|decide) ZC ?_)
   refine bJ ?_;intro ws hh;refine sv ?_;exact Sp
  ·refine ae (N:=15) (l:=[.agg #[.string m,.bool true]]) Tryz.func130 rfl rfl (by simp) ?_;refine bU ?_;intro b1 w1 hh b2 w2 hh;refine a0 hh (lW m _) rfl ?_;intro w6 hh;refine aj ?_
   (first|refine jv rfl rfl (by first|rfl|assumption|decide) ZC ?_|refine jj rfl rfl (by first|assumption|decide) ZC ?_)
   refine bJ ?_;intro ws hh;refine sv ?_;exact Se
def Zr (s:Bool) (m:ByteArray):Value:=.agg #[.string m,.bool s]
theorem vh (a b:ByteArray) (w:World) (ha:a.size≤1000000000) (hb:b.size≤1000000000):
  Calls Tryz.prog 200 #[.string a,.string b] w fun e w'=>e=.returned (.int .i64 (jw (bN a) (bN b)))∧Below w.heap.size w w':=by
 have hh:=Hp.start w;refine ae (N:=8) (l:=[.string a,.string b]) Tryz.func200 rfl rfl (by simp) ?_;refine aj ?_;refine a0 hh (Bf a b _ ha hb) rfl ?_;intro w7 hh;refine aj ?_;exact ⟨rfl,hh.below⟩
theorem jg (s:Bool) (m:ByteArray) (w:World):
  Calls Tryz.prog 134 #[.agg #[.bool s,.string m]] w fun e w'=>e=.returned (.agg #[.bool (iN (iv s m)),.string (iM (iv s m))])∧Below w.heap.size w w':=by
 have hh:=Hp.start w;refine ae (N:=6) (l:=[.agg #[.bool s,.string m]]) Tryz.func134 rfl rfl (by simp) ?_;refine bU ?_;intro b1 w1 hh b2 w2 hh;refine a0 hh (kG s m _) rfl ?_;intro w4 hh;refine a0 hh (dV s m _) rfl ?_;intro w5 hh;exact sG
theorem jV (s:Bool) (m:ByteArray) (w:World):
  Calls Tryz.prog 90 #[.agg #[.bool s,.string m]] w fun e w'=>e=.returned (.agg #[.bool (iN (-(iv s m))),.string (iM (-(iv s m)))])∧Below w.heap.size w w':=by
 have hh:=Hp.start w;have e1:iv (!s) m= -(iv s m):=by unfold iv;cases s<;>simp
 refine ae (N:=10) (l:=[.agg #[.bool s,.string m]]) Tryz.func90 rfl rfl (by simp) ?_;refine bU ?_;intro b1 w1 hh b2 w2 hh;refine a0 hh (dV (!s) m _) rfl ?_;intro w9 hh;rw [e1];exact sG
theorem jl (s:Bool) (m:ByteArray) (w:World):
  Calls Tryz.prog 89 #[.agg #[.bool s,.string m]] w fun e w'=>e=.returned (.int .i64 (iv s m).sign)∧Below w.heap.size w w':=by
 have hh:=Hp.start w;by_cases h1:iv s m<0
 ·have hn:iN (iv s m)=true:=ZX h1;refine KP ?_;refine bJ ?_;intro b1 w1 hh;refine a0 hh (jg s m _) rfl ?_;intro w5 hh;rw [hn];refine bU ?_;intro b3 w3 hh ws hh;exact ⟨by rw [abn h1],hh.below⟩
 ·have hn:iN (iv s m)=false:=Z3 h1;by_cases h0:iM (iv s m)=ByteArray.mk #[]
  ·refine KP ?_;refine bJ ?_;intro b1 w1 hh;refine a0 hh (jg s m _) rfl ?_;intro w5 hh;rw [hn];refine bU ?_;intro b3 w3 hh ws hh;refine jm rfl rfl (by first|rfl|assumption|decide) ZC ?_;refine aj ?_;exact ⟨by rw [uG.1 h0];rfl,hh.below⟩
  ·have h2:0<iv s m:=by
    have:iv s m≠0:=fun h=>h0 (uG.2 h);omega
   refine KP ?_;refine bJ ?_;intro b1 w1 hh;refine a0 hh (jg s m _) rfl ?_;intro w5 hh;rw [hn];refine bU ?_;intro b3 w3 hh ws hh;refine ji rfl rfl (by first|assumption|decide) ZC ?_;refine aj ?_;exact ⟨by rw [abt h2],hh.below⟩
theorem cx (z:Int):(iM z).size=(bg z.natAbs+7)/8:=j5 _
def yM (s t:Bool) (a b:ByteArray):Bool:=if s=t then s else if bN a<bN b then t else s
theorem PH (s t:Bool) (a b:ByteArray):iv (yM s t a b) (iM (iv s a+iv t b))=iv s a+iv t b:=by
 unfold iM iv;rw [fH];unfold yM
 cases s<;>cases t<;>simp<;>(try split)<;>(try simp)<;>omega
theorem C4 (s t:Bool) (a b:ByteArray):iv (s !=t) (iM (iv s a*iv t b))=iv s a*iv t b:=by
 rw [iM,abH,k7,k7];unfold iv;rw [fH]
 cases s<;>cases t<;>simp [ab9,Int.neg_mul]
theorem EA (s t:Bool) (a b:ByteArray) (w:World) (ha:a.size≤1000000000) (hb:b.size≤1000000000):
  Calls Tryz.prog 162 #[.agg #[.string a,.bool s],.agg #[.string b,.bool t]] w fun e w'=>e=.returned (.agg #[.string (iM (iv s a+iv t b)),.bool (yM s t a b)])∧Below w.heap.size w w':=by
 have hh:=Hp.start w;have hiv:∀(u:Bool) (n:Nat) (z:Int),(z=if u then -(n:Int) else n)→sN n=iM z:=by
  intro u n z hz;have h1:z.natAbs=n:=by rw [hz];split<;>omega
  rw [iM,h1]
 by_cases hst:s=t
 ·subst hst;have e1:=hiv s (bN a+bN b) (iv s a+iv s b) (by unfold iv;split<;>omega);refine ae (N:=41) (l:=[.agg #[.string a,.bool s],.agg #[.string b,.bool s]]) Tryz.func162 rfl rfl (by simp) ?_;refine kb ?_;intro b2 w2 hh b3 w3 hh b4 w4 hh;refine Il bj.out rfl rfl (by first|rfl|assumption) ZC ?_;refine aj ?_;refine aw 8 [[(2,none)],[(12,some 0)],[(3,none)],[(14,some 2)],[(13,some 1),(15,some 3)],[(16,some 4)],[(2,none)],[(18,some 6)]] [(7,19),(6,18),(5,17),(4,16),(3,15),(2,14),(1,13),(0,12)] hh mixed ZD ?_;refine cK ?_;refine ee 2 ?_;refine cK ?_;refine ee 1 ?_;refine vG [_,_] ?_;refine aM (i:=5) (Is (.string (sN (bN a+bN b)))) Is.ext ?_ ?_
  ·intro ρ1 w1 hj hR;obtain ⟨A16,c16,h16,s16⟩:=hR.1;exact bI rfl (a8 ak.out (av h16 bh)) (AD A16 2 c16 [a,b] _ s16 ZB (by simp;omega)) (fun _ _ hq=>⟨_,hq.1,hq.2,rfl⟩)
  refine cK ?_;refine ee 2 ?_;refine au ?_;intro f W hJ hV;have hb_2:=hJ.bl;obtain ⟨v19,v18,v17,v16,v15,v14,v13,v12,_⟩:=hV;obtain ⟨A16,c16,e16,f16⟩:Rows _ _ _ (f 4) W:=v16;replace hh:=hJ.hp;refine az (aH (aa v19 (aa v18 (aa v17 (aa e16 (aa v15 (aa v14 (aa v13 (aa v12 ay))))))))) ?_;dsimp only [bf];clear e16 hJ;refine bJ ?_;intro ws hh;refine sv ?_;rw [e1,yM,ZH rfl];exact ⟨rfl,hh.below⟩
 ·by_cases hlt:bN a<bN b
  ·have e1:=hiv t (bN b-bN a) (iv s a+iv t b) (by unfold iv;cases s<;>cases t<;>simp at hst ⊢ <;>omega);refine ae (N:=41) (l:=[.agg #[.string a,.bool s],.agg #[.string b,.bool t]]) Tryz.func162 rfl rfl (by simp) ?_;refine kb ?_;intro b2 w2 hh b3 w3 hh b4 w4 hh;refine Iy ?_;refine aj ?_;refine a0 hh (vh a b _ ha hb) rfl ?_;intro w25 hh;rw [lu hlt];refine bU ?_;intro ws hh ws hh;refine a0 hh (su b a _ hb ha) rfl ?_;intro w34 hh;refine bJ ?_;intro ws hh;refine sv ?_;rw [e1,yM,ZG hst,ZH hlt];exact ⟨rfl,hh.below⟩
  ·have e1:=hiv s (bN a-bN b) (iv s a+iv t b) (by unfold iv;cases s<;>cases t<;>simp at hst ⊢ <;>omega);have hc:¬jw (bN a) (bN b)<0:=by unfold jw;split<;>(try split)<;>omega
   refine ae (N:=41) (l:=[.agg #[.string a,.bool s],.agg #[.string b,.bool t]]) Tryz.func162 rfl rfl (by simp) ?_;refine kb ?_;intro b2 w2 hh b3 w3 hh b4 w4 hh;refine Iy ?_;refine aj ?_;refine a0 hh (vh a b _ ha hb) rfl ?_;intro w25 hh;refine aj ?_;refine a0 hh (su a b _ ha hb) rfl ?_;intro w34 hh;refine bJ ?_;intro ws hh;refine sv ?_;rw [e1,yM,ZG hst,ZG hlt];exact ⟨rfl,hh.below⟩
theorem rH (s t:Bool) (a b:ByteArray) (w:World) (ha:a.size≤1000000000) (hb:b.size≤1000000000):
  Calls Tryz.prog 136 #[.agg #[.string a,.bool s],.agg #[.string b,.bool t]] w fun e w'=>e=.returned (.agg #[.string (iM (iv s a*iv t b)),.bool (s !=t)])∧Below w.heap.size w w':=by
 have hh:=Hp.start w;have e0:(iv s a*iv t b).natAbs=bN a*bN b:=by rw [abH,k7,k7]
 have e1:iM (iv s a*iv t b)=sN (bN a*bN b):=by rw [iM,e0]
 refine ae (N:=16) (l:=[.agg #[.string a,.bool s],.agg #[.string b,.bool t]]) Tryz.func136 rfl rfl (by simp) ?_;refine kb ?_;intro b2 w2 hh b3 w3 hh b4 w4 hh;refine aw 10 [[(2,none)],[(5,some 0)],[(3,none)],[(7,some 2)],[(6,some 1),(8,some 3)],[(2,none)],[(10,some 5)],[(3,none)],[(12,some 7)],[(11,some 6),(13,some 8)]] [(9,14),(8,13),(7,12),(6,11),(5,10),(4,9),(3,8),(2,7),(1,6),(0,5)] hh mixed ZD ?_;refine cK ?_;refine ee 2 ?_;refine cK ?_;refine ee 1 ?_;refine dC (fun _ hj=>z9 a b _ ha hb) ?_;refine cK ?_;refine ee 2 ?_;refine cK ?_;refine ee 1 ?_;refine aV (i:=9) (fun ρ1 w1 hj hR=>mO bj.out (show ρ1 11=Value.bool _ from hR.1) (show ρ1 13=Value.bool _ from hR.2.1)) ?_;refine au ?_;intro f W hJ hV;have hb_1:=hJ.bl;obtain ⟨v14,v13,v12,v11,v10,v9,v8,v7,v6,v5,_⟩:=hV;replace hh:=hJ.hp;refine RH ?_;dsimp only [bf];clear hJ;refine bJ ?_;intro ws hh;refine sv ?_;rw [e1];exact ⟨rfl,hh.below⟩
theorem md (n:Int) (w:World) (h1: -9223372036854775808≤n) (h2:n≤9223372036854775807):
  Calls Tryz.prog 79 #[.int .i64 n] w fun e w'=>e=.returned (.agg #[.bool (iN n),.string (iM n)])∧Below w.heap.size w w':=by
 have hh:=Hp.start w;by_cases h0:n<0
 ·have e1:iv true (sN n.natAbs)=n:=by unfold iv;rw [fH,ZH rfl];omega
  have hw:IntKind.u64.wrap n=((18446744073709551616-n.natAbs:Nat):Int):=by
   rw [show n=((18446744073709551616-n.natAbs:Nat):Int)+ -((18446744073709551616:Nat):Int) by omega];have:=UK.wrap_add (k:=.u64) (((18446744073709551616-n.natAbs:Nat):Int)+ -((18446744073709551616:Nat):Int));rw [←this,Int.neg_add_cancel_right,UK.rC ZB];omega
  have hn:(18446744073709551616-(18446744073709551616-n.natAbs)) % 18446744073709551616=n.natAbs:=ZB;refine ae (N:=16) (l:=[.int .i64 n]) Tryz.func79 rfl rfl (by simp) ?_;refine bJ ?_;intro b2 w2 hh;rw [hw];refine Lw rfl ZB ZC ?_;rw [hn];skip;refine a0 hh (tQ n.natAbs _ ZB) rfl ?_;intro w8 hh;refine aj ?_;refine a0 hh (dV true (sN n.natAbs) _) rfl ?_;intro w10 hh;rw [e1];exact sG
 ·obtain ⟨m,rfl⟩:=acZ (by omega:0≤n);have e1:iv false (sN m)=m:=by unfold iv;rw [fH];simp
  have hm:m<18446744073709551616:=ZB;refine ae (N:=16) (l:=[.int .i64 (m:Int)]) Tryz.func79 rfl rfl (by simp) ?_;refine sr ?_;refine x9 hh ?_;intro b2 w2 hh;refine aN (bX (sr (mI ?_)));refine nC (aN (cF (dP (eF (sr (mI ?_))))));refine lL ?_;refine a0 hh (tQ m _ hm) rfl ?_;intro w13 hh;refine aj ?_;refine a0 hh (dV false (sN m) _) rfl ?_;intro w15 hh;rw [e1];exact sG
structure IR where
 neg:Bool
 aW:ByteArray
def IR.cells (a:IR):List Value:=[.bool a.neg,.string a.aW]
def IR.v (a:IR):Int:=iv a.neg a.aW
def iR (z:Int):IR:=⟨iN z,iM z⟩
theorem U7 (z:Int):(iR z).v=z:=dI z
theorem IR.len (a:IR):a.cells.length=2:=rfl
theorem kv (x y:Int):bg (x+y).natAbs≤max (bg x.natAbs) (bg y.natAbs)+1:=by
 apply di;have h1:=cu x.natAbs;have h2:=cu y.natAbs;have h3:2^bg x.natAbs≤2^max (bg x.natAbs) (bg y.natAbs):=aao ZB (Nat.le_max_left _ _);have h4:2^bg y.natAbs≤2^max (bg x.natAbs) (bg y.natAbs):=aao ZB (Nat.le_max_right _ _);rw [aar];omega
theorem fU (s:Bool) (m:ByteArray):bg (iv s m).natAbs≤8*m.size:=by rw [k7];exact gZ m
theorem JU (l:List Int) (x:Int):(l++[x]).sum=l.sum+x:=by simp
theorem qo (L:Option Addr) (n c:Nat) (l:List IR) (w:World) (hS:Sl w L n 2 (ao IR.cells l)) (hn:n≤1000000) (hs:∀s∈l,s.aW.size≤100000000):
  Calls Tryz.prog 112 #[.slice L n c] w fun e w'=>e=.returned (.agg #[.bool (iN (l.map IR.v).sum),.string (iM (l.map IR.v).sum)])∧Below w.heap.size w w':=by
 have hl:=hS.a6 IR.len ZB;have hh:=Hp.start w;refine ae (N:=19) (l:=[.slice L n c]) Tryz.func112 rfl rfl (by simp) ?_;refine bU ?_;intro b2 w2 hh b3 w3 hh;refine aD [5,8,9,10,11,12,13,14,15,16] 8
  (fun j w'=>∃(i:Nat) (u:Bool) (S:Int),i≤n∧j=.int .i64 i∧S=((l.take i).map IR.v).sum∧iv u (iM S)=S∧bg S.natAbs≤800000000+i∧Hp w [.blk b3 162 [.string (iM S),.bool u] (0,0),.blk b2 31 [.bool false,.string (ByteArray.mk #[])] (0,0)] w')
  (fun j _=>n-(intOf j).toNat) ?_ ?_
 ·exact ⟨0,false,0,ZK _,rfl,rfl,by rw [iM];exact aat _ (fH 0),by simp [mh],by rw [iM,Int.natAbs_zero,kt];exact hh⟩
 ·clear hh;rintro ρ' j w' ⟨i,u,S,hi,rfl,hS2,hu,hb,hh⟩;by_cases hlt:i<n
  ·obtain ⟨x,hx⟩:=ah (l:=l) (k:=i) ZB;obtain ⟨ad,rfl,hr⟩:=hS.at_ ZB;have hxs:=hs x (ZL hx);have hS3:((l.take (i+1)).map IR.v).sum=S+x.v:=by rw [al hx,aaG,acb,JU,hS2]
   have hms:(iM S).size≤1000000000:=by rw [cx];omega
   have hbx:=fU x.neg x.aW;have hba:=kv S x.v;have hpl:=PH u x.neg (iM S) x.aW;rw [hu] at hpl;have hwc:=fun w1=>EA u x.neg (iM S) x.aW w1 hms ZB;rw [hu] at hwc;refine aj ?_;refine bk (vs:=[_,_]) aC.out rfl (((hr.ext hh.below).recAt IR.len hx)) rfl ZC ?_;refine bU ?_;intro b5 w5 hh ws hh;refine aw 3 [[(3,none)],[(5,none)],[(13,some 1)]] [(2,14),(1,13),(0,12)] hh mixed ZD ?_;refine df 1 [_,_] ?_;refine df 0 [_,_] ?_;refine dC (fun _ hj=>kG x.neg x.aW _) ?_;refine au ?_;intro f W hJ hV;have hb_5:=hJ.bl;obtain ⟨v14,v13,v12,_⟩:=hV;replace hh:=hJ.hp;refine Hl ?_;dsimp only [bf];clear hJ;refine a0 hh (hwc _) rfl ?_;intro w15 hh;exact TD
  ·refine aj ?_;refine a0 hh (dV u (iM S) _) rfl ?_;intro w18 hh;exact Wr
theorem kg (s:Bool) (b:ByteArray):(iM (-(iv s b))).size≤b.size:=by
 have:=fU s b;rw [cx,Int.natAbs_neg];omega
theorem qb (s t:Bool) (a b:ByteArray) (w:World) (ha:a.size≤100000000) (hb:b.size≤100000000):
  Calls Tryz.prog 117 #[.agg #[.bool s,.string a],.agg #[.bool t,.string b]] w fun e w'=>e=.returned (.agg #[.bool (iN (iv s a-iv t b)),.string (iM (iv s a-iv t b))])∧Below w.heap.size w w':=by
 have hh:=Hp.start w;have h1:=kg t b;have e1:([IR.mk s a,iR (-(iv t b))].map IR.v).sum=iv s a-iv t b:=by
  simp only [aaj,aaC,List.sum_cons,List.sum_nil,U7];simp only [IR.v];omega
 refine ae (N:=10) (l:=[.agg #[.bool s,.string a],.agg #[.bool t,.string b]]) Tryz.func117 rfl rfl (by simp) ?_;refine kb ?_;intro b2 w2 hh b3 w3 hh b4 w4 hh;refine LL ?_;refine df 2 [_,_] ?_;refine df 1 [_,_] ?_;refine dC (fun _ hj=>jV t b _) ?_;refine au ?_;intro f W hJ hV;have hb_1:=hJ.bl;obtain ⟨v7,v6,v5,_⟩:=hV;replace hh:=hJ.hp;refine wD ?_;dsimp only [bf];clear hJ;refine tO ?_;intro b8 w8 hh;refine a0 hh (qo _ 2 _ [IR.mk s a,iR (-(iv t b))] _ (hh.ar (i:=0) rfl) ZB (by simp [iR];omega)) rfl ?_;intro w9 hh;rw [e1];exact Km
theorem Fu (s t:Bool) (a b:ByteArray) (w:World) (ha:a.size≤100000000) (hb:b.size≤100000000):
  Calls Tryz.prog 69 #[.agg #[.bool s,.string a],.agg #[.bool t,.string b]] w fun e w'=>e=.returned (.int .i64 (iv s a-iv t b).sign)∧Below w.heap.size w w':=by
 have hh:=Hp.start w;refine ae (N:=9) (l:=[.agg #[.bool s,.string a],.agg #[.bool t,.string b]]) Tryz.func69 rfl rfl (by simp) ?_;refine bU ?_;intro b2 w2 hh b3 w3 hh;refine a0 hh (qb s t a b _ ha hb) rfl ?_;intro w7 hh;refine a0 hh (jl _ _ _) rfl ?_;intro w8 hh;rw [dI];refine aj ?_;exact ⟨rfl,hh.below⟩
theorem MV (a b:Nat):bg (a*b)≤bg a+bg b:=by
 apply di;rw [aag];exact ada (cu a) (cu b)
theorem m9 (a b:Int):bg (a*b).natAbs≤bg a.natAbs+bg b.natAbs:=by rw [abH];exact MV _ _
def oJ:List Int→Int
 |[]=>1
 |x::l=>x*oJ l
theorem Fa (l:List Int) (x:Int):oJ (l++[x])=oJ l*x:=by
 induction l with
 |nil=>simp [oJ]
 |cons y l ih=>simp only [ZR,oJ,ih,Int.mul_assoc]
theorem DU (l:List Nat) (i:Nat):(l.take i).sum≤l.sum:=by
 rw [←List.sum_append_nat.symm.trans (aat List.sum (aaL i l))];omega
theorem sj:bg 1=1:=by decide+kernel
theorem Fm (L:Option Addr) (n c:Nat) (l:List IR) (w:World) (hS:Sl w L n 2 (ao IR.cells l)) (hn:n≤1000000) (hs:(l.map fun a=>a.aW.size).sum≤100000000):
  Calls Tryz.prog 91 #[.slice L n c] w fun e w'=>e=.returned (.agg #[.bool (iN (oJ (l.map IR.v))),.string (iM (oJ (l.map IR.v)))])∧Below w.heap.size w w':=by
 have hl:=hS.a6 IR.len ZB;have hh:=Hp.start w;have hsum:=DU (l.map fun a=>a.aW.size);refine ae (N:=21) (l:=[.slice L n c]) Tryz.func91 rfl rfl (by simp) ?_;refine bJ ?_;intro b2 w2 hh;refine a0 hh (md 1 _ ZB ZB) rfl ?_;intro w6 hh;refine a0 hh (kG _ _ _) rfl ?_;intro w7 hh;refine bU ?_;intro b3 w3 hh ws hh;refine aD [5,10,11,12,13,14,15,16,17,18] 10
  (fun j w'=>∃(i:Nat) (u:Bool) (S:Int),i≤n∧j=.int .i64 i∧S=oJ ((l.take i).map IR.v)∧iv u (iM S)=S∧bg S.natAbs≤1+8*((l.map fun a=>a.aW.size).take i).sum∧Hp w [.blk b3 162 [.string (iM S),.bool u] (0,0),.blk b2 31 [.bool false,.string (ByteArray.mk #[])] (0,0)] w')
  (fun j _=>n-(intOf j).toNat) ?_ ?_
 ·exact ⟨0,_,1,ZK _,rfl,rfl,dI 1,by rw [Int.natAbs_one,sj];omega,hh⟩
 ·clear hh;rintro ρ' j w' ⟨i,u,S,hi,rfl,hS2,hu,hb,hh⟩;by_cases hlt:i<n
  ·obtain ⟨x,hx⟩:=ah (l:=l) (k:=i) ZB;obtain ⟨ad,rfl,hr⟩:=hS.at_ ZB;have hsi:=hsum i;have hsi2:=hsum (i+1);have hsz:((l.map fun a=>a.aW.size).take (i+1)).sum=((l.map fun a=>a.aW.size).take i).sum+x.aW.size:=by
    rw [al (x:=x.aW.size) (by rw [ZW,hx];rfl),tk]
   have hS3:oJ ((l.take (i+1)).map IR.v)=S*x.v:=by rw [al hx,aaG,acb,Fa,hS2]
   have hms:(iM S).size≤1000000000:=by rw [cx];omega
   have hbx:=fU x.neg x.aW;have hba:=m9 S x.v;have hpl:=C4 u x.neg (iM S) x.aW;rw [hu] at hpl;have hwc:=fun w1=>rH u x.neg (iM S) x.aW w1 hms ZB;rw [hu] at hwc;refine aj ?_;refine bk (vs:=[_,_]) aC.out rfl (((hr.ext hh.below).recAt IR.len hx)) rfl ZC ?_;refine bU ?_;intro b5 w5 hh ws hh;refine aw 3 [[(3,none)],[(5,none)],[(15,some 1)]] [(2,16),(1,15),(0,14)] hh mixed ZD ?_;refine df 1 [_,_] ?_;refine df 0 [_,_] ?_;refine dC (fun _ hj=>kG x.neg x.aW _) ?_;refine au ?_;intro f W hJ hV;have hb_5:=hJ.bl;obtain ⟨v16,v15,v14,_⟩:=hV;replace hh:=hJ.hp;refine az (aH (aa v16 (aa v15 (aa v14 ay)))) ?_;dsimp only [bf];clear hJ;refine a0 hh (hwc _) rfl ?_;intro w17 hh;exact TD
  ·refine aj ?_;refine a0 hh (dV u (iM S) _) rfl ?_;intro w20 hh;exact Wr
theorem Dv (M k:Nat) (h:2^k∣M): -((M/2^k:Nat):Int)= -(M:Int)/2^k:=by
 obtain ⟨q,rfl⟩:=h;have hp:(0:Int)<2^k:=Int.pow_pos ZB;rw [Nat.mul_div_cancel_left _ (aak ZB),aaA,←ab9,ac4];exact (Int.mul_ediv_cancel_left _ (by exact Int.ne_of_gt hp)).symm
theorem Bi (M k:Nat) (h:¬2^k∣M): -((M/2^k:Nat):Int)-1= -(M:Int)/2^k:=by
 have hp:(0:Int)<2^k:=Int.pow_pos ZB;have h1:=aaY M (2^k);have h2:=aab M (aak (n:=k) (show 0<2 by omega));have h3:M % 2^k≠0:=fun h0=>h (Nat.dvd_of_mod_eq_zero h0);have hc:((2^k:Nat):Int)=2^k:=by simp
 symm
 rw [Int.ediv_eq_iff_of_pos hp,←hc];have h4:(M:Int)=(2^k:Nat)*(M/2^k:Nat)+(M % 2^k:Nat):=by rw [←aaA,←aa3,h1]
 generalize hK:((2^k:Nat):Int)=K at*;generalize ((M/2^k:Nat):Int)=q at*;have e:(-q-1)*K= -(K*q)-K:=by rw [Int.sub_mul,Int.neg_mul,acL q];omega
 have e2:(-q-1+1)*K= -(K*q):=by rw [Int.sub_add_cancel,Int.neg_mul,acL]
 omega
theorem Lj {M:Nat} (h0:M≠0):2^k∣M↔k≤tz M:=by
 obtain ⟨m,hm⟩:=uB h0;generalize tz M=t at*;constructor
 ·intro h
  rcases aap t k with hlt|hge
  ·exfalso;obtain ⟨q,hq⟩:=h;rw [hm,show k=t+(1+(k-t-1)) by omega,aag,aag,aaE] at hq;have:=Nat.eq_of_mul_eq_mul_left (aak ZB) hq;rw [Nat.pow_one,aaE] at this;omega
  ·exact hge
 ·intro h;rw [hm];exact Nat.dvd_trans (Nat.pow_dvd_pow 2 h) (Nat.dvd_mul_right _ _)
theorem rA (a:Int) (n:Nat):bg (a^n).natAbs≤1+n*bg a.natAbs:=by
 induction n with
 |zero=>simp [sj]
 |succ n ih=>
  rw [Int.pow_succ];have:=m9 (a^n) a;rw [aaS];omega
theorem Fx (s:Bool) (a:ByteArray) (n:Int) (w:World) (h0:n.toNat*a.size≤100000000) (hn:n≤1000000000) (ha:a.size≤100000000):
  Calls Tryz.prog 133 #[.agg #[.bool s,.string a],.int .i64 n] w fun e w'=>e=.returned (.agg #[.bool (iN (iv s a^n.toNat)),.string (iM (iv s a^n.toNat))])∧Below w.heap.size w w':=by
 have hh:=Hp.start w;have e1:(if (0:Int)>n then 0 else n)=(n.toNat:Int):=by split<;>omega
 have hm:n.toNat≤1000000000:=ZB;generalize n.toNat=m at*;refine ae (N:=19) (l:=[.agg #[.bool s,.string a],.int .i64 n]) Tryz.func133 rfl rfl (by simp) ?_;refine bU ?_;intro b2 w2 hh b4 w4 hh;refine a0 hh (md 1 _ ZB ZB) rfl ?_;intro w6 hh;refine a0 hh (kG _ _ _) rfl ?_;intro w7 hh;refine bU ?_;intro b5 w5 hh ws hh;rw [e1];refine aD [10,11,12,13,14,15,16] 10
  (fun j w'=>∃(i:Nat) (u:Bool) (S:Int),i≤m∧j=.int .i64 i∧S=iv s a^i∧iv u (iM S)=S∧Hp w [.blk b5 162 [.string (iM S),.bool u] (0,0),.blk b4 31 [.bool false,.string (ByteArray.mk #[])] (0,0),.blk b2 31 [.bool s,.string a] (0,0)] w')
  (fun j _=>m-(intOf j).toNat) ?_ ?_
 ·exact ⟨0,_,1,ZK _,rfl,by rw [Int.pow_zero],dI 1,hh⟩
 ·clear hh;rintro ρ' j w' ⟨i,u,S,hi,rfl,hS2,hu,hh⟩;by_cases hlt:i<m
  ·have hb:=rA (iv s a) i;rw [←hS2] at hb;have hbx:=fU s a;have hle:i*bg (iv s a).natAbs≤m*(8*a.size):=abz hi hbx;rw [acf] at hle;have hms:(iM S).size≤1000000000:=by rw [cx];omega
   have hpl:=C4 u s (iM S) a;rw [hu] at hpl;have hwc:=fun w1=>rH u s (iM S) a w1 hms ZB;rw [hu] at hwc;refine aj ?_;refine aw 3 [[(5,none)],[(2,none)],[(13,some 1)]] [(2,14),(1,13),(0,12)] hh mixed ZD ?_;refine df 0 [_,_] ?_;refine df 2 [_,_] ?_;refine dC (fun _ hj=>kG s a _) ?_;refine au ?_;intro f W hJ hV;have hb_4:=hJ.bl;obtain ⟨v14,v13,v12,_⟩:=hV;replace hh:=hJ.hp;refine Hl ?_;dsimp only [bf];clear hJ;refine a0 hh (hwc _) rfl ?_;intro w15 hh;refine bJ ?_;intro ws hh;refine ⟨⟨i+1,_,_,ZB,rfl,by rw [Int.pow_succ,hS2],hpl,hh⟩,by show m-(i+1)<m-i;omega, ?_⟩;exact dh
  ·obtain rfl:i=m:=ZB;refine aj ?_;refine a0 hh (dV u (iM S) _) rfl ?_;intro w18 hh;rw [hu,hS2];exact Km
theorem UF (s:Bool) (a:ByteArray) (m:Nat):iv s (sN (bN a*2^m))=iv s a*2^m:=by
 unfold iv;rw [fH]
 cases s<;>simp [aaA,Int.neg_mul]
theorem GD (s:Bool) (a:ByteArray) (m:Nat) (w:World) (ha:a.size≤100000000) (hm:m≤1000000000):
  Calls Tryz.prog 124 #[.agg #[.bool s,.string a],.int .i64 (m:Int)] w fun e w'=>e=.returned (.agg #[.bool (iN (iv s a*2^m)),.string (iM (iv s a*2^m))])∧Below w.heap.size w w':=by
 have hh:=Hp.start w;refine ae (N:=47) (l:=[.agg #[.bool s,.string a],.int .i64 (m:Int)]) Tryz.func124 rfl rfl (by simp) ?_;refine bU ?_;intro b2 w2 hh b4 w4 hh;refine aw 6 [[(2,none)],[(8,some 0)],[(1,none)],[(9,some 1),(10,some 2)],[(2,none)],[(12,some 4)]] [(5,13),(4,12),(3,11),(2,10),(1,9),(0,8)] hh mixed ZD ?_;refine cK ?_;refine ee 1 ?_;refine cj ?_;refine dC (fun _ hj=>Ba a m _ ZB ZB) ?_;refine cK ?_;refine ee 1 ?_;refine au ?_;intro f W hJ hV;have hb_2:=hJ.bl;obtain ⟨v13,v12,v11,v10,v9,v8,_⟩:=hV;replace hh:=hJ.hp;refine az (aH (aa v13 (aa v12 (aa v11 (aa v10 (aa v9 (aa v8 ay))))))) ?_;dsimp only [bf];clear hJ;refine aj ?_;refine a0 hh (dV s (sN (bN a*2^m)) _) rfl ?_;intro w15 hh;rw [UF];exact sG
theorem Ft (s:Bool) (a:ByteArray) (m:Nat) (w:World) (hT:dO w) (ha:a.size≤100000000) (h0:0<m) (hm:m≤1000000000000):
  Calls Tryz.prog 124 #[.agg #[.bool s,.string a],.int .i64 (-(m:Int))] w fun e w'=>e=.returned (.agg #[.bool (iN (iv s a/2^m)),.string (iM (iv s a/2^m))])∧Below w.heap.size w w':=by
 have hh:=Hp.start w;have e1:(if (-1099511627776:Int)> -(m:Int) then -1099511627776 else -(m:Int))= -(m:Int):=ZG ZB;have e2: -(-(m:Int))=(m:Int):=ZB;have hcs:∀w1,Calls Tryz.prog 171 #[.string a,.int .i64 (-(-(m:Int)))] w1 fun e w'=>e=.returned (.string (sN (bN a/2^m)))∧Below w1.heap.size w1 w':=fun w1=>by
  rw [e2];exact AW a m w1 ZB ZB
 cases s with
 |false=>
  have e3:iv false (sN (bN a/2^m))=iv false a/2^m:=by
   unfold iv;rw [fH];simp
  refine ae (N:=47) (l:=[.agg #[.bool false,.string a],.int .i64 (-(m:Int))]) Tryz.func124 rfl rfl (by simp) ?_;refine bU ?_;intro b2 w2 hh b4 w4 hh;rw [e1];refine IE ?_;refine cK ?_;refine ee 1 ?_;refine cj ?_;refine IL ?_;refine dC (fun _ hj=>hcs _) ?_;refine cK ?_;refine ee 1 ?_;refine dB [_,_] ?_;refine dC (fun _ hj=>dV false (sN (bN a/2^m)) _) ?_;refine Ha ?_;refine au ?_;intro f W hJ hV;have hb_4:=hJ.bl;obtain ⟨v5,v26,v25,v24,v23,v22,v21,v20,v19,v18,_⟩:=hV;obtain ⟨b5,e5,hl5,hc5⟩:bC _ _ _ (f 9) W:=v5;replace hh:=hJ.newVar hh hl5 hc5;refine IP ?_;dsimp only [bf];clear e5 hJ;rw [e3];refine bU ?_;intro ws hh ws hh;exact R5
 |true=>
  have hb:=gZ a;have e4:iv true (sN (bN a/2^m))= -((bN a/2^m:Nat):Int):=by
   unfold iv;rw [fH,ZH rfl]
  have e5:iv true a= -(bN a:Int):=by unfold iv;rw [ZH rfl]
  by_cases hz:bN a=0
  ·have e3:iv true (sN (bN a/2^m))=iv true a/2^m:=by
    rw [e4,e5,hz];simp
   refine NF ?_;refine bU ?_;intro b2 w2 hh b4 w4 hh;rw [e1];refine IE ?_;refine cK ?_;refine ee 1 ?_;refine cj ?_;refine IL ?_;refine dC (fun _ hj=>hcs _) ?_;refine cK ?_;refine ee 1 ?_;refine dB [_,_] ?_;refine dC (fun _ hj=>dV true (sN (bN a/2^m)) _) ?_;refine Ha ?_;refine au ?_;intro f W hJ hV;have hb_4:=hJ.bl;obtain ⟨v5,v26,v25,v24,v23,v22,v21,v20,v19,v18,_⟩:=hV;obtain ⟨b5,e5,hl5,hc5⟩:bC _ _ _ (f 9) W:=v5;replace hh:=hJ.newVar hh hl5 hc5;refine IP ?_;dsimp only [bf];clear e5 hJ;rw [e3];refine bJ ?_;intro ws hh;refine a0 hh (nE a _ ZB) rfl ?_;intro w32 hh;rw [hz,mh];exact Km
  ·have hbp:=oL hz;by_cases hd:2^m∣bN a
   ·have e3:iv true (sN (bN a/2^m))=iv true a/2^m:=by
     rw [e4,e5];exact Dv _ _ hd
    have htz:=(Lj hz).1 hd;refine NF ?_;refine bU ?_;intro b2 w2 hh b4 w4 hh;rw [e1];refine IE ?_;refine cK ?_;refine ee 1 ?_;refine cj ?_;refine IL ?_;refine dC (fun _ hj=>hcs _) ?_;refine cK ?_;refine ee 1 ?_;refine dB [_,_] ?_;refine dC (fun _ hj=>dV true (sN (bN a/2^m)) _) ?_;refine Ha ?_;refine au ?_;intro f W hJ hV;have hb_4:=hJ.bl;obtain ⟨v5,v26,v25,v24,v23,v22,v21,v20,v19,v18,_⟩:=hV;obtain ⟨b5,e5,hl5,hc5⟩:bC _ _ _ (f 9) W:=v5;replace hh:=hJ.newVar hh hl5 hc5;refine IP ?_;dsimp only [bf];clear e5 hJ;rw [e3];refine bJ ?_;intro ws hh;refine a0 hh (nE a _ ZB) rfl ?_;intro w32 hh;refine aj ?_;refine a0 hh (kO a _ ZB (hT.hp hh)) rfl ?_;intro w38 hh;exact Km
   ·have e3:iv true (sN (bN a/2^m))-1=iv true a/2^m:=by
     rw [e4,e5];exact Bi _ _ hd
    have htz:tz (bN a)<m:=acM fun h=>hd ((Lj hz).2 h);have hsz:(iM (iv true (sN (bN a/2^m)))).size≤100000000:=by
     have:=re (bN a) m;rw [cx,k7,fH];omega
    have hsub:∀w1,Calls Tryz.prog 117 #[.agg #[.bool (iN (iv true (sN (bN a/2^m)))),.string (iM (iv true (sN (bN a/2^m))))],.agg #[.bool (iN 1),.string (iM 1)]] w1 fun e w'=>e=.returned (.agg #[.bool (iN (iv true a/2^m)),.string (iM (iv true a/2^m))])∧Below w1.heap.size w1 w':=fun w1=>by
     have:=qb (iN (iv true (sN (bN a/2^m)))) (iN 1) (iM (iv true (sN (bN a/2^m)))) (iM 1) w1 hsz (by rw [cx,Int.natAbs_one,sj];omega);rw [dI,dI,e3] at this;exact this
    refine NF ?_;refine bU ?_;intro b2 w2 hh b4 w4 hh;rw [e1];refine IE ?_;refine cK ?_;refine ee 1 ?_;refine cj ?_;refine IL ?_;refine dC (fun _ hj=>hcs _) ?_;refine cK ?_;refine ee 1 ?_;refine dB [_,_] ?_;refine dC (fun _ hj=>dV true (sN (bN a/2^m)) _) ?_;refine Ha ?_;refine au ?_;intro f W hJ hV;have hb_4:=hJ.bl;obtain ⟨v5,v26,v25,v24,v23,v22,v21,v20,v19,v18,_⟩:=hV;obtain ⟨b5,e5,hl5,hc5⟩:bC _ _ _ (f 9) W:=v5;replace hh:=hJ.newVar hh hl5 hc5;refine IP ?_;dsimp only [bf];clear e5 hJ;refine bJ ?_;intro ws hh;refine a0 hh (nE a _ ZB) rfl ?_;intro w32 hh;refine aj ?_;refine a0 hh (kO a _ ZB (hT.hp hh)) rfl ?_;intro w38 hh;refine aj ?_;refine aw 2 [[(5,none)],[]] [(1,44),(0,43)] hh mixed ZD ?_;refine df 0 [_,_] ?_;refine dC (fun _ hj=>md 1 _ ZB ZB) ?_;refine au ?_;intro f W hJ hV;have hb_6:=hJ.bl;obtain ⟨v44,v43,_⟩:=hV;replace hh:=hJ.hp;refine az (aH (aa v44 (aa v43 ay))) ?_;dsimp only [bf];clear hJ;refine a0 hh (hsub _) rfl ?_;intro w45 hh;exact Km
theorem Ub:(2:Rat)≠0:=by decide
theorem two_pos (k:Int):(0:Rat)<2^k:=Rat.zpow_pos ZC
theorem lJ (i p:Int):(Dyadic.ofIntWithPrec i p).toRat=i*2^(-p):=Dyadic.toRat_ofIntWithPrec_eq_mul_two_pow
theorem pD (i p:Int) (n:Nat):Dyadic.ofIntWithPrec (i*2^n) (p+n)=Dyadic.ofIntWithPrec i p:=by
 rw [←Int.shiftLeft_eq];exact Dyadic.ofIntWithPrec_shiftLeft_add
theorem ic (i:Int) {p q:Int} (h:q=p+n):Dyadic.ofIntWithPrec i p=Dyadic.ofIntWithPrec (i*2^n) q:=by
 subst h;exact (pD i p n).symm
theorem rJ (i j p:Int):Dyadic.ofIntWithPrec i p+Dyadic.ofIntWithPrec j p=Dyadic.ofIntWithPrec (i+j) p:=by
 rw [←Dyadic.toRat_inj,Dyadic.toRat_add,lJ,lJ,lJ,Rat.intCast_add,Rat.add_mul]
theorem mY (i p:Int): -Dyadic.ofIntWithPrec i p=Dyadic.ofIntWithPrec (-i) p:=Dyadic.neg_ofIntWithPrec
theorem lr (i j p q:Int):Dyadic.ofIntWithPrec i p*Dyadic.ofIntWithPrec j q=Dyadic.ofIntWithPrec (i*j) (p+q):=by
 rw [←Dyadic.toRat_inj,Dyadic.toRat_mul,lJ,lJ,lJ,Rat.intCast_mul,Int.neg_add,Rat.zpow_add Ub];grind
theorem kU (i j p:Int):Dyadic.ofIntWithPrec i p<Dyadic.ofIntWithPrec j p↔i<j:=by
 rw [←Dyadic.toRat_lt_toRat_iff,lJ,lJ];rw [←Rat.intCast_lt_intCast];constructor
 ·intro h;exact Rat.lt_of_mul_lt_mul_right h (Rat.le_of_lt (two_pos _))
 ·intro h;exact Rat.mul_lt_mul_of_pos_right h (two_pos _)
theorem fk (p:Int):Dyadic.ofIntWithPrec 0 p=0:=rfl
theorem IK {i j p:Int} (h:Dyadic.ofIntWithPrec i p=Dyadic.ofIntWithPrec j p):i=j:=by
 rcases acF i j with h1|h1|h1
 ·rw [←kU i j p,h] at h1;exact absurd h1 (by rw [kU];omega)
 ·exact h1
 ·rw [←kU j i p,h] at h1;exact absurd h1 (by rw [kU];omega)
theorem tU {i p:Int} (h:Dyadic.ofIntWithPrec i p=0):i=0:=IK (p:=p) (by rw [h];rfl)
theorem H3 (n k:Int) (h:n % 2=1):Dyadic.ofOdd n k h=Dyadic.ofIntWithPrec n k:=Dyadic.ofOdd_eq_ofIntWithPrec
theorem Az {i p:Int} (h:i≠0):Dyadic.ofIntWithPrec i p=.ofOdd (i>>>i.trailingZeros) (p-i.trailingZeros) (Int.shiftRight_trailingZeros_mod_two h):=by
 rw [Dyadic.ofIntWithPrec,dif_neg h]
structure NR where
 neg:Bool
 aW:ByteArray
 e:Int
def NR.cells (a:NR):List Value:=[.bool a.neg,.string a.aW,.int .i64 a.e]
theorem NR.len (a:NR):a.cells.length=3:=rfl
theorem NR.one (a:NR):a.cells.all Value.oneCell'=true:=rfl
def NR.i (a:NR):Int:=iv a.neg a.aW
def NR.d (a:NR):Dyadic:=Dyadic.ofIntWithPrec a.i (-a.e)
def nR:Dyadic→NR
 |.zero=>⟨false,ByteArray.mk #[],0⟩
 |.ofOdd n k _=>⟨iN n,iM n, -k⟩
theorem mH:nR 0=⟨false,ByteArray.mk #[],0⟩:=rfl
theorem bE (x:Dyadic):(nR x).d=x:=by
 cases x with
 |zero=>rfl
 |ofOdd n k h=>
  simp only [nR,NR.d,NR.i,dI,acn];exact (H3 n k h).symm
theorem Uq {x y:Dyadic}:nR x=nR y↔x=y:=⟨fun h=>by rw [←bE x,h,bE],fun h=>by rw [h]⟩
theorem V3 (s:Bool) (a:ByteArray):(iv s a).trailingZeros=tz (bN a):=by
 unfold iv;split
 ·rw [Int.trailingZeros_neg];rfl
 ·rfl
theorem II (s:Bool) (a:ByteArray):iv s a=0↔bN a=0:=by
 have:=k7 s a;omega
theorem sF {s:Bool}{a:ByteArray}{e:Int} (h:iv s a≠0):nR (Dyadic.ofIntWithPrec (iv s a) (-e))=⟨iN (iv s a/2^tz (bN a)),iM (iv s a/2^tz (bN a)),e+tz (bN a)⟩:=by
 rw [Az h,nR,Int.shiftRight_eq_div_pow,V3];have e1: -(-e-(tz (bN a):Int))=e+tz (bN a):=ZB;rw [e1,ac4]
 rfl
def Sz (k:Nat) (x:Dyadic):Prop:=∃i:Int,x=Dyadic.ofIntWithPrec i k∧i.natAbs<2^(2*k)
theorem Sz.zero (k:Nat):Sz k 0:=⟨0,rfl,by simpa using aak ZB⟩
theorem Sz.mono {l:Nat}{x:Dyadic} (h:Sz k x) (hl:k≤l):Sz l x:=by
 obtain ⟨i,rfl,hi⟩:=h;refine ⟨i*2^(l-k),ic i ZB, ?_⟩;rw [abH,ab7];have h1:i.natAbs*2^(l-k)<2^(2*k)*2^(l-k):=ab8 hi (aak ZB);rw [←aag] at h1;exact aaF h1 (aao ZB ZB)
theorem Sz.neg {x:Dyadic} (h:Sz k x):Sz k (-x):=by
 obtain ⟨i,rfl,hi⟩:=h;exact ⟨-i,mY _ _,by rw [Int.natAbs_neg];exact hi⟩
theorem Sz.add {x y:Dyadic} (hx:Sz k x) (hy:Sz k y):Sz (k+1) (x+y):=by
 obtain ⟨i,rfl,hi⟩:=hx;obtain ⟨j,rfl,hj⟩:=hy;rw [rJ];refine ⟨(i+j)*2^1,ic _ ZB, ?_⟩;have h1:2^(2*(k+1))=4*2^(2*k):=by rw [show 2*(k+1)=2*k+2 by omega,aag];omega
 rw [h1];omega
theorem Sz.sub {x y:Dyadic} (hx:Sz k x) (hy:Sz k y):Sz (k+1) (x-y):=hx.add hy.neg
theorem Sz.mul {l:Nat}{x y:Dyadic} (hx:Sz k x) (hy:Sz l y):Sz (k+l) (x*y):=by
 obtain ⟨i,rfl,hi⟩:=hx;obtain ⟨j,rfl,hj⟩:=hy;rw [lr];refine ⟨i*j,by rw [aa3], ?_⟩;rw [abH,aaw,aag];exact ada hi hj
theorem mr {i:Int} (h:i≠0):2^i.trailingZeros≤i.natAbs:=by
 have h1:=Int.two_pow_trailingZeros_dvd h;have h2:=Int.natAbs_dvd_natAbs.2 h1;rw [ab7] at h2;exact Nat.le_of_dvd ZB h2
theorem Sz.nr {x:Dyadic} (h:Sz k x):(nR x).aW.size≤(2*k+7)/8∧ -(k:Int)≤(nR x).e∧(nR x).e≤k:=by
 obtain ⟨i,rfl,hi⟩:=h;by_cases h0:i=0
 ·subst h0;rw [fk,mH];exact ⟨ZK _,(by omega: -(k:Int)≤0),(by omega:(0:Int)≤k)⟩
 ·have h2:=mr h0;rw [Az h0,nR];simp only;refine ⟨?_,ZB, ?_⟩
  ·rw [cx];have:bg (i>>>i.trailingZeros).natAbs≤2*k:=by
    apply di;refine aaI ?_ hi;rw [Int.shiftRight_eq_div_pow];exact acw _ _
   omega
  ·have h3:2^i.trailingZeros<2^(2*k):=aaI h2 hi;have:=(Nat.pow_lt_pow_iff_right ZB).1 h3;omega
theorem Sz.raw {a:NR}{E:Nat} (hm:8*a.aW.size≤m) (h1: -(E:Int)≤a.e) (h2:a.e≤E):Sz (m+E) a.d:=by
 refine ⟨a.i*2^(a.e+m+E).toNat,ic _ ZB, ?_⟩;have h3:a.i.natAbs<2^m:=by
  rw [NR.i,k7];refine aaF (cu _) (aao ZB ?_);have:=gZ a.aW;omega
 rw [abH,ab7];have h4:=ab8 h3 (aak (n:=(a.e+m+E).toNat) (show 0<2 by omega));rw [←aag] at h4;exact aaF h4 (aao ZB ZB)
def BK (i n:Int):Int:=if 0≤n then i*2^n.toNat else i/2^(-n).toNat
theorem NZ (n:Int):BK 0 n=0:=by unfold BK;split<;>simp
def db:Dyadic→Int→Int
 |.zero,_=>0
 |.ofOdd n k _,p=>BK n (p-k)
def dE:Dyadic→Dyadic→Int
 |.zero,.zero=>0
 |.zero,.ofOdd _ k _=>k
 |.ofOdd _ k _,.zero=>k
 |.ofOdd _ k _,.ofOdd _ l _=>max k l
theorem o5 (n k p:Int) (h:n % 2=1) (hp:k≤p):Dyadic.ofIntWithPrec (db (.ofOdd n k h) p) p=.ofOdd n k h:=by
 simp only [db];rw [H3,BK,ZH ZB];exact (ic n ZB).symm
theorem Lu (x y:Dyadic):Dyadic.ofIntWithPrec (db x (dE x y)) (dE x y)=x:=by
 cases x with
 |zero=>rfl
 |ofOdd n k h=>
  cases y with
  |zero=>exact o5 _ _ _ _ (Int.le_refl _)
  |ofOdd m l g=>exact o5 _ _ _ _ (Int.le_max_left _ _)
theorem LI (x y:Dyadic):Dyadic.ofIntWithPrec (db y (dE x y)) (dE x y)=y:=by
 cases y with
 |zero=>rfl
 |ofOdd n k h=>
  cases x with
  |zero=>exact o5 _ _ _ _ (Int.le_refl _)
  |ofOdd m l g=>exact o5 _ _ _ _ (Int.le_max_right _ _)
theorem PV (x y:Dyadic):Dyadic.ofIntWithPrec (db x (dE x y)+db y (dE x y)) (dE x y)=x+y:=by
 rw [←rJ,Lu,LI]
theorem LZ (i n:Int):bg (BK i n).natAbs≤bg i.natAbs+n.toNat:=by
 unfold BK;split
 ·rw [abH,ab7];exact iB _ _
 ·have:bg (i/2^(-n).toNat).natAbs≤bg i.natAbs:=di (aaI (acw _ _) (cu _));omega
theorem Hy (x y:Dyadic) (E:Int) (h1: -E≤(nR x).e∧(nR x).e≤E) (h2: -E≤(nR y).e∧(nR y).e≤E): -E≤dE x y∧dE x y≤E:=by
 cases x<;>cases y<;>simp only [nR,dE] at* <;>omega
theorem vC (x:Dyadic) (p:Int):bg (db x p).natAbs≤8*(nR x).aW.size+(p+(nR x).e).toNat:=by
 cases x with
 |zero=>simp [db,mh]
 |ofOdd n k h=>
  have h1:=LZ n (p-k);have h2:=gZ (iM n);rw [iM,fH] at h2;simp only [db,nR];rw [show p+ -k=p-k by omega];rw [←iM] at h2;omega
variable {P:Program}{by' off:Nat}{r:Bool}{zc:List Value}
section
variable {ro:Mode}
theorem Ld {t:TypeId}{cs:Array Value}{v:Value} (ht:dv P t=some (n,false,by',zc)) (hv:cs[off]?=some v) (w:World):(part t cs off).run P w=.ok v w:=by
 simp [part,j0 ht,hv]
theorem K4 {t:TypeId}{cs vs:Array Value} (ht:dv P t=some (n,true,by',zc)) (hv:cs.extract off (off+n)=vs) (w:World):(part t cs off).run P w=.ok (.agg vs) w:=by
 simp [part,j0 ht,fL ht,hv]
theorem XL (n:Nat) (a b:Bool) (w:World):(Op.equalIn (n+1) 4 (.bool a) (.bool b)).run Tryz.prog w=.ok (a==b) w:=by
 simp [Op.equalIn,run_underlying Tryz.underlying4]
theorem XF (n:Nat) (a b:ByteArray) (w:World):(Op.equalIn (n+1) 9 (.string a) (.string b)).run Tryz.prog w=.ok (a==b) w:=by
 simp [Op.equalIn,run_underlying Tryz.underlying9]
theorem XR (n:Nat) (a b:Int) (w:World):(Op.equalIn (n+1) 3 (.int .i64 a) (.int .i64 b)).run Tryz.prog w=.ok (a==b) w:=by
 simp [Op.equalIn,run_underlying Tryz.underlying3]
theorem eq_int (n:Nat) (s s':Bool) (a a':ByteArray) (w:World):(Op.equalIn (n+2) 31 (.agg #[.bool s,.string a]) (.agg #[.bool s',.string a'])).run Tryz.prog w=.ok (s==s' && a==a') w:=by
 have h1:=fun (x:Bool) (y:ByteArray)=>Ld (P:=Tryz.prog) (cs:= #[.bool x,.string y]) (off:=0) (aC.out (P:=Tryz.prog) (t:=4)) rfl;have h2:=fun (x:Bool) (y:ByteArray)=>Ld (P:=Tryz.prog) (cs:= #[.bool x,.string y]) (off:=1) (aC.out (P:=Tryz.prog) (t:=9)) rfl;rw [Op.equalIn];simp [run_underlying Tryz.underlying31,h1,h2,XL,XF]
 cases h:s==s'<;>cases h':a==a'<;>simp_all
theorem KT (n:Nat) (s s':Bool) (a a':ByteArray) (e e':Int) (w:World):(Op.equalIn (n+3) 33 (.agg #[.bool s,.string a,.int .i64 e]) (.agg #[.bool s',.string a',.int .i64 e'])).run Tryz.prog w=.ok ((s==s' && a==a') && e==e') w:=by
 have h1:=fun (x:Bool) (y:ByteArray) (z:Int)=>K4 (P:=Tryz.prog) (cs:= #[.bool x,.string y,.int .i64 z]) (vs:= #[.bool x,.string y]) (off:=0) (aC.out (P:=Tryz.prog) (t:=31)) rfl;have h2:=fun (x:Bool) (y:ByteArray) (z:Int)=>Ld (P:=Tryz.prog) (cs:= #[.bool x,.string y,.int .i64 z]) (off:=2) (aC.out (P:=Tryz.prog) (t:=3)) rfl;rw [Op.equalIn];simp [run_underlying Tryz.underlying33,h1,h2,eq_int,XR]
 cases h:s==s'<;>cases h':a==a'<;>cases h2:e==e'<;>simp_all
section
variable {ρ:Rf}{w:World}{d:Option Nat}{ty u:TypeId}{pos:String}{af:Array Edge}{g:Option (Nat×Bool)}{x y:Operand}{s s':Bool}{a a':ByteArray}{e e':Int}
theorem U4 {a b:ByteArray}:(a==b)=true↔a=b:=by
 have:(a==b)=(a.data==b.data):=rfl;rw [this,abo];exact ⟨fun h=>by cases a;cases b;simp_all,fun h=>by rw [h]⟩
theorem nA:((s==s' && a==a') && e==e')=true↔NR.mk s a e=NR.mk s' a' e':=by
 rw [Z7,Z7,abo,U4,abo,NR.mk.injEq,and_assoc]
theorem SW (hx:ev ρ x=.agg #[.bool s,.string a,.int .i64 e]) (hy:ev ρ y=.agg #[.bool s',.string a',.int .i64 e']) (hr:((s==s' && a==a') && e==e')=r):
  (execOp (ev ρ) ⟨d,.binOp .eql 33 x y u,ty,pos,af,g⟩).run Tryz.prog w=.ok (.value (.bool r)) w:=by
 exact Wy
theorem RU (hx:ev ρ x=.agg #[.bool s,.string a,.int .i64 e]) (hy:ev ρ y=.agg #[.bool s',.string a',.int .i64 e']) (hr:((s==s' && a==a') && e==e')=r):
  (execOp (ev ρ) ⟨d,.binOp .neq 33 x y u,ty,pos,af,g⟩).run Tryz.prog w=.ok (.value (.bool !r)) w:=by
 exact Wy
theorem A0 (hx:ev ρ x=.agg #[.bool s,.string a,.int .i64 e]) (hy:ev ρ y=.agg #[.bool s',.string a',.int .i64 e']) (h:NR.mk s a e=NR.mk s' a' e'):
  (execOp (ev ρ) ⟨d,.binOp .eql 33 x y u,ty,pos,af,g⟩).run Tryz.prog w=.ok (.value (.bool true)) w:=SW hx hy (nA.2 h)
theorem PF (hx:ev ρ x=.agg #[.bool s,.string a,.int .i64 e]) (hy:ev ρ y=.agg #[.bool s',.string a',.int .i64 e']) (h:¬NR.mk s a e=NR.mk s' a' e'):
  (execOp (ev ρ) ⟨d,.binOp .eql 33 x y u,ty,pos,af,g⟩).run Tryz.prog w=.ok (.value (.bool false)) w:=SW hx hy (by rw [acQ];exact fun h1=>h (nA.1 h1))
theorem GH (hx:ev ρ x=.agg #[.bool s,.string a,.int .i64 e]) (hy:ev ρ y=.agg #[.bool s',.string a',.int .i64 e']) (h:NR.mk s a e=NR.mk s' a' e'):
  (execOp (ev ρ) ⟨d,.binOp .neq 33 x y u,ty,pos,af,g⟩).run Tryz.prog w=.ok (.value (.bool false)) w:=RU hx hy (nA.2 h)
theorem HO (hx:ev ρ x=.agg #[.bool s,.string a,.int .i64 e]) (hy:ev ρ y=.agg #[.bool s',.string a',.int .i64 e']) (h:¬NR.mk s a e=NR.mk s' a' e'):
  (execOp (ev ρ) ⟨d,.binOp .neq 33 x y u,ty,pos,af,g⟩).run Tryz.prog w=.ok (.value (.bool true)) w:=RU hx hy (r:=false) (by rw [acQ];exact fun h1=>h (nA.1 h1))
end
section
variable {N:Nat}{ops:Array Oper}{Q:Kq}{ρ:Rf}{w:World}{rest:List Oper}{d:Nat}{ty u:TypeId}{pos:String}{af:Array Edge}{x y:Operand}{s s':Bool}{a a':ByteArray}{e e':Int}
theorem Ht (hx:ev ρ x=.agg #[.bool s,.string a,.int .i64 e]) (hy:ev ρ y=.agg #[.bool s',.string a',.int .i64 e']) (h:NR.mk s a e=NR.mk s' a' e') (hN:d<N) (kk:WL ro Tryz.prog N ops Q rest (cm ρ d (.bool true)) w):
  WL ro Tryz.prog N ops Q (⟨some d,.binOp .eql 33 x y u,ty,pos,af,none⟩::rest) ρ w:=aR rfl rfl hN (A0 hx hy h) kk
theorem At (hx:ev ρ x=.agg #[.bool s,.string a,.int .i64 e]) (hy:ev ρ y=.agg #[.bool s',.string a',.int .i64 e']) (h:¬NR.mk s a e=NR.mk s' a' e') (hN:d<N) (kk:WL ro Tryz.prog N ops Q rest (cm ρ d (.bool false)) w):
  WL ro Tryz.prog N ops Q (⟨some d,.binOp .eql 33 x y u,ty,pos,af,none⟩::rest) ρ w:=aR rfl rfl hN (PF hx hy h) kk
theorem HJ (hx:ev ρ x=.agg #[.bool s,.string a,.int .i64 e]) (hy:ev ρ y=.agg #[.bool s',.string a',.int .i64 e']) (h:¬NR.mk s a e=NR.mk s' a' e') (hN:d<N) (kk:WL ro Tryz.prog N ops Q rest (cm ρ d (.bool true)) w):
  WL ro Tryz.prog N ops Q (⟨some d,.binOp .neq 33 x y u,ty,pos,af,none⟩::rest) ρ w:=aR rfl rfl hN (HO hx hy h) kk
theorem Ax (hx:ev ρ x=.agg #[.bool s,.string a,.int .i64 e]) (hy:ev ρ y=.agg #[.bool s',.string a',.int .i64 e']) (h:NR.mk s a e=NR.mk s' a' e') (hN:d<N) (kk:WL ro Tryz.prog N ops Q rest (cm ρ d (.bool false)) w):
  WL ro Tryz.prog N ops Q (⟨some d,.binOp .neq 33 x y u,ty,pos,af,none⟩::rest) ρ w:=aR rfl rfl hN (GH hx hy h) kk
end
theorem kA (s:Bool) (a:ByteArray) (n:Int) (w:World) (hT:dO w) (ha:a.size≤100000000) (h1: -1000000000≤n) (h2:n≤1000000000):
  Calls Tryz.prog 124 #[.agg #[.bool s,.string a],.int .i64 n] w fun e w'=>e=.returned (.agg #[.bool (iN (BK (iv s a) n)),.string (iM (BK (iv s a) n))])∧Below w.heap.size w w':=by
 unfold BK;by_cases h:0≤n
 ·rw [ZH h];obtain ⟨m,rfl⟩:=acZ h;rw [abc];exact GD s a m w ha ZB
 ·rw [ZG h];obtain ⟨m,hm⟩:=acZ (show 0≤ -n by omega);rw [hm,abc,show n= -(m:Int) by omega];exact Ft s a m w hT ha ZB ZB
theorem gu (s:Bool) (a:ByteArray) (e:Int) (w:World) (hT:dO w) (ha:a.size≤100000000) (h1: -1000000000000≤e) (h2:e≤1000000000000):
  Calls Tryz.prog 78 #[.agg #[.bool s,.string a],.int .i64 e] w fun r w'=>r=.returned (.agg #[.bool (nR (Dyadic.ofIntWithPrec (iv s a) (-e))).neg,.string (nR (Dyadic.ofIntWithPrec (iv s a) (-e))).aW,.int .i64 (nR (Dyadic.ofIntWithPrec (iv s a) (-e))).e])∧Below w.heap.size w w':=by
 have hh:=Hp.start w;by_cases h0:iv s a=0
 ·rw [h0,fk,mH];refine ae (N:=21) (l:=[.agg #[.bool s,.string a],.int .i64 e]) Tryz.func78 rfl rfl (by simp) ?_;refine bU ?_;intro b2 w2 hh b4 w4 hh;refine a0 hh (jl s a _) rfl ?_;intro w7 hh;rw [h0];exact vI
 ·have hs:(iv s a).sign≠0:=by rw [ne_eq,ac2];exact h0
  rw [sF h0];have hz:bN a≠0:=fun h=>h0 ((II s a).2 h);have htz:tz (bN a)<8*a.size+1:=by
   have:=zm a;rw [show (256:Nat)=2^8 from rfl,←aax] at this;have:=zt hz this;omega
  have hsh:BK (iv s a) (-(tz (bN a):Int))=iv s a/2^tz (bN a):=by
   unfold BK;split
   ·have:tz (bN a)=0:=ZB;rw [this];simp
   ·rw [acn,abc]
  refine ae (N:=21) (l:=[.agg #[.bool s,.string a],.int .i64 e]) Tryz.func78 rfl rfl (by simp) ?_;refine bU ?_;intro b2 w2 hh b4 w4 hh;refine a0 hh (jl s a _) rfl ?_;intro w7 hh;refine aj ?_;refine a0 hh (kO a _ ZB (hT.hp hh)) rfl ?_;intro w12 hh;refine aj ?_;refine a0 hh (kA s a (-(tz (bN a):Int)) _ (hT.hp hh) ha ZB ZB) rfl ?_;intro w16 hh;rw [hsh];exact vI
def NR.ok (a:NR):Prop:=a.aW.size≤1000000∧ -10000000≤a.e∧a.e≤10000000
theorem Sz.ok {x:Dyadic} (h:Sz k x) (hk:k≤3999990):(nR x).ok:=by
 have:=h.nr;refine ⟨ZB,ZB,ZB⟩
theorem pg (n:Int) (w:World) (hT:dO w) (h1: -9223372036854775808≤n) (h2:n≤9223372036854775807):
  Calls Tryz.prog 38 #[.int .i64 n] w fun r w'=>r=.returned (.agg #[.bool (nR (n:Dyadic)).neg,.string (nR (n:Dyadic)).aW,.int .i64 (nR (n:Dyadic)).e])∧Below w.heap.size w w':=by
 have hh:=Hp.start w;have hsz:(iM n).size≤100000000:=by
  rw [cx];have:bg n.natAbs≤64:=di ZB;omega
 have hc:∀w1,dO w1→Calls Tryz.prog 78 #[.agg #[.bool (iN n),.string (iM n)],.int .i64 0] w1 fun r w'=>r=.returned (.agg #[.bool (nR (n:Dyadic)).neg,.string (nR (n:Dyadic)).aW,.int .i64 (nR (n:Dyadic)).e])∧Below w1.heap.size w1 w':=fun w1 hT1=>by
  have:=gu (iN n) (iM n) 0 w1 hT1 hsz ZB ZB;rw [dI] at this;exact this
 refine ae (N:=6) (l:=[.int .i64 n]) Tryz.func38 rfl rfl (by simp) ?_;refine bJ ?_;intro b2 w2 hh;refine a0 hh (md n _ h1 h2) rfl ?_;intro w4 hh;refine a0 hh (hc _ (hT.hp hh)) rfl ?_;intro w5 hh;exact vI
theorem dT (a:NR) (w:World) (hT:dO w) (ha:a.aW.size≤100000000) (h1: -1000000000000≤a.e) (h2:a.e≤1000000000000):
  Calls Tryz.prog 70 #[.agg #[.bool a.neg,.string a.aW,.int .i64 a.e]] w fun r w'=>r=.returned (.agg #[.bool (nR a.d).neg,.string (nR a.d).aW,.int .i64 (nR a.d).e])∧Below w.heap.size w w':=by
 have hh:=Hp.start w;refine ae (N:=8) (l:=[.agg #[.bool a.neg,.string a.aW,.int .i64 a.e]]) Tryz.func70 rfl rfl (by simp) ?_;refine bU ?_;intro b1 w1 hh b2 w2 hh;refine a0 hh (gu a.neg a.aW a.e _ (hT.hp hh) ha h1 h2) rfl ?_;intro w7 hh;exact vI
theorem dr (a:NR) (w:World):
  Calls Tryz.prog 42 #[.agg #[.bool a.neg,.string a.aW,.int .i64 a.e]] w fun r w'=>r=.returned (.int .i64 a.i.sign)∧Below w.heap.size w w':=by
 have hh:=Hp.start w;refine ae (N:=6) (l:=[.agg #[.bool a.neg,.string a.aW,.int .i64 a.e]]) Tryz.func42 rfl rfl (by simp) ?_;refine bJ ?_;intro b1 w1 hh;refine a0 hh (jl a.neg a.aW _) rfl ?_;intro w5 hh;refine aj ?_;exact ⟨rfl,hh.below⟩
theorem ni (a:NR) (w:World) (hT:dO w) (ha:a.aW.size≤100000000) (h1: -1000000000000≤a.e) (h2:a.e≤1000000000000):
  Calls Tryz.prog 43 #[.agg #[.bool a.neg,.string a.aW,.int .i64 a.e]] w fun r w'=>r=.returned (.agg #[.bool (nR (-a.d)).neg,.string (nR (-a.d)).aW,.int .i64 (nR (-a.d)).e])∧Below w.heap.size w w':=by
 have hh:=Hp.start w;have hc:∀w1,dO w1→Calls Tryz.prog 78 #[.agg #[.bool (iN (-(iv a.neg a.aW))),.string (iM (-(iv a.neg a.aW)))],.int .i64 a.e] w1 fun r w'=>r=.returned (.agg #[.bool (nR (-a.d)).neg,.string (nR (-a.d)).aW,.int .i64 (nR (-a.d)).e])∧Below w1.heap.size w1 w':=fun w1 hT1=>by
  have hs:=kg a.neg a.aW;have:=gu (iN (-(iv a.neg a.aW))) (iM (-(iv a.neg a.aW))) a.e w1 hT1 ZB h1 h2;rw [dI,←mY] at this;exact this
 refine ae (N:=9) (l:=[.agg #[.bool a.neg,.string a.aW,.int .i64 a.e]]) Tryz.func43 rfl rfl (by simp) ?_;refine bU ?_;intro b1 w1 hh b2 w2 hh;refine RY ?_;refine cK ?_;refine df 1 [_,_] ?_;refine dC (fun _ hj=>jV a.neg a.aW _) ?_;refine cK ?_;refine ee 1 ?_;refine au ?_;intro f W hJ hV;have hb_1:=hJ.bl;obtain ⟨v7,v6,v5,v4,v3,_⟩:=hV;replace hh:=hJ.hp;refine az (aH (aa v7 (aa v6 (aa v5 (aa v4 (aa v3 ay)))))) ?_;dsimp only [bf];clear hJ;refine a0 hh (hc _ (hT.hp hh)) rfl ?_;intro w8 hh;exact vI
theorem y7 (s:Int) (a:NR) (w:World) (hT:dO w) (ha:a.aW.size≤100000000) (h1: -1000000000≤a.e-s) (h2:a.e-s≤1000000000):
  Calls Tryz.prog 116 #[.int .i64 s,.agg #[.bool a.neg,.string a.aW,.int .i64 a.e]] w fun r w'=>r=.returned (.agg #[.bool (iN (BK a.i (a.e-s))),.string (iM (BK a.i (a.e-s)))])∧Below w.heap.size w w':=by
 have hh:=Hp.start w;refine ae (N:=12) (l:=[.int .i64 s,.agg #[.bool a.neg,.string a.aW,.int .i64 a.e]]) Tryz.func116 rfl rfl (by simp) ?_;refine bU ?_;intro b3 w3 hh b4 w4 hh;refine a0 hh (kA a.neg a.aW (a.e-s) _ (hT.hp hh) ha h1 h2) rfl ?_;intro w11 hh;exact sG
theorem FF (x:Dyadic) (p:Int):BK (nR x).i ((nR x).e - -p)=db x p:=by
 cases x with
 |zero=>exact NZ _
 |ofOdd n k h=>
  simp only [nR,NR.i,dI,db];congr 1;omega
theorem lH (x:Dyadic):nR x=⟨false,ByteArray.mk #[],0⟩↔x=0:=by rw [←mH,Uq]
theorem kT {a:NR} (h:a.ok):Sz 18000000 a.d∧(nR a.d).aW.size≤1000000∧ -18000000≤(nR a.d).e∧(nR a.d).e≤18000000:=by
 obtain ⟨h1,h2,h3⟩:=h;refine ⟨Sz.raw (m:=8000000) (E:=10000000) ZB ZB ZB, ?_⟩;by_cases h0:iv a.neg a.aW=0
 ·rw [NR.d,NR.i,h0,fk,mH];exact ⟨ZK _,by simp,by simp⟩
 ·rw [NR.d,NR.i,sF h0];have hz:bN a.aW≠0:=fun h=>h0 ((II a.neg a.aW).2 h);have htz:tz (bN a.aW)<8*a.aW.size+1:=by
   have:=zm a.aW;rw [show (256:Nat)=2^8 from rfl,←aax] at this;have:=zt hz this;omega
  have hb:bg (iv a.neg a.aW/2^tz (bN a.aW)).natAbs≤8*a.aW.size:=by
   apply di;refine aaI (acw _ _) ?_;rw [k7];exact aaF (cu _) (aao ZB (gZ _))
  simp only;rw [cx];refine ⟨ZB,ZB,ZB⟩
theorem rB (a b:NR) (w:World) (hT:dO w) (ha:a.ok) (hb:b.ok):
  Calls Tryz.prog 68 #[.agg #[.bool a.neg,.string a.aW,.int .i64 a.e],.agg #[.bool b.neg,.string b.aW,.int .i64 b.e]] w fun r w'=>r=.returned (.agg #[.int .i64 (-(dE a.d b.d)),.bool (iN (db a.d (dE a.d b.d))),.string (iM (db a.d (dE a.d b.d))),.bool (iN (db b.d (dE a.d b.d))),.string (iM (db b.d (dE a.d b.d)))])∧Below w.heap.size w w':=by
 have hh:=Hp.start w;obtain ⟨ha1,ha2,ha3⟩:=ha;obtain ⟨hb1,hb2,hb3⟩:=hb;obtain ⟨_,fa1,fa2,fa3⟩:=kT (a:=a) ⟨ha1,ha2,ha3⟩;obtain ⟨_,fb1,fb2,fb3⟩:=kT (a:=b) ⟨hb1,hb2,hb3⟩;have hP:=Hy a.d b.d 18000000 ZB ZB;have hcx:=fun w1 hT1=>y7 (-(dE a.d b.d)) (nR a.d) w1 hT1 ZB ZB ZB;have hcy:=fun w1 hT1=>y7 (-(dE a.d b.d)) (nR b.d) w1 hT1 ZB ZB ZB;rw [FF] at hcx hcy;by_cases h0:a.d=0
 ·have h0':=(lH a.d).2 h0;have hs:(nR b.d).e= -(dE a.d b.d):=by
   rw [h0]
   cases b.d with
   |zero=>rfl
   |ofOdd n k h=>rfl
  refine MI ?_;refine kb ?_;intro b2 w2 hh b3 w3 hh b4 w4 hh;refine OQ ?_;refine df 2 [_,_,_] ?_;refine MA ?_;refine df 1 [_,_,_] ?_;refine au ?_;intro f W hJ hV;have hb_1:=hJ.bl;obtain ⟨v9,v8,v7,_⟩:=hV;replace hh:=hJ.hp;refine az (aH (aa v9 (aa v8 (aa v7 ay)))) ?_;dsimp only [bf];clear hJ;refine a0 hh (dT b _ (hT.hp hh) ZB ZB ZB) rfl ?_;intro w10 hh;refine bU ?_;intro ws hh ws hh;refine Ht rfl rfl (by first|assumption|rfl) ZC ?_;exact Ye
 ·have h0':¬nR a.d=⟨false,ByteArray.mk #[],0⟩:=fun h=>h0 ((lH _).1 h);by_cases h1:b.d=0
  ·have h1':=(lH b.d).2 h1;have hs:(nR a.d).e= -(dE a.d b.d):=by
    rw [h1]
    cases a.d with
    |zero=>rfl
    |ofOdd n k h=>rfl
   refine MI ?_;refine kb ?_;intro b2 w2 hh b3 w3 hh b4 w4 hh;refine OQ ?_;refine df 2 [_,_,_] ?_;refine MA ?_;refine df 1 [_,_,_] ?_;refine au ?_;intro f W hJ hV;have hb_1:=hJ.bl;obtain ⟨v9,v8,v7,_⟩:=hV;replace hh:=hJ.hp;refine az (aH (aa v9 (aa v8 (aa v7 ay)))) ?_;dsimp only [bf];clear hJ;refine a0 hh (dT b _ (hT.hp hh) ZB ZB ZB) rfl ?_;intro w10 hh;refine bU ?_;intro ws hh ws hh;refine At rfl rfl (by assumption) ZC ?_;refine aj ?_;refine Ht rfl rfl (by first|assumption|rfl) ZC ?_;exact Ye
  ·have h1':¬nR b.d=⟨false,ByteArray.mk #[],0⟩:=fun h=>h1 ((lH _).1 h);have hs:(if (nR b.d).e<(nR a.d).e then (nR b.d).e else (nR a.d).e)= -(dE a.d b.d):=by
    revert h0 h1
    cases a.d with
    |zero=>intro h;exact absurd rfl h
    |ofOdd n k h=>
     cases b.d with
     |zero=>intro _ h;exact absurd rfl h
     |ofOdd m l g=>
      intro _ _;simp only [nR,dE];omega
   refine MI ?_;refine kb ?_;intro b2 w2 hh b3 w3 hh b4 w4 hh;refine OQ ?_;refine df 2 [_,_,_] ?_;refine MA ?_;refine df 1 [_,_,_] ?_;refine au ?_;intro f W hJ hV;have hb_1:=hJ.bl;obtain ⟨v9,v8,v7,_⟩:=hV;replace hh:=hJ.hp;refine az (aH (aa v9 (aa v8 (aa v7 ay)))) ?_;dsimp only [bf];clear hJ;refine a0 hh (dT b _ (hT.hp hh) ZB ZB ZB) rfl ?_;intro w10 hh;refine bU ?_;intro ws hh ws hh;refine At rfl rfl (by assumption) ZC ?_;refine aj ?_;refine At rfl rfl (by assumption) ZC ?_;exact Ye
end
def fR (x y:Dyadic):Int:=if x<y then -1 else if y<x then 1 else 0
theorem CP (i j p:Int):(i-j).sign=fR (Dyadic.ofIntWithPrec i p) (Dyadic.ofIntWithPrec j p):=by
 unfold fR;simp only [kU]
 rcases acF i j with h|h|h
 ·rw [ZH h,abn ZB]
 ·subst h;simp
 ·rw [ZG ZB,ZH h,abt ZB]
theorem E5 (i p:Int):i.sign=fR (Dyadic.ofIntWithPrec i p) 0:=by
 have:=CP i 0 p;rwa [Int.sub_zero,fk] at this
theorem NR.sign (a:NR):a.i.sign=fR a.d 0:=E5 _ _
theorem DL (x y:Dyadic):(db x (dE x y)-db y (dE x y)).sign=fR x y:=by
 rw [CP _ _ (dE x y),Lu,LI]
theorem KB (X Y:Int) (h:X.sign≠Y.sign):(if (if X.sign-Y.sign<1 then X.sign-Y.sign else 1)> -1 then (if X.sign-Y.sign<1 then X.sign-Y.sign else 1) else -1)=(X-Y).sign:=by
 rcases acF X 0 with hx|hx|hx<;>rcases acF Y 0 with hy|hy|hy
 ·rw [abn hx,abn hy] at h;omega
 ·rw [abn hx,hy,Int.sub_zero,abn hx];simp
 ·rw [abn hx,abt hy,abn ZB];simp
 ·subst hx;rw [Int.sign_zero,abn hy,abt (a:=0-Y) ZB];simp
 ·rw [hx,hy] at h;omega
 ·subst hx;rw [Int.sign_zero,abt hy,abn (a:=0-Y) ZB];simp
 ·rw [abt hx,abn hy,abt ZB];simp
 ·rw [abt hx,hy,Int.sub_zero,abt hx];simp
 ·rw [abt hx,abt hy] at h;omega
theorem sB {a b:NR} (ha:a.ok) (hb:b.ok):(iM (db a.d (dE a.d b.d))).size≤6000000∧(iM (db b.d (dE a.d b.d))).size≤6000000∧ -18000000≤dE a.d b.d∧dE a.d b.d≤18000000:=by
 obtain ⟨_,fa1,fa2,fa3⟩:=kT ha;obtain ⟨_,fb1,fb2,fb3⟩:=kT hb;have hP:=Hy a.d b.d 18000000 ZB ZB;have h1:=vC a.d (dE a.d b.d);have h2:=vC b.d (dE a.d b.d);rw [cx,cx];refine ⟨ZB,ZB,hP.1,hP.2⟩
theorem j6 (i:Int): -1≤i.sign∧i.sign≤1:=by
 rcases acF i 0 with h|h|h
 ·rw [abn h];omega
 ·rw [h];simp
 ·rw [abt h];omega
theorem mK (a b:NR) (w:World) (hT:dO w) (ha:a.ok) (hb:b.ok):
  Calls Tryz.prog 26 #[.agg #[.bool a.neg,.string a.aW,.int .i64 a.e],.agg #[.bool b.neg,.string b.aW,.int .i64 b.e]] w fun r w'=>r=.returned (.int .i64 (fR a.d b.d))∧Below w.heap.size w w':=by
 have hh:=Hp.start w;obtain ⟨hs1,hs2,_⟩:=sB ha hb;have hsa:a.i.sign=(db a.d (dE a.d b.d)).sign:=by rw [NR.sign,E5 _ (dE a.d b.d),Lu]
 have hsb:b.i.sign=(db b.d (dE a.d b.d)).sign:=by rw [NR.sign,E5 _ (dE a.d b.d),LI]
 have hba:=j6 a.i;have hbb:=j6 b.i;by_cases hne:a.i.sign=b.i.sign
 ·refine Tg ?_;refine bU ?_;intro b2 w2 hh b3 w3 hh;refine aw 3 [[(2,none)],[(8,some 0)],[(3,none)]] [(2,10),(1,9),(0,8)] hh mixed ZD ?_;refine df 1 [_,_,_] ?_;refine dC (fun _ hj=>dr a _) ?_;refine df 0 [_,_,_] ?_;refine au ?_;intro f W hJ hV;have hb_1:=hJ.bl;obtain ⟨v10,v9,v8,_⟩:=hV;replace hh:=hJ.hp;refine az (aH (aa v10 (aa v9 (aa v8 ay)))) ?_;dsimp only [bf];clear hJ;refine a0 hh (dr b _) rfl ?_;intro w11 hh;refine aj ?_;refine a0 hh (rB a b _ (hT.hp hh) ha hb) rfl ?_;intro w22 hh;refine bU ?_;intro b7 w7 hh ws hh;refine a0 hh (Fu _ _ _ _ _ ZB ZB) rfl ?_;intro w27 hh;rw [dI,dI,DL];refine aj ?_;exact ⟨rfl,hh.below⟩
 ·refine Tg ?_;refine bU ?_;intro b2 w2 hh b3 w3 hh;refine aw 3 [[(2,none)],[(8,some 0)],[(3,none)]] [(2,10),(1,9),(0,8)] hh mixed ZD ?_;refine df 1 [_,_,_] ?_;refine dC (fun _ hj=>dr a _) ?_;refine df 0 [_,_,_] ?_;refine au ?_;intro f W hJ hV;have hb_1:=hJ.bl;obtain ⟨v10,v9,v8,_⟩:=hV;replace hh:=hJ.hp;refine az (aH (aa v10 (aa v9 (aa v8 ay)))) ?_;dsimp only [bf];clear hJ;refine a0 hh (dr b _) rfl ?_;intro w11 hh;refine aj ?_;refine ⟨?_,hh.below⟩;rw [hsa,hsb] at hne;rw [hsa,hsb,←DL a.d b.d,←KB _ _ hne]
theorem FD (a:NR) (w:World) (hT:dO w) (ha:a.aW.size≤100000000) (h1: -1000000000000≤a.e) (h2:a.e≤1000000000000):
  Calls Tryz.prog 27 #[.agg #[.bool a.neg,.string a.aW,.int .i64 a.e]] w fun r w'=>r=.returned (.agg #[.bool (nR (if a.d<0 then -a.d else a.d)).neg,.string (nR (if a.d<0 then -a.d else a.d)).aW,.int .i64 (nR (if a.d<0 then -a.d else a.d)).e])∧Below w.heap.size w w':=by
 have hh:=Hp.start w;have hs:=NR.sign a;by_cases h0:a.d<0
 ·have hs2:a.i.sign= -1:=by rw [hs,fR,ZH h0]
  rw [ZH h0];refine ae (N:=10) (l:=[.agg #[.bool a.neg,.string a.aW,.int .i64 a.e]]) Tryz.func27 rfl rfl (by simp) ?_;refine bU ?_;intro b1 w1 hh b2 w2 hh;refine a0 hh (dr a _) rfl ?_;intro w4 hh;rw [hs2];refine aj ?_;refine a0 hh (ni a _ (hT.hp hh) ha h1 h2) rfl ?_;intro w7 hh;exact vI
 ·have hs2:¬a.i.sign<0:=by rw [hs,fR,ZG h0];split<;>omega
  rw [ZG h0];refine ae (N:=10) (l:=[.agg #[.bool a.neg,.string a.aW,.int .i64 a.e]]) Tryz.func27 rfl rfl (by simp) ?_;refine bU ?_;intro b1 w1 hh b2 w2 hh;refine a0 hh (dr a _) rfl ?_;intro w4 hh;refine aj ?_;refine a0 hh (dT a _ (hT.hp hh) ha h1 h2) rfl ?_;intro w9 hh;exact vI
def fg (n:Int):Dyadic:=Dyadic.ofIntWithPrec 1 (-n)
theorem AL (i p n:Int):Dyadic.ofIntWithPrec i (p-n)=Dyadic.ofIntWithPrec i p*fg n:=by
 rw [fg,lr,Int.mul_one];rfl
theorem ru (a:NR) (n:Int) (w:World) (hT:dO w) (ha:a.aW.size≤100000000) (h1: -100000000000≤a.e) (h2:a.e≤100000000000) (h3: -100000000000≤n) (h4:n≤100000000000):
  Calls Tryz.prog 37 #[.agg #[.bool a.neg,.string a.aW,.int .i64 a.e],.int .i64 n] w fun r w'=>r=.returned (.agg #[.bool (nR (a.d*fg n)).neg,.string (nR (a.d*fg n)).aW,.int .i64 (nR (a.d*fg n)).e])∧Below w.heap.size w w':=by
 have hh:=Hp.start w;have e1:Dyadic.ofIntWithPrec (iv a.neg a.aW) (-(a.e+n))=a.d*fg n:=by
  rw [NR.d,NR.i,←AL];congr 1;omega
 have hc:=fun w1 hT1=>gu a.neg a.aW (a.e+n) w1 hT1 ha ZB ZB;rw [e1] at hc;refine ae (N:=12) (l:=[.agg #[.bool a.neg,.string a.aW,.int .i64 a.e],.int .i64 n]) Tryz.func37 rfl rfl (by simp) ?_;refine bU ?_;intro b2 w2 hh b4 w4 hh;refine a0 hh (hc _ (hT.hp hh)) rfl ?_;intro w11 hh;exact vI
def nY:List Dyadic→Dyadic:=fun l=>l.foldl (· + ·) 0
theorem yr (l:List Dyadic) (x:Dyadic):nY (l++[x])=nY l+x:=by simp [nY]
theorem Sz.sum {l:List Dyadic} (h:∀x∈l,Sz k x):Sz (k+l.length) (nY l):=by
 have:∀(n:Nat),n≤l.length→Sz (k+n) (nY (l.take n)):=by
  intro n
  induction n with
  |zero=>intro _;exact Sz.zero _
  |succ n ih=>
   intro hn;obtain ⟨x,hx⟩:=ah (l:=l) (k:=n) ZB;rw [al hx,yr];exact (ih ZB).add ((h x (ZL hx)).mono ZB)
 have h2:=this l.length (ZM _);rwa [acX] at h2
theorem wo (a b:NR) (w:World) (hT:dO w) (ha:a.ok) (hb:b.ok):
  Calls Tryz.prog 78 #[.agg #[.bool (iN (db a.d (dE a.d b.d)+db b.d (dE a.d b.d))),.string (iM (db a.d (dE a.d b.d)+db b.d (dE a.d b.d)))],.int .i64 (-(dE a.d b.d))] w fun r w'=>r=.returned (.agg #[.bool (nR (a.d+b.d)).neg,.string (nR (a.d+b.d)).aW,.int .i64 (nR (a.d+b.d)).e])∧Below w.heap.size w w':=by
 obtain ⟨hs1,hs2,hP1,hP2⟩:=sB ha hb;rw [cx] at hs1 hs2;have h3:=kv (db a.d (dE a.d b.d)) (db b.d (dE a.d b.d));have:=gu (iN (db a.d (dE a.d b.d)+db b.d (dE a.d b.d))) (iM (db a.d (dE a.d b.d)+db b.d (dE a.d b.d))) (-(dE a.d b.d)) w hT (by rw [cx];omega) ZB ZB;rw [dI,acn,PV] at this;exact this
theorem jd (L:Option Addr) (n c:Nat) (l:List NR) (w:World) (hT:dO w) (hS:Sl w L n 3 (ao NR.cells l)) (hl:∀a∈l,a.ok) (k:Nat) (hk:∀a∈l,Sz k a.d) (hkn:k+n≤3999990):
  Calls Tryz.prog 63 #[.slice L n c] w fun r w'=>r=.returned (.agg #[.bool (nR (nY (l.map NR.d))).neg,.string (nR (nY (l.map NR.d))).aW,.int .i64 (nR (nY (l.map NR.d))).e])∧Below w.heap.size w w':=by
 have hln:=hS.a6 NR.len ZB;have hh:=Hp.start w;refine ae (N:=27) (l:=[.slice L n c]) Tryz.func63 rfl rfl (by simp) ?_;refine bU ?_;intro b2 w2 hh b3 w3 hh;refine aD [5,6,9,10,11,12,13,14,15,16,17,18,19,20,21,22,23,24,25] 9
  (fun j w'=>∃(i:Nat) (S:Dyadic),i≤n∧j=.int .i64 i∧S=nY ((l.take i).map NR.d)∧Hp w [.blk b3 33 [.bool (nR S).neg,.string (nR S).aW,.int .i64 (nR S).e] (0,0),.blk b2 33 [.bool false,.string (ByteArray.mk #[]),.int .i64 0] (0,0)] w')
  (fun j _=>n-(intOf j).toNat) ?_ ?_
 ·exact ⟨0,0,ZK _,rfl,rfl,hh⟩
 ·clear hh;rintro ρ' j w' ⟨i,S,hi,rfl,hS2,hh⟩;by_cases hlt:i<n
  ·obtain ⟨x,hx⟩:=ah (l:=l) (k:=i) ZB;obtain ⟨ad,rfl,hr⟩:=hS.at_ ZB;have hxm:=ZL hx;have hS3:nY ((l.take (i+1)).map NR.d)=S+x.d:=by rw [al hx,aaG,acb,yr,hS2]
   have hSz:Sz (k+i) S:=by
    rw [hS2];have:=Sz.sum (k:=k) (l:=(l.take i).map NR.d) (fun y hy=>by
     obtain ⟨a,ha,rfl⟩:=ZU.1 hy;exact hk a (abw ha))
    rw [ZY,Z1,aaT ZB] at this;exact this
   have hSo:=hSz.ok ZB;have hlc:=fun w1 hT1=>rB (nR S) x w1 hT1 hSo (hl x hxm);have hmc:=fun w1 hT1=>wo (nR S) x w1 hT1 hSo (hl x hxm);obtain ⟨hs1,hs2,_⟩:=sB hSo (hl x hxm);rw [bE] at hlc hmc hs1 hs2;have e1:([iR (db S (dE S x.d)),iR (db x.d (dE S x.d))].map IR.v).sum=db S (dE S x.d)+db x.d (dE S x.d):=by
    simp only [aaj,aaC,List.sum_cons,List.sum_nil,U7];omega
   have hac:∀(A:Option Addr) (cc:Nat) (w1:World),Sl w1 A 2 2 (ao IR.cells [iR (db S (dE S x.d)),iR (db x.d (dE S x.d))])→Calls Tryz.prog 112 #[.slice A 2 cc] w1 fun e w'=>e=.returned (.agg #[.bool (iN (db S (dE S x.d)+db x.d (dE S x.d))),.string (iM (db S (dE S x.d)+db x.d (dE S x.d)))])∧Below w1.heap.size w1 w':=fun A cc w1 hsl=>by
    have:=qo A 2 cc [iR (db S (dE S x.d)),iR (db x.d (dE S x.d))] w1 hsl ZB (by simp [iR];omega);rw [e1] at this;exact this
   refine aj ?_;refine Hu ?_;refine bU ?_;intro b5 w5 hh ws hh;refine a0 hh (hlc _ (hT.hp hh)) rfl ?_;intro w15 hh;refine bU ?_;intro b6 w6 hh ws hh;refine aw 8 [[(6,none)],[(16,some 0)],[(6,none)],[(18,some 2)],[(17,some 1),(19,some 3)],[(20,some 4)],[(6,none)],[(22,some 6)]] [(7,23),(6,22),(5,21),(4,20),(3,19),(2,18),(1,17),(0,16)] hh mixed ZD ?_;refine cK ?_;refine df 0 [_,_] ?_;refine cK ?_;refine df 0 [_,_] ?_;refine vG [_,_,_,_] ?_;refine aM (i:=5) (Is (.agg #[.bool (iN (db S (dE S x.d)+db x.d (dE S x.d))),.string (iM (db S (dE S x.d)+db x.d (dE S x.d)))])) Is.ext ?_ ?_
   ·intro ρ1 w1 hj hR;obtain ⟨A20,c20,h20,s20⟩:=hR.1;exact bI rfl (a8 ak.out (av h20 bh)) (hac A20 c20 _ s20) (fun _ _ hq=>⟨_,hq.1,hq.2,rfl⟩)
   refine cK ?_;refine ee 0 ?_;refine au ?_;intro f W hJ hV;have hb_6:=hJ.bl;obtain ⟨v23,v22,v21,v20,v19,v18,v17,v16,_⟩:=hV;obtain ⟨A20,c20,e20,f20⟩:Rows _ _ _ (f 4) W:=v20;replace hh:=hJ.hp;refine az (aH (aa v23 (aa v22 (aa v21 (aa e20 (aa v19 (aa v18 (aa v17 (aa v16 ay))))))))) ?_;dsimp only [bf];clear e20 hJ;refine a0 hh (hmc _ (hT.hp hh)) rfl ?_;intro w24 hh;refine bJ ?_;intro ws hh;replace hh:=hh.sub ((aan _ _).trans (aan _ _));exact TL
  ·exact PK
theorem k8 (x y:Dyadic):nY [x,y]=x+y:=by
 show (0+x)+y=x+y;rw [abU]
theorem qj (a b:NR) (w:World) (hT:dO w) (ha:a.ok) (hb:b.ok) (k:Nat) (hka:Sz k a.d) (hkb:Sz k b.d) (hk:k≤3999980):
  Calls Tryz.prog 85 #[.agg #[.bool a.neg,.string a.aW,.int .i64 a.e],.agg #[.bool b.neg,.string b.aW,.int .i64 b.e]] w fun r w'=>r=.returned (.agg #[.bool (nR (a.d-b.d)).neg,.string (nR (a.d-b.d)).aW,.int .i64 (nR (a.d-b.d)).e])∧Below w.heap.size w w':=by
 have hh:=Hp.start w;obtain ⟨hb1,hb2,hb3⟩:=hb;have e1:nY ([a,nR (-b.d)].map NR.d)=a.d-b.d:=by
  simp only [aaj,aaC,bE,k8];rfl
 have hac:∀(A:Option Addr) (cc:Nat) (w1:World),dO w1→Sl w1 A 2 3 (ao NR.cells [a,nR (-b.d)])→Calls Tryz.prog 63 #[.slice A 2 cc] w1 fun r w'=>r=.returned (.agg #[.bool (nR (a.d-b.d)).neg,.string (nR (a.d-b.d)).aW,.int .i64 (nR (a.d-b.d)).e])∧Below w1.heap.size w1 w':=fun A cc w1 hT1 hsl=>by
  have:=jd A 2 cc [a,nR (-b.d)] w1 hT1 hsl (by simpa using ⟨ha,hkb.neg.ok ZB⟩) k (by simpa [bE] using ⟨hka,hkb.neg⟩) ZB;rw [e1] at this;exact this
 refine ae (N:=10) (l:=[.agg #[.bool a.neg,.string a.aW,.int .i64 a.e],.agg #[.bool b.neg,.string b.aW,.int .i64 b.e]]) Tryz.func85 rfl rfl (by simp) ?_;refine kb ?_;intro b2 w2 hh b3 w3 hh b4 w4 hh;refine LL ?_;refine df 2 [_,_,_] ?_;refine df 1 [_,_,_] ?_;refine dC (fun _ hj=>ni b _ (hT.hp hj.hp) ZB ZB ZB) ?_;refine au ?_;intro f W hJ hV;have hb_1:=hJ.bl;obtain ⟨v7,v6,v5,_⟩:=hV;replace hh:=hJ.hp;refine wD ?_;dsimp only [bf];clear hJ;refine ui ?_;intro b8 w8 hh;refine a0 hh (hac _ _ _ (hT.hp hh) (hh.ar (i:=0) rfl)) rfl ?_;intro w9 hh;exact QK
def jR:List Dyadic→Dyadic:=fun l=>l.foldl (· * ·) 1
theorem wE (l:List Dyadic) (x:Dyadic):jR (l++[x])=jR l*x:=by simp [jR]
theorem Sz.one:Sz 1 1:=⟨2,by decide+kernel,ZC⟩
theorem Sz.prod {l:List Dyadic} (h:∀x∈l,Sz k x):Sz (1+k*l.length) (jR l):=by
 have:∀(n:Nat),n≤l.length→Sz (1+k*n) (jR (l.take n)):=by
  intro n
  induction n with
  |zero=>intro _;exact Sz.one
  |succ n ih=>
   intro hn;obtain ⟨x,hx⟩:=ah (l:=l) (k:=n) ZB;rw [al hx,wE];exact ((ih ZB).mul (h x (ZL hx))).mono (by rw [abb];omega)
 have h2:=this l.length (ZM _);rwa [acX] at h2
theorem iW (L:Option Addr) (n c:Nat) (l:List NR) (w:World) (hT:dO w) (hS:Sl w L n 3 (ao NR.cells l)) (hl:∀a∈l,a.ok) (k:Nat) (hk:∀a∈l,Sz k a.d) (hkn:k*n≤3999980) (hn:n≤1000000):
  Calls Tryz.prog 44 #[.slice L n c] w fun r w'=>r=.returned (.agg #[.bool (nR (jR (l.map NR.d))).neg,.string (nR (jR (l.map NR.d))).aW,.int .i64 (nR (jR (l.map NR.d))).e])∧Below w.heap.size w w':=by
 have hln:=hS.a6 NR.len ZB;have hh:=Hp.start w;refine ae (N:=27) (l:=[.slice L n c]) Tryz.func44 rfl rfl (by simp) ?_;refine bJ ?_;intro b2 w2 hh;refine C1 ?_;intro w6 hh;refine bU ?_;intro b3 w3 hh ws hh;refine aD [5,9,10,11,12,13,14,15,16,17,18,19,20,21,22,23,24,25] 9
  (fun j w'=>∃(i:Nat) (S:Dyadic),i≤n∧j=.int .i64 i∧S=jR ((l.take i).map NR.d)∧Hp w [.blk b3 33 [.bool (nR S).neg,.string (nR S).aW,.int .i64 (nR S).e] (0,0),.blk b2 33 [.bool false,.string (ByteArray.mk #[]),.int .i64 0] (0,0)] w')
  (fun j _=>n-(intOf j).toNat) ?_ ?_
 ·exact ⟨0,_,ZK _,rfl,rfl,hh⟩
 ·clear hh;rintro ρ' j w' ⟨i,S,hi,rfl,hS2,hh⟩;by_cases hlt:i<n
  ·obtain ⟨x,hx⟩:=ah (l:=l) (k:=i) ZB;obtain ⟨ad,rfl,hr⟩:=hS.at_ ZB;have hxm:=ZL hx;have hS3:jR ((l.take (i+1)).map NR.d)=S*x.d:=by rw [al hx,aaG,acb,wE,hS2]
   have hSz:Sz (1+k*i) S:=by
    rw [hS2];have:=Sz.prod (k:=k) (l:=(l.take i).map NR.d) (fun y hy=>by
     obtain ⟨a,ha,rfl⟩:=ZU.1 hy;exact hk a (abw ha))
    rw [ZY,Z1,aaT ZB] at this;exact this
   have hki:k*i≤k*n:=aah _ hi;obtain ⟨so1,so2,so3⟩:=hSz.ok ZB;obtain ⟨xo1,xo2,xo3⟩:=hl x hxm;have e1:oJ ([IR.mk (nR S).neg (nR S).aW,IR.mk x.neg x.aW].map IR.v)=(nR S).i*x.i:=by
    simp only [aaj,aaC,oJ,Int.mul_one];rfl
   have e2:Dyadic.ofIntWithPrec ((nR S).i*x.i) (-((nR S).e+x.e))=S*x.d:=by
    have:=lr (nR S).i x.i (-(nR S).e) (-x.e);rw [Int.neg_add,←this];congr 1;exact bE S
   have hac:∀(A:Option Addr) (cc:Nat) (w1:World),Sl w1 A 2 2 (ao IR.cells [IR.mk (nR S).neg (nR S).aW,IR.mk x.neg x.aW])→Calls Tryz.prog 91 #[.slice A 2 cc] w1 fun e w'=>e=.returned (.agg #[.bool (iN ((nR S).i*x.i)),.string (iM ((nR S).i*x.i))])∧Below w1.heap.size w1 w':=fun A cc w1 hsl=>by
    have:=Fm A 2 cc [IR.mk (nR S).neg (nR S).aW,IR.mk x.neg x.aW] w1 hsl ZB (by simp;omega);rw [e1] at this;exact this
   have hmc:∀w1,dO w1→Calls Tryz.prog 78 #[.agg #[.bool (iN ((nR S).i*x.i)),.string (iM ((nR S).i*x.i))],.int .i64 ((nR S).e+x.e)] w1 fun r w'=>r=.returned (.agg #[.bool (nR (S*x.d)).neg,.string (nR (S*x.d)).aW,.int .i64 (nR (S*x.d)).e])∧Below w1.heap.size w1 w':=fun w1 hT1=>by
    have hb1:=fU (nR S).neg (nR S).aW;have hb2:=fU x.neg x.aW;have hb3:=m9 (nR S).i x.i;have:=gu (iN ((nR S).i*x.i)) (iM ((nR S).i*x.i)) ((nR S).e+x.e) w1 hT1 (by rw [cx];unfold NR.i at hb3 ⊢;omega) ZB ZB;rw [dI,e2] at this;exact this
   refine aj ?_;refine Hu ?_;refine bU ?_;intro b5 w5 hh ws hh;refine aw 11 [[(3,none)],[(13,some 0)],[(5,none)],[(15,some 2)],[(14,some 1),(16,some 3)],[(17,some 4)],[(3,none)],[(19,some 6)],[(5,none)],[(21,some 8)],[(20,some 7),(22,some 9)]] [(10,23),(9,22),(8,21),(7,20),(6,19),(5,18),(4,17),(3,16),(2,15),(1,14),(0,13)] hh mixed ZD ?_;refine cK ?_;refine df 1 [_,_] ?_;refine cK ?_;refine df 0 [_,_] ?_;refine vG [_,_,_,_] ?_;refine aM (i:=5) (Is (.agg #[.bool (iN ((nR S).i*x.i)),.string (iM ((nR S).i*x.i))])) Is.ext ?_ ?_
   ·intro ρ1 w1 hj hR;obtain ⟨A17,c17,h17,s17⟩:=hR.1;exact bI rfl (a8 ak.out (av h17 bh)) (hac A17 c17 _ s17) (fun _ _ hq=>⟨_,hq.1,hq.2,rfl⟩)
   refine cK ?_;refine ee 1 ?_;refine cK ?_;refine ee 0 ?_;refine p8 ?_;refine au ?_;intro f W hJ hV;have hb_5:=hJ.bl;obtain ⟨v23,v22,v21,v20,v19,v18,v17,v16,v15,v14,v13,_⟩:=hV;obtain ⟨A17,c17,e17,f17⟩:Rows _ _ _ (f 4) W:=v17;replace hh:=hJ.hp;refine az (aH (aa v23 (aa v22 (aa v21 (aa v20 (aa v19 (aa v18 (aa e17 (aa v16 (aa v15 (aa v14 (aa v13 ay)))))))))))) ?_;dsimp only [bf];clear e17 hJ;refine a0 hh (hmc _ (hT.hp hh)) rfl ?_;intro w24 hh;refine bJ ?_;intro ws hh;replace hh:=hh.sub (aan _ _);exact TL
  ·exact PK
theorem Pa (i p:Int) (n:Nat):Dyadic.ofIntWithPrec i p^n=Dyadic.ofIntWithPrec (i^n) (p*n):=by
 induction n with
 |zero=>rw [Dyadic.pow_zero];simp;rfl
 |succ n ih=>rw [Dyadic.pow_succ,ih,lr,Int.pow_succ,aa3,Int.mul_add];simp
theorem VZ (i p:Int):(nR (Dyadic.ofIntWithPrec i p)).aW.size≤(bg i.natAbs+7)/8∧(i=0∨ -p≤(nR (Dyadic.ofIntWithPrec i p)).e∧(nR (Dyadic.ofIntWithPrec i p)).e≤ -p+bg i.natAbs)∧(i=0→(nR (Dyadic.ofIntWithPrec i p)).e=0):=by
 by_cases h0:i=0
 ·subst h0;rw [fk,mH];exact ⟨ZK _,.inl rfl,fun _=>rfl⟩
 ·have h2:=mr h0;rw [Az h0,nR];simp only;refine ⟨?_,.inr ⟨ZB, ?_⟩,fun h=>absurd h h0⟩
  ·rw [cx];have:bg (i>>>i.trailingZeros).natAbs≤bg i.natAbs:=by
    apply di;refine aaI ?_ (cu _);rw [Int.shiftRight_eq_div_pow];exact acw _ _
   omega
  ·have h3:2^i.trailingZeros<2^bg i.natAbs:=aaI h2 (cu _);have:=(Nat.pow_lt_pow_iff_right ZB).1 h3;omega
theorem FJ (a:NR) (n:Int) (w:World) (hT:dO w) (ha:a.ok) (hs:n.toNat*a.aW.size≤1000000) (hn:n≤1000):
  Calls Tryz.prog 87 #[.agg #[.bool a.neg,.string a.aW,.int .i64 a.e],.int .i64 n] w fun r w'=>r=.returned (.agg #[.bool (nR (a.d^n.toNat)).neg,.string (nR (a.d^n.toNat)).aW,.int .i64 (nR (a.d^n.toNat)).e])∧Below w.heap.size w w':=by
 have hh:=Hp.start w;obtain ⟨ha1,ha2,ha3⟩:=ha;obtain ⟨_,fa1,fa2,fa3⟩:=kT (a:=a) ⟨ha1,ha2,ha3⟩;have hsz:(nR a.d).aW.size≤a.aW.size:=by
  have:=(VZ a.i (-a.e)).1;have h2:=fU a.neg a.aW;unfold NR.d NR.i at*;omega
 have hms:n.toNat*(nR a.d).aW.size≤n.toNat*a.aW.size:=aah _ hsz;have e1:(if (0:Int)>n then 0 else n)=(n.toNat:Int):=by split<;>omega
 have hm:n.toNat≤1000:=ZB;have hlo: -18000000*1000≤(nR a.d).e*(n.toNat:Int):=by
  have h1:(-18000000:Int)*n.toNat≤(nR a.d).e*n.toNat:=Int.mul_le_mul_of_nonneg_right fa2 ZB;omega
 have hhi:(nR a.d).e*(n.toNat:Int)≤18000000*1000:=by
  have h1:(nR a.d).e*n.toNat≤(18000000:Int)*n.toNat:=Int.mul_le_mul_of_nonneg_right fa3 ZB;omega
 have hpc:=fun w1=>Fx (nR a.d).neg (nR a.d).aW n w1 ZB ZB ZB;have hmc:∀w1,dO w1→Calls Tryz.prog 78 #[.agg #[.bool (iN (iv (nR a.d).neg (nR a.d).aW^n.toNat)),.string (iM (iv (nR a.d).neg (nR a.d).aW^n.toNat))],.int .i64 ((nR a.d).e*(n.toNat:Int))] w1 fun r w'=>r=.returned (.agg #[.bool (nR (a.d^n.toNat)).neg,.string (nR (a.d^n.toNat)).aW,.int .i64 (nR (a.d^n.toNat)).e])∧Below w1.heap.size w1 w':=fun w1 hT1=>by
  have hb:=rA (iv (nR a.d).neg (nR a.d).aW) n.toNat;have hb2:=fU (nR a.d).neg (nR a.d).aW;have hb3:n.toNat*bg (iv (nR a.d).neg (nR a.d).aW).natAbs≤n.toNat*(8*(nR a.d).aW.size):=aah _ hb2;rw [acf] at hb3;have:=gu (iN (iv (nR a.d).neg (nR a.d).aW^n.toNat)) (iM (iv (nR a.d).neg (nR a.d).aW^n.toNat)) ((nR a.d).e*(n.toNat:Int)) w1 hT1 (by rw [cx];omega) ZB ZB;have e2:Dyadic.ofIntWithPrec (iv (nR a.d).neg (nR a.d).aW^n.toNat) (-((nR a.d).e*(n.toNat:Int)))=a.d^n.toNat:=by
   have h3:=bE a.d
   conv=>rhs;rw [←h3,NR.d,Pa]
   rw [Int.neg_mul];rfl
  rw [dI,e2] at this;exact this
 refine ae (N:=17) (l:=[.agg #[.bool a.neg,.string a.aW,.int .i64 a.e],.int .i64 n]) Tryz.func87 rfl rfl (by simp) ?_;refine bU ?_;intro b2 w2 hh b4 w4 hh;refine a0 hh (dT a _ (hT.hp hh) ZB ZB ZB) rfl ?_;intro w6 hh;refine bJ ?_;intro ws hh;refine aw 9 [[(2,none)],[(7,some 0)],[(1,none)],[(8,some 1),(9,some 2)],[(2,none)],[(11,some 4)],[(1,none)],[(13,some 6)],[(12,some 5),(14,some 7)]] [(8,15),(7,14),(6,13),(5,12),(4,11),(3,10),(2,9),(1,8),(0,7)] hh mixed ZD ?_;refine cK ?_;refine df 1 [_,_] ?_;refine cj ?_;refine dC (fun _ hj=>hpc _) ?_;refine cK ?_;refine ee 1 ?_;refine cj ?_;refine aM (i:=7) (Is (.int .i64 (n.toNat:Int))) (Is.ext) ?_ ?_
 ·intro ρ1 w1 hj hR;exact dm rfl ((Ly (ρ:=ρ1) (x:=.tmp 13) (show ρ1 13=Value.int .i64 n from hR.1) rfl).trans (by rw [e1])) ⟨Below.refl _ _,rfl⟩
 refine Ug ?_;refine au ?_;intro f W hJ hV;have hb_2:=hJ.bl;obtain ⟨v15,v14,v13,v12,v11,v10,v9,v8,v7,_⟩:=hV;replace hh:=hJ.hp;refine az (aH (aa v15 (aa v14 (aa v13 (aa v12 (aa v11 (aa v10 (aa v9 (aa v8 (aa v7 ay)))))))))) ?_;dsimp only [bf];clear hJ;refine a0 hh (hmc _ (hT.hp hh)) rfl ?_;intro w16 hh;exact vI
theorem Uv (x:Dyadic):(nR (-x)).aW=(nR x).aW∧(nR (-x)).e=(nR x).e:=by
 cases x with
 |zero=>exact ⟨rfl,rfl⟩
 |ofOdd n k h=>
  refine ⟨?_,rfl⟩;show iM (-n)=iM n;rw [iM,iM,Int.natAbs_neg]
def cG (f:Dyadic→Dyadic→Bool):List Dyadic→Dyadic
 |[]=>0
 |a::r=>r.foldl (fun out a=>if f a out then a else out) a
theorem u7 (f:Dyadic→Dyadic→Bool) {l:List Dyadic} (h:l≠[]) (x:Dyadic):cG f (l++[x])=if f x (cG f l) then x else cG f l:=by
 cases l with
 |nil=>exact absurd rfl h
 |cons a r=>
  show (r++[x]).foldl _ a=_;rw [acA]
  rfl
theorem sl (L:Option Addr) (n c:Nat) (l:List NR) (g:FuncId) (f:Dyadic→Dyadic→Bool) (w:World) (hT:dO w) (hS:Sl w L n 3 (ao NR.cells l)) (hl:∀a∈l,a.ok) (hn:n≤1000000) [ak Tryz.prog g]
  (hg:∀(a b:NR) (w:World),dO w→a.ok→b.ok→Calls Tryz.prog g #[.agg #[.bool a.neg,.string a.aW,.int .i64 a.e],.agg #[.bool b.neg,.string b.aW,.int .i64 b.e]] w fun r w'=>r=.returned (.bool (f a.d b.d))∧Below w.heap.size w w'):
  Calls Tryz.prog 174 #[.slice L n c,.func (.func g) #[] #[]] w fun r w'=>r=.returned (.agg #[.bool (nR (cG f (l.map NR.d))).neg,.string (nR (cG f (l.map NR.d))).aW,.int .i64 (nR (cG f (l.map NR.d))).e])∧Below w.heap.size w w':=by
 have hln:=hS.a6 NR.len ZB;have hh:=Hp.start w;refine ae (N:=27) (l:=[.slice L n c,.func (.func g) #[] #[]]) Tryz.func174 rfl rfl (by simp) ?_;refine bU ?_;intro b4 w4 hh b5 w5 hh;refine aD [6,7,10,11,12,13,14,15,16,17,18,19,20,21,22,23,24] 10
  (fun j w'=>∃(i:Nat) (o:NR),i≤n∧j=.int .i64 i∧o.ok∧o.d=cG f ((l.take i).map NR.d)∧Hp w [.blk b5 33 [.bool o.neg,.string o.aW,.int .i64 o.e] (0,0),.blk b4 33 [.bool false,.string (ByteArray.mk #[]),.int .i64 0] (0,0)] w')
  (fun j _=>n-(intOf j).toNat) ?_ ?_
 ·exact ⟨0,nR 0,ZK _,rfl,(Sz.zero 0).ok ZB,rfl,hh⟩
 ·clear hh;rintro ρ' j w' ⟨i,o,hi,rfl,hok,hod,hh⟩;by_cases hlt:i<n
  ·obtain ⟨x,hx⟩:=ah (l:=l) (k:=i) ZB;obtain ⟨ad,rfl,hr⟩:=hS.at_ ZB;have hxo:=hl x (ZL hx);have htk:(l.take (i+1)).map NR.d=(l.take i).map NR.d++[x.d]:=by rw [al hx,aaG,acb]
   by_cases h0:i=0
   ·subst h0;refine aj ?_;refine Hu ?_;refine kb ?_;intro b7 w7 hh ws hh ws hh;replace hh:=hh.sub (aan _ _);refine ⟨⟨1,x,ZB,rfl,hxo,by rw [htk];rfl,hh⟩,by show n-(0+1)<n-0;omega, ?_⟩;exact dh
   ·have hne:(l.take i).map NR.d≠[]:=by
     intro h;have:=aat List.length h;rw [ZY,Z1,aca] at this;omega
    have hb:=u7 f hne x.d;rw [←htk,←hod] at hb;refine aj ?_;refine Hu ?_;refine bU ?_;intro b7 w7 hh ws hh;refine g6 (hg x o _ (hT.hp hh) hxo hok) ak.out rfl rfl ZC ?_;rintro e_ w21 ⟨rfl,hb_⟩;refine ⟨_,rfl, ?_⟩;replace hh:=hh.ext hb_
    cases hf:f x.d o.d with
    |true=>
     rw [hf,ZH rfl] at hb;refine bJ ?_;intro ws hh;replace hh:=hh.sub (aan _ _);refine ⟨⟨i+1,x,ZB,rfl,hxo,hb.symm,hh⟩,by show n-(i+1)<n-i;omega, ?_⟩;exact dh
    |false=>
     rw [hf] at hb;refine aj ?_;replace hh:=hh.sub (aan _ _);refine ⟨⟨i+1,o,ZB,rfl,hok,hb.symm,hh⟩,by show n-(i+1)<n-i;omega, ?_⟩;exact dh
  ·rw [ZO ZB] at hod;obtain ⟨o1,o2,o3⟩:=hok;refine aj ?_;refine a0 hh (dT o _ (hT.hp hh) ZB ZB ZB) rfl ?_;intro w26 hh;rw [hod];exact QK
theorem m5 (x y:Dyadic):fR x y<0↔x<y:=by
 unfold fR;split
 ·rename_i h;simp [h]
 ·rename_i h;split<;>simp [h]
theorem rb (x y:Dyadic):0<fR x y↔y<x:=by
 unfold fR;split
 ·rename_i h;have:¬y<x:=by grind
  simp [this]
 ·split<;>rename_i h<;>simp [h]
theorem CB (a b:NR) (w:World) (hT:dO w) (ha:a.ok) (hb:b.ok):
  Calls Tryz.prog 175 #[.agg #[.bool a.neg,.string a.aW,.int .i64 a.e],.agg #[.bool b.neg,.string b.aW,.int .i64 b.e]] w fun r w'=>r=.returned (.bool (decide (a.d<b.d)))∧Below w.heap.size w w':=by
 have hh:=Hp.start w;have e1:decide (fR a.d b.d<0)=decide (a.d<b.d):=decide_eq_decide.2 (m5 _ _);refine ae (N:=9) (l:=[.agg #[.bool a.neg,.string a.aW,.int .i64 a.e],.agg #[.bool b.neg,.string b.aW,.int .i64 b.e]]) Tryz.func175 rfl rfl (by simp) ?_;exact Tt
theorem BW (a b:NR) (w:World) (hT:dO w) (ha:a.ok) (hb:b.ok):
  Calls Tryz.prog 176 #[.agg #[.bool a.neg,.string a.aW,.int .i64 a.e],.agg #[.bool b.neg,.string b.aW,.int .i64 b.e]] w fun r w'=>r=.returned (.bool (decide (b.d<a.d)))∧Below w.heap.size w w':=by
 have hh:=Hp.start w;have e1:decide (0<fR a.d b.d)=decide (b.d<a.d):=decide_eq_decide.2 (rb _ _);refine ae (N:=9) (l:=[.agg #[.bool a.neg,.string a.aW,.int .i64 a.e],.agg #[.bool b.neg,.string b.aW,.int .i64 b.e]]) Tryz.func176 rfl rfl (by simp) ?_;exact Tt
theorem Fe (L:Option Addr) (n c:Nat) (l:List NR) (w:World) (hT:dO w) (hS:Sl w L n 3 (ao NR.cells l)) (hl:∀a∈l,a.ok) (hn:n≤1000000):
  Calls Tryz.prog 126 #[.slice L n c] w fun r w'=>r=.returned (.agg #[.bool (nR (cG (fun x y=>decide (x<y)) (l.map NR.d))).neg,.string (nR (cG (fun x y=>decide (x<y)) (l.map NR.d))).aW,.int .i64 (nR (cG (fun x y=>decide (x<y)) (l.map NR.d))).e])∧Below w.heap.size w w':=by
 have hh:=Hp.start w;refine ae (N:=5) (l:=[.slice L n c]) Tryz.func126 rfl rfl (by simp) ?_;refine bJ ?_;intro b2 w2 hh;refine a0 hh (sl L n c l 175 (fun x y=>decide (x<y)) _ (hT.hp hh) (hS.ext hh.below) hl hn CB) rfl ?_;intro w4 hh;exact vI
theorem F4 (L:Option Addr) (n c:Nat) (l:List NR) (w:World) (hT:dO w) (hS:Sl w L n 3 (ao NR.cells l)) (hl:∀a∈l,a.ok) (hn:n≤1000000):
  Calls Tryz.prog 127 #[.slice L n c] w fun r w'=>r=.returned (.agg #[.bool (nR (cG (fun x y=>decide (y<x)) (l.map NR.d))).neg,.string (nR (cG (fun x y=>decide (y<x)) (l.map NR.d))).aW,.int .i64 (nR (cG (fun x y=>decide (y<x)) (l.map NR.d))).e])∧Below w.heap.size w w':=by
 have hh:=Hp.start w;refine ae (N:=5) (l:=[.slice L n c]) Tryz.func127 rfl rfl (by simp) ?_;refine bJ ?_;intro b2 w2 hh;refine a0 hh (sl L n c l 176 (fun x y=>decide (y<x)) _ (hT.hp hh) (hS.ext hh.below) hl hn BW) rfl ?_;intro w4 hh;exact vI
theorem kP {x y:Dyadic} (h:x<y):fR x y= -1:=by rw [fR,ZH h]
theorem qm {x y:Dyadic} (h:y<x):fR x y=1:=by
 have:¬x<y:=by grind
 rw [fR,ZG this,ZH h]
theorem yE (x:Dyadic):fR x x=0:=by
 have:¬x<x:=by grind
 rw [fR,ZG this,ZG this]
theorem SM (x y:Dyadic):x<y∨x=y∨y<x:=by
 rcases Classical.em (x<y) with h|h
 ·exact .inl h
 ·rcases Classical.em (y<x) with h2|h2
  ·exact .inr (.inr h2)
  ·exact .inr (.inl (by grind))
theorem Q8 (x y:Dyadic): -1≤fR x y∧fR x y≤1:=by
 unfold fR;split<;>(try split)<;>omega
variable {Y:Nat}
theorem Sl.Xb {A:Option Addr}{xs:List Nat} (h:Sl w A n 1 (iK xs)) (hk:k≤n):Sl w A k 1 (iK (xs.take k)):=by
 have hl:=h.1;rw [da] at hl;refine ⟨by rw [da,Z1];omega,fun h0=> ?_⟩;obtain ⟨ad,he,hr⟩:=h.2 ZB;exact ⟨ad,he,by rw [Ej];exact hr.take k⟩
theorem Sl.Ws {A:Option Addr}{xs:List Nat} (h:Sl w A n 1 (iK xs)):Sl w A (eh xs).length 1 (iK (eh xs)):=by
 have hl:=h.1;rw [da] at hl;have:=eM xs;have h2:=h.Xb (k:=(eh xs).length) ZB;rwa [←kK] at h2
theorem Hp.Uu {H:List HE}{A:Option Addr}{c:Nat}{t:TypeId}{xs:List Nat} (h:Hp w0 (.row A n c t 1 (iK xs)::H) w) (hl:xs.length=n):Hp w0 (.row A (eh xs).length c t 1 (iK (eh xs))::H) w:=by
 have h1:=eM xs;have h2:=h.Bv (k:=(eh xs).length) ZB;rw [Z8,←Ej,←kK] at h2;exact h2
theorem nG (A:Option Addr) (n c:Nat) (xs:List Nat) (w:World) (hx:Sl w A n 1 (iK xs)) (hc:n≤c) (hn:n≤1000000000000):
  Calls Tryz.prog 183 #[.slice A n c] w fun e w'=>e=.returned (.slice A (eh xs).length c)∧Below w.heap.size w w':=by
 have hlen:xs.length=n:=by have:=hx.1;rw [da] at this;omega
 have hh:=Hp.start w;refine ae (N:=21) (l:=[.slice A n c]) Tryz.func183 rfl rfl (by simp) ?_;refine aj ?_;refine aD [3,6,7,8,9,10,11,12,13,14,15,16,17] 3
  (fun v w'=>∃k:Nat,k≤n∧v=.int .i64 k∧eh (xs.take k)=eh xs∧w'=w)
  (fun v _=>(intOf v).toNat) ?_ ?_
 ·exact ⟨n,ZM _,rfl,by rw [ZO ZB],rfl⟩
 ·rintro ρ' v w' ⟨k,hk,rfl,hcut,rfl⟩;by_cases h0:k=0
  ·subst h0;refine aj ?_;refine nV (h:=0) bj.out aC.size rfl rfl ZB ZB ZC ?_;refine aj ?_;rw [←hcut];exact ⟨rfl,hh.below⟩
  ·obtain ⟨j,rfl⟩:∃j,k=j+1:=⟨k-1,ZB⟩;obtain ⟨d,hd⟩:=ah (l:=xs) (k:=j) ZB;obtain ⟨ad,rfl,hr⟩:=hx.at_ ZB;have hd2:=sQ hd;rw [al hd] at hcut;by_cases hz:d=0
   ·subst hz;rw [xm] at hcut;refine bX (sr (mI ?_));refine Bp (mB (gT (mL (gT (mI (gT ?_))))));refine qf (gT ?_);refine GY ?_;refine gT ?_;refine ld ?_;refine aj ?_;refine ⟨⟨j,ZB,by show Value.int _ _=Value.int _ _;congr 1;omega,hcut,rfl⟩,by show (((j+1:Nat):Int)-1).toNat<(((j+1:Nat):Int)).toNat;omega, ?_⟩;exact dh
   ·rw [zk hz] at hcut;refine bX (sr (mI ?_));refine Bp (mB (gT (mL (gT (mI (gT ?_))))));refine qf (gT ?_);refine GY ?_;refine gT ?_;refine ld ?_;refine aj ?_;refine nV (h:=j+1) bj.out aC.size rfl rfl ZB ZB ZC ?_;exact Tu
theorem JI {s:List UInt8}{c:UInt8} (hc:(Eu s)[j]?=some c.toNat) (hk:k<8):c.toNat/2^k % 2=bn s/2^(8*j+k) % 2:=by
 have h1:=uR (AF s) hc;rw [←h1,←bn,aag,aax,show (2^8:Nat)=256 from rfl,←aa9];generalize bn s/256^j=m;have e:(256:Nat)=2^k*2^(8-k):=by rw [←aag,show k+(8-k)=8 by omega]
 have e2:2^(8-k)=2*2^(7-k):=by rw [←Nat.pow_succ'];congr 1;omega
 rw [e,Nat.mod_mul_right_div_self,e2,Nat.mod_mul_right_mod]
theorem gl (a:ByteArray) (w:World) (ha:a.size≤1000000000):
  Calls Tryz.prog 142 #[.string a] w fun e w'=>∃A c,e=.returned (.slice A (aO 2 (bN a)).length c)∧w'.ownsRow w.heap.size 5 1 (.slice A (aO 2 (bN a)).length c) (aO 2 (bN a)).length (iK (aO 2 (bN a)))∧Below w.heap.size w w':=by
 have hsz:=eS a;have hh:=Hp.start w;refine ae (N:=28) (l:=[.string a]) Tryz.func142 rfl rfl (by simp) ?_;refine aj ?_;replace hh:=hh.cq 5 1;refine a7 [3,4,5,9,10,11,12,13,14,15,16,17,18,19,20,21,22,23,24,25] 3 4
  (fun o v w'=>∃(j:Nat) (A:Option Addr) (c:Nat),j≤a.size∧v=.int .i64 ((a.size:Int)-1-j)∧o=.slice A (8*j) c∧Hp w [.row A (8*j) c 5 1 (iK (bM 2 (8*j) (bN a)))] w')
  (fun _ v _=>(intOf v+1).toNat) ?_ ?_
 ·exact ⟨0,none,0,ZK _,by show Value.int _ _=Value.int _ _;congr 1;omega,rfl,hh⟩
 ·clear hh;rintro ρ' o v w' ⟨j,A,c,hj,rfl,rfl,hh⟩;by_cases hlt:j<a.size
  ·obtain ⟨ch,hc⟩:=ah (l:=a.data.toList) (k:=((a.size:Int)-1-j).toNat) ZB;have hlo:=K2 (s:=a.data.toList) (i:=j) (c:=ch) ZB (by rw [←hc];congr 1;omega);have hc8:=ch.toNat_lt;refine aj ?_;refine a7 [3,5,13,14,15,16,17,18,19,20,21,22,23,24,25] 3 5
    (fun o v w'=>∃(k:Nat) (A:Option Addr) (c:Nat),k≤8∧v=.int .i64 (k:Int)∧o=.slice A (8*j+k) c∧Hp w [.row A (8*j+k) c 5 1 (iK (bM 2 (8*j+k) (bN a)))] w')
    (fun _ v _=>8-(intOf v).toNat) ?_ ?_
   ·exact ⟨0,A,c,ZK _,rfl,rfl,hh⟩
   ·clear hh;rintro ρ2 o v w2 ⟨k,A2,c2,hk,rfl,rfl,hh⟩;by_cases hk8:k<8
    ·have hst:=JI hlo hk8;have hand:∀z:Nat,z &&& 1=z % 2:=fun z=>Nat.and_one_is_mod z;have hcl:ch.toNat/2^(k:Int).toNat<256:=aaI (abJ _ _) hc8;refine aj ?_;refine vd rfl rfl ZB ZC ?_;refine LN ?_;refine ue ?_;intro b24 w24 hh;refine oM ?_;intro A25 c25 w25 hh;simp only [ZP,aaf] at hh;replace hh:=hh.sub (aan _ _);refine aj ?_;have e1:iK (bM 2 (8*j+k) (bN a))++[Value.int .u8 ((ch.toNat/2^(k:Int).toNat &&& 1:Nat):Int)]=iK (bM 2 (8*j+(k+1)) (bN a)):=by
      rw [hand,abc,hst,←acS,mg,wZ];rfl
     rw [e1] at hh;refine ⟨⟨k+1,A25,c25,ZB,rfl,rfl,hh⟩,by show 8-(k+1)<8-k;omega, ?_⟩;exact dh
    ·obtain rfl:k=8:=ZB;refine aj ?_;refine ⟨⟨j+1,A2,c2,ZB,by show Value.int _ _=Value.int _ _;congr 1;omega,rfl,hh⟩,by show ((a.size:Int)-1-j-1+1).toNat<((a.size:Int)-1-j+1).toNat;omega, ?_⟩;exact dh
  ·obtain rfl:j=a.size:=ZB;refine aj ?_;refine a0 hh (nG _ _ _ (bM 2 (8*a.size) (bN a)) _ (hh.ar (i:=0) rfl) (hh.fG (i:=0) rfl) ZB) rfl ?_;intro w27 hh;refine aj ?_;have hb:=zm a;rw [show (256:Nat)=2^8 from rfl,←aax] at hb;have hd:eh (bM 2 (8*a.size) (bN a))=aO 2 (bN a):=by
    rw [jf ZB (gG ZB _ _),cN hb]
   have h1:=(Hp.Uu (xs:=bM 2 (8*a.size) (bN a)) hh (aU _ _)).at_ (i:=0) rfl;exact HL
theorem Rn {l:List Nat}{v:Nat} (h:j<l.length):l.reverse.set (l.length-1-j) v=(l.set j v).reverse:=by
 apply aaM;intro i
 rcases aap i l.length with hi|hi
 ·rw [aaH (by rw [aba];exact hi),aba,aaX,aaX,aaH hi,Z6];by_cases he:l.length-1-j=i
  ·rw [ZH he,ZH ZB,ZH ZB,ZH h]
  ·rw [ZG he,ZG ZB]
 ·rw [Z5 (by simp;omega),Z5 (by simp;omega)]
theorem FO {i:Nat} (P:Nat) (hP:P<2^i) (hb:b<2) (hk:i/8<k):P/256^(i/8) % 256+b*2^(i % 8)<256∧(bM 256 k P).set (i/8) (P/256^(i/8) % 256+b*2^(i % 8))=bM 256 k (P+2^i*b):=by
 have hp:2^i=256^(i/8)*2^(i % 8):=by
  rw [show (256:Nat)=2^8 from rfl,←aax,←aag];congr 1;omega
 have h1:P/256^(i/8)<2^(i % 8):=by
  rw [aaW (aak ZB),Z2,←hp];exact hP
 have h2:2^(i % 8)≤128:=by
  have:=aao (show 0<2 by omega) (show i % 8≤7 by omega);omega
 have h3:P/256^(i/8) % 256<2^(i % 8):=aaI (Nat.mod_le _ _) h1;have h4:b*2^(i % 8)≤1*2^(i % 8):=aaV _ ZB;have h5:2^i*b=256^(i/8)*(b*2^(i % 8)):=by rw [hp,aaE,Z2 b]
 refine ⟨ZB, ?_⟩;rw [h5];refine q8 ZB hk ?_ ZB;rw [←h5];have h6:2^i*b≤2^i*1:=aah _ ZB;have h7:2^(i+1)≤256^k:=by
  rw [show (256:Nat)=2^8 from rfl,←aax];exact aao ZB ZB
 rw [aar] at h7;omega
theorem ie (A:Option Addr) (n c:Nat) (xs:List Nat) (w:World) (hx:Sl w A n 1 (iK xs)) (hd:Dg 2 xs) (hc:n≤c) (hn:n≤100000000000):
  Calls Tryz.prog 163 #[.slice A n c] w fun e w'=>e=.returned (.string (sN (aX 2 xs)))∧Below w.heap.size w w':=by
 have hl:=hx.1;rw [da] at hl;have hcl:=eM xs;have hcx:=hx.Ws;have hcan:=jf ZB hd;have hlen:=EN (aX 2 xs);rw [hcan] at hcl hcx;have hcd:=(er (B:=2) ZB (aX 2 xs)).1;have hcv:=eO (B:=2) ZB (aX 2 xs);have hbl:(aO 2 (aX 2 xs)).length=bg (aX 2 xs):=rfl;have hh:=Hp.start w;refine ae (N:=38) (l:=[.slice A n c]) Tryz.func163 rfl rfl (by simp) ?_;refine aj ?_;refine a0 hh (nG _ _ _ xs _ hx hc ZB) rfl ?_;intro w6 hh;rw [hcan];generalize aX 2 xs=M at*;generalize aO 2 M=xs' at*;refine aj ?_;refine fT (n:=(xs'.length+7)/8) hh rfl rfl ZB ZB bj.out aC.out rfl ZB ZB ZC ?_;intro b11 w11 hh;refine aj ?_;rw [rT] at hh;refine aD [4,12,13,14,15,16,17,18,19,20,21,22,23,24,25,26,27,28,29,30,31,32,33,34,35] 4
  (fun v w'=>∃i:Nat,i≤xs'.length∧v=.int .i64 i∧Hp w [.row (some ⟨b11,0,none⟩) ((xs'.length+7)/8) ((xs'.length+7)/8) 5 1 (iK (bM 256 ((xs'.length+7)/8) (aX 2 (xs'.take i))).reverse)] w')
  (fun v _=>xs'.length-(intOf v).toNat) ?_ ?_
 ·exact ⟨0,ZK _,rfl,by rw [aa7,aX,sI,List.reverse_replicate];exact hh⟩
 ·clear hh;rintro ρ' v w' ⟨i,hi,rfl,hh⟩;by_cases hlt:i<xs'.length
  ·obtain ⟨d,hdi⟩:=ah (l:=xs') (k:=i) ZB;obtain ⟨ad,rfl,hr⟩:=hcx.at_ ZB;have hd2:=sQ hdi;have hdw:=hcd.at_ hdi;have hP:=gH (hcd.take i);rw [Z1,aaT ZB] at hP;obtain ⟨s1,s2⟩:=FO (k:=(xs'.length+7)/8) (aX 2 (xs'.take i)) hP hdw ZB;have hg:(bM 256 ((xs'.length+7)/8) (aX 2 (xs'.take i))).reverse[(xs'.length+7)/8-1-i/8]?=some (aX 2 (xs'.take i)/256^(i/8) % 256):=by
    rw [aaH (by rw [aU];omega),aU,show (xs'.length+7)/8-1-((xs'.length+7)/8-1-i/8)=i/8 by omega];exact jF _ _ _ ZB
   have hg2:=sQ hg;have e1:((i:Int) % 8).toNat=i % 8:=ZB;have hset:=Rn (l:=bM 256 ((xs'.length+7)/8) (aX 2 (xs'.take i))) (j:=i/8) (v:=aX 2 (xs'.take i)/256^(i/8) % 256+d*2^(i % 8)) (by rw [aU];omega);rw [aU,s2] at hset;refine aj ?_;refine aw 16 [[(3,none)],[(3,none)],[(19,some 1)],[(20,some 2)],[(4,none)],[(22,some 4)],[(21,some 3),(23,some 5)],[(18,some 0),(24,some 6)],[(25,some 7)],[(0,none)],[(4,none)],[(27,some 9),(28,some 10)],[(29,some 11)],[(4,none)],[(31,some 13)],[(30,some 12),(32,some 14)]] [(15,33),(14,32),(13,31),(12,30),(11,29),(10,28),(9,27),(8,26),(7,25),(6,24),(5,23),(4,22),(3,21),(2,20),(1,19),(0,18)] hh mixed ZD ?_;refine dR ?_;refine dR ?_;refine m8 ?_;refine s7 ?_;refine cj ?_;refine aV (i:=5) (fun ρ1 w1 hj hR=>u4 (show ρ1 22=Value.int _ _ from hR.1) rfl ZB ZB ZB) ?_;refine s7 ?_;refine uC ((xs'.length+7)/8-1-i/8) ?_;refine aV (i:=8) (fun ρ1 w1 hj hR=>eB aC.out (show ρ1 25=Value.pointer _ from hR.1) (hj.hp.dZ (i:=0) rfl (by rw [Z8];exact hg2))) ?_;refine dR ?_;refine cj ?_;refine jK (i) ?_
   refine mZ (fun _ hj=>(hr.ext hj.hp.below).mX hd2) ?_;refine cj ?_;refine aV (i:=14) (fun ρ1 w1 hj hR=>qi (show ρ1 31=Value.int _ _ from hR.1) rfl ZB ZB) ?_;refine aV (i:=15) (fun ρ1 w1 hj hR=>xo (show ρ1 30=Value.int _ _ from hR.1) (show ρ1 32=Value.int _ _ from hR.2.1) ZB) ?_;refine au ?_;intro f W hJ hV;have hb_6:=hJ.bl;obtain ⟨v33,v32,v31,v30,v29,v28,v27,v26,v25,v24,v23,v22,v21,v20,v19,v18,_⟩:=hV;replace hh:=hJ.hp;refine az (aH (aa v33 (aa v32 (aa v31 (aa v30 (aa v29 (aa v28 (aa v27 (aa v26 (aa v25 (aa v24 (aa v23 (aa v22 (aa v21 (aa v20 (aa v19 (aa v18 ay))))))))))))))))) ?_;dsimp only [bf];clear hJ;refine fO rfl rfl ZC ?_;refine dN (k:=(xs'.length+7)/8-1-i/8) bj.out aC.size rfl rfl ZB ZB ZC ?_;refine bV hh (i:=0) (vs:=[_]) rfl rfl (cz rfl) rfl aC.out rfl (by rw [da,Z6,aU];omega) rfl ?_;intro ws hh;simp only [ZP] at hh;rw [e1,aas (show d*2^(i % 8)<256 by omega),aas s1,Z8,cw (by rw [da,Z6,aU];omega),ri,hset,←gR hdi] at hh;refine aj ?_
   refine ⟨⟨i+1,ZB,rfl,hh⟩,by show xs'.length-(i+1)<xs'.length-i;omega, ?_⟩;exact dh
  ·obtain rfl:i=xs'.length:=ZB;rw [acX,hcv,hbl] at hh;have hfin:iK (bM 256 ((bg M+7)/8) M).reverse=jQ (sb M):=by
    rw [←hlen];exact V8
   rw [hfin,←hbl] at hh;exact SF
theorem PA {xs:List Nat} (h:Dg 2 xs) (i:Nat):aX 2 xs/2^i % 2=(xs[i]?).getD 0:=by
 cases hi:xs[i]? with
 |some d=>exact uR h hi
 |none=>
  rw [qW h (List.getElem?_eq_none_iff.1 hi) ZB];rfl
theorem jY (A:Option Addr) (n c i:Nat) (xs:List Nat) (w:World) (hx:Sl w A n 1 (iK xs)) (hd:Dg 2 xs) (hn:n≤1000000000000) (hi:i≤1000000000000):
  Calls Tryz.prog 217 #[.slice A n c,.int .i64 (i:Int)] w fun e w'=>e=.returned (.int .u8 ((aX 2 xs/2^i % 2:Nat):Int))∧Below w.heap.size w w':=by
 have hl:=hx.1;rw [da] at hl;have hh:=Hp.start w;rw [PA hd];by_cases hlt:i<n
 ·obtain ⟨d,hdi⟩:=ah (l:=xs) (k:=i) ZB;obtain ⟨ad,rfl,hr⟩:=hx.at_ ZB;have hd2:=sQ hdi;rw [hdi];refine ae (N:=13) (l:=[.slice (some ad) n c,.int .i64 (i:Int)]) Tryz.func217 rfl rfl (by simp) ?_;refine aj ?_;refine ld ?_;refine aj ?_;exact ⟨rfl,hh.below⟩
 ·rw [Z5 ZB];refine ae (N:=13) (l:=[.slice A n c,.int .i64 (i:Int)]) Tryz.func217 rfl rfl (by simp) ?_;refine aj ?_;exact ⟨rfl,hh.below⟩
theorem ng (X i:Nat):X/2^i=2*(X/2^(i+1))+X/2^i % 2:=by
 rw [aar,←aa9];omega
theorem yV {X:Nat} (h:X/2^k<Y/2^k):X<Y:=by
 refine acM fun h2=> ?_;have:=Nat.div_le_div_right (c:=2^k) h2;omega
theorem oK (A B:Option Addr) (n c m c':Nat) (xs ys:List Nat) (w:World) (hx:Sl w A n 1 (iK xs)) (hy:Sl w B m 1 (iK ys)) (hdx:Dg 2 xs) (hdy:Dg 2 ys) (hn:n≤100000000000) (hm:m≤100000000000):
  Calls Tryz.prog 184 #[.slice A n c,.slice B m c'] w fun e w'=>e=.returned (.int .i64 (jw (aX 2 xs) (aX 2 ys)))∧Below w.heap.size w w':=by
 have hlx:=hx.1;have hly:=hy.1;rw [da] at hlx hly;have hh:=Hp.start w;have e1:(if (m:Int)>(n:Int) then (m:Int) else (n:Int))-1=((max n m:Nat):Int)-1:=by split<;>omega
 refine ae (N:=30) (l:=[.slice A n c,.slice B m c']) Tryz.func184 rfl rfl (by simp) ?_;refine aj ?_;rw [e1];refine aD [4,5,12,13,14,15,16,17,18,19,20,21,22,23,24,25,26,27,28,29] 5
  (fun v w'=>∃k:Nat,k≤max n m∧v=.int .i64 ((k:Int)-1)∧aX 2 xs/2^k=aX 2 ys/2^k∧Hp w [] w')
  (fun v _=>(intOf v+1).toNat) ?_ ?_
 ·exact ⟨max n m,ZM _,rfl,by rw [qW hdx ZB ZB,qW hdy ZB ZB],hh⟩
 ·clear hh;rintro ρ' v w' ⟨k,hk,rfl,heq,hh⟩;by_cases h0:k=0
  ·subst h0;refine aj ?_;rw [aci,abN,abN] at heq;exact ⟨by rw [IA heq],hh.below⟩
  ·obtain ⟨j,rfl⟩:∃j,k=j+1:=⟨k-1,ZB⟩;have hj:((j+1:Nat):Int)-1=(j:Int):=ZB;have hXb:=ng (aX 2 xs) j;have hYb:=ng (aX 2 ys) j;by_cases hlt:aX 2 xs/2^j % 2<aX 2 ys/2^j % 2
   ·have hf:aX 2 xs<aX 2 ys:=yV (k:=j) ZB;rw [hj];refine aj ?_;refine Df ?_;intro w18 hh;refine aj ?_;refine CD ?_;intro w21 hh;refine aj ?_;exact ⟨by rw [lu hf],hh.below⟩
   ·by_cases hgt:aX 2 ys/2^j % 2<aX 2 xs/2^j % 2
    ·have hf:aX 2 ys<aX 2 xs:=yV (k:=j) ZB;rw [hj];refine aj ?_;refine Df ?_;intro w18 hh;refine aj ?_;refine CD ?_;intro w21 hh;refine aj ?_;refine Df ?_;intro w25 hh;refine aj ?_;refine CD ?_;intro w28 hh;refine aj ?_;exact ⟨by rw [rY hf],hh.below⟩
    ·rw [hj];refine aj ?_;refine Df ?_;intro w18 hh;refine aj ?_;refine CD ?_;intro w21 hh;refine aj ?_;refine Df ?_;intro w25 hh;refine aj ?_;refine CD ?_;intro w28 hh;refine aj ?_;refine ⟨⟨j,ZB,rfl,ZB,hh⟩,by show ((j:Int)-1+1).toNat<((j:Int)+1).toNat;omega, ?_⟩;exact dh
theorem Qv (S T i:Nat):(S+T)/2^i % 2=(S/2^i % 2+(S % 2^i+T % 2^i)/2^i+T/2^i % 2) % 2∧(S % 2^(i+1)+T % 2^(i+1))/2^(i+1)=(S/2^i % 2+(S % 2^i+T % 2^i)/2^i+T/2^i % 2)/2∧(S % 2^i+T % 2^i)/2^i≤1:=by
 have hS:=aaY S (2^i);have hT:=aaY T (2^i);have hp:0<2^i:=aak ZB;have hS2:S % 2^(i+1)=S % 2^i+2^i*(S/2^i % 2):=by rw [aar,Nat.mod_mul]
 have hT2:T % 2^(i+1)=T % 2^i+2^i*(T/2^i % 2):=by rw [aar,Nat.mod_mul]
 have hSl:=aab S hp;have hTl:=aab T hp;have hc:=aaY (S % 2^i+T % 2^i) (2^i);have hcl:=aab (S % 2^i+T % 2^i) hp;have hc1:(S % 2^i+T % 2^i)/2^i≤1:=by
  have:(S % 2^i+T % 2^i)/2^i<2:=by rw [aaW hp];omega
  omega
 have e1:(S+T)/2^i=S/2^i+T/2^i+(S % 2^i+T % 2^i)/2^i:=by
  have:S+T=(S % 2^i+T % 2^i) % 2^i+2^i*(S/2^i+T/2^i+(S % 2^i+T % 2^i)/2^i):=by
   rw [aaw,aaw];omega
  conv=>lhs;rw [this]
  rw [abe _ _ hp,aaN hcl,Z9]
 refine ⟨by rw [e1];omega, ?_,hc1⟩;rw [hS2,hT2];have e2:S % 2^i+2^i*(S/2^i % 2)+(T % 2^i+2^i*(T/2^i % 2))=(S % 2^i+T % 2^i) % 2^i+2^i*(S/2^i % 2+(S % 2^i+T % 2^i)/2^i+T/2^i % 2):=by
  rw [aaw,aaw];omega
 rw [e2,aar,←aa9,abe _ _ hp,aaN hcl,Z9]
theorem UX (Y up i:Nat):Y*2^up/2^i % 2=if up≤i then Y/2^(i-up) % 2 else 0:=by
 split
 ·rename_i h;have e:2^i=2^up*2^(i-up):=by rw [←aag];congr 1;omega
  rw [e,←aa9,Nat.mul_div_cancel _ (aak ZB)]
 ·rename_i h;have e:2^up=2^i*2*2^(up-i-1):=by rw [←aar,←aag];congr 1;omega
  have e2:Y*2^up=2^i*(2*(Y*2^(up-i-1))):=by rw [e];simp only [aaE,acf]
  rw [e2,Nat.mul_div_cancel_left _ (aak ZB)];omega
theorem Tp {K i:Nat} (h:i<K):(bM 2 i N++List.replicate (K-i) 0).set i (N/2^i % 2)=bM 2 (i+1) N++List.replicate (K-(i+1)) 0:=by
 rw [show K-i=(K-(i+1))+1 by omega,acm,abP _ _ (by rw [aU];omega),aU,aaz,ZP,mg];simp
theorem tM (A B:Option Addr) (n c m c' up:Nat) (xs ys:List Nat) (w:World) (hx:Sl w A n 1 (iK xs)) (hy:Sl w B m 1 (iK ys)) (hdx:Dg 2 xs) (hdy:Dg 2 ys) (hn:n≤100000000000) (hm:m≤100000000000) (hup:up≤100000000000):
  Calls Tryz.prog 186 #[.slice A n c,.slice B m c',.int .i64 (up:Int)] w fun e w'=>∃b,e=.returned (.slice (some ⟨b,0,none⟩) (max n (m+up)+1) (max n (m+up)+1))∧w'.ownsRow w.heap.size 5 1 (.slice (some ⟨b,0,none⟩) (max n (m+up)+1) (max n (m+up)+1)) (max n (m+up)+1) (iK (bM 2 (max n (m+up)+1) (aX 2 xs+aX 2 ys*2^up)))∧Below w.heap.size w w':=by
 have hlx:=hx.1;have hly:=hy.1;rw [da] at hlx hly;have hh:=Hp.start w;have e1:(if ((m:Int)+(up:Int))>(n:Int) then ((m:Int)+(up:Int)) else (n:Int))+1=((max n (m+up)+1:Nat):Int):=by split<;>omega
 have hand:∀z:Nat,z &&& 1=z % 2:=fun z=>Nat.and_one_is_mod z;refine ae (N:=49) (l:=[.slice A n c,.slice B m c',.int .i64 (up:Int)]) Tryz.func186 rfl rfl (by simp) ?_;refine aj ?_;rw [e1];generalize hK:max n (m+up)+1=K at*;refine fT (n:=K) hh rfl rfl ZB ZB bj.out aC.out rfl ZB ZB ZC ?_;intro b19 w19 hh;refine aj ?_;rw [rT] at hh;refine a7 [8,9,10,20,21,22,23,24,25,26,27,28,29,30,31,32,33,34,35,36,37,38,39,40,41,42,43,44,45,46,47] 8 9
  (fun cr v w'=>∃i:Nat,i≤K∧v=.int .i64 (i:Int)∧cr=.int .u8 (((aX 2 xs % 2^i+aX 2 ys*2^up % 2^i)/2^i:Nat):Int)∧Hp w [.row (some ⟨b19,0,none⟩) K K 5 1 (iK (bM 2 i (aX 2 xs+aX 2 ys*2^up)++List.replicate (K-i) 0))] w')
  (fun _ v _=>K-(intOf v).toNat) ?_ ?_
 ·exact ⟨0,ZK _,rfl,by simp [Nat.mod_one];rfl,hh⟩
 ·clear hh;rintro ρ' cr v w' ⟨i,hi,rfl,rfl,hh⟩;by_cases hlt:i<K
  ·obtain ⟨b1,b2,b3⟩:=Qv (aX 2 xs) (aX 2 ys*2^up) i;have hbu:=UX (aX 2 ys) up i;have hxb:aX 2 xs/2^i % 2<2:=aab _ ZB;have hyb:aX 2 ys/2^(i-up) % 2<2:=aab _ ZB;have hll:(iK (bM 2 i (aX 2 xs+aX 2 ys*2^up)++List.replicate (K-i) 0)).length=K:=by rw [da,ZS,aU,aaZ];omega
   have hfk:=Tp (N:=aX 2 xs+aX 2 ys*2^up) hlt;generalize hC:(aX 2 xs % 2^i+aX 2 ys*2^up % 2^i)/2^i=C at*;generalize hX:aX 2 xs/2^i % 2=X at*;refine aj ?_;refine a0 hh (jY A n c i xs _ (hx.ext hh.below) hdx ZB ZB) rfl ?_;intro w28 hh;rw [hX];by_cases hiu:up≤i
   ·rw [ZH hiu] at hbu;rw [hbu] at b1 b2;generalize hY:aX 2 ys/2^(i-up) % 2=Y at*;have es:((X+C) % 256+Y) % 256=X+C+Y:=ZB;have ei:(i:Int)-(up:Int)=((i-up:Nat):Int):=ZB;refine mI ?_;refine fO rfl rfl ZC ?_;refine aj ?_;rw [ei];refine a0 hh (jY B m c' (i-up) ys _ (hy.ext hh.below) hdy ZB ZB) rfl ?_;intro w39 hh;rw [hY];exact Tq
   ·rw [ZG hiu] at hbu;rw [hbu] at b1 b2;have es:(X+C) % 256=X+C+0:=ZB;refine mI ?_;exact Tq
  ·obtain rfl:i=K:=ZB;exact To
theorem Pp {X:Nat} (h:Y≤X) (i:Nat):((2+X/2^i % 2+256-Y/2^i % 2) % 256+256-(if X % 2^i<Y % 2^i then 1 else 0)) % 256 % 2=(X-Y)/2^i % 2∧
  (1+256-((2+X/2^i % 2+256-Y/2^i % 2) % 256+256-(if X % 2^i<Y % 2^i then 1 else 0)) % 256/2) % 256=(if X % 2^(i+1)<Y % 2^(i+1) then 1 else 0):=by
 have hX:=aaY X (2^i);have hY:=aaY Y (2^i);have hp:0<2^i:=aak ZB;have hX2:X % 2^(i+1)=X % 2^i+2^i*(X/2^i % 2):=by rw [aar,Nat.mod_mul]
 have hY2:Y % 2^(i+1)=Y % 2^i+2^i*(Y/2^i % 2):=by rw [aar,Nat.mod_mul]
 have hXl:=aab X hp;have hYl:=aab Y hp;rw [hX2,hY2];generalize hx1:X/2^i=x1 at*;generalize hy1:Y/2^i=y1 at*;generalize hx0:X % 2^i=x0 at*;generalize hy0:Y % 2^i=y0 at*;have key:∀b:Nat,b=(if x0<y0 then 1 else 0)→(X-Y)/2^i=x1-y1-b∧y1+b≤x1:=by
  intro b hb;have hle:y1+b≤x1:=by
   refine ac0 fun hlt=> ?_;have h1:2^i*(x1+1)≤2^i*(y1+b):=aah _ hlt;rw [aaw,aaw] at h1;split at hb
   ·subst hb;omega
   ·subst hb;omega
  refine ⟨?_,hle⟩;have e:X-Y=(x0+2^i*b-y0)+2^i*(x1-y1-b):=by
   have h2:2^i*(x1-y1-b)=2^i*x1-2^i*y1-2^i*b:=by rw [Nat.mul_sub,Nat.mul_sub]
   have h3:2^i*(y1+b)≤2^i*x1:=aah _ hle;rw [aaw] at h3;split at hb
   ·subst hb;omega
   ·subst hb;omega
  rw [e,abe _ _ hp,aaN,Z9];split at hb
  ·subst hb;omega
  ·subst hb;omega
 obtain ⟨k1,k2⟩:=key _ rfl;rw [k1];have hlt:(x0+2^i*(x1 % 2)<y0+2^i*(y1 % 2))↔(x1 % 2<y1 % 2∨x1 % 2=y1 % 2∧x0<y0):=by
  rcases Nat.mod_two_eq_zero_or_one x1 with h1|h1<;>rcases Nat.mod_two_eq_zero_or_one y1 with h2|h2<;>rw [h1,h2]<;>omega
 by_cases hb:x0<y0
 ·rw [ZH hb] at k2 ⊢;exact S1
 ·rw [ZG hb] at k2 ⊢;exact S1
theorem q9 (A B:Option Addr) (n c m c':Nat) (xs ys:List Nat) (w:World) (hx:Sl w A n 1 (iK xs)) (hy:Sl w B m 1 (iK ys)) (hdx:Dg 2 xs) (hdy:Dg 2 ys) (hn:n≤100000000000) (hm:m≤100000000000) (hle:aX 2 ys≤aX 2 xs):
  Calls Tryz.prog 185 #[.slice A n c,.slice B m c'] w fun e w'=>∃b,e=.returned (.slice (some ⟨b,0,none⟩) n n)∧w'.ownsRow w.heap.size 5 1 (.slice (some ⟨b,0,none⟩) n n) n (iK (bM 2 n (aX 2 xs-aX 2 ys)))∧Below w.heap.size w w':=by
 have hlx:=hx.1;have hly:=hy.1;rw [da] at hlx hly;have hh:=Hp.start w;have hand:∀z:Nat,z &&& 1=z % 2:=fun z=>Nat.and_one_is_mod z;refine ae (N:=37) (l:=[.slice A n c,.slice B m c']) Tryz.func185 rfl rfl (by simp) ?_;refine aj ?_;refine z5 ?_;intro b11 w11 hh;refine aj ?_;rw [rT] at hh;refine a7 [6,7,8,12,13,14,15,16,17,18,19,20,21,22,23,24,25,26,27,28,29,30,31,32,33,34,35] 6 7
  (fun cr v w'=>∃i:Nat,i≤n∧v=.int .i64 (i:Int)∧cr=.int .u8 ((if aX 2 xs % 2^i<aX 2 ys % 2^i then 1 else 0:Nat):Int)∧Hp w [.row (some ⟨b11,0,none⟩) n n 5 1 (iK (bM 2 i (aX 2 xs-aX 2 ys)++List.replicate (n-i) 0))] w')
  (fun _ v _=>n-(intOf v).toNat) ?_ ?_
 ·exact ⟨0,ZK _,rfl,by simp [Nat.mod_one];rfl,hh⟩
 ·clear hh;rintro ρ' cr v w' ⟨i,hi,rfl,rfl,hh⟩;by_cases hlt:i<n
  ·obtain ⟨b1,b2⟩:=Pp hle i;have hxb:aX 2 xs/2^i % 2<2:=aab _ ZB;have hyb:aX 2 ys/2^i % 2<2:=aab _ ZB;have hcb:(if aX 2 xs % 2^i<aX 2 ys % 2^i then 1 else 0:Nat)≤1:=by split<;>omega
   have hll:(iK (bM 2 i (aX 2 xs-aX 2 ys)++List.replicate (n-i) 0)).length=n:=by rw [da,ZS,aU,aaZ];omega
   have hfk:=Tp (N:=aX 2 xs-aX 2 ys) hlt;refine aj ?_;refine a0 hh (jY A n c i xs _ (hx.ext hh.below) hdx ZB ZB) rfl ?_;intro w20 hh;refine fO (a:=2) rfl rfl ZC ?_;refine aj ?_;refine a0 hh (jY B m c' i ys _ (hy.ext hh.below) hdy ZB ZB) rfl ?_;intro w24 hh;generalize hC:(if aX 2 xs % 2^i<aX 2 ys % 2^i then 1 else 0:Nat)=C at*;generalize hX:aX 2 xs/2^i % 2=X at*;generalize hY:aX 2 ys/2^i % 2=Y at*;have es:((2+X) % 256+256-Y) % 256=(2+X+256-Y) % 256:=ZB;have hS:((2+X+256-Y) % 256+256-C) % 256<256:=aab _ ZB;refine zi ?_;refine mI ?_;rw [es];refine zi ?_;refine aj ?_;refine LN ?_;refine aj ?_;refine Nw ?_;intro ws hh;simp only [ZP] at hh;rw [hand,b1,Z8,cw (by rw [hll];omega),ri,hfk] at hh;refine aj ?_;refine np (s:=1) (m:=2) rfl rfl ZC ZC ZC ?_;refine qu (a:=1) rfl rfl ZB ZC ?_;refine aj ?_;refine ⟨⟨i+1,ZB,rfl,by rw [←b2];rfl,hh⟩,by show n-(i+1)<n-i;omega, ?_⟩;exact dh
  ·obtain rfl:i=n:=ZB;exact To
theorem zG (n:Nat) (w:World) (hn:n<18446744073709551616):
  Calls Tryz.prog 146 #[.int .u64 (n:Int)] w fun e w'=>e=.returned (.string (sN n))∧Below w.heap.size w w':=by
 have hh:=Hp.start w;refine ae (N:=16) (l:=[.int .u64 (n:Int)]) Tryz.func146 rfl rfl (by simp) ?_;refine aj ?_;replace hh:=hh.cq 5 1;refine a7 [0,3,4,5,6,7,8,9,10,11,12,13] 0 3
  (fun v o w'=>∃(k m:Nat) (A:Option Addr) (c:Nat),v=.int .u64 (m:Int)∧m<18446744073709551616∧k≤64∧m<2^(64-k)∧o=.slice A k c∧m=n/2^k∧Hp w [.row A k c 5 1 (iK (bM 2 k n))] w')
  (fun v _ _=>(intOf v).toNat) ?_ ?_
 ·exact ⟨0,n,none,0,rfl,hn,ZB,by simpa using hn,rfl,by simp,hh⟩
 ·clear hh;rintro ρ' v o w' ⟨k,m,A,c,rfl,hm,hk,hmk,rfl,hmn,hh⟩;by_cases h0:m=0
  ·subst h0;refine aj ?_;refine a0 hh (ie _ _ _ (bM 2 k n) _ (hh.ar (i:=0) rfl) (gG ZB _ _) (hh.fG (i:=0) rfl) ZB) rfl ?_;intro w15 hh;have hlt:n<2^k:=by
    have:=aaY n (2^k);have h2:=aab n (aak (n:=k) (show 0<2 by omega));rw [←hmn] at this;omega
   rw [cN hlt];refine aj ?_;exact ⟨rfl,hh.below⟩
  ·have hk64:k<64:=by
    refine acM fun h=> ?_;rw [show 64-k=0 by omega] at hmk;omega
   have hm2:m % 2<256:=ZB;refine aj ?_;refine EE (b:=2) rfl rfl ZB ZC ?_;refine lL ?_;refine ue ?_;intro b12 w12 hh;refine oM ?_;intro A13 c13 w13 hh;simp only [ZP,aaf] at hh;replace hh:=hh.sub (aan _ _);refine aj ?_;refine EO (b:=2) rfl rfl ZB (by first|assumption|omega) ZC ?_;refine aj ?_;have e1:iK (bM 2 k n)++[Value.int .u8 ((m % 2:Nat):Int)]=iK (bM 2 (k+1) n):=by
    rw [hmn,mg,wZ];rfl
   rw [e1] at hh;refine ⟨⟨k+1,m/2,A13,c13,rfl,ZB,ZB, ?_,rfl, ?_,hh⟩,by show (((m/2:Nat):Int)).toNat<((m:Int)).toNat;omega, ?_⟩
   ·rw [show 64-k=(64-(k+1))+1 by omega,aar] at hmk;omega
   ·rw [hmn,aa9,aar]
   ·exact dh
theorem jA (a:ByteArray):(aO 2 (bN a)).length≤8*a.size:=gZ a
theorem lI (n:Nat):Dg 2 (aO 2 n):=(er ZB n).1
theorem jt (n:Nat):aX 2 (aO 2 n)=n:=eO ZB n
theorem xg (a b:ByteArray) (w:World) (ha:a.size≤1000000000) (hb:b.size≤1000000000):
  Calls Tryz.prog 187 #[.string a,.string b] w fun e w'=>e=.returned (.int .i64 (jw (bN a) (bN b)))∧Below w.heap.size w w':=by
 have hh:=Hp.start w;have h1:=jA a;have h2:=jA b;refine ae (N:=10) (l:=[.string a,.string b]) Tryz.func187 rfl rfl (by simp) ?_;refine aj ?_;refine CO ?_;rintro e_ w6 ⟨A6,c6,rfl,hown_,hb_⟩;refine ⟨_,rfl, ?_⟩;replace hh:=hh.aE (x:=.row _ _ _ _ _ _) hb_ hown_;refine mS ?_;refine aq (gl b _ hb) ak.out rfl ZC ?_;rintro e_ w8 ⟨A8,c8,rfl,hown_,hb_⟩;refine ⟨_,rfl, ?_⟩;replace hh:=hh.aE (x:=.row _ _ _ _ _ _) hb_ hown_;refine a0 hh (oK _ _ _ _ _ _ (aO 2 (bN a)) (aO 2 (bN b)) _ (hh.ar (i:=1) rfl) (hh.ar (i:=0) rfl) (lI _) (lI _) ZB ZB) rfl ?_;intro w9 hh;rw [jt,jt];refine aj ?_;exact ⟨rfl,hh.below⟩
theorem qL (a:ByteArray) (w:World) (ha:a.size≤1000000000):
  Calls Tryz.prog 143 #[.string a] w fun e w'=>e=.returned (.int .i64 (bg (bN a)))∧Below w.heap.size w w':=by
 have hh:=Hp.start w;refine ae (N:=6) (l:=[.string a]) Tryz.func143 rfl rfl (by simp) ?_;refine aj ?_;refine CO ?_;rintro e_ w4 ⟨A4,c4,rfl,hown_,hb_⟩;refine ⟨_,rfl, ?_⟩;replace hh:=hh.aE (x:=.row _ _ _ _ _ _) hb_ hown_;refine aj ?_;exact ⟨rfl,hh.below⟩
theorem p9 (a b:ByteArray) (w:World) (ha:a.size≤1000000000) (hb:b.size≤1000000000):
  Calls Tryz.prog 145 #[.string a,.string b] w fun e w'=>e=.returned (.tuple #[.string (sN (bN a-bN b)),.bool (decide (bN b≤bN a))])∧Below w.heap.size w w':=by
 have hh:=Hp.start w;have h1:=jA a;have h2:=jA b;by_cases hlt:bN a<bN b
 ·refine ae (N:=16) (l:=[.string a,.string b]) Tryz.func145 rfl rfl (by simp) ?_;refine aj ?_;refine a0 hh (xg a b _ ha hb) rfl ?_;intro w8 hh;rw [lu hlt];exact SA
 ·have hc:¬jw (bN a) (bN b)<0:=by unfold jw;split<;>(try split)<;>omega
  have hbl:bN a-bN b<2^(aO 2 (bN a)).length:=aaI (Nat.sub_le _ _) (cu (bN a));refine ae (N:=16) (l:=[.string a,.string b]) Tryz.func145 rfl rfl (by simp) ?_;refine aj ?_;refine a0 hh (xg a b _ ha hb) rfl ?_;intro w8 hh;refine aj ?_;refine CO ?_;rintro e_ w11 ⟨A11,c11,rfl,hown_,hb_⟩;refine ⟨_,rfl, ?_⟩;replace hh:=hh.aE (x:=.row _ _ _ _ _ _) hb_ hown_;refine mS ?_;refine aq (gl b _ hb) ak.out rfl ZC ?_;rintro e_ w13 ⟨A13,c13,rfl,hown_,hb_⟩;refine ⟨_,rfl, ?_⟩;replace hh:=hh.aE (x:=.row _ _ _ _ _ _) hb_ hown_;refine aq (q9 _ _ _ _ _ _ (aO 2 (bN a)) (aO 2 (bN b)) _ (hh.ar (i:=1) rfl) (hh.ar (i:=0) rfl) (lI _) (lI _) ZB ZB (by rw [jt,jt];omega)) ak.out rfl ZC ?_;rintro e_ w_ ⟨b14,rfl,hown_,hb_⟩;refine ⟨_,rfl, ?_⟩;replace hh:=hh.aE (x:=.row _ _ _ _ _ _) hb_ hown_;rw [jt,jt] at hh;refine a0 hh (ie _ _ _ (bM 2 (aO 2 (bN a)).length (bN a-bN b)) _ (hh.ar (i:=0) rfl) (gG ZB _ _) (ZM _) ZB) rfl ?_;intro w15 hh;rw [cN hbl];refine aj ?_;rw [ZX ZB];exact ⟨rfl,hh.below⟩
theorem Fz (a:ByteArray) (m:Nat) (w:World) (ha:a.size≤1000000000) (hm:m≤10000000000):
  Calls Tryz.prog 141 #[.string a,.int .i64 (m:Int)] w fun e w'=>e=.returned (.string (sN (bN a*2^m)))∧Below w.heap.size w w':=by
 have hh:=Hp.start w;have h1:=jA a;have e1:(if (0:Int)>(m:Int) then 0 else (m:Int))=m:=ZG ZB;have hbd:bN a*2^m<2^(max 0 ((aO 2 (bN a)).length+m)+1):=by
  refine aaF (cu _) (aao ZB ?_);have:=iB (bN a) m;show bg _≤max 0 (bg _+m)+1;omega
 refine ae (N:=11) (l:=[.string a,.int .i64 (m:Int)]) Tryz.func141 rfl rfl (by simp) ?_;refine aj ?_;refine CO ?_;rintro e_ w6 ⟨A6,c6,rfl,hown_,hb_⟩;refine ⟨_,rfl, ?_⟩;replace hh:=hh.aE (x:=.row _ _ _ _ _ _) hb_ hown_;refine aj ?_;rw [e1];refine aq (tM none _ 0 0 _ _ m [] (aO 2 (bN a)) _ (Sl.nil _ _ _) (hh.ar (i:=0) rfl) Dg.nil (lI _) ZB ZB ZB) ak.out rfl ZC ?_;rintro e_ w_ ⟨b9,rfl,hown_,hb_⟩;refine ⟨_,rfl, ?_⟩;replace hh:=hh.aE (x:=.row _ _ _ _ _ _) hb_ hown_;rw [jt,aX,Z9] at hh;refine a0 hh (ie _ _ _ (bM 2 (max 0 ((aO 2 (bN a)).length+m)+1) (bN a*2^m)) _ (hh.ar (i:=0) rfl) (gG ZB _ _) (ZM _) ZB) rfl ?_;intro w10 hh;rw [cN hbd];refine aj ?_;exact ⟨rfl,hh.below⟩
theorem FT (L:Option Addr) (n c:Nat) (ss:List ByteArray) (w:World) (hS:Sl w L n 1 (l4 ss)) (hn:n≤1000000) (hs:∀s∈ss,s.size≤1000000000):
  Calls Tryz.prog 144 #[.slice L n c] w fun e w'=>e=.returned (.string (sN (ss.map bN).sum))∧Below w.heap.size w w':=by
 have hsl:ss.length=n:=by have:=hS.1;rw [nW] at this;omega
 have hh:=Hp.start w;refine ae (N:=20) (l:=[.slice L n c]) Tryz.func144 rfl rfl (by simp) ?_;refine aj ?_;replace hh:=hh.cq 5 1;refine a7 [3,4,5,6,7,8,9,10,11,12,13,14,15,16,17] 3 4
  (fun v j w'=>∃(i:Nat) (A:Option Addr) (c' T K:Nat),i≤n∧j=.int .i64 i∧T=((ss.take i).map bN).sum∧v=.slice A K c'∧K≤8000000000+i∧T<2^K∧Hp w [.row A K c' 5 1 (iK (bM 2 K T))] w')
  (fun _ j _=>n-(intOf j).toNat) ?_ ?_
 ·exact ⟨0,none,0,0,0,ZK _,rfl,rfl,rfl,ZB,by simp,hh⟩
 ·clear hh;rintro ρ' v j w' ⟨i,A,c',T,K,hi,rfl,hT,rfl,hTl,hTb,hh⟩;by_cases hlt:i<n
  ·obtain ⟨s,hsi⟩:=ah (l:=ss) (k:=i) ZB;obtain ⟨ad,rfl,hr⟩:=hS.at_ ZB;have hs2:=uO hsi;have hsz:=hs s (ZL hsi);have hlx:=jA s;have hT2:((ss.take (i+1)).map bN).sum=T+bN s:=by rw [al hsi,aaG,acb,tk,hT]
   have hbs:bN s<2^(aO 2 (bN s)).length:=cu _;have hb2:T+bN s<2^(max K ((aO 2 (bN s)).length+0)+1):=by
    have h1:2^K≤2^max K ((aO 2 (bN s)).length+0):=aao ZB ZB;have h2:2^(aO 2 (bN s)).length≤2^max K ((aO 2 (bN s)).length+0):=aao ZB ZB;rw [aar];omega
   refine aj ?_;refine ld ?_;refine aq (gl s _ hsz) ak.out rfl ZC ?_;rintro e_ w16 ⟨A16,c16,rfl,hown_,hb_⟩;refine ⟨_,rfl, ?_⟩;replace hh:=hh.aE (x:=.row _ _ _ _ _ _) hb_ hown_;refine aq (tM _ _ _ _ _ _ 0 (bM 2 K T) (aO 2 (bN s)) _ (hh.ar (i:=1) rfl) (hh.ar (i:=0) rfl) (gG ZB _ _) (lI _) ZB ZB ZB) ak.out rfl ZC ?_;rintro e_ w_ ⟨b17,rfl,hown_,hb_⟩;refine ⟨_,rfl, ?_⟩;rw [jt,cN hTb,aci,Z8] at hown_;replace hh:=(hh.aE (x:=.row _ _ _ _ _ _) hb_ hown_).sub (acv [_] _);refine aj ?_;refine ⟨⟨i+1,_,_,T+bN s,_,ZB,rfl,hT2.symm,rfl,ZB,hb2,hh⟩,by show n-(i+1)<n-i;omega, ?_⟩;exact dh
  ·refine aj ?_;refine a0 hh (ie _ _ _ (bM 2 K T) _ (hh.ar (i:=0) rfl) (gG ZB _ _) (hh.fG (i:=0) rfl) ZB) rfl ?_;intro w19 hh;rw [cN hTb];refine aj ?_;rw [ZO ZB] at hT;rw [hT];exact ⟨rfl,hh.below⟩
theorem Nd (X Y k:Nat) (hY:0<Y):X/2^k % Y=(if Y≤X/2^k % 2+2*(X/2^(k+1) % Y) then X/2^k % 2+2*(X/2^(k+1) % Y)-Y else X/2^k % 2+2*(X/2^(k+1) % Y))∧
  X/2^k/Y % 2=(if Y≤X/2^k % 2+2*(X/2^(k+1) % Y) then 1 else 0)∧X/2^k/Y/2=X/2^(k+1)/Y:=by
 have h1:=ng X k;have hb:X/2^k % 2<2:=aab _ ZB;generalize X/2^k % 2=b at*;generalize X/2^k=Z at*;generalize X/2^(k+1)=V at*;have h2:=aaY V Y;have h3:=aab V hY;generalize V/Y=q at*;generalize V % Y=r at*;have e:Z=(b+2*r)+Y*(2*q):=by rw [h1,←h2,aaw,acf];omega
 rw [e,abW,abe _ _ hY];by_cases hc:Y≤b+2*r
 ·rw [ZH hc,ZH hc];have e2:b+2*r=(b+2*r-Y)+Y*1:=ZB;have h4:b+2*r-Y<Y:=ZB;have h5:(b+2*r)/Y=1:=by rw [e2,abe _ _ hY,aaN h4]
  have h6:(b+2*r) % Y=b+2*r-Y:=by conv=>lhs;rw [e2,abW,aas h4]
  rw [h5,h6];omega
 ·rw [ZG hc,ZG hc,aas ZB,aaN ZB];omega
theorem qx (a b:ByteArray) (w:World) (ha:a.size≤1000000000) (hb:b.size≤1000000000) (hb0:bN b≠0):
  Calls Tryz.prog 140 #[.string a,.string b] w fun e w'=>e=.returned (.tuple #[.string (sN (bN a/bN b)),.string (sN (bN a % bN b)),.bool true])∧Below w.heap.size w w':=by
 have hh:=Hp.start w;have h1:=jA a;have h2:=jA b;have hX:=jt (bN a);have hXd:=lI (bN a);have hXl:bN a<2^(aO 2 (bN a)).length:=cu _;have hYp:0<(aO 2 (bN b)).length:=oL hb0;have hget:∀k,k<(aO 2 (bN a)).length→(aO 2 (bN a))[k]?=some (bN a/2^k % 2):=fun k hk=>xv ZB hk;refine ae (N:=52) (l:=[.string a,.string b]) Tryz.func140 rfl rfl (by simp) ?_;refine aj ?_;refine CO ?_;rintro e_ w13 ⟨A13,c13,rfl,hown_,hb_⟩;refine ⟨_,rfl, ?_⟩;replace hh:=hh.aE (x:=.row _ _ _ _ _ _) hb_ hown_;refine mS ?_;refine aq (gl b _ hb) ak.out rfl ZC ?_;rintro e_ w15 ⟨A15,c15,rfl,hown_,hb_⟩;refine ⟨_,rfl, ?_⟩;replace hh:=hh.aE (x:=.row _ _ _ _ _ _) hb_ hown_;refine aj ?_;refine fT hh rfl rfl rfl rfl bj.out aC.out rfl ZB ZB ZC ?_;intro b21 w21 hh;refine aj ?_;rw [rT] at hh;generalize hxs:aO 2 (bN a)=xs at*;replace hh:=hh.cq 5 1;refine a7 [10,11,25,26,27,28,29,30,31,32,33,34,35,36,37,38,39,40,41,42,43,44,45,46,47] 10 11
  (fun v j w'=>∃(k:Nat) (A:Option Addr) (c':Nat),k≤xs.length∧j=.int .i64 ((k:Int)-1)∧v=.slice A (aO 2 (bN a/2^k % bN b)).length c'∧Hp w [.row A (aO 2 (bN a/2^k % bN b)).length c' 5 1 (iK (aO 2 (bN a/2^k % bN b))),.row (some ⟨b21,0,none⟩) xs.length xs.length 5 1 (iK (List.replicate k 0++bM 2 (xs.length-k) (bN a/2^k/bN b))),.row A15 (aO 2 (bN b)).length c15 5 1 (iK (aO 2 (bN b))),.row A13 xs.length c13 5 1 (iK xs)] w')
  (fun _ j _=>(intOf j+1).toNat) ?_ ?_
 ·refine ⟨xs.length,none,0,ZM _,rfl, ?_, ?_⟩
  ·rw [aaN hXl,Nat.zero_mod,iy ZB];rfl
  ·rw [aaN hXl,Nat.zero_mod,iy ZB,aaz];simp only [bM,aal];exact hh
 ·clear hh;rintro ρ' v j w' ⟨k,A,c',hk,rfl,rfl,hh⟩;by_cases h0:k=0
  ·subst h0;rw [aci,abN,Nat.sub_zero,ac1,ZN] at hh;rw [aci,abN];have hq:bN a/bN b<2^xs.length:=aaI (abJ _ _) hXl;have hrl:(aO 2 (bN a % bN b)).length≤(aO 2 (bN b)).length:=j4 ZB (acN (aab _ ZB));refine aj ?_;refine a0 hh (ie _ _ _ (bM 2 xs.length (bN a/bN b)) _ (hh.ar (i:=1) rfl) (gG ZB _ _) (ZM _) ZB) rfl ?_;intro w49 hh;rw [cN hq];refine mL ?_;refine a0 hh (ie _ _ _ (aO 2 (bN a % bN b)) _ (hh.ar (i:=0) rfl) (lI _) (hh.fG (i:=0) rfl) ZB) rfl ?_;intro w51 hh;rw [jt];refine aj ?_;exact ⟨rfl,hh.below⟩
  ·obtain ⟨i,rfl⟩:∃i,k=i+1:=⟨k-1,ZB⟩;have hji:((i+1:Nat):Int)-1=(i:Int):=ZB;obtain ⟨d1,d2,d3⟩:=Nd (bN a) (bN b) i ZB;have hgi:=sQ (hget i ZB);have hdw:bN a/2^i % 2<2:=aab _ ZB;have hrl:(aO 2 (bN a/2^(i+1) % bN b)).length≤(aO 2 (bN b)).length:=j4 ZB (acN (aab _ ZB));have hqk:bM 2 (xs.length-i) (bN a/2^i/bN b)=(bN a/2^i/bN b % 2)::bM 2 (xs.length-(i+1)) (bN a/2^(i+1)/bN b):=by
    rw [show xs.length-i=(xs.length-(i+1))+1 by omega,bM,d3]
   rw [hji];obtain ⟨g,rfl⟩:=hh.bL (i:=3) rfl ZB;refine aj ?_;refine bF aC.out rfl (hh.dZ (i:=3) rfl (by first|assumption|(simp only [Z8];assumption))) ZC ?_;refine ue ?_;intro b33 w33 hh;refine mL ?_;refine bQ hh (i:=0) rfl rfl rfl (hh.ar (i:=1) rfl) bj.out aC.out rfl ZC (by first|rfl|exact dw _|exact cL _|exact a9 _|exact bo NR.one _) ZB ZB ZC ?_;intro A35 c35 w35 hh;simp only [ZP] at hh;have e35:[Value.int .u8 ((bN a/2^i % 2:Nat):Int)]++iK (aO 2 (bN a/2^(i+1) % bN b))=iK ((bN a/2^i % 2)::aO 2 (bN a/2^(i+1) % bN b)):=rfl;rw [e35] at hh;generalize hR:bN a/2^(i+1) % bN b=R at*;generalize hbt:bN a/2^i % 2=bt at*;have hdg:Dg 2 (bt::aO 2 R):=Dg.cons hdw (lI _);have hcv:eh (bt::aO 2 R)=aO 2 (bt+2*R):=by rw [jf ZB hdg,aX,jt]
   have hll:(bt::aO 2 R).length=1+(aO 2 R).length:=by rw [aae];omega
   have hcl:=eM (bt::aO 2 R);refine a0 hh (nG _ _ _ (bt::aO 2 R) _ (hh.ar (i:=0) rfl) (hh.fG (i:=0) rfl) ZB) rfl ?_;intro w36 hh;replace hh:=hh.Uu hll;rw [hcv] at hh hcl;rw [hcv];refine aj ?_;refine a0 hh (oK _ _ _ _ _ _ (aO 2 (bt+2*R)) (aO 2 (bN b)) _ (hh.ar (i:=0) rfl) (hh.ar (i:=3) rfl) (lI _) (lI _) ZB ZB) rfl ?_;intro w39 hh;rw [jt,jt];by_cases hge:bN b≤bt+2*R
   ·have hc:0≤jw (bt+2*R) (bN b):=by unfold jw;rw [ZG ZB];split<;>omega
    rw [ZH hge] at d1 d2;have hml:bt+2*R-bN b<2^(aO 2 (bt+2*R)).length:=aaI (Nat.sub_le _ _) (cu _);have hcm:eh (bM 2 (aO 2 (bt+2*R)).length (bt+2*R-bN b))=aO 2 (bt+2*R-bN b):=by rw [jf ZB (gG ZB _ _),cN hml]
    refine aj ?_;refine aq (q9 _ _ _ _ _ _ (aO 2 (bt+2*R)) (aO 2 (bN b)) _ (hh.ar (i:=0) rfl) (hh.ar (i:=3) rfl) (lI _) (lI _) ZB ZB (by rw [jt,jt];exact hge)) ak.out rfl ZC ?_;rintro e_ w_ ⟨b43,rfl,hown_,hb_⟩;refine ⟨_,rfl, ?_⟩;replace hh:=hh.aE (x:=.row _ _ _ _ _ _) hb_ hown_;rw [jt,jt] at hh;refine a0 hh (nG _ _ _ (bM 2 (aO 2 (bt+2*R)).length (bt+2*R-bN b)) _ (hh.ar (i:=0) rfl) (ZM _) ZB) rfl ?_;intro w44 hh;replace hh:=hh.Uu (aU _ _);rw [hcm] at hh;rw [hcm];have hql:(iK (List.replicate (i+1) 0++bM 2 (xs.length-(i+1)) (bN a/2^(i+1)/bN b))).length=xs.length:=by rw [da,ZS,aaZ,aU];omega
    refine aj ?_;refine bV hh (i:=3) (vs:=[_]) rfl rfl (cz rfl) rfl aC.out rfl (by rw [hql];omega) rfl ?_;intro ws hh;simp only [ZP,aaf] at hh;rw [Z8,cw (by rw [hql];omega)] at hh;have hset:(iK (List.replicate (i+1) 0++bM 2 (xs.length-(i+1)) (bN a/2^(i+1)/bN b))).set i (.int .u8 1)=iK (List.replicate i 0++bM 2 (xs.length-i) (bN a/2^i/bN b)):=by
     have:=ri (List.replicate (i+1) 0++bM 2 (xs.length-(i+1)) (bN a/2^(i+1)/bN b)) i 1;rw [hqk,d2,←H0];exact this
    rw [hset] at hh;replace hh:=hh.sub (.cons_cons _ (.cons _ (.cons _ (aay _))));refine aj ?_;exact R9
   ·have hc:¬0≤jw (bt+2*R) (bN b):=by rw [lu ZB];omega
    rw [ZG hge] at d1 d2;refine aj ?_;have hrep:List.replicate (i+1) 0++bM 2 (xs.length-(i+1)) (bN a/2^(i+1)/bN b)=List.replicate i 0++bM 2 (xs.length-i) (bN a/2^i/bN b):=by
     rw [hqk,d2,List.replicate_succ',aam];rfl
    rw [hrep] at hh;replace hh:=hh.sub (.cons_cons _ (.cons _ (aay _)));exact R9
theorem pS:bg n=0↔n=0:=by
 constructor
 ·intro h;have:=cu n;rw [h] at this;omega
 ·intro h;rw [h];exact mh
theorem mi {a:Nat} (h:a≤b):bg a≤bg b:=di (aaI h (cu b))
theorem MG (a b:Nat):bg (a+b)≤bg a+bg b+1:=by
 apply di;have h1:=cu a;have h2:=cu b;have h3:2^bg a≤2^(bg a+bg b):=aao ZB ZB;have h4:2^bg b≤2^(bg a+bg b):=aao ZB ZB;rw [aar];omega
theorem dD (s:Bool) (m:ByteArray) (w:World) (hm:m.size≤1000000000):
  Calls Tryz.prog 118 #[.agg #[.bool s,.string m]] w fun e w'=>e=.returned (.agg #[.bool (iN (iv s m)),.string (iM (iv s m))])∧Below w.heap.size w w':=by
 have hh:=Hp.start w;have h1:=jA m;rw [TK,GW]
 cases s with
 |false=>
  refine ae (N:=16) (l:=[.agg #[.bool false,.string m]]) Tryz.func118 rfl rfl (by simp) ?_;refine bU ?_;intro b1 w1 hh b2 w2 hh;refine aq (gl m _ hm) ak.out rfl ZC ?_;rintro e_ w6 ⟨A6,c6,rfl,hown_,hb_⟩;refine ⟨_,rfl, ?_⟩;replace hh:=hh.aE (x:=.row _ _ _ _ _ _) hb_ hown_;refine MY ?_;intro w7 hh;rw [jt];exact Km
 |true=>
  by_cases h0:sN (bN m)=ByteArray.mk #[]
  ·refine ae (N:=16) (l:=[.agg #[.bool true,.string m]]) Tryz.func118 rfl rfl (by simp) ?_;refine bU ?_;intro b1 w1 hh b2 w2 hh;refine aq (gl m _ hm) ak.out rfl ZC ?_;rintro e_ w6 ⟨A6,c6,rfl,hown_,hb_⟩;refine ⟨_,rfl, ?_⟩;replace hh:=hh.aE (x:=.row _ _ _ _ _ _) hb_ hown_;refine MY ?_;intro w7 hh;rw [jt];refine aj ?_
   (first|refine jv rfl rfl (by first|rfl|assumption|decide) ZC ?_|refine jj rfl rfl (by first|assumption|decide) ZC ?_)
   refine bJ ?_;intro ws hh;refine DD ?_;exact Sp
  ·refine ae (N:=16) (l:=[.agg #[.bool true,.string m]]) Tryz.func118 rfl rfl (by simp) ?_;refine bU ?_;intro b1 w1 hh b2 w2 hh;refine aq (gl m _ hm) ak.out rfl ZC ?_;rintro e_ w6 ⟨A6,c6,rfl,hown_,hb_⟩;refine ⟨_,rfl, ?_⟩;replace hh:=hh.aE (x:=.row _ _ _ _ _ _) hb_ hown_;refine MY ?_;intro w7 hh;rw [jt];refine aj ?_
   (first|refine jv rfl rfl (by first|rfl|assumption|decide) ZC ?_|refine jj rfl rfl (by first|assumption|decide) ZC ?_)
   refine bJ ?_;intro ws hh;refine DD ?_;exact Se
theorem FU (s:Bool) (m:ByteArray) (w:World) (hm:m.size≤1000000000):
  Calls Tryz.prog 139 #[.agg #[.bool s,.string m]] w fun e w'=>e=.returned (.agg #[.bool (iN (-(iv s m))),.string (iM (-(iv s m)))])∧Below w.heap.size w w':=by
 have hh:=Hp.start w;have e1:iv (!s) m= -(iv s m):=by unfold iv;cases s<;>simp
 refine ae (N:=10) (l:=[.agg #[.bool s,.string m]]) Tryz.func139 rfl rfl (by simp) ?_;refine bU ?_;intro b1 w1 hh b2 w2 hh;refine a0 hh (dD (!s) m _ hm) rfl ?_;intro w9 hh;rw [e1];exact sG
theorem ju (s:Bool) (m:ByteArray) (w:World) (hm:m.size≤1000000000):
  Calls Tryz.prog 99 #[.agg #[.bool s,.string m]] w fun e w'=>e=.returned (.int .i64 (iv s m).sign)∧Below w.heap.size w w':=by
 have hh:=Hp.start w;by_cases h0:bN m=0
 ·have hb:bg (bN m)=0:=pS.2 h0;refine ae (N:=9) (l:=[.agg #[.bool s,.string m]]) Tryz.func99 rfl rfl (by simp) ?_;refine bJ ?_;intro b1 w1 hh;refine a0 hh (qL m _ hm) rfl ?_;intro w5 hh;refine aj ?_;have hz:iv s m=0:=by unfold iv;split<;>omega
  exact ⟨by rw [hz];rfl,hh.below⟩
 ·have hb:bg (bN m)≠0:=fun h=>h0 (pS.1 h)
  cases s with
  |true=>
   refine ae (N:=9) (l:=[.agg #[.bool true,.string m]]) Tryz.func99 rfl rfl (by simp) ?_;refine bJ ?_;intro b1 w1 hh;refine a0 hh (qL m _ hm) rfl ?_;intro w5 hh;refine aj ?_;have hz:iv true m<0:=by unfold iv;rw [ZH rfl];omega
   exact ⟨by rw [abn hz],hh.below⟩
  |false=>
   refine ae (N:=9) (l:=[.agg #[.bool false,.string m]]) Tryz.func99 rfl rfl (by simp) ?_;refine bJ ?_;intro b1 w1 hh;refine a0 hh (qL m _ hm) rfl ?_;intro w5 hh;refine aj ?_;have hz:0<iv false m:=by unfold iv;rw [ZG (by simp)];omega
   exact ⟨by rw [abt hz],hh.below⟩
theorem pB (n:Int) (w:World) (h1: -9223372036854775808≤n) (h2:n≤9223372036854775807):
  Calls Tryz.prog 101 #[.int .i64 n] w fun e w'=>e=.returned (.agg #[.bool (iN n),.string (iM n)])∧Below w.heap.size w w':=by
 have hh:=Hp.start w;by_cases h0:n<0
 ·have hn:iN n=true:=ZX h0;obtain ⟨m,hm⟩:=acZ (by omega:0≤ -(n+1));have ha:n.natAbs=m+1:=ZB;have hw:(m+1) % 18446744073709551616=m+1:=aas ZB;refine ae (N:=16) (l:=[.int .i64 n]) Tryz.func101 rfl rfl (by simp) ?_;refine sr ?_;refine x9 hh ?_;intro b2 w2 hh;refine aN (bX (sr (mI ?_)));refine nC (aN (cT (sr (mI ?_))));refine mN ?_;refine KY rfl ZB ZB ZC ?_;rw [show -(n+1)=(m:Int) from hm];refine lL ?_;refine fO (b:=1) rfl rfl ZC ?_;rw [hw];refine a0 hh (zG (m+1) _ ZB) rfl ?_;intro w10 hh;rw [←ha];refine bJ ?_;intro ws hh;refine sv ?_;rw [hn];exact ⟨rfl,hh.below⟩
 ·obtain ⟨m,rfl⟩:=acZ (by omega:0≤n);have hn:iN (m:Int)=false:=Z3 ZB;have hm:m<18446744073709551616:=ZB;have e1:iM (m:Int)=sN m:=rfl;refine ae (N:=16) (l:=[.int .i64 (m:Int)]) Tryz.func101 rfl rfl (by simp) ?_;refine sr ?_;refine x9 hh ?_;intro b2 w2 hh;refine aN (bX (sr (mI ?_)));refine nC (aN (cF (dP (eF (sr (mI ?_))))));refine lL ?_;refine a0 hh (zG m _ hm) rfl ?_;intro w14 hh;refine bJ ?_;intro ws hh;refine sv ?_;rw [hn,e1];exact ⟨rfl,hh.below⟩
theorem lG (s t:Bool) (a b:ByteArray) (w:World) (ha:a.size≤100000000) (hb:b.size≤100000000):
  Calls Tryz.prog 100 #[.agg #[.bool s,.string a],.agg #[.bool t,.string b]] w fun e w'=>e=.returned (.agg #[.bool (iN (iv s a+iv t b)),.string (iM (iv s a+iv t b))])∧Below w.heap.size w w':=by
 have hh:=Hp.start w;have hba:=gZ a;have hbb:=gZ b;by_cases hst:s=t
 ·subst hst;have e1:iv s (sN (bN a+bN b))=iv s a+iv s b:=by unfold iv;rw [fH];split<;>omega
  have hsz:(sN (bN a+bN b)).size≤1000000000:=by rw [j5];have:=MG (bN a) (bN b);omega
  rw [←e1];refine ae (N:=49) (l:=[.agg #[.bool s,.string a],.agg #[.bool s,.string b]]) Tryz.func100 rfl rfl (by simp) ?_;refine kb ?_;intro b2 w2 hh b3 w3 hh b4 w4 hh;refine Il bj.out rfl rfl (by first|rfl|assumption) ZC ?_;refine aj ?_;refine aw 8 [[(2,none)],[(12,some 0)],[(2,none)],[(14,some 2)],[(3,none)],[(16,some 4)],[(15,some 3),(17,some 5)],[(18,some 6)]] [(7,19),(6,18),(5,17),(4,16),(3,15),(2,14),(1,13),(0,12)] hh mixed ZD ?_;refine cK ?_;refine ee 2 ?_;refine cK ?_;refine ee 2 ?_;refine cK ?_;refine ee 1 ?_;refine vG [_,_] ?_;refine aM (i:=7) (Is (.string (sN (bN a+bN b)))) Is.ext ?_ ?_
  ·intro ρ1 w1 hj hR;obtain ⟨A18,c18,h18,s18⟩:=hR.1;exact bI rfl (a8 ak.out (av h18 bh)) (FT A18 2 c18 [a,b] _ s18 ZB (by simp;omega)) (fun _ _ hq=>⟨_,hq.1,hq.2,rfl⟩)
  refine au ?_;intro f W hJ hV;have hb_2:=hJ.bl;obtain ⟨v19,v18,v17,v16,v15,v14,v13,v12,_⟩:=hV;obtain ⟨A18,c18,e18,f18⟩:Rows _ _ _ (f 6) W:=v18;replace hh:=hJ.hp;refine az (aH (aa v19 (aa e18 (aa v17 (aa v16 (aa v15 (aa v14 (aa v13 (aa v12 ay))))))))) ?_;dsimp only [bf];clear e18 hJ;refine aj ?_;refine a0 hh (dD s (sN (bN a+bN b)) _ hsz) rfl ?_;intro w21 hh;exact sG
 ·by_cases hle:bN b≤bN a
  ·have e1:iv s (sN (bN a-bN b))=iv s a+iv t b:=by unfold iv;rw [fH];cases s<;>cases t<;>simp at hst ⊢ <;>omega
   have hsz:(sN (bN a-bN b)).size≤1000000000:=by rw [j5];have:=mi (show bN a-bN b≤bN a by omega);omega
   rw [←e1];refine ae (N:=49) (l:=[.agg #[.bool s,.string a],.agg #[.bool t,.string b]]) Tryz.func100 rfl rfl (by simp) ?_;refine kb ?_;intro b2 w2 hh b3 w3 hh b4 w4 hh;refine Iy ?_;refine aj ?_;refine a0 hh (p9 a b _ ZB ZB) rfl ?_;intro w27 hh;rw [ZX hle];refine aj ?_;refine a0 hh (dD s (sN (bN a-bN b)) _ hsz) rfl ?_;intro w35 hh;exact sG
  ·have e1:iv t (sN (bN b-bN a))=iv s a+iv t b:=by unfold iv;rw [fH];cases s<;>cases t<;>simp at hst ⊢ <;>omega
   have hsz:(sN (bN b-bN a)).size≤1000000000:=by rw [j5];have:=mi (show bN b-bN a≤bN b by omega);omega
   rw [←e1];refine ae (N:=49) (l:=[.agg #[.bool s,.string a],.agg #[.bool t,.string b]]) Tryz.func100 rfl rfl (by simp) ?_;refine kb ?_;intro b2 w2 hh b3 w3 hh b4 w4 hh;refine Iy ?_;refine aj ?_;refine a0 hh (p9 a b _ ZB ZB) rfl ?_;intro w27 hh;rw [Z3 hle];refine aj ?_;refine a0 hh (p9 b a _ ZB ZB) rfl ?_;intro w41 hh;refine aj ?_;refine a0 hh (dD t (sN (bN b-bN a)) _ hsz) rfl ?_;intro w48 hh;exact sG
theorem qB (s:Bool) (a:ByteArray) (k:Nat) (w:World) (ha:a.size≤100000000) (hk:k≤1000000000):
  Calls Tryz.prog 98 #[.agg #[.bool s,.string a],.int .i64 (k:Int)] w fun e w'=>e=.returned (.agg #[.bool (iN (iv s a*2^k)),.string (iM (iv s a*2^k))])∧Below w.heap.size w w':=by
 have hh:=Hp.start w;have hba:=gZ a;have e2:iv s (sN (bN a*2^k))=iv s a*2^k:=by unfold iv;rw [fH];split<;>simp [Int.neg_mul]
 have hsz:(sN (bN a*2^k)).size≤1000000000:=by rw [j5];have:=iB (bN a) k;omega
 rw [←e2];refine ae (N:=43) (l:=[.agg #[.bool s,.string a],.int .i64 (k:Int)]) Tryz.func98 rfl rfl (by simp) ?_;refine bU ?_;intro b2 w2 hh b4 w4 hh;refine aw 6 [[(2,none)],[(12,some 0)],[(2,none)],[(14,some 2)],[(1,none)],[(15,some 3),(16,some 4)]] [(5,17),(4,16),(3,15),(2,14),(1,13),(0,12)] hh mixed ZD ?_;refine cK ?_;refine ee 1 ?_;refine cK ?_;refine ee 1 ?_;refine cj ?_;refine dC (fun _ hj=>Fz a k _ ZB ZB) ?_;refine au ?_;intro f W hJ hV;have hb_2:=hJ.bl;obtain ⟨v17,v16,v15,v14,v13,v12,_⟩:=hV;replace hh:=hJ.hp;refine az (aH (aa v17 (aa v16 (aa v15 (aa v14 (aa v13 (aa v12 ay))))))) ?_;dsimp only [bf];clear hJ;refine aj ?_;refine a0 hh (dD s (sN (bN a*2^k)) _ hsz) rfl ?_;intro w19 hh;exact sG
theorem qD (z:Int) (B:Nat) (q r:Int) (h:r+B*q=z) (h0:0≤r) (h1:r<B):z/B=q∧z % B=r:=
 (Int.ediv_emod_unique ZB).2 ⟨h,h0,h1⟩
theorem vN (s:Bool) (a b:ByteArray) (w:World) (ha:a.size≤10000000) (hb:b.size≤10000000) (hb0:bN b≠0):
  Calls Tryz.prog 97 #[.agg #[.bool s,.string a],.agg #[.bool false,.string b]] w fun e w'=>e=.returned (.tuple #[.agg #[.bool (iN (iv s a/bN b)),.string (iM (iv s a/bN b))],.agg #[.bool (iN (iv s a % bN b)),.string (iM (iv s a % bN b))],.bool true])∧Below w.heap.size w w':=by
 have hh:=Hp.start w;have hba:=gZ a;have hbb:=gZ b;have hmod:bN a % bN b<bN b:=aab _ ZB;have hdm:bN b*(bN a/bN b)+bN a % bN b=bN a:=aaY _ _;have hdm':(bN b:Int)*((bN a/bN b:Nat):Int)+((bN a % bN b:Nat):Int)=(bN a:Int):=by rw [←aaA,←aa3,hdm]
 have hqs:(sN (bN a/bN b)).size≤10000000:=by rw [j5];have:=mi (abJ (bN a) (bN b));omega
 have hrs:(sN (bN a % bN b)).size≤10000000:=by rw [j5];have:=mi (show bN a % bN b≤bN b by omega);omega
 have hqz:∀u,(iM (iv u (sN (bN a/bN b)))).size≤10000000:=fun u=>by rw [GW,fH];exact hqs
 have hrz:∀u,(iM (iv u (sN (bN a % bN b)))).size≤10000000:=fun u=>by rw [GW,fH];exact hrs
 by_cases hneg:s=true∧bN a % bN b≠0
 ·obtain ⟨rfl,hne⟩:=hneg;have e1:iv true (sN (bN a/bN b))= -((bN a/bN b:Nat):Int):=by unfold iv;rw [fH,ZH rfl]
  have e2:iv true (sN (bN a % bN b))= -((bN a % bN b:Nat):Int):=by unfold iv;rw [fH,ZH rfl]
  have hlt:(iv true (sN (bN a % bN b))).sign<0:=by rw [e2,abn ZB];omega
  have e3:iv true a= -(bN a:Int):=by unfold iv;rw [ZH rfl]
  obtain ⟨q1,q2⟩:=qD (iv true a) (bN b) (-((bN a/bN b:Nat):Int)+ -1) ((bN b:Int)-((bN a % bN b:Nat):Int)) (by rw [e3,←hdm',Int.mul_add,ab9];omega) ZB ZB;have e4:iv false b=(bN b:Int):=by unfold iv;rw [ZG (by simp)]
  have hp2:(bN b:Int).sign=1:=abt ZB;refine ae (N:=57) (l:=[.agg #[.bool true,.string a],.agg #[.bool false,.string b]]) Tryz.func97 rfl rfl (by simp) ?_;refine sr ?_;refine BL hh [_,_] ?_;intro b2 w2 hh;refine BL hh [_,_] ?_;intro b3 w3 hh;refine x9 hh ?_;intro b4 w4 hh;refine x9 hh ?_;intro b5 w5 hh;refine aB (aN (sr (te ?_)));refine pF hh 3 ?_;refine te ?_;refine pF hh 2 ?_;refine a0 hh (qx a b _ ZB ZB hb0) rfl ?_;intro w18 hh;refine mT ?_;refine uI ?_;refine uI ?_;refine uI ?_;refine aS (aS (aB (aN (bX (sr (mB ?_))))));refine PJ ?_;refine aN (cF (dP (eF (sr (te ?_)))));refine pF hh 3 ?_;refine te ?_;refine pF hh 2 ?_;refine HK bj.out rfl rfl (by first|assumption|decide) ZC ?_;refine mS ?_;refine Bx [_,_] ?_;refine a0 hh (dD true (sN (bN a/bN b)) _ ZB) rfl ?_;intro w33 hh;refine x9 hh ?_;intro b10 w10 hh;refine gE hh 0 [_,_] ?_;intro ws hh;replace hh:Hp _ (.blk _ _ [_,_] _::_) _:=hh;refine aN (sr (te ?_));refine pF hh 4 ?_;refine mS ?_;refine Bx [_,_] ?_;refine a0 hh (dD true (sN (bN a % bN b)) _ ZB) rfl ?_;intro w38 hh;refine x9 hh ?_;intro b11 w11 hh;refine gE hh 0 [_,_] ?_;intro ws hh
  replace hh:Hp _ (.blk _ _ [_,_] _::_) _:=hh;refine aN (bX (sr ?_));refine nB hh 0 [_,_] ?_;refine a0 hh (ju (iN (iv true (sN (bN a % bN b)))) (iM (iv true (sN (bN a % bN b)))) _ (by have:=hrz true;omega)) rfl ?_;intro w40 hh;rw [dI];refine nC (aN (cT (sr ?_)));refine nB hh 0 [_,_] (te ?_);refine pF hh 4 ?_;refine Bx [_,_] ?_;refine a0 hh (lG (iN (iv true (sN (bN a % bN b)))) false (iM (iv true (sN (bN a % bN b)))) b _ (by have:=hrz true;omega) ZB) rfl ?_;intro w46 hh;rw [dI,e2,e4,show -((bN a % bN b:Nat):Int)+(bN b:Int)=(bN b:Int)-((bN a % bN b:Nat):Int) by omega,←q2];refine gE hh 0 [_,_] ?_;intro ws hh;replace hh:Hp _ (.blk _ _ [_,_] _::_) _:=hh;refine aN (sr ?_);refine a0 hh (pB (-1) _ ZB ZB) rfl ?_;intro w47 hh;refine x9 hh ?_;intro b12 w12 hh;refine gE hh 0 [_,_] ?_;intro ws hh;replace hh:Hp _ (.blk _ _ [_,_] _::_) _:=hh;refine aN (bX (sr ?_));refine nB hh 5 [_,_] ?_;refine a0 hh (ju false b _ ZB) rfl ?_;intro w49 hh;rw [e4,hp2];refine nC (aN (cF (dP (eF (bZ ?_)))));refine nB hh 2 [_,_] ?_;refine nB hh 0 [_,_] ?_
  refine a0 hh (lG (iN (iv true (sN (bN a/bN b)))) (iN (-1)) (iM (iv true (sN (bN a/bN b)))) (iM (-1)) _ (by have:=hqz true;omega) ZC) rfl ?_;intro w54 hh;rw [dI,dI,e1,←q1];refine gE hh 2 [_,_] ?_;intro ws hh;replace hh:Hp _ (_::_::.blk _ _ [_,_] _::_) _:=hh;refine aN (bX ?_);refine rZ hh mixed fun w_ hj_=> ?_;replace hh:=hj_.hp;clear hj_;refine wq (i:=0) (i2:=1) ZD rfl rfl ?_ ?_
  ·refine nB hh 2 [_,_] ?_;refine dY ?_;refine wq (i:=1) (i2:=2) ZD rfl rfl ?_ ?_
   ·refine nB hh 1 [_,_] ?_;exact RP
   ·refine gE hh 4 [_,_] ?_;intro ws hh;replace hh:Hp _ (_::_::_::_::.blk _ _ [_,_] _::_) _:=hh;refine dY ?_;refine eU (i:=1) ZD rfl ?_;refine nB hh 1 [_,_] ?_;exact VX
  ·refine nB hh 1 [_,_] ?_;refine dY ?_;refine eU (i:=0) ZD rfl ?_;refine nB hh 2 [_,_] ?_;exact RP
 ·have e4:iv s a/bN b=iv s (sN (bN a/bN b))∧iv s a % bN b=iv s (sN (bN a % bN b)):=by
   cases s with
   |false=>
    have f0:∀x,iv false x=(bN x:Int):=fun x=>by unfold iv;rw [ZG (by simp)]
    rw [f0,f0,f0,fH,fH];exact qD _ _ _ _ ZB ZB ZB
   |true=>
    have r0:bN a % bN b=0:=by
     rcases abp (bN a % bN b) with h|h
     ·exact h
     ·exact absurd ⟨rfl,ZB⟩ hneg
    have f0:∀x,iv true x= -(bN x:Int):=fun x=>by unfold iv;rw [ZH rfl]
    rw [f0,f0,f0,fH,fH,r0];rw [r0] at hdm';exact qD _ _ _ _ (by rw [ab9];omega) ZB ZB
  have h5:¬(iv s (sN (bN a % bN b))).sign<0:=by
   have h6:0≤iv s (sN (bN a % bN b)):=by rw [←e4.2];exact Int.emod_nonneg _ ZB
   have:=Int.sign_nonneg_iff.2 h6;omega
  rw [e4.1,e4.2]
  cases s with
  |false=>
   refine ae (N:=57) (l:=[.agg #[.bool false,.string a],.agg #[.bool false,.string b]]) Tryz.func97 rfl rfl (by simp) ?_;refine sr ?_;refine BL hh [_,_] ?_;intro b2 w2 hh;refine BL hh [_,_] ?_;intro b3 w3 hh;refine x9 hh ?_;intro b4 w4 hh;refine x9 hh ?_;intro b5 w5 hh;refine aB (aN (sr (te ?_)));refine pF hh 3 ?_;refine te ?_;refine pF hh 2 ?_;refine a0 hh (qx a b _ ZB ZB hb0) rfl ?_;intro w18 hh;refine mT ?_;refine uI ?_;refine uI ?_;refine uI ?_;refine aS (aS (aB (aN (bX (sr (mB ?_))))));refine PJ ?_;refine aN (cF (dP (eF (sr (te ?_)))));refine pF hh 3 ?_;refine te ?_;refine pF hh 2 ?_;refine Rb bj.out rfl rfl (by first|rfl|assumption) ZC ?_;refine mS ?_;refine Bx [_,_] ?_;refine a0 hh (dD false (sN (bN a/bN b)) _ ZB) rfl ?_;intro w33 hh;refine x9 hh ?_;intro b10 w10 hh;refine gE hh 0 [_,_] ?_;intro ws hh;replace hh:Hp _ (.blk _ _ [_,_] _::_) _:=hh;refine aN (sr (te ?_));refine pF hh 4 ?_;refine mS ?_;refine Bx [_,_] ?_;refine a0 hh (dD false (sN (bN a % bN b)) _ ZB) rfl ?_;intro w38 hh;refine x9 hh ?_;intro b11 w11 hh;refine gE hh 0 [_,_] ?_;intro ws hh;replace hh:Hp _ (.blk _ _ [_,_] _::_) _:=hh;refine aN (bX (sr ?_));refine nB hh 0 [_,_] ?_
   refine a0 hh (ju (iN (iv false (sN (bN a % bN b)))) (iM (iv false (sN (bN a % bN b)))) _ (by have:=hrz false;omega)) rfl ?_;exact YE
  |true=>
   refine ae (N:=57) (l:=[.agg #[.bool true,.string a],.agg #[.bool false,.string b]]) Tryz.func97 rfl rfl (by simp) ?_;refine sr ?_;refine BL hh [_,_] ?_;intro b2 w2 hh;refine BL hh [_,_] ?_;intro b3 w3 hh;refine x9 hh ?_;intro b4 w4 hh;refine x9 hh ?_;intro b5 w5 hh;refine aB (aN (sr (te ?_)));refine pF hh 3 ?_;refine te ?_;refine pF hh 2 ?_;refine a0 hh (qx a b _ ZB ZB hb0) rfl ?_;intro w18 hh;refine mT ?_;refine uI ?_;refine uI ?_;refine uI ?_;refine aS (aS (aB (aN (bX (sr (mB ?_))))));refine PJ ?_;refine aN (cF (dP (eF (sr (te ?_)))));refine pF hh 3 ?_;refine te ?_;refine pF hh 2 ?_;refine HK bj.out rfl rfl (by first|assumption|decide) ZC ?_;refine mS ?_;refine Bx [_,_] ?_;refine a0 hh (dD true (sN (bN a/bN b)) _ ZB) rfl ?_;intro w33 hh;refine x9 hh ?_;intro b10 w10 hh;refine gE hh 0 [_,_] ?_;intro ws hh;replace hh:Hp _ (.blk _ _ [_,_] _::_) _:=hh;refine aN (sr (te ?_));refine pF hh 4 ?_;refine mS ?_;refine Bx [_,_] ?_;refine a0 hh (dD true (sN (bN a % bN b)) _ ZB) rfl ?_;intro w38 hh;refine x9 hh ?_;intro b11 w11 hh;refine gE hh 0 [_,_] ?_;intro ws hh;replace hh:Hp _ (.blk _ _ [_,_] _::_) _:=hh;refine aN (bX (sr ?_));refine nB hh 0 [_,_] ?_
   refine a0 hh (ju (iN (iv true (sN (bN a % bN b)))) (iM (iv true (sN (bN a % bN b)))) _ (by have:=hrz true;omega)) rfl ?_;exact YE
end Go.Proofs.YtmchncaiffbpaaaGreatDoor
