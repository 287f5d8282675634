/- Lemmas for ratioHolds, part 4. -/
import Derived.Test.YtmchncaiffbpaaaGreatDoorZ3
namespace Go.Proofs.YtmchncaiffbpaaaGreatDoor
variable {C N b c c' cy j k m n ny:Nat}{ad:Addr}{w w0:World}
open Go.RowKit
theorem gB (A:Option Addr) (n c:Nat) (xs:List Nat) (w:World) (hx:Sl w A n 1 (cO xs)) (hc:n≤c) (hn:n≤1000000000000):
  Calls Tryz.prog 213 #[.slice A n c] w fun e w'=>e=.returned (.slice A (eJ xs).length c)∧Below w.heap.size w w':=by
 have hlen:xs.length=n:=by have:=hx.1;rw [a0] at this;omega
 have hh:=Hp.start w;refine aj (N:=21) (l:=[.slice A n c]) Tryz.func213 rfl rfl (by simp) ?_;refine sr (aL (aa (ah (ar ?_))));refine aT [0,3,4,5,6,7,8,9,10,11,12,13,14,15,16,17,18,19] 0
  (fun v w'=>∃k:Nat,k≤n∧v=.slice A k c∧eJ (xs.take k)=eJ xs∧w'=w)
  (fun v _=>lenOf v) ?_ ?_
 ·exact ⟨n,YA _,rfl,by rw [YC Yo],rfl⟩
 ·rintro ρ' v w' ⟨k,hk,rfl,hcut,rfl⟩;by_cases h0:k=0
  ·subst h0;refine ah (sr (mL (aM ?_)));refine bT (mB ?_);refine gS (gS (gS (gS (gS ?_))));refine jR ?_;refine gS ?_;refine fK ?_;refine aa (cF (aX (aE (aE (bA (ai (sr (mL (aL (aa (av ?_)))))))))));refine dH ?_;rw [←hcut];exact ⟨rfl,hh.below⟩
  ·obtain ⟨j,rfl⟩:∃j,k=j+1:=⟨k-1,Yo⟩;obtain ⟨d,hd⟩:=ao (l:=xs) (k:=j) Yo;obtain ⟨ad,rfl,hr⟩:=hx.at_ Yo;have hd2:=eT hd;rw [aw hd] at hcut;by_cases hz:d=0
   ·subst hz;rw [vh] at hcut;refine ah (sr (mL (aM ?_)));refine bT (mB (gT (mL (gT (mL (gT (aM (gT ?_))))))));refine ee (gT ?_);refine tO ?_;refine gT ?_;refine nJ ?_;refine gT ?_;refine cH ?_;refine gi ?_;refine aa (cT (aq (ai (ar (ak (mL (mL (aM ?_))))))));refine ee ?_;refine nP (h:=j) bG.out aJ.size rfl rfl Yo Yo Yp ?_;refine aL (aD (bz (ai ?_)));refine ⟨⟨j,Yo,rfl,hcut,rfl⟩,by show j<j+1;omega, ?_⟩;exact er
   ·rw [yy hz] at hcut;refine ah (sr (mL (aM ?_)));refine bT (mB (gT (mL (gT (mL (gT (aM (gT ?_))))))));refine ee (gT ?_);refine tO ?_;refine gT ?_;refine nJ ?_;refine gT ?_;refine cH ?_;refine gi ?_;refine aa (cF (aX (aE (aE (bA (ai (sr (mL (aL (aa (av ?_)))))))))));exact SH
theorem ie {B:Nat}{l:List Nat}{i:Nat} (h:l[i]?=some c):aZ B (l.take (i+1))=aZ B (l.take i)+B^i*c:=by
 have hi:=(YL.1 h).1;rw [aw h,db,YM,ZK Yo];simp [aZ]
theorem Hp.I4 {H:List HE}{A:Option Addr}{t:TypeId}{xs:List Nat} (h:Hp w0 (.row A n c t 1 (cO xs)::H) w) (hl:xs.length=n):Hp w0 (.row A (eJ xs).length c t 1 (cO (eJ xs))::H) w:=by
 have h1:=fh xs;have h2:=h.Bm (k:=(eJ xs).length) Yo;rw [YV,←yi,←kG] at h2;exact h2
theorem Kg (a:ByteArray) (w:World) (ha:a.size≤100000000000):
  Calls Tryz.prog 177 #[.string a] w fun e w'=>∃b c,e=.returned (.slice (some ⟨b,0,none⟩) (aR 18446744073709551616 (bn a.data.toList)).length c)∧w'.ownsRow w.heap.size 160 1 (.slice (some ⟨b,0,none⟩) (aR 18446744073709551616 (bn a.data.toList)).length c) (aR 18446744073709551616 (bn a.data.toList)).length (cO (aR 18446744073709551616 (bn a.data.toList)))∧Below w.heap.size w w':=by
 have hsz:=fJ a;have hh:=Hp.start w;refine aj (N:=39) (l:=[.string a]) Tryz.func177 rfl rfl (by simp) ?_;refine sr (aL (aa (sr (mS ?_))));refine ck bG.out rfl Yp ?_;refine a8 ?_;refine nk ?_;refine gj (n:=(a.size+7)/8) hh rfl rfl Yo Yo bG.out aJ.out rfl Yo Yo Yp ?_;intro b10 w10 hh;refine aL (aa (ah (sr (mS ?_))));refine ck bG.out rfl Yp ?_;refine mI (aa (ar ?_));rw [kT] at hh;refine aT [4,5,13,14,15,16,17,18,19,20,21,22,23,24,25,26,27,28,29,30,31,32,33,34,35,36] 13
  (fun v w'=>∃i:Nat,i≤a.size∧v=.int .i64 i∧Hp w [.row (some ⟨b10,0,none⟩) ((a.size+7)/8) ((a.size+7)/8) 160 1 (cO (bX 18446744073709551616 ((a.size+7)/8) (aZ 256 ((B5 a.data.toList).take i))))] w')
  (fun v _=>a.size-(intOf v).toNat) ?_ ?_
 ·exact ⟨0,Yx _,rfl,by rw [Z7,aZ,sK];exact hh⟩
 ·clear hh;rintro ρ' v w' ⟨i,hi,rfl,hh⟩;by_cases hlt:i<a.size
  ·obtain ⟨c,hc⟩:=ao (l:=a.data.toList) (k:=((a.size:Int)-1-i).toNat) Yo;have hlo:=Lh (s:=a.data.toList) (i:=i) (c:=c) Yo (by rw [←hc];congr 1;omega);have hc8:=c.toNat_lt;have hn:=gQ ((Ah a.data.toList).take i);rw [YM,p9,ZK Yo] at hn;obtain ⟨s1,s2,s3⟩:=Qm (k:=(a.size+7)/8) (aZ 256 ((B5 a.data.toList).take i)) hn hc8 Yo;have hg:=eT (jV (B:=18446744073709551616) ((a.size+7)/8) (aZ 256 ((B5 a.data.toList).take i)) (i/8) Yo);have e1:((i:Int) % 8*8).toNat=i % 8*8:=Yo;refine sr ?_;refine a9 (aa (ah (cT (aq (ai (ah (ar (sr (mI (aI (aa (sr (mS ?_)))))))))))));refine ck bG.out rfl Yp ?_;refine ee (mI ?_);refine ee (aI (aa ?_));refine aK 13 [[(3,none)],[(4,none)],[(22,some 1)],[(21,some 0),(23,some 2)],[(24,some 3)],[(0,none)],[(5,none)],[(26,some 5),(27,some 6)],[(28,some 7)],[(4,none)],[(30,some 9)],[(31,some 10)],[(29,some 8),(32,some 11)]] [(12,33),(11,32),(10,31),(9,30),(8,29),(7,28),(6,27),(5,26),(4,25),(3,24),(2,23),(1,22),(0,21)] hh mixed Yq ?_;refine gI ?_;refine dJ ?_
   refine bB (i:=2) (fun ρ1 w1 hj hR=>wu (show ρ1 22=Value.int _ _ from hR.1) rfl Yo Yo Yo) ?_;refine EG (i/8) ?_;refine bB (i:=4) (fun ρ1 w1 hj hR=>iL aJ.out (show ρ1 24=Value.pointer _ from hR.1) (hj.hp.iC (i:=0) rfl (by first|assumption|(simp only [YV];assumption)))) ?_;refine XV ?_;refine dJ ?_;refine bB (i:=7) (fun ρ1 w1 hj hR=>tG bG.out (show ρ1 26=Value.string _ from hR.1) (show ρ1 27=Value.int _ _ from hR.2.1) Yo (by assumption)) ?_;refine bB (i:=8) (fun ρ1 w1 hj hR=>wV bG.out bG.out (show ρ1 28=Value.int _ _ from hR.1) (by first|assumption|omega)) ?_;refine dJ ?_;refine bB (i:=10) (fun ρ1 w1 hj hR=>pX (show ρ1 30=Value.int _ _ from hR.1) rfl Yo Yo) ?_;refine Vl ?_;refine bB (i:=12) (fun ρ1 w1 hj hR=>xk (show ρ1 29=Value.int _ _ from hR.1) (show ρ1 32=Value.int _ _ from hR.2.1) Yo) ?_;refine aH ?_;intro f W hJ hV;have hb_6:=hJ.bl;obtain ⟨v33,v32,v31,v30,v29,v28,v27,v26,v25,v24,v23,v22,v21,_⟩:=hV;replace hh:=hJ.hp;refine aN (a6 (ae v33 (ae v32 (ae v31 (ae v30 (ae v29 (ae v28 (ae v27 (ae v26 (ae v25 (ae v24 (ae v23 (ae v22 (ae v21 aO)))))))))))))) ?_;dsimp only [bP];clear hJ;refine CP ?_
   refine cJ (k:=i/8) bG.out aJ.size rfl rfl Yo Yo Yp ?_;refine LO ?_;intro ws hh;simp only [YG] at hh;rw [e1,Za s2,Fz s1,de (by rw [a0,aW];omega),YV,hQ,s3,←ie hlo] at hh;refine gu ?_;refine a8 (mI (aD (ai ?_)));refine ⟨⟨i+1,Yo,rfl,hh⟩,by show a.size-(i+1)<a.size-i;omega, ?_⟩;exact er
  ·refine sr ?_;refine oF ?_;rw [YC (by rw [p9];omega)] at hh;refine bj hh (gB _ _ _ (bX 18446744073709551616 ((a.size+7)/8) (bn a.data.toList)) _ (hh.az (i:=0) rfl) (YA _) Yo) rfl ?_;intro w38 hh;refine aL (aa (av ?_));refine dH ?_;have hbd:bn a.data.toList<18446744073709551616^((a.size+7)/8):=by
    refine Zl (RT _) ?_;rw [←hsz,show (256:Nat)=2^8 from rfl,show (18446744073709551616:Nat)=2^64 from rfl,←Zk,←Zk];exact Zf Yo Yo
   have hd:eJ (bX 18446744073709551616 ((a.size+7)/8) (bn a.data.toList))=aR 18446744073709551616 (bn a.data.toList):=by
    exact OJ
   have h1:=(Hp.I4 (xs:=bX 18446744073709551616 ((a.size+7)/8) (bn a.data.toList)) hh (aW _ _)).at_ (i:=0) rfl;exact Iq
theorem Sl.N0 {A:Option Addr}{xs:List Nat} (h:Sl w A n 1 (cO xs)) (hk:k≤n):Sl w A k 1 (cO (xs.take k)):=by
 have hl:=h.1;rw [a0] at hl;refine ⟨by rw [a0,YM];omega,fun h0=> ?_⟩;obtain ⟨ad,he,hr⟩:=h.2 Yo;exact ⟨ad,he,by rw [yi];exact hr.take k⟩
theorem Sl.pQ {A:Option Addr}{xs:List Nat} (h:Sl w A n 1 (cO xs)):Sl w A (eJ xs).length 1 (cO (eJ xs)):=by
 have hl:=h.1;rw [a0] at hl;have:=fh xs;have h2:=h.N0 (k:=(eJ xs).length) Yo;rwa [←kG] at h2
theorem Gi {xs:List Nat} (h:Dg 18446744073709551616 xs):bE (aZ 18446744073709551616 xs)≤64*xs.length:=by
 apply dy;rw [Zk];exact gQ h
theorem vk (A:Option Addr) (n c:Nat) (xs:List Nat) (w:World) (hx:Sl w A n 1 (cO xs)) (hd:Dg 18446744073709551616 xs) (hc:n≤c) (hn:n≤100000000000):
  Calls Tryz.prog 208 #[.slice A n c] w fun e w'=>e=.returned (.int .i64 (bE (aZ 18446744073709551616 xs)))∧Below w.heap.size w w':=by
 have hl:=hx.1;rw [a0] at hl;have hcl:=fh xs;have hcx:=hx.pQ;have hcd:=hd.cut;have hlast:=yz xs;rw [←jP];generalize hcs:eJ xs=cs at*;have hh:=Hp.start w;refine aj (N:=19) (l:=[.slice A n c]) Tryz.func208 rfl rfl (by simp) ?_;refine sr (aI (aa (sr (mL ?_))));refine bj hh (gB _ _ _ xs _ hx hc Yo) rfl ?_;intro w4 hh;rw [hcs];by_cases h0:cs.length=0
 ·refine yF ?_;refine Hz ?_;refine dH ?_;have:cs=[]:=aai h0;subst this;exact ⟨by rw [aZ,mn];rfl,hh.below⟩
 ·obtain ⟨ad,rfl,hr⟩:=hcx.at_ Yo;obtain ⟨d,hd⟩:=ao (l:=cs) (k:=cs.length-1) Yo;have hd2:=eT hd;have hd3:=hcd.at_ hd;have e1:cs.take (cs.length-1)++[d]=cs:=by rw [←aw hd,YC Yo]
  have hnz:d≠0:=by
   intro h;subst h;apply hlast;rw [List.getLast?_eq_getElem?];exact hd
  have hb:=Cp (B:=18446744073709551616) (b:=64) (m:=cs.length-1) Yp (hcd.take (cs.length-1)) (by rw [YM];omega) hnz;rw [e1] at hb;have hb2:bE d≤64:=dy (by simpa using hd3);refine yF ?_;refine cH (aa (cF (aq (ai (sr (mL (aM ?_)))))));refine mulC (mL (mL (aM ?_)));refine ee ?_;refine cN (k:=cs.length-1) bG.out aJ.size rfl rfl Yo Yo Yp ?_;refine nJ ?_;refine bj hh (qd _ _ hd3) rfl ?_;intro w17 hh;refine ee (aI (aa (av ?_)));refine dH ?_;refine ⟨?_,hh.below⟩;congr 2;omega
theorem Gx (N:Nat):(aR 256 N).length=(bE N+7)/8:=by
 have h256:(256:Nat)=2^8:=rfl;have h1:(aR 256 N).length≤(bE N+7)/8:=by
  apply gL Yo;refine Zl (cR N) ?_;rw [h256,←Zk];exact Zf Yo Yo
 have h2:=m8 (B:=256) Yo N;have h3:bE N≤8*(aR 256 N).length:=by
  apply dy;rw [Zk];exact h2
 omega
theorem l8 {B:Nat} (i N:Nat):bX B (i+1) N=bX B i N++[N/B^i % B]:=by
 apply ZI;intro j
 rcases Nat.lt_trichotomy j i with h|h|h
 ·rw [jV _ _ _ Yo,aav (by rw [aW];exact h),jV _ _ _ h]
 ·subst h;rw [jV _ _ _ Yo,ZC (by rw [aW];omega),aW];simp
 ·rw [YQ (by rw [aW];omega),YQ (by rw [YE,aW];simp;omega)]
theorem HV {R:List Nat}{x:Nat}:(List.replicate (k+1) 0++R).set k x=List.replicate k 0++(x::R):=by
 rw [List.replicate_succ',Y5,aaz _ _ (by simp)];simp
theorem fO (A:Option Addr) (n c:Nat) (xs:List Nat) (w:World) (hx:Sl w A n 1 (cO xs)) (hd:Dg 18446744073709551616 xs) (hc:n≤c) (hn:n≤10000000000):
  Calls Tryz.prog 179 #[.slice A n c] w fun e w'=>e=.returned (.string (str (sb (aZ 18446744073709551616 xs))))∧Below w.heap.size w w':=by
 have hl:=hx.1;rw [a0] at hl;have hcl:=fh xs;have hcx:=hx.pQ;have hcd:=hd.cut;have hbl:=Gi hcd;have hcan:=jB Yo hd;have hlen:=Gx (aZ 18446744073709551616 xs);rw [jP] at hbl;have hh:=Hp.start w;refine aj (N:=37) (l:=[.slice A n c]) Tryz.func179 rfl rfl (by simp) ?_;refine sr (aS (aa (sr (mL ?_))));refine bj hh (gB _ _ _ xs _ hx hc Yo) rfl ?_;intro w7 hh;rw [hcan] at hcl hcx hcd hbl;rw [hcan];refine aL (aa (sr (mL ?_)));refine bj hh (vk _ _ _ (aR 18446744073709551616 (aZ 18446744073709551616 xs)) _ (hcx.ext hh.below) hcd Yo Yo) rfl ?_;intro w9 hh;rw [fk Yo];generalize aZ 18446744073709551616 xs=M at*;refine a8 ?_;refine nk ?_;refine aI (aa (sr (mI ?_)));refine gj (n:=(bE M+7)/8) hh rfl rfl Yo Yo bG.out aJ.out rfl Yo Yo Yp ?_;intro b13 w13 hh;refine aL (aa (ah (sr (mI (mI (aa (ar ?_)))))));rw [rE] at hh;refine aT [5,15,16,17,18,19,20,21,22,23,24,25,26,27,28,29,30,31,32,33,34] 15
  (fun v w'=>∃i:Nat,i≤(bE M+7)/8∧v=.int .i64 i∧Hp w [.row (some ⟨b13,0,none⟩) ((bE M+7)/8) ((bE M+7)/8) 5 1 (iE (List.replicate ((bE M+7)/8-i) 0++(bX 256 i M).reverse))] w')
  (fun v _=>(bE M+7)/8-(intOf v).toNat) ?_ ?_
 ·exact ⟨0,Yx _,rfl,by simpa [bX] using hh⟩
 ·clear hh;rintro ρ' v w' ⟨i,hi,rfl,hh⟩;by_cases hlt:i<(bE M+7)/8
  ·obtain ⟨ad,rfl,hr⟩:=hcx.at_ Yo;have hg:=uW (B:=18446744073709551616) (n:=M) (i:=i/8) Yo Yo;have hg2:=eT hg;have e1:((i:Int) % 8*8).toNat=i % 8*8:=Yo;refine sr ?_;refine a9 (aa (ah (cT (aq (ai (ah (ar (sr (mI (aI (aa (ak (mL (mI ?_))))))))))))));refine ee (mI ?_);refine ee (mL (mI ?_));refine nk ?_;refine cN (k:=i/8) bG.out aJ.size rfl rfl Yo Yo Yp ?_;refine nJ ?_;refine mI ?_;refine q8 ?_;refine mulC ?_;refine wD rfl rfl Yo Yp ?_;refine Qb bG.out bG.out rfl Yp ?_;refine cJ (k:=(bE M+7)/8-1-i) bG.out aJ.size rfl rfl Yo Yo Yp ?_;refine ct hh (i:=0) (vs:=[_]) rfl rfl (dt rfl) rfl aJ.out rfl (by rw [dq,YE,Y9,ZG,aW];omega) rfl ?_;intro ws hh;simp only [YG] at hh;obtain ⟨k,hk⟩:∃k,(bE M+7)/8-i=k+1:=⟨(bE M+7)/8-i-1,Yo⟩;rw [e1,JD,YV,de (by rw [dq,YE,Y9,ZG,aW];omega),re,hk,show (bE M+7)/8-1-i=k by omega,HV,←List.reverse_concat,←l8] at hh;refine gu ?_;refine a8 (mI (aD (ai ?_)))
   refine ⟨⟨i+1,Yo,rfl,by rw [show (bE M+7)/8-(i+1)=k by omega];exact hh⟩,by show (bE M+7)/8-(i+1)<(bE M+7)/8-i;omega, ?_⟩;exact er
  ·obtain rfl:i=(bE M+7)/8:=Yo;have hfin:iE (List.replicate ((bE M+7)/8-(bE M+7)/8) 0++(bX 256 ((bE M+7)/8) M).reverse)=nB (sb M):=by
    rw [Zn,aby,Yz,←hlen];exact UY
   rw [hfin] at hh;refine sr ?_;refine oF ?_;exact S6
theorem lU (A:Option Addr) (n c m:Nat) (xs:List Nat) (w:World) (hx:Sl w A n 1 (cO xs)) (hn:n≤10000000000) (hm:m≤10000000000):
  Calls Tryz.prog 211 #[.slice A n c,.int .i64 m] w fun e w'=>∃b,e=.returned (.slice (some ⟨b,0,none⟩) (max m n) (max m n))∧w'.ownsRow w.heap.size 160 1 (.slice (some ⟨b,0,none⟩) (max m n) (max m n)) (max m n) (cO (xs++List.replicate (max m n-n) 0))∧Below w.heap.size w w':=by
 have hl:=hx.1;rw [a0] at hl;have hh:=Hp.start w;refine aj (N:=15) (l:=[.slice A n c,.int .i64 m]) Tryz.func211 rfl rfl (by simp) ?_;refine sr (aL (aa (sr (mI (mL (aM ?_))))));refine k9 rfl rfl Yp ?_;refine gj (n:=max m n) hh rfl rfl Yo Yo bG.out aJ.out rfl Yo Yo Yp ?_;intro b10 w10 hh;refine aL (aa (sr (mL (mL ?_))));rw [kT] at hh;refine HT hh (i:=0) (o:=0) rfl rfl rfl (hx.ext hh.below) bG.out aJ.out (by rw [a0,ZG];omega) (dv _) Yp ?_;intro w13 hh;skip;have e1:cm (cO (List.replicate (max m n) 0)) 0 ((cO xs).take (min n (max m n)*1))=cO (xs++List.replicate (max m n-n) 0):=by
  rw [YC (by rw [a0];omega),cm,Z7,Yz,a0,←yY,←Dc,List.drop_replicate];congr 3;omega
 simp only [YG,e1] at hh;refine aa (sr (mL (aL (aa (av ?_)))));refine dH ?_;exact ⟨_,rfl,hh.at_ (i:=0) rfl,hh.below⟩
theorem p6 (A B:Option Addr) (n c m c':Nat) (xs ys:List Nat) (w:World) (hx:Sl w A n 1 (cO xs)) (hy:Sl w B m 1 (cO ys)) (hdx:Dg 18446744073709551616 xs) (hdy:Dg 18446744073709551616 ys) (hc:n≤c) (hc':m≤c') (hn:n≤100000000000) (hm:m≤100000000000):
  Calls Tryz.prog 209 #[.slice A n c,.slice B m c'] w fun e w'=>e=.returned (.int .i64 (jH (aZ 18446744073709551616 xs) (aZ 18446744073709551616 ys)))∧Below w.heap.size w w':=by
 have hlx:=hx.1;have hly:=hy.1;rw [a0] at hlx hly;have hcx:=hx.pQ;have hcy:=hy.pQ;have hxl:=fh xs;have hyl:=fh ys;have hx2:=Can.cut hdx;have hy2:=Can.cut hdy;have hh:=Hp.start w;rw [←jP xs,←jP ys];refine aj (N:=47) (l:=[.slice A n c,.slice B m c']) Tryz.func209 rfl rfl (by simp) ?_;refine sr (aI (aa (sr (mL ?_))));refine bj hh (gB _ _ _ xs _ hx hc Yo) rfl ?_;intro w7 hh;refine mL ?_;refine bj hh (gB _ _ _ ys _ (hy.ext hh.below) hc' Yo) rfl ?_;intro w9 hh;generalize eJ xs=us at*;generalize eJ ys=vs at*;by_cases hlen:us.length=vs.length
 ·refine aL (aL (aa (ah (sr (mL (aM (mL (aM ?_))))))));refine dn (aa (cF (aq (ai (ah (sr (mL (aM ?_))))))));refine ee (aI (aa (ar ?_)));refine aT [4,5,23,24,25,26,27,28,29,30,31,32,33,34,35,36,37,38,39,40,41,42,43,44,45,46] 5
   (fun v w'=>∃k:Nat,k≤us.length∧v=.int .i64 ((k:Int)-1)∧us.drop k=vs.drop k∧Hp w [] w')
   (fun v _=>(intOf v+1).toNat) ?_ ?_
  ·exact ⟨us.length,YA _,rfl,by rw [List.drop_length,abS Yo],hh⟩
  ·clear hh;rintro ρ' v w' ⟨k,hk,rfl,hd,hh⟩;by_cases h0:k=0
   ·subst h0;refine ah (sr (mI ?_));refine dF (aa (cF (aX (aE (aE (bA (ai (sr (aI (aa (av ?_)))))))))));refine dH ?_;rw [abm,abm] at hd;rw [hd];exact ⟨by rw [Hm rfl],hh.below⟩
   ·obtain ⟨j,rfl⟩:∃j,k=j+1:=⟨k-1,Yo⟩;obtain ⟨x,hxj⟩:=ao (l:=us) (k:=j) Yo;obtain ⟨y,hyj⟩:=ao (l:=vs) (k:=j) Yo;obtain ⟨ad,rfl,hr⟩:=hcx.at_ Yo;obtain ⟨ad2,rfl,hs⟩:=hcy.at_ Yo;have hx3:=eT hxj;have hy3:=eT hyj;by_cases hlt:x<y
    ·have hf:=ze hx2.1 hxj hyj hd hlt;refine ah (sr (mI ?_));refine K6 ?_;refine Lw ?_;refine gI ?_;refine dJ ?_;refine np (j) ?_;refine Ck ?_;refine gI ?_;refine dJ ?_;refine np (j) ?_;refine Er ?_;refine aH ?_;intro f W hJ hV;have hb_9:=hJ.bl;obtain ⟨v35,v34,v33,v32,v31,v30,v29,v28,_⟩:=hV;replace hh:=hJ.hp;refine NX ?_;dsimp only [bP];clear hJ;refine a9 (aB (aa (cT (sr (aI (aa (av (bU (bU (aF (aF (bU (aF ?_)))))))))))));refine dH ?_;exact ⟨by rw [lF hf],hh.below⟩
    ·by_cases hgt:y<x
     ·have hf:=ze hy2.1 hyj hxj hd.symm hgt;refine ah (sr (mI ?_));refine K6 ?_;refine Lw ?_;refine gI ?_;refine dJ ?_;refine np (j) ?_;refine Ck ?_;refine gI ?_;refine dJ ?_;refine np (j) ?_;refine Er ?_;refine aH ?_;intro f W hJ hV;have hb_9:=hJ.bl;obtain ⟨v35,v34,v33,v32,v31,v30,v29,v28,_⟩:=hV;replace hh:=hJ.hp;refine NX ?_;dsimp only [bP];clear hJ;refine a9 (aB (aa (cF (ah ?_))));refine Rq ?_;refine gI ?_;refine dJ ?_;refine np (j) ?_;refine Ck ?_;refine gI ?_;refine dJ ?_;refine np (j) ?_;refine Er ?_;refine aH ?_;intro f W hJ hV;have hb_11:=hJ.bl;obtain ⟨v45,v44,v43,v42,v41,v40,v39,v38,_⟩:=hV;replace hh:=hJ.hp;refine St ?_;dsimp only [bP];clear hJ;refine bT (aB (aa (cT (sr (aI (aa (av (bU (bU (aF (aF (bU (aF ?_)))))))))))));refine dH ?_;exact ⟨by rw [qD hf],hh.below⟩
     ·refine ah (sr (mI ?_));refine K6 ?_;refine Lw ?_;refine gI ?_;refine dJ ?_;refine np (j) ?_;refine Ck ?_;refine gI ?_;refine dJ ?_;refine np (j) ?_;refine Er ?_;refine aH ?_;intro f W hJ hV;have hb_9:=hJ.bl;obtain ⟨v35,v34,v33,v32,v31,v30,v29,v28,_⟩:=hV;replace hh:=hJ.hp;refine NX ?_;dsimp only [bP];clear hJ;refine a9 (aB (aa (cF (ah ?_))));refine Rq ?_;refine gI ?_;refine dJ ?_;refine np (j) ?_;refine Ck ?_;refine gI ?_;refine dJ ?_;refine np (j) ?_;refine Er ?_;refine aH ?_;intro f W hJ hV;have hb_11:=hJ.bl;obtain ⟨v45,v44,v43,v42,v41,v40,v39,v38,_⟩:=hV;replace hh:=hJ.hp;refine St ?_;dsimp only [bP];clear hJ;refine bT (aB (aa (cF (aq (bz (bz (ai (ak (mI ?_)))))))));refine ee (aI (aD (ai ?_)));refine ⟨⟨j,Yo,by show Value.int _ _=Value.int _ _;congr 1;omega,AE hxj hyj hd Yo,hh⟩,by show ((((j+1:Nat):Int)-1-1)+1).toNat<((((j+1:Nat):Int)-1)+1).toNat;omega, ?_⟩;exact er
 ·by_cases hlt:us.length<vs.length
  ·have hf:aZ 18446744073709551616 us<aZ 18446744073709551616 vs:=by
    refine abl fun h=> ?_;have:=hy2.vw hx2 Yo h;omega
   refine aL (aL (aa (ah (sr (mL (aM (mL (aM ?_))))))));refine dn (aa (cT (ah (sr (mL (aM (mL (aM ?_))))))));refine a9 (aa (cT (sr (aI (aa (av (aF (aF ?_))))))));refine dH ?_;exact ⟨by rw [lF hf],hh.below⟩
  ·have hf:aZ 18446744073709551616 vs<aZ 18446744073709551616 us:=by
    refine abl fun h=> ?_;have:=hx2.vw hy2 Yo h;omega
   refine aL (aL (aa (ah (sr (mL (aM (mL (aM ?_))))))));refine dn (aa (cT (ah (sr (mL (aM (mL (aM ?_))))))));refine a9 (aa (cF (aq (ai (sr (aI (aa (av (aF ?_)))))))));refine dH ?_;exact ⟨by rw [qD hf],hh.below⟩
theorem VF {y:Nat} (hy:y<18446744073709551616) (hm:m<18446744073709551616):y*m≤340282366920938463426481119284349108225:=Z5 (by omega:y≤18446744073709551615) (by omega:m≤18446744073709551615)
theorem zm {x y P:Nat} (hx:x<18446744073709551616) (hc:c<18446744073709551616) (hP:P≤340282366920938463426481119284349108225) (he:P=y*m):
  (x+(P % 18446744073709551616+c+0) % 18446744073709551616+0) % 18446744073709551616=(x+y*m+c) % 18446744073709551616∧((P/18446744073709551616+(P % 18446744073709551616+c+0)/18446744073709551616) % 18446744073709551616+(x+(P % 18446744073709551616+c+0) % 18446744073709551616+0)/18446744073709551616) % 18446744073709551616=(x+y*m+c)/18446744073709551616∧(x+y*m+c)/18446744073709551616<18446744073709551616:=by
 rw [←he];omega
theorem nY {H:List HE}{M:Nat}{Y:Option Addr} (pre xs post ys:List Nat) (w:World) (hh:Hp w0 (.row (some ⟨b,0,none⟩) M C 160 1 (cO (pre++xs++post))::H) w)
  (hy:∀w1 cs,Hp w0 (.row (some ⟨b,0,none⟩) M C 160 1 cs::H) w1→Sl w1 Y ny 1 (cO ys)) (hxd:Dg 18446744073709551616 xs) (hyd:Dg 18446744073709551616 ys) (hm:m<18446744073709551616) (hM:xs.length≤100000000000) (hny:ny≤100000000000):
  Calls Tryz.prog 215 #[.slice (some ⟨b,pre.length,none⟩) xs.length c',.slice Y ny cy,.int .u64 (m:Int)] w fun e w'=>e=.returned (.tuple #[])∧Hp w0 (.row (some ⟨b,0,none⟩) M C 160 1 (cO (pre++iz 18446744073709551616 xs ys m 0++post))::H) w':=by
 have hly:=(hy _ _ hh).1;rw [a0] at hly;refine aj (N:=56) (l:=[.slice (some ⟨b,pre.length,none⟩) xs.length c',.slice Y ny cy,.int .u64 (m:Int)]) Tryz.func215 rfl rfl (by simp) ?_;refine sr (aI (aa (sr (mL (aM (mI (aa (ar ?_))))))));refine bH [6,7,8,9,10,11,14,15,16,17,18,19,20,21,22,23,24,25,26,27,28,29,30,31,32,33,34,35,36,37,38,39,40,41,42,43,44,45,46,47,48,49,50,51,52,53,54,55] 6 14
  (fun c i w'=>∃(done rest:List Nat) (cr:Nat),done.length+rest.length=xs.length∧i=.int .i64 done.length∧c=.int .u64 (cr:Int)∧cr<18446744073709551616∧Dg 18446744073709551616 rest∧done++iz 18446744073709551616 rest (ys.drop done.length) m cr=iz 18446744073709551616 xs ys m 0∧Hp w0 (.row (some ⟨b,0,none⟩) M C 160 1 (cO (pre++(done++rest)++post))::H) w')
  (fun _ i _=>xs.length-(intOf i).toNat) ?_ ?_
 ·exact ⟨[],xs,0,by simp,rfl,rfl,Yo,hxd,rfl,hh⟩
 ·clear hh;rintro ρ' c i w' ⟨done,rest,cr,hlen,rfl,rfl,hcr,hrd,heq,hh⟩;by_cases hlt:done.length<xs.length
  ·obtain ⟨x,r,rfl⟩:∃x r,rest=x::r:=by
    exact OP
   have hx:=hrd.head;have hg:=eT (AK (pre:=pre) (done:=done) (r:=r) (post:=post) (x:=x));have hlr:done.length+(r.length+1)=xs.length:=by simpa using hlen
   simp only [iz,tail_drop,vz] at heq;by_cases hiy:done.length<ny
   ·obtain ⟨y,hyk⟩:=ao (l:=ys) (k:=done.length) Yo;obtain ⟨ad,rfl,_⟩:=(hy _ _ hh).at_ Yo;rw [hyk,ZO] at heq;have hyw:=hyd.at_ hyk;refine sr ?_;refine yl ?_;refine a9 (aa (cT (ak (mL (mI ?_)))));refine MP ?_;refine bY aJ.out rfl ((hy _ _ hh).Aw hyk) Yp ?_;refine aI (aa (sr (mI (mI ?_))));obtain ⟨p1,p2,p3⟩:=zm (y:=y) (m:=m) hx hcr (VF hyw hm) rfl;refine bj hh (tX y m _ hyw hm) rfl ?_;intro w28 hh;refine mT ?_;refine cx ?_;refine cx ?_;refine aI (aI (aa (sr (mI (mI ?_)))));refine lH (kN (y*m % 18446744073709551616) cr 0 Yo _) (aC (dt rfl) (aC (dt rfl) (aC rfl bh))) Yp ?_;refine mT ?_;refine cx ?_;refine cx ?_;refine aI (aI (aa (sr (mI (mI ?_)))));refine fM rfl rfl Yp ?_;refine aI (aa (sr (mL (mI (mL (mI ?_))))));refine qi bG.out aJ.size rfl rfl rfl Yo Yp ?_;refine kZ ?_;refine mI ?_;refine lH (kN x ((y*m % 18446744073709551616+cr+0) % 18446744073709551616) 0 Yo _) (aC (dt rfl) (aC (dt rfl) (aC rfl bh))) Yp ?_;refine mT ?_;refine cx ?_;refine cx ?_;refine pE ?_;refine zt ?_;intro ws hh;simp only [YG] at hh;rw [p1,YV,de (by rw [a0];simp only [YE,Y3];omega),hQ,oH] at hh
    refine aI (aa (ak (mI (mI ?_))));refine fM rfl rfl Yp ?_;refine zu ?_;refine a8 (mI (aD (ai ?_)));rw [p2];refine ⟨⟨done++[(x+y*m+cr) % 18446744073709551616],r,_,by simp;omega,by rw [YE];rfl,rfl,p3,hrd.tail, ?_,hh⟩,by show xs.length-(done.length+1)<xs.length-done.length;omega, ?_⟩
    ·rw [←heq,Y5,YE];rfl
    exact Yr
   ·rw [YQ Yo,Option.getD_none] at heq;have h0w:(0:Nat)<18446744073709551616:=Yo;refine sr ?_;refine yl ?_;refine a9 (aa (cF (aq (ai (sr (mI (mI ?_)))))));obtain ⟨p1,p2,p3⟩:=zm (y:=0) (m:=m) hx hcr (VF h0w hm) rfl;refine bj hh (tX 0 m _ h0w hm) rfl ?_;intro w28 hh;refine mT ?_;refine cx ?_;refine cx ?_;refine aI (aI (aa (sr (mI (mI ?_)))));refine lH (kN (0*m % 18446744073709551616) cr 0 Yo _) (aC (dt rfl) (aC (dt rfl) (aC rfl bh))) Yp ?_;refine mT ?_;refine cx ?_;refine cx ?_;refine aI (aI (aa (sr (mI (mI ?_)))));refine fM rfl rfl Yp ?_;refine aI (aa (sr (mL (mI (mL (mI ?_))))));refine qi bG.out aJ.size rfl rfl rfl Yo Yp ?_;refine kZ ?_;refine mI ?_;refine lH (kN x ((0*m % 18446744073709551616+cr+0) % 18446744073709551616) 0 Yo _) (aC (dt rfl) (aC (dt rfl) (aC rfl bh))) Yp ?_;refine mT ?_;refine cx ?_;refine cx ?_;refine pE ?_;refine zt ?_;intro ws hh;simp only [YG] at hh;rw [p1,YV,de (by rw [a0];simp only [YE,Y3];omega),hQ,oH] at hh;refine aI (aa (ak (mI (mI ?_))));refine fM rfl rfl Yp ?_;refine zu ?_;refine a8 (mI (aD (ai ?_)));rw [p2]
    refine ⟨⟨done++[(x+0*m+cr) % 18446744073709551616],r,_,by simp;omega,by rw [YE];rfl,rfl,p3,hrd.tail, ?_,hh⟩,by show xs.length-(done.length+1)<xs.length-done.length;omega, ?_⟩
    ·rw [←heq,Y5,YE];rfl
    exact Yr
  ·exact V7
theorem nX {H:List HE}{M:Nat}{Y:Option Addr} (pre xs post ys:List Nat) (w:World) (hh:Hp w0 (.row (some ⟨b,0,none⟩) M C 160 1 (cO (pre++xs++post))::H) w)
  (hy:∀w1 cs,Hp w0 (.row (some ⟨b,0,none⟩) M C 160 1 cs::H) w1→Sl w1 Y ny 1 (cO ys)) (hxd:Dg 18446744073709551616 xs) (hyd:Dg 18446744073709551616 ys) (hM:xs.length≤100000000000) (hny:ny≤100000000000) (hsub:D9 18446744073709551616 xs ys 0=0):
  Calls Tryz.prog 231 #[.slice (some ⟨b,pre.length,none⟩) xs.length c',.slice Y ny cy] w fun e w'=>e=.returned (.bool true)∧Hp w0 (.row (some ⟨b,0,none⟩) M C 160 1 (cO (pre++qp 18446744073709551616 xs ys 0++post))::H) w':=by
 have hly:=(hy _ _ hh).1;rw [a0] at hly;refine aj (N:=37) (l:=[.slice (some ⟨b,pre.length,none⟩) xs.length c',.slice Y ny cy]) Tryz.func231 rfl rfl (by simp) ?_;refine sr (aB (aa (sr (aI (aa (ah (sr (mL (aM (mI (aa (ar ?_))))))))))));refine bH [5,6,7,10,11,12,13,14,15,16,17,18,19,20,21,22,23,24,25,26,27,28,29,30,31,32,33,34] 5 10
  (fun c i w'=>∃(done rest:List Nat) (cr:Nat),done.length+rest.length=xs.length∧i=.int .i64 done.length∧c=.int .u64 (cr:Int)∧cr≤1∧Dg 18446744073709551616 rest∧done++qp 18446744073709551616 rest (ys.drop done.length) cr=qp 18446744073709551616 xs ys 0∧D9 18446744073709551616 rest (ys.drop done.length) cr=0∧Hp w0 (.row (some ⟨b,0,none⟩) M C 160 1 (cO (pre++(done++rest)++post))::H) w')
  (fun _ i _=>xs.length-(intOf i).toNat) ?_ ?_
 ·exact ⟨[],xs,0,by simp,rfl,rfl,Yo,hxd,rfl,hsub,hh⟩
 ·clear hh;rintro ρ' c i w' ⟨done,rest,cr,hlen,rfl,rfl,hcr,hrd,heq,hsb,hh⟩;by_cases hlt:done.length<xs.length
  ·obtain ⟨x,r,rfl⟩:∃x r,rest=x::r:=by
    exact OP
   have hx:=hrd.head;have hg:=eT (AK (pre:=pre) (done:=done) (r:=r) (post:=post) (x:=x));have hlr:done.length+(r.length+1)=xs.length:=by simpa using hlen
   simp only [qp,D9,tail_drop,vz] at heq hsb;by_cases hiy:done.length<ny
   ·obtain ⟨y,hyk⟩:=ao (l:=ys) (k:=done.length) Yo;obtain ⟨ad,rfl,_⟩:=(hy _ _ hh).at_ Yo;rw [hyk,ZO] at heq hsb;have hyw:=hyd.at_ hyk;refine sr ?_;refine yl ?_;refine a9 (aa (cT (ak (mL (mI ?_)))));refine MP ?_;refine bY aJ.out rfl ((hy _ _ hh).Aw hyk) Yp ?_;refine aI (aa (ak (mL (mI (mL (mI ?_))))));refine pE ?_;refine kZ ?_;refine mI (mI ?_);refine lH (zk x y cr hcr _) (aC (dt rfl) (aC (dt rfl) (aC (dt rfl) bh))) Yp ?_;refine mT ?_;refine cx ?_;refine cx ?_;refine pE ?_;refine zt ?_;intro ws hh;simp only [YG] at hh;rw [YV,de (by rw [a0];simp only [YE,Y3];omega),hQ,oH] at hh;refine zu ?_;refine a8 (mI (aD (ai ?_)));refine ⟨⟨done++[(x+18446744073709551616-y-cr) % 18446744073709551616],r,_,by simp;omega,by rw [YE];rfl,rfl,by split<;>omega,hrd.tail, ?_, ?_,hh⟩,by show xs.length-(done.length+1)<xs.length-done.length;omega, ?_⟩
    ·rw [←heq,Y5,YE];rfl
    ·rw [YE];exact hsb
    exact Yr
   ·rw [YQ Yo,Option.getD_none] at heq hsb;refine sr ?_;refine yl ?_;refine a9 (aa (cF (aq (ai (ak (mL (mI (mL (mI ?_)))))))));refine pE ?_;refine kZ ?_;refine mI (mI ?_);refine lH (zk x 0 cr hcr _) (aC (dt rfl) (aC (dt rfl) (aC (dt rfl) bh))) Yp ?_;refine mT ?_;refine cx ?_;refine cx ?_;refine pE ?_;refine zt ?_;intro ws hh;simp only [YG] at hh;rw [YV,de (by rw [a0];simp only [YE,Y3];omega),hQ,oH] at hh;refine zu ?_;refine a8 (mI (aD (ai ?_)));refine ⟨⟨done++[(x+18446744073709551616-0-cr) % 18446744073709551616],r,_,by simp;omega,by rw [YE];rfl,rfl,by split<;>omega,hrd.tail, ?_, ?_,hh⟩,by show xs.length-(done.length+1)<xs.length-done.length;omega, ?_⟩
    ·rw [←heq,Y5,YE];rfl
    ·rw [YE];exact hsb
    exact Yr
  ·have hr0:rest=[]:=aai Yo;subst hr0;obtain rfl:cr=0:=hsb;refine sr ?_;refine a9 (aa (ah (cF (aX (aE (aE (bA (ai (sr (mI ?_))))))))));refine cH (aB (aa (av ?_)));refine dH ?_;rw [Y7,qp,Y7] at*;rw [←heq];exact ⟨rfl,hh⟩
theorem FP {H:List HE}{M:Nat}{Y:Option Addr} (pre xs post ys:List Nat) (w:World) (hh:Hp w0 (.row (some ⟨b,0,none⟩) M C 160 1 (cO (pre++xs++post))::H) w)
  (hy:∀w1 cs,Hp w0 (.row (some ⟨b,0,none⟩) M C 160 1 cs::H) w1→Sl w1 Y ny 1 (cO ys)) (hxd:Dg 18446744073709551616 xs) (hyd:Dg 18446744073709551616 ys) (hM:xs.length≤100000000000) (hny:ny≤100000000000):
  Calls Tryz.prog 229 #[.slice (some ⟨b,pre.length,none⟩) xs.length c',.slice Y ny cy] w fun e w'=>e=.returned (.tuple #[])∧Hp w0 (.row (some ⟨b,0,none⟩) M C 160 1 (cO (pre++iz 18446744073709551616 xs ys 1 0++post))::H) w':=by
 have hly:=(hy _ _ hh).1;rw [a0] at hly;refine aj (N:=34) (l:=[.slice (some ⟨b,pre.length,none⟩) xs.length c',.slice Y ny cy]) Tryz.func229 rfl rfl (by simp) ?_;refine sr (aI (aa (sr (mL (aM (mI (aa (ar ?_))))))));refine bH [4,5,6,9,10,11,12,13,14,15,16,17,18,19,20,21,22,23,24,25,26,27,28,29,30,31,32,33] 4 9
  (fun c i w'=>∃(done rest:List Nat) (cr:Nat),done.length+rest.length=xs.length∧i=.int .i64 done.length∧c=.int .u64 (cr:Int)∧cr≤1∧Dg 18446744073709551616 rest∧done++iz 18446744073709551616 rest (ys.drop done.length) 1 cr=iz 18446744073709551616 xs ys 1 0∧Hp w0 (.row (some ⟨b,0,none⟩) M C 160 1 (cO (pre++(done++rest)++post))::H) w')
  (fun _ i _=>xs.length-(intOf i).toNat) ?_ ?_
 ·exact ⟨[],xs,0,by simp,rfl,rfl,Yo,hxd,rfl,hh⟩
 ·clear hh;rintro ρ' c i w' ⟨done,rest,cr,hlen,rfl,rfl,hcr,hrd,heq,hh⟩;by_cases hlt:done.length<xs.length
  ·obtain ⟨x,r,rfl⟩:∃x r,rest=x::r:=by
    exact OP
   have hx:=hrd.head;have hg:=eT (AK (pre:=pre) (done:=done) (r:=r) (post:=post) (x:=x));have hlr:done.length+(r.length+1)=xs.length:=by simpa using hlen
   simp only [iz,tail_drop,vz,YV] at heq;by_cases hiy:done.length<ny
   ·obtain ⟨y,hyk⟩:=ao (l:=ys) (k:=done.length) Yo;obtain ⟨ad,rfl,_⟩:=(hy _ _ hh).at_ Yo;rw [hyk,ZO] at heq;have hyw:=hyd.at_ hyk;refine sr ?_;refine yl ?_;refine a9 (aa (cT (ak (mL (mI ?_)))));refine MP ?_;refine bY aJ.out rfl ((hy _ _ hh).Aw hyk) Yp ?_;refine aI (aa (ak (mL (mI (mL (mI ?_))))));refine pE ?_;refine kZ ?_;refine mI (mI ?_);refine lH (kN x y cr hcr _) (aC (dt rfl) (aC (dt rfl) (aC (dt rfl) bh))) Yp ?_;refine mT ?_;refine cx ?_;refine cx ?_;refine pE ?_;refine zt ?_;intro ws hh;simp only [YG] at hh;rw [YV,de (by rw [a0];simp only [YE,Y3];omega),hQ,oH] at hh;refine zu ?_;refine a8 (mI (aD (ai ?_)));refine ⟨⟨done++[(x+y+cr) % 18446744073709551616],r,_,by simp;omega,by rw [YE];rfl,rfl,Yo,hrd.tail, ?_,hh⟩,by show xs.length-(done.length+1)<xs.length-done.length;omega, ?_⟩
    ·rw [←heq,Y5,YE];rfl
    exact Yr
   ·rw [YQ Yo,Option.getD_none] at heq;refine sr ?_;refine yl ?_;refine a9 (aa (cF (aq (ai (ak (mL (mI (mL (mI ?_)))))))));refine pE ?_;refine kZ ?_;refine mI (mI ?_);refine lH (kN x 0 cr hcr _) (aC (dt rfl) (aC (dt rfl) (aC (dt rfl) bh))) Yp ?_;refine mT ?_;refine cx ?_;refine cx ?_;refine pE ?_;refine zt ?_;intro ws hh;simp only [YG] at hh;rw [YV,de (by rw [a0];simp only [YE,Y3];omega),hQ,oH] at hh;refine zu ?_;refine a8 (mI (aD (ai ?_)));refine ⟨⟨done++[(x+0+cr) % 18446744073709551616],r,_,by simp;omega,by rw [YE];rfl,rfl,Yo,hrd.tail, ?_,hh⟩,by show xs.length-(done.length+1)<xs.length-done.length;omega, ?_⟩
    ·rw [←heq,Y5,YE];rfl
    exact Yr
  ·exact V7
theorem O9 {i d:Nat} (D:Nat) (hD:D<18446744073709551616^i) (hd:d<18446744073709551616) (hk:i+n/64+1<k):
  (D*2^n)/18446744073709551616^(i+n/64) % 18446744073709551616<2^(n % 64)∧d*2^(n % 64) % 18446744073709551616=(d % 2^(64-n % 64))*2^(n % 64)∧
  (bX 18446744073709551616 k (D*2^n)).set (i+n/64) ((D*2^n)/18446744073709551616^(i+n/64) % 18446744073709551616+d*2^(n % 64) % 18446744073709551616)=bX 18446744073709551616 k (D*2^n+18446744073709551616^(i+n/64)*(d*2^(n % 64) % 18446744073709551616))∧
  (D*2^n+18446744073709551616^(i+n/64)*(d*2^(n % 64) % 18446744073709551616))/18446744073709551616^(i+n/64+1) % 18446744073709551616=0∧
  (bX 18446744073709551616 k (D*2^n+18446744073709551616^(i+n/64)*(d*2^(n % 64) % 18446744073709551616))).set (i+n/64+1) (d/2^(64-n % 64))=bX 18446744073709551616 k ((D+18446744073709551616^i*d)*2^n)∧
  (n % 64=0→D*2^n+18446744073709551616^(i+n/64)*(d*2^(n % 64) % 18446744073709551616)=(D+18446744073709551616^i*d)*2^n):=by
 have hW:(18446744073709551616:Nat)=2^64:=by decide
 have hs:n % 64<64:=YU _ Yo;have hn:2^n=18446744073709551616^(n/64)*2^(n % 64):=by
  rw [hW,←Zk,←YW];congr 1;omega
 generalize hq:n/64=q at*;generalize hse:n % 64=s at*;have e:(18446744073709551616:Nat)=2^(64-s)*2^s:=by rw [←YW,hW];congr 1;omega
 have hpos:0<2^s:=YY Yo;have hwp:∀j:Nat,0<18446744073709551616^j:=fun j=>YY Yp;have hP:D*2^n<18446744073709551616^(i+q)*2^s:=by
  rw [hn,←Zw,YW];exact aaH (aaH hD (hwp q)) hpos
 have h1:(D*2^n)/18446744073709551616^(i+q)<2^s:=by rw [ZH (hwp _),YO (2^s)];exact hP
 have hsW:2^s≤18446744073709551616:=by rw [hW];exact Zf Yo Yo
 have h2:d*2^s % 18446744073709551616=(d % 2^(64-s))*2^s:=by rw [e,Nat.mul_mod_mul_right]
 have h3:(d % 2^(64-s)+1)*2^s≤18446744073709551616:=by
  rw [e];exact Zo _ (YU _ (YY Yo))
 rw [ZA] at h3;have h4:(D*2^n)/18446744073709551616^(i+q) % 18446744073709551616=(D*2^n)/18446744073709551616^(i+q):=Za Yo;have hlt1:D*2^n+18446744073709551616^(i+q)*(d*2^s % 18446744073709551616)<18446744073709551616^(i+q+1):=by
  rw [h2,Zh];have:18446744073709551616^(i+q)*((d % 2^(64-s))*2^s+2^s)≤18446744073709551616^(i+q)*18446744073709551616:=Y4 _ h3;rw [Zj] at this;omega
 have hup:=TB (d:=d) (s:=s) hd Yo;have hfin:D*2^n+18446744073709551616^(i+q)*(d*2^s % 18446744073709551616)+18446744073709551616^(i+q+1)*(d/2^(64-s))=(D+18446744073709551616^i*d)*2^n:=by
  have h5:18446744073709551616^(i+q)*(d*2^s % 18446744073709551616)+18446744073709551616^(i+q+1)*(d/2^(64-s))=18446744073709551616^(i+q)*(d*2^s):=by
   conv=>rhs;rw [←hup.1,Zj]
   rw [Zh,Zw,YO 18446744073709551616]
  rw [abc,h5,aaJ,hn,YW];congr 1;simp only [Zw,aa2,YO]
 have hbig:∀j,j<k→18446744073709551616^j*18446744073709551616≤18446744073709551616^k:=fun j hj=>by rw [←Zh];exact Zf Yp hj
 have hb1:=hbig (i+q) Yo;rw [←Zh] at hb1;refine ⟨by rw [h4];exact h1,h2, ?_, ?_, ?_, ?_⟩
 ·exact qW Yp Yo Yo (by rw [h4,h2];omega)
 ·rw [Zt hlt1]
 ·have h6:(D*2^n+18446744073709551616^(i+q)*(d*2^s % 18446744073709551616))/18446744073709551616^(i+q+1) % 18446744073709551616=0:=by rw [Zt hlt1]
  have h7:d/2^(64-s)<18446744073709551616:=Zr (aaF _ _) hd;have h8:=qW (B:=18446744073709551616) (k:=k) (n:=D*2^n+18446744073709551616^(i+q)*(d*2^s % 18446744073709551616)) (j:=i+q+1) (v:=d/2^(64-s)) Yp hk ?_ (by rw [h6];omega)
  ·rw [h6,YZ,hfin] at h8;exact h8
  ·have h9:18446744073709551616^(i+q+1)*(d/2^(64-s)+1)≤18446744073709551616^(i+q+1)*18446744073709551616:=Y4 _ h7;have h10:=hbig (i+q+1) hk;rw [ZZ] at h9;omega
 ·intro h0;subst h0;rw [←hfin];have:d/2^(64-0)=0:=Zt (by rw [←hW];exact hd);rw [this];simp
theorem sS (A:Option Addr) (n c m:Nat) (xs:List Nat) (w:World) (hx:Sl w A n 1 (cO xs)) (hd:Dg 18446744073709551616 xs) (hn:n≤1000000000) (hm:m≤10000000000):
  Calls Tryz.prog 206 #[.slice A n c,.int .i64 (m:Int)] w fun e w'=>∃A c,e=.returned (.slice A (aR 18446744073709551616 (aZ 18446744073709551616 xs*2^m)).length c)∧w'.ownsRow w.heap.size 160 1 (.slice A (aR 18446744073709551616 (aZ 18446744073709551616 xs*2^m)).length c) (aR 18446744073709551616 (aZ 18446744073709551616 xs*2^m)).length (cO (aR 18446744073709551616 (aZ 18446744073709551616 xs*2^m)))∧Below w.heap.size w w':=by
 have hl:=hx.1;rw [a0] at hl;have hh:=Hp.start w;have hs1:((m:Int) % 64).toNat=m % 64:=Yo;refine aj (N:=55) (l:=[.slice A n c,.int .i64 (m:Int)]) Tryz.func206 rfl rfl (by simp) ?_;refine sr (aL (aa (sr (mL (aM (mI ?_))))));refine nk ?_;refine a8 ?_;refine a8 ?_;refine gj (n:=n+m/64+1) hh rfl rfl Yo Yo bG.out aJ.out rfl Yo Yo Yp ?_;intro b15 w15 hh;refine qI ?_;rw [kT] at hh;refine aT [6,7,8,18,19,20,21,22,23,24,25,26,27,28,29,30,31,32,33,34,35,36,37,38,39,40,41,42,43,44,45,46,47,48,49,50,51,52] 18
  (fun v w'=>∃i:Nat,i≤n∧v=.int .i64 i∧Hp w [.row (some ⟨b15,0,none⟩) (n+m/64+1) (n+m/64+1) 160 1 (cO (bX 18446744073709551616 (n+m/64+1) (aZ 18446744073709551616 (xs.take i)*2^m)))] w')
  (fun v _=>n-(intOf v).toNat) ?_ ?_
 ·exact ⟨0,Yx _,rfl,by rw [Z7,aZ,aaP,sK];exact hh⟩
 ·clear hh;rintro ρ' v w' ⟨i,hi,rfl,hh⟩;by_cases hlt:i<n
  ·obtain ⟨d,hdi⟩:=ao (l:=xs) (k:=i) Yo;obtain ⟨ad,rfl,hr⟩:=hx.at_ Yo;have hd2:=eT hdi;have hdw:=hd.at_ hdi;have hD:=gQ (hd.take i);rw [YM,ZK Yo] at hD;obtain ⟨s1,s2,s3,s4,s5,s6⟩:=O9 (k:=n+m/64+1) (n:=m) (aZ 18446744073709551616 (xs.take i)) hD hdw Yo;have hg:=eT (jV (B:=18446744073709551616) (n+m/64+1) (aZ 18446744073709551616 (xs.take i)*2^m) (i+m/64) Yo);refine sr ?_;refine dY ?_;refine cN bG.out aJ.size rfl rfl rfl Yo Yp ?_;refine nJ ?_;refine aI (aI (aa (sr (mI (mI ?_)))));refine nk ?_;refine a8 (aI (aa (ah ?_)));refine aK 8 [[(5,none)],[(8,none)],[(27,some 0),(28,some 1)],[(29,some 2)],[(7,none)],[(1,none)],[(32,some 5)],[(31,some 4),(33,some 6)]] [(7,34),(6,33),(5,32),(4,31),(3,30),(2,29),(1,28),(0,27)] hh mixed Yq ?_;refine gI ?_;refine dJ ?_;refine EG (i+m/64) ?_;refine bB (i:=3) (fun ρ1 w1 hj hR=>iL aJ.out (show ρ1 29=Value.pointer _ from hR.1) (hj.hp.iC (i:=0) rfl (by rw [YV];exact hg))) ?_;refine dJ ?_;refine dJ ?_;refine bB (i:=6) (fun ρ1 w1 hj hR=>pX (show ρ1 32=Value.int _ _ from hR.1) rfl Yo Yo) ?_
   refine bB (i:=7) (fun ρ1 w1 hj hR=>xk (show ρ1 31=Value.int _ _ from hR.1) (show ρ1 33=Value.int _ _ from hR.2.1) Yo) ?_;refine aH ?_;intro f W hJ hV;have hb_6:=hJ.bl;obtain ⟨v34,v33,v32,v31,v30,v29,v28,v27,_⟩:=hV;replace hh:=hJ.hp;refine aN (a6 (ae v34 (ae v33 (ae v32 (ae v31 (ae v30 (ae v29 (ae v28 (ae v27 aO))))))))) ?_;dsimp only [bP];clear hJ;refine CP ?_;refine cJ (k:=i+m/64) bG.out aJ.size rfl rfl Yo Yo Yp ?_;refine LO ?_;intro ws hh;simp only [YG] at hh;rw [hs1,s2,Fz s1,←s2,YV,de (by rw [a0,aW];omega),hQ,s3] at hh;by_cases h0:m % 64=0
   ·refine aa (sr (mI ?_));refine q8 ?_;refine bT (aa (cF (aq (bz (ai (ak ?_))))));refine a8 (mI (aD (ai ?_)));rw [s6 h0,←ie hdi] at hh;exact yV
   ·have hg2:=eT (jV (B:=18446744073709551616) (n+m/64+1) (aZ 18446744073709551616 (xs.take i)*2^m+18446744073709551616^(i+m/64)*(d*2^(m % 64) % 18446744073709551616)) (i+m/64+1) Yo);rw [s4] at hg2;have hs2:(64-(m:Int) % 64).toNat=64-m % 64:=Yo;have hd64:d/2^(64-(m:Int) % 64).toNat<18446744073709551616:=Zr (aaF _ _) hdw;have h0w:(0:Nat)<18446744073709551616:=Yo;refine aa (sr (mI ?_));refine q8 ?_;refine bT (aa (cT ?_));refine aK 10 [[(5,none)],[(8,none)],[(41,some 1)],[(40,some 0),(42,some 2)],[(43,some 3)],[(7,none)],[(1,none)],[(46,some 6)],[(47,some 7)],[(45,some 5),(48,some 8)]] [(9,49),(8,48),(7,47),(6,46),(5,45),(4,44),(3,43),(2,42),(1,41),(0,40)] hh mixed Yq ?_;refine gI ?_;refine dJ ?_;refine qT ?_;refine EG (i+m/64+1) ?_;refine bB (i:=4) (fun ρ1 w1 hj hR=>iL aJ.out (show ρ1 43=Value.pointer _ from hR.1) (hj.hp.iC (i:=0) rfl (by rw [YV];exact hg2))) ?_;refine dJ ?_;refine dJ ?_;refine bB (i:=7) (fun ρ1 w1 hj hR=>pX (show ρ1 46=Value.int _ _ from hR.1) rfl Yo Yo) ?_;refine tZ ?_
    refine bB (i:=9) (fun ρ1 w1 hj hR=>ER (show ρ1 45=Value.int _ _ from hR.1) (show ρ1 48=Value.int _ _ from hR.2.1) Yo) ?_;refine aH ?_;intro f W hJ hV;have hb_8:=hJ.bl;obtain ⟨v49,v48,v47,v46,v45,v44,v43,v42,v41,v40,_⟩:=hV;replace hh:=hJ.hp;refine aN (a6 (ae v49 (ae v48 (ae v47 (ae v46 (ae v45 (ae v44 (ae v43 (ae v42 (ae v41 (ae v40 aO))))))))))) ?_;dsimp only [bP];clear hJ;refine CP ?_;refine cJ (k:=i+m/64+1) bG.out aJ.size rfl rfl Yo Yo Yp ?_;refine LO ?_;intro ws hh;simp only [YG] at hh;rw [hs2,Nat.zero_or,YV,de (by rw [a0,aW];omega),hQ,s5,←ie hdi] at hh;exact RJ
  ·refine sr ?_;refine oF ?_;rw [YC Yo] at hh;refine bj hh (gB _ _ _ (bX 18446744073709551616 (n+m/64+1) (aZ 18446744073709551616 xs*2^m)) _ (hh.az (i:=0) rfl) (YA _) Yo) rfl ?_;intro w54 hh;refine aL (aa (av ?_));refine dH ?_;have hbd:aZ 18446744073709551616 xs*2^m<18446744073709551616^(n+m/64+1):=by
    have h1:=gQ hd;rw [show xs.length=n by omega] at h1;have h2:2^m≤18446744073709551616^(m/64+1):=by
     exact R1
    rw [show n+m/64+1=n+(m/64+1) by omega,YW];exact Zl (aaH h1 (YY Yo)) (Y4 _ h2)
   have hd:eJ (bX 18446744073709551616 (n+m/64+1) (aZ 18446744073709551616 xs*2^m))=aR 18446744073709551616 (aZ 18446744073709551616 xs*2^m):=by
    exact OJ
   have h1:=(Hp.I4 (xs:=bX 18446744073709551616 (n+m/64+1) (aZ 18446744073709551616 xs*2^m)) hh (aW _ _)).at_ (i:=0) rfl;exact Iq
theorem Sl.Lo {xs:List Nat} (h:Sl w (some ad) n 1 (cO xs)) (hk:k<n):Sl w (some (ad.add (k*1))) (n-k) 1 (cO (xs.drop k)):=by
 have hl:=h.1;rw [a0] at hl;refine ⟨by rw [a0,Zz];omega,fun h0=>⟨_,rfl, ?_⟩⟩;obtain ⟨ad',he,hr⟩:=h.2 Yo;injection he with he
 subst he;rw [YV,yY];exact hr.drop k
theorem KP {s:Nat} (hs:s<64) (h0:0<s):
  (N/18446744073709551616^(j+1) % 18446744073709551616)*2^(64-s) % 18446744073709551616=N/18446744073709551616^(j+1) % 2^s*2^(64-s)∧
  (N/18446744073709551616^j % 18446744073709551616/2^s|||(N/18446744073709551616^(j+1) % 18446744073709551616)*2^(64-s) % 18446744073709551616)=N/2^(64*j+s) % 18446744073709551616:=by
 have hW:(18446744073709551616:Nat)=2^64:=by decide
 have e:(18446744073709551616:Nat)=2^s*2^(64-s):=by rw [←YW,hW];congr 1;omega
 have h1:(N/18446744073709551616^(j+1) % 18446744073709551616)*2^(64-s) % 18446744073709551616=N/18446744073709551616^(j+1) % 2^s*2^(64-s):=by
  generalize N/18446744073709551616^(j+1)=m;rw [e,Nat.mul_mod_mul_right,Nat.mod_mul_right_mod]
 obtain ⟨h2,h3⟩:=zF N j s hs h0;exact ⟨h1,by rw [h1,Fz h2,h3]⟩
theorem tI (A:Option Addr) (n c m:Nat) (xs:List Nat) (w:World) (hx:Sl w A n 1 (cO xs)) (hd:Dg 18446744073709551616 xs) (hc:n≤c) (hn:n≤1000000000) (hm:m≤1000000000000):
  Calls Tryz.prog 207 #[.slice A n c,.int .i64 (m:Int)] w fun e w'=>∃A c,e=.returned (.slice A (aR 18446744073709551616 (aZ 18446744073709551616 xs/2^m)).length c)∧w'.ownsRow w.heap.size 160 1 (.slice A (aR 18446744073709551616 (aZ 18446744073709551616 xs/2^m)).length c) (aR 18446744073709551616 (aZ 18446744073709551616 xs/2^m)).length (cO (aR 18446744073709551616 (aZ 18446744073709551616 xs/2^m)))∧Below w.heap.size w w':=by
 have hl:=hx.1;rw [a0] at hl;have hh:=Hp.start w;have hs1:((m:Int) % 64).toNat=m % 64:=Yo;have hW:(18446744073709551616:Nat)=2^64:=by decide
 have hmm:2^m=18446744073709551616^(m/64)*2^(m % 64):=by
  rw [hW,←Zk,←YW];congr 1;omega
 have hlt:=gQ hd;rw [show xs.length=n by omega] at hlt;by_cases hbig:n≤m/64
 ·have h0:aZ 18446744073709551616 xs/2^m=0:=by
   apply Zt;refine Zl hlt (Y1 (Zf Yp hbig) ?_);rw [hmm];exact abM _ (YY Yo)
  refine aj (N:=61) (l:=[.slice A n c,.int .i64 (m:Int)]) Tryz.func207 rfl rfl (by simp) ?_;refine sr (aL (aa (ah (sr (mI ?_)))));refine nk ?_;refine mL (aM ?_);refine dF (aa (cT (sr (aL (aa (av (aF ?_)))))));refine dH ?_;rw [h0,iT Yo];exact ⟨none,0,rfl,World.ownsRow_nil _ _ _ _,hh.below⟩
 ·obtain ⟨ad,rfl,hr⟩:=hx.at_ Yo;have hsd:=hx.Lo (k:=m/64) Yo;have hget:∀j,j<n→xs[j]?=some (aZ 18446744073709551616 xs/18446744073709551616^j % 18446744073709551616):=fun j hj=>by
   obtain ⟨d,hdj⟩:=ao (l:=xs) (k:=j) Yo;rw [hdj,um hd hdj]
  refine aj (N:=61) (l:=[.slice (some ad) n c,.int .i64 (m:Int)]) Tryz.func207 rfl rfl (by simp) ?_;refine sr (aL (aa (ah (sr (mI ?_)))));refine nk ?_;refine mL (aM ?_);refine dF (aa (cF (aq (ai (sr (mL (mI ?_)))))));refine nk ?_;refine Cr (l:=m/64) bG.out aJ.size rfl rfl Yo Yo Yo Yo Yp ?_;refine ay (lU _ _ _ 0 _ _ hsd Yo Yo) au.out rfl Yp ?_;rintro e_ w_ ⟨b16,rfl,hown_,hb_⟩;refine ⟨_,rfl, ?_⟩;replace hh:=hh.aP (x:=.row _ _ _ _ _ _) hb_ hown_;rw [Nat.zero_max,Zn,aby,Y7] at hh;rw [Nat.zero_max];refine qI ?_;refine aT [6,19,20,21,22,23,24,25,26,27,28,29,30,31,32,33,34,35,36,37,38,39,40,41,42,43,44,45,46,47,48,49,50,51,52,53,54,55,56,57,58] 19
   (fun v w'=>∃i:Nat,i≤n-m/64∧v=.int .i64 i∧Hp w [.row (some ⟨b16,0,none⟩) (n-m/64) (n-m/64) 160 1 (cO (bX 18446744073709551616 i (aZ 18446744073709551616 xs/2^m)++xs.drop (m/64+i)))] w')
   (fun v _=>(n-m/64)-(intOf v).toNat) ?_ ?_
  ·exact ⟨0,Yx _,rfl,hh⟩
  ·clear hh;rintro ρ' v w' ⟨i,hi,rfl,hh⟩;by_cases hlt2:i<n-m/64
   ·have hgi:=hget (m/64+i) Yo;have hdr:xs.drop (m/64+i)=(aZ 18446744073709551616 xs/18446744073709551616^(m/64+i) % 18446744073709551616)::xs.drop (m/64+i+1):=by
     rw [aal Yo];congr 1;have:=YL.1 hgi;exact this.2
    have hcell:(bX 18446744073709551616 i (aZ 18446744073709551616 xs/2^m)++xs.drop (m/64+i))[i]?=some (aZ 18446744073709551616 xs/18446744073709551616^(m/64+i) % 18446744073709551616):=by
     rw [ZC (by rw [aW];omega),aW,hdr];simp
    have hg:=eT hcell;have hset:∀y,(bX 18446744073709551616 i (aZ 18446744073709551616 xs/2^m)++xs.drop (m/64+i)).set i y=bX 18446744073709551616 i (aZ 18446744073709551616 xs/2^m)++y::xs.drop (m/64+i+1):=fun y=>by
     rw [hdr,aaz _ _ (by rw [aW];omega),aW,Zn,YG]
    have hll:(bX 18446744073709551616 i (aZ 18446744073709551616 xs/2^m)++xs.drop (m/64+i)).length=n-m/64:=by rw [YE,aW,Zz];omega
    have hac:∀y,bX 18446744073709551616 i (aZ 18446744073709551616 xs/2^m)++y::xs.drop (m/64+i+1)=(bX 18446744073709551616 i (aZ 18446744073709551616 xs/2^m)++[y])++xs.drop (m/64+(i+1)):=fun y=>List.append_cons _ _ _;have hnew:bX 18446744073709551616 (i+1) (aZ 18446744073709551616 xs/2^m)=bX 18446744073709551616 i (aZ 18446744073709551616 xs/2^m)++[aZ 18446744073709551616 xs/2^(64*(m/64+i)+m % 64) % 18446744073709551616]:=by
     rw [l8,ZS];congr 4;rw [hW,←Zk,←YW];congr 1;omega
    refine sr ?_;refine a9 (aa (ah (cT (aq (ai (ah (ar (sr (mI (aI (aa (sr (mL (mI ?_))))))))))))));refine il ?_;refine kZ ?_;refine mI ?_;refine q8 ?_;refine wD rfl rfl Yo Yp ?_;refine il ?_;refine ct hh (i:=0) (vs:=[_]) rfl rfl (dt rfl) rfl aJ.out rfl (by rw [a0,hll];omega) rfl ?_;intro ws hh;simp only [YG] at hh;rw [hs1,YV,de (by rw [a0,hll];omega),hQ,hset] at hh;by_cases h0:m % 64=0
    ·have e1:aZ 18446744073709551616 xs/18446744073709551616^(m/64+i) % 18446744073709551616/2^(m % 64)=aZ 18446744073709551616 xs/2^(64*(m/64+i)+m % 64) % 18446744073709551616:=by
      rw [h0,aa4,aaG,ZM,Zk,←hW]
     by_cases hl:i+1<n-m/64
     ·refine aa (sr (mI ?_));refine a8 (mL (aM ?_));refine a9 (mB (gT (mI (gT ?_))));refine q8 ?_;refine gT ?_;refine bT ?_;refine gi ?_;exact SE
     ·exact Rx
    ·by_cases hl:i+1<n-m/64
     ·have hgj:=hget (m/64+i+1) Yo;have hgj2:=eT hgj;obtain ⟨d1,d2⟩:=KP (N:=aZ 18446744073709551616 xs) (j:=m/64+i) (s:=m % 64) (YU _ Yo) Yo;have hcell2:(bX 18446744073709551616 i (aZ 18446744073709551616 xs/2^m)++(aZ 18446744073709551616 xs/18446744073709551616^(m/64+i) % 18446744073709551616/2^(m % 64))::xs.drop (m/64+i+1))[i]?=some (aZ 18446744073709551616 xs/18446744073709551616^(m/64+i) % 18446744073709551616/2^(m % 64)):=by
       rw [ZC (by rw [aW];omega),aW];simp
      have hg2:=eT hcell2;have hset2:∀y z,(bX 18446744073709551616 i (aZ 18446744073709551616 xs/2^m)++y::xs.drop (m/64+i+1)).set i z=bX 18446744073709551616 i (aZ 18446744073709551616 xs/2^m)++z::xs.drop (m/64+i+1):=fun y z=>by
       rw [aaz _ _ (by rw [aW];omega),aW,Zn,YG]
      have hll2:∀y,(bX 18446744073709551616 i (aZ 18446744073709551616 xs/2^m)++y::xs.drop (m/64+i+1)).length=n-m/64:=fun y=>by rw [YE,aW,Y3,Zz];omega
      have hs2:(64-(m:Int) % 64).toNat=64-m % 64:=Yo;have b1:aZ 18446744073709551616 xs/18446744073709551616^(m/64+i) % 18446744073709551616/2^(m % 64)<18446744073709551616:=Zr (aaF _ _) (YU _ Yo);have b2:aZ 18446744073709551616 xs/18446744073709551616^(m/64+i+1) % 18446744073709551616*2^(64-(m:Int) % 64).toNat % 18446744073709551616<18446744073709551616:=YU _ Yo;refine aa (sr (mI ?_));refine a8 (mL (aM ?_));refine a9 (mB (gT (mI (gT ?_))));refine q8 ?_;refine gT ?_;refine bT ?_;refine gi ?_;refine aa (cT ?_);refine aK 16 [[(5,none)],[(6,none)],[(40,some 0),(41,some 1)],[(42,some 2)],[(0,none)],[(1,none)],[(45,some 5)],[(6,none)],[(46,some 6),(47,some 7)],[(48,some 8)],[(44,some 4),(49,some 9)],[(50,some 10)],[(1,none)],[(52,some 12)],[(53,some 13)],[(51,some 11),(54,some 14)]] [(15,55),(14,54),(13,53),(12,52),(11,51),(10,50),(9,49),(8,48),(7,47),(6,46),(5,45),(4,44),(3,43),(2,42),(1,41),(0,40)] hh mixed Yq ?_;refine gI ?_;refine dJ ?_;refine EG (i) ?_
      refine bB (i:=3) (fun ρ1 w1 hj hR=>iL aJ.out (show ρ1 42=Value.pointer _ from hR.1) (hj.hp.iC (i:=0) rfl (by rw [YV];exact hg2))) ?_;refine gI ?_;refine dJ ?_;refine bB (i:=6) (fun ρ1 w1 hj hR=>wu (show ρ1 45=Value.int _ _ from hR.1) rfl Yo Yo Yo) ?_;refine dJ ?_;refine qT ?_;refine qT ?_;refine np (m/64+i+1) ?_;refine x7 (fun _ hj=>(hr.ext hj.hp.below).tN hgj2) ?_;refine dJ ?_;refine bB (i:=13) (fun ρ1 w1 hj hR=>pX (show ρ1 52=Value.int _ _ from hR.1) rfl Yo Yo) ?_;refine tZ ?_;refine bB (i:=15) (fun ρ1 w1 hj hR=>xk (show ρ1 51=Value.int _ _ from hR.1) (show ρ1 54=Value.int _ _ from hR.2.1) Yo) ?_;refine aH ?_;intro f W hJ hV;have hb_9:=hJ.bl;obtain ⟨v55,v54,v53,v52,v51,v50,v49,v48,v47,v46,v45,v44,v43,v42,v41,v40,_⟩:=hV;replace hh:=hJ.hp;refine aN (a6 (ae v55 (ae v54 (ae v53 (ae v52 (ae v51 (ae v50 (ae v49 (ae v48 (ae v47 (ae v46 (ae v45 (ae v44 (ae v43 (ae v42 (ae v41 (ae v40 aO))))))))))))))))) ?_;dsimp only [bP];clear hJ;refine CP ?_;refine il ?_;refine ct hh (i:=0) (vs:=[_]) rfl rfl (dt rfl) rfl aJ.out rfl (by rw [a0,hll2];omega) rfl ?_;intro ws hh;simp only [YG] at hh
      rw [hs2,d2,YV,de (by rw [a0,hll2];omega),hQ,hset2,hac,←hnew] at hh;refine gu ?_;refine a8 (mI (aD (ai ?_)));exact SG
     ·have e1:aZ 18446744073709551616 xs/18446744073709551616^(m/64+i) % 18446744073709551616/2^(m % 64)=aZ 18446744073709551616 xs/2^(64*(m/64+i)+m % 64) % 18446744073709551616:=by
       obtain ⟨h2,h3⟩:=zF (aZ 18446744073709551616 xs) (m/64+i) (m % 64) (YU _ Yo) Yo;have h4:aZ 18446744073709551616 xs/18446744073709551616^(m/64+i+1)=0:=Zt (Zl hlt (Zf Yp Yo));rw [h4] at h3;simpa using h3
      exact Rx
   ·obtain rfl:i=n-m/64:=Yo;rw [abS Yo,Y7] at hh;refine sr ?_;refine oF ?_;refine bj hh (gB _ _ _ (bX 18446744073709551616 (n-m/64) (aZ 18446744073709551616 xs/2^m)) _ (hh.az (i:=0) rfl) (YA _) Yo) rfl ?_;intro w60 hh;refine aL (aa (av ?_));refine dH ?_;have hbd:aZ 18446744073709551616 xs/2^m<18446744073709551616^(n-m/64):=by
     rw [ZH (YY Yo),hmm,←Zw,←YW,show n-m/64+m/64=n by omega];exact Zl hlt (abM _ (YY Yo))
    have hd:eJ (bX 18446744073709551616 (n-m/64) (aZ 18446744073709551616 xs/2^m))=aR 18446744073709551616 (aZ 18446744073709551616 xs/2^m):=by
     exact OJ
    have h1:=(Hp.I4 (xs:=bX 18446744073709551616 (n-m/64) (aZ 18446744073709551616 xs/2^m)) hh (aW _ _)).at_ (i:=0) rfl;exact Iq
def bN (a:ByteArray):Nat:=bn a.data.toList
def sN (n:Nat):ByteArray:=str (sb n)
theorem gg (n:Nat):bN (sN n)=n:=by rw [bN,sN,eL,U5]
theorem kf (n:Nat):(sN n).size=(bE n+7)/8:=by rw [sN,k6,Ka,Gx]
theorem Fm {a:Nat} (h:sN a=sN b):a=b:=by rw [←gg a,h,gg]
theorem kE:sN 0=ByteArray.mk #[]:=by rw [sN,Pv];rfl
theorem yR (a:ByteArray):bN a<256^a.size:=by rw [fJ];exact RT _
theorem ik (a:ByteArray):bE (bN a)≤8*a.size:=by
 apply dy;have:=yR a;rwa [show (256:Nat)=2^8 from rfl,←Zk] at this
theorem Je (h:n<256^k):(aR 18446744073709551616 n).length≤(k+7)/8:=by
 apply gL Yo;refine Zl h ?_;rw [show (256:Nat)=2^8 from rfl,show (18446744073709551616:Nat)=2^64 from rfl,←Zk,←Zk];exact Zf Yo Yo
theorem gp (a:ByteArray):(aR 18446744073709551616 (bN a)).length≤(a.size+7)/8:=Je (yR a)
theorem g6 (n:Nat):Dg 18446744073709551616 (aR 18446744073709551616 n):=(eW Yo n).1
theorem eZ (n:Nat):aZ 18446744073709551616 (aR 18446744073709551616 n)=n:=fk Yo n
theorem jl (a:ByteArray) (w:World) (ha:a.size≤1000000000):
  Calls Tryz.prog 177 #[.string a] w fun e w'=>∃b c,e=.returned (.slice (some ⟨b,0,none⟩) (aR 18446744073709551616 (bN a)).length c)∧w'.ownsRow w.heap.size 160 1 (.slice (some ⟨b,0,none⟩) (aR 18446744073709551616 (bN a)).length c) (aR 18446744073709551616 (bN a)).length (cO (aR 18446744073709551616 (bN a)))∧Below w.heap.size w w':=Kg a w Yo
theorem s7 (n:Nat) (w:World) (hn:n<18446744073709551616):
  Calls Tryz.prog 129 #[.int .u64 (n:Int)] w fun e w'=>e=.returned (.string (sN n))∧Below w.heap.size w w':=by
 have hh:=Hp.start w;refine aj (N:=6) (l:=[.int .u64 (n:Int)]) Tryz.func129 rfl rfl (by simp) ?_;refine sr (aS (aa (sr (mI ?_))));refine vU ?_;intro b4 w4 hh;refine bj hh (fO _ _ _ [n] _ (hh.az (i:=0) rfl) (Dg.cons hn Dg.nil) (YA _) Yo) rfl ?_;intro w5 hh;refine aS (aa (av ?_));refine dH ?_;refine ⟨?_,hh.below⟩;rw [sN];simp [aZ]
theorem Ax (a b:ByteArray) (w:World) (ha:a.size≤1000000000) (hb:b.size≤1000000000):
  Calls Tryz.prog 230 #[.string a,.string b] w fun e w'=>e=.returned (.int .i64 (jH (bN a) (bN b)))∧Below w.heap.size w w':=by
 have hh:=Hp.start w;have h1:=gp a;have h2:=gp b;refine aj (N:=10) (l:=[.string a,.string b]) Tryz.func230 rfl rfl (by simp) ?_;refine sr (aI (aa (sr (mS ?_))));refine tm ?_;rintro e_ w6 ⟨A6,c6,rfl,hown_,hb_⟩;refine ⟨_,rfl, ?_⟩;replace hh:=hh.aP (x:=.row _ _ _ _ _ _) hb_ hown_;refine mS ?_;refine H7 ?_;rintro e_ w8 ⟨A8,c8,rfl,hown_,hb_⟩;refine ⟨_,rfl, ?_⟩;replace hh:=hh.aP (x:=.row _ _ _ _ _ _) hb_ hown_;refine C8 ?_;intro w9 hh;rw [eZ,eZ];exact BF
theorem mu (a:ByteArray) (w:World) (ha:a.size≤1000000000):
  Calls Tryz.prog 172 #[.string a] w fun e w'=>e=.returned (.int .i64 (bE (bN a)))∧Below w.heap.size w w':=by
 have hh:=Hp.start w;have h1:=gp a;refine aj (N:=6) (l:=[.string a]) Tryz.func172 rfl rfl (by simp) ?_;refine sr (aI (aa (sr (mS ?_))));refine tm ?_;rintro e_ w4 ⟨A4,c4,rfl,hown_,hb_⟩;refine ⟨_,rfl, ?_⟩;replace hh:=hh.aP (x:=.row _ _ _ _ _ _) hb_ hown_;refine bj hh (vk _ _ _ (aR 18446744073709551616 (bN a)) _ (hh.az (i:=0) rfl) (g6 _) (hh.fQ (i:=0) rfl) Yo) rfl ?_;intro w5 hh;rw [eZ];exact BF
theorem iQ (n m:Nat):bE (n*2^m)≤bE n+m:=by
 apply dy;rw [YW];exact aaH (cR n) (YY Yo)
theorem wm (n:Nat):(aR 18446744073709551616 n).length≤(bE n+63)/64:=by
 apply gL Yo;refine Zl (cR n) ?_;exact R1
theorem Bv (a:ByteArray) (m:Nat) (w:World) (ha:a.size≤1000000000) (hm:m≤10000000000):
  Calls Tryz.prog 170 #[.string a,.int .i64 (m:Int)] w fun e w'=>e=.returned (.string (sN (bN a*2^m)))∧Below w.heap.size w w':=by
 have hh:=Hp.start w;have h1:=gp a;have h2:=wm (bN a*2^m);have h3:=iQ (bN a) m;have h4:=ik a;have e1:(if (0:Int)>(m:Int) then 0 else (m:Int))=m:=Yu Yo;refine aj (N:=11) (l:=[.string a,.int .i64 (m:Int)]) Tryz.func170 rfl rfl (by simp) ?_;refine sr (aS (aa (sr (mS ?_))));refine tm ?_;rintro e_ w6 ⟨A6,c6,rfl,hown_,hb_⟩;refine ⟨_,rfl, ?_⟩;replace hh:=hh.aP (x:=.row _ _ _ _ _ _) hb_ hown_;refine mI ?_;refine k9 rfl rfl Yp ?_;rw [e1];refine ay (sS _ _ _ m (aR 18446744073709551616 (bN a)) _ (hh.az (i:=0) rfl) (g6 _) Yo hm) au.out rfl Yp ?_;rintro e_ w9 ⟨A9,c9,rfl,hown_,hb_⟩;refine ⟨_,rfl, ?_⟩;replace hh:=hh.aP (x:=.row _ _ _ _ _ _) hb_ hown_;rw [eZ] at*;refine bj hh (fO _ _ _ (aR 18446744073709551616 (bN a*2^m)) _ (hh.az (i:=0) rfl) (g6 _) (hh.fQ (i:=0) rfl) Yo) rfl ?_;intro w10 hh;rw [eZ];exact E0
theorem qG (n m:Nat):bE (n/2^m)≤bE n:=by
 apply dy;exact Zr (aaF _ _) (cR n)
theorem BD (a:ByteArray) (m:Nat) (w:World) (ha:a.size≤1000000000) (hm:m≤1000000000000):
  Calls Tryz.prog 171 #[.string a,.int .i64 (m:Int)] w fun e w'=>e=.returned (.string (sN (bN a/2^m)))∧Below w.heap.size w w':=by
 have hh:=Hp.start w;have h1:=gp a;have h2:=wm (bN a/2^m);have h3:=qG (bN a) m;have h4:=ik a;have e1:(if (0:Int)>(m:Int) then 0 else (m:Int))=m:=Yu Yo;refine aj (N:=11) (l:=[.string a,.int .i64 (m:Int)]) Tryz.func171 rfl rfl (by simp) ?_;refine sr (aS (aa (sr (mS ?_))));refine tm ?_;rintro e_ w6 ⟨A6,c6,rfl,hown_,hb_⟩;refine ⟨_,rfl, ?_⟩;replace hh:=hh.aP (x:=.row _ _ _ _ _ _) hb_ hown_;refine mI ?_;refine k9 rfl rfl Yp ?_;rw [e1];refine ay (tI _ _ _ m (aR 18446744073709551616 (bN a)) _ (hh.az (i:=0) rfl) (g6 _) (hh.fQ (i:=0) rfl) Yo hm) au.out rfl Yp ?_;rintro e_ w9 ⟨A9,c9,rfl,hown_,hb_⟩;refine ⟨_,rfl, ?_⟩;replace hh:=hh.aP (x:=.row _ _ _ _ _ _) hb_ hown_;rw [eZ] at*;refine bj hh (fO _ _ _ (aR 18446744073709551616 (bN a/2^m)) _ (hh.az (i:=0) rfl) (g6 _) (hh.fQ (i:=0) rfl) Yo) rfl ?_;intro w10 hh;rw [eZ];exact E0
theorem Q0 {x y:Nat} (h:y≤x):D9 18446744073709551616 (aR 18446744073709551616 x) (aR 18446744073709551616 y) 0=0∧aZ 18446744073709551616 (qp 18446744073709551616 (aR 18446744073709551616 x) (aR 18446744073709551616 y) 0)=x-y:=by
 have:=Dw (B:=18446744073709551616) Yo (aR 18446744073709551616 x) (aR 18446744073709551616 y) 0 (g6 _) (g6 _) Yo (by rw [eZ,eZ];omega);rw [eZ,eZ] at this;exact ⟨this.2,Yo⟩
theorem qB (a b:ByteArray) (w:World) (ha:a.size≤1000000000) (hb:b.size≤1000000000):
  Calls Tryz.prog 201 #[.string a,.string b] w fun e w'=>e=.returned (.tuple #[.string (sN (bN a-bN b)),.bool (decide (bN b≤bN a))])∧Below w.heap.size w w':=by
 have hh:=Hp.start w;have h1:=gp a;have h2:=gp b;by_cases hlt:bN a<bN b
 ·refine aj (N:=21) (l:=[.string a,.string b]) Tryz.func201 rfl rfl (by simp) ?_;refine sr (aS (aB (aa (sr (mS ?_)))));refine tm ?_;rintro e_ w9 ⟨A9,c9,rfl,hown_,hb_⟩;refine ⟨_,rfl, ?_⟩;replace hh:=hh.aP (x:=.row _ _ _ _ _ _) hb_ hown_;refine mS ?_;refine H7 ?_;rintro e_ w11 ⟨A11,c11,rfl,hown_,hb_⟩;refine ⟨_,rfl, ?_⟩;replace hh:=hh.aP (x:=.row _ _ _ _ _ _) hb_ hown_;refine aL (aL (aa (ah (sr (mL (mL ?_))))));refine C8 ?_;intro w14 hh;rw [eZ,eZ,lF hlt];exact VQ
 ·obtain ⟨s1,s2⟩:=Q0 (abI hlt);have hc:¬jH (bN a) (bN b)<0:=by unfold jH;split<;>(try split)<;>omega
  refine aj (N:=21) (l:=[.string a,.string b]) Tryz.func201 rfl rfl (by simp) ?_;refine sr (aS (aB (aa (sr (mS ?_)))));refine tm ?_;rintro e_ w9 ⟨A9,c9,rfl,hown_,hb_⟩;refine ⟨_,rfl, ?_⟩;replace hh:=hh.aP (x:=.row _ _ _ _ _ _) hb_ hown_;refine mS ?_;refine H7 ?_;rintro e_ w11 ⟨A11,c11,rfl,hown_,hb_⟩;refine ⟨_,rfl, ?_⟩;replace hh:=hh.aP (x:=.row _ _ _ _ _ _) hb_ hown_;refine aL (aL (aa (ah (sr (mL (mL ?_))))));refine C8 ?_;intro w14 hh;rw [eZ,eZ];refine a9 (aa (cF (aq (ai (sr (mL (mL ?_)))))));replace hh:=hh.front 1 rfl;rw [←Y7 (aR 18446744073709551616 (bN a)),←Yz (aR 18446744073709551616 (bN a))] at hh;have hll:=(hh.QF (i:=0) rfl);rw [Yz,Y7] at hll;refine ay (nX [] (aR 18446744073709551616 (bN a)) [] (aR 18446744073709551616 (bN b)) _ hh (fun w1 cs h=>h.az (i:=1) rfl) (g6 _) (g6 _) Yo Yo s1) au.out rfl Yp ?_;rintro e_ w_ ⟨rfl,hh⟩;refine ⟨_,rfl, ?_⟩;simp only [Yz,Y7] at hh;refine aa (sr (mL ?_))
  refine bj hh (fO _ _ _ (qp 18446744073709551616 (aR 18446744073709551616 (bN a)) (aR 18446744073709551616 (bN b)) 0) _ (hh.az (i:=0) rfl) (I1 Yo _ _ _) (hh.fQ (i:=0) rfl) Yo) rfl ?_;intro w20 hh;rw [s2];exact RP
theorem AZ (a b:ByteArray) (w:World) (ha:a.size≤1000000000) (hb:b.size≤1000000000):
  Calls Tryz.prog 181 #[.string a,.string b] w fun e w'=>e=.returned (.string (sN (bN a*bN b)))∧Below w.heap.size w w':=by
 have hh:=Hp.start w;have h1:=gp a;have h2:=gp b;refine aj (N:=37) (l:=[.string a,.string b]) Tryz.func181 rfl rfl (by simp) ?_;refine sr (aS (aa (sr (mS ?_))));refine tm ?_;rintro e_ w11 ⟨A11,c11,rfl,hown_,hb_⟩;refine ⟨_,rfl, ?_⟩;replace hh:=hh.aP (x:=.row _ _ _ _ _ _) hb_ hown_;refine mS ?_;refine H7 ?_;rintro e_ w13 ⟨A13,c13,rfl,hown_,hb_⟩;refine ⟨_,rfl, ?_⟩;replace hh:=hh.aP (x:=.row _ _ _ _ _ _) hb_ hown_;have hxd:=g6 (bN a);have hyd:=g6 (bN b);have hX:=eZ (bN a);have hY:=eZ (bN b);generalize aR 18446744073709551616 (bN a)=xs at*;generalize aR 18446744073709551616 (bN b)=ys at*;refine aL (aL (aa (sr (mL (aM (mL (aM ?_)))))));refine a8 ?_;refine a8 ?_;refine gj (n:=xs.length+ys.length+1) hh rfl rfl Yo Yo bG.out aJ.out rfl Yo Yo Yp ?_;intro UR w20 hh;refine qI ?_;rw [kT] at hh;refine aT [8,9,23,24,25,26,27,28,29,30,31,32,33,34] 23
  (fun v w'=>∃(i:Nat) (L:List Nat),i≤xs.length∧v=.int .i64 i∧Dg 18446744073709551616 L∧L.length=xs.length+ys.length+1∧aZ 18446744073709551616 L=aZ 18446744073709551616 (xs.take i)*aZ 18446744073709551616 ys∧Hp w [.row (some ⟨UR,0,none⟩) (xs.length+ys.length+1) (xs.length+ys.length+1) 160 1 (cO L),.row (some ⟨A13,0,none⟩) ys.length c13 160 1 (cO ys),.row (some ⟨A11,0,none⟩) xs.length c11 160 1 (cO xs)] w')
  (fun v _=>xs.length-(intOf v).toNat) ?_ ?_
 ·exact ⟨0,_,Yx _,rfl,Dg.fi Yo _,by simp,by simp [kb,aZ],hh⟩
 ·clear hh;rintro ρ' v w' ⟨i,L,hi,rfl,hLd,hLl,hLv,hh⟩;by_cases hlt:i<xs.length
  ·obtain ⟨m,hm⟩:=ao (l:=xs) (k:=i) Yo;have hm2:=eT hm;have hmw:=hxd.at_ hm;have hpl:(L.take i).length=i:=by rw [YM];omega
   have hsl:(L.drop i).length=xs.length+ys.length+1-i:=by rw [Zz];omega
   refine sr ?_;refine dY ?_;refine il ?_;refine bY aJ.out rfl (hh.iC (i:=2) rfl (by first|assumption|(simp only [YV];assumption))) Yp ?_;refine aI (aI (aa (ak (mL (mI ?_)))));refine GB (l:=i) bG.out aJ.size rfl rfl Yo Yo Yo Yo Yp ?_;refine mL (mI ?_);have hc:=nY (c':=xs.length+ys.length+1-i) (ny:=ys.length) (cy:=c13) (m:=m) (Y:=some ⟨A13,0,none⟩) (L.take i) (L.drop i) [] ys _ (by rw [Y7,Zy];exact hh) (fun w1 cs h=>h.az (i:=1) rfl) (hLd.drop i) hyd hmw Yo Yo;rw [hpl,hsl,Y7] at hc;rw [YZ,YV];refine ay (hc) au.out rfl Yp ?_;rintro e_ w_ ⟨rfl,hh⟩;refine ⟨_,rfl, ?_⟩;have hlt1:=gQ (hxd.take (i+1));have hlt2:=gQ hyd;rw [YM,ZK Yo] at hlt1;have hsn:=ie (B:=18446744073709551616) hm;have hsplit:=ic (B:=18446744073709551616) L i Yo;have hnew:18446744073709551616^i*(aZ 18446744073709551616 (L.drop i)+aZ 18446744073709551616 ys*m+0)+aZ 18446744073709551616 (L.take i)=aZ 18446744073709551616 (xs.take (i+1))*aZ 18446744073709551616 ys:=by
    rw [hsn,aaJ,←hLv,hsplit,ZM,Zj,Zw,YO m];omega
   have hbd:aZ 18446744073709551616 (L.drop i)+aZ 18446744073709551616 ys*m+0<18446744073709551616^(L.drop i).length:=by
    refine Nat.lt_of_mul_lt_mul_left (a:=18446744073709551616^i) ?_;rw [←YW,hsl];refine Zr (Nat.le_add_right _ (aZ 18446744073709551616 (L.take i))) ?_;rw [hnew];refine Zl (abB hlt1 hlt2) ?_;rw [←YW];exact Zf Yp Yo
   have hdp:=sA (B:=18446744073709551616) Yo _ _ _ _ hbd;refine gu ?_;refine a8 (mI (aD (ai ?_)));refine ⟨⟨i+1,L.take i++iz 18446744073709551616 (L.drop i) ys m 0,Yo,rfl,(hLd.take i).append (wG Yo _ _ _ _),by rw [YE,mH,hpl,hsl];omega, ?_,hh⟩,by show xs.length-(i+1)<xs.length-i;omega, ?_⟩
   ·rw [db,hdp,hpl,aat];exact hnew
   exact Yr
  ·obtain rfl:i=xs.length:=Yo;rw [abD,hX,hY] at hLv;refine sr ?_;refine oF ?_;refine bj hh (fO _ _ _ L _ (hh.az (i:=0) rfl) hLd (YA _) Yo) rfl ?_;intro w36 hh;rw [hLv];exact E0
theorem QX {d r:Nat} (hd:d≠0) (hdw:d<18446744073709551616) (hn:n=18446744073709551616^k*(d+18446744073709551616*r)):tz n=64*k+tz d:=by
 obtain ⟨m,hm⟩:=uK hd;have ht:tz d<64:=zf hd (by simpa using hdw);have hW:(18446744073709551616:Nat)=2^64:=by decide
 generalize tz d=t at*;have e:n=2^(64*k+t)*(2*(m+2^(63-t)*r)+1):=by
  rw [hn,YW,Zk,←hW,Zw];congr 1;have h1:18446744073709551616=2^t*(2*2^(63-t)):=by rw [hW,←Nat.pow_succ',←YW];congr 1;omega
  have h2:18446744073709551616*r=2^t*(2*2^(63-t)*r):=by rw [←Zw,←h1]
  rw [h2]
  conv=>lhs;rw [hm]
  rw [←Zj];congr 1;rw [Zj,Zw];omega
 rw [e,GZ]
theorem kV (a:ByteArray) (w:World) (ha:a.size≤1000000000) (hT:dP w):
  Calls Tryz.prog 128 #[.string a] w fun e w'=>e=.returned (.int .i64 (tz (bN a)))∧Below w.heap.size w w':=by
 have hh:=Hp.start w;have h1:=gp a;refine aj (N:=21) (l:=[.string a]) Tryz.func128 rfl rfl (by simp) ?_;refine sr (aI (aa (ah (sr (mS ?_)))));refine tm ?_;rintro e_ w6 ⟨A6,c6,rfl,hown_,hb_⟩;refine ⟨_,rfl, ?_⟩;replace hh:=hh.aP (x:=.row _ _ _ _ _ _) hb_ hown_;have hxd:=g6 (bN a);have hX:=eZ (bN a);generalize aR 18446744073709551616 (bN a)=xs at*;refine aM (mI (aa (ar ?_)));refine aT [2,3,4,8,9,10,11,12,13,14,15,16,17,18,19,20] 8
  (fun v w'=>∃(i:Nat),i≤xs.length∧v=.int .i64 i∧aZ 18446744073709551616 (xs.take i)=0∧Hp w [.row (some ⟨A6,0,none⟩) xs.length c6 160 1 (cO xs)] w')
  (fun v _=>xs.length-(intOf v).toNat) ?_ ?_
 ·exact ⟨0,Yx _,rfl,rfl,hh⟩
 ·clear hh;rintro ρ' v w' ⟨i,hi,rfl,hz,hh⟩;by_cases hlt:i<xs.length
  ·obtain ⟨d,hm⟩:=ao (l:=xs) (k:=i) Yo;have hm2:=eT hm;have hmw:=hxd.at_ hm;by_cases h0:d=0
   ·subst h0;refine sr ?_;refine dY ?_;refine il ?_;refine kZ ?_;refine aI (aI (aa (sr (mI ?_))));refine dn (aa (cF (aq (bz (ai (ak ?_))))));refine a8 (mI (aD (ai ?_)));refine ⟨⟨i+1,Yo,rfl,by rw [ie hm,hz];simp,hh⟩,by show xs.length-(i+1)<xs.length-i;omega, ?_⟩;exact er
   ·have htz:tz (bN a)=64*i+tz d:=by
     have h3:=ic (B:=18446744073709551616) xs i Yo;have h4:=(YL.1 hm);rw [hz,aal hlt,h4.2,aZ,hX,YZ] at h3;exact QX h0 hmw h3
    have ht:tz d<64:=zf h0 (by simpa using hmw);refine sr ?_;refine dY ?_;refine il ?_;refine kZ ?_;refine aI (aI (aa (sr (mI ?_))));refine dn (aa (cT (sr (mI ?_))));refine mulC (mI ?_);refine bj hh (EV _ _ hmw h0 (hT.hp hh)) rfl ?_;intro w18 hh;refine a8 (aI (aa (av (bU (aF (aF (bU (aF ?_))))))));refine dH ?_;refine ⟨?_,hh.below⟩;congr 2;omega
  ·refine sr ?_;refine Il ?_;refine dH ?_;rw [YC Yo,hX] at hz;rw [hz];exact ⟨rfl,hh.below⟩
theorem Qa {x y:Nat} (hx:x<18446744073709551616^k) (hy:y<18446744073709551616^k):aZ 18446744073709551616 (iz 18446744073709551616 (aR 18446744073709551616 x++List.replicate (k+1-(aR 18446744073709551616 x).length) 0) (aR 18446744073709551616 y) 1 0)=x+y:=by
 have hl:=gL (B:=18446744073709551616) Yo hx;have h1:aZ 18446744073709551616 (aR 18446744073709551616 x++List.replicate (k+1-(aR 18446744073709551616 x).length) 0)=x:=by rw [db,kb,eZ];simp
 have h2:(aR 18446744073709551616 x++List.replicate (k+1-(aR 18446744073709551616 x).length) 0).length=k+1:=by rw [YE,ZG];omega
 rw [sA Yo,h1,eZ]
 ·omega
 ·rw [h1,h2,eZ,Zh];have:0<18446744073709551616^k:=YY Yp;omega
theorem sX (l:List Nat) (x:Nat):(l++[x]).sum=l.sum+x:=by simp
theorem Bp (L:Option Addr) (n c:Nat) (ss:List ByteArray) (w:World) (hS:Sl w L n 1 (Dj ss)) (hn:n≤1000000) (hs:∀s∈ss,s.size≤1000000000):
  Calls Tryz.prog 199 #[.slice L n c] w fun e w'=>e=.returned (.string (sN (ss.map bN).sum))∧Below w.heap.size w w':=by
 have hsl:ss.length=n:=by have:=hS.1;rw [tw] at this;omega
 have hh:=Hp.start w;refine aj (N:=31) (l:=[.slice L n c]) Tryz.func199 rfl rfl (by simp) ?_;refine sr (aS (aa (sr (aL (aa (ah (sr (mL (aM (mI (aa (ar ?_))))))))))));replace hh:=hh.dm 160 1;refine bH [3,5,6,9,10,11,12,13,14,15,16,17,18,19,20,21,22,23,24,25,26,27,28] 3 9
  (fun v j w'=>∃(i:Nat) (A:Option Addr) (c' T:Nat),i≤n∧j=.int .i64 i∧T=((ss.take i).map bN).sum∧v=.slice A (aR 18446744073709551616 T).length c'∧(aR 18446744073709551616 T).length≤125000001+i∧Hp w [.row A (aR 18446744073709551616 T).length c' 160 1 (cO (aR 18446744073709551616 T))] w')
  (fun _ j _=>n-(intOf j).toNat) ?_ ?_
 ·exact ⟨0,none,0,0,Yx _,rfl,rfl,by rw [iT Yo];rfl,by rw [iT Yo];simp,by rw [iT Yo];exact hh⟩
 ·clear hh;rintro ρ' v j w' ⟨i,A,c',T,hi,rfl,hT,rfl,hTl,hh⟩;by_cases hlt:i<n
  ·obtain ⟨s,hsi⟩:=ao (l:=ss) (k:=i) Yo;obtain ⟨ad,rfl,hr⟩:=hS.at_ Yo;have hs2:=G1 hsi;have hsz:=hs s (Yy hsi);have hlx:=gp s;have hT2:((ss.take (i+1)).map bN).sum=T+bN s:=by rw [aw hsi,ZD,aa6,sX,hT]
   have e1:(if ((aR 18446744073709551616 (bN s)).length:Int)>((aR 18446744073709551616 T).length:Int) then ((aR 18446744073709551616 (bN s)).length:Int) else ((aR 18446744073709551616 T).length:Int))+1=((max (aR 18446744073709551616 T).length (aR 18446744073709551616 (bN s)).length+1:Nat):Int):=by split<;>omega
   have hb1:T<18446744073709551616^max (aR 18446744073709551616 T).length (aR 18446744073709551616 (bN s)).length:=Zl (m8 Yo T) (Zf Yp (Nat.le_max_left _ _));have hb2:bN s<18446744073709551616^max (aR 18446744073709551616 T).length (aR 18446744073709551616 (bN s)).length:=Zl (m8 Yo (bN s)) (Zf Yp (Nat.le_max_right _ _));have hadd:=Qa hb1 hb2;refine sr ?_;refine dI ?_;refine cN bG.out aJ.size rfl rfl rfl Yo Yp ?_;refine nJ ?_;refine aS (aa (sr (mS ?_)));refine ay (jl s _ hsz) au.out rfl Yp ?_;rintro e_ w14 ⟨A14,c14,rfl,hown_,hb_⟩;refine ⟨_,rfl, ?_⟩;replace hh:=hh.aP (x:=.row _ _ _ _ _ _) hb_ hown_;refine aL (aa (sr (mL (mL (aM (mL (aM ?_)))))));refine k9 rfl rfl Yp ?_;refine a8 ?_;rw [e1];generalize hM:max (aR 18446744073709551616 T).length (aR 18446744073709551616 (bN s)).length=M at*;refine ay (lU _ _ _ (M+1) _ _ (hh.az (i:=1) rfl) Yo Yo) au.out rfl Yp ?_;rintro e_ w_ ⟨b22,rfl,hown_,hb_⟩;refine ⟨_,rfl, ?_⟩;replace hh:=hh.aP (x:=.row _ _ _ _ _ _) hb_ hown_;have e2:max (M+1) (aR 18446744073709551616 T).length=M+1:=Yo;rw [e2] at hh;rw [e2]
   refine aL (aa (sr (mL (mL ?_))));have hc:=FP (c':=M+1) (ny:=(aR 18446744073709551616 (bN s)).length) (cy:=c14) (Y:=some ⟨A14,0,none⟩) [] (aR 18446744073709551616 T++List.replicate (M+1-(aR 18446744073709551616 T).length) 0) [] (aR 18446744073709551616 (bN s)) _ (by rw [Y7,Yz];exact hh) (fun w1 cs h=>h.az (i:=1) rfl) ((g6 _).append (Dg.fi Yo _)) (g6 _) (by rw [YE,ZG];omega) Yo;have e3:(aR 18446744073709551616 T++List.replicate (M+1-(aR 18446744073709551616 T).length) 0).length=M+1:=by rw [YE,ZG];omega
   rw [e3,Y7,Yz] at hc;refine ay (hc) au.out rfl Yp ?_;rintro e_ w_ ⟨rfl,hh⟩;refine ⟨_,rfl, ?_⟩;have hpl:(iz 18446744073709551616 (aR 18446744073709551616 T++List.replicate (M+1-(aR 18446744073709551616 T).length) 0) (aR 18446744073709551616 (bN s)) 1 0).length=M+1:=by rw [mH,e3]
   have hpd:=wG (B:=18446744073709551616) Yo (aR 18446744073709551616 T++List.replicate (M+1-(aR 18446744073709551616 T).length) 0) (aR 18446744073709551616 (bN s)) 1 0;generalize iz 18446744073709551616 (aR 18446744073709551616 T++List.replicate (M+1-(aR 18446744073709551616 T).length) 0) (aR 18446744073709551616 (bN s)) 1 0=Z at*;have hcz:eJ Z=aR 18446744073709551616 (T+bN s):=by rw [jB Yo hpd,hadd]
   have hcl:=fh Z;refine aa (ak (mL ?_));refine bj hh (gB _ _ _ Z _ (hh.az (i:=0) rfl) (YA _) Yo) rfl ?_;intro w27 hh;replace hh:=(hh.I4 hpl).sub (aaW [_] _);rw [hcz] at*;refine lE ?_;refine a8 (mI (aD (ai ?_)));refine ⟨⟨i+1,_,_,T+bN s,Yo,rfl,hT2.symm,rfl,Yo,hh⟩,by show n-(i+1)<n-i;omega, ?_⟩;exact er
  ·refine sr ?_;refine oF ?_;refine bj hh (fO _ _ _ (aR 18446744073709551616 T) _ (hh.az (i:=0) rfl) (g6 _) (hh.fQ (i:=0) rfl) Yo) rfl ?_;intro w30 hh;rw [eZ];exact SF
theorem Fh (s:ByteArray) (l h:Nat):s.extract l h=str ((s.data.toList.take h).drop l):=by
 apply Bj;rw [eL];simp [ByteArray.extract,ByteArray.copySlice,List.drop_take]
def Ue:Value→Nat
 |.string t=>t.size
 |_=>0
theorem wM (s:ByteArray) (w:World):
  Calls Tryz.prog 235 #[.string s,.int .u8 ((0:UInt8).toNat:Int)] w fun e w'=>e=.returned (.string (sN (bN s)))∧Below w.heap.size w w':=by
 have hh:=Hp.start w;refine aj (N:=17) (l:=[.string s,.int .u8 ((0:UInt8).toNat:Int)]) Tryz.func235 rfl rfl (by simp) ?_;refine sr (aS (aa (ah (ar ?_))));refine aT [0,5,6,7,8,9,10,11,12,13,14,15] 0
  (fun v w'=>∃l:List UInt8,v=.string (str l)∧l.length≤s.size∧bn l=bN s∧w'=w)
  (fun v _=>Ue v) ?_ ?_
 ·exact ⟨s.data.toList,by rw [NB];rfl,by rw [fJ];exact YA _,rfl,rfl⟩
 ·rintro ρ' v w' ⟨l,rfl,hl,hb,rfl⟩;have hsz:=k6 l
  cases l with
  |nil=>
   refine ah (sr (mS ?_));refine ck bG.out rfl Yp ?_;refine bT (mB ?_);refine gS (gS (gS (gS ?_)));refine fK ?_;refine aa (cF (aX (aE (aE (bA (ai (sr (mS (aS (aa (av ?_)))))))))));refine dH ?_;rw [sN,←hb];exact ⟨rfl,hh.below⟩
  |cons c l=>
   have hc0:(str (c::l)).data.toList[(0:Int).toNat]?=some c:=by rw [eL];rfl
   have hc8:=c.toNat_lt;have hlen:(str (c::l)).size=l.length+1:=by rw [hsz];rfl
   have hz:(0:UInt8).toNat=0:=rfl;by_cases h0:c=0
   ·subst h0;refine ah (sr (mS ?_));refine ck bG.out rfl Yp ?_;refine bT (mB (gT (mS (gT ?_))));refine k4 ?_;refine gT (mI (gT ?_));refine cH ?_;refine gi ?_;refine aa (cT (aq (ai (ar (ak (mS ?_))))));refine tT (l:=1) (h:=(str ((0:UInt8)::l)).size) bG.out rfl ⟨_,_,rfl,Yo⟩ rfl Yo Yo Yp ?_;refine aS (aD (bz (ai ?_)));rw [Fh,eL,YC (by rw [hlen];simp),List.drop_succ_cons,abm];refine ⟨⟨l,rfl,by simp at hl;omega,by rw [←hb,Lj],rfl⟩, ?_, ?_⟩
    ·show (str l).size<(str (0::l)).size;rw [hlen,k6];omega
    exact Yr
   ·have hcn:c.toNat≠0:=fun h=>h0 (abj.1 h);refine ah (sr (mS ?_));refine ck bG.out rfl Yp ?_;refine bT (mB (gT (mS (gT ?_))));refine k4 ?_;refine gT (mI (gT ?_));refine cH ?_;refine gi ?_;refine aa (cF (aX (aE (aE (bA (ai (sr (mS (aS (aa (av ?_)))))))))));refine dH ?_;rw [sN,←hb,VB (by simpa using h0)];exact ⟨rfl,hh.below⟩
theorem vf (s:ByteArray) (w:World):
  Calls Tryz.prog 214 #[.string s,.string (ByteArray.mk #[0])] w fun e w'=>e=.returned (.string (sN (bN s)))∧Below w.heap.size w w':=by
 have hh:=Hp.start w;have hne:¬ByteArray.mk #[(0:UInt8)]=ByteArray.mk #[]:=by intro h;injection h with h;simp at h
 have hsz1:(ByteArray.mk #[(0:UInt8)]).size=1:=rfl;have hc0:(ByteArray.mk #[(0:UInt8)]).data.toList[(0:Int).toNat]?=some 0:=rfl;have hz:(0:UInt8).toNat=0:=rfl;by_cases h0:s=ByteArray.mk #[]
 ·subst h0;refine aj (N:=37) (l:=[.string (ByteArray.mk #[]),.string (ByteArray.mk #[0])]) Tryz.func214 rfl rfl (by simp) ?_;refine sr (aS (aa (ah (sr (mS ?_)))));refine jE rfl rfl (by first|rfl|assumption|decide) Yp ?_;refine mB ?_;refine gS (gS ?_);refine gi ?_;refine aa (cT (sr (mS (aS (aa (av (aF ?_)))))));refine dH ?_;rw [show bN (ByteArray.mk #[])=0 from rfl,kE];exact ⟨rfl,hh.below⟩
 ·refine aj (N:=37) (l:=[.string s,.string (ByteArray.mk #[0])]) Tryz.func214 rfl rfl (by simp) ?_;refine sr (aS (aa (ah (sr (mS ?_)))));refine jG rfl rfl (by first|assumption|decide) Yp ?_;refine mB (gT (mS (gT ?_)))
  (first|refine jE rfl rfl (by first|rfl|assumption|decide) Yp ?_|refine jG rfl rfl (by first|assumption|decide) Yp ?_)
  refine fK ?_;refine aa (cF (aq (ai (ah (sr (mS ?_))))));refine ck bG.out rfl Yp ?_;refine cH (mB (gT (mS (gT ?_))));refine k4 ?_;refine gT ?_;refine a9 ?_;refine gi ?_;refine aa (cT (sr (mS (mS ?_))));refine k4 ?_;refine bj hh (wM s _) rfl ?_;intro w25 hh;refine aS (aa (av (aF ?_)));refine dH ?_;exact ⟨rfl,hh.below⟩
theorem lT (s:ByteArray) (w:World):
  Calls Tryz.prog 180 #[.string s] w fun e w'=>e=.returned (.string (sN (bN s)))∧Below w.heap.size w w':=by
 have hh:=Hp.start w;refine aj (N:=5) (l:=[.string s]) Tryz.func180 rfl rfl (by simp) ?_;refine sr (aS (aa (sr (mS ?_))));refine bj hh (vf s _) rfl ?_;intro w4 hh;exact E0
variable {z:Int}
def iv (s:Bool) (m:ByteArray):Int:=if s then -(bN m:Int) else bN m
def iN (z:Int):Bool:=decide (z<0)
def iM (z:Int):ByteArray:=sN z.natAbs
theorem eY (z:Int):iv (iN z) (iM z)=z:=by
 unfold iv iN iM;rw [gg];by_cases h:z<0
 ·rw [YN h,Yt rfl];omega
 ·rw [YS h,Yu (by simp)];omega
theorem uR:iM z=ByteArray.mk #[]↔z=0:=by
 rw [iM,←kE];constructor
 ·intro h;have:=Fm h;omega
 ·intro h;rw [h];rfl
theorem k5 (s:Bool) (m:ByteArray):(iv s m).natAbs=bN m:=by
 unfold iv;split<;>omega
theorem Hv (s:Bool) (m:ByteArray):iM (iv s m)=sN (bN m):=by rw [iM,k5]
theorem SV (s:Bool) (m:ByteArray):iN (iv s m)=(s && decide (bN m≠0)):=by
 unfold iN iv;rw [Bool.eq_iff_iff,YP,YX,YX]
 cases s
 ·simp only [abt,if_false,false_and,iff_false];omega
 ·simp only [if_true,true_and];omega
theorem kJ (s:Bool) (m:ByteArray) (w:World):
  Calls Tryz.prog 135 #[.agg #[.bool s,.string m]] w fun e w'=>e=.returned (.agg #[.string m,.bool s])∧Below w.heap.size w w':=by
 have hh:=Hp.start w;refine aj (N:=8) (l:=[.agg #[.bool s,.string m]]) Tryz.func135 rfl rfl (by simp) ?_;refine sr ?_;refine bO hh [_,_] ?_;intro b1 w1 hh;refine bC hh ?_;intro b2 w2 hh;refine aa (sr (bo ?_));refine bp hh 1 ?_;refine bo ?_;refine bp hh 1 ?_;refine fe [_,_] ?_;exact Ej
theorem ep (s:Bool) (m:ByteArray) (w:World):
  Calls Tryz.prog 130 #[.agg #[.string m,.bool s]] w fun e w'=>e=.returned (.agg #[.bool (iN (iv s m)),.string (iM (iv s m))])∧Below w.heap.size w w':=by
 have hh:=Hp.start w;rw [SV,Hv]
 cases s with
 |false=>
  refine aj (N:=15) (l:=[.agg #[.string m,.bool false]]) Tryz.func130 rfl rfl (by simp) ?_;refine sr ?_;refine bO hh [_,_] ?_;intro b1 w1 hh;refine bC hh ?_;intro b2 w2 hh;refine aa (sr (bo ?_));refine bp hh 1 ?_;refine bj hh (lT m _) rfl ?_;intro w6 hh;refine aS (aa (sr (bo ?_)));refine bp hh 1 ?_;refine mB ?_;refine gS (gS ?_);refine fK ?_;refine mS ?_;refine fe [_,_] ?_;exact Ej
 |true=>
  by_cases h0:sN (bN m)=ByteArray.mk #[]
  ·refine aj (N:=15) (l:=[.agg #[.string m,.bool true]]) Tryz.func130 rfl rfl (by simp) ?_;refine sr ?_;refine bO hh [_,_] ?_;intro b1 w1 hh;refine bC hh ?_;intro b2 w2 hh;refine aa (sr (bo ?_));refine bp hh 1 ?_;refine bj hh (lT m _) rfl ?_;intro w6 hh;refine aS (aa (sr (bo ?_)));refine bp hh 1 ?_;refine mB (gT (mS (gT ?_)))
   (first|refine jD rfl rfl (by first|rfl|assumption|decide) Yp ?_|refine jz rfl rfl (by first|assumption|decide) Yp ?_)
   refine gi ?_;refine mS ?_;refine fe [_,_] ?_;refine bg hh 0 [_,_] ?_;intro ws hh;replace hh:Hp _ (.blk _ _ [_,_] _::_) _:=hh;refine aa (av ?_);refine qz ?_;exact RW
  ·refine aj (N:=15) (l:=[.agg #[.string m,.bool true]]) Tryz.func130 rfl rfl (by simp) ?_;refine sr ?_;refine bO hh [_,_] ?_;intro b1 w1 hh;refine bC hh ?_;intro b2 w2 hh;refine aa (sr (bo ?_));refine bp hh 1 ?_;refine bj hh (lT m _) rfl ?_;intro w6 hh;refine aS (aa (sr (bo ?_)));refine bp hh 1 ?_;refine mB (gT (mS (gT ?_)))
   (first|refine jD rfl rfl (by first|rfl|assumption|decide) Yp ?_|refine jz rfl rfl (by first|assumption|decide) Yp ?_)
   refine gi ?_;refine mS ?_;refine fe [_,_] ?_;refine bg hh 0 [_,_] ?_;intro ws hh;replace hh:Hp _ (.blk _ _ [_,_] _::_) _:=hh;refine aa (av ?_);refine qz ?_;exact SW
def X8 (s:Bool) (m:ByteArray):Value:=.agg #[.string m,.bool s]
theorem vp (a b:ByteArray) (w:World) (ha:a.size≤1000000000) (hb:b.size≤1000000000):
  Calls Tryz.prog 200 #[.string a,.string b] w fun e w'=>e=.returned (.int .i64 (jH (bN a) (bN b)))∧Below w.heap.size w w':=by
 have hh:=Hp.start w;refine aj (N:=8) (l:=[.string a,.string b]) Tryz.func200 rfl rfl (by simp) ?_;refine sr (aI (aa (sr (mS (mS ?_)))));refine bj hh (Ax a b _ ha hb) rfl ?_;intro w7 hh;exact BF
theorem jC (s:Bool) (m:ByteArray) (w:World):
  Calls Tryz.prog 134 #[.agg #[.bool s,.string m]] w fun e w'=>e=.returned (.agg #[.bool (iN (iv s m)),.string (iM (iv s m))])∧Below w.heap.size w w':=by
 have hh:=Hp.start w;refine aj (N:=6) (l:=[.agg #[.bool s,.string m]]) Tryz.func134 rfl rfl (by simp) ?_;refine sr ?_;refine bO hh [_,_] ?_;intro b1 w1 hh;refine bC hh ?_;intro b2 w2 hh;refine aa (sr ?_);refine bJ hh 1 [_,_] ?_;refine bj hh (kJ s m _) rfl ?_;intro w4 hh;refine bj hh (ep s m _) rfl ?_;intro w5 hh;exact Ej
theorem j9 (s:Bool) (m:ByteArray) (w:World):
  Calls Tryz.prog 90 #[.agg #[.bool s,.string m]] w fun e w'=>e=.returned (.agg #[.bool (iN (-(iv s m))),.string (iM (-(iv s m)))])∧Below w.heap.size w w':=by
 have hh:=Hp.start w;have e1:iv (!s) m= -(iv s m):=by unfold iv;cases s<;>simp
 refine aj (N:=10) (l:=[.agg #[.bool s,.string m]]) Tryz.func90 rfl rfl (by simp) ?_;refine sr ?_;refine bO hh [_,_] ?_;intro b1 w1 hh;refine bC hh ?_;intro b2 w2 hh;refine aa (sr (bo ?_));refine bp hh 1 ?_;refine bo ?_;refine bp hh 1 ?_;refine ig ?_;refine fe [_,_] ?_;refine bj hh (ep (!s) m _) rfl ?_;intro w9 hh;rw [e1];exact Ej
theorem jF (s:Bool) (m:ByteArray) (w:World):
  Calls Tryz.prog 89 #[.agg #[.bool s,.string m]] w fun e w'=>e=.returned (.int .i64 (iv s m).sign)∧Below w.heap.size w w':=by
 have hh:=Hp.start w;by_cases h1:iv s m<0
 ·have hn:iN (iv s m)=true:=YN h1;refine N3 ?_;refine sr ?_;refine bO hh [_,_] ?_;intro b1 w1 hh;refine aI (aa (sr ?_));refine bJ hh 0 [_,_] ?_;refine bj hh (jC s m _) rfl ?_;intro w5 hh;rw [hn];refine bC hh ?_;intro b3 w3 hh;refine bg hh 0 [_,_] ?_;intro ws hh;replace hh:Hp _ (.blk _ _ [_,_] _::_) _:=hh;refine aa (ah (ar (sr (bo ?_))));refine bp hh 0 ?_;refine GR ?_;refine dH ?_;exact ⟨by rw [Z1 h1],hh.below⟩
 ·have hn:iN (iv s m)=false:=YS h1;by_cases h0:iM (iv s m)=ByteArray.mk #[]
  ·refine N3 ?_;refine sr ?_;refine bO hh [_,_] ?_;intro b1 w1 hh;refine aI (aa (sr ?_));refine bJ hh 0 [_,_] ?_;refine bj hh (jC s m _) rfl ?_;intro w5 hh;rw [hn];refine bC hh ?_;intro b3 w3 hh;refine bg hh 0 [_,_] ?_;intro ws hh;replace hh:Hp _ (.blk _ _ [_,_] _::_) _:=hh;refine aa (ah (ar (sr (bo ?_))));refine bp hh 0 ?_;refine aB (aa (cF (sr (bo ?_))));refine bp hh 0 ?_;refine jE rfl rfl (by first|rfl|assumption|decide) Yp ?_;refine GR ?_;refine dH ?_;exact ⟨by rw [uR.1 h0];rfl,hh.below⟩
  ·have h2:0<iv s m:=by
    have:iv s m≠0:=fun h=>h0 (uR.2 h);omega
   refine N3 ?_;refine sr ?_;refine bO hh [_,_] ?_;intro b1 w1 hh;refine aI (aa (sr ?_));refine bJ hh 0 [_,_] ?_;refine bj hh (jC s m _) rfl ?_;intro w5 hh;rw [hn];refine bC hh ?_;intro b3 w3 hh;refine bg hh 0 [_,_] ?_;intro ws hh;replace hh:Hp _ (.blk _ _ [_,_] _::_) _:=hh;refine aa (ah (ar (sr (bo ?_))));refine bp hh 0 ?_;refine aB (aa (cF (sr (bo ?_))));refine bp hh 0 ?_;refine jG rfl rfl (by first|assumption|decide) Yp ?_;refine aB (aa (cF (aq (bz (ai (sr (aI (aa (av ?_)))))))));refine dH ?_;exact ⟨by rw [Z8 h2],hh.below⟩
theorem dL (z:Int):(iM z).size=(bE z.natAbs+7)/8:=kf _
def yK (s t:Bool) (a b:ByteArray):Bool:=if s=t then s else if bN a<bN b then t else s
theorem Py (s t:Bool) (a b:ByteArray):iv (yK s t a b) (iM (iv s a+iv t b))=iv s a+iv t b:=by
 unfold iM iv;rw [gg];unfold yK
 cases s<;>cases t<;>simp<;>(try split)<;>(try simp)<;>omega
theorem B8 (s t:Bool) (a b:ByteArray):iv (s !=t) (iM (iv s a*iv t b))=iv s a*iv t b:=by
 rw [iM,aan,k5,k5];unfold iv;rw [gg]
 cases s<;>cases t<;>simp [abi,Int.neg_mul]
theorem BW (s t:Bool) (a b:ByteArray) (w:World) (ha:a.size≤1000000000) (hb:b.size≤1000000000):
  Calls Tryz.prog 162 #[.agg #[.string a,.bool s],.agg #[.string b,.bool t]] w fun e w'=>e=.returned (.agg #[.string (iM (iv s a+iv t b)),.bool (yK s t a b)])∧Below w.heap.size w w':=by
 have hh:=Hp.start w;have hiv:∀(u:Bool) (n:Nat) (z:Int),(z=if u then -(n:Int) else n)→sN n=iM z:=by
  intro u n z hz;have h1:z.natAbs=n:=by rw [hz];split<;>omega
  rw [iM,h1]
 by_cases hst:s=t
 ·subst hst;have e1:=hiv s (bN a+bN b) (iv s a+iv s b) (by unfold iv;split<;>omega);refine aj (N:=41) (l:=[.agg #[.string a,.bool s],.agg #[.string b,.bool s]]) Tryz.func162 rfl rfl (by simp) ?_;refine sr ?_;refine bO hh [_,_] ?_;intro b2 w2 hh;refine bO hh [_,_] ?_;intro b3 w3 hh;refine bC hh ?_;intro b4 w4 hh;refine aa (ah (sr (bo ?_)));refine bp hh 2 ?_;refine bo ?_;refine bp hh 1 ?_;refine Jb bG.out rfl rfl (by first|rfl|assumption) Yp ?_;refine aa (cT (ah ?_));refine aK 8 [[(2,none)],[(12,some 0)],[(3,none)],[(14,some 2)],[(13,some 1),(15,some 3)],[(16,some 4)],[(2,none)],[(18,some 6)]] [(7,19),(6,18),(5,17),(4,16),(3,15),(2,14),(1,13),(0,12)] hh mixed Yq ?_;refine dR ?_;refine fW 2 ?_;refine dR ?_;refine fW 1 ?_;refine x3 [_,_] ?_;refine a7 (i:=5) (Is (.string (sN (bN a+bN b)))) Is.ext ?_ ?_
  ·intro ρ1 w1 hj hR;obtain ⟨A16,c16,h16,s16⟩:=hR.1;exact bV rfl (bf au.out (aC h16 bh)) (Bp A16 2 c16 [a,b] _ s16 Yo (by simp;omega)) (fun _ _ hq=>⟨_,hq.1,hq.2,rfl⟩)
  refine dR ?_;refine fW 2 ?_;refine aH ?_;intro f W hJ hV;have hb_2:=hJ.bl;obtain ⟨v19,v18,v17,v16,v15,v14,v13,v12,_⟩:=hV;obtain ⟨A16,c16,e16,f16⟩:Rows _ _ _ (f 4) W:=v16;replace hh:=hJ.hp;refine aN (a6 (ae v19 (ae v18 (ae v17 (ae e16 (ae v15 (ae v14 (ae v13 (ae v12 aO))))))))) ?_;dsimp only [bP];clear e16 hJ;refine fe [_,_] ?_;refine bg hh 0 [_,_] ?_;intro ws hh;replace hh:Hp _ (.blk _ _ [_,_] _::_) _:=hh;refine aa (av (aF ?_));refine qz ?_;rw [e1,yK,Yt rfl];exact ⟨rfl,hh.below⟩
 ·by_cases hlt:bN a<bN b
  ·have e1:=hiv t (bN b-bN a) (iv s a+iv t b) (by unfold iv;cases s<;>cases t<;>simp at hst ⊢ <;>omega);refine aj (N:=41) (l:=[.agg #[.string a,.bool s],.agg #[.string b,.bool t]]) Tryz.func162 rfl rfl (by simp) ?_;refine sr ?_;refine bO hh [_,_] ?_;intro b2 w2 hh;refine bO hh [_,_] ?_;intro b3 w3 hh;refine bC hh ?_;intro b4 w4 hh;refine aa (ah (sr (bo ?_)));refine bp hh 2 ?_;refine bo ?_;refine bp hh 1 ?_;refine I9 ?_;refine yC ?_;refine bp hh 2 ?_;refine bo ?_;refine bp hh 1 ?_;refine bj hh (vp a b _ ha hb) rfl ?_;intro w25 hh;rw [lF hlt];refine a9 (aa (cT (ak ?_)));refine bJ hh 1 [_,_] ?_;refine bJ hh 2 [_,_] ?_;refine bg hh 2 [_,_] ?_;intro ws hh;replace hh:Hp _ (_::_::.blk _ _ [_,_] _::_) _:=hh;refine bg hh 1 [_,_] ?_;intro ws hh;replace hh:Hp _ (_::.blk _ _ [_,_] _::_) _:=hh;refine aa (sr (bo ?_));refine bp hh 2 ?_;refine bo ?_;refine bp hh 1 ?_;refine bj hh (qB b a _ hb ha) rfl ?_;intro w34 hh;refine mT ?_;refine cx ?_;refine cx ?_;refine aS (aB (aa (sr (mS (bo ?_)))));refine bp hh 2 ?_;refine fe [_,_] ?_;refine bg hh 0 [_,_] ?_;intro ws hh;replace hh:Hp _ (.blk _ _ [_,_] _::_) _:=hh;refine aa (av ?_);refine qz ?_
   rw [e1,yK,Yu hst,Yt hlt];exact ⟨rfl,hh.below⟩
  ·have e1:=hiv s (bN a-bN b) (iv s a+iv t b) (by unfold iv;cases s<;>cases t<;>simp at hst ⊢ <;>omega);have hc:¬jH (bN a) (bN b)<0:=by unfold jH;split<;>(try split)<;>omega
   refine aj (N:=41) (l:=[.agg #[.string a,.bool s],.agg #[.string b,.bool t]]) Tryz.func162 rfl rfl (by simp) ?_;refine sr ?_;refine bO hh [_,_] ?_;intro b2 w2 hh;refine bO hh [_,_] ?_;intro b3 w3 hh;refine bC hh ?_;intro b4 w4 hh;refine aa (ah (sr (bo ?_)));refine bp hh 2 ?_;refine bo ?_;refine bp hh 1 ?_;refine I9 ?_;refine yC ?_;refine bp hh 2 ?_;refine bo ?_;refine bp hh 1 ?_;refine bj hh (vp a b _ ha hb) rfl ?_;intro w25 hh;refine a9 (aa (cF (aq (ai (sr (bo ?_))))));refine bp hh 2 ?_;refine bo ?_;refine bp hh 1 ?_;refine bj hh (qB a b _ ha hb) rfl ?_;intro w34 hh;refine mT ?_;refine cx ?_;refine cx ?_;refine aS (aB (aa (sr (mS (bo ?_)))));refine bp hh 2 ?_;refine fe [_,_] ?_;refine bg hh 0 [_,_] ?_;intro ws hh;replace hh:Hp _ (.blk _ _ [_,_] _::_) _:=hh;refine aa (av ?_);refine qz ?_;rw [e1,yK,Yu hst,Yu hlt];exact ⟨rfl,hh.below⟩
theorem qQ (s t:Bool) (a b:ByteArray) (w:World) (ha:a.size≤1000000000) (hb:b.size≤1000000000):
  Calls Tryz.prog 136 #[.agg #[.string a,.bool s],.agg #[.string b,.bool t]] w fun e w'=>e=.returned (.agg #[.string (iM (iv s a*iv t b)),.bool (s !=t)])∧Below w.heap.size w w':=by
 have hh:=Hp.start w;have e0:(iv s a*iv t b).natAbs=bN a*bN b:=by rw [aan,k5,k5]
 have e1:iM (iv s a*iv t b)=sN (bN a*bN b):=by rw [iM,e0]
 refine aj (N:=16) (l:=[.agg #[.string a,.bool s],.agg #[.string b,.bool t]]) Tryz.func136 rfl rfl (by simp) ?_;refine sr ?_;refine bO hh [_,_] ?_;intro b2 w2 hh;refine bO hh [_,_] ?_;intro b3 w3 hh;refine bC hh ?_;intro b4 w4 hh;refine aa (ah ?_);refine aK 10 [[(2,none)],[(5,some 0)],[(3,none)],[(7,some 2)],[(6,some 1),(8,some 3)],[(2,none)],[(10,some 5)],[(3,none)],[(12,some 7)],[(11,some 6),(13,some 8)]] [(9,14),(8,13),(7,12),(6,11),(5,10),(4,9),(3,8),(2,7),(1,6),(0,5)] hh mixed Yq ?_;refine dR ?_;refine fW 2 ?_;refine dR ?_;refine fW 1 ?_;refine dC (fun _ hj=>AZ a b _ ha hb) ?_;refine dR ?_;refine fW 2 ?_;refine dR ?_;refine fW 1 ?_;refine bB (i:=9) (fun ρ1 w1 hj hR=>mw bG.out (show ρ1 11=Value.bool _ from hR.1) (show ρ1 13=Value.bool _ from hR.2.1)) ?_;refine aH ?_;intro f W hJ hV;have hb_1:=hJ.bl;obtain ⟨v14,v13,v12,v11,v10,v9,v8,v7,v6,v5,_⟩:=hV;replace hh:=hJ.hp;refine R8 ?_;dsimp only [bP];clear hJ;refine fe [_,_] ?_;refine bg hh 0 [_,_] ?_;intro ws hh;replace hh:Hp _ (.blk _ _ [_,_] _::_) _:=hh;refine aa (av ?_);refine qz ?_;rw [e1];exact ⟨rfl,hh.below⟩
theorem l9 (n:Int) (w:World) (h1: -9223372036854775808≤n) (h2:n≤9223372036854775807):
  Calls Tryz.prog 79 #[.int .i64 n] w fun e w'=>e=.returned (.agg #[.bool (iN n),.string (iM n)])∧Below w.heap.size w w':=by
 have hh:=Hp.start w;by_cases h0:n<0
 ·have e1:iv true (sN n.natAbs)=n:=by unfold iv;rw [gg,Yt rfl];omega
  have hw:IntKind.u64.wrap n=((18446744073709551616-n.natAbs:Nat):Int):=by
   rw [show n=((18446744073709551616-n.natAbs:Nat):Int)+ -((18446744073709551616:Nat):Int) by omega];have:=UK.wrap_add (k:=.u64) (((18446744073709551616-n.natAbs:Nat):Int)+ -((18446744073709551616:Nat):Int));rw [←this,Int.neg_add_cancel_right,UK.rf Yo];omega
  have hn:(18446744073709551616-(18446744073709551616-n.natAbs)) % 18446744073709551616=n.natAbs:=Yo;refine aj (N:=16) (l:=[.int .i64 n]) Tryz.func79 rfl rfl (by simp) ?_;refine sr ?_;refine bC hh ?_;intro b2 w2 hh;refine aa (ah (sr (mI ?_)));refine a9 (aa (cT (sr (mI ?_))));refine wB bG.out bG.out rfl Yp ?_;rw [hw];refine Ml rfl Yo Yp ?_;rw [hn];skip;refine bj hh (s7 n.natAbs _ Yo) rfl ?_;intro w8 hh;refine fe [_,_] ?_;refine bj hh (ep true (sN n.natAbs) _) rfl ?_;intro w10 hh;rw [e1];exact DG
 ·obtain ⟨m,rfl⟩:=abK (by omega:0≤n);have e1:iv false (sN m)=m:=by unfold iv;rw [gg];simp
  have hm:m<18446744073709551616:=Yo;refine aj (N:=16) (l:=[.int .i64 (m:Int)]) Tryz.func79 rfl rfl (by simp) ?_;refine sr ?_;refine bC hh ?_;intro b2 w2 hh;refine aa (ah (sr (mI ?_)));refine a9 (aa (cF (aq (ai (sr (mI ?_))))));refine md ?_;refine bj hh (s7 m _ hm) rfl ?_;intro w13 hh;refine fe [_,_] ?_;refine bj hh (ep false (sN m) _) rfl ?_;intro w15 hh;rw [e1];exact Ej
structure IR where
 neg:Bool
 aY:ByteArray
def IR.cells (a:IR):List Value:=[.bool a.neg,.string a.aY]
def IR.v (a:IR):Int:=iv a.neg a.aY
def iR (z:Int):IR:=⟨iN z,iM z⟩
theorem Ul (z:Int):(iR z).v=z:=eY z
theorem IR.len (a:IR):a.cells.length=2:=rfl
theorem mZ (x y:Int):bE (x+y).natAbs≤max (bE x.natAbs) (bE y.natAbs)+1:=by
 apply dy;have h1:=cR x.natAbs;have h2:=cR y.natAbs;have h3:2^bE x.natAbs≤2^max (bE x.natAbs) (bE y.natAbs):=Zf Yo (Nat.le_max_left _ _);have h4:2^bE y.natAbs≤2^max (bE x.natAbs) (bE y.natAbs):=Zf Yo (Nat.le_max_right _ _);rw [Zh];omega
theorem ij (s:Bool) (m:ByteArray):bE (iv s m).natAbs≤8*m.size:=by rw [k5];exact ik m
theorem Ji (l:List Int) (x:Int):(l++[x]).sum=l.sum+x:=by simp
theorem pT (L:Option Addr) (n c:Nat) (l:List IR) (w:World) (hS:Sl w L n 2 (aA IR.cells l)) (hn:n≤1000000) (hs:∀s∈l,s.aY.size≤100000000):
  Calls Tryz.prog 112 #[.slice L n c] w fun e w'=>e=.returned (.agg #[.bool (iN (l.map IR.v).sum),.string (iM (l.map IR.v).sum)])∧Below w.heap.size w w':=by
 have hl:=hS.bk IR.len Yo;have hh:=Hp.start w;refine aj (N:=19) (l:=[.slice L n c]) Tryz.func112 rfl rfl (by simp) ?_;refine sr ?_;refine bC hh ?_;intro b2 w2 hh;refine aa (sr ?_);refine bC hh ?_;intro b3 w3 hh;refine vg ?_;refine aT [5,8,9,10,11,12,13,14,15,16] 8
  (fun j w'=>∃(i:Nat) (u:Bool) (S:Int),i≤n∧j=.int .i64 i∧S=((l.take i).map IR.v).sum∧iv u (iM S)=S∧bE S.natAbs≤800000000+i∧Hp w [.blk b3 162 [.string (iM S),.bool u] (0,0),.blk b2 31 [.bool false,.string (ByteArray.mk #[])] (0,0)] w')
  (fun j _=>n-(intOf j).toNat) ?_ ?_
 ·exact ⟨0,false,0,Yx _,rfl,rfl,by rw [iM];exact Ze _ (gg 0),by simp [mn],by rw [iM,Int.natAbs_zero,kE];exact hh⟩
 ·clear hh;rintro ρ' j w' ⟨i,u,S,hi,rfl,hS2,hu,hb,hh⟩;by_cases hlt:i<n
  ·obtain ⟨x,hx⟩:=ao (l:=l) (k:=i) Yo;obtain ⟨ad,rfl,hr⟩:=hS.at_ Yo;have hxs:=hs x (Yy hx);have hS3:((l.take (i+1)).map IR.v).sum=S+x.v:=by rw [aw hx,ZD,aa6,Ji,hS2]
   have hms:(iM S).size≤1000000000:=by rw [dL];omega
   have hbx:=ij x.neg x.aY;have hba:=mZ S x.v;have hpl:=Py u x.neg (iM S) x.aY;rw [hu] at hpl;have hwc:=fun w1=>BW u x.neg (iM S) x.aY w1 hms Yo;rw [hu] at hwc;refine sr ?_;refine dI ?_;refine bZ ?_;refine cg (vs:=[_,_]) aJ.out rfl (((hr.ext hh.below).recAt IR.len hx)) rfl Yp ?_;refine bC hh ?_;intro b5 w5 hh;refine bg hh 0 [_,_] ?_;intro ws hh;replace hh:Hp _ (.blk _ _ [_,_] _::_) _:=hh;refine aa ?_;refine aK 3 [[(3,none)],[(5,none)],[(13,some 1)]] [(2,14),(1,13),(0,12)] hh mixed Yq ?_;refine dK 1 [_,_] ?_;refine dK 0 [_,_] ?_;refine dC (fun _ hj=>kJ x.neg x.aY _) ?_;refine aH ?_;intro f W hJ hV;have hb_5:=hJ.bl;obtain ⟨v14,v13,v12,_⟩:=hV;replace hh:=hJ.hp;refine aN (a6 (ae v14 (ae v13 (ae v12 aO)))) ?_;dsimp only [bP];clear hJ;refine bj hh (hwc _) rfl ?_;intro w15 hh;exact Sv
  ·refine sr ?_;refine nj ?_;refine bJ hh 0 [_,_] ?_;refine bj hh (ep u (iM S) _) rfl ?_;intro w18 hh;exact VW
theorem lK (s:Bool) (b:ByteArray):(iM (-(iv s b))).size≤b.size:=by
 have:=ij s b;rw [dL,Int.natAbs_neg];omega
theorem p7 (s t:Bool) (a b:ByteArray) (w:World) (ha:a.size≤100000000) (hb:b.size≤100000000):
  Calls Tryz.prog 117 #[.agg #[.bool s,.string a],.agg #[.bool t,.string b]] w fun e w'=>e=.returned (.agg #[.bool (iN (iv s a-iv t b)),.string (iM (iv s a-iv t b))])∧Below w.heap.size w w':=by
 have hh:=Hp.start w;have h1:=lK t b;have e1:([IR.mk s a,iR (-(iv t b))].map IR.v).sum=iv s a-iv t b:=by
  simp only [Y6,Zv,List.sum_cons,List.sum_nil,Ul];simp only [IR.v];omega
 refine aj (N:=10) (l:=[.agg #[.bool s,.string a],.agg #[.bool t,.string b]]) Tryz.func117 rfl rfl (by simp) ?_;refine sr ?_;refine bO hh [_,_] ?_;intro b2 w2 hh;refine bO hh [_,_] ?_;intro b3 w3 hh;refine bC hh ?_;intro b4 w4 hh;refine aa (ah ?_);refine aK 3 [[(2,none)],[(3,none)],[(6,some 1)]] [(2,7),(1,6),(0,5)] hh mixed Yq ?_;refine dK 2 [_,_] ?_;refine dK 1 [_,_] ?_;refine dC (fun _ hj=>j9 t b _) ?_;refine aH ?_;intro f W hJ hV;have hb_1:=hJ.bl;obtain ⟨v7,v6,v5,_⟩:=hV;replace hh:=hJ.hp;refine yX ?_;dsimp only [bP];clear hJ;refine y6 ?_;intro b8 w8 hh;refine bj hh (pT _ 2 _ [IR.mk s a,iR (-(iv t b))] _ (hh.az (i:=0) rfl) Yo (by simp [iR];omega)) rfl ?_;intro w9 hh;rw [e1];exact M6
theorem F5 (s t:Bool) (a b:ByteArray) (w:World) (ha:a.size≤100000000) (hb:b.size≤100000000):
  Calls Tryz.prog 69 #[.agg #[.bool s,.string a],.agg #[.bool t,.string b]] w fun e w'=>e=.returned (.int .i64 (iv s a-iv t b).sign)∧Below w.heap.size w w':=by
 have hh:=Hp.start w;refine aj (N:=9) (l:=[.agg #[.bool s,.string a],.agg #[.bool t,.string b]]) Tryz.func69 rfl rfl (by simp) ?_;refine sr ?_;refine bO hh [_,_] ?_;intro b2 w2 hh;refine bO hh [_,_] ?_;intro b3 w3 hh;refine aI (aa (sr ?_));refine bJ hh 1 [_,_] ?_;refine bJ hh 0 [_,_] ?_;refine bj hh (p7 s t a b _ ha hb) rfl ?_;intro w7 hh;refine bj hh (jF _ _ _) rfl ?_;intro w8 hh;rw [eY];exact BF
theorem On (a b:Nat):bE (a*b)≤bE a+bE b:=by
 apply dy;rw [YW];exact abB (cR a) (cR b)
theorem mF (a b:Int):bE (a*b).natAbs≤bE a.natAbs+bE b.natAbs:=by rw [aan];exact On _ _
def n9:List Int→Int
 |[]=>1
 |x::l=>x*n9 l
theorem F7 (l:List Int) (x:Int):n9 (l++[x])=n9 l*x:=by
 induction l with
 |nil=>simp [n9]
 |cons y l ih=>simp only [YB,n9,ih,Int.mul_assoc]
theorem Cx (l:List Nat) (i:Nat):(l.take i).sum≤l.sum:=by
 rw [←List.sum_append_nat.symm.trans (Ze List.sum (Zy i l))];omega
theorem wF:bE 1=1:=by decide+kernel
theorem FM (L:Option Addr) (n c:Nat) (l:List IR) (w:World) (hS:Sl w L n 2 (aA IR.cells l)) (hn:n≤1000000) (hs:(l.map fun a=>a.aY.size).sum≤100000000):
  Calls Tryz.prog 91 #[.slice L n c] w fun e w'=>e=.returned (.agg #[.bool (iN (n9 (l.map IR.v))),.string (iM (n9 (l.map IR.v)))])∧Below w.heap.size w w':=by
 have hl:=hS.bk IR.len Yo;have hh:=Hp.start w;have hsum:=Cx (l.map fun a=>a.aY.size);refine aj (N:=21) (l:=[.slice L n c]) Tryz.func91 rfl rfl (by simp) ?_;refine sr ?_;refine bC hh ?_;intro b2 w2 hh;refine aa (sr ?_);refine bj hh (l9 1 _ Yo Yo) rfl ?_;intro w6 hh;refine bj hh (kJ _ _ _) rfl ?_;intro w7 hh;refine bC hh ?_;intro b3 w3 hh;refine bg hh 0 [_,_] ?_;intro ws hh;replace hh:Hp _ (.blk _ _ [_,_] _::_) _:=hh;refine vg ?_;refine aT [5,10,11,12,13,14,15,16,17,18] 10
  (fun j w'=>∃(i:Nat) (u:Bool) (S:Int),i≤n∧j=.int .i64 i∧S=n9 ((l.take i).map IR.v)∧iv u (iM S)=S∧bE S.natAbs≤1+8*((l.map fun a=>a.aY.size).take i).sum∧Hp w [.blk b3 162 [.string (iM S),.bool u] (0,0),.blk b2 31 [.bool false,.string (ByteArray.mk #[])] (0,0)] w')
  (fun j _=>n-(intOf j).toNat) ?_ ?_
 ·exact ⟨0,_,1,Yx _,rfl,rfl,eY 1,by rw [Int.natAbs_one,wF];omega,hh⟩
 ·clear hh;rintro ρ' j w' ⟨i,u,S,hi,rfl,hS2,hu,hb,hh⟩;by_cases hlt:i<n
  ·obtain ⟨x,hx⟩:=ao (l:=l) (k:=i) Yo;obtain ⟨ad,rfl,hr⟩:=hS.at_ Yo;have hsi:=hsum i;have hsi2:=hsum (i+1);have hsz:((l.map fun a=>a.aY.size).take (i+1)).sum=((l.map fun a=>a.aY.size).take i).sum+x.aY.size:=by
    rw [aw (x:=x.aY.size) (by rw [YJ,hx];rfl),sX]
   have hS3:n9 ((l.take (i+1)).map IR.v)=S*x.v:=by rw [aw hx,ZD,aa6,F7,hS2]
   have hms:(iM S).size≤1000000000:=by rw [dL];omega
   have hbx:=ij x.neg x.aY;have hba:=mF S x.v;have hpl:=B8 u x.neg (iM S) x.aY;rw [hu] at hpl;have hwc:=fun w1=>qQ u x.neg (iM S) x.aY w1 hms Yo;rw [hu] at hwc;refine sr ?_;refine dI ?_;refine bZ ?_;refine cg (vs:=[_,_]) aJ.out rfl (((hr.ext hh.below).recAt IR.len hx)) rfl Yp ?_;refine bC hh ?_;intro b5 w5 hh;refine bg hh 0 [_,_] ?_;intro ws hh;replace hh:Hp _ (.blk _ _ [_,_] _::_) _:=hh;refine aa ?_;refine aK 3 [[(3,none)],[(5,none)],[(15,some 1)]] [(2,16),(1,15),(0,14)] hh mixed Yq ?_;refine dK 1 [_,_] ?_;refine dK 0 [_,_] ?_;refine dC (fun _ hj=>kJ x.neg x.aY _) ?_;refine aH ?_;intro f W hJ hV;have hb_5:=hJ.bl;obtain ⟨v16,v15,v14,_⟩:=hV;replace hh:=hJ.hp;refine aN (a6 (ae v16 (ae v15 (ae v14 aO)))) ?_;dsimp only [bP];clear hJ;refine bj hh (hwc _) rfl ?_;intro w17 hh;exact Sv
  ·refine sr ?_;refine nj ?_;refine bJ hh 0 [_,_] ?_;refine bj hh (ep u (iM S) _) rfl ?_;intro w20 hh;exact VW
theorem BU (M k:Nat) (h:2^k∣M): -((M/2^k:Nat):Int)= -(M:Int)/2^k:=by
 obtain ⟨q,rfl⟩:=h;have hp:(0:Int)<2^k:=Int.pow_pos Yo;rw [Nat.mul_div_cancel_left _ (YY Yo),ZB,←abi,abF];exact (Int.mul_ediv_cancel_left _ (by exact Int.ne_of_gt hp)).symm
theorem Ao (M k:Nat) (h:¬2^k∣M): -((M/2^k:Nat):Int)-1= -(M:Int)/2^k:=by
 have hp:(0:Int)<2^k:=Int.pow_pos Yo;have h1:=ZJ M (2^k);have h2:=YU M (YY (n:=k) (show 0<2 by omega));have h3:M % 2^k≠0:=fun h0=>h (Nat.dvd_of_mod_eq_zero h0);have hc:((2^k:Nat):Int)=2^k:=by simp
 symm
 rw [Int.ediv_eq_iff_of_pos hp,←hc];have h4:(M:Int)=(2^k:Nat)*(M/2^k:Nat)+(M % 2^k:Nat):=by rw [←ZB,←ZQ,h1]
 generalize hK:((2^k:Nat):Int)=K at*;generalize ((M/2^k:Nat):Int)=q at*;have e:(-q-1)*K= -(K*q)-K:=by rw [Int.sub_mul,Int.neg_mul,Int.mul_comm q];omega
 have e2:(-q-1+1)*K= -(K*q):=by rw [Int.sub_add_cancel,Int.neg_mul,Int.mul_comm]
 omega
theorem Ni {M:Nat} (h0:M≠0):2^k∣M↔k≤tz M:=by
 obtain ⟨m,hm⟩:=uK h0;generalize tz M=t at*;constructor
 ·intro h
  rcases Zb t k with hlt|hge
  ·exfalso;obtain ⟨q,hq⟩:=h;rw [hm,show k=t+(1+(k-t-1)) by omega,YW,YW,Zw] at hq;have:=Nat.eq_of_mul_eq_mul_left (YY Yo) hq;rw [Nat.pow_one,Zw] at this;omega
  ·exact hge
 ·intro h;rw [hm];exact Nat.dvd_trans (Nat.pow_dvd_pow 2 h) (Nat.dvd_mul_right _ _)
theorem rT (a:Int) (n:Nat):bE (a^n).natAbs≤1+n*bE a.natAbs:=by
 induction n with
 |zero=>simp [wF]
 |succ n ih=>
  rw [Int.pow_succ];have:=mF (a^n) a;rw [ZA];omega
theorem F3 (s:Bool) (a:ByteArray) (n:Int) (w:World) (h0:n.toNat*a.size≤100000000) (hn:n≤1000000000) (ha:a.size≤100000000):
  Calls Tryz.prog 133 #[.agg #[.bool s,.string a],.int .i64 n] w fun e w'=>e=.returned (.agg #[.bool (iN (iv s a^n.toNat)),.string (iM (iv s a^n.toNat))])∧Below w.heap.size w w':=by
 have hh:=Hp.start w;have e1:(if (0:Int)>n then 0 else n)=(n.toNat:Int):=by split<;>omega
 have hm:n.toNat≤1000000000:=Yo;generalize n.toNat=m at*;refine aj (N:=19) (l:=[.agg #[.bool s,.string a],.int .i64 n]) Tryz.func133 rfl rfl (by simp) ?_;refine sr ?_;refine bO hh [_,_] ?_;intro b2 w2 hh;refine bC hh ?_;intro b4 w4 hh;refine aa (sr ?_);refine bj hh (l9 1 _ Yo Yo) rfl ?_;intro w6 hh;refine bj hh (kJ _ _ _) rfl ?_;intro w7 hh;refine bC hh ?_;intro b5 w5 hh;refine bg hh 0 [_,_] ?_;intro ws hh;replace hh:Hp _ (.blk _ _ [_,_] _::_) _:=hh;refine aa (ah (sr (mI ?_)));refine k9 rfl rfl Yp ?_;refine mI (aa (ar ?_));rw [e1];refine aT [10,11,12,13,14,15,16] 10
  (fun j w'=>∃(i:Nat) (u:Bool) (S:Int),i≤m∧j=.int .i64 i∧S=iv s a^i∧iv u (iM S)=S∧Hp w [.blk b5 162 [.string (iM S),.bool u] (0,0),.blk b4 31 [.bool false,.string (ByteArray.mk #[])] (0,0),.blk b2 31 [.bool s,.string a] (0,0)] w')
  (fun j _=>m-(intOf j).toNat) ?_ ?_
 ·exact ⟨0,_,1,Yx _,rfl,by rw [Int.pow_zero],eY 1,hh⟩
 ·clear hh;rintro ρ' j w' ⟨i,u,S,hi,rfl,hS2,hu,hh⟩;by_cases hlt:i<m
  ·have hb:=rT (iv s a) i;rw [←hS2] at hb;have hbx:=ij s a;have hle:i*bE (iv s a).natAbs≤m*(8*a.size):=Z5 hi hbx;rw [aa2] at hle;have hms:(iM S).size≤1000000000:=by rw [dL];omega
   have hpl:=B8 u s (iM S) a;rw [hu] at hpl;have hwc:=fun w1=>qQ u s (iM S) a w1 hms Yo;rw [hu] at hwc;refine sr ?_;refine a9 (aa (ah (cT (aq (ai (ah (ar ?_)))))));refine aK 3 [[(5,none)],[(2,none)],[(13,some 1)]] [(2,14),(1,13),(0,12)] hh mixed Yq ?_;refine dK 0 [_,_] ?_;refine dK 2 [_,_] ?_;refine dC (fun _ hj=>kJ s a _) ?_;refine aH ?_;intro f W hJ hV;have hb_4:=hJ.bl;obtain ⟨v14,v13,v12,_⟩:=hV;replace hh:=hJ.hp;refine aN (a6 (ae v14 (ae v13 (ae v12 aO)))) ?_;dsimp only [bP];clear hJ;refine bj hh (hwc _) rfl ?_;intro w15 hh;refine bg hh 0 [_,_] ?_;intro ws hh;replace hh:Hp _ (.blk _ _ [_,_] _::_) _:=hh;refine gu ?_;refine a8 (mI (aD (ai ?_)));refine ⟨⟨i+1,_,_,Yo,rfl,by rw [Int.pow_succ,hS2],hpl,hh⟩,by show m-(i+1)<m-i;omega, ?_⟩;exact er
  ·obtain rfl:i=m:=Yo;refine sr ?_;refine nj ?_;refine bJ hh 0 [_,_] ?_;refine bj hh (ep u (iM S) _) rfl ?_;intro w18 hh;rw [hu,hS2];exact M6
theorem TG (s:Bool) (a:ByteArray) (m:Nat):iv s (sN (bN a*2^m))=iv s a*2^m:=by
 unfold iv;rw [gg]
 cases s<;>simp [ZB,Int.neg_mul]
theorem F6 (s:Bool) (a:ByteArray) (m:Nat) (w:World) (ha:a.size≤100000000) (hm:m≤1000000000):
  Calls Tryz.prog 124 #[.agg #[.bool s,.string a],.int .i64 (m:Int)] w fun e w'=>e=.returned (.agg #[.bool (iN (iv s a*2^m)),.string (iM (iv s a*2^m))])∧Below w.heap.size w w':=by
 have hh:=Hp.start w;refine aj (N:=47) (l:=[.agg #[.bool s,.string a],.int .i64 (m:Int)]) Tryz.func124 rfl rfl (by simp) ?_;refine sr ?_;refine bO hh [_,_] ?_;intro b2 w2 hh;refine bC hh ?_;intro b4 w4 hh;refine aa (ah (sr (mI ?_)));refine dF (aa (cT (ah ?_)));refine aK 6 [[(2,none)],[(8,some 0)],[(1,none)],[(9,some 1),(10,some 2)],[(2,none)],[(12,some 4)]] [(5,13),(4,12),(3,11),(2,10),(1,9),(0,8)] hh mixed Yq ?_;refine dR ?_;refine fW 1 ?_;refine dJ ?_;refine dC (fun _ hj=>Bv a m _ Yo Yo) ?_;refine dR ?_;refine fW 1 ?_;refine aH ?_;intro f W hJ hV;have hb_2:=hJ.bl;obtain ⟨v13,v12,v11,v10,v9,v8,_⟩:=hV;replace hh:=hJ.hp;refine aN (a6 (ae v13 (ae v12 (ae v11 (ae v10 (ae v9 (ae v8 aO))))))) ?_;dsimp only [bP];clear hJ;refine fe [_,_] ?_;refine bj hh (ep s (sN (bN a*2^m)) _) rfl ?_;intro w15 hh;rw [TG];exact DG
theorem Fp (s:Bool) (a:ByteArray) (m:Nat) (w:World) (hT:dP w) (ha:a.size≤100000000) (h0:0<m) (hm:m≤1000000000000):
  Calls Tryz.prog 124 #[.agg #[.bool s,.string a],.int .i64 (-(m:Int))] w fun e w'=>e=.returned (.agg #[.bool (iN (iv s a/2^m)),.string (iM (iv s a/2^m))])∧Below w.heap.size w w':=by
 have hh:=Hp.start w;have e1:(if (-1099511627776:Int)> -(m:Int) then -1099511627776 else -(m:Int))= -(m:Int):=Yu Yo;have e2: -(-(m:Int))=(m:Int):=Yo;have hcs:∀w1,Calls Tryz.prog 171 #[.string a,.int .i64 (-(-(m:Int)))] w1 fun e w'=>e=.returned (.string (sN (bN a/2^m)))∧Below w1.heap.size w1 w':=fun w1=>by
  rw [e2];exact BD a m w1 Yo Yo
 cases s with
 |false=>
  have e3:iv false (sN (bN a/2^m))=iv false a/2^m:=by
   unfold iv;rw [gg];simp
  refine aj (N:=47) (l:=[.agg #[.bool false,.string a],.int .i64 (-(m:Int))]) Tryz.func124 rfl rfl (by simp) ?_;refine sr ?_;refine bO hh [_,_] ?_;intro b2 w2 hh;refine bC hh ?_;intro b4 w4 hh;refine aa (ah (sr (mI ?_)));refine dF (aa (cF (aq (ai (sr (mI ?_))))));refine k9 rfl rfl Yp ?_;refine aI (aa (ah ?_));rw [e1];refine Hq ?_;refine dR ?_;refine fW 1 ?_;refine dJ ?_;refine Hl ?_;refine dC (fun _ hj=>hcs _) ?_;refine dR ?_;refine fW 1 ?_;refine dB [_,_] ?_;refine dC (fun _ hj=>ep false (sN (bN a/2^m)) _) ?_;refine I6 ?_;refine aH ?_;intro f W hJ hV;have hb_4:=hJ.bl;obtain ⟨v5,v26,v25,v24,v23,v22,v21,v20,v19,v18,_⟩:=hV;obtain ⟨b5,e5,hl5,hc5⟩:cw _ _ _ (f 9) W:=v5;replace hh:=hJ.newVar hh hl5 hc5;refine Ie ?_;dsimp only [bP];clear e5 hJ;rw [e3];refine bg hh 0 [_,_] ?_;intro ws hh;replace hh:Hp _ (.blk _ _ [_,_] _::_) _:=hh;refine aa (ah (sr (bo ?_)));refine bp hh 2 ?_;refine mB ?_;refine gS (gS ?_);refine jR ?_;refine gS ?_;refine fK ?_;exact RL
 |true=>
  have hb:=ik a;have e4:iv true (sN (bN a/2^m))= -((bN a/2^m:Nat):Int):=by
   unfold iv;rw [gg,Yt rfl]
  have e5:iv true a= -(bN a:Int):=by unfold iv;rw [Yt rfl]
  by_cases hz:bN a=0
  ·have e3:iv true (sN (bN a/2^m))=iv true a/2^m:=by
    rw [e4,e5,hz];simp
   refine L7 ?_;refine sr ?_;refine bO hh [_,_] ?_;intro b2 w2 hh;refine bC hh ?_;intro b4 w4 hh;refine aa (ah (sr (mI ?_)));refine dF (aa (cF (aq (ai (sr (mI ?_))))));refine k9 rfl rfl Yp ?_;refine aI (aa (ah ?_));rw [e1];refine Hq ?_;refine dR ?_;refine fW 1 ?_;refine dJ ?_;refine Hl ?_;refine dC (fun _ hj=>hcs _) ?_;refine dR ?_;refine fW 1 ?_;refine dB [_,_] ?_;refine dC (fun _ hj=>ep true (sN (bN a/2^m)) _) ?_;refine I6 ?_;refine aH ?_;intro f W hJ hV;have hb_4:=hJ.bl;obtain ⟨v5,v26,v25,v24,v23,v22,v21,v20,v19,v18,_⟩:=hV;obtain ⟨b5,e5,hl5,hc5⟩:cw _ _ _ (f 9) W:=v5;replace hh:=hJ.newVar hh hl5 hc5;refine Ie ?_;dsimp only [bP];clear e5 hJ;rw [e3];refine bg hh 0 [_,_] ?_;intro ws hh;replace hh:Hp _ (.blk _ _ [_,_] _::_) _:=hh;refine aa (ah (sr (bo ?_)));refine bp hh 2 ?_;refine mB (gT (bo (gT ?_)));refine bp hh 2 ?_;refine aG rfl rfl ?_;refine bj hh (mu a _ Yo) rfl ?_;intro w32 hh;rw [hz,mn];refine gT ?_;refine bT ?_;refine gi ?_;exact RL
  ·have hbp:=nO hz;by_cases hd:2^m∣bN a
   ·have e3:iv true (sN (bN a/2^m))=iv true a/2^m:=by
     rw [e4,e5];exact BU _ _ hd
    have htz:=(Ni hz).1 hd;refine L7 ?_;refine sr ?_;refine bO hh [_,_] ?_;intro b2 w2 hh;refine bC hh ?_;intro b4 w4 hh;refine aa (ah (sr (mI ?_)));refine dF (aa (cF (aq (ai (sr (mI ?_))))));refine k9 rfl rfl Yp ?_;refine aI (aa (ah ?_));rw [e1];refine Hq ?_;refine dR ?_;refine fW 1 ?_;refine dJ ?_;refine Hl ?_;refine dC (fun _ hj=>hcs _) ?_;refine dR ?_;refine fW 1 ?_;refine dB [_,_] ?_;refine dC (fun _ hj=>ep true (sN (bN a/2^m)) _) ?_;refine I6 ?_;refine aH ?_;intro f W hJ hV;have hb_4:=hJ.bl;obtain ⟨v5,v26,v25,v24,v23,v22,v21,v20,v19,v18,_⟩:=hV;obtain ⟨b5,e5,hl5,hc5⟩:cw _ _ _ (f 9) W:=v5;replace hh:=hJ.newVar hh hl5 hc5;refine Ie ?_;dsimp only [bP];clear e5 hJ;rw [e3];refine bg hh 0 [_,_] ?_;intro ws hh;replace hh:Hp _ (.blk _ _ [_,_] _::_) _:=hh;refine aa (ah (sr (bo ?_)));refine bp hh 2 ?_;refine mB (gT (bo (gT ?_)));refine bp hh 2 ?_;refine aG rfl rfl ?_;refine bj hh (mu a _ Yo) rfl ?_;intro w32 hh;refine gT ?_;refine bT ?_;refine gi ?_;refine mB (gT (bo (gT ?_)));refine bp hh 2 ?_;refine aG rfl rfl ?_;refine bj hh (kV a _ Yo (hT.hp hh)) rfl ?_;intro w38 hh;refine gT (mI (gT ?_));refine zi ?_;refine gT ?_;refine a9 ?_;refine gi ?_
    refine wO ?_;refine bJ hh 0 [_,_] ?_;exact M6
   ·have e3:iv true (sN (bN a/2^m))-1=iv true a/2^m:=by
     rw [e4,e5];exact Ao _ _ hd
    have htz:tz (bN a)<m:=abl fun h=>hd ((Ni hz).2 h);have hsz:(iM (iv true (sN (bN a/2^m)))).size≤100000000:=by
     have:=qG (bN a) m;rw [dL,k5,gg];omega
    have hsub:∀w1,Calls Tryz.prog 117 #[.agg #[.bool (iN (iv true (sN (bN a/2^m)))),.string (iM (iv true (sN (bN a/2^m))))],.agg #[.bool (iN 1),.string (iM 1)]] w1 fun e w'=>e=.returned (.agg #[.bool (iN (iv true a/2^m)),.string (iM (iv true a/2^m))])∧Below w1.heap.size w1 w':=fun w1=>by
     have:=p7 (iN (iv true (sN (bN a/2^m)))) (iN 1) (iM (iv true (sN (bN a/2^m)))) (iM 1) w1 hsz (by rw [dL,Int.natAbs_one,wF];omega);rw [eY,eY,e3] at this;exact this
    refine L7 ?_;refine sr ?_;refine bO hh [_,_] ?_;intro b2 w2 hh;refine bC hh ?_;intro b4 w4 hh;refine aa (ah (sr (mI ?_)));refine dF (aa (cF (aq (ai (sr (mI ?_))))));refine k9 rfl rfl Yp ?_;refine aI (aa (ah ?_));rw [e1];refine Hq ?_;refine dR ?_;refine fW 1 ?_;refine dJ ?_;refine Hl ?_;refine dC (fun _ hj=>hcs _) ?_;refine dR ?_;refine fW 1 ?_;refine dB [_,_] ?_;refine dC (fun _ hj=>ep true (sN (bN a/2^m)) _) ?_;refine I6 ?_;refine aH ?_;intro f W hJ hV;have hb_4:=hJ.bl;obtain ⟨v5,v26,v25,v24,v23,v22,v21,v20,v19,v18,_⟩:=hV;obtain ⟨b5,e5,hl5,hc5⟩:cw _ _ _ (f 9) W:=v5;replace hh:=hJ.newVar hh hl5 hc5;refine Ie ?_;dsimp only [bP];clear e5 hJ;refine bg hh 0 [_,_] ?_;intro ws hh;replace hh:Hp _ (.blk _ _ [_,_] _::_) _:=hh;refine aa (ah (sr (bo ?_)));refine bp hh 2 ?_;refine mB (gT (bo (gT ?_)));refine bp hh 2 ?_;refine aG rfl rfl ?_;refine bj hh (mu a _ Yo) rfl ?_;intro w32 hh;refine gT ?_;refine bT ?_;refine gi ?_;refine mB (gT (bo (gT ?_)));refine bp hh 2 ?_;refine aG rfl rfl ?_;refine bj hh (kV a _ Yo (hT.hp hh)) rfl ?_;intro w38 hh;refine gT (mI (gT ?_));refine zi ?_;refine gT ?_;refine a9 ?_;refine gi ?_;refine aa (cT (ah ?_))
    refine aK 2 [[(5,none)],[]] [(1,44),(0,43)] hh mixed Yq ?_;refine dK 0 [_,_] ?_;refine dC (fun _ hj=>l9 1 _ Yo Yo) ?_;refine aH ?_;intro f W hJ hV;have hb_6:=hJ.bl;obtain ⟨v44,v43,_⟩:=hV;replace hh:=hJ.hp;refine aN (a6 (ae v44 (ae v43 aO))) ?_;dsimp only [bP];clear hJ;refine bj hh (hsub _) rfl ?_;intro w45 hh;refine bg hh 1 [_,_] ?_;intro ws hh;replace hh:Hp _ (_::.blk _ _ [_,_] _::_) _:=hh;refine aa (av (aF ?_));exact Rs
theorem Tl:(2:Rat)≠0:=by decide
theorem two_pos (k:Int):(0:Rat)<2^k:=Rat.zpow_pos Yp
theorem lr (i p:Int):(Dyadic.ofIntWithPrec i p).toRat=i*2^(-p):=Dyadic.toRat_ofIntWithPrec_eq_mul_two_pow
theorem pf (i p:Int) (n:Nat):Dyadic.ofIntWithPrec (i*2^n) (p+n)=Dyadic.ofIntWithPrec i p:=by
 rw [←Int.shiftLeft_eq];exact Dyadic.ofIntWithPrec_shiftLeft_add
theorem jk (i:Int) {p q:Int} (h:q=p+n):Dyadic.ofIntWithPrec i p=Dyadic.ofIntWithPrec (i*2^n) q:=by
 subst h;exact (pf i p n).symm
theorem rS (i j p:Int):Dyadic.ofIntWithPrec i p+Dyadic.ofIntWithPrec j p=Dyadic.ofIntWithPrec (i+j) p:=by
 rw [←Dyadic.toRat_inj,Dyadic.toRat_add,lr,lr,lr,Rat.intCast_add,Rat.add_mul]
theorem I5 (i p:Int): -Dyadic.ofIntWithPrec i p=Dyadic.ofIntWithPrec (-i) p:=Dyadic.neg_ofIntWithPrec
theorem oW (i j p q:Int):Dyadic.ofIntWithPrec i p*Dyadic.ofIntWithPrec j q=Dyadic.ofIntWithPrec (i*j) (p+q):=by
 rw [←Dyadic.toRat_inj,Dyadic.toRat_mul,lr,lr,lr,Rat.intCast_mul,Int.neg_add,Rat.zpow_add Tl];grind
theorem mz (i j p:Int):Dyadic.ofIntWithPrec i p<Dyadic.ofIntWithPrec j p↔i<j:=by
 rw [←Dyadic.toRat_lt_toRat_iff,lr,lr];rw [←Rat.intCast_lt_intCast];constructor
 ·intro h;exact Rat.lt_of_mul_lt_mul_right h (Rat.le_of_lt (two_pos _))
 ·intro h;exact Rat.mul_lt_mul_of_pos_right h (two_pos _)
theorem iF (p:Int):Dyadic.ofIntWithPrec 0 p=0:=rfl
theorem QK {i j p:Int} (h:Dyadic.ofIntWithPrec i p=Dyadic.ofIntWithPrec j p):i=j:=by
 rcases abp i j with h1|h1|h1
 ·rw [←mz i j p,h] at h1;exact absurd h1 (by rw [mz];omega)
 ·exact h1
 ·rw [←mz j i p,h] at h1;exact absurd h1 (by rw [mz];omega)
theorem tW {i p:Int} (h:Dyadic.ofIntWithPrec i p=0):i=0:=QK (p:=p) (by rw [h];rfl)
theorem HX (n k:Int) (h:n % 2=1):Dyadic.ofOdd n k h=Dyadic.ofIntWithPrec n k:=Dyadic.ofOdd_eq_ofIntWithPrec
theorem Aa {i p:Int} (h:i≠0):Dyadic.ofIntWithPrec i p=.ofOdd (i>>>i.trailingZeros) (p-i.trailingZeros) (Int.shiftRight_trailingZeros_mod_two h):=by
 rw [Dyadic.ofIntWithPrec,dif_neg h]
structure NR where
 neg:Bool
 aY:ByteArray
 e:Int
def NR.cells (a:NR):List Value:=[.bool a.neg,.string a.aY,.int .i64 a.e]
theorem NR.len (a:NR):a.cells.length=3:=rfl
theorem NR.one (a:NR):a.cells.all Value.oneCell'=true:=rfl
def NR.i (a:NR):Int:=iv a.neg a.aY
def NR.d (a:NR):Dyadic:=Dyadic.ofIntWithPrec a.i (-a.e)
def nR:Dyadic→NR
 |.zero=>⟨false,ByteArray.mk #[],0⟩
 |.ofOdd n k _=>⟨iN n,iM n, -k⟩
theorem m7:nR 0=⟨false,ByteArray.mk #[],0⟩:=rfl
theorem bL (x:Dyadic):(nR x).d=x:=by
 cases x with
 |zero=>rfl
 |ofOdd n k h=>
  simp only [nR,NR.d,NR.i,eY,Int.neg_neg];exact (HX n k h).symm
theorem Uw {x y:Dyadic}:nR x=nR y↔x=y:=⟨fun h=>by rw [←bL x,h,bL],fun h=>by rw [h]⟩
theorem U2 (s:Bool) (a:ByteArray):(iv s a).trailingZeros=tz (bN a):=by
 unfold iv;split
 ·rw [Int.trailingZeros_neg];rfl
 ·rfl
theorem HP (s:Bool) (a:ByteArray):iv s a=0↔bN a=0:=by
 have:=k5 s a;omega
theorem sv {s:Bool}{a:ByteArray}{e:Int} (h:iv s a≠0):nR (Dyadic.ofIntWithPrec (iv s a) (-e))=⟨iN (iv s a/2^tz (bN a)),iM (iv s a/2^tz (bN a)),e+tz (bN a)⟩:=by
 rw [Aa h,nR,Int.shiftRight_eq_div_pow,U2];have e1: -(-e-(tz (bN a):Int))=e+tz (bN a):=Yo;rw [e1,abF]
 rfl
def Sz (k:Nat) (x:Dyadic):Prop:=∃i:Int,x=Dyadic.ofIntWithPrec i k∧i.natAbs<2^(2*k)
theorem Sz.zero (k:Nat):Sz k 0:=⟨0,rfl,by simpa using YY Yo⟩
theorem Sz.mono {l:Nat}{x:Dyadic} (h:Sz k x) (hl:k≤l):Sz l x:=by
 obtain ⟨i,rfl,hi⟩:=h;refine ⟨i*2^(l-k),jk i Yo, ?_⟩;rw [aan,aaN];have h1:i.natAbs*2^(l-k)<2^(2*k)*2^(l-k):=aaH hi (YY Yo);rw [←YW] at h1;exact Zl h1 (Zf Yo Yo)
theorem Sz.neg {x:Dyadic} (h:Sz k x):Sz k (-x):=by
 obtain ⟨i,rfl,hi⟩:=h;exact ⟨-i,I5 _ _,by rw [Int.natAbs_neg];exact hi⟩
theorem Sz.add {x y:Dyadic} (hx:Sz k x) (hy:Sz k y):Sz (k+1) (x+y):=by
 obtain ⟨i,rfl,hi⟩:=hx;obtain ⟨j,rfl,hj⟩:=hy;rw [rS];refine ⟨(i+j)*2^1,jk _ Yo, ?_⟩;have h1:2^(2*(k+1))=4*2^(2*k):=by rw [show 2*(k+1)=2*k+2 by omega,YW];omega
 rw [h1];omega
theorem Sz.sub {x y:Dyadic} (hx:Sz k x) (hy:Sz k y):Sz (k+1) (x-y):=hx.add hy.neg
theorem Sz.mul {l:Nat}{x y:Dyadic} (hx:Sz k x) (hy:Sz l y):Sz (k+l) (x*y):=by
 obtain ⟨i,rfl,hi⟩:=hx;obtain ⟨j,rfl,hj⟩:=hy;rw [oW];refine ⟨i*j,by rw [ZQ], ?_⟩;rw [aan,Zj,YW];exact abB hi hj
theorem l7 {i:Int} (h:i≠0):2^i.trailingZeros≤i.natAbs:=by
 have h1:=Int.two_pow_trailingZeros_dvd h;have h2:=Int.natAbs_dvd_natAbs.2 h1;rw [aaN] at h2;exact Nat.le_of_dvd Yo h2
theorem Sz.nr {x:Dyadic} (h:Sz k x):(nR x).aY.size≤(2*k+7)/8∧ -(k:Int)≤(nR x).e∧(nR x).e≤k:=by
 obtain ⟨i,rfl,hi⟩:=h;by_cases h0:i=0
 ·subst h0;rw [iF,m7];exact ⟨Yx _,(by omega: -(k:Int)≤0),(by omega:(0:Int)≤k)⟩
 ·have h2:=l7 h0;rw [Aa h0,nR];simp only;refine ⟨?_,Yo, ?_⟩
  ·rw [dL];have:bE (i>>>i.trailingZeros).natAbs≤2*k:=by
    apply dy;refine Zr ?_ hi;rw [Int.shiftRight_eq_div_pow];exact abd _ _
   omega
  ·have h3:2^i.trailingZeros<2^(2*k):=Zr h2 hi;have:=(Nat.pow_lt_pow_iff_right Yo).1 h3;omega
theorem Sz.raw {a:NR}{E:Nat} (hm:8*a.aY.size≤m) (h1: -(E:Int)≤a.e) (h2:a.e≤E):Sz (m+E) a.d:=by
 refine ⟨a.i*2^(a.e+m+E).toNat,jk _ Yo, ?_⟩;have h3:a.i.natAbs<2^m:=by
  rw [NR.i,k5];refine Zl (cR _) (Zf Yo ?_);have:=ik a.aY;omega
 rw [aan,aaN];have h4:=aaH h3 (YY (n:=(a.e+m+E).toNat) (show 0<2 by omega));rw [←YW] at h4;exact Zl h4 (Zf Yo Yo)
def BJ (i n:Int):Int:=if 0≤n then i*2^n.toNat else i/2^(-n).toNat
theorem LQ (n:Int):BJ 0 n=0:=by unfold BJ;split<;>simp
def du:Dyadic→Int→Int
 |.zero,_=>0
 |.ofOdd n k _,p=>BJ n (p-k)
def dQ:Dyadic→Dyadic→Int
 |.zero,.zero=>0
 |.zero,.ofOdd _ k _=>k
 |.ofOdd _ k _,.zero=>k
 |.ofOdd _ k _,.ofOdd _ l _=>max k l
theorem oP (n k p:Int) (h:n % 2=1) (hp:k≤p):Dyadic.ofIntWithPrec (du (.ofOdd n k h) p) p=.ofOdd n k h:=by
 simp only [du];rw [HX,BJ,Yt Yo];exact (jk n Yo).symm
theorem Ls (x y:Dyadic):Dyadic.ofIntWithPrec (du x (dQ x y)) (dQ x y)=x:=by
 cases x with
 |zero=>rfl
 |ofOdd n k h=>
  cases y with
  |zero=>exact oP _ _ _ _ (Int.le_refl _)
  |ofOdd m l g=>exact oP _ _ _ _ (Int.le_max_left _ _)
theorem Lx (x y:Dyadic):Dyadic.ofIntWithPrec (du y (dQ x y)) (dQ x y)=y:=by
 cases y with
 |zero=>rfl
 |ofOdd n k h=>
  cases x with
  |zero=>exact oP _ _ _ _ (Int.le_refl _)
  |ofOdd m l g=>exact oP _ _ _ _ (Int.le_max_right _ _)
theorem Pp (x y:Dyadic):Dyadic.ofIntWithPrec (du x (dQ x y)+du y (dQ x y)) (dQ x y)=x+y:=by
 rw [←rS,Ls,Lx]
theorem ON (i n:Int):bE (BJ i n).natAbs≤bE i.natAbs+n.toNat:=by
 unfold BJ;split
 ·rw [aan,aaN];exact iQ _ _
 ·have:bE (i/2^(-n).toNat).natAbs≤bE i.natAbs:=dy (Zr (abd _ _) (cR _));omega
theorem HK (x y:Dyadic) (E:Int) (h1: -E≤(nR x).e∧(nR x).e≤E) (h2: -E≤(nR y).e∧(nR y).e≤E): -E≤dQ x y∧dQ x y≤E:=by
 cases x<;>cases y<;>simp only [nR,dQ] at* <;>omega
theorem xp (x:Dyadic) (p:Int):bE (du x p).natAbs≤8*(nR x).aY.size+(p+(nR x).e).toNat:=by
 cases x with
 |zero=>simp [du,mn]
 |ofOdd n k h=>
  have h1:=ON n (p-k);have h2:=ik (iM n);rw [iM,gg] at h2;simp only [du,nR];rw [show p+ -k=p-k by omega];rw [←iM] at h2;omega
variable {P:Program}{by' off:Nat}{r:Bool}{zc:List Value}
section
variable {ro:Mode}
theorem NT {t:TypeId}{cs:Array Value}{v:Value} (ht:eu P t=some (n,false,by',zc)) (hv:cs[off]?=some v) (w:World):(part t cs off).run P w=.ok v w:=by
 simp [part,jZ ht,hv]
theorem LV {t:TypeId}{cs vs:Array Value} (ht:eu P t=some (n,true,by',zc)) (hv:cs.extract off (off+n)=vs) (w:World):(part t cs off).run P w=.ok (.agg vs) w:=by
 simp [part,jZ ht,fT ht,hv]
theorem W3 (n:Nat) (a b:Bool) (w:World):(Op.equalIn (n+1) 4 (.bool a) (.bool b)).run Tryz.prog w=.ok (a==b) w:=by
 simp [Op.equalIn,run_underlying Tryz.underlying4]
theorem Xh (n:Nat) (a b:ByteArray) (w:World):(Op.equalIn (n+1) 9 (.string a) (.string b)).run Tryz.prog w=.ok (a==b) w:=by
 simp [Op.equalIn,run_underlying Tryz.underlying9]
theorem WN (n:Nat) (a b:Int) (w:World):(Op.equalIn (n+1) 3 (.int .i64 a) (.int .i64 b)).run Tryz.prog w=.ok (a==b) w:=by
 simp [Op.equalIn,run_underlying Tryz.underlying3]
theorem eq_int (n:Nat) (s s':Bool) (a a':ByteArray) (w:World):(Op.equalIn (n+2) 31 (.agg #[.bool s,.string a]) (.agg #[.bool s',.string a'])).run Tryz.prog w=.ok (s==s' && a==a') w:=by
 have h1:=fun (x:Bool) (y:ByteArray)=>NT (P:=Tryz.prog) (cs:= #[.bool x,.string y]) (off:=0) (aJ.out (P:=Tryz.prog) (t:=4)) rfl;have h2:=fun (x:Bool) (y:ByteArray)=>NT (P:=Tryz.prog) (cs:= #[.bool x,.string y]) (off:=1) (aJ.out (P:=Tryz.prog) (t:=9)) rfl;rw [Op.equalIn];simp [run_underlying Tryz.underlying31,h1,h2,W3,Xh]
 cases h:s==s'<;>cases h':a==a'<;>simp_all
theorem NC (n:Nat) (s s':Bool) (a a':ByteArray) (e e':Int) (w:World):(Op.equalIn (n+3) 33 (.agg #[.bool s,.string a,.int .i64 e]) (.agg #[.bool s',.string a',.int .i64 e'])).run Tryz.prog w=.ok ((s==s' && a==a') && e==e') w:=by
 have h1:=fun (x:Bool) (y:ByteArray) (z:Int)=>LV (P:=Tryz.prog) (cs:= #[.bool x,.string y,.int .i64 z]) (vs:= #[.bool x,.string y]) (off:=0) (aJ.out (P:=Tryz.prog) (t:=31)) rfl;have h2:=fun (x:Bool) (y:ByteArray) (z:Int)=>NT (P:=Tryz.prog) (cs:= #[.bool x,.string y,.int .i64 z]) (off:=2) (aJ.out (P:=Tryz.prog) (t:=3)) rfl;rw [Op.equalIn];simp [run_underlying Tryz.underlying33,h1,h2,eq_int,WN]
 cases h:s==s'<;>cases h':a==a'<;>cases h2:e==e'<;>simp_all
section
variable {ρ:Rf}{w:World}{d:Option Nat}{ty u:TypeId}{pos:String}{af:Array Edge}{g:Option (Nat×Bool)}{x y:Operand}{s s':Bool}{a a':ByteArray}{e e':Int}
theorem TL {a b:ByteArray}:(a==b)=true↔a=b:=by
 have:(a==b)=(a.data==b.data):=rfl;rw [this,Z6];exact ⟨fun h=>by cases a;cases b;simp_all,fun h=>by rw [h]⟩
theorem mM:((s==s' && a==a') && e==e')=true↔NR.mk s a e=NR.mk s' a' e':=by
 rw [YP,YP,Z6,TL,Z6,NR.mk.injEq,and_assoc]
theorem Sn (hx:ev ρ x=.agg #[.bool s,.string a,.int .i64 e]) (hy:ev ρ y=.agg #[.bool s',.string a',.int .i64 e']) (hr:((s==s' && a==a') && e==e')=r):
  (execOp (ev ρ) ⟨d,.binOp .eql 33 x y u,ty,pos,af,g⟩).run Tryz.prog w=.ok (.value (.bool r)) w:=by
 exact Wm
theorem RO (hx:ev ρ x=.agg #[.bool s,.string a,.int .i64 e]) (hy:ev ρ y=.agg #[.bool s',.string a',.int .i64 e']) (hr:((s==s' && a==a') && e==e')=r):
  (execOp (ev ρ) ⟨d,.binOp .neq 33 x y u,ty,pos,af,g⟩).run Tryz.prog w=.ok (.value (.bool !r)) w:=by
 exact Wm
theorem Az (hx:ev ρ x=.agg #[.bool s,.string a,.int .i64 e]) (hy:ev ρ y=.agg #[.bool s',.string a',.int .i64 e']) (h:NR.mk s a e=NR.mk s' a' e'):
  (execOp (ev ρ) ⟨d,.binOp .eql 33 x y u,ty,pos,af,g⟩).run Tryz.prog w=.ok (.value (.bool true)) w:=Sn hx hy (mM.2 h)
theorem QT (hx:ev ρ x=.agg #[.bool s,.string a,.int .i64 e]) (hy:ev ρ y=.agg #[.bool s',.string a',.int .i64 e']) (h:¬NR.mk s a e=NR.mk s' a' e'):
  (execOp (ev ρ) ⟨d,.binOp .eql 33 x y u,ty,pos,af,g⟩).run Tryz.prog w=.ok (.value (.bool false)) w:=Sn hx hy (by rw [abx];exact fun h1=>h (mM.1 h1))
theorem HL (hx:ev ρ x=.agg #[.bool s,.string a,.int .i64 e]) (hy:ev ρ y=.agg #[.bool s',.string a',.int .i64 e']) (h:NR.mk s a e=NR.mk s' a' e'):
  (execOp (ev ρ) ⟨d,.binOp .neq 33 x y u,ty,pos,af,g⟩).run Tryz.prog w=.ok (.value (.bool false)) w:=RO hx hy (mM.2 h)
theorem I2 (hx:ev ρ x=.agg #[.bool s,.string a,.int .i64 e]) (hy:ev ρ y=.agg #[.bool s',.string a',.int .i64 e']) (h:¬NR.mk s a e=NR.mk s' a' e'):
  (execOp (ev ρ) ⟨d,.binOp .neq 33 x y u,ty,pos,af,g⟩).run Tryz.prog w=.ok (.value (.bool true)) w:=RO hx hy (r:=false) (by rw [abx];exact fun h1=>h (mM.1 h1))
end
section
variable {N:Nat}{ops:Array Oper}{Q:Kq}{ρ:Rf}{w:World}{rest:List Oper}{d:Nat}{ty u:TypeId}{pos:String}{af:Array Edge}{x y:Operand}{s s':Bool}{a a':ByteArray}{e e':Int}
theorem GH (hx:ev ρ x=.agg #[.bool s,.string a,.int .i64 e]) (hy:ev ρ y=.agg #[.bool s',.string a',.int .i64 e']) (h:NR.mk s a e=NR.mk s' a' e') (hN:d<N) (kk:WL ro Tryz.prog N ops Q rest (cP ρ d (.bool true)) w):
  WL ro Tryz.prog N ops Q (⟨some d,.binOp .eql 33 x y u,ty,pos,af,none⟩::rest) ρ w:=aV rfl rfl hN (Az hx hy h) kk
theorem AL (hx:ev ρ x=.agg #[.bool s,.string a,.int .i64 e]) (hy:ev ρ y=.agg #[.bool s',.string a',.int .i64 e']) (h:¬NR.mk s a e=NR.mk s' a' e') (hN:d<N) (kk:WL ro Tryz.prog N ops Q rest (cP ρ d (.bool false)) w):
  WL ro Tryz.prog N ops Q (⟨some d,.binOp .eql 33 x y u,ty,pos,af,none⟩::rest) ρ w:=aV rfl rfl hN (QT hx hy h) kk
theorem Pz (hx:ev ρ x=.agg #[.bool s,.string a,.int .i64 e]) (hy:ev ρ y=.agg #[.bool s',.string a',.int .i64 e']) (h:¬NR.mk s a e=NR.mk s' a' e') (hN:d<N) (kk:WL ro Tryz.prog N ops Q rest (cP ρ d (.bool true)) w):
  WL ro Tryz.prog N ops Q (⟨some d,.binOp .neq 33 x y u,ty,pos,af,none⟩::rest) ρ w:=aV rfl rfl hN (I2 hx hy h) kk
theorem HN (hx:ev ρ x=.agg #[.bool s,.string a,.int .i64 e]) (hy:ev ρ y=.agg #[.bool s',.string a',.int .i64 e']) (h:NR.mk s a e=NR.mk s' a' e') (hN:d<N) (kk:WL ro Tryz.prog N ops Q rest (cP ρ d (.bool false)) w):
  WL ro Tryz.prog N ops Q (⟨some d,.binOp .neq 33 x y u,ty,pos,af,none⟩::rest) ρ w:=aV rfl rfl hN (HL hx hy h) kk
end
theorem kz (s:Bool) (a:ByteArray) (n:Int) (w:World) (hT:dP w) (ha:a.size≤100000000) (h1: -1000000000≤n) (h2:n≤1000000000):
  Calls Tryz.prog 124 #[.agg #[.bool s,.string a],.int .i64 n] w fun e w'=>e=.returned (.agg #[.bool (iN (BJ (iv s a) n)),.string (iM (BJ (iv s a) n))])∧Below w.heap.size w w':=by
 unfold BJ;by_cases h:0≤n
 ·rw [Yt h];obtain ⟨m,rfl⟩:=abK h;rw [ZY];exact F6 s a m w ha Yo
 ·rw [Yu h];obtain ⟨m,hm⟩:=abK (show 0≤ -n by omega);rw [hm,ZY,show n= -(m:Int) by omega];exact Fp s a m w hT ha Yo Yo
theorem gH (s:Bool) (a:ByteArray) (e:Int) (w:World) (hT:dP w) (ha:a.size≤100000000) (h1: -1000000000000≤e) (h2:e≤1000000000000):
  Calls Tryz.prog 78 #[.agg #[.bool s,.string a],.int .i64 e] w fun r w'=>r=.returned (.agg #[.bool (nR (Dyadic.ofIntWithPrec (iv s a) (-e))).neg,.string (nR (Dyadic.ofIntWithPrec (iv s a) (-e))).aY,.int .i64 (nR (Dyadic.ofIntWithPrec (iv s a) (-e))).e])∧Below w.heap.size w w':=by
 have hh:=Hp.start w;by_cases h0:iv s a=0
 ·rw [h0,iF,m7];refine aj (N:=21) (l:=[.agg #[.bool s,.string a],.int .i64 e]) Tryz.func78 rfl rfl (by simp) ?_;refine sr ?_;refine bO hh [_,_] ?_;intro b2 w2 hh;refine bC hh ?_;intro b4 w4 hh;refine aa (ah (sr ?_));refine bJ hh 1 [_,_] ?_;refine bj hh (jF s a _) rfl ?_;intro w7 hh;rw [h0];refine cH (aa (cT (sr ?_)));refine fe [_,_,_] ?_;exact Ms
 ·have hs:(iv s a).sign≠0:=by rw [ne_eq,Int.sign_eq_zero_iff_zero];exact h0
  rw [sv h0];have hz:bN a≠0:=fun h=>h0 ((HP s a).2 h);have htz:tz (bN a)<8*a.size+1:=by
   have:=yR a;rw [show (256:Nat)=2^8 from rfl,←Zk] at this;have:=zf hz this;omega
  have hsh:BJ (iv s a) (-(tz (bN a):Int))=iv s a/2^tz (bN a):=by
   unfold BJ;split
   ·have:tz (bN a)=0:=Yo;rw [this];simp
   ·rw [Int.neg_neg,ZY]
  refine aj (N:=21) (l:=[.agg #[.bool s,.string a],.int .i64 e]) Tryz.func78 rfl rfl (by simp) ?_;refine sr ?_;refine bO hh [_,_] ?_;intro b2 w2 hh;refine bC hh ?_;intro b4 w4 hh;refine aa (ah (sr ?_));refine bJ hh 1 [_,_] ?_;refine bj hh (jF s a _) rfl ?_;intro w7 hh;refine cH (aa (cF (aq (ai (sr (bo ?_))))));refine bp hh 1 ?_;refine bj hh (kV a _ Yo (hT.hp hh)) rfl ?_;intro w12 hh;refine aI (aa (sr ?_));refine bJ hh 1 [_,_] (mI ?_);refine zi ?_;refine bj hh (kz s a (-(tz (bN a):Int)) _ (hT.hp hh) ha Yo Yo) rfl ?_;intro w16 hh;rw [hsh];refine mI (mI ?_);refine a8 ?_;refine fe [_,_,_] ?_;exact DF
def NR.ok (a:NR):Prop:=a.aY.size≤1000000∧ -10000000≤a.e∧a.e≤10000000
theorem Sz.ok {x:Dyadic} (h:Sz k x) (hk:k≤3999990):(nR x).ok:=by
 have:=h.nr;refine ⟨Yo,Yo,Yo⟩
theorem kM (n:Int) (w:World) (hT:dP w) (h1: -9223372036854775808≤n) (h2:n≤9223372036854775807):
  Calls Tryz.prog 38 #[.int .i64 n] w fun r w'=>r=.returned (.agg #[.bool (nR (n:Dyadic)).neg,.string (nR (n:Dyadic)).aY,.int .i64 (nR (n:Dyadic)).e])∧Below w.heap.size w w':=by
 have hh:=Hp.start w;have hsz:(iM n).size≤100000000:=by
  rw [dL];have:bE n.natAbs≤64:=dy Yo;omega
 have hc:∀w1,dP w1→Calls Tryz.prog 78 #[.agg #[.bool (iN n),.string (iM n)],.int .i64 0] w1 fun r w'=>r=.returned (.agg #[.bool (nR (n:Dyadic)).neg,.string (nR (n:Dyadic)).aY,.int .i64 (nR (n:Dyadic)).e])∧Below w1.heap.size w1 w':=fun w1 hT1=>by
  have:=gH (iN n) (iM n) 0 w1 hT1 hsz Yo Yo;rw [eY] at this;exact this
 refine aj (N:=6) (l:=[.int .i64 n]) Tryz.func38 rfl rfl (by simp) ?_;refine sr ?_;refine bC hh ?_;intro b2 w2 hh;refine aa (sr (mI ?_));refine bj hh (l9 n _ h1 h2) rfl ?_;intro w4 hh;refine bj hh (hc _ (hT.hp hh)) rfl ?_;intro w5 hh;exact DF
theorem eo (a:NR) (w:World) (hT:dP w) (ha:a.aY.size≤100000000) (h1: -1000000000000≤a.e) (h2:a.e≤1000000000000):
  Calls Tryz.prog 70 #[.agg #[.bool a.neg,.string a.aY,.int .i64 a.e]] w fun r w'=>r=.returned (.agg #[.bool (nR a.d).neg,.string (nR a.d).aY,.int .i64 (nR a.d).e])∧Below w.heap.size w w':=by
 have hh:=Hp.start w;refine aj (N:=8) (l:=[.agg #[.bool a.neg,.string a.aY,.int .i64 a.e]]) Tryz.func70 rfl rfl (by simp) ?_;refine sr ?_;refine bO hh [_,_,_] ?_;intro b1 w1 hh;refine bC hh ?_;intro b2 w2 hh;refine aa (sr (bo ?_));refine bJ hh 1 [_,_] (bo ?_);refine bp hh 1 ?_;refine bj hh (gH a.neg a.aY a.e _ (hT.hp hh) ha h1 h2) rfl ?_;intro w7 hh;exact DF
theorem cL (a:NR) (w:World):
  Calls Tryz.prog 42 #[.agg #[.bool a.neg,.string a.aY,.int .i64 a.e]] w fun r w'=>r=.returned (.int .i64 a.i.sign)∧Below w.heap.size w w':=by
 have hh:=Hp.start w;refine aj (N:=6) (l:=[.agg #[.bool a.neg,.string a.aY,.int .i64 a.e]]) Tryz.func42 rfl rfl (by simp) ?_;refine sr ?_;refine bO hh [_,_,_] ?_;intro b1 w1 hh;refine aI (aa (sr (bo ?_)));refine bJ hh 0 [_,_] ?_;refine bj hh (jF a.neg a.aY _) rfl ?_;intro w5 hh;exact BF
theorem j8 (a:NR) (w:World) (hT:dP w) (ha:a.aY.size≤100000000) (h1: -1000000000000≤a.e) (h2:a.e≤1000000000000):
  Calls Tryz.prog 43 #[.agg #[.bool a.neg,.string a.aY,.int .i64 a.e]] w fun r w'=>r=.returned (.agg #[.bool (nR (-a.d)).neg,.string (nR (-a.d)).aY,.int .i64 (nR (-a.d)).e])∧Below w.heap.size w w':=by
 have hh:=Hp.start w;have hc:∀w1,dP w1→Calls Tryz.prog 78 #[.agg #[.bool (iN (-(iv a.neg a.aY))),.string (iM (-(iv a.neg a.aY)))],.int .i64 a.e] w1 fun r w'=>r=.returned (.agg #[.bool (nR (-a.d)).neg,.string (nR (-a.d)).aY,.int .i64 (nR (-a.d)).e])∧Below w1.heap.size w1 w':=fun w1 hT1=>by
  have hs:=lK a.neg a.aY;have:=gH (iN (-(iv a.neg a.aY))) (iM (-(iv a.neg a.aY))) a.e w1 hT1 Yo h1 h2;rw [eY,←I5] at this;exact this
 refine aj (N:=9) (l:=[.agg #[.bool a.neg,.string a.aY,.int .i64 a.e]]) Tryz.func43 rfl rfl (by simp) ?_;refine sr ?_;refine bO hh [_,_,_] ?_;intro b1 w1 hh;refine bC hh ?_;intro b2 w2 hh;refine aa (ah ?_);refine aK 5 [[(1,none)],[(3,some 0)],[(4,some 1)],[(1,none)],[(6,some 3)]] [(4,7),(3,6),(2,5),(1,4),(0,3)] hh mixed Yq ?_;refine dR ?_;refine dK 1 [_,_] ?_;refine dC (fun _ hj=>j9 a.neg a.aY _) ?_;refine dR ?_;refine fW 1 ?_;refine aH ?_;intro f W hJ hV;have hb_1:=hJ.bl;obtain ⟨v7,v6,v5,v4,v3,_⟩:=hV;replace hh:=hJ.hp;refine aN (a6 (ae v7 (ae v6 (ae v5 (ae v4 (ae v3 aO)))))) ?_;dsimp only [bP];clear hJ;refine bj hh (hc _ (hT.hp hh)) rfl ?_;intro w8 hh;exact DF
theorem yp (s:Int) (a:NR) (w:World) (hT:dP w) (ha:a.aY.size≤100000000) (h1: -1000000000≤a.e-s) (h2:a.e-s≤1000000000):
  Calls Tryz.prog 116 #[.int .i64 s,.agg #[.bool a.neg,.string a.aY,.int .i64 a.e]] w fun r w'=>r=.returned (.agg #[.bool (iN (BJ a.i (a.e-s))),.string (iM (BJ a.i (a.e-s)))])∧Below w.heap.size w w':=by
 have hh:=Hp.start w;refine aj (N:=12) (l:=[.int .i64 s,.agg #[.bool a.neg,.string a.aY,.int .i64 a.e]]) Tryz.func116 rfl rfl (by simp) ?_;refine sr ?_;refine bO hh [_,_,_] ?_;intro b3 w3 hh;refine bC hh ?_;intro b4 w4 hh;refine aa (sr (bo ?_));refine bJ hh 1 [_,_] (bo ?_);refine bp hh 1 ?_;refine mI ?_;refine ee ?_;refine bj hh (kz a.neg a.aY (a.e-s) _ (hT.hp hh) ha h1 h2) rfl ?_;intro w11 hh;exact Ej
theorem F4 (x:Dyadic) (p:Int):BJ (nR x).i ((nR x).e - -p)=du x p:=by
 cases x with
 |zero=>exact LQ _
 |ofOdd n k h=>
  simp only [nR,NR.i,eY,du];congr 1;omega
theorem lN (x:Dyadic):nR x=⟨false,ByteArray.mk #[],0⟩↔x=0:=by rw [←m7,Uw]
theorem ld {a:NR} (h:a.ok):Sz 18000000 a.d∧(nR a.d).aY.size≤1000000∧ -18000000≤(nR a.d).e∧(nR a.d).e≤18000000:=by
 obtain ⟨h1,h2,h3⟩:=h;refine ⟨Sz.raw (m:=8000000) (E:=10000000) Yo Yo Yo, ?_⟩;by_cases h0:iv a.neg a.aY=0
 ·rw [NR.d,NR.i,h0,iF,m7];exact ⟨Yx _,by simp,by simp⟩
 ·rw [NR.d,NR.i,sv h0];have hz:bN a.aY≠0:=fun h=>h0 ((HP a.neg a.aY).2 h);have htz:tz (bN a.aY)<8*a.aY.size+1:=by
   have:=yR a.aY;rw [show (256:Nat)=2^8 from rfl,←Zk] at this;have:=zf hz this;omega
  have hb:bE (iv a.neg a.aY/2^tz (bN a.aY)).natAbs≤8*a.aY.size:=by
   apply dy;refine Zr (abd _ _) ?_;rw [k5];exact Zl (cR _) (Zf Yo (ik _))
  simp only;rw [dL];refine ⟨Yo,Yo,Yo⟩
theorem qS (a b:NR) (w:World) (hT:dP w) (ha:a.ok) (hb:b.ok):
  Calls Tryz.prog 68 #[.agg #[.bool a.neg,.string a.aY,.int .i64 a.e],.agg #[.bool b.neg,.string b.aY,.int .i64 b.e]] w fun r w'=>r=.returned (.agg #[.int .i64 (-(dQ a.d b.d)),.bool (iN (du a.d (dQ a.d b.d))),.string (iM (du a.d (dQ a.d b.d))),.bool (iN (du b.d (dQ a.d b.d))),.string (iM (du b.d (dQ a.d b.d)))])∧Below w.heap.size w w':=by
 have hh:=Hp.start w;obtain ⟨ha1,ha2,ha3⟩:=ha;obtain ⟨hb1,hb2,hb3⟩:=hb;obtain ⟨_,fa1,fa2,fa3⟩:=ld (a:=a) ⟨ha1,ha2,ha3⟩;obtain ⟨_,fb1,fb2,fb3⟩:=ld (a:=b) ⟨hb1,hb2,hb3⟩;have hP:=HK a.d b.d 18000000 Yo Yo;have hcx:=fun w1 hT1=>yp (-(dQ a.d b.d)) (nR a.d) w1 hT1 Yo Yo Yo;have hcy:=fun w1 hT1=>yp (-(dQ a.d b.d)) (nR b.d) w1 hT1 Yo Yo Yo;rw [F4] at hcx hcy;by_cases h0:a.d=0
 ·have h0':=(lN a.d).2 h0;have hs:(nR b.d).e= -(dQ a.d b.d):=by
   rw [h0]
   cases b.d with
   |zero=>rfl
   |ofOdd n k h=>rfl
  refine MB ?_;refine sr ?_;refine bO hh [_,_,_] ?_;intro b2 w2 hh;refine bO hh [_,_,_] ?_;intro b3 w3 hh;refine bC hh ?_;intro b4 w4 hh;refine aa (ah ?_);refine Ll ?_;refine dK 2 [_,_,_] ?_;refine Og ?_;refine dK 1 [_,_,_] ?_;refine aH ?_;intro f W hJ hV;have hb_1:=hJ.bl;obtain ⟨v9,v8,v7,_⟩:=hV;replace hh:=hJ.hp;refine aN (a6 (ae v9 (ae v8 (ae v7 aO)))) ?_;dsimp only [bP];clear hJ;refine bj hh (eo b _ (hT.hp hh) Yo Yo Yo) rfl ?_;intro w10 hh;refine bg hh 2 [_,_,_] ?_;intro ws hh;replace hh:Hp _ (_::_::.blk _ _ [_,_,_] _::_) _:=hh;refine bg hh 1 [_,_,_] ?_;intro ws hh;replace hh:Hp _ (_::.blk _ _ [_,_,_] _::_) _:=hh;refine aa (sr (bo ?_));refine bp hh 2 ?_;refine bo ?_;refine bp hh 1 ?_;refine zZ rfl rfl Yp ?_;refine aI (aa (ah (ar (sr ?_))));refine bJ hh 2 [_,_,_] ?_;refine fe [_,_,_] ?_;refine GH rfl rfl (by first|assumption|rfl) Yp ?_;refine aB (aa (cT (ak (bo ?_))));refine bp hh 1 ?_;refine aI (aD (bz (ai (sr ?_))));exact W5
 ·have h0':¬nR a.d=⟨false,ByteArray.mk #[],0⟩:=fun h=>h0 ((lN _).1 h);by_cases h1:b.d=0
  ·have h1':=(lN b.d).2 h1;have hs:(nR a.d).e= -(dQ a.d b.d):=by
    rw [h1]
    cases a.d with
    |zero=>rfl
    |ofOdd n k h=>rfl
   refine MB ?_;refine sr ?_;refine bO hh [_,_,_] ?_;intro b2 w2 hh;refine bO hh [_,_,_] ?_;intro b3 w3 hh;refine bC hh ?_;intro b4 w4 hh;refine aa (ah ?_);refine Ll ?_;refine dK 2 [_,_,_] ?_;refine Og ?_;refine dK 1 [_,_,_] ?_;refine aH ?_;intro f W hJ hV;have hb_1:=hJ.bl;obtain ⟨v9,v8,v7,_⟩:=hV;replace hh:=hJ.hp;refine aN (a6 (ae v9 (ae v8 (ae v7 aO)))) ?_;dsimp only [bP];clear hJ;refine bj hh (eo b _ (hT.hp hh) Yo Yo Yo) rfl ?_;intro w10 hh;refine bg hh 2 [_,_,_] ?_;intro ws hh;replace hh:Hp _ (_::_::.blk _ _ [_,_,_] _::_) _:=hh;refine bg hh 1 [_,_,_] ?_;intro ws hh;replace hh:Hp _ (_::.blk _ _ [_,_,_] _::_) _:=hh;refine aa (sr (bo ?_));refine bp hh 2 ?_;refine bo ?_;refine bp hh 1 ?_;refine zZ rfl rfl Yp ?_;refine aI (aa (ah (ar (sr ?_))));refine bJ hh 2 [_,_,_] ?_;refine fe [_,_,_] ?_;refine AL rfl rfl (by assumption) Yp ?_;refine aB (aa (cF (sr ?_)));refine bJ hh 1 [_,_,_] ?_;refine fe [_,_,_] ?_;refine GH rfl rfl (by first|assumption|rfl) Yp ?_;refine aB (aa (cT (ak (bo ?_))));refine bp hh 2 ?_;refine aI (aD (bz (ai (sr ?_))));exact W5
  ·have h1':¬nR b.d=⟨false,ByteArray.mk #[],0⟩:=fun h=>h1 ((lN _).1 h);have hs:(if (nR b.d).e<(nR a.d).e then (nR b.d).e else (nR a.d).e)= -(dQ a.d b.d):=by
    revert h0 h1
    cases a.d with
    |zero=>intro h;exact absurd rfl h
    |ofOdd n k h=>
     cases b.d with
     |zero=>intro _ h;exact absurd rfl h
     |ofOdd m l g=>
      intro _ _;simp only [nR,dQ];omega
   refine MB ?_;refine sr ?_;refine bO hh [_,_,_] ?_;intro b2 w2 hh;refine bO hh [_,_,_] ?_;intro b3 w3 hh;refine bC hh ?_;intro b4 w4 hh;refine aa (ah ?_);refine Ll ?_;refine dK 2 [_,_,_] ?_;refine Og ?_;refine dK 1 [_,_,_] ?_;refine aH ?_;intro f W hJ hV;have hb_1:=hJ.bl;obtain ⟨v9,v8,v7,_⟩:=hV;replace hh:=hJ.hp;refine aN (a6 (ae v9 (ae v8 (ae v7 aO)))) ?_;dsimp only [bP];clear hJ;refine bj hh (eo b _ (hT.hp hh) Yo Yo Yo) rfl ?_;intro w10 hh;refine bg hh 2 [_,_,_] ?_;intro ws hh;replace hh:Hp _ (_::_::.blk _ _ [_,_,_] _::_) _:=hh;refine bg hh 1 [_,_,_] ?_;intro ws hh;replace hh:Hp _ (_::.blk _ _ [_,_,_] _::_) _:=hh;refine aa (sr (bo ?_));refine bp hh 2 ?_;refine bo ?_;refine bp hh 1 ?_;refine zZ rfl rfl Yp ?_;refine aI (aa (ah (ar (sr ?_))));refine bJ hh 2 [_,_,_] ?_;refine fe [_,_,_] ?_;refine AL rfl rfl (by assumption) Yp ?_;refine aB (aa (cF (sr ?_)));refine bJ hh 1 [_,_,_] ?_;refine fe [_,_,_] ?_;refine AL rfl rfl (by assumption) Yp ?_;refine aB (aa (cF (aq (bz (ai (sr ?_))))));exact W5
end
def gE (x y:Dyadic):Int:=if x<y then -1 else if y<x then 1 else 0
theorem B9 (i j p:Int):(i-j).sign=gE (Dyadic.ofIntWithPrec i p) (Dyadic.ofIntWithPrec j p):=by
 unfold gE;simp only [mz]
 rcases abp i j with h|h|h
 ·rw [Yt h,Z1 Yo]
 ·subst h;simp
 ·rw [Yu Yo,Yt h,Z8 Yo]
theorem F8 (i p:Int):i.sign=gE (Dyadic.ofIntWithPrec i p) 0:=by
 have:=B9 i 0 p;rwa [Int.sub_zero,iF] at this
theorem NR.sign (a:NR):a.i.sign=gE a.d 0:=F8 _ _
theorem Ea (x y:Dyadic):(du x (dQ x y)-du y (dQ x y)).sign=gE x y:=by
 rw [B9 _ _ (dQ x y),Ls,Lx]
theorem Ke (X Y:Int) (h:X.sign≠Y.sign):(if (if X.sign-Y.sign<1 then X.sign-Y.sign else 1)> -1 then (if X.sign-Y.sign<1 then X.sign-Y.sign else 1) else -1)=(X-Y).sign:=by
 rcases abp X 0 with hx|hx|hx<;>rcases abp Y 0 with hy|hy|hy
 ·rw [Z1 hx,Z1 hy] at h;omega
 ·rw [Z1 hx,hy,Int.sub_zero,Z1 hx];simp
 ·rw [Z1 hx,Z8 hy,Z1 Yo];simp
 ·subst hx;rw [Int.sign_zero,Z1 hy,Z8 (a:=0-Y) Yo];simp
 ·rw [hx,hy] at h;omega
 ·subst hx;rw [Int.sign_zero,Z8 hy,Z1 (a:=0-Y) Yo];simp
 ·rw [Z8 hx,Z1 hy,Z8 Yo];simp
 ·rw [Z8 hx,hy,Int.sub_zero,Z8 hx];simp
 ·rw [Z8 hx,Z8 hy] at h;omega
theorem sF {a b:NR} (ha:a.ok) (hb:b.ok):(iM (du a.d (dQ a.d b.d))).size≤6000000∧(iM (du b.d (dQ a.d b.d))).size≤6000000∧ -18000000≤dQ a.d b.d∧dQ a.d b.d≤18000000:=by
 obtain ⟨_,fa1,fa2,fa3⟩:=ld ha;obtain ⟨_,fb1,fb2,fb3⟩:=ld hb;have hP:=HK a.d b.d 18000000 Yo Yo;have h1:=xp a.d (dQ a.d b.d);have h2:=xp b.d (dQ a.d b.d);rw [dL,dL];refine ⟨Yo,Yo,hP.1,hP.2⟩
theorem rj (i:Int): -1≤i.sign∧i.sign≤1:=by
 rcases abp i 0 with h|h|h
 ·rw [Z1 h];omega
 ·rw [h];simp
 ·rw [Z8 h];omega
theorem jo (a b:NR) (w:World) (hT:dP w) (ha:a.ok) (hb:b.ok):
  Calls Tryz.prog 26 #[.agg #[.bool a.neg,.string a.aY,.int .i64 a.e],.agg #[.bool b.neg,.string b.aY,.int .i64 b.e]] w fun r w'=>r=.returned (.int .i64 (gE a.d b.d))∧Below w.heap.size w w':=by
 have hh:=Hp.start w;obtain ⟨hs1,hs2,_⟩:=sF ha hb;have hsa:a.i.sign=(du a.d (dQ a.d b.d)).sign:=by rw [NR.sign,F8 _ (dQ a.d b.d),Ls]
 have hsb:b.i.sign=(du b.d (dQ a.d b.d)).sign:=by rw [NR.sign,F8 _ (dQ a.d b.d),Lx]
 have hba:=rj a.i;have hbb:=rj b.i;by_cases hne:a.i.sign=b.i.sign
 ·refine Q8 ?_;refine sr ?_;refine bO hh [_,_,_] ?_;intro b2 w2 hh;refine bO hh [_,_,_] ?_;intro b3 w3 hh;refine aI (aa (ah (ah ?_)));refine aK 3 [[(2,none)],[(8,some 0)],[(3,none)]] [(2,10),(1,9),(0,8)] hh mixed Yq ?_;refine dK 1 [_,_,_] ?_;refine dC (fun _ hj=>cL a _) ?_;refine dK 0 [_,_,_] ?_;refine aH ?_;intro f W hJ hV;have hb_1:=hJ.bl;obtain ⟨v10,v9,v8,_⟩:=hV;replace hh:=hJ.hp;refine aN (a6 (ae v10 (ae v9 (ae v8 aO)))) ?_;dsimp only [bP];clear hJ;refine bj hh (cL b _) rfl ?_;intro w11 hh;refine aI (aI (aa (sr (mI (mI ?_)))));refine qY ?_;refine bJ hh 1 [_,_,_] ?_;refine bJ hh 0 [_,_,_] ?_;refine bj hh (qS a b _ (hT.hp hh) ha hb) rfl ?_;intro w22 hh;refine bC hh ?_;intro b7 w7 hh;refine bg hh 0 [_,_,_,_,_] ?_;intro ws hh;replace hh:Hp _ (.blk _ _ [_,_,_,_,_] _::_) _:=hh;refine aa (sr (bo ?_));refine bJ hh 0 [_,_] (bo ?_);refine bJ hh 0 [_,_] ?_;refine bj hh (F5 _ _ _ _ _ Yo Yo) rfl ?_;intro w27 hh;rw [eY,eY,Ea];exact BF
 ·refine Q8 ?_;refine sr ?_;refine bO hh [_,_,_] ?_;intro b2 w2 hh;refine bO hh [_,_,_] ?_;intro b3 w3 hh;refine aI (aa (ah (ah ?_)));refine aK 3 [[(2,none)],[(8,some 0)],[(3,none)]] [(2,10),(1,9),(0,8)] hh mixed Yq ?_;refine dK 1 [_,_,_] ?_;refine dC (fun _ hj=>cL a _) ?_;refine dK 0 [_,_,_] ?_;refine aH ?_;intro f W hJ hV;have hb_1:=hJ.bl;obtain ⟨v10,v9,v8,_⟩:=hV;replace hh:=hJ.hp;refine aN (a6 (ae v10 (ae v9 (ae v8 aO)))) ?_;dsimp only [bP];clear hJ;refine bj hh (cL b _) rfl ?_;intro w11 hh;refine aI (aI (aa (sr (mI (mI ?_)))));refine dn (aa (cT (sr (mI (mI ?_)))));refine ee ?_;refine zZ rfl rfl Yp ?_;refine k9 rfl rfl Yp ?_;refine aI (aa (av (aF ?_)));refine dH ?_;refine ⟨?_,hh.below⟩;rw [hsa,hsb] at hne;rw [hsa,hsb,←Ea a.d b.d,←Ke _ _ hne]
theorem Fl (a:NR) (w:World) (hT:dP w) (ha:a.aY.size≤100000000) (h1: -1000000000000≤a.e) (h2:a.e≤1000000000000):
  Calls Tryz.prog 27 #[.agg #[.bool a.neg,.string a.aY,.int .i64 a.e]] w fun r w'=>r=.returned (.agg #[.bool (nR (if a.d<0 then -a.d else a.d)).neg,.string (nR (if a.d<0 then -a.d else a.d)).aY,.int .i64 (nR (if a.d<0 then -a.d else a.d)).e])∧Below w.heap.size w w':=by
 have hh:=Hp.start w;have hs:=NR.sign a;by_cases h0:a.d<0
 ·have hs2:a.i.sign= -1:=by rw [hs,gE,Yt h0]
  rw [Yt h0];refine aj (N:=10) (l:=[.agg #[.bool a.neg,.string a.aY,.int .i64 a.e]]) Tryz.func27 rfl rfl (by simp) ?_;refine sr ?_;refine bO hh [_,_,_] ?_;intro b1 w1 hh;refine bC hh ?_;intro b2 w2 hh;refine aa (ah (sr ?_));refine bJ hh 1 [_,_,_] ?_;refine bj hh (cL a _) rfl ?_;intro w4 hh;rw [hs2];refine a9 (aa (cT (sr ?_)));refine bJ hh 1 [_,_,_] ?_;refine bj hh (j8 a _ (hT.hp hh) ha h1 h2) rfl ?_;intro w7 hh;exact Ms
 ·have hs2:¬a.i.sign<0:=by rw [hs,gE,Yu h0];split<;>omega
  rw [Yu h0];refine aj (N:=10) (l:=[.agg #[.bool a.neg,.string a.aY,.int .i64 a.e]]) Tryz.func27 rfl rfl (by simp) ?_;refine sr ?_;refine bO hh [_,_,_] ?_;intro b1 w1 hh;refine bC hh ?_;intro b2 w2 hh;refine aa (ah (sr ?_));refine bJ hh 1 [_,_,_] ?_;refine bj hh (cL a _) rfl ?_;intro w4 hh;refine a9 (aa (cF (aq (ai (sr ?_)))));refine bJ hh 1 [_,_,_] ?_;refine bj hh (eo a _ (hT.hp hh) ha h1 h2) rfl ?_;intro w9 hh;exact DF
def ir (n:Int):Dyadic:=Dyadic.ofIntWithPrec 1 (-n)
theorem Ab (i p n:Int):Dyadic.ofIntWithPrec i (p-n)=Dyadic.ofIntWithPrec i p*ir n:=by
 rw [ir,oW,Int.mul_one];rfl
theorem ng (a:NR) (n:Int) (w:World) (hT:dP w) (ha:a.aY.size≤100000000) (h1: -100000000000≤a.e) (h2:a.e≤100000000000) (h3: -100000000000≤n) (h4:n≤100000000000):
  Calls Tryz.prog 37 #[.agg #[.bool a.neg,.string a.aY,.int .i64 a.e],.int .i64 n] w fun r w'=>r=.returned (.agg #[.bool (nR (a.d*ir n)).neg,.string (nR (a.d*ir n)).aY,.int .i64 (nR (a.d*ir n)).e])∧Below w.heap.size w w':=by
 have hh:=Hp.start w;have e1:Dyadic.ofIntWithPrec (iv a.neg a.aY) (-(a.e+n))=a.d*ir n:=by
  rw [NR.d,NR.i,←Ab];congr 1;omega
 have hc:=fun w1 hT1=>gH a.neg a.aY (a.e+n) w1 hT1 ha Yo Yo;rw [e1] at hc;refine aj (N:=12) (l:=[.agg #[.bool a.neg,.string a.aY,.int .i64 a.e],.int .i64 n]) Tryz.func37 rfl rfl (by simp) ?_;refine sr ?_;refine bO hh [_,_,_] ?_;intro b2 w2 hh;refine bC hh ?_;intro b4 w4 hh;refine aa (sr (bo ?_));refine bJ hh 1 [_,_] (bo ?_);refine bp hh 1 ?_;refine mI ?_;refine a8 ?_;refine bj hh (hc _ (hT.hp hh)) rfl ?_;intro w11 hh;exact DF
def nt:List Dyadic→Dyadic:=fun l=>l.foldl (· + ·) 0
theorem ym (l:List Dyadic) (x:Dyadic):nt (l++[x])=nt l+x:=by simp [nt]
theorem Sz.sum {l:List Dyadic} (h:∀x∈l,Sz k x):Sz (k+l.length) (nt l):=by
 have:∀(n:Nat),n≤l.length→Sz (k+n) (nt (l.take n)):=by
  intro n
  induction n with
  |zero=>intro _;exact Sz.zero _
  |succ n ih=>
   intro hn;obtain ⟨x,hx⟩:=ao (l:=l) (k:=n) Yo;rw [aw hx,ym];exact (ih Yo).add ((h x (Yy hx)).mono Yo)
 have h2:=this l.length (YA _);rwa [abD] at h2
theorem wI (a b:NR) (w:World) (hT:dP w) (ha:a.ok) (hb:b.ok):
  Calls Tryz.prog 78 #[.agg #[.bool (iN (du a.d (dQ a.d b.d)+du b.d (dQ a.d b.d))),.string (iM (du a.d (dQ a.d b.d)+du b.d (dQ a.d b.d)))],.int .i64 (-(dQ a.d b.d))] w fun r w'=>r=.returned (.agg #[.bool (nR (a.d+b.d)).neg,.string (nR (a.d+b.d)).aY,.int .i64 (nR (a.d+b.d)).e])∧Below w.heap.size w w':=by
 obtain ⟨hs1,hs2,hP1,hP2⟩:=sF ha hb;rw [dL] at hs1 hs2;have h3:=mZ (du a.d (dQ a.d b.d)) (du b.d (dQ a.d b.d));have:=gH (iN (du a.d (dQ a.d b.d)+du b.d (dQ a.d b.d))) (iM (du a.d (dQ a.d b.d)+du b.d (dQ a.d b.d))) (-(dQ a.d b.d)) w hT (by rw [dL];omega) Yo Yo;rw [eY,Int.neg_neg,Pp] at this;exact this
theorem iH (L:Option Addr) (n c:Nat) (l:List NR) (w:World) (hT:dP w) (hS:Sl w L n 3 (aA NR.cells l)) (hl:∀a∈l,a.ok) (k:Nat) (hk:∀a∈l,Sz k a.d) (hkn:k+n≤3999990):
  Calls Tryz.prog 63 #[.slice L n c] w fun r w'=>r=.returned (.agg #[.bool (nR (nt (l.map NR.d))).neg,.string (nR (nt (l.map NR.d))).aY,.int .i64 (nR (nt (l.map NR.d))).e])∧Below w.heap.size w w':=by
 have hln:=hS.bk NR.len Yo;have hh:=Hp.start w;refine aj (N:=27) (l:=[.slice L n c]) Tryz.func63 rfl rfl (by simp) ?_;refine sr ?_;refine bC hh ?_;intro b2 w2 hh;refine aa (sr ?_);refine bC hh ?_;intro b3 w3 hh;refine vg ?_;refine aT [5,6,9,10,11,12,13,14,15,16,17,18,19,20,21,22,23,24,25] 9
  (fun j w'=>∃(i:Nat) (S:Dyadic),i≤n∧j=.int .i64 i∧S=nt ((l.take i).map NR.d)∧Hp w [.blk b3 33 [.bool (nR S).neg,.string (nR S).aY,.int .i64 (nR S).e] (0,0),.blk b2 33 [.bool false,.string (ByteArray.mk #[]),.int .i64 0] (0,0)] w')
  (fun j _=>n-(intOf j).toNat) ?_ ?_
 ·exact ⟨0,0,Yx _,rfl,rfl,hh⟩
 ·clear hh;rintro ρ' j w' ⟨i,S,hi,rfl,hS2,hh⟩;by_cases hlt:i<n
  ·obtain ⟨x,hx⟩:=ao (l:=l) (k:=i) Yo;obtain ⟨ad,rfl,hr⟩:=hS.at_ Yo;have hxm:=Yy hx;have hS3:nt ((l.take (i+1)).map NR.d)=S+x.d:=by rw [aw hx,ZD,aa6,ym,hS2]
   have hSz:Sz (k+i) S:=by
    rw [hS2];have:=Sz.sum (k:=k) (l:=(l.take i).map NR.d) (fun y hy=>by
     obtain ⟨a,ha,rfl⟩:=YF.1 hy;exact hk a (aad ha))
    rw [YI,YM,ZK Yo] at this;exact this
   have hSo:=hSz.ok Yo;have hlc:=fun w1 hT1=>qS (nR S) x w1 hT1 hSo (hl x hxm);have hmc:=fun w1 hT1=>wI (nR S) x w1 hT1 hSo (hl x hxm);obtain ⟨hs1,hs2,_⟩:=sF hSo (hl x hxm);rw [bL] at hlc hmc hs1 hs2;have e1:([iR (du S (dQ S x.d)),iR (du x.d (dQ S x.d))].map IR.v).sum=du S (dQ S x.d)+du x.d (dQ S x.d):=by
    simp only [Y6,Zv,List.sum_cons,List.sum_nil,Ul];omega
   have hac:∀(A:Option Addr) (cc:Nat) (w1:World),Sl w1 A 2 2 (aA IR.cells [iR (du S (dQ S x.d)),iR (du x.d (dQ S x.d))])→Calls Tryz.prog 112 #[.slice A 2 cc] w1 fun e w'=>e=.returned (.agg #[.bool (iN (du S (dQ S x.d)+du x.d (dQ S x.d))),.string (iM (du S (dQ S x.d)+du x.d (dQ S x.d)))])∧Below w1.heap.size w1 w':=fun A cc w1 hsl=>by
    have:=pT A 2 cc [iR (du S (dQ S x.d)),iR (du x.d (dQ S x.d))] w1 hsl Yo (by simp [iR];omega);rw [e1] at this;exact this
   refine sr ?_;refine dI ?_;refine bZ ?_;refine IF ?_;refine bC hh ?_;intro b5 w5 hh;refine bg hh 0 [_,_,_] ?_;intro ws hh;replace hh:Hp _ (.blk _ _ [_,_,_] _::_) _:=hh;refine aa (sr ?_);refine bJ hh 1 [_,_,_] ?_;refine bJ hh 0 [_,_,_] ?_;refine bj hh (hlc _ (hT.hp hh)) rfl ?_;intro w15 hh;refine bC hh ?_;intro b6 w6 hh;refine bg hh 0 [_,_,_,_,_] ?_;intro ws hh;replace hh:Hp _ (.blk _ _ [_,_,_,_,_] _::_) _:=hh;refine aa ?_;refine aK 8 [[(6,none)],[(16,some 0)],[(6,none)],[(18,some 2)],[(17,some 1),(19,some 3)],[(20,some 4)],[(6,none)],[(22,some 6)]] [(7,23),(6,22),(5,21),(4,20),(3,19),(2,18),(1,17),(0,16)] hh mixed Yq ?_;refine dR ?_;refine dK 0 [_,_] ?_;refine dR ?_;refine dK 0 [_,_] ?_;refine x3 [_,_,_,_] ?_;refine a7 (i:=5) (Is (.agg #[.bool (iN (du S (dQ S x.d)+du x.d (dQ S x.d))),.string (iM (du S (dQ S x.d)+du x.d (dQ S x.d)))])) Is.ext ?_ ?_
   ·intro ρ1 w1 hj hR;obtain ⟨A20,c20,h20,s20⟩:=hR.1;exact bV rfl (bf au.out (aC h20 bh)) (hac A20 c20 _ s20) (fun _ _ hq=>⟨_,hq.1,hq.2,rfl⟩)
   refine dR ?_;refine fW 0 ?_;refine aH ?_;intro f W hJ hV;have hb_6:=hJ.bl;obtain ⟨v23,v22,v21,v20,v19,v18,v17,v16,_⟩:=hV;obtain ⟨A20,c20,e20,f20⟩:Rows _ _ _ (f 4) W:=v20;replace hh:=hJ.hp;refine aN (a6 (ae v23 (ae v22 (ae v21 (ae e20 (ae v19 (ae v18 (ae v17 (ae v16 aO))))))))) ?_;dsimp only [bP];clear e20 hJ;refine bj hh (hmc _ (hT.hp hh)) rfl ?_;intro w24 hh;refine bg hh 2 [_,_,_] ?_;intro ws hh;replace hh:Hp _ (_::_::.blk _ _ [_,_,_] _::_) _:=hh;refine gu ?_;refine a8 (mI (aD (ai ?_)));replace hh:=hh.sub ((Zc _ _).trans (Zc _ _));exact Ss
  ·exact U1
theorem ki (x y:Dyadic):nt [x,y]=x+y:=by
 show (0+x)+y=x+y;rw [aaI]
theorem nc (a b:NR) (w:World) (hT:dP w) (ha:a.ok) (hb:b.ok) (k:Nat) (hka:Sz k a.d) (hkb:Sz k b.d) (hk:k≤3999980):
  Calls Tryz.prog 85 #[.agg #[.bool a.neg,.string a.aY,.int .i64 a.e],.agg #[.bool b.neg,.string b.aY,.int .i64 b.e]] w fun r w'=>r=.returned (.agg #[.bool (nR (a.d-b.d)).neg,.string (nR (a.d-b.d)).aY,.int .i64 (nR (a.d-b.d)).e])∧Below w.heap.size w w':=by
 have hh:=Hp.start w;obtain ⟨hb1,hb2,hb3⟩:=hb;have e1:nt ([a,nR (-b.d)].map NR.d)=a.d-b.d:=by
  simp only [Y6,Zv,bL,ki];rfl
 have hac:∀(A:Option Addr) (cc:Nat) (w1:World),dP w1→Sl w1 A 2 3 (aA NR.cells [a,nR (-b.d)])→Calls Tryz.prog 63 #[.slice A 2 cc] w1 fun r w'=>r=.returned (.agg #[.bool (nR (a.d-b.d)).neg,.string (nR (a.d-b.d)).aY,.int .i64 (nR (a.d-b.d)).e])∧Below w1.heap.size w1 w':=fun A cc w1 hT1 hsl=>by
  have:=iH A 2 cc [a,nR (-b.d)] w1 hT1 hsl (by simpa using ⟨ha,hkb.neg.ok Yo⟩) k (by simpa [bL] using ⟨hka,hkb.neg⟩) Yo;rw [e1] at this;exact this
 refine aj (N:=10) (l:=[.agg #[.bool a.neg,.string a.aY,.int .i64 a.e],.agg #[.bool b.neg,.string b.aY,.int .i64 b.e]]) Tryz.func85 rfl rfl (by simp) ?_;refine sr ?_;refine bO hh [_,_,_] ?_;intro b2 w2 hh;refine bO hh [_,_,_] ?_;intro b3 w3 hh;refine bC hh ?_;intro b4 w4 hh;refine aa (ah ?_);refine aK 3 [[(2,none)],[(3,none)],[(6,some 1)]] [(2,7),(1,6),(0,5)] hh mixed Yq ?_;refine dK 2 [_,_,_] ?_;refine dK 1 [_,_,_] ?_;refine dC (fun _ hj=>j8 b _ (hT.hp hj.hp) Yo Yo Yo) ?_;refine aH ?_;intro f W hJ hV;have hb_1:=hJ.bl;obtain ⟨v7,v6,v5,_⟩:=hV;replace hh:=hJ.hp;refine yX ?_;dsimp only [bP];clear hJ;refine rF ?_;intro b8 w8 hh;refine bj hh (hac _ _ _ (hT.hp hh) (hh.az (i:=0) rfl)) rfl ?_;intro w9 hh;exact K5
def iw:List Dyadic→Dyadic:=fun l=>l.foldl (· * ·) 1
theorem uU (l:List Dyadic) (x:Dyadic):iw (l++[x])=iw l*x:=by simp [iw]
theorem Sz.one:Sz 1 1:=⟨2,by decide+kernel,Yp⟩
theorem Sz.prod {l:List Dyadic} (h:∀x∈l,Sz k x):Sz (1+k*l.length) (iw l):=by
 have:∀(n:Nat),n≤l.length→Sz (1+k*n) (iw (l.take n)):=by
  intro n
  induction n with
  |zero=>intro _;exact Sz.one
  |succ n ih=>
   intro hn;obtain ⟨x,hx⟩:=ao (l:=l) (k:=n) Yo;rw [aw hx,uU];exact ((ih Yo).mul (h x (Yy hx))).mono (by rw [ZZ];omega)
 have h2:=this l.length (YA _);rwa [abD] at h2
theorem fZ (L:Option Addr) (n c:Nat) (l:List NR) (w:World) (hT:dP w) (hS:Sl w L n 3 (aA NR.cells l)) (hl:∀a∈l,a.ok) (k:Nat) (hk:∀a∈l,Sz k a.d) (hkn:k*n≤3999980) (hn:n≤1000000):
  Calls Tryz.prog 44 #[.slice L n c] w fun r w'=>r=.returned (.agg #[.bool (nR (iw (l.map NR.d))).neg,.string (nR (iw (l.map NR.d))).aY,.int .i64 (nR (iw (l.map NR.d))).e])∧Below w.heap.size w w':=by
 have hln:=hS.bk NR.len Yo;have hh:=Hp.start w;refine aj (N:=27) (l:=[.slice L n c]) Tryz.func44 rfl rfl (by simp) ?_;refine sr ?_;refine bC hh ?_;intro b2 w2 hh;refine aa (sr ?_);refine Cq ?_;intro w6 hh;refine bC hh ?_;intro b3 w3 hh;refine bg hh 0 [_,_,_] ?_;intro ws hh;replace hh:Hp _ (.blk _ _ [_,_,_] _::_) _:=hh;refine vg ?_;refine aT [5,9,10,11,12,13,14,15,16,17,18,19,20,21,22,23,24,25] 9
  (fun j w'=>∃(i:Nat) (S:Dyadic),i≤n∧j=.int .i64 i∧S=iw ((l.take i).map NR.d)∧Hp w [.blk b3 33 [.bool (nR S).neg,.string (nR S).aY,.int .i64 (nR S).e] (0,0),.blk b2 33 [.bool false,.string (ByteArray.mk #[]),.int .i64 0] (0,0)] w')
  (fun j _=>n-(intOf j).toNat) ?_ ?_
 ·exact ⟨0,_,Yx _,rfl,rfl,hh⟩
 ·clear hh;rintro ρ' j w' ⟨i,S,hi,rfl,hS2,hh⟩;by_cases hlt:i<n
  ·obtain ⟨x,hx⟩:=ao (l:=l) (k:=i) Yo;obtain ⟨ad,rfl,hr⟩:=hS.at_ Yo;have hxm:=Yy hx;have hS3:iw ((l.take (i+1)).map NR.d)=S*x.d:=by rw [aw hx,ZD,aa6,uU,hS2]
   have hSz:Sz (1+k*i) S:=by
    rw [hS2];have:=Sz.prod (k:=k) (l:=(l.take i).map NR.d) (fun y hy=>by
     obtain ⟨a,ha,rfl⟩:=YF.1 hy;exact hk a (aad ha))
    rw [YI,YM,ZK Yo] at this;exact this
   have hki:k*i≤k*n:=Y4 _ hi;obtain ⟨so1,so2,so3⟩:=hSz.ok Yo;obtain ⟨xo1,xo2,xo3⟩:=hl x hxm;have e1:n9 ([IR.mk (nR S).neg (nR S).aY,IR.mk x.neg x.aY].map IR.v)=(nR S).i*x.i:=by
    simp only [Y6,Zv,n9,Int.mul_one];rfl
   have e2:Dyadic.ofIntWithPrec ((nR S).i*x.i) (-((nR S).e+x.e))=S*x.d:=by
    have:=oW (nR S).i x.i (-(nR S).e) (-x.e);rw [Int.neg_add,←this];congr 1;exact bL S
   have hac:∀(A:Option Addr) (cc:Nat) (w1:World),Sl w1 A 2 2 (aA IR.cells [IR.mk (nR S).neg (nR S).aY,IR.mk x.neg x.aY])→Calls Tryz.prog 91 #[.slice A 2 cc] w1 fun e w'=>e=.returned (.agg #[.bool (iN ((nR S).i*x.i)),.string (iM ((nR S).i*x.i))])∧Below w1.heap.size w1 w':=fun A cc w1 hsl=>by
    have:=FM A 2 cc [IR.mk (nR S).neg (nR S).aY,IR.mk x.neg x.aY] w1 hsl Yo (by simp;omega);rw [e1] at this;exact this
   have hmc:∀w1,dP w1→Calls Tryz.prog 78 #[.agg #[.bool (iN ((nR S).i*x.i)),.string (iM ((nR S).i*x.i))],.int .i64 ((nR S).e+x.e)] w1 fun r w'=>r=.returned (.agg #[.bool (nR (S*x.d)).neg,.string (nR (S*x.d)).aY,.int .i64 (nR (S*x.d)).e])∧Below w1.heap.size w1 w':=fun w1 hT1=>by
    have hb1:=ij (nR S).neg (nR S).aY;have hb2:=ij x.neg x.aY;have hb3:=mF (nR S).i x.i;have:=gH (iN ((nR S).i*x.i)) (iM ((nR S).i*x.i)) ((nR S).e+x.e) w1 hT1 (by rw [dL];unfold NR.i at hb3 ⊢;omega) Yo Yo;rw [eY,e2] at this;exact this
   refine sr ?_;refine dI ?_;refine bZ ?_;refine IF ?_;refine bC hh ?_;intro b5 w5 hh;refine bg hh 0 [_,_,_] ?_;intro ws hh;replace hh:Hp _ (.blk _ _ [_,_,_] _::_) _:=hh;refine aa ?_;refine aK 11 [[(3,none)],[(13,some 0)],[(5,none)],[(15,some 2)],[(14,some 1),(16,some 3)],[(17,some 4)],[(3,none)],[(19,some 6)],[(5,none)],[(21,some 8)],[(20,some 7),(22,some 9)]] [(10,23),(9,22),(8,21),(7,20),(6,19),(5,18),(4,17),(3,16),(2,15),(1,14),(0,13)] hh mixed Yq ?_;refine dR ?_;refine dK 1 [_,_] ?_;refine dR ?_;refine dK 0 [_,_] ?_;refine x3 [_,_,_,_] ?_;refine a7 (i:=5) (Is (.agg #[.bool (iN ((nR S).i*x.i)),.string (iM ((nR S).i*x.i))])) Is.ext ?_ ?_
   ·intro ρ1 w1 hj hR;obtain ⟨A17,c17,h17,s17⟩:=hR.1;exact bV rfl (bf au.out (aC h17 bh)) (hac A17 c17 _ s17) (fun _ _ hq=>⟨_,hq.1,hq.2,rfl⟩)
   refine dR ?_;refine fW 1 ?_;refine dR ?_;refine fW 0 ?_;refine qT ?_;refine aH ?_;intro f W hJ hV;have hb_5:=hJ.bl;obtain ⟨v23,v22,v21,v20,v19,v18,v17,v16,v15,v14,v13,_⟩:=hV;obtain ⟨A17,c17,e17,f17⟩:Rows _ _ _ (f 4) W:=v17;replace hh:=hJ.hp;refine aN (a6 (ae v23 (ae v22 (ae v21 (ae v20 (ae v19 (ae v18 (ae e17 (ae v16 (ae v15 (ae v14 (ae v13 aO)))))))))))) ?_;dsimp only [bP];clear e17 hJ;refine bj hh (hmc _ (hT.hp hh)) rfl ?_;intro w24 hh;refine bg hh 1 [_,_,_] ?_;intro ws hh;replace hh:Hp _ (_::.blk _ _ [_,_,_] _::_) _:=hh;refine gu ?_;refine a8 (mI (aD (ai ?_)));replace hh:=hh.sub (Zc _ _);exact Ss
  ·exact U1
theorem O5 (i p:Int) (n:Nat):Dyadic.ofIntWithPrec i p^n=Dyadic.ofIntWithPrec (i^n) (p*n):=by
 induction n with
 |zero=>rw [abC];simp;rfl
 |succ n ih=>rw [Dyadic.pow_succ,ih,oW,Int.pow_succ,ZQ,Int.mul_add];simp
theorem V9 (i p:Int):(nR (Dyadic.ofIntWithPrec i p)).aY.size≤(bE i.natAbs+7)/8∧(i=0∨ -p≤(nR (Dyadic.ofIntWithPrec i p)).e∧(nR (Dyadic.ofIntWithPrec i p)).e≤ -p+bE i.natAbs)∧(i=0→(nR (Dyadic.ofIntWithPrec i p)).e=0):=by
 by_cases h0:i=0
 ·subst h0;rw [iF,m7];exact ⟨Yx _,.inl rfl,fun _=>rfl⟩
 ·have h2:=l7 h0;rw [Aa h0,nR];simp only;refine ⟨?_,.inr ⟨Yo, ?_⟩,fun h=>absurd h h0⟩
  ·rw [dL];have:bE (i>>>i.trailingZeros).natAbs≤bE i.natAbs:=by
    apply dy;refine Zr ?_ (cR _);rw [Int.shiftRight_eq_div_pow];exact abd _ _
   omega
  ·have h3:2^i.trailingZeros<2^bE i.natAbs:=Zr h2 (cR _);have:=(Nat.pow_lt_pow_iff_right Yo).1 h3;omega
theorem vJ (a:NR) (n:Int) (w:World) (hT:dP w) (ha:a.ok) (hs:n.toNat*a.aY.size≤1000000) (hn:n≤1000):
  Calls Tryz.prog 87 #[.agg #[.bool a.neg,.string a.aY,.int .i64 a.e],.int .i64 n] w fun r w'=>r=.returned (.agg #[.bool (nR (a.d^n.toNat)).neg,.string (nR (a.d^n.toNat)).aY,.int .i64 (nR (a.d^n.toNat)).e])∧Below w.heap.size w w':=by
 have hh:=Hp.start w;obtain ⟨ha1,ha2,ha3⟩:=ha;obtain ⟨_,fa1,fa2,fa3⟩:=ld (a:=a) ⟨ha1,ha2,ha3⟩;have hsz:(nR a.d).aY.size≤a.aY.size:=by
  have:=(V9 a.i (-a.e)).1;have h2:=ij a.neg a.aY;unfold NR.d NR.i at*;omega
 have hms:n.toNat*(nR a.d).aY.size≤n.toNat*a.aY.size:=Y4 _ hsz;have e1:(if (0:Int)>n then 0 else n)=(n.toNat:Int):=by split<;>omega
 have hm:n.toNat≤1000:=Yo;have hlo: -18000000*1000≤(nR a.d).e*(n.toNat:Int):=by
  have h1:(-18000000:Int)*n.toNat≤(nR a.d).e*n.toNat:=Int.mul_le_mul_of_nonneg_right fa2 Yo;omega
 have hhi:(nR a.d).e*(n.toNat:Int)≤18000000*1000:=by
  have h1:(nR a.d).e*n.toNat≤(18000000:Int)*n.toNat:=Int.mul_le_mul_of_nonneg_right fa3 Yo;omega
 have hpc:=fun w1=>F3 (nR a.d).neg (nR a.d).aY n w1 Yo Yo Yo;have hmc:∀w1,dP w1→Calls Tryz.prog 78 #[.agg #[.bool (iN (iv (nR a.d).neg (nR a.d).aY^n.toNat)),.string (iM (iv (nR a.d).neg (nR a.d).aY^n.toNat))],.int .i64 ((nR a.d).e*(n.toNat:Int))] w1 fun r w'=>r=.returned (.agg #[.bool (nR (a.d^n.toNat)).neg,.string (nR (a.d^n.toNat)).aY,.int .i64 (nR (a.d^n.toNat)).e])∧Below w1.heap.size w1 w':=fun w1 hT1=>by
  have hb:=rT (iv (nR a.d).neg (nR a.d).aY) n.toNat;have hb2:=ij (nR a.d).neg (nR a.d).aY;have hb3:n.toNat*bE (iv (nR a.d).neg (nR a.d).aY).natAbs≤n.toNat*(8*(nR a.d).aY.size):=Y4 _ hb2;rw [aa2] at hb3;have:=gH (iN (iv (nR a.d).neg (nR a.d).aY^n.toNat)) (iM (iv (nR a.d).neg (nR a.d).aY^n.toNat)) ((nR a.d).e*(n.toNat:Int)) w1 hT1 (by rw [dL];omega) Yo Yo;have e2:Dyadic.ofIntWithPrec (iv (nR a.d).neg (nR a.d).aY^n.toNat) (-((nR a.d).e*(n.toNat:Int)))=a.d^n.toNat:=by
   have h3:=bL a.d
   conv=>rhs;rw [←h3,NR.d,O5]
   rw [Int.neg_mul];rfl
  rw [eY,e2] at this;exact this
 refine aj (N:=17) (l:=[.agg #[.bool a.neg,.string a.aY,.int .i64 a.e],.int .i64 n]) Tryz.func87 rfl rfl (by simp) ?_;refine sr ?_;refine bO hh [_,_,_] ?_;intro b2 w2 hh;refine bC hh ?_;intro b4 w4 hh;refine aa (sr ?_);refine bJ hh 1 [_,_,_] ?_;refine bj hh (eo a _ (hT.hp hh) Yo Yo Yo) rfl ?_;intro w6 hh;refine bg hh 1 [_,_,_] ?_;intro ws hh;replace hh:Hp _ (_::.blk _ _ [_,_,_] _::_) _:=hh;refine aa (ah ?_);refine aK 9 [[(2,none)],[(7,some 0)],[(1,none)],[(8,some 1),(9,some 2)],[(2,none)],[(11,some 4)],[(1,none)],[(13,some 6)],[(12,some 5),(14,some 7)]] [(8,15),(7,14),(6,13),(5,12),(4,11),(3,10),(2,9),(1,8),(0,7)] hh mixed Yq ?_;refine dR ?_;refine dK 1 [_,_] ?_;refine dJ ?_;refine dC (fun _ hj=>hpc _) ?_;refine dR ?_;refine fW 1 ?_;refine dJ ?_;refine a7 (i:=7) (Is (.int .i64 (n.toNat:Int))) (Is.ext) ?_ ?_
 ·intro ρ1 w1 hj hR;exact fI rfl ((RQ (ρ:=ρ1) (x:=.tmp 13) (show ρ1 13=Value.int .i64 n from hR.1) rfl).trans (by rw [e1])) ⟨Below.refl _ _,rfl⟩
 refine Vl ?_;refine aH ?_;intro f W hJ hV;have hb_2:=hJ.bl;obtain ⟨v15,v14,v13,v12,v11,v10,v9,v8,v7,_⟩:=hV;replace hh:=hJ.hp;refine aN (a6 (ae v15 (ae v14 (ae v13 (ae v12 (ae v11 (ae v10 (ae v9 (ae v8 (ae v7 aO)))))))))) ?_;dsimp only [bP];clear hJ;refine bj hh (hmc _ (hT.hp hh)) rfl ?_;intro w16 hh;exact DF
def gM (f:Dyadic→Dyadic→Bool):List Dyadic→Dyadic
 |[]=>0
 |a::r=>r.foldl (fun out a=>if f a out then a else out) a
theorem F1 (f:Dyadic→Dyadic→Bool) {l:List Dyadic} (h:l≠[]) (x:Dyadic):gM f (l++[x])=if f x (gM f l) then x else gM f l:=by
 cases l with
 |nil=>exact absurd rfl h
 |cons a r=>
  show (r++[x]).foldl _ a=_;rw [abo]
  rfl
theorem rI (L:Option Addr) (n c:Nat) (l:List NR) (g:FuncId) (f:Dyadic→Dyadic→Bool) (w:World) (hT:dP w) (hS:Sl w L n 3 (aA NR.cells l)) (hl:∀a∈l,a.ok) (hn:n≤1000000) [au Tryz.prog g]
  (hg:∀(a b:NR) (w:World),dP w→a.ok→b.ok→Calls Tryz.prog g #[.agg #[.bool a.neg,.string a.aY,.int .i64 a.e],.agg #[.bool b.neg,.string b.aY,.int .i64 b.e]] w fun r w'=>r=.returned (.bool (f a.d b.d))∧Below w.heap.size w w'):
  Calls Tryz.prog 174 #[.slice L n c,.func (.func g) #[] #[]] w fun r w'=>r=.returned (.agg #[.bool (nR (gM f (l.map NR.d))).neg,.string (nR (gM f (l.map NR.d))).aY,.int .i64 (nR (gM f (l.map NR.d))).e])∧Below w.heap.size w w':=by
 have hln:=hS.bk NR.len Yo;have hh:=Hp.start w;refine aj (N:=27) (l:=[.slice L n c,.func (.func g) #[] #[]]) Tryz.func174 rfl rfl (by simp) ?_;refine sr ?_;refine bC hh ?_;intro b4 w4 hh;refine aa (sr ?_);refine bC hh ?_;intro b5 w5 hh;refine vg ?_;refine aT [6,7,10,11,12,13,14,15,16,17,18,19,20,21,22,23,24] 10
  (fun j w'=>∃(i:Nat) (o:NR),i≤n∧j=.int .i64 i∧o.ok∧o.d=gM f ((l.take i).map NR.d)∧Hp w [.blk b5 33 [.bool o.neg,.string o.aY,.int .i64 o.e] (0,0),.blk b4 33 [.bool false,.string (ByteArray.mk #[]),.int .i64 0] (0,0)] w')
  (fun j _=>n-(intOf j).toNat) ?_ ?_
 ·exact ⟨0,nR 0,Yx _,rfl,(Sz.zero 0).ok Yo,rfl,hh⟩
 ·clear hh;rintro ρ' j w' ⟨i,o,hi,rfl,hok,hod,hh⟩;by_cases hlt:i<n
  ·obtain ⟨x,hx⟩:=ao (l:=l) (k:=i) Yo;obtain ⟨ad,rfl,hr⟩:=hS.at_ Yo;have hxo:=hl x (Yy hx);have htk:(l.take (i+1)).map NR.d=(l.take i).map NR.d++[x.d]:=by rw [aw hx,ZD,aa6]
   by_cases h0:i=0
   ·subst h0;refine sr ?_;refine dY ?_;refine zz ?_;refine IF ?_;refine bC hh ?_;intro b7 w7 hh;refine aI ?_;refine bg hh 0 [_,_,_] ?_;intro ws hh;replace hh:Hp _ (.blk _ _ [_,_,_] _::_) _:=hh;refine aa (sr (mI ?_));refine cH (mB ?_);refine gS (gS (gS ?_));refine jR ?_;refine gi ?_;refine aa (cT (ak ?_));refine bJ hh 0 [_,_,_] ?_;refine bg hh 1 [_,_,_] ?_;intro ws hh;replace hh:Hp _ (_::.blk _ _ [_,_,_] _::_) _:=hh;refine gu ?_;refine a8 (mI (aD (ai ?_)));replace hh:=hh.sub (Zc _ _);refine ⟨⟨1,x,Yo,rfl,hxo,by rw [htk];rfl,hh⟩,by show n-(0+1)<n-0;omega, ?_⟩;exact er
   ·have hne:(l.take i).map NR.d≠[]:=by
     intro h;have:=Ze List.length h;rw [YI,YM,abn] at this;omega
    have hb:=F1 f hne x.d;rw [←htk,←hod] at hb;refine sr ?_;refine dY ?_;refine bZ ?_;refine IF ?_;refine bC hh ?_;intro b7 w7 hh;refine aI ?_;refine bg hh 0 [_,_,_] ?_;intro ws hh;replace hh:Hp _ (.blk _ _ [_,_,_] _::_) _:=hh;refine aa (sr (mI ?_));refine cH (mB (gT ?_));refine iY ?_;refine gT ?_;refine bJ hh 0 [_,_,_] (gT ?_);refine bJ hh 1 [_,_,_] ?_;refine aG rfl rfl ?_;refine gU (hg x o _ (hT.hp hh) hxo hok) au.out rfl rfl Yp ?_;rintro e_ w21 ⟨rfl,hb_⟩;refine ⟨_,rfl, ?_⟩;replace hh:=hh.ext hb_
    cases hf:f x.d o.d with
    |true=>
     rw [hf,Yt rfl] at hb;refine fK ?_;refine aa (cT (ak ?_));refine bJ hh 0 [_,_,_] ?_;refine bg hh 1 [_,_,_] ?_;intro ws hh;replace hh:Hp _ (_::.blk _ _ [_,_,_] _::_) _:=hh;refine gu ?_;refine a8 (mI (aD (ai ?_)));replace hh:=hh.sub (Zc _ _);refine ⟨⟨i+1,x,Yo,rfl,hxo,hb.symm,hh⟩,by show n-(i+1)<n-i;omega, ?_⟩;exact er
    |false=>
     rw [hf] at hb;refine fK ?_;refine y3 ?_;refine a8 (mI (aD (ai ?_)));replace hh:=hh.sub (Zc _ _);refine ⟨⟨i+1,o,Yo,rfl,hok,hb.symm,hh⟩,by show n-(i+1)<n-i;omega, ?_⟩;exact er
  ·rw [YC Yo] at hod;obtain ⟨o1,o2,o3⟩:=hok;refine sr ?_;refine nj ?_;refine bJ hh 0 [_,_,_] ?_;refine bj hh (eo o _ (hT.hp hh) Yo Yo Yo) rfl ?_;intro w26 hh;rw [hod];exact K5
theorem uo (x y:Dyadic):gE x y<0↔x<y:=by
 unfold gE;split
 ·rename_i h;simp [h]
 ·rename_i h;split<;>simp [h]
theorem rO (x y:Dyadic):0<gE x y↔y<x:=by
 unfold gE;split
 ·rename_i h;have:¬y<x:=by grind
  simp [this]
 ·split<;>rename_i h<;>simp [h]
theorem ED (a b:NR) (w:World) (hT:dP w) (ha:a.ok) (hb:b.ok):
  Calls Tryz.prog 175 #[.agg #[.bool a.neg,.string a.aY,.int .i64 a.e],.agg #[.bool b.neg,.string b.aY,.int .i64 b.e]] w fun r w'=>r=.returned (.bool (decide (a.d<b.d)))∧Below w.heap.size w w':=by
 have hh:=Hp.start w;have e1:decide (gE a.d b.d<0)=decide (a.d<b.d):=decide_eq_decide.2 (uo _ _);refine aj (N:=9) (l:=[.agg #[.bool a.neg,.string a.aY,.int .i64 a.e],.agg #[.bool b.neg,.string b.aY,.int .i64 b.e]]) Tryz.func175 rfl rfl (by simp) ?_;refine sr ?_;refine bO hh [_,_,_] ?_;intro b2 w2 hh;refine bO hh [_,_,_] ?_;intro b3 w3 hh;refine aB (aa (sr ?_));refine bJ hh 1 [_,_,_] ?_;refine bJ hh 0 [_,_,_] ?_;refine bj hh (jo a b _ (hT.hp hh) ha hb) rfl ?_;intro w7 hh;refine a9 (aB (aa (av ?_)));refine dH ?_;rw [e1];exact ⟨rfl,hh.below⟩
theorem DH (a b:NR) (w:World) (hT:dP w) (ha:a.ok) (hb:b.ok):
  Calls Tryz.prog 176 #[.agg #[.bool a.neg,.string a.aY,.int .i64 a.e],.agg #[.bool b.neg,.string b.aY,.int .i64 b.e]] w fun r w'=>r=.returned (.bool (decide (b.d<a.d)))∧Below w.heap.size w w':=by
 have hh:=Hp.start w;have e1:decide (0<gE a.d b.d)=decide (b.d<a.d):=decide_eq_decide.2 (rO _ _);refine aj (N:=9) (l:=[.agg #[.bool a.neg,.string a.aY,.int .i64 a.e],.agg #[.bool b.neg,.string b.aY,.int .i64 b.e]]) Tryz.func176 rfl rfl (by simp) ?_;refine sr ?_;refine bO hh [_,_,_] ?_;intro b2 w2 hh;refine bO hh [_,_,_] ?_;intro b3 w3 hh;refine aB (aa (sr ?_));refine bJ hh 1 [_,_,_] ?_;refine bJ hh 0 [_,_,_] ?_;refine bj hh (jo a b _ (hT.hp hh) ha hb) rfl ?_;intro w7 hh;refine bT (aB (aa (av ?_)));refine dH ?_;rw [e1];exact ⟨rfl,hh.below⟩
theorem Gu (L:Option Addr) (n c:Nat) (l:List NR) (w:World) (hT:dP w) (hS:Sl w L n 3 (aA NR.cells l)) (hl:∀a∈l,a.ok) (hn:n≤1000000):
  Calls Tryz.prog 126 #[.slice L n c] w fun r w'=>r=.returned (.agg #[.bool (nR (gM (fun x y=>decide (x<y)) (l.map NR.d))).neg,.string (nR (gM (fun x y=>decide (x<y)) (l.map NR.d))).aY,.int .i64 (nR (gM (fun x y=>decide (x<y)) (l.map NR.d))).e])∧Below w.heap.size w w':=by
 have hh:=Hp.start w;refine aj (N:=5) (l:=[.slice L n c]) Tryz.func126 rfl rfl (by simp) ?_;refine sr ?_;refine bC hh ?_;intro b2 w2 hh;refine aa (sr (mL ?_));refine bj hh (rI L n c l 175 (fun x y=>decide (x<y)) _ (hT.hp hh) (hS.ext hh.below) hl hn ED) rfl ?_;intro w4 hh;exact DF
theorem FZ (L:Option Addr) (n c:Nat) (l:List NR) (w:World) (hT:dP w) (hS:Sl w L n 3 (aA NR.cells l)) (hl:∀a∈l,a.ok) (hn:n≤1000000):
  Calls Tryz.prog 127 #[.slice L n c] w fun r w'=>r=.returned (.agg #[.bool (nR (gM (fun x y=>decide (y<x)) (l.map NR.d))).neg,.string (nR (gM (fun x y=>decide (y<x)) (l.map NR.d))).aY,.int .i64 (nR (gM (fun x y=>decide (y<x)) (l.map NR.d))).e])∧Below w.heap.size w w':=by
 have hh:=Hp.start w;refine aj (N:=5) (l:=[.slice L n c]) Tryz.func127 rfl rfl (by simp) ?_;refine sr ?_;refine bC hh ?_;intro b2 w2 hh;refine aa (sr (mL ?_));refine bj hh (rI L n c l 176 (fun x y=>decide (y<x)) _ (hT.hp hh) (hS.ext hh.below) hl hn DH) rfl ?_;intro w4 hh;exact DF
theorem wJ {x y:Dyadic} (h:x<y):gE x y= -1:=by rw [gE,Yt h]
theorem xm {x y:Dyadic} (h:y<x):gE x y=1:=by
 have:¬x<y:=by grind
 rw [gE,Yu this,Yt h]
theorem yx (x:Dyadic):gE x x=0:=by
 have:¬x<x:=by grind
 rw [gE,Yu this,Yu this]
theorem Q5 (x y:Dyadic):x<y∨x=y∨y<x:=by
 rcases Classical.em (x<y) with h|h
 ·exact .inl h
 ·rcases Classical.em (y<x) with h2|h2
  ·exact .inr (.inr h2)
  ·exact .inr (.inl (by grind))
theorem uy (x y:Dyadic): -1≤gE x y∧gE x y≤1:=by
 unfold gE;split<;>(try split)<;>omega
theorem Sl.Vy {A:Option Addr}{xs:List Nat} (h:Sl w A n 1 (iE xs)) (hk:k≤n):Sl w A k 1 (iE (xs.take k)):=by
 have hl:=h.1;rw [dq] at hl;refine ⟨by rw [dq,YM];omega,fun h0=> ?_⟩;obtain ⟨ad,he,hr⟩:=h.2 Yo;exact ⟨ad,he,by rw [BX];exact hr.take k⟩
theorem Sl.VK {A:Option Addr}{xs:List Nat} (h:Sl w A n 1 (iE xs)):Sl w A (eJ xs).length 1 (iE (eJ xs)):=by
 have hl:=h.1;rw [dq] at hl;have:=fh xs;have h2:=h.Vy (k:=(eJ xs).length) Yo;rwa [←kG] at h2
theorem Hp.TO {H:List HE}{A:Option Addr}{t:TypeId}{xs:List Nat} (h:Hp w0 (.row A n c t 1 (iE xs)::H) w) (hl:xs.length=n):Hp w0 (.row A (eJ xs).length c t 1 (iE (eJ xs))::H) w:=by
 have h1:=fh xs;have h2:=h.Bm (k:=(eJ xs).length) Yo;rw [YV,←BX,←kG] at h2;exact h2
theorem mC (A:Option Addr) (n c:Nat) (xs:List Nat) (w:World) (hx:Sl w A n 1 (iE xs)) (hc:n≤c) (hn:n≤1000000000000):
  Calls Tryz.prog 183 #[.slice A n c] w fun e w'=>e=.returned (.slice A (eJ xs).length c)∧Below w.heap.size w w':=by
 have hlen:xs.length=n:=by have:=hx.1;rw [dq] at this;omega
 have hh:=Hp.start w;refine aj (N:=21) (l:=[.slice A n c]) Tryz.func183 rfl rfl (by simp) ?_;refine sr (aL (aa (sr (mL (aM (aI (aa (ah (ar ?_)))))))));refine aT [3,6,7,8,9,10,11,12,13,14,15,16,17] 3
  (fun v w'=>∃k:Nat,k≤n∧v=.int .i64 k∧eJ (xs.take k)=eJ xs∧w'=w)
  (fun v _=>(intOf v).toNat) ?_ ?_
 ·exact ⟨n,YA _,rfl,by rw [YC Yo],rfl⟩
 ·rintro ρ' v w' ⟨k,hk,rfl,hcut,rfl⟩;by_cases h0:k=0
  ·subst h0;refine ah (sr (mI ?_));refine bT (mB ?_);refine gS (gS (gS (gS ?_)));refine jR ?_;refine gS ?_;refine fK ?_;refine aa (cF (aX (aE (aE (bA (ai (sr (mL (mI ?_)))))))));refine nP (h:=0) bG.out aJ.size rfl rfl Yo Yo Yp ?_;refine aL (aa (av ?_));refine dH ?_;rw [←hcut];exact ⟨rfl,hh.below⟩
  ·obtain ⟨j,rfl⟩:∃j,k=j+1:=⟨k-1,Yo⟩;obtain ⟨d,hd⟩:=ao (l:=xs) (k:=j) Yo;obtain ⟨ad,rfl,hr⟩:=hx.at_ Yo;have hd2:=qh hd;rw [aw hd] at hcut;by_cases hz:d=0
   ·subst hz;rw [vh] at hcut;refine ah (sr (mI ?_));refine bT (mB (gT (mL (gT (mI (gT ?_))))));refine ee (gT ?_);refine tO ?_;refine gT ?_;refine nJ ?_;refine gT ?_;refine cH ?_;refine gi ?_;refine aa (cT (aq (ai (ar (ak (mI ?_))))));refine ee (aI (aD (bz (ai ?_))));refine ⟨⟨j,Yo,by show Value.int _ _=Value.int _ _;congr 1;omega,hcut,rfl⟩,by show (((j+1:Nat):Int)-1).toNat<(((j+1:Nat):Int)).toNat;omega, ?_⟩;exact er
   ·rw [yy hz] at hcut;refine ah (sr (mI ?_));refine bT (mB (gT (mL (gT (mI (gT ?_))))));refine ee (gT ?_);refine tO ?_;refine gT ?_;refine nJ ?_;refine gT ?_;refine cH ?_;refine gi ?_;refine aa (cF (aX (aE (aE (bA (ai (sr (mL (mI ?_)))))))));refine nP (h:=j+1) bG.out aJ.size rfl rfl Yo Yo Yp ?_;refine aL (aa (av ?_));exact SH
theorem Jm {s:List UInt8}{c:UInt8} (hc:(B5 s)[j]?=some c.toNat) (hk:k<8):c.toNat/2^k % 2=bn s/2^(8*j+k) % 2:=by
 have h1:=um (Ah s) hc;rw [←h1,←bn,YW,Zk,show (2^8:Nat)=256 from rfl,←ZS];generalize bn s/256^j=m;have e:(256:Nat)=2^k*2^(8-k):=by rw [←YW,show k+(8-k)=8 by omega]
 have e2:2^(8-k)=2*2^(7-k):=by rw [←Nat.pow_succ'];congr 1;omega
 rw [e,Nat.mod_mul_right_div_self,e2,Nat.mod_mul_right_mod]
theorem gK (a:ByteArray) (w:World) (ha:a.size≤1000000000):
  Calls Tryz.prog 142 #[.string a] w fun e w'=>∃A c,e=.returned (.slice A (aR 2 (bN a)).length c)∧w'.ownsRow w.heap.size 5 1 (.slice A (aR 2 (bN a)).length c) (aR 2 (bN a)).length (iE (aR 2 (bN a)))∧Below w.heap.size w w':=by
 have hsz:=fJ a;have hh:=Hp.start w;refine aj (N:=28) (l:=[.string a]) Tryz.func142 rfl rfl (by simp) ?_;refine sr (aL (aa (sr (aL (aa (ah (sr (mS ?_))))))));refine ck bG.out rfl Yp ?_;refine ee (aI (aa (ar ?_)));replace hh:=hh.dm 5 1;refine bH [3,4,5,9,10,11,12,13,14,15,16,17,18,19,20,21,22,23,24,25] 3 4
  (fun o v w'=>∃(j:Nat) (A:Option Addr) (c:Nat),j≤a.size∧v=.int .i64 ((a.size:Int)-1-j)∧o=.slice A (8*j) c∧Hp w [.row A (8*j) c 5 1 (iE (bX 2 (8*j) (bN a)))] w')
  (fun _ v _=>(intOf v+1).toNat) ?_ ?_
 ·exact ⟨0,none,0,Yx _,by show Value.int _ _=Value.int _ _;congr 1;omega,rfl,hh⟩
 ·clear hh;rintro ρ' o v w' ⟨j,A,c,hj,rfl,rfl,hh⟩;by_cases hlt:j<a.size
  ·obtain ⟨ch,hc⟩:=ao (l:=a.data.toList) (k:=((a.size:Int)-1-j).toNat) Yo;have hlo:=Lh (s:=a.data.toList) (i:=j) (c:=ch) Yo (by rw [←hc];congr 1;omega);have hc8:=ch.toNat_lt;refine ah (sr (mI ?_));refine dF (aa (cT (aq (ai (ah (ar (sr (aI (aa (ar ?_))))))))));refine bH [3,5,13,14,15,16,17,18,19,20,21,22,23,24,25] 3 5
    (fun o v w'=>∃(k:Nat) (A:Option Addr) (c:Nat),k≤8∧v=.int .i64 (k:Int)∧o=.slice A (8*j+k) c∧Hp w [.row A (8*j+k) c 5 1 (iE (bX 2 (8*j+k) (bN a)))] w')
    (fun _ v _=>8-(intOf v).toNat) ?_ ?_
   ·exact ⟨0,A,c,Yx _,rfl,rfl,hh⟩
   ·clear hh;rintro ρ2 o v w2 ⟨k,A2,c2,hk,rfl,rfl,hh⟩;by_cases hk8:k<8
    ·have hst:=Jm hlo hk8;have hand:∀z:Nat,z &&& 1=z % 2:=fun z=>Nat.and_one_is_mod z;have hcl:ch.toNat/2^(k:Int).toNat<256:=Zr (aaF _ _) hc8;refine ah (sr (mI ?_));refine a9 (aa (cT (aq (ai (ah (ar (ak (mL (mS (mI ?_))))))))));refine k4 ?_;refine mI ?_;refine wD rfl rfl Yo Yp ?_;refine Nm ?_;refine vU ?_;intro b24 w24 hh;refine pB ?_;intro A25 c25 w25 hh;simp only [YG,Y8] at hh;replace hh:=hh.sub (Zc _ _);refine tg ?_;refine a8 (aI (aD (ai ?_)));have e1:iE (bX 2 (8*j+k) (bN a))++[Value.int .u8 ((ch.toNat/2^(k:Int).toNat &&& 1:Nat):Int)]=iE (bX 2 (8*j+(k+1)) (bN a)):=by
      rw [hand,ZY,hst,←abc,l8,xr];rfl
     rw [e1] at hh;refine ⟨⟨k+1,A25,c25,Yo,rfl,rfl,hh⟩,by show 8-(k+1)<8-k;omega, ?_⟩;exact er
    ·obtain rfl:k=8:=Yo;refine ah (sr (mI ?_));refine a9 (aa (cF (aX (aE (aE (bA (bz (ai (ak (mI ?_))))))))));refine ee (aI (aD (ai ?_)));refine ⟨⟨j+1,A2,c2,Yo,by show Value.int _ _=Value.int _ _;congr 1;omega,rfl,hh⟩,by show ((a.size:Int)-1-j-1+1).toNat<((a.size:Int)-1-j+1).toNat;omega, ?_⟩;exact er
  ·obtain rfl:j=a.size:=Yo;refine ah (sr (mI ?_));refine dF (aa (cF (aX (aE (aE (bA (ai (sr (mL ?_)))))))));refine bj hh (mC _ _ _ (bX 2 (8*a.size) (bN a)) _ (hh.az (i:=0) rfl) (hh.fQ (i:=0) rfl) Yo) rfl ?_;intro w27 hh;refine aL (aa (av ?_));refine dH ?_;have hb:=yR a;rw [show (256:Nat)=2^8 from rfl,←Zk] at hb;have hd:eJ (bX 2 (8*a.size) (bN a))=aR 2 (bN a):=by
    rw [jB Yo (gP Yo _ _),cX hb]
   have h1:=(Hp.TO (xs:=bX 2 (8*a.size) (bN a)) hh (aW _ _)).at_ (i:=0) rfl;exact Iq
theorem PD {l:List Nat}{v:Nat} (h:j<l.length):l.reverse.set (l.length-1-j) v=(l.set j v).reverse:=by
 apply ZI;intro i
 rcases Zb i l.length with hi|hi
 ·rw [aam (by rw [aas];exact hi),aas,aaf,aaf,aam hi,Y9];by_cases he:l.length-1-j=i
  ·rw [Yt he,Yt Yo,Yt Yo,Yt h]
  ·rw [Yu he,Yu Yo]
 ·rw [YQ (by simp;omega),YQ (by simp;omega)]
theorem Gv {i:Nat} (P:Nat) (hP:P<2^i) (hb:b<2) (hk:i/8<k):P/256^(i/8) % 256+b*2^(i % 8)<256∧(bX 256 k P).set (i/8) (P/256^(i/8) % 256+b*2^(i % 8))=bX 256 k (P+2^i*b):=by
 have hp:2^i=256^(i/8)*2^(i % 8):=by
  rw [show (256:Nat)=2^8 from rfl,←Zk,←YW];congr 1;omega
 have h1:P/256^(i/8)<2^(i % 8):=by
  rw [ZH (YY Yo),YO,←hp];exact hP
 have h2:2^(i % 8)≤128:=by
  have:=Zf (show 0<2 by omega) (show i % 8≤7 by omega);omega
 have h3:P/256^(i/8) % 256<2^(i % 8):=Zr (Nat.mod_le _ _) h1;have h4:b*2^(i % 8)≤1*2^(i % 8):=Zo _ Yo;have h5:2^i*b=256^(i/8)*(b*2^(i % 8)):=by rw [hp,Zw,YO b]
 refine ⟨Yo, ?_⟩;rw [h5];refine qW Yo hk ?_ Yo;rw [←h5];have h6:2^i*b≤2^i*1:=Y4 _ Yo;have h7:2^(i+1)≤256^k:=by
  rw [show (256:Nat)=2^8 from rfl,←Zk];exact Zf Yo Yo
 rw [Zh] at h7;omega
theorem iG (A:Option Addr) (n c:Nat) (xs:List Nat) (w:World) (hx:Sl w A n 1 (iE xs)) (hd:Dg 2 xs) (hc:n≤c) (hn:n≤100000000000):
  Calls Tryz.prog 163 #[.slice A n c] w fun e w'=>e=.returned (.string (sN (aZ 2 xs)))∧Below w.heap.size w w':=by
 have hl:=hx.1;rw [dq] at hl;have hcl:=fh xs;have hcx:=hx.VK;have hcan:=jB Yo hd;have hlen:=Gx (aZ 2 xs);rw [hcan] at hcl hcx;have hcd:=(eW (B:=2) Yo (aZ 2 xs)).1;have hcv:=fk (B:=2) Yo (aZ 2 xs);have hbl:(aR 2 (aZ 2 xs)).length=bE (aZ 2 xs):=rfl;have hh:=Hp.start w;refine aj (N:=38) (l:=[.slice A n c]) Tryz.func163 rfl rfl (by simp) ?_;refine sr (aS (aa (sr (mL ?_))));refine bj hh (mC _ _ _ xs _ hx hc Yo) rfl ?_;intro w6 hh;rw [hcan];generalize aZ 2 xs=M at*;generalize aR 2 M=xs' at*;refine aL (aa (sr (mL (aM ?_))));refine a8 ?_;refine nk ?_;refine gj (n:=(xs'.length+7)/8) hh rfl rfl Yo Yo bG.out aJ.out rfl Yo Yo Yp ?_;intro b11 w11 hh;refine aL (aa (ah (sr (aI (aa (ar ?_))))));rw [rE] at hh;refine aT [4,12,13,14,15,16,17,18,19,20,21,22,23,24,25,26,27,28,29,30,31,32,33,34,35] 4
  (fun v w'=>∃i:Nat,i≤xs'.length∧v=.int .i64 i∧Hp w [.row (some ⟨b11,0,none⟩) ((xs'.length+7)/8) ((xs'.length+7)/8) 5 1 (iE (bX 256 ((xs'.length+7)/8) (aZ 2 (xs'.take i))).reverse)] w')
  (fun v _=>xs'.length-(intOf v).toNat) ?_ ?_
 ·exact ⟨0,Yx _,rfl,by rw [Z7,aZ,sK,List.reverse_replicate];exact hh⟩
 ·clear hh;rintro ρ' v w' ⟨i,hi,rfl,hh⟩;by_cases hlt:i<xs'.length
  ·obtain ⟨d,hdi⟩:=ao (l:=xs') (k:=i) Yo;obtain ⟨ad,rfl,hr⟩:=hcx.at_ Yo;have hd2:=qh hdi;have hdw:=hcd.at_ hdi;have hP:=gQ (hcd.take i);rw [YM,ZK Yo] at hP;obtain ⟨s1,s2⟩:=Gv (k:=(xs'.length+7)/8) (aZ 2 (xs'.take i)) hP hdw Yo;have hg:(bX 256 ((xs'.length+7)/8) (aZ 2 (xs'.take i))).reverse[(xs'.length+7)/8-1-i/8]?=some (aZ 2 (xs'.take i)/256^(i/8) % 256):=by
    rw [aam (by rw [aW];omega),aW,show (xs'.length+7)/8-1-((xs'.length+7)/8-1-i/8)=i/8 by omega];exact jV _ _ _ Yo
   have hg2:=qh hg;have e1:((i:Int) % 8).toNat=i % 8:=Yo;have hset:=PD (l:=bX 256 ((xs'.length+7)/8) (aZ 2 (xs'.take i))) (j:=i/8) (v:=aZ 2 (xs'.take i)/256^(i/8) % 256+d*2^(i % 8)) (by rw [aW];omega);rw [aW,s2] at hset;refine ah (sr (mI (mL (aM ?_))));refine Iy ?_;refine aK 16 [[(3,none)],[(3,none)],[(19,some 1)],[(20,some 2)],[(4,none)],[(22,some 4)],[(21,some 3),(23,some 5)],[(18,some 0),(24,some 6)],[(25,some 7)],[(0,none)],[(4,none)],[(27,some 9),(28,some 10)],[(29,some 11)],[(4,none)],[(31,some 13)],[(30,some 12),(32,some 14)]] [(15,33),(14,32),(13,31),(12,30),(11,29),(10,28),(9,27),(8,26),(7,25),(6,24),(5,23),(4,22),(3,21),(2,20),(1,19),(0,18)] hh mixed Yq ?_;refine gI ?_;refine gI ?_;refine qe ?_;refine tZ ?_;refine dJ ?_;refine bB (i:=5) (fun ρ1 w1 hj hR=>wu (show ρ1 22=Value.int _ _ from hR.1) rfl Yo Yo Yo) ?_;refine tZ ?_;refine EG ((xs'.length+7)/8-1-i/8) ?_;refine bB (i:=8) (fun ρ1 w1 hj hR=>iL aJ.out (show ρ1 25=Value.pointer _ from hR.1) (hj.hp.iC (i:=0) rfl (by rw [YV];exact hg2))) ?_;refine gI ?_;refine dJ ?_;refine np (i) ?_
   refine x7 (fun _ hj=>(hr.ext hj.hp.below).tN hd2) ?_;refine dJ ?_;refine bB (i:=14) (fun ρ1 w1 hj hR=>pX (show ρ1 31=Value.int _ _ from hR.1) rfl Yo Yo) ?_;refine bB (i:=15) (fun ρ1 w1 hj hR=>xk (show ρ1 30=Value.int _ _ from hR.1) (show ρ1 32=Value.int _ _ from hR.2.1) Yo) ?_;refine aH ?_;intro f W hJ hV;have hb_6:=hJ.bl;obtain ⟨v33,v32,v31,v30,v29,v28,v27,v26,v25,v24,v23,v22,v21,v20,v19,v18,_⟩:=hV;replace hh:=hJ.hp;refine aN (a6 (ae v33 (ae v32 (ae v31 (ae v30 (ae v29 (ae v28 (ae v27 (ae v26 (ae v25 (ae v24 (ae v23 (ae v22 (ae v21 (ae v20 (ae v19 (ae v18 aO))))))))))))))))) ?_;dsimp only [bP];clear hJ;refine fM rfl rfl Yp ?_;refine cJ (k:=(xs'.length+7)/8-1-i/8) bG.out aJ.size rfl rfl Yo Yo Yp ?_;refine ct hh (i:=0) (vs:=[_]) rfl rfl (dt rfl) rfl aJ.out rfl (by rw [dq,Y9,aW];omega) rfl ?_;intro ws hh;simp only [YG] at hh;rw [e1,Za (show d*2^(i % 8)<256 by omega),Za s1,YV,de (by rw [dq,Y9,aW];omega),re,hset,←ie hdi] at hh;refine aD (bz (ai (ak (mI ?_))));refine a8 (aI (aD (ai ?_)))
   refine ⟨⟨i+1,Yo,rfl,hh⟩,by show xs'.length-(i+1)<xs'.length-i;omega, ?_⟩;exact er
  ·obtain rfl:i=xs'.length:=Yo;rw [abD,hcv,hbl] at hh;have hfin:iE (bX 256 ((bE M+7)/8) M).reverse=nB (sb M):=by
    rw [←hlen];exact UY
   rw [hfin,←hbl] at hh;refine ah (sr (mI (mL (aM ?_))));refine a9 (aa (cF (aX (aE (aE (bA (ai (sr (mL ?_)))))))));exact S6
theorem Qz {xs:List Nat} (h:Dg 2 xs) (i:Nat):aZ 2 xs/2^i % 2=(xs[i]?).getD 0:=by
 cases hi:xs[i]? with
 |some d=>exact um h hi
 |none=>
  rw [qF h (List.getElem?_eq_none_iff.1 hi) Yo];rfl
theorem ka (A:Option Addr) (n c i:Nat) (xs:List Nat) (w:World) (hx:Sl w A n 1 (iE xs)) (hd:Dg 2 xs) (hn:n≤1000000000000) (hi:i≤1000000000000):
  Calls Tryz.prog 217 #[.slice A n c,.int .i64 (i:Int)] w fun e w'=>e=.returned (.int .u8 ((aZ 2 xs/2^i % 2:Nat):Int))∧Below w.heap.size w w':=by
 have hl:=hx.1;rw [dq] at hl;have hh:=Hp.start w;rw [Qz hd];by_cases hlt:i<n
 ·obtain ⟨d,hdi⟩:=ao (l:=xs) (k:=i) Yo;obtain ⟨ad,rfl,hr⟩:=hx.at_ Yo;have hd2:=qh hdi;rw [hdi];refine aj (N:=13) (l:=[.slice (some ad) n c,.int .i64 (i:Int)]) Tryz.func217 rfl rfl (by simp) ?_;refine sr (aI (aa (ah (sr (mI (mL (aM ?_)))))));refine a9 (aa (cT (sr (mL (mI ?_)))));refine bZ ?_;refine nJ ?_;refine aI (aa (av (aF ?_)));refine dH ?_;exact ⟨rfl,hh.below⟩
 ·rw [YQ Yo];refine aj (N:=13) (l:=[.slice A n c,.int .i64 (i:Int)]) Tryz.func217 rfl rfl (by simp) ?_;refine sr (aI (aa (ah (sr (mI (mL (aM ?_)))))));refine a9 (aa (cF (aq (ai (sr (aI (aa (av ?_))))))));refine dH ?_;exact ⟨rfl,hh.below⟩
theorem mD (X i:Nat):X/2^i=2*(X/2^(i+1))+X/2^i % 2:=by
 rw [Zh,←ZS];omega
theorem yv {X Y:Nat} (h:X/2^k<Y/2^k):X<Y:=by
 refine abl fun h2=> ?_;have:=Nat.div_le_div_right (c:=2^k) h2;omega
theorem nH (A B:Option Addr) (n c m c':Nat) (xs ys:List Nat) (w:World) (hx:Sl w A n 1 (iE xs)) (hy:Sl w B m 1 (iE ys)) (hdx:Dg 2 xs) (hdy:Dg 2 ys) (hn:n≤100000000000) (hm:m≤100000000000):
  Calls Tryz.prog 184 #[.slice A n c,.slice B m c'] w fun e w'=>e=.returned (.int .i64 (jH (aZ 2 xs) (aZ 2 ys)))∧Below w.heap.size w w':=by
 have hlx:=hx.1;have hly:=hy.1;rw [dq] at hlx hly;have hh:=Hp.start w;have e1:(if (m:Int)>(n:Int) then (m:Int) else (n:Int))-1=((max n m:Nat):Int)-1:=by split<;>omega
 refine aj (N:=30) (l:=[.slice A n c,.slice B m c']) Tryz.func184 rfl rfl (by simp) ?_;refine sr (aI (aa (ah (sr (mL (aM (mL (aM ?_))))))));refine k9 rfl rfl Yp ?_;refine ee (aI (aa (ar ?_)));rw [e1];refine aT [4,5,12,13,14,15,16,17,18,19,20,21,22,23,24,25,26,27,28,29] 5
  (fun v w'=>∃k:Nat,k≤max n m∧v=.int .i64 ((k:Int)-1)∧aZ 2 xs/2^k=aZ 2 ys/2^k∧Hp w [] w')
  (fun v _=>(intOf v+1).toNat) ?_ ?_
 ·exact ⟨max n m,YA _,rfl,by rw [qF hdx Yo Yo,qF hdy Yo Yo],hh⟩
 ·clear hh;rintro ρ' v w' ⟨k,hk,rfl,heq,hh⟩;by_cases h0:k=0
  ·subst h0;refine ah (sr (mI ?_));refine dF (aa (cF (aX (aE (aE (bA (ai (sr (aI (aa (av ?_)))))))))));refine dH ?_;rw [aa4,aaG,aaG] at heq;exact ⟨by rw [Hm heq],hh.below⟩
  ·obtain ⟨j,rfl⟩:∃j,k=j+1:=⟨k-1,Yo⟩;have hj:((j+1:Nat):Int)-1=(j:Int):=Yo;have hXb:=mD (aZ 2 xs) j;have hYb:=mD (aZ 2 ys) j;by_cases hlt:aZ 2 xs/2^j % 2<aZ 2 ys/2^j % 2
   ·have hf:aZ 2 xs<aZ 2 ys:=yv (k:=j) Yo;rw [hj];refine ah (sr (mI ?_));refine NZ ?_;refine DD ?_;intro w18 hh;refine mL (mI ?_);refine DM ?_;intro w21 hh;refine a9 (aa (cT (sr (aI (aa (av (aF (bU (aF (aF (bU (aF ?_))))))))))));refine dH ?_;exact ⟨by rw [lF hf],hh.below⟩
   ·by_cases hgt:aZ 2 ys/2^j % 2<aZ 2 xs/2^j % 2
    ·have hf:aZ 2 ys<aZ 2 xs:=yv (k:=j) Yo;rw [hj];refine ah (sr (mI ?_));refine NZ ?_;refine DD ?_;intro w18 hh;refine mL (mI ?_);refine DM ?_;intro w21 hh;refine a9 (aa (cF (aq (ai (sr (mL (mI ?_)))))));refine DD ?_;intro w25 hh;refine mL (mI ?_);refine DM ?_;intro w28 hh;refine bT (aa (cT (sr (aI (aa (av (bU (aF (aF (bU (aF ?_)))))))))));refine dH ?_;exact ⟨by rw [qD hf],hh.below⟩
    ·rw [hj];refine ah (sr (mI ?_));refine NZ ?_;refine DD ?_;intro w18 hh;refine mL (mI ?_);refine DM ?_;intro w21 hh;refine a9 (aa (cF (aq (ai (sr (mL (mI ?_)))))));refine DD ?_;intro w25 hh;refine mL (mI ?_);refine DM ?_;intro w28 hh;refine bT (aa (cF (aq (bz (ai (ak (mI ?_)))))));refine ee (aI (aD (ai ?_)));refine ⟨⟨j,Yo,rfl,Yo,hh⟩,by show ((j:Int)-1+1).toNat<((j:Int)+1).toNat;omega, ?_⟩;exact er
theorem Q4 (S T i:Nat):(S+T)/2^i % 2=(S/2^i % 2+(S % 2^i+T % 2^i)/2^i+T/2^i % 2) % 2∧(S % 2^(i+1)+T % 2^(i+1))/2^(i+1)=(S/2^i % 2+(S % 2^i+T % 2^i)/2^i+T/2^i % 2)/2∧(S % 2^i+T % 2^i)/2^i≤1:=by
 have hS:=ZJ S (2^i);have hT:=ZJ T (2^i);have hp:0<2^i:=YY Yo;have hS2:S % 2^(i+1)=S % 2^i+2^i*(S/2^i % 2):=by rw [Zh,Nat.mod_mul]
 have hT2:T % 2^(i+1)=T % 2^i+2^i*(T/2^i % 2):=by rw [Zh,Nat.mod_mul]
 have hSl:=YU S hp;have hTl:=YU T hp;have hc:=ZJ (S % 2^i+T % 2^i) (2^i);have hcl:=YU (S % 2^i+T % 2^i) hp;have hc1:(S % 2^i+T % 2^i)/2^i≤1:=by
  have:(S % 2^i+T % 2^i)/2^i<2:=by rw [ZH hp];omega
  omega
 have e1:(S+T)/2^i=S/2^i+T/2^i+(S % 2^i+T % 2^i)/2^i:=by
  have:S+T=(S % 2^i+T % 2^i) % 2^i+2^i*(S/2^i+T/2^i+(S % 2^i+T % 2^i)/2^i):=by
   rw [Zj,Zj];omega
  conv=>lhs;rw [this]
  rw [ZR _ _ hp,Zt hcl,YZ]
 refine ⟨by rw [e1];omega, ?_,hc1⟩;rw [hS2,hT2];have e2:S % 2^i+2^i*(S/2^i % 2)+(T % 2^i+2^i*(T/2^i % 2))=(S % 2^i+T % 2^i) % 2^i+2^i*(S/2^i % 2+(S % 2^i+T % 2^i)/2^i+T/2^i % 2):=by
  rw [Zj,Zj];omega
 rw [e2,Zh,←ZS,ZR _ _ hp,Zt hcl,YZ]
theorem Uo (Y up i:Nat):Y*2^up/2^i % 2=if up≤i then Y/2^(i-up) % 2 else 0:=by
 split
 ·rename_i h;have e:2^i=2^up*2^(i-up):=by rw [←YW];congr 1;omega
  rw [e,←ZS,Nat.mul_div_cancel _ (YY Yo)]
 ·rename_i h;have e:2^up=2^i*2*2^(up-i-1):=by rw [←Zh,←YW];congr 1;omega
  have e2:Y*2^up=2^i*(2*(Y*2^(up-i-1))):=by rw [e];simp only [Zw,aa2]
  rw [e2,Nat.mul_div_cancel_left _ (YY Yo)];omega
theorem SB {K i:Nat} (h:i<K):(bX 2 i N++List.replicate (K-i) 0).set i (N/2^i % 2)=bX 2 (i+1) N++List.replicate (K-(i+1)) 0:=by
 rw [show K-i=(K-(i+1))+1 by omega,aaT,aaz _ _ (by rw [aW];omega),aW,Zn,YG,l8];simp
theorem s9 (A B:Option Addr) (n c m c' up:Nat) (xs ys:List Nat) (w:World) (hx:Sl w A n 1 (iE xs)) (hy:Sl w B m 1 (iE ys)) (hdx:Dg 2 xs) (hdy:Dg 2 ys) (hn:n≤100000000000) (hm:m≤100000000000) (hup:up≤100000000000):
  Calls Tryz.prog 186 #[.slice A n c,.slice B m c',.int .i64 (up:Int)] w fun e w'=>∃b,e=.returned (.slice (some ⟨b,0,none⟩) (max n (m+up)+1) (max n (m+up)+1))∧w'.ownsRow w.heap.size 5 1 (.slice (some ⟨b,0,none⟩) (max n (m+up)+1) (max n (m+up)+1)) (max n (m+up)+1) (iE (bX 2 (max n (m+up)+1) (aZ 2 xs+aZ 2 ys*2^up)))∧Below w.heap.size w w':=by
 have hlx:=hx.1;have hly:=hy.1;rw [dq] at hlx hly;have hh:=Hp.start w;have e1:(if ((m:Int)+(up:Int))>(n:Int) then ((m:Int)+(up:Int)) else (n:Int))+1=((max n (m+up)+1:Nat):Int):=by split<;>omega
 have hand:∀z:Nat,z &&& 1=z % 2:=fun z=>Nat.and_one_is_mod z;refine aj (N:=49) (l:=[.slice A n c,.slice B m c',.int .i64 (up:Int)]) Tryz.func186 rfl rfl (by simp) ?_;refine sr (aL (aa (sr (mL (aM (mL (aM (mI ?_))))))));refine a8 ?_;refine k9 rfl rfl Yp ?_;refine a8 ?_;rw [e1];generalize hK:max n (m+up)+1=K at*;refine gj (n:=K) hh rfl rfl Yo Yo bG.out aJ.out rfl Yo Yo Yp ?_;intro b19 w19 hh;refine aL (aa (sr (aI (aa (ah (sr (aI (aa (ar ?_)))))))));rw [rE] at hh;refine bH [8,9,10,20,21,22,23,24,25,26,27,28,29,30,31,32,33,34,35,36,37,38,39,40,41,42,43,44,45,46,47] 8 9
  (fun cr v w'=>∃i:Nat,i≤K∧v=.int .i64 (i:Int)∧cr=.int .u8 (((aZ 2 xs % 2^i+aZ 2 ys*2^up % 2^i)/2^i:Nat):Int)∧Hp w [.row (some ⟨b19,0,none⟩) K K 5 1 (iE (bX 2 i (aZ 2 xs+aZ 2 ys*2^up)++List.replicate (K-i) 0))] w')
  (fun _ v _=>K-(intOf v).toNat) ?_ ?_
 ·exact ⟨0,Yx _,rfl,by simp [Nat.mod_one];rfl,hh⟩
 ·clear hh;rintro ρ' cr v w' ⟨i,hi,rfl,rfl,hh⟩;by_cases hlt:i<K
  ·obtain ⟨b1,b2,b3⟩:=Q4 (aZ 2 xs) (aZ 2 ys*2^up) i;have hbu:=Uo (aZ 2 ys) up i;have hxb:aZ 2 xs/2^i % 2<2:=YU _ Yo;have hyb:aZ 2 ys/2^(i-up) % 2<2:=YU _ Yo;have hll:(iE (bX 2 i (aZ 2 xs+aZ 2 ys*2^up)++List.replicate (K-i) 0)).length=K:=by rw [dq,YE,aW,ZG];omega
   have hfk:=SB (N:=aZ 2 xs+aZ 2 ys*2^up) hlt;generalize hC:(aZ 2 xs % 2^i+aZ 2 ys*2^up % 2^i)/2^i=C at*;generalize hX:aZ 2 xs/2^i % 2=X at*;refine ah (sr (mI (mL (aM ?_))));refine vV ?_;refine bj hh (ka A n c i xs _ (hx.ext hh.below) hdx Yo Yo) rfl ?_;intro w28 hh;rw [hX];by_cases hiu:up≤i
   ·rw [Yt hiu] at hbu;rw [hbu] at b1 b2;generalize hY:aZ 2 ys/2^(i-up) % 2=Y at*;have es:((X+C) % 256+Y) % 256=X+C+Y:=Yo;have ei:(i:Int)-(up:Int)=((i-up:Nat):Int):=Yo;refine mI ?_;refine fM rfl rfl Yp ?_;refine aI (aa (ah (sr (mI (mI ?_)))));refine dF (aa (cT (ak (mI (mL (mI (mI ?_)))))));refine ee ?_;rw [ei];refine bj hh (ka B m c' (i-up) ys _ (hy.ext hh.below) hdy Yo Yo) rfl ?_;intro w39 hh;rw [hY];refine fM rfl rfl Yp ?_;refine aI (aa (sr (mL (mI (mI ?_)))));exact Ry
   ·rw [Yu hiu] at hbu;rw [hbu] at b1 b2;have es:(X+C) % 256=X+C+0:=Yo;refine mI ?_;refine fM rfl rfl Yp ?_;refine aI (aa (ah (sr (mI (mI ?_)))));refine dF (aa (cF (aq (ai (sr (mL (mI (mI ?_))))))));exact Ry
  ·obtain rfl:i=K:=Yo;exact VR
theorem QZ {X Y:Nat} (h:Y≤X) (i:Nat):((2+X/2^i % 2+256-Y/2^i % 2) % 256+256-(if X % 2^i<Y % 2^i then 1 else 0)) % 256 % 2=(X-Y)/2^i % 2∧
  (1+256-((2+X/2^i % 2+256-Y/2^i % 2) % 256+256-(if X % 2^i<Y % 2^i then 1 else 0)) % 256/2) % 256=(if X % 2^(i+1)<Y % 2^(i+1) then 1 else 0):=by
 have hX:=ZJ X (2^i);have hY:=ZJ Y (2^i);have hp:0<2^i:=YY Yo;have hX2:X % 2^(i+1)=X % 2^i+2^i*(X/2^i % 2):=by rw [Zh,Nat.mod_mul]
 have hY2:Y % 2^(i+1)=Y % 2^i+2^i*(Y/2^i % 2):=by rw [Zh,Nat.mod_mul]
 have hXl:=YU X hp;have hYl:=YU Y hp;rw [hX2,hY2];generalize hx1:X/2^i=x1 at*;generalize hy1:Y/2^i=y1 at*;generalize hx0:X % 2^i=x0 at*;generalize hy0:Y % 2^i=y0 at*;have key:∀b:Nat,b=(if x0<y0 then 1 else 0)→(X-Y)/2^i=x1-y1-b∧y1+b≤x1:=by
  intro b hb;have hle:y1+b≤x1:=by
   refine abI fun hlt=> ?_;have h1:2^i*(x1+1)≤2^i*(y1+b):=Y4 _ hlt;rw [Zj,Zj] at h1;split at hb
   ·subst hb;omega
   ·subst hb;omega
  refine ⟨?_,hle⟩;have e:X-Y=(x0+2^i*b-y0)+2^i*(x1-y1-b):=by
   have h2:2^i*(x1-y1-b)=2^i*x1-2^i*y1-2^i*b:=by rw [Nat.mul_sub,Nat.mul_sub]
   have h3:2^i*(y1+b)≤2^i*x1:=Y4 _ hle;rw [Zj] at h3;split at hb
   ·subst hb;omega
   ·subst hb;omega
  rw [e,ZR _ _ hp,Zt,YZ];split at hb
  ·subst hb;omega
  ·subst hb;omega
 obtain ⟨k1,k2⟩:=key _ rfl;rw [k1];have hlt:(x0+2^i*(x1 % 2)<y0+2^i*(y1 % 2))↔(x1 % 2<y1 % 2∨x1 % 2=y1 % 2∧x0<y0):=by
  rcases Nat.mod_two_eq_zero_or_one x1 with h1|h1<;>rcases Nat.mod_two_eq_zero_or_one y1 with h2|h2<;>rw [h1,h2]<;>omega
 by_cases hb:x0<y0
 ·rw [Yt hb] at k2 ⊢;exact V4
 ·rw [Yu hb] at k2 ⊢;exact V4
theorem rr (A B:Option Addr) (n c m c':Nat) (xs ys:List Nat) (w:World) (hx:Sl w A n 1 (iE xs)) (hy:Sl w B m 1 (iE ys)) (hdx:Dg 2 xs) (hdy:Dg 2 ys) (hn:n≤100000000000) (hm:m≤100000000000) (hle:aZ 2 ys≤aZ 2 xs):
  Calls Tryz.prog 185 #[.slice A n c,.slice B m c'] w fun e w'=>∃b,e=.returned (.slice (some ⟨b,0,none⟩) n n)∧w'.ownsRow w.heap.size 5 1 (.slice (some ⟨b,0,none⟩) n n) n (iE (bX 2 n (aZ 2 xs-aZ 2 ys)))∧Below w.heap.size w w':=by
 have hlx:=hx.1;have hly:=hy.1;rw [dq] at hlx hly;have hh:=Hp.start w;have hand:∀z:Nat,z &&& 1=z % 2:=fun z=>Nat.and_one_is_mod z;refine aj (N:=37) (l:=[.slice A n c,.slice B m c']) Tryz.func185 rfl rfl (by simp) ?_;refine sr (aL (aa (sr (mL (aM ?_)))));refine yQ ?_;intro b11 w11 hh;refine aL (aa (sr (aI (aa (ah (sr (aI (aa (ar ?_)))))))));rw [rE] at hh;refine bH [6,7,8,12,13,14,15,16,17,18,19,20,21,22,23,24,25,26,27,28,29,30,31,32,33,34,35] 6 7
  (fun cr v w'=>∃i:Nat,i≤n∧v=.int .i64 (i:Int)∧cr=.int .u8 ((if aZ 2 xs % 2^i<aZ 2 ys % 2^i then 1 else 0:Nat):Int)∧Hp w [.row (some ⟨b11,0,none⟩) n n 5 1 (iE (bX 2 i (aZ 2 xs-aZ 2 ys)++List.replicate (n-i) 0))] w')
  (fun _ v _=>n-(intOf v).toNat) ?_ ?_
 ·exact ⟨0,Yx _,rfl,by simp [Nat.mod_one];rfl,hh⟩
 ·clear hh;rintro ρ' cr v w' ⟨i,hi,rfl,rfl,hh⟩;by_cases hlt:i<n
  ·obtain ⟨b1,b2⟩:=QZ hle i;have hxb:aZ 2 xs/2^i % 2<2:=YU _ Yo;have hyb:aZ 2 ys/2^i % 2<2:=YU _ Yo;have hcb:(if aZ 2 xs % 2^i<aZ 2 ys % 2^i then 1 else 0:Nat)≤1:=by split<;>omega
   have hll:(iE (bX 2 i (aZ 2 xs-aZ 2 ys)++List.replicate (n-i) 0)).length=n:=by rw [dq,YE,aW,ZG];omega
   have hfk:=SB (N:=aZ 2 xs-aZ 2 ys) hlt;refine ah (sr (mI (mL (aM ?_))));refine vV ?_;refine bj hh (ka A n c i xs _ (hx.ext hh.below) hdx Yo Yo) rfl ?_;intro w20 hh;refine fM (a:=2) rfl rfl Yp ?_;refine mL (mI ?_);refine bj hh (ka B m c' i ys _ (hy.ext hh.below) hdy Yo Yo) rfl ?_;intro w24 hh;generalize hC:(if aZ 2 xs % 2^i<aZ 2 ys % 2^i then 1 else 0:Nat)=C at*;generalize hX:aZ 2 xs/2^i % 2=X at*;generalize hY:aZ 2 ys/2^i % 2=Y at*;have es:((2+X) % 256+256-Y) % 256=(2+X+256-Y) % 256:=Yo;have hS:((2+X+256-Y) % 256+256-C) % 256<256:=YU _ Yo;refine yw ?_;refine mI ?_;rw [es];refine yw ?_;refine aI (aa (sr (mL (mI (mI ?_)))));refine Nm ?_;refine il ?_;refine NI ?_;intro ws hh;simp only [YG] at hh;rw [hand,b1,YV,de (by rw [hll];omega),re,hfk] at hh;refine aa (ak (mI ?_));refine m0 (s:=1) (m:=2) rfl rfl Yp Yp Yp ?_;refine sW (a:=1) rfl rfl Yo Yp ?_;refine aI (aD (bz (ai (ak (mI ?_)))));refine a8 (aI (aD (ai ?_)));refine ⟨⟨i+1,Yo,rfl,by rw [←b2];rfl,hh⟩,by show n-(i+1)<n-i;omega, ?_⟩;exact er
  ·obtain rfl:i=n:=Yo;exact VR
theorem y4 (n:Nat) (w:World) (hn:n<18446744073709551616):
  Calls Tryz.prog 146 #[.int .u64 (n:Int)] w fun e w'=>e=.returned (.string (sN n))∧Below w.heap.size w w':=by
 have hh:=Hp.start w;refine aj (N:=16) (l:=[.int .u64 (n:Int)]) Tryz.func146 rfl rfl (by simp) ?_;refine sr (aS (aa (sr (aL (aa (ah (ar ?_)))))));replace hh:=hh.dm 5 1;refine bH [0,3,4,5,6,7,8,9,10,11,12,13] 0 3
  (fun v o w'=>∃(k m:Nat) (A:Option Addr) (c:Nat),v=.int .u64 (m:Int)∧m<18446744073709551616∧k≤64∧m<2^(64-k)∧o=.slice A k c∧m=n/2^k∧Hp w [.row A k c 5 1 (iE (bX 2 k n))] w')
  (fun v _ _=>(intOf v).toNat) ?_ ?_
 ·exact ⟨0,n,none,0,rfl,hn,Yo,by simpa using hn,rfl,by simp,hh⟩
 ·clear hh;rintro ρ' v o w' ⟨k,m,A,c,rfl,hm,hk,hmk,rfl,hmn,hh⟩;by_cases h0:m=0
  ·subst h0;refine ah (sr (mI ?_));refine bT (aa (cF (aX (aE (aE (bA (ai (sr (mL ?_)))))))));refine bj hh (iG _ _ _ (bX 2 k n) _ (hh.az (i:=0) rfl) (gP Yo _ _) (hh.fQ (i:=0) rfl) Yo) rfl ?_;intro w15 hh;have hlt:n<2^k:=by
    have:=ZJ n (2^k);have h2:=YU n (YY (n:=k) (show 0<2 by omega));rw [←hmn] at this;omega
   rw [cX hlt];exact E0
  ·have hk64:k<64:=by
    refine abl fun h=> ?_;rw [show 64-k=0 by omega] at hmk;omega
   have hm2:m % 2<256:=Yo;refine ah (sr (mI ?_));refine bT (aa (cT (aq (ai (ah (ar (ak (mL (mI ?_)))))))));refine Fi (b:=2) rfl rfl Yo Yp ?_;refine md ?_;refine vU ?_;intro b12 w12 hh;refine pB ?_;intro A13 c13 w13 hh;simp only [YG,Y8] at hh;replace hh:=hh.sub (Zc _ _);refine tg ?_;refine Gj (b:=2) rfl rfl Yo (by first|assumption|omega) Yp ?_;refine aI (aD (ai ?_));have e1:iE (bX 2 k n)++[Value.int .u8 ((m % 2:Nat):Int)]=iE (bX 2 (k+1) n):=by
    rw [hmn,l8,xr];rfl
   rw [e1] at hh;refine ⟨⟨k+1,m/2,A13,c13,rfl,Yo,Yo, ?_,rfl, ?_,hh⟩,by show (((m/2:Nat):Int)).toNat<((m:Int)).toNat;omega, ?_⟩
   ·rw [show 64-k=(64-(k+1))+1 by omega,Zh] at hmk;omega
   ·rw [hmn,ZS,Zh]
   ·exact er
theorem jQ (a:ByteArray):(aR 2 (bN a)).length≤8*a.size:=ik a
theorem lG (n:Nat):Dg 2 (aR 2 n):=(eW Yo n).1
theorem jv (n:Nat):aZ 2 (aR 2 n)=n:=fk Yo n
theorem vF (a b:ByteArray) (w:World) (ha:a.size≤1000000000) (hb:b.size≤1000000000):
  Calls Tryz.prog 187 #[.string a,.string b] w fun e w'=>e=.returned (.int .i64 (jH (bN a) (bN b)))∧Below w.heap.size w w':=by
 have hh:=Hp.start w;have h1:=jQ a;have h2:=jQ b;refine aj (N:=10) (l:=[.string a,.string b]) Tryz.func187 rfl rfl (by simp) ?_;refine sr (aI (aa (sr (mS ?_))));refine Dh ?_;rintro e_ w6 ⟨A6,c6,rfl,hown_,hb_⟩;refine ⟨_,rfl, ?_⟩;replace hh:=hh.aP (x:=.row _ _ _ _ _ _) hb_ hown_;refine mS ?_;refine ay (gK b _ hb) au.out rfl Yp ?_;rintro e_ w8 ⟨A8,c8,rfl,hown_,hb_⟩;refine ⟨_,rfl, ?_⟩;replace hh:=hh.aP (x:=.row _ _ _ _ _ _) hb_ hown_;refine bj hh (nH _ _ _ _ _ _ (aR 2 (bN a)) (aR 2 (bN b)) _ (hh.az (i:=1) rfl) (hh.az (i:=0) rfl) (lG _) (lG _) Yo Yo) rfl ?_;intro w9 hh;rw [jv,jv];exact BF
theorem pM (a:ByteArray) (w:World) (ha:a.size≤1000000000):
  Calls Tryz.prog 143 #[.string a] w fun e w'=>e=.returned (.int .i64 (bE (bN a)))∧Below w.heap.size w w':=by
 have hh:=Hp.start w;refine aj (N:=6) (l:=[.string a]) Tryz.func143 rfl rfl (by simp) ?_;refine sr (aI (aa (sr (mS ?_))));refine Dh ?_;rintro e_ w4 ⟨A4,c4,rfl,hown_,hb_⟩;refine ⟨_,rfl, ?_⟩;replace hh:=hh.aP (x:=.row _ _ _ _ _ _) hb_ hown_;refine aM (aI (aa (av ?_)));refine dH ?_;exact ⟨rfl,hh.below⟩
theorem pP (a b:ByteArray) (w:World) (ha:a.size≤1000000000) (hb:b.size≤1000000000):
  Calls Tryz.prog 145 #[.string a,.string b] w fun e w'=>e=.returned (.tuple #[.string (sN (bN a-bN b)),.bool (decide (bN b≤bN a))])∧Below w.heap.size w w':=by
 have hh:=Hp.start w;have h1:=jQ a;have h2:=jQ b;by_cases hlt:bN a<bN b
 ·refine aj (N:=16) (l:=[.string a,.string b]) Tryz.func145 rfl rfl (by simp) ?_;refine sr (aS (aB (aa (ah (sr (mS (mS ?_)))))));refine bj hh (vF a b _ ha hb) rfl ?_;intro w8 hh;rw [lF hlt];exact VQ
 ·have hc:¬jH (bN a) (bN b)<0:=by unfold jH;split<;>(try split)<;>omega
  have hbl:bN a-bN b<2^(aR 2 (bN a)).length:=Zr (Nat.sub_le _ _) (cR (bN a));refine aj (N:=16) (l:=[.string a,.string b]) Tryz.func145 rfl rfl (by simp) ?_;refine sr (aS (aB (aa (ah (sr (mS (mS ?_)))))));refine bj hh (vF a b _ ha hb) rfl ?_;intro w8 hh;refine a9 (aa (cF (aq (ai (sr (mS ?_))))));refine Dh ?_;rintro e_ w11 ⟨A11,c11,rfl,hown_,hb_⟩;refine ⟨_,rfl, ?_⟩;replace hh:=hh.aP (x:=.row _ _ _ _ _ _) hb_ hown_;refine mS ?_;refine ay (gK b _ hb) au.out rfl Yp ?_;rintro e_ w13 ⟨A13,c13,rfl,hown_,hb_⟩;refine ⟨_,rfl, ?_⟩;replace hh:=hh.aP (x:=.row _ _ _ _ _ _) hb_ hown_;refine ay (rr _ _ _ _ _ _ (aR 2 (bN a)) (aR 2 (bN b)) _ (hh.az (i:=1) rfl) (hh.az (i:=0) rfl) (lG _) (lG _) Yo Yo (by rw [jv,jv];omega)) au.out rfl Yp ?_;rintro e_ w_ ⟨b14,rfl,hown_,hb_⟩;refine ⟨_,rfl, ?_⟩;replace hh:=hh.aP (x:=.row _ _ _ _ _ _) hb_ hown_;rw [jv,jv] at hh;refine bj hh (iG _ _ _ (bX 2 (aR 2 (bN a)).length (bN a-bN b)) _ (hh.az (i:=0) rfl) (gP Yo _ _) (YA _) Yo) rfl ?_;intro w15 hh;rw [cX hbl];exact RP
theorem EH (a:ByteArray) (m:Nat) (w:World) (ha:a.size≤1000000000) (hm:m≤10000000000):
  Calls Tryz.prog 141 #[.string a,.int .i64 (m:Int)] w fun e w'=>e=.returned (.string (sN (bN a*2^m)))∧Below w.heap.size w w':=by
 have hh:=Hp.start w;have h1:=jQ a;have e1:(if (0:Int)>(m:Int) then 0 else (m:Int))=m:=Yu Yo;have hbd:bN a*2^m<2^(max 0 ((aR 2 (bN a)).length+m)+1):=by
  refine Zl (cR _) (Zf Yo ?_);have:=iQ (bN a) m;show bE _≤max 0 (bE _+m)+1;omega
 refine aj (N:=11) (l:=[.string a,.int .i64 (m:Int)]) Tryz.func141 rfl rfl (by simp) ?_;refine sr (aS (aa (sr (mS ?_))));refine Dh ?_;rintro e_ w6 ⟨A6,c6,rfl,hown_,hb_⟩;refine ⟨_,rfl, ?_⟩;replace hh:=hh.aP (x:=.row _ _ _ _ _ _) hb_ hown_;refine mI ?_;refine k9 rfl rfl Yp ?_;rw [e1];refine ay (s9 none _ 0 0 _ _ m [] (aR 2 (bN a)) _ (Sl.nil _ _ _) (hh.az (i:=0) rfl) Dg.nil (lG _) Yo Yo Yo) au.out rfl Yp ?_;rintro e_ w_ ⟨b9,rfl,hown_,hb_⟩;refine ⟨_,rfl, ?_⟩;replace hh:=hh.aP (x:=.row _ _ _ _ _ _) hb_ hown_;rw [jv,aZ,YZ] at hh;refine bj hh (iG _ _ _ (bX 2 (max 0 ((aR 2 (bN a)).length+m)+1) (bN a*2^m)) _ (hh.az (i:=0) rfl) (gP Yo _ _) (YA _) Yo) rfl ?_;intro w10 hh;rw [cX hbd];exact E0
theorem FJ (L:Option Addr) (n c:Nat) (ss:List ByteArray) (w:World) (hS:Sl w L n 1 (Dj ss)) (hn:n≤1000000) (hs:∀s∈ss,s.size≤1000000000):
  Calls Tryz.prog 144 #[.slice L n c] w fun e w'=>e=.returned (.string (sN (ss.map bN).sum))∧Below w.heap.size w w':=by
 have hsl:ss.length=n:=by have:=hS.1;rw [tw] at this;omega
 have hh:=Hp.start w;refine aj (N:=20) (l:=[.slice L n c]) Tryz.func144 rfl rfl (by simp) ?_;refine sr (aS (aa (sr (aL (aa (ah (sr (aI (aa (ar ?_))))))))));replace hh:=hh.dm 5 1;refine bH [3,4,5,6,7,8,9,10,11,12,13,14,15,16,17] 3 4
  (fun v j w'=>∃(i:Nat) (A:Option Addr) (c' T K:Nat),i≤n∧j=.int .i64 i∧T=((ss.take i).map bN).sum∧v=.slice A K c'∧K≤8000000000+i∧T<2^K∧Hp w [.row A K c' 5 1 (iE (bX 2 K T))] w')
  (fun _ j _=>n-(intOf j).toNat) ?_ ?_
 ·exact ⟨0,none,0,0,0,Yx _,rfl,rfl,rfl,Yo,by simp,hh⟩
 ·clear hh;rintro ρ' v j w' ⟨i,A,c',T,K,hi,rfl,hT,rfl,hTl,hTb,hh⟩;by_cases hlt:i<n
  ·obtain ⟨s,hsi⟩:=ao (l:=ss) (k:=i) Yo;obtain ⟨ad,rfl,hr⟩:=hS.at_ Yo;have hs2:=G1 hsi;have hsz:=hs s (Yy hsi);have hlx:=jQ s;have hT2:((ss.take (i+1)).map bN).sum=T+bN s:=by rw [aw hsi,ZD,aa6,sX,hT]
   have hbs:bN s<2^(aR 2 (bN s)).length:=cR _;have hb2:T+bN s<2^(max K ((aR 2 (bN s)).length+0)+1):=by
    have h1:2^K≤2^max K ((aR 2 (bN s)).length+0):=Zf Yo Yo;have h2:2^(aR 2 (bN s)).length≤2^max K ((aR 2 (bN s)).length+0):=Zf Yo Yo;rw [Zh];omega
   refine ah (sr (mI (mL (aM ?_))));refine a9 (aa (cT (aq (ai (ah (ar (ak (mL (mL (mI ?_))))))))));refine bZ ?_;refine nJ ?_;refine ay (gK s _ hsz) au.out rfl Yp ?_;rintro e_ w16 ⟨A16,c16,rfl,hown_,hb_⟩;refine ⟨_,rfl, ?_⟩;replace hh:=hh.aP (x:=.row _ _ _ _ _ _) hb_ hown_;refine ay (s9 _ _ _ _ _ _ 0 (bX 2 K T) (aR 2 (bN s)) _ (hh.az (i:=1) rfl) (hh.az (i:=0) rfl) (gP Yo _ _) (lG _) Yo Yo Yo) au.out rfl Yp ?_;rintro e_ w_ ⟨b17,rfl,hown_,hb_⟩;refine ⟨_,rfl, ?_⟩;rw [jv,cX hTb,aa4,YV] at hown_;replace hh:=(hh.aP (x:=.row _ _ _ _ _ _) hb_ hown_).sub (aaW [_] _);refine tg ?_;refine a8 (aI (aD (ai ?_)));refine ⟨⟨i+1,_,_,T+bN s,_,Yo,rfl,hT2.symm,rfl,Yo,hb2,hh⟩,by show n-(i+1)<n-i;omega, ?_⟩;exact er
  ·refine ah (sr (mI (mL (aM ?_))));refine a9 (aa (cF (aX (aE (aE (bA (ai (sr (mL ?_)))))))));refine bj hh (iG _ _ _ (bX 2 K T) _ (hh.az (i:=0) rfl) (gP Yo _ _) (hh.fQ (i:=0) rfl) Yo) rfl ?_;intro w19 hh;rw [cX hTb];exact SF
theorem Nr (X Y k:Nat) (hY:0<Y):X/2^k % Y=(if Y≤X/2^k % 2+2*(X/2^(k+1) % Y) then X/2^k % 2+2*(X/2^(k+1) % Y)-Y else X/2^k % 2+2*(X/2^(k+1) % Y))∧
  X/2^k/Y % 2=(if Y≤X/2^k % 2+2*(X/2^(k+1) % Y) then 1 else 0)∧X/2^k/Y/2=X/2^(k+1)/Y:=by
 have h1:=mD X k;have hb:X/2^k % 2<2:=YU _ Yo;generalize X/2^k % 2=b at*;generalize X/2^k=Z at*;generalize X/2^(k+1)=V at*;have h2:=ZJ V Y;have h3:=YU V hY;generalize V/Y=q at*;generalize V % Y=r at*;have e:Z=(b+2*r)+Y*(2*q):=by rw [h1,←h2,Zj,aa2];omega
 rw [e,aaA,ZR _ _ hY];by_cases hc:Y≤b+2*r
 ·rw [Yt hc,Yt hc];have e2:b+2*r=(b+2*r-Y)+Y*1:=Yo;have h4:b+2*r-Y<Y:=Yo;have h5:(b+2*r)/Y=1:=by rw [e2,ZR _ _ hY,Zt h4]
  have h6:(b+2*r) % Y=b+2*r-Y:=by conv=>lhs;rw [e2,aaA,Za h4]
  rw [h5,h6];omega
 ·rw [Yu hc,Yu hc,Za Yo,Zt Yo];omega
theorem qu (a b:ByteArray) (w:World) (ha:a.size≤1000000000) (hb:b.size≤1000000000) (hb0:bN b≠0):
  Calls Tryz.prog 140 #[.string a,.string b] w fun e w'=>e=.returned (.tuple #[.string (sN (bN a/bN b)),.string (sN (bN a % bN b)),.bool true])∧Below w.heap.size w w':=by
 have hh:=Hp.start w;have h1:=jQ a;have h2:=jQ b;have hX:=jv (bN a);have hXd:=lG (bN a);have hXl:bN a<2^(aR 2 (bN a)).length:=cR _;have hYp:0<(aR 2 (bN b)).length:=nO hb0;have hget:∀k,k<(aR 2 (bN a)).length→(aR 2 (bN a))[k]?=some (bN a/2^k % 2):=fun k hk=>uW Yo hk;refine aj (N:=52) (l:=[.string a,.string b]) Tryz.func140 rfl rfl (by simp) ?_;refine sr (aS (aS (aB (aa (sr (mS ?_))))));refine Dh ?_;rintro e_ w13 ⟨A13,c13,rfl,hown_,hb_⟩;refine ⟨_,rfl, ?_⟩;replace hh:=hh.aP (x:=.row _ _ _ _ _ _) hb_ hown_;refine mS ?_;refine ay (gK b _ hb) au.out rfl Yp ?_;rintro e_ w15 ⟨A15,c15,rfl,hown_,hb_⟩;refine ⟨_,rfl, ?_⟩;replace hh:=hh.aP (x:=.row _ _ _ _ _ _) hb_ hown_;refine aL (aL (aa (ah (sr (mL (aM ?_))))));refine cH (aa (cF (aq (ai (sr (mL (aM ?_)))))));refine gj hh rfl rfl rfl rfl bG.out aJ.out rfl Yo Yo Yp ?_;intro b21 w21 hh;refine aL (aa (sr (aL (aa (ah (sr (mL (aM ?_))))))));refine ee (aI (aa (ar ?_)));rw [rE] at hh;generalize hxs:aR 2 (bN a)=xs at*;replace hh:=hh.dm 5 1;refine bH [10,11,25,26,27,28,29,30,31,32,33,34,35,36,37,38,39,40,41,42,43,44,45,46,47] 10 11
  (fun v j w'=>∃(k:Nat) (A:Option Addr) (c':Nat),k≤xs.length∧j=.int .i64 ((k:Int)-1)∧v=.slice A (aR 2 (bN a/2^k % bN b)).length c'∧Hp w [.row A (aR 2 (bN a/2^k % bN b)).length c' 5 1 (iE (aR 2 (bN a/2^k % bN b))),.row (some ⟨b21,0,none⟩) xs.length xs.length 5 1 (iE (List.replicate k 0++bX 2 (xs.length-k) (bN a/2^k/bN b))),.row A15 (aR 2 (bN b)).length c15 5 1 (iE (aR 2 (bN b))),.row A13 xs.length c13 5 1 (iE xs)] w')
  (fun _ j _=>(intOf j+1).toNat) ?_ ?_
 ·refine ⟨xs.length,none,0,YA _,rfl, ?_, ?_⟩
  ·rw [Zt hXl,Nat.zero_mod,iT Yo];rfl
  ·rw [Zt hXl,Nat.zero_mod,iT Yo,Zn];simp only [bX,Y7];exact hh
 ·clear hh;rintro ρ' v j w' ⟨k,A,c',hk,rfl,rfl,hh⟩;by_cases h0:k=0
  ·subst h0;rw [aa4,aaG,Nat.sub_zero,aby,Yz] at hh;rw [aa4,aaG];have hq:bN a/bN b<2^xs.length:=Zr (aaF _ _) hXl;have hrl:(aR 2 (bN a % bN b)).length≤(aR 2 (bN b)).length:=ke Yo (Nat.le_of_lt (YU _ Yo));refine ah (sr (mI ?_));refine dF (aa (cF (aX (aE (aE (bA (ai (sr (mL ?_)))))))));refine bj hh (iG _ _ _ (bX 2 xs.length (bN a/bN b)) _ (hh.az (i:=1) rfl) (gP Yo _ _) (YA _) Yo) rfl ?_;intro w49 hh;rw [cX hq];refine mL ?_;refine bj hh (iG _ _ _ (aR 2 (bN a % bN b)) _ (hh.az (i:=0) rfl) (lG _) (hh.fQ (i:=0) rfl) Yo) rfl ?_;intro w51 hh;rw [jv];refine aS (aS (aB (aa (av ?_))));refine Ws ?_;exact ⟨rfl,hh.below⟩
  ·obtain ⟨i,rfl⟩:∃i,k=i+1:=⟨k-1,Yo⟩;have hji:((i+1:Nat):Int)-1=(i:Int):=Yo;obtain ⟨d1,d2,d3⟩:=Nr (bN a) (bN b) i Yo;have hgi:=qh (hget i Yo);have hdw:bN a/2^i % 2<2:=YU _ Yo;have hrl:(aR 2 (bN a/2^(i+1) % bN b)).length≤(aR 2 (bN b)).length:=ke Yo (Nat.le_of_lt (YU _ Yo));have hqk:bX 2 (xs.length-i) (bN a/2^i/bN b)=(bN a/2^i/bN b % 2)::bX 2 (xs.length-(i+1)) (bN a/2^(i+1)/bN b):=by
    rw [show xs.length-i=(xs.length-(i+1))+1 by omega,bX,d3]
   rw [hji];obtain ⟨g,rfl⟩:=hh.cq (i:=3) rfl Yo;refine ah (sr (mI ?_));refine dF (aa (cT (aq (ai (ah (ar (sr (mL (mI ?_)))))))));refine il ?_;refine bY aJ.out rfl (hh.iC (i:=3) rfl (by first|assumption|(simp only [YV];assumption))) Yp ?_;refine vU ?_;intro b33 w33 hh;refine mL ?_;refine cu hh (i:=0) rfl rfl rfl (hh.az (i:=1) rfl) bG.out aJ.out rfl Yp (by first|rfl|exact ea _|exact dv _|exact bI _|exact bK NR.one _) Yo Yo Yp ?_;intro A35 c35 w35 hh;simp only [YG] at hh;have e35:[Value.int .u8 ((bN a/2^i % 2:Nat):Int)]++iE (aR 2 (bN a/2^(i+1) % bN b))=iE ((bN a/2^i % 2)::aR 2 (bN a/2^(i+1) % bN b)):=rfl;rw [e35] at hh;generalize hR:bN a/2^(i+1) % bN b=R at*;generalize hbt:bN a/2^i % 2=bt at*;have hdg:Dg 2 (bt::aR 2 R):=Dg.cons hdw (lG _);have hcv:eJ (bt::aR 2 R)=aR 2 (bt+2*R):=by rw [jB Yo hdg,aZ,jv]
   have hll:(bt::aR 2 R).length=1+(aR 2 R).length:=by rw [Y3];omega
   have hcl:=fh (bt::aR 2 R);refine bj hh (mC _ _ _ (bt::aR 2 R) _ (hh.az (i:=0) rfl) (hh.fQ (i:=0) rfl) Yo) rfl ?_;intro w36 hh;replace hh:=hh.TO hll;rw [hcv] at hh hcl;rw [hcv];refine aL (aa (sr (mL (mL ?_))));refine bj hh (nH _ _ _ _ _ _ (aR 2 (bt+2*R)) (aR 2 (bN b)) _ (hh.az (i:=0) rfl) (hh.az (i:=3) rfl) (lG _) (lG _) Yo Yo) rfl ?_;intro w39 hh;rw [jv,jv];by_cases hge:bN b≤bt+2*R
   ·have hc:0≤jH (bt+2*R) (bN b):=by unfold jH;rw [Yu Yo];split<;>omega
    rw [Yt hge] at d1 d2;have hml:bt+2*R-bN b<2^(aR 2 (bt+2*R)).length:=Zr (Nat.sub_le _ _) (cR _);have hcm:eJ (bX 2 (aR 2 (bt+2*R)).length (bt+2*R-bN b))=aR 2 (bt+2*R-bN b):=by rw [jB Yo (gP Yo _ _),cX hml]
    refine dF (aa (cT (sr (mL (mL ?_)))));refine ay (rr _ _ _ _ _ _ (aR 2 (bt+2*R)) (aR 2 (bN b)) _ (hh.az (i:=0) rfl) (hh.az (i:=3) rfl) (lG _) (lG _) Yo Yo (by rw [jv,jv];exact hge)) au.out rfl Yp ?_;rintro e_ w_ ⟨b43,rfl,hown_,hb_⟩;refine ⟨_,rfl, ?_⟩;replace hh:=hh.aP (x:=.row _ _ _ _ _ _) hb_ hown_;rw [jv,jv] at hh;refine bj hh (mC _ _ _ (bX 2 (aR 2 (bt+2*R)).length (bt+2*R-bN b)) _ (hh.az (i:=0) rfl) (YA _) Yo) rfl ?_;intro w44 hh;replace hh:=hh.TO (aW _ _);rw [hcm] at hh;rw [hcm];have hql:(iE (List.replicate (i+1) 0++bX 2 (xs.length-(i+1)) (bN a/2^(i+1)/bN b))).length=xs.length:=by rw [dq,YE,ZG,aW];omega
    refine aL (aa (ak (mL (mI ?_))));refine il ?_;refine ct hh (i:=3) (vs:=[_]) rfl rfl (dt rfl) rfl aJ.out rfl (by rw [hql];omega) rfl ?_;intro ws hh;simp only [YG,Y8] at hh;rw [YV,de (by rw [hql];omega)] at hh;have hset:(iE (List.replicate (i+1) 0++bX 2 (xs.length-(i+1)) (bN a/2^(i+1)/bN b))).set i (.int .u8 1)=iE (List.replicate i 0++bX 2 (xs.length-i) (bN a/2^i/bN b)):=by
     have:=re (List.replicate (i+1) 0++bX 2 (xs.length-(i+1)) (bN a/2^(i+1)/bN b)) i 1;rw [hqk,d2,←HV];exact this
    rw [hset] at hh;replace hh:=hh.sub (.cons_cons _ (.cons _ (.cons _ (Zq _))));refine aD (bz (ai (ak (mI ?_))));refine ee (aI (aD (ai ?_)));exact RD
   ·have hc:¬0≤jH (bt+2*R) (bN b):=by rw [lF Yo];omega
    rw [Yu hge] at d1 d2;refine dF (aa (cF (aq (bz (ai (ak (mI ?_)))))));refine ee (aI (aD (ai ?_)));have hrep:List.replicate (i+1) 0++bX 2 (xs.length-(i+1)) (bN a/2^(i+1)/bN b)=List.replicate i 0++bX 2 (xs.length-i) (bN a/2^i/bN b):=by
     rw [hqk,d2,List.replicate_succ',Y5];rfl
    rw [hrep] at hh;replace hh:=hh.sub (.cons_cons _ (.cons _ (Zq _)));exact RD
end Go.Proofs.YtmchncaiffbpaaaGreatDoor
