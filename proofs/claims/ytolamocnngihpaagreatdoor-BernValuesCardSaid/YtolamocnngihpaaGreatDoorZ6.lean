/- Lemmas for bernValues, part 6. -/
import Derived.Test.YtolamocnngihpaaGreatDoorZ5
namespace Go.Proofs.YtolamocnngihpaaGreatDoor
variable {k n:Nat}
open Go.RowKit
def la (n:Nat):List NR:=(te n).map fun k=>nR (nD k)
theorem L9 (n:Nat):(la n).length=n+1:=by simp [la,uK]
theorem kV (h:k≤n):(la n)[k]?=some (nR (nD (bin n k))):=by
 unfold la;rw [Xx,yC h]
 rfl
theorem rK (n k:Nat) (h:n≤127):Sz 128 (nD (bin n k)):=Jz (Yv (zN n k) (Nat.pow_lt_pow_right Xk Xj))
theorem kY (n:Nat) (w:World) (hT:dN w) (hn:n≤127):
  Calls Tryz.prog 78 #[.int .i64 n] w fun r w'=>∃A c',r=.returned (.slice A (n+1) c')∧w'.ownsRow w.heap.size 40 3 (.slice A (n+1) c') (n+1) (ay NR.cells (la n))∧Below w.heap.size w w':=by
 have hh:=Hp.start w;refine aj (N:=39) (l:=[.int .i64 n]) Tryz.func78 rfl rfl (by simp) ?_;refine sr (aL (aa (sr ?_)));refine AM ?_;intro w6 hh;refine oF ?_;intro b7 w7 hh;refine aL (aa (ah (sr (mI (mI (aa (ao ?_)))))));refine bK [3,4,5,9,10,11,12,13,14,15,16,17,18,19,20,21,22,23,24,25,26,27,28,29,30,31,32,33,34,35,36,37] 3 9
  (fun v3 v w'=>∃(i c3:Nat) (A:Option Addr),i≤n∧v=.int .i64 i∧v3=.slice A (i+1) c3∧Hp w [.row A (i+1) c3 40 3 (ay NR.cells (la i))] w')
  (fun _ v _=>n-(intOf v).toNat) ?_ ?_
 ·exact ⟨0,_,_,Xs _,rfl,rfl,hh⟩
 ·clear hh;rintro ρ' v3 v w' ⟨i,c3,A,hi,rfl,rfl,hh⟩;by_cases hlt:i<n
  ·refine sr ?_;refine dT ?_;refine AM ?_;intro w11 hh;refine oF ?_;intro b12 w12 hh;refine aL (aa (ah (sr (aI (aa (ao ?_))))));refine bK [4,5,13,14,15,16,17,18,19,20,21,22,23,24,25,26,27,28,29,30,31,32] 4 5
    (fun v4 v w'=>∃(k c4:Nat) (B:Option Addr),k≤i∧v=.int .i64 ((k+1:Nat):Int)∧v4=.slice B (k+1) c4∧Hp w [.row B (k+1) c4 40 3 (ay NR.cells ((la (i+1)).take (k+1))),.row A (i+1) c3 40 3 (ay NR.cells (la i))] w')
    (fun _ v _=>i+1-(intOf v).toNat) ?_ ?_
   ·refine ⟨0,_,_,Xs _,rfl,rfl, ?_⟩;rw [show (la (i+1)).take (0+1)=[nR (nD 1)] by rw [az (kV (Xs _)),qu];rfl];exact hh
   ·clear hh;rintro ρ2 v4 v w2 ⟨k,c4,B,hk,rfl,rfl,hh⟩;by_cases hlk:k<i
    ·have e1:=kV (n:=i) (k:=k) Xj;have e2:=kV (n:=i) (k:=k+1) Xj;have e3:=kV (n:=i+1) (k:=k+1) Xj;have z1:=rK i k Xj;have z2:=rK i (k+1) Xj;have hadd:=fun A cc w1 hT1 hS1=>fY A 2 cc [nR (nD (bin i k)),nR (nD (bin i (k+1)))] w1 hT1 hS1 (by simpa using ⟨z1.ok Xj,z2.ok Xj⟩) 128 (by simpa [bI] using ⟨z1,z2⟩) Xj;rw [show l4 ([nR (nD (bin i k)),nR (nD (bin i (k+1)))].map NR.d)=nD (bin (i+1) (k+1)) by simp only [XQ,Ye,bI,jA,bin,z7]] at hadd;obtain ⟨go,rfl⟩:=hh.cn (i:=1) rfl Xj;refine ah (sr (mI (mL (aH ?_))));refine bf (aa (cT (aq (ai (ah (ao ?_))))));refine a0 13 [[(4,none)],[(3,none)],[(5,none)],[(21,some 2)],[(20,some 1),(22,some 3)],[(23,some 4)],[(3,none)],[(5,none)],[(25,some 6),(26,some 7)],[(27,some 8)],[(24,some 5),(28,some 9)],[(29,some 10)],[(30,some 11)]] [(12,31),(11,30),(10,29),(9,28),(8,27),(7,26),(6,25),(5,24),(4,23),(3,22),(2,21),(1,20),(0,19)] hh mixed Xl ?_;refine fS ?_;refine fS ?_;refine dJ ?_;refine vx ?_;refine LC (k) ?_
     refine so [_,_,_] (fun _ hj=>hj.hp.fV (f:=NR.cells) (x:=nR (nD (bin i k))) (l:=la i) (i:=1) rfl NR.len Xk e1) ?_;refine fS ?_;refine dJ ?_;refine LC ((k+1)) ?_;refine so [_,_,_] (fun _ hj=>hj.hp.fV (f:=NR.cells) (x:=nR (nD (bin i (k+1)))) (l:=la i) (i:=1) rfl NR.len Xk e2) ?_;refine rD [_,_,_,_,_,_] ?_;refine aQ (i:=11) (Is (.agg #[.bool (nR (nD (bin (i+1) (k+1)))).neg,.string (nR (nD (bin (i+1) (k+1)))).bg,.int .i64 (nR (nD (bin (i+1) (k+1)))).e])) Is.ext ?_ ?_
     ·intro ρ1 w1 hj hR;obtain ⟨A29,c29,h29,s29⟩:=hR.1;exact aY rfl (aJ ar.out (av h29 aU)) (hadd A29 c29 _ (hT.hp hj.hp) s29) (fun _ _ hq=>⟨_,hq.1,hq.2,rfl⟩)
     refine rD [_,_,_] ?_;refine aO ?_;intro f W hJ hV;have hb_8:=hJ.bl;obtain ⟨v31,v30,v29,v28,v27,v26,v25,v24,v23,v22,v21,v20,v19,_⟩:=hV;obtain ⟨A29,c29,e29,f29⟩:Rows _ _ _ (f 10) W:=v29;obtain ⟨A31,c31,e31,f31⟩:Rows _ _ _ (f 12) W:=v31;replace hh:=hJ.hp;refine aW (bm (ae e31 (ae v30 (ae e29 (ae v28 (ae v27 (ae v26 (ae v25 (ae v24 (ae v23 (ae v22 (ae v21 (ae v20 (ae v19 aV)))))))))))))) ?_;dsimp only [cd];clear e29 e31 hJ;refine cw hh (i:=0) rfl rfl rfl (f31) bh.out aM.out rfl Xk (by first|rfl|exact dv _|exact cY _|exact bF _|exact bT NR.one _) Xj Xj Xk ?_;intro A32 c32 w32 hh;simp only [XC] at hh;refine x9 ?_;refine bk (aI (aA (ai ?_)));replace hh:=hh.sub (Xq _ (Xq _ XU));refine ⟨⟨k+1,c32,A32,Xj,rfl,rfl, ?_⟩,by show i+1-(k+1+1)<i+1-(k+1);omega, ?_⟩
     ·rw [az e3,bD];exact hh
     ·exact dV
    ·obtain rfl:k=i:=Xj;have e3:=kV (n:=k+1) (k:=k+1) (Xr _);refine ah (sr (mI (mL (aH ?_))));refine bf (aa (cF (a6 (aE (aE (bq (ai (al (mL ?_)))))))));refine AM ?_;intro w34 hh;refine oF ?_;intro b35 w35 hh;refine qM ?_;intro A36 c36 w36 hh;simp only [XC,X6] at hh;replace hh:=hh.sub (X9 _ _);refine kM ?_;refine bk (mI (aA (ai ?_)));replace hh:=hh.sub (Xq _ (Xv _ XU));refine ⟨⟨k+1,c36,A36,Xj,rfl,rfl, ?_⟩,by show n-(k+1)<n-k;omega, ?_⟩
     ·have e4:la (k+1)=(la (k+1)).take (k+1)++[nR (nD (bin (k+1) (k+1)))]:=by
       rw [←az e3,Xz (by rw [L9];omega)]
      rw [e4,bD,CO];exact hh
     ·exact dV
  ·obtain rfl:i=n:=Xj;exact N4
def Db (ds:List Nat):List Nat:=(List.range (au ds.reverse)).map fun p=>TK ds.reverse (cZ ds.reverse p)
theorem Ja (ds:List Nat) (d:Nat):Db (ds++[d])=(Db ds).flatMap fun x=>(te d).map (x* ·):=by
 have hl:∀a∈Db ds,((te d).map (a* ·)).length=d+1:=fun a _=>by rw [XA,uK]
 refine YG fun p=> ?_;rw [oU Xj _ _ _ hl];unfold Db;rw [ZV,List.reverse_singleton,List.singleton_append];by_cases hp:p<au (d::ds.reverse)
 ·have hq:p/(d+1)<au ds.reverse:=by rw [YR Xj,XY];exact hp
  have hr:p % (d+1)≤d:=by have:=XW p (show 0<d+1 by omega);omega
  rw [Xx,Yh hp,Xx,Yh hq];simp only [Za,Zl,Xx,yC hr,cZ,TK,XY]
 ·have hq:¬p/(d+1)<au ds.reverse:=by rw [YR Xj,XY];exact hp
  rw [X1 (by simp;omega),X1 (l:=List.map _ _) (by simp;omega)]
  rfl
theorem GA (ds:List Nat):(Db ds).length=au ds:=by simp [Db,cD]
def MN (ds:List Nat):List NR:=(Db ds).map fun k=>nR (nD k)
variable {ds:List Nat}{j m:Nat}
theorem I6:∀(ds row:List Nat),(∀d∈ds,d≤127)→TK ds row≤2^(127*ds.length)
 |[],_,_=>by show 1≤1;exact Xr _
 |d::ds,[],_=>by show 1≤_;exact X7 Xk
 |d::ds,r::rs,h=>by
  have h1:bin d r≤2^127:=XV (zN d r) (Yf Xk (h d XB));have h2:=I6 ds rs fun x hx=>h x (XD _ hx);rw [TK,XR,YS,Zh,XS];exact YT h1 h2
theorem Sa (h:n≤2^m) (hk:m<k):Sz k (nD n):=Jz (Yv h (Nat.pow_lt_pow_right Xk hk))
theorem UF {x:Nat} (h:x∈Db ds) (h1:ds.length≤12) (h2:∀d∈ds,d≤127):Sz 1600 (nD x):=by
 obtain ⟨p,_,rfl⟩:=XG.1 h;have h3:=I6 ds.reverse (cZ ds.reverse p) fun d hd=>h2 d (Zt.1 hd);exact Sa h3 (by rw [X8];omega)
def Ns (ds:List Nat) (d j:Nat):List Nat:=((Db ds).take j).flatMap fun x=>(te d).map (x* ·)
theorem JQ {d x:Nat} (h:(Db ds)[j]?=some x):Ns ds d (j+1)=Ns ds d j++(te d).map (x* ·):=by
 unfold Ns;rw [az h,ZC,List.flatMap_singleton]
theorem tX (A:Option Addr) (n c:Nat) (ns:List Nat) (w:World) (hT:dN w) (hS:Sl w A n 1 (bu (bM ns))) (h12:ns.length≤12) (hlow:∀d∈ns,d≤127) (hmax:au ns≤4096):
  Calls Tryz.prog 26 #[.slice A n c] w fun r w'=>∃B c',r=.returned (.slice B (au ns) c')∧w'.ownsRow w.heap.size 40 3 (.slice B (au ns) c') (au ns) (ay NR.cells (MN ns))∧Below w.heap.size w w':=by
 have hh:=Hp.start w;have hln:ns.length=n:=by have:=hS.1;simpa [bu,bM] using this
 have hc:=kv ns 1 Xk Xk hlow;rw [Zd,Xo hmax] at hc;have hc1:g7 ((1:Nat):Int) (bM ns)=g7 1 (bM ns):=rfl;rw [hc1] at hc;have hpos:=cC ns;have hcnt:=fun w1 hS1=>eI A n c (bM ns) w1 hS1 Xj;rw [hc] at hcnt;refine aj (N:=52) (l:=[.slice A n c]) Tryz.func26 rfl rfl (by simp) ?_;refine sr (aL (aa (ah (sr (mL (aH ?_))))));refine cj (mB (gT (mL ?_)));refine aD rfl rfl ?_;refine bA hh (hcnt _ (hS.ext hh.below)) rfl ?_;intro w16 hh;refine gT ?_;refine cR ?_;refine ez ?_;refine oJ ?_;refine AM ?_;intro w19 hh;refine oF ?_;intro b20 w20 hh;refine rZ ?_;refine bK [3,5,6,8,10,23,24,25,26,27,28,29,30,31,32,33,34,35,36,37,38,39,40,41,42,43,44,45,46,47,48,49,50] 3 23
  (fun v3 v w'=>∃(i c3:Nat) (B:Option Addr),i≤n∧v=.int .i64 i∧v3=.slice B (au (ns.take i)) c3∧Hp w [.row B (au (ns.take i)) c3 40 3 (ay NR.cells (MN (ns.take i)))] w')
  (fun _ v _=>n-(intOf v).toNat) ?_ ?_
 ·exact ⟨0,_,_,Xs _,rfl,rfl,hh⟩
 ·clear hh;rintro ρ' v3 v w' ⟨i,c3,B,hi,rfl,rfl,hh⟩;by_cases hlt:i<n
  ·obtain ⟨d,hd⟩:=ak (l:=ns) (k:=i) Xj;have hgi:=ck (gN hd);have hd127:=hlow d (Xt hd);have htl:(ns.take i).length≤12:=by rw [XP];omega
   have htw:∀d∈ns.take i,d≤127:=fun d hd=>hlow d (YY hd);have hct:=ij ns (i+1);have hct2:=ij ns i;have hstep:au (ns.take (i+1))=au (ns.take i)*(d+1):=by rw [az hd,de];simp [au]
   have hsnoc:MN (ns.take (i+1))=(Ns (ns.take i) d (au (ns.take i))).map fun k=>nR (nD k):=by
    unfold MN Ns;rw [az hd,Ja,Xz (l:=Db (ns.take i)) (by rw [GA];exact Xr _)]
   generalize hds:ns.take i=ds at*;generalize hN:au ds=N at*;obtain ⟨ad,rfl,hr⟩:=hS.at_ Xj;refine sr ?_;refine dT ?_;refine cx ?_;refine vy ?_;refine aI (aa (sr (aL (aa (ah (sr (mL (aH (mI (aa (ao ?_)))))))))));replace hh:=hh.cU 40 3;refine bK [6,8,10,29,30,31,32,33,34,35,36,37,38,39,40,41,42,43,44,45,46,47,48] 6 29
    (fun v6 v w'=>∃(j c6:Nat) (C:Option Addr),j≤N∧v=.int .i64 j∧v6=.slice C (j*(d+1)) c6∧Hp w [.row C (j*(d+1)) c6 40 3 (ay NR.cells ((Ns ds d j).map fun k=>nR (nD k))),.row B N c3 40 3 (ay NR.cells (MN ds))] w')
    (fun _ v _=>N-(intOf v).toNat) ?_ ?_
   ·refine ⟨0,0,none,Xs _,rfl, ?_, ?_⟩
    ·rw [Z0];rfl
    ·rw [Z0];exact hh
   ·clear hh;rintro ρ2 v6 v w2 ⟨j,c6,C,hj,rfl,rfl,hh⟩;by_cases hjN:j<N
    ·obtain ⟨x,hx⟩:=ak (l:=Db ds) (k:=j) (by rw [GA];omega);have hx2:(MN ds)[j]?=some (nR (nD x)):=by unfold MN;rw [Xx,hx];rfl
     have zx:=UF (Xt hx) htl htw;have hj1:(j+1)*(d+1)≤N*(d+1):=Yr _ hjN;rw [Yw] at hj1;obtain ⟨go,rfl⟩:=hh.cn (i:=1) rfl Xj;refine sr ?_;refine dT ?_;refine sy ?_;refine cq (vs:=[_,_,_]) aM.out rfl (hh.fV (f:=NR.cells) (x:=nR (nD x)) (l:=MN ds) (i:=1) rfl NR.len Xk hx2) rfl Xk ?_;refine bP hh ?_;intro b8 w8 hh;refine bR hh 0 [_,_,_] ?_;intro ws hh;replace hh:Hp _ (.blk _ _ [_,_,_] _::_) _:=hh;refine aa (sr (mI ?_));refine aF (kY d _ (hT.hp hh) hd127) ar.out rfl Xk ?_;rintro e_ w34 ⟨A34,c34,rfl,hown_,hb_⟩;refine ⟨_,rfl, ?_⟩;replace hh:=hh.aX (x:=.row _ _ _ _ _ _) hb_ hown_;refine aH (mI (aa (ao ?_)));refine bK [6,10,36,37,38,39,40,41,42,43,44,45,46,47] 6 36
      (fun v6 v w'=>∃(k c6:Nat) (C:Option Addr),k≤d+1∧v=.int .i64 k∧v6=.slice C (j*(d+1)+k) c6∧Hp w [.row A34 (d+1) c34 40 3 (ay NR.cells (la d)),.blk b8 40 [.bool (nR (nD x)).neg,.string (nR (nD x)).bg,.int .i64 (nR (nD x)).e] (0,0),.row C (j*(d+1)+k) c6 40 3 (ay NR.cells ((Ns ds d j++((te d).take k).map (x* ·)).map fun k=>nR (nD k))),.row (some ⟨go,0,none⟩) N c3 40 3 (ay NR.cells (MN ds))] w')
      (fun _ v _=>d+1-(intOf v).toNat) ?_ ?_
     ·refine ⟨0,c6,C,Xs _,rfl,rfl, ?_⟩;rw [ZH,Ye,XZ];exact hh
     ·clear hh;rintro ρ3 v6 v w3 ⟨k,c6,C,hk,rfl,rfl,hh⟩;by_cases hkd:k<d+1
      ·have hb1:=yC (n:=d) (k:=k) Xj;have hb2:=kV (n:=d) (k:=k) Xj;have zb:=rK d k hd127;have hmul:=fun A cc w1 hT1 hS1=>dW A 2 cc [nR (nD x),nR (nD (bin d k))] w1 hT1 hS1 (by simpa using ⟨zx.ok Xj,zb.ok Xj⟩) 1600 (by simpa [bI] using ⟨zx,zb.mono Xj⟩) Xj Xj;rw [show fU ([nR (nD x),nR (nD (bin d k))].map NR.d)=nD (x*bin d k) by rw [SP];show 1*(nR (nD x)).d*(nR (nD (bin d k))).d=_;rw [bI,bI,Zi]] at hmul;obtain ⟨ga,rfl⟩:=hh.cn (i:=0) rfl Xj;refine sr ?_;refine dT ?_;refine da (k:=k) bh.out aM.size rfl rfl Xj Xj Xk ?_;refine cq (vs:=[_,_,_]) aM.out rfl (hh.fV (f:=NR.cells) (x:=nR (nD (bin d k))) (l:=la d) (i:=0) rfl NR.len Xk hb2) rfl Xk ?_;refine bP hh ?_;intro b10 w10 hh;refine bR hh 0 [_,_,_] ?_;intro ws hh;replace hh:Hp _ (.blk _ _ [_,_,_] _::_) _:=hh;refine aa (al (mL ?_));refine cg hh 2 [_,_,_] ?_;refine cg hh 0 [_,_,_] ?_;refine sj ?_;intro b43 w43 hh;refine bA hh (hmul _ _ _ (hT.hp hh) (hh.aC (i:=0) rfl)) rfl ?_;intro w44 hh;refine oF ?_;intro b45 w45 hh
       refine cw hh (i:=5) rfl rfl rfl (hh.aC (i:=0) rfl) bh.out aM.out rfl Xk (by first|rfl|exact dv _|exact cY _|exact bF _|exact bT NR.one _) Xj Xj Xk ?_;intro A46 c46 w46 hh;simp only [XC,X6] at hh;replace hh:=hh.sub (X9 _ _);refine kM ?_;refine bk (mI (aA (ai ?_)));replace hh:=hh.sub (Xv _ (Xv _ (Xq _ (Xq _ (Xq _ (Xq _ XU))))));refine ⟨⟨k+1,c46,A46,Xj,rfl,rfl, ?_⟩,by show d+1-(k+1)<d+1-k;omega, ?_⟩
       ·have e:(Ns ds d j++((te d).take (k+1)).map (x* ·)).map (fun k=>nR (nD k))=(Ns ds d j++((te d).take k).map (x* ·)).map (fun k=>nR (nD k))++[nR (nD (x*bin d k))]:=by rw [az hb1];simp
        rw [e,bD];exact hh
       ·exact dV
      ·obtain rfl:k=d+1:=Xj;rw [Xz (by rw [uK];omega),←JQ hx] at hh;refine sr ?_;refine B8 ?_;refine bk (mI (aA (ai ?_)));replace hh:=hh.sub (Xv _ (Xv _ (Xq _ (Xq _ XU))));refine ⟨⟨j+1,c6,C,Xj,rfl, ?_, ?_⟩,by show N-(j+1)<N-j;omega, ?_⟩
       ·rw [Yw];rfl
       ·rw [Yw];exact hh
       ·exact dV
    ·obtain rfl:j=N:=Xj;rw [←hsnoc,←hstep] at hh;rw [←hstep];refine sr ?_;refine bf (aa (ah (cF (a6 (aE (aE (bq (ai (al (mL (aL (aA (bz (ai (al ?_)))))))))))))));refine bk (mI (aA (ai ?_)));replace hh:=hh.sub (Xq _ (Xv _ XU));refine ⟨⟨i+1,c6,C,Xj,rfl,rfl,hh⟩,by show n-(i+1)<n-i;omega, ?_⟩;exact dV
  ·obtain rfl:i=n:=Xj;rw [Xz Xj] at hh ⊢;exact N4
def iZ (d r:Nat) (t:Dyadic):Dyadic:=t^r*(1-t)^(d-r)
def mv:List Nat→List Nat→List Dyadic→Dyadic
 |d::ds,r::rs,t::ts=>iZ d r t*mv ds rs ts
 |_,_,_=>1
def iX (ds:List Nat) (xs:List Dyadic) (ts:List Dyadic):Dyadic:=sm (List.range (au ds)) fun p=>(xs[p]?).getD 0*mv ds (cZ ds p) ts
def lj (d:Nat) (t:Dyadic) (m:Nat) (xs:List Dyadic):List Dyadic:=(List.range m).map fun q=>sm (List.range (d+1)) fun r=>(xs[r+(d+1)*q]?).getD 0*iZ d r t
def oG:List Nat→List Dyadic→List Dyadic→List Dyadic
 |d::ds,t::ts,xs=>oG ds ts (lj d t (au ds) xs)
 |_,_,xs=>xs
theorem rm (d:Nat) (t:Dyadic) (m:Nat) (xs:List Dyadic):(lj d t m xs).length=m:=by simp [lj]
theorem xS:∀(ds:List Nat) (ts xs:List Dyadic),ts.length=ds.length→xs.length=au ds→oG ds ts xs=[iX ds xs ts]
 |[],[],xs,_,h=>by
  match xs,h with
  |[x],_=>
   show [x]=[x*1+0];congr 1;grind
 |d::ds,t::ts,xs,h1,h2=>by
  rw [oG,xS ds ts _ (by simpa using h1) (rm _ _ _ _)];unfold iX;rw [z4];congr 1;refine bL fun q hq=> ?_;have hq2:=XT.1 hq;have:(lj d t (au ds) xs)[q]?=some (sm (List.range (d+1)) fun r=>(xs[r+(d+1)*q]?).getD 0*iZ d r t):=by
   unfold lj;rw [Xx,Yh hq2]
   rfl
  rw [this,YF,←mz];refine bL fun r hr=> ?_;have hr2:=XT.1 hr;rw [cZ,YW,X5 hr2,Yy _ _ Xj,Yk hr2,XJ,mv];grind
theorem xy (t:Dyadic) (a b:Nat):t^(a+b)=t^a*t^b:=by
 induction b with
 |zero=>rw [YX];grind
 |succ b ih=>rw [←ZU];grind
theorem UL (n:Nat) (a b:Dyadic):sm (List.range (n+1)) (fun k=>nD (bin n k)*a^k*b^(n-k))=(a+b)^n:=by
 induction n with
 |zero=>show nD 1*a^0*b^0+0=(a+b)^0;rw [vX];grind
 |succ n ih=>
  have e2:∀k,nD (bin (n+1) (k+1))*a^(k+1)*b^(n+1-(k+1))=nD (bin n k)*a^k*b^(n-k)*a+nD (bin n (k+1))*a^(k+1)*b^(n-k):=fun k=>by
   rw [bin,z7,show n+1-(k+1)=n-k by omega];grind
  rw [Cj,bL (g:=fun k=>nD (bin n k)*a^k*b^(n-k)*a+nD (bin n (k+1))*a^(k+1)*b^(n-k)) fun k _=>e2 k,DP,mz,ih,qu];have e3:sm (List.range (n+1)) (fun k=>nD (bin n (k+1))*a^(k+1)*b^(n-k))=sm (List.range n) (fun k=>nD (bin n (k+1))*a^(k+1)*b^(n-(k+1)))*b:=by
   rw [YQ,jS,tL (show n<n+1 by omega),tr,←mz];have:∀x y:Dyadic,x+0*y*b^(n-n)=x:=fun x y=>by grind
   rw [this];refine bL fun k hk=> ?_;have hk2:=XT.1 hk;rw [show n-k=(n-(k+1))+1 by omega];grind
  have e4:(a+b)^n=nD 1*a^0*b^(n-0)+sm (List.range n) (fun k=>nD (bin n (k+1))*a^(k+1)*b^(n-(k+1))):=by
   rw [←ih,Cj,qu]
  rw [e3];have e5:(a+b)^(n+1)=(a+b)^n*a+(a+b)^n*b:=by grind
  rw [e5];generalize hS:sm (List.range n) (fun k=>nD (bin n (k+1))*a^(k+1)*b^(n-(k+1)))=S at*;rw [e4,show n+1-0=n+1 by omega,show n-0=n by omega,vX];grind
def sR:List Nat→(List Nat→Dyadic)→Dyadic
 |[],F=>F []
 |d::ds,F=>sm (List.range (d+1)) fun r=>sR ds fun row=>F (r::row)
theorem Qx:∀(ds:List Nat) (F:List Nat→Dyadic),sm (List.range (au ds)) (fun p=>F (cZ ds p))=sR ds F
 |[],F=>by show F []+0=F [];grind
 |d::ds,F=>by
  rw [z4,tQ,sR];refine bL fun r hr=> ?_;have hr2:=XT.1 hr;rw [←Qx ds];refine bL fun q _=> ?_;rw [cZ,YW,X5 hr2,Yy _ _ Xj,Yk hr2,XJ]
theorem mM:∀{ds:List Nat}{F G:List Nat→Dyadic},(∀row,iV ds row→F row=G row)→sR ds F=sR ds G
 |[],F,G,h=>h [] trivial
 |d::ds,F,G,h=>by
  rw [sR,sR];refine bL fun r hr=>mM fun row hrow=>h _ ⟨by have:=XT.1 hr;omega,hrow⟩
theorem Ke:∀(ds:List Nat) (F:List Nat→Dyadic) (c:Dyadic),sR ds (fun row=>F row*c)=sR ds F*c
 |[],_,_=>rfl
 |d::ds,F,c=>by
  rw [sR,sR,←mz];exact bL fun r _=>Ke ds _ c
def gY (ds:List Nat) (a:Nat) (M:Nat→Nat→Dyadic) (xs:List Dyadic):List Dyadic:=
 (List.range (au ds)).map fun p=>sm (List.range (ds.getD a 0+1)) fun i=>co ds xs ((cZ ds p).set a i)*M i ((cZ ds p).getD a 0)
theorem oP (ds:List Nat) (a:Nat) (M:Nat→Nat→Dyadic) (xs:List Dyadic):(gY ds a M xs).length=au ds:=by simp [gY]
theorem G1 {row:List Nat} (a:Nat) (M:Nat→Nat→Dyadic) (xs:List Dyadic) (h:iV ds row):co ds (gY ds a M xs) row=sm (List.range (ds.getD a 0+1)) fun i=>co ds xs (row.set a i)*M i (row.getD a 0):=by
 rw [wX h];unfold gY;rw [Xx,Yh (jK h)];simp only [Za,YF,gM h]
theorem Gf:∀{ds row:List Nat}{a i:Nat},iV ds row→i≤ds.getD a 0→iV ds (row.set a i)
 |[],[],_,_,_,_=>trivial
 |d::ds,r::rs,0,i,h,hi=>⟨hi,h.2⟩
 |d::ds,r::rs,a+1,i,h,hi=>⟨h.1,Gf (a:=a) h.2 (by simpa using hi)⟩
def TY (d:Nat) (s:Dyadic) (i k:Nat):Dyadic:=if k<i then 0 else nD (bin (d-i) (k-i))*s^i*(1-s)^(k-i)
def T6 (d:Nat) (s:Dyadic) (i k:Nat):Dyadic:=if i<k then 0 else nD (bin i (i-k))*s^(i-k)*(1-s)^(d-i)
theorem TG (d i:Nat) (hi:i≤d) (f:Nat→Dyadic):sm (List.range (d+1)) (fun k=>if k<i then 0 else f (k-i))=sm (List.range (d-i+1)) f:=by
 obtain ⟨m,rfl⟩:∃m,d=i+m:=⟨d-i,Xj⟩;rw [show i+m-i+1=m+1 by omega,show i+m+1=i+(m+1) by omega,List.range_add,rG,u4,tF fun k hk=>by rw [Xo (XT.1 hk)]];have:∀x:Dyadic,0+x=x:=fun x=>by grind
 rw [this];exact bL fun k _=>by rw [Xp Xj,Nat.add_sub_cancel_left]
theorem Gq (ds:List Nat) (xs ts:List Dyadic):iX ds xs ts=sR ds fun row=>co ds xs row*mv ds row ts:=by
 rw [←Qx];unfold iX;exact bL fun p hp=>by rw [y4 (XT.1 hp)]
variable {q:Nat}
theorem mK:∀{A B x y:List Nat},x.length=A.length→eh (A++B) (x++y)=eh A x+au A*eh B y
 |[],B,[],y,_=>by rw [Xu,Xu,au,Zd];show _=0+_;rw [XJ]
 |d::A,B,r::x,y,h=>by
  rw [Xw,Xw,eh,eh,au,mK (by simpa using h),Yl,Yp,ZU]
theorem sA:∀(A B:List Nat) (p:Nat),cZ (A++B) p=cZ A p++cZ B (p/au A)
 |[],B,p=>by rw [Xu,au,Nat.div_one];rfl
 |d::A,B,p=>by rw [Xw,cZ,cZ,sA A B,au,Y6];rfl
theorem Bo:∀(A:List Nat) (f q:Nat),cZ A (f+au A*q)=cZ A f
 |[],_,_=>rfl
 |d::A,f,q=>by
  rw [cZ,cZ,au,Yp,YW,Yy _ _ Xj,Bo A]
section
variable {A B:List Nat}{d:Nat}
def cL (A:List Nat) (d f k q:Nat):Nat:=f+au A*(k+(d+1)*q)
theorem wg {f:Nat} (hf:f<au A) (hk:k≤d) (hq:q<au B):cL A d f k q<au (A++d::B):=by
 rw [de,au,cL];have h1:k+(d+1)*q+1≤(d+1)*au B:=by
  have:(d+1)*(q+1)≤(d+1)*au B:=X4 _ hq;rw [YS] at this;omega
 have h2:=X4 (au A) h1;rw [YS] at h2;omega
theorem yb {f:Nat} (hf:f<au A) (hk:k≤d):cZ (A++d::B) (cL A d f k q)=cZ A f++k::cZ B q:=by
 unfold cL;rw [sA,Bo,Yy _ _ (cC A),Yk hf,XJ,cZ,YW,X5 Xj,Yy _ _ Xj,Yk Xj,XJ]
theorem DD {p:Nat} (h:p<au (A++d::B)):∃f k q,f<au A∧k≤d∧q<au B∧p=cL A d f k q:=by
 rw [de,au] at h;have hA:=cC A;refine ⟨p % au A,p/au A % (d+1),p/au A/(d+1),XW _ hA,by have:=XW (p/au A) (show 0<d+1 by omega);omega, ?_, ?_⟩
 ·rw [YR Xj,YR hA,XY,XY (au B)];exact h
 ·unfold cL;rw [Z8,Z8]
theorem BH (x y:List Nat) (k:Nat):(x++k::y).getD x.length 0=k:=by
 rw [YM,YD (Xr _),Yq]
 rfl
theorem CY (x y:List Nat) (k i:Nat):(x++k::y).set x.length i=x++i::y:=by
 rw [ZA _ _ (Xr _),Yq,XC]
def fj (A:List Nat) (d:Nat) (xs:List Dyadic) (f q:Nat):List Dyadic:=(List.range (d+1)).map fun i=>(xs[cL A d f i q]?).getD 0
theorem LQ {f:Nat} (M:Nat→Nat→Dyadic) (xs:List Dyadic) (hf:f<au A) (hk:k≤d) (hq:q<au B):
  (gY (A++d::B) A.length M xs)[cL A d f k q]?=some (sm (List.range (d+1)) fun i=>(xs[cL A d f i q]?).getD 0*M i k):=by
 have hp:=wg (B:=B) hf hk hq;unfold gY;rw [Xx,Yh hp];simp only [Za];rw [yb hf hk,BH];have hl:=AG A f;rw [show ((cZ A f++k::cZ B q).getD A.length 0)=k by rw [←hl];exact BH _ _ _];congr 1;refine bL fun i hi=> ?_;have hi2:i≤d:=by have:=XT.1 hi;omega
 rw [show (cZ A f++k::cZ B q).set A.length i=cZ A f++i::cZ B q by rw [←hl];exact CY _ _ _ _,←yb (B:=B) hf hi2,y4 (wg hf hi2 hq)]
end
def Vm (ns:List Nat):Bool:=ns.any (fun d=>decide (127<d))||decide (4096<au ns)
def RM (a b:List Nat):List Nat:=List.zipWith (· + ·) a b
theorem Kt (N:Nat):eZ N [.bool false,.string (ByteArray.mk #[]),.int .i64 0]=ay NR.cells ((nZ N []).map nR):=by
 rw [u6,List.map_replicate]
 induction N with
 |zero=>rfl
 |succ n ih=>rw [ZB,j1,←ih];rfl
def Wp (ds es:List Nat) (xs ys:List Dyadic) (k:Nat):List (Nat×Dyadic):=
 (List.range k).flatMap fun k=>(List.range (au ds)).map fun i=>(eh (DM ds es) (DM (cZ ds i) (cZ es k)),(xs[i]?).getD 0*(ys[k]?).getD 0)
def TA (ns ms:List Nat) (xs ys:List Dyadic):List Dyadic:=nZ (au (RM ns ms)) (Wp ns.reverse ms.reverse xs ys (au ms))
variable {w w':World}
structure FX where
 A:Option Addr
 n:Nat
 a:Nat
 B:Option Addr
 m:Nat
 b:Nat
 ds:List Int
 cs:List NR
def FX.cells (f:FX):List Value:=[.slice f.A f.n f.a,.slice f.B f.m f.b]
def FX.v (f:FX):Value:=.agg #[.slice f.A f.n f.a,.slice f.B f.m f.b]
structure FX.at_ (f:FX) (w:World):Prop where
 dg:Sl w f.A f.n 1 (bu f.ds)
 nm:Sl w f.B f.m 3 (ay NR.cells f.cs)
theorem FX.at_.ext {f:FX} (h:f.at_ w) (hb:Below w.heap.size w w'):f.at_ w':=⟨h.dg.ext hb,h.nm.ext hb⟩
structure FX.k8 (f:FX) (k:Nat):Prop where
 Ub:f.n≤1000
 WJ:f.m≤100000
 num:∀c∈f.cs,c.ok∧Sz k c.d
def FX.e (f:FX):Int:=fE f.ds f.cs
theorem qR (f:FX) (k:Nat) (w:World) (hT:dN w) (h:f.at_ w) (hl:f.k8 k):
  Calls Tryz.prog 13 #[.agg #[.slice f.A f.n f.a,.slice f.B f.m f.b]] w fun r w'=>r=.returned (.int .i64 f.e)∧Below w.heap.size w w':=
 wI f.A f.B f.n f.a f.m f.b f.ds f.cs w hT h.dg h.nm (by have:=hl.Ub;omega) (by have:=hl.WJ;omega) fun a ha=>(hl.num a ha).1
def Vn (fs:List FX):Bool:=fs.any fun f=>decide (f.n≠(fs.map FX.n).headD 0)
def ES (fs:List FX):Int:=match fs.find? (fun f=>decide (f.e≠0)) with|some f=>f.e|none=>if fs.length=0∨Vn fs=true then 1 else 0
open Go.ChangeShapes Go.WideShapes Go.ChangeAt Go.RowKit Go.ChangeMaps
variable {W:World}{b0 base:Nat}{held:Bool}
set_option maxRecDepth 100000 in
theorem DG {H:Type}{enc:TypeId×Value→H}{r:Reach}{sp:Nat→Bool}{v:Value}{d:DataW H}{ps:List MemPlace}
  (hval:Value.okWide Tryz.prog W r b0 27 v) (hd:DataW.Trod enc Tryz.prog W base sp held 27 v d ps):∃(A:Option Addr) (n c:Nat) (l:List NR),v=.slice A n c∧Sl W A n 3 (ay NR.cells l)∧n≤c:=by
 obtain ⟨A,n,c,l,rfl,h2,_⟩:=Hd hval hd;obtain ⟨fuel,hf⟩:=hd;exact ⟨A,n,c,l,rfl,h2,xD Tryz.underlying27 hf⟩
variable {next:Rf→World→Prop}
section
variable {ro:Mode}{P:Program}{N:Nat}{Q:Kq}{ρ:Rf}{w:World}
theorem Mw {c:Code}{id:Nat} (mods:List Nat) (s0:Nat) (J:Value→World→Prop) (hc:WC ro P N c (qY id (cB (fun ρ2 w2=>J (ρ2 s0) w2∧iq mods ρ2 ρ) Q)) ρ w)
  (hn:∀ρ' v0 w',J v0 w'→next (cG (mask mods ρ' ρ) s0 v0) w'):WC ro P N c (qY id (cB next Q)) ρ w:=
 hc.mono fun e ρ2 w2 hq=>by
  have key:J (ρ2 s0) w2∧iq mods ρ2 ρ→next ρ2 w2:=fun h=>by
   have:=hn ρ2 (ρ2 s0) w2 h.1;rwa [ig h.2,gF] at this
  cases e with
  |normal=>exact key hq
  |exit i=>
   by_cases h:i=id
   ·subst h;simp only [qY,cB,if_true] at hq ⊢;exact key hq
   ·simp only [qY,cB,Xp h] at hq ⊢;exact hq
  |_=>exact hq
theorem HO {a c:Code} (mods:List Nat) (J:World→Prop) (hc:WC ro P N a (cB (fun ρ2 w2=>J w2∧iq mods ρ2 ρ) Q) ρ w) (hn:∀ρ' w',J w'→WC ro P N c Q (mask mods ρ' ρ) w'):WC ro P N (.seq a c) Q ρ w:=
 ah (hc.mono fun e ρ2 w2 hq=>by
  cases e with
  |normal=>
   have:=hn ρ2 w2 hq.1;rwa [ig hq.2] at this
  |_=>exact hq)
end
section
variable {ro:Mode}{P:Program}{N:Nat}{Q:Kq}{ρ:Rf}{w:World}
theorem Hs {a c:Code} (mods:List Nat) (s0:Nat) (J:Value→World→Prop) (hc:WC ro P N a (cB (fun ρ2 w2=>J (ρ2 s0) w2∧iq mods ρ2 ρ) Q) ρ w) (hn:∀ρ' v0 w',J v0 w'→WC ro P N c Q (cG (mask mods ρ' ρ) s0 v0) w'):WC ro P N (.seq a c) Q ρ w:=
 ah (hc.mono fun e ρ2 w2 hq=>by
  cases e with
  |normal=>
   have:=hn ρ2 (ρ2 s0) w2 hq.1;rwa [ig hq.2,gF] at this
  |_=>exact hq)
end
variable {p:List TR}{α β:Type}
def mulM (a b:ByteArray):ByteArray:=str (mulL a.data.toList b.data.toList).1
def pd (a b:ByteArray):Int:=(mulL a.data.toList b.data.toList).2
def rl (x y:TR):TR:=⟨mulM x.m y.m,nR (x.c.d*y.c.d)⟩
def cA (p q:List TR):List TR:=p.flatMap fun x=>q.map (rl x)
def vi (p q:List TR):List Int:=p.flatMap fun x=>q.map fun y=>pd x.m y.m
def fm (p q:List TR):Int:=if 65536<p.length*q.length then 3 else match (vi p q).find? fun e=>decide (e≠0) with|some e=>e|none=>if 4096<(aG (cA p q)).length then 3 else 0
theorem AO {α β:Type}{f:α→List β}{k:Nat}:∀{l:List α},(∀x∈l,(f x).length=k)→(l.flatMap f).length=l.length*k
 |[],_=>by simp
 |x::l,h=>by
  rw [Zu,Xy,h x XB,AO fun y hy=>h y (XD _ hy),XR,Yw,Zh]
theorem nP (p q:List TR):(cA p q).length=p.length*q.length:=AO fun x _=>XA _
theorem rk {γ:Type}{f:α→β→γ}{p:List α}{q:List β}{i:Nat}{x:α} (hx:p[i]?=some x):
  ((p.take (i+1)).flatMap fun x=>q.map (f x))=((p.take i).flatMap fun x=>q.map (f x))++(q.take q.length).map (f x):=by
 rw [az hx,ZC,Xz (Xr _)];simp
theorem CV {γ:Type}{f:α→β→γ}{p:List α}{q:List β}{i:Nat}{x:α}{y:β} (hx:p[i]?=some x) (hy:q[j]?=some y):
  ∃R,(p.flatMap fun x=>q.map (f x))=(((p.take i).flatMap fun x=>q.map (f x))++(q.take j).map (f x))++f x y::R:=by
 refine ⟨(q.drop (j+1)).map (f x)++(p.drop (i+1)).flatMap fun x=>q.map (f x), ?_⟩;have e1:p=p.take i++x::p.drop (i+1):=by rw [←gm hx,Yg]
 have e2:q=q.take j++y::q.drop (j+1):=by rw [←gm hy,Yg]
 have e3:q.map (f x)=(q.take j).map (f x)++f x y::(q.drop (j+1)).map (f x):=by
  rw [←XQ,←Yc,←e2]
 calc (p.flatMap fun x=>q.map (f x))=(p.take i++x::p.drop (i+1)).flatMap fun x=>q.map (f x):=by rw [←e1]
  _=_:=by rw [ZC,Zu,e3];simp
theorem qQ {q:List TR} (hp:iT k p) (hq:iT j q) (h:k+j≤1000000):iT (k+j) (cA p q):=fun t ht=>by
 obtain ⟨x,hx,ht⟩:=Zq.1 ht;obtain ⟨y,hy,rfl⟩:=XG.1 ht;have hs:=(hp x hx).2.mul (hq y hy).2;exact ⟨hs.ok Xj,by show Sz _ (nR _).d;rw [bI];exact hs⟩
theorem Hu (a b:ByteArray):(mulM a b).size≤b.size:=by
 unfold mulM;rw [lf];unfold mulL;split
 ·rename_i l hl;have:=(xr hl).2.2;have h4:l.length≤b.data.toList.length:=by rw [this.2,List.length_zipWith,dh,dh];omega
  have h5:(MC l).length≤l.length:=by unfold MC;split<;>simp
  rw [dQ];exact XV h5 h4
 ·exact Xs _
variable {l ts:List TR}
theorem Jv (c:Dyadic) (f:ByteArray→Dyadic) (l:List TR):wS (fun m=>c*f m) l=c*wS f l:=by
 induction l with
 |nil=>exact (aaI _).symm
 |cons t l ih=>rw [wS,wS,ih];grind
theorem Jj (f:ByteArray→Dyadic) (x:TR) (q:List TR):wS f (q.map (rl x))=x.c.d*wS (fun b=>f (mulM x.m b)) q:=by
 induction q with
 |nil=>exact (aaI _).symm
 |cons t q ih=>
  rw [XQ,wS,ih,wS];show (nR _).d*f (mulM x.m t.m)+_=_;rw [bI];grind
theorem Bs (f:ByteArray→Dyadic) (q:List TR):∀p:List TR,wS f (cA p q)=wS (fun a=>wS (fun b=>f (mulM a b)) q) p
 |[]=>rfl
 |t::p=>by
  show wS f (q.map (rl t)++cA p q)=_;rw [nG,Jj,Bs f q p,wS]
def oN (c:Dyadic) (t:TR):TR:=⟨t.m,nR (t.c.d*c)⟩
theorem cK {v:Int} (h:jy v ts=0):jd v=true∧ts.length≤4096∧(∀t∈ts,fa v t=true)∧Canon ts:=by
 unfold jy at h
 cases hf:jd v with
 |false=>rw [hf,Xo rfl] at h;omega
 |true=>
  rw [Xp (by rw [hf];decide)] at h;by_cases h4:4096<ts.length
  ·rw [Xo h4] at h;omega
  ·rw [Xp h4] at h;by_cases ho:okB v ts=true
   ·unfold okB at ho;rw [XF] at ho;have hg:∀t∈ts,oH v t=true:=XI.1 ho.1;refine ⟨rfl,Xj,fun t ht=> ?_,uL.1 ho.2,fun t ht=> ?_,fun t ht=> ?_⟩
    ·exact (Zg.1 (hg t ht)).1
    ·exact DE (Zg.1 (Zg.1 (hg t ht)).2).1
    ·exact ((tN _).1 (Zg.1 (Zg.1 (hg t ht)).2).2).symm
   ·rw [Xp ho] at h;omega
theorem Gk {v:Int} (hf:jd v=true) (h4:ts.length≤4096) (hm:∀t∈ts,fa v t=true) (hc:Canon ts):jy v ts=0:=by
 unfold jy;rw [Xp (by rw [hf];decide),Xp Xj,Xo];unfold okB;rw [XF];refine ⟨XI.2 fun t ht=> ?_,uL.2 hc.sM⟩;show (fa v t && (zV t && UR t.c))=true;rw [hm t ht,(tN _).2 (hc.nf t ht).symm];unfold zV;rw [XM (hc.nz t ht)]
 rfl
theorem S5 {v:Int}{s t:TR} (h:s.m=t.m) (hs:fa v s=true):fa v t=true:=by unfold fa at hs ⊢;rwa [←h]
theorem pb {v:Int} (h:∀t∈l,fa v t=true):∀t∈aG l,fa v t=true:=fun t ht=>by
 obtain ⟨s,hs,e⟩:=jh t ht;exact S5 e (h s hs)
theorem iu {v:Int} (hf:jd v=true) (h4:(aG l).length≤4096) (hm:∀t∈l,fa v t=true):jy v (aG l)=0:=Gk hf h4 (pb hm) (eX l)
theorem KZ {v:Int}{x y:TR} (hx:fa v x=true) (h:pd x.m y.m=0):fa v (rl x y)=true:=by
 unfold fa at hx ⊢;rw [XF,XN] at hx;obtain ⟨_,_,h3,h4,h5⟩:=nQ h;rw [XF,XN];have h6:=Yu List.length h5;rw [dh,List.length_zipWith,dh,dh,h3,Nat.min_self] at h6;refine ⟨?_, ?_⟩
 ·show eK (mulM x.m y.m).data.toList=true;unfold mulM;rw [dH];exact h4
 ·show ((mulM x.m y.m).size:Int)=v;unfold mulM;rw [lf,h6,←dQ];exact hx.2
theorem rp {v:Int}{q:List TR} (hp:∀t∈p,fa v t=true) (h:∀e∈vi p q,e=0):∀t∈cA p q,fa v t=true:=fun t ht=>by
 obtain ⟨x,hx,ht⟩:=Zq.1 ht;obtain ⟨y,hy,rfl⟩:=XG.1 ht;exact KZ (hp x hx) (h _ (Zq.2 ⟨x,hx,XG.2 ⟨y,hy,rfl⟩⟩))
theorem kJ {q:List TR} (h:fm p q=0):p.length*q.length≤65536∧(∀e∈vi p q,e=0)∧(aG (cA p q)).length≤4096:=by
 unfold fm at h;by_cases h6:65536<p.length*q.length
 ·rw [Xo h6] at h;omega
 ·rw [Xp h6] at h;split at h
  ·rename_i e he;have:=List.find?_some he;rw [XN] at this;exact absurd h this
  ·rename_i he;refine ⟨Xj,fun e hm=> ?_, ?_⟩
   ·have:=List.find?_eq_none.1 he e hm;simpa using this
   ·by_cases h4:4096<(aG (cA p q)).length
    ·rw [Xo h4] at h;omega
    ·omega
def fH (ps:List PX):Int:=(ps.map PX.v).headD 0
def Bk (ps:List PX):List TR:=ps.flatMap PX.ts
def GU (ps:List PX):Int:=if fR ps=0 then gD (Bk ps) else fR ps
theorem zD {ps:List PX} (h:fR ps=0):ps≠[]∧(∀g∈ps,g.e=0)∧∀g∈ps,g.v=fH ps:=by
 unfold fR at h;split at h
 ·rename_i f hf;have:=List.find?_some hf;simp at this;exact absurd h this
 ·rename_i hf;split at h
  ·cases h
  rename_i hno;refine ⟨fun e=>hno (.inl (by rw [e];rfl)),fun f hm=> ?_,fun f hm=> ?_⟩
  ·have:=List.find?_eq_none.1 hf f hm;simpa using this
  ·apply Zn;intro hne;exact hno (.inr (Zb.2 ⟨f,hm,XH hne⟩))
theorem yG {α β:Type}{f:α→List β}{B:Nat}:∀{l:List α},(∀x∈l,(f x).length≤B)→(l.flatMap f).length≤l.length*B
 |[],_=>by simp
 |x::l,h=>by
  rw [Zu,Xy,XR,Yw];have h1:=h x XB;have h2:=yG fun y hy=>h y (XD _ hy);omega
theorem HY {f:α→List β}{l:List α}{i:Nat}{x:α} (h:l[i]?=some x):(l.take (i+1)).flatMap f=(l.take i).flatMap f++f x:=by
 rw [az h,ZC];simp
theorem C0 {k:List TR} (h:aG l=aG k):gD l=gD k:=by unfold gD;rw [h]
theorem lF {ps:List PX}{g:PX} (h:ps[0]?=some g):fH ps=g.v:=by
 rcases ps with _|⟨f,l⟩
 ·cases h
 ·have:f=g:=by simpa using h
  rw [←this];rfl
theorem pj (L:Option Addr) (n c:Nat) (ps:List PX) (k:Nat) (w:World) (hT:dN w) (hL:Sl w L n 2 (ay PX.cells ps)) (hn:n≤100) (hf:∀g∈ps,g.at_ w) (hl:∀g∈ps,g.k8 k) (hk:k≤2999000):
  Calls Tryz.prog 86 #[.slice L n c] w fun r w'=>∃g:PX,fF (GU ps) (fH ps) (aG (Bk ps)) g∧r=.returned (.tuple #[.agg #[.int .i64 g.v,.slice g.A g.n g.c],.int .i64 (GU ps)])∧Hp w [g.row] w':=by
 have hh:=Hp.start w;have hln:=hL.bp PX.len Xk;have hlk:=fun w1 hT1 hb=>sJ L n c ps k w1 hT1 (hL.ext hb) Xj (fun g hg=>(hf g hg).ext hb) hl;unfold GU;by_cases h0:fR ps=0
 ·rw [Xo h0];rw [h0] at hlk;obtain ⟨hne,si,hvv⟩:=zD h0;have hpos:=List.length_pos_iff.2 hne;obtain ⟨g0,h00⟩:=ak (l:=ps) (k:=0) hpos;rw [lF h00];have hfl:(Bk ps).length≤ps.length*4096:=yG fun g hg=>(cK (si g hg)).2.1;obtain ⟨ad,rfl,hr⟩:=hL.at_ Xj;refine aj (N:=33) (l:=[.slice (some ad) n c]) Tryz.func86 rfl rfl (by simp) ?_;refine sr ?_;refine bP hh ?_;intro b2 w2 hh;refine aI (aa (ah (sr (mL ?_))));refine bA hh (hlk _ (hT.hp hh) hh.below) rfl ?_;intro w9 hh;refine aI (aa (sr (mI ?_)));refine cJ (aa (cF (aq (ai (sr (aL (aa (ah (sr (mL (aH (mI (aa (ao ?_))))))))))))));replace hh:=hh.cU 80 4;refine bK [5,7,16,17,18,19,20,21,22,23,24] 5 16
   (fun a x w'=>∃(i:Nat) (M:List TR) (A':Option Addr) (c':Nat),i≤n∧x=.int .i64 i∧a=.slice A' M.length c'∧MD (k+i) ((ps.take i).flatMap PX.ts) M∧Hp w [.row A' M.length c' 80 4 (ay TR.cells M),.blk b2 24 [.int .i64 0,.slice none 0 0] (0,0)] w')
   (fun _ x _=>n-(intOf x).toNat) ?_ ?_
  ·exact ⟨0,[],none,0,Xs _,rfl,rfl,MD.self aaA (fun t ht=>nomatch ht),hh⟩
  ·clear hh;rintro ρ' a_ x_ w' ⟨i,M,A',c',hi,rfl,rfl,hmd,hh⟩;have hfi:((ps.take i).flatMap PX.ts).length≤i*4096:=by
    have:=yG (f:=PX.ts) (B:=4096) (l:=ps.take i) fun g hg=>(cK (si g (YY hg))).2.1;rwa [XP,Ys Xj] at this
   have hML:=hmd.len;by_cases hlt:i<n
   ·obtain ⟨g,hx⟩:=ak (l:=ps) (k:=i) Xj;have hmem:=Xt hx;have hgl:=hl g hmem;have hge:=cK (si g hmem);have hgc:=hgl.cap;have hgn:=hgl.n;refine sr ?_;refine dT ?_;refine cx ?_;refine KA ?_;refine bP hh ?_;intro b7 w7 hh;refine bR hh 0 [_,_] ?_;intro ws hh;replace hh:Hp _ (.blk _ _ [_,_] _::_) _:=hh;refine aa (al (mL (bH ?_)));refine bE hh 0 ?_;refine aF (p8 A' M.length c' M g.A g.n g.c g.ts (k+i) _ (hT.hp hh) (hh.aC (i:=1) rfl) ((hf g hmem).ext hh.below) (hh.eJ (i:=1) rfl) hgc Xj hgn Xj hmd.sM hge.2.2.2.sM hmd.ok (hgl.ok.mono Xj)) ar.out rfl Xk ?_;rintro e_ w23 ⟨L2,A2,c2,hm2,rfl,h3⟩;refine ⟨_,rfl, ?_⟩;replace hh:=hh.join h3;simp only [Xw,Xu] at hh;refine kM ?_;refine bk (mI (aA (ai ?_)));replace hh:=hh.sub (Xq _ (Xv _ (Xv _ (Xq _ XU))));refine ⟨⟨i+1,L2,A2,c2,Xj,rfl,rfl, ?_,hh⟩,by show n-(i+1)<n-i;omega, ?_⟩
    ·rw [HY hx];exact hmd.Ml (MD.self hge.2.2.2.sM (hgl.ok.mono Xj:iT (k+i) g.ts)) hm2 Xj
    ·exact dV
   ·obtain rfl:i=n:=Xj;rw [Xz Xj] at hmd hfi hML;have hgM:aG M=aG (Bk ps):=za hmd.co;have hgE:=C0 hgM;refine sr ?_;refine oI ?_;refine EZ ?_;refine kz ?_;refine bU aM.out rfl (cN hh.below ((hr.recAt PX.len h00) 0 _ rfl)) Xk ?_;refine mL ?_;refine aF (kC _ A' M.length c' M (k+i) _ hT hh rfl Xj Xj hmd.ok) ar.out rfl Xk ?_;rintro e_ w30 ⟨g,og,rfl,hh⟩;refine ⟨_,rfl, ?_⟩;refine dn ?_;refine dn ?_;refine bR hh 1 [_,_] ?_;intro ws hh;replace hh:Hp _ (_::.blk _ _ [_,_] _::_) _:=hh;refine aI (aa (aw ?_));refine Gb ?_;rw [←hgE,←hgM];exact F1
 ·rw [Xp h0];generalize fR ps=e at*;refine aj (N:=33) (l:=[.slice L n c]) Tryz.func86 rfl rfl (by simp) ?_;refine sr ?_;refine bP hh ?_;intro b2 w2 hh;refine aI (aa (ah (sr (mL ?_))));refine bA hh (hlk _ (hT.hp hh) hh.below) rfl ?_;intro w9 hh;exact Nb
def mj (s:ByteArray) (i:Nat):Int:=match s.data.toList[i]? with|some c=>c.toNat|none=>0
def AN (l:List TR) (i:Nat):Int:=l.foldl (fun m t=>max m (mj t.m i)) 0
def mu (m:Nat) (l:List TR):List Int:=(List.range m).map (AN l)
def sS (v:Int) (ts:List TR):List Int:=if jy v ts=0 then mu v.toNat ts else []
theorem fq (m:Nat) (l:List TR):(mu m l).length=m:=by unfold mu;rw [XA,YO]
theorem tD (l:List TR) (h:j<m):(mu m l)[j]?=some (AN l j):=by
 unfold mu;rw [Xx,Yh h]
 rfl
theorem tZ (l:List TR) (t:TR) (i:Nat):AN (l++[t]) i=max (AN l i) (mj t.m i):=by unfold AN;rw [aaH];rfl
theorem Je {s:ByteArray}{i:Nat}{c:UInt8} (h:s.data.toList[i]?=some c):mj s i=c.toNat:=by unfold mj;rw [h]
theorem Pb {A B:List α}{y:α} (h:A.length=B.length) (hy:B[j]?=some y):(B.take j++A.drop j).set j y=B.take (j+1)++A.drop (j+1):=by
 have hj:=(XE.1 hy).1;have hl:(B.take j).length=j:=by rw [XP];omega
 obtain ⟨x,hx⟩:=ak (l:=A) (k:=j) Xj;rw [gm hx,az hy,ZA _ _ Xj,hl,Yq];simp
theorem Oy {A B:List α}{x:α} (h:A.length=B.length) (hx:A[j]?=some x):(B.take j++A.drop j)[j]?=some x:=by
 have hj:=(XE.1 hx).1;have hl:(B.take j).length=j:=by rw [XP];omega
 rw [YD Xj,hl,Yq,Y4,YX,hx]
theorem Kn (m:Nat):eZ m [.int .i64 0]=bu (mu m []):=by
 have h1:∀n,eZ n [.int .i64 0]=bu (List.replicate n 0):=fun n=>by
  induction n with
  |zero=>rfl
  |succ n ih=>rw [eZ,ih,ZB];rfl
 rw [h1];congr 1;apply YG;intro i;by_cases h:i<m
 ·rw [tD [] h,List.getElem?_replicate,Xo h]
  rfl
 ·rw [X1 (by rw [YP];omega),X1 (by rw [fq];omega)]
theorem na (p:PX) (k:Nat) (w:World) (hT:dN w) (hp:p.at_ w) (lp:p.k8 k):
  Calls Tryz.prog 35 #[.agg #[.int .i64 p.v,.slice p.A p.n p.c]] w fun r w'=>∃A c,r=.returned (.slice A (sS p.v p.ts).length c)∧Hp w [.row A (sS p.v p.ts).length c 3 1 (bu (sS p.v p.ts))] w':=by
 have hh:=Hp.start w;have hck:=fun w1 hT1 hb=>lO p k w1 hT1 (hp.ext hb) lp;by_cases h0:p.e=0
 ·rw [show sS p.v p.ts=mu p.v.toNat p.ts from Xo h0,fq];rw [h0] at hck;obtain ⟨hf,h4,hmy,_⟩:=cK h0;have hpl:p.ts.length=p.n:=hp.ln;obtain ⟨pv,pA,pn,pc,ts⟩:=p;replace hf:=gK.1 hf;replace hmy:∀t∈ts,fa pv t=true:=hmy;replace hp:Sl w pA pn 4 (ay TR.cells ts):=hp;have hsz:∀t∈ts,t.m.size≤100000:=lp.sz;have hn:=lp.n;replace hn:pn≤1000000:=hn;replace hpl:ts.length=pn:=hpl;obtain ⟨m,rfl⟩:∃m:Nat,pv=(m:Int):=⟨pv.toNat,by show pv=_;have:0≤pv:=hf.1;omega⟩;replace hf:m≤12:=by have h9:(m:Int)≤12:=hf.2;omega
  show Calls _ _ _ _ fun r w'=>∃A c,r=.returned (.slice A m c)∧Hp w [.row A m c 3 1 (bu (mu m ts))] w';refine aj (N:=42) (l:=[.agg #[.int .i64 m,.slice pA pn pc]]) Tryz.func35 rfl rfl (by simp) ?_;refine sr ?_;refine cv hh [_,_] ?_;intro b1 w1 hh;refine aL (aa (ah (sr ?_)));refine cg hh 0 [_,_] ?_;refine eu ?_;intro w9 hh;refine cJ (aa (cF (aq (ai (sr (bH ?_))))));refine bE hh 0 ?_;refine fO (n:=m) hh rfl rfl Xj Xj bh.out aM.out rfl Xj Xj Xk ?_;intro b13 w13 hh;refine aL (aa (ah (sr (bH ?_))));refine bE hh 1 ?_;refine aH (mI (aa (ao ?_)));rw [Kn] at hh;refine aR [5,6,7,17,18,19,20,21,22,23,24,25,26,27,28,29,30,31,32,33,34,35,36,37,38,39,40] 17
   (fun v w'=>∃i:Nat,i≤pn∧v=.int .i64 i∧Hp w [.row (some ⟨b13,0,none⟩) m m 3 1 (bu (mu m (ts.take i))),.blk b1 24 [.int .i64 m,.slice pA pn pc] (0,0)] w')
   (fun v _=>pn-(intOf v).toNat) ?_ ?_
  ·exact ⟨0,Xs _,rfl,hh⟩
  ·clear hh;rintro ρ' v w' ⟨i,hi,rfl,hh⟩;by_cases hlt:i<pn
   ·obtain ⟨x,hx⟩:=ak (l:=ts) (k:=i) Xj;obtain ⟨ad,rfl,hr⟩:=hp.at_ Xj;have hxm:=Xt hx;have hxs:=hsz x hxm;have hmx:=Zg.1 (hmy x hxm);have hxz:x.m.size=m:=by have:=Y1 hmx.2;omega
    have hxl:x.m.data.toList.length=m:=by rw [←dQ];exact hxz
    have hex:iG x.m.data.toList=ints x.m.data.toList:=jW hmx.1;have hel:(iG x.m.data.toList).length=m:=by rw [hex,dh];exact hxl
    have hBl:(mu m (ts.take i)).length=(mu m (ts.take (i+1))).length:=by rw [fq,fq]
    refine sr ?_;refine dT ?_;refine cx ?_;refine qP ?_;refine bP hh ?_;intro b5 w5 hh;refine bR hh 0 [_,_,_,_] ?_;intro ws hh;replace hh:Hp _ (.blk _ _ [_,_,_,_] _::_) _:=hh;refine aa (sr (bH ?_));refine bE hh 0 ?_;refine aF (g8 x.m _ hxs) ar.out rfl Xk ?_;rintro e_ w23 ⟨A23,c23,rfl,hown_,hb_⟩;refine ⟨_,rfl, ?_⟩;replace hh:=hh.aX (x:=.row _ _ _ _ _ _) hb_ hown_;rw [hel] at hh ⊢;refine aH (mI (aa (ao ?_)));refine aR [6,7,25,26,27,28,29,30,31,32,33,34,35,36,37,38,39] 25
     (fun v w'=>∃j:Nat,j≤m∧v=.int .i64 j∧Hp w [.row A23 m c23 3 1 (bu (iG x.m.data.toList)),.blk b5 80 [.string x.m,.bool x.c.neg,.string x.c.bg,.int .i64 x.c.e] (0,0),.row (some ⟨b13,0,none⟩) m m 3 1 (bu ((mu m (ts.take (i+1))).take j++(mu m (ts.take i)).drop j)),.blk b1 24 [.int .i64 m,.slice (some ad) pn pc] (0,0)] w')
     (fun v _=>m-(intOf v).toNat) ?_ ?_
    ·exact ⟨0,Xs _,rfl,hh⟩
    ·clear hh;rintro ρ2 v w2 ⟨j,hj,rfl,hh⟩;by_cases hjn:j<m
     ·obtain ⟨e,he⟩:=ak (l:=x.m.data.toList) (k:=j) Xj;have hee:(iG x.m.data.toList)[j]?=some (e.toNat:Int):=by rw [hex];exact OE he
      have ho:=Oy hBl (tD (ts.take i) hjn);have hset:=Pb hBl (tD (ts.take (i+1)) hjn);have hmx2:AN (ts.take (i+1)) j=max (AN (ts.take i) j) (e.toNat:Int):=by rw [az hx,tZ,Je he]
      rw [hmx2] at hset;have hol:((mu m (ts.take (i+1))).take j++(mu m (ts.take i)).drop j).length=m:=by rw [Xy,XP,Yz,fq,fq];omega
      generalize (mu m (ts.take (i+1))).take j++(mu m (ts.take i)).drop j=M at*;have hee2:=ck hee;have ho2:=ck ho;have hll:(bu M).length=m:=by rw [bX];exact hol
      obtain ⟨g,rfl⟩:=hh.cn (i:=0) rfl Xj;refine sr ?_;refine dR ?_;refine sy ?_;refine jw ?_;refine aI (aI (aa (al (mL (mI (mL (mI ?_)))))));refine sy ?_;refine bU aM.out rfl (hh.eH (i:=2) rfl (by first|assumption|(simp only [XK];assumption))) Xk ?_;refine mI ?_;refine lz rfl rfl Xk ?_;refine vD ?_;have hmv:(if (e.toNat:Int)>AN (ts.take i) j then (e.toNat:Int) else AN (ts.take i) j)=max (AN (ts.take i) j) (e.toNat:Int):=by split<;>omega
      refine bW hh (i:=2) (vs:=[_]) rfl rfl (cO rfl) rfl aM.out rfl Xj rfl ?_;intro ws hh;simp only [XC,X6] at hh;rw [hmv,se _ (by rw [←bX];omega),hset] at hh;refine fp ?_;refine bk (mI (aA (ai ?_)));refine ⟨⟨j+1,Xj,rfl,hh⟩,by show m-(j+1)<m-j;omega, ?_⟩;exact dV
     ·obtain rfl:j=m:=Xj;rw [Xz (by rw [fq];omega),Zj (by rw [fq];omega),XZ] at hh;refine sr ?_;refine B8 ?_;refine bk (mI (aA (ai ?_)));replace hh:=hh.sub (Xv _ (Xv _ (Xq _ (Xq _ XU))));refine ⟨⟨i+1,Xj,rfl,hh⟩,by show pn-(i+1)<pn-i;omega, ?_⟩;exact dV
   ·obtain rfl:i=pn:=Xj;rw [Xz Xj] at hh;exact Uj
 ·rw [show sS p.v p.ts=[] from Xp h0];refine aj (N:=42) (l:=[.agg #[.int .i64 p.v,.slice p.A p.n p.c]]) Tryz.func35 rfl rfl (by simp) ?_;refine sr ?_;refine cv hh [_,_] ?_;intro b1 w1 hh;refine aL (aa (ah (sr ?_)));refine cg hh 0 [_,_] ?_;refine eu ?_;intro w9 hh;refine cJ (aa (cT (sr (aL (aa (aw (aK ?_)))))));refine df ?_;exact ⟨none,0,rfl,(hh.sub (YE _)).cU 3 1⟩
def m7 (b:List SR):Int:=if b.any (fun s=> !decide (s.lo.d<s.hi.d)) then 5 else if b.length=0 then 1 else 0
theorem NW (x y:Dyadic):(0≤lr x y)↔¬x<y:=by
 rcases T2 x y with h|h|h
 ·rw [Eh h];exact ⟨fun h2=>by omega,fun h2=>absurd h h2⟩
 ·rw [h,IH];exact ⟨fun _=>by grind,fun _=>by omega⟩
 ·rw [Dc h];exact ⟨fun _=>by grind,fun _=>by omega⟩
theorem pF (L:Option Addr) (n c:Nat) (b:List SR) (w:World) (hT:dN w) (hS:Sl w L n 6 (ay SR.cells b)) (hb:∀s∈b,s.ok) (hn:n≤1000000):
  Calls Tryz.prog 80 #[.slice L n c] w fun r w'=>r=.returned (.int .i64 (m7 b))∧Below w.heap.size w w':=by
 have hh:=Hp.start w;have hln:=hS.bp SR.len Xk;refine aj (N:=21) (l:=[.slice L n c]) Tryz.func80 rfl rfl (by simp) ?_;refine Bx ?_;refine aR [2,4,7,8,9,10,11,12,13,14,15,16,17] 7
  (fun v w'=>∃i:Nat,i≤n∧v=.int .i64 i∧(b.take i).any (fun s=> !decide (s.lo.d<s.hi.d))=false∧Hp w [] w')
  (fun v _=>n-(intOf v).toNat) ?_ ?_
 ·exact ⟨0,Xs _,rfl,rfl,hh⟩
 ·clear hh;rintro ρ' v w' ⟨i,hi,rfl,hall,hh⟩;by_cases hlt:i<n
  ·obtain ⟨s,hs⟩:=ak (l:=b) (k:=i) Xj;have ms:=Xt hs;obtain ⟨ad,rfl,hr⟩:=hS.at_ Xj;have hc:=fun w1 hT1=>oL s.lo s.hi w1 hT1 (hb s ms).1 (hb s ms).2;have e:=NW s.lo.d s.hi.d;generalize lr s.lo.d s.hi.d=cc at*;by_cases g:0≤cc
   ·refine sr ?_;refine dT ?_;refine cx ?_;refine IW ?_;refine bP hh ?_;intro b4 w4 hh;refine bR hh 0 [_,_,_,_,_,_] ?_;intro ws hh;replace hh:Hp _ (.blk _ _ [_,_,_,_,_,_] _::_) _:=hh;refine aa (sr (bH ?_));refine cg hh 0 [_,_,_] (bH ?_);refine cg hh 0 [_,_,_] ?_;refine bA hh (hc _ (hT.hp hh)) rfl ?_;intro w15 hh;refine dL (aa (cT (sr (aI (aa (aw (cf (aK (aK (cf (aK ?_)))))))))));refine df ?_;have:b.any (fun s=> !decide (s.lo.d<s.hi.d))=true:=Zb.2 ⟨s,ms,by rw [XM (e.1 g)];rfl⟩;exact ⟨by rw [m7,Xo this],hh.below⟩
   ·refine sr ?_;refine dT ?_;refine cx ?_;refine IW ?_;refine bP hh ?_;intro b4 w4 hh;refine bR hh 0 [_,_,_,_,_,_] ?_;intro ws hh;replace hh:Hp _ (.blk _ _ [_,_,_,_,_,_] _::_) _:=hh;refine aa (sr (bH ?_));refine cg hh 0 [_,_,_] (bH ?_);refine cg hh 0 [_,_,_] ?_;refine bA hh (hc _ (hT.hp hh)) rfl ?_;intro w15 hh;refine dL (aa (cF (aq (bz (ai (al ?_))))));refine bk (mI (aA (ai ?_)));replace hh:=hh.sub (Xv _ XU);refine ⟨⟨i+1,Xj,rfl, ?_,hh⟩,by show n-(i+1)<n-i;omega, ?_⟩
    ·rw [az hs,aag,hall,X2,aao,aaj,Bool.or_false,XH (by have:¬¬s.lo.d<s.hi.d:=fun h=>g (e.2 h);exact Y5.1 this)]
     rfl
    ·exact dV
  ·rw [Xz Xj] at hall;by_cases h0:n=0
   ·refine sr ?_;refine bf (aa (ah (cF (a6 (aE (aE (bq (ai (ah (sr (mL (aH ?_))))))))))));refine Fw ?_;refine df ?_;exact ⟨by rw [m7,hall,Xp (by simp),Xo Xj],hh.below⟩
   ·refine sr ?_;refine bf (aa (ah (cF (a6 (aE (aE (bq (ai (ah (sr (mL (aH ?_))))))))))));refine cR (aa (cF (aq (ai (sr (aI (aa (aw ?_))))))));refine df ?_;exact ⟨by rw [m7,hall,Xp (by simp),Xp Xj],hh.below⟩
theorem mV (L:Option Addr) (n c:Nat) (b:List SR) (w:World) (hT:dN w) (hS:Sl w L n 6 (ay SR.cells b)) (hb:∀s∈b,s.ok) (hn:n≤1000000):
  Calls Tryz.prog 82 #[.slice L n c] w fun r w'=>∃A c',r=.returned (.slice A n c')∧w'.ownsRow w.heap.size 70 6 (.slice A n c') n (ay SR.cells (b.map SR.f))∧Below w.heap.size w w':=by
 have hh:=Hp.start w;have hln:=hS.bp SR.len Xk;refine aj (N:=19) (l:=[.slice L n c]) Tryz.func82 rfl rfl (by simp) ?_;refine sr (aL (aa (sr (aL (aa (ah (sr (mL (aH (mI (aa (ao ?_))))))))))));replace hh:=hh.cU 70 6;refine bK [3,5,8,9,10,11,12,13,14,15,16,17] 3 8
  (fun v3 v w'=>∃(i c3:Nat) (A:Option Addr),i≤n∧v=.int .i64 i∧v3=.slice A i c3∧Hp w [.row A i c3 70 6 (ay SR.cells ((b.take i).map SR.f))] w')
  (fun _ v _=>n-(intOf v).toNat) ?_ ?_
 ·exact ⟨0,0,none,Xs _,rfl,rfl,hh⟩
 ·clear hh;rintro ρ' v3 v w' ⟨i,c3,A,hi,rfl,rfl,hh⟩;by_cases hlt:i<n
  ·obtain ⟨s,hs⟩:=ak (l:=b) (k:=i) Xj;have ms:=Xt hs;obtain ⟨ad,rfl,hr⟩:=hS.at_ Xj;refine sr ?_;refine dT ?_;refine cx ?_;refine IW ?_;refine bP hh ?_;intro b5 w5 hh;refine bR hh 0 [_,_,_,_,_,_] ?_;intro ws hh;replace hh:Hp _ (.blk _ _ [_,_,_,_,_,_] _::_) _:=hh;refine aa (al (mL ?_));refine cg hh 0 [_,_,_,_,_,_] ?_;refine bA hh (zA s _ (hT.hp hh) (hb s ms)) rfl ?_;intro w14 hh;refine Pq ?_;intro b15 w15 hh;refine Fq ?_;intro A16 c16 w16 hh;simp only [XC,X6] at hh;replace hh:=hh.sub (X9 _ _);refine kM ?_;refine bk (mI (aA (ai ?_)));replace hh:=hh.sub (Xv _ (Xq _ XU));refine ⟨⟨i+1,c16,A16,Xj,rfl,rfl, ?_⟩,by show n-(i+1)<n-i;omega, ?_⟩
   ·rw [az hs,Yc,bD];exact hh
   ·exact dV
  ·obtain rfl:i=n:=Xj;rw [Xz Xj] at hh;exact N4
def hasB (b:List SR) (p:List NR):Bool:=decide (b.length=p.length) && (b.zip p).all fun x=>x.1.has x.2.d
def UP (a b:List SR):Bool:=decide (a.length=b.length) && (a.zip b).all fun x=>x.2.has x.1.lo.d && x.2.has x.1.hi.d
def Eg (dg ds:List Int):Bool:=(dg.zip ds).any fun q=>decide (q.2<q.1∨127<q.2)
def pT (p:PX) (b:List SR) (ds:List Int):Int:=
 if p.e≠0 then p.e else if m7 b≠0 then m7 b else if (b.length:Int)≠p.v∨(ds.length:Int)≠p.v then 1 else if Eg (sS p.v p.ts) ds=true then 1 else if g7 1 ds=0 then 3 else 0
theorem GG {a:List α}{b:List β}{i:Nat}{x:α}{y:β} (hx:a[i]?=some x) (hy:b[i]?=some y):(a.zip b)[i]?=some (x,y):=by
 rw [List.getElem?_zip_eq_some];exact ⟨hx,hy⟩
theorem ue (p:PX) (L:Option Addr) (n c:Nat) (b:List SR) (M:Option Addr) (m mc:Nat) (ds:List Int) (k:Nat) (w:World) (hT:dN w) (hp:p.at_ w) (lp:p.k8 k) (hB:Sl w L n 6 (ay SR.cells b)) (hb:∀s∈b,s.ok) (hn:n≤1000000) (hD:Sl w M m 1 (bu ds)) (hm:m≤1000000):
  Calls Tryz.prog 43 #[.agg #[.int .i64 p.v,.slice p.A p.n p.c],.slice L n c,.slice M m mc] w fun r w'=>r=.returned (.int .i64 (pT p b ds))∧Below w.heap.size w w':=by
 have hh:=Hp.start w;have hck:=fun w1 hT1 hb=>lO p k w1 hT1 (hp.ext hb) lp;have hbk:=fun w1 hT1 hb1=>pF L n c b w1 hT1 (hB.ext hb1) hb hn;have hdg:=fun w1 hT1 hb=>na p k w1 hT1 (hp.ext hb) lp;have hbl:b.length=n:=hB.bp SR.len Xk;have hdl:ds.length=m:=by have:=hD.1;rw [bX] at this;omega
 unfold pT;by_cases h0:p.e≠0
 ·rw [Xo h0];generalize p.e=e at*;refine Bp ?_;refine sr ?_;refine cv hh [_,_] ?_;intro b3 w3 hh;refine aI (aa (ah (sr ?_)));refine cg hh 0 [_,_] ?_;refine eu ?_;intro w12 hh;exact RW
 ·rw [Xp h0];have hpe:p.e=0:=Xj;rw [hpe] at hck;by_cases h1:m7 b≠0
  ·rw [Xo h1];generalize m7 b=e at*;refine Bp ?_;refine sr ?_;refine cv hh [_,_] ?_;intro b3 w3 hh;refine aI (aa (ah (sr ?_)));refine cg hh 0 [_,_] ?_;refine eu ?_;intro w12 hh;refine aI (aa (sr (mI ?_)));refine vT ?_;refine bA hh (hbk _ (hT.hp hh) hh.below) rfl ?_;intro w17 hh;exact RW
  ·rw [Xp h1];rw [show m7 b=0 by omega] at hbk;by_cases h2:(b.length:Int)≠p.v
   ·rw [Xo (.inl h2)];refine Bp ?_;refine sr ?_;refine cv hh [_,_] ?_;intro b3 w3 hh;refine aI (aa (ah (sr ?_)));refine cg hh 0 [_,_] ?_;refine eu ?_;intro w12 hh;refine aI (aa (sr (mI ?_)));refine vT ?_;refine bA hh (hbk _ (hT.hp hh) hh.below) rfl ?_;intro w17 hh;refine aI (aa (sr (mI ?_)));refine n9 ?_;refine bE hh 0 ?_;refine cJ (mB ?_);refine gS (gS (gS (gS (gS ?_))));refine eR ?_;exact MJ
   ·by_cases h3:(ds.length:Int)≠p.v
    ·rw [Xo (.inr h3)];refine Bp ?_;refine sr ?_;refine cv hh [_,_] ?_;intro b3 w3 hh;refine aI (aa (ah (sr ?_)));refine cg hh 0 [_,_] ?_;refine eu ?_;intro w12 hh;refine aI (aa (sr (mI ?_)));refine vT ?_;refine bA hh (hbk _ (hT.hp hh) hh.below) rfl ?_;intro w17 hh;refine aI (aa (sr (mI ?_)));refine n9 ?_;refine bE hh 0 ?_;refine cJ (mB (gT (mL (gT (aH (gT (bH (gT ?_))))))));refine bE hh 0 ?_;refine gT ?_;refine cJ ?_;refine ez ?_;exact MJ
    ·rw [Xp (fun h=>h.elim h2 h3)];have hgl:(sS p.v p.ts).length=m:=by
      unfold sS;rw [Xo (show jy p.v p.ts=0 from hpe),fq];omega
     have hzl:((sS p.v p.ts).zip ds).length=m:=by rw [List.length_zip];omega
     have hbd:Eg (sS p.v p.ts) ds=((sS p.v p.ts).zip ds).any fun q=>decide (q.2<q.1∨127<q.2):=rfl;generalize sS p.v p.ts=dg at*;rw [hgl] at hdg;refine Bp ?_;refine sr ?_;refine cv hh [_,_] ?_;intro b3 w3 hh;refine aI (aa (ah (sr ?_)));refine cg hh 0 [_,_] ?_;refine eu ?_;intro w12 hh;refine aI (aa (sr (mI ?_)));refine vT ?_;refine bA hh (hbk _ (hT.hp hh) hh.below) rfl ?_;intro w17 hh;refine aI (aa (sr (mI ?_)));refine n9 ?_;refine bE hh 0 ?_;refine cJ (mB (gT (mL (gT (aH (gT (bH (gT ?_))))))));refine bE hh 0 ?_;refine gT ?_;refine cJ ?_;refine ez ?_;refine aa (cF (aq (ai (ah (sr ?_)))));refine cg hh 0 [_,_] ?_;refine aF (hdg _ (hT.hp hh) hh.below) ar.out rfl Xk ?_;rintro e_ w34 ⟨G,gc,rfl,h4⟩;refine ⟨_,rfl, ?_⟩;replace hh:=hh.join h4;simp only [Xw,Xu] at hh;refine aH (mI (aa (ao ?_)));refine aR [6,9,10,36,37,38,39,40,41,42,43,44,45,46,47,48,49,50,51,52,53,54] 36
      (fun v w'=>∃i:Nat,i≤m∧v=.int .i64 i∧((dg.zip ds).take i).any (fun q=>decide (q.2<q.1∨127<q.2))=false∧Hp w [.row G m gc 3 1 (bu dg),.blk b3 24 [.int .i64 p.v,.slice p.A p.n p.c] (0,0)] w')
      (fun v _=>m-(intOf v).toNat) ?_ ?_
     ·exact ⟨0,Xs _,rfl,rfl,hh⟩
     ·clear hh;rintro ρ' v w' ⟨i,hi,rfl,hall,hh⟩;by_cases hlt:i<m
      ·obtain ⟨x,hx⟩:=ak (l:=dg) (k:=i) Xj;obtain ⟨y,hy⟩:=ak (l:=ds) (k:=i) Xj;have hz:=GG hx hy;have hx2:=ck hx;have hy2:=ck hy;have hll:(bu dg).length=m:=by rw [bX];exact hgl
       obtain ⟨ad,rfl,hr⟩:=hD.at_ Xj;obtain ⟨g0,rfl⟩:=hh.cn (i:=0) rfl Xj;by_cases hxy:y<x
       ·refine sr ?_;refine dR ?_;refine fT ?_;refine jw ?_;refine aI (aI (aa (sr (mL (mI ?_)))));refine cx ?_;refine BF ?_;refine mI ?_;refine bf (mB ?_);refine gS (gS (gS (gS (gS ?_))));refine eR ?_;refine Fk ?_;refine df ?_;rw [Xo (by rw [hbd];exact Zb.2 ⟨_,Xt hz,XH (.inl hxy)⟩)];exact ⟨rfl,hh.below⟩
       ·by_cases hy7:127<y
        ·refine sr ?_;refine dR ?_;refine fT ?_;refine jw ?_;refine aI (aI (aa (sr (mL (mI ?_)))));refine cx ?_;refine BF ?_;refine mI ?_;refine bf (mB (gT (mL (gT (mI (gT ?_))))));refine cx ?_;refine aD rfl rfl ?_;refine BF ?_;refine gT ?_;refine cj ?_;refine ez ?_;refine Fk ?_;refine df ?_;rw [Xo (by rw [hbd];exact Zb.2 ⟨_,Xt hz,XH (.inr hy7)⟩)];exact ⟨rfl,hh.below⟩
        ·refine sr ?_;refine dR ?_;refine fT ?_;refine jw ?_;refine aI (aI (aa (sr (mL (mI ?_)))));refine cx ?_;refine BF ?_;refine mI ?_;refine bf (mB (gT (mL (gT (mI (gT ?_))))));refine cx ?_;refine aD rfl rfl ?_;refine BF ?_;refine gT ?_;refine cj ?_;refine ez ?_;refine B1 ?_;refine bk (mI (aA (ai ?_)));refine ⟨⟨i+1,Xj,rfl,by rw [az hz,aag,hall,aao,aaj,XM (fun h=>h.elim hxy hy7)];rfl,hh⟩,by show m-(i+1)<m-i;omega, ?_⟩;exact dV
      ·rw [Xz Xj] at hall;rw [Xp (by rw [hbd,hall];decide)];have hcn:=fun w1 hb=>eI M m mc ds w1 (hD.ext hb) hm;refine sr ?_;refine bf (aa (ah (cF (a6 (aE (aE (bq (ai (ah (sr (mL ?_)))))))))));by_cases h9:g7 1 ds=0
       ·rw [Xo h9];rw [h9] at hcn;refine bA hh (hcn _ hh.below) rfl ?_;intro w56 hh;refine Fw ?_;refine df ?_;exact ⟨rfl,hh.below⟩
       ·rw [Xp h9];generalize g7 1 ds=N at*;refine bA hh (hcn _ hh.below) rfl ?_;intro w56 hh;refine cR (aa (cF (aq (ai (sr (aI (aa (aw ?_))))))));refine df ?_;exact ⟨rfl,hh.below⟩
theorem LU {q:List TR} (h:65536<p.length*q.length):fm p q=3:=by unfold fm;rw [Xo h]
theorem NL {q:List TR}{e:Int} (h6:¬65536<p.length*q.length) {a b:List Int} (h:vi p q=a++e::b) (ha:∀x∈a,x=0) (he:e≠0):fm p q=e:=by
 unfold fm;rw [Xp h6,h,List.find?_append,j2 (Zf.2 fun x hx=>by simp [ha x hx]),List.find?_cons_of_pos (p:=fun e:Int=>decide (e≠0)) (by simpa using he)]
 rfl
theorem KP {q:List TR} (h6:¬65536<p.length*q.length) (h:∀x∈vi p q,x=0):fm p q=gD (cA p q):=by
 unfold fm gD;rw [Xp h6,j2 (Zf.2 fun x hx=>by simp [h x hx])]
theorem yW (p q:PX) (k k2:Nat) (w:World) (hT:dN w) (hp:p.at_ w) (hq:q.at_ w) (lp:p.k8 k) (lq:q.k8 k2) (hk:k+k2≤900000):
  Calls Tryz.prog 201 #[.agg #[.int .i64 p.v,.slice p.A p.n p.c],.agg #[.int .i64 q.v,.slice q.A q.n q.c]] w fun r w'=>∃g:PX,fF (fm p.ts q.ts) p.v (aG (cA p.ts q.ts)) g∧r=.returned (.tuple #[.agg #[.int .i64 g.v,.slice g.A g.n g.c],.int .i64 (fm p.ts q.ts)])∧Hp w [g.row] w':=by
 have hh:=Hp.start w;obtain ⟨pv,pA,pn,pc,ps⟩:=p;obtain ⟨qv,qA,qn,qc,qs⟩:=q;have hpl:ps.length=pn:=hp.ln;have hql:qs.length=qn:=hq.ln;have hpn:pn≤1000000:=lp.n;have hqn:qn≤1000000:=lq.n;have okp:iT k ps:=lp.ok;have okq:iT k2 qs:=lq.ok;have szp:∀t∈ps,t.m.size≤100000:=lp.sz;have szq:∀t∈qs,t.m.size≤100000:=lq.sz;replace hp:Sl w pA pn 4 (ay TR.cells ps):=hp;replace hq:Sl w qA qn 4 (ay TR.cells qs):=hq;clear lp lq;show Calls _ _ _ _ fun r w'=>∃g:PX,fF (fm ps qs) pv (aG (cA ps qs)) g∧r=.returned (.tuple #[.agg #[.int .i64 g.v,.slice g.A g.n g.c],.int .i64 (fm ps qs)])∧Hp w [g.row] w';have hmm:pn*qn≤1000000*1000000:=YT hpn hqn;obtain ⟨m,hm⟩:∃m,m=pn*qn:=⟨_,rfl⟩;have hmi:(pn:Int)*(qn:Int)=(m:Int):=by rw [hm];exact (YB _ _).symm
 by_cases h6:65536<m
 ·rw [LU (by rw [hpl,hql,←hm];exact h6)];refine aj (N:=67) (l:=[.agg #[.int .i64 pv,.slice pA pn pc],.agg #[.int .i64 qv,.slice qA qn qc]]) Tryz.func201 rfl rfl (by simp) ?_;refine sr ?_;refine cv hh [_,_] ?_;intro b2 w2 hh;refine cv hh [_,_] ?_;intro b3 w3 hh;refine bP hh ?_;intro b4 w4 hh;refine aI (aa (ah (sr (bH ?_))));refine bE hh 2 ?_;refine aH (bH ?_);refine bE hh 1 ?_;refine aH ?_;refine mulC ?_;refine cj (aa (cT (sr ?_)));exact Pd
 ·have hbig:¬65536<ps.length*qs.length:=by rw [hpl,hql,←hm];exact h6
  refine aj (N:=67) (l:=[.agg #[.int .i64 pv,.slice pA pn pc],.agg #[.int .i64 qv,.slice qA qn qc]]) Tryz.func201 rfl rfl (by simp) ?_;refine sr ?_;refine cv hh [_,_] ?_;intro b2 w2 hh;refine cv hh [_,_] ?_;intro b3 w3 hh;refine bP hh ?_;intro b4 w4 hh;refine aI (aa (ah (sr (bH ?_))));refine bE hh 2 ?_;refine aH (bH ?_);refine bE hh 1 ?_;refine aH ?_;refine mulC ?_;refine cj (aa (cF (aq (ai (sr (aL (aa (ah (sr (bH ?_))))))))));refine bE hh 2 ?_;refine aH (mI (aa (ao ?_)));replace hh:=hh.cU 80 4;have hall:∀i,((ps.take i).flatMap fun x=>qs.map (rl x)).length≤65536:=fun i=>by
   have h1:(cA ps qs).length=((ps.take i).flatMap fun x=>qs.map (rl x)).length+((ps.drop i).flatMap fun x=>qs.map (rl x)).length:=by
    unfold cA;rw [←Xy,←ZC,Yg]
   rw [nP] at h1;omega
  refine bK [5,6,8,10,11,12,25,26,27,28,29,30,31,32,33,34,35,36,37,38,39,40,41,42,43,44,45,46,47,48,49,50,51,52,53,54,55,56,57,58,59,60] 6 25
   (fun a x w'=>∃(i:Nat) (M:List TR) (A':Option Addr) (c':Nat),i≤pn∧x=.int .i64 i∧a=.slice A' M.length c'∧M=((ps.take i).flatMap fun x=>qs.map (rl x))∧(∀e∈((ps.take i).flatMap fun x=>qs.map fun y=>pd x.m y.m),e=0)∧Hp w [.row A' M.length c' 80 4 (ay TR.cells M),.blk b4 24 [.int .i64 0,.slice none 0 0] (0,0),.blk b3 24 [.int .i64 qv,.slice qA qn qc] (0,0),.blk b2 24 [.int .i64 pv,.slice pA pn pc] (0,0)] w')
   (fun _ x _=>pn-(intOf x).toNat) ?_ ?_
  ·exact ⟨0,[],none,0,Xs _,rfl,rfl,rfl,fun e he=>(nomatch he),hh⟩
  ·clear hh;rintro ρ' a_ x_ w' ⟨i,M,A',c',hi,rfl,rfl,hM,hz,hh⟩;have hMl:=hall i;rw [←hM] at hMl;by_cases hlt:i<pn
   ·obtain ⟨x,hx⟩:=ak (l:=ps) (k:=i) Xj;obtain ⟨ad,rfl,hr⟩:=hp.at_ Xj;have hxm:=Xt hx;have hxo:=okp x hxm;have hxs:=szp x hxm;refine sr ?_;refine dT ?_;refine cx ?_;refine qP ?_;refine bP hh ?_;intro b8 w8 hh;refine bR hh 0 [_,_,_,_] ?_;intro ws hh;replace hh:Hp _ (.blk _ _ [_,_,_,_] _::_) _:=hh;refine aa (sr (bH ?_));refine bE hh 3 ?_;refine aH (mI (aa (ao ?_)));replace hh:=hh.perm (XX (l₁:=[_]));simp only [Xw,Xu] at hh;refine bK [5,6,10,11,12,32,33,34,35,36,37,38,39,40,41,42,43,44,45,46,47,48,49,50,51,52,53,54,55,56,57,58,59] 6 32
     (fun a z w'=>∃(j:Nat) (N:List TR) (A':Option Addr) (c':Nat),j≤qn∧z=.int .i64 j∧a=.slice A' N.length c'∧N=M++(qs.take j).map (rl x)∧(∀e∈(qs.take j).map (fun y=>pd x.m y.m),e=0)∧Hp w [.row A' N.length c' 80 4 (ay TR.cells N),.blk b8 80 [.string x.m,.bool x.c.neg,.string x.c.bg,.int .i64 x.c.e] (0,0),.blk b4 24 [.int .i64 0,.slice none 0 0] (0,0),.blk b3 24 [.int .i64 qv,.slice qA qn qc] (0,0),.blk b2 24 [.int .i64 pv,.slice (some ad) pn pc] (0,0)] w')
     (fun _ z _=>qn-(intOf z).toNat) ?_ ?_
    ·refine ⟨0,M,A',c',Xs _,rfl,rfl,by simp,fun e he=>(nomatch he),hh⟩
    ·clear hh;rintro ρ2 a2 x2 w2 ⟨j,N,A2,c2,hj,rfl,rfl,hN,hz2,hh⟩;by_cases hjn:j<qn
     ·obtain ⟨y,hy⟩:=ak (l:=qs) (k:=j) Xj;obtain ⟨ad2,rfl,hr2⟩:=hq.at_ Xj;have hym:=Xt hy;have hyo:=okq y hym;have hys:=szq y hym;have hmul:∀w1,Calls Tryz.prog 223 #[.string x.m,.string y.m] w1 fun r w'=>r=.returned (.tuple #[.string (mulM x.m y.m),.int .i64 (pd x.m y.m)])∧Below w1.heap.size w1 w':=fun w1=>G8 x.m y.m w1 hxs hys;have hdm:=fun A cc w1 hT1 hS1=>dW A 2 cc [x.c,y.c] w1 hT1 hS1 (by simpa using ⟨hxo.1,hyo.1⟩) (k+k2) (by simpa using ⟨hxo.2.mono Xj,hyo.2.mono Xj⟩) Xj Xk;rw [show fU ([x.c,y.c].map NR.d)=x.c.d*y.c.d by show 1*x.c.d*y.c.d=_;rw [Zi]] at hdm;obtain ⟨R,hR⟩:=CV (f:=fun x y=>pd x.m y.m) hx hy;have hzz:∀e∈((ps.take i).flatMap fun x=>qs.map fun y=>pd x.m y.m)++(qs.take j).map (fun y=>pd x.m y.m),e=0:=fun e he=>by
       rcases X3.1 he with he|he
       ·exact hz e he
       ·exact hz2 e he
      have hNl:N.length<65536:=by
       have h1:=hall (i+1);rw [rk hx,Xy,←hM] at h1;rw [hN,Xy];simp at h1 ⊢;omega
      by_cases he:pd x.m y.m=0
      ·refine sr ?_;refine dT ?_;refine pK ?_;refine cq (vs:=[_,_,_,_]) aM.out rfl ((hr2.ext hh.below).recAt TR.len hy) rfl Xk ?_;refine bP hh ?_;intro b10 w10 hh;refine bR hh 0 [_,_,_,_] ?_;intro ws hh;replace hh:Hp _ (.blk _ _ [_,_,_,_] _::_) _:=hh;refine aa (sr (bH ?_));refine bE hh 2 ?_;refine bH ?_;refine bE hh 0 ?_;refine bA hh (hmul _) rfl ?_;intro w41 hh;refine mT ?_;refine dn ?_;refine dn ?_;refine aS (aI (aa (ah (sr (mI ?_)))));refine cJ (aa (cF (aq (ai (al (mL (mS (bH ?_))))))));refine cg hh 2 [_,_,_] (bH ?_);refine cg hh 0 [_,_,_] ?_;refine sj ?_;intro b54 w54 hh;refine bA hh (hdm _ _ _ (hT.hp hh) (hh.aC (i:=0) rfl)) rfl ?_;intro w55 hh;refine fP [_,_,_,_] ?_;refine Cq ?_;intro b57 w57 hh;refine Q5 ?_;intro A58 c58 w58 hh;simp only [XC,X6] at hh;replace hh:=hh.sub (X9 _ _);refine kM ?_;refine bk (mI (aA (ai ?_)));have e1:ay TR.cells N++[.string (mulM x.m y.m),.bool (nR (x.c.d*y.c.d)).neg,.string (nR (x.c.d*y.c.d)).bg,.int .i64 (nR (x.c.d*y.c.d)).e]=ay TR.cells (N++[rl x y]):=by rw [bD,iC];rfl
       replace hh:=show Hp w (_::_::.row A58 (N.length+1) c58 80 4 (ay TR.cells N++[.string (mulM x.m y.m),.bool (nR (x.c.d*y.c.d)).neg,.string (nR (x.c.d*y.c.d)).bg,.int .i64 (nR (x.c.d*y.c.d)).e])::_) w58 from hh;rw [e1] at hh;replace hh:=hh.sub (Xv _ (Xv _ (Xq _ (Xq _ (Xq _ (Xq _ (Xq _ XU)))))));refine ⟨⟨j+1,N++[rl x y],_,_,Xj,rfl,by rw [Xy];rfl,by rw [hN,az hy,Yc,Ya];rfl,fun e h=> ?_, ?_⟩,by show qn-(j+1)<qn-j;omega, ?_⟩
       ·rw [az hy,Yc,X3] at h
        rcases h with h|h
        ·exact hz2 e h
        ·rw [XO.1 h];exact he
       ·rw [Xy];exact hh
       ·exact dV
      ·rw [NL hbig hR hzz he];generalize pd x.m y.m=e at*;refine sr ?_;refine dT ?_;refine pK ?_;refine cq (vs:=[_,_,_,_]) aM.out rfl ((hr2.ext hh.below).recAt TR.len hy) rfl Xk ?_;refine bP hh ?_;intro b10 w10 hh;refine bR hh 0 [_,_,_,_] ?_;intro ws hh;replace hh:Hp _ (.blk _ _ [_,_,_,_] _::_) _:=hh;refine aa (sr (bH ?_));refine bE hh 2 ?_;refine bH ?_;refine bE hh 0 ?_;refine bA hh (hmul _) rfl ?_;intro w41 hh;refine mT ?_;refine dn ?_;refine dn ?_;refine aS (aI (aa (ah (sr (mI ?_)))));refine cJ (aa (cT (sr ?_)));refine fP [_,_] (mI ?_);refine bR hh 3 [_,_] ?_;intro ws hh;replace hh:Hp _ (_::_::_::.blk _ _ [_,_] _::_) _:=hh;refine aI (aa (aw (aK (cf (aK (aK (cf (cf (aK (aK (cf (aK ?_))))))))))));refine JM ?_;exact Lb
     ·obtain rfl:j=qn:=Xj;rw [Xz Xj] at hz2 hN;refine sr ?_;refine B8 ?_;refine bk (mI (aA (ai ?_)));replace hh:=hh.sub (Xq _ (Xv _ (Xq _ (Xq _ (Xq _ XU)))));refine ⟨⟨i+1,N,A2,c2,Xj,rfl,rfl,by rw [rk hx,←hM,Xz Xj];exact hN,fun e h=> ?_,hh⟩,by show pn-(i+1)<pn-i;omega, ?_⟩
      ·rw [rk (f:=fun (x y:TR)=>pd x.m y.m) hx,X3,Z2] at h
       rcases h with h|h
       ·exact hz e h
       ·exact hz2 e h
      ·exact dV
   ·obtain rfl:i=pn:=Xj;rw [Xz Xj] at hz hM;have hMp:M=cA ps qs:=hM;rw [KP hbig hz,←hMp];have hpo:=qQ okp okq Xj;rw [←hMp] at hpo;refine sr ?_;refine Ks ?_;refine bE hh 3 ?_;refine mL ?_;refine aF (kC pv A' M.length c' M (k+k2) _ hT hh rfl Xj Xj hpo) ar.out rfl Xk ?_;rintro e_ w64 ⟨g,og,rfl,hh⟩;refine ⟨_,rfl, ?_⟩;refine dn ?_;refine dn ?_;exact E8
variable {E:Int}{b:Nat}{fz:Nat×Nat}{w1:World}
def kp (base:Nat) (E v:Int) (ts:List TR):VP:=fun x W=>∃(g:PX) (w1:World),x=.agg #[.int .i64 g.v,.slice g.A g.n g.c]∧fF E v ts g∧base≤w1.heap.size∧Hp w1 [g.row] W
theorem kp.ext {v:Int} (x:Value) (w w':World) (h:kp base E v ts x w) (hb:Below w.heap.size w w'):kp base E v ts x w':=let ⟨g,w1,h1,h2,h3,h4⟩:=h;⟨g,w1,h1,h2,h3,h4.ext hb⟩
def ki (base:Nat) (E v:Int) (ts:List TR):VP:=fun x W=>∃(g:PX) (w1:World),x=.tuple #[.agg #[.int .i64 g.v,.slice g.A g.n g.c],.int .i64 E]∧fF E v ts g∧base≤w1.heap.size∧Hp w1 [g.row] W
theorem ki.ext {v:Int} (x:Value) (w w':World) (h:ki base E v ts x w) (hb:Below w.heap.size w w'):ki base E v ts x w':=let ⟨g,w1,h1,h2,h3,h4⟩:=h;⟨g,w1,h1,h2,h3,h4.ext hb⟩
def Ck (base:Nat) (v:Int) (ts:List TR):VP:=fun x W=>∃(g:PX) (w1:World),x=.slice g.A g.n g.c∧fF 0 v ts g∧base≤w1.heap.size∧Hp w1 [g.row] W
theorem Ck.ext {v:Int} (x:Value) (w w':World) (h:Ck base v ts x w) (hb:Below w.heap.size w w'):Ck base v ts x w':=let ⟨g,w1,h1,h2,h3,h4⟩:=h;⟨g,w1,h1,h2,h3,h4.ext hb⟩
theorem PX.ne {g:PX}{t:TypeId}{cs:Array Value} (h:Hp w1 [g.row] W) (h3:W.heap[b]?=some (.cells cs t fz)) (h1:80≠t):∀x∈[g.row],x.id≠some b:=fun x hx=>by
 have hx2:=h.own x hx;obtain rfl:=XO.1 hx;exact Jo hx2 h3 h1
def jx (a:List TR×Int) (g:PX):List TR×Int:=if a.2=0 then (aG (cA a.1 g.ts),fm a.1 g.ts) else a
def Ut (ps:List PX):List TR×Int:=match ps with|[]=>([],0)|g::l=>l.foldl jx (g.ts,0)
def Gt (ps:List PX):Int:=if fR ps=0 then (Ut ps).2 else fR ps
theorem CP {a:List TR×Int} (h:a.2≠0):∀l:List PX,l.foldl jx a=a
 |[]=>rfl
 |g::l=>by
  rw [aaE,show jx a g=a by unfold jx;rw [Xp h]];exact CP h l
theorem HA {l:List PX}{a:List TR×Int}{i:Nat}{g:PX} (hx:l[i]?=some g) (h0:((l.take i).foldl jx a).2=0) (h:fm ((l.take i).foldl jx a).1 g.ts≠0):(l.foldl jx a).2=fm ((l.take i).foldl jx a).1 g.ts:=by
 have e:l=l.take i++g::l.drop (i+1):=by rw [←gm hx,Yg]
 have e2:l.foldl jx a=(l.drop (i+1)).foldl jx (jx ((l.take i).foldl jx a) g):=by
  conv=>lhs;rw [e]
  rw [aaH,aaE]
 rw [e2];have e3:jx ((l.take i).foldl jx a) g=(aG (cA ((l.take i).foldl jx a).1 g.ts),fm ((l.take i).foldl jx a).1 g.ts):=Xo h0;rw [e3,CP h]
theorem IE {l:List PX}{a:List TR×Int}{i:Nat}{g:PX} (hx:l[i]?=some g) (h0:((l.take i).foldl jx a).2=0):(l.take (i+1)).foldl jx a=(aG (cA ((l.take i).foldl jx a).1 g.ts),fm ((l.take i).foldl jx a).1 g.ts):=by
 rw [az hx,aaH,aaE,List.foldl_nil];exact Xo h0
theorem ET {q:List TR} (hp:iT k p) (hq:iT j q) (sq:∀t∈q,t.m.size≤100000) (h:fm p q=0) (hk:k+j≤900000):iT (k+j+65536) (aG (cA p q))∧∀t∈aG (cA p q),t.m.size≤100000:=by
 obtain ⟨h6,_,h4⟩:=kJ h;have ho:=qQ hp hq Xj;have hz:=nJ fun t ht=>(ho t ht).2;rw [nP] at hz;refine ⟨fun t ht=> ?_,fun t ht=> ?_⟩
 ·have:Sz (k+j+65536) t.c.d:=(hz t ht).mono Xj;refine ⟨?_,this⟩;rw [(eX _).nf t ht];exact this.ok Xj
 ·obtain ⟨s,hs,e⟩:=jh t ht;obtain ⟨x,hx,hs⟩:=Zq.1 hs;obtain ⟨y,hy,rfl⟩:=XG.1 hs;rw [←e];exact XV (Hu _ _) (sq y hy)
theorem CI (L:Option Addr) (n c:Nat) (ps:List PX) (k s:Nat) (w:World) (hT:dN w) (hL:Sl w L n 2 (ay PX.cells ps)) (hcn:n≤c) (hn:n≤8) (hf:∀g∈ps,g.at_ w) (hl:∀g∈ps,g.k8 k) (hs:k+65536≤s) (hk:k+k+(n-2)*s≤900000):
  Calls Tryz.prog 178 #[.slice L n c] w fun r w'=>∃g:PX,fF (Gt ps) (fH ps) (Ut ps).1 g∧r=.returned (.tuple #[.agg #[.int .i64 g.v,.slice g.A g.n g.c],.int .i64 (Gt ps)])∧Hp w [g.row] w':=by
 have hh:=Hp.start w;have hln:=hL.bp PX.len Xk;have hlk:=fun w1 hT1 hb=>sJ L n c ps k w1 hT1 (hL.ext hb) Xj (fun g hg=>(hf g hg).ext hb) hl;unfold Gt;by_cases h0:fR ps=0
 ·rw [Xo h0];rw [h0] at hlk;obtain ⟨hne,si,hvv⟩:=zD h0;obtain ⟨g0,pt,rfl⟩:=List.exists_cons_of_ne_nil hne;rw [lF (g:=g0) rfl];have hnp:pt.length+1=n:=hln;obtain ⟨ad,rfl,hr⟩:=hL.at_ Xj;have hm0:g0∈g0::pt:=XB;have hg0:=hl g0 hm0;have h00:(g0::pt)[0]?=some g0:=rfl;show Calls _ _ _ _ fun r w'=>∃g:PX,fF (pt.foldl jx (g0.ts,0)).2 g0.v (pt.foldl jx (g0.ts,0)).1 g∧r=.returned (.tuple #[.agg #[.int .i64 g.v,.slice g.A g.n g.c],.int .i64 (pt.foldl jx (g0.ts,0)).2])∧Hp w [g.row] w';refine aj (N:=46) (l:=[.slice (some ad) n c]) Tryz.func178 rfl rfl (by simp) ?_;refine sr ?_;refine bP hh ?_;intro b2 w2 hh;refine aI (aa (ah (sr (mL ?_))));refine bA hh (hlk _ (hT.hp hh) hh.below) rfl ?_;intro w11 hh;refine aI (aa (sr (mI ?_)));refine cJ (aa (cF (aq (ai (ah ?_)))));refine a0 11 [[(0,none)],[(16,some 0)],[(17,some 1)],[(18,some 2)],[(0,none)],[(20,some 4)],[(21,some 5)],[(22,some 6)],[(23,some 7)],[(19,some 3),(24,some 8)],[]] [(10,5),(9,25),(8,24),(7,23),(6,22),(5,21),(4,20),(3,19),(2,18),(1,17),(0,16)] hh mixed Xl ?_;refine fS ?_;refine ow (0) ?_;refine IU ?_
  refine qS (fun _ hj=>cN hj.hp.below ((hr.recAt PX.len h00) 0 _ rfl)) ?_;refine fS ?_;refine ow (0) ?_;refine IU ?_;refine qS (fun _ hj=>cN hj.hp.below ((hr.recAt PX.len h00) 1 _ rfl)) ?_;refine aQ (i:=8) (Ck w11.heap.size g0.v g0.ts) (Ck.ext) ?_ ?_
  ·intro ρ1 w1 hj hR;exact aY rfl (aJ ar.out (av (show ρ1 23=Value.slice _ _ _ from hR.1) aU)) (l6 g0.A g0.n g0.c g0.ts w1 ((hf g0 hm0).ext hj.hp.below) hg0.n) (fun _ _ ⟨A,c,hq,ho,hb⟩=>⟨_,hq,hb,⟨g0.v,A,g0.n,c,g0.ts⟩,w1,rfl,⟨rfl,rfl⟩,hj.bl.size,(Hp.start w1).aX (x:=.row _ _ _ _ _ _) hb ho⟩)
  refine aQ (i:=9) (kp w11.heap.size 0 g0.v g0.ts) (kp.ext) ?_ ?_
  ·intro ρ1 w1 hj hR;exact let ⟨g,u,e,o,q,h⟩:=hR.2.1;db rfl (tH (cs:=[_,_]) aM.out ml.out (aN (show ρ1 19=Value.int _ _ from hR.1) (aN e bZ)) rfl) ⟨Below.refl _ _,g,u,by rw [show g.v=g0.v from o.v],o,q,h⟩
  refine aQ (i:=10) (dm _ 24 _) dm.ext (fun ρ1 w1 hj hR=>jz aM.out hj.bl (fun v w2 h hb=>⟨hb,h⟩)) ?_;refine aO ?_;intro f W hJ hV;have hb_4:=hJ.bl;obtain ⟨v5,v25,v24,v23,v22,v21,v20,v19,v18,v17,v16,_⟩:=hV;obtain ⟨g24,u24,e24, -⟩:=v24;obtain ⟨g25,u25,e25,o25,q25,h25⟩:=v25;obtain ⟨b5,e5,hl5,hc5⟩:dm _ _ _ (f 10) W:=v5;replace hh:=hJ.rB hh hl5 hc5 q25 h25 (PX.ne h25 hc5 Xk);refine aW (bm (ae e5 (ae e25 (ae e24 (ae v23 (ae v22 (ae v21 (ae v20 (ae v19 (ae v18 (ae v17 (ae v16 aV)))))))))))) ?_;dsimp only [cd];clear e24 e25 e5 hJ;simp only [Xw,Xu] at hh;obtain ⟨gv,gA,gn,gc,gts⟩:=g25;obtain rfl:g0.v=gv:=o25.v.symm;obtain rfl:g0.ts=gts:=o25.ts.symm;replace hh:=show Hp w (_::.row gA gn gc 80 4 (ay TR.cells g0.ts)::_) W from hh;have hgn:g0.ts.length=gn:=(hh.aC (i:=1) rfl).bp TR.len Xk;have hgc:gn≤gc:=hh.eJ (i:=1) rfl;refine bR hh 0 [_,_] ?_;intro ws hh;replace hh:Hp _ (.blk _ _ [_,_] _::_) _:=hh;refine aa (ah (sr (mL ?_)));refine aP rfl rfl Xk (gL bh.out aM.size rfl rfl (l:=1) rfl Xj Xj) ?_;refine aH (mI (aa (ao ?_)));replace hh:=hh.perm (XX (l₁:=[_]))
  simp only [Xw,Xu] at hh;refine aR [3,7,8,9,29,30,31,32,33,34,35,36,37,38,39,40,41,42,43,44] 29
   (fun v w'=>∃(i:Nat) (g:PX),i≤n-1∧v=.int .i64 i∧((pt.take i).foldl jx (g0.ts,0)).2=0∧g.v=g0.v∧g.ts=((pt.take i).foldl jx (g0.ts,0)).1∧g.k8 (k+i*s)∧Hp w [.row g.A g.n g.c 80 4 (ay TR.cells g.ts),.blk b5 24 [.int .i64 g.v,.slice g.A g.n g.c] (0,0),.blk b2 24 [.int .i64 0,.slice none 0 0] (0,0)] w')
   (fun v _=>n-1-(intOf v).toNat) ?_ ?_
  ·exact ⟨0,⟨g0.v,gA,gn,gc,g0.ts⟩,Xs _,rfl,rfl,rfl,rfl,⟨by show gn≤1000000;have:=hg0.n;have h9:=(hf g0 hm0).ln;omega,hgc,hg0.ok.mono (by rw [Z0];omega),hg0.sz⟩,hh⟩
  ·clear hh;rintro ρ' v w' ⟨i,g,hi,rfl,hz,hgv,hts,hgl,hh⟩;by_cases hlt:i<n-1
   ·obtain ⟨f,hx⟩:=ak (l:=pt) (k:=i) Xj;have hmem:f∈g0::pt:=XD _ (Xt hx);have his:i*s≤(n-2)*s:=Yr _ Xj;have his1:=Yw i s;have hbk:Sl w (if c=1 then some ad else (some ad:Option Addr).map (·.add (1*2))) (n-1) 2 (ay PX.cells pt):=hL.back Xj hcn;obtain ⟨ab,hAb,sb⟩:=hbk.at_ Xj;have si:Value.slice (if c=1 then some ad else (some ad:Option Addr).map (·.add (1*2))) (n-1) (c-1)=.slice (some ab) (n-1) (c-1):=by rw [hAb]
    have hfl:=hl f hmem;have hnx:=IE (a:=(g0.ts,0)) hx hz;have hsp:=HA (a:=(g0.ts,0)) hx hz;rw [←hts] at hnx hsp;refine sr ?_;refine dT ?_;refine cE (k:=i) bh.out aM.size si rfl Xj Xj Xk ?_;refine cq (vs:=[_,_]) aM.out rfl (show Rd _ _ [.int .i64 f.v,.slice f.A f.n f.c] from (sb.ext hh.below).recAt PX.len hx) rfl Xk ?_;refine bP hh ?_;intro b7 w7 hh;refine bR hh 0 [_,_] ?_;intro ws hh;replace hh:Hp _ (.blk _ _ [_,_] _::_) _:=hh;refine aa (sr ?_);refine cg hh 2 [_,_] ?_;refine cg hh 0 [_,_] ?_;refine aF (yW g f (k+i*s) k _ (hT.hp hh) (hh.aC (i:=1) rfl) ((hf f hmem).ext hh.below) hgl hfl Xj) ar.out rfl Xk ?_;rintro e_ w36 ⟨h,oh,rfl,h3⟩;refine ⟨_,rfl, ?_⟩;replace hh:=hh.join h3;simp only [Xw,Xu] at hh;by_cases he:fm g.ts f.ts=0
    ·obtain ⟨hv,hA,hn2,hc2,hts2⟩:=h;rw [he] at oh;obtain rfl:g.v=hv:=oh.v.symm;obtain rfl:aG (cA g.ts f.ts)=hts2:=oh.ts.symm;replace hh:=show Hp w (.row hA hn2 hc2 80 4 (ay TR.cells (aG (cA g.ts f.ts)))::_) w36 from hh;have hhn:(aG (cA g.ts f.ts)).length=hn2:=(hh.aC (i:=0) rfl).bp TR.len Xk;have hhc:hn2≤hc2:=hh.eJ (i:=0) rfl;have h4:=(kJ he).2.2;have htl:=ET hgl.ok hfl.ok hfl.sz he Xj;refine mT ?_;refine dn ?_;refine dn ?_;refine bP hh ?_;intro b8 w8 hh;refine bR hh 0 [_,_] ?_;intro ws hh;replace hh:Hp _ (.blk _ _ [_,_] _::_) _:=hh;refine aI (aa (ah (sr (mI ?_))));refine cJ (aa (cF (aq (ai (al ?_)))));refine cg hh 0 [_,_] ?_;refine bR hh 4 [_,_] ?_;intro ws hh;replace hh:Hp _ (_::_::_::_::.blk _ _ [_,_] _::_) _:=hh;refine fp ?_;refine bk (mI (aA (ai ?_)));replace hh:=hh.sub (Xv _ (Xq _ (Xv _ (Xv _ (Xq _ (Xq _ XU))))))
     refine ⟨⟨i+1,⟨g.v,hA,hn2,hc2,aG (cA g.ts f.ts)⟩,Xj,rfl,by rw [hnx];exact he,hgv,by rw [hnx],⟨by show hn2≤1000000;omega,hhc,htl.1.mono (by rw [Yw];omega),htl.2⟩,hh⟩,by show n-1-(i+1)<n-1-i;omega, ?_⟩;exact dV
    ·rw [hsp he];refine mT ?_;refine dn ?_;refine dn ?_;refine bP hh ?_;intro b8 w8 hh;refine bR hh 0 [_,_] ?_;intro ws hh;replace hh:Hp _ (.blk _ _ [_,_] _::_) _:=hh;refine aI (aa (ah (sr (mI ?_))));refine cJ (aa (cT (sr ?_)));refine fP [_,_] (mI ?_);refine bR hh 5 [_,_] ?_;intro ws hh;replace hh:Hp _ (_::_::_::_::_::.blk _ _ [_,_] _::_) _:=hh;refine aI (aa (aw (aK (cf (aK (aK (cf (aK ?_))))))));refine Pt (eC rfl (eF (vs:=[_,_]) aM.out (hh.bY (i:=5) (n:=2) rfl rfl) rfl) (ju (kf rfl) fJ)) ?_;exact Lb
   ·obtain rfl:i=n-1:=Xj;rw [Xz Xj] at hz hts;refine sr ?_;refine ll ?_;refine cg hh 1 [_,_] ?_;refine bR hh 2 [_,_] ?_;intro ws hh;replace hh:Hp _ (_::_::.blk _ _ [_,_] _::_) _:=hh;refine aI (aa (aw ?_));refine qH ?_;rw [hz];exact ⟨g,⟨hgv,hts⟩,rfl,hh.sub (Xq _ (YE _))⟩
 ·rw [Xp h0];generalize fR ps=e at*;refine aj (N:=46) (l:=[.slice L n c]) Tryz.func178 rfl rfl (by simp) ?_;refine sr ?_;refine bP hh ?_;intro b2 w2 hh;refine aI (aa (ah (sr (mL ?_))));refine bA hh (hlk _ (hT.hp hh) hh.below) rfl ?_;intro w11 hh;exact Nb
theorem wG (A B:Option Addr) (n m c c':Nat) (xs ys:List Int) (w:World) (hx:Sl w A n 1 (bu xs)) (hy:Sl w B m 1 (bu ys)) (hn:n≤100000) (hm:m≤100000):
  Calls Tryz.prog 77 #[.slice A n c,.slice B m c'] w fun e w'=>e=.returned (.bool (decide (xs=ys)))∧Below w.heap.size w w':=by
 have hxl:xs.length=n:=by have:=hx.1;rw [bX] at this;omega
 have hyl:ys.length=m:=by have:=hy.1;rw [bX] at this;omega
 have hh:=Hp.start w;by_cases hnm:n=m
 ·subst hnm;refine aj (N:=26) (l:=[.slice A n c,.slice B n c']) Tryz.func77 rfl rfl (by simp) ?_;refine B5 ?_;refine IZ ?_;refine aR [4,5,11,12,13,14,15,16,17,18,19,20,21,22,23,24,25] 5
   (fun i w'=>∃k:Nat,k≤n∧i=.int .i64 k∧xs.take k=ys.take k∧Hp w [] w')
   (fun i _=>n-(intOf i).toNat) ?_ ?_
  ·exact ⟨0,Xs _,rfl,rfl,hh⟩
  ·clear hh;rintro ρ' i w' ⟨k,hk,rfl,he,hh⟩;replace hx:=hx.ext hh.below;replace hy:=hy.ext hh.below;by_cases hlt:k<n
   ·obtain ⟨x,hxk⟩:=ak (l:=xs) (k:=k) Xj;obtain ⟨y,hyk⟩:=ak (l:=ys) (k:=k) Xj;obtain ⟨ad,rfl,hr⟩:=hx.at_ Xj;obtain ⟨bd,rfl,hs⟩:=hy.at_ Xj;by_cases hxy:x=y
    ·subst hxy;refine ah (sr (mI (mL (aH ?_))));refine yh ?_;refine AZ ?_;refine fS ?_;refine dJ ?_;refine PU ?_;refine qS (fun _ hj=>fk (hr.ext hj.bl) (ck hxk) rfl) ?_;refine fS ?_;refine dJ ?_;refine QC ?_;refine qS (fun _ hj=>fk (hs.ext hj.bl) (ck hyk) rfl) ?_;refine aO ?_;intro f W hJ hV;have hb_6:=hJ.bl;obtain ⟨v24,v23,v22,v21,v20,v19,v18,v17,_⟩:=hV;replace hh:=hJ.hp;refine Bi ?_;dsimp only [cd];clear hJ;refine cJ (aa (cF (aq (bz (ai (al (mI ?_)))))));refine bk (aI (aA (ai ?_)));refine ⟨⟨k+1,Xj,rfl,by rw [az hxk,az hyk,he],hh⟩,by show n-(k+1)<n-k;omega, ?_⟩;exact dV
    ·refine ah (sr (mI (mL (aH ?_))));refine yh ?_;refine AZ ?_;refine fS ?_;refine dJ ?_;refine PU ?_;refine qS (fun _ hj=>fk (hr.ext hj.bl) (ck hxk) rfl) ?_;refine fS ?_;refine dJ ?_;refine QC ?_;refine qS (fun _ hj=>fk (hs.ext hj.bl) (ck hyk) rfl) ?_;refine aO ?_;intro f W hJ hV;have hb_6:=hJ.bl;obtain ⟨v24,v23,v22,v21,v20,v19,v18,v17,_⟩:=hV;replace hh:=hJ.hp;refine Bi ?_;dsimp only [cd];clear hJ;refine cJ (aa (cT (sr (aB (aa (aw (cf (aK (aK (cf (aK ?_)))))))))));refine df ?_;have:¬xs=ys:=fun h=>hxy (by rw [h,hyk] at hxk;exact (Yd hxk).symm);simp only [this,decide_false];exact ⟨trivial,hh.below⟩
   ·refine ah (sr (mI (mL (aH ?_))));refine CB ?_;refine df ?_;rw [Xz Xj,Xz Xj] at he;simp only [he,decide_true];exact ⟨trivial,hh.below⟩
 ·refine aj (N:=26) (l:=[.slice A n c,.slice B m c']) Tryz.func77 rfl rfl (by simp) ?_;refine B5 ?_;refine cJ (aa (cT (sr (aB (aa (aw (aK ?_)))))));refine df ?_;have:¬xs=ys:=fun h=>hnm (by rw [←hxl,←hyl,h]);simp only [this,decide_false];exact ⟨trivial,hh.below⟩
def er (v:Int):ByteArray:=⟨(List.replicate v.toNat 0).toArray⟩
theorem pz {v:Int} (h:0≤v):((er v).size:Int)=v:=by
 have:(er v).size=v.toNat:=by unfold er;show (List.replicate v.toNat (0:UInt8)).toArray.size=_;rw [ZL,YP]
 omega
theorem wN (v:Int):eK (er v).data.toList=true:=by
 unfold eK er;rw [XI];intro c hc;have:(⟨(List.replicate v.toNat (0:UInt8)).toArray⟩:ByteArray).data.toList=List.replicate v.toNat 0:=rfl;rw [this] at hc;rw [(List.mem_replicate.1 hc).2];decide
theorem Lu (h:l.length≤4096):gD l=0:=by
 unfold gD;have:=cz l;rw [Xp Xj]
theorem An {v:Int}{t:TR} (hf:jd v=true) (h:fa v t=true):qB v [t]=0:=by
 unfold qB;rw [Xp (by rw [hf];simp [h]),Xp (by simp),Lu (by simp)]
def Ap (v:Int):Int:=if jd v=false then 1 else 0
theorem jQ (v:Int) (c:NR) (k:Nat) (w:World) (hT:dN w) (hc:c.ok∧Sz k c.d) (hk:k≤2999980):
  Calls Tryz.prog 84 #[.int .i64 v,.agg #[.bool c.neg,.string c.bg,.int .i64 c.e]] w fun r w'=>∃g:PX,fF (Ap v) v (aG [⟨er v,c⟩]) g∧r=.returned (.tuple #[.agg #[.int .i64 g.v,.slice g.A g.n g.c],.int .i64 (Ap v)])∧Hp w [g.row] w':=by
 have hh:=Hp.start w;have hfw:=fun w1=>nN v w1
 cases hf:jd v with
 |false=>
  rw [hf] at hfw;rw [show Ap v=1 by unfold Ap;rw [Xo hf]];refine aj (N:=20) (l:=[.int .i64 v,.agg #[.bool c.neg,.string c.bg,.int .i64 c.e]]) Tryz.func84 rfl rfl (by simp) ?_;refine sr ?_;refine cv hh [_,_,_] ?_;intro b3 w3 hh;refine bP hh ?_;intro b4 w4 hh;refine aI (aa (ah (sr (mI ?_))));refine bA hh (hfw _) rfl ?_;intro w7 hh;refine fi ?_;refine aa (cT (sr ?_));exact Pd
 |true=>
  rw [hf] at hfw;obtain ⟨h0,h12⟩:=gK.1 hf;have hm:qB v [⟨er v,c⟩]=0:=An hf (by unfold fa;rw [wN,XH (pz h0)];rfl);have hmk:=fun A cc w1 hT1 hS1=>mX v A 1 cc [⟨er v,c⟩] k w1 hT1 hS1 Xk Xj (fun t ht=>by rw [XO.1 ht];exact hc) (fun t ht=>by rw [XO.1 ht];have:=pz h0;show (er v).size≤_;omega);rw [hm] at hmk;rw [show Ap v=0 by unfold Ap;rw [Xp (by rw [hf];decide)]];refine aj (N:=20) (l:=[.int .i64 v,.agg #[.bool c.neg,.string c.bg,.int .i64 c.e]]) Tryz.func84 rfl rfl (by simp) ?_;refine sr ?_;refine cv hh [_,_,_] ?_;intro b3 w3 hh;refine bP hh ?_;intro b4 w4 hh;refine aI (aa (ah (sr (mI ?_))));refine bA hh (hfw _) rfl ?_;intro w7 hh;refine fi ?_;refine aa (cF (aq (ai (ah ?_))));refine qW [] [0,0,2,6,0,30,62,127,255,255,1023,2047] 7 [[(0,none)],[(0,none)],[(11,some 1)],[(12,some 2)],[(3,none)],[(13,some 3),(14,some 4)],[(15,some 5)]] [(6,16),(5,15),(4,14),(3,13),(2,12),(1,11),(0,10)] [([],4,[(6,16),(5,15),(4,14),(3,13),(2,12),(1,11),(0,10)])] hh mixed Xl Xl Xk ?_;refine dJ ?_;refine dJ ?_
  refine aQ (i:=2) (iW v.toNat 1 (nV (List.replicate v.toNat 0))) (iW.ext) ?_ ?_
  ·intro ρ1 w1 hj hR;exact vH v.toNat ▸ N0 (n:=v.toNat) (show ρ1 11=Value.int _ _ from hR.1) (show ρ1 11=Value.int _ _ from hR.1) Xj Xj bh.out aM.out rfl Xj Xj (fun _ _ h1 h2=>⟨h2,h1⟩)
  refine aQ (i:=3) (Is (.string (er v))) (Is.ext) ?_ ?_
  ·intro ρ1 w1 hj hR;obtain ⟨g12,e12,o12⟩:=hR.1;exact let ⟨g,e,o⟩:=hR.1;db rfl (kR (l:=List.replicate v.toNat 0) bh.out bh.out bh.out e o) ⟨Below.refl _ _,rfl⟩
  refine fG 1 [_,_,_] ?_;refine dB [_,_,_,_] ?_;refine rD [_,_,_,_] ?_;refine aO ?_;intro p_ hp_;simp only [XL,List.not_mem_nil,or_false] at hp_
  rcases hp_ with rfl
  intro f W hJ hV;have hb_3:=hJ.bl;obtain ⟨v16,v15,v14,v13,v12,v11,v10,_⟩:=hV;simp only [jT];have e10:f 0=_:=v10;rw [e10];have e11:f 1=_:=v11;rw [e11];obtain ⟨g12,e12,o12⟩:iW v.toNat 1 (nV (List.replicate v.toNat 0)) (f 2) W:=v12;rw [e12];have e13:f 3=_:=v13;rw [e13];have e14:f 4=_:=v14;rw [e14];have e15:f 5=_:=v15;rw [e15];obtain ⟨A16,c16,e16,f16⟩:Rows _ _ _ (f 6) W:=v16;rw [e16];replace hh:=hJ.hp;clear e10 e11 e12 e13 e14 e15 e16 hJ;refine aF (hmk _ _ _ (hT.hp hh) f16) ar.out rfl Xk ?_;rintro e_ w17 ⟨g,og,rfl,h3⟩;refine ⟨_,rfl, ?_⟩;replace hh:=hh.join h3;refine ff ?_;simp only [Xw,Xu] at hh;refine di (i:=8) (by repeat (first|exact cu|refine bQ ?_|refine ct ?_|refine np_scope ?_)) rfl Xl Xl Xl (fun _=>fB (show _=Value.tuple (List.toArray _) from rfl) rfl) Xk ?_;refine di (i:=9) (by repeat (first|exact cu|refine bQ ?_|refine ct ?_|refine np_scope ?_)) rfl Xl Xl Xl (fun _=>fB (show _=Value.tuple (List.toArray _) from rfl) rfl) Xk ?_;refine jH 10 Xk Xl Xk Xl Xl ?_;exact E8
def k5 (v:Int) (x:Nat):ByteArray:=⟨((List.replicate v.toNat (0:UInt8)).set x 1).toArray⟩
theorem qU {v:Int}{x:Nat} (h:0≤v):((k5 v x).size:Int)=v:=by
 have:(k5 v x).size=v.toNat:=by unfold k5;show ((List.replicate v.toNat (0:UInt8)).set x 1).toArray.size=_;rw [ZL,ZG,YP]
 omega
theorem Be (v:Int) (x:Nat):eK (k5 v x).data.toList=true:=by
 unfold eK;rw [XI];intro c hc;have:(k5 v x).data.toList=(List.replicate v.toNat 0).set x 1:=rfl;rw [this] at hc
 rcases aaC hc with h|rfl
 ·rw [(List.mem_replicate.1 h).2];decide
 ·decide
theorem Il {l:List UInt8}{i:Nat}{c:UInt8} (h:i<l.length):cm (nV l) (i*1) [.int .u8 c.toNat]=nV (l.set i c):=by
 unfold cm nV;rw [XK,aaK,Xo h,Yc,XQ,Zx,Zr,Ya]
 rfl
def vN (v x:Int):Int:=if jd v=false∨x<0∨v≤x then 1 else 0
theorem vE (v x:Int) (w:World) (hT:dN w):
  Calls Tryz.prog 83 #[.int .i64 v,.int .i64 x] w fun r w'=>∃g:PX,fF (vN v x) v (aG [⟨k5 v x.toNat,nR ((1:Int):Dyadic)⟩]) g∧r=.returned (.tuple #[.agg #[.int .i64 g.v,.slice g.A g.n g.c],.int .i64 (vN v x)])∧Hp w [g.row] w':=by
 have hh:=Hp.start w;have hfw:=fun w1=>nN v w1
 cases hf:jd v with
 |false=>
  rw [hf] at hfw;rw [show vN v x=1 by unfold vN;rw [Xo (.inl hf)]];refine Fy ?_;refine sr ?_;refine bP hh ?_;intro b4 w4 hh;refine aI (aa (ah (sr (mI ?_))));refine bA hh (hfw _) rfl ?_;intro w8 hh;refine fi ?_;refine mB ?_;refine gS (gS ?_);refine eR ?_;refine mB ?_;refine gS (gS (gS ?_));refine eR ?_;refine aa (cT (sr ?_));exact Pd
 |true=>
  rw [hf] at hfw;obtain ⟨h0,h12⟩:=gK.1 hf;by_cases hx0:x<0
  ·rw [show vN v x=1 by unfold vN;rw [Xo (.inr (.inl hx0))]];refine Fy ?_;refine sr ?_;refine bP hh ?_;intro b4 w4 hh;refine aI (aa (ah (sr (mI ?_))));refine bA hh (hfw _) rfl ?_;intro w8 hh;refine fi ?_;refine mB (gT (mI (gT ?_)));refine bf ?_;refine ez ?_;refine mB ?_;refine gS (gS (gS ?_));refine eR ?_;refine aa (cT (sr ?_));exact Pd
  ·by_cases hx1:v≤x
   ·rw [show vN v x=1 by unfold vN;rw [Xo (.inr (.inr hx1))]];refine Fy ?_;refine sr ?_;refine bP hh ?_;intro b4 w4 hh;refine aI (aa (ah (sr (mI ?_))));refine bA hh (hfw _) rfl ?_;intro w8 hh;refine fi ?_;refine mB (gT (mI (gT ?_)));refine bf ?_;refine ez ?_;refine mB (gT (mI (gT (mI (gT ?_)))));refine dL ?_;refine ez ?_;refine aa (cT (sr ?_));exact Pd
   ·rw [show vN v x=0 by unfold vN;rw [Xp (by rintro (h|h|h);exact absurd (hf.symm.trans h) Xk;omega;omega)]];have hm:qB v [⟨k5 v x.toNat,nR ((1:Int):Dyadic)⟩]=0:=An hf (by unfold fa;rw [Be,XH (qU h0)];rfl);have z1:Sz 24 ((1:Int):Dyadic):=NZ (m:=1) (e:=0) Xk Xk Xk;have hmk:=fun A cc w1 hT1 hS1=>mX v A 1 cc [⟨k5 v x.toNat,nR ((1:Int):Dyadic)⟩] 24 w1 hT1 hS1 Xk Xj (fun t ht=>by rw [XO.1 ht];exact ⟨z1.ok Xk,by show Sz 24 (nR _).d;rw [bI];exact z1⟩) (fun t ht=>by rw [XO.1 ht];have:=qU (x:=x.toNat) h0;show (k5 v x.toNat).size≤_;omega);rw [hm] at hmk;refine Fy ?_;refine sr ?_;refine bP hh ?_;intro b4 w4 hh;refine aI (aa (ah (sr (mI ?_))));refine bA hh (hfw _) rfl ?_;intro w8 hh;refine fi ?_;refine mB (gT (mI (gT ?_)));refine bf ?_;refine ez ?_;refine mB (gT (mI (gT (mI (gT ?_)))));refine dL ?_;refine ez ?_;refine aa (cF (aq (ai (sr (mI ?_)))));refine fO (n:=(v.toNat)) hh rfl rfl Xj Xj bh.out aM.out rfl Xj Xj Xk ?_;intro b21 w21 hh;refine aL (aa (sr (mL (mI ?_))));refine da (k:=(x.toNat)) bh.out aM.size rfl rfl Xj Xj Xk ?_;rw [vH] at hh
    have hll:(nV (List.replicate v.toNat 0)).length=v.toNat:=by simp [nV]
    refine K1 ?_;intro ws hh;simp only [XC] at hh;rw [show cm (nV (List.replicate v.toNat 0)) (x.toNat*1) [.int .u8 1]=nV ((List.replicate v.toNat 0).set x.toNat 1) from Il (l:=List.replicate v.toNat 0) (i:=x.toNat) (c:=1) (by rw [YP];omega)] at hh;refine aa (ah ?_);refine qW [] [0,0,2,0,14,30,63,127,127,511,1023] 6 [[(0,none)],[(6,none)],[(26,some 1)],[],[(27,some 2),(28,some 3)],[(29,some 4)]] [(5,30),(4,29),(3,28),(2,27),(1,26),(0,25)] [([],4,[(5,30),(4,29),(3,28),(2,27),(1,26),(0,25)])] hh mixed Xl Xl Xk ?_;refine dJ ?_;refine fS ?_;refine aQ (i:=2) (Is (.string ⟨(((List.replicate v.toNat 0).set x.toNat 1)).toArray⟩)) Is.ext ?_ ?_
    ·intro ρ1 w1 hj hR;exact db rfl (kR (l:=((List.replicate v.toNat 0).set x.toNat 1)) bh.out bh.out bh.out (show ρ1 26=Value.slice _ _ _ from hR.1) (hj.hp.aC (i:=0) rfl)) ⟨Below.refl _ _,rfl⟩
    refine dC (fun _ hj=>ja 1 _ (hT.hp hj.hp) Xk Xk) ?_;refine dB [_,_,_,_] ?_;refine rD [_,_,_,_] ?_;refine aO ?_;intro p_ hp_;simp only [XL,List.not_mem_nil,or_false] at hp_
    rcases hp_ with rfl
    intro f W hJ hV;have hb_5:=hJ.bl;obtain ⟨v30,v29,v28,v27,v26,v25,_⟩:=hV;simp only [jT];have e25:f 0=_:=v25;rw [e25];have e26:f 1=_:=v26;rw [e26];have e27:f 2=_:=v27;rw [e27];have e28:f 3=_:=v28;rw [e28];have e29:f 4=_:=v29;rw [e29];obtain ⟨A30,c30,e30,f30⟩:Rows _ _ _ (f 5) W:=v30;rw [e30];replace hh:=hJ.hp;clear e25 e26 e27 e28 e29 e30 hJ;refine aF (hmk _ _ _ (hT.hp hh) f30) ar.out rfl Xk ?_;rintro e_ w31 ⟨g,og,rfl,h3⟩;refine ⟨_,rfl, ?_⟩;replace hh:=hh.join h3;refine ff ?_;simp only [Xw,Xu] at hh;refine di (i:=7) (by repeat (first|exact cu|refine bQ ?_|refine ct ?_|refine np_scope ?_)) rfl Xl Xl Xl (fun _=>fB (show _=Value.tuple (List.toArray _) from rfl) rfl) Xk ?_;refine di (i:=8) (by repeat (first|exact cu|refine bQ ?_|refine ct ?_|refine np_scope ?_)) rfl Xl Xl Xl (fun _=>fB (show _=Value.tuple (List.toArray _) from rfl) rfl) Xk ?_;refine jH 9 Xk Xl Xk Xl Xl ?_;exact TL
def U8 (p:PX) (n:Nat):List TR×Int:=(List.replicate n p).foldl jx (aG [⟨er p.v,nR ((1:Int):Dyadic)⟩],0)
def VJ (p:PX) (n:Int):Int:=if p.e=0 then (if n<0∨127<n then 1 else (U8 p n.toNat).2) else p.e
def VZ (ps:List PX) (R:List HE) (g:PX):Prop:=(g∈ps∧R=[])∨R=[g.row]
variable {r:Bool}
theorem O1 (n:Nat) (m m':ByteArray) (s s':Bool) (a a':ByteArray) (e e':Int) (w:World):(Op.equalIn (n+4) 80 (.agg #[.string m,.bool s,.string a,.int .i64 e]) (.agg #[.string m',.bool s',.string a',.int .i64 e'])).run Tryz.prog w=.ok (m==m' && ((s==s' && a==a') && e==e')) w:=by
 have h1:=fun (u:ByteArray) (x:Bool) (y:ByteArray) (z:Int)=>Gv (P:=Tryz.prog) (cs:= #[.string u,.bool x,.string y,.int .i64 z]) (off:=0) (aM.out (P:=Tryz.prog) (t:=9)) rfl;have h2:=fun (u:ByteArray) (x:Bool) (y:ByteArray) (z:Int)=>Qf (P:=Tryz.prog) (cs:= #[.string u,.bool x,.string y,.int .i64 z]) (vs:= #[.bool x,.string y,.int .i64 z]) (off:=1) (aM.out (P:=Tryz.prog) (t:=40)) rfl;rw [Op.equalIn];simp [run_underlying Tryz.underlying80,h1,h2,Ul,IX]
 cases h:m==m'<;>cases h':((s==s' && a==a') && e==e')<;>simp_all
theorem Ce {x y:TR}:(x.m==y.m && ((x.c.neg==y.c.neg && x.c.bg==y.c.bg) && x.c.e==y.c.e))=true↔x=y:=by
 obtain ⟨m,s,a,e⟩:=x;obtain ⟨m',s',a',e'⟩:=y;rw [XF,nU,KN,TR.mk.injEq]
section
variable {ρ:Rf}{w:World}{d:Option Nat}{ty u:TypeId}{pos:String}{af:Array Edge}{g:Option (Nat×Bool)}{x y:Operand}{s t:TR}
theorem Q3 (hx:ev ρ x=.agg s.cells.toArray) (hy:ev ρ y=.agg t.cells.toArray) (hr:(s.m==t.m && ((s.c.neg==t.c.neg && s.c.bg==t.c.bg) && s.c.e==t.c.e))=r):
  (execOp (ev ρ) ⟨d,.binOp .neq 80 x y u,ty,pos,af,g⟩).run Tryz.prog w=.ok (.value (.bool !r)) w:=by
 have h1:(Op.equal 80 (.agg s.cells.toArray) (.agg t.cells.toArray)).run Tryz.prog w=.ok r w:=by rw [←hr];exact O1 9996 s.m t.m s.c.neg t.c.neg s.c.bg t.c.bg s.c.e t.c.e w
 simp only [execOp,hx,hy];simp [eqGuard,binOp,h1]
theorem M1 (hx:ev ρ x=.agg s.cells.toArray) (hy:ev ρ y=.agg t.cells.toArray) (h:s=t):
  (execOp (ev ρ) ⟨d,.binOp .neq 80 x y u,ty,pos,af,g⟩).run Tryz.prog w=.ok (.value (.bool false)) w:=Q3 hx hy (Ce.2 h)
theorem N2 (hx:ev ρ x=.agg s.cells.toArray) (hy:ev ρ y=.agg t.cells.toArray) (h:¬s=t):
  (execOp (ev ρ) ⟨d,.binOp .neq 80 x y u,ty,pos,af,g⟩).run Tryz.prog w=.ok (.value (.bool true)) w:=Q3 hx hy (r:=false) (Z4.2 fun h1=>h (Ce.1 h1))
end
theorem M8 {a b:List α}{i:Nat} (ha:a.length≤i) (hb:b.length≤i) (h:a.take i=b.take i):a=b:=by
 rwa [Xz ha,Xz hb] at h
theorem yX (A:Option Addr) (n c:Nat) (a:List TR) (B:Option Addr) (m d:Nat) (b:List TR) (w:World) (hS:Sl w A n 4 (ay TR.cells a)) (hS2:Sl w B m 4 (ay TR.cells b)) (hn:n≤1000000) (hm:m≤1000000):
  Calls Tryz.prog 101 #[.slice A n c,.slice B m d] w fun r w'=>∃v,r=.returned (.bool v)∧(v=true↔a=b)∧Below w.heap.size w w':=by
 have hh:=Hp.start w;have hla:=hS.bp TR.len Xk;have hlb:=hS2.bp TR.len Xk;by_cases hnm:n=m
 ·subst hnm;refine aj (N:=26) (l:=[.slice A n c,.slice B n d]) Tryz.func101 rfl rfl (by simp) ?_;refine B5 ?_;refine IZ ?_;refine aR [4,5,11,12,13,14,15,16,17,18,19,20,21,22,23,24,25] 5
   (fun v w'=>∃i:Nat,i≤n∧v=.int .i64 i∧a.take i=b.take i∧Hp w [] w')
   (fun v _=>n-(intOf v).toNat) ?_ ?_
  ·exact ⟨0,Xs _,rfl,rfl,hh⟩
  ·clear hh;rintro ρ' v w' ⟨i,hi,rfl,he,hh⟩;by_cases hlt:i<n
   ·obtain ⟨s,hs⟩:=ak (l:=a) (k:=i) Xj;obtain ⟨t,ht⟩:=ak (l:=b) (k:=i) Xj;obtain ⟨ad,rfl,hr⟩:=hS.at_ Xj;obtain ⟨ad2,rfl,hr2⟩:=hS2.at_ Xj;by_cases hst:s=t
    ·refine ah (sr (mI (mL (aH ?_))));refine yh ?_;refine AZ ?_;refine fS ?_;refine dJ ?_;refine ow (i) ?_;refine so [_,_,_,_] (fun _ hj=>(hr.ext hj.hp.below).recAt TR.len hs) ?_;refine fS ?_;refine dJ ?_;refine ow (i) ?_;refine so [_,_,_,_] (fun _ hj=>(hr2.ext hj.hp.below).recAt TR.len ht) ?_;refine aO ?_;intro f W hJ hV;have hb_6:=hJ.bl;obtain ⟨v24,v23,v22,v21,v20,v19,v18,v17,_⟩:=hV;replace hh:=hJ.hp;refine Bi ?_;dsimp only [cd];clear hJ;refine aP rfl rfl Xk (M1 (s:=s) (t:=t) rfl rfl hst) ?_;skip;refine rQ ?_;refine bk (aI (aA (ai ?_)));refine ⟨⟨i+1,Xj,rfl,by rw [az hs,az ht,he,hst],hh⟩,by show n-(i+1)<n-i;omega, ?_⟩;exact dV
    ·refine ah (sr (mI (mL (aH ?_))));refine yh ?_;refine AZ ?_;refine fS ?_;refine dJ ?_;refine ow (i) ?_;refine so [_,_,_,_] (fun _ hj=>(hr.ext hj.hp.below).recAt TR.len hs) ?_;refine fS ?_;refine dJ ?_;refine ow (i) ?_;refine so [_,_,_,_] (fun _ hj=>(hr2.ext hj.hp.below).recAt TR.len ht) ?_;refine aO ?_;intro f W hJ hV;have hb_6:=hJ.bl;obtain ⟨v24,v23,v22,v21,v20,v19,v18,v17,_⟩:=hV;replace hh:=hJ.hp;refine Bi ?_;dsimp only [cd];clear hJ;refine aP rfl rfl Xk (N2 (s:=s) (t:=t) rfl rfl hst) ?_;skip;refine aa (cT (sr (aB (aa (aw (cf (aK (aK (cf (aK ?_))))))))));refine df ?_;refine ⟨_,rfl,⟨fun h=>(nomatch h),fun h=>absurd ?_ hst⟩,hh.below⟩;rw [h,ht] at hs;exact (Yd hs).symm
   ·refine ah (sr (mI (mL (aH ?_))));refine CB ?_;refine df ?_;exact ⟨_,rfl,⟨fun _=>M8 Xj Xj he,fun _=>rfl⟩,hh.below⟩
 ·refine aj (N:=26) (l:=[.slice A n c,.slice B m d]) Tryz.func101 rfl rfl (by simp) ?_;refine B5 ?_;refine cJ (aa (cT (sr (aB (aa (aw (aK ?_)))))));refine df ?_;exact ⟨_,rfl,⟨fun h=>(nomatch h),fun h=>absurd (by rw [←hla,←hlb,h]) hnm⟩,hh.below⟩
theorem Cr (p q:PX) (w:World) (hp:p.at_ w) (hq:q.at_ w) (hn:p.n≤1000000) (hm:q.n≤1000000):
  Calls Tryz.prog 32 #[.agg #[.int .i64 p.v,.slice p.A p.n p.c],.agg #[.int .i64 q.v,.slice q.A q.n q.c]] w fun r w'=>∃v,r=.returned (.bool v)∧(v=true↔p.v=q.v∧p.ts=q.ts)∧Below w.heap.size w w':=by
 have hh:=Hp.start w;have ht:=fun w1 hb=>yX p.A p.n p.c p.ts q.A q.n q.c q.ts w1 (hp.ext hb) (hq.ext hb) hn hm;by_cases hv:p.v=q.v
 ·refine P1 ?_;refine sr ?_;refine cv hh [_,_] ?_;intro b2 w2 hh;refine cv hh [_,_] ?_;intro b3 w3 hh;refine aB (aa (sr (bH ?_)));refine bE hh 1 ?_;refine bH ?_;refine bE hh 0 ?_;refine cR (mB (gT (bH (gT ?_))));refine bE hh 1 ?_;refine gT (bH (gT ?_));refine bE hh 0 ?_;refine aD rfl rfl ?_;refine aF (ht _ hh.below) ar.out rfl Xk ?_;rintro e_ w15 ⟨v_,rfl,hv_,hb_⟩;refine ⟨_,rfl, ?_⟩;replace hh:=hh.ext hb_;refine eR ?_;refine aB (aa (aw ?_));refine df ?_;exact ⟨v_,rfl,hv_.trans ⟨fun h=>⟨hv,h⟩,fun h=>h.2⟩,hh.below⟩
 ·refine P1 ?_;refine sr ?_;refine cv hh [_,_] ?_;intro b2 w2 hh;refine cv hh [_,_] ?_;intro b3 w3 hh;refine aB (aa (sr (bH ?_)));refine bE hh 1 ?_;refine bH ?_;refine bE hh 0 ?_;refine cR (mB ?_);refine gS (gS (gS (gS ?_)));refine gy ?_;refine ez ?_;refine aB (aa (aw ?_));refine df ?_;exact ⟨_,rfl,⟨fun h=>(nomatch h),fun h=>absurd h.1 hv⟩,hh.below⟩
def Wl (a:NR):Bool:=decide ((24:Int)<a.bg.size∨a.e< -300∨300<a.e)
structure Xg (ts:List TR):Prop where
 n:ts.length≤12
 ok:iT 492 ts
 sz:∀t∈ts,t.m.size≤50
def PX.norm (g:PX):PX:=⟨g.v,none,0,0,g.ts⟩
theorem xh (ps:List PX):fR (ps.map PX.norm)=fR ps:=by
 have h1:(ps.map PX.norm).find? (fun g=>decide (g.e≠0))=(ps.find? fun g=>decide (g.e≠0)).map PX.norm:=List.find?_map ..;have h2:zm (ps.map PX.norm)=zm ps:=by
  unfold zm;rw [List.any_map,Ym]
  rfl
 unfold fR;rw [h1,h2,XA]
 cases ps.find? (fun g=>decide (g.e≠0))<;>rfl
theorem uT (ps:List PX):fH (ps.map PX.norm)=fH ps:=by unfold fH;rw [Ym];rfl
structure Ai (ps os:List PX) (R:List HE):Prop where
 eq:∀(j:Nat) (g o:PX),ps[j]?=some g→os[j]?=some o→o.v=g.v∧o.ts=g.ts∧o.n=g.n
 my:∀o∈os,o.row∈R∧o.n≤o.c
theorem Ai.add {ps os:List PX}{R:List HE}{g o:PX} (h:Ai ps os R) (hx:ps[os.length]?=some g) (he:o.v=g.v∧o.ts=g.ts∧o.n=g.n) (hc:o.n≤o.c):Ai ps (os++[o]) (o.row::R):=by
 refine ⟨fun j g2 o2 h1 h2=> ?_,fun o2 h2=> ?_⟩
 ·by_cases hj:j<os.length
  ·rw [ZN hj] at h2;exact h.eq j g2 o2 h1 h2
  ·by_cases hj2:j=os.length
   ·subst hj2;rw [YD (Xr _),Yq] at h2;rw [hx] at h1
    cases h1;cases h2
    exact he
   ·rw [X1 (by rw [Xy];simp;omega)] at h2
    cases h2
 ·rcases X3.1 h2 with h2|h2
  ·exact ⟨XD _ (h.my o2 h2).1,(h.my o2 h2).2⟩
  ·rw [XO.1 h2];exact ⟨XB,hc⟩
theorem Ai.key {ps os:List PX}{R:List HE} (h:Ai ps os R) (hl:os.length=ps.length):os.map PX.norm=ps.map PX.norm:=by
 apply YG;intro j;rw [Xx,Xx];by_cases hj:j<os.length
 ·obtain ⟨o,ho⟩:=ak hj;obtain ⟨g,hg⟩:=ak (l:=ps) (k:=j) Xj;obtain ⟨e1,e2,_⟩:=h.eq j g o hg ho;rw [ho,hg];show some (PX.norm o)=some (PX.norm g);unfold PX.norm;rw [e1,e2]
 ·rw [X1 Xj,X1 Xj]
theorem FG {H:List HE}{g:PX} (hh:Hp w H w') (h:g.row∈H):g.at_ w':=jM (hh.own g.row h)
def G4 (p:PX) (c:Dyadic):Int:=if p.e=0 then gD (p.ts.map (oN c)) else p.e
theorem HU {X:List TR}{c:Dyadic}{i:Nat}{z:TR} (hz:l[i]?=some z) (hX:X=(l.take i).map (oN c)++l.drop i):X[i]?=some z∧X.set i ⟨z.m,nR (z.c.d*c)⟩=(l.take (i+1)).map (oN c)++l.drop (i+1):=by
 obtain ⟨h1,h2⟩:=XE.1 hz;have hl:((l.take i).map (oN c)).length=i:=by rw [XA,XP];omega
 refine ⟨?_, ?_⟩
 ·rw [hX,YD Xj,hl,Yq,Y4];exact hz
 ·rw [az hz,Yc,hX,ZA _ _ Xj,hl,Yq,Ya,gm hz]
  rfl
theorem FQ {c:Dyadic} (ho:iT k l) (hc:Sz j c) (hk:k+j≤1000000):iT (k+j) (l.map (oN c)):=fun t ht=>by
 obtain ⟨z,hz,rfl⟩:=XG.1 ht;have hs:=(ho z hz).2.mul hc;exact ⟨hs.ok Xj,by show Sz _ (nR _).d;rw [bI];exact hs⟩
theorem yM (p:PX) (c:NR) (k:Nat) (w:World) (hT:dN w) (hp:p.at_ w) (lp:p.k8 k) (hc:c.ok∧Sz k c.d) (hk:k≤400000):
  Calls Tryz.prog 104 #[.agg #[.int .i64 p.v,.slice p.A p.n p.c],.agg #[.bool c.neg,.string c.bg,.int .i64 c.e]] w fun r w'=>∃g:PX,fF (G4 p c.d) p.v (aG (p.ts.map (oN c.d))) g∧r=.returned (.tuple #[.agg #[.int .i64 g.v,.slice g.A g.n g.c],.int .i64 (G4 p c.d)])∧Hp w [g.row] w':=by
 have hh:=Hp.start w;have hck:=fun w1 hT1 hb=>lO p k w1 hT1 (hp.ext hb) lp;unfold G4;by_cases h0:p.e=0
 ·rw [Xo h0];rw [h0] at hck;obtain ⟨_,h4,_,_⟩:=cK h0;have hpl:p.ts.length=p.n:=hp.ln;refine Pn ?_;refine sr ?_;refine cv hh [_,_] ?_;intro b2 w2 hh;refine cv hh [_,_,_] ?_;intro b3 w3 hh;refine bP hh ?_;intro b4 w4 hh;refine aI (aa (ah (sr ?_)));refine cg hh 2 [_,_] ?_;refine eu ?_;intro w10 hh;refine aI (aa (sr (mI ?_)));refine cJ (aa (cF (aq (ai (sr (bH ?_))))));refine bE hh 2 ?_;refine aF (l6 p.A p.n p.c p.ts _ (hp.ext hh.below) lp.n) ar.out rfl Xk ?_;rintro e_ w17 ⟨A17,c17,rfl,hown_,hb_⟩;refine ⟨_,rfl, ?_⟩;replace hh:=hh.aX (x:=.row _ _ _ _ _ _) hb_ hown_;refine rZ ?_;refine aR [8,20,21,22,23,24,25,26,27,28,29,30,31,32,33,34,35] 20
   (fun v w'=>∃(i:Nat) (X:List TR),i≤p.n∧v=.int .i64 i∧X=(p.ts.take i).map (oN c.d)++p.ts.drop i∧Hp w [.row A17 p.n c17 80 4 (ay TR.cells X),.blk b4 24 [.int .i64 0,.slice none 0 0] (0,0),.blk b3 40 [.bool c.neg,.string c.bg,.int .i64 c.e] (0,0),.blk b2 24 [.int .i64 p.v,.slice p.A p.n p.c] (0,0)] w')
   (fun v _=>p.n-(intOf v).toNat) ?_ ?_
  ·exact ⟨0,p.ts,Xs _,rfl,rfl,hh⟩
  ·clear hh;rintro ρ' v w' ⟨i,X,hi,rfl,hX,hh⟩;have hXl:X.length=p.n:=by rw [hX,Xy,XA,XP,Yz];omega
   by_cases hlt:i<p.n
   ·obtain ⟨z,hz⟩:=ak (l:=p.ts) (k:=i) Xj;obtain ⟨hXz,hXn⟩:=HU hz hX;have hzo:=lp.ok z (Xt hz);have hdm:=fun A cc w1 hT1 hS1=>dW A 2 cc [z.c,c] w1 hT1 hS1 (by simpa using ⟨hzo.1,hc.1⟩) k (by simpa using ⟨hzo.2,hc.2⟩) Xj Xk;rw [show fU ([z.c,c].map NR.d)=z.c.d*c.d by show 1*z.c.d*c.d=_;rw [Zi]] at hdm;have hrl:=dY TR.len X;obtain ⟨g0,rfl⟩:=hh.cn (i:=0) rfl Xj;refine sr ?_;refine bf (aa (ah (cT (aq (ai (ah (ao (sr (mI (aI (aa ?_)))))))))));refine a0 10 [[(7,none)],[(8,none)],[(7,none)],[(8,none)],[(25,some 2),(26,some 3)],[(27,some 4)],[(28,some 5)],[(3,none)],[(29,some 6),(30,some 7)],[(31,some 8)]] [(9,32),(8,31),(7,30),(6,29),(5,28),(4,27),(3,26),(2,25),(1,24),(0,23)] hh mixed Xl ?_;refine fS ?_;refine dJ ?_;refine fS ?_;refine dJ ?_;refine LC (i) ?_;refine ej ?_;refine so [_,_,_] (fun _ hj=>(hj.hp.fV (f:=TR.cells) (x:=z) (l:=X) (i:=0) rfl TR.len Xk hXz).drop 1) ?_;refine fG 2 [_,_,_] ?_;refine rD [_,_,_,_,_,_] ?_;refine aQ (i:=9) (Is (.agg #[.bool (nR (z.c.d*c.d)).neg,.string (nR (z.c.d*c.d)).bg,.int .i64 (nR (z.c.d*c.d)).e])) Is.ext ?_ ?_
    ·intro ρ1 w1 hj hR;obtain ⟨A31,c31,h31,s31⟩:=hR.1;exact aY rfl (aJ ar.out (av h31 aU)) (hdm A31 c31 _ (hT.hp hj.hp) s31) (fun _ _ hq=>⟨_,hq.1,hq.2,rfl⟩)
    refine aO ?_;intro f W hJ hV;have hb_8:=hJ.bl;obtain ⟨v32,v31,v30,v29,v28,v27,v26,v25,v24,v23,_⟩:=hV;obtain ⟨A31,c31,e31,f31⟩:Rows _ _ _ (f 8) W:=v31;replace hh:=hJ.hp;refine aW (bm (ae v32 (ae e31 (ae v30 (ae v29 (ae v28 (ae v27 (ae v26 (ae v25 (ae v24 (ae v23 aV))))))))))) ?_;dsimp only [cd];clear e31 hJ;refine fT ?_;refine bH ?_;refine K3 ?_;intro ws hh;simp only [XC] at hh;rw [xf hXz,hXn] at hh;refine fp ?_;refine bk (mI (aA (ai ?_)));replace hh:=hh.sub (Xq _ (Xq _ (Xq _ (Xq _ XU))));refine ⟨⟨i+1,_,Xj,rfl,rfl,hh⟩,by show p.n-(i+1)<p.n-i;omega, ?_⟩;exact dV
   ·obtain rfl:i=p.n:=Xj;rw [Xz Xj,Zj Xj,XZ] at hX;have hso:=FQ lp.ok hc.2 Xj;rw [←hX] at hso ⊢;refine sr ?_;refine Ks ?_;refine bE hh 3 ?_;refine mL ?_;refine aF (kC p.v A17 p.n c17 X (k+k) _ hT hh hXl Xj Xj hso) ar.out rfl Xk ?_;rintro e_ w39 ⟨g,og,rfl,hh⟩;refine ⟨_,rfl, ?_⟩;refine dn ?_;refine dn ?_;exact E8
 ·rw [Xp h0];refine Pn ?_;refine sr ?_;refine cv hh [_,_] ?_;intro b2 w2 hh;refine cv hh [_,_,_] ?_;intro b3 w3 hh;refine bP hh ?_;intro b4 w4 hh;refine aI (aa (ah (sr ?_)));refine cg hh 2 [_,_] ?_;refine eu ?_;intro w10 hh;exact Nb
abbrev ZT:=List (List UInt8×Int)
def zT (L:ZT):List TR:=L.map fun x=>⟨str x.1,nR ((x.2:Int):Dyadic)⟩
def zS (L:ZT) (b:List UInt8):Int:=match L with|[]=>0|x::L=>(if x.1=b then x.2 else 0)+zS L b
def zC:ZT→Bool
 |[]=>true
 |[x]=> !decide (x.2=0)
 |x::y::L=> !decide (x.2=0) && (Op.bytesLess x.1 y.1 && zC (y::L))
def zE (L K:ZT):Bool:=(L++K).all fun x=>decide (zS L x.1=zS K x.1)
def zP (P Q:ZT):ZT:=P.flatMap fun x=>Q.map fun y=>((mulL x.1 y.1).1,x.2*y.2)
def W9 (P Q:ZT):List Int:=P.flatMap fun x=>Q.map fun y=>(mulL x.1 y.1).2
def zM (v:Int) (L:ZT):Bool:=L.all fun x=>eK x.1 && decide ((x.1.length:Int)=v)
def zB (L:ZT):Bool:=L.all fun x=>decide (x.2.natAbs<256) && decide (x.1.length≤50)
def WK (n:Int):ZT:=[([0,1],n),([1,0],1)]
theorem qJ {g h:PX} (h1:g.e=0) (h2:h.e=0) (h3:h.v=g.v):fR [g,h]=0:=by
 have e:[g,h].find? (fun g=>decide (g.e≠0))=none:=j2 (Zf.2 fun x hx=>by
  rcases XL.1 hx with rfl|hx
  ·simp [h1]
  ·rw [XO.1 hx];simp [h2])
 unfold fR;rw [e];show (if 2=0∨zm [g,h]=true then (1:Int) else 0)=0;rw [Xp];rintro (h0|h0)
 ·cases h0
 ·obtain ⟨x,hx,hx2⟩:=Zb.1 h0;have hx3:x.v≠g.v:=Y1 hx2
  rcases XL.1 hx with rfl|hx
  ·exact hx3 rfl
  ·rw [XO.1 hx] at hx3;exact hx3 h3
def U7 (ds:List Int):VP:=fun v W=>∃g:Option Addr×Nat,v=.slice g.1 ds.length g.2∧Sl W g.1 ds.length 1 (bu ds)
structure WI (E:Int) (g:PX):Prop where
 bad:E≠0→g.v=0∧g.ts=[]
 ok:E=0→g.e=0∧iT 100000 g.ts∧∀t∈g.ts,t.m.size≤100000
theorem yS (h:gD l=0):(aG l).length≤4096:=by
 unfold gD at h;by_cases h4:4096<(aG l).length
 ·rw [Xo h4] at h;omega
 ·omega
theorem lS (h:iT k l) (hk:k+l.length≤j) (hj:j≤3999990):iT j (aG l):=fun t ht=>by
 have h3:Sz j t.c.d:=(nJ (fun t ht=>(h t ht).2) t ht).mono hk;exact ⟨by rw [(eX l).nf t ht];exact h3.ok hj,h3⟩
theorem pf (h:∀t∈l,t.m.size≤100000):∀t∈aG l,t.m.size≤100000:=fun t ht=>by
 obtain ⟨s,hs,e⟩:=jh t ht;rw [←e];exact h s hs
theorem me (h:l.length≤4096):gD l=0:=by
 unfold gD;have:=cz l;rw [Xp Xj]
theorem fF.v0 {v:Int}{g:PX} (o:fF 0 v ts g):g.v=v:=o.v
theorem fF.t0 {v:Int}{g:PX} (o:fF 0 v ts g):g.ts=ts:=o.ts
theorem JH (p q:PX):Bk [p,q]=p.ts++q.ts:=by show p.ts++(q.ts++[])=_;rw [XZ]
def gC (j:Nat) (t:TR):Nat:=match t.m.data.toList[j]? with|some e=>e.toNat|none=>0
theorem ri {t:TR}{e:UInt8} (h:t.m.data.toList[j]?=some e):gC j t=e.toNat:=by unfold gC;rw [h]
def bC (p:List TR) (j n:Nat):List TR:=p.filter fun t=>decide (gC j t=n)
def iD (q:List TR) (sub:List TR→Int×List TR) (p:List TR) (j n:Nat) (a:Int×List TR):Int×List TR:=
 if a.1≠0 then a else if a.2.length=0∧(bC p j n).length=0 then a else
 if fm a.2 q≠0 then (fm a.2 q,[]) else if (sub (bC p j n)).1≠0 then ((sub (bC p j n)).1,[]) else
 if gD (aG (cA a.2 q)++(sub (bC p j n)).2)≠0 then (gD (aG (cA a.2 q)++(sub (bC p j n)).2),[]) else (0,aG (aG (cA a.2 q)++(sub (bC p j n)).2))
def bJ (q:List TR) (sub:List TR→Int×List TR) (p:List TR) (j:Nat):Nat→Int×List TR
 |0=>(0,[])
 |i+1=>iD q sub p j (127-i) (bJ q sub p j i)
theorem kq (q:List TR) (sub:List TR→Int×List TR) (p:List TR) (j i:Nat):bJ q sub p j (i+1)=iD q sub p j (127-i) (bJ q sub p j i):=rfl
def eT (v:Int):List (List TR)→Nat→List TR→Int×List TR
 |[],_,p=>(0,aG [⟨er v,(p.map TR.c).headD (nR 0)⟩])
 |q::qs,j,p=>bJ q (eT v qs (j+1)) p j 128
theorem j3 {q:List TR}{sub:List TR→Int×List TR}{i:Nat} (h:(bJ q sub p j i).1≠0) (hk:i≤k):bJ q sub p j k=bJ q sub p j i:=by
 induction k with
 |zero=>
  obtain rfl:i=0:=Xj
  rfl
 |succ k ih=>
  by_cases e:i=k+1
  ·rw [e]
  ·have:=ih Xj;show iD q sub p j (127-k) (bJ q sub p j k)=_;rw [this];unfold iD;rw [Xo h]
theorem Bc {q:List TR} (hp:iT k p) (hq:iT j q) (sq:∀t∈q,t.m.size≤100000) (h:fm p q=0) (hk:k+j≤900000):iT (k+j+p.length*q.length) (aG (cA p q))∧∀t∈aG (cA p q),t.m.size≤100000:=by
 obtain ⟨h6,_,h4⟩:=kJ h;have ho:=qQ hp hq Xj;have hz:=nJ fun t ht=>(ho t ht).2;rw [nP] at hz;refine ⟨fun t ht=> ?_,(ET hp hq sq h hk).2⟩;have:Sz (k+j+p.length*q.length) t.c.d:=hz t ht;refine ⟨?_,this⟩;rw [(eX _).nf t ht];exact this.ok Xj
structure jl (v:Int) (k:Nat) (l:List TR):Prop where
 e:jy v l=0
 ok:iT k l
 sz:∀t∈l,t.m.size≤100000
theorem jl.mono {v:Int} (h:jl v k l) (hk:k≤j):jl v j l:=⟨h.e,h.ok.mono hk,h.sz⟩
theorem jl.nil {v:Int} (hv:jd v=true):jl v k []:=⟨Gk hv (Xs _) (fun _ h=>nomatch h) ⟨.nil,(fun _ h=>nomatch h),(fun _ h=>nomatch h)⟩,(fun _ h=>nomatch h),(fun _ h=>nomatch h)⟩
theorem jl.len {v:Int} (h:jl v k l):l.length≤4096:=(cK h.e).2.1
theorem Fe {v:Int}{q:List TR}{T:Nat} (hp:jl v k p) (hq:jl v j q) (hT:q.length≤T) (h:fm p q=0) (hk:k+j≤900000):jl v (k+j+4096*T) (aG (cA p q)):=by
 obtain ⟨h6,h5,h4⟩:=kJ h;obtain ⟨f1,f2,f3,f4⟩:=cK hp.e;have:=Bc hp.ok hq.ok hq.sz h hk;have hm:p.length*q.length≤4096*T:=YT hp.len hT;exact ⟨iu f1 h4 (rp f3 h5),this.1.mono Xj,this.2⟩
theorem Gi {v:Int}{a b:List TR} (ha:jl v k a) (hb:jl v k b) (h:gD (a++b)=0) (hk:k≤3000000):jl v (k+8192) (aG (a++b)):=by
 obtain ⟨f1,f2,f3,f4⟩:=cK ha.e;obtain ⟨g1,g2,g3,g4⟩:=cK hb.e;have hl:(a++b).length≤8192:=by rw [Xy];omega
 refine ⟨iu f1 (yS h) fun t ht=> ?_,lS (fun t ht=> ?_) (show k+(a++b).length≤k+8192 by omega) Xj,pf fun t ht=> ?_⟩
 ·rcases X3.1 ht with h|h
  ·exact f3 t h
  ·exact g3 t h
 ·rcases X3.1 ht with h|h
  ·exact ha.ok t h
  ·exact hb.ok t h
 ·rcases X3.1 ht with h|h
  ·exact ha.sz t h
  ·exact hb.sz t h
theorem LR {v:Int}{q:List TR}{sub:List TR→Int×List TR}{a:Int×List TR}{S K T B S':Nat} (ha:jl v S a.2) (hq:jl v K q) (hT:q.length≤T) (hb:(sub (bC p j n)).1=0→jl v B (sub (bC p j n)).2) (h1:S+K+4096*T+8192≤S') (h2:B+8192≤S') (hS:S'≤900000)
  (h:(iD q sub p j n a).1=0):jl v S' (iD q sub p j n a).2:=by
 unfold iD at h ⊢;by_cases c0:a.1≠0
 ·rw [Xo c0] at h;exact absurd h c0
 ·rw [Xp c0] at h ⊢;by_cases c1:a.2.length=0∧(bC p j n).length=0
  ·rw [Xo c1];exact ha.mono Xj
  ·rw [Xp c1] at h ⊢;by_cases c2:fm a.2 q≠0
   ·rw [Xo c2] at h;exact absurd h c2
   ·rw [Xp c2] at h ⊢;by_cases c3:(sub (bC p j n)).1≠0
    ·rw [Xo c3] at h;exact absurd h c3
    ·rw [Xp c3] at h ⊢;by_cases c4:gD (aG (cA a.2 q)++(sub (bC p j n)).2)≠0
     ·rw [Xo c4] at h;exact absurd h c4
     ·rw [Xp c4];exact (Gi ((Fe ha hq hT Xj Xj).mono (show _≤S'-8192 by omega)) ((hb Xj).mono Xj) Xj Xj).mono Xj
theorem HH (h:∀t∈p,gC j t<n):bC p j n=[]:=aaR.2 fun t ht=>by
 have:=h t ht;simp only [XN];omega
theorem kj:∀t∈bC p j n,t∈p:=fun t ht=>(YC.1 ht).1
theorem ji {q p:List TR}{sub:List TR→Int×List TR}{j D:Nat} (h:∀t∈p,gC j t≤D):∀i,i+D≤127→bJ q sub p j i=(0,[])
 |0,_=>rfl
 |i+1,hi=>by
  show iD q sub p j (127-i) (bJ q sub p j i)=_;rw [ji h i Xj,show iD q sub p j (127-i) (0,[])=(0,[]) by
   unfold iD;rw [Xp Xk,Xo ⟨rfl,by rw [HH fun t ht=>by have:=h t ht;omega];rfl⟩]]
def fK (c:Nat):List Nat→Nat→Nat
 |[],k=>k
 |d::ds,k=>fK c ds k+d*c+8192
theorem re (c k:Nat):fK c [] k=k:=rfl
theorem pC (c d k:Nat) (ds:List Nat):fK c (d::ds) k=fK c ds k+d*c+8192:=rfl
theorem vZ {v:Int}{q p:List TR}{sub:List TR→Int×List TR}{j D K T B c:Nat} (hv:jd v=true) (hq:jl v K q) (hT:q.length≤T) (hD:∀t∈p,gC j t≤D) (hD2:D≤127) (hb:∀n,(sub (bC p j n)).1=0→jl v B (sub (bC p j n)).2) (hc:K+4096*T+8192≤c) (hS:B+D*c+8192≤900000):
  ∀i,i≤128→(bJ q sub p j i).1=0→jl v (B+(i+D-128)*c+8192) (bJ q sub p j i).2
 |0,_,_=>jl.nil hv
 |i+1,hi,h0=>by
  by_cases h1:i+1+D≤127
  ·rw [ji hD _ h1];exact jl.nil hv
  ·have h2:(bJ q sub p j i).1=0:=by
    refine Zn fun c=> ?_;rw [j3 c (Nat.le_succ i)] at h0;exact c h0
   have hle:(i+1+D-128)*c≤D*c:=Yr _ Xj;by_cases h3:i+D≤127
   ·have h4:=ji (q:=q) (sub:=sub) hD i h3;show jl v _ (iD q sub p j (127-i) (bJ q sub p j i)).2;have h5:(iD q sub p j (127-i) (bJ q sub p j i)).1=0:=h0;rw [h4] at h5 ⊢;rw [show i+1+D-128=0 by omega,Z0];unfold iD at h5 ⊢;rw [Xp Xk] at h5 ⊢;by_cases c1:((0:Int),([]:List TR)).2.length=0∧(bC p j (127-i)).length=0
    ·rw [Xo c1];exact jl.nil hv
    ·rw [Xp c1] at h5 ⊢;by_cases c2:fm [] q≠0
     ·rw [Xo c2] at h5;exact absurd h5 c2
     ·rw [Xp c2] at h5 ⊢;by_cases c3:(sub (bC p j (127-i))).1≠0
      ·rw [Xo c3] at h5;exact absurd h5 c3
      ·rw [Xp c3] at h5 ⊢;by_cases c4:gD (aG (cA [] q)++(sub (bC p j (127-i))).2)≠0
       ·rw [Xo c4] at h5;exact absurd h5 c4
       ·rw [Xp c4];have hn:jl v B (aG (cA [] q)):=jl.nil hv;exact (Gi hn (hb _ Xj) Xj Xj).mono Xj
   ·have ih:=vZ hv hq hT hD hD2 hb hc hS i Xj h2;have e1:(i+1+D-128)*c=(i+D-128)*c+c:=by rw [show i+1+D-128=(i+D-128)+1 by omega,Yw]
    rw [e1] at hle ⊢;generalize (i+D-128)*c=y at*;generalize D*c=z at*;exact LR ih hq hT (hb _) Xj Xj Xj h0
theorem rM {v:Int}{x:NR} (hv:jd v=true) (hx:Sz k x.d) (hk:k≤900000):jl v (k+1) (aG [⟨er v,x⟩]):=by
 have h1:=gK.1 hv;have h2:=pz h1.1;refine ⟨iu hv (XV (cz _) (show 1≤4096 by decide)) fun t ht=> ?_,fun t ht=> ?_,fun t ht=> ?_⟩
 ·rw [XO.1 ht];unfold fa;rw [XF,XN];exact ⟨wN v,h2⟩
 ·have h1:Sz (k+1) t.c.d:=nJ (k:=k) (l:=[⟨er v,x⟩]) (fun s hs=>by rw [XO.1 hs];exact hx) t ht;exact ⟨by rw [(eX _).nf t ht];exact h1.ok Xj,h1⟩
 ·obtain ⟨s,hs,e⟩:=jh t ht;rw [←e,XO.1 hs];show (er v).size≤100000;omega
theorem EY {v:Int}{K T c0:Nat} (hv:jd v=true) (hc0:K+4096*T+8192≤c0):∀(qs:List (List TR)) (j:Nat) (p:List TR) (ds:List Nat) (k:Nat),(∀q∈qs,jl v K q∧q.length≤T)→iT k p→ds.length=qs.length→(∀(i d:Nat),ds[i]?=some d→d≤127∧∀t∈p,gC (j+i) t≤d)→fK c0 ds (k+1)≤900000→
  (eT v qs j p).1=0→jl v (fK c0 ds (k+1)) (eT v qs j p).2:=by
 intro qs
 induction qs with
 |nil=>
  intro j p ds k _ hok hds _ hB _;obtain rfl:ds=[]:=ZZ.1 hds;rw [re] at hB ⊢;refine rM hv ?_ Xj;exact QN
 |cons q qs ih=>
  intro j p ds k hq hok hds hD hB h0
  cases ds with
  |nil=>cases hds
  |cons d ds=>
   have hd:=hD 0 d rfl;rw [pC] at hB ⊢;have hB1:fK c0 ds (k+1)≤900000:=Xj;have hsub:∀n,(eT v qs (j+1) (bC p j n)).1=0→jl v (fK c0 ds (k+1)) (eT v qs (j+1) (bC p j n)).2:=fun n hn=>by
    refine ih (j+1) (bC p j n) ds k (fun r hr=>hq r (XD _ hr)) (fun t ht=>hok t (kj t ht)) (by simpa using hds) (fun i e he=> ?_) hB1 hn;exact Uf
   have h1:=vZ (sub:=eT v qs (j+1)) (p:=p) (j:=j) hv (hq q XB).1 (hq q XB).2 hd.2 hd.1 hsub hc0 hB 128 (Xr _) h0;rw [show 128+d-128=d by omega] at h1;exact h1
variable {fr:Nat}
theorem CQ:∀{a b:List UInt8}{j:Nat}{x y:UInt8},Op.bytesLess a b=true→a.take j=b.take j→a[j]?=some x→b[j]?=some y→x.toNat≤y.toNat
 |[],_,j,x,y,_,_,hx,_=>by simp at hx
 |_,[],j,x,y,_,_,_,hy=>by simp at hy
 |c::a,d::b,0,x,y,h,_,hx,hy=>by
  simp only [Z6,Y9] at hx hy;subst hx;subst hy;simp only [Op.bytesLess,Zo,XF,XN,YA] at h
  rcases h with h|⟨h,_⟩
  ·exact Nat.le_of_lt (UInt8.lt_iff_toNat_lt.1 h)
  ·rw [h];exact Xr _
 |c::a,d::b,j+1,x,y,h,ht,hx,hy=>by
  simp only [List.take_succ_cons,aaJ] at ht;obtain ⟨rfl,ht⟩:=ht;simp only [aaa] at hx hy;refine CQ (a:=a) (b:=b) ?_ ht hx hy;simpa [Op.bytesLess] using h
structure Gz (v:Int) (j:Nat) (p:List TR):Prop where
 sM:tP p
 may:∀t∈p,fa v t=true
 pre:∀a∈p,∀b∈p,a.m.data.toList.take j=b.m.data.toList.take j
theorem Gz.size {v:Int} (h:Gz v j p):∀t∈p,(t.m.data.toList.length:Int)=v:=fun t ht=>by
 rw [←dQ];exact Y1 (Zg.1 (h.may t ht)).2
theorem Gz.get {v:Int} (h:Gz v j p) (hj:(j:Int)<v) {t:TR} (ht:t∈p):∃e:UInt8,t.m.data.toList[j]?=some e∧gC j t=e.toNat∧e.toNat<128:=by
 obtain ⟨e,he⟩:=ak (l:=t.m.data.toList) (k:=j) (by have:=h.size t ht;omega);exact ⟨e,he,ri he,nI (Zg.1 (h.may t ht)).1 he⟩
theorem Gz.mono {v:Int} (h:Gz v j p) (hj:(j:Int)<v):p.Pairwise fun a b=>gC j a≤gC j b:=by
 refine List.Pairwise.imp_of_mem (fun {a b} ha hb hl=> ?_) h.sM;obtain ⟨x,hx,ex,_⟩:=h.get hj ha;obtain ⟨y,hy,ey,_⟩:=h.get hj hb;rw [ex,ey];exact CQ hl (h.pre a ha b hb) hx hy
theorem Gz.with {v:Int} (h:Gz v j p) (hj:(j:Int)<v):Gz v (j+1) (bC p j n):=by
 refine ⟨h.sM.filter _,fun t ht=>h.may t (kj t ht),fun a ha b hb=> ?_⟩;obtain ⟨ha1,ha2⟩:=YC.1 ha;obtain ⟨hb1,hb2⟩:=YC.1 hb;obtain ⟨x,hx,ex,_⟩:=h.get hj ha1;obtain ⟨y,hy,ey,_⟩:=h.get hj hb1;have exy:x=y:=aar.1 (by rw [←ex,←ey,Y1 ha2,Y1 hb2]);rw [az hx,az hy,h.pre a ha1 b hb1,exy]
theorem JY {p:List α}{en:Nat} (h:fr≤en):p.drop fr=(p.drop fr).take (en-fr)++p.drop en:=by
 have:p.drop en=(p.drop fr).drop (en-fr):=by rw [Z9];congr 1;omega
 rw [this,Yg]
theorem BX {en:Nat} (hfe:fr≤en) (h1:∀t∈p.take fr,gC j t<n) (h2:∀t∈(p.drop fr).take (en-fr),gC j t=n) (h3:∀t∈p.drop en,n<gC j t):bC p j n=(p.drop fr).take (en-fr):=by
 have e:p=p.take fr++((p.drop fr).take (en-fr)++p.drop en):=by
  have:p.drop en=(p.drop fr).drop (en-fr):=by rw [Z9];congr 1;omega
  rw [this,Yg,Yg]
 unfold bC
 conv=>lhs;rw [e]
 rw [ZQ,ZQ,aaR.2,aaB.2,aaR.2,Xu,XZ]
 ·intro t ht;have:=h3 t ht;simp only [XN];omega
 ·intro t ht;have:=h2 t ht;simpa using this
 ·intro t ht;have:=h1 t ht;simp only [XN];omega
theorem HL {x:TR} (h:p.Pairwise fun a b=>gC j a≤gC j b) (hx:p[fr]?=some x) (hn:gC j x<n):∀t∈p.take (fr+1),gC j t<n:=fun t ht=>by
 rw [az hx] at ht
 rcases X3.1 ht with ht|ht
 ·have e:p=p.take fr++x::p.drop (fr+1):=by rw [←gm hx,Yg]
  rw [e,List.pairwise_append] at h;have:=h.2.2 t ht x XB;omega
 ·obtain rfl:=XO.1 ht;exact hn
def WN (p:PX) (i:Int):Int:=if p.e=0 then (if i<0∨p.v≤i then 1 else 0) else p.e
def U2 (i:Nat) (t:TR):Option TR:=match t.m.data.toList[i]? with|some e=>if e.toNat=0 then none else some ⟨str (t.m.data.toList.set i (e-1)),nR (t.c.d*((e.toNat:Int):Dyadic))⟩|none=>none
def WU (i:Nat) (l:List TR):List TR:=l.filterMap (U2 i)
variable {w0:World}
theorem JJ.MX {H L:List HE} (hJ:JJ w0 H w W) (hs:Hp w0 H w) (hb:w.heap.size≤w1.heap.size) (hL:Hp w1 L W):Hp w0 (L++H) W:=
 hs.join (⟨hJ.bl,fun x hx=>nc (hL.own x hx) hb,hL.nd⟩:Hp w L W)
def qD (base:Nat) (E v:Int) (ts:List TR):VP:=kp base E v ts
theorem qD.ext {v:Int} (x:Value) (w w':World) (h:qD base E v ts x w) (hb:Below w.heap.size w w'):qD base E v ts x w':=kp.ext x w w' h hb
theorem Ct (v:Int):aG [⟨er v,nR 0⟩]=[]:=by
 unfold aG mi zV
 rfl
theorem Em (lA:Option Addr) (lc K T c0:Nat) (v:Int) (ls:List PX) (hv:jd v=true) (hlc:ls.length≤lc) (hl12:ls.length≤12) (hls:∀g∈ls,jl v K g.ts∧g.v=v∧g.k8 K∧g.ts.length≤T) (hc0:K+4096*T+8192≤c0) (hc1:c0≤440000):
  ∀(qs:List PX) (j:Nat) (p:List TR) (A:Option Addr) (n c:Nat) (ds:List Nat) (k:Nat) (w:World),ls.drop j=qs→j≤ls.length→dN w→Sl w lA ls.length 2 (ay PX.cells ls)→(∀g∈ls,g.at_ w)→Sl w A n 4 (ay TR.cells p)→n≤c→Gz ls.length j p→iT k p→n≤4096→ds.length=qs.length→(∀(i d:Nat),ds[i]?=some d→d≤127∧∀t∈p,gC (j+i) t≤d)→fK c0 ds (k+1)≤440000→
  Calls Tryz.prog 141 #[.slice A n c,.int .i64 j,.slice lA ls.length lc,.int .i64 v] w fun r w'=>∃g:PX,fF (eT v (qs.map PX.ts) j p).1 v (eT v (qs.map PX.ts) j p).2 g∧r=.returned (.tuple #[.agg #[.int .i64 g.v,.slice g.A g.n g.c],.int .i64 (eT v (qs.map PX.ts) j p).1])∧Hp w [g.row] w':=by
 intro qs;have hK:K≤440000:=Xj;have hco:Ap v=0:=Xp (by rw [hv];decide)
 induction qs with
 |nil=>
  intro j p A n c ds k w hq hj hT hL hat hS hnc hsr hok hn hds hD hB;have hh:=Hp.start w;have hln:=hS.bp TR.len Xk;obtain rfl:j=ls.length:=by
   have:=Yu List.length hq;rw [Yz] at this;simp only [aae] at this;omega
  obtain rfl:ds=[]:=ZZ.1 hds;rw [re] at hB;have hcn:=fun c hc w1 hT1=>jQ v c k w1 hT1 hc Xj;rw [hco] at hcn
  cases p with
  |nil=>
   obtain rfl:n=0:=by simpa using hln.symm
   show Calls _ _ _ _ fun r w'=>∃g:PX,fF 0 v (aG [⟨er v,nR 0⟩]) g∧r=.returned (.tuple #[.agg #[.int .i64 g.v,.slice g.A g.n g.c],.int .i64 0])∧Hp w [g.row] w';refine aj (N:=118) (l:=[.slice A 0 c,.int .i64 ls.length,.slice lA ls.length lc,.int .i64 v]) Tryz.func141 rfl rfl (by simp) ?_;refine sr ?_;refine bP hh ?_;intro b8 w8 hh;refine aI (aa (ah (sr (mI (mL (aH ?_))))));refine cR (aa (cT (ah (sr (mL (aH ?_))))));refine cR (aa (cT (sr (mI ?_))));refine fP [_,_,_] ?_;refine aF (hcn (nR 0) ⟨(Sz.zero k).ok Xj,by rw [bI];exact Sz.zero k⟩ _ (hT.hp hh)) ar.out rfl Xk ?_;rintro e_ w25 ⟨g,og,rfl,h3⟩;refine ⟨_,rfl, ?_⟩;replace hh:=hh.join h3;simp only [Xw,Xu] at hh;refine dn ?_;refine dn ?_;refine bR hh 1 [_,_] ?_;intro ws hh;replace hh:Hp _ (_::.blk _ _ [_,_] _::_) _:=hh;refine aI (aa (aw (aK (aK ?_))));exact Rn
  |cons t p=>
   have hn1:p.length+1=n:=by simpa using hln
   have ht:=hok t XB;obtain ⟨ad,rfl,hr⟩:=hS.at_ Xj;show Calls _ _ _ _ fun r w'=>∃g:PX,fF 0 v (aG [⟨er v,t.c⟩]) g∧r=.returned (.tuple #[.agg #[.int .i64 g.v,.slice g.A g.n g.c],.int .i64 0])∧Hp w [g.row] w';refine aj (N:=118) (l:=[.slice (some ad) n c,.int .i64 ls.length,.slice lA ls.length lc,.int .i64 v]) Tryz.func141 rfl rfl (by simp) ?_;refine sr ?_;refine bP hh ?_;intro b8 w8 hh;refine aI (aa (ah (sr (mI (mL (aH ?_))))));refine cR (aa (cT (ah (sr (mL (aH ?_))))));refine cR (aa (cF (aq (ai (sr (mI (mL ?_)))))));refine EZ ?_;refine kz ?_;refine cq (vs:=[_,_,_]) aM.out rfl (((hr.ext hh.below).recAt TR.len (show (t::p)[0]?=some t from rfl)).drop 1) rfl Xk ?_;refine aF (hcn t.c ht _ (hT.hp hh)) ar.out rfl Xk ?_;rintro e_ w33 ⟨g,og,rfl,h3⟩;refine ⟨_,rfl, ?_⟩;replace hh:=hh.join h3;simp only [Xw,Xu] at hh;refine dn ?_;refine dn ?_;refine bR hh 1 [_,_] ?_;intro ws hh;replace hh:Hp _ (_::.blk _ _ [_,_] _::_) _:=hh;refine aI (aa (aw (aK ?_)));exact Rn
 |cons q qs ih=>
  intro j p A n c ds k w hq hj hT hL hat hS hnc hsr hok hn hds hD hB;have hh:=Hp.start w;have hln:=hS.bp TR.len Xk
  cases ds with
  |nil=>cases hds
  |cons d ds=>
   have hd:=hD 0 d rfl;have hjl:j<ls.length:=by
    rcases Yb j ls.length with h|h
    ·exact h
    ·rw [Zj h] at hq;cases hq
   have hqj:ls[j]?=some q:=by rw [←List.head?_drop,hq];rfl
   have hqs:ls.drop (j+1)=qs:=by rw [←List.tail_drop,hq];rfl
   obtain ⟨hqk,hqv,hql,hqT⟩:=hls q (Xt hqj);rw [pC] at hB;have hB1:fK c0 ds (k+1)≤440000:=Xj;have hmono:=hsr.mono Xj;rw [XQ];show Calls _ _ _ _ fun r w'=>∃g:PX,fF (bJ q.ts (eT v (qs.map PX.ts) (j+1)) p j 128).1 v (bJ q.ts (eT v (qs.map PX.ts) (j+1)) p j 128).2 g∧r=.returned (.tuple #[.agg #[.int .i64 g.v,.slice g.A g.n g.c],.int .i64 (bJ q.ts (eT v (qs.map PX.ts) (j+1)) p j 128).1])∧Hp w [g.row] w';have hDs:∀n (i e:Nat),ds[i]?=some e→e≤127∧∀t∈bC p j n,gC (j+1+i) t≤e:=fun n i e he=>by
    exact Uf
   have hrec:∀(m fr en:Nat) (w1:World),dN w1→Below w.heap.size w w1→fr≤en→en≤n→bC p j m=(p.drop fr).take (en-fr)→Calls Tryz.prog 141 #[.slice (if c=fr then A else A.map (·.add (fr*4))) (en-fr) (c-fr),.int .i64 ((j:Int)+1),.slice lA ls.length lc,.int .i64 v] w1 fun r w'=>∃g:PX,fF (eT v (qs.map PX.ts) (j+1) (bC p j m)).1 v (eT v (qs.map PX.ts) (j+1) (bC p j m)).2 g∧r=.returned (.tuple #[.agg #[.int .i64 g.v,.slice g.A g.n g.c],.int .i64 (eT v (qs.map PX.ts) (j+1) (bC p j m)).1])∧Hp w1 [g.row] w':=fun m fr en w1 hT1 hb h1 h2 hw=>by
    have hcut:=(hS.ext hb).cut h1 h2 hnc;rw [iy TR.len,jg TR.len,←hw] at hcut;exact ih (j+1) (bC p j m) _ (en-fr) (c-fr) ds k w1 hqs Xj hT1 (hL.ext hb) (fun g hg=>(hat g hg).ext hb) hcut Xj (hsr.with Xj) (fun t ht=>hok t (kj t ht)) Xj (by simpa using hds) (hDs m) hB1
   have hsub:∀m,(eT v (qs.map PX.ts) (j+1) (bC p j m)).1=0→jl v (fK c0 ds (k+1)) (eT v (qs.map PX.ts) (j+1) (bC p j m)).2:=fun m hm=>by
    refine EY hv hc0 (qs.map PX.ts) (j+1) (bC p j m) ds k (fun r hr=> ?_) (fun t ht=>hok t (kj t ht)) (by rw [XA];simpa using hds) (hDs m) Xj hm;obtain ⟨g,hg,rfl⟩:=XG.1 hr;have:=hls g (ZD (by rw [hqs];exact hg));exact ⟨this.1,this.2.2.2⟩
   generalize eT v (qs.map PX.ts) (j+1)=sub at hrec hsub ⊢;have hlim:=vZ (sub:=sub) (p:=p) (j:=j) hv hqk hqT hd.2 hd.1 hsub hc0 Xj;have hlim2:∀i,i≤128→(bJ q.ts sub p j i).1=0→jl v 440000 (bJ q.ts sub p j i).2:=fun i hi h0=>(hlim i hi h0).mono (by
    have:(i+d-128)*c0≤d*c0:=Yr _ Xj;omega)
   have hcn:=fun w1 hT1=>jQ v (nR 0) 0 w1 hT1 ⟨(Sz.zero 0).ok Xk,by rw [bI];exact Sz.zero 0⟩ Xk;rw [hco,Ct] at hcn;refine aj (N:=118) (l:=[.slice A n c,.int .i64 j,.slice lA ls.length lc,.int .i64 v]) Tryz.func141 rfl rfl (by simp) ?_;refine sr ?_;refine bP hh ?_;intro b8 w8 hh;refine aI (aa (ah (sr (mI (mL (aH ?_))))));refine cR (aa (cF (aq (ai (sr (mI ?_))))));refine fP [_,_,_] ?_;refine aF (hcn _ (hT.hp hh)) ar.out rfl Xk ?_;rintro e_ w39 ⟨g,og,rfl,h3⟩;refine ⟨_,rfl, ?_⟩;replace hh:=hh.join h3;simp only [Xw,Xu] at hh;refine mT ?_;refine dn ?_;refine dn ?_;refine bP hh ?_;intro b10 w10 hh;refine bR hh 0 [_,_] ?_;intro ws hh;replace hh:Hp _ (.blk _ _ [_,_] _::_) _:=hh;refine aI (aa (sr (mL (aH (aI (aa (ah (sr (aI (aa (ao ?_)))))))))));refine Bt [11,12,13,14,15,44,45,46,47,48,49,50,51,52,53,54,55,56,57,58,59,60,61,62,63,64,65,66,67,68,69,70,71,72,73,74,75,76,77,78,79,80,81,82,83,84,85,86,87,88,89,90,91,92,93,94,95,96,97,98,99,100,101,102,103,104,105,106,107,108,109,110,111,112] 11 12 13
    (fun e en nv w'=>∃(i en_:Nat) (e_ ov:Int) (oA:Option Addr) (on oc:Nat) (os:List TR),i≤128∧nv=.int .i64 (127-(i:Int))∧en=.int .i64 en_∧e=.int .i64 e_∧e_=(bJ q.ts sub p j i).1∧en_≤n∧(e_=0→ov=v∧os=(bJ q.ts sub p j i).2∧(∀t∈p.take en_,gC j t<128-i)∧(∀t∈p.drop en_,128-i≤gC j t))∧Hp w [.blk b10 24 [.int .i64 ov,.slice oA on oc] (0,0),.row oA on oc 80 4 (ay TR.cells os),.blk b8 24 [.int .i64 0,.slice none 0 0] (0,0)] w')
    (fun _ _ nv _=>(intOf nv+1).toNat) ?_ ?_
   ·refine ⟨0,n,0,g.v,g.A,g.n,g.c,g.ts,Xs _,rfl,rfl,rfl,rfl,Xr _,fun _=>⟨og.v,og.ts,fun t ht=> ?_,fun t ht=> ?_⟩,hh⟩
    ·obtain ⟨x,_,hx,h8⟩:=hsr.get Xj (YY ht);rw [hx];exact h8
    ·rw [Zj Xj] at ht
     cases ht
   ·clear hh og h3;rintro ρ' e_ en_ nv_ w' ⟨i,en,e,ov,oA,on,oc,os,hi,rfl,rfl,rfl,he,hen,hok0,hh⟩;by_cases hcn:i<128∧e=0
    ·obtain ⟨hi8,rfl⟩:=hcn;obtain ⟨rfl,rfl,hlo,hhi⟩:=hok0 rfl;clear hok0;obtain ⟨m,hm⟩:∃m,m=127-i:=⟨_,rfl⟩;rw [show (127-(i:Int))=(m:Int) by omega];refine ah (sr (mI ?_));refine dL (mB (gT (mI (gT ?_))));refine cR ?_;refine eR ?_;refine aa (cT (aq (ai (ah (ao (sr (mI (aI (aa (ah (ao ?_)))))))))));refine Mw zL2 14
      (fun f w'=>∃fr:Nat,fr≤en∧f=.int .i64 fr∧bC p j m=(p.drop fr).take (en-fr)∧(∀t∈p.take fr,gC j t<m)∧Hp w [.blk b10 24 [.int .i64 ov,.slice oA on oc] (0,0),.row oA on oc 80 4 (ay TR.cells (bJ q.ts sub p j i).2),.blk b8 24 [.int .i64 0,.slice none 0 0] (0,0)] w') ?_ ?_
     ·refine aR zL2 14
       (fun f w'=>∃fr:Nat,fr≤en∧f=.int .i64 fr∧(∀t∈(p.drop fr).take (en-fr),gC j t=m)∧Hp w [.blk b10 24 [.int .i64 ov,.slice oA on oc] (0,0),.row oA on oc 80 4 (ay TR.cells (bJ q.ts sub p j i).2),.blk b8 24 [.int .i64 0,.slice none 0 0] (0,0)] w')
       (fun f _=>(intOf f).toNat) ?_ ?_
      ·exact ⟨en,Xr _,rfl,(fun t ht=>by rw [Yq] at ht;cases ht),hh⟩
      ·clear hh;rintro ρ' f w' ⟨fr,hfr,rfl,hmid,hh⟩;by_cases h0:0<fr
       ·obtain ⟨fr,rfl⟩:∃g,fr=g+1:=⟨fr-1,Xj⟩;obtain ⟨x,hx⟩:=ak (l:=p) (k:=fr) Xj;obtain ⟨ad,rfl,hr⟩:=hS.at_ Xj;obtain ⟨e,hex,hxe,h8⟩:=hsr.get Xj (Xt hx);by_cases hem:e.toNat=m
        ·refine ah (sr (mI ?_));refine cj (mB (gT (mL (gT (mI (gT ?_))))));refine ep (gT ?_);refine cE (k:=fr) bh.out aM.size rfl rfl Xj Xj Xk ?_;refine gT ?_;refine kz ?_;refine aD rfl rfl ?_;refine Jl ?_;refine gT (mI (gT ?_));refine j7 ?_;refine gT ?_;refine BT ?_;refine gT (mI (gT ?_));refine cR ?_;refine eR ?_;refine aa (cT (aq (ai (ao (al (mI ?_))))));refine ep (aI (aA (bz (ai ?_))));refine ⟨⟨fr,Xj,by show Value.int .i64 (((fr+1:Nat):Int)-1)=_;congr 1;omega,fun t ht=> ?_,hh⟩,by show (((fr+1:Nat):Int)-1).toNat<((fr+1:Nat):Int).toNat;omega, ?_⟩
         ·rw [gm hx,show en-fr=(en-(fr+1))+1 by omega,List.take_succ_cons] at ht
          rcases XL.1 ht with rfl|ht
          ·rw [hxe,hem]
          ·exact hmid t ht
         ·exact dV
        ·have hlt:e.toNat<m:=by
          have:=hlo x (by rw [show en=(fr+1)+(en-(fr+1)) by omega,List.take_add];exact Y7 _ (by rw [az hx];exact Y2 _ XB));omega
         have hall:=HL hmono hx (n:=m) (by rw [hxe];exact hlt);refine ah (sr (mI ?_));refine cj (mB (gT (mL (gT (mI (gT ?_))))));refine ep (gT ?_);refine cE (k:=fr) bh.out aM.size rfl rfl Xj Xj Xk ?_;refine gT ?_;refine kz ?_;refine aD rfl rfl ?_;refine Jl ?_;refine gT (mI (gT ?_));refine j7 ?_;refine gT ?_;refine BT ?_;refine gT (mI (gT ?_));refine cR ?_;refine eR ?_;refine aa (cF (a6 (aE (aE (bq (ai ?_))))));refine ⟨⟨fr+1,hfr,rfl,BX hfr hall hmid (fun t ht=>by have:=hhi t ht;omega),hall,hh⟩, ?_⟩;exact dV
       ·obtain rfl:fr=0:=Xj;refine ah (sr (mI ?_));refine cj (mB ?_);refine gS (gS (gS (gS (gS ?_))));refine gy ?_;refine gS (gS (gS (gS (gS ?_))));refine ez ?_;refine aa (cF (a6 (aE (aE (bq (ai ?_))))));refine ⟨⟨0,hfr,rfl,BX hfr (fun t ht=>by cases ht) hmid (fun t ht=>by have:=hhi t ht;omega),(fun t ht=>by cases ht),hh⟩, ?_⟩;exact dV
     ·skip;clear hh;rintro ρ' f w' ⟨fr,hfr,rfl,hwi,hbl,hh⟩;have hnx:bJ q.ts sub p j (i+1)=iD q.ts sub p j m (bJ q.ts sub p j i):=by rw [kq,hm]
      have hop:=hlim2 i Xj he.symm;unfold iD at hnx;rw [Xp (by rw [←he];decide)] at hnx;have hmi:m=128-(i+1):=Xj;have hmi2:(127-((i+1:Nat):Int))=(m:Int)-1:=Xj;have hdf:∀t∈p.drop fr,m≤gC j t:=fun t ht=>by
       rw [JY hfr] at ht
       rcases X3.1 ht with ht|ht
       ·rw [←hwi] at ht;have:=Y1 (YC.1 ht).2;omega
       ·have:=hhi t ht;omega
      have hst:(bJ q.ts sub p j i)=(0,(bJ q.ts sub p j i).2):=by rw [he]
      generalize (bJ q.ts sub p j i).2=os at*;have hoc:on≤oc:=hh.eJ (i:=1) rfl;have hon:os.length=on:=(hh.aC (i:=1) rfl).bp TR.len Xk;have hwl:(bC p j m).length=en-fr:=by rw [hwi,XP,Yz];omega
      by_cases hsk:os.length=0∧(bC p j m).length=0
      ·rw [Xo hsk] at hnx;obtain ⟨h1,h2⟩:=hsk;obtain rfl:on=0:=Xj;obtain rfl:fr=en:=Xj;refine ah (sr (bH ?_));refine bE hh 0 ?_;refine aH ?_;refine cR (mB (gT (mI (gT (mI (gT ?_))))));refine cR ?_;refine eR ?_;refine aa (cT (a6 (aE (bq (ai (al (mI ?_)))))));refine ep (aI (aA (ai ?_)));refine ⟨⟨i+1,fr,0,ov,oA,0,oc,os,Xj,by rw [hmi2];rfl,rfl,rfl,by rw [hnx];exact he,hen,fun _=>⟨rfl,by rw [hnx,hst],fun t ht=>by rw [←hmi];exact hbl t ht,fun t ht=>by rw [←hmi];exact hdf t ht⟩,hh⟩,by show ((m:Int)-1+1).toNat<((m:Int)+1).toNat;omega, ?_⟩;exact dV
      ·rw [Xp hsk] at hnx;refine HO [70,71,72,73,74,75,76,77,78]
        (fun w'=>Hp w [.blk b10 24 [.int .i64 ov,.slice oA on oc] (0,0),.row oA on oc 80 4 (ay TR.cells os),.blk b8 24 [.int .i64 0,.slice none 0 0] (0,0)] w') ?_ ?_
       ·by_cases h0:on=0
        ·subst h0;have hne:fr≠en:=fun h=>hsk ⟨hon,Xj⟩;refine sr (bH ?_);refine bE hh 0 ?_;refine aH ?_;refine cR (mB (gT (mI (gT (mI (gT ?_))))));refine cR ?_;refine eR ?_;refine aa (cF (aq (ai ?_)));refine ⟨hh, ?_⟩;exact OO
        ·refine sr (bH ?_);refine bE hh 0 ?_;refine aH ?_;refine cR (mB ?_);refine gS (gS (gS ?_));refine ez ?_;refine aa (cF (aq (ai ?_)));refine ⟨hh, ?_⟩;exact OO
       ·skip;clear hh;rintro ρ' w' hh;obtain ⟨lad,rfl,hlr⟩:=hL.at_ Xj;have hlp:fR [⟨ov,oA,on,oc,os⟩,q]=0:=qJ hop.e (by unfold PX.e;rw [hqv];exact hqk.e) hqv;have hmu:∀(A2:Option Addr) (w1:World),dN w1→Sl w1 A2 2 2 (ay PX.cells [⟨ov,oA,on,oc,os⟩,q])→Sl w1 oA on 4 (ay TR.cells os)→Below w.heap.size w w1→Calls Tryz.prog 178 #[.slice A2 2 2] w1 fun r w'=>∃g:PX,fF (fm os q.ts) ov (aG (cA os q.ts)) g∧r=.returned (.tuple #[.agg #[.int .i64 g.v,.slice g.A g.n g.c],.int .i64 (fm os q.ts)])∧Hp w1 [g.row] w':=fun A2 w1 hT1 s1 s2 hb=>by
         have h1:=CI A2 2 2 [⟨ov,oA,on,oc,os⟩,q] 440000 505536 w1 hT1 s1 Xk Xk (fun g hg=>by
          rcases XL.1 hg with rfl|hg
          ·exact s2
          ·rw [XO.1 hg];exact (hat q (Xt hqj)).ext hb) (fun g hg=>by
          rcases XL.1 hg with rfl|hg
          ·exact ⟨by have:=hop.len;show on≤1000000;omega,hoc,hop.ok,hop.sz⟩
          ·rw [XO.1 hg];exact ⟨hql.n,hql.cap,hql.ok.mono hK,hql.sz⟩) Xk Xk
         unfold Gt at h1;rw [Xo hlp] at h1;exact h1
        refine sr ?_;refine bP hh ?_;intro b15 w15 hh;refine aa (ah (ah ?_));refine dy [] [9] [0,0,0,6,14,31,63,127,255,255,511,2047] 10 [[(10,none)],[(2,none)],[(1,none)],[(81,some 1),(82,some 2)],[(83,some 3)],[(80,some 0),(84,some 4)],[(85,some 5)],[(86,some 6)],[(79,some 7)],[(79,some 7)]] [(9,88),(8,87),(7,79),(6,86),(5,85),(4,84),(3,83),(2,82),(1,81),(0,80)] hh mixed Xl dO rfl (by repeat (first|exact cu|refine bQ ?_|refine ct ?_)) ?_;refine fG 1 [_,_] ?_;refine fS ?_;refine dJ ?_;refine ow (j) ?_;refine so [_,_] (fun _ hj=>(hlr.ext hj.hp.below).recAt PX.len hqj) ?_;refine aQ (i:=5) (iW 2 2 (ay PX.cells [⟨ov,oA,on,oc,os⟩,q])) (iW.ext) ?_ ?_
        ·intro ρ1 w1 hj hR;exact jn (sz:=2) bh.out aM.out (show wh ρ1 [(0,.tmp 80),(1,.tmp 84)]=[(0,.agg #[.int .i64 ov,.slice oA on oc]),(1,.agg #[.int .i64 q.v,.slice q.A q.n q.c])] from aN (show ρ1 80=_ from hR.1) (aN (show ρ1 84=_ from hR.2.1) bZ)) rfl rfl Xk Xk rfl fun v w2 h hb=>⟨hb,h⟩
        refine aQ (i:=6) (ki hh.sz (fm os q.ts) ov (aG (cA os q.ts))) (ki.ext) ?_ ?_
        ·intro ρ1 w1 hj hR;obtain ⟨g85,e85,o85⟩:=hR.1;exact let ⟨b,e1,s1⟩:=hR.1;aY rfl (aJ ar.out (av e1 aU)) (hmu _ w1 (hT.hp hj.hp) s1 (hj.hp.aC (i:=2) rfl) hj.hp.below) (fun _ _ ⟨g,og,hq,h3⟩=>⟨_,hq,h3.below,g,w1,rfl,og,hj.bl.size,h3⟩)
        refine aQ (i:=7) (ki hh.sz (fm os q.ts) ov (aG (cA os q.ts))) (ki.ext) ?_ ?_
        ·exact R3
        refine aQ (i:=8) (qD hh.sz (fm os q.ts) ov (aG (cA os q.ts))) (qD.ext) ?_ ?_
        ·exact RA
        refine aQ (i:=9) (Is (.int .i64 (fm os q.ts))) (Is.ext) ?_ ?_
        ·exact R1
        refine aO ?_;intro f W hJ hV _;have hb_15:=hJ.bl;obtain ⟨v88,v87,v79,v86,v85,v84,v83,v82,v81,v80,_⟩:=hV;obtain ⟨g85,e85,o85⟩:iW 2 2 (ay PX.cells [⟨ov,oA,on,oc,os⟩,q]) (f 5) W:=v85;obtain ⟨g86,u86,e86, -⟩:=v86;obtain ⟨g79,u79,e79, -⟩:=v79;obtain ⟨g87,u87,e87,o87,q87,h87⟩:=v87;replace hh:=JJ.MX hJ hh q87 h87;refine aW (bm (ae v88 (ae e87 (ae e79 (ae e86 (ae e85 (ae v84 (ae v83 (ae v82 (ae v81 (ae v80 aV))))))))))) ?_;dsimp only [cd];clear e85 e86 e79 e87 hJ;simp only [Xw,Xu] at hh;obtain ⟨gv,gA,gn,gc,gts⟩:=g87;replace hh:=show Hp w (.row gA gn gc 80 4 (ay TR.cells gts)::_) W from hh;by_cases hte:fm os q.ts=0
        ·rw [Xp (by rw [hte];decide)] at hnx;rw [hte] at o87;obtain rfl:ov=gv:=o87.v.symm;obtain rfl:aG (cA os q.ts)=gts:=o87.ts.symm;have hgc:gn≤gc:=hh.eJ (i:=0) rfl;have hgl:(aG (cA os q.ts)).length=gn:=(hh.aC (i:=0) rfl).bp TR.len Xk;have hgo:=Fe hop hqk hqT hte Xj;refine bR hh 2 [_,_] ?_;intro ws hh;replace hh:Hp _ (_::_::.blk _ _ [_,_] _::_) _:=hh;refine aI (aa (sr (mI ?_)));refine cR (aa (cT (al (mL (mI (mI ?_))))));dsimp only at hh;refine aP rfl rfl Xk (gW (lo:=some (.tmp 93)) (hi:=some (.tmp 94)) (l:=fr) (h:=en) bh.out aM.size rfl ⟨_,_,rfl,rfl⟩ ⟨_,_,rfl,rfl⟩ hfr Xj) ?_;refine mI ?_;refine bk (mL (mI ?_));refine aF (hrec m fr en _ (hT.hp hh) hh.below hfr hen hwi) ar.out rfl Xk ?_;rintro e_ w100 ⟨g2,og2,rfl,h4⟩;refine ⟨_,rfl, ?_⟩;replace hh:=hh.join h4;simp only [Xw,Xu] at hh;have hs2:=hsub m;obtain ⟨hv2,hA2,hn2,hc2,ht2⟩:=g2;replace hh:=show Hp w (.row hA2 hn2 hc2 80 4 (ay TR.cells ht2)::_) _ from hh;by_cases hE2:(sub (bC p j m)).1=0
         ·rw [Xp (by rw [hE2];decide)] at hnx;rw [hE2] at og2;obtain rfl:ov=hv2:=og2.v.symm;obtain rfl:(sub (bC p j m)).2=ht2:=og2.ts.symm;have ho2:=hs2 hE2;have hc2c:hn2≤hc2:=hh.eJ (i:=0) rfl;have hl2:((sub (bC p j m)).2).length=hn2:=(hh.aC (i:=0) rfl).bp TR.len Xk;generalize (sub (bC p j m)).2=us at*;refine mT ?_;refine dn ?_;refine dn ?_;refine bR hh 2 [_,_] ?_;intro ws hh;replace hh:Hp _ (_::_::.blk _ _ [_,_] _::_) _:=hh;refine aI (aa (ah (sr (mI ?_))));refine cR (aa (cT (al ?_)));refine cg hh 3 [_,_] ?_;refine cg hh 2 [_,_] ?_;refine EJ ?_;intro b108 w108 hh;dsimp only at hh;have hlp2:fR [⟨ov,gA,gn,gc,aG (cA os q.ts)⟩,⟨ov,hA2,hn2,hc2,us⟩]=0:=qJ hgo.e ho2.e rfl;have had:=pj (some ⟨b108,0,none⟩) 2 2 [⟨ov,gA,gn,gc,aG (cA os q.ts)⟩,⟨ov,hA2,hn2,hc2,us⟩] 2000000 _ (hT.hp hh) (hh.aC (i:=0) rfl) Xk (fun g hg=>by
           rcases XL.1 hg with rfl|hg
           ·exact hh.aC (i:=2) rfl
           ·rw [XO.1 hg];exact hh.aC (i:=1) rfl) (fun g hg=>by
           rcases XL.1 hg with rfl|hg
           ·exact ⟨by have:=hgo.len;show gn≤1000000;omega,hgc,hgo.ok.mono Xj,hgo.sz⟩
           ·rw [XO.1 hg];exact ⟨by have:=ho2.len;show hn2≤1000000;omega,hc2c,ho2.ok.mono Xj,ho2.sz⟩) Xk
          unfold GU at had;rw [Xo hlp2,JH] at had;dsimp only at had;refine aF (had) ar.out rfl Xk ?_;rintro e_ w109 ⟨g3,og3,rfl,h5⟩;refine ⟨_,rfl, ?_⟩;replace hh:=hh.join h5;simp only [Xw,Xu] at hh;obtain ⟨hv3,hA3,hn3,hc3,ht3⟩:=g3;replace hh:=show Hp w (.row hA3 hn3 hc3 80 4 (ay TR.cells ht3)::_) _ from hh;refine mT ?_;refine dn ?_;refine dn ?_;refine bR hh 5 [_,_] ?_;intro ws hh;replace hh:Hp _ (_::_::_::_::_::.blk _ _ [_,_] _::_) _:=hh;refine aI (aa (al (mI (aI (aA (bz (ai (al (mI ?_)))))))));refine ep (aI (aA (ai ?_)));replace hh:=hh.sub (Xq _ (Xv _ (Xv _ (Xv _ (Xv _ (Xq _ (Xv _ (Xq _ XU))))))));replace hh:=hh.perm (XX (l₁:=[_]));simp only [Xw,Xu] at hh;try dsimp only at hh
          refine ⟨⟨i+1,fr,gD (aG (cA os q.ts)++us),hv3,hA3,hn3,hc3,ht3,Xj,by rw [hmi2];rfl,rfl,rfl, ?_,Xj,fun h=>⟨?_, ?_,fun t ht=>by rw [←hmi];exact hbl t ht,fun t ht=>by rw [←hmi];exact hdf t ht⟩,hh⟩,by show ((m:Int)-1+1).toNat<((m:Int)+1).toNat;omega, ?_⟩
          ·rw [hnx];by_cases hg:gD (aG (cA os q.ts)++us)≠0
           ·rw [Xo hg]
           ·rw [Xp hg];omega
          ·have:=og3.v;rw [Xo h] at this;exact this
          ·rw [hnx,Xp (by rw [h];decide)];have:=og3.ts;rw [Xo h] at this;exact this
          ·exact dV
         ·rw [Xo hE2] at hnx;refine mT ?_;refine dn ?_;refine dn ?_;refine bR hh 2 [_,_] ?_;intro ws hh;replace hh:Hp _ (_::_::.blk _ _ [_,_] _::_) _:=hh;refine aI (aa (ah (sr (mI ?_))));refine cR (aa (cF (aq (ai (al (mI (aI (aA (bz (ai (al (mI ?_))))))))))));refine ep (aI (aA (ai ?_)));replace hh:=hh.sub (Xv _ (Xq _ (Xv _ (Xq _ (Xv _ (Xq _ XU))))));replace hh:=hh.perm (XX (l₁:=[_]));simp only [Xw,Xu] at hh;refine ⟨⟨i+1,fr,_,ov,gA,gn,gc,aG (cA os q.ts),Xj,by rw [hmi2];rfl,rfl,rfl,by rw [hnx],Xj,fun h=>absurd h hE2,hh⟩,by show ((m:Int)-1+1).toNat<((m:Int)+1).toNat;omega, ?_⟩;exact dV
        ·rw [Xo hte] at hnx;refine bR hh 2 [_,_] ?_;intro ws hh;replace hh:Hp _ (_::_::.blk _ _ [_,_] _::_) _:=hh;refine aI (aa (sr (mI ?_)));refine cR (aa (cF (aq (ai (ah (sr (mI ?_)))))));refine cR (aa (cF (aq (ai (al (mI (aI (aA (bz (ai (al (mI ?_))))))))))));refine ep (aI (aA (ai ?_)));replace hh:=hh.sub (Xq _ (Xv _ (Xq _ (Xv _ (Xq _ XU)))));replace hh:=hh.perm (XX (l₁:=[_]));simp only [Xw,Xu] at hh;refine ⟨⟨i+1,fr,fm os q.ts,gv,gA,gn,gc,gts,Xj,by rw [hmi2];rfl,rfl,rfl,by rw [hnx],Xj,fun h=>absurd h hte,hh⟩,by show ((m:Int)-1+1).toNat<((m:Int)+1).toNat;omega, ?_⟩;exact dV
    ·have hfin:bJ q.ts sub p j 128=bJ q.ts sub p j i:=by
      by_cases h8:i=128
      ·rw [h8]
      ·exact j3 Xj hi
     rw [hfin];by_cases he0:e=0
     ·subst he0;obtain ⟨rfl,rfl, -, -⟩:=hok0 rfl;clear hok0 hfin;generalize bJ q.ts sub p j i=X at*;obtain rfl:i=128:=Xj;rw [←he];refine ah (sr (mI ?_));refine dL (mB ?_);refine gS (gS ?_);refine ez ?_;refine aa (cF (a6 (aE (aE (bq (ai (ah (sr (mI ?_)))))))));refine wV ?_;refine cg hh 0 [_,_] ?_;refine bR hh 2 [_,_] ?_;intro ws hh;replace hh:Hp _ (_::_::.blk _ _ [_,_] _::_) _:=hh;refine aI (aa (aw ?_));refine qH ?_;exact ⟨⟨ov,oA,on,oc,_⟩,⟨rfl,rfl⟩,rfl,hh.sub (.cons _ (Xq _ (YE _)))⟩
     ·rw [←he];clear hok0 hfin;generalize bJ q.ts sub p j i=X at*;by_cases h8:i=128
      ·subst h8;refine ah (sr (mI ?_));refine dL (mB ?_);refine gS (gS ?_);refine ez ?_;exact UC
      ·refine ah (sr (mI ?_));refine dL (mB (gT (mI (gT ?_))));refine cR ?_;refine eR ?_;exact UC
def dw (p:PX) (ls:List PX):Int×List TR:=
 if p.e≠0 then (p.e,[]) else if (ls.length:Int)≠p.v then (1,[]) else if ls.length≠0∧fR ls≠0 then (fR ls,[]) else eT (fH ls) (ls.map PX.ts) 0 p.ts
theorem Eb (f:PX) (p:Addr) (x:Int) (w:World) (hp:w.cell? p=some (.int .i64 x)):
  Calls Tryz.prog 140 #[.agg #[.int .i64 f.v,.slice f.A f.n f.c],.pointer (some p)] w fun r w'=>r=.returned (.bool (decide (f.v≠x)))∧Below w.heap.size w w':=by
 have hh:=Hp.start w;by_cases hg:f.v=x
 ·refine aj (N:=8) (l:=[.agg #[.int .i64 f.v,.slice f.A f.n f.c],.pointer (some p)]) Tryz.func140 rfl rfl (by simp) ?_;refine sr ?_;refine cv hh [_,_] ?_;intro b2 w2 hh;refine aB (aa (sr (bH ?_)));refine bE hh 0 ?_;refine od ?_;exact Q7
 ·refine aj (N:=8) (l:=[.agg #[.int .i64 f.v,.slice f.A f.n f.c],.pointer (some p)]) Tryz.func140 rfl rfl (by simp) ?_;refine sr ?_;refine cv hh [_,_] ?_;intro b2 w2 hh;refine aB (aa (sr (bH ?_)));refine bE hh 0 ?_;refine od ?_;exact QT
structure Vg (p:PX) (ls:List PX) (k K T c0:Nat) (ds:List Nat):Prop where
 len:ds.length=ls.length
 U0:∀(i d:Nat),ds[i]?=some d→d≤127∧∀t∈p.ts,gC i t≤d
 grow:fK c0 ds (k+1)≤440000
 step:K+4096*T+8192≤c0
 top:c0≤440000
 k8:∀g∈ls,g.k8 K
 QX:∀g∈ls,g.ts.length≤T
theorem Cc {v:Int} (h:jy v ts=0):Gz v 0 ts:=by
 obtain ⟨_,_,h3,h4⟩:=cK h;exact ⟨h4.sM,h3,fun a _ b _=>by rw [ZH,ZH]⟩
theorem qC (p:PX) (lA:Option Addr) (lc:Nat) (ls:List PX) (k K T c0:Nat) (ds:List Nat) (w:World) (hT:dN w) (hp:p.at_ w) (lp:p.k8 k) (hL:Sl w lA ls.length 2 (ay PX.cells ls)) (hat:∀g∈ls,g.at_ w) (hlc:ls.length≤lc) (hf:Vg p ls k K T c0 ds):
  Calls Tryz.prog 91 #[.agg #[.int .i64 p.v,.slice p.A p.n p.c],.slice lA ls.length lc] w fun r w'=>∃g:PX,fF (dw p ls).1 (fH ls) (dw p ls).2 g∧r=.returned (.tuple #[.agg #[.int .i64 g.v,.slice g.A g.n g.c],.int .i64 (dw p ls).1])∧Hp w [g.row] w':=by
 have hh:=Hp.start w;have hck:=fun w1 hT1 hb=>lO p k w1 hT1 (hp.ext hb) lp;unfold dw;by_cases h0:p.e≠0
 ·rw [Xo h0];generalize p.e=e at*;refine aj (N:=54) (l:=[.agg #[.int .i64 p.v,.slice p.A p.n p.c],.slice lA ls.length lc]) Tryz.func91 rfl rfl (by simp) ?_;refine sr ?_;refine cv hh [_,_] ?_;intro b2 w2 hh;refine bP hh ?_;intro b4 w4 hh;refine aI (aa (ah (sr ?_)));refine cg hh 1 [_,_] ?_;refine eu ?_;intro w12 hh;exact Nb
 ·rw [Xp h0];have hpe:p.e=0:=Xj;rw [hpe] at hck;by_cases h1:(ls.length:Int)≠p.v
  ·rw [Xo h1];refine aj (N:=54) (l:=[.agg #[.int .i64 p.v,.slice p.A p.n p.c],.slice lA ls.length lc]) Tryz.func91 rfl rfl (by simp) ?_;refine sr ?_;refine cv hh [_,_] ?_;intro b2 w2 hh;refine bP hh ?_;intro b4 w4 hh;refine aI (aa (ah (sr ?_)));refine cg hh 1 [_,_] ?_;refine eu ?_;intro w12 hh;refine aI (aa (sr (mI ?_)));refine n9 ?_;refine bE hh 1 ?_;refine cJ (aa (cT (sr ?_)));exact Pd
  ·rw [Xp h1];obtain ⟨hfw,h4,hmy,hca⟩:=cK hpe;replace hfw:=gK.1 hfw;have hl12:ls.length≤12:=Xj;have hpl:=hp.ln;have hsr:=Cc hpe;have hput:=fun (v:Int) (hv:jd v=true) (hz:∀g∈ls,jy v g.ts=0) (hvv:∀g∈ls,g.v=v) w1 hT1 hb=>Em lA lc K T c0 v ls hv hlc hl12 (fun g hg=>⟨⟨hz g hg,(hf.k8 g hg).ok,(hf.k8 g hg).sz⟩,hvv g hg,hf.k8 g hg,hf.QX g hg⟩) hf.step hf.top ls 0 p.ts p.A p.n p.c ds k w1 rfl (Xs _) hT1 (hL.ext hb) (fun g hg=>(hat g hg).ext hb) (hp.ext hb) lp.cap (by rw [show ((ls.length:Nat):Int)=p.v by omega];exact hsr) lp.ok Xj hf.len (fun i d h=>by rw [XJ];exact hf.U0 i d h) hf.grow;by_cases hn:ls=[]
   ·subst hn;rw [Xp (fun h=>h.1 rfl)];have hpu:=hput 0 rfl (fun g hg=>by cases hg) (fun g hg=>by cases hg);refine aj (N:=54) (l:=[.agg #[.int .i64 p.v,.slice p.A p.n p.c],.slice lA 0 lc]) Tryz.func91 rfl rfl (by simp) ?_;refine sr ?_;refine cv hh [_,_] ?_;intro b2 w2 hh;refine bP hh ?_;intro b4 w4 hh;refine aI (aa (ah (sr ?_)));refine cg hh 1 [_,_] ?_;refine eu ?_;intro w12 hh;refine aI (aa (sr (mI ?_)));refine n9 ?_;refine bE hh 1 ?_;refine wV ?_;refine bP hh ?_;intro b7 w7 hh;refine bR hh 0 [_] ?_;intro ws hh;replace hh:Hp _ (.blk _ _ [_] _::_) _:=hh;refine aa (ah (sr (mL (aH ?_))));refine cj (aa (cF (aq (ai (sr (bH ?_))))));refine bE hh 2 ?_;refine mL ?_;refine bE hh 0 ?_;replace hh:=show Hp w (.blk b7 3 [.int .i64 0] (0,0)::_) _ from hh;exact Qp
   ·have hlp0:0<ls.length:=List.length_pos_iff.2 hn;obtain ⟨lad,rfl,hlr⟩:=hL.at_ hlp0;refine aj (N:=54) (l:=[.agg #[.int .i64 p.v,.slice p.A p.n p.c],.slice (some lad) ls.length lc]) Tryz.func91 rfl rfl (by simp) ?_;refine sr ?_;refine cv hh [_,_] ?_;intro b2 w2 hh;refine bP hh ?_;intro b4 w4 hh;refine aI (aa (ah (sr ?_)));refine cg hh 1 [_,_] ?_;refine eu ?_;intro w12 hh;refine aI (aa (sr (mI ?_)));refine n9 ?_;refine bE hh 1 ?_;refine wV ?_;refine bP hh ?_;intro b7 w7 hh;refine bR hh 0 [_] ?_;intro ws hh;replace hh:Hp _ (.blk _ _ [_] _::_) _:=hh;refine aa (ah (sr (mL (aH ?_))));refine cj (aa (cT (ah (sr (mL (aH (mI (aa (ao ?_)))))))));replace hh:=show Hp w (.blk b7 3 [.int .i64 0] (0,0)::_) _ from hh;refine aR [5,9,10,28,29,30,31,32,33,34,35,36,37,38] 28
     (fun v w'=>∃i:Nat,i≤ls.length∧v=.int .i64 i∧(ls.take i).any (fun g=>decide (g.e≠0))=false∧Hp w [.blk b7 3 [.int .i64 0] (0,0),.blk b4 24 [.int .i64 0,.slice none 0 0] (0,0),.blk b2 24 [.int .i64 p.v,.slice p.A p.n p.c] (0,0)] w')
     (fun v _=>ls.length-(intOf v).toNat) ?_ ?_
    ·exact ⟨0,Xs _,rfl,rfl,hh⟩
    ·clear hh;rintro ρ' v w' ⟨i,hi,rfl,hall,hh⟩;by_cases hlt:i<ls.length
     ·obtain ⟨g,hx⟩:=ak (l:=ls) (k:=i) hlt;have hmem:=Xt hx;have hc:=fun w1 hT1 hb=>lO g K w1 hT1 ((hat g hmem).ext hb) (hf.k8 g hmem);by_cases he:g.e=0
      ·refine sr ?_;refine dT ?_;refine cx ?_;refine cq (vs:=[_,_]) aM.out rfl ((hlr.ext hh.below).recAt PX.len hx) rfl Xk ?_;refine bP hh ?_;intro b9 w9 hh;refine bR hh 0 [_,_] ?_;intro ws hh;replace hh:Hp _ (.blk _ _ [_,_] _::_) _:=hh;refine aa (sr ?_);refine cg hh 0 [_,_] ?_;refine bA hh (hc _ (hT.hp hh) hh.below) rfl ?_;intro w33 hh;refine aI (aa (sr (mI ?_)));refine cJ (aa (cF (aq (bz (ai (al ?_))))));refine bk (mI (aA (ai ?_)));replace hh:=hh.sub (Xv _ (Xq _ (Xq _ (Xq _ XU))));refine ⟨⟨i+1,Xj,rfl,by rw [az hx,aag,hall,aao,aaj,XM Xj];rfl,hh⟩,by show ls.length-(i+1)<ls.length-i;omega, ?_⟩;exact dV
      ·have hlk:fR ls=g.e:=by unfold fR;rw [xX hall hx (XH he)]
       rw [Xo ⟨Xj,by rw [hlk];exact he⟩,hlk];refine sr ?_;refine dT ?_;refine cx ?_;refine cq (vs:=[_,_]) aM.out rfl ((hlr.ext hh.below).recAt PX.len hx) rfl Xk ?_;refine bP hh ?_;intro b9 w9 hh;refine bR hh 0 [_,_] ?_;intro ws hh;replace hh:Hp _ (.blk _ _ [_,_] _::_) _:=hh;refine aa (sr ?_);refine cg hh 0 [_,_] ?_;refine bA hh (hc _ (hT.hp hh) hh.below) rfl ?_;intro w33 hh;refine aI (aa (sr (mI ?_)));refine cJ (aa (cT (sr ?_)));refine fP [_,_] (mI ?_);refine bR hh 2 [_,_] ?_;intro ws hh;replace hh:Hp _ (_::_::.blk _ _ [_,_] _::_) _:=hh;refine aI (aa (aw (cf (aK (aK (cf (aK (aK ?_))))))));refine qH ?_;exact Lb
     ·rw [Xz Xj] at hall;have hlk:fR ls=if ls.length=0∨zm ls=true then 1 else 0:=by unfold fR;rw [j2 hall]
      obtain ⟨g0,h00⟩:=ak (l:=ls) (k:=0) hlp0;have hhv:fH ls=g0.v:=by
       cases ls with
       |nil=>cases hlp0
       |cons x l=>cases h00;rfl
      have hall0:∀g∈ls,g.e=0:=fun g hg=>by
       have:=Zf.1 hall g hg;simpa using this
      refine sr ?_;refine oI ?_;refine EZ ?_;refine kz ?_;refine bU aM.out rfl (((hlr.ext hh.below).recAt PX.len h00).cell (i:=0) rfl) Xk ?_;refine bR hh 0 [_] ?_;intro ws hh;replace hh:Hp _ (.blk _ _ [_] _::_) _:=hh;refine aa (sr (mL ?_));refine sa ?_;replace hh:=show Hp w (.blk b7 3 [.int .i64 g0.v] (0,0)::_) _ from hh;rw [←hhv] at hh;have hcell:World.cell? _ ⟨b7,0,none⟩=some (.int .i64 (fH ls)):=hh.dE (i:=0) rfl rfl;have hoa:=fun w1 hb=>vP (some lad) ls.length lc ls 140 [.pointer (some ⟨b7,0,none⟩)] (fun g=>decide (g.v≠fH ls)) w1 (hL.ext (hh.below.trans (hb.mono hh.below.size))) Xj (fun z w2 hz hb2=>Eb z ⟨b7,0,none⟩ (fH ls) w2 (cN hb2 (cN hb hcell)))
      cases hod:zm ls with
      |true=>
       have hod2:ls.any (fun g=>decide (g.v≠fH ls))=true:=hod;rw [hod2] at hoa;have hl1:fR ls=1:=by rw [hlk,Xo (.inr hod)]
       rw [Xo ⟨Xj,by rw [hl1];decide⟩,hl1];refine bA hh (hoa _ (Below.refl _ _)) rfl ?_;intro w45 hh;refine aa (cT (sr ?_));refine fP [_,_] ?_;refine bR hh 1 [_,_] ?_;intro ws hh;replace hh:Hp _ (_::.blk _ _ [_,_] _::_) _:=hh;refine aI (aa (aw (aK ?_)));refine Gb ?_;exact ⟨PX.nil,fF.err Xk,rfl,(hh.sub (YE _)).D8⟩
      |false=>
       have hod2:ls.any (fun g=>decide (g.v≠fH ls))=false:=hod;rw [hod2] at hoa;have hl0:fR ls=0:=by
        rw [hlk,Xp (fun h=>h.elim (fun h=>by omega) fun h=>by rw [hod] at h;cases h)]
       rw [Xp (fun h=>h.2 hl0)];have hvv:=(zD hl0).2.2;have hg0:=hall0 g0 (Xt h00);unfold PX.e at hg0;have hpu:=hput (fH ls) (by rw [hhv];exact (cK hg0).1) (fun g hg=>by rw [←hvv g hg];exact hall0 g hg) hvv;refine bA hh (hoa _ (Below.refl _ _)) rfl ?_;intro w45 hh;refine pQ ?_;refine bE hh 2 ?_;refine mL ?_;refine bE hh 0 ?_;exact Qp
theorem FT {o p:PX}{os ls:List PX} (hv:o.v=p.v) (ht:o.ts=p.ts) (h:os.map PX.norm=ls.map PX.norm):dw o os=dw p ls∧fH os=fH ls:=by
 have h1:fR os=fR ls:=by rw [←xh,h,xh]
 have h2:fH os=fH ls:=by rw [←uT,h,uT]
 have h3:os.length=ls.length:=by have:=Yu List.length h;rwa [XA,XA] at this
 have h4:os.map PX.ts=ls.map PX.ts:=by
  have:=Yu (List.map PX.ts) h;rw [Ym,Ym] at this;exact this
 refine ⟨?_,h2⟩;unfold dw PX.e;rw [hv,ht,h1,h2,h3,h4]
theorem jk {v:Int} (hv:jd v=true) (hm:∀t∈l,fa v t=true) (ho:iT k l) (hz:∀t∈l,t.m.size≤100000) (hl:l.length≤n) (hn:n≤4096) (hk:k+n≤3999990):jl v (k+n) (aG l):=
 ⟨iu hv (XV (cz _) Xj) hm,lS ho Xj Xj,pf hz⟩
def ng (v i:Nat):List TR:=aG [⟨k5 v i,nR ((1:Int):Dyadic)⟩]
def lC (v:Nat) (x:Dyadic):List TR:=aG [⟨er v,nR x⟩]
def tY (v i:Nat) (x:Dyadic):List TR:=aG ((ng v i).map (oN x))
def gP (v i:Nat) (s:SR):List TR:=aG (lC v s.L++tY v i (s.H-s.L))
def br (b:List SR):List PX:=b.mapIdx fun i s=>⟨b.length,none,0,0,gP b.length i s⟩
theorem fL {v:Nat} (h:v≤12):jd (v:Int)=true:=gK.2 ⟨Xj,Xj⟩
theorem tK {v i:Nat} (h:v≤12):jl (v:Int) 3 (ng v i):=by
 have hs:((k5 v i).size:Int)=v:=qU Xj;refine jk (k:=2) (n:=1) (fL h) (fun t ht=> ?_) (fun t ht=> ?_) (fun t ht=> ?_) (Xr _) Xk Xk
 ·rw [XO.1 ht];unfold fa;rw [XF,XN];exact ⟨Be v i,hs⟩
 ·rw [XO.1 ht];exact ⟨Sz.one.ok Xk,by show Sz 2 (nR _).d;rw [bI];exact Sz.one.mono Xk⟩
 ·rw [XO.1 ht];show (k5 v i).size≤100000;omega
theorem tO {v:Nat}{x:Dyadic} (h:v≤12) (hx:Sz k x) (hk:k≤900000):jl (v:Int) (k+1) (lC v x):=rM (fL h) (by show Sz k (nR x).d;rw [bI];exact hx) hk
theorem EV {v i:Nat}{x:Dyadic} (h:v≤12) (hx:Sz k x) (hk:k≤400000):jl (v:Int) (k+k+4) (tY v i x):=by
 have hv:=tK (i:=i) h;have hl:((ng v i).map (oN x)).length≤1:=by rw [XA];exact cz _
 refine (jk (k:=3+k) (n:=1) (fL h) (fun t ht=> ?_) (FQ hv.ok hx Xj) (fun t ht=> ?_) hl Xk Xj).mono (by
  by_cases h0:k=0
  ·omega
  ·omega)
 ·obtain ⟨s,hs,rfl⟩:=XG.1 ht;exact (cK hv.e).2.2.1 s hs
 ·obtain ⟨s,hs,rfl⟩:=XG.1 ht;exact hv.sz s hs
theorem nw {v i:Nat}{s:SR} (h:v≤12) (hs:s.fin k) (hk:k≤100000):jl (v:Int) (k+k+10) (gP v i s)∧(gP v i s).length≤2:=by
 have h1:=tO h (SR.GR hs) Xj;have h2:=EV (i:=i) h ((SR.MP hs).sub (SR.GR hs)) Xj;have hl:(lC v s.L++tY v i (s.H-s.L)).length≤2:=by
  rw [Xy];have a1:(lC v s.L).length≤1:=cz _;have a2:(tY v i (s.H-s.L)).length≤1:=XV (cz _) (by rw [XA];exact cz _);omega
 have hm:∀{P:TR→Prop},(∀t∈lC v s.L,P t)→(∀t∈tY v i (s.H-s.L),P t)→∀t∈lC v s.L++tY v i (s.H-s.L),P t:=fun a b t ht=>(X3.1 ht).elim (a t) (b t);refine ⟨(jk (k:=k+1+(k+1)+4) (n:=2) (fL h) (hm (cK h1.e).2.2.1 (cK h2.e).2.2.1) (hm (h1.ok.mono Xj) h2.ok) (hm h1.sz h2.sz) hl Xk Xj).mono Xj,XV (cz _) hl⟩
theorem gl {b:List SR}{i:Nat}{s:SR} (h:b[i]?=some s):(br b)[i]?=some ⟨b.length,none,0,0,gP b.length i s⟩:=by
 unfold br;rw [ZE,h]
 rfl
theorem j6 (b:List SR):(br b).length=b.length:=by unfold br;rw [aau]
theorem DC {b:List SR}{g:PX} (h:g∈br b):∃i s,b[i]?=some s∧g=⟨b.length,none,0,0,gP b.length i s⟩:=by
 obtain ⟨i,hi⟩:=YJ.1 h;obtain ⟨s,hs⟩:=ak (l:=b) (k:=i) (by have:=(XE.1 hi).1;rwa [j6] at this);rw [gl hs] at hi;exact ⟨i,s,hs,(Yd hi).symm⟩
theorem Ps {i:Nat} (h:n≤12) (hi:i<n):vN n i=0:=Xp (by rw [fL h];rintro (a|a|a)<;>first|cases a|omega)
theorem Rh (h:n≤12):Ap n=0:=Xp (by rw [fL h];decide)
theorem zg (p:PX) (L:Option Addr) (n c:Nat) (b:List SR) (k:Nat) (ds:List Nat) (w:World) (hT:dN w) (hp:p.at_ w) (lp:p.k8 k) (hB:Sl w L n 6 (ay SR.cells b)) (hb:∀s∈b,s.fin k) (hv:p.v=n) (hn0:0<n) (hn:n≤12) (hk:k≤1000)
  (hds:ds.length=n) (hex:∀(i d:Nat),ds[i]?=some d→d≤127∧∀t∈p.ts,gC i t≤d) (hgr:fK (k+k+16394) ds (k+1)≤440000):
  Calls Tryz.prog 44 #[.agg #[.int .i64 p.v,.slice p.A p.n p.c],.slice L n c] w fun r w'=>∃g:PX,fF (dw p (br b)).1 n (dw p (br b)).2 g∧r=.returned (.tuple #[.agg #[.int .i64 g.v,.slice g.A g.n g.c],.int .i64 (dw p (br b)).1])∧Hp w [g.row] w':=by
 have hh:=Hp.start w;have hbl:b.length=n:=hB.bp SR.len Xk;have hok:∀s∈b,s.ok:=fun s hs=>⟨(hb s hs).1.ok,(hb s hs).2.ok⟩;have hfo:=fun w1 hT1 hb1=>mV L n c b w1 hT1 (hB.ext hb1) hok Xj;have hhv:fH (br b)=n:=by
  obtain ⟨s,hs⟩:=ak (l:=b) (k:=0) Xj;rw [lF (gl hs),hbl]
 refine aj (N:=67) (l:=[.agg #[.int .i64 p.v,.slice p.A p.n p.c],.slice L n c]) Tryz.func44 rfl rfl (by simp) ?_;refine sr ?_;refine cv hh [_,_] ?_;intro b2 w2 hh;refine bP hh ?_;intro b4 w4 hh;refine aI (aa (sr (aL (aa (ah (sr (mL ?_)))))));refine aF (hfo _ (hT.hp hh) hh.below) ar.out rfl Xk ?_;rintro e_ w18 ⟨A18,c18,rfl,hown_,hb_⟩;refine ⟨_,rfl, ?_⟩;replace hh:=hh.aX (x:=.row _ _ _ _ _ _) hb_ hown_;refine aH (mI (aa (ao ?_)));replace hh:=hh.cU 24 2;refine bK [6,7,8,9,10,11,12,13,14,15,16,20,21,22,23,24,25,26,27,28,29,30,31,32,33,34,35,36,37,38,39,40,41,42,43,44,45,46,47,48,49,50,51,52,53,54,55,56,57,58,59,60,61] 6 20
  (fun a v w'=>∃(i c3:Nat) (A:Option Addr) (os:List PX) (R:List HE),i≤n∧v=.int .i64 i∧a=.slice A i c3∧os.length=i∧Ai ((br b).map fun g=>⟨g.v,none,g.ts.length,0,g.ts⟩) os R∧Hp w (.row A i c3 24 2 (ay PX.cells os)::.row A18 n c18 70 6 (ay SR.cells (b.map SR.f))::.blk b4 24 [.int .i64 0,.slice none 0 0] (0,0)::.blk b2 24 [.int .i64 p.v,.slice p.A p.n p.c] (0,0)::R) w')
  (fun _ v _=>n-(intOf v).toNat) ?_ ?_
 ·exact Qo
 ·clear hh;rintro ρ' a_ v w' ⟨i,c3,A,os,R,hi,rfl,rfl,hol,hcp,hh⟩;by_cases hlt:i<n
  ·obtain ⟨s,hs⟩:=ak (l:=b) (k:=i) Xj;have hsf:=hb s (Xt hs);have hsn:(b.map SR.f)[i]?=some s.f:=by rw [Xx,hs];rfl
   have zL:=SR.GR hsf;have zH:=SR.MP hsf;have zW:=zH.sub zL;obtain ⟨po,pl⟩:=nw (v:=n) (i:=i) hn hsf Xj;have vo:=tK (i:=i) hn;have fo:=EV (i:=i) hn zW Xj;have co:=tO hn zL Xj;have hva:=fun w1 hT1=>vE (n:Int) (i:Int) w1 hT1;rw [Ps hn hlt] at hva;have hsu:=fun w1 hT1=>kx (nR s.H) (nR s.L) w1 hT1 (zH.ok Xj) (zL.ok Xj) k (by rw [bI];exact zH) (by rw [bI];exact zL) Xj;rw [bI,bI] at hsu;have hcn:=fun w1 hT1=>jQ (n:Int) (nR s.L) k w1 hT1 ⟨zL.ok Xj,by rw [bI];exact zL⟩ Xj;rw [Rh hn] at hcn;rw [YN] at hva;have hV:aG [⟨k5 n i,nR ((1:Int):Dyadic)⟩]=ng n i:=rfl;have hC:aG [⟨er n,nR s.L⟩]=lC n s.L:=rfl;have hF:aG ((ng n i).map (oN (s.H-s.L)))=tY n i (s.H-s.L):=rfl;have hP:aG (lC n s.L++tY n i (s.H-s.L))=gP n i s:=rfl;have tl1:(ng n i).length≤1:=cz _;have ul1:(lC n s.L).length≤1:=cz _;have fl1:(tY n i (s.H-s.L)).length≤1:=XV (cz _) (by rw [XA];exact cz _);have hps:=gl hs;rw [hbl] at hps;rw [hV] at hva;rw [hC] at hcn;clear hV hC;generalize ng n i=VL at*;generalize lC n s.L=CL at*;generalize tY n i (s.H-s.L)=FL at*;generalize gP n i s=PL at*
   obtain ⟨gf,rfl⟩:=hh.cn (i:=1) rfl Xj;refine sr ?_;refine dR ?_;refine fT ?_;refine cq (vs:=[_,_,_,_,_,_]) aM.out rfl (hh.fV (f:=SR.cells) (x:=s.f) (l:=b.map SR.f) (i:=1) rfl SR.len Xk hsn) rfl Xk ?_;refine bP hh ?_;intro b8 w8 hh;refine aI ?_;refine bR hh 0 [_,_,_,_,_,_] ?_;intro ws hh;replace hh:Hp _ (.blk _ _ [_,_,_,_,_,_] _::_) _:=hh;refine aa (sr (mL (aH (mI ?_))));replace hh:=show Hp w (.blk b8 70 [.bool (nR s.L).neg,.string (nR s.L).bg,.int .i64 (nR s.L).e,.bool (nR s.H).neg,.string (nR s.H).bg,.int .i64 (nR s.H).e] (0,0)::_) _ from hh;refine aF (hva _ (hT.hp hh)) ar.out rfl Xk ?_;rintro e_ w29 ⟨t,ot,rfl,h4⟩;refine ⟨_,rfl, ?_⟩;have htc:t.n≤t.c:=h4.eJ (i:=0) rfl;replace hh:=hh.join h4;clear h4;simp only [Xw,Xu] at hh;obtain ⟨tv,tA,tn,tc,tt⟩:=t;replace hh:=show Hp w (.row tA tn tc 80 4 (ay TR.cells tt)::_) _ from hh;have et:VL=tt:=ot.t0.symm;have ev_:tv=(n:Int):=ot.v0;subst et ev_;have tln:VL.length=tn:=(hh.aC (i:=0) rfl).bp TR.len Xk
   have hsc:=fun w1 hT1 ha=>yM ⟨n,tA,tn,tc,VL⟩ (nR (s.H-s.L)) (k+3) w1 hT1 ha ⟨by show tn≤1000000;omega,htc,vo.ok.mono Xj,vo.sz⟩ ⟨zW.ok Xj,by rw [bI];exact zW.mono Xj⟩ Xj;have hse:G4 ⟨n,tA,tn,tc,VL⟩ (s.H-s.L)=0:=by
    unfold G4 PX.e;rw [vo.e,Xo rfl];exact me (by rw [XA];show VL.length≤4096;omega)
   rw [bI,hse] at hsc;dsimp only at hsc;rw [hF] at hsc;refine mT ?_;refine dn ?_;refine dn ?_;refine bP hh ?_;intro b9 w9 hh;refine bR hh 0 [_,_] ?_;intro ws hh;replace hh:Hp _ (.blk _ _ [_,_] _::_) _:=hh;refine aI (aa (ah ?_));refine dy [10] [9] [0,0,2,0,8,30,63,127,255,255,0,1535,4095] 11 [[(9,none)],[(8,none)],[(34,some 1)],[(8,none)],[(36,some 3)],[(35,some 2),(37,some 4)],[(33,some 0),(38,some 5)],[(39,some 6)],[(32,some 7)],[(32,some 7)],[]] [(10,11),(9,41),(8,40),(7,32),(6,39),(5,38),(4,37),(3,36),(2,35),(1,34),(0,33)] hh mixed Xl (jV rfl aM.out dO) rfl (by repeat (first|exact cu|refine bQ ?_|refine ct ?_)) ?_;refine fG 0 [_,_] ?_;refine ej ?_;refine fG 2 [_,_,_] ?_;refine ej ?_;refine fG 2 [_,_,_] ?_;refine dC (fun _ hj=>hsu _ (hT.hp hj.hp)) ?_;refine aQ (i:=6) (ki hh.sz 0 n FL) (ki.ext) ?_ ?_
   ·intro ρ1 w1 hj hR;exact aY rfl (aJ ar.out (av (show ρ1 33=Value.agg (List.toArray _) from hR.1) (av (show ρ1 38=Value.agg (List.toArray _) from hR.2.1) aU))) (hsc w1 (hT.hp hj.hp) (hj.hp.aC (i:=1) rfl)) (fun _ _ ⟨g,og,hq,h3⟩=>⟨_,hq,h3.below,g,w1,rfl,og,hj.bl.size,h3⟩)
   refine aQ (i:=7) (ki hh.sz 0 n FL) (ki.ext) ?_ ?_
   ·exact R3
   refine aQ (i:=8) (kp hh.sz 0 n FL) (kp.ext) ?_ ?_
   ·exact RA
   refine aQ (i:=9) (Is (.int .i64 0)) (Is.ext) ?_ ?_
   ·exact R1
   refine aQ (i:=10) (dm _ 24 _) dm.ext (fun ρ1 w1 hj hR=>jz aM.out hj.bl (fun v w2 h hb=>⟨hb,h⟩)) ?_;refine aO ?_;intro f W hJ hV _;have hb_6:=hJ.bl;obtain ⟨v11,v41,v40,v32,v39,v38,v37,v36,v35,v34,v33,_⟩:=hV;obtain ⟨g39,u39,e39, -⟩:=v39;obtain ⟨g32,u32,e32, -⟩:=v32;obtain ⟨g40,u40,e40,o40,q40,h40⟩:=v40;obtain ⟨b11,e11,hl11,hc11⟩:dm _ _ _ (f 10) W:=v11;replace hh:=hJ.rB hh hl11 hc11 q40 h40 (PX.ne h40 hc11 Xk);refine aW (bm (ae e11 (ae v41 (ae e40 (ae e32 (ae e39 (ae v38 (ae v37 (ae v36 (ae v35 (ae v34 (ae v33 aV)))))))))))) ?_;dsimp only [cd];clear e39 e32 e40 e11 hJ;simp only [Xw,Xu] at hh;obtain ⟨fv,fA,fn,fc,ft⟩:=g40;replace hh:=show Hp w (_::.row fA fn fc 80 4 (ay TR.cells ft)::_) W from hh;have et:FL=ft:=o40.t0.symm;have ev_:fv=(n:Int):=o40.v0;subst et ev_;have fln:FL.length=fn:=(hh.aC (i:=1) rfl).bp TR.len Xk;have fcc:fn≤fc:=hh.eJ (i:=1) rfl;refine bR hh 0 [_,_] ?_;intro ws hh;replace hh:Hp _ (.blk _ _ [_,_] _::_) _:=hh;refine aI (aa (sr (mL (aH (bH ?_)))));refine cg hh 4 [_,_,_] ?_;refine aF (hcn _ (hT.hp hh)) ar.out rfl Xk ?_
   rintro e_ w47 ⟨u,ou,rfl,h4⟩;refine ⟨_,rfl, ?_⟩;have huc:u.n≤u.c:=h4.eJ (i:=0) rfl;replace hh:=hh.join h4;clear h4;simp only [Xw,Xu] at hh;obtain ⟨uv,uA,un,uc,ut⟩:=u;replace hh:=show Hp w (.row uA un uc 80 4 (ay TR.cells ut)::_) _ from hh;have et:CL=ut:=ou.t0.symm;have ev_:uv=(n:Int):=ou.v0;subst et ev_;have uln:CL.length=un:=(hh.aC (i:=0) rfl).bp TR.len Xk;refine mT ?_;refine dn ?_;refine dn ?_;refine bP hh ?_;intro b13 w13 hh;refine bR hh 0 [_,_] ?_;intro ws hh;replace hh:Hp _ (.blk _ _ [_,_] _::_) _:=hh;refine aI (aa (sr ?_));refine cg hh 0 [_,_] ?_;refine cg hh 2 [_,_] ?_;refine EJ ?_;intro b53 w53 hh;have hlp:fR [⟨n,uA,un,uc,CL⟩,⟨n,fA,fn,fc,FL⟩]=0:=qJ co.e fo.e rfl;have had:=fun A3 w1 hT1 hS1 s1 s2=>pj A3 2 2 [⟨n,uA,un,uc,CL⟩,⟨n,fA,fn,fc,FL⟩] (k+k+10) w1 hT1 hS1 Xk (fun g hg=>by
    rcases XL.1 hg with rfl|hg
    ·exact s1
    ·rw [XO.1 hg];exact s2) (fun g hg=>by
    rcases XL.1 hg with rfl|hg
    ·exact ⟨by show un≤1000000;omega,huc,co.ok.mono Xj,co.sz⟩
    ·rw [XO.1 hg];exact ⟨by show fn≤1000000;omega,fcc,fo.ok.mono Xj,fo.sz⟩) Xj
   unfold GU at had;rw [Xo hlp,JH] at had;dsimp only at had;rw [hP] at had;rw [me (l:=CL++FL) (by rw [Xy];omega)] at had;refine aF (had _ _ (hT.hp hh) (hh.aC (i:=0) rfl) (hh.aC (i:=2) rfl) (hh.aC (i:=4) rfl)) ar.out rfl Xk ?_;rintro e_ w54 ⟨z,oz,rfl,h4⟩;refine ⟨_,rfl, ?_⟩;have hzc:z.n≤z.c:=h4.eJ (i:=0) rfl;replace hh:=hh.join h4;clear h4;simp only [Xw,Xu] at hh;replace hh:=show Hp w (.row z.A z.n z.c 80 4 (ay TR.cells z.ts)::_) _ from hh;have zln:z.ts.length=z.n:=(hh.aC (i:=0) rfl).bp TR.len Xk;refine mT ?_;refine dn ?_;refine dn ?_;refine bP hh ?_;intro b15 w15 hh;refine bR hh 0 [_,_] ?_;intro ws hh;replace hh:Hp _ (.blk _ _ [_,_] _::_) _:=hh;refine aI (aa (al (mL ?_)));refine cg hh 0 [_,_] ?_;refine cX hh (cs:=[_,_]) bh.out aM.out (aN (iO rfl) bZ) rfl rfl Xk Xk Xk rfl Xk ?_;intro b59 w59 hh;refine cw hh (i:=11) rfl rfl rfl (hh.aC (i:=0) rfl) bh.out aM.out rfl Xk (by first|rfl|exact dv _|exact cY _|exact bF _|exact bT NR.one _) Xj Xj Xk ?_;intro A60 c60 w60 hh;simp only [XC,X6] at hh;replace hh:=hh.sub (X9 _ _)
   refine kM ?_;refine bk (mI (aA (ai ?_)));replace hh:=hh.sub (Xv _ (Xq _ (Xv _ (Xv _ (Xv _ (Xv _ (Xv _ (Xv _ (Xv _ (Xv _ (Xq _ (Xq _ (Xq _ (Xq _ (Yo _)))))))))))))));replace hh:=hh.perm (XX (l₁:=[_,_,_,_]));simp only [Xw,Xu] at hh;replace hh:=hh.perm (XX (l₁:=[_,_,_,_]));simp only [Xw,Xu] at hh;replace hh:=hh.perm (XX (l₁:=[_,_,_,_]));simp only [Xw,Xu] at hh;replace hh:=hh.perm (XX (l₁:=[_,_,_,_]));simp only [Xw,Xu] at hh;have hcp2:=hcp.add (g:=⟨n,none,PL.length,0,PL⟩) (o:=z) (by rw [hol,Xx,hps];rfl) ⟨oz.v0,oz.t0,by rw [←zln,oz.t0]⟩ hzc;refine ⟨⟨i+1,c60,A60,os++[z],z.row::R,Xj,rfl,rfl,by rw [Xy,hol];rfl,hcp2,by rw [bD,iC];exact hh⟩,by show n-(i+1)<n-i;omega, ?_⟩
   exact dV
  ·obtain rfl:i=n:=Xj;have hol2:os.length=((br b).map fun g=>(⟨g.v,none,g.ts.length,0,g.ts⟩:PX)).length:=by rw [XA,j6];omega
   have hkey:=hcp.key hol2;rw [Ym] at hkey;replace hkey:os.map PX.norm=(br b).map PX.norm:=hkey;obtain ⟨ks,kh⟩:=FT (o:=p) (p:=p) rfl rfl hkey;have hall:∀o∈os,o.k8 (k+k+10)∧o.ts.length≤2:=fun o ho=>by
    obtain ⟨j,hj⟩:=YJ.1 ho;have hjn:j<os.length:=(XE.1 hj).1;obtain ⟨s,hs⟩:=ak (l:=b) (k:=j) Xj;obtain ⟨e1,e2,e3⟩:=hcp.eq j ⟨b.length,none,(gP b.length j s).length,0,gP b.length j s⟩ o (by rw [Xx,gl hs];rfl) hj;obtain ⟨po,pl⟩:=nw (v:=b.length) (i:=j) Xj (hb s (Xt hs)) Xj;replace e2:o.ts=gP b.length j s:=e2;replace e3:o.n=(gP b.length j s).length:=e3;exact Rk
   have hfit:Vg p os k (k+k+10) 2 (k+k+16394) ds:=⟨Xj,hex,hgr,Xj,Xj,fun g hg=>(hall g hg).1,fun g hg=>(hall g hg).2⟩;have hsu:=fun w1 hT1 ha hs hm hc=>qC p A c3 os k (k+k+10) 2 (k+k+16394) ds w1 hT1 ha lp hs hm hc hfit;rw [ks,kh,hhv,hol] at hsu;generalize (dw p (br b)).1=E at*;generalize (dw p (br b)).2=S at*;refine sr ?_;refine ll ?_;refine cg hh 3 [_,_] (mL ?_);refine aF (hsu _ (hT.hp hh) (hp.ext hh.below) (hh.aC (i:=0) rfl) (fun z hz=>FG hh (XD _ (XD _ (XD _ (XD _ (hcp.my z hz).1))))) (hh.eJ (i:=0) rfl)) ar.out rfl Xk ?_;rintro e_ w64 ⟨g,og,rfl,h4⟩;refine ⟨_,rfl, ?_⟩;replace hh:=hh.join h4;clear h4;simp only [Xw,Xu] at hh;refine dn ?_;refine dn ?_;refine bR hh 3 [_,_] ?_;intro ws hh;replace hh:Hp _ (_::_::_::.blk _ _ [_,_] _::_) _:=hh;refine aI (aa (aw ?_));refine JM ?_;exact F1
def dM (i:Nat) (f:ByteArray→Dyadic) (m:ByteArray):Dyadic:=
 match m.data.toList[i]? with|some e=>((e.toNat:Int):Dyadic)*f (str (m.data.toList.set i (e-1)))|none=>0
theorem Rb {f g:ByteArray→Dyadic} (h:∀t∈l,f t.m=g t.m):wS f l=wS g l:=by
 induction l with
 |nil=>rfl
 |cons t l ih=>rw [wS,wS,h t XB,ih fun s hs=>h s (XD _ hs)]
theorem Nu {a b:List UInt8} (ha:eK a=true) (hb:eK b=true) (hl:b.length=a.length) (h:(List.zipWith (· + ·) (ints a) (ints b)).all cH=true):mulL a b=((List.zipWith (· + ·) (ints a) (ints b)).map zU,0):=by
 unfold mulL;rw [Oe ha hb hl];show (MC _,On _)=_;rw [(pV h).1,(pV h).2]
theorem LB {a b:List UInt8} (h:(mulL a b).2=0):(List.zipWith (· + ·) (ints a) (ints b)).all cH=true:=by
 obtain ⟨_,_,_,h4,h5⟩:=nQ h;rw [←h5];exact MU h4
theorem NF {a b:ByteArray}{i:Nat}{x y:UInt8} (h:pd a b=0) (hx:a.data.toList[i]?=some x) (hy:b.data.toList[i]?=some y):(mulM a b).data.toList[i]?=some (zU ((x.toNat:Int)+y.toNat))∧(zU ((x.toNat:Int)+y.toNat)).toNat=x.toNat+y.toNat:=by
 obtain ⟨h1,h2,h3,_,_⟩:=nQ h;have hall:=LB h;have hiy:(ints b.data.toList)[i]?=some (y.toNat:Int):=by unfold ints;rw [Xx,hy];rfl
 have hix:(ints a.data.toList)[i]?=some (x.toNat:Int):=by unfold ints;rw [Xx,hx];rfl
 have hzz:=MB (f:=fun (x y:Int)=>x+y) hix hiy;have hxy:cH ((x.toNat:Int)+y.toNat)=true:=XI.1 hall _ (Xt hzz);have e1:=tp hxy;injection e1 with _ e1
 refine ⟨?_,Xj⟩;unfold mulM;rw [dH,Nu h1 h2 h3 hall,Xx,hzz]
 rfl
def nS (B:Nat→Nat) (l:List TR):Prop:=∀t∈l,∀i,gC i t≤B i
theorem nS.mono {B C:Nat→Nat} (h:nS B l) (hb:∀i,B i≤C i):nS C l:=fun t ht i=>XV (h t ht i) (hb i)
theorem Tx {s t:TR} (h:s.m=t.m) (i:Nat):gC i s=gC i t:=by unfold gC;rw [h]
theorem nS.aG {B:Nat→Nat}{l:List TR} (h:nS B l):nS B (aG l):=fun t ht i=>by
 obtain ⟨s,hs,e⟩:=jh t ht;rw [←Tx e i];exact h s hs i
theorem nS.append {B:Nat→Nat}{k:List TR} (h:nS B l) (h2:nS B k):nS B (l++k):=fun t ht=>(X3.1 ht).elim (h t) (h2 t)
theorem nS.prod {B C:Nat→Nat}{q:List TR} (hp:nS B p) (hq:nS C q) (h:∀e∈vi p q,e=0):nS (fun i=>B i+C i) (cA p q):=fun t ht i=>by
 obtain ⟨x,hx,ht⟩:=Zq.1 ht;obtain ⟨y,hy,rfl⟩:=XG.1 ht;have hz:pd x.m y.m=0:=h _ (Zq.2 ⟨x,hx,XG.2 ⟨y,hy,rfl⟩⟩)
 cases ha:x.m.data.toList[i]? with
 |none=>
  have hl:=Ec hz;have hx0:=aa0.1 ha;have e:(rl x y).m.data.toList[i]?=none:=by
   show (str _).data.toList[i]?=none;rw [dH];exact X1 (by rw [hl];exact hx0)
  unfold gC;rw [e];exact Xs _
 |some a=>
  obtain ⟨_,_,h3,_,_⟩:=nQ hz;have hlt:=(XE.1 ha).1;obtain ⟨b,hb⟩:=ak (l:=y.m.data.toList) (k:=i) Xj;obtain ⟨e1,e2⟩:=NF hz ha hb;rw [ri (t:=rl x y) e1,e2];have h1:=hp x hx i;have h2:=hq y hy i;rw [ri ha] at h1;rw [ri hb] at h2;show a.toNat+b.toNat≤B i+C i;omega
theorem vA {q p:List TR}{sub:List TR→Int×List TR}{j D:Nat}{E:Nat→Nat} (hq:nS (fun x=>if x=j then 1 else 0) q) (hD:∀t∈p,gC j t≤D) (hE:E j=0) (hs:∀n,(sub (bC p j n)).1=0→nS E (sub (bC p j n)).2):
  ∀i,i≤128→(bJ q sub p j i).1=0→nS (fun x=>if x=j then i+D-128 else E x) (bJ q sub p j i).2
 |0,_,_=>fun t ht=>(nomatch ht)
 |i+1,hi,h0=>by
  have h1:(bJ q sub p j i).1=0:=by
   refine Zn fun c=> ?_;rw [j3 c (Nat.le_succ i)] at h0;exact c h0
  have ih:=vA hq hD hE hs i Xj h1;have hsb:∀n,(sub (bC p j n)).1=0→nS (fun x=>if x=j then i+1+D-128 else E x) (sub (bC p j n)).2:=fun n hn=>(hs n hn).mono fun x=>by
   by_cases hx:x=j
   ·rw [Xo hx,hx,hE];exact Xs _
   ·rw [Xp hx];exact Xr _
  have hpr:fm (bJ q sub p j i).2 q=0→nS (fun x=>if x=j then i+1+D-128 else E x) (aG (cA (bJ q sub p j i).2 q)):=fun ht=>by
   by_cases hlow:i+D≤127
   ·rw [ji hD i hlow];exact fun t ht=>(nomatch ht)
   ·refine ((ih.prod hq (kJ ht).2.1).mono fun x=> ?_).aG;by_cases hx:x=j
    ·rw [Xo hx,Xo hx,Xo hx];omega
    ·rw [Xp hx,Xp hx,Xp hx];omega
  rw [kq] at h0 ⊢;unfold iD at h0 ⊢;rw [Xp (fun h=>h h1)] at h0 ⊢;by_cases c1:(bJ q sub p j i).2.length=0∧(bC p j (127-i)).length=0
  ·rw [Xo c1,ZZ.1 c1.1];exact fun t ht=>(nomatch ht)
  ·rw [Xp c1] at h0 ⊢;by_cases c2:fm (bJ q sub p j i).2 q≠0
   ·rw [Xo c2] at h0;exact absurd h0 c2
   ·rw [Xp c2] at h0 ⊢;by_cases c3:(sub (bC p j (127-i))).1≠0
    ·rw [Xo c3] at h0;exact absurd h0 c3
    ·rw [Xp c3] at h0 ⊢;by_cases c4:gD (aG (cA (bJ q sub p j i).2 q)++(sub (bC p j (127-i))).2)≠0
     ·rw [Xo c4] at h0;exact absurd h0 c4
     ·rw [Xp c4];exact ((hpr Xj).append (hsb _ Xj)).aG
theorem uh (v:Int) (c:NR):nS (fun _=>0) [⟨er v,c⟩]:=fun t ht i=>by
 rw [XO.1 ht]
 cases he:(⟨er v,c⟩:TR).m.data.toList[i]? with
 |none=>unfold gC;rw [he];exact Xr _
 |some e=>
  rw [ri he];have hm:=Xt he;replace hm:e∈(List.replicate v.toNat (0:UInt8)):=by simpa [er] using hm
  rw [(List.mem_replicate.1 hm).2];exact Xr _
theorem FJ {v:Int}:∀(qs:List (List TR)) (j:Nat) (p:List TR) (D:Nat→Nat),(∀(i:Nat) (q:List TR),qs[i]?=some q→nS (fun x=>if x=j+i then 1 else 0) q)→(∀t∈p,∀i,i<qs.length→gC (j+i) t≤D (j+i))→(eT v qs j p).1=0→nS (fun x=>if j≤x∧x<j+qs.length then D x else 0) (eT v qs j p).2:=by
 intro qs
 induction qs with
 |nil=>
  intro j p D _ _ _;exact (uh v _).aG.mono fun x=>Xs _
 |cons q qs ih=>
  intro j p D hq hp h0;have hsub:∀n,(eT v qs (j+1) (bC p j n)).1=0→nS (fun x=>if j+1≤x∧x<j+1+qs.length then D x else 0) (eT v qs (j+1) (bC p j n)).2:=fun n hn=>by
   refine ih (j+1) (bC p j n) D (fun i r hr=> ?_) (fun t ht i hi=> ?_) hn
   ·have:=hq (i+1) r (by simpa using hr);rwa [show j+1+i=j+(i+1) by omega]
   ·exact Re
  have hq0:nS (fun x=>if x=j then 1 else 0) q:=hq 0 q rfl;have hD:∀t∈p,gC j t≤D j:=fun t ht=>hp t ht 0 (by rw [XR];omega);generalize hgen:eT v qs (j+1)=sub at hsub;have e:∀m,m=128→(bJ q sub p j m).1=0→nS (fun x=>if j≤x∧x<j+(q::qs).length then D x else 0) (bJ q sub p j m).2:=fun m hm h=>by
   refine (vA hq0 hD (E:=fun x=>if j+1≤x∧x<j+1+qs.length then D x else 0) (by rw [Xp Xj]) hsub m Xj h).mono fun x=> ?_;rw [XR];by_cases hx:x=j
   ·rw [Xo hx,Xo Xj,hx];omega
   ·rw [Xp hx];by_cases h2:j+1≤x∧x<j+1+qs.length
    ·rw [Xo h2,Xo Xj];exact Xr _
    ·rw [Xp h2];exact Xs _
  have e2:eT v (q::qs) j p=bJ q sub p j 128:=by rw [←hgen];rfl
  rw [e2] at h0 ⊢;exact e 128 rfl h0
theorem Uq {i:Nat}{t:TR} (h:t∈l):mj t.m i≤AN l i:=by
 induction l using jt with
 |h0=>cases h
 |hs l x ih=>
  rw [tZ]
  rcases X3.1 h with h|h
  ·have:=ih h;omega
  ·rw [XO.1 h];omega
theorem Lw {i:Nat}{B:Int} (hB:0≤B) (h:∀t∈l,mj t.m i≤B):0≤AN l i∧AN l i≤B:=by
 induction l using jt with
 |h0=>exact ⟨Int.le_refl _,hB⟩
 |hs l x ih=>
  rw [tZ];have h1:=ih fun t ht=>h t (Y7 _ ht);have h2:=h x (Y2 _ XB);omega
theorem Ll (t:TR) (i:Nat):(gC i t:Int)=mj t.m i:=by
 unfold gC mj
 cases t.m.data.toList[i]?<;>rfl
def dZ (v:Int) (ts:List TR):List Nat:=(sS v ts).map Int.toNat
theorem m6 {v:Int} (h:jy v ts=0):sS v ts=bM (dZ v ts)∧(dZ v ts).length=v.toNat∧∀(i d:Nat),(dZ v ts)[i]?=some d→d≤127∧(∀t∈ts,gC i t≤d)∧((d:Int)=AN ts i):=by
 obtain ⟨_,_,hm,_⟩:=cK h;have hd:sS v ts=mu v.toNat ts:=Xo h;have hb:∀t∈ts,∀i,mj t.m i≤127:=fun t ht i=>by
  have h1:=hm t ht;unfold fa at h1;rw [XF] at h1;unfold mj
  cases he:t.m.data.toList[i]? with
  |none=>decide
  |some e=>have:=nI h1.1 he;show ((e.toNat:Nat):Int)≤127;omega
 refine ⟨?_,by unfold dZ;rw [XA,hd,fq],fun i d hi=> ?_⟩
 ·unfold dZ bM;rw [Ym];refine (aaw _).symm.trans (YZ fun x hx=> ?_);rw [hd] at hx;obtain ⟨i,_,rfl⟩:=XG.1 hx;have:=(Lw (B:=127) Xk fun t ht=>hb t ht i).1;show AN ts i=((AN ts i).toNat:Int);omega
 ·unfold dZ at hi;rw [hd,Xx] at hi;have hlt:i<v.toNat:=by
   refine Zn fun hc=> ?_;rw [X1 (by rw [fq];omega)] at hi
   cases hi
  rw [tD ts hlt] at hi;have h1:=Lw (l:=ts) (i:=i) (B:=127) Xk fun t ht=>hb t ht i;have h2:(AN ts i).toNat=d:=Yd hi;refine ⟨Xj,fun t ht=> ?_,Xj⟩;have h3:=Uq (i:=i) ht;have h4:=Ll t i;omega
variable {xs:List Dyadic}
def eB (d:Nat) (a b:Dyadic) (i k:Nat):Dyadic:=if k<i then 0 else nD (bin (d-i) (k-i))*a^i*b^(k-i)
def jD (xs:List Dyadic) (i:Nat):Dyadic:=(xs[i]?).getD 0
def kU (d:Nat) (M:Nat→Nat→Dyadic) (xs:List Dyadic):List Dyadic:=(List.range (d+1)).map fun k=>sm (List.range (d+1)) fun i=>jD xs i*M i k
def iE (d:Nat) (a b:Dyadic) (xs:List Dyadic) (i j:Nat):List Dyadic:=(List.range (d+1)).map fun k=>sm (List.range i) (fun m=>jD xs m*eB d a b m k)+if i≤k∧k<i+j then jD xs i*eB d a b i k else 0
theorem kt (d:Nat) (a b:Dyadic) (xs:List Dyadic) (i j:Nat):(iE d a b xs i j).length=d+1:=by simp [iE]
theorem uZ (d:Nat) (a b:Dyadic) (xs:List Dyadic):iE d a b xs 0 0=List.replicate (d+1) 0:=by
 unfold iE;refine List.eq_replicate_iff.2 ⟨by simp,fun x hx=> ?_⟩;obtain ⟨k,_,rfl⟩:=XG.1 hx;rw [Xp Xj,ZR]
 rfl
theorem zt {d i:Nat}{a b:Dyadic} (h:k≤d):(iE d a b xs i j)[k]?=some (sm (List.range i) (fun m=>jD xs m*eB d a b m k)+if i≤k∧k<i+j then jD xs i*eB d a b i k else 0):=by
 unfold iE;exact Jc
theorem BV {d i:Nat}{a b:Dyadic}{o:Dyadic} (h:i+j≤d) (ho:(iE d a b xs i j)[i+j]?=some o):(iE d a b xs i j).set (i+j) (o+jD xs i*eB d a b i (i+j))=iE d a b xs i (j+1):=by
 rw [zt h,Xp Xj,ZR] at ho;have ho:=Yd ho;subst ho;refine YG fun k=> ?_;rw [Zw,kt];by_cases hk:k≤d
 ·rw [zt hk,zt hk];by_cases e:i+j=k
  ·subst e;rw [Xo rfl,Xo Xj,Xo Xj]
  ·rw [Xp e];by_cases h2:i≤k∧k<i+j
   ·rw [Xo h2,Xo Xj]
   ·rw [Xp h2,Xp Xj]
 ·rw [Xp Xj,X1 (by rw [kt];omega),X1 (by rw [kt];omega)]
theorem Hk {d i:Nat}{a b:Dyadic} (h:i≤d):iE d a b xs i (d-i+1)=iE d a b xs (i+1) 0:=by
 unfold iE;refine YZ fun k hk=> ?_;have hk:=XT.1 hk;rw [Xp (show ¬(i+1≤k∧k<i+1+0) by omega),ZR,YQ,jS];by_cases h2:i≤k
 ·rw [Xo Xj]
 ·rw [Xp Xj];unfold eB;rw [Xo (show k<i by omega),aaI]
theorem xW (d:Nat) (a b:Dyadic) (xs:List Dyadic):iE d a b xs (d+1) 0=kU d (eB d a b) xs:=by
 unfold iE kU;refine YZ fun k _=> ?_;rw [Xp Xj,ZR]
theorem Sz.Ae {a:Dyadic} (h:Sz q a) {i d:Nat} (hi:i≤d):Sz (1+q*d) (a^i):=(Sz.pow h i).mono (by have:=X4 q hi;omega)
theorem y8 {d i:Nat}{a b:Dyadic} (ha:Sz q a) (hb:Sz q b) (hd:d≤127) (hk:k≤d):Sz (130+2*(q*d)) (eB d a b i k):=by
 unfold eB;split
 ·exact Sz.zero _
 ·refine (((rK (d-i) (k-i) Xj).mul (ha.Ae (show i≤d by omega))).mul (hb.Ae (show k-i≤d by omega))).mono Xj
theorem zI (h:∀x∈xs,Sz k x) (i:Nat):Sz k (jD xs i):=by
 unfold jD
 cases hx:xs[i]? with
 |none=>exact Sz.zero _
 |some x=>exact h x (Xt hx)
theorem FD {d i K:Nat}{a b:Dyadic} (hx:∀x∈xs,Sz K x) (ha:Sz q a) (hb:Sz q b) (hd:d≤127) (hi:i≤d+1):∀x∈iE d a b xs i j,Sz (K+130+2*(q*d)+130) x:=fun x hx2=>by
 obtain ⟨k,hk,rfl⟩:=XG.1 hx2;have hk:=XT.1 hk;have h1:∀m,Sz (K+(130+2*(q*d))) (jD xs m*eB d a b m k):=fun m=>(zI hx m).mul (y8 ha hb hd Xj);have h2:=B6 (l:=List.range i) (f:=fun m=>jD xs m*eB d a b m k) (k:=K+(130+2*(q*d))) fun m _=>h1 m;rw [YO] at h2;refine (h2.add (y:=if i≤k∧k<i+j then jD xs i*eB d a b i k else 0) ?_).mono Xj;split
 ·exact (h1 i).mono Xj
 ·exact Sz.zero _
section
variable (A:List Nat) (d:Nat) (φ:List Dyadic→List Dyadic)
def WB (X:List Dyadic) (q f i:Nat):List Dyadic:=(List.range X.length).map fun p=>
 if p/au A/(d+1)=q∧(p % au A<f∨p % au A=f∧p/au A % (d+1)<i) then jD (φ (fj A d X (p % au A) q)) (p/au A % (d+1)) else jD X p
def WV (X:List Dyadic) (q:Nat):List Dyadic:=WB A d φ X q (au A) 0
end
section
variable {A:List Nat}{d:Nat}{φ:List Dyadic→List Dyadic}{X:List Dyadic}
theorem tJ {f:Nat} (hf:f<au A) (hk:k≤d):cL A d f k q % au A=f∧cL A d f k q/au A % (d+1)=k∧cL A d f k q/au A/(d+1)=q:=by
 unfold cL;have hA:=cC A;rw [YW,X5 hf,Yy _ _ hA,Yk hf,XJ,YW,X5 Xj,Yy _ _ Xj,Yk Xj,XJ];exact ⟨rfl,rfl,rfl⟩
theorem yI (p:Nat):cL A d (p % au A) (p/au A % (d+1)) (p/au A/(d+1))=p:=by
 unfold cL;rw [Z8,Z8]
theorem Bg {l:List Dyadic} (h:k<l.length):l[k]?=some (jD l k):=by
 unfold jD;rw [YI h]
 rfl
def W6 (A:List Nat) (d:Nat) (B:List Nat) (M:Nat→Nat→Dyadic) (xs:List Dyadic) (j:Nat):List Dyadic:=(List.range xs.length).map fun p=>if p/au A/(d+1)<j then jD (gY (A++d::B) A.length M xs) p else jD xs p
end
variable {F:Nat}
section
variable (A:List Nat) (d L:Nat) (φ:List Dyadic→List Dyadic)
def kZ (p:Nat):Nat:=cL A d (p % au A) 0 (p/au A/(d+1))
def jb (X:List Dyadic) (F i:Nat):List Dyadic:=(List.range X.length).map fun p=>
 if p/au A % (d+1)<L∧(kZ A d p<F∨kZ A d p=F∧p/au A % (d+1)<i) then jD (φ (fj A d X (p % au A) (p/au A/(d+1)))) (p/au A % (d+1)) else jD X p
end
section
variable {A:List Nat}{d L:Nat}{φ:List Dyadic→List Dyadic}{X:List Dyadic}
theorem gE (F i:Nat):(jb A d L φ X F i).length=X.length:=by simp [jb]
theorem nk {i p:Nat} (h:p<X.length):(jb A d L φ X F i)[p]?=some (if p/au A % (d+1)<L∧(kZ A d p<F∨kZ A d p=F∧p/au A % (d+1)<i) then jD (φ (fj A d X (p % au A) (p/au A/(d+1)))) (p/au A % (d+1)) else jD X p):=by
 unfold jb;rw [Xx,Yh h]
 rfl
theorem B4 {i G:Nat} (h:∀p,p<X.length→p/au A % (d+1)<L→((kZ A d p<F∨kZ A d p=F∧p/au A % (d+1)<i)↔(kZ A d p<G∨kZ A d p=G∧p/au A % (d+1)<j))):jb A d L φ X F i=jb A d L φ X G j:=by
 refine YG fun p=> ?_;by_cases hp:p<X.length
 ·rw [nk hp,nk hp];congr 1;by_cases hL:p/au A % (d+1)<L
  ·by_cases h1:kZ A d p<F∨kZ A d p=F∧p/au A % (d+1)<i
   ·rw [Xo ⟨hL,h1⟩,Xo ⟨hL,(h p hp hL).1 h1⟩]
   ·rw [Xp (fun h=>h1 h.2),Xp (fun h2=>h1 ((h p hp hL).2 h2.2))]
  ·rw [Xp (fun h=>hL h.1),Xp (fun h=>hL h.1)]
 ·rw [X1 (by rw [gE];omega),X1 (by rw [gE];omega)]
theorem HD:jb A d L φ X 0 0=X:=by
 refine YG fun p=> ?_;by_cases h:p<X.length
 ·rw [nk h,Xp Xj,Bg h]
 ·rw [X1 (by rw [gE];omega),X1 Xj]
theorem CT {f:Nat} (hf:f<au A):cL A d f 0 q % au A=f∧cL A d f 0 q/au A % (d+1)=0∧cL A d f 0 q/au A/(d+1)=q:=tJ hf (Xs _)
theorem ID {f:Nat} (hf:f<au A) (hk:k≤d):kZ A d (cL A d f k q)=cL A d f 0 q:=by
 obtain ⟨h1,_,h3⟩:=tJ (q:=q) hf hk;unfold kZ;rw [h1,h3]
theorem Hb (h:F/au A % (d+1)≠0):jb A d L φ X F 0=jb A d L φ X (F+1) 0:=B4 fun p _ _=>by
 have hne:kZ A d p≠F:=fun e=>by
  have:=(CT (d:=d) (q:=p/au A/(d+1)) (XW p (cC A))).2.1;unfold kZ at e;rw [e] at this;exact h this
 omega
theorem HM {i:Nat} (h:L≤i):jb A d L φ X F i=jb A d L φ X (F+1) 0:=B4 fun p _ hL=>by omega
theorem KM {f i:Nat} (hf:f<au A) (hiL:i<L) (hi:i≤d):(jb A d L φ X (cL A d f 0 q) i).set (cL A d f i q) (jD (φ (fj A d X f q)) i)=jb A d L φ X (cL A d f 0 q) (i+1):=by
 obtain ⟨h1,h2,h3⟩:=tJ (q:=q) hf hi;refine YG fun p=> ?_;rw [Zw,gE];by_cases hp:p<X.length
 ·rw [nk hp,nk hp];by_cases e:cL A d f i q=p
  ·subst e;rw [Xo rfl,Xo hp,h1,h2,h3,ID hf hi,Xo ⟨hiL,.inr ⟨rfl,Nat.lt_succ_self i⟩⟩]
  ·rw [Xp e];have hne:¬(kZ A d p=cL A d f 0 q∧p/au A % (d+1)=i):=fun ⟨a,b⟩=>by
    have e1:=CT (d:=d) (q:=p/au A/(d+1)) (XW p (cC A));have e2:=CT (d:=d) (q:=q) hf;unfold kZ at a;rw [a] at e1;have:=yI (A:=A) (d:=d) p;rw [b,←e1.1,←e1.2.2,e2.1,e2.2.2] at this;exact e this
   congr 1;by_cases hL:p/au A % (d+1)<L∧(kZ A d p<cL A d f 0 q∨kZ A d p=cL A d f 0 q∧p/au A % (d+1)<i)
   ·rw [Xo hL,Xo ⟨hL.1,Xj⟩]
   ·rw [Xp hL,Xp (fun h=>hL ⟨h.1,Xj⟩)]
 ·rw [X1 (by rw [gE];omega)];by_cases e:cL A d f i q=p
  ·rw [Xo e,e,Xp hp,X1 (by rw [gE];omega)]
  ·rw [Xp e,X1 (by rw [gE];omega)]
theorem HQ {B:List Nat}{p:Nat} (hX:X.length=au (A++d::B)) (hp:p<X.length):(jb A d L φ X X.length 0)[p]?=some (if p/au A % (d+1)<L then jD (φ (fj A d X (p % au A) (p/au A/(d+1)))) (p/au A % (d+1)) else jD X p):=by
 rw [nk hp];have hlt:kZ A d p<X.length:=by
  have h1:=yI (A:=A) (d:=d) p;have h2:kZ A d p≤p:=by
   conv=>rhs;rw [←h1]
   unfold kZ cL;have:=X4 (au A) (show 0+(d+1)*(p/au A/(d+1))≤p/au A % (d+1)+(d+1)*(p/au A/(d+1)) by omega);omega
  omega
 congr 1;by_cases h:p/au A % (d+1)<L
 ·rw [Xo ⟨h,.inl hlt⟩,Xo h]
 ·rw [Xp (fun h2=>h h2.1),Xp h]
theorem JK {B:List Nat}{M:Nat→Nat→Dyadic} (hX:X.length=au (A++d::B)):jb A d (d+1) (kU d M) X X.length 0=gY (A++d::B) A.length M X:=by
 refine YG fun p=> ?_;by_cases hp:p<X.length
 ·obtain ⟨f,k,q,hf,hk,hq,rfl⟩:=DD (A:=A) (d:=d) (B:=B) (by rw [←hX];exact hp);obtain ⟨h1,h2,h3⟩:=tJ (q:=q) hf hk;rw [HQ hX hp,h1,h2,h3,Xo Xj];have e1:(kU d M (fj A d X f q))[k]?=some (sm (List.range (d+1)) fun i=>jD (fj A d X f q) i*M i k):=by
   unfold kU;exact Jc
  rw [LQ M X hf hk hq];congr 1;show ((kU d M (fj A d X f q))[k]?).getD 0=_;rw [e1];refine bL fun i hi=> ?_;have hi:=XT.1 hi;show ((fj A d X f q)[i]?).getD 0*_=_;unfold fj;rw [Xx,Yh hi]
  rfl
 ·rw [X1 (by rw [gE];omega),X1 (by rw [oP,←hX];omega)]
end
theorem nu (N:Nat):eZ N [.bool false,.string (ByteArray.mk #[]),.int .i64 0]=ay NR.cells ((List.replicate N (0:Dyadic)).map nR):=by
 rw [Kt,u6]
theorem Sz.bg {x:Dyadic} (h:Sz k x):(nR x).bg.size≤k+1:=by have:=h.nr.1;omega
structure Val (q:Nat) (s:NR) (x:Dyadic):Prop where
 ok:s.ok
 bg:s.bg.size≤2001
 d:s.d=x
 sz:Sz q x
theorem Val.of {x:Dyadic} (h:Sz q x) (hq:q≤2000):Val q (nR x) x:=⟨h.ok Xj,by have:=h.bg;omega,bI x,h⟩
def WE (l:List Dyadic) (i:Nat):List Dyadic:=(List.range l.length).map fun k=>if k<i∨l.length≤k+i then jD l (l.length-1-k) else jD l k
def si:List Dyadic→Dyadic→Dyadic
 |[],_=>0
 |c::cs,t=>c+t*si cs t
def hU:List Nat→List Dyadic→Dyadic
 |a::s,x::xs=>x^a*hU s xs
 |_,_=>1
theorem iw (n:Nat):(1:Dyadic)^n=1:=by
 induction n with
 |zero=>grind
 |succ n ih=>grind
def cP (m:ByteArray):List Nat:=m.data.toList.map UInt8.toNat
theorem j5 (m:ByteArray):(cP m).length=m.size:=by rw [dQ];exact XA _
theorem Af {a b:ByteArray} (h:cP a=cP b):a=b:=uR (List.map_inj_right (fun _ _=>aar.1)|>.1 h)
theorem lv (m:ByteArray):ints m.data.toList=bM (cP m):=by unfold ints bM cP;rw [Ym];rfl
theorem J7 {a b:List Nat} (h:bM a=bM b):a=b:=(List.map_inj_right fun (x y:Nat) (e:(x:Int)=y)=>Int.ofNat.inj e).1 h
def jE (xs:List Dyadic) (l:List TR):Dyadic:=wS (fun m=>hU (cP m) xs) l
theorem F6 (f:ByteArray→Dyadic) (l:List TR):wS f l=sm l fun t=>t.c.d*f t.m:=by
 induction l with
 |nil=>rfl
 |cons t l ih=>rw [wS,sm,ih]
theorem je (xs:List Dyadic) (l:List TR):jE xs (aG l)=jE xs l:=qX _ _
theorem px (xs:List Dyadic) (l k:List TR):jE xs (l++k)=jE xs l+jE xs k:=nG _ _ _
theorem AF:∀(a b:List Nat) (xs:List Dyadic),a.length=b.length→hU (List.zipWith (· + ·) a b) xs=hU a xs*hU b xs
 |[],[],xs,_=>by show (1:Dyadic)=1*1;grind
 |[],_::_,_,h=>by cases h
 |_::_,[],_,h=>by cases h
 |x::a,y::b,[],_=>by show (1:Dyadic)=1*1;grind
 |x::a,y::b,t::xs,h=>by
  rw [List.zipWith_cons_cons,hU,hU,hU,AF a b xs (by simpa using h),xy];grind
theorem nB:∀(n:Nat) (xs:List Dyadic),hU (List.replicate n 0) xs=1
 |0,xs=>by cases xs<;>rfl
 |n+1,[]=>rfl
 |n+1,x::xs=>by
  rw [ZB,hU,nB n xs,ZS];grind
theorem Mv {a b:ByteArray} (h:pd a b=0):cP (mulM a b)=List.zipWith (· + ·) (cP a) (cP b)∧(cP a).length=(cP b).length:=by
 obtain ⟨_,_,h3,_,h5⟩:=nQ h;refine ⟨J7 ?_,by unfold cP;rw [XA,XA,h3]⟩;rw [←lv,mulM,dH,h5,lv,lv];unfold bM;rw [List.zipWith_map,List.map_zipWith];exact Yu (fun f=>List.zipWith f (cP a) (cP b)) (funext fun x=>funext fun y=>(Zm x y).symm)
theorem JZ {q:List TR} (h:∀e∈vi p q,e=0):jE xs (cA p q)=jE xs p*jE xs q:=by
 have hm:∀a∈p,∀b∈q,pd a.m b.m=0:=fun a ha b hb=>h _ (Zq.2 ⟨a,ha,XG.2 ⟨b,hb,rfl⟩⟩);unfold jE;rw [Bs,Dyadic.mul_comm,←Jv];refine Rb fun a ha=> ?_;rw [Dyadic.mul_comm,←Jv];refine Rb fun b hb=> ?_;obtain ⟨e1,e2⟩:=Mv (hm a ha b hb);rw [e1,AF _ _ _ e2]
theorem zk (j:Nat) (t:TR):gC j t=((cP t.m)[j]?).getD 0:=by
 unfold gC cP;rw [Xx]
 cases t.m.data.toList[j]?<;>rfl
theorem JV (g:TR→Dyadic) (Q:Dyadic):sm p (fun t=>if n≤gC j t then g t*Q^(gC j t-n) else 0)=sm p (fun t=>if n+1≤gC j t then g t*Q^(gC j t-(n+1)) else 0)*Q+sm (bC p j n) g:=by
 have e1:sm (bC p j n) g=sm p fun t=>if gC j t=n then g t else 0:=by
  unfold bC;rw [←He p (fun t=>decide (gC j t=n)) (fun t=>if gC j t=n then g t else 0) (fun t _ h=>Xp (by simpa using h))];exact bL fun t ht=>(Xo (by simpa using (YC.1 ht).2)).symm
 rw [e1,←mz,←DP];refine bL fun t _=> ?_;by_cases h1:gC j t=n
 ·rw [Xo Xj,Xp Xj,Xo h1,h1,Yq,ZS];grind
 ·rw [Xp h1];by_cases h2:n+1≤gC j t
  ·rw [Xo Xj,Xo h2,show gC j t-n=(gC j t-(n+1))+1 by omega,aah];grind
  ·rw [Xp Xj,Xp h2];grind
theorem Gw {xs:List Dyadic}{q p:List TR}{sub:List TR→Int×List TR}{j:Nat} (g:TR→Dyadic) (hp:∀t∈p,gC j t≤127) (hs:∀n,(sub (bC p j n)).1=0→jE xs (sub (bC p j n)).2=sm (bC p j n) g):
  ∀i,i≤128→(bJ q sub p j i).1=0→jE xs (bJ q sub p j i).2=sm p fun t=>if 128-i≤gC j t then g t*jE xs q^(gC j t-(128-i)) else 0
 |0,_,_=>(tF fun t ht=>Xp (by have:=hp t ht;omega)).symm
 |i+1,hi,h0=>by
  have h1:(bJ q sub p j i).1=0:=by
   refine Zn fun c=> ?_;rw [j3 c (Nat.le_succ i)] at h0;exact c h0
  have ih:=Gw g hp hs i Xj h1;have e1:=JV (p:=p) (j:=j) (n:=127-i) g (jE xs q);rw [show 128-(i+1)=127-i by omega,e1,show 127-i+1=128-i by omega,←ih];rw [kq] at h0 ⊢;unfold iD at h0 ⊢;rw [Xp (fun h=>h h1)] at h0 ⊢;by_cases c1:(bJ q sub p j i).2.length=0∧(bC p j (127-i)).length=0
  ·rw [Xo c1,ZZ.1 c1.1,ZZ.1 c1.2];show (0:Dyadic)=0*_+0;grind
  ·rw [Xp c1] at h0 ⊢;by_cases c2:fm (bJ q sub p j i).2 q≠0
   ·rw [Xo c2] at h0;exact absurd h0 c2
   ·rw [Xp c2] at h0 ⊢;by_cases c3:(sub (bC p j (127-i))).1≠0
    ·rw [Xo c3] at h0;exact absurd h0 c3
    ·rw [Xp c3] at h0 ⊢;by_cases c4:gD (aG (cA (bJ q sub p j i).2 q)++(sub (bC p j (127-i))).2)≠0
     ·rw [Xo c4] at h0;exact absurd h0 c4
     ·rw [Xp c4];show jE xs (aG _)=_;rw [je,px,je,JZ (kJ Xj).2.1,hs _ Xj]
theorem NJ (h:tP p) (he:∀a∈p,∀b∈p,a.m=b.m):p.length≤1:=by
 match p,h,he with
 |[],_,_=>exact Xs _
 |[_],_,_=>exact Xr _
 |a::b::p,h,he=>
  have h1:=(YK.1 h).1 b XB;rw [he a XB b (XD _ XB),gZ] at h1
  cases h1
theorem Gz.one {v:Int} (h:Gz v j p) (hj:v≤j):p.length≤1:=NJ h.sM fun a ha b hb=>uR (by
 have e:=h.pre a ha b hb;have l1:=h.size a ha;have l2:=h.size b hb;rwa [Xz Xj,Xz Xj] at e)
theorem wQ (v:Int) (q:List TR) (qs:List (List TR)) (j:Nat) (p:List TR):eT v (q::qs) j p=bJ q (eT v qs (j+1)) p j 128:=rfl
theorem RU {v w:Int} (qs:List (List TR)):∀(j:Nat) (p:List TR),Gz w j p→w=((j+qs.length:Nat):Int)→(eT v qs j p).1=0→jE xs (eT v qs j p).2=sm p fun t=>t.c.d*hU ((cP t.m).drop j) (qs.map (jE xs)):=by
 induction qs with
 |nil=>
  intro j p hs hw _;have h1:=hs.one (by rw [hw];exact Int.le_refl _);show jE xs (aG _)=_;rw [je];have hz:cP (er v)=List.replicate v.toNat 0:=by unfold cP er;simp
  match p,h1 with
  |[],_=>
   show (nR 0).d*_+0=0;rw [bI];grind
  |[t],_=>
   show t.c.d*hU (cP (er v)) xs+0=t.c.d*hU _ []+0;rw [hz,nB]
   cases (cP t.m).drop j<;>rfl
 |cons q qs ih=>
  intro j p hs hw h0;have hj:(j:Int)<w:=by rw [hw,XR];omega
  have hx:∀t∈p,gC j t≤127:=fun t ht=>by
   obtain ⟨e,_,h2,h3⟩:=hs.get hj ht;omega
  rw [wQ] at h0 ⊢;have hsub:=fun n hn=>ih (j+1) (bC p j n) (hs.with hj) (by rw [hw,XR];omega) hn;generalize eT v qs (j+1)=sub at hsub h0 ⊢;have h1:=fun i hi hz=>Gw (xs:=xs) (q:=q) (sub:=sub) (p:=p) (j:=j) (fun t=>t.c.d*hU ((cP t.m).drop (j+1)) (qs.map (jE xs))) hx hsub i hi hz;obtain ⟨m,hm⟩:∃m,m=128:=⟨_,rfl⟩;rw [←hm] at h0 ⊢;rw [h1 m Xj h0];refine bL fun t ht=> ?_;rw [Xo Xj,show gC j t-(128-m)=gC j t by omega];obtain ⟨e,h2,h3,_⟩:=hs.get hj ht;have hd:(cP t.m).drop j=gC j t::(cP t.m).drop (j+1):=by
   refine gm ?_;rw [h3];unfold cP;rw [Xx,h2]
   rfl
  rw [hd,XQ,hU];grind
theorem SF {p:PX}{ls:List PX} (h:(dw p ls).1=0):jE xs (dw p ls).2=jE (ls.map fun g=>jE xs g.ts) p.ts:=by
 unfold dw at h ⊢;by_cases h1:p.e≠0
 ·rw [Xo h1] at h;exact absurd h h1
 ·rw [Xp h1] at h ⊢;by_cases h2:(ls.length:Int)≠p.v
  ·rw [Xo h2] at h;exact absurd h Xk
  ·rw [Xp h2] at h ⊢;by_cases h3:ls.length≠0∧fR ls≠0
   ·rw [Xo h3] at h;exact absurd h h3.2
   ·rw [Xp h3] at h ⊢;rw [RU (w:=p.v) (ls.map PX.ts) 0 p.ts (Cc (by unfold PX.e at h1;omega)) (by rw [XA,XJ];omega) h,Ym];unfold jE;rw [F6]
    rfl
variable {X:List Dyadic}
def wK:Nat→List Nat→List Nat→List Nat→Dyadic
 |m+1,_::ds,a::s,r::rs=>(if a=r then 1 else 0)*wK m ds s rs
 |0,d::ds,a::s,r::rs=>eB d 1 1 a r*wK 0 ds s rs
 |_,_,_,_=>1
theorem FA:∀(j:Nat) (ds s rs:List Nat),j<ds.length→iV ds s→iV ds rs→sm (List.range (ds.getD j 0+1)) (fun i=>wK (j+1) ds s (rs.set j i)*eB (ds.getD j 0) 1 1 i (rs.getD j 0))=wK j ds s rs
 |_,[],_,_,h,_,_=>by cases h
 |_,_::_,[],_,_,h,_=>by cases h
 |_,_::_,_::_,[],_,_,h=>by cases h
 |0,d::ds,a::s,r::rs,_,h1,_=>by
  show sm (List.range (d+1)) (fun i=>(if a=i then 1 else 0)*wK 0 ds s rs*eB d 1 1 i r)=eB d 1 1 a r*wK 0 ds s rs;have e:sm (List.range (d+1)) (fun i=>(if a=i then 1 else 0)*wK 0 ds s rs*eB d 1 1 i r)=sm (List.range (d+1)) fun i=>if i=a then eB d 1 1 a r*wK 0 ds s rs else 0:=bL fun i _=>by
   by_cases h:a=i
   ·rw [Xo h,Xo h.symm,h];grind
   ·rw [Xp h,Xp (fun e=>h e.symm)];grind
  rw [e,md,Xo (by have:=h1.1;omega)]
 |j+1,d::ds,a::s,r::rs,hj,h1,h2=>by
  show sm (List.range (ds.getD j 0+1)) (fun i=>(if a=r then 1 else 0)*wK (j+1) ds s (rs.set j i)*eB (ds.getD j 0) 1 1 i (rs.getD j 0))=(if a=r then 1 else 0)*wK j ds s rs;rw [←FA j ds s rs (by simpa using hj) h1.2 h2.2,←mE];exact bL fun i _=>by grind
theorem JA:∀(ds s rs:List Nat),iV ds s→iV ds rs→wK ds.length ds s rs=if s=rs then 1 else 0
 |[],[],[],_,_=>by rw [Xo rfl];rfl
 |[],_::_,_,h,_=>by cases h
 |[],[],_::_,_,h=>by cases h
 |_::_,[],_,h,_=>by cases h
 |_::_,_::_,[],_,h=>by cases h
 |d::ds,a::s,r::rs,h1,h2=>by
  show (if a=r then 1 else 0)*wK ds.length ds s rs=_;rw [JA ds s rs h1.2 h2.2];by_cases e1:a=r
  ·by_cases e2:s=rs
   ·rw [Xo e1,Xo e2,Xo (by rw [e1,e2])];grind
   ·rw [Xo e1,Xp e2,Xp fun e=>e2 (List.cons.inj e).2];grind
  ·rw [Xp e1,Xp fun e=>e1 (List.cons.inj e).1];grind
abbrev QL:=List (List Nat×Dyadic)
def X0 (ds:List Nat) (L:QL):List Dyadic:=nZ (au ds) (L.map fun q=>(eh ds q.1,q.2))
def pJ (ds:List Nat) (L:QL):Nat→List Dyadic
 |0=>X0 ds L
 |k+1=>gY ds (ds.length-1-k) (eB (ds.getD (ds.length-1-k) 0) 1 1) (pJ ds L k)
theorem rI (ds:List Nat) (L:QL) (k:Nat):pJ ds L (k+1)=gY ds (ds.length-1-k) (eB (ds.getD (ds.length-1-k) 0) 1 1) (pJ ds L k):=rfl
theorem BG (ds:List Nat) (L:QL) (k:Nat):(pJ ds L k).length=au ds:=by
 cases k with
 |zero=>exact lh _ _
 |succ k=>rw [rI,oP]
theorem JB {ds:List Nat}{L:QL} (hL:∀q∈L,iV ds q.1):∀k,k≤ds.length→∀row,iV ds row→co ds (pJ ds L k) row=sm L fun q=>q.2*wK (ds.length-k) ds q.1 row
 |0,_,row,hr=>by
  have hp:=jK hr;rw [wX hr];show ((X0 ds L)[eh ds row]?).getD 0=_;unfold X0;rw [nT _ hp,YF,u4];refine bL fun q hq=> ?_;rw [Nat.sub_zero,JA ds q.1 row (hL q hq) hr];by_cases h:q.1=row
  ·rw [Xo h,Xo (by rw [h])];grind
  ·rw [Xp h,Xp fun e=>h (by rw [←gM (hL q hq),←gM hr];exact Yu (cZ ds) e)];grind
 |k+1,hk,row,hr=>by
  obtain ⟨j,hj⟩:∃j,j=ds.length-1-k:=⟨_,rfl⟩;rw [rI,←hj,G1 _ _ _ hr,show ds.length-(k+1)=j by omega];have e1:∀i,i<ds.getD j 0+1→co ds (pJ ds L k) (row.set j i)=sm L fun q=>q.2*wK (j+1) ds q.1 (row.set j i):=fun i hi=>by
   rw [JB hL k Xj (row.set j i) (Gf hr Xj),show ds.length-k=j+1 by omega]
  rw [bL fun i hi=>show co ds (pJ ds L k) (row.set j i)*eB (ds.getD j 0) 1 1 i (row.getD j 0)=sm L fun q=>q.2*(wK (j+1) ds q.1 (row.set j i)*eB (ds.getD j 0) 1 1 i (row.getD j 0)) by
   rw [e1 i (XT.1 hi),←mz];exact bL fun q _=>by grind,tQ]
  refine bL fun q hq=> ?_;rw [←FA j ds q.1 row Xj (hL q hq) hr,←mE]
def sP (ns:List Nat) (l:List TR):List Dyadic:=(List.range (au ns.reverse)).map fun p=>wS (fun m=>wK 0 ns.reverse (cP m).reverse (cZ ns.reverse p)) l
theorem EI (ns:List Nat) (l:List TR):(sP ns l).length=au ns:=by unfold sP;rw [XA,YO,cD]
def th (l:List TR):QL:=l.map fun t=>((cP t.m).reverse,t.c.d)
theorem AW {ns:List Nat} (hl:∀t∈l,iV ns.reverse (cP t.m).reverse):pJ ns.reverse (th l) ns.length=sP ns l:=by
 have hL:∀q∈th l,iV ns.reverse q.1:=fun q hq=>by
  obtain ⟨t,ht,rfl⟩:=XG.1 hq;exact hl t ht
 refine R4 (ds:=ns.reverse) (BG _ _ _) (by rw [EI,cD]) fun row hr=> ?_;have hp:=jK hr;rw [JB hL ns.length (by rw [X8];exact Xr _) row hr,wX hr,show ns.reverse.length-ns.length=0 by rw [X8,Yq]];unfold sP th;rw [Xx,Yh hp,u4];show _=wS _ l;rw [F6,gM hr]
theorem vB:∀{ds rs:List Nat} (a:Nat),iV ds rs→rs.getD a 0≤ds.getD a 0
 |[],[],_,_=>by simp
 |[],_::_,_,h=>by cases h
 |_::_,[],_,h=>by cases h
 |_::_,_::_,0,h=>h.1
 |_::ds,_::rs,a+1,h=>vB (ds:=ds) (rs:=rs) a h.2
theorem Hh {a d:Nat} (hx:∀x∈X,Sz k x) (hd:ds.getD a 0=d) (hd7:d≤127):∀x∈gY ds a (eB d 1 1) X,Sz (k+520) x:=fun x h=>by
 obtain ⟨p,_,rfl⟩:=XG.1 h;have hr:(cZ ds p).getD a 0≤d:=by rw [←hd];exact vB a (mh ds p)
 have h2:=B6 (l:=List.range (ds.getD a 0+1)) (f:=fun i=>co ds X ((cZ ds p).set a i)*eB d 1 1 i ((cZ ds p).getD a 0)) (k:=k+(130+2*(1*d))) fun i _=>by
  refine Sz.mul ?_ (y8 Sz.one Sz.one hd7 hr);exact TC
 rw [YO,hd] at h2;rw [hd];exact h2.mono Xj
theorem Bh {B:Nat} (h:∀d∈ds,d≤B) (a:Nat):ds.getD a 0≤B:=by
 rw [YM]
 cases ha:ds[a]? with
 |none=>exact Xs _
 |some d=>exact h d (Xt ha)
theorem DH {ds:List Nat}{L:QL}{k:Nat} (h:∀x∈X0 ds L,Sz k x) (hd:∀d∈ds,d≤127):∀i,∀x∈pJ ds L i,Sz (k+520*i) x
 |0=>h
 |i+1=>fun x hx=>(Hh (DH h hd i) rfl (Bh hd _) x hx).mono Xj
theorem QO (h:iT k l):∀x∈X0 ds (th l),Sz (k+l.length) x:=fun x hx=>by
 have:=O9 (N:=au ds) (L:=(th l).map fun (q:List Nat×Dyadic)=>(eh ds q.1,q.2)) (k:=k) (fun a ha=>by
  obtain ⟨q,hq,rfl⟩:=XG.1 ha;obtain ⟨t,ht,rfl⟩:=XG.1 hq;exact (h t ht).2) x hx
 unfold th at this;rwa [XA,XA] at this
def VB (p:Int×Int):Bool:=decide (p.2<p.1∨127<p.2)
def Wz (ds es:List Int):Int:=if es.length≠ds.length then 1 else if (ds.zip es).any VB=true then 1 else if 4096<au (es.map Int.toNat) then 3 else 0
def R6 (a b:List Nat):List Nat:=List.zipWith (· - ·) a b
def RE (ns ts:List Nat) (xs:List Dyadic):List Dyadic:=TA ns (R6 ts ns) xs ((Db (R6 ts ns)).map nD)
def Xh (es ds:List Int):List Int:=List.zipWith (· - ·) es ds
theorem qZ (ts:List Nat):(bM ts).map Int.toNat=ts:=by
 unfold bM;rw [Ym];exact aaw ts
def Wj (e:Int):Ending:=.returned (.tuple #[.agg #[.slice none 0 0,.slice none 0 0],.int .i64 e])
def FX.qz (f:FX):HE:=.row f.B f.m f.b 40 3 (ay NR.cells f.cs)
def FX.oV (f:FX):HE:=.row f.A f.n f.a 3 1 (bu f.ds)
def Tp:List FX→List HE
 |[]=>[]
 |f::fs=>f.qz::f.oV::Tp fs
def To (a b:List Nat):List Nat:=List.zipWith max a b
def maxD (fs:List FX):List Nat:=fs.foldl (fun a f=>To a (f.ds.map Int.toNat)) ((fs.map fun f=>f.ds.map Int.toNat).headD [])
def UY (fs:List FX):Int:=if ES fs≠0 then ES fs else if 4096<au (maxD fs) then 3 else 0
def FX.ns (f:FX):List Nat:=f.ds.map Int.toNat
theorem FX.fv {f:FX} (h:f.e=0):f.ds=bM f.ns∧f.cs=(f.cs.map NR.d).map nR∧f.ns.length≤12∧(∀d∈f.ns,d≤127)∧f.cs.length=au f.ns∧au f.ns≤4096:=by
 obtain ⟨ns,xs,hv,hxs⟩:=TF h;obtain ⟨h1,h2,h3,h4,h5,h6⟩:=hv;have e:f.ns=ns:=by unfold FX.ns;rw [h1];exact qZ ns
 subst hxs;rw [e];exact ⟨h1,h2,h3,h4,by simpa using h5,h6⟩
structure Xd (D:List Nat) (ys:List Dyadic) (g:FX):Prop where
 ds:g.ds=bM D
 cs:g.cs=ys.map nR
 n:g.n=D.length
 m:g.m=au D
def Xc (D:List Nat) (f:FX):List Dyadic:=RE f.ns D (f.cs.map NR.d)
def WW (a b:List Nat) (j:Nat):List Nat:=(To a b).take j++a.drop j
def Sf (a b:List Dyadic):List Dyadic:=List.zipWith (· + ·) a b
def Wx:List (List Dyadic)→List Dyadic
 |[]=>[]
 |x::l=>l.foldl Sf x
def WS (a b:List Dyadic) (j:Nat):List Dyadic:=(Sf a b).take j++a.drop j
def V9 (f g:FX):Int:=if ES [f,g]≠0 then ES [f,g] else if Vm (RM f.ns g.ns)=true then 3 else 0
def Ws (a b:List Nat) (j:Nat):List Nat:=(RM a b).take j++a.drop j
end Go.Proofs.YtolamocnngihpaaGreatDoor
