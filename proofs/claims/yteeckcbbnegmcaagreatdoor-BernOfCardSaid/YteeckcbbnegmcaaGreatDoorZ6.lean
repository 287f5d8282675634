/- Lemmas for bernOf, part 6. -/
import Derived.Test.YteeckcbbnegmcaaGreatDoorZ5
namespace Go.Proofs.YteeckcbbnegmcaaGreatDoor
open Go.RowKit
theorem eU (A:Option Addr) (n c:Nat) (ds:List Int) (w:World) (hS:Sl w A n 1 (bC ds)) (hn:n≤1000000):
  Calls Tryz.prog 90 #[.slice A n c] w fun r w'=>r=.returned (.int .i64 (gJ 1 ds))∧Below w.heap.size w w':=by
 have hh:=Hp.start w;have hln:ds.length=n:=by have:=hS.1;simpa [bC] using this
 refine aj (N:=31) (l:=[.slice A n c]) Tryz.func90 rfl rfl (by simp) ?_;refine sr (aI (aa (sr (aI (aa (ah (sr (mL (aF (mI (aa (aq ?_))))))))))));refine bp [2,3,5,8,9,10,11,12,13,14,15,16,17,18,19,20,21,22,23,24,25,26,27,28,29] 3 8
  (fun v3 v w'=>∃(i:Nat) (q:Int),i≤n∧v=.int .i64 i∧v3=.int .i64 q∧1≤q∧q≤4096∧gJ 1 ds=gJ q (ds.drop i)∧Hp w [] w')
  (fun _ v _=>n-(intOf v).toNat) ?_ ?_
 ·exact ⟨0,1,V5 _,rfl,rfl,VX,VX,rfl,hh⟩
 ·clear hh;rintro ρ' v3 v w' ⟨i,q,hi,rfl,rfl,hq1,hq2,hc,hh⟩;by_cases hlt:i<n
  ·obtain ⟨d,hd⟩:=ak (l:=ds) (k:=i) VX;have hgi:=cw hd;obtain ⟨ad,rfl,hr⟩:=hS.at_ VX;rw [gK hd,gJ] at hc;by_cases h1:d<0
   ·rw [V2 (.inl h1)] at hc;refine sr ?_;refine dZ ?_;refine bY ?_;refine tI ?_;refine aI (aa (ah (sr (mI ?_))));refine aW (mB ?_);refine gS (gS ?_);refine eM ?_;refine mB ?_;refine gS (gS (gS (gS (gS ?_))));refine eM ?_;exact Q5
   ·by_cases h2:127<d
    ·rw [V2 (.inr (.inl h2))] at hc;refine sr ?_;refine dZ ?_;refine bY ?_;refine tI ?_;refine aI (aa (ah (sr (mI ?_))));refine aW (mB (gT (mI (gT ?_))));refine bM ?_;refine dE ?_;refine mB ?_;refine gS (gS (gS (gS (gS ?_))));refine eM ?_;exact Q5
    ·have hm1:1*1≤q*(d+1):=YL hq1 VX VY VX;have hm2:q*(d+1)≤4096*128:=YL hq2 VX VX VY;by_cases h3:4096<q*(d+1)
     ·rw [V2 (.inr (.inr h3))] at hc;refine sr ?_;refine dZ ?_;refine bY ?_;refine tI ?_;refine aI (aa (ah (sr (mI ?_))));refine aW (mB (gT (mI (gT ?_))));refine bM ?_;refine dE ?_;refine mB (gT (mI (gT (mI (gT ?_)))));refine a9 (gT ?_);refine mulC (gT ?_);refine bM ?_;refine dE ?_;exact Q5
     ·rw [V3 VX] at hc;refine sr ?_;refine dZ ?_;refine bY ?_;refine tI ?_;refine aI (aa (ah (sr (mI ?_))));refine aW (mB (gT (mI (gT ?_))));refine bM ?_;refine dE ?_;refine mB (gT (mI (gT (mI (gT ?_)))));refine a9 (gT ?_);refine mulC (gT ?_);refine bM ?_;refine dE ?_;refine aa (cF (ao (ai (al (mI (mI ?_))))));refine a9 ?_;refine mulC (aI (aA (bF (ai (al ?_)))));refine a9 (mI (aA (ai ?_)));refine ⟨⟨i+1,_,VX,rfl,rfl,VX,VX,hc,hh⟩,by show n-(i+1)<n-i;omega, ?_⟩;exact dy
  ·rw [XB VX] at hc;refine sr ?_;refine aW (aa (ah (cF (aU (aD (aD (bk (ai (sr (mI (aI (aa (au ?_)))))))))))));refine cS ?_;exact ⟨by rw [hc];rfl,hh.below⟩
theorem CZ (d:Int) (w:World):
  Calls Tryz.prog 129 #[.int .i64 d] w fun r w'=>r=.returned (.bool (!cE d))∧Below w.heap.size w w':=by
 have hh:=Hp.start w;by_cases h1:d<0
 ·refine aj (N:=9) (l:=[.int .i64 d]) Tryz.func129 rfl rfl (by simp) ?_;refine sr (aB (aa (sr (mI ?_))));refine aW (mB ?_);refine gS (gS ?_);refine eM ?_;refine aB (aa (au ?_));refine cS ?_;refine ⟨?_,hh.below⟩;unfold cE;rw [Wu (show ¬0≤d by omega)]
  rfl
 ·by_cases h2:127<d
  ·refine aj (N:=9) (l:=[.int .i64 d]) Tryz.func129 rfl rfl (by simp) ?_;refine sr (aB (aa (sr (mI ?_))));refine aW (mB (gT (mI (gT ?_))));refine bM ?_;refine dE ?_;refine aB (aa (au ?_));refine cS ?_;refine ⟨?_,hh.below⟩;unfold cE;rw [Wu (show ¬d≤127 by omega),Bool.and_false]
   rfl
  ·refine aj (N:=9) (l:=[.int .i64 d]) Tryz.func129 rfl rfl (by simp) ?_;refine sr (aB (aa (sr (mI ?_))));refine aW (mB (gT (mI (gT ?_))));refine bM ?_;refine dE ?_;refine aB (aa (au ?_));refine cS ?_;refine ⟨?_,hh.below⟩;unfold cE;rw [Wm (show 0≤d by omega),Wm (show d≤127 by omega)]
   rfl
theorem D6 (a:NR) (w:World) (hT:eK w) (ha:a.ok):
  Calls Tryz.prog 131 #[.agg #[.bool a.neg,.string a.bf,.int .i64 a.e]] w fun r w'=>r=.returned (.bool (yJ a))∧Below w.heap.size w w':=by
 have hh:=Hp.start w;have hf:=fun w1 hT1=>eY a w1 hT1 (by have:=ha.1;omega) (by have:=ha.2;omega) (by have:=ha.2;omega)
 cases hx:yJ a with
 |false=>
  have he:=uV.1 hx;refine aj (N:=7) (l:=[.agg #[.bool a.neg,.string a.bf,.int .i64 a.e]]) Tryz.func131 rfl rfl (by simp) ?_;refine sr ?_;refine cf hh [_,_,_] ?_;intro b1 w1 hh;refine aB (aa (ah ?_));refine aT 3 [[(1,none)],[(3,some 0)],[(1,none)]] [(2,5),(1,4),(0,3)] hh mixed VZ ?_;refine ee 0 [_,_,_] ?_;refine dC (fun _ hj=>hf _ (hT.hp hj.hp)) ?_;refine ee 0 [_,_,_] ?_;refine aJ ?_;intro f W hJ hV;have hb_1:=hJ.bl;obtain ⟨v5,v4,v3,_⟩:=hV;replace hh:=hJ.hp;refine aR (a8 (ae v5 (ae v4 (ae v3 aQ)))) ?_;dsimp only [bH];clear hJ;refine sY rfl rfl (by first|assumption|rfl) VY ?_;exact vH
 |true=>
  have he:¬nR a.d=a:=fun h=>by rw [uV.2 h] at hx;cases hx
  refine aj (N:=7) (l:=[.agg #[.bool a.neg,.string a.bf,.int .i64 a.e]]) Tryz.func131 rfl rfl (by simp) ?_;refine sr ?_;refine cf hh [_,_,_] ?_;intro b1 w1 hh;refine aB (aa (ah ?_));refine aT 3 [[(1,none)],[(3,some 0)],[(1,none)]] [(2,5),(1,4),(0,3)] hh mixed VZ ?_;refine ee 0 [_,_,_] ?_;refine dC (fun _ hj=>hf _ (hT.hp hj.hp)) ?_;refine ee 0 [_,_,_] ?_;refine aJ ?_;intro f W hJ hV;have hb_1:=hJ.bl;obtain ⟨v5,v4,v3,_⟩:=hV;replace hh:=hJ.hp;refine aR (a8 (ae v5 (ae v4 (ae v3 aQ)))) ?_;dsimp only [bH];clear hJ;refine yF rfl rfl (by assumption) VY ?_;exact vH
theorem vU (A B:Option Addr) (n c m c2:Nat) (ds:List Int) (cs:List NR) (w:World) (hT:eK w) (hS:Sl w A n 1 (bC ds)) (hS2:Sl w B m 3 (az NR.cells cs)) (hn:n≤1000000) (hm:m≤1000000) (hc:∀a∈cs,a.ok):
  Calls Tryz.prog 41 #[.agg #[.slice A n c,.slice B m c2]] w fun r w'=>r=.returned (.int .i64 (fE ds cs))∧Below w.heap.size w w':=by
 have hh:=Hp.start w;have hln:ds.length=n:=by have:=hS.1;simpa [bC] using this
 have hlm:=hS2.bg NR.len VY;have h1:=fun w1 hS1=>Ef A n c ds 129 [] (fun d=> !cE d) w1 hS1 hn (fun z w2 _ hb=>CZ z w2);have h2:=fun w1 (hT1:eK w1) hS1=>Dz B m c2 cs 131 [] yJ w1 hS1 hm (fun z w2 hz hb=>D6 z w2 (hT1.ext hb) (hc z hz));have h3:=EU ds 1 VX VX;unfold fE;by_cases g1:12<n
 ·refine xR ?_;refine sr ?_;refine cf hh [_,_] ?_;intro b1 w1 hh;refine vm ?_;refine bB hh 0 ?_;refine aF ?_;refine bM (mB ?_);refine gS (gS ?_);refine ic ?_;refine eM ?_;refine Fq ?_;exact Js
 ·cases g2:ds.any (fun d=> !cE d) with
  |true=>
   refine xR ?_;refine sr ?_;refine cf hh [_,_] ?_;intro b1 w1 hh;refine vm ?_;refine bB hh 0 ?_;refine aF ?_;refine bM (mB (gT (bE (gT ?_))));refine bB hh 0 ?_;refine aK rfl rfl ?_;refine br hh (h1 _ (hS.ext hh.below)) rfl ?_;intro w11 hh;rw [g2];refine dE ?_;refine Fq ?_;refine cS ?_;exact ⟨by rw [V2 (.inr rfl)],hh.below⟩
  |false=>
   rw [V3 (fun h=>h.elim (fun h=>by omega) (fun h=>by cases h))];by_cases g3:gJ 1 ds=0
   ·refine xR ?_;refine sr ?_;refine cf hh [_,_] ?_;intro b1 w1 hh;refine vm ?_;refine bB hh 0 ?_;refine aF ?_;refine bM (mB (gT (bE (gT ?_))));refine bB hh 0 ?_;refine aK rfl rfl ?_;refine br hh (h1 _ (hS.ext hh.below)) rfl ?_;intro w11 hh;rw [g2];refine dE ?_;refine aB (aa (cF (sr (bE ?_))));refine bB hh 0 ?_;refine FH ?_;intro w16 hh;refine cB (aB (aa (cT (sr (aI (aa (au (bI (aE ?_)))))))));refine cS ?_;exact ⟨by rw [V2 g3],hh.below⟩
   ·rw [V3 g3];by_cases g4:(m:Int)=gJ 1 ds
    ·rw [V3 (show ¬(cs.length:Int)≠gJ 1 ds by omega)]
     cases g5:cs.any yJ with
     |true=>
      refine xR ?_;refine sr ?_;refine cf hh [_,_] ?_;intro b1 w1 hh;refine vm ?_;refine bB hh 0 ?_;refine aF ?_;refine bM (mB (gT (bE (gT ?_))));refine bB hh 0 ?_;refine aK rfl rfl ?_;refine br hh (h1 _ (hS.ext hh.below)) rfl ?_;intro w11 hh;rw [g2];refine dE ?_;refine aB (aa (cF (sr (bE ?_))));refine bB hh 0 ?_;refine FH ?_;intro w16 hh;refine cB (aB (aa (cF (ah ?_))));refine KS ?_;refine cP ?_;refine dL 0 ?_;refine rE ?_;refine cP ?_;refine dL 0 ?_;refine dC (fun _ hj=>eU A n c ds _ (hS.ext hj.hp.below) hn) ?_;refine aJ ?_;intro f W hJ hV;have hb_5:=hJ.bl;obtain ⟨v24,v23,v22,v21,v20,v19,_⟩:=hV;replace hh:=hJ.hp;refine JY ?_;dsimp only [bH];clear hJ;refine cJ (aB (aa (cF (ao (bF (ai (ah (sr (bE ?_)))))))));refine bB hh 0 ?_;refine br hh (h2 _ (hT.hp hh) (hS2.ext hh.below)) rfl ?_;intro w28 hh;rw [g5];refine BV ?_;refine cS ?_;exact ⟨by rw [V2 rfl],hh.below⟩
     |false=>
      refine xR ?_;refine sr ?_;refine cf hh [_,_] ?_;intro b1 w1 hh;refine vm ?_;refine bB hh 0 ?_;refine aF ?_;refine bM (mB (gT (bE (gT ?_))));refine bB hh 0 ?_;refine aK rfl rfl ?_;refine br hh (h1 _ (hS.ext hh.below)) rfl ?_;intro w11 hh;rw [g2];refine dE ?_;refine aB (aa (cF (sr (bE ?_))));refine bB hh 0 ?_;refine FH ?_;intro w16 hh;refine cB (aB (aa (cF (ah ?_))));refine KS ?_;refine cP ?_;refine dL 0 ?_;refine rE ?_;refine cP ?_;refine dL 0 ?_;refine dC (fun _ hj=>eU A n c ds _ (hS.ext hj.hp.below) hn) ?_;refine aJ ?_;intro f W hJ hV;have hb_5:=hJ.bl;obtain ⟨v24,v23,v22,v21,v20,v19,_⟩:=hV;replace hh:=hJ.hp;refine JY ?_;dsimp only [bH];clear hJ;refine cJ (aB (aa (cF (ao (bF (ai (ah (sr (bE ?_)))))))));refine bB hh 0 ?_;refine br hh (h2 _ (hT.hp hh) (hS2.ext hh.below)) rfl ?_;intro w28 hh;rw [g5];refine Gu ?_;refine cS ?_;exact ⟨by rw [V3 VY],hh.below⟩
    ·rw [V2 (show (cs.length:Int)≠gJ 1 ds by omega)];refine xR ?_;refine sr ?_;refine cf hh [_,_] ?_;intro b1 w1 hh;refine vm ?_;refine bB hh 0 ?_;refine aF ?_;refine bM (mB (gT (bE (gT ?_))));refine bB hh 0 ?_;refine aK rfl rfl ?_;refine br hh (h1 _ (hS.ext hh.below)) rfl ?_;intro w11 hh;rw [g2];refine dE ?_;refine aB (aa (cF (sr (bE ?_))));refine bB hh 0 ?_;refine FH ?_;intro w16 hh;refine cB (aB (aa (cF (ah ?_))));refine KS ?_;refine cP ?_;refine dL 0 ?_;refine rE ?_;refine cP ?_;refine dL 0 ?_;refine dC (fun _ hj=>eU A n c ds _ (hS.ext hj.hp.below) hn) ?_;refine aJ ?_;intro f W hJ hV;have hb_5:=hJ.bl;obtain ⟨v24,v23,v22,v21,v20,v19,_⟩:=hV;replace hh:=hJ.hp;refine JY ?_;dsimp only [bH];clear hJ;refine cJ (aB (aa (cT (sr (aI (aa (au (bI (aE ?_)))))))));refine cS ?_;exact ⟨rfl,hh.below⟩
variable {ds:List Nat}
def Rv:List Nat→List Nat→Bool
 |[],[]=>true
 |d::ds,r::rs=>decide (r≤d) && Rv ds rs
 |_,_=>false
theorem FI:∀(ds rs:List Nat),Rv ds rs=true↔nU ds rs
 |[],[]=>by simp [Rv,nU]
 |[],_::_=>by simp [Rv,nU]
 |_::_,[]=>by simp [Rv,nU]
 |d::ds,r::rs=>by rw [Rv,nU,Wl,Wt,FI ds rs]
def co (ds:List Nat) (xs:List Dyadic) (row:List Nat):Dyadic:=if Rv ds row then (xs[jf ds row]?).getD 0 else 0
theorem E6 {xs:List Dyadic}{row:List Nat} (h:nU ds row):co ds xs row=(xs[jf ds row]?).getD 0:=by
 unfold co;rw [V2 ((FI _ _).2 h)]
theorem C1 {xs:List Dyadic}{p:Nat} (h:p<ay ds):co ds xs (dq ds p)=(xs[p]?).getD 0:=by
 rw [E6 (l3 ds p),AF h]
theorem QP {xs ys:List Dyadic} (hx:xs.length=ay ds) (hy:ys.length=ay ds) (h:∀row,nU ds row→co ds xs row=co ds ys row):xs=ys:=by
 refine List.ext_getElem (by rw [hx,hy]) fun p h1 h2=> ?_;have h3:=h (dq ds p) (l3 ds p);rw [C1 VX,C1 VX,Xp h1,Xp h2] at h3;exact h3
def Dp:List Nat→List Nat→List Nat
 |a::l,b::m=>(a+b)::Dp l m
 |_,_=>[]
def T6:(List Nat→Dyadic)→List Nat→List Nat→Dyadic
 |F,r::rs,j::js=>if j≤r then T6 (fun t=>F ((r-j)::t)) rs js else 0
 |F,[],[]=>F []
 |_,_,_=>0
def SB:List Nat→List Nat→Nat
 |m::ms,j::js=>bin m j*SB ms js
 |_,_=>1
def UF:List Nat→(List Nat→Dyadic)→List Nat→Dyadic
 |m::ms,F,r::rs=>sm (List.range (m+1)) fun j=>if j≤r then nD (bin m j)*UF ms (fun t=>F ((r-j)::t)) rs else 0
 |_,F,row=>F row
def UH (ds es:List Nat) (xs ys:List Dyadic):List (Nat×Dyadic):=
 (List.range (ay es)).flatMap fun k=>(List.range (ay ds)).map fun i=>(jf (Dp ds es) (Dp (dq ds i) (dq es k)),(xs[i]?).getD 0*(ys[k]?).getD 0)
def Us (row:List Nat) (a:Nat):List Nat:=row.set a (row.getD a 0-1)
variable {k n:Nat}
def lT (n:Nat):List NR:=(sG n).map fun k=>nR (nD k)
theorem I1 (n:Nat):(lT n).length=n+1:=by simp [lT,uq]
theorem kM (h:k≤n):(lT n)[k]?=some (nR (nD (bin n k))):=by
 unfold lT;rw [Wf,yc h]
 rfl
theorem rv (n k:Nat) (h:n≤127):Sz 128 (nD (bin n k)):=KG (Xb (vu n k) (Nat.pow_lt_pow_right VY VX))
theorem lr (n:Nat) (w:World) (hT:eK w) (hn:n≤127):
  Calls Tryz.prog 135 #[.int .i64 n] w fun r w'=>∃A c',r=.returned (.slice A (n+1) c')∧w'.ownsRow w.heap.size 65 3 (.slice A (n+1) c') (n+1) (az NR.cells (lT n))∧Below w.heap.size w w':=by
 have hh:=Hp.start w;refine aj (N:=39) (l:=[.int .i64 n]) Tryz.func135 rfl rfl (by simp) ?_;refine sr (aL (aa (sr ?_)));refine Bi ?_;intro w6 hh;refine qK ?_;intro b7 w7 hh;refine aL (aa (ah (sr (mI (mI (aa (aq ?_)))))));refine bp [3,4,5,9,10,11,12,13,14,15,16,17,18,19,20,21,22,23,24,25,26,27,28,29,30,31,32,33,34,35,36,37] 3 9
  (fun v3 v w'=>∃(i c3:Nat) (A:Option Addr),i≤n∧v=.int .i64 i∧v3=.slice A (i+1) c3∧Hp w [.row A (i+1) c3 65 3 (az NR.cells (lT i))] w')
  (fun _ v _=>n-(intOf v).toNat) ?_ ?_
 ·exact ⟨0,_,_,V5 _,rfl,rfl,hh⟩
 ·clear hh;rintro ρ' v3 v w' ⟨i,c3,A,hi,rfl,rfl,hh⟩;by_cases hlt:i<n
  ·refine sr ?_;refine dZ ?_;refine Bi ?_;intro w11 hh;refine qK ?_;intro b12 w12 hh;refine EK ?_;refine bp [4,5,13,14,15,16,17,18,19,20,21,22,23,24,25,26,27,28,29,30,31,32] 4 5
    (fun v4 v w'=>∃(k c4:Nat) (B:Option Addr),k≤i∧v=.int .i64 ((k+1:Nat):Int)∧v4=.slice B (k+1) c4∧Hp w [.row B (k+1) c4 65 3 (az NR.cells ((lT (i+1)).take (k+1))),.row A (i+1) c3 65 3 (az NR.cells (lT i))] w')
    (fun _ v _=>i+1-(intOf v).toNat) ?_ ?_
   ·refine ⟨0,_,_,V5 _,rfl,rfl, ?_⟩;rw [show (lT (i+1)).take (0+1)=[nR (nD 1)] by rw [aw (kM (V5 _)),uO];rfl];exact hh
   ·clear hh;rintro ρ2 v4 v w2 ⟨k,c4,B,hk,rfl,rfl,hh⟩;by_cases hlk:k<i
    ·have e1:=kM (n:=i) (k:=k) VX;have e2:=kM (n:=i) (k:=k+1) VX;have e3:=kM (n:=i+1) (k:=k+1) VX;have z1:=rv i k VX;have z2:=rv i (k+1) VX;have hadd:=fun A cc w1 hT1 hS1=>jl A 2 cc [nR (nD (bin i k)),nR (nD (bin i (k+1)))] w1 hT1 hS1 (by simpa using ⟨z1.ok VX,z2.ok VX⟩) 128 (by simpa [cm] using ⟨z1,z2⟩) VX;rw [show m6 ([nR (nD (bin i k)),nR (nD (bin i (k+1)))].map NR.d)=nD (bin (i+1) (k+1)) by simp only [Wv,WV,cm,lL,bin,yh]] at hadd;obtain ⟨go,rfl⟩:=hh.cu (i:=1) rfl VX;refine ah (sr (mI (mL (aF ?_))));refine F7 ?_;refine aT 13 [[(4,none)],[(3,none)],[(5,none)],[(21,some 2)],[(20,some 1),(22,some 3)],[(23,some 4)],[(3,none)],[(5,none)],[(25,some 6),(26,some 7)],[(27,some 8)],[(24,some 5),(28,some 9)],[(29,some 10)],[(30,some 11)]] [(12,31),(11,30),(10,29),(9,28),(8,27),(7,26),(6,25),(5,24),(4,23),(3,22),(2,21),(1,20),(0,19)] hh mixed VZ ?_;refine dI ?_;refine dI ?_;refine cM ?_;refine pE ?_;refine FG (k) ?_;refine mJ [_,_,_] (fun _ hj=>hj.hp.fY (f:=NR.cells) (x:=nR (nD (bin i k))) (l:=lT i) (i:=1) rfl NR.len VY e1) ?_;refine dI ?_
     refine cM ?_;refine FG ((k+1)) ?_;refine mJ [_,_,_] (fun _ hj=>hj.hp.fY (f:=NR.cells) (x:=nR (nD (bin i (k+1)))) (l:=lT i) (i:=1) rfl NR.len VY e2) ?_;refine oB [_,_,_,_,_,_] ?_;refine aN (i:=11) (Is (.agg #[.bool (nR (nD (bin (i+1) (k+1)))).neg,.string (nR (nD (bin (i+1) (k+1)))).bf,.int .i64 (nR (nD (bin (i+1) (k+1)))).e])) Is.ext ?_ ?_
     ·intro ρ1 w1 hj hR;obtain ⟨A29,c29,h29,s29⟩:=hR.1;exact bh rfl (aP ar.out (av h29 a6)) (hadd A29 c29 _ (hT.hp hj.hp) s29) (fun _ _ hq=>⟨_,hq.1,hq.2,rfl⟩)
     refine oB [_,_,_] ?_;refine aJ ?_;intro f W hJ hV;have hb_8:=hJ.bl;obtain ⟨v31,v30,v29,v28,v27,v26,v25,v24,v23,v22,v21,v20,v19,_⟩:=hV;obtain ⟨A29,c29,e29,f29⟩:Rows _ _ _ (f 10) W:=v29;obtain ⟨A31,c31,e31,f31⟩:Rows _ _ _ (f 12) W:=v31;replace hh:=hJ.hp;refine aR (a8 (ae e31 (ae v30 (ae e29 (ae v28 (ae v27 (ae v26 (ae v25 (ae v24 (ae v23 (ae v22 (ae v21 (ae v20 (ae v19 aQ)))))))))))))) ?_;dsimp only [bH];clear e29 e31 hJ;refine bK hh (i:=0) rfl rfl rfl (f31) bj.out aO.out rfl VY (by first|rfl|exact cQ _|exact cD _|exact a7 _|exact bu NR.one _) VX VX VY ?_;intro A32 c32 w32 hh;simp only [Wd] at hh;refine jK ?_;refine a9 (aI (aA (ai ?_)));replace hh:=hh.sub (V4 _ (V4 _ Wq));refine ⟨⟨k+1,c32,A32,VX,rfl,rfl, ?_⟩,by show i+1-(k+1+1)<i+1-(k+1);omega, ?_⟩
     ·rw [aw e3,bG];exact hh
     ·exact dy
    ·obtain rfl:k=i:=VX;have e3:=kM (n:=k+1) (k:=k+1) (V8 _);refine ah (sr (mI (mL (aF ?_))));refine aW (aa (cF (aU (aD (aD (bk (ai (al (mL ?_)))))))));refine Bi ?_;intro w34 hh;refine qK ?_;intro b35 w35 hh;refine mF ?_;intro A36 c36 w36 hh;simp only [Wd,WH] at hh;replace hh:=hh.sub (WE _ _);refine lR ?_;refine a9 (mI (aA (ai ?_)));replace hh:=hh.sub (V4 _ (V6 _ Wq));refine ⟨⟨k+1,c36,A36,VX,rfl,rfl, ?_⟩,by show n-(k+1)<n-k;omega, ?_⟩
     ·have e4:lT (k+1)=(lT (k+1)).take (k+1)++[nR (nD (bin (k+1) (k+1)))]:=by
       rw [←aw e3,Wa (by rw [I1];omega)]
      rw [e4,bG,uG];exact hh
     ·exact dy
  ·obtain rfl:i=n:=VX;exact Rs
def C6 (ds:List Nat):List Nat:=(List.range (ay ds.reverse)).map fun p=>SB ds.reverse (dq ds.reverse p)
theorem Jc (ds:List Nat) (d:Nat):C6 (ds++[d])=(C6 ds).flatMap fun x=>(sG d).map (x* ·):=by
 have hl:∀a∈C6 ds,((sG d).map (a* ·)).length=d+1:=fun a _=>by rw [Wh,uq]
 refine XN fun p=> ?_;rw [ph VX _ _ _ hl];unfold C6;rw [Yz,List.reverse_singleton,List.singleton_append];by_cases hp:p<ay (d::ds.reverse)
 ·have hq:p/(d+1)<ay ds.reverse:=by rw [Xv VX,WB];exact hp
  have hr:p % (d+1)≤d:=by have:=Wy p (show 0<d+1 by omega);omega
  rw [Wf,Xc hp,Wf,Xc hq];simp only [XJ,Yb,Wf,yc hr,dq,SB,WB]
 ·have hq:¬p/(d+1)<ay ds.reverse:=by rw [Xv VX,WB];exact hp
  rw [WK (by simp;omega),WK (l:=List.map _ _) (by simp;omega)]
  rfl
theorem Gy (ds:List Nat):(C6 ds).length=ay ds:=by simp [C6,db]
def Lx (ds:List Nat):List NR:=(C6 ds).map fun k=>nR (nD k)
variable {j m:Nat}
theorem Lt:∀(ds row:List Nat),(∀d∈ds,d≤127)→SB ds row≤2^(127*ds.length)
 |[],_,_=>by show 1≤1;exact V8 _
 |d::ds,[],_=>by show 1≤_;exact WJ VY
 |d::ds,r::rs,h=>by
  have h1:bin d r≤2^127:=Wz (vu d r) (WM VY (h d We));have h2:=Lt ds rs fun x hx=>h x (Wg _ hx);rw [SB,Wx,XI,XY,Ws];exact XM h1 h2
theorem RW (h:n≤2^m) (hk:m<k):Sz k (nD n):=KG (Xb h (Nat.pow_lt_pow_right VY hk))
theorem Sh {x:Nat} (h:x∈C6 ds) (h1:ds.length≤12) (h2:∀d∈ds,d≤127):Sz 1600 (nD x):=by
 obtain ⟨p,_,rfl⟩:=Wn.1 h;have h3:=Lt ds.reverse (dq ds.reverse p) fun d hd=>h2 d (YE.1 hd);exact RW h3 (by rw [W3];omega)
def NC (ds:List Nat) (d j:Nat):List Nat:=((C6 ds).take j).flatMap fun x=>(sG d).map (x* ·)
theorem KN {d x:Nat} (h:(C6 ds)[j]?=some x):NC ds d (j+1)=NC ds d j++(sG d).map (x* ·):=by
 unfold NC;rw [aw h,YM,List.flatMap_singleton]
theorem ti (A:Option Addr) (n c:Nat) (ns:List Nat) (w:World) (hT:eK w) (hS:Sl w A n 1 (bC (bU ns))) (h12:ns.length≤12) (hlow:∀d∈ns,d≤127) (hmax:ay ns≤4096):
  Calls Tryz.prog 46 #[.slice A n c] w fun r w'=>∃B c',r=.returned (.slice B (ay ns) c')∧w'.ownsRow w.heap.size 65 3 (.slice B (ay ns) c') (ay ns) (az NR.cells (Lx ns))∧Below w.heap.size w w':=by
 have hh:=Hp.start w;have hln:ns.length=n:=by have:=hS.1;simpa [bC,bU] using this
 have hc:=kE ns 1 VY VY hlow;rw [X5,V2 hmax] at hc;have hc1:gJ ((1:Nat):Int) (bU ns)=gJ 1 (bU ns):=rfl;rw [hc1] at hc;have hpos:=cU ns;have hcnt:=fun w1 hS1=>eU A n c (bU ns) w1 hS1 VX;rw [hc] at hcnt;refine aj (N:=52) (l:=[.slice A n c]) Tryz.func46 rfl rfl (by simp) ?_;refine sr (aL (aa (ah (sr (mL (aF ?_))))));refine bM (mB (gT (mL ?_)));refine aK rfl rfl ?_;refine br hh (hcnt _ (hS.ext hh.below)) rfl ?_;intro w16 hh;refine gT ?_;refine cB ?_;refine dE ?_;refine tF ?_;refine Bi ?_;intro w19 hh;refine qK ?_;intro b20 w20 hh;refine rZ ?_;refine bp [3,5,6,8,10,23,24,25,26,27,28,29,30,31,32,33,34,35,36,37,38,39,40,41,42,43,44,45,46,47,48,49,50] 3 23
  (fun v3 v w'=>∃(i c3:Nat) (B:Option Addr),i≤n∧v=.int .i64 i∧v3=.slice B (ay (ns.take i)) c3∧Hp w [.row B (ay (ns.take i)) c3 65 3 (az NR.cells (Lx (ns.take i)))] w')
  (fun _ v _=>n-(intOf v).toNat) ?_ ?_
 ·exact ⟨0,_,_,V5 _,rfl,rfl,hh⟩
 ·clear hh;rintro ρ' v3 v w' ⟨i,c3,B,hi,rfl,rfl,hh⟩;by_cases hlt:i<n
  ·obtain ⟨d,hd⟩:=ak (l:=ns) (k:=i) VX;have hgi:=cw (ig hd);have hd127:=hlow d (V7 hd);have htl:(ns.take i).length≤12:=by rw [Wp];omega
   have htw:∀d∈ns.take i,d≤127:=fun d hd=>hlow d (X1 hd);have hct:=jH ns (i+1);have hct2:=jH ns i;have hstep:ay (ns.take (i+1))=ay (ns.take i)*(d+1):=by rw [aw hd,ep];simp [ay]
   have hsnoc:Lx (ns.take (i+1))=(NC (ns.take i) d (ay (ns.take i))).map fun k=>nR (nD k):=by
    unfold Lx NC;rw [aw hd,Jc,Wa (l:=C6 (ns.take i)) (by rw [Gy];exact V8 _)]
   generalize hds:ns.take i=ds at*;generalize hN:ay ds=N at*;obtain ⟨ad,rfl,hr⟩:=hS.at_ VX;refine sr ?_;refine dZ ?_;refine bY ?_;refine tI ?_;refine aI (aa (sr (aL (aa (ah (sr (mL (aF (mI (aa (aq ?_)))))))))));replace hh:=hh.ck 65 3;refine bp [6,8,10,29,30,31,32,33,34,35,36,37,38,39,40,41,42,43,44,45,46,47,48] 6 29
    (fun v6 v w'=>∃(j c6:Nat) (C:Option Addr),j≤N∧v=.int .i64 j∧v6=.slice C (j*(d+1)) c6∧Hp w [.row C (j*(d+1)) c6 65 3 (az NR.cells ((NC ds d j).map fun k=>nR (nD k))),.row B N c3 65 3 (az NR.cells (Lx ds))] w')
    (fun _ v _=>N-(intOf v).toNat) ?_ ?_
   ·refine ⟨0,0,none,V5 _,rfl, ?_, ?_⟩
    ·rw [YA];rfl
    ·rw [YA];exact hh
   ·clear hh;rintro ρ2 v6 v w2 ⟨j,c6,C,hj,rfl,rfl,hh⟩;by_cases hjN:j<N
    ·obtain ⟨x,hx⟩:=ak (l:=C6 ds) (k:=j) (by rw [Gy];omega);have hx2:(Lx ds)[j]?=some (nR (nD x)):=by unfold Lx;rw [Wf,hx];rfl
     have zx:=Sh (V7 hx) htl htw;have hj1:(j+1)*(d+1)≤N*(d+1):=Xi _ hjN;rw [Xj] at hj1;obtain ⟨go,rfl⟩:=hh.cu (i:=1) rfl VX;refine sr ?_;refine dZ ?_;refine lW ?_;refine cA (vs:=[_,_,_]) aO.out rfl (hh.fY (f:=NR.cells) (x:=nR (nD x)) (l:=Lx ds) (i:=1) rfl NR.len VY hx2) rfl VY ?_;refine bQ hh ?_;intro b8 w8 hh;refine bR hh 0 [_,_,_] ?_;intro ws hh;replace hh:Hp _ (.blk _ _ [_,_,_] _::_) _:=hh;refine aa (sr (mI ?_));refine aG (lr d _ (hT.hp hh) hd127) ar.out rfl VY ?_;rintro e_ w34 ⟨A34,c34,rfl,hown_,hb_⟩;refine ⟨_,rfl, ?_⟩;replace hh:=hh.aY (x:=.row _ _ _ _ _ _) hb_ hown_;refine aF (mI (aa (aq ?_)));refine bp [6,10,36,37,38,39,40,41,42,43,44,45,46,47] 6 36
      (fun v6 v w'=>∃(k c6:Nat) (C:Option Addr),k≤d+1∧v=.int .i64 k∧v6=.slice C (j*(d+1)+k) c6∧Hp w [.row A34 (d+1) c34 65 3 (az NR.cells (lT d)),.blk b8 65 [.bool (nR (nD x)).neg,.string (nR (nD x)).bf,.int .i64 (nR (nD x)).e] (0,0),.row C (j*(d+1)+k) c6 65 3 (az NR.cells ((NC ds d j++((sG d).take k).map (x* ·)).map fun k=>nR (nD k))),.row (some ⟨go,0,none⟩) N c3 65 3 (az NR.cells (Lx ds))] w')
      (fun _ v _=>d+1-(intOf v).toNat) ?_ ?_
     ·refine ⟨0,c6,C,V5 _,rfl,rfl, ?_⟩;rw [XV,WV,WG];exact hh
     ·clear hh;rintro ρ3 v6 v w3 ⟨k,c6,C,hk,rfl,rfl,hh⟩;by_cases hkd:k<d+1
      ·have hb1:=yc (n:=d) (k:=k) VX;have hb2:=kM (n:=d) (k:=k) VX;have zb:=rv d k hd127;have hmul:=fun A cc w1 hT1 hS1=>fH A 2 cc [nR (nD x),nR (nD (bin d k))] w1 hT1 hS1 (by simpa using ⟨zx.ok VX,zb.ok VX⟩) 1600 (by simpa [cm] using ⟨zx,zb.mono VX⟩) VX VX;rw [show iD ([nR (nD x),nR (nD (bin d k))].map NR.d)=nD (x*bin d k) by rw [QY];show 1*(nR (nD x)).d*(nR (nD (bin d k))).d=_;rw [cm,cm,Ye]] at hmul;obtain ⟨ga,rfl⟩:=hh.cu (i:=0) rfl VX;refine sr ?_;refine dZ ?_;refine cX (k:=k) bj.out aO.size rfl rfl VX VX VY ?_;refine cA (vs:=[_,_,_]) aO.out rfl (hh.fY (f:=NR.cells) (x:=nR (nD (bin d k))) (l:=lT d) (i:=0) rfl NR.len VY hb2) rfl VY ?_;refine bQ hh ?_;intro b10 w10 hh;refine bR hh 0 [_,_,_] ?_;intro ws hh;replace hh:Hp _ (.blk _ _ [_,_,_] _::_) _:=hh;refine aa (al (mL ?_));refine cn hh 2 [_,_,_] ?_;refine cn hh 0 [_,_,_] ?_;refine wQ ?_;intro b43 w43 hh;refine br hh (hmul _ _ _ (hT.hp hh) (hh.aC (i:=0) rfl)) rfl ?_;intro w44 hh;refine qK ?_;intro b45 w45 hh
       refine bK hh (i:=5) rfl rfl rfl (hh.aC (i:=0) rfl) bj.out aO.out rfl VY (by first|rfl|exact cQ _|exact cD _|exact a7 _|exact bu NR.one _) VX VX VY ?_;intro A46 c46 w46 hh;simp only [Wd,WH] at hh;replace hh:=hh.sub (WE _ _);refine lR ?_;refine a9 (mI (aA (ai ?_)));replace hh:=hh.sub (V6 _ (V6 _ (V4 _ (V4 _ (V4 _ (V4 _ Wq))))));refine ⟨⟨k+1,c46,A46,VX,rfl,rfl, ?_⟩,by show d+1-(k+1)<d+1-k;omega, ?_⟩
       ·have e:(NC ds d j++((sG d).take (k+1)).map (x* ·)).map (fun k=>nR (nD k))=(NC ds d j++((sG d).take k).map (x* ·)).map (fun k=>nR (nD k))++[nR (nD (x*bin d k))]:=by rw [aw hb1];simp
        rw [e,bG];exact hh
       ·exact dy
      ·obtain rfl:k=d+1:=VX;rw [Wa (by rw [uq];omega),←KN hx] at hh;refine sr ?_;refine Bf ?_;refine a9 (mI (aA (ai ?_)));replace hh:=hh.sub (V6 _ (V6 _ (V4 _ (V4 _ Wq))));refine ⟨⟨j+1,c6,C,VX,rfl, ?_, ?_⟩,by show N-(j+1)<N-j;omega, ?_⟩
       ·rw [Xj];rfl
       ·rw [Xj];exact hh
       ·exact dy
    ·obtain rfl:j=N:=VX;rw [←hsnoc,←hstep] at hh;rw [←hstep];refine sr ?_;refine aW (aa (ah (cF (aU (aD (aD (bk (ai (al (mL (aL (aA (bF (ai (al ?_)))))))))))))));refine a9 (mI (aA (ai ?_)));replace hh:=hh.sub (V4 _ (V6 _ Wq));refine ⟨⟨i+1,c6,C,VX,rfl,rfl,hh⟩,by show n-(i+1)<n-i;omega, ?_⟩;exact dy
  ·obtain rfl:i=n:=VX;rw [Wa VX] at hh ⊢;exact Rs
def vE (d r:Nat) (t:Dyadic):Dyadic:=t^r*(1-t)^(d-r)
def NM:List Nat→List Nat→List Dyadic→Dyadic
 |d::ds,r::rs,t::ts=>vE d r t*NM ds rs ts
 |_,_,_=>1
def yk (ds:List Nat) (xs:List Dyadic) (ts:List Dyadic):Dyadic:=sm (List.range (ay ds)) fun p=>(xs[p]?).getD 0*NM ds (dq ds p) ts
def lO (d:Nat) (t:Dyadic) (m:Nat) (xs:List Dyadic):List Dyadic:=(List.range m).map fun q=>sm (List.range (d+1)) fun r=>(xs[r+(d+1)*q]?).getD 0*vE d r t
def oR:List Nat→List Dyadic→List Dyadic→List Dyadic
 |d::ds,t::ts,xs=>oR ds ts (lO d t (ay ds) xs)
 |_,_,xs=>xs
theorem rF (d:Nat) (t:Dyadic) (m:Nat) (xs:List Dyadic):(lO d t m xs).length=m:=by simp [lO]
theorem xJ:∀(ds:List Nat) (ts xs:List Dyadic),ts.length=ds.length→xs.length=ay ds→oR ds ts xs=[yk ds xs ts]
 |[],[],xs,_,h=>by
  match xs,h with
  |[x],_=>
   show [x]=[x*1+0];congr 1;grind
 |d::ds,t::ts,xs,h1,h2=>by
  rw [oR,xJ ds ts _ (by simpa using h1) (rF _ _ _ _)];unfold yk;rw [Mu];congr 1;refine fN fun q hq=> ?_;have hq2:=Xx.1 hq;have:(lO d t (ay ds) xs)[q]?=some (sm (List.range (d+1)) fun r=>(xs[r+(d+1)*q]?).getD 0*vE d r t):=by
   unfold lO;rw [Wf,Xc hq2]
   rfl
  rw [this,Xq,←Ku];refine fN fun r hr=> ?_;have hr2:=Xx.1 hr;rw [dq,Yh,WU hr2,XC _ _ VX,Xg hr2,Wr,NM];grind
def sR:List Nat→(List Nat→Dyadic)→Dyadic
 |[],F=>F []
 |d::ds,F=>sm (List.range (d+1)) fun r=>sR ds fun row=>F (r::row)
def iu (ds:List Nat) (a:Nat) (M:Nat→Nat→Dyadic) (xs:List Dyadic):List Dyadic:=
 (List.range (ay ds)).map fun p=>sm (List.range (ds.getD a 0+1)) fun i=>co ds xs ((dq ds p).set a i)*M i ((dq ds p).getD a 0)
theorem pC (ds:List Nat) (a:Nat) (M:Nat→Nat→Dyadic) (xs:List Dyadic):(iu ds a M xs).length=ay ds:=by simp [iu]
theorem HR {row:List Nat} (a:Nat) (M:Nat→Nat→Dyadic) (xs:List Dyadic) (h:nU ds row):co ds (iu ds a M xs) row=sm (List.range (ds.getD a 0+1)) fun i=>co ds xs (row.set a i)*M i (row.getD a 0):=by
 rw [E6 h];unfold iu;rw [Wf,Xc (qD h)];simp only [XJ,Xq,kq h]
theorem E0:∀{ds row:List Nat}{a i:Nat},nU ds row→i≤ds.getD a 0→nU ds (row.set a i)
 |[],[],_,_,_,_=>trivial
 |d::ds,r::rs,0,i,h,hi=>⟨hi,h.2⟩
 |d::ds,r::rs,a+1,i,h,hi=>⟨h.1,E0 (a:=a) h.2 (by simpa using hi)⟩
def Un (d:Nat) (s:Dyadic) (i k:Nat):Dyadic:=if k<i then 0 else nD (bin (d-i) (k-i))*s^i*(1-s)^(k-i)
def Ub (d:Nat) (s:Dyadic) (i k:Nat):Dyadic:=if i<k then 0 else nD (bin i (i-k))*s^(i-k)*(1-s)^(d-i)
variable {q:Nat}
theorem r9:∀(A B:List Nat) (p:Nat),dq (A++B) p=dq A p++dq B (p/ay A)
 |[],B,p=>by rw [V9,ay,Nat.div_one];rfl
 |d::A,B,p=>by rw [Wb,dq,dq,r9 A B,ay,XQ];rfl
theorem Br:∀(A:List Nat) (f q:Nat),dq A (f+ay A*q)=dq A f
 |[],_,_=>rfl
 |d::A,f,q=>by
  rw [dq,dq,ay,W6,Yh,XC _ _ VX,Br A]
section
variable {A B:List Nat}{d:Nat}
def dt (A:List Nat) (d f k q:Nat):Nat:=f+ay A*(k+(d+1)*q)
theorem tB {f:Nat} (hf:f<ay A) (hk:k≤d) (hq:q<ay B):dt A d f k q<ay (A++d::B):=by
 rw [ep,ay,dt];have h1:k+(d+1)*q+1≤(d+1)*ay B:=by
  have:(d+1)*(q+1)≤(d+1)*ay B:=WS _ hq;rw [XI] at this;omega
 have h2:=WS (ay A) h1;rw [XI] at h2;omega
theorem vX {f:Nat} (hf:f<ay A) (hk:k≤d):dq (A++d::B) (dt A d f k q)=dq A f++k::dq B q:=by
 unfold dt;rw [r9,Br,XC _ _ (cU A),Xg hf,Wr,dq,Yh,WU VX,XC _ _ VX,Xg VX,Wr]
theorem DR {p:Nat} (h:p<ay (A++d::B)):∃f k q,f<ay A∧k≤d∧q<ay B∧p=dt A d f k q:=by
 rw [ep,ay] at h;have hA:=cU A;refine ⟨p % ay A,p/ay A % (d+1),p/ay A/(d+1),Wy _ hA,by have:=Wy (p/ay A) (show 0<d+1 by omega);omega, ?_, ?_⟩
 ·rw [Xv VX,Xv hA,WB,WB (ay B)];exact h
 ·unfold dt;rw [YJ,YJ]
theorem Ci (x y:List Nat) (k:Nat):(x++k::y).getD x.length 0=k:=by
 rw [Xw,Xm (V8 _),W9]
 rfl
theorem C2 (x y:List Nat) (k i:Nat):(x++k::y).set x.length i=x++i::y:=by
 rw [X4 _ _ (V8 _),W9,Wd]
def fQ (A:List Nat) (d:Nat) (xs:List Dyadic) (f q:Nat):List Dyadic:=(List.range (d+1)).map fun i=>(xs[dt A d f i q]?).getD 0
theorem KL {f:Nat} (M:Nat→Nat→Dyadic) (xs:List Dyadic) (hf:f<ay A) (hk:k≤d) (hq:q<ay B):
  (iu (A++d::B) A.length M xs)[dt A d f k q]?=some (sm (List.range (d+1)) fun i=>(xs[dt A d f i q]?).getD 0*M i k):=by
 have hp:=tB (B:=B) hf hk hq;unfold iu;rw [Wf,Xc hp];simp only [XJ];rw [vX hf hk,Ci];have hl:=th A f;rw [show ((dq A f++k::dq B q).getD A.length 0)=k by rw [←hl];exact Ci _ _ _];congr 1;refine fN fun i hi=> ?_;have hi2:i≤d:=by have:=Xx.1 hi;omega
 rw [show (dq A f++k::dq B q).set A.length i=dq A f++i::dq B q by rw [←hl];exact C2 _ _ _ _,←vX (B:=B) hf hi2,C1 (tB hf hi2 hq)]
end
def Ue (ns:List Nat):Bool:=ns.any (fun d=>decide (127<d))||decide (4096<ay ns)
theorem J3:∀{ds rs:List Nat}{k d r:Nat},nU ds rs→ds[k]?=some d→rs[k]?=some r→r≤d
 |[],_,_,_,_,_,h,_=>by simp at h
 |_::_,[],_,_,_,_,_,h=>by simp at h
 |d::ds,r::rs,0,_,_,h,h1,h2=>by
  simp only [YN,XO] at h1 h2;subst h1 h2;exact h.1
 |d::ds,r::rs,k+1,_,_,h,h1,h2=>J3 (k:=k) h.2 (by simpa using h1) (by simpa using h2)
def RH (a b:List Nat):List Nat:=List.zipWith (· + ·) a b
theorem Kn (N:Nat):fa N [.bool false,.string (ByteArray.mk #[]),.int .i64 0]=az NR.cells ((oE N []).map nR):=by
 rw [tZ,List.map_replicate]
 induction N with
 |zero=>rfl
 |succ n ih=>rw [Yi,gE,←ih];rfl
def Vt (ds es:List Nat) (xs ys:List Dyadic) (k:Nat):List (Nat×Dyadic):=
 (List.range k).flatMap fun k=>(List.range (ay ds)).map fun i=>(jf (Dp ds es) (Dp (dq ds i) (dq es k)),(xs[i]?).getD 0*(ys[k]?).getD 0)
def Tn (ns ms:List Nat) (xs ys:List Dyadic):List Dyadic:=oE (ay (RH ns ms)) (Vt ns.reverse ms.reverse xs ys (ay ms))
variable {w w':World}
structure FX where
 A:Option Addr
 n:Nat
 a:Nat
 B:Option Addr
 m:Nat
 b:Nat
 ds:List Int
 cs:List NR
def FX.cells (f:FX):List Value:=[.slice f.A f.n f.a,.slice f.B f.m f.b]
def FX.v (f:FX):Value:=.agg #[.slice f.A f.n f.a,.slice f.B f.m f.b]
structure FX.at_ (f:FX) (w:World):Prop where
 dg:Sl w f.A f.n 1 (bC f.ds)
 nm:Sl w f.B f.m 3 (az NR.cells f.cs)
theorem FX.at_.ext {f:FX} (h:f.at_ w) (hb:Below w.heap.size w w'):f.at_ w':=⟨h.dg.ext hb,h.nm.ext hb⟩
structure FX.jX (f:FX) (k:Nat):Prop where
 UJ:f.n≤1000
 Vo:f.m≤100000
 num:∀c∈f.cs,c.ok∧Sz k c.d
def FX.e (f:FX):Int:=fE f.ds f.cs
theorem yI (f:FX) (k:Nat) (w:World) (hT:eK w) (h:f.at_ w) (hl:f.jX k):
  Calls Tryz.prog 41 #[.agg #[.slice f.A f.n f.a,.slice f.B f.m f.b]] w fun r w'=>r=.returned (.int .i64 f.e)∧Below w.heap.size w w':=
 vU f.A f.B f.n f.a f.m f.b f.ds f.cs w hT h.dg h.nm (by have:=hl.UJ;omega) (by have:=hl.Vo;omega) fun a ha=>(hl.num a ha).1
def Uo (fs:List FX):Bool:=fs.any fun f=>decide (f.n≠(fs.map FX.n).headD 0)
def Fh (fs:List FX):Int:=match fs.find? (fun f=>decide (f.e≠0)) with|some f=>f.e|none=>if fs.length=0∨Uo fs=true then 1 else 0
open Go.ChangeShapes Go.WideShapes Go.ChangeAt Go.RowKit Go.ChangeMaps
variable {next:Rf→World→Prop}
section
variable {ro:Mode}{P:Program}{N:Nat}{Q:Kq}{ρ:Rf}{w:World}
theorem JG {c:Code}{id:Nat} (mods:List Nat) (s0:Nat) (J:Value→World→Prop) (hc:WC ro P N c (rb id (cI (fun ρ2 w2=>J (ρ2 s0) w2∧ji mods ρ2 ρ) Q)) ρ w)
  (hn:∀ρ' v0 w',J v0 w'→next (cL (mask mods ρ' ρ) s0 v0) w'):WC ro P N c (rb id (cI next Q)) ρ w:=
 hc.mono fun e ρ2 w2 hq=>by
  have key:J (ρ2 s0) w2∧ji mods ρ2 ρ→next ρ2 w2:=fun h=>by
   have:=hn ρ2 (ρ2 s0) w2 h.1;rwa [jr h.2,g7] at this
  cases e with
  |normal=>exact key hq
  |exit i=>
   by_cases h:i=id
   ·subst h;simp only [rb,cI,if_true] at hq ⊢;exact key hq
   ·simp only [rb,cI,V3 h] at hq ⊢;exact hq
  |_=>exact hq
theorem wY {a c:Code} (mods:List Nat) (J:World→Prop) (hc:WC ro P N a (cI (fun ρ2 w2=>J w2∧ji mods ρ2 ρ) Q) ρ w) (hn:∀ρ' w',J w'→WC ro P N c Q (mask mods ρ' ρ) w'):WC ro P N (.seq a c) Q ρ w:=
 ah (hc.mono fun e ρ2 w2 hq=>by
  cases e with
  |normal=>
   have:=hn ρ2 w2 hq.1;rwa [jr hq.2] at this
  |_=>exact hq)
end
section
variable {ro:Mode}{P:Program}{N:Nat}{Q:Kq}{ρ:Rf}{w:World}
theorem xt {a c:Code} (mods:List Nat) (s0:Nat) (J:Value→World→Prop) (hc:WC ro P N a (cI (fun ρ2 w2=>J (ρ2 s0) w2∧ji mods ρ2 ρ) Q) ρ w) (hn:∀ρ' v0 w',J v0 w'→WC ro P N c Q (cL (mask mods ρ' ρ) s0 v0) w'):WC ro P N (.seq a c) Q ρ w:=
 ah (hc.mono fun e ρ2 w2 hq=>by
  cases e with
  |normal=>
   have:=hn ρ2 (ρ2 s0) w2 hq.1;rwa [jr hq.2,g7] at this
  |_=>exact hq)
end
variable {p:List TR}{α β:Type}
def mulM (a b:ByteArray):ByteArray:=str (mulL a.data.toList b.data.toList).1
def lf (a b:ByteArray):Int:=(mulL a.data.toList b.data.toList).2
def oV (x y:TR):TR:=⟨mulM x.m y.m,nR (x.c.d*y.c.d)⟩
def cv (p q:List TR):List TR:=p.flatMap fun x=>q.map (oV x)
def xy (p q:List TR):List Int:=p.flatMap fun x=>q.map fun y=>lf x.m y.m
def eE (p q:List TR):Int:=if 65536<p.length*q.length then 3 else match (xy p q).find? fun e=>decide (e≠0) with|some e=>e|none=>if 4096<(aH (cv p q)).length then 3 else 0
theorem BP {α β:Type}{f:α→List β}{k:Nat}:∀{l:List α},(∀x∈l,(f x).length=k)→(l.flatMap f).length=l.length*k
 |[],_=>by simp
 |x::l,h=>by
  rw [Ys,Wc,h x We,BP fun y hy=>h y (Wg _ hy),Wx,Xj,XY]
theorem re (p q:List TR):(cv p q).length=p.length*q.length:=BP fun x _=>Wh _
theorem rm {γ:Type}{f:α→β→γ}{p:List α}{q:List β}{i:Nat}{x:α} (hx:p[i]?=some x):
  ((p.take (i+1)).flatMap fun x=>q.map (f x))=((p.take i).flatMap fun x=>q.map (f x))++(q.take q.length).map (f x):=by
 rw [aw hx,YM,Wa (V8 _)];simp
theorem uY {γ:Type}{f:α→β→γ}{p:List α}{q:List β}{i:Nat}{x:α}{y:β} (hx:p[i]?=some x) (hy:q[j]?=some y):
  ∃R,(p.flatMap fun x=>q.map (f x))=(((p.take i).flatMap fun x=>q.map (f x))++(q.take j).map (f x))++f x y::R:=by
 refine ⟨(q.drop (j+1)).map (f x)++(p.drop (i+1)).flatMap fun x=>q.map (f x), ?_⟩;have e1:p=p.take i++x::p.drop (i+1):=by rw [←gK hx,W4]
 have e2:q=q.take j++y::q.drop (j+1):=by rw [←gK hy,W4]
 have e3:q.map (f x)=(q.take j).map (f x)++f x y::(q.drop (j+1)).map (f x):=by
  rw [←Wv,←WT,←e2]
 calc (p.flatMap fun x=>q.map (f x))=(p.take i++x::p.drop (i+1)).flatMap fun x=>q.map (f x):=by rw [←e1]
  _=_:=by rw [YM,Ys,e3];simp
theorem pY {q:List TR} (hp:jc k p) (hq:jc j q) (h:k+j≤1000000):jc (k+j) (cv p q):=fun t ht=>by
 obtain ⟨x,hx,ht⟩:=X7.1 ht;obtain ⟨y,hy,rfl⟩:=Wn.1 ht;have hs:=(hp x hx).2.mul (hq y hy).2;exact ⟨hs.ok VX,by show Sz _ (nR _).d;rw [cm];exact hs⟩
theorem HQ (a b:ByteArray):(mulM a b).size≤b.size:=by
 unfold mulM;rw [jb];unfold mulL;split
 ·rename_i l hl;have:=(xi hl).2.2;have h4:l.length≤b.data.toList.length:=by rw [this.2,List.length_zipWith,df,df];omega
  have h5:(H8 l).length≤l.length:=by unfold H8;split<;>simp
  rw [dD];exact Wz h5 h4
 ·exact V5 _
variable {l ts:List TR}
def oC (c:Dyadic) (t:TR):TR:=⟨t.m,nR (t.c.d*c)⟩
theorem cK {v:Int} (h:gF v ts=0):gU v=true∧ts.length≤4096∧(∀t∈ts,gg v t=true)∧Canon ts:=by
 unfold gF at h
 cases hf:gU v with
 |false=>rw [hf,V2 rfl] at h;omega
 |true=>
  rw [V3 (by rw [hf];decide)] at h;by_cases h4:4096<ts.length
  ·rw [V2 h4] at h;omega
  ·rw [V3 h4] at h;by_cases ho:okB v ts=true
   ·unfold okB at ho;rw [Wl] at ho;have hg:∀t∈ts,jJ v t=true:=Ww.1 ho.1;refine ⟨rfl,VX,fun t ht=> ?_,uP.1 ho.2,fun t ht=> ?_,fun t ht=> ?_⟩
    ·exact (X3.1 (hg t ht)).1
    ·exact DV (X3.1 (X3.1 (hg t ht)).2).1
    ·exact ((nQ _).1 (X3.1 (X3.1 (hg t ht)).2).2).symm
   ·rw [V3 ho] at h;omega
theorem FN {v:Int} (hf:gU v=true) (h4:ts.length≤4096) (hm:∀t∈ts,gg v t=true) (hc:Canon ts):gF v ts=0:=by
 unfold gF;rw [V3 (by rw [hf];decide),V3 VX,V2];unfold okB;rw [Wl];refine ⟨Ww.2 fun t ht=> ?_,uP.2 hc.sO⟩;show (gg v t && (nM t && T0 t.c))=true;rw [hm t ht,(nQ _).2 (hc.nf t ht).symm];unfold nM;rw [Wu (hc.nz t ht)]
 rfl
theorem RF {v:Int}{s t:TR} (h:s.m=t.m) (hs:gg v s=true):gg v t=true:=by unfold gg at hs ⊢;rwa [←h]
theorem DH {v:Int} (h:∀t∈l,gg v t=true):∀t∈aH l,gg v t=true:=fun t ht=>by
 obtain ⟨s,hs,e⟩:=jn t ht;exact RF e (h s hs)
theorem kX {v:Int} (hf:gU v=true) (h4:(aH l).length≤4096) (hm:∀t∈l,gg v t=true):gF v (aH l)=0:=FN hf h4 (DH hm) (eh l)
theorem Lj {v:Int}{x y:TR} (hx:gg v x=true) (h:lf x.m y.m=0):gg v (oV x y)=true:=by
 unfold gg at hx ⊢;rw [Wl,Wt] at hx;obtain ⟨_,_,h3,h4,h5⟩:=qR h;rw [Wl,Wt];have h6:=W8 List.length h5;rw [df,List.length_zipWith,df,df,h3,Nat.min_self] at h6;refine ⟨?_, ?_⟩
 ·show ef (mulM x.m y.m).data.toList=true;unfold mulM;rw [dT];exact h4
 ·show ((mulM x.m y.m).size:Int)=v;unfold mulM;rw [jb,h6,←dD];exact hx.2
theorem G7 {v:Int}{q:List TR} (hp:∀t∈p,gg v t=true) (h:∀e∈xy p q,e=0):∀t∈cv p q,gg v t=true:=fun t ht=>by
 obtain ⟨x,hx,ht⟩:=X7.1 ht;obtain ⟨y,hy,rfl⟩:=Wn.1 ht;exact Lj (hp x hx) (h _ (X7.2 ⟨x,hx,Wn.2 ⟨y,hy,rfl⟩⟩))
theorem qm {q:List TR} (h:eE p q=0):p.length*q.length≤65536∧(∀e∈xy p q,e=0)∧(aH (cv p q)).length≤4096:=by
 unfold eE at h;by_cases h6:65536<p.length*q.length
 ·rw [V2 h6] at h;omega
 ·rw [V3 h6] at h;split at h
  ·rename_i e he;have:=List.find?_some he;rw [Wt] at this;exact absurd h this
  ·rename_i he;refine ⟨VX,fun e hm=> ?_, ?_⟩
   ·have:=List.find?_eq_none.1 he e hm;simpa using this
   ·by_cases h4:4096<(aH (cv p q)).length
    ·rw [V2 h4] at h;omega
    ·omega
def fu (ps:List PX):Int:=(ps.map PX.v).headD 0
def um (ps:List PX):List TR:=ps.flatMap PX.ts
def uU (ps:List PX):Int:=if ff ps=0 then fW (um ps) else ff ps
theorem qd {ps:List PX} (h:ff ps=0):ps≠[]∧(∀g∈ps,g.e=0)∧∀g∈ps,g.v=fu ps:=by
 unfold ff at h;split at h
 ·rename_i f hf;have:=List.find?_some hf;simp at this;exact absurd h this
 ·rename_i hf;split at h
  ·cases h
  rename_i hno;refine ⟨fun e=>hno (.inl (by rw [e];rfl)),fun f hm=> ?_,fun f hm=> ?_⟩
  ·have:=List.find?_eq_none.1 hf f hm;simpa using this
  ·apply Yq;intro hne;exact hno (.inr (XR.2 ⟨f,hm,Wm hne⟩))
theorem yv {α β:Type}{f:α→List β}{B:Nat}:∀{l:List α},(∀x∈l,(f x).length≤B)→(l.flatMap f).length≤l.length*B
 |[],_=>by simp
 |x::l,h=>by
  rw [Ys,Wc,Wx,Xj];have h1:=h x We;have h2:=yv fun y hy=>h y (Wg _ hy);omega
theorem xb {f:α→List β}{l:List α}{i:Nat}{x:α} (h:l[i]?=some x):(l.take (i+1)).flatMap f=(l.take i).flatMap f++f x:=by
 rw [aw h,YM];simp
theorem Eg {k:List TR} (h:aH l=aH k):fW l=fW k:=by unfold fW;rw [h]
theorem jP {ps:List PX}{g:PX} (h:ps[0]?=some g):fu ps=g.v:=by
 rcases ps with _|⟨f,l⟩
 ·cases h
 ·have:f=g:=by simpa using h
  rw [←this];rfl
theorem pg (L:Option Addr) (n c:Nat) (ps:List PX) (k:Nat) (w:World) (hT:eK w) (hL:Sl w L n 2 (az PX.cells ps)) (hn:n≤100) (hf:∀g∈ps,g.at_ w) (hl:∀g∈ps,g.jX k) (hk:k≤2999000):
  Calls Tryz.prog 16 #[.slice L n c] w fun r w'=>∃g:PX,dN (uU ps) (fu ps) (aH (um ps)) g∧r=.returned (.tuple #[.agg #[.int .i64 g.v,.slice g.A g.n g.c],.int .i64 (uU ps)])∧Hp w [g.row] w':=by
 have hh:=Hp.start w;have hln:=hL.bg PX.len VY;have hlk:=fun w1 hT1 hb=>sf L n c ps k w1 hT1 (hL.ext hb) VX (fun g hg=>(hf g hg).ext hb) hl;unfold uU;by_cases h0:ff ps=0
 ·rw [V2 h0];rw [h0] at hlk;obtain ⟨hne,tQ,hvv⟩:=qd h0;have hpos:=Za.2 hne;obtain ⟨g0,h00⟩:=ak (l:=ps) (k:=0) hpos;rw [jP h00];have hfl:(um ps).length≤ps.length*4096:=yv fun g hg=>(cK (tQ g hg)).2.1;obtain ⟨ad,rfl,hr⟩:=hL.at_ VX;refine aj (N:=33) (l:=[.slice (some ad) n c]) Tryz.func16 rfl rfl (by simp) ?_;refine sr ?_;refine bQ hh ?_;intro b2 w2 hh;refine aI (aa (ah (sr (mL ?_))));refine br hh (hlk _ (hT.hp hh) hh.below) rfl ?_;intro w9 hh;refine aI (aa (sr (mI ?_)));refine cJ (aa (cF (ao (ai (sr (aL (aa (ah (sr (mL (aF (mI (aa (aq ?_))))))))))))));replace hh:=hh.ck 96 4;refine bp [5,7,16,17,18,19,20,21,22,23,24] 5 16
   (fun a x w'=>∃(i:Nat) (M:List TR) (A':Option Addr) (c':Nat),i≤n∧x=.int .i64 i∧a=.slice A' M.length c'∧MD (k+i) ((ps.take i).flatMap PX.ts) M∧Hp w [.row A' M.length c' 96 4 (az TR.cells M),.blk b2 24 [.int .i64 0,.slice none 0 0] (0,0)] w')
   (fun _ x _=>n-(intOf x).toNat) ?_ ?_
  ·exact ⟨0,[],none,0,V5 _,rfl,rfl,MD.self Zi (fun t ht=>nomatch ht),hh⟩
  ·clear hh;rintro ρ' a_ x_ w' ⟨i,M,A',c',hi,rfl,rfl,hmd,hh⟩;have hfi:((ps.take i).flatMap PX.ts).length≤i*4096:=by
    exact Sm
   have hML:=hmd.len;by_cases hlt:i<n
   ·obtain ⟨g,hx⟩:=ak (l:=ps) (k:=i) VX;have hmem:=V7 hx;have hgl:=hl g hmem;have hge:=cK (tQ g hmem);have hgc:=hgl.cap;have hgn:=hgl.n;refine sr ?_;refine dZ ?_;refine bY ?_;refine Ac ?_;refine bQ hh ?_;intro b7 w7 hh;refine bR hh 0 [_,_] ?_;intro ws hh;replace hh:Hp _ (.blk _ _ [_,_] _::_) _:=hh;refine aa (al (mL (bE ?_)));refine bB hh 0 ?_;refine aG (pP A' M.length c' M g.A g.n g.c g.ts (k+i) _ (hT.hp hh) (hh.aC (i:=1) rfl) ((hf g hmem).ext hh.below) (hh.dR (i:=1) rfl) hgc VX hgn VX hmd.sO hge.2.2.2.sO hmd.ok (hgl.ok.mono VX)) ar.out rfl VY ?_;rintro e_ w23 ⟨L2,A2,c2,hm2,rfl,h3⟩;refine ⟨_,rfl, ?_⟩;replace hh:=hh.join h3;simp only [Wb,V9] at hh;refine lR ?_;refine a9 (mI (aA (ai ?_)));replace hh:=hh.sub (V4 _ (V6 _ (V6 _ (V4 _ Wq))));refine ⟨⟨i+1,L2,A2,c2,VX,rfl,rfl, ?_,hh⟩,by show n-(i+1)<n-i;omega, ?_⟩
    ·rw [xb hx];exact hmd.Ja (MD.self hge.2.2.2.sO (hgl.ok.mono VX:jc (k+i) g.ts)) hm2 VX
    ·exact dy
   ·obtain rfl:i=n:=VX;rw [Wa VX] at hmd hfi hML;have hgM:aH M=aH (um ps):=zh hmd.co;have hgE:=Eg hgM;refine sr ?_;refine oP ?_;refine Cj ?_;refine jY ?_;refine bX aO.out rfl (cx hh.below ((hr.recAt PX.len h00) 0 _ rfl)) VY ?_;refine mL ?_;refine aG (k5 _ A' M.length c' M (k+i) _ hT hh rfl VX VX hmd.ok) ar.out rfl VY ?_;rintro e_ w30 ⟨g,og,rfl,hh⟩;refine ⟨_,rfl, ?_⟩;refine du ?_;refine du ?_;refine bR hh 1 [_,_] ?_;intro ws hh;replace hh:Hp _ (_::.blk _ _ [_,_] _::_) _:=hh;refine aI (aa (au ?_));refine tU ?_;rw [←hgE,←hgM];exact Qy
 ·rw [V3 h0];generalize ff ps=e at*;refine aj (N:=33) (l:=[.slice L n c]) Tryz.func16 rfl rfl (by simp) ?_;refine sr ?_;refine bQ hh ?_;intro b2 w2 hh;refine aI (aa (ah (sr (mL ?_))));refine br hh (hlk _ (hT.hp hh) hh.below) rfl ?_;intro w9 hh;exact R3
def mG (s:ByteArray) (i:Nat):Int:=match s.data.toList[i]? with|some c=>c.toNat|none=>0
def rP (l:List TR) (i:Nat):Int:=l.foldl (fun m t=>max m (mG t.m i)) 0
def jo (m:Nat) (l:List TR):List Int:=(List.range m).map (rP l)
def jy (v:Int) (ts:List TR):List Int:=if gF v ts=0 then jo v.toNat ts else []
theorem eQ (m:Nat) (l:List TR):(jo m l).length=m:=by unfold jo;rw [Wh,YH]
theorem sW (l:List TR) (h:j<m):(jo m l)[j]?=some (rP l j):=by
 unfold jo;rw [Wf,Xc h]
 rfl
theorem qp (l:List TR) (t:TR) (i:Nat):rP (l++[t]) i=max (rP l i) (mG t.m i):=by unfold rP;rw [Zc];rfl
theorem Ad {s:ByteArray}{i:Nat}{c:UInt8} (h:s.data.toList[i]?=some c):mG s i=c.toNat:=by unfold mG;rw [h]
theorem LY {A B:List α}{y:α} (h:A.length=B.length) (hy:B[j]?=some y):(B.take j++A.drop j).set j y=B.take (j+1)++A.drop (j+1):=by
 have hj:=(Wi.1 hy).1;have hl:(B.take j).length=j:=by rw [Wp];omega
 obtain ⟨x,hx⟩:=ak (l:=A) (k:=j) VX;rw [gK hx,aw hy,X4 _ _ VX,hl,W9];simp
theorem Mv {A B:List α}{x:α} (h:A.length=B.length) (hx:A[j]?=some x):(B.take j++A.drop j)[j]?=some x:=by
 have hj:=(Wi.1 hx).1;have hl:(B.take j).length=j:=by rw [Wp];omega
 rw [Xm VX,hl,W9,XU,XT,hx]
theorem KV (m:Nat):fa m [.int .i64 0]=bC (jo m []):=by
 have h1:∀n,fa n [.int .i64 0]=bC (List.replicate n 0):=fun n=>by
  induction n with
  |zero=>rfl
  |succ n ih=>rw [fa,ih,Yi];rfl
 rw [h1];congr 1;apply XN;intro i;by_cases h:i<m
 ·rw [sW [] h,List.getElem?_replicate,V2 h]
  rfl
 ·rw [WK (by rw [Xo];omega),WK (by rw [eQ];omega)]
theorem sw (p:PX) (k:Nat) (w:World) (hT:eK w) (hp:p.at_ w) (lp:p.jX k):
  Calls Tryz.prog 82 #[.agg #[.int .i64 p.v,.slice p.A p.n p.c]] w fun r w'=>∃A c,r=.returned (.slice A (jy p.v p.ts).length c)∧Hp w [.row A (jy p.v p.ts).length c 3 1 (bC (jy p.v p.ts))] w':=by
 have hh:=Hp.start w;have hck:=fun w1 hT1 hb=>n9 p k w1 hT1 (hp.ext hb) lp;by_cases h0:p.e=0
 ·rw [show jy p.v p.ts=jo p.v.toNat p.ts from V2 h0,eQ];rw [h0] at hck;obtain ⟨hf,h4,hmy,_⟩:=cK h0;have hpl:p.ts.length=p.n:=hp.ln;obtain ⟨pv,pA,pn,pc,ts⟩:=p;replace hf:=dx.1 hf;replace hmy:∀t∈ts,gg pv t=true:=hmy;replace hp:Sl w pA pn 4 (az TR.cells ts):=hp;have hsz:∀t∈ts,t.m.size≤100000:=lp.sz;have hn:=lp.n;replace hn:pn≤1000000:=hn;replace hpl:ts.length=pn:=hpl;obtain ⟨m,rfl⟩:∃m:Nat,pv=(m:Int):=⟨pv.toNat,by show pv=_;have:0≤pv:=hf.1;omega⟩;replace hf:m≤12:=by have h9:(m:Int)≤12:=hf.2;omega
  show Calls _ _ _ _ fun r w'=>∃A c,r=.returned (.slice A m c)∧Hp w [.row A m c 3 1 (bC (jo m ts))] w';refine aj (N:=42) (l:=[.agg #[.int .i64 m,.slice pA pn pc]]) Tryz.func82 rfl rfl (by simp) ?_;refine sr ?_;refine cf hh [_,_] ?_;intro b1 w1 hh;refine aL (aa (ah (sr ?_)));refine cn hh 0 [_,_] ?_;refine gi ?_;intro w9 hh;refine cJ (aa (cF (ao (ai (sr (bE ?_))))));refine bB hh 0 ?_;refine gj (n:=m) hh rfl rfl VX VX bj.out aO.out rfl VX VX VY ?_;intro b13 w13 hh;refine aL (aa (ah (sr (bE ?_))));refine bB hh 1 ?_;refine aF (mI (aa (aq ?_)));rw [KV] at hh;refine aM [5,6,7,17,18,19,20,21,22,23,24,25,26,27,28,29,30,31,32,33,34,35,36,37,38,39,40] 17
   (fun v w'=>∃i:Nat,i≤pn∧v=.int .i64 i∧Hp w [.row (some ⟨b13,0,none⟩) m m 3 1 (bC (jo m (ts.take i))),.blk b1 24 [.int .i64 m,.slice pA pn pc] (0,0)] w')
   (fun v _=>pn-(intOf v).toNat) ?_ ?_
  ·exact ⟨0,V5 _,rfl,hh⟩
  ·clear hh;rintro ρ' v w' ⟨i,hi,rfl,hh⟩;by_cases hlt:i<pn
   ·obtain ⟨x,hx⟩:=ak (l:=ts) (k:=i) VX;obtain ⟨ad,rfl,hr⟩:=hp.at_ VX;have hxm:=V7 hx;have hxs:=hsz x hxm;have hmx:=X3.1 (hmy x hxm);have hxz:x.m.size=m:=by have:=Xz hmx.2;omega
    have hxl:x.m.data.toList.length=m:=by rw [←dD];exact hxz
    have hex:iT x.m.data.toList=ints x.m.data.toList:=ko hmx.1;have hel:(iT x.m.data.toList).length=m:=by rw [hex,df];exact hxl
    have hBl:(jo m (ts.take i)).length=(jo m (ts.take (i+1))).length:=by rw [eQ,eQ]
    refine sr ?_;refine dZ ?_;refine bY ?_;refine kZ ?_;refine bQ hh ?_;intro b5 w5 hh;refine bR hh 0 [_,_,_,_] ?_;intro ws hh;replace hh:Hp _ (.blk _ _ [_,_,_,_] _::_) _:=hh;refine aa (sr (bE ?_));refine bB hh 0 ?_;refine aG (ik x.m _ hxs) ar.out rfl VY ?_;rintro e_ w23 ⟨A23,c23,rfl,hown_,hb_⟩;refine ⟨_,rfl, ?_⟩;replace hh:=hh.aY (x:=.row _ _ _ _ _ _) hb_ hown_;rw [hel] at hh ⊢;refine aF (mI (aa (aq ?_)));refine aM [6,7,25,26,27,28,29,30,31,32,33,34,35,36,37,38,39] 25
     (fun v w'=>∃j:Nat,j≤m∧v=.int .i64 j∧Hp w [.row A23 m c23 3 1 (bC (iT x.m.data.toList)),.blk b5 96 [.string x.m,.bool x.c.neg,.string x.c.bf,.int .i64 x.c.e] (0,0),.row (some ⟨b13,0,none⟩) m m 3 1 (bC ((jo m (ts.take (i+1))).take j++(jo m (ts.take i)).drop j)),.blk b1 24 [.int .i64 m,.slice (some ad) pn pc] (0,0)] w')
     (fun v _=>m-(intOf v).toNat) ?_ ?_
    ·exact ⟨0,V5 _,rfl,hh⟩
    ·clear hh;rintro ρ2 v w2 ⟨j,hj,rfl,hh⟩;by_cases hjn:j<m
     ·obtain ⟨e,he⟩:=ak (l:=x.m.data.toList) (k:=j) VX;have hee:(iT x.m.data.toList)[j]?=some (e.toNat:Int):=by rw [hex];exact y4 he
      have ho:=Mv hBl (sW (ts.take i) hjn);have hset:=LY hBl (sW (ts.take (i+1)) hjn);have hmx2:rP (ts.take (i+1)) j=max (rP (ts.take i) j) (e.toNat:Int):=by rw [aw hx,qp,Ad he]
      rw [hmx2] at hset;have hol:((jo m (ts.take (i+1))).take j++(jo m (ts.take i)).drop j).length=m:=by rw [Wc,Wp,Xk,eQ,eQ];omega
      generalize (jo m (ts.take (i+1))).take j++(jo m (ts.take i)).drop j=M at*;have hee2:=cw hee;have ho2:=cw ho;have hll:(bC M).length=m:=by rw [bV];exact hol
      obtain ⟨g,rfl⟩:=hh.cu (i:=0) rfl VX;refine sr ?_;refine eH ?_;refine lW ?_;refine jO ?_;refine aI (aI (aa (al (mL (mI (mL (mI ?_)))))));refine lW ?_;refine F3 ?_;refine mI ?_;refine kF rfl rfl VY ?_;refine tm ?_;have hmv:(if (e.toNat:Int)>rP (ts.take i) j then (e.toNat:Int) else rP (ts.take i) j)=max (rP (ts.take i) j) (e.toNat:Int):=by split<;>omega
      refine cd hh (i:=2) (vs:=[_]) rfl rfl (cR rfl) rfl aO.out rfl VX rfl ?_;intro ws hh;simp only [Wd,WH] at hh;rw [hmv,rT _ (by rw [←bV];omega),hset] at hh;refine gy ?_;refine a9 (mI (aA (ai ?_)));refine ⟨⟨j+1,VX,rfl,hh⟩,by show m-(j+1)<m-j;omega, ?_⟩;exact dy
     ·obtain rfl:j=m:=VX;rw [Wa (by rw [eQ];omega),XB (by rw [eQ];omega),WG] at hh;refine sr ?_;refine Bf ?_;refine a9 (mI (aA (ai ?_)));replace hh:=hh.sub (V6 _ (V6 _ (V4 _ (V4 _ Wq))));refine ⟨⟨i+1,VX,rfl,hh⟩,by show pn-(i+1)<pn-i;omega, ?_⟩;exact dy
   ·obtain rfl:i=pn:=VX;rw [Wa VX] at hh;exact Tb
 ·rw [show jy p.v p.ts=[] from V3 h0];refine aj (N:=42) (l:=[.agg #[.int .i64 p.v,.slice p.A p.n p.c]]) Tryz.func82 rfl rfl (by simp) ?_;refine sr ?_;refine cf hh [_,_] ?_;intro b1 w1 hh;refine aL (aa (ah (sr ?_)));refine cn hh 0 [_,_] ?_;refine gi ?_;intro w9 hh;exact Qh
def jk (b:List SR):Int:=if b.any (fun s=> !decide (s.lo.d<s.hi.d)) then 5 else if b.length=0 then 1 else 0
theorem F2 (x y:Dyadic):(0≤jU x y)↔¬x<y:=by
 rcases SV x y with h|h|h
 ·rw [CQ h];exact ⟨fun h2=>by omega,fun h2=>absurd h h2⟩
 ·rw [h,HN];exact ⟨fun _=>by grind,fun _=>by omega⟩
 ·rw [CI h];exact ⟨fun _=>by grind,fun _=>by omega⟩
theorem qh (L:Option Addr) (n c:Nat) (b:List SR) (w:World) (hT:eK w) (hS:Sl w L n 6 (az SR.cells b)) (hb:∀s∈b,s.ok) (hn:n≤1000000):
  Calls Tryz.prog 115 #[.slice L n c] w fun r w'=>r=.returned (.int .i64 (jk b))∧Below w.heap.size w w':=by
 have hh:=Hp.start w;have hln:=hS.bg SR.len VY;refine aj (N:=21) (l:=[.slice L n c]) Tryz.func115 rfl rfl (by simp) ?_;refine Bg ?_;refine aM [2,4,7,8,9,10,11,12,13,14,15,16,17] 7
  (fun v w'=>∃i:Nat,i≤n∧v=.int .i64 i∧(b.take i).any (fun s=> !decide (s.lo.d<s.hi.d))=false∧Hp w [] w')
  (fun v _=>n-(intOf v).toNat) ?_ ?_
 ·exact ⟨0,V5 _,rfl,rfl,hh⟩
 ·clear hh;rintro ρ' v w' ⟨i,hi,rfl,hall,hh⟩;by_cases hlt:i<n
  ·obtain ⟨s,hs⟩:=ak (l:=b) (k:=i) VX;have ms:=V7 hs;obtain ⟨ad,rfl,hr⟩:=hS.at_ VX;have hc:=fun w1 hT1=>pG s.lo s.hi w1 hT1 (hb s ms).1 (hb s ms).2;have e:=F2 s.lo.d s.hi.d;generalize jU s.lo.d s.hi.d=cc at*;by_cases g:0≤cc
   ·refine sr ?_;refine dZ ?_;refine bY ?_;refine Lk ?_;refine bQ hh ?_;intro b4 w4 hh;refine bR hh 0 [_,_,_,_,_,_] ?_;intro ws hh;replace hh:Hp _ (.blk _ _ [_,_,_,_,_,_] _::_) _:=hh;refine aa (sr (bE ?_));refine cn hh 0 [_,_,_] (bE ?_);refine cn hh 0 [_,_,_] ?_;refine br hh (hc _ (hT.hp hh)) rfl ?_;intro w15 hh;exact Sb
   ·refine sr ?_;refine dZ ?_;refine bY ?_;refine Lk ?_;refine bQ hh ?_;intro b4 w4 hh;refine bR hh 0 [_,_,_,_,_,_] ?_;intro ws hh;replace hh:Hp _ (.blk _ _ [_,_,_,_,_,_] _::_) _:=hh;refine aa (sr (bE ?_));refine cn hh 0 [_,_,_] (bE ?_);refine cn hh 0 [_,_,_] ?_;refine br hh (hc _ (hT.hp hh)) rfl ?_;intro w15 hh;refine dJ (aa (cF (ao (bF (ai (al ?_))))));refine a9 (mI (aA (ai ?_)));replace hh:=hh.sub (V6 _ Wq);exact Pk
  ·rw [Wa VX] at hall;by_cases h0:n=0
   ·refine sr ?_;refine aW (aa (ah (cF (aU (aD (aD (bk (ai (ah (sr (mL (aF ?_))))))))))));refine xB ?_;refine cS ?_;exact ⟨by rw [jk,hall,V3 (by simp),V2 VX],hh.below⟩
   ·refine sr ?_;refine aW (aa (ah (cF (aU (aD (aD (bk (ai (ah (sr (mL (aF ?_))))))))))));refine cB (aa (cF (ao (ai (sr (aI (aa (au ?_))))))));refine cS ?_;exact ⟨by rw [jk,hall,V3 (by simp),V3 VX],hh.below⟩
theorem r6 (L:Option Addr) (n c:Nat) (b:List SR) (w:World) (hT:eK w) (hS:Sl w L n 6 (az SR.cells b)) (hb:∀s∈b,s.ok) (hn:n≤1000000):
  Calls Tryz.prog 96 #[.slice L n c] w fun r w'=>∃A c',r=.returned (.slice A n c')∧w'.ownsRow w.heap.size 81 6 (.slice A n c') n (az SR.cells (b.map SR.f))∧Below w.heap.size w w':=by
 have hh:=Hp.start w;have hln:=hS.bg SR.len VY;refine aj (N:=19) (l:=[.slice L n c]) Tryz.func96 rfl rfl (by simp) ?_;refine sr (aL (aa (sr (aL (aa (ah (sr (mL (aF (mI (aa (aq ?_))))))))))));replace hh:=hh.ck 81 6;refine bp [3,5,8,9,10,11,12,13,14,15,16,17] 3 8
  (fun v3 v w'=>∃(i c3:Nat) (A:Option Addr),i≤n∧v=.int .i64 i∧v3=.slice A i c3∧Hp w [.row A i c3 81 6 (az SR.cells ((b.take i).map SR.f))] w')
  (fun _ v _=>n-(intOf v).toNat) ?_ ?_
 ·exact ⟨0,0,none,V5 _,rfl,rfl,hh⟩
 ·clear hh;rintro ρ' v3 v w' ⟨i,c3,A,hi,rfl,rfl,hh⟩;by_cases hlt:i<n
  ·obtain ⟨s,hs⟩:=ak (l:=b) (k:=i) VX;have ms:=V7 hs;obtain ⟨ad,rfl,hr⟩:=hS.at_ VX;refine sr ?_;refine dZ ?_;refine bY ?_;refine Lk ?_;refine bQ hh ?_;intro b5 w5 hh;refine bR hh 0 [_,_,_,_,_,_] ?_;intro ws hh;replace hh:Hp _ (.blk _ _ [_,_,_,_,_,_] _::_) _:=hh;refine aa (al (mL ?_));refine cn hh 0 [_,_,_,_,_,_] ?_;refine br hh (zz s _ (hT.hp hh) (hb s ms)) rfl ?_;intro w14 hh;refine Qd ?_;intro b15 w15 hh;refine OT ?_;intro A16 c16 w16 hh;simp only [Wd,WH] at hh;replace hh:=hh.sub (WE _ _);refine lR ?_;refine a9 (mI (aA (ai ?_)));replace hh:=hh.sub (V6 _ (V4 _ Wq));refine ⟨⟨i+1,c16,A16,VX,rfl,rfl, ?_⟩,by show n-(i+1)<n-i;omega, ?_⟩
   ·rw [aw hs,WT,bG];exact hh
   ·exact dy
  ·obtain rfl:i=n:=VX;rw [Wa VX] at hh;exact Rs
def hasB (b:List SR) (p:List NR):Bool:=decide (b.length=p.length) && (b.zip p).all fun x=>x.1.has x.2.d
def TZ (a b:List SR):Bool:=decide (a.length=b.length) && (a.zip b).all fun x=>x.2.has x.1.lo.d && x.2.has x.1.hi.d
def m0 (dg ds:List Int):Bool:=(dg.zip ds).any fun q=>decide (q.2<q.1∨127<q.2)
def gI (p:PX) (b:List SR) (ds:List Int):Int:=
 if p.e≠0 then p.e else if jk b≠0 then jk b else if (b.length:Int)≠p.v∨(ds.length:Int)≠p.v then 1 else if m0 (jy p.v p.ts) ds=true then 1 else if gJ 1 ds=0 then 3 else 0
theorem sU {a:List α}{b:List β}{i:Nat}{x:α}{y:β} (hx:a[i]?=some x) (hy:b[i]?=some y):(a.zip b)[i]?=some (x,y):=by
 rw [List.getElem?_zip_eq_some];exact ⟨hx,hy⟩
theorem tr (p:PX) (L:Option Addr) (n c:Nat) (b:List SR) (M:Option Addr) (m mc:Nat) (ds:List Int) (k:Nat) (w:World) (hT:eK w) (hp:p.at_ w) (lp:p.jX k) (hB:Sl w L n 6 (az SR.cells b)) (hb:∀s∈b,s.ok) (hn:n≤1000000) (hD:Sl w M m 1 (bC ds)) (hm:m≤1000000):
  Calls Tryz.prog 87 #[.agg #[.int .i64 p.v,.slice p.A p.n p.c],.slice L n c,.slice M m mc] w fun r w'=>r=.returned (.int .i64 (gI p b ds))∧Below w.heap.size w w':=by
 have hh:=Hp.start w;have hck:=fun w1 hT1 hb=>n9 p k w1 hT1 (hp.ext hb) lp;have hbk:=fun w1 hT1 hb1=>qh L n c b w1 hT1 (hB.ext hb1) hb hn;have hdg:=fun w1 hT1 hb=>sw p k w1 hT1 (hp.ext hb) lp;have hbl:b.length=n:=hB.bg SR.len VY;have hdl:ds.length=m:=by have:=hD.1;rw [bV] at this;omega
 unfold gI;by_cases h0:p.e≠0
 ·rw [V2 h0];generalize p.e=e at*;refine Bp ?_;refine sr ?_;refine cf hh [_,_] ?_;intro b3 w3 hh;refine aI (aa (ah (sr ?_)));refine cn hh 0 [_,_] ?_;refine gi ?_;intro w12 hh;exact Re
 ·rw [V3 h0];have hpe:p.e=0:=VX;rw [hpe] at hck;by_cases h1:jk b≠0
  ·rw [V2 h1];generalize jk b=e at*;refine Bp ?_;refine sr ?_;refine cf hh [_,_] ?_;intro b3 w3 hh;refine aI (aa (ah (sr ?_)));refine cn hh 0 [_,_] ?_;refine gi ?_;intro w12 hh;refine aI (aa (sr (mI ?_)));refine nA ?_;refine br hh (hbk _ (hT.hp hh) hh.below) rfl ?_;intro w17 hh;exact Re
  ·rw [V3 h1];rw [show jk b=0 by omega] at hbk;by_cases h2:(b.length:Int)≠p.v
   ·rw [V2 (.inl h2)];refine Bp ?_;refine sr ?_;refine cf hh [_,_] ?_;intro b3 w3 hh;refine aI (aa (ah (sr ?_)));refine cn hh 0 [_,_] ?_;refine gi ?_;intro w12 hh;refine aI (aa (sr (mI ?_)));refine nA ?_;refine br hh (hbk _ (hT.hp hh) hh.below) rfl ?_;intro w17 hh;refine aI (aa (sr (mI ?_)));refine k6 ?_;refine bB hh 0 ?_;refine cJ (mB ?_);refine gS (gS (gS (gS (gS ?_))));refine eM ?_;exact Cu
   ·by_cases h3:(ds.length:Int)≠p.v
    ·rw [V2 (.inr h3)];refine Bp ?_;refine sr ?_;refine cf hh [_,_] ?_;intro b3 w3 hh;refine aI (aa (ah (sr ?_)));refine cn hh 0 [_,_] ?_;refine gi ?_;intro w12 hh;refine aI (aa (sr (mI ?_)));refine nA ?_;refine br hh (hbk _ (hT.hp hh) hh.below) rfl ?_;intro w17 hh;refine aI (aa (sr (mI ?_)));refine k6 ?_;refine bB hh 0 ?_;refine cJ (mB (gT (mL (gT (aF (gT (bE (gT ?_))))))));refine bB hh 0 ?_;refine gT ?_;refine cJ ?_;refine dE ?_;exact Cu
    ·rw [V3 (fun h=>h.elim h2 h3)];have hgl:(jy p.v p.ts).length=m:=by
      unfold jy;rw [V2 (show gF p.v p.ts=0 from hpe),eQ];omega
     have hzl:((jy p.v p.ts).zip ds).length=m:=by rw [List.length_zip];omega
     have hbd:m0 (jy p.v p.ts) ds=((jy p.v p.ts).zip ds).any fun q=>decide (q.2<q.1∨127<q.2):=rfl;generalize jy p.v p.ts=dg at*;rw [hgl] at hdg;refine Bp ?_;refine sr ?_;refine cf hh [_,_] ?_;intro b3 w3 hh;refine aI (aa (ah (sr ?_)));refine cn hh 0 [_,_] ?_;refine gi ?_;intro w12 hh;refine aI (aa (sr (mI ?_)));refine nA ?_;refine br hh (hbk _ (hT.hp hh) hh.below) rfl ?_;intro w17 hh;refine aI (aa (sr (mI ?_)));refine k6 ?_;refine bB hh 0 ?_;refine cJ (mB (gT (mL (gT (aF (gT (bE (gT ?_))))))));refine bB hh 0 ?_;refine gT ?_;refine cJ ?_;refine dE ?_;refine aa (cF (ao (ai (ah (sr ?_)))));refine cn hh 0 [_,_] ?_;refine aG (hdg _ (hT.hp hh) hh.below) ar.out rfl VY ?_;rintro e_ w34 ⟨G,gc,rfl,h4⟩;refine ⟨_,rfl, ?_⟩;replace hh:=hh.join h4;simp only [Wb,V9] at hh;refine aF (mI (aa (aq ?_)));refine aM [6,9,10,36,37,38,39,40,41,42,43,44,45,46,47,48,49,50,51,52,53,54] 36
      (fun v w'=>∃i:Nat,i≤m∧v=.int .i64 i∧((dg.zip ds).take i).any (fun q=>decide (q.2<q.1∨127<q.2))=false∧Hp w [.row G m gc 3 1 (bC dg),.blk b3 24 [.int .i64 p.v,.slice p.A p.n p.c] (0,0)] w')
      (fun v _=>m-(intOf v).toNat) ?_ ?_
     ·exact ⟨0,V5 _,rfl,rfl,hh⟩
     ·clear hh;rintro ρ' v w' ⟨i,hi,rfl,hall,hh⟩;by_cases hlt:i<m
      ·obtain ⟨x,hx⟩:=ak (l:=dg) (k:=i) VX;obtain ⟨y,hy⟩:=ak (l:=ds) (k:=i) VX;have hz:=sU hx hy;have hx2:=cw hx;have hy2:=cw hy;have hll:(bC dg).length=m:=by rw [bV];exact hgl
       obtain ⟨ad,rfl,hr⟩:=hD.at_ VX;obtain ⟨g0,rfl⟩:=hh.cu (i:=0) rfl VX;by_cases hxy:y<x
       ·refine sr ?_;refine eH ?_;refine gh ?_;refine jO ?_;refine aI (aI (aa (sr (mL (mI ?_)))));refine bY ?_;refine Ab ?_;refine mI ?_;refine aW (mB ?_);refine gS (gS (gS (gS (gS ?_))));refine eM ?_;refine Gg ?_;refine cS ?_;rw [V2 (by rw [hbd];exact XR.2 ⟨_,V7 hz,Wm (.inl hxy)⟩)];exact ⟨rfl,hh.below⟩
       ·by_cases hy7:127<y
        ·refine sr ?_;refine eH ?_;refine gh ?_;refine jO ?_;refine aI (aI (aa (sr (mL (mI ?_)))));refine bY ?_;refine Ab ?_;refine mI ?_;refine aW (mB (gT (mL (gT (mI (gT ?_))))));refine bY ?_;refine aK rfl rfl ?_;refine Ab ?_;refine gT ?_;refine bM ?_;refine dE ?_;refine Gg ?_;refine cS ?_;rw [V2 (by rw [hbd];exact XR.2 ⟨_,V7 hz,Wm (.inr hy7)⟩)];exact ⟨rfl,hh.below⟩
        ·refine sr ?_;refine eH ?_;refine gh ?_;refine jO ?_;refine aI (aI (aa (sr (mL (mI ?_)))));refine bY ?_;refine Ab ?_;refine mI ?_;refine aW (mB (gT (mL (gT (mI (gT ?_))))));refine bY ?_;refine aK rfl rfl ?_;refine Ab ?_;refine gT ?_;refine bM ?_;refine dE ?_;refine An ?_;refine a9 (mI (aA (ai ?_)));refine ⟨⟨i+1,VX,rfl,by rw [aw hz,Ym,hall,Yw,Yy,Wu (fun h=>h.elim hxy hy7)];rfl,hh⟩,by show m-(i+1)<m-i;omega, ?_⟩;exact dy
      ·rw [Wa VX] at hall;rw [V3 (by rw [hbd,hall];decide)];have hcn:=fun w1 hb=>eU M m mc ds w1 (hD.ext hb) hm;refine sr ?_;refine aW (aa (ah (cF (aU (aD (aD (bk (ai (ah (sr (mL ?_)))))))))));by_cases h9:gJ 1 ds=0
       ·rw [V2 h9];rw [h9] at hcn;refine br hh (hcn _ hh.below) rfl ?_;intro w56 hh;refine xB ?_;refine cS ?_;exact ⟨rfl,hh.below⟩
       ·rw [V3 h9];generalize gJ 1 ds=N at*;refine br hh (hcn _ hh.below) rfl ?_;intro w56 hh;refine cB (aa (cF (ao (ai (sr (aI (aa (au ?_))))))));refine cS ?_;exact ⟨rfl,hh.below⟩
theorem AV {q:List TR} (h:65536<p.length*q.length):eE p q=3:=by unfold eE;rw [V2 h]
theorem EB {q:List TR}{e:Int} (h6:¬65536<p.length*q.length) {a b:List Int} (h:xy p q=a++e::b) (ha:∀x∈a,x=0) (he:e≠0):eE p q=e:=by
 unfold eE;rw [V3 h6,h,List.find?_append,ju (XD.2 fun x hx=>by simp [ha x hx]),List.find?_cons_of_pos (p:=fun e:Int=>decide (e≠0)) (by simpa using he)]
 rfl
theorem AL {q:List TR} (h6:¬65536<p.length*q.length) (h:∀x∈xy p q,x=0):eE p q=fW (cv p q):=by
 unfold eE fW;rw [V3 h6,ju (XD.2 fun x hx=>by simp [h x hx])]
theorem zA (p q:PX) (k k2:Nat) (w:World) (hT:eK w) (hp:p.at_ w) (hq:q.at_ w) (lp:p.jX k) (lq:q.jX k2) (hk:k+k2≤900000):
  Calls Tryz.prog 80 #[.agg #[.int .i64 p.v,.slice p.A p.n p.c],.agg #[.int .i64 q.v,.slice q.A q.n q.c]] w fun r w'=>∃g:PX,dN (eE p.ts q.ts) p.v (aH (cv p.ts q.ts)) g∧r=.returned (.tuple #[.agg #[.int .i64 g.v,.slice g.A g.n g.c],.int .i64 (eE p.ts q.ts)])∧Hp w [g.row] w':=by
 have hh:=Hp.start w;obtain ⟨pv,pA,pn,pc,ps⟩:=p;obtain ⟨qv,qA,qn,qc,qs⟩:=q;have hpl:ps.length=pn:=hp.ln;have hql:qs.length=qn:=hq.ln;have hpn:pn≤1000000:=lp.n;have hqn:qn≤1000000:=lq.n;have okp:jc k ps:=lp.ok;have okq:jc k2 qs:=lq.ok;have szp:∀t∈ps,t.m.size≤100000:=lp.sz;have szq:∀t∈qs,t.m.size≤100000:=lq.sz;replace hp:Sl w pA pn 4 (az TR.cells ps):=hp;replace hq:Sl w qA qn 4 (az TR.cells qs):=hq;clear lp lq;show Calls _ _ _ _ fun r w'=>∃g:PX,dN (eE ps qs) pv (aH (cv ps qs)) g∧r=.returned (.tuple #[.agg #[.int .i64 g.v,.slice g.A g.n g.c],.int .i64 (eE ps qs)])∧Hp w [g.row] w';have hmm:pn*qn≤1000000*1000000:=XM hpn hqn;obtain ⟨m,hm⟩:∃m,m=pn*qn:=⟨_,rfl⟩;have hmi:(pn:Int)*(qn:Int)=(m:Int):=by rw [hm];exact (Xn _ _).symm
 by_cases h6:65536<m
 ·rw [AV (by rw [hpl,hql,←hm];exact h6)];refine aj (N:=67) (l:=[.agg #[.int .i64 pv,.slice pA pn pc],.agg #[.int .i64 qv,.slice qA qn qc]]) Tryz.func80 rfl rfl (by simp) ?_;exact PE
 ·have hbig:¬65536<ps.length*qs.length:=by rw [hpl,hql,←hm];exact h6
  refine aj (N:=67) (l:=[.agg #[.int .i64 pv,.slice pA pn pc],.agg #[.int .i64 qv,.slice qA qn qc]]) Tryz.func80 rfl rfl (by simp) ?_;refine sr ?_;refine cf hh [_,_] ?_;intro b2 w2 hh;refine cf hh [_,_] ?_;intro b3 w3 hh;refine bQ hh ?_;intro b4 w4 hh;refine aI (aa (ah (sr (bE ?_))));refine bB hh 2 ?_;refine aF (bE ?_);refine bB hh 1 ?_;refine aF ?_;refine mulC ?_;refine bM (aa (cF (ao (ai (sr (aL (aa (ah (sr (bE ?_))))))))));refine bB hh 2 ?_;refine aF (mI (aa (aq ?_)));replace hh:=hh.ck 96 4;have hall:∀i,((ps.take i).flatMap fun x=>qs.map (oV x)).length≤65536:=fun i=>by
   exact Tf
  refine bp [5,6,8,10,11,12,25,26,27,28,29,30,31,32,33,34,35,36,37,38,39,40,41,42,43,44,45,46,47,48,49,50,51,52,53,54,55,56,57,58,59,60] 6 25
   (fun a x w'=>∃(i:Nat) (M:List TR) (A':Option Addr) (c':Nat),i≤pn∧x=.int .i64 i∧a=.slice A' M.length c'∧M=((ps.take i).flatMap fun x=>qs.map (oV x))∧(∀e∈((ps.take i).flatMap fun x=>qs.map fun y=>lf x.m y.m),e=0)∧Hp w [.row A' M.length c' 96 4 (az TR.cells M),.blk b4 24 [.int .i64 0,.slice none 0 0] (0,0),.blk b3 24 [.int .i64 qv,.slice qA qn qc] (0,0),.blk b2 24 [.int .i64 pv,.slice pA pn pc] (0,0)] w')
   (fun _ x _=>pn-(intOf x).toNat) ?_ ?_
  ·exact ⟨0,[],none,0,V5 _,rfl,rfl,rfl,fun e he=>(nomatch he),hh⟩
  ·clear hh;rintro ρ' a_ x_ w' ⟨i,M,A',c',hi,rfl,rfl,hM,hz,hh⟩;have hMl:=hall i;rw [←hM] at hMl;by_cases hlt:i<pn
   ·obtain ⟨x,hx⟩:=ak (l:=ps) (k:=i) VX;obtain ⟨ad,rfl,hr⟩:=hp.at_ VX;have hxm:=V7 hx;have hxo:=okp x hxm;have hxs:=szp x hxm;refine sr ?_;refine dZ ?_;refine bY ?_;refine kZ ?_;refine bQ hh ?_;intro b8 w8 hh;refine bR hh 0 [_,_,_,_] ?_;intro ws hh;replace hh:Hp _ (.blk _ _ [_,_,_,_] _::_) _:=hh;refine aa (sr (bE ?_));refine bB hh 3 ?_;refine aF (mI (aa (aq ?_)));replace hh:=hh.perm (WO (l₁:=[_]));simp only [Wb,V9] at hh;refine bp [5,6,10,11,12,32,33,34,35,36,37,38,39,40,41,42,43,44,45,46,47,48,49,50,51,52,53,54,55,56,57,58,59] 6 32
     (fun a z w'=>∃(j:Nat) (N:List TR) (A':Option Addr) (c':Nat),j≤qn∧z=.int .i64 j∧a=.slice A' N.length c'∧N=M++(qs.take j).map (oV x)∧(∀e∈(qs.take j).map (fun y=>lf x.m y.m),e=0)∧Hp w [.row A' N.length c' 96 4 (az TR.cells N),.blk b8 96 [.string x.m,.bool x.c.neg,.string x.c.bf,.int .i64 x.c.e] (0,0),.blk b4 24 [.int .i64 0,.slice none 0 0] (0,0),.blk b3 24 [.int .i64 qv,.slice qA qn qc] (0,0),.blk b2 24 [.int .i64 pv,.slice (some ad) pn pc] (0,0)] w')
     (fun _ z _=>qn-(intOf z).toNat) ?_ ?_
    ·refine ⟨0,M,A',c',V5 _,rfl,rfl,by simp,fun e he=>(nomatch he),hh⟩
    ·clear hh;rintro ρ2 a2 x2 w2 ⟨j,N,A2,c2,hj,rfl,rfl,hN,hz2,hh⟩;by_cases hjn:j<qn
     ·obtain ⟨y,hy⟩:=ak (l:=qs) (k:=j) VX;obtain ⟨ad2,rfl,hr2⟩:=hq.at_ VX;have hym:=V7 hy;have hyo:=okq y hym;have hys:=szq y hym;have hmul:∀w1,Calls Tryz.prog 165 #[.string x.m,.string y.m] w1 fun r w'=>r=.returned (.tuple #[.string (mulM x.m y.m),.int .i64 (lf x.m y.m)])∧Below w1.heap.size w1 w':=fun w1=>G1 x.m y.m w1 hxs hys;have hdm:=fun A cc w1 hT1 hS1=>fH A 2 cc [x.c,y.c] w1 hT1 hS1 (by simpa using ⟨hxo.1,hyo.1⟩) (k+k2) (by simpa using ⟨hxo.2.mono VX,hyo.2.mono VX⟩) VX VY;rw [show iD ([x.c,y.c].map NR.d)=x.c.d*y.c.d by show 1*x.c.d*y.c.d=_;rw [Ye]] at hdm;obtain ⟨R,hR⟩:=uY (f:=fun x y=>lf x.m y.m) hx hy;have hzz:∀e∈((ps.take i).flatMap fun x=>qs.map fun y=>lf x.m y.m)++(qs.take j).map (fun y=>lf x.m y.m),e=0:=fun e he=>by
       rcases WI.1 he with he|he
       ·exact hz e he
       ·exact hz2 e he
      have hNl:N.length<65536:=by
       exact OY
      by_cases he:lf x.m y.m=0
      ·refine sr ?_;refine dZ ?_;refine k8 ?_;refine cA (vs:=[_,_,_,_]) aO.out rfl ((hr2.ext hh.below).recAt TR.len hy) rfl VY ?_;refine bQ hh ?_;intro b10 w10 hh;refine bR hh 0 [_,_,_,_] ?_;intro ws hh;replace hh:Hp _ (.blk _ _ [_,_,_,_] _::_) _:=hh;refine aa (sr (bE ?_));refine bB hh 2 ?_;refine bE ?_;refine bB hh 0 ?_;refine br hh (hmul _) rfl ?_;intro w41 hh;refine mT ?_;refine du ?_;refine du ?_;refine aS (aI (aa (ah (sr (mI ?_)))));refine cJ (aa (cF (ao (ai (al (mL (mS (bE ?_))))))));refine cn hh 2 [_,_,_] (bE ?_);refine cn hh 0 [_,_,_] ?_;refine wQ ?_;intro b54 w54 hh;refine br hh (hdm _ _ _ (hT.hp hh) (hh.aC (i:=0) rfl)) rfl ?_;intro w55 hh;refine eV [_,_,_,_] ?_;refine tf ?_;intro b57 w57 hh;refine Ls ?_;intro A58 c58 w58 hh;simp only [Wd,WH] at hh;replace hh:=hh.sub (WE _ _);refine lR ?_;refine a9 (mI (aA (ai ?_)));have e1:az TR.cells N++[.string (mulM x.m y.m),.bool (nR (x.c.d*y.c.d)).neg,.string (nR (x.c.d*y.c.d)).bf,.int .i64 (nR (x.c.d*y.c.d)).e]=az TR.cells (N++[oV x y]):=by rw [bG,fR];rfl
       replace hh:=show Hp w (_::_::.row A58 (N.length+1) c58 96 4 (az TR.cells N++[.string (mulM x.m y.m),.bool (nR (x.c.d*y.c.d)).neg,.string (nR (x.c.d*y.c.d)).bf,.int .i64 (nR (x.c.d*y.c.d)).e])::_) w58 from hh;rw [e1] at hh;replace hh:=hh.sub (V6 _ (V6 _ (V4 _ (V4 _ (V4 _ (V4 _ (V4 _ Wq)))))));exact OH
      ·rw [EB hbig hR hzz he];generalize lf x.m y.m=e at*;refine sr ?_;refine dZ ?_;refine k8 ?_;refine cA (vs:=[_,_,_,_]) aO.out rfl ((hr2.ext hh.below).recAt TR.len hy) rfl VY ?_;refine bQ hh ?_;intro b10 w10 hh;refine bR hh 0 [_,_,_,_] ?_;intro ws hh;replace hh:Hp _ (.blk _ _ [_,_,_,_] _::_) _:=hh;refine aa (sr (bE ?_));refine bB hh 2 ?_;refine bE ?_;refine bB hh 0 ?_;refine br hh (hmul _) rfl ?_;intro w41 hh;refine mT ?_;refine du ?_;refine du ?_;refine aS (aI (aa (ah (sr (mI ?_)))));refine cJ (aa (cT (sr ?_)));refine eV [_,_] (mI ?_);refine bR hh 3 [_,_] ?_;intro ws hh;replace hh:Hp _ (_::_::_::.blk _ _ [_,_] _::_) _:=hh;refine aI (aa (au (aE (bI (aE (aE (bI (bI (aE (aE (bI (aE ?_))))))))))));refine KC ?_;exact MY
     ·obtain rfl:j=qn:=VX;rw [Wa VX] at hz2 hN;refine sr ?_;refine Bf ?_;refine a9 (mI (aA (ai ?_)));replace hh:=hh.sub (V4 _ (V6 _ (V4 _ (V4 _ (V4 _ Wq)))));exact PI
   ·obtain rfl:i=pn:=VX;rw [Wa VX] at hz hM;have hMp:M=cv ps qs:=hM;rw [AL hbig hz,←hMp];have hpo:=pY okp okq VX;rw [←hMp] at hpo;refine sr ?_;refine aW (aa (ah (cF (aU (aD (aD (bk (ai (sr (bE ?_))))))))));refine bB hh 3 ?_;refine mL ?_;refine aG (k5 pv A' M.length c' M (k+k2) _ hT hh rfl VX VX hpo) ar.out rfl VY ?_;rintro e_ w64 ⟨g,og,rfl,hh⟩;refine ⟨_,rfl, ?_⟩;refine du ?_;refine du ?_;exact Iy
variable {E:Int}{W w1:World}{b base:Nat}{fz:Nat×Nat}
def gu (base:Nat) (E v:Int) (ts:List TR):VP:=fun x W=>∃(g:PX) (w1:World),x=.agg #[.int .i64 g.v,.slice g.A g.n g.c]∧dN E v ts g∧base≤w1.heap.size∧Hp w1 [g.row] W
theorem gu.ext {v:Int} (x:Value) (w w':World) (h:gu base E v ts x w) (hb:Below w.heap.size w w'):gu base E v ts x w':=let ⟨g,w1,h1,h2,h3,h4⟩:=h;⟨g,w1,h1,h2,h3,h4.ext hb⟩
def eR (base:Nat) (E v:Int) (ts:List TR):VP:=fun x W=>∃(g:PX) (w1:World),x=.tuple #[.agg #[.int .i64 g.v,.slice g.A g.n g.c],.int .i64 E]∧dN E v ts g∧base≤w1.heap.size∧Hp w1 [g.row] W
theorem eR.ext {v:Int} (x:Value) (w w':World) (h:eR base E v ts x w) (hb:Below w.heap.size w w'):eR base E v ts x w':=let ⟨g,w1,h1,h2,h3,h4⟩:=h;⟨g,w1,h1,h2,h3,h4.ext hb⟩
def BS (base:Nat) (v:Int) (ts:List TR):VP:=fun x W=>∃(g:PX) (w1:World),x=.slice g.A g.n g.c∧dN 0 v ts g∧base≤w1.heap.size∧Hp w1 [g.row] W
theorem BS.ext {v:Int} (x:Value) (w w':World) (h:BS base v ts x w) (hb:Below w.heap.size w w'):BS base v ts x w':=let ⟨g,w1,h1,h2,h3,h4⟩:=h;⟨g,w1,h1,h2,h3,h4.ext hb⟩
theorem PX.ne {g:PX}{t:TypeId}{cs:Array Value} (h:Hp w1 [g.row] W) (h3:W.heap[b]?=some (.cells cs t fz)) (h1:96≠t):∀x∈[g.row],x.id≠some b:=fun x hx=>by
 have hx2:=h.own x hx;obtain rfl:=Wj.1 hx;exact Ig hx2 h3 h1
def jR (a:List TR×Int) (g:PX):List TR×Int:=if a.2=0 then (aH (cv a.1 g.ts),eE a.1 g.ts) else a
def Sq (ps:List PX):List TR×Int:=match ps with|[]=>([],0)|g::l=>l.foldl jR (g.ts,0)
def FF (ps:List PX):Int:=if ff ps=0 then (Sq ps).2 else ff ps
theorem BB {a:List TR×Int} (h:a.2≠0):∀l:List PX,l.foldl jR a=a
 |[]=>rfl
 |g::l=>by
  rw [Y7,show jR a g=a by unfold jR;rw [V3 h]];exact BB h l
theorem Hv {l:List PX}{a:List TR×Int}{i:Nat}{g:PX} (hx:l[i]?=some g) (h0:((l.take i).foldl jR a).2=0) (h:eE ((l.take i).foldl jR a).1 g.ts≠0):(l.foldl jR a).2=eE ((l.take i).foldl jR a).1 g.ts:=by
 have e:l=l.take i++g::l.drop (i+1):=by rw [←gK hx,W4]
 have e2:l.foldl jR a=(l.drop (i+1)).foldl jR (jR ((l.take i).foldl jR a) g):=by
  conv=>lhs;rw [e]
  rw [Zc,Y7]
 rw [e2];have e3:jR ((l.take i).foldl jR a) g=(aH (cv ((l.take i).foldl jR a).1 g.ts),eE ((l.take i).foldl jR a).1 g.ts):=V2 h0;rw [e3,BB h]
theorem H5 {l:List PX}{a:List TR×Int}{i:Nat}{g:PX} (hx:l[i]?=some g) (h0:((l.take i).foldl jR a).2=0):(l.take (i+1)).foldl jR a=(aH (cv ((l.take i).foldl jR a).1 g.ts),eE ((l.take i).foldl jR a).1 g.ts):=by
 rw [aw hx,Zc,Y7,List.foldl_nil];exact V2 h0
theorem Gv {q:List TR} (hp:jc k p) (hq:jc j q) (sq:∀t∈q,t.m.size≤100000) (h:eE p q=0) (hk:k+j≤900000):jc (k+j+65536) (aH (cv p q))∧∀t∈aH (cv p q),t.m.size≤100000:=by
 obtain ⟨h6,_,h4⟩:=qm h;have ho:=pY hp hq VX;have hz:=nW fun t ht=>(ho t ht).2;rw [re] at hz;refine ⟨fun t ht=> ?_,fun t ht=> ?_⟩
 ·have:Sz (k+j+65536) t.c.d:=(hz t ht).mono VX;refine ⟨?_,this⟩;rw [(eh _).nf t ht];exact this.ok VX
 ·obtain ⟨s,hs,e⟩:=jn t ht;obtain ⟨x,hx,hs⟩:=X7.1 hs;obtain ⟨y,hy,rfl⟩:=Wn.1 hs;rw [←e];exact Wz (HQ _ _) (sq y hy)
theorem AG (L:Option Addr) (n c:Nat) (ps:List PX) (k s:Nat) (w:World) (hT:eK w) (hL:Sl w L n 2 (az PX.cells ps)) (hcn:n≤c) (hn:n≤8) (hf:∀g∈ps,g.at_ w) (hl:∀g∈ps,g.jX k) (hs:k+65536≤s) (hk:k+k+(n-2)*s≤900000):
  Calls Tryz.prog 17 #[.slice L n c] w fun r w'=>∃g:PX,dN (FF ps) (fu ps) (Sq ps).1 g∧r=.returned (.tuple #[.agg #[.int .i64 g.v,.slice g.A g.n g.c],.int .i64 (FF ps)])∧Hp w [g.row] w':=by
 have hh:=Hp.start w;have hln:=hL.bg PX.len VY;have hlk:=fun w1 hT1 hb=>sf L n c ps k w1 hT1 (hL.ext hb) VX (fun g hg=>(hf g hg).ext hb) hl;unfold FF;by_cases h0:ff ps=0
 ·rw [V2 h0];rw [h0] at hlk;obtain ⟨hne,tQ,hvv⟩:=qd h0;obtain ⟨g0,pt,rfl⟩:=List.exists_cons_of_ne_nil hne;rw [jP (g:=g0) rfl];have hnp:pt.length+1=n:=hln;obtain ⟨ad,rfl,hr⟩:=hL.at_ VX;have hm0:g0∈g0::pt:=We;have hg0:=hl g0 hm0;have h00:(g0::pt)[0]?=some g0:=rfl;show Calls _ _ _ _ fun r w'=>∃g:PX,dN (pt.foldl jR (g0.ts,0)).2 g0.v (pt.foldl jR (g0.ts,0)).1 g∧r=.returned (.tuple #[.agg #[.int .i64 g.v,.slice g.A g.n g.c],.int .i64 (pt.foldl jR (g0.ts,0)).2])∧Hp w [g.row] w';refine aj (N:=46) (l:=[.slice (some ad) n c]) Tryz.func17 rfl rfl (by simp) ?_;refine sr ?_;refine bQ hh ?_;intro b2 w2 hh;refine aI (aa (ah (sr (mL ?_))));refine br hh (hlk _ (hT.hp hh) hh.below) rfl ?_;intro w11 hh;refine aI (aa (sr (mI ?_)));refine cJ (aa (cF (ao (ai (ah ?_)))));refine aT 11 [[(0,none)],[(16,some 0)],[(17,some 1)],[(18,some 2)],[(0,none)],[(20,some 4)],[(21,some 5)],[(22,some 6)],[(23,some 7)],[(19,some 3),(24,some 8)],[]] [(10,5),(9,25),(8,24),(7,23),(6,22),(5,21),(4,20),(3,19),(2,18),(1,17),(0,16)] hh mixed VZ ?_;refine dI ?_;refine iL (0) ?_;refine nJ ?_
  refine mO (fun _ hj=>cx hj.hp.below ((hr.recAt PX.len h00) 0 _ rfl)) ?_;refine dI ?_;refine iL (0) ?_;refine nJ ?_;refine mO (fun _ hj=>cx hj.hp.below ((hr.recAt PX.len h00) 1 _ rfl)) ?_;refine aN (i:=8) (BS w11.heap.size g0.v g0.ts) (BS.ext) ?_ ?_
  ·intro ρ1 w1 hj hR;exact bh rfl (aP ar.out (av (show ρ1 23=Value.slice _ _ _ from hR.1) a6)) (mg g0.A g0.n g0.c g0.ts w1 ((hf g0 hm0).ext hj.hp.below) hg0.n) (fun _ _ ⟨A,c,hq,ho,hb⟩=>⟨_,hq,hb,⟨g0.v,A,g0.n,c,g0.ts⟩,w1,rfl,⟨rfl,rfl⟩,hj.bl.size,(Hp.start w1).aY (x:=.row _ _ _ _ _ _) hb ho⟩)
  refine aN (i:=9) (gu w11.heap.size 0 g0.v g0.ts) (gu.ext) ?_ ?_
  ·intro ρ1 w1 hj hR;exact let ⟨g,u,e,o,q,h⟩:=hR.2.1;eI rfl (sJ (cs:=[_,_]) aO.out lv.out (aX (show ρ1 19=Value.int _ _ from hR.1) (aX e ct)) rfl) ⟨Below.refl _ _,g,u,by rw [show g.v=g0.v from o.v],o,q,h⟩
  refine aN (i:=10) (cO _ 24 _) cO.ext (fun ρ1 w1 hj hR=>g8 aO.out hj.bl (fun v w2 h hb=>⟨hb,h⟩)) ?_;refine aJ ?_;intro f W hJ hV;have hb_4:=hJ.bl;obtain ⟨v5,v25,v24,v23,v22,v21,v20,v19,v18,v17,v16,_⟩:=hV;obtain ⟨g24,u24,e24, -⟩:=v24;obtain ⟨g25,u25,e25,o25,q25,h25⟩:=v25;obtain ⟨b5,e5,hl5,hc5⟩:cO _ _ _ (f 10) W:=v5;replace hh:=hJ.ka hh hl5 hc5 q25 h25 (PX.ne h25 hc5 VY);refine aR (a8 (ae e5 (ae e25 (ae e24 (ae v23 (ae v22 (ae v21 (ae v20 (ae v19 (ae v18 (ae v17 (ae v16 aQ)))))))))))) ?_;dsimp only [bH];clear e24 e25 e5 hJ;simp only [Wb,V9] at hh;obtain ⟨gv,gA,gn,gc,gts⟩:=g25;obtain rfl:g0.v=gv:=o25.v.symm;obtain rfl:g0.ts=gts:=o25.ts.symm;replace hh:=show Hp w (_::.row gA gn gc 96 4 (az TR.cells g0.ts)::_) W from hh;have hgn:g0.ts.length=gn:=(hh.aC (i:=1) rfl).bg TR.len VY;have hgc:gn≤gc:=hh.dR (i:=1) rfl;refine bR hh 0 [_,_] ?_;intro ws hh;replace hh:Hp _ (.blk _ _ [_,_] _::_) _:=hh;refine aa (ah (sr (mL ?_)));refine aV rfl rfl VY (gl bj.out aO.size rfl rfl (l:=1) rfl VX VX) ?_;refine aF (mI (aa (aq ?_)));replace hh:=hh.perm (WO (l₁:=[_]))
  simp only [Wb,V9] at hh;refine aM [3,7,8,9,29,30,31,32,33,34,35,36,37,38,39,40,41,42,43,44] 29
   (fun v w'=>∃(i:Nat) (g:PX),i≤n-1∧v=.int .i64 i∧((pt.take i).foldl jR (g0.ts,0)).2=0∧g.v=g0.v∧g.ts=((pt.take i).foldl jR (g0.ts,0)).1∧g.jX (k+i*s)∧Hp w [.row g.A g.n g.c 96 4 (az TR.cells g.ts),.blk b5 24 [.int .i64 g.v,.slice g.A g.n g.c] (0,0),.blk b2 24 [.int .i64 0,.slice none 0 0] (0,0)] w')
   (fun v _=>n-1-(intOf v).toNat) ?_ ?_
  ·exact ⟨0,⟨g0.v,gA,gn,gc,g0.ts⟩,V5 _,rfl,rfl,rfl,rfl,⟨by show gn≤1000000;have:=hg0.n;have h9:=(hf g0 hm0).ln;omega,hgc,hg0.ok.mono (by rw [YA];omega),hg0.sz⟩,hh⟩
  ·clear hh;rintro ρ' v w' ⟨i,g,hi,rfl,hz,hgv,hts,hgl,hh⟩;by_cases hlt:i<n-1
   ·obtain ⟨f,hx⟩:=ak (l:=pt) (k:=i) VX;have hmem:f∈g0::pt:=Wg _ (V7 hx);have his:i*s≤(n-2)*s:=Xi _ VX;have his1:=Xj i s;have hbk:Sl w (if c=1 then some ad else (some ad:Option Addr).map (·.add (1*2))) (n-1) 2 (az PX.cells pt):=hL.back VX hcn;obtain ⟨ab,hAb,sb⟩:=hbk.at_ VX;have tQ:Value.slice (if c=1 then some ad else (some ad:Option Addr).map (·.add (1*2))) (n-1) (c-1)=.slice (some ab) (n-1) (c-1):=by rw [hAb]
    have hfl:=hl f hmem;have hnx:=H5 (a:=(g0.ts,0)) hx hz;have hsp:=Hv (a:=(g0.ts,0)) hx hz;rw [←hts] at hnx hsp;refine sr ?_;refine dZ ?_;refine dp (k:=i) bj.out aO.size tQ rfl VX VX VY ?_;refine cA (vs:=[_,_]) aO.out rfl (show Rd _ _ [.int .i64 f.v,.slice f.A f.n f.c] from (sb.ext hh.below).recAt PX.len hx) rfl VY ?_;refine bQ hh ?_;intro b7 w7 hh;refine bR hh 0 [_,_] ?_;intro ws hh;replace hh:Hp _ (.blk _ _ [_,_] _::_) _:=hh;refine aa (sr ?_);refine cn hh 2 [_,_] ?_;refine cn hh 0 [_,_] ?_;refine aG (zA g f (k+i*s) k _ (hT.hp hh) (hh.aC (i:=1) rfl) ((hf f hmem).ext hh.below) hgl hfl VX) ar.out rfl VY ?_;rintro e_ w36 ⟨h,oh,rfl,h3⟩;refine ⟨_,rfl, ?_⟩;replace hh:=hh.join h3;simp only [Wb,V9] at hh;by_cases he:eE g.ts f.ts=0
    ·obtain ⟨hv,hA,hn2,hc2,hts2⟩:=h;rw [he] at oh;obtain rfl:g.v=hv:=oh.v.symm;obtain rfl:aH (cv g.ts f.ts)=hts2:=oh.ts.symm;replace hh:=show Hp w (.row hA hn2 hc2 96 4 (az TR.cells (aH (cv g.ts f.ts)))::_) w36 from hh;have hhn:(aH (cv g.ts f.ts)).length=hn2:=(hh.aC (i:=0) rfl).bg TR.len VY;have hhc:hn2≤hc2:=hh.dR (i:=0) rfl;have h4:=(qm he).2.2;have htl:=Gv hgl.ok hfl.ok hfl.sz he VX;refine mT ?_;refine du ?_;refine du ?_;refine bQ hh ?_;intro b8 w8 hh;refine bR hh 0 [_,_] ?_;intro ws hh;replace hh:Hp _ (.blk _ _ [_,_] _::_) _:=hh;refine aI (aa (ah (sr (mI ?_))));refine cJ (aa (cF (ao (ai (al ?_)))));refine cn hh 0 [_,_] ?_;refine bR hh 4 [_,_] ?_;intro ws hh;replace hh:Hp _ (_::_::_::_::.blk _ _ [_,_] _::_) _:=hh;refine gy ?_;refine a9 (mI (aA (ai ?_)));replace hh:=hh.sub (V6 _ (V4 _ (V6 _ (V6 _ (V4 _ (V4 _ Wq))))))
     refine ⟨⟨i+1,⟨g.v,hA,hn2,hc2,aH (cv g.ts f.ts)⟩,VX,rfl,by rw [hnx];exact he,hgv,by rw [hnx],⟨by show hn2≤1000000;omega,hhc,htl.1.mono (by rw [Xj];omega),htl.2⟩,hh⟩,by show n-1-(i+1)<n-1-i;omega, ?_⟩;exact dy
    ·rw [hsp he];refine mT ?_;refine du ?_;refine du ?_;refine bQ hh ?_;intro b8 w8 hh;refine bR hh 0 [_,_] ?_;intro ws hh;replace hh:Hp _ (.blk _ _ [_,_] _::_) _:=hh;refine aI (aa (ah (sr (mI ?_))));refine cJ (aa (cT (sr ?_)));refine eV [_,_] (mI ?_);refine bR hh 5 [_,_] ?_;intro ws hh;replace hh:Hp _ (_::_::_::_::_::.blk _ _ [_,_] _::_) _:=hh;refine aI (aa (au (aE (bI (aE (aE (bI (aE ?_))))))));refine Ly (ej rfl (ek (vs:=[_,_]) aO.out (hh.bZ (i:=5) (n:=2) rfl rfl) rfl) (jg (jM rfl) fF)) ?_;exact MY
   ·obtain rfl:i=n-1:=VX;rw [Wa VX] at hz hts;refine sr ?_;refine mY ?_;refine cn hh 1 [_,_] ?_;refine bR hh 2 [_,_] ?_;intro ws hh;replace hh:Hp _ (_::_::.blk _ _ [_,_] _::_) _:=hh;refine aI (aa (au ?_));refine mE ?_;rw [hz];exact ⟨g,⟨hgv,hts⟩,rfl,hh.sub (V4 _ (WN _))⟩
 ·rw [V3 h0];generalize ff ps=e at*;refine aj (N:=46) (l:=[.slice L n c]) Tryz.func17 rfl rfl (by simp) ?_;refine sr ?_;refine bQ hh ?_;intro b2 w2 hh;refine aI (aa (ah (sr (mL ?_))));refine br hh (hlk _ (hT.hp hh) hh.below) rfl ?_;intro w11 hh;exact R3
theorem G2 (A:Option Addr) (n c:Nat) (xs:List Int) (w:World) (hsl:Sl w A n 1 (bC xs)) (hn:n≤100000):
  Calls Tryz.prog 244 #[.slice A n c] w fun e w'=>e=.returned (.tuple #[.string (str (H8 xs)),.int .i64 (LC xs)])∧Below w.heap.size w w':=by
 have hlen:xs.length=n:=by have:=hsl.1;rw [bV] at this;omega
 have hh:=Hp.start w;refine aj (N:=34) (l:=[.slice A n c]) Tryz.func244 rfl rfl (by simp) ?_;refine sr (aS (aI (aa (sr (aS (aa (ah (sr (aI (aa (aq ?_)))))))))));refine bp [2,3,4,5,6,7,8,9,10,11,12,13,14,15,16,17,18,19,20,21,22,23,24,25,26,27,28,29,30,31,32] 4 5
  (fun b i w'=>∃(k:Nat),k≤n∧i=.int .i64 k∧b=.string (str ((xs.take k).map pw))∧(xs.take k).all cE=true∧Hp w [] w')
  (fun _ v _=>n-(intOf v).toNat) ?_ ?_
 ·exact ⟨0,V5 _,rfl,rfl,rfl,hh⟩
 ·clear hh;rintro ρ' b i w' ⟨k,hk,rfl,rfl,hall,hh⟩;by_cases hlt:k<n
  ·obtain ⟨x,hx⟩:=ak (l:=xs) (k:=k) VX;obtain ⟨ad,rfl,hr⟩:=(hsl.ext hh.below).at_ VX;by_cases h0:x<0
   ·refine ah (sr (mI (mL (aF ?_))));refine xg ?_;refine fp ?_;refine uu ?_;refine aW (mB ?_);refine gS (gS (gS ?_));refine ic ?_;refine gS ?_;refine eM ?_;exact MM
   ·by_cases h1:127<x
    ·refine ah (sr (mI (mL (aF ?_))));refine xg ?_;refine fp ?_;refine uu ?_;refine aW (mB (gT (mL (gT (mI (gT ?_))))));refine fp ?_;refine aK rfl rfl (bX aO.out rfl (gm hr (cw hx) rfl) VY ?_);refine gT ?_;refine bM ?_;refine dE ?_;exact MM
    ·have hok:cE x=true:=by simp [cE];omega
     refine ah (sr (mI (mL (aF ?_))));refine xg ?_;refine fp ?_;refine uu ?_;refine aW (mB (gT (mL (gT (mI (gT ?_))))));refine fp ?_;refine aK rfl rfl (bX aO.out rfl (gm hr (cw hx) rfl) VY ?_);refine gT ?_;refine bM ?_;refine dE ?_;refine aa (cF (ao (ai (al (mS (mL (mI ?_)))))));refine fp ?_;refine uu ?_;refine oZ bj.out bj.out rfl VY ?_;refine se ?_;intro b30 w30 hh;rw [x8 VX VX] at hh;have hsl1:Sl w30 (some ⟨b30,0,none⟩) 1 1 (lX [pw x]):=by
      have:=hh.aC (i:=0) rfl;rw [n8 hok] at this;exact this
     refine nw bj.out bj.out bj.out rfl (hsl1) VY ?_;replace hh:=hh.sub (WE _ _);refine SU rfl rfl (by rw [jb];show _+1≤_;simp;omega) VY ?_;refine aS (aA (bF (ai (al (mI ?_)))));refine a9 (aI (aA (ai ?_)));have e0:str ((xs.take k).map pw)++ByteArray.mk #[pw x]=str ((xs.take (k+1)).map pw):=by
      rw [show ByteArray.mk #[pw x]=str [pw x] from rfl,tK,aw hx,WT];rfl
     refine ⟨⟨k+1,VX,rfl,W8 Value.string e0,Cp hx hall hok,hh⟩,by show n-(k+1)<n-k;omega, ?_⟩;exact dy
  ·obtain rfl:k=n:=VX;rw [Wa VX] at hall;obtain ⟨e1,e2⟩:=nF hall;refine ah (sr (mI (mL (aF ?_))));refine aW (aa (cF (aU (aD (aD (bk (ai (sr (mS (aS (aI (aa (au ?_)))))))))))));refine Gb ?_;rw [e1,e2,Wa VX];exact ⟨rfl,hh.below⟩
theorem rI (s:ByteArray) (w:World) (hs:s.size≤9223372036854775807):
  Calls Tryz.prog 173 #[.string s,.int .i64 s.size] w fun e w'=>e=.returned (.bool (ef s.data.toList))∧Below w.heap.size w w':=by
 have h:=l7 s s.size w hs;simpa using h
theorem Di (a b:ByteArray) (w:World) (ha:a.size≤100000) (hb:b.size≤100000):
  Calls Tryz.prog 221 #[.string a,.string b] w fun e w'=>e=.returned (.tuple #[.string (str (mulL a.data.toList b.data.toList).1),.int .i64 (mulL a.data.toList b.data.toList).2])∧Below w.heap.size w w':=by
 have hh:=Hp.start w;have hsa:=dD a;have hsb:=dD b
 cases hma:ef a.data.toList with
 |false=>
  refine Ir ?_;refine sr (aS (aI (aa (ah (sr (mS (mS ?_)))))));refine bA bj.out rfl VY ?_;refine br hh (rI a _ VX) rfl ?_;intro w11 hh;rw [hma];refine fI ?_;refine mB ?_;refine gS (gS (gS ?_));refine ic ?_;refine gS ?_;refine eM ?_;refine aa (cT (sr (aS (aI (aa (au (aE ?_)))))));refine Gb ?_;have:gQ (· + ·) a.data.toList b.data.toList=none:=by simp [gQ,hma]
  simp only [mulL,this];exact ⟨rfl,hh.below⟩
 |true=>
  cases hmb:(ef b.data.toList && decide ((b.size:Int)=a.size)) with
  |false=>
   refine Ir ?_;refine sr (aS (aI (aa (ah (sr (mS (mS ?_)))))));refine bA bj.out rfl VY ?_;refine br hh (rI a _ VX) rfl ?_;intro w11 hh;rw [hma];refine fI ?_;refine mB (gT (mS (gT (mS (gT ?_)))));refine bA bj.out rfl VY ?_;refine aK rfl rfl ?_;refine br hh (l7 b _ _ VX) rfl ?_;intro w17 hh;rw [hmb];refine gT ?_;refine fI ?_;refine dE ?_;refine aa (cT (sr (aS (aI (aa (au (aE ?_)))))));refine Gb ?_;have h2:(ef b.data.toList && decide ((b.data.toList.length:Int)=a.data.toList.length))=false:=by rw [←hsa,←hsb];exact hmb
   have:gQ (· + ·) a.data.toList b.data.toList=none:=by simp only [gQ,hma,h2];rfl
   simp only [mulL,this];exact ⟨rfl,hh.below⟩
  |true=>
   have hmb2:=hmb;simp only [Wl,Wt] at hmb2;have hbl:gQ (· + ·) a.data.toList b.data.toList=some (List.zipWith (· + ·) (ints a.data.toList) (ints b.data.toList)):=by
    exact Pm
   have hzl:(List.zipWith (· + ·) (ints a.data.toList) (ints b.data.toList)).length=a.size:=by simp [ints];omega
   refine Ir ?_;refine sr (aS (aI (aa (ah (sr (mS (mS ?_)))))));refine bA bj.out rfl VY ?_;refine br hh (rI a _ VX) rfl ?_;intro w11 hh;rw [hma];refine fI ?_;refine mB (gT (mS (gT (mS (gT ?_)))));refine bA bj.out rfl VY ?_;refine aK rfl rfl ?_;refine br hh (l7 b _ _ VX) rfl ?_;intro w17 hh;rw [hmb];refine gT ?_;refine fI ?_;refine dE ?_;refine aa (cF (ao (ai (sr (aL (aa (ah (sr (aI (aa (aq ?_)))))))))));refine bp [6,7,20,21,22,23,24,25,26,27,28,29,30,31,32,33,34,35,36,37] 6 7
    (fun v i w'=>∃(k c':Nat) (A':Option Addr),k≤a.size∧i=.int .i64 k∧v=.slice A' k c'∧Hp w [.row A' k c' 3 1 (bC ((List.zipWith (· + ·) (ints a.data.toList) (ints b.data.toList)).take k))] w')
    (fun _ i _=>a.size-(intOf i).toNat) ?_ ?_
   ·exact ⟨0,0,none,V5 _,rfl,rfl,hh.ck _ _⟩
   ·clear hh;rintro ρ' v i w' ⟨k,c',A',hk,rfl,rfl,hh⟩;by_cases hlt:k<a.size
    ·obtain ⟨x,hx⟩:=ak (l:=a.data.toList) (k:=k) VX;obtain ⟨y,hy⟩:=ak (l:=b.data.toList) (k:=k) VX;have bx:=oa hma hx;have byy:=oa hmb2.1 hy;refine ah (sr (mI (mS ?_)));refine bA bj.out rfl VY ?_;refine F7 ?_;refine aT 11 [[(6,none)],[(0,none)],[(7,none)],[(27,some 1),(28,some 2)],[(29,some 3)],[(1,none)],[(7,none)],[(31,some 5),(32,some 6)],[(33,some 7)],[(30,some 4),(34,some 8)],[(35,some 9)]] [(10,36),(9,35),(8,34),(7,33),(6,32),(5,31),(4,30),(3,29),(2,28),(1,27),(0,26)] hh mixed VZ ?_;refine dI ?_;refine T5 ?_;refine cM ?_;refine bm (i:=3) (fun ρ1 w1 hj hR=>jL bj.out (show ρ1 27=Value.string _ from hR.1) (show ρ1 28=Value.int _ _ from hR.2.1) VX (by assumption)) ?_;refine bm (i:=4) (fun ρ1 w1 hj hR=>ml bj.out bj.out (show ρ1 29=Value.int _ _ from hR.1) VX VX) ?_;refine T5 ?_;refine cM ?_;refine bm (i:=7) (fun ρ1 w1 hj hR=>jL bj.out (show ρ1 31=Value.string _ from hR.1) (show ρ1 32=Value.int _ _ from hR.2.1) VX (by assumption)) ?_;refine bm (i:=8) (fun ρ1 w1 hj hR=>ml bj.out bj.out (show ρ1 33=Value.int _ _ from hR.1) VX VX) ?_;refine qG ?_;refine oB [_] ?_;refine aJ ?_;intro f W hJ hV
     have hb_7:=hJ.bl;obtain ⟨v36,v35,v34,v33,v32,v31,v30,v29,v28,v27,v26,_⟩:=hV;obtain ⟨A36,c36,e36,f36⟩:Rows _ _ _ (f 10) W:=v36;replace hh:=hJ.hp;refine aR (a8 (ae e36 (ae v35 (ae v34 (ae v33 (ae v32 (ae v31 (ae v30 (ae v29 (ae v28 (ae v27 (ae v26 aQ)))))))))))) ?_;dsimp only [bH];clear e36 hJ;refine bK hh (i:=0) rfl rfl rfl (f36) bj.out aO.out rfl VY rfl VX VX VY ?_;intro A37 c37 w37 hh;simp only [Wd] at hh;refine jK ?_;refine a9 (aI (aA (ai ?_)));refine ⟨⟨k+1,c37,A37,VX,rfl,rfl, ?_⟩,by show a.size-(k+1)<a.size-k;omega, ?_⟩
     ·rw [aw (C9 (y4 hx) (y4 hy)),sv];exact hh
     ·exact dy
    ·refine ah (sr (mI (mS ?_)));refine bA bj.out rfl VY ?_;refine Ar ?_;obtain rfl:k=a.size:=VX;rw [Wa VX] at hh;refine br hh (G2 _ _ _ _ _ (hh.aC (i:=0) rfl) VX) rfl ?_;intro w39 hh;refine du ?_;refine du ?_;refine aS (aI (aa (au ?_)));refine Gb ?_;simp only [mulL,hbl];exact ⟨trivial,hh.below⟩
theorem oM (A B:Option Addr) (n m c c':Nat) (xs ys:List Int) (w:World) (hx:Sl w A n 1 (bC xs)) (hy:Sl w B m 1 (bC ys)) (hn:n≤100000) (hm:m≤100000):
  Calls Tryz.prog 34 #[.slice A n c,.slice B m c'] w fun e w'=>e=.returned (.bool (decide (xs=ys)))∧Below w.heap.size w w':=by
 have hxl:xs.length=n:=by have:=hx.1;rw [bV] at this;omega
 have hyl:ys.length=m:=by have:=hy.1;rw [bV] at this;omega
 have hh:=Hp.start w;by_cases hnm:n=m
 ·subst hnm;refine aj (N:=26) (l:=[.slice A n c,.slice B n c']) Tryz.func34 rfl rfl (by simp) ?_;refine xu ?_;refine Fm ?_;refine aM [4,5,11,12,13,14,15,16,17,18,19,20,21,22,23,24,25] 5
   (fun i w'=>∃k:Nat,k≤n∧i=.int .i64 k∧xs.take k=ys.take k∧Hp w [] w')
   (fun i _=>n-(intOf i).toNat) ?_ ?_
  ·exact ⟨0,V5 _,rfl,rfl,hh⟩
  ·clear hh;rintro ρ' i w' ⟨k,hk,rfl,he,hh⟩;replace hx:=hx.ext hh.below;replace hy:=hy.ext hh.below;by_cases hlt:k<n
   ·obtain ⟨x,hxk⟩:=ak (l:=xs) (k:=k) VX;obtain ⟨y,hyk⟩:=ak (l:=ys) (k:=k) VX;obtain ⟨ad,rfl,hr⟩:=hx.at_ VX;obtain ⟨bd,rfl,hs⟩:=hy.at_ VX;by_cases hxy:x=y
    ·subst hxy;refine ah (sr (mI (mL (aF ?_))));refine jW ?_;refine xQ ?_;refine dI ?_;refine cM ?_;refine Qi ?_;refine mO (fun _ hj=>gm (hr.ext hj.bl) (cw hxk) rfl) ?_;refine dI ?_;refine cM ?_;refine NU ?_;refine mO (fun _ hj=>gm (hs.ext hj.bl) (cw hyk) rfl) ?_;refine aJ ?_;intro f W hJ hV;have hb_6:=hJ.bl;obtain ⟨v24,v23,v22,v21,v20,v19,v18,v17,_⟩:=hV;replace hh:=hJ.hp;refine xx ?_;dsimp only [bH];clear hJ;refine B1 ?_;refine a9 (aI (aA (ai ?_)));refine ⟨⟨k+1,VX,rfl,by rw [aw hxk,aw hyk,he],hh⟩,by show n-(k+1)<n-k;omega, ?_⟩;exact dy
    ·refine ah (sr (mI (mL (aF ?_))));refine jW ?_;refine xQ ?_;refine dI ?_;refine cM ?_;refine Qi ?_;refine mO (fun _ hj=>gm (hr.ext hj.bl) (cw hxk) rfl) ?_;refine dI ?_;refine cM ?_;refine NU ?_;refine mO (fun _ hj=>gm (hs.ext hj.bl) (cw hyk) rfl) ?_;refine aJ ?_;intro f W hJ hV;have hb_6:=hJ.bl;obtain ⟨v24,v23,v22,v21,v20,v19,v18,v17,_⟩:=hV;replace hh:=hJ.hp;refine xx ?_;dsimp only [bH];clear hJ;refine cJ (aa (cT (sr (aB (aa (au (bI (aE (aE (bI (aE ?_)))))))))));refine cS ?_;have:¬xs=ys:=fun h=>hxy (by rw [h,hyk] at hxk;exact (WZ hxk).symm);simp only [this,decide_false];exact ⟨trivial,hh.below⟩
   ·refine ah (sr (mI (mL (aF ?_))));refine BF ?_;refine cS ?_;rw [Wa VX,Wa VX] at he;simp only [he,decide_true];exact ⟨trivial,hh.below⟩
 ·refine aj (N:=26) (l:=[.slice A n c,.slice B m c']) Tryz.func34 rfl rfl (by simp) ?_;refine xu ?_;refine cJ (aa (cT (sr (aB (aa (au (aE ?_)))))));refine cS ?_;have:¬xs=ys:=fun h=>hnm (by rw [←hxl,←hyl,h]);simp only [this,decide_false];exact ⟨trivial,hh.below⟩
theorem vQ (v:Int) (A:Option Addr) (n c:Nat) (ts:List TR) (w:World) (hS:Sl w A n 4 (az TR.cells ts)) (hn:n≤1000000) (ho:∀t∈ts,t.c.ok∧t.m.size≤100000):
  Calls Tryz.prog 103 #[.agg #[.int .i64 v,.slice A n c]] w fun r w'=>r=.returned (.int .i64 (gF v ts))∧Below w.heap.size w w':=by
 have hh:=Hp.start w;have hln:=hS.bg TR.len VY
 cases hf:gU v with
 |false=>
  have hbv:¬(0≤v∧v≤12):=fun h=>by rw [dx.2 h] at hf;cases hf
  rw [show gF v ts=1 by unfold gF;rw [V2 hf]];by_cases h0:v<0
  ·refine EY ?_;refine sr ?_;refine cf hh [_,_] ?_;intro b1 w1 hh;refine aI (aa (ah (sr (bE ?_))));refine bB hh 0 ?_;refine aW (mB ?_);refine gS (gS (gS ?_));refine eM ?_;exact Cu
  ·refine EY ?_;refine sr ?_;refine cf hh [_,_] ?_;intro b1 w1 hh;refine aI (aa (ah (sr (bE ?_))));refine bB hh 0 ?_;refine aW (mB (gT (bE (gT ?_))));refine bB hh 0 ?_;refine gT ?_;refine bM ?_;refine dE ?_;exact Cu
 |true=>
  obtain ⟨hv0,hv12⟩:=dx.1 hf;by_cases h4:4096<n
  ·rw [show gF v ts=3 by unfold gF;rw [V3 (by rw [hf];decide),V2 VX]];refine EY ?_;refine sr ?_;refine cf hh [_,_] ?_;intro b1 w1 hh;refine aI (aa (ah (sr (bE ?_))));refine bB hh 0 ?_;refine aW (mB (gT (bE (gT ?_))));refine bB hh 0 ?_;refine gT ?_;refine bM ?_;refine dE ?_;exact Tp
  ·have hbad:=fun h=>Ca (v:=v) (ts:=ts) hf VX h;refine EY ?_;refine sr ?_;refine cf hh [_,_] ?_;intro b1 w1 hh;refine aI (aa (ah (sr (bE ?_))));refine bB hh 0 ?_;refine aW (mB (gT (bE (gT ?_))));refine bB hh 0 ?_;refine gT ?_;refine bM ?_;refine dE ?_;refine Bw ?_;refine bB hh 0 ?_;refine aF ?_;refine Jr ?_;refine aM [2,3,4,17,18,19,20,21,22,23,24,25,26,27,28,29,30,31,32,33,34,35,36,37,38,39,40,41,42,43,44,45,46,47,48,49,50,51,52,53,54,55,56,57,58,59,60,61,62] 3
    (fun x w'=>∃i:Nat,i≤n∧x=.int .i64 i∧(ts.take i).all (jJ v)=true∧sF (ts.take i)=true∧Hp w [.blk b1 24 [.int .i64 v,.slice A n c] (0,0)] w')
    (fun x _=>n-(intOf x).toNat) ?_ ?_
   ·exact ⟨0,V5 _,rfl,rfl,rfl,hh⟩
   ·clear hh;rintro ρ' x_ w' ⟨i,hi,rfl,hall,hris,hh⟩;by_cases hlt:i<n
    ·obtain ⟨x,hx⟩:=ak (l:=ts) (k:=i) VX;obtain ⟨ad,rfl,hr⟩:=hS.at_ VX;obtain ⟨hxo,hxm⟩:=ho x (V7 hx);have hmay:=fun w1=>l7 x.m v w1 VX;have hsg:=fun w1=>er x.c w1 (by have:=hxo.1;omega);have hfo:=fun w1=>kU x.c w1 (by have:=hxo.1;omega) (by have:=hxo.2.1;omega) (by have:=hxo.2.2;omega);have hzz:x.c.i.sign=0↔x.c.d=0:=by
      exact Nk
     cases hm:ef x.m.data.toList && decide ((x.m.size:Int)=v) with
     |false=>
      rw [hm] at hmay;rw [hbad (nS hx (by unfold jJ;rw [hm];rfl))];refine ah (sr (mI (bE ?_)));refine bB hh 0 ?_;refine aF ?_;refine vh ?_;refine bB hh 0 ?_;refine mI ?_;refine bY ?_;refine kZ ?_;refine bQ hh ?_;intro b4 w4 hh;refine bR hh 0 [_,_,_,_] ?_;intro ws hh;replace hh:Hp _ (.blk _ _ [_,_,_,_] _::_) _:=hh;refine aa (ah (ah ?_));refine cH [] [] zL4 18 zL2 [(17,46),(16,45),(15,44),(14,43),(13,42),(12,41),(11,40),(10,39),(9,38),(8,37),(7,36),(6,35),(5,34),(4,33),(3,32),(2,31),(1,30),(0,29)] hh mixed VZ da rfl (by repeat (first|exact cj|refine bP ?_|refine cg ?_)) ?_;refine cP ?_;refine dL 0 ?_
      refine cP ?_;refine dL 1 ?_;refine dC (fun _ hj=>hmay _) ?_;refine vM ?_;refine jV ?_;refine dS (dS (dS (dS ?_)));refine Gj ?_;exact SO
     |true=>
      rw [hm] at hmay;by_cases hz:x.c.d=0
      ·have hs:=hzz.2 hz;rw [hbad (nS hx (by unfold jJ nM;rw [hm,Wm hz];rfl))];refine ah (sr (mI (bE ?_)));refine bB hh 0 ?_;refine aF ?_;refine vh ?_;refine bB hh 0 ?_;refine mI ?_;refine bY ?_;refine kZ ?_;refine bQ hh ?_;intro b4 w4 hh;refine bR hh 0 [_,_,_,_] ?_;intro ws hh;replace hh:Hp _ (.blk _ _ [_,_,_,_] _::_) _:=hh;refine aa (ah (ah ?_));refine cH [] [] zL4 18 zL2 [(17,46),(16,45),(15,44),(14,43),(13,42),(12,41),(11,40),(10,39),(9,38),(8,37),(7,36),(6,35),(5,34),(4,33),(3,32),(2,31),(1,30),(0,29)] hh mixed VZ da rfl (by repeat (first|exact cj|refine bP ?_|refine cg ?_)) ?_
       refine cP ?_;refine dL 0 ?_;refine cP ?_;refine dL 1 ?_;refine dC (fun _ hj=>hmay _) ?_;refine vM ?_;refine jV ?_;refine dG (cP ?_);refine dG (ee 0 [_,_,_] ?_);refine IX ?_;refine dG (sy ?_);refine H9 ?_;exact SO
      ·have hs:¬x.c.i.sign=0:=fun h=>hz (hzz.1 h);by_cases hnf:nR x.c.d=x.c
       ·have hgood:jJ v x=true:=by unfold jJ nM;rw [hm,Wu hz,(nQ x.c).2 hnf];rfl
        have hall2:(ts.take (i+1)).all (jJ v)=true:=by rw [aw hx,List.all_append,hall];simp [hgood]
        refine ah (sr (mI (bE ?_)));refine bB hh 0 ?_;refine aF ?_;refine vh ?_;refine bB hh 0 ?_;refine mI ?_;refine bY ?_;refine kZ ?_;refine bQ hh ?_;intro b4 w4 hh;refine bR hh 0 [_,_,_,_] ?_;intro ws hh;replace hh:Hp _ (.blk _ _ [_,_,_,_] _::_) _:=hh;refine aa (ah (ah ?_));refine cH [] [] zL4 18 zL2 [(17,46),(16,45),(15,44),(14,43),(13,42),(12,41),(11,40),(10,39),(9,38),(8,37),(7,36),(6,35),(5,34),(4,33),(3,32),(2,31),(1,30),(0,29)] hh mixed VZ da rfl (by repeat (first|exact cj|refine bP ?_|refine cg ?_)) ?_;refine cP ?_;refine dL 0 ?_;refine cP ?_;refine dL 1 ?_;refine dC (fun _ hj=>hmay _) ?_
        refine vM ?_;refine jV ?_;refine dG (cP ?_);refine dG (ee 0 [_,_,_] ?_);refine IX ?_;refine dG (sy ?_);refine H9 ?_;refine jV ?_;refine dG (cP ?_);refine dG (ee 0 [_,_,_] ?_);refine On ?_;refine dG (cP ?_);refine dG (ee 0 [_,_,_] ?_);refine aJ ?_;intro f W hJ hV _;have hb_9:=hJ.bl;obtain ⟨v46,v45,v44,v43,v42,v41,v40,v39,v38,v37,v36,v35,v34,v33,v32,v31,v30,v29,_⟩:=hV;replace hh:=hJ.hp;refine II ?_;dsimp only [bH];clear hJ;refine gT ?_
        (first|refine sY rfl rfl (by first|assumption|rfl) VY ?_|refine yF rfl rfl (by assumption) VY ?_)
        refine dE ?_;refine Bj ?_;by_cases h0:i=0
        ·refine cH [] [] [0,1,3,7,15,7,39,127,255,511,7,1031,4095,8191] 12 zL3 [(11,60),(10,59),(9,58),(8,57),(7,56),(6,55),(5,54),(4,53),(3,52),(2,51),(1,50),(0,49)] hh mixed VZ da rfl (by repeat (first|exact cj|refine bP ?_|refine cg ?_)) ?_;refine cM ?_;refine Hg ?_;refine jV ?_;refine dS (dS (dS (dS ?_)));refine nP (i:=7) rfl (fun ρ1 w1 hj hR=>(show ρ1 51=Value.bool _ from hR.2.2.1)) VY ?_;refine dS (dS (dS (dS ?_)));refine aJ ?_;intro f W hJ hV _;have hb_11:=hJ.bl;obtain ⟨v60,v59,v58,v57,v56,v55,v54,v53,v52,v51,v50,v49,_⟩:=hV;replace hh:=hJ.hp;refine IB ?_;dsimp only [bH];clear hJ;refine gS ?_;refine dE ?_;refine oN ?_;refine a9 (aI (aA (ai ?_)));exact OD
        ·obtain ⟨q,hq⟩:∃q,i=q+1:=⟨i-1,VX⟩;obtain ⟨p,hp⟩:=ak (l:=ts) (k:=q) VX
         cases hlp:iO p.m x.m with
         |false=>
          rw [hbad (AK hp (hq ▸ hx) hlp)];have hge:(!(Op.bytesLess p.m.toList x.m.toList))=true:=by rw [jQ,hlp];rfl
          refine cH [] [] [0,1,3,7,15,7,39,127,255,511,7,1031,4095,8191] 12 zL3 [(11,60),(10,59),(9,58),(8,57),(7,56),(6,55),(5,54),(4,53),(3,52),(2,51),(1,50),(0,49)] hh mixed VZ da rfl (by repeat (first|exact cj|refine bP ?_|refine cg ?_)) ?_;refine cM ?_;refine Hg ?_;refine jV ?_;refine dG (cP ?_);refine dG (dL 1 ?_);refine dG (cM ?_);refine dG (pE ?_);refine dG (iL (q) ?_);refine dG (nJ ?_);refine FZ ?_;refine dG (cP ?_);refine dG (dL 0 ?_);refine aJ ?_;intro f W hJ hV _;have hb_11:=hJ.bl;obtain ⟨v60,v59,v58,v57,v56,v55,v54,v53,v52,v51,v50,v49,_⟩:=hV;replace hh:=hJ.hp;refine IB ?_;dsimp only [bH];clear hJ;refine gT ?_;refine nK rfl rfl VY ?_;refine eM ?_;exact Od
         |true=>
          have hge:(!(Op.bytesLess p.m.toList x.m.toList))=false:=by rw [jQ,hlp];rfl
          refine cH [] [] [0,1,3,7,15,7,39,127,255,511,7,1031,4095,8191] 12 zL3 [(11,60),(10,59),(9,58),(8,57),(7,56),(6,55),(5,54),(4,53),(3,52),(2,51),(1,50),(0,49)] hh mixed VZ da rfl (by repeat (first|exact cj|refine bP ?_|refine cg ?_)) ?_;refine cM ?_;refine Hg ?_;refine jV ?_;refine dG (cP ?_);refine dG (dL 1 ?_);refine dG (cM ?_);refine dG (pE ?_);refine dG (iL (q) ?_);refine dG (nJ ?_);refine FZ ?_;refine dG (cP ?_);refine dG (dL 0 ?_);refine aJ ?_;intro f W hJ hV _;have hb_11:=hJ.bl;obtain ⟨v60,v59,v58,v57,v56,v55,v54,v53,v52,v51,v50,v49,_⟩:=hV;replace hh:=hJ.hp;refine IB ?_;dsimp only [bH];clear hJ;refine gT ?_;refine nK rfl rfl VY ?_;refine eM ?_;refine aa ?_;rw [hge];refine cF (ao (bF (ai (al (mI ?_)))));refine a9 (aI (aA (ai ?_)));exact Pt
       ·rw [hbad (nS hx (by unfold jJ nM;rw [hm,Wu hz,Yv.2 (fun h=>hnf ((nQ x.c).1 h))];rfl))];refine ah (sr (mI (bE ?_)));refine bB hh 0 ?_;refine aF ?_;refine vh ?_;refine bB hh 0 ?_;refine mI ?_;refine bY ?_;refine kZ ?_;refine bQ hh ?_;intro b4 w4 hh;refine bR hh 0 [_,_,_,_] ?_;intro ws hh;replace hh:Hp _ (.blk _ _ [_,_,_,_] _::_) _:=hh;refine aa (ah (ah ?_))
        refine cH [] [] zL4 18 zL2 [(17,46),(16,45),(15,44),(14,43),(13,42),(12,41),(11,40),(10,39),(9,38),(8,37),(7,36),(6,35),(5,34),(4,33),(3,32),(2,31),(1,30),(0,29)] hh mixed VZ da rfl (by repeat (first|exact cj|refine bP ?_|refine cg ?_)) ?_;refine cP ?_;refine dL 0 ?_;refine cP ?_;refine dL 1 ?_;refine dC (fun _ hj=>hmay _) ?_;refine vM ?_;refine jV ?_;refine dG (cP ?_);refine dG (ee 0 [_,_,_] ?_);refine IX ?_;refine dG (sy ?_);refine H9 ?_;refine jV ?_;refine dG (cP ?_);refine dG (ee 0 [_,_,_] ?_);refine On ?_;refine dG (cP ?_);refine dG (ee 0 [_,_,_] ?_);refine aJ ?_;intro f W hJ hV _;have hb_9:=hJ.bl
        obtain ⟨v46,v45,v44,v43,v42,v41,v40,v39,v38,v37,v36,v35,v34,v33,v32,v31,v30,v29,_⟩:=hV;replace hh:=hJ.hp;refine II ?_;dsimp only [bH];clear hJ;refine gT ?_
        (first|refine sY rfl rfl (by first|assumption|rfl) VY ?_|refine yF rfl rfl (by assumption) VY ?_)
        refine dE ?_;exact NW
    ·rw [Wa VX] at hall hris;rw [show gF v ts=0 by unfold gF okB;rw [V3 (by rw [hf];decide),V3 VX,hall,hris];rfl];refine ah (sr (mI (bE ?_)));refine bB hh 0 ?_;refine aF ?_;refine aW (aa (cF (aU (aD (aD (bk (ai (sr (aI (aa (au ?_)))))))))));refine cS ?_;exact ⟨rfl,hh.below⟩
theorem rD {x:TR} (b:List TR):∀{a:List TR},(∀t∈a,iO t.m x.m=true)→iw (a++b) x=a++iw b x
 |[],_=>rfl
 |t::a,h=>by
  rw [Wb,iw,V2 (h t We),rD b fun s hs=>h s (Wg _ hs)]
  rfl
theorem IL {x:TR} (h:∀t∈l,iO t.m x.m=true):iw l x=l++[⟨x.m,nR x.c.d⟩]:=by
 have:=rD [] h;rwa [WG] at this
theorem MW {x t:TR}{i:Nat} (hx:l[i]?=some t) (h:∀s∈l.take i,iO s.m x.m=true) (h1:iO t.m x.m=false):iw l x=if t.m=x.m then l.take i++⟨x.m,nR (t.c.d+x.c.d)⟩::l.drop (i+1) else l.take i++⟨x.m,nR x.c.d⟩::l.drop i:=by
 have e:l=l.take i++t::l.drop (i+1):=by rw [←gK hx,W4]
 have e2:iw l x=l.take i++iw (t::l.drop (i+1)) x:=by
  conv=>lhs;rw [e]
  exact rD _ h
 rw [e2,iw,V3 (by rw [h1];decide),gK hx];by_cases he:t.m=x.m
 ·rw [V2 he,V3 (by rw [he,jt];decide)]
 ·rw [V3 he,V2]
  cases h2:iO x.m t.m with
  |true=>rfl
  |false=>exact absurd (nN h1 h2) he
theorem C4 (A:Option Addr) (n c:Nat) (l:List TR) (x:TR) (w:World) (hS:Sl w A n 4 (az TR.cells l)) (hcn:n≤c) (hn:n≤1000000) (ho:∀t∈l,t.c.ok) (hx:x.c.ok):
  Calls Tryz.prog 220 #[.slice A n c,.agg #[.string x.m,.bool x.c.neg,.string x.c.bf,.int .i64 x.c.e]] w fun r w'=>∃A' c',r=.returned (.slice A' (iw l x).length c')∧Hp w [.row A' (iw l x).length c' 96 4 (az TR.cells (iw l x))] w':=by
 have hh:=Hp.start w;have hln:=hS.bg TR.len VY;have hfo:=fun w1=>kU x.c w1 (by have:=hx.1;omega) (by have:=hx.2.1;omega) (by have:=hx.2.2;omega);refine aj (N:=76) (l:=[.slice A n c,.agg #[.string x.m,.bool x.c.neg,.string x.c.bf,.int .i64 x.c.e]]) Tryz.func220 rfl rfl (by simp) ?_;refine sr ?_;refine cf hh [_,_,_,_] ?_;intro b3 w3 hh;refine aL (aa (sr (aI (aa (ah (aq ?_))))));refine aM [5,7,8,9,10,11,12,13,14,15,16,17,18,19,20,21,22] 5
  (fun v w'=>∃i:Nat,i≤n∧v=.int .i64 i∧(∀t∈l.take i,iO t.m x.m=true)∧Hp w [.blk b3 96 [.string x.m,.bool x.c.neg,.string x.c.bf,.int .i64 x.c.e] (0,0)] w')
  (fun v _=>n-(intOf v).toNat) ?_ ?_
 ·exact Ev
 ·clear hh;rintro ρ' v w' ⟨i,hi,rfl,hall,hh⟩;by_cases hlt:i<n
  ·obtain ⟨t,ht⟩:=ak (l:=l) (k:=i) VX;obtain ⟨ad,rfl,hr⟩:=hS.at_ VX;have hto:=ho t (V7 ht)
   cases hl:iO t.m x.m with
   |true=>
    have hbl:Op.bytesLess t.m.toList x.m.toList=true:=by rw [jQ,hl]
    refine ah (ah ?_);refine KU ?_;refine cM ?_;refine dI ?_;refine rE ?_;refine y3 ?_;refine jV ?_;refine dG (dI ?_);refine dG (cM ?_);refine dG (iL (i) ?_);refine dG (nJ ?_);refine EP ?_;refine dG (cP ?_);refine dG (dL 0 ?_);refine aJ ?_;intro f W hJ hV;have hb_2:=hJ.bl;obtain ⟨v18,v17,v16,v15,v14,v13,v12,v11,v10,v9,v8,v7,_⟩:=hV;replace hh:=hJ.hp;refine Lc ?_;dsimp only [bH];clear hJ;refine gT ?_;refine qY rfl rfl VY ?_;refine eM ?_;refine aa ?_;rw [hbl];refine cT (ao (ai (aq (al (mI ?_)))));refine a9 (aI (aA (bF (ai ?_))));refine ⟨⟨i+1,VX,rfl,fun s hs=> ?_,hh⟩,by show n-(i+1)<n-i;omega, ?_⟩
    ·rw [aw ht] at hs
     rcases WI.1 hs with hs|hs
     ·exact hall s hs
     ·rw [Wj.1 hs];exact hl
    ·exact dy
   |false=>
    have hbl:Op.bytesLess t.m.toList x.m.toList=false:=by rw [jQ,hl]
    have hput:=MW ht hall hl;have hS1:=hS.front (m:=i) VX;rw [show (az TR.cells l).take (i*4)=az TR.cells (l.take i) from jz TR.len l i] at hS1;have o1:=bu TR.one (l.take i);refine ah (ah ?_);refine KU ?_;refine cM ?_;refine dI ?_;refine rE ?_;refine y3 ?_;refine jV ?_;refine dG (dI ?_);refine dG (cM ?_);refine dG (iL (i) ?_);refine dG (nJ ?_);refine EP ?_;refine dG (cP ?_);refine dG (dL 0 ?_);refine aJ ?_;intro f W hJ hV;have hb_2:=hJ.bl;obtain ⟨v18,v17,v16,v15,v14,v13,v12,v11,v10,v9,v8,v7,_⟩:=hV;replace hh:=hJ.hp;refine Lc ?_;dsimp only [bH];clear hJ;refine gT ?_;refine qY rfl rfl VY ?_;refine eM ?_;refine aa ?_;rw [hbl];refine cF (aU (aD (aD (bk (ai (sr ?_))))));refine r7 ?_;intro b23 w23 hh;refine mL (mI ?_);refine Lw ?_;refine bK hh (i:=0) rfl rfl rfl (hS1.ext hh.below) bj.out aO.out rfl VY ?one10 VX VX VY ?kk10
    case one10=>first|rfl|assumption|exact a7 _|exact oneCells_u8s _
    intro A27 c27 w27 hh;simp only [Wd] at hh;refine aL (aa (ah (ah ?_)));have hpl:=fun w1=>kL t.c x.c w1 hto hx;by_cases he:t.m=x.m
    ·rw [V2 he] at hput;have hS2:=hS.back (l:=i+1) VX hcn;rw [show (az TR.cells l).drop ((i+1)*4)=az TR.cells (l.drop (i+1)) from gH TR.len l (i+1)] at hS2;have o2:=bu TR.one (l.drop (i+1));refine Iz ?_;refine cM ?_;refine dI ?_;refine rE ?_;refine y3 ?_;refine jV ?_;refine dG (dI ?_);refine dG (cM ?_);refine dG (iL (i) ?_);refine dG (nJ ?_);refine EP ?_;refine dG (cP ?_);refine dG (dL 1 ?_);refine aJ ?_;intro f W hJ hV;have hb_5:=hJ.bl;obtain ⟨v39,v38,v37,v36,v35,v34,v33,v32,v31,v30,v29,v28,_⟩:=hV;replace hh:=hJ.hp;refine IA ?_;dsimp only [bH];clear hJ;refine gT ?_
     (first|refine iK rfl rfl (by first|rfl|assumption|decide) VY ?_|refine iH rfl rfl (by first|assumption|decide) VY ?_)
     refine eM ?_;refine aa (cT (ah ?_));refine aT 13 [[(6,none)],[(3,none)],[(43,some 1)],[(0,none)],[(5,none)],[(45,some 3),(46,some 4)],[(47,some 5)],[(48,some 6)],[(3,none)],[(50,some 8)],[(49,some 7),(51,some 9)],[(44,some 2),(52,some 10)],[(53,some 11)]] [(12,54),(11,53),(10,52),(9,51),(8,50),(7,49),(6,48),(5,47),(4,46),(3,45),(2,44),(1,43),(0,42)] hh mixed VZ ?_;refine dI ?_;refine cP ?_;refine dL 1 ?_;refine dI ?_;refine cM ?_;refine iL (i) ?_;refine nJ ?_;refine mJ [_,_,_] (fun _ hj=>((hr.ext hj.hp.below).recAt TR.len ht).drop 1) ?_;refine cP ?_;refine ee 1 [_,_,_] ?_;refine dC (fun _ hj=>hpl _) ?_;refine dB [_,_,_,_] ?_;refine oB [_,_,_,_] ?_;refine aJ ?_;intro f W hJ hV;have hb_6:=hJ.bl;obtain ⟨v54,v53,v52,v51,v50,v49,v48,v47,v46,v45,v44,v43,v42,_⟩:=hV;obtain ⟨A54,c54,e54,f54⟩:Rows _ _ _ (f 12) W:=v54;replace hh:=hJ.hp;refine aR (a8 (ae e54 (ae v53 (ae v52 (ae v51 (ae v50 (ae v49 (ae v48 (ae v47 (ae v46 (ae v45 (ae v44 (ae v43 (ae v42 aQ)))))))))))))) ?_;dsimp only [bH];clear e54 hJ
     refine bK hh (i:=0) rfl rfl rfl (f54) bj.out aO.out rfl VY (by first|rfl|exact cQ _|exact cD _|exact a7 _|exact bu NR.one _) VX VX VY ?_;intro A55 c55 w55 hh;simp only [Wd] at hh;refine aL (aa (sr (mL (mL (mI ?_)))));refine a9 ?_;refine aV rfl rfl VY (gl bj.out aO.size rfl rfl (l:=i+1) VX VX VX) ?_;refine bK hh (i:=0) rfl rfl rfl (hS2.ext hh.below) bj.out aO.out rfl VY ?one11 VX VX VY ?kk11
     case one11=>first|rfl|assumption|exact a7 _|exact oneCells_u8s _
     intro A61 c61 w61 hh;simp only [Wd] at hh;refine aL (aa (au (aE ?_)));refine cS ?_;have e1:(iw l x).length=0+i+1+(n-(i+1)):=by rw [hput,Wc,Wx,Wp,Xk];omega
     have e2:az TR.cells (iw l x)=[]++az TR.cells (l.take i)++[.string x.m,.bool (nR (t.c.d+x.c.d)).neg,.string (nR (t.c.d+x.c.d)).bf,.int .i64 (nR (t.c.d+x.c.d)).e]++az TR.cells (l.drop (i+1)):=by rw [hput,bG,gE,V9,WQ];rfl
     exact OR
    ·rw [V3 he] at hput;have hS2:=hS.back (l:=i) VX hcn;rw [show (az TR.cells l).drop (i*4)=az TR.cells (l.drop i) from gH TR.len l i] at hS2;have o2:=bu TR.one (l.drop i);refine Iz ?_;refine cM ?_;refine dI ?_;refine rE ?_;refine y3 ?_;refine jV ?_;refine dG (dI ?_);refine dG (cM ?_);refine dG (iL (i) ?_);refine dG (nJ ?_);refine EP ?_;refine dG (cP ?_);refine dG (dL 1 ?_);refine aJ ?_;intro f W hJ hV;have hb_5:=hJ.bl;obtain ⟨v39,v38,v37,v36,v35,v34,v33,v32,v31,v30,v29,v28,_⟩:=hV;replace hh:=hJ.hp;refine IA ?_;dsimp only [bH];clear hJ;refine gT ?_
     (first|refine iK rfl rfl (by first|rfl|assumption|decide) VY ?_|refine iH rfl rfl (by first|assumption|decide) VY ?_)
     refine eM ?_;refine Bj ?_;refine P4 ?_;refine dI ?_;refine cP ?_;refine dL 1 ?_;refine cP ?_;refine ee 1 [_,_,_] ?_;refine dC (fun _ hj=>hfo _) ?_;refine dB [_,_,_,_] ?_;refine oB [_,_,_,_] ?_;refine aJ ?_;intro f W hJ hV;have hb_8:=hJ.bl;obtain ⟨v69,v68,v67,v66,v65,v64,v63,v62,_⟩:=hV;obtain ⟨A69,c69,e69,f69⟩:Rows _ _ _ (f 7) W:=v69;replace hh:=hJ.hp;refine OA ?_;dsimp only [bH];clear e69 hJ;refine Pf ?_;intro A70 c70 w70 hh;simp only [Wd] at hh;refine aL (aa (sr (mL (mL (mI ?_)))));refine aV rfl rfl VY (gl bj.out aO.size rfl rfl (l:=i) VX VX VX) ?_;refine bK hh (i:=0) rfl rfl rfl (hS2.ext hh.below) bj.out aO.out rfl VY ?one12 VX VX VY ?kk12
     case one12=>first|rfl|assumption|exact a7 _|exact oneCells_u8s _
     intro A75 c75 w75 hh;simp only [Wd] at hh;refine aL (aa (au ?_));refine cS ?_;have e1:(iw l x).length=0+i+1+(n-i):=by rw [hput,Wc,Wx,Wp,Xk];omega
     exact St
  ·obtain rfl:i=n:=VX;have hput:=IL (x:=x) (l:=l) (by rwa [Wa VX] at hall);rw [show l++[⟨x.m,nR x.c.d⟩]=l.take i++⟨x.m,nR x.c.d⟩::l.drop i by rw [Wa VX,XB VX]] at hput;have hS1:=hS.front (m:=i) VX;rw [show (az TR.cells l).take (i*4)=az TR.cells (l.take i) from jz TR.len l i] at hS1;have o1:=bu TR.one (l.take i);have hS2:=hS.back (l:=i) VX hcn;rw [show (az TR.cells l).drop (i*4)=az TR.cells (l.drop i) from gH TR.len l i] at hS2;have o2:=bu TR.one (l.drop i);refine ah (ah ?_);refine KU ?_;refine cM ?_;refine dI ?_;refine rE ?_;refine y3 ?_;refine jV ?_;refine dS (dS ?_);refine nP (i:=7) rfl (fun ρ1 w1 hj hR=>(show ρ1 11=Value.bool _ from hR.2.2.1)) VY ?_;refine dS (dS (dS (dS ?_)));refine aJ ?_;intro f W hJ hV;have hb_2:=hJ.bl;obtain ⟨v18,v17,v16,v15,v14,v13,v12,v11,v10,v9,v8,v7,_⟩:=hV;replace hh:=hJ.hp;refine Lc ?_;dsimp only [bH];clear hJ;refine gS ?_;refine dE ?_;refine aa (cF (aU (aD (aD (bk (ai (sr ?_)))))));refine r7 ?_;intro b23 w23 hh;refine mL (mI ?_);refine Lw ?_
   refine bK hh (i:=0) rfl rfl rfl (hS1.ext hh.below) bj.out aO.out rfl VY ?one13 VX VX VY ?kk13
   case one13=>first|rfl|assumption|exact a7 _|exact oneCells_u8s _
   intro A27 c27 w27 hh;simp only [Wd] at hh;refine aL (aa (ah (ah ?_)));refine Iz ?_;refine cM ?_;refine dI ?_;refine rE ?_;refine y3 ?_;refine jV ?_;refine dS (dS ?_);refine nP (i:=7) rfl (fun ρ1 w1 hj hR=>(show ρ1 32=Value.bool _ from hR.2.2.1)) VY ?_;refine dS (dS (dS (dS ?_)));refine aJ ?_;intro f W hJ hV;have hb_5:=hJ.bl;obtain ⟨v39,v38,v37,v36,v35,v34,v33,v32,v31,v30,v29,v28,_⟩:=hV;replace hh:=hJ.hp;refine IA ?_;dsimp only [bH];clear hJ;refine gS ?_;refine dE ?_;refine Bj ?_;refine P4 ?_;refine dI ?_;refine cP ?_;refine dL 1 ?_;refine cP ?_;refine ee 1 [_,_,_] ?_;refine dC (fun _ hj=>hfo _) ?_;refine dB [_,_,_,_] ?_;refine oB [_,_,_,_] ?_;refine aJ ?_;intro f W hJ hV;have hb_8:=hJ.bl;obtain ⟨v69,v68,v67,v66,v65,v64,v63,v62,_⟩:=hV;obtain ⟨A69,c69,e69,f69⟩:Rows _ _ _ (f 7) W:=v69;replace hh:=hJ.hp;refine OA ?_;dsimp only [bH];clear e69 hJ;refine Pf ?_;intro A70 c70 w70 hh;simp only [Wd] at hh;refine aL (aa (sr (mL (mL (mI ?_)))));refine aV rfl rfl VY (gl bj.out aO.size rfl rfl (l:=i) VX VX VX) ?_;refine bK hh (i:=0) rfl rfl rfl (hS2.ext hh.below) bj.out aO.out rfl VY ?one14 VX VX VY ?kk14
   case one14=>first|rfl|assumption|exact a7 _|exact oneCells_u8s _
   intro A75 c75 w75 hh;simp only [Wd] at hh;refine aL (aa (au ?_));refine cS ?_;have e1:(iw l x).length=0+i+1+(i-i):=by rw [hput,Wc,Wx,Wp,Xk];omega
   exact St
theorem wM (ho:jc k l) (hk:k+l.length≤3999980):jc (k+l.length) (iI l):=fun t ht=>by
 have h:=zN l (fun t ht=>(ho t ht).2) t ht;exact ⟨by rw [AA l t ht];exact h.ok VX,h⟩
theorem hZ (v:Int) (A:Option Addr) (n c:Nat) (l:List TR) (k:Nat) (w:World) (hS:Sl w A n 4 (az TR.cells l)) (hn:n≤100000) (ho:jc k l) (hk:k+n≤3999980):
  Calls Tryz.prog 188 #[.int .i64 v,.slice A n c] w fun r w'=>∃g:PX,dN (fW l) v (aH l) g∧r=.returned (.tuple #[.agg #[.int .i64 g.v,.slice g.A g.n g.c],.int .i64 (fW l)])∧Hp w [g.row] w':=by
 have hh:=Hp.start w;have hln:=hS.bg TR.len VY;refine aj (N:=49) (l:=[.int .i64 v,.slice A n c]) Tryz.func188 rfl rfl (by simp) ?_;refine sr ?_;refine bQ hh ?_;intro b4 w4 hh;refine aI (aa (sr (aL (aa (ah (sr (aI (aa (aq ?_)))))))));replace hh:=hh.ck 96 4;refine bp [6,7,10,11,12,13,14,15,16,17,18,19,20,21] 6 7
  (fun a x w'=>∃(i:Nat) (A':Option Addr) (c':Nat),i≤n∧x=.int .i64 i∧a=.slice A' (iI (l.take i)).length c'∧Hp w [.row A' (iI (l.take i)).length c' 96 4 (az TR.cells (iI (l.take i))),.blk b4 24 [.int .i64 0,.slice none 0 0] (0,0)] w')
  (fun _ x _=>n-(intOf x).toNat) ?_ ?_
 ·exact ⟨0,none,0,V5 _,rfl,rfl,hh⟩
 ·clear hh;rintro ρ' a_ x_ w' ⟨i,A',c',hi,rfl,rfl,hh⟩;have hGl:=xI (l.take i);rw [Wp] at hGl;by_cases hlt:i<n
  ·obtain ⟨x,hx⟩:=ak (l:=l) (k:=i) VX;obtain ⟨ad,rfl,hr⟩:=hS.at_ VX;have hgo:=wM (l:=l.take i) (k:=k) (fun t ht=>ho t (X1 ht)) (by rw [Wp];omega);refine ah (sr (mI (mL (aF ?_))));refine B5 ?_;refine bY ?_;refine kZ ?_;refine aG (C4 A' (iI (l.take i)).length c' (iI (l.take i)) x _ (hh.aC (i:=0) rfl) (hh.dR (i:=0) rfl) VX (fun t ht=>(hgo t ht).1) (ho x (V7 hx)).1) ar.out rfl VY ?_;rintro e_ w21 ⟨A2,c2,rfl,h3⟩;refine ⟨_,rfl, ?_⟩;replace hh:=hh.join h3;simp only [Wb,V9] at hh;rw [←ir,←aw hx] at hh ⊢;refine jK ?_;refine a9 (aI (aA (ai ?_)));replace hh:=hh.sub (V4 _ (V6 _ (V4 _ Wq)));refine ⟨⟨i+1,A2,c2,VX,rfl,rfl,hh⟩,by show n-(i+1)<n-i;omega, ?_⟩;exact dy
  ·obtain rfl:i=n:=VX;rw [Wa VX] at hh hGl ⊢;have hgo:=wM ho VX;have hgt:aH l=(iI l).filter nM:=rfl;unfold fW;rw [hgt];generalize iI l=G at*;obtain ⟨m,hm⟩:∃m,m=G.length:=⟨_,rfl⟩;rw [←hm] at hh ⊢;refine ah (sr (mI (mL (aF ?_))));refine aW (aa (cF (aU (aD (aD (bk (ai (sr (aL (aa (ah (sr (aI (aa (aq ?_)))))))))))))));replace hh:=hh.ck 96 4;refine bp [8,9,22,23,24,25,26,27,28,29,30,31,32,33,34,35,36,37,38,39,40,41] 8 9
    (fun a x w'=>∃(j:Nat) (B:Option Addr) (d:Nat),j≤m∧x=.int .i64 j∧a=.slice B ((G.take j).filter nM).length d∧Hp w [.row B ((G.take j).filter nM).length d 96 4 (az TR.cells ((G.take j).filter nM)),.row A' m c' 96 4 (az TR.cells G),.blk b4 24 [.int .i64 0,.slice none 0 0] (0,0)] w')
    (fun _ x _=>m-(intOf x).toNat) ?_ ?_
   ·exact ⟨0,none,0,V5 _,rfl,rfl,hh⟩
   ·clear hh;rintro ρ2 a2 x2 w2 ⟨j,B,d,hj,rfl,rfl,hh⟩;have hfl:((G.take j).filter nM).length≤j:=Wz (Zj _ _) (by rw [Wp];omega);by_cases hjm:j<m
    ·obtain ⟨t,ht⟩:=ak (l:=G) (k:=j) VX;have hto:=hgo t (V7 ht);have hsg:=fun w1=>er t.c w1 (by have:=hto.1.1;omega);have hzz:t.c.i.sign=0↔t.c.d=0:=by
      exact Nk
     obtain ⟨g0,rfl⟩:=hh.cu (i:=1) rfl VX;by_cases hz:t.c.d=0
     ·have hs:=hzz.2 hz;have hft:(G.take (j+1)).filter nM=(G.take j).filter nM:=by
       rw [aw ht,Yc,List.filter_cons,V3 (by unfold nM;rw [Wm hz];decide)];simp
      refine ah (sr (mI (mL (aF ?_))));refine je ?_;refine lW ?_;refine bE ?_;refine PC ?_;refine br hh (hsg _) rfl ?_;intro w33 hh;refine B1 ?_;refine a9 (aI (aA (ai ?_)));refine ⟨⟨j+1,B,d,VX,rfl,by rw [hft];rfl,by rw [hft];exact hh⟩,by show m-(j+1)<m-j;omega, ?_⟩;exact dy
     ·have hs:¬t.c.i.sign=0:=fun h=>hz (hzz.1 h);have hft:(G.take (j+1)).filter nM=(G.take j).filter nM++[t]:=by
       rw [aw ht,Yc,List.filter_cons,V2 (by unfold nM;rw [Wu hz];rfl)];simp
      refine ah (sr (mI (mL (aF ?_))));refine je ?_;refine lW ?_;refine bE ?_;refine PC ?_;refine br hh (hsg _) rfl ?_;intro w33 hh;refine cJ (aa (cT (al (mL (mL (mI ?_))))));refine lW ?_;refine cA (vs:=[_,_,_,_]) aO.out rfl (hh.fY (f:=TR.cells) (x:=t) (l:=G) (i:=1) rfl TR.len VY ht) rfl VY ?_;refine tf ?_;intro b40 w40 hh;refine mF ?_;intro A41 c41 w41 hh;simp only [Wd,WH] at hh;replace hh:=hh.sub (WE _ _);refine jK ?_;refine a9 (aI (aA (ai ?_)));refine ⟨⟨j+1,A41,c41,VX,rfl,by rw [hft,Wc];rfl,by rw [hft,Wc,bG,fR];exact hh⟩,by show m-(j+1)<m-j;omega, ?_⟩;exact dy
    ·obtain rfl:j=m:=VX;rw [Wa VX] at hh hfl ⊢;generalize G.filter nM=F at*;by_cases h4:4096<F.length
     ·rw [V2 h4];refine ah (sr (mI (mL (aF ?_))));refine ED ?_;refine bM (aa (cT (sr ?_)));refine eV [_,_] ?_;refine bR hh 2 [_,_] ?_;intro ws hh;replace hh:Hp _ (_::_::.blk _ _ [_,_] _::_) _:=hh;refine aI (aa (au (aE ?_)));refine mE ?_;exact KP
     ·rw [V3 h4];refine ah (sr (mI (mL (aF ?_))));refine ED ?_;refine bM (aa (cF (ao (ai (sr (mI (mL ?_)))))));refine eV [_,_] ?_;refine bR hh 2 [_,_] ?_;intro ws hh;replace hh:Hp _ (_::_::.blk _ _ [_,_] _::_) _:=hh;refine aI (aa (au ?_));refine mE ?_;exact ⟨⟨v,B,F.length,d,F⟩,⟨rfl,rfl⟩,rfl,hh.sub (V4 _ (WN _))⟩
theorem nu (g:PX) (k:Nat) (w:World) (h:g.at_ w) (hl:g.jX k):
  Calls Tryz.prog 103 #[.agg #[.int .i64 g.v,.slice g.A g.n g.c]] w fun r w'=>r=.returned (.int .i64 g.e)∧Below w.heap.size w w':=
 vQ g.v g.A g.n g.c g.ts w h hl.n fun t ht=>⟨(hl.ok t ht).1,hl.sz t ht⟩
theorem pN (L:Option Addr) (n c:Nat) (ps:List PX) (k:Nat) (w:World) (hL:Sl w L n 2 (az PX.cells ps)) (hn:n≤1000000) (hf:∀g∈ps,g.at_ w) (hl:∀g∈ps,g.jX k):
  Calls Tryz.prog 177 #[.slice L n c] w fun r w'=>r=.returned (.int .i64 (ff ps))∧Below w.heap.size w w':=by
 have hh:=Hp.start w;have hln:=hL.bg PX.len VY;refine aj (N:=39) (l:=[.slice L n c]) Tryz.func177 rfl rfl (by simp) ?_;refine sr (aI (aa (ah (sr (aI (aa (aq ?_)))))));refine aM [2,3,4,6,7,8,9,10,11,12,13,14,15,16,17,18,19] 3
  (fun v w'=>∃i:Nat,i≤n∧v=.int .i64 i∧(ps.take i).any (fun g=>decide (g.e≠0))=false∧Hp w [] w')
  (fun v _=>n-(intOf v).toNat) ?_ ?_
 ·exact ⟨0,V5 _,rfl,rfl,hh⟩
 ·clear hh;rintro ρ' v w' ⟨i,hi,rfl,hall,hh⟩;by_cases hlt:i<n
  ·obtain ⟨g,hx⟩:=ak (l:=ps) (k:=i) VX;have hmem:=V7 hx;have hc:=fun w1 hb=>nu g k w1 ((hf g hmem).ext hb) (hl g hmem);obtain ⟨ad,rfl,hr⟩:=hL.at_ VX;by_cases he:g.e=0
   ·refine ah (sr (mI (mL (aF ?_))));refine je ?_;refine bY ?_;refine Ac ?_;refine br hh (hc _ hh.below) rfl ?_;intro w16 hh;refine aI (aa (sr (mI ?_)));refine B1 ?_;refine a9 (aI (aA (ai ?_)));exact Ps
   ·refine ah (sr (mI (mL (aF ?_))));refine je ?_;refine bY ?_;refine Ac ?_;refine br hh (hc _ hh.below) rfl ?_;intro w16 hh;exact SP
  ·rw [Wa VX] at hall;have hlk:ff ps=if ps.length=0∨ub ps=true then 1 else 0:=by unfold ff;rw [ju hall]
   rw [hlk];clear hall;refine ah (sr (mI (mL (aF ?_))));refine K4 ?_;refine aM [2,5,20,21,22,23,24,25,26,27,28,29,30,31,32,33,34,35] 5
    (fun v w'=>∃i:Nat,i≤n∧v=.int .i64 i∧(ps.take i).any (fun g=>decide (g.v≠(ps.map PX.v).headD 0))=false∧Hp w [] w')
    (fun v _=>n-(intOf v).toNat) ?_ ?_
   ·exact ⟨0,V5 _,rfl,rfl,hh⟩
   ·clear hh;rintro ρ2 v w2 ⟨j,hj,rfl,hall,hh⟩;by_cases hlt2:j<n
    ·obtain ⟨go,hx⟩:=ak (l:=ps) (k:=j) VX;obtain ⟨g0,h00⟩:=ak (l:=ps) (k:=0) VX;obtain ⟨ad,rfl,hr⟩:=hL.at_ VX;have hhd:(ps.map PX.v).headD 0=g0.v:=by
      rcases ps with _|⟨g,l⟩
      ·cases h00
      ·have:g=g0:=by simpa using h00
       rw [←this];rfl
     by_cases ho:go.v=g0.v
     ·refine ah (sr (mI (mL (aF ?_))));refine jW ?_;refine Pq ?_;refine dI ?_;refine cM ?_;refine iL (j) ?_;refine nJ ?_;refine mO (fun _ hj=>cx hj.hp.below ((hr.recAt PX.len hx) 0 _ rfl)) ?_;refine dI ?_;refine iL (0) ?_;refine nJ ?_;refine mO (fun _ hj=>cx hj.hp.below ((hr.recAt PX.len h00) 0 _ rfl)) ?_;refine aJ ?_;intro f W hJ hV;have hb_10:=hJ.bl;obtain ⟨v34,v33,v32,v31,v30,v29,v28,v27,v26,_⟩:=hV;replace hh:=hJ.hp;refine Oe ?_;dsimp only [bH];clear hJ;refine B1 ?_;refine a9 (aI (aA (ai ?_)));refine ⟨⟨j+1,VX,rfl,by rw [aw hx,Ym,hall,Yw,Yy,Wu VX];rfl,hh⟩,by show n-(j+1)<n-j;omega, ?_⟩;exact dy
     ·refine ah (sr (mI (mL (aF ?_))));refine jW ?_;refine Pq ?_;refine dI ?_;refine cM ?_;refine iL (j) ?_;refine nJ ?_;refine mO (fun _ hj=>cx hj.hp.below ((hr.recAt PX.len hx) 0 _ rfl)) ?_;refine dI ?_;refine iL (0) ?_;refine nJ ?_;refine mO (fun _ hj=>cx hj.hp.below ((hr.recAt PX.len h00) 0 _ rfl)) ?_;refine aJ ?_;intro f W hJ hV;have hb_10:=hJ.bl;obtain ⟨v34,v33,v32,v31,v30,v29,v28,v27,v26,_⟩:=hV;replace hh:=hJ.hp;refine Oe ?_;dsimp only [bH];clear hJ;refine cJ (aa (cT (sr (aI (aa (au (bI (aE (aE (bI (aE ?_)))))))))));refine cS ?_;exact ⟨by rw [V2 (.inr (XR.2 ⟨go,V7 hx,Wm VX⟩))],hh.below⟩
    ·rw [Wa VX] at hall;have hod:ub ps=false:=hall;by_cases h0:n=0
     ·refine ah (sr (mI (mL (aF ?_))));refine ED ?_;refine xB ?_;exact Js
     ·refine ah (sr (mI (mL (aF ?_))));refine ED ?_;refine cB (aa (cF (ao (ai (sr (aI (aa (au ?_))))))));refine cS ?_;refine ⟨?_,hh.below⟩;rw [V3];rintro (h|h)
      ·omega
      ·rw [hod] at h
       cases h
theorem vP (p q:PX) (k k2:Nat) (w:World) (hp:p.at_ w) (hq:q.at_ w) (lp:p.jX k) (lq:q.jX k2) (hk:k+k2≤900000):
  Calls Tryz.prog 189 #[.agg #[.int .i64 p.v,.slice p.A p.n p.c],.agg #[.int .i64 q.v,.slice q.A q.n q.c]] w fun r w'=>∃g:PX,dN (eE p.ts q.ts) p.v (aH (cv p.ts q.ts)) g∧r=.returned (.tuple #[.agg #[.int .i64 g.v,.slice g.A g.n g.c],.int .i64 (eE p.ts q.ts)])∧Hp w [g.row] w':=by
 have hh:=Hp.start w;obtain ⟨pv,pA,pn,pc,ps⟩:=p;obtain ⟨qv,qA,qn,qc,qs⟩:=q;have hpl:ps.length=pn:=hp.ln;have hql:qs.length=qn:=hq.ln;have hpn:pn≤1000000:=lp.n;have hqn:qn≤1000000:=lq.n;have okp:jc k ps:=lp.ok;have okq:jc k2 qs:=lq.ok;have szp:∀t∈ps,t.m.size≤100000:=lp.sz;have szq:∀t∈qs,t.m.size≤100000:=lq.sz;replace hp:Sl w pA pn 4 (az TR.cells ps):=hp;replace hq:Sl w qA qn 4 (az TR.cells qs):=hq;clear lp lq;show Calls _ _ _ _ fun r w'=>∃g:PX,dN (eE ps qs) pv (aH (cv ps qs)) g∧r=.returned (.tuple #[.agg #[.int .i64 g.v,.slice g.A g.n g.c],.int .i64 (eE ps qs)])∧Hp w [g.row] w';have hmm:pn*qn≤1000000*1000000:=XM hpn hqn;obtain ⟨m,hm⟩:∃m,m=pn*qn:=⟨_,rfl⟩;have hmi:(pn:Int)*(qn:Int)=(m:Int):=by rw [hm];exact (Xn _ _).symm
 by_cases h6:65536<m
 ·rw [AV (by rw [hpl,hql,←hm];exact h6)];refine aj (N:=78) (l:=[.agg #[.int .i64 pv,.slice pA pn pc],.agg #[.int .i64 qv,.slice qA qn qc]]) Tryz.func189 rfl rfl (by simp) ?_;exact PE
 ·have hbig:¬65536<ps.length*qs.length:=by rw [hpl,hql,←hm];exact h6
  refine aj (N:=78) (l:=[.agg #[.int .i64 pv,.slice pA pn pc],.agg #[.int .i64 qv,.slice qA qn qc]]) Tryz.func189 rfl rfl (by simp) ?_;refine sr ?_;refine cf hh [_,_] ?_;intro b2 w2 hh;refine cf hh [_,_] ?_;intro b3 w3 hh;refine bQ hh ?_;intro b4 w4 hh;refine aI (aa (ah (sr (bE ?_))));refine bB hh 2 ?_;refine aF (bE ?_);refine bB hh 1 ?_;refine aF ?_;refine mulC ?_;refine bM (aa (cF (ao (ai (sr (aL (aa (ah (sr (aI (aa (aq ?_))))))))))));replace hh:=hh.ck 96 4;have hall:∀i,((ps.take i).flatMap fun x=>qs.map (oV x)).length≤65536:=fun i=>by
   exact Tf
  refine bp [5,6,7,8,9,10,20,21,22,23,24,25,26,27,28,29,30,31,32,33,34,35,36,37,38,39,40,41,42,43,44,45,46,47,48,49,50,51,52,53,54,55,56,57,58,59,60,61,62,63,64,65,66,67,68,69,70,71] 6 7
   (fun a x w'=>∃(i:Nat) (M:List TR) (A':Option Addr) (c':Nat),i≤pn∧x=.int .i64 i∧a=.slice A' M.length c'∧M=((ps.take i).flatMap fun x=>qs.map (oV x))∧(∀e∈((ps.take i).flatMap fun x=>qs.map fun y=>lf x.m y.m),e=0)∧Hp w [.row A' M.length c' 96 4 (az TR.cells M),.blk b4 24 [.int .i64 0,.slice none 0 0] (0,0),.blk b3 24 [.int .i64 qv,.slice qA qn qc] (0,0),.blk b2 24 [.int .i64 pv,.slice pA pn pc] (0,0)] w')
   (fun _ x _=>pn-(intOf x).toNat) ?_ ?_
  ·exact ⟨0,[],none,0,V5 _,rfl,rfl,rfl,fun e he=>(nomatch he),hh⟩
  ·clear hh;rintro ρ' a_ x_ w' ⟨i,M,A',c',hi,rfl,rfl,hM,hz,hh⟩;have hMl:=hall i;rw [←hM] at hMl;by_cases hlt:i<pn
   ·obtain ⟨x,hx⟩:=ak (l:=ps) (k:=i) VX;obtain ⟨ad,rfl,hr⟩:=hp.at_ VX;have hxm:=V7 hx;have hxo:=okp x hxm;have hxs:=szp x hxm;refine ah (sr (mI (bE ?_)));refine bB hh 3 ?_;refine aF ?_;refine aW (aa (cT (ao (ai (ah (aq (sr (aI (aa (aq ?_))))))))));refine bp [5,6,8,9,10,27,28,29,30,31,32,33,34,35,36,37,38,39,40,41,42,43,44,45,46,47,48,49,50,51,52,53,54,55,56,57,58,59,60,61,62,63,64,65,66,67,68,69,70,71] 6 8
     (fun a z w'=>∃(j:Nat) (N:List TR) (A':Option Addr) (c':Nat),j≤qn∧z=.int .i64 j∧a=.slice A' N.length c'∧N=M++(qs.take j).map (oV x)∧(∀e∈(qs.take j).map (fun y=>lf x.m y.m),e=0)∧Hp w [.row A' N.length c' 96 4 (az TR.cells N),.blk b4 24 [.int .i64 0,.slice none 0 0] (0,0),.blk b3 24 [.int .i64 qv,.slice qA qn qc] (0,0),.blk b2 24 [.int .i64 pv,.slice (some ad) pn pc] (0,0)] w')
     (fun _ z _=>qn-(intOf z).toNat) ?_ ?_
    ·exact ⟨0,M,A',c',V5 _,rfl,rfl,by simp,fun e he=>(nomatch he),hh⟩
    ·clear hh;rintro ρ2 a2 x2 w2 ⟨j,N,A2,c2,hj,rfl,rfl,hN,hz2,hh⟩;by_cases hjn:j<qn
     ·obtain ⟨y,hy⟩:=ak (l:=qs) (k:=j) VX;obtain ⟨ad2,rfl,hr2⟩:=hq.at_ VX;have hym:=V7 hy;have hyo:=okq y hym;have hys:=szq y hym;have hmul:∀w1,Calls Tryz.prog 221 #[.string x.m,.string y.m] w1 fun r w'=>r=.returned (.tuple #[.string (mulM x.m y.m),.int .i64 (lf x.m y.m)])∧Below w1.heap.size w1 w':=fun w1=>Di x.m y.m w1 hxs hys;have htm:=fun w1=>l0 x.c y.c w1 (by have:=hxo.1.1;omega) (by have:=hyo.1.1;omega) (by have:=hxo.1.2.1;omega) (by have:=hxo.1.2.2;omega) (by have:=hyo.1.2.1;omega) (by have:=hyo.1.2.2;omega);obtain ⟨R,hR⟩:=uY (f:=fun x y=>lf x.m y.m) hx hy;have hzz:∀e∈((ps.take i).flatMap fun x=>qs.map fun y=>lf x.m y.m)++(qs.take j).map (fun y=>lf x.m y.m),e=0:=fun e he=>by
       rcases WI.1 he with he|he
       ·exact hz e he
       ·exact hz2 e he
      have hNl:N.length<65536:=by
       exact OY
      by_cases he:lf x.m y.m=0
      ·refine ah (sr (mI (bE ?_)));refine bB hh 2 ?_;refine aF ?_;refine jW ?_;refine Pc ?_;refine cP ?_;refine dL 3 ?_;refine cM ?_;refine iL (i) ?_;refine nJ ?_;refine Iq ?_;refine cP ?_;refine dL 2 ?_;refine cM ?_;refine iL (j) ?_;refine nJ ?_;refine mO (fun _ hj=>((hr2.ext hj.hp.below).recAt TR.len hy).cell (i:=0) rfl) ?_;refine dC (fun _ hj=>hmul _) ?_;refine T1 ?_;refine LU ?_;refine LU ?_;refine UC ?_;refine aJ ?_;intro f W hJ hV;have hb_10:=hJ.bl;obtain ⟨v9,v49,v48,v34,v47,v46,v45,v44,v43,v42,v41,v40,v39,v38,v37,v36,v35,_⟩:=hV;replace hh:=hJ.hp;refine Oo ?_;dsimp only [bH];clear hJ;refine aI (aa (ah (sr (mI ?_))));refine cJ (aa (cF (ao (ai ?_))));refine aT 17 [[(6,none)],[(9,none)],[(2,none)],[(56,some 2)],[(7,none)],[(57,some 3),(58,some 4)],[(59,some 5)],[(60,some 6)],[(3,none)],[(62,some 8)],[(8,none)],[(63,some 9),(64,some 10)],[(65,some 11)],[(66,some 12)],[(61,some 7),(67,some 13)],[(55,some 1),(68,some 14)],[(69,some 15)]] [(16,70),(15,69),(14,68),(13,67),(12,66),(11,65),(10,64),(9,63),(8,62),(7,61),(6,60),(5,59),(4,58),(3,57),(2,56),(1,55),(0,54)] hh mixed VZ ?_
       refine dI ?_;refine T5 ?_;refine cP ?_;refine dL 3 ?_;refine cM ?_;refine iL (i) ?_;refine nJ ?_;refine mJ [_,_,_] (fun _ hj=>((hr.ext hj.hp.below).recAt TR.len hx).drop 1) ?_;refine cP ?_;refine dL 2 ?_;refine cM ?_;refine iL (j) ?_;refine nJ ?_;refine mJ [_,_,_] (fun _ hj=>((hr2.ext hj.hp.below).recAt TR.len hy).drop 1) ?_;refine dC (fun _ hj=>htm _) ?_;refine dB [_,_,_,_] ?_;refine oB [_,_,_,_] ?_;refine aJ ?_;intro f W hJ hV;have hb_13:=hJ.bl;obtain ⟨v70,v69,v68,v67,v66,v65,v64,v63,v62,v61,v60,v59,v58,v57,v56,v55,v54,_⟩:=hV;obtain ⟨A70,c70,e70,f70⟩:Rows _ _ _ (f 16) W:=v70;replace hh:=hJ.hp;refine aR (a8 (ae e70 (ae v69 (ae v68 (ae v67 (ae v66 (ae v65 (ae v64 (ae v63 (ae v62 (ae v61 (ae v60 (ae v59 (ae v58 (ae v57 (ae v56 (ae v55 (ae v54 aQ)))))))))))))))))) ?_;dsimp only [bH];clear e70 hJ;refine bK hh (i:=0) rfl rfl rfl (f70) bj.out aO.out rfl VY (by first|rfl|exact cQ _|exact cD _|exact a7 _|exact bu NR.one _) VX VX VY ?_;intro A71 c71 w71 hh;simp only [Wd] at hh;refine jK ?_;refine a9 (aI (aA (ai ?_)))
       have e1:az TR.cells N++[.string (mulM x.m y.m),.bool (nR (x.c.d*y.c.d)).neg,.string (nR (x.c.d*y.c.d)).bf,.int .i64 (nR (x.c.d*y.c.d)).e]=az TR.cells (N++[oV x y]):=by rw [bG,fR];rfl
       rw [e1] at hh;exact OH
      ·rw [EB hbig hR hzz he];generalize lf x.m y.m=e at*;refine ah (sr (mI (bE ?_)));refine bB hh 2 ?_;refine aF ?_;refine jW ?_;refine Pc ?_;refine cP ?_;refine dL 3 ?_;refine cM ?_;refine iL (i) ?_;refine nJ ?_;refine Iq ?_;refine cP ?_;refine dL 2 ?_;refine cM ?_;refine iL (j) ?_;refine nJ ?_;refine mO (fun _ hj=>((hr2.ext hj.hp.below).recAt TR.len hy).cell (i:=0) rfl) ?_;refine dC (fun _ hj=>hmul _) ?_;refine T1 ?_;refine LU ?_;refine LU ?_;refine UC ?_;refine aJ ?_;intro f W hJ hV;have hb_10:=hJ.bl;obtain ⟨v9,v49,v48,v34,v47,v46,v45,v44,v43,v42,v41,v40,v39,v38,v37,v36,v35,_⟩:=hV;replace hh:=hJ.hp;refine Oo ?_;dsimp only [bH];clear hJ;refine aI (aa (ah (sr (mI ?_))));refine cJ (aa (cT (sr ?_)));refine eV [_,_] (mI ?_);refine bR hh 1 [_,_] ?_;intro ws hh;replace hh:Hp _ (_::.blk _ _ [_,_] _::_) _:=hh;refine aI (aa (au (aE (bI (aE (aE (bI (bI (aE (aE (bI (aE ?_))))))))))));refine tU ?_;exact MY
     ·obtain rfl:j=qn:=VX;rw [Wa VX] at hz2 hN;refine ah (sr (mI (bE ?_)));refine bB hh 2 ?_;refine aF ?_;refine KA ?_;refine a9 (aI (aA (ai ?_)));exact PI
   ·obtain rfl:i=pn:=VX;rw [Wa VX] at hz hM;have hMp:M=cv ps qs:=hM;rw [AL hbig hz,←hMp];have hpo:=pY okp okq VX;rw [←hMp] at hpo;refine ah (sr (mI (bE ?_)));refine bB hh 3 ?_;refine aF ?_;refine aW (aa (cF (aU (aD (aD (bk (ai (sr (bE ?_)))))))));refine bB hh 3 ?_;refine mL ?_;refine aG (hZ pv A' M.length c' M (k+k2) _ (hh.aC (i:=0) rfl) VX hpo VX) ar.out rfl VY ?_;rintro e_ w75 ⟨g,og,rfl,h3⟩;exact Gt
def dX (v:Int):ByteArray:=⟨(List.replicate v.toNat 0).toArray⟩
theorem oU {v:Int} (h:0≤v):((dX v).size:Int)=v:=by
 have:(dX v).size=v.toNat:=by unfold dX;show (List.replicate v.toNat (0:UInt8)).toArray.size=_;rw [Yl,Xo]
 omega
theorem wb (v:Int):ef (dX v).data.toList=true:=by
 unfold ef dX;rw [Ww];intro c hc;have:(⟨(List.replicate v.toNat (0:UInt8)).toArray⟩:ByteArray).data.toList=List.replicate v.toNat 0:=rfl;rw [this] at hc;rw [(List.mem_replicate.1 hc).2];decide
theorem uE (h:l.length≤4096):fW l=0:=by
 unfold fW;have:=cq l;rw [V3 VX]
theorem BL {v:Int}{t:TR} (hf:gU v=true) (h:gg v t=true):qB v [t]=0:=by
 unfold qB;rw [V3 (by rw [hf];simp [h]),V3 (by simp),uE (by simp)]
def pI (v:Int):Int:=if gU v=false then 1 else 0
theorem j9 (v:Int) (c:NR) (k:Nat) (w:World) (hT:eK w) (hc:c.ok∧Sz k c.d) (hk:k≤2999980):
  Calls Tryz.prog 45 #[.int .i64 v,.agg #[.bool c.neg,.string c.bf,.int .i64 c.e]] w fun r w'=>∃g:PX,dN (pI v) v (aH [⟨dX v,c⟩]) g∧r=.returned (.tuple #[.agg #[.int .i64 g.v,.slice g.A g.n g.c],.int .i64 (pI v)])∧Hp w [g.row] w':=by
 have hh:=Hp.start w;have hfw:=fun w1=>nY v w1
 cases hf:gU v with
 |false=>
  rw [hf] at hfw;rw [show pI v=1 by unfold pI;rw [V2 hf]];refine aj (N:=20) (l:=[.int .i64 v,.agg #[.bool c.neg,.string c.bf,.int .i64 c.e]]) Tryz.func45 rfl rfl (by simp) ?_;refine sr ?_;refine cf hh [_,_,_] ?_;intro b3 w3 hh;refine bQ hh ?_;intro b4 w4 hh;refine aI (aa (ah (sr (mI ?_))));refine br hh (hfw _) rfl ?_;intro w7 hh;refine fI ?_;refine aa (cT (sr ?_));exact Lz
 |true=>
  rw [hf] at hfw;obtain ⟨h0,h12⟩:=dx.1 hf;have hm:qB v [⟨dX v,c⟩]=0:=BL hf (by unfold gg;rw [wb,Wm (oU h0)];rfl);have hmk:=fun A cc w1 hT1 hS1=>mP v A 1 cc [⟨dX v,c⟩] k w1 hT1 hS1 VY VX (fun t ht=>by rw [Wj.1 ht];exact hc) (fun t ht=>by rw [Wj.1 ht];have:=oU h0;show (dX v).size≤_;omega);rw [hm] at hmk;rw [show pI v=0 by unfold pI;rw [V3 (by rw [hf];decide)]];refine aj (N:=20) (l:=[.int .i64 v,.agg #[.bool c.neg,.string c.bf,.int .i64 c.e]]) Tryz.func45 rfl rfl (by simp) ?_;refine sr ?_;refine cf hh [_,_,_] ?_;intro b3 w3 hh;refine bQ hh ?_;intro b4 w4 hh;refine aI (aa (ah (sr (mI ?_))));refine br hh (hfw _) rfl ?_;intro w7 hh;refine fI ?_;refine Bj ?_;refine kg [] [0,0,2,6,0,30,62,127,255,255,1023,2047] 7 [[(0,none)],[(0,none)],[(11,some 1)],[(12,some 2)],[(3,none)],[(13,some 3),(14,some 4)],[(15,some 5)]] [(6,16),(5,15),(4,14),(3,13),(2,12),(1,11),(0,10)] [([],4,[(6,16),(5,15),(4,14),(3,13),(2,12),(1,11),(0,10)])] hh mixed VZ VZ VY ?_;refine cM ?_;refine cM ?_;refine aN (i:=2) (gY v.toNat 1 (lX (List.replicate v.toNat 0))) (gY.ext) ?_ ?_
  ·intro ρ1 w1 hj hR;exact mv v.toNat ▸ Ga (n:=v.toNat) (show ρ1 11=Value.int _ _ from hR.1) (show ρ1 11=Value.int _ _ from hR.1) VX VX bj.out aO.out rfl VX VX (fun _ _ h1 h2=>⟨h2,h1⟩)
  refine aN (i:=3) (Is (.string (dX v))) (Is.ext) ?_ ?_
  ·intro ρ1 w1 hj hR;obtain ⟨g12,e12,o12⟩:=hR.1;exact Oy
  refine ee 1 [_,_,_] ?_;refine dB [_,_,_,_] ?_;refine oB [_,_,_,_] ?_;refine aJ ?_;intro p_ hp_;simp only [Wk,YX,or_false] at hp_
  rcases hp_ with rfl
  intro f W hJ hV;have hb_3:=hJ.bl;obtain ⟨v16,v15,v14,v13,v12,v11,v10,_⟩:=hV;simp only [lE];have e10:f 0=_:=v10;rw [e10];have e11:f 1=_:=v11;rw [e11];obtain ⟨g12,e12,o12⟩:gY v.toNat 1 (lX (List.replicate v.toNat 0)) (f 2) W:=v12;rw [e12];have e13:f 3=_:=v13;rw [e13];have e14:f 4=_:=v14;rw [e14];have e15:f 5=_:=v15;rw [e15];obtain ⟨A16,c16,e16,f16⟩:Rows _ _ _ (f 6) W:=v16;rw [e16];replace hh:=hJ.hp;clear e10 e11 e12 e13 e14 e15 e16 hJ;refine aG (hmk _ _ _ (hT.hp hh) f16) ar.out rfl VY ?_;rintro e_ w17 ⟨g,og,rfl,h3⟩;refine ⟨_,rfl, ?_⟩;replace hh:=hh.join h3;refine fk ?_;exact O5
def lg (v:Int) (x:Nat):ByteArray:=⟨((List.replicate v.toNat (0:UInt8)).set x 1).toArray⟩
theorem rg {v:Int}{x:Nat} (h:0≤v):((lg v x).size:Int)=v:=by
 have:(lg v x).size=v.toNat:=by unfold lg;show ((List.replicate v.toNat (0:UInt8)).set x 1).toArray.size=_;rw [Yl,YU,Xo]
 omega
theorem Aw (v:Int) (x:Nat):ef (lg v x).data.toList=true:=by
 unfold ef;rw [Ww];intro c hc;have:(lg v x).data.toList=(List.replicate v.toNat 0).set x 1:=rfl;rw [this] at hc
 rcases List.mem_or_eq_of_mem_set hc with h|rfl
 ·rw [(List.mem_replicate.1 h).2];decide
 ·decide
theorem wL {l:List UInt8}{i:Nat}{c:UInt8} (h:i<l.length):cz (lX l) (i*1) [.int .u8 c.toNat]=lX (l.set i c):=by
 unfold cz lX;rw [Wo,Zg,V2 h,WT,Wv,YY,YG,WQ]
 rfl
def kp (v x:Int):Int:=if gU v=false∨x<0∨v≤x then 1 else 0
theorem tY (v x:Int) (w:World) (hT:eK w):
  Calls Tryz.prog 117 #[.int .i64 v,.int .i64 x] w fun r w'=>∃g:PX,dN (kp v x) v (aH [⟨lg v x.toNat,nR ((1:Int):Dyadic)⟩]) g∧r=.returned (.tuple #[.agg #[.int .i64 g.v,.slice g.A g.n g.c],.int .i64 (kp v x)])∧Hp w [g.row] w':=by
 have hh:=Hp.start w;have hfw:=fun w1=>nY v w1
 cases hf:gU v with
 |false=>
  rw [hf] at hfw;rw [show kp v x=1 by unfold kp;rw [V2 (.inl hf)]];refine Gi ?_;refine sr ?_;refine bQ hh ?_;intro b4 w4 hh;refine aI (aa (ah (sr (mI ?_))));refine br hh (hfw _) rfl ?_;intro w8 hh;refine fI ?_;exact Je
 |true=>
  rw [hf] at hfw;obtain ⟨h0,h12⟩:=dx.1 hf;by_cases hx0:x<0
  ·rw [show kp v x=1 by unfold kp;rw [V2 (.inr (.inl hx0))]];refine Gi ?_;refine sr ?_;refine bQ hh ?_;intro b4 w4 hh;refine aI (aa (ah (sr (mI ?_))));refine br hh (hfw _) rfl ?_;intro w8 hh;refine fI ?_;refine mB (gT (mI (gT ?_)));refine aW ?_;refine dE ?_;exact Jd
  ·by_cases hx1:v≤x
   ·rw [show kp v x=1 by unfold kp;rw [V2 (.inr (.inr hx1))]];refine Gi ?_;refine sr ?_;refine bQ hh ?_;intro b4 w4 hh;refine aI (aa (ah (sr (mI ?_))));refine br hh (hfw _) rfl ?_;intro w8 hh;refine fI ?_;exact PU
   ·rw [show kp v x=0 by unfold kp;rw [V3 (by rintro (h|h|h);exact absurd (hf.symm.trans h) VY;omega;omega)]];have hm:qB v [⟨lg v x.toNat,nR ((1:Int):Dyadic)⟩]=0:=BL hf (by unfold gg;rw [Aw,Wm (rg h0)];rfl);have z1:Sz 24 ((1:Int):Dyadic):=JS (m:=1) (e:=0) VY VY VY;have hmk:=fun A cc w1 hT1 hS1=>mP v A 1 cc [⟨lg v x.toNat,nR ((1:Int):Dyadic)⟩] 24 w1 hT1 hS1 VY VX (fun t ht=>by rw [Wj.1 ht];exact ⟨z1.ok VY,by show Sz 24 (nR _).d;rw [cm];exact z1⟩) (fun t ht=>by rw [Wj.1 ht];have:=rg (x:=x.toNat) h0;show (lg v x.toNat).size≤_;omega);rw [hm] at hmk;refine Gi ?_;refine sr ?_;refine bQ hh ?_;intro b4 w4 hh;refine aI (aa (ah (sr (mI ?_))));refine br hh (hfw _) rfl ?_;intro w8 hh;refine fI ?_;refine mB (gT (mI (gT ?_)));refine aW ?_;refine dE ?_;refine mB (gT (mI (gT (mI (gT ?_)))));refine dJ ?_;refine dE ?_;refine aa (cF (ao (ai (sr (mI ?_)))));refine gj (n:=(v.toNat)) hh rfl rfl VX VX bj.out aO.out rfl VX VX VY ?_;intro b21 w21 hh;refine aL (aa (sr (mL (mI ?_))));refine cX (k:=(x.toNat)) bj.out aO.size rfl rfl VX VX VY ?_;rw [mv] at hh
    have hll:(lX (List.replicate v.toNat 0)).length=v.toNat:=by simp [lX]
    refine Gp ?_;intro ws hh;simp only [Wd] at hh;rw [show cz (lX (List.replicate v.toNat 0)) (x.toNat*1) [.int .u8 1]=lX ((List.replicate v.toNat 0).set x.toNat 1) from wL (l:=List.replicate v.toNat 0) (i:=x.toNat) (c:=1) (by rw [Xo];omega)] at hh;refine aa (ah ?_);refine kg [] [0,0,2,0,14,30,63,127,127,511,1023] 6 [[(0,none)],[(6,none)],[(26,some 1)],[],[(27,some 2),(28,some 3)],[(29,some 4)]] [(5,30),(4,29),(3,28),(2,27),(1,26),(0,25)] [([],4,[(5,30),(4,29),(3,28),(2,27),(1,26),(0,25)])] hh mixed VZ VZ VY ?_;refine cM ?_;refine dI ?_;refine aN (i:=2) (Is (.string ⟨(((List.replicate v.toNat 0).set x.toNat 1)).toArray⟩)) Is.ext ?_ ?_
    ·intro ρ1 w1 hj hR;exact eI rfl (iJ (l:=((List.replicate v.toNat 0).set x.toNat 1)) bj.out bj.out bj.out (show ρ1 26=Value.slice _ _ _ from hR.1) (hj.hp.aC (i:=0) rfl)) ⟨Below.refl _ _,rfl⟩
    refine dC (fun _ hj=>lN 1 _ (hT.hp hj.hp) VY VY) ?_;refine dB [_,_,_,_] ?_;refine oB [_,_,_,_] ?_;refine aJ ?_;intro p_ hp_;simp only [Wk,YX,or_false] at hp_
    rcases hp_ with rfl
    intro f W hJ hV;have hb_5:=hJ.bl;obtain ⟨v30,v29,v28,v27,v26,v25,_⟩:=hV;simp only [lE];have e25:f 0=_:=v25;rw [e25];have e26:f 1=_:=v26;rw [e26];have e27:f 2=_:=v27;rw [e27];have e28:f 3=_:=v28;rw [e28];have e29:f 4=_:=v29;rw [e29];obtain ⟨A30,c30,e30,f30⟩:Rows _ _ _ (f 5) W:=v30;rw [e30];replace hh:=hJ.hp;clear e25 e26 e27 e28 e29 e30 hJ;refine aG (hmk _ _ _ (hT.hp hh) f30) ar.out rfl VY ?_;rintro e_ w31 ⟨g,og,rfl,h3⟩;refine ⟨_,rfl, ?_⟩;replace hh:=hh.join h3;refine fk ?_;exact Oa
theorem oL (v:Int) (c:NR) (k:Nat) (w:World) (hc:c.ok∧Sz k c.d) (hk:k≤2999980):
  Calls Tryz.prog 120 #[.int .i64 v,.agg #[.bool c.neg,.string c.bf,.int .i64 c.e]] w fun r w'=>∃g:PX,dN (pI v) v (aH [⟨dX v,c⟩]) g∧r=.returned (.tuple #[.agg #[.int .i64 g.v,.slice g.A g.n g.c],.int .i64 (pI v)])∧Hp w [g.row] w':=by
 have hh:=Hp.start w
 cases hf:gU v with
 |false=>
  have hbv:¬(0≤v∧v≤12):=fun h=>by rw [dx.2 h] at hf;cases hf
  rw [show pI v=1 by unfold pI;rw [V2 hf]];by_cases h0:v<0
  ·refine Kb ?_;refine sr ?_;refine cf hh [_,_,_] ?_;intro b3 w3 hh;refine bQ hh ?_;intro b4 w4 hh;refine aI (aa (ah (sr (mI ?_))));refine aW (mB ?_);refine gS (gS ?_);refine eM ?_;refine aa (cT (sr ?_));exact Lz
  ·refine Kb ?_;refine sr ?_;refine cf hh [_,_,_] ?_;intro b3 w3 hh;refine bQ hh ?_;intro b4 w4 hh;refine aI (aa (ah (sr (mI ?_))));refine aW (mB (gT (mI (gT ?_))));refine bM ?_;refine dE ?_;refine aa (cT (sr ?_));exact Lz
 |true=>
  obtain ⟨h0,h12⟩:=dx.1 hf;have hg:=fun A cc w1 hS1=>hZ v A 1 cc [⟨dX v,c⟩] k w1 hS1 VY (fun t ht=>by rw [Wj.1 ht];exact hc) VX;rw [uE (by simp)] at hg;rw [show pI v=0 by unfold pI;rw [V3 (by rw [hf];decide)]];generalize aH [⟨dX v,c⟩]=G at*;refine Kb ?_;refine sr ?_;refine cf hh [_,_,_] ?_;intro b3 w3 hh;refine bQ hh ?_;intro b4 w4 hh;refine aI (aa (ah (sr (mI ?_))));refine aW (mB (gT (mI (gT ?_))));refine bM ?_;refine dE ?_;refine Bj ?_;refine kg [] [0,0,2,6,0,30,62,127,255,255,1023,2047] 7 [[(0,none)],[(0,none)],[(14,some 1)],[(15,some 2)],[(3,none)],[(16,some 3),(17,some 4)],[(18,some 5)]] [(6,19),(5,18),(4,17),(3,16),(2,15),(1,14),(0,13)] [([],4,[(6,19),(5,18),(4,17),(3,16),(2,15),(1,14),(0,13)])] hh mixed VZ VZ VY ?_;refine cM ?_;refine cM ?_;refine aN (i:=2) (gY v.toNat 1 (lX (List.replicate v.toNat 0))) (gY.ext) ?_ ?_
  ·intro ρ1 w1 hj hR;exact mv v.toNat ▸ Ga (n:=v.toNat) (show ρ1 14=Value.int _ _ from hR.1) (show ρ1 14=Value.int _ _ from hR.1) VX VX bj.out aO.out rfl VX VX (fun _ _ h1 h2=>⟨h2,h1⟩)
  refine aN (i:=3) (Is (.string (dX v))) (Is.ext) ?_ ?_
  ·intro ρ1 w1 hj hR;obtain ⟨g15,e15,o15⟩:=hR.1;exact Oy
  refine ee 1 [_,_,_] ?_;refine dB [_,_,_,_] ?_;refine oB [_,_,_,_] ?_;refine aJ ?_;intro p_ hp_;simp only [Wk,YX,or_false] at hp_
  rcases hp_ with rfl
  intro f W hJ hV;have hb_3:=hJ.bl;obtain ⟨v19,v18,v17,v16,v15,v14,v13,_⟩:=hV;simp only [lE];have e13:f 0=_:=v13;rw [e13];have e14:f 1=_:=v14;rw [e14];obtain ⟨g15,e15,o15⟩:gY v.toNat 1 (lX (List.replicate v.toNat 0)) (f 2) W:=v15;rw [e15];have e16:f 3=_:=v16;rw [e16];have e17:f 4=_:=v17;rw [e17];have e18:f 5=_:=v18;rw [e18];obtain ⟨A19,c19,e19,f19⟩:Rows _ _ _ (f 6) W:=v19;rw [e19];replace hh:=hJ.hp;clear e13 e14 e15 e16 e17 e18 e19 hJ;refine aG (hg _ _ _ f19) ar.out rfl VY ?_;rintro e_ w20 ⟨g,og,rfl,h3⟩;refine ⟨_,rfl, ?_⟩;replace hh:=hh.join h3;refine fk ?_;exact O5
theorem Cn (v x:Int) (w:World):
  Calls Tryz.prog 178 #[.int .i64 v,.int .i64 x] w fun r w'=>∃g:PX,dN (kp v x) v (aH [⟨lg v x.toNat,nR ((1:Int):Dyadic)⟩]) g∧r=.returned (.tuple #[.agg #[.int .i64 g.v,.slice g.A g.n g.c],.int .i64 (kp v x)])∧Hp w [g.row] w':=by
 have hh:=Hp.start w;by_cases hv0:v<0
 ·rw [show kp v x=1 by unfold kp;rw [V2 (.inl (by cases hf:gU v with|false=>rfl|true=>have:=dx.1 hf;omega))]];refine Av ?_;refine sr ?_;refine bQ hh ?_;intro b4 w4 hh;refine aI (aa (ah (sr (mI ?_))));refine aW (mB ?_);refine gS (gS ?_);refine eM ?_;exact Je
 ·by_cases hv1:12<v
  ·rw [show kp v x=1 by unfold kp;rw [V2 (.inl (by cases hf:gU v with|false=>rfl|true=>have:=dx.1 hf;omega))]];refine Av ?_;refine sr ?_;refine bQ hh ?_;intro b4 w4 hh;refine aI (aa (ah (sr (mI ?_))));refine aW (mB (gT (mI (gT ?_))));refine bM ?_;refine dE ?_;exact Je
  ·have hf:gU v=true:=dx.2 ⟨VX,VX⟩;by_cases hx0:x<0
   ·rw [show kp v x=1 by unfold kp;rw [V2 (.inr (.inl hx0))]];refine Av ?_;refine sr ?_;refine bQ hh ?_;intro b4 w4 hh;refine aI (aa (ah (sr (mI ?_))));refine aW (mB (gT (mI (gT ?_))));refine bM ?_;refine dE ?_;refine mB (gT (mI (gT ?_)));refine aW ?_;refine dE ?_;exact Jd
   ·by_cases hx1:v≤x
    ·rw [show kp v x=1 by unfold kp;rw [V2 (.inr (.inr hx1))]];refine Av ?_;refine sr ?_;refine bQ hh ?_;intro b4 w4 hh;refine aI (aa (ah (sr (mI ?_))));refine aW (mB (gT (mI (gT ?_))));refine bM ?_;refine dE ?_;exact PU
    ·rw [show kp v x=0 by unfold kp;rw [V3 (by rintro (h|h|h);exact absurd (hf.symm.trans h) VY;omega;omega)]];have z1:Sz 24 ((1:Int):Dyadic):=JS (m:=1) (e:=0) VY VY VY;have hg:=fun A cc w1 hS1=>hZ v A 1 cc [⟨lg v x.toNat,nR ((1:Int):Dyadic)⟩] 24 w1 hS1 VY (fun t ht=>by rw [Wj.1 ht];exact ⟨z1.ok VY,by show Sz 24 (nR _).d;rw [cm];exact z1⟩) VX;rw [uE (by simp)] at hg;generalize aH [⟨lg v x.toNat,nR ((1:Int):Dyadic)⟩]=G at*;refine Av ?_;refine sr ?_;refine bQ hh ?_;intro b4 w4 hh;refine aI (aa (ah (sr (mI ?_))));refine aW (mB (gT (mI (gT ?_))));refine bM ?_;refine dE ?_;refine mB (gT (mI (gT ?_)));refine aW ?_;refine dE ?_;refine mB (gT (mI (gT (mI (gT ?_)))));refine dJ ?_;refine dE ?_;refine aa (cF (ao (ai (sr (mI ?_)))));refine gj (n:=(v.toNat)) hh rfl rfl VX VX bj.out aO.out rfl VX VX VY ?_;intro b24 w24 hh;refine aL (aa (sr (mL (mI ?_))));refine cX (k:=(x.toNat)) bj.out aO.size rfl rfl VX VX VY ?_;rw [mv] at hh;have hll:(lX (List.replicate v.toNat 0)).length=v.toNat:=by simp [lX]
     refine Gp ?_;intro ws hh;simp only [Wd] at hh;rw [show cz (lX (List.replicate v.toNat 0)) (x.toNat*1) [.int .u8 1]=lX ((List.replicate v.toNat 0).set x.toNat 1) from wL (l:=List.replicate v.toNat 0) (i:=x.toNat) (c:=1) (by rw [Xo];omega)] at hh;refine aa (ah ?_);refine kg [] [0,0,2,0,14,30,63,127,127,511,1023] 6 [[(0,none)],[(6,none)],[(29,some 1)],[],[(30,some 2),(31,some 3)],[(32,some 4)]] [(5,33),(4,32),(3,31),(2,30),(1,29),(0,28)] [([],4,[(5,33),(4,32),(3,31),(2,30),(1,29),(0,28)])] hh mixed VZ VZ VY ?_;refine cM ?_;refine dI ?_;refine aN (i:=2) (Is (.string ⟨(((List.replicate v.toNat 0).set x.toNat 1)).toArray⟩)) Is.ext ?_ ?_
     ·intro ρ1 w1 hj hR;exact eI rfl (iJ (l:=((List.replicate v.toNat 0).set x.toNat 1)) bj.out bj.out bj.out (show ρ1 29=Value.slice _ _ _ from hR.1) (hj.hp.aC (i:=0) rfl)) ⟨Below.refl _ _,rfl⟩
     refine dC (fun _ hj=>jv 1 _ VY VY) ?_;refine dB [_,_,_,_] ?_;refine oB [_,_,_,_] ?_;refine aJ ?_;intro p_ hp_;simp only [Wk,YX,or_false] at hp_
     rcases hp_ with rfl
     intro f W hJ hV;have hb_5:=hJ.bl;obtain ⟨v33,v32,v31,v30,v29,v28,_⟩:=hV;simp only [lE];have e28:f 0=_:=v28;rw [e28];have e29:f 1=_:=v29;rw [e29];have e30:f 2=_:=v30;rw [e30];have e31:f 3=_:=v31;rw [e31];have e32:f 4=_:=v32;rw [e32];obtain ⟨A33,c33,e33,f33⟩:Rows _ _ _ (f 5) W:=v33;rw [e33];replace hh:=hJ.hp;clear e28 e29 e30 e31 e32 e33 hJ;refine aG (hg _ _ _ f33) ar.out rfl VY ?_;rintro e_ w34 ⟨g,og,rfl,h3⟩;refine ⟨_,rfl, ?_⟩;replace hh:=hh.join h3;refine fk ?_;exact Oa
def Ul (p:PX) (n:Nat):List TR×Int:=(List.replicate n p).foldl jR (aH [⟨dX p.v,nR ((1:Int):Dyadic)⟩],0)
def UE (p:PX) (n:Int):Int:=if p.e=0 then (if n<0∨127<n then 1 else (Ul p n.toNat).2) else p.e
def UM (ps:List PX) (R:List HE) (g:PX):Prop:=(g∈ps∧R=[])∨R=[g.row]
theorem GS (k:Nat) (l:List TR):jo (k+1) l=jo k l++[rP l k]:=by unfold jo;rw [YZ,WT];rfl
theorem qE (p:PX) (k:Nat) (w:World) (hp:p.at_ w) (lp:p.jX k):
  Calls Tryz.prog 29 #[.agg #[.int .i64 p.v,.slice p.A p.n p.c]] w fun r w'=>∃A c,r=.returned (.slice A (jy p.v p.ts).length c)∧Hp w [.row A (jy p.v p.ts).length c 3 1 (bC (jy p.v p.ts))] w':=by
 have hh:=Hp.start w;have hck:=fun w1 hb=>nu p k w1 (hp.ext hb) lp;by_cases h0:p.e=0
 ·rw [show jy p.v p.ts=jo p.v.toNat p.ts from V2 h0,eQ];rw [h0] at hck;obtain ⟨hf,h4,hmy,_⟩:=cK h0;have hpl:p.ts.length=p.n:=hp.ln;obtain ⟨pv,pA,pn,pc,ts⟩:=p;replace hf:=dx.1 hf;replace hmy:∀t∈ts,gg pv t=true:=hmy;replace hp:Sl w pA pn 4 (az TR.cells ts):=hp;have hn:=lp.n;replace hn:pn≤1000000:=hn;replace hpl:ts.length=pn:=hpl;obtain ⟨m,rfl⟩:∃m:Nat,pv=(m:Int):=⟨pv.toNat,by show pv=_;have:0≤pv:=hf.1;omega⟩;replace hf:m≤12:=by have h9:(m:Int)≤12:=hf.2;omega
  show Calls _ _ _ _ fun r w'=>∃A c,r=.returned (.slice A m c)∧Hp w [.row A m c 3 1 (bC (jo m ts))] w';refine aj (N:=39) (l:=[.agg #[.int .i64 m,.slice pA pn pc]]) Tryz.func29 rfl rfl (by simp) ?_;refine sr ?_;refine cf hh [_,_] ?_;intro b1 w1 hh;refine aL (aa (ah (sr ?_)));refine cn hh 0 [_,_] ?_;refine br hh (hck _ hh.below) rfl ?_;intro w8 hh;refine KI ?_;replace hh:=hh.ck 3 1;refine bp [3,4,5,6,10,11,12,13,14,15,16,17,18,19,20,21,22,23,24,25,26,27,28,29,30,31,32,33,34,35,36,37] 3 4
   (fun a v w'=>∃(q:Nat) (A':Option Addr) (c':Nat),q≤m∧v=.int .i64 q∧a=.slice A' q c'∧Hp w [.row A' q c' 3 1 (bC (jo q ts)),.blk b1 24 [.int .i64 m,.slice pA pn pc] (0,0)] w')
   (fun _ v _=>m-(intOf v).toNat) ?_ ?_
  ·exact ⟨0,none,0,V5 _,rfl,rfl,hh⟩
  ·clear hh;rintro ρ' a_ v w' ⟨q,A',c',hq,rfl,rfl,hh⟩;by_cases hlt:q<m
   ·refine ah (sr (mI (bE ?_)));refine bB hh 1 ?_;refine aW (aa (cT (ao (ai (ah (aq (sr (aI (aa (ah (ah (al (aI (aa (aq ?_)))))))))))))));refine bp [5,6,16,17,18,19,20,21,22,23,24,25,26,27,28,29,30,31,32,33] 5 6
     (fun d v w'=>∃i:Nat,i≤pn∧v=.int .i64 i∧d=.int .i64 (rP (ts.take i) q)∧Hp w [.row A' q c' 3 1 (bC (jo q ts)),.blk b1 24 [.int .i64 m,.slice pA pn pc] (0,0)] w')
     (fun _ v _=>pn-(intOf v).toNat) ?_ ?_
    ·exact ⟨0,V5 _,rfl,rfl,hh⟩
    ·clear hh;rintro ρ2 d v w2 ⟨i,hi,rfl,rfl,hh⟩;by_cases hin:i<pn
     ·obtain ⟨x,hx⟩:=ak (l:=ts) (k:=i) VX;obtain ⟨ad,rfl,hr⟩:=hp.at_ VX;have hmx:=X3.1 (hmy x (V7 hx));have hxz:x.m.size=m:=by have:=Xz hmx.2;omega
      obtain ⟨e,he⟩:=ak (l:=x.m.data.toList) (k:=q) (by rw [←dD];omega);have he8:e.toNat<256:=e.toNat_lt;have hmx2:rP (ts.take (i+1)) q=max (rP (ts.take i) q) (e.toNat:Int):=by rw [aw hx,qp,Ad he]
      have hmv:(if (e.toNat:Int)>rP (ts.take i) q then (e.toNat:Int) else rP (ts.take i) q)=rP (ts.take (i+1)) q:=by rw [hmx2];split<;>omega
      generalize rP (ts.take i) q=d0 at*;refine ah (sr (mI (bE ?_)));refine bB hh 1 ?_;refine aF ?_;refine aW (aa (cT (ao (ai (ah (aq (al (mI (bE ?_)))))))));refine bB hh 1 ?_;refine mI ?_;refine bY ?_;refine jY ?_;refine xd ?_;refine mI ?_;refine hH ?_;refine qb ?_;refine kF rfl rfl VY ?_;refine aI (aA (bF (ai (al (mI ?_)))));refine a9 (aI (aA (ai ?_)));refine ⟨⟨i+1,VX,rfl,W8 (Value.int .i64) hmv,hh⟩,by show pn-(i+1)<pn-i;omega, ?_⟩;exact dy
     ·obtain rfl:i=pn:=VX;rw [Wa VX];refine ah (sr (mI (bE ?_)));refine bB hh 1 ?_;refine aF ?_;refine aW (aa (cF (aU (aD (aD (bk (ai (al (mL (mI ?_))))))))));refine se ?_;intro b36 w36 hh;refine mF ?_;intro A37 c37 w37 hh;simp only [Wd,WH] at hh;replace hh:=hh.sub (WE _ _);refine jK ?_;refine a9 (aI (aA (ai ?_)));have e1:bC (jo q ts)++[.int .i64 (rP ts q)]=bC (jo (q+1) ts):=by rw [GS,sv];rfl
      rw [e1] at hh;refine ⟨⟨q+1,_,_,VX,rfl,rfl,hh⟩,by show m-(q+1)<m-q;omega, ?_⟩;exact dy
   ·obtain rfl:q=m:=VX;refine ah (sr (mI (bE ?_)));refine bB hh 1 ?_;refine Ce ?_;refine cS ?_;exact ⟨_,_,rfl,hh.sub (V4 _ (WN _))⟩
 ·rw [show jy p.v p.ts=[] from V3 h0];refine aj (N:=39) (l:=[.agg #[.int .i64 p.v,.slice p.A p.n p.c]]) Tryz.func29 rfl rfl (by simp) ?_;refine sr ?_;refine cf hh [_,_] ?_;intro b1 w1 hh;refine aL (aa (ah (sr ?_)));refine cn hh 0 [_,_] ?_;refine br hh (hck _ hh.below) rfl ?_;intro w8 hh;exact Qh
theorem BW (g:PX) (w:World) (hg:g.at_ w) (hn:g.n≤1000000):
  Calls Tryz.prog 31 #[.agg #[.int .i64 g.v,.slice g.A g.n g.c]] w fun r w'=>∃h:PX,(h.v=g.v∧h.ts=g.ts∧h.n=g.n)∧r=.returned (.agg #[.int .i64 h.v,.slice h.A h.n h.c])∧Hp w [h.row] w':=by
 have hh:=Hp.start w;have hgl:=hg.ln;have og:=bu TR.one g.ts;refine aj (N:=10) (l:=[.agg #[.int .i64 g.v,.slice g.A g.n g.c]]) Tryz.func31 rfl rfl (by simp) ?_;refine sr ?_;refine cf hh [_,_] ?_;intro b1 w1 hh;refine bQ hh ?_;intro b2 w2 hh;refine aa (ah ?_);refine kg [] [0,1,0,0,8,28,63,127] 6 [[(1,none)],[(3,some 0)],[],[(1,none)],[(6,some 3)],[(5,some 2),(7,some 4)]] [(5,8),(4,7),(3,6),(2,5),(1,4),(0,3)] [([],1,[(5,8),(4,7),(3,6),(2,5),(1,4),(0,3)])] hh mixed VZ VZ VY ?_;refine cP ?_;refine dL 1 ?_;refine GQ (i:=2) bj.out aO.out (fun w1 hj=>hj.bl.size) ?_;refine cP ?_;refine dL 1 ?_;refine DC (i:=5) (fun ρ1 w1 hj hR=>hR.1) (fun ρ1 w1 hj hR=>⟨_,_,(show ρ1 7=Value.slice _ _ _ from hR.2.1),hg.ext hj.hp.below⟩) bj.out aO.out rfl VY (by first|rfl|assumption) (by unfold maxLen;omega) VX (fun w1 hj=>hj.bl.size) ?_;refine aJ ?_;intro p_ hp_;simp only [Wk,YX,or_false] at hp_
 rcases hp_ with rfl
 intro f W hJ hV;have hb_1:=hJ.bl;obtain ⟨v8,v7,v6,v5,v4,v3,_⟩:=hV;simp only [lE];have e3:f 0=_:=v3;rw [e3];have e4:f 1=_:=v4;rw [e4];obtain ⟨g5,e5,_⟩:Be _ _ _ (f 2) W:=v5;rw [e5];have e6:f 3=_:=v6;rw [e6];have e7:f 4=_:=v7;rw [e7];obtain ⟨A8,c8,e8,o8⟩:pV _ _ _ _ _ (f 5) W:=v8;rw [e8];replace hh:=JJ.Dc hh hJ.hp o8;clear o8;clear e3 e4 e5 e6 e7 e8 hJ;refine eV [_,_] ?_;refine fk ?_;refine j3 7 VY VZ VY VZ VZ ?_;refine bR hh 1 [_,_] ?_;intro ws hh;replace hh:Hp _ (_::.blk _ _ [_,_] _::_) _:=hh;refine aa (au ?_);refine wE ?_;exact ⟨⟨g.v,A8,g.n,c8,g.ts⟩,⟨rfl,rfl,rfl⟩,rfl,hh.sub (V4 _ (WN _))⟩
variable {r:Bool}
theorem LK (n:Nat) (m m':ByteArray) (s s':Bool) (a a':ByteArray) (e e':Int) (w:World):(Op.equalIn (n+4) 96 (.agg #[.string m,.bool s,.string a,.int .i64 e]) (.agg #[.string m',.bool s',.string a',.int .i64 e'])).run Tryz.prog w=.ok (m==m' && ((s==s' && a==a') && e==e')) w:=by
 have h1:=fun (u:ByteArray) (x:Bool) (y:ByteArray) (z:Int)=>EF (P:=Tryz.prog) (cs:= #[.string u,.bool x,.string y,.int .i64 z]) (off:=0) (aO.out (P:=Tryz.prog) (t:=9)) rfl;have h2:=fun (u:ByteArray) (x:Bool) (y:ByteArray) (z:Int)=>GB (P:=Tryz.prog) (cs:= #[.string u,.bool x,.string y,.int .i64 z]) (vs:= #[.bool x,.string y,.int .i64 z]) (off:=1) (aO.out (P:=Tryz.prog) (t:=65)) rfl;rw [Op.equalIn];simp [run_underlying Tryz.underlying96,h1,h2,Tv,Eo]
 cases h:m==m'<;>cases h':((s==s' && a==a') && e==e')<;>simp_all
theorem AY {x y:TR}:(x.m==y.m && ((x.c.neg==y.c.neg && x.c.bf==y.c.bf) && x.c.e==y.c.e))=true↔x=y:=by
 obtain ⟨m,s,a,e⟩:=x;obtain ⟨m',s',a',e'⟩:=y;rw [Wl,k9,Kr,TR.mk.injEq]
section
variable {ρ:Rf}{w:World}{d:Option Nat}{ty u:TypeId}{pos:String}{af:Array Edge}{g:Option (Nat×Bool)}{x y:Operand}{s t:TR}
theorem O0 (hx:ev ρ x=.agg s.cells.toArray) (hy:ev ρ y=.agg t.cells.toArray) (hr:(s.m==t.m && ((s.c.neg==t.c.neg && s.c.bf==t.c.bf) && s.c.e==t.c.e))=r):
  (execOp (ev ρ) ⟨d,.binOp .neq 96 x y u,ty,pos,af,g⟩).run Tryz.prog w=.ok (.value (.bool !r)) w:=by
 have h1:(Op.equal 96 (.agg s.cells.toArray) (.agg t.cells.toArray)).run Tryz.prog w=.ok r w:=by rw [←hr];exact LK 9996 s.m t.m s.c.neg t.c.neg s.c.bf t.c.bf s.c.e t.c.e w
 simp only [execOp,hx,hy];simp [eqGuard,binOp,h1]
theorem MI (hx:ev ρ x=.agg s.cells.toArray) (hy:ev ρ y=.agg t.cells.toArray) (h:s=t):
  (execOp (ev ρ) ⟨d,.binOp .neq 96 x y u,ty,pos,af,g⟩).run Tryz.prog w=.ok (.value (.bool false)) w:=O0 hx hy (AY.2 h)
theorem NL (hx:ev ρ x=.agg s.cells.toArray) (hy:ev ρ y=.agg t.cells.toArray) (h:¬s=t):
  (execOp (ev ρ) ⟨d,.binOp .neq 96 x y u,ty,pos,af,g⟩).run Tryz.prog w=.ok (.value (.bool true)) w:=O0 hx hy (r:=false) (Yv.2 fun h1=>h (AY.1 h1))
end
theorem MV {a b:List α}{i:Nat} (ha:a.length≤i) (hb:b.length≤i) (h:a.take i=b.take i):a=b:=by
 rwa [Wa ha,Wa hb] at h
theorem zm (A:Option Addr) (n c:Nat) (a:List TR) (B:Option Addr) (m d:Nat) (b:List TR) (w:World) (hS:Sl w A n 4 (az TR.cells a)) (hS2:Sl w B m 4 (az TR.cells b)) (hn:n≤1000000) (hm:m≤1000000):
  Calls Tryz.prog 73 #[.slice A n c,.slice B m d] w fun r w'=>∃v,r=.returned (.bool v)∧(v=true↔a=b)∧Below w.heap.size w w':=by
 have hh:=Hp.start w;have hla:=hS.bg TR.len VY;have hlb:=hS2.bg TR.len VY;by_cases hnm:n=m
 ·subst hnm;refine aj (N:=26) (l:=[.slice A n c,.slice B n d]) Tryz.func73 rfl rfl (by simp) ?_;refine xu ?_;refine Fm ?_;refine aM [4,5,11,12,13,14,15,16,17,18,19,20,21,22,23,24,25] 5
   (fun v w'=>∃i:Nat,i≤n∧v=.int .i64 i∧a.take i=b.take i∧Hp w [] w')
   (fun v _=>n-(intOf v).toNat) ?_ ?_
  ·exact ⟨0,V5 _,rfl,rfl,hh⟩
  ·clear hh;rintro ρ' v w' ⟨i,hi,rfl,he,hh⟩;by_cases hlt:i<n
   ·obtain ⟨s,hs⟩:=ak (l:=a) (k:=i) VX;obtain ⟨t,ht⟩:=ak (l:=b) (k:=i) VX;obtain ⟨ad,rfl,hr⟩:=hS.at_ VX;obtain ⟨ad2,rfl,hr2⟩:=hS2.at_ VX;by_cases hst:s=t
    ·refine ah (sr (mI (mL (aF ?_))));refine jW ?_;refine xQ ?_;refine dI ?_;refine cM ?_;refine iL (i) ?_;refine mJ [_,_,_,_] (fun _ hj=>(hr.ext hj.hp.below).recAt TR.len hs) ?_;refine dI ?_;refine cM ?_;refine iL (i) ?_;refine mJ [_,_,_,_] (fun _ hj=>(hr2.ext hj.hp.below).recAt TR.len ht) ?_;refine aJ ?_;intro f W hJ hV;have hb_6:=hJ.bl;obtain ⟨v24,v23,v22,v21,v20,v19,v18,v17,_⟩:=hV;replace hh:=hJ.hp;refine xx ?_;dsimp only [bH];clear hJ;refine aV rfl rfl VY (MI (s:=s) (t:=t) rfl rfl hst) ?_;skip;refine oN ?_;refine a9 (aI (aA (ai ?_)));refine ⟨⟨i+1,VX,rfl,by rw [aw hs,aw ht,he,hst],hh⟩,by show n-(i+1)<n-i;omega, ?_⟩;exact dy
    ·refine ah (sr (mI (mL (aF ?_))));refine jW ?_;refine xQ ?_;refine dI ?_;refine cM ?_;refine iL (i) ?_;refine mJ [_,_,_,_] (fun _ hj=>(hr.ext hj.hp.below).recAt TR.len hs) ?_;refine dI ?_;refine cM ?_;refine iL (i) ?_;refine mJ [_,_,_,_] (fun _ hj=>(hr2.ext hj.hp.below).recAt TR.len ht) ?_;refine aJ ?_;intro f W hJ hV;have hb_6:=hJ.bl;obtain ⟨v24,v23,v22,v21,v20,v19,v18,v17,_⟩:=hV;replace hh:=hJ.hp;refine xx ?_;dsimp only [bH];clear hJ;refine aV rfl rfl VY (NL (s:=s) (t:=t) rfl rfl hst) ?_;skip;refine aa (cT (sr (aB (aa (au (bI (aE (aE (bI (aE ?_))))))))));refine cS ?_;refine ⟨_,rfl,⟨fun h=>(nomatch h),fun h=>absurd ?_ hst⟩,hh.below⟩;rw [h,ht] at hs;exact (WZ hs).symm
   ·refine ah (sr (mI (mL (aF ?_))));refine BF ?_;refine cS ?_;exact ⟨_,rfl,⟨fun _=>MV VX VX he,fun _=>rfl⟩,hh.below⟩
 ·refine aj (N:=26) (l:=[.slice A n c,.slice B m d]) Tryz.func73 rfl rfl (by simp) ?_;refine xu ?_;refine cJ (aa (cT (sr (aB (aa (au (aE ?_)))))));refine cS ?_;exact ⟨_,rfl,⟨fun h=>(nomatch h),fun h=>absurd (by rw [←hla,←hlb,h]) hnm⟩,hh.below⟩
theorem rM (p q:PX) (w:World) (hp:p.at_ w) (hq:q.at_ w) (hn:p.n≤1000000) (hm:q.n≤1000000):
  Calls Tryz.prog 15 #[.agg #[.int .i64 p.v,.slice p.A p.n p.c],.agg #[.int .i64 q.v,.slice q.A q.n q.c]] w fun r w'=>∃v,r=.returned (.bool v)∧(v=true↔p.v=q.v∧p.ts=q.ts)∧Below w.heap.size w w':=by
 have hh:=Hp.start w;have ht:=fun w1 hb=>zm p.A p.n p.c p.ts q.A q.n q.c q.ts w1 (hp.ext hb) (hq.ext hb) hn hm;by_cases hv:p.v=q.v
 ·refine Oq ?_;refine sr ?_;refine cf hh [_,_] ?_;intro b2 w2 hh;refine cf hh [_,_] ?_;intro b3 w3 hh;refine aB (aa (sr (bE ?_)));refine bB hh 1 ?_;refine bE ?_;refine bB hh 0 ?_;refine cB (mB (gT (bE (gT ?_))));refine bB hh 1 ?_;refine gT (bE (gT ?_));refine bB hh 0 ?_;refine aK rfl rfl ?_;refine aG (ht _ hh.below) ar.out rfl VY ?_;rintro e_ w15 ⟨v_,rfl,hv_,hb_⟩;refine ⟨_,rfl, ?_⟩;replace hh:=hh.ext hb_;refine eM ?_;refine aB (aa (au ?_));refine cS ?_;exact ⟨v_,rfl,hv_.trans ⟨fun h=>⟨hv,h⟩,fun h=>h.2⟩,hh.below⟩
 ·refine Oq ?_;refine sr ?_;refine cf hh [_,_] ?_;intro b2 w2 hh;refine cf hh [_,_] ?_;intro b3 w3 hh;refine aB (aa (sr (bE ?_)));refine bB hh 1 ?_;refine bE ?_;refine bB hh 0 ?_;refine cB (mB ?_);refine gS (gS (gS (gS ?_)));refine ic ?_;refine dE ?_;refine aB (aa (au ?_));refine cS ?_;exact ⟨_,rfl,⟨fun h=>(nomatch h),fun h=>absurd h.1 hv⟩,hh.below⟩
def Vg (a:NR):Bool:=decide ((24:Int)<a.bf.size∨a.e< -300∨300<a.e)
structure VV (ts:List TR):Prop where
 n:ts.length≤12
 ok:jc 492 ts
 sz:∀t∈ts,t.m.size≤50
def PX.norm (g:PX):PX:=⟨g.v,none,0,0,g.ts⟩
theorem vZ (ps:List PX):ff (ps.map PX.norm)=ff ps:=by
 have h1:(ps.map PX.norm).find? (fun g=>decide (g.e≠0))=(ps.find? fun g=>decide (g.e≠0)).map PX.norm:=List.find?_map ..;have h2:ub (ps.map PX.norm)=ub ps:=by
  unfold ub;rw [List.any_map,W5]
  rfl
 unfold ff;rw [h1,h2,Wh]
 cases ps.find? (fun g=>decide (g.e≠0))<;>rfl
theorem vn (ps:List PX):fu (ps.map PX.norm)=fu ps:=by unfold fu;rw [W5];rfl
structure rG (ps os:List PX) (R:List HE):Prop where
 eq:∀(j:Nat) (g o:PX),ps[j]?=some g→os[j]?=some o→o.v=g.v∧o.ts=g.ts∧o.n=g.n
 my:∀o∈os,o.row∈R∧o.n≤o.c
theorem rG.add {ps os:List PX}{R:List HE}{g o:PX} (h:rG ps os R) (hx:ps[os.length]?=some g) (he:o.v=g.v∧o.ts=g.ts∧o.n=g.n) (hc:o.n≤o.c):rG ps (os++[o]) (o.row::R):=by
 refine ⟨fun j g2 o2 h1 h2=> ?_,fun o2 h2=> ?_⟩
 ·by_cases hj:j<os.length
  ·rw [Yp hj] at h2;exact h.eq j g2 o2 h1 h2
  ·by_cases hj2:j=os.length
   ·subst hj2;rw [Xm (V8 _),W9] at h2;rw [hx] at h1
    cases h1;cases h2
    exact he
   ·rw [WK (by rw [Wc];simp;omega)] at h2
    cases h2
 ·rcases WI.1 h2 with h2|h2
  ·exact ⟨Wg _ (h.my o2 h2).1,(h.my o2 h2).2⟩
  ·rw [Wj.1 h2];exact ⟨We,hc⟩
theorem rG.key {ps os:List PX}{R:List HE} (h:rG ps os R) (hl:os.length=ps.length):os.map PX.norm=ps.map PX.norm:=by
 apply XN;intro j;rw [Wf,Wf];by_cases hj:j<os.length
 ·obtain ⟨o,ho⟩:=ak hj;obtain ⟨g,hg⟩:=ak (l:=ps) (k:=j) VX;obtain ⟨e1,e2,_⟩:=h.eq j g o hg ho;rw [ho,hg];show some (PX.norm o)=some (PX.norm g);unfold PX.norm;rw [e1,e2]
 ·rw [WK VX,WK VX]
theorem yn {H:List HE}{g:PX} (hh:Hp w H w') (h:g.row∈H):g.at_ w':=kO (hh.own g.row h)
def vS (p:PX) (c:Dyadic):Int:=if p.e=0 then fW (p.ts.map (oC c)) else p.e
theorem Hn {X:List TR}{c:Dyadic}{i:Nat}{z:TR} (hz:l[i]?=some z) (hX:X=(l.take i).map (oC c)++l.drop i):X[i]?=some z∧X.set i ⟨z.m,nR (z.c.d*c)⟩=(l.take (i+1)).map (oC c)++l.drop (i+1):=by
 obtain ⟨h1,h2⟩:=Wi.1 hz;have hl:((l.take i).map (oC c)).length=i:=by rw [Wh,Wp];omega
 refine ⟨?_, ?_⟩
 ·rw [hX,Xm VX,hl,W9,XU];exact hz
 ·rw [aw hz,WT,hX,X4 _ _ VX,hl,W9,WQ,gK hz]
  rfl
theorem zr {c:Dyadic} (ho:jc k l) (hc:Sz j c) (hk:k+j≤1000000):jc (k+j) (l.map (oC c)):=fun t ht=>by
 obtain ⟨z,hz,rfl⟩:=Wn.1 ht;have hs:=(ho z hz).2.mul hc;exact ⟨hs.ok VX,by show Sz _ (nR _).d;rw [cm];exact hs⟩
theorem y5 (p:PX) (c:NR) (k:Nat) (w:World) (hT:eK w) (hp:p.at_ w) (lp:p.jX k) (hc:c.ok∧Sz k c.d) (hk:k≤400000):
  Calls Tryz.prog 53 #[.agg #[.int .i64 p.v,.slice p.A p.n p.c],.agg #[.bool c.neg,.string c.bf,.int .i64 c.e]] w fun r w'=>∃g:PX,dN (vS p c.d) p.v (aH (p.ts.map (oC c.d))) g∧r=.returned (.tuple #[.agg #[.int .i64 g.v,.slice g.A g.n g.c],.int .i64 (vS p c.d)])∧Hp w [g.row] w':=by
 have hh:=Hp.start w;have hck:=fun w1 hT1 hb=>n9 p k w1 hT1 (hp.ext hb) lp;unfold vS;by_cases h0:p.e=0
 ·rw [V2 h0];rw [h0] at hck;obtain ⟨_,h4,_,_⟩:=cK h0;have hpl:p.ts.length=p.n:=hp.ln;refine Ok ?_;refine sr ?_;refine cf hh [_,_] ?_;intro b2 w2 hh;refine cf hh [_,_,_] ?_;intro b3 w3 hh;refine bQ hh ?_;intro b4 w4 hh;refine aI (aa (ah (sr ?_)));refine cn hh 2 [_,_] ?_;refine gi ?_;intro w10 hh;refine aI (aa (sr (mI ?_)));refine cJ (aa (cF (ao (ai (sr (bE ?_))))));refine bB hh 2 ?_;refine aG (mg p.A p.n p.c p.ts _ (hp.ext hh.below) lp.n) ar.out rfl VY ?_;rintro e_ w17 ⟨A17,c17,rfl,hown_,hb_⟩;refine ⟨_,rfl, ?_⟩;replace hh:=hh.aY (x:=.row _ _ _ _ _ _) hb_ hown_;refine rZ ?_;refine aM [8,20,21,22,23,24,25,26,27,28,29,30,31,32,33,34,35] 20
   (fun v w'=>∃(i:Nat) (X:List TR),i≤p.n∧v=.int .i64 i∧X=(p.ts.take i).map (oC c.d)++p.ts.drop i∧Hp w [.row A17 p.n c17 96 4 (az TR.cells X),.blk b4 24 [.int .i64 0,.slice none 0 0] (0,0),.blk b3 65 [.bool c.neg,.string c.bf,.int .i64 c.e] (0,0),.blk b2 24 [.int .i64 p.v,.slice p.A p.n p.c] (0,0)] w')
   (fun v _=>p.n-(intOf v).toNat) ?_ ?_
  ·exact ⟨0,p.ts,V5 _,rfl,rfl,hh⟩
  ·clear hh;rintro ρ' v w' ⟨i,X,hi,rfl,hX,hh⟩;have hXl:X.length=p.n:=by rw [hX,Wc,Wh,Wp,Xk];omega
   by_cases hlt:i<p.n
   ·obtain ⟨z,hz⟩:=ak (l:=p.ts) (k:=i) VX;obtain ⟨hXz,hXn⟩:=Hn hz hX;have hzo:=lp.ok z (V7 hz);have hdm:=fun A cc w1 hT1 hS1=>fH A 2 cc [z.c,c] w1 hT1 hS1 (by simpa using ⟨hzo.1,hc.1⟩) k (by simpa using ⟨hzo.2,hc.2⟩) VX VY;rw [show iD ([z.c,c].map NR.d)=z.c.d*c.d by show 1*z.c.d*c.d=_;rw [Ye]] at hdm;have hrl:=fw TR.len X;obtain ⟨g0,rfl⟩:=hh.cu (i:=0) rfl VX;refine sr ?_;refine aW (aa (ah (cT (ao (ai (ah (aq (sr (mI (aI (aa ?_)))))))))));refine aT 10 [[(7,none)],[(8,none)],[(7,none)],[(8,none)],[(25,some 2),(26,some 3)],[(27,some 4)],[(28,some 5)],[(3,none)],[(29,some 6),(30,some 7)],[(31,some 8)]] [(9,32),(8,31),(7,30),(6,29),(5,28),(4,27),(3,26),(2,25),(1,24),(0,23)] hh mixed VZ ?_;refine dI ?_;refine cM ?_;refine dI ?_;refine cM ?_;refine FG (i) ?_;refine cP ?_;refine mJ [_,_,_] (fun _ hj=>(hj.hp.fY (f:=TR.cells) (x:=z) (l:=X) (i:=0) rfl TR.len VY hXz).drop 1) ?_;refine ee 2 [_,_,_] ?_;refine oB [_,_,_,_,_,_] ?_;refine aN (i:=9) (Is (.agg #[.bool (nR (z.c.d*c.d)).neg,.string (nR (z.c.d*c.d)).bf,.int .i64 (nR (z.c.d*c.d)).e])) Is.ext ?_ ?_
    ·intro ρ1 w1 hj hR;obtain ⟨A31,c31,h31,s31⟩:=hR.1;exact bh rfl (aP ar.out (av h31 a6)) (hdm A31 c31 _ (hT.hp hj.hp) s31) (fun _ _ hq=>⟨_,hq.1,hq.2,rfl⟩)
    refine aJ ?_;intro f W hJ hV;have hb_8:=hJ.bl;obtain ⟨v32,v31,v30,v29,v28,v27,v26,v25,v24,v23,_⟩:=hV;obtain ⟨A31,c31,e31,f31⟩:Rows _ _ _ (f 8) W:=v31;replace hh:=hJ.hp;refine aR (a8 (ae v32 (ae e31 (ae v30 (ae v29 (ae v28 (ae v27 (ae v26 (ae v25 (ae v24 (ae v23 aQ))))))))))) ?_;dsimp only [bH];clear e31 hJ;refine gh ?_;refine bE ?_;refine cd hh (i:=0) (vs:=[_,_,_]) rfl rfl (iV rfl) rfl aO.out rfl VX rfl ?_;intro ws hh;simp only [Wd] at hh;rw [wz hXz,hXn] at hh;refine gy ?_;refine a9 (mI (aA (ai ?_)));replace hh:=hh.sub (V4 _ (V4 _ (V4 _ (V4 _ Wq))));refine ⟨⟨i+1,_,VX,rfl,rfl,hh⟩,by show p.n-(i+1)<p.n-i;omega, ?_⟩;exact dy
   ·obtain rfl:i=p.n:=VX;rw [Wa VX,XB VX,WG] at hX;have hso:=zr lp.ok hc.2 VX;rw [←hX] at hso ⊢;refine sr ?_;refine aW (aa (ah (cF (aU (aD (aD (bk (ai (sr (bE ?_))))))))));refine bB hh 3 ?_;refine mL ?_;refine aG (k5 p.v A17 p.n c17 X (k+k) _ hT hh hXl VX VX hso) ar.out rfl VY ?_;rintro e_ w39 ⟨g,og,rfl,hh⟩;refine ⟨_,rfl, ?_⟩;refine du ?_;refine du ?_;exact Iy
 ·rw [V3 h0];refine Ok ?_;refine sr ?_;refine cf hh [_,_] ?_;intro b2 w2 hh;refine cf hh [_,_,_] ?_;intro b3 w3 hh;refine bQ hh ?_;intro b4 w4 hh;refine aI (aa (ah (sr ?_)));refine cn hh 2 [_,_] ?_;refine gi ?_;intro w10 hh;exact R3
abbrev ZT:=List (List UInt8×Int)
def zT (L:ZT):List TR:=L.map fun x=>⟨str x.1,nR ((x.2:Int):Dyadic)⟩
def zS (L:ZT) (b:List UInt8):Int:=match L with|[]=>0|x::L=>(if x.1=b then x.2 else 0)+zS L b
def zC:ZT→Bool
 |[]=>true
 |[x]=> !decide (x.2=0)
 |x::y::L=> !decide (x.2=0) && (Op.bytesLess x.1 y.1 && zC (y::L))
def zE (L K:ZT):Bool:=(L++K).all fun x=>decide (zS L x.1=zS K x.1)
def zP (P Q:ZT):ZT:=P.flatMap fun x=>Q.map fun y=>((mulL x.1 y.1).1,x.2*y.2)
def VJ (P Q:ZT):List Int:=P.flatMap fun x=>Q.map fun y=>(mulL x.1 y.1).2
def zM (v:Int) (L:ZT):Bool:=L.all fun x=>ef x.1 && decide ((x.1.length:Int)=v)
def zB (L:ZT):Bool:=L.all fun x=>decide (x.2.natAbs<256) && decide (x.1.length≤50)
def Vn (n:Int):ZT:=[([0,1],n),([1,0],1)]
theorem lP {g h:PX} (h1:g.e=0) (h2:h.e=0) (h3:h.v=g.v):ff [g,h]=0:=by
 have e:[g,h].find? (fun g=>decide (g.e≠0))=none:=ju (XD.2 fun x hx=>by
  rcases Wk.1 hx with rfl|hx
  ·simp [h1]
  ·rw [Wj.1 hx];simp [h2])
 unfold ff;rw [e];show (if 2=0∨ub [g,h]=true then (1:Int) else 0)=0;rw [V3];rintro (h0|h0)
 ·cases h0
 ·obtain ⟨x,hx,hx2⟩:=XR.1 h0;have hx3:x.v≠g.v:=Xz hx2
  rcases Wk.1 hx with rfl|hx
  ·exact hx3 rfl
  ·rw [Wj.1 hx] at hx3;exact hx3 h3
def Ug (ds:List Int):VP:=fun v W=>∃g:Option Addr×Nat,v=.slice g.1 ds.length g.2∧Sl W g.1 ds.length 1 (bC ds)
theorem AP {g h:PX} (w:World) (hg:g.at_ w) (hh:h.at_ w) (e:g.v=h.v∧g.ts=h.ts) (hn:g.n≤1000000) (hm:h.n≤1000000):
  Calls Tryz.prog 15 #[.agg #[.int .i64 g.v,.slice g.A g.n g.c],.agg #[.int .i64 h.v,.slice h.A h.n h.c]] w fun r w'=>r=.returned (.bool true)∧Below w.heap.size w w':=
 (rM g h w hg hh hn hm).mono fun r w' ⟨v,hr,hv,hb⟩=>⟨by rw [hr,hv.2 e],hb⟩
structure Vj (E:Int) (g:PX):Prop where
 bad:E≠0→g.v=0∧g.ts=[]
 ok:E=0→g.e=0∧jc 100000 g.ts∧∀t∈g.ts,t.m.size≤100000
theorem MT (h:fW l=0):(aH l).length≤4096:=by
 unfold fW at h;by_cases h4:4096<(aH l).length
 ·rw [V2 h4] at h;omega
 ·omega
theorem tX (h:jc k l) (hk:k+l.length≤j) (hj:j≤3999990):jc j (aH l):=fun t ht=>by
 have h3:Sz j t.c.d:=(nW (fun t ht=>(h t ht).2) t ht).mono hk;exact ⟨by rw [(eh l).nf t ht];exact h3.ok hj,h3⟩
theorem tx (h:∀t∈l,t.m.size≤100000):∀t∈aH l,t.m.size≤100000:=fun t ht=>by
 obtain ⟨s,hs,e⟩:=jn t ht;rw [←e];exact h s hs
theorem ku (h:l.length≤4096):fW l=0:=by
 unfold fW;have:=cq l;rw [V3 VX]
theorem dN.v0 {v:Int}{g:PX} (o:dN 0 v ts g):g.v=v:=o.v
theorem dN.t0 {v:Int}{g:PX} (o:dN 0 v ts g):g.ts=ts:=o.ts
theorem Ap (p q:PX):um [p,q]=p.ts++q.ts:=by show p.ts++(q.ts++[])=_;rw [WG]
def j1 (j:Nat) (t:TR):Nat:=match t.m.data.toList[j]? with|some e=>e.toNat|none=>0
theorem q8 {t:TR}{e:UInt8} (h:t.m.data.toList[j]?=some e):j1 j t=e.toNat:=by unfold j1;rw [h]
def bL (p:List TR) (j n:Nat):List TR:=p.filter fun t=>decide (j1 j t=n)
def g6 (q:List TR) (sub:List TR→Int×List TR) (p:List TR) (j n:Nat) (a:Int×List TR):Int×List TR:=
 if a.1≠0 then a else if a.2.length=0∧(bL p j n).length=0 then a else
 if eE a.2 q≠0 then (eE a.2 q,[]) else if (sub (bL p j n)).1≠0 then ((sub (bL p j n)).1,[]) else
 if fW (aH (cv a.2 q)++(sub (bL p j n)).2)≠0 then (fW (aH (cv a.2 q)++(sub (bL p j n)).2),[]) else (0,aH (aH (cv a.2 q)++(sub (bL p j n)).2))
def cG (q:List TR) (sub:List TR→Int×List TR) (p:List TR) (j:Nat):Nat→Int×List TR
 |0=>(0,[])
 |i+1=>g6 q sub p j (127-i) (cG q sub p j i)
theorem o7 (q:List TR) (sub:List TR→Int×List TR) (p:List TR) (j i:Nat):cG q sub p j (i+1)=g6 q sub p j (127-i) (cG q sub p j i):=rfl
def fL (v:Int):List (List TR)→Nat→List TR→Int×List TR
 |[],_,p=>(0,aH [⟨dX v,(p.map TR.c).headD (nR 0)⟩])
 |q::qs,j,p=>cG q (fL v qs (j+1)) p j 128
theorem kj {q:List TR}{sub:List TR→Int×List TR}{i:Nat} (h:(cG q sub p j i).1≠0) (hk:i≤k):cG q sub p j k=cG q sub p j i:=by
 induction k with
 |zero=>
  obtain rfl:i=0:=VX
  rfl
 |succ k ih=>
  by_cases e:i=k+1
  ·rw [e]
  ·have:=ih VX;show g6 q sub p j (127-k) (cG q sub p j k)=_;rw [this];unfold g6;rw [V2 h]
theorem Lr {q:List TR} (hp:jc k p) (hq:jc j q) (sq:∀t∈q,t.m.size≤100000) (h:eE p q=0) (hk:k+j≤900000):jc (k+j+p.length*q.length) (aH (cv p q))∧∀t∈aH (cv p q),t.m.size≤100000:=by
 obtain ⟨h6,_,h4⟩:=qm h;have ho:=pY hp hq VX;have hz:=nW fun t ht=>(ho t ht).2;rw [re] at hz;refine ⟨fun t ht=> ?_,(Gv hp hq sq h hk).2⟩;have:Sz (k+j+p.length*q.length) t.c.d:=hz t ht;refine ⟨?_,this⟩;rw [(eh _).nf t ht];exact this.ok VX
structure kI (v:Int) (k:Nat) (l:List TR):Prop where
 e:gF v l=0
 ok:jc k l
 sz:∀t∈l,t.m.size≤100000
theorem kI.mono {v:Int} (h:kI v k l) (hk:k≤j):kI v j l:=⟨h.e,h.ok.mono hk,h.sz⟩
theorem kI.nil {v:Int} (hv:gU v=true):kI v k []:=⟨FN hv (V5 _) (fun _ h=>nomatch h) ⟨.nil,(fun _ h=>nomatch h),(fun _ h=>nomatch h)⟩,(fun _ h=>nomatch h),(fun _ h=>nomatch h)⟩
theorem kI.len {v:Int} (h:kI v k l):l.length≤4096:=(cK h.e).2.1
theorem yf {v:Int}{q:List TR}{T:Nat} (hp:kI v k p) (hq:kI v j q) (hT:q.length≤T) (h:eE p q=0) (hk:k+j≤900000):kI v (k+j+4096*T) (aH (cv p q)):=by
 obtain ⟨h6,h5,h4⟩:=qm h;obtain ⟨f1,f2,f3,f4⟩:=cK hp.e;have:=Lr hp.ok hq.ok hq.sz h hk;have hm:p.length*q.length≤4096*T:=XM hp.len hT;exact ⟨kX f1 h4 (G7 f3 h5),this.1.mono VX,this.2⟩
theorem Fs {v:Int}{a b:List TR} (ha:kI v k a) (hb:kI v k b) (h:fW (a++b)=0) (hk:k≤3000000):kI v (k+8192) (aH (a++b)):=by
 obtain ⟨f1,f2,f3,f4⟩:=cK ha.e;obtain ⟨g1,g2,g3,g4⟩:=cK hb.e;have hl:(a++b).length≤8192:=by rw [Wc];omega
 refine ⟨kX f1 (MT h) fun t ht=> ?_,tX (fun t ht=> ?_) (show k+(a++b).length≤k+8192 by omega) VX,tx fun t ht=> ?_⟩
 ·rcases WI.1 ht with h|h
  ·exact f3 t h
  ·exact g3 t h
 ·rcases WI.1 ht with h|h
  ·exact ha.ok t h
  ·exact hb.ok t h
 ·rcases WI.1 ht with h|h
  ·exact ha.sz t h
  ·exact hb.sz t h
theorem IZ {v:Int}{q:List TR}{sub:List TR→Int×List TR}{a:Int×List TR}{S K T B S':Nat} (ha:kI v S a.2) (hq:kI v K q) (hT:q.length≤T) (hb:(sub (bL p j n)).1=0→kI v B (sub (bL p j n)).2) (h1:S+K+4096*T+8192≤S') (h2:B+8192≤S') (hS:S'≤900000)
  (h:(g6 q sub p j n a).1=0):kI v S' (g6 q sub p j n a).2:=by
 unfold g6 at h ⊢;by_cases c0:a.1≠0
 ·rw [V2 c0] at h;exact absurd h c0
 ·rw [V3 c0] at h ⊢;by_cases c1:a.2.length=0∧(bL p j n).length=0
  ·rw [V2 c1];exact ha.mono VX
  ·rw [V3 c1] at h ⊢;by_cases c2:eE a.2 q≠0
   ·rw [V2 c2] at h;exact absurd h c2
   ·rw [V3 c2] at h ⊢;by_cases c3:(sub (bL p j n)).1≠0
    ·rw [V2 c3] at h;exact absurd h c3
    ·rw [V3 c3] at h ⊢;by_cases c4:fW (aH (cv a.2 q)++(sub (bL p j n)).2)≠0
     ·rw [V2 c4] at h;exact absurd h c4
     ·rw [V3 c4];exact (Fs ((yf ha hq hT VX VX).mono (show _≤S'-8192 by omega)) ((hb VX).mono VX) VX VX).mono VX
theorem Ih {q:List TR}{sub:List TR→Int×List TR}{a:Int×List TR} (ha:a.1≠0→a.2=[]) (h:(g6 q sub p j n a).1≠0):(g6 q sub p j n a).2=[]:=by
 unfold g6 at h ⊢;by_cases c0:a.1≠0
 ·rw [V2 c0];exact ha c0
 ·rw [V3 c0] at h ⊢;by_cases c1:a.2.length=0∧(bL p j n).length=0
  ·rw [V2 c1] at h;exact absurd h c0
  ·rw [V3 c1] at h ⊢;by_cases c2:eE a.2 q≠0
   ·rw [V2 c2]
   ·rw [V3 c2] at h ⊢;by_cases c3:(sub (bL p j n)).1≠0
    ·rw [V2 c3]
    ·rw [V3 c3] at h ⊢;by_cases c4:fW (aH (cv a.2 q)++(sub (bL p j n)).2)≠0
     ·rw [V2 c4]
     ·rw [V3 c4] at h;exact absurd rfl h
theorem vW {q p:List TR}{sub:List TR→Int×List TR}{j:Nat}:∀i,(cG q sub p j i).1≠0→(cG q sub p j i).2=[]
 |0=>fun _=>rfl
 |i+1=>Ih (vW i)
theorem GR (h:∀t∈p,j1 j t<n):bL p j n=[]:=List.filter_eq_nil_iff.2 fun t ht=>by
 have:=h t ht;simp only [Wt];omega
theorem kC:∀t∈bL p j n,t∈p:=fun t ht=>(Xy.1 ht).1
theorem l8 {q p:List TR}{sub:List TR→Int×List TR}{j D:Nat} (h:∀t∈p,j1 j t≤D):∀i,i+D≤127→cG q sub p j i=(0,[])
 |0,_=>rfl
 |i+1,hi=>by
  show g6 q sub p j (127-i) (cG q sub p j i)=_;rw [l8 h i VX,show g6 q sub p j (127-i) (0,[])=(0,[]) by
   unfold g6;rw [V3 VY,V2 ⟨rfl,by rw [GR fun t ht=>by have:=h t ht;omega];rfl⟩]]
def eT (c:Nat):List Nat→Nat→Nat
 |[],k=>k
 |d::ds,k=>eT c ds k+d*c+8192
theorem nG (c k:Nat):eT c [] k=k:=rfl
theorem l9 (c d k:Nat) (ds:List Nat):eT c (d::ds) k=eT c ds k+d*c+8192:=rfl
theorem qy {v:Int}{q p:List TR}{sub:List TR→Int×List TR}{j D K T B c:Nat} (hv:gU v=true) (hq:kI v K q) (hT:q.length≤T) (hD:∀t∈p,j1 j t≤D) (hD2:D≤127) (hb:∀n,(sub (bL p j n)).1=0→kI v B (sub (bL p j n)).2) (hc:K+4096*T+8192≤c) (hS:B+D*c+8192≤900000):
  ∀i,i≤128→(cG q sub p j i).1=0→kI v (B+(i+D-128)*c+8192) (cG q sub p j i).2
 |0,_,_=>kI.nil hv
 |i+1,hi,h0=>by
  by_cases h1:i+1+D≤127
  ·rw [l8 hD _ h1];exact kI.nil hv
  ·have h2:(cG q sub p j i).1=0:=by
    refine Yq fun c=> ?_;rw [kj c (Nat.le_succ i)] at h0;exact c h0
   have hle:(i+1+D-128)*c≤D*c:=Xi _ VX;by_cases h3:i+D≤127
   ·have h4:=l8 (q:=q) (sub:=sub) hD i h3;show kI v _ (g6 q sub p j (127-i) (cG q sub p j i)).2;have h5:(g6 q sub p j (127-i) (cG q sub p j i)).1=0:=h0;rw [h4] at h5 ⊢;rw [show i+1+D-128=0 by omega,YA];unfold g6 at h5 ⊢;rw [V3 VY] at h5 ⊢;by_cases c1:((0:Int),([]:List TR)).2.length=0∧(bL p j (127-i)).length=0
    ·rw [V2 c1];exact kI.nil hv
    ·rw [V3 c1] at h5 ⊢;by_cases c2:eE [] q≠0
     ·rw [V2 c2] at h5;exact absurd h5 c2
     ·rw [V3 c2] at h5 ⊢;by_cases c3:(sub (bL p j (127-i))).1≠0
      ·rw [V2 c3] at h5;exact absurd h5 c3
      ·rw [V3 c3] at h5 ⊢;by_cases c4:fW (aH (cv [] q)++(sub (bL p j (127-i))).2)≠0
       ·rw [V2 c4] at h5;exact absurd h5 c4
       ·rw [V3 c4];have hn:kI v B (aH (cv [] q)):=kI.nil hv;exact (Fs hn (hb _ VX) VX VX).mono VX
   ·have ih:=qy hv hq hT hD hD2 hb hc hS i VX h2;have e1:(i+1+D-128)*c=(i+D-128)*c+c:=by rw [show i+1+D-128=(i+D-128)+1 by omega,Xj]
    rw [e1] at hle ⊢;generalize (i+D-128)*c=y at*;generalize D*c=z at*;exact IZ ih hq hT (hb _) VX VX VX h0
theorem xh {v:Int}{x:NR} (hv:gU v=true) (hx:Sz k x.d) (hk:k≤900000):kI v (k+1) (aH [⟨dX v,x⟩]):=by
 have h1:=dx.1 hv;have h2:=oU h1.1;refine ⟨kX hv (Wz (cq _) (show 1≤4096 by decide)) fun t ht=> ?_,fun t ht=> ?_,fun t ht=> ?_⟩
 ·rw [Wj.1 ht];unfold gg;rw [Wl,Wt];exact ⟨wb v,h2⟩
 ·have h1:Sz (k+1) t.c.d:=nW (k:=k) (l:=[⟨dX v,x⟩]) (fun s hs=>by rw [Wj.1 hs];exact hx) t ht;exact ⟨by rw [(eh _).nf t ht];exact h1.ok VX,h1⟩
 ·obtain ⟨s,hs,e⟩:=jn t ht;rw [←e,Wj.1 hs];show (dX v).size≤100000;omega
theorem Fa {v:Int}{K T c0:Nat} (hv:gU v=true) (hc0:K+4096*T+8192≤c0):∀(qs:List (List TR)) (j:Nat) (p:List TR) (ds:List Nat) (k:Nat),(∀q∈qs,kI v K q∧q.length≤T)→jc k p→ds.length=qs.length→(∀(i d:Nat),ds[i]?=some d→d≤127∧∀t∈p,j1 (j+i) t≤d)→eT c0 ds (k+1)≤900000→
  (fL v qs j p).1=0→kI v (eT c0 ds (k+1)) (fL v qs j p).2:=by
 intro qs
 induction qs with
 |nil=>
  intro j p ds k _ hok hds _ hB _;obtain rfl:ds=[]:=Ze.1 hds;rw [nG] at hB ⊢;refine xh hv ?_ VX
  cases p with
  |nil=>show Sz k (nR 0).d;rw [cm];exact Sz.zero k
  |cons t p=>exact (hok t We).2
 |cons q qs ih=>
  intro j p ds k hq hok hds hD hB h0
  cases ds with
  |nil=>cases hds
  |cons d ds=>
   have hd:=hD 0 d rfl;rw [l9] at hB ⊢;have hB1:eT c0 ds (k+1)≤900000:=VX;have hsub:∀n,(fL v qs (j+1) (bL p j n)).1=0→kI v (eT c0 ds (k+1)) (fL v qs (j+1) (bL p j n)).2:=fun n hn=>by
    refine ih (j+1) (bL p j n) ds k (fun r hr=>hq r (Wg _ hr)) (fun t ht=>hok t (kC t ht)) (by simpa using hds) (fun i e he=> ?_) hB1 hn;exact R1
   have h1:=qy (sub:=fL v qs (j+1)) (p:=p) (j:=j) hv (hq q We).1 (hq q We).2 hd.2 hd.1 hsub hc0 hB 128 (V8 _) h0;rw [show 128+d-128=d by omega] at h1;exact h1
variable {fr:Nat}
theorem z6:∀{a b:List UInt8}{j:Nat}{x y:UInt8},Op.bytesLess a b=true→a.take j=b.take j→a[j]?=some x→b[j]?=some y→x.toNat≤y.toNat
 |[],_,j,x,y,_,_,hx,_=>by simp at hx
 |_,[],j,x,y,_,_,_,hy=>by simp at hy
 |c::a,d::b,0,x,y,h,_,hx,hy=>by
  simp only [YN,XO] at hx hy;subst hx;subst hy;simp only [Op.bytesLess,Yd,Wl,Wt,XK] at h
  rcases h with h|⟨h,_⟩
  ·exact Nat.le_of_lt (UInt8.lt_iff_toNat_lt.1 h)
  ·rw [h];exact V8 _
 |c::a,d::b,j+1,x,y,h,ht,hx,hy=>by
  simp only [List.take_succ_cons,List.cons.injEq] at ht;obtain ⟨rfl,ht⟩:=ht;simp only [YB] at hx hy;refine z6 (a:=a) (b:=b) ?_ ht hx hy;simpa [Op.bytesLess] using h
structure H4 (v:Int) (j:Nat) (p:List TR):Prop where
 sO:vz p
 may:∀t∈p,gg v t=true
 pre:∀a∈p,∀b∈p,a.m.data.toList.take j=b.m.data.toList.take j
theorem H4.size {v:Int} (h:H4 v j p):∀t∈p,(t.m.data.toList.length:Int)=v:=fun t ht=>by
 rw [←dD];exact Xz (X3.1 (h.may t ht)).2
theorem H4.get {v:Int} (h:H4 v j p) (hj:(j:Int)<v) {t:TR} (ht:t∈p):∃e:UInt8,t.m.data.toList[j]?=some e∧j1 j t=e.toNat∧e.toNat<128:=by
 obtain ⟨e,he⟩:=ak (l:=t.m.data.toList) (k:=j) (by have:=h.size t ht;omega);exact ⟨e,he,q8 he,oa (X3.1 (h.may t ht)).1 he⟩
theorem H4.mono {v:Int} (h:H4 v j p) (hj:(j:Int)<v):p.Pairwise fun a b=>j1 j a≤j1 j b:=by
 refine List.Pairwise.imp_of_mem (fun {a b} ha hb hl=> ?_) h.sO;obtain ⟨x,hx,ex,_⟩:=h.get hj ha;obtain ⟨y,hy,ey,_⟩:=h.get hj hb;rw [ex,ey];exact z6 hl (h.pre a ha b hb) hx hy
theorem H4.with {v:Int} (h:H4 v j p) (hj:(j:Int)<v):H4 v (j+1) (bL p j n):=by
 refine ⟨h.sO.filter _,fun t ht=>h.may t (kC t ht),fun a ha b hb=> ?_⟩;obtain ⟨ha1,ha2⟩:=Xy.1 ha;obtain ⟨hb1,hb2⟩:=Xy.1 hb;obtain ⟨x,hx,ex,_⟩:=h.get hj ha1;obtain ⟨y,hy,ey,_⟩:=h.get hj hb1;have exy:x=y:=YP.1 (by rw [←ex,←ey,Xz ha2,Xz hb2]);rw [aw hx,aw hy,h.pre a ha1 b hb1,exy]
theorem Ll {p:List α}{en:Nat} (h:fr≤en):p.drop fr=(p.drop fr).take (en-fr)++p.drop en:=by
 have:p.drop en=(p.drop fr).drop (en-fr):=by rw [List.drop_drop];congr 1;omega
 rw [this,W4]
theorem B8 {en:Nat} (hfe:fr≤en) (h1:∀t∈p.take fr,j1 j t<n) (h2:∀t∈(p.drop fr).take (en-fr),j1 j t=n) (h3:∀t∈p.drop en,n<j1 j t):bL p j n=(p.drop fr).take (en-fr):=by
 have e:p=p.take fr++((p.drop fr).take (en-fr)++p.drop en):=by
  have:p.drop en=(p.drop fr).drop (en-fr):=by rw [List.drop_drop];congr 1;omega
  rw [this,W4,W4]
 unfold bL
 conv=>lhs;rw [e]
 rw [Yc,Yc,List.filter_eq_nil_iff.2,List.filter_eq_self.2,List.filter_eq_nil_iff.2,V9,WG]
 ·intro t ht;have:=h3 t ht;simp only [Wt];omega
 ·intro t ht;have:=h2 t ht;simpa using this
 ·intro t ht;have:=h1 t ht;simp only [Wt];omega
theorem GH {x:TR} (h:p.Pairwise fun a b=>j1 j a≤j1 j b) (hx:p[fr]?=some x) (hn:j1 j x<n):∀t∈p.take (fr+1),j1 j t<n:=fun t ht=>by
 rw [aw hx] at ht
 rcases WI.1 ht with ht|ht
 ·have e:p=p.take fr++x::p.drop (fr+1):=by rw [←gK hx,W4]
  rw [e,List.pairwise_append] at h;have:=h.2.2 t ht x We;omega
 ·obtain rfl:=Wj.1 ht;exact hn
def VG (p:PX) (i:Int):Int:=if p.e=0 then (if i<0∨p.v≤i then 1 else 0) else p.e
def T8 (i:Nat) (t:TR):Option TR:=match t.m.data.toList[i]? with|some e=>if e.toNat=0 then none else some ⟨str (t.m.data.toList.set i (e-1)),nR (t.c.d*((e.toNat:Int):Dyadic))⟩|none=>none
def VA (i:Nat) (l:List TR):List TR:=l.filterMap (T8 i)
variable {w0:World}
theorem JJ.Ew {H L:List HE} (hJ:JJ w0 H w W) (hs:Hp w0 H w) (hb:w.heap.size≤w1.heap.size) (hL:Hp w1 L W):Hp w0 (L++H) W:=
 hs.join (⟨hJ.bl,fun x hx=>nn (hL.own x hx) hb,hL.nd⟩:Hp w L W)
def me (base:Nat) (E v:Int) (ts:List TR):VP:=gu base E v ts
theorem me.ext {v:Int} (x:Value) (w w':World) (h:me base E v ts x w) (hb:Below w.heap.size w w'):me base E v ts x w':=gu.ext x w w' h hb
theorem sk (v:Int):aH [⟨dX v,nR 0⟩]=[]:=by
 unfold aH iI nM
 rfl
theorem Cx (lA:Option Addr) (lc K T c0:Nat) (v:Int) (ls:List PX) (hv:gU v=true) (hlc:ls.length≤lc) (hl12:ls.length≤12) (hls:∀g∈ls,kI v K g.ts∧g.v=v∧g.jX K∧g.ts.length≤T) (hc0:K+4096*T+8192≤c0) (hc1:c0≤440000):
  ∀(qs:List PX) (j:Nat) (p:List TR) (A:Option Addr) (n c:Nat) (ds:List Nat) (k:Nat) (w:World),ls.drop j=qs→j≤ls.length→eK w→Sl w lA ls.length 2 (az PX.cells ls)→(∀g∈ls,g.at_ w)→Sl w A n 4 (az TR.cells p)→n≤c→H4 ls.length j p→jc k p→n≤4096→ds.length=qs.length→(∀(i d:Nat),ds[i]?=some d→d≤127∧∀t∈p,j1 (j+i) t≤d)→eT c0 ds (k+1)≤440000→
  Calls Tryz.prog 156 #[.slice A n c,.int .i64 j,.slice lA ls.length lc,.int .i64 v] w fun r w'=>∃g:PX,dN (fL v (qs.map PX.ts) j p).1 v (fL v (qs.map PX.ts) j p).2 g∧r=.returned (.tuple #[.agg #[.int .i64 g.v,.slice g.A g.n g.c],.int .i64 (fL v (qs.map PX.ts) j p).1])∧Hp w [g.row] w':=by
 intro qs;have hK:K≤440000:=VX;have hco:pI v=0:=V3 (by rw [hv];decide)
 induction qs with
 |nil=>
  intro j p A n c ds k w hq hj hT hL hat hS hnc hsr hok hn hds hD hB;have hh:=Hp.start w;have hln:=hS.bg TR.len VY;obtain rfl:j=ls.length:=by
   exact N9
  obtain rfl:ds=[]:=Ze.1 hds;rw [nG] at hB;have hcn:=fun c hc w1 hT1=>j9 v c k w1 hT1 hc VX;rw [hco] at hcn
  cases p with
  |nil=>
   obtain rfl:n=0:=by simpa using hln.symm
   show Calls _ _ _ _ fun r w'=>∃g:PX,dN 0 v (aH [⟨dX v,nR 0⟩]) g∧r=.returned (.tuple #[.agg #[.int .i64 g.v,.slice g.A g.n g.c],.int .i64 0])∧Hp w [g.row] w';refine aj (N:=118) (l:=[.slice A 0 c,.int .i64 ls.length,.slice lA ls.length lc,.int .i64 v]) Tryz.func156 rfl rfl (by simp) ?_;refine sr ?_;refine bQ hh ?_;intro b8 w8 hh;refine aI (aa (ah (sr (mI (mL (aF ?_))))));refine cB (aa (cT (ah (sr (mL (aF ?_))))));refine cB (aa (cT (sr (mI ?_))));refine eV [_,_,_] ?_;refine aG (hcn (nR 0) ⟨(Sz.zero k).ok VX,by rw [cm];exact Sz.zero k⟩ _ (hT.hp hh)) ar.out rfl VY ?_;rintro e_ w25 ⟨g,og,rfl,h3⟩;refine ⟨_,rfl, ?_⟩;replace hh:=hh.join h3;simp only [Wb,V9] at hh;refine du ?_;refine du ?_;refine bR hh 1 [_,_] ?_;intro ws hh;replace hh:Hp _ (_::.blk _ _ [_,_] _::_) _:=hh;refine aI (aa (au (aE (aE ?_))));exact QF
  |cons t p=>
   have hn1:p.length+1=n:=by simpa using hln
   have ht:=hok t We;obtain ⟨ad,rfl,hr⟩:=hS.at_ VX;show Calls _ _ _ _ fun r w'=>∃g:PX,dN 0 v (aH [⟨dX v,t.c⟩]) g∧r=.returned (.tuple #[.agg #[.int .i64 g.v,.slice g.A g.n g.c],.int .i64 0])∧Hp w [g.row] w';refine aj (N:=118) (l:=[.slice (some ad) n c,.int .i64 ls.length,.slice lA ls.length lc,.int .i64 v]) Tryz.func156 rfl rfl (by simp) ?_;refine sr ?_;refine bQ hh ?_;intro b8 w8 hh;refine aI (aa (ah (sr (mI (mL (aF ?_))))));refine cB (aa (cT (ah (sr (mL (aF ?_))))));refine cB (aa (cF (ao (ai (sr (mI (mL ?_)))))));refine Cj ?_;refine jY ?_;refine cA (vs:=[_,_,_]) aO.out rfl (((hr.ext hh.below).recAt TR.len (show (t::p)[0]?=some t from rfl)).drop 1) rfl VY ?_;refine aG (hcn t.c ht _ (hT.hp hh)) ar.out rfl VY ?_;rintro e_ w33 ⟨g,og,rfl,h3⟩;exact Ob
 |cons q qs ih=>
  intro j p A n c ds k w hq hj hT hL hat hS hnc hsr hok hn hds hD hB;have hh:=Hp.start w;have hln:=hS.bg TR.len VY
  cases ds with
  |nil=>cases hds
  |cons d ds=>
   have hd:=hD 0 d rfl;have hjl:j<ls.length:=by
    exact OS
   have hqj:ls[j]?=some q:=by rw [←List.head?_drop,hq];rfl
   have hqs:ls.drop (j+1)=qs:=by rw [←List.tail_drop,hq];rfl
   obtain ⟨hqk,hqv,hql,hqT⟩:=hls q (V7 hqj);rw [l9] at hB;have hB1:eT c0 ds (k+1)≤440000:=VX;have hmono:=hsr.mono VX;rw [Wv];show Calls _ _ _ _ fun r w'=>∃g:PX,dN (cG q.ts (fL v (qs.map PX.ts) (j+1)) p j 128).1 v (cG q.ts (fL v (qs.map PX.ts) (j+1)) p j 128).2 g∧r=.returned (.tuple #[.agg #[.int .i64 g.v,.slice g.A g.n g.c],.int .i64 (cG q.ts (fL v (qs.map PX.ts) (j+1)) p j 128).1])∧Hp w [g.row] w';have hDs:∀n (i e:Nat),ds[i]?=some e→e≤127∧∀t∈bL p j n,j1 (j+1+i) t≤e:=fun n i e he=>by
    exact R1
   have hrec:∀(m fr en:Nat) (w1:World),eK w1→Below w.heap.size w w1→fr≤en→en≤n→bL p j m=(p.drop fr).take (en-fr)→Calls Tryz.prog 156 #[.slice (if c=fr then A else A.map (·.add (fr*4))) (en-fr) (c-fr),.int .i64 ((j:Int)+1),.slice lA ls.length lc,.int .i64 v] w1 fun r w'=>∃g:PX,dN (fL v (qs.map PX.ts) (j+1) (bL p j m)).1 v (fL v (qs.map PX.ts) (j+1) (bL p j m)).2 g∧r=.returned (.tuple #[.agg #[.int .i64 g.v,.slice g.A g.n g.c],.int .i64 (fL v (qs.map PX.ts) (j+1) (bL p j m)).1])∧Hp w1 [g.row] w':=fun m fr en w1 hT1 hb h1 h2 hw=>by
    have hcut:=(hS.ext hb).cut h1 h2 hnc;rw [gH TR.len,jz TR.len,←hw] at hcut;exact ih (j+1) (bL p j m) _ (en-fr) (c-fr) ds k w1 hqs VX hT1 (hL.ext hb) (fun g hg=>(hat g hg).ext hb) hcut VX (hsr.with VX) (fun t ht=>hok t (kC t ht)) VX (by simpa using hds) (hDs m) hB1
   have hsub:∀m,(fL v (qs.map PX.ts) (j+1) (bL p j m)).1=0→kI v (eT c0 ds (k+1)) (fL v (qs.map PX.ts) (j+1) (bL p j m)).2:=fun m hm=>by
    exact SX
   generalize fL v (qs.map PX.ts) (j+1)=sub at hrec hsub ⊢;have hlim:=qy (sub:=sub) (p:=p) (j:=j) hv hqk hqT hd.2 hd.1 hsub hc0 VX;have hlim2:∀i,i≤128→(cG q.ts sub p j i).1=0→kI v 440000 (cG q.ts sub p j i).2:=fun i hi h0=>(hlim i hi h0).mono (by
    have:(i+d-128)*c0≤d*c0:=Xi _ VX;omega)
   have hcn:=fun w1 hT1=>j9 v (nR 0) 0 w1 hT1 ⟨(Sz.zero 0).ok VY,by rw [cm];exact Sz.zero 0⟩ VY;rw [hco,sk] at hcn;refine aj (N:=118) (l:=[.slice A n c,.int .i64 j,.slice lA ls.length lc,.int .i64 v]) Tryz.func156 rfl rfl (by simp) ?_;refine sr ?_;refine bQ hh ?_;intro b8 w8 hh;refine aI (aa (ah (sr (mI (mL (aF ?_))))));refine cB (aa (cF (ao (ai (sr (mI ?_))))));refine eV [_,_,_] ?_;refine aG (hcn _ (hT.hp hh)) ar.out rfl VY ?_;rintro e_ w39 ⟨g,og,rfl,h3⟩;refine ⟨_,rfl, ?_⟩;replace hh:=hh.join h3;simp only [Wb,V9] at hh;refine mT ?_;refine du ?_;refine du ?_;refine bQ hh ?_;intro b10 w10 hh;refine bR hh 0 [_,_] ?_;intro ws hh;replace hh:Hp _ (.blk _ _ [_,_] _::_) _:=hh;refine aI (aa (sr (mL (aF (aI (aa (ah (sr (aI (aa (aq ?_)))))))))));refine Cm [11,12,13,14,15,44,45,46,47,48,49,50,51,52,53,54,55,56,57,58,59,60,61,62,63,64,65,66,67,68,69,70,71,72,73,74,75,76,77,78,79,80,81,82,83,84,85,86,87,88,89,90,91,92,93,94,95,96,97,98,99,100,101,102,103,104,105,106,107,108,109,110,111,112] 11 12 13
    (fun e en nv w'=>∃(i en_:Nat) (e_ ov:Int) (oA:Option Addr) (on oc:Nat) (os:List TR),i≤128∧nv=.int .i64 (127-(i:Int))∧en=.int .i64 en_∧e=.int .i64 e_∧e_=(cG q.ts sub p j i).1∧en_≤n∧(e_=0→ov=v∧os=(cG q.ts sub p j i).2∧(∀t∈p.take en_,j1 j t<128-i)∧(∀t∈p.drop en_,128-i≤j1 j t))∧Hp w [.blk b10 24 [.int .i64 ov,.slice oA on oc] (0,0),.row oA on oc 96 4 (az TR.cells os),.blk b8 24 [.int .i64 0,.slice none 0 0] (0,0)] w')
    (fun _ _ nv _=>(intOf nv+1).toNat) ?_ ?_
   ·refine ⟨0,n,0,g.v,g.A,g.n,g.c,g.ts,V5 _,rfl,rfl,rfl,rfl,V8 _,fun _=>⟨og.v,og.ts,fun t ht=> ?_,fun t ht=> ?_⟩,hh⟩
    ·obtain ⟨x,_,hx,h8⟩:=hsr.get VX (X1 ht);rw [hx];exact h8
    ·rw [XB VX] at ht
     cases ht
   ·clear hh og h3;rintro ρ' e_ en_ nv_ w' ⟨i,en,e,ov,oA,on,oc,os,hi,rfl,rfl,rfl,he,hen,hok0,hh⟩;by_cases hcn:i<128∧e=0
    ·obtain ⟨hi8,rfl⟩:=hcn;obtain ⟨rfl,rfl,hlo,hhi⟩:=hok0 rfl;clear hok0;obtain ⟨m,hm⟩:∃m,m=127-i:=⟨_,rfl⟩;rw [show (127-(i:Int))=(m:Int) by omega];refine ah (sr (mI ?_));refine dJ (mB (gT (mI (gT ?_))));refine cB ?_;refine eM ?_;refine aa (cT (ao (ai (ah (aq (sr (mI (aI (aa (ah (aq ?_)))))))))));refine JG zL5 14
      (fun f w'=>∃fr:Nat,fr≤en∧f=.int .i64 fr∧bL p j m=(p.drop fr).take (en-fr)∧(∀t∈p.take fr,j1 j t<m)∧Hp w [.blk b10 24 [.int .i64 ov,.slice oA on oc] (0,0),.row oA on oc 96 4 (az TR.cells (cG q.ts sub p j i).2),.blk b8 24 [.int .i64 0,.slice none 0 0] (0,0)] w') ?_ ?_
     ·refine aM zL5 14
       (fun f w'=>∃fr:Nat,fr≤en∧f=.int .i64 fr∧(∀t∈(p.drop fr).take (en-fr),j1 j t=m)∧Hp w [.blk b10 24 [.int .i64 ov,.slice oA on oc] (0,0),.row oA on oc 96 4 (az TR.cells (cG q.ts sub p j i).2),.blk b8 24 [.int .i64 0,.slice none 0 0] (0,0)] w')
       (fun f _=>(intOf f).toNat) ?_ ?_
      ·exact ⟨en,V8 _,rfl,(fun t ht=>by rw [W9] at ht;cases ht),hh⟩
      ·clear hh;rintro ρ' f w' ⟨fr,hfr,rfl,hmid,hh⟩;by_cases h0:0<fr
       ·obtain ⟨fr,rfl⟩:∃g,fr=g+1:=⟨fr-1,VX⟩;obtain ⟨x,hx⟩:=ak (l:=p) (k:=fr) VX;obtain ⟨ad,rfl,hr⟩:=hS.at_ VX;obtain ⟨e,hex,hxe,h8⟩:=hsr.get VX (V7 hx);by_cases hem:e.toNat=m
        ·refine ah (sr (mI ?_));refine bM (mB (gT (mL (gT (mI (gT ?_))))));refine dQ (gT ?_);refine dp (k:=fr) bj.out aO.size rfl rfl VX VX VY ?_;refine gT ?_;refine jY ?_;refine aK rfl rfl ?_;refine xd ?_;refine gT (mI (gT ?_));refine hH ?_;refine gT ?_;refine qb ?_;refine gT (mI (gT ?_));refine cB ?_;refine eM ?_;refine aa (cT (ao (ai (aq (al (mI ?_))))));refine dQ (aI (aA (bF (ai ?_))));refine ⟨⟨fr,VX,by show Value.int .i64 (((fr+1:Nat):Int)-1)=_;congr 1;omega,fun t ht=> ?_,hh⟩,by show (((fr+1:Nat):Int)-1).toNat<((fr+1:Nat):Int).toNat;omega, ?_⟩
         ·rw [gK hx,show en-fr=(en-(fr+1))+1 by omega,List.take_succ_cons] at ht
          rcases Wk.1 ht with rfl|ht
          ·rw [hxe,hem]
          ·exact hmid t ht
         ·exact dy
        ·have hlt:e.toNat<m:=by
          have:=hlo x (by rw [show en=(fr+1)+(en-(fr+1)) by omega,List.take_add];exact XX _ (by rw [aw hx];exact XA _ We));omega
         have hall:=GH hmono hx (n:=m) (by rw [hxe];exact hlt);refine ah (sr (mI ?_));refine bM (mB (gT (mL (gT (mI (gT ?_))))));refine dQ (gT ?_);refine dp (k:=fr) bj.out aO.size rfl rfl VX VX VY ?_;refine gT ?_;refine jY ?_;refine aK rfl rfl ?_;refine xd ?_;refine gT (mI (gT ?_));refine hH ?_;refine gT ?_;refine qb ?_;refine gT (mI (gT ?_));refine cB ?_;refine eM ?_;refine aa (cF (aU (aD (aD (bk (ai ?_))))));refine ⟨⟨fr+1,hfr,rfl,B8 hfr hall hmid (fun t ht=>by have:=hhi t ht;omega),hall,hh⟩, ?_⟩;exact dy
       ·obtain rfl:fr=0:=VX;refine ah (sr (mI ?_));refine bM (mB ?_);refine gS (gS (gS (gS (gS ?_))));refine ic ?_;refine gS (gS (gS (gS (gS ?_))));refine dE ?_;refine aa (cF (aU (aD (aD (bk (ai ?_))))));refine ⟨⟨0,hfr,rfl,B8 hfr (fun t ht=>by cases ht) hmid (fun t ht=>by have:=hhi t ht;omega),(fun t ht=>by cases ht),hh⟩, ?_⟩;exact dy
     ·skip;clear hh;rintro ρ' f w' ⟨fr,hfr,rfl,hwi,hbl,hh⟩;have hnx:cG q.ts sub p j (i+1)=g6 q.ts sub p j m (cG q.ts sub p j i):=by rw [o7,hm]
      have hop:=hlim2 i VX he.symm;unfold g6 at hnx;rw [V3 (by rw [←he];decide)] at hnx;have hmi:m=128-(i+1):=VX;have hmi2:(127-((i+1:Nat):Int))=(m:Int)-1:=VX;have hdf:∀t∈p.drop fr,m≤j1 j t:=fun t ht=>by
       rw [Ll hfr] at ht
       rcases WI.1 ht with ht|ht
       ·rw [←hwi] at ht;have:=Xz (Xy.1 ht).2;omega
       ·have:=hhi t ht;omega
      have hst:(cG q.ts sub p j i)=(0,(cG q.ts sub p j i).2):=by rw [he]
      generalize (cG q.ts sub p j i).2=os at*;have hoc:on≤oc:=hh.dR (i:=1) rfl;have hon:os.length=on:=(hh.aC (i:=1) rfl).bg TR.len VY;have hwl:(bL p j m).length=en-fr:=by rw [hwi,Wp,Xk];omega
      by_cases hsk:os.length=0∧(bL p j m).length=0
      ·rw [V2 hsk] at hnx;obtain ⟨h1,h2⟩:=hsk;obtain rfl:on=0:=VX;obtain rfl:fr=en:=VX;refine ah (sr (bE ?_));refine bB hh 0 ?_;refine aF ?_;refine cB (mB (gT (mI (gT (mI (gT ?_))))));refine cB ?_;refine eM ?_;refine aa (cT (aU (aD (bk (ai (al (mI ?_)))))));refine dQ (aI (aA (ai ?_)));refine ⟨⟨i+1,fr,0,ov,oA,0,oc,os,VX,by rw [hmi2];rfl,rfl,rfl,by rw [hnx];exact he,hen,fun _=>⟨rfl,by rw [hnx,hst],fun t ht=>by rw [←hmi];exact hbl t ht,fun t ht=>by rw [←hmi];exact hdf t ht⟩,hh⟩,by show ((m:Int)-1+1).toNat<((m:Int)+1).toNat;omega, ?_⟩;exact dy
      ·rw [V3 hsk] at hnx;refine wY [70,71,72,73,74,75,76,77,78]
        (fun w'=>Hp w [.blk b10 24 [.int .i64 ov,.slice oA on oc] (0,0),.row oA on oc 96 4 (az TR.cells os),.blk b8 24 [.int .i64 0,.slice none 0 0] (0,0)] w') ?_ ?_
       ·by_cases h0:on=0
        ·subst h0;have hne:fr≠en:=fun h=>hsk ⟨hon,VX⟩;refine sr (bE ?_);refine bB hh 0 ?_;refine aF ?_;refine cB (mB (gT (mI (gT (mI (gT ?_))))));refine cB ?_;refine eM ?_;exact ER
        ·refine sr (bE ?_);refine bB hh 0 ?_;refine aF ?_;refine cB (mB ?_);refine gS (gS (gS ?_));refine dE ?_;exact ER
       ·skip;clear hh;rintro ρ' w' hh;obtain ⟨lad,rfl,hlr⟩:=hL.at_ VX;have hlp:ff [⟨ov,oA,on,oc,os⟩,q]=0:=lP hop.e (by unfold PX.e;rw [hqv];exact hqk.e) hqv;have hmu:∀(A2:Option Addr) (w1:World),eK w1→Sl w1 A2 2 2 (az PX.cells [⟨ov,oA,on,oc,os⟩,q])→Sl w1 oA on 4 (az TR.cells os)→Below w.heap.size w w1→Calls Tryz.prog 17 #[.slice A2 2 2] w1 fun r w'=>∃g:PX,dN (eE os q.ts) ov (aH (cv os q.ts)) g∧r=.returned (.tuple #[.agg #[.int .i64 g.v,.slice g.A g.n g.c],.int .i64 (eE os q.ts)])∧Hp w1 [g.row] w':=fun A2 w1 hT1 s1 s2 hb=>by
         have h1:=AG A2 2 2 [⟨ov,oA,on,oc,os⟩,q] 440000 505536 w1 hT1 s1 VY VY (fun g hg=>by
          rcases Wk.1 hg with rfl|hg
          ·exact s2
          ·rw [Wj.1 hg];exact (hat q (V7 hqj)).ext hb) (fun g hg=>by
          rcases Wk.1 hg with rfl|hg
          ·exact ⟨by have:=hop.len;show on≤1000000;omega,hoc,hop.ok,hop.sz⟩
          ·rw [Wj.1 hg];exact ⟨hql.n,hql.cap,hql.ok.mono hK,hql.sz⟩) VY VY
         unfold FF at h1;rw [V2 hlp] at h1;exact h1
        refine sr ?_;refine bQ hh ?_;intro b15 w15 hh;refine aa (ah (ah ?_));refine cH [] [9] [0,0,0,6,14,31,63,127,255,255,511,2047] 10 [[(10,none)],[(2,none)],[(1,none)],[(81,some 1),(82,some 2)],[(83,some 3)],[(80,some 0),(84,some 4)],[(85,some 5)],[(86,some 6)],[(79,some 7)],[(79,some 7)]] [(9,88),(8,87),(7,79),(6,86),(5,85),(4,84),(3,83),(2,82),(1,81),(0,80)] hh mixed VZ da rfl (by repeat (first|exact cj|refine bP ?_|refine cg ?_)) ?_;refine ee 1 [_,_] ?_;refine dI ?_;refine cM ?_;refine iL (j) ?_;refine mJ [_,_] (fun _ hj=>(hlr.ext hj.hp.below).recAt PX.len hqj) ?_;refine aN (i:=5) (gY 2 2 (az PX.cells [⟨ov,oA,on,oc,os⟩,q])) (gY.ext) ?_ ?_
        ·intro ρ1 w1 hj hR;exact jD (sz:=2) bj.out aO.out (show wq ρ1 [(0,.tmp 80),(1,.tmp 84)]=[(0,.agg #[.int .i64 ov,.slice oA on oc]),(1,.agg #[.int .i64 q.v,.slice q.A q.n q.c])] from aX (show ρ1 80=_ from hR.1) (aX (show ρ1 84=_ from hR.2.1) ct)) rfl rfl VY VY rfl fun v w2 h hb=>⟨hb,h⟩
        refine aN (i:=6) (eR hh.sz (eE os q.ts) ov (aH (cv os q.ts))) (eR.ext) ?_ ?_
        ·intro ρ1 w1 hj hR;obtain ⟨g85,e85,o85⟩:=hR.1;exact let ⟨b,e1,s1⟩:=hR.1;bh rfl (aP ar.out (av e1 a6)) (hmu _ w1 (hT.hp hj.hp) s1 (hj.hp.aC (i:=2) rfl) hj.hp.below) (fun _ _ ⟨g,og,hq,h3⟩=>⟨_,hq,h3.below,g,w1,rfl,og,hj.bl.size,h3⟩)
        refine aN (i:=7) (eR hh.sz (eE os q.ts) ov (aH (cv os q.ts))) (eR.ext) ?_ ?_
        ·exact HZ
        refine aN (i:=8) (me hh.sz (eE os q.ts) ov (aH (cv os q.ts))) (me.ext) ?_ ?_
        ·exact Du
        refine aN (i:=9) (Is (.int .i64 (eE os q.ts))) (Is.ext) ?_ ?_
        ·exact CD
        refine aJ ?_;intro f W hJ hV _;have hb_15:=hJ.bl;obtain ⟨v88,v87,v79,v86,v85,v84,v83,v82,v81,v80,_⟩:=hV;obtain ⟨g85,e85,o85⟩:gY 2 2 (az PX.cells [⟨ov,oA,on,oc,os⟩,q]) (f 5) W:=v85;obtain ⟨g86,u86,e86, -⟩:=v86;obtain ⟨g79,u79,e79, -⟩:=v79;obtain ⟨g87,u87,e87,o87,q87,h87⟩:=v87;replace hh:=JJ.Ew hJ hh q87 h87;refine aR (a8 (ae v88 (ae e87 (ae e79 (ae e86 (ae e85 (ae v84 (ae v83 (ae v82 (ae v81 (ae v80 aQ))))))))))) ?_;dsimp only [bH];clear e85 e86 e79 e87 hJ;simp only [Wb,V9] at hh;obtain ⟨gv,gA,gn,gc,gts⟩:=g87;replace hh:=show Hp w (.row gA gn gc 96 4 (az TR.cells gts)::_) W from hh;by_cases hte:eE os q.ts=0
        ·rw [V3 (by rw [hte];decide)] at hnx;rw [hte] at o87;obtain rfl:ov=gv:=o87.v.symm;obtain rfl:aH (cv os q.ts)=gts:=o87.ts.symm;have hgc:gn≤gc:=hh.dR (i:=0) rfl;have hgl:(aH (cv os q.ts)).length=gn:=(hh.aC (i:=0) rfl).bg TR.len VY;have hgo:=yf hop hqk hqT hte VX;refine bR hh 2 [_,_] ?_;intro ws hh;replace hh:Hp _ (_::_::.blk _ _ [_,_] _::_) _:=hh;refine aI (aa (sr (mI ?_)));refine cB (aa (cT (al (mL (mI (mI ?_))))));dsimp only at hh;refine aV rfl rfl VY (jm (lo:=some (.tmp 93)) (hi:=some (.tmp 94)) (l:=fr) (h:=en) bj.out aO.size rfl ⟨_,_,rfl,rfl⟩ ⟨_,_,rfl,rfl⟩ hfr VX) ?_;refine mI ?_;refine a9 (mL (mI ?_));refine aG (hrec m fr en _ (hT.hp hh) hh.below hfr hen hwi) ar.out rfl VY ?_;rintro e_ w100 ⟨g2,og2,rfl,h4⟩;refine ⟨_,rfl, ?_⟩;replace hh:=hh.join h4;simp only [Wb,V9] at hh;have hs2:=hsub m;obtain ⟨hv2,hA2,hn2,hc2,ht2⟩:=g2;replace hh:=show Hp w (.row hA2 hn2 hc2 96 4 (az TR.cells ht2)::_) _ from hh;by_cases hE2:(sub (bL p j m)).1=0
         ·rw [V3 (by rw [hE2];decide)] at hnx;rw [hE2] at og2;obtain rfl:ov=hv2:=og2.v.symm;obtain rfl:(sub (bL p j m)).2=ht2:=og2.ts.symm;have ho2:=hs2 hE2;have hc2c:hn2≤hc2:=hh.dR (i:=0) rfl;have hl2:((sub (bL p j m)).2).length=hn2:=(hh.aC (i:=0) rfl).bg TR.len VY;generalize (sub (bL p j m)).2=us at*;refine mT ?_;refine du ?_;refine du ?_;refine bR hh 2 [_,_] ?_;intro ws hh;replace hh:Hp _ (_::_::.blk _ _ [_,_] _::_) _:=hh;refine aI (aa (ah (sr (mI ?_))));refine cB (aa (cT (al ?_)));refine cn hh 3 [_,_] ?_;refine cn hh 2 [_,_] ?_;refine xr ?_;intro b108 w108 hh;dsimp only at hh;have hlp2:ff [⟨ov,gA,gn,gc,aH (cv os q.ts)⟩,⟨ov,hA2,hn2,hc2,us⟩]=0:=lP hgo.e ho2.e rfl;have had:=pg (some ⟨b108,0,none⟩) 2 2 [⟨ov,gA,gn,gc,aH (cv os q.ts)⟩,⟨ov,hA2,hn2,hc2,us⟩] 2000000 _ (hT.hp hh) (hh.aC (i:=0) rfl) VY (fun g hg=>by
           rcases Wk.1 hg with rfl|hg
           ·exact hh.aC (i:=2) rfl
           ·rw [Wj.1 hg];exact hh.aC (i:=1) rfl) (fun g hg=>by
           rcases Wk.1 hg with rfl|hg
           ·exact ⟨by have:=hgo.len;show gn≤1000000;omega,hgc,hgo.ok.mono VX,hgo.sz⟩
           ·rw [Wj.1 hg];exact ⟨by have:=ho2.len;show hn2≤1000000;omega,hc2c,ho2.ok.mono VX,ho2.sz⟩) VY
          unfold uU at had;rw [V2 hlp2,Ap] at had;dsimp only at had;refine aG (had) ar.out rfl VY ?_;rintro e_ w109 ⟨g3,og3,rfl,h5⟩;refine ⟨_,rfl, ?_⟩;replace hh:=hh.join h5;simp only [Wb,V9] at hh;obtain ⟨hv3,hA3,hn3,hc3,ht3⟩:=g3;replace hh:=show Hp w (.row hA3 hn3 hc3 96 4 (az TR.cells ht3)::_) _ from hh;refine mT ?_;refine du ?_;refine du ?_;refine bR hh 5 [_,_] ?_;intro ws hh;replace hh:Hp _ (_::_::_::_::_::.blk _ _ [_,_] _::_) _:=hh;refine aI (aa (al (mI (aI (aA (bF (ai (al (mI ?_)))))))));refine dQ (aI (aA (ai ?_)));replace hh:=hh.sub (V4 _ (V6 _ (V6 _ (V6 _ (V6 _ (V4 _ (V6 _ (V4 _ Wq))))))));replace hh:=hh.perm (WO (l₁:=[_]));simp only [Wb,V9] at hh;try dsimp only at hh
          refine ⟨⟨i+1,fr,fW (aH (cv os q.ts)++us),hv3,hA3,hn3,hc3,ht3,VX,by rw [hmi2];rfl,rfl,rfl, ?_,VX,fun h=>⟨?_, ?_,fun t ht=>by rw [←hmi];exact hbl t ht,fun t ht=>by rw [←hmi];exact hdf t ht⟩,hh⟩,by show ((m:Int)-1+1).toNat<((m:Int)+1).toNat;omega, ?_⟩
          ·rw [hnx];by_cases hg:fW (aH (cv os q.ts)++us)≠0
           ·rw [V2 hg]
           ·rw [V3 hg];omega
          ·have:=og3.v;rw [V2 h] at this;exact this
          ·rw [hnx,V3 (by rw [h];decide)];have:=og3.ts;rw [V2 h] at this;exact this
          ·exact dy
         ·rw [V2 hE2] at hnx;refine mT ?_;refine du ?_;refine du ?_;refine bR hh 2 [_,_] ?_;intro ws hh;replace hh:Hp _ (_::_::.blk _ _ [_,_] _::_) _:=hh;refine aI (aa (ah (sr (mI ?_))));refine cB (aa (cF (ao (ai (al (mI (aI (aA (bF (ai (al (mI ?_))))))))))));refine dQ (aI (aA (ai ?_)));replace hh:=hh.sub (V6 _ (V4 _ (V6 _ (V4 _ (V6 _ (V4 _ Wq))))));replace hh:=hh.perm (WO (l₁:=[_]));simp only [Wb,V9] at hh;refine ⟨⟨i+1,fr,_,ov,gA,gn,gc,aH (cv os q.ts),VX,by rw [hmi2];rfl,rfl,rfl,by rw [hnx],VX,fun h=>absurd h hE2,hh⟩,by show ((m:Int)-1+1).toNat<((m:Int)+1).toNat;omega, ?_⟩;exact dy
        ·rw [V2 hte] at hnx;refine bR hh 2 [_,_] ?_;intro ws hh;replace hh:Hp _ (_::_::.blk _ _ [_,_] _::_) _:=hh;refine aI (aa (sr (mI ?_)));refine cB (aa (cF (ao (ai (ah (sr (mI ?_)))))));refine cB (aa (cF (ao (ai (al (mI (aI (aA (bF (ai (al (mI ?_))))))))))));refine dQ (aI (aA (ai ?_)));replace hh:=hh.sub (V4 _ (V6 _ (V4 _ (V6 _ (V4 _ Wq)))));replace hh:=hh.perm (WO (l₁:=[_]));simp only [Wb,V9] at hh;refine ⟨⟨i+1,fr,eE os q.ts,gv,gA,gn,gc,gts,VX,by rw [hmi2];rfl,rfl,rfl,by rw [hnx],VX,fun h=>absurd h hte,hh⟩,by show ((m:Int)-1+1).toNat<((m:Int)+1).toNat;omega, ?_⟩;exact dy
    ·have hfin:cG q.ts sub p j 128=cG q.ts sub p j i:=by
      by_cases h8:i=128
      ·rw [h8]
      ·exact kj VX hi
     rw [hfin];by_cases he0:e=0
     ·subst he0;obtain ⟨rfl,rfl, -, -⟩:=hok0 rfl;clear hok0 hfin;generalize cG q.ts sub p j i=X at*;obtain rfl:i=128:=VX;rw [←he];refine ah (sr (mI ?_));refine dJ (mB ?_);refine gS (gS ?_);refine dE ?_;refine aa (cF (aU (aD (aD (bk (ai (ah (sr (mI ?_)))))))));refine rQ ?_;refine cn hh 0 [_,_] ?_;refine bR hh 2 [_,_] ?_;intro ws hh;replace hh:Hp _ (_::_::.blk _ _ [_,_] _::_) _:=hh;refine aI (aa (au ?_));refine mE ?_;exact ⟨⟨ov,oA,on,oc,_⟩,⟨rfl,rfl⟩,rfl,hh.sub (.cons _ (V4 _ (WN _)))⟩
     ·rw [←he];clear hok0 hfin;generalize cG q.ts sub p j i=X at*;by_cases h8:i=128
      ·subst h8;refine ah (sr (mI ?_));refine dJ (mB ?_);refine gS (gS ?_);refine dE ?_;exact S5
      ·refine ah (sr (mI ?_));refine dJ (mB (gT (mI (gT ?_))));refine cB ?_;refine eM ?_;exact S5
end Go.Proofs.YteeckcbbnegmcaaGreatDoor
