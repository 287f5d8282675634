/- Lemmas for bernBacks, part 6. -/
import Derived.Test.YtolamocnngihpaaGreatDoorZ5
namespace Go.Proofs.YtolamocnngihpaaGreatDoor
open Go.RowKit
theorem ff (A:Option Addr) (n c:Nat) (ds:List Int) (w:World) (hS:Sl w A n 1 (bQ ds)) (hn:n≤1000000):
  Calls Tryz.prog 46 #[.slice A n c] w fun r w'=>r=.returned (.int .i64 (gH 1 ds))∧Below w.heap.size w w':=by
 have hh:=Hp.start w;have hln:ds.length=n:=by have:=hS.1;simpa [bQ] using this
 refine ak (N:=31) (l:=[.slice A n c]) Tryz.func46 rfl rfl (by simp) ?_;refine sr (aI (aa (sr (aI (aa (ai (sr (mL (aK (mI (aa (av ?_))))))))))));refine bC [2,3,5,8,9,10,11,12,13,14,15,16,17,18,19,20,21,22,23,24,25,26,27,28,29] 3 8
  (fun v3 v w'=>∃(i:Nat) (q:Int),i≤n∧v=.int .i64 i∧v3=.int .i64 q∧1≤q∧q≤4096∧gH 1 ds=gH q (ds.drop i)∧Hp w [] w')
  (fun _ v _=>n-(intOf v).toNat) ?_ ?_
 ·exact ⟨0,1,YD _,rfl,rfl,Yv,Yv,rfl,hh⟩
 ·clear hh;rintro ρ' v3 v w' ⟨i,q,hi,rfl,rfl,hq1,hq2,hc,hh⟩;by_cases hlt:i<n
  ·obtain ⟨d,hd⟩:=ao (l:=ds) (k:=i) Yv;have hgi:=cL hd;obtain ⟨ad,rfl,hr⟩:=hS.at_ Yv;rw [gC hd,gH] at hc;by_cases h1:d<0
   ·rw [YA (.inl h1)] at hc;refine sr ?_;refine eC ?_;refine cE ?_;refine wR ?_;refine aI (aa (ai (sr (mI ?_))));refine a8 (mB ?_);refine gS (gS ?_);refine fG ?_;refine mB ?_;refine gS (gS (gS (gS (gS ?_))));refine fG ?_;exact S8
   ·by_cases h2:127<d
    ·rw [YA (.inr (.inl h2))] at hc;refine sr ?_;refine eC ?_;refine cE ?_;refine wR ?_;refine aI (aa (ai (sr (mI ?_))));refine a8 (mB (gT (mI (gT ?_))));refine bT ?_;refine dX ?_;refine mB ?_;refine gS (gS (gS (gS (gS ?_))));refine fG ?_;exact S8
    ·have hm1:1*1≤q*(d+1):=aa8 hq1 Yv Yw Yv;have hm2:q*(d+1)≤4096*128:=aa8 hq2 Yv Yv Yw;by_cases h3:4096<q*(d+1)
     ·rw [YA (.inr (.inr h3))] at hc;refine sr ?_;refine eC ?_;refine cE ?_;refine wR ?_;refine aI (aa (ai (sr (mI ?_))));refine a8 (mB (gT (mI (gT ?_))));refine bT ?_;refine dX ?_;refine mB (gT (mI (gT (mI (gT ?_)))));refine bm (gT ?_);refine mulC (gT ?_);refine bT ?_;refine dX ?_;exact S8
     ·rw [YB Yv] at hc;refine sr ?_;refine eC ?_;refine cE ?_;refine wR ?_;refine aI (aa (ai (sr (mI ?_))));refine a8 (mB (gT (mI (gT ?_))));refine bT ?_;refine dX ?_;refine mB (gT (mI (gT (mI (gT ?_)))));refine bm (gT ?_);refine mulC (gT ?_);refine bT ?_;refine dX ?_;refine aa (cF (au (aj (ar (mI (mI ?_))))));refine bm ?_;refine mulC (aI (aE (bM (aj (ar ?_)))));refine bm (mI (aE (aj ?_)));refine ⟨⟨i+1,_,Yv,rfl,rfl,Yv,Yv,hc,hh⟩,by show n-(i+1)<n-i;omega, ?_⟩;exact dO
  ·rw [ZZ Yv] at hc;refine sr ?_;refine a8 (aa (ai (cF (a6 (aH (aH (bB (aj (sr (mI (aI (aa (ay ?_)))))))))))));refine dh ?_;exact ⟨by rw [hc];rfl,hh.below⟩
theorem E7 (d:Int) (w:World):
  Calls Tryz.prog 61 #[.int .i64 d] w fun r w'=>r=.returned (.bool (!cJ d))∧Below w.heap.size w w':=by
 have hh:=Hp.start w;by_cases h1:d<0
 ·refine ak (N:=9) (l:=[.int .i64 d]) Tryz.func61 rfl rfl (by simp) ?_;refine sr (aB (aa (sr (mI ?_))));refine a8 (mB ?_);refine gS (gS ?_);refine fG ?_;refine aB (aa (ay ?_));refine dh ?_;refine ⟨?_,hh.below⟩;unfold cJ;rw [Y3 (show ¬0≤d by omega)]
  rfl
 ·by_cases h2:127<d
  ·refine ak (N:=9) (l:=[.int .i64 d]) Tryz.func61 rfl rfl (by simp) ?_;refine sr (aB (aa (sr (mI ?_))));refine a8 (mB (gT (mI (gT ?_))));refine bT ?_;refine dX ?_;refine aB (aa (ay ?_));refine dh ?_;refine ⟨?_,hh.below⟩;unfold cJ;rw [Y3 (show ¬d≤127 by omega),Bool.and_false]
   rfl
  ·refine ak (N:=9) (l:=[.int .i64 d]) Tryz.func61 rfl rfl (by simp) ?_;refine sr (aB (aa (sr (mI ?_))));refine a8 (mB (gT (mI (gT ?_))));refine bT ?_;refine dX ?_;refine aB (aa (ay ?_));refine dh ?_;refine ⟨?_,hh.below⟩;unfold cJ;rw [YV (show 0≤d by omega),YV (show d≤127 by omega)]
   rfl
theorem Fw (a:NR) (w:World) (hT:e8 w) (ha:a.ok):
  Calls Tryz.prog 63 #[.agg #[.bool a.neg,.string a.bj,.int .i64 a.e]] w fun r w'=>r=.returned (.bool (vI a))∧Below w.heap.size w w':=by
 have hh:=Hp.start w;have hf:=fun w1 hT1=>fp a w1 hT1 (by have:=ha.1;omega) (by have:=ha.2;omega) (by have:=ha.2;omega)
 cases hx:vI a with
 |false=>
  have he:=oC.1 hx;refine ak (N:=7) (l:=[.agg #[.bool a.neg,.string a.bj,.int .i64 a.e]]) Tryz.func63 rfl rfl (by simp) ?_;refine sr ?_;refine cu hh [_,_,_] ?_;intro b1 w1 hh;refine aB (aa (ai ?_));refine aW 3 [[(1,none)],[(3,some 0)],[(1,none)]] [(2,5),(1,4),(0,3)] hh mixed Yx ?_;refine ef 0 [_,_,_] ?_;refine dC (fun _ hj=>hf _ (hT.hp hj.hp)) ?_;refine ef 0 [_,_,_] ?_;refine aM ?_;intro f W hJ hV;have hb_1:=hJ.bl;obtain ⟨v5,v4,v3,_⟩:=hV;replace hh:=hJ.hp;refine aQ (bg (ae v5 (ae v4 (ae v3 aR)))) ?_;dsimp only [bO];clear hJ;refine rX rfl rfl (by first|assumption|rfl) Yw ?_;exact xG
 |true=>
  have he:¬nR a.d=a:=fun h=>by rw [oC.2 h] at hx;cases hx
  refine ak (N:=7) (l:=[.agg #[.bool a.neg,.string a.bj,.int .i64 a.e]]) Tryz.func63 rfl rfl (by simp) ?_;refine sr ?_;refine cu hh [_,_,_] ?_;intro b1 w1 hh;refine aB (aa (ai ?_));refine aW 3 [[(1,none)],[(3,some 0)],[(1,none)]] [(2,5),(1,4),(0,3)] hh mixed Yx ?_;refine ef 0 [_,_,_] ?_;refine dC (fun _ hj=>hf _ (hT.hp hj.hp)) ?_;refine ef 0 [_,_,_] ?_;refine aM ?_;intro f W hJ hV;have hb_1:=hJ.bl;obtain ⟨v5,v4,v3,_⟩:=hV;replace hh:=hJ.hp;refine aQ (bg (ae v5 (ae v4 (ae v3 aR)))) ?_;dsimp only [bO];clear hJ;refine uH rfl rfl (by assumption) Yw ?_;exact xG
theorem xC (A B:Option Addr) (n c m c2:Nat) (ds:List Int) (cs:List NR) (w:World) (hT:e8 w) (hS:Sl w A n 1 (bQ ds)) (hS2:Sl w B m 3 (aD NR.cells cs)) (hn:n≤1000000) (hm:m≤1000000) (hc:∀a∈cs,a.ok):
  Calls Tryz.prog 13 #[.agg #[.slice A n c,.slice B m c2]] w fun r w'=>r=.returned (.int .i64 (fE ds cs))∧Below w.heap.size w w':=by
 have hh:=Hp.start w;have hln:ds.length=n:=by have:=hS.1;simpa [bQ] using this
 have hlm:=hS2.bh NR.len Yw;have h1:=fun w1 hS1=>EB A n c ds 61 [] (fun d=> !cJ d) w1 hS1 hn (fun z w2 _ hb=>E7 z w2);have h2:=fun w1 (hT1:e8 w1) hS1=>Fy B m c2 cs 63 [] vI w1 hS1 hm (fun z w2 hz hb=>Fw z w2 (hT1.ext hb) (hc z hz));have h3:=Hk ds 1 Yv Yv;unfold fE;by_cases g1:12<n
 ·refine zh ?_;refine sr ?_;refine cu hh [_,_] ?_;intro b1 w1 hh;refine wC ?_;refine bG hh 0 ?_;refine aK ?_;refine bT (mB ?_);refine gS (gS ?_);refine jG ?_;refine fG ?_;refine Gm ?_;exact OX
 ·cases g2:ds.any (fun d=> !cJ d) with
  |true=>
   refine zh ?_;refine sr ?_;refine cu hh [_,_] ?_;intro b1 w1 hh;refine wC ?_;refine bG hh 0 ?_;refine aK ?_;refine bT (mB (gT (bJ (gT ?_))));refine bG hh 0 ?_;refine aP rfl rfl ?_;refine bA hh (h1 _ (hS.ext hh.below)) rfl ?_;intro w11 hh;rw [g2];refine dX ?_;refine Gm ?_;refine dh ?_;exact ⟨by rw [YA (.inr rfl)],hh.below⟩
  |false=>
   rw [YB (fun h=>h.elim (fun h=>by omega) (fun h=>by cases h))];by_cases g3:gH 1 ds=0
   ·refine zh ?_;refine sr ?_;refine cu hh [_,_] ?_;intro b1 w1 hh;refine wC ?_;refine bG hh 0 ?_;refine aK ?_;refine bT (mB (gT (bJ (gT ?_))));refine bG hh 0 ?_;refine aP rfl rfl ?_;refine bA hh (h1 _ (hS.ext hh.below)) rfl ?_;intro w11 hh;rw [g2];refine dX ?_;refine aB (aa (cF (sr (bJ ?_))));refine bG hh 0 ?_;refine GO ?_;intro w16 hh;refine di (aB (aa (cT (sr (aI (aa (ay (cm (aN ?_)))))))));refine dh ?_;exact ⟨by rw [YA g3],hh.below⟩
   ·rw [YB g3];by_cases g4:(m:Int)=gH 1 ds
    ·rw [YB (show ¬(cs.length:Int)≠gH 1 ds by omega)]
     cases g5:cs.any vI with
     |true=>
      refine zh ?_;refine sr ?_;refine cu hh [_,_] ?_;intro b1 w1 hh;refine wC ?_;refine bG hh 0 ?_;refine aK ?_;refine bT (mB (gT (bJ (gT ?_))));refine bG hh 0 ?_;refine aP rfl rfl ?_;refine bA hh (h1 _ (hS.ext hh.below)) rfl ?_;intro w11 hh;rw [g2];refine dX ?_;refine aB (aa (cF (sr (bJ ?_))));refine bG hh 0 ?_;refine GO ?_;intro w16 hh;refine di (aB (aa (cF (ai ?_))));refine LO ?_;refine cX ?_;refine dT 0 ?_;refine sY ?_;refine cX ?_;refine dT 0 ?_;refine dC (fun _ hj=>ff A n c ds _ (hS.ext hj.hp.below) hn) ?_;refine aM ?_;intro f W hJ hV;have hb_5:=hJ.bl;obtain ⟨v24,v23,v22,v21,v20,v19,_⟩:=hV;replace hh:=hJ.hp;refine NA ?_;dsimp only [bO];clear hJ;refine db (aB (aa (cF (au (bM (aj (ai (sr (bJ ?_)))))))));refine bG hh 0 ?_;refine bA hh (h2 _ (hT.hp hh) (hS2.ext hh.below)) rfl ?_;intro w28 hh;rw [g5];refine yy ?_;refine dh ?_;exact ⟨by rw [YA rfl],hh.below⟩
     |false=>
      refine zh ?_;refine sr ?_;refine cu hh [_,_] ?_;intro b1 w1 hh;refine wC ?_;refine bG hh 0 ?_;refine aK ?_;refine bT (mB (gT (bJ (gT ?_))));refine bG hh 0 ?_;refine aP rfl rfl ?_;refine bA hh (h1 _ (hS.ext hh.below)) rfl ?_;intro w11 hh;rw [g2];refine dX ?_;refine aB (aa (cF (sr (bJ ?_))));refine bG hh 0 ?_;refine GO ?_;intro w16 hh;refine di (aB (aa (cF (ai ?_))));refine LO ?_;refine cX ?_;refine dT 0 ?_;refine sY ?_;refine cX ?_;refine dT 0 ?_;refine dC (fun _ hj=>ff A n c ds _ (hS.ext hj.hp.below) hn) ?_;refine aM ?_;intro f W hJ hV;have hb_5:=hJ.bl;obtain ⟨v24,v23,v22,v21,v20,v19,_⟩:=hV;replace hh:=hJ.hp;refine NA ?_;dsimp only [bO];clear hJ;refine db (aB (aa (cF (au (bM (aj (ai (sr (bJ ?_)))))))));refine bG hh 0 ?_;refine bA hh (h2 _ (hT.hp hh) (hS2.ext hh.below)) rfl ?_;intro w28 hh;rw [g5];refine H0 ?_;refine dh ?_;exact ⟨by rw [YB Yw],hh.below⟩
    ·rw [YA (show (cs.length:Int)≠gH 1 ds by omega)];refine zh ?_;refine sr ?_;refine cu hh [_,_] ?_;intro b1 w1 hh;refine wC ?_;refine bG hh 0 ?_;refine aK ?_;refine bT (mB (gT (bJ (gT ?_))));refine bG hh 0 ?_;refine aP rfl rfl ?_;refine bA hh (h1 _ (hS.ext hh.below)) rfl ?_;intro w11 hh;rw [g2];refine dX ?_;refine aB (aa (cF (sr (bJ ?_))));refine bG hh 0 ?_;refine GO ?_;intro w16 hh;refine di (aB (aa (cF (ai ?_))));refine LO ?_;refine cX ?_;refine dT 0 ?_;refine sY ?_;refine cX ?_;refine dT 0 ?_;refine dC (fun _ hj=>ff A n c ds _ (hS.ext hj.hp.below) hn) ?_;refine aM ?_;intro f W hJ hV;have hb_5:=hJ.bl;obtain ⟨v24,v23,v22,v21,v20,v19,_⟩:=hV;replace hh:=hJ.hp;refine NA ?_;dsimp only [bO];clear hJ;refine db (aB (aa (cT (sr (aI (aa (ay (cm (aN ?_)))))))));refine dh ?_;exact ⟨rfl,hh.below⟩
variable {ds:List Nat}{xs:List Dyadic}
def TO:List Nat→List Nat→Bool
 |[],[]=>true
 |d::ds,r::rs=>decide (r≤d) && TO ds rs
 |_,_=>false
theorem G5:∀(ds rs:List Nat),TO ds rs=true↔nx ds rs
 |[],[]=>by simp [TO,nx]
 |[],_::_=>by simp [TO,nx]
 |_::_,[]=>by simp [TO,nx]
 |d::ds,r::rs=>by rw [TO,nx,YU,YY,G5 ds rs]
def co (ds:List Nat) (xs:List Dyadic) (row:List Nat):Dyadic:=if TO ds row then (xs[iI ds row]?).getD 0 else 0
theorem GA {row:List Nat} (h:nx ds row):co ds xs row=(xs[iI ds row]?).getD 0:=by
 unfold co;rw [YA ((G5 _ _).2 h)]
theorem xj {p:Nat} (h:p<aA ds):co ds xs (dy ds p)=(xs[p]?).getD 0:=by
 rw [GA (lO ds p),BW h]
theorem Tv {ys:List Dyadic} (hx:xs.length=aA ds) (hy:ys.length=aA ds) (h:∀row,nx ds row→co ds xs row=co ds ys row):xs=ys:=by
 refine List.ext_getElem (by rw [hx,hy]) fun p h1 h2=> ?_;have h3:=h (dy ds p) (lO ds p);rw [xj Yv,xj Yv,Z1 h1,Z1 h2] at h3;exact h3
def Ey:List Nat→List Nat→List Nat
 |a::l,b::m=>(a+b)::Ey l m
 |_,_=>[]
def WN:(List Nat→Dyadic)→List Nat→List Nat→Dyadic
 |F,r::rs,j::js=>if j≤r then WN (fun t=>F ((r-j)::t)) rs js else 0
 |F,[],[]=>F []
 |_,_,_=>0
def Vs:List Nat→List Nat→Nat
 |m::ms,j::js=>bin m j*Vs ms js
 |_,_=>1
def Xw:List Nat→(List Nat→Dyadic)→List Nat→Dyadic
 |m::ms,F,r::rs=>sm (List.range (m+1)) fun j=>if j≤r then nD (bin m j)*Xw ms (fun t=>F ((r-j)::t)) rs else 0
 |_,F,row=>F row
def Xe (ds es:List Nat) (xs ys:List Dyadic):List (Nat×Dyadic):=
 (List.range (aA es)).flatMap fun k=>(List.range (aA ds)).map fun i=>(iI (Ey ds es) (Ey (dy ds i) (dy es k)),(xs[i]?).getD 0*(ys[k]?).getD 0)
theorem DJ (n:Nat) (f:Nat→Dyadic):sm (List.range (n+1)) f=f 0+sm (List.range n) fun j=>f (j+1):=by
 induction n with
 |zero=>simp only [aas,List.range_zero,YH,sm]
 |succ n ih=>rw [aas,jo,ih,aas (n:=n),jo];grind
def WQ (row:List Nat) (a:Nat):List Nat:=row.set a (row.getD a 0-1)
variable {k n:Nat}
def mz (n:Nat):List NR:=(ue n).map fun k=>nR (nD k)
theorem Mx (n:Nat):(mz n).length=n+1:=by simp [mz,wX]
theorem lB (h:k≤n):(mz n)[k]?=some (nR (nD (bin n k))):=by
 unfold mz;rw [YN,zJ h]
 rfl
theorem sA (n k:Nat) (h:n≤127):Sz 128 (nD (bin n k)):=QA (ZF (zY n k) (Nat.pow_lt_pow_right Yw Yv))
theorem l5 (n:Nat) (w:World) (hT:e8 w) (hn:n≤127):
  Calls Tryz.prog 78 #[.int .i64 n] w fun r w'=>∃A c',r=.returned (.slice A (n+1) c')∧w'.ownsRow w.heap.size 40 3 (.slice A (n+1) c') (n+1) (aD NR.cells (mz n))∧Below w.heap.size w w':=by
 have hh:=Hp.start w;refine ak (N:=39) (l:=[.int .i64 n]) Tryz.func78 rfl rfl (by simp) ?_;refine sr (aL (aa (sr ?_)));refine DN ?_;intro w6 hh;refine tH ?_;intro b7 w7 hh;refine aL (aa (ai (sr (mI (mI (aa (av ?_)))))));refine bC [3,4,5,9,10,11,12,13,14,15,16,17,18,19,20,21,22,23,24,25,26,27,28,29,30,31,32,33,34,35,36,37] 3 9
  (fun v3 v w'=>∃(i c3:Nat) (A:Option Addr),i≤n∧v=.int .i64 i∧v3=.slice A (i+1) c3∧Hp w [.row A (i+1) c3 40 3 (aD NR.cells (mz i))] w')
  (fun _ v _=>n-(intOf v).toNat) ?_ ?_
 ·exact ⟨0,_,_,YD _,rfl,rfl,hh⟩
 ·clear hh;rintro ρ' v3 v w' ⟨i,c3,A,hi,rfl,rfl,hh⟩;by_cases hlt:i<n
  ·refine sr ?_;refine eC ?_;refine DN ?_;intro w11 hh;refine tH ?_;intro b12 w12 hh;refine DQ ?_;refine bC [4,5,13,14,15,16,17,18,19,20,21,22,23,24,25,26,27,28,29,30,31,32] 4 5
    (fun v4 v w'=>∃(k c4:Nat) (B:Option Addr),k≤i∧v=.int .i64 ((k+1:Nat):Int)∧v4=.slice B (k+1) c4∧Hp w [.row B (k+1) c4 40 3 (aD NR.cells ((mz (i+1)).take (k+1))),.row A (i+1) c3 40 3 (aD NR.cells (mz i))] w')
    (fun _ v _=>i+1-(intOf v).toNat) ?_ ?_
   ·refine ⟨0,_,_,YD _,rfl,rfl, ?_⟩;rw [show (mz (i+1)).take (0+1)=[nR (nD 1)] by rw [aC (lB (YD _)),rL];rfl];exact hh
   ·clear hh;rintro ρ2 v4 v w2 ⟨k,c4,B,hk,rfl,rfl,hh⟩;by_cases hlk:k<i
    ·have e1:=lB (n:=i) (k:=k) Yv;have e2:=lB (n:=i) (k:=k+1) Yv;have e3:=lB (n:=i+1) (k:=k+1) Yv;have z1:=sA i k Yv;have z2:=sA i (k+1) Yv;have hadd:=fun A cc w1 hT1 hS1=>jM A 2 cc [nR (nD (bin i k)),nR (nD (bin i (k+1)))] w1 hT1 hS1 (by simpa using ⟨z1.ok Yv,z2.ok Yv⟩) 128 (by simpa [cj] using ⟨z1,z2⟩) Yv;rw [show oK ([nR (nD (bin i k)),nR (nD (bin i (k+1)))].map NR.d)=nD (bin (i+1) (k+1)) by simp only [Y1,Zp,cj,mA,bin,Az]] at hadd;obtain ⟨go,rfl⟩:=hh.cK (i:=1) rfl Yv;refine ai (sr (mI (mL (aK ?_))));refine HV ?_;refine aW 13 [[(4,none)],[(3,none)],[(5,none)],[(21,some 2)],[(20,some 1),(22,some 3)],[(23,some 4)],[(3,none)],[(5,none)],[(25,some 6),(26,some 7)],[(27,some 8)],[(24,some 5),(28,some 9)],[(29,some 10)],[(30,some 11)]] [(12,31),(11,30),(10,29),(9,28),(8,27),(7,26),(6,25),(5,24),(4,23),(3,22),(2,21),(1,20),(0,19)] hh mixed Yx ?_;refine eQ ?_;refine eQ ?_;refine cZ ?_;refine qE ?_;refine N2 (k) ?_;refine nF [_,_,_] (fun _ hj=>hj.hp.iu (f:=NR.cells) (x:=nR (nD (bin i k))) (l:=mz i) (i:=1) rfl NR.len Yw e1) ?_;refine eQ ?_
     refine cZ ?_;refine N2 ((k+1)) ?_;refine nF [_,_,_] (fun _ hj=>hj.hp.iu (f:=NR.cells) (x:=nR (nD (bin i (k+1)))) (l:=mz i) (i:=1) rfl NR.len Yw e2) ?_;refine pL [_,_,_,_,_,_] ?_;refine aO (i:=11) (Is (.agg #[.bool (nR (nD (bin (i+1) (k+1)))).neg,.string (nR (nD (bin (i+1) (k+1)))).bj,.int .i64 (nR (nD (bin (i+1) (k+1)))).e])) Is.ext ?_ ?_
     ·intro ρ1 w1 hj hR;obtain ⟨A29,c29,h29,s29⟩:=hR.1;exact bk rfl (aV aw.out (az h29 bf)) (hadd A29 c29 _ (hT.hp hj.hp) s29) (fun _ _ hq=>⟨_,hq.1,hq.2,rfl⟩)
     refine pL [_,_,_] ?_;refine aM ?_;intro f W hJ hV;have hb_8:=hJ.bl;obtain ⟨v31,v30,v29,v28,v27,v26,v25,v24,v23,v22,v21,v20,v19,_⟩:=hV;obtain ⟨A29,c29,e29,f29⟩:Rows _ _ _ (f 10) W:=v29;obtain ⟨A31,c31,e31,f31⟩:Rows _ _ _ (f 12) W:=v31;replace hh:=hJ.hp;refine aQ (bg (ae e31 (ae v30 (ae e29 (ae v28 (ae v27 (ae v26 (ae v25 (ae v24 (ae v23 (ae v22 (ae v21 (ae v20 (ae v19 aR)))))))))))))) ?_;dsimp only [bO];clear e29 e31 hJ;refine cd hh (i:=0) rfl rfl rfl (f31) bo.out aU.out rfl Yw (by first|rfl|exact dv _|exact cR _|exact br _|exact bD NR.one _) Yv Yv Yw ?_;intro A32 c32 w32 hh;simp only [YM] at hh;refine lC ?_;refine bm (aI (aE (aj ?_)));replace hh:=hh.sub (YC _ (YC _ Y5));refine ⟨⟨k+1,c32,A32,Yv,rfl,rfl, ?_⟩,by show i+1-(k+1+1)<i+1-(k+1);omega, ?_⟩
     ·rw [aC e3,bZ];exact hh
     ·exact dO
    ·obtain rfl:k=i:=Yv;have e3:=lB (n:=k+1) (k:=k+1) (YE _);refine ai (sr (mI (mL (aK ?_))));refine a8 (aa (cF (a6 (aH (aH (bB (aj (ar (mL ?_)))))))));refine DN ?_;intro w34 hh;refine tH ?_;intro b35 w35 hh;refine pR ?_;intro A36 c36 w36 hh;simp only [YM,Zg] at hh;replace hh:=hh.sub (Zi _ _);refine mE ?_;refine bm (mI (aE (aj ?_)));replace hh:=hh.sub (YC _ (YI _ Y5));refine ⟨⟨k+1,c36,A36,Yv,rfl,rfl, ?_⟩,by show n-(k+1)<n-k;omega, ?_⟩
     ·have e4:mz (k+1)=(mz (k+1)).take (k+1)++[nR (nD (bin (k+1) (k+1)))]:=by
       rw [←aC e3,YG (by rw [Mx];omega)]
      rw [e4,bZ,Ci];exact hh
     ·exact dO
  ·obtain rfl:i=n:=Yv;exact T5
def ET (ds:List Nat):List Nat:=(List.range (aA ds.reverse)).map fun p=>Vs ds.reverse (dy ds.reverse p)
theorem NO (ds:List Nat) (d:Nat):ET (ds++[d])=(ET ds).flatMap fun x=>(ue d).map (x* ·):=by
 have hl:∀a∈ET ds,((ue d).map (a* ·)).length=d+1:=fun a _=>by rw [YO,wX]
 refine ZN fun p=> ?_;rw [qP Yv _ _ _ hl];unfold ET;rw [List.reverse_append,List.reverse_singleton,List.singleton_append];by_cases hp:p<aA (d::ds.reverse)
 ·have hq:p/(d+1)<aA ds.reverse:=by rw [Z2 Yv,Za];exact hp
  have hr:p % (d+1)≤d:=by have:=Y8 p (show 0<d+1 by omega);omega
  rw [YN,Zx hp,YN,Zx hq];simp only [Z0,aaP,YN,zJ hr,dy,Vs,Za]
 ·have hq:¬p/(d+1)<aA ds.reverse:=by rw [Z2 Yv,Za];exact hp
  rw [Y7 (by simp;omega),Y7 (l:=List.map _ _) (by simp;omega)]
  rfl
theorem Gu (ds:List Nat):(ET ds).length=aA ds:=by simp [ET,de]
def Ko (ds:List Nat):List NR:=(ET ds).map fun k=>nR (nD k)
variable {j m:Nat}
theorem MS:∀(ds row:List Nat),(∀d∈ds,d≤127)→Vs ds row≤2^(127*ds.length)
 |[],_,_=>by show 1≤1;exact YE _
 |d::ds,[],_=>by show 1≤_;exact Zd Yw
 |d::ds,r::rs,h=>by
  have h1:bin d r≤2^127:=Y2 (zY d r) (Zf Yw (h d YL));have h2:=MS ds rs fun x hx=>h x (YP _ hx);rw [Vs,YZ,aad,aat,Y4];exact ZV h1 h2
theorem TB (h:n≤2^m) (hk:m<k):Sz k (nD n):=QA (ZF h (Nat.pow_lt_pow_right Yw hk))
theorem U2 {x:Nat} (h:x∈ET ds) (h1:ds.length≤12) (h2:∀d∈ds,d≤127):Sz 1600 (nD x):=by
 obtain ⟨p,_,rfl⟩:=YR.1 h;have h3:=MS ds.reverse (dy ds.reverse p) fun d hd=>h2 d (aa0.1 hd);exact TB h3 (by rw [Zs];omega)
def OC (ds:List Nat) (d j:Nat):List Nat:=((ET ds).take j).flatMap fun x=>(ue d).map (x* ·)
theorem NH {d x:Nat} (h:(ET ds)[j]?=some x):OC ds d (j+1)=OC ds d j++(ue d).map (x* ·):=by
 unfold OC;rw [aC h,abg,List.flatMap_singleton]
theorem vT (A:Option Addr) (n c:Nat) (ns:List Nat) (w:World) (hT:e8 w) (hS:Sl w A n 1 (bQ (cf ns))) (h12:ns.length≤12) (hlow:∀d∈ns,d≤127) (hmax:aA ns≤4096):
  Calls Tryz.prog 26 #[.slice A n c] w fun r w'=>∃B c',r=.returned (.slice B (aA ns) c')∧w'.ownsRow w.heap.size 40 3 (.slice B (aA ns) c') (aA ns) (aD NR.cells (Ko ns))∧Below w.heap.size w w':=by
 have hh:=Hp.start w;have hln:ns.length=n:=by have:=hS.1;simpa [bQ,cf] using this
 have hc:=lj ns 1 Yw Yw hlow;rw [aaH,YA hmax] at hc;have hc1:gH ((1:Nat):Int) (cf ns)=gH 1 (cf ns):=rfl;rw [hc1] at hc;have hpos:=df ns;have hcnt:=fun w1 hS1=>ff A n c (cf ns) w1 hS1 Yv;rw [hc] at hcnt;refine ak (N:=52) (l:=[.slice A n c]) Tryz.func26 rfl rfl (by simp) ?_;refine sr (aL (aa (ai (sr (mL (aK ?_))))));refine bT (mB (gT (mL ?_)));refine aP rfl rfl ?_;refine bA hh (hcnt _ (hS.ext hh.below)) rfl ?_;intro w16 hh;refine gT ?_;refine di ?_;refine dX ?_;refine wc ?_;refine DN ?_;intro w19 hh;refine tH ?_;intro b20 w20 hh;refine tE ?_;refine bC [3,5,6,8,10,23,24,25,26,27,28,29,30,31,32,33,34,35,36,37,38,39,40,41,42,43,44,45,46,47,48,49,50] 3 23
  (fun v3 v w'=>∃(i c3:Nat) (B:Option Addr),i≤n∧v=.int .i64 i∧v3=.slice B (aA (ns.take i)) c3∧Hp w [.row B (aA (ns.take i)) c3 40 3 (aD NR.cells (Ko (ns.take i)))] w')
  (fun _ v _=>n-(intOf v).toNat) ?_ ?_
 ·exact ⟨0,_,_,YD _,rfl,rfl,hh⟩
 ·clear hh;rintro ρ' v3 v w' ⟨i,c3,B,hi,rfl,rfl,hh⟩;by_cases hlt:i<n
  ·obtain ⟨d,hd⟩:=ao (l:=ns) (k:=i) Yv;have hgi:=cL (iG hd);have hd127:=hlow d (YF hd);have htl:(ns.take i).length≤12:=by rw [YW];omega
   have htw:∀d∈ns.take i,d≤127:=fun d hd=>hlow d (aau hd);have hct:=j7 ns (i+1);have hct2:=j7 ns i;have hstep:aA (ns.take (i+1))=aA (ns.take i)*(d+1):=by rw [aC hd,eN];simp [aA]
   have hsnoc:Ko (ns.take (i+1))=(OC (ns.take i) d (aA (ns.take i))).map fun k=>nR (nD k):=by
    unfold Ko OC;rw [aC hd,NO,YG (l:=ET (ns.take i)) (by rw [Gu];exact YE _)]
   generalize hds:ns.take i=ds at*;generalize hN:aA ds=N at*;obtain ⟨ad,rfl,hr⟩:=hS.at_ Yv;refine sr ?_;refine eC ?_;refine cE ?_;refine wR ?_;refine aI (aa (sr (aL (aa (ai (sr (mL (aK (mI (aa (av ?_)))))))))));replace hh:=hh.cN 40 3;refine bC [6,8,10,29,30,31,32,33,34,35,36,37,38,39,40,41,42,43,44,45,46,47,48] 6 29
    (fun v6 v w'=>∃(j c6:Nat) (C:Option Addr),j≤N∧v=.int .i64 j∧v6=.slice C (j*(d+1)) c6∧Hp w [.row C (j*(d+1)) c6 40 3 (aD NR.cells ((OC ds d j).map fun k=>nR (nD k))),.row B N c3 40 3 (aD NR.cells (Ko ds))] w')
    (fun _ v _=>N-(intOf v).toNat) ?_ ?_
   ·refine ⟨0,0,none,YD _,rfl, ?_, ?_⟩
    ·rw [aba];rfl
    ·rw [aba];exact hh
   ·clear hh;rintro ρ2 v6 v w2 ⟨j,c6,C,hj,rfl,rfl,hh⟩;by_cases hjN:j<N
    ·obtain ⟨x,hx⟩:=ao (l:=ET ds) (k:=j) (by rw [Gu];omega);have hx2:(Ko ds)[j]?=some (nR (nD x)):=by unfold Ko;rw [YN,hx];rfl
     have zx:=U2 (YF hx) htl htw;have hj1:(j+1)*(d+1)≤N*(d+1):=ZH _ hjN;rw [ZE] at hj1;obtain ⟨go,rfl⟩:=hh.cK (i:=1) rfl Yv;refine sr ?_;refine eC ?_;refine nQ ?_;refine cG (vs:=[_,_,_]) aU.out rfl (hh.iu (f:=NR.cells) (x:=nR (nD x)) (l:=Ko ds) (i:=1) rfl NR.len Yw hx2) rfl Yw ?_;refine bW hh ?_;intro b8 w8 hh;refine bV hh 0 [_,_,_] ?_;intro ws hh;replace hh:Hp _ (.blk _ _ [_,_,_] _::_) _:=hh;refine aa (sr (mI ?_));refine aJ (l5 d _ (hT.hp hh) hd127) aw.out rfl Yw ?_;rintro e_ w34 ⟨A34,c34,rfl,hown_,hb_⟩;refine ⟨_,rfl, ?_⟩;replace hh:=hh.aY (x:=.row _ _ _ _ _ _) hb_ hown_;refine aK (mI (aa (av ?_)));refine bC [6,10,36,37,38,39,40,41,42,43,44,45,46,47] 6 36
      (fun v6 v w'=>∃(k c6:Nat) (C:Option Addr),k≤d+1∧v=.int .i64 k∧v6=.slice C (j*(d+1)+k) c6∧Hp w [.row A34 (d+1) c34 40 3 (aD NR.cells (mz d)),.blk b8 40 [.bool (nR (nD x)).neg,.string (nR (nD x)).bj,.int .i64 (nR (nD x)).e] (0,0),.row C (j*(d+1)+k) c6 40 3 (aD NR.cells ((OC ds d j++((ue d).take k).map (x* ·)).map fun k=>nR (nD k))),.row (some ⟨go,0,none⟩) N c3 40 3 (aD NR.cells (Ko ds))] w')
      (fun _ v _=>d+1-(intOf v).toNat) ?_ ?_
     ·refine ⟨0,c6,C,YD _,rfl,rfl, ?_⟩;rw [ZS,Zp,Y9];exact hh
     ·clear hh;rintro ρ3 v6 v w3 ⟨k,c6,C,hk,rfl,rfl,hh⟩;by_cases hkd:k<d+1
      ·have hb1:=zJ (n:=d) (k:=k) Yv;have hb2:=lB (n:=d) (k:=k) Yv;have zb:=sA d k hd127;have hmul:=fun A cc w1 hT1 hS1=>fS A 2 cc [nR (nD x),nR (nD (bin d k))] w1 hT1 hS1 (by simpa using ⟨zx.ok Yv,zb.ok Yv⟩) 1600 (by simpa [cj] using ⟨zx,zb.mono Yv⟩) Yv Yv;rw [show iZ ([nR (nD x),nR (nD (bin d k))].map NR.d)=nD (x*bin d k) by rw [TI];show 1*(nR (nD x)).d*(nR (nD (bin d k))).d=_;rw [cj,cj,aaJ]] at hmul;obtain ⟨ga,rfl⟩:=hh.cK (i:=0) rfl Yv;refine sr ?_;refine eC ?_;refine dn (k:=k) bo.out aU.size rfl rfl Yv Yv Yw ?_;refine cG (vs:=[_,_,_]) aU.out rfl (hh.iu (f:=NR.cells) (x:=nR (nD (bin d k))) (l:=mz d) (i:=0) rfl NR.len Yw hb2) rfl Yw ?_;refine bW hh ?_;intro b10 w10 hh;refine bV hh 0 [_,_,_] ?_;intro ws hh;replace hh:Hp _ (.blk _ _ [_,_,_] _::_) _:=hh;refine aa (ar (mL ?_));refine cC hh 2 [_,_,_] ?_;refine cC hh 0 [_,_,_] ?_;refine zA ?_;intro b43 w43 hh;refine bA hh (hmul _ _ _ (hT.hp hh) (hh.aG (i:=0) rfl)) rfl ?_;intro w44 hh;refine tH ?_;intro b45 w45 hh
       refine cd hh (i:=5) rfl rfl rfl (hh.aG (i:=0) rfl) bo.out aU.out rfl Yw (by first|rfl|exact dv _|exact cR _|exact br _|exact bD NR.one _) Yv Yv Yw ?_;intro A46 c46 w46 hh;simp only [YM,Zg] at hh;replace hh:=hh.sub (Zi _ _);refine mE ?_;refine bm (mI (aE (aj ?_)));replace hh:=hh.sub (YI _ (YI _ (YC _ (YC _ (YC _ (YC _ Y5))))));refine ⟨⟨k+1,c46,A46,Yv,rfl,rfl, ?_⟩,by show d+1-(k+1)<d+1-k;omega, ?_⟩
       ·have e:(OC ds d j++((ue d).take (k+1)).map (x* ·)).map (fun k=>nR (nD k))=(OC ds d j++((ue d).take k).map (x* ·)).map (fun k=>nR (nD k))++[nR (nD (x*bin d k))]:=by rw [aC hb1];simp
        rw [e,bZ];exact hh
       ·exact dO
      ·obtain rfl:k=d+1:=Yv;rw [YG (by rw [wX];omega),←NH hx] at hh;refine sr ?_;refine C9 ?_;refine bm (mI (aE (aj ?_)));replace hh:=hh.sub (YI _ (YI _ (YC _ (YC _ Y5))));refine ⟨⟨j+1,c6,C,Yv,rfl, ?_, ?_⟩,by show N-(j+1)<N-j;omega, ?_⟩
       ·rw [ZE];rfl
       ·rw [ZE];exact hh
       ·exact dO
    ·obtain rfl:j=N:=Yv;rw [←hsnoc,←hstep] at hh;rw [←hstep];refine sr ?_;refine a8 (aa (ai (cF (a6 (aH (aH (bB (aj (ar (mL (aL (aE (bM (aj (ar ?_)))))))))))))));refine bm (mI (aE (aj ?_)));replace hh:=hh.sub (YC _ (YI _ Y5));refine ⟨⟨i+1,c6,C,Yv,rfl,rfl,hh⟩,by show n-(i+1)<n-i;omega, ?_⟩;exact dO
  ·obtain rfl:i=n:=Yv;rw [YG Yv] at hh ⊢;exact T5
def ke (d r:Nat) (t:Dyadic):Dyadic:=t^r*(1-t)^(d-r)
def kj:List Nat→List Nat→List Dyadic→Dyadic
 |d::ds,r::rs,t::ts=>ke d r t*kj ds rs ts
 |_,_,_=>1
def nB (ds:List Nat) (xs:List Dyadic) (ts:List Dyadic):Dyadic:=sm (List.range (aA ds)) fun p=>(xs[p]?).getD 0*kj ds (dy ds p) ts
def mH (d:Nat) (t:Dyadic) (m:Nat) (xs:List Dyadic):List Dyadic:=(List.range m).map fun q=>sm (List.range (d+1)) fun r=>(xs[r+(d+1)*q]?).getD 0*ke d r t
def qe:List Nat→List Dyadic→List Dyadic→List Dyadic
 |d::ds,t::ts,xs=>qe ds ts (mH d t (aA ds) xs)
 |_,_,xs=>xs
theorem te (d:Nat) (t:Dyadic) (m:Nat) (xs:List Dyadic):(mH d t m xs).length=m:=by simp [mH]
theorem yO:∀(ds:List Nat) (ts xs:List Dyadic),ts.length=ds.length→xs.length=aA ds→qe ds ts xs=[nB ds xs ts]
 |[],[],xs,_,h=>by
  match xs,h with
  |[x],_=>
   show [x]=[x*1+0];congr 1;grind
 |d::ds,t::ts,xs,h1,h2=>by
  rw [qe,yO ds ts _ (by simpa using h1) (te _ _ _ _)];unfold nB;rw [Ip];congr 1;refine bY fun q hq=> ?_;have hq2:=ZA.1 hq;have:(mH d t (aA ds) xs)[q]?=some (sm (List.range (d+1)) fun r=>(xs[r+(d+1)*q]?).getD 0*ke d r t):=by
   unfold mH;rw [YN,Zx hq2]
   rfl
  rw [this,ZY,←oI];refine bY fun r hr=> ?_;have hr2:=ZA.1 hr;rw [dy,aaD,Zk hr2,Z3 _ _ Yv,ZG hr2,Y0,kj];grind
theorem oZ (t:Dyadic) (a b:Nat):t^(a+b)=t^a*t^b:=by
 induction b with
 |zero=>rw [aab];grind
 |succ b ih=>rw [←abk];grind
theorem Vt (n:Nat) (a b:Dyadic):sm (List.range (n+1)) (fun k=>nD (bin n k)*a^k*b^(n-k))=(a+b)^n:=by
 induction n with
 |zero=>show nD 1*a^0*b^0+0=(a+b)^0;rw [FF];grind
 |succ n ih=>
  have e2:∀k,nD (bin (n+1) (k+1))*a^(k+1)*b^(n+1-(k+1))=nD (bin n k)*a^k*b^(n-k)*a+nD (bin n (k+1))*a^(k+1)*b^(n-k):=fun k=>by
   rw [bin,Az,show n+1-(k+1)=n-k by omega];grind
  rw [DJ,bY (g:=fun k=>nD (bin n k)*a^k*b^(n-k)*a+nD (bin n (k+1))*a^(k+1)*b^(n-k)) fun k _=>e2 k,vu,oI,ih,rL];have e3:sm (List.range (n+1)) (fun k=>nD (bin n (k+1))*a^(k+1)*b^(n-k))=sm (List.range n) (fun k=>nD (bin n (k+1))*a^(k+1)*b^(n-(k+1)))*b:=by
   rw [aas,jo,uq (show n<n+1 by omega),GB,←oI];have:∀x y:Dyadic,x+0*y*b^(n-n)=x:=fun x y=>by grind
   rw [this];refine bY fun k hk=> ?_;have hk2:=ZA.1 hk;rw [show n-k=(n-(k+1))+1 by omega];grind
  have e4:(a+b)^n=nD 1*a^0*b^(n-0)+sm (List.range n) (fun k=>nD (bin n (k+1))*a^(k+1)*b^(n-(k+1))):=by
   rw [←ih,DJ,rL]
  rw [e3];have e5:(a+b)^(n+1)=(a+b)^n*a+(a+b)^n*b:=by grind
  rw [e5];generalize hS:sm (List.range n) (fun k=>nD (bin n (k+1))*a^(k+1)*b^(n-(k+1)))=S at*;rw [e4,show n+1-0=n+1 by omega,show n-0=n by omega,FF];grind
def sR:List Nat→(List Nat→Dyadic)→Dyadic
 |[],F=>F []
 |d::ds,F=>sm (List.range (d+1)) fun r=>sR ds fun row=>F (r::row)
theorem M6:∀(ds:List Nat) (F:List Nat→Dyadic),sm (List.range (aA ds)) (fun p=>F (dy ds p))=sR ds F
 |[],F=>by show F []+0=F [];grind
 |d::ds,F=>by
  rw [Ip,uB,sR];refine bY fun r hr=> ?_;have hr2:=ZA.1 hr;rw [←M6 ds];refine bY fun q _=> ?_;rw [dy,aaD,Zk hr2,Z3 _ _ Yv,ZG hr2,Y0]
theorem mw:∀{ds:List Nat}{F G:List Nat→Dyadic},(∀row,nx ds row→F row=G row)→sR ds F=sR ds G
 |[],F,G,h=>h [] trivial
 |d::ds,F,G,h=>by
  rw [sR,sR];refine bY fun r hr=>mw fun row hrow=>h _ ⟨by have:=ZA.1 hr;omega,hrow⟩
theorem St {α:Type}:∀(ds:List Nat) (l:List α) (F:α→List Nat→Dyadic),sR ds (fun row=>sm l fun a=>F a row)=sm l fun a=>sR ds (F a)
 |[],_,_=>rfl
 |d::ds,l,F=>by
  rw [sR];simp only [sR];rw [uB l,bY fun r _=>St ds l fun a row=>F a (r::row)]
theorem AF:∀(ds:List Nat) (F:List Nat→Dyadic) (c:Dyadic),sR ds (fun row=>F row*c)=sR ds F*c
 |[],_,_=>rfl
 |d::ds,F,c=>by
  rw [sR,sR,←oI];exact bY fun r _=>AF ds _ c
def iq (ds:List Nat) (a:Nat) (M:Nat→Nat→Dyadic) (xs:List Dyadic):List Dyadic:=
 (List.range (aA ds)).map fun p=>sm (List.range (ds.getD a 0+1)) fun i=>co ds xs ((dy ds p).set a i)*M i ((dy ds p).getD a 0)
theorem qi (ds:List Nat) (a:Nat) (M:Nat→Nat→Dyadic) (xs:List Dyadic):(iq ds a M xs).length=aA ds:=by simp [iq]
theorem y3 {row:List Nat} (a:Nat) (M:Nat→Nat→Dyadic) (xs:List Dyadic) (h:nx ds row):co ds (iq ds a M xs) row=sm (List.range (ds.getD a 0+1)) fun i=>co ds xs (row.set a i)*M i (row.getD a 0):=by
 rw [GA h];unfold iq;rw [YN,Zx (oR h)];simp only [Z0,ZY,jn h]
theorem Ig:∀{ds row:List Nat}{a i:Nat},nx ds row→i≤ds.getD a 0→nx ds (row.set a i)
 |[],[],_,_,_,_=>trivial
 |d::ds,r::rs,0,i,h,hi=>⟨hi,h.2⟩
 |d::ds,r::rs,a+1,i,h,hi=>⟨h.1,Ig (a:=a) h.2 (by simpa using hi)⟩
def WS (d:Nat) (s:Dyadic) (i k:Nat):Dyadic:=if k<i then 0 else nD (bin (d-i) (k-i))*s^i*(1-s)^(k-i)
def WO (d:Nat) (s:Dyadic) (i k:Nat):Dyadic:=if i<k then 0 else nD (bin i (i-k))*s^(i-k)*(1-s)^(d-i)
theorem VF (d i:Nat) (hi:i≤d) (f:Nat→Dyadic):sm (List.range (d+1)) (fun k=>if k<i then 0 else f (k-i))=sm (List.range (d-i+1)) f:=by
 obtain ⟨m,rfl⟩:∃m,d=i+m:=⟨d-i,Yv⟩;rw [show i+m-i+1=m+1 by omega,show i+m+1=i+(m+1) by omega,List.range_add,mb,kg,kp fun k hk=>by rw [YA (ZA.1 hk)]];have:∀x:Dyadic,0+x=x:=fun x=>by grind
 rw [this];exact bY fun k _=>by rw [YB Yv,Nat.add_sub_cancel_left]
theorem PO (ds:List Nat) (xs ts:List Dyadic):nB ds xs ts=sR ds fun row=>co ds xs row*kj ds row ts:=by
 rw [←M6];unfold nB;exact bY fun p hp=>by rw [xj (ZA.1 hp)]
variable {q:Nat}
theorem tX:∀(A B:List Nat) (p:Nat),dy (A++B) p=dy A p++dy B (p/aA A)
 |[],B,p=>by rw [YH,aA,Nat.div_one];rfl
 |d::A,B,p=>by rw [YJ,dy,dy,tX A B,aA,aae];rfl
theorem Ck:∀(A:List Nat) (f q:Nat),dy A (f+aA A*q)=dy A f
 |[],_,_=>rfl
 |d::A,f,q=>by
  rw [dy,dy,aA,Zw,aaD,Z3 _ _ Yv,Ck A]
section
variable {A B:List Nat}{d:Nat}
def dK (A:List Nat) (d f k q:Nat):Nat:=f+aA A*(k+(d+1)*q)
theorem u7 {f:Nat} (hf:f<aA A) (hk:k≤d) (hq:q<aA B):dK A d f k q<aA (A++d::B):=by
 rw [eN,aA,dK];have h1:k+(d+1)*q+1≤(d+1)*aA B:=by
  have:(d+1)*(q+1)≤(d+1)*aA B:=Zc _ hq;rw [aad] at this;omega
 have h2:=Zc (aA A) h1;rw [aad] at h2;omega
theorem yv {f:Nat} (hf:f<aA A) (hk:k≤d):dy (A++d::B) (dK A d f k q)=dy A f++k::dy B q:=by
 unfold dK;rw [tX,Ck,Z3 _ _ (df A),ZG hf,Y0,dy,aaD,Zk Yv,Z3 _ _ Yv,ZG Yv,Y0]
theorem Fj {p:Nat} (h:p<aA (A++d::B)):∃f k q,f<aA A∧k≤d∧q<aA B∧p=dK A d f k q:=by
 rw [eN,aA] at h;have hA:=df A;refine ⟨p % aA A,p/aA A % (d+1),p/aA A/(d+1),Y8 _ hA,by have:=Y8 (p/aA A) (show 0<d+1 by omega);omega, ?_, ?_⟩
 ·rw [Z2 Yv,Z2 hA,Za,Za (aA B)];exact h
 ·unfold dK;rw [abe,abe]
theorem CP (x y:List Nat) (k:Nat):(x++k::y).getD x.length 0=k:=by
 rw [Zo,ZQ (YE _),Zu]
 rfl
theorem Fg (x y:List Nat) (k i:Nat):(x++k::y).set x.length i=x++i::y:=by
 rw [aaI _ _ (YE _),Zu,YM]
def fT (A:List Nat) (d:Nat) (xs:List Dyadic) (f q:Nat):List Dyadic:=(List.range (d+1)).map fun i=>(xs[dK A d f i q]?).getD 0
theorem Mv {f:Nat} (M:Nat→Nat→Dyadic) (xs:List Dyadic) (hf:f<aA A) (hk:k≤d) (hq:q<aA B):
  (iq (A++d::B) A.length M xs)[dK A d f k q]?=some (sm (List.range (d+1)) fun i=>(xs[dK A d f i q]?).getD 0*M i k):=by
 have hp:=u7 (B:=B) hf hk hq;unfold iq;rw [YN,Zx hp];simp only [Z0];rw [yv hf hk,CP];have hl:=u6 A f;rw [show ((dy A f++k::dy B q).getD A.length 0)=k by rw [←hl];exact CP _ _ _];congr 1;refine bY fun i hi=> ?_;have hi2:i≤d:=by have:=ZA.1 hi;omega
 rw [show (dy A f++k::dy B q).set A.length i=dy A f++i::dy B q by rw [←hl];exact Fg _ _ _ _,←yv (B:=B) hf hi2,xj (u7 hf hi2 hq)]
end
def Wv (ns:List Nat):Bool:=ns.any (fun d=>decide (127<d))||decide (4096<aA ns)
theorem MU:∀{ds rs:List Nat}{k d r:Nat},nx ds rs→ds[k]?=some d→rs[k]?=some r→r≤d
 |[],_,_,_,_,_,h,_=>by simp at h
 |_::_,[],_,_,_,_,_,h=>by simp at h
 |d::ds,r::rs,0,_,_,h,h1,h2=>by
  simp only [abf,aaf] at h1 h2;subst h1 h2;exact h.1
 |d::ds,r::rs,k+1,_,_,h,h1,h2=>MU (k:=k) h.2 (by simpa using h1) (by simpa using h2)
def Tx (a b:List Nat):List Nat:=List.zipWith (· + ·) a b
theorem MI (N:Nat):gu N [.bool false,.string (ByteArray.mk #[]),.int .i64 0]=aD NR.cells ((pO N []).map nR):=by
 rw [vL,List.map_replicate]
 induction N with
 |zero=>rfl
 |succ n ih=>rw [aax,g6,←ih];rfl
def XS (ds es:List Nat) (xs ys:List Dyadic) (k:Nat):List (Nat×Dyadic):=
 (List.range k).flatMap fun k=>(List.range (aA ds)).map fun i=>(iI (Ey ds es) (Ey (dy ds i) (dy es k)),(xs[i]?).getD 0*(ys[k]?).getD 0)
def UR (ns ms:List Nat) (xs ys:List Dyadic):List Dyadic:=pO (aA (Tx ns ms)) (XS ns.reverse ms.reverse xs ys (aA ms))
variable {w w':World}
structure FX where
 A:Option Addr
 n:Nat
 a:Nat
 B:Option Addr
 m:Nat
 b:Nat
 ds:List Int
 cs:List NR
def FX.cells (f:FX):List Value:=[.slice f.A f.n f.a,.slice f.B f.m f.b]
def FX.v (f:FX):Value:=.agg #[.slice f.A f.n f.a,.slice f.B f.m f.b]
structure FX.at_ (f:FX) (w:World):Prop where
 dg:Sl w f.A f.n 1 (bQ f.ds)
 nm:Sl w f.B f.m 3 (aD NR.cells f.cs)
theorem FX.at_.ext {f:FX} (h:f.at_ w) (hb:Below w.heap.size w w'):f.at_ w':=⟨h.dg.ext hb,h.nm.ext hb⟩
structure FX.j8 (f:FX) (k:Nat):Prop where
 V2:f.n≤1000
 XJ:f.m≤100000
 num:∀c∈f.cs,c.ok∧Sz k c.d
def FX.e (f:FX):Int:=fE f.ds f.cs
theorem uC (f:FX) (k:Nat) (w:World) (hT:e8 w) (h:f.at_ w) (hl:f.j8 k):
  Calls Tryz.prog 13 #[.agg #[.slice f.A f.n f.a,.slice f.B f.m f.b]] w fun r w'=>r=.returned (.int .i64 f.e)∧Below w.heap.size w w':=
 xC f.A f.B f.n f.a f.m f.b f.ds f.cs w hT h.dg h.nm (by have:=hl.V2;omega) (by have:=hl.XJ;omega) fun a ha=>(hl.num a ha).1
def Xa (fs:List FX):Bool:=fs.any fun f=>decide (f.n≠(fs.map FX.n).headD 0)
def GY (fs:List FX):Int:=match fs.find? (fun f=>decide (f.e≠0)) with|some f=>f.e|none=>if fs.length=0∨Xa fs=true then 1 else 0
variable {W:World}{b0 base fuel:Nat}{cs:List Value}{held:Bool}{sp:Nat→Bool}
open Go.ChangeShapes Go.WideShapes Go.ChangeAt Go.RowKit Go.ChangeMaps
set_option maxRecDepth 100000 in
theorem Gk {H:Type}{enc:TypeId×Value→H}{x:DataW H×List MemPlace} (h:DataW.trod enc Tryz.prog W base sp held fuel 33 cs=some x):
  ∃f:FX,cs=f.cells∧f.at_ W:=by
 have c0:Tryz.prog.cellsOf 33=2:=by kernel_rfl
 have c1:Tryz.prog.cellsOf 31=1:=by kernel_rfl
 have c2:Tryz.prog.cellsOf 27=1:=by kernel_rfl
 obtain ⟨y0,y1,n,_,hl,h0,h1⟩:=trod_struct2 Tryz.underlying33 h;obtain ⟨A,n,a,l,e0,s0,_⟩:=vA IC.len Yw Tryz.underlying31 Yx (fun _ _ _ h=>Jw h) h0;obtain ⟨B,m,b,k,e1,s1,_⟩:=vA NR.len Yw Tryz.underlying27 Yx (fun _ _ _ h=>pC h) h1;rw [OH] at s0;rw [c0] at hl
 match cs,hl with
 |[x0,x1],_=>
  simp only [c1,c2] at e0 e1;simp at e0 e1;subst e0 e1;exact ⟨⟨A,n,a,B,m,b,l,k⟩,rfl,s0,s1⟩
set_option maxRecDepth 100000 in
theorem II {H:Type}{enc:TypeId×Value→H}{r:Reach}{v:Value}{d:DataW H}{ps:List MemPlace}
  (hval:Value.okWide Tryz.prog W r b0 33 v) (hd:DataW.Trod enc Tryz.prog W base sp held 33 v d ps):∃f:FX,v=.agg #[.slice f.A f.n f.a,.slice f.B f.m f.b]∧f.at_ W:=by
 obtain ⟨cs,rfl,_⟩:=okWide_struct Tryz.underlying33 hval;obtain ⟨fuel,hf⟩:=hd;obtain ⟨f,h1,h2⟩:=Gk hf;refine ⟨f, ?_,h2⟩;have h3:cs.toList=f.cells:=h1;rw [←Array.toList_inj.1 (show cs.toList=(#[.slice f.A f.n f.a,.slice f.B f.m f.b]:Array Value).toList from h3)]
def fm (d:Nat) (a b:Dyadic) (i k:Nat):Dyadic:=if k<i then 0 else nD (bin (d-i) (k-i))*a^i*b^(k-i)
def iX (xs:List Dyadic) (i:Nat):Dyadic:=(xs[i]?).getD 0
def lS (d:Nat) (M:Nat→Nat→Dyadic) (xs:List Dyadic):List Dyadic:=(List.range (d+1)).map fun k=>sm (List.range (d+1)) fun i=>iX xs i*M i k
def jl (d:Nat) (a b:Dyadic) (xs:List Dyadic) (i j:Nat):List Dyadic:=(List.range (d+1)).map fun k=>sm (List.range i) (fun m=>iX xs m*fm d a b m k)+if i≤k∧k<i+j then iX xs i*fm d a b i k else 0
theorem k8 (d:Nat) (a b:Dyadic) (xs:List Dyadic) (i j:Nat):(jl d a b xs i j).length=d+1:=by simp [jl]
theorem wO (d:Nat) (a b:Dyadic) (xs:List Dyadic):jl d a b xs 0 0=List.replicate (d+1) 0:=by
 unfold jl;refine List.eq_replicate_iff.2 ⟨by simp,fun x hx=> ?_⟩;obtain ⟨k,_,rfl⟩:=YR.1 hx;rw [YB Yv,aaK]
 rfl
theorem Bn {d i:Nat}{a b:Dyadic} (h:k≤d):(jl d a b xs i j)[k]?=some (sm (List.range i) (fun m=>iX xs m*fm d a b m k)+if i≤k∧k<i+j then iX xs i*fm d a b i k else 0):=by
 unfold jl;exact NU
theorem Df {d i:Nat}{a b:Dyadic}{o:Dyadic} (h:i+j≤d) (ho:(jl d a b xs i j)[i+j]?=some o):(jl d a b xs i j).set (i+j) (o+iX xs i*fm d a b i (i+j))=jl d a b xs i (j+1):=by
 rw [Bn h,YB Yv,aaK] at ho;have ho:=Zl ho;subst ho;refine ZN fun k=> ?_;rw [aal,k8];by_cases hk:k≤d
 ·rw [Bn hk,Bn hk];by_cases e:i+j=k
  ·subst e;rw [YA rfl,YA Yv,YA Yv]
  ·rw [YB e];by_cases h2:i≤k∧k<i+j
   ·rw [YA h2,YA Yv]
   ·rw [YB h2,YB Yv]
 ·rw [YB Yv,Y7 (by rw [k8];omega),Y7 (by rw [k8];omega)]
theorem JP {d i:Nat}{a b:Dyadic} (h:i≤d):jl d a b xs i (d-i+1)=jl d a b xs (i+1) 0:=by
 unfold jl;refine aaB fun k hk=> ?_;have hk:=ZA.1 hk;rw [YB (show ¬(i+1≤k∧k<i+1+0) by omega),aaK,aas,jo];by_cases h2:i≤k
 ·rw [YA Yv]
 ·rw [YB Yv];unfold fm;rw [YA (show k<i by omega),abx]
theorem xP (d:Nat) (a b:Dyadic) (xs:List Dyadic):jl d a b xs (d+1) 0=lS d (fm d a b) xs:=by
 unfold jl lS;refine aaB fun k _=> ?_;rw [YB Yv,aaK]
theorem Sz.CF {a:Dyadic} (h:Sz q a) {i d:Nat} (hi:i≤d):Sz (1+q*d) (a^i):=(Sz.pow h i).mono (by have:=Zc q hi;omega)
theorem Br {d i:Nat}{a b:Dyadic} (ha:Sz q a) (hb:Sz q b) (hd:d≤127) (hk:k≤d):Sz (130+2*(q*d)) (fm d a b i k):=by
 unfold fm;split
 ·exact Sz.zero _
 ·refine (((sA (d-i) (k-i) Yv).mul (ha.CF (show i≤d by omega))).mul (hb.CF (show k-i≤d by omega))).mono Yv
theorem Aa (h:∀x∈xs,Sz k x) (i:Nat):Sz k (iX xs i):=by
 unfold iX
 cases hx:xs[i]? with
 |none=>exact Sz.zero _
 |some x=>exact h x (YF hx)
theorem Hi {d i K:Nat}{a b:Dyadic} (hx:∀x∈xs,Sz K x) (ha:Sz q a) (hb:Sz q b) (hd:d≤127) (hi:i≤d+1):∀x∈jl d a b xs i j,Sz (K+130+2*(q*d)+130) x:=fun x hx2=>by
 obtain ⟨k,hk,rfl⟩:=YR.1 hx2;have hk:=ZA.1 hk;have h1:∀m,Sz (K+(130+2*(q*d))) (iX xs m*fm d a b m k):=fun m=>(Aa hx m).mul (Br ha hb hd Yv);have h2:=Cr (l:=List.range i) (f:=fun m=>iX xs m*fm d a b m k) (k:=K+(130+2*(q*d))) fun m _=>h1 m;rw [aav] at h2;refine (h2.add (y:=if i≤k∧k<i+j then iX xs i*fm d a b i k else 0) ?_).mono Yv;split
 ·exact (h1 i).mono Yv
 ·exact Sz.zero _
section
variable (A:List Nat) (d:Nat) (φ:List Dyadic→List Dyadic)
def X6 (X:List Dyadic) (q f i:Nat):List Dyadic:=(List.range X.length).map fun p=>
 if p/aA A/(d+1)=q∧(p % aA A<f∨p % aA A=f∧p/aA A % (d+1)<i) then iX (φ (fT A d X (p % aA A) q)) (p/aA A % (d+1)) else iX X p
def XH (X:List Dyadic) (q:Nat):List Dyadic:=X6 A d φ X q (aA A) 0
end
section
variable {A:List Nat}{d:Nat}{φ:List Dyadic→List Dyadic}{X:List Dyadic}
theorem uF {f:Nat} (hf:f<aA A) (hk:k≤d):dK A d f k q % aA A=f∧dK A d f k q/aA A % (d+1)=k∧dK A d f k q/aA A/(d+1)=q:=by
 unfold dK;have hA:=df A;rw [aaD,Zk hf,Z3 _ _ hA,ZG hf,Y0,aaD,Zk Yv,Z3 _ _ Yv,ZG Yv,Y0];exact ⟨rfl,rfl,rfl⟩
theorem Bf (p:Nat):dK A d (p % aA A) (p/aA A % (d+1)) (p/aA A/(d+1))=p:=by
 unfold dK;rw [abe,abe]
theorem Cy {l:List Dyadic} (h:k<l.length):l[k]?=some (iX l k):=by
 unfold iX;rw [Z1 h]
 rfl
def Yk (A:List Nat) (d:Nat) (B:List Nat) (M:Nat→Nat→Dyadic) (xs:List Dyadic) (j:Nat):List Dyadic:=(List.range xs.length).map fun p=>if p/aA A/(d+1)<j then iX (iq (A++d::B) A.length M xs) p else iX xs p
end
section
variable (A:List Nat) (d L:Nat) (φ:List Dyadic→List Dyadic)
def l6 (p:Nat):Nat:=dK A d (p % aA A) 0 (p/aA A/(d+1))
def jN (X:List Dyadic) (F i:Nat):List Dyadic:=(List.range X.length).map fun p=>
 if p/aA A % (d+1)<L∧(l6 A d p<F∨l6 A d p=F∧p/aA A % (d+1)<i) then iX (φ (fT A d X (p % aA A) (p/aA A/(d+1)))) (p/aA A % (d+1)) else iX X p
end
section
variable {A:List Nat}{d L:Nat}{φ:List Dyadic→List Dyadic}{X:List Dyadic}
theorem iE (F i:Nat):(jN A d L φ X F i).length=X.length:=by simp [jN]
theorem pd {F i p:Nat} (h:p<X.length):(jN A d L φ X F i)[p]?=some (if p/aA A % (d+1)<L∧(l6 A d p<F∨l6 A d p=F∧p/aA A % (d+1)<i) then iX (φ (fT A d X (p % aA A) (p/aA A/(d+1)))) (p/aA A % (d+1)) else iX X p):=by
 unfold jN;rw [YN,Zx h]
 rfl
theorem Ef {F i G:Nat} (h:∀p,p<X.length→p/aA A % (d+1)<L→((l6 A d p<F∨l6 A d p=F∧p/aA A % (d+1)<i)↔(l6 A d p<G∨l6 A d p=G∧p/aA A % (d+1)<j))):jN A d L φ X F i=jN A d L φ X G j:=by
 refine ZN fun p=> ?_;by_cases hp:p<X.length
 ·rw [pd hp,pd hp];congr 1;by_cases hL:p/aA A % (d+1)<L
  ·by_cases h1:l6 A d p<F∨l6 A d p=F∧p/aA A % (d+1)<i
   ·rw [YA ⟨hL,h1⟩,YA ⟨hL,(h p hp hL).1 h1⟩]
   ·rw [YB (fun h=>h1 h.2),YB (fun h2=>h1 ((h p hp hL).2 h2.2))]
  ·rw [YB (fun h=>hL h.1),YB (fun h=>hL h.1)]
 ·rw [Y7 (by rw [iE];omega),Y7 (by rw [iE];omega)]
theorem I2:jN A d L φ X 0 0=X:=by
 refine ZN fun p=> ?_;by_cases h:p<X.length
 ·rw [pd h,YB Yv,Cy h]
 ·rw [Y7 (by rw [iE];omega),Y7 Yv]
theorem ES {f:Nat} (hf:f<aA A):dK A d f 0 q % aA A=f∧dK A d f 0 q/aA A % (d+1)=0∧dK A d f 0 q/aA A/(d+1)=q:=uF hf (YD _)
theorem Kf {f:Nat} (hf:f<aA A) (hk:k≤d):l6 A d (dK A d f k q)=dK A d f 0 q:=by
 obtain ⟨h1,_,h3⟩:=uF (q:=q) hf hk;unfold l6;rw [h1,h3]
theorem IJ {F:Nat} (h:F/aA A % (d+1)≠0):jN A d L φ X F 0=jN A d L φ X (F+1) 0:=Ef fun p _ _=>by
 have hne:l6 A d p≠F:=fun e=>by
  have:=(ES (d:=d) (q:=p/aA A/(d+1)) (Y8 p (df A))).2.1;unfold l6 at e;rw [e] at this;exact h this
 omega
theorem JQ {F i:Nat} (h:L≤i):jN A d L φ X F i=jN A d L φ X (F+1) 0:=Ef fun p _ hL=>by omega
theorem Lu {f i:Nat} (hf:f<aA A) (hiL:i<L) (hi:i≤d):(jN A d L φ X (dK A d f 0 q) i).set (dK A d f i q) (iX (φ (fT A d X f q)) i)=jN A d L φ X (dK A d f 0 q) (i+1):=by
 obtain ⟨h1,h2,h3⟩:=uF (q:=q) hf hi;refine ZN fun p=> ?_;rw [aal,iE];by_cases hp:p<X.length
 ·rw [pd hp,pd hp];by_cases e:dK A d f i q=p
  ·subst e;rw [YA rfl,YA hp,h1,h2,h3,Kf hf hi,YA ⟨hiL,.inr ⟨rfl,Nat.lt_succ_self i⟩⟩]
  ·rw [YB e];have hne:¬(l6 A d p=dK A d f 0 q∧p/aA A % (d+1)=i):=fun ⟨a,b⟩=>by
    have e1:=ES (d:=d) (q:=p/aA A/(d+1)) (Y8 p (df A));have e2:=ES (d:=d) (q:=q) hf;unfold l6 at a;rw [a] at e1;have:=Bf (A:=A) (d:=d) p;rw [b,←e1.1,←e1.2.2,e2.1,e2.2.2] at this;exact e this
   congr 1;by_cases hL:p/aA A % (d+1)<L∧(l6 A d p<dK A d f 0 q∨l6 A d p=dK A d f 0 q∧p/aA A % (d+1)<i)
   ·rw [YA hL,YA ⟨hL.1,Yv⟩]
   ·rw [YB hL,YB (fun h=>hL ⟨h.1,Yv⟩)]
 ·rw [Y7 (by rw [iE];omega)];by_cases e:dK A d f i q=p
  ·rw [YA e,e,YB hp,Y7 (by rw [iE];omega)]
  ·rw [YB e,Y7 (by rw [iE];omega)]
theorem Jk {B:List Nat}{p:Nat} (hX:X.length=aA (A++d::B)) (hp:p<X.length):(jN A d L φ X X.length 0)[p]?=some (if p/aA A % (d+1)<L then iX (φ (fT A d X (p % aA A) (p/aA A/(d+1)))) (p/aA A % (d+1)) else iX X p):=by
 rw [pd hp];have hlt:l6 A d p<X.length:=by
  have h1:=Bf (A:=A) (d:=d) p;have h2:l6 A d p≤p:=by
   conv=>rhs;rw [←h1]
   unfold l6 dK;have:=Zc (aA A) (show 0+(d+1)*(p/aA A/(d+1))≤p/aA A % (d+1)+(d+1)*(p/aA A/(d+1)) by omega);omega
  omega
 congr 1;by_cases h:p/aA A % (d+1)<L
 ·rw [YA ⟨h,.inl hlt⟩,YA h]
 ·rw [YB (fun h2=>h h2.1),YB h]
theorem LC {B:List Nat}{M:Nat→Nat→Dyadic} (hX:X.length=aA (A++d::B)):jN A d (d+1) (lS d M) X X.length 0=iq (A++d::B) A.length M X:=by
 refine ZN fun p=> ?_;by_cases hp:p<X.length
 ·obtain ⟨f,k,q,hf,hk,hq,rfl⟩:=Fj (A:=A) (d:=d) (B:=B) (by rw [←hX];exact hp);obtain ⟨h1,h2,h3⟩:=uF (q:=q) hf hk;rw [Jk hX hp,h1,h2,h3,YA Yv];have e1:(lS d M (fT A d X f q))[k]?=some (sm (List.range (d+1)) fun i=>iX (fT A d X f q) i*M i k):=by
   unfold lS;exact NU
  rw [Mv M X hf hk hq];congr 1;show ((lS d M (fT A d X f q))[k]?).getD 0=_;rw [e1];refine bY fun i hi=> ?_;have hi:=ZA.1 hi;show ((fT A d X f q)[i]?).getD 0*_=_;unfold fT;rw [YN,Zx hi]
  rfl
 ·rw [Y7 (by rw [iE];omega),Y7 (by rw [qi,←hX];omega)]
end
theorem pE (N:Nat):gu N [.bool false,.string (ByteArray.mk #[]),.int .i64 0]=aD NR.cells ((List.replicate N (0:Dyadic)).map nR):=by
 rw [MI,vL]
theorem Sz.bj {x:Dyadic} (h:Sz k x):(nR x).bj.size≤k+1:=by have:=h.nr.1;omega
structure OZ (q:Nat) (s:NR) (x:Dyadic):Prop where
 ok:s.ok
 bj:s.bj.size≤2001
 d:s.d=x
 sz:Sz q x
theorem OZ.of {x:Dyadic} (h:Sz q x) (hq:q≤2000):OZ q (nR x) x:=⟨h.ok Yv,by have:=h.bj;omega,cj x,h⟩
def X5 (l:List Dyadic) (i:Nat):List Dyadic:=(List.range l.length).map fun k=>if k<i∨l.length≤k+i then iX l (l.length-1-k) else iX l k
variable {α:Type}
def il:List Dyadic→Dyadic→Dyadic
 |[],_=>0
 |c::cs,t=>c+t*il cs t
theorem lY {a b:Dyadic} (h:a*b=0) (ha:a≠0):b=0:=by
 refine aaF fun hb=> ?_;have key:∀x y:Dyadic,0<x→y≠0→x*y≠0:=fun x y hx hy=>by
  by_cases h0:0<y
  ·have:=Lean.Grind.OrderedRing.mul_pos hx h0;grind
  ·have hy0:0< -y:=by grind
   have:=Lean.Grind.OrderedRing.mul_pos hx hy0;grind
 by_cases h0:0<a
 ·exact key a b h0 hb h
 ·exact key (-a) b (by grind) hb (by grind)
theorem Ql (l:List Dyadic):∃a:Dyadic,∀b∈l,b<a:=by
 induction l with
 |nil=>exact ⟨0,fun b hb=>nomatch hb⟩
 |cons x l ih=>
  obtain ⟨a,ha⟩:=ih;by_cases h:a≤x
  ·refine ⟨x+1,fun b hb=> ?_⟩
   rcases YS.1 hb with rfl|hb
   ·grind
   ·have:=ha b hb;grind
  ·refine ⟨a,fun b hb=> ?_⟩
   rcases YS.1 hb with rfl|hb
   ·grind
   ·exact ha b hb
theorem z9 (a:Dyadic):∀cs:List Dyadic,∃g:List Dyadic,g.length≤cs.length-1∧(∀t,il cs t=il cs a+(t-a)*il g t)∧((∀x∈g,x=0)→il cs a=0→∀x∈cs,x=0)
 |[]=>⟨[],YE _,fun t=>by simp only [il];grind,fun _ _ x hx=>nomatch hx⟩
 |[c]=>⟨[],YE _,fun t=>by simp only [il];grind,fun _ h x hx=>by
   rw [YT.1 hx];simp only [il] at h;grind⟩
 |c::d::cs=>by
  obtain ⟨g,h1,h2,h3⟩:=z9 a (d::cs);refine ⟨il (d::cs) a::g, ?_,fun t=> ?_,fun hg h0 x hx=> ?_⟩
  ·simp only [YZ] at h1 ⊢;omega
  ·show c+t*il (d::cs) t=(c+a*il (d::cs) a)+(t-a)*(il (d::cs) a+t*il g t);rw [h2 t];generalize il (d::cs) a=A;generalize il g t=B;grind
  ·have e1:il (d::cs) a=0:=hg _ YL;have e2:=h3 (fun y hy=>hg y (YP _ hy)) e1
   rcases YS.1 hx with rfl|hx
   ·rw [il,e1] at h0;grind
   ·exact e2 x hx
theorem D0:∀(n:Nat) (cs bad:List Dyadic),cs.length≤n→(∀t,t∉bad→il cs t=0)→∀x∈cs,x=0
 |0,cs,_,hn,_=>fun x hx=>by
  rw [aaA.1 (Nat.le_zero.1 hn)] at hx
  cases hx
 |n+1,cs,bad,hn,h=>by
  obtain ⟨a,ha⟩:=Ql bad;have hab:a∉bad:=fun hb=>by have:=ha a hb;grind
  obtain ⟨g,h1,h2,h3⟩:=z9 a cs;have ha0:=h a hab;refine h3 (D0 n g (a::bad) Yv fun t ht=> ?_) ha0;rw [YS,not_or] at ht;have e1:=h2 t;rw [h t ht.2,ha0] at e1;refine lY (a:=t-a) (by grind) (fun e=>ht.1 (by grind))
theorem yY (f:Nat→Dyadic) (t:Dyadic):∀(n s:Nat),t^s*il ((List.range' s n).map f) t=sm (List.range' s n) fun r=>f r*t^r
 |0,s=>by rw [List.range'_zero];exact abx _
 |n+1,s=>by
  rw [List.range'_succ,Y1,il,sm,←yY f t n (s+1),abh];grind
theorem Bp {f:Nat→Dyadic} (h:∀t,sm (List.range n) (fun r=>f r*t^r)=0):∀r,r<n→f r=0:=fun r hr=>by
 refine D0 n ((List.range n).map f) [] (by simp) (fun t _=> ?_) (f r) (YR.2 ⟨r,ZA.2 hr,rfl⟩);have e1:=yY f t n 0;rw [←List.range_eq_range',h t] at e1;refine lY e1 ?_;rw [aaO];decide
def eU:List Nat→List Dyadic→Dyadic
 |a::s,x::xs=>x^a*eU s xs
 |_,_=>1
theorem Nl (l:List α) (k:α→Nat) (n:Nat) (hk:∀a∈l,k a<n) (f:α→Dyadic):sm l f=sm (List.range n) fun r=>sm (l.filter fun a=>decide (k a=r)) f:=by
 induction l with
 |nil=>exact (kp fun r _=>rfl).symm
 |cons a l ih=>
  rw [sm,ih fun b hb=>hk b (YP _ hb)];have e:(fun r=>sm ((a::l).filter fun b=>decide (k b=r)) f)=fun r=>(if r=k a then f a else 0)+sm (l.filter fun b=>decide (k b=r)) f:=funext fun r=>by
   by_cases h:k a=r
   ·rw [abR (by simpa using h),sm,YA h.symm]
   ·rw [abK (by simpa using h),YB (fun e=>h e.symm)];grind
  rw [e,vu,rI,YA (hk a YL)]
theorem DY:∀(v:Nat) (l:List (List Nat×Dyadic)),(∀q∈l,q.1.length=v)→(∀xs:List Dyadic,xs.length=v→sm l (fun q=>q.2*eU q.1 xs)=0)→∀a:List Nat,sm l (fun q=>if q.1=a then q.2 else 0)=0
 |0,l,hl,h,a=>by
  have h0:=h [] rfl;by_cases ha:a=[]
  ·refine Eq.trans (bY fun q hq=> ?_) h0;have e1:=aaA.1 (hl q hq);rw [e1,YA ha.symm];show q.2=q.2*1;grind
  ·exact kp fun q hq=>YB (by rw [aaA.1 (hl q hq)];exact fun e=>ha e.symm)
 |v+1,l,hl,h,a=>by
  match a with
  |[]=>exact kp fun q hq=>YB fun e=>by have:=hl q hq;rw [e] at this;cases this
  |a0::a=>
   obtain ⟨n,hn⟩:∃n,∀q∈l,q.1.headD 0<n:=by
    clear hl h
    induction l with
    |nil=>exact ⟨0,fun q hq=>nomatch hq⟩
    |cons p l ih=>
     obtain ⟨n,hn⟩:=ih;refine ⟨max n (p.1.headD 0+1),fun q hq=> ?_⟩
     rcases YS.1 hq with rfl|hq
     ·omega
     ·have:=hn q hq;omega
   have hsplit:∀(xs:List Dyadic),xs.length=v→∀r,r<n→sm (l.filter fun q=>decide (q.1.headD 0=r)) (fun q=>q.2*eU q.1.tail xs)=0:=fun xs hx=>by
    refine Bp fun t=> ?_;have e1:=h (t::xs) (by simpa using hx);rw [Nl l (fun q=>q.1.headD 0) n hn] at e1;refine Eq.trans (bY fun r _=> ?_) e1;rw [←oI];refine bY fun q hq=> ?_;obtain ⟨hq1,hq2⟩:=ZP.1 hq;have hq3:=hl q hq1;obtain ⟨qa,qc⟩:=q
    match qa,hq3 with
    |b::bs,_=>
     have hb:b=r:=by simpa using hq2
     show qc*eU bs xs*t^r=qc*(t^b*eU bs xs);rw [hb];grind
   by_cases ha0:a0<n
   ·have ih:=DY v ((l.filter fun q=>decide (q.1.headD 0=a0)).map fun q=>(q.1.tail,q.2)) (fun q hq=>by
     obtain ⟨p,hp,rfl⟩:=YR.1 hq;have:=hl p (ZP.1 hp).1;show p.1.tail.length=v;rw [List.length_tail];omega) (fun xs hx=>by rw [kg];exact hsplit xs hx a0 ha0) a
    rw [kg] at ih;rw [←yi l (fun q=>decide (q.1.headD 0=a0))]
    ·refine Eq.trans (bY fun q hq=> ?_) ih;obtain ⟨hq1,hq2⟩:=ZP.1 hq;have hq3:=hl q hq1;obtain ⟨qa,qc⟩:=q
     match qa,hq3 with
     |b::bs,_=>
      have hb:b=a0:=by simpa using hq2
      subst hb;show (if b::bs=b::a then qc else 0)=if bs=a then qc else 0
      by_cases e:bs=a
      ·rw [YA e,YA (by rw [e])]
      ·rw [YB e,YB fun h=>e (List.cons.inj h).2]
    ·intro q hq hf;refine YB fun e=> ?_;rw [e] at hf;simp at hf
   ·refine kp fun q hq=>YB fun e=> ?_;have:=hn q hq;rw [e] at this;exact ha0 this
theorem pk (x y:Dyadic) (n:Nat):(x*y)^n=x^n*y^n:=by
 induction n with
 |zero=>grind
 |succ n ih=>grind
theorem mi (n:Nat):(1:Dyadic)^n=1:=by
 induction n with
 |zero=>grind
 |succ n ih=>grind
variable {p:List TR}{β:Type}
def mulM (a b:ByteArray):ByteArray:=str (mulL a.data.toList b.data.toList).1
def ki (a b:ByteArray):Int:=(mulL a.data.toList b.data.toList).2
def od (x y:TR):TR:=⟨mulM x.m y.m,nR (x.c.d*y.c.d)⟩
def cg (p q:List TR):List TR:=p.flatMap fun x=>q.map (od x)
def rC (p q:List TR):List Int:=p.flatMap fun x=>q.map fun y=>ki x.m y.m
def ep (p q:List TR):Int:=if 65536<p.length*q.length then 3 else match (rC p q).find? fun e=>decide (e≠0) with|some e=>e|none=>if 4096<(aF (cg p q)).length then 3 else 0
theorem Cs {α β:Type}{f:α→List β}{k:Nat}:∀{l:List α},(∀x∈l,(f x).length=k)→(l.flatMap f).length=l.length*k
 |[],_=>by simp
 |x::l,h=>by
  rw [aa2,YK,h x YL,Cs fun y hy=>h y (YP _ hy),YZ,ZE,aat]
theorem md (p q:List TR):(cg p q).length=p.length*q.length:=Cs fun x _=>YO _
theorem sK {γ:Type}{f:α→β→γ}{p:List α}{q:List β}{i:Nat}{x:α} (hx:p[i]?=some x):
  ((p.take (i+1)).flatMap fun x=>q.map (f x))=((p.take i).flatMap fun x=>q.map (f x))++(q.take q.length).map (f x):=by
 rw [aC hx,abg,YG (YE _)];simp
theorem ve {γ:Type}{f:α→β→γ}{p:List α}{q:List β}{i:Nat}{x:α}{y:β} (hx:p[i]?=some x) (hy:q[j]?=some y):
  ∃R,(p.flatMap fun x=>q.map (f x))=(((p.take i).flatMap fun x=>q.map (f x))++(q.take j).map (f x))++f x y::R:=by
 refine ⟨(q.drop (j+1)).map (f x)++(p.drop (i+1)).flatMap fun x=>q.map (f x), ?_⟩;have e1:p=p.take i++x::p.drop (i+1):=by rw [←gC hx,Zv]
 have e2:q=q.take j++y::q.drop (j+1):=by rw [←gC hy,Zv]
 have e3:q.map (f x)=(q.take j).map (f x)++f x y::(q.drop (j+1)).map (f x):=by
  rw [←Y1,←Zq,←e2]
 calc (p.flatMap fun x=>q.map (f x))=(p.take i++x::p.drop (i+1)).flatMap fun x=>q.map (f x):=by rw [←e1]
  _=_:=by rw [abg,aa2,e3];simp
theorem qY {q:List TR} (hp:ja k p) (hq:ja j q) (h:k+j≤1000000):ja (k+j) (cg p q):=fun t ht=>by
 obtain ⟨x,hx,ht⟩:=aai.1 ht;obtain ⟨y,hy,rfl⟩:=YR.1 ht;have hs:=(hp x hx).2.mul (hq y hy).2;exact ⟨hs.ok Yv,by show Sz _ (nR _).d;rw [cj];exact hs⟩
theorem JI (a b:ByteArray):(mulM a b).size≤b.size:=by
 unfold mulM;rw [jm];unfold mulL;split
 ·rename_i l hl;have:=(x7 hl).2.2;have h4:l.length≤b.data.toList.length:=by rw [this.2,List.length_zipWith,dE,dE];omega
  have h5:(Kg l).length≤l.length:=by unfold Kg;split<;>simp
  rw [dP];exact Y2 h5 h4
 ·exact YD _
variable {l ts:List TR}
theorem Mu (c:Dyadic) (f:ByteArray→Dyadic) (l:List TR):wS (fun m=>c*f m) l=c*wS f l:=by
 induction l with
 |nil=>exact (abx _).symm
 |cons t l ih=>rw [wS,wS,ih];grind
theorem MN (f:ByteArray→Dyadic) (x:TR) (q:List TR):wS f (q.map (od x))=x.c.d*wS (fun b=>f (mulM x.m b)) q:=by
 induction q with
 |nil=>exact (abx _).symm
 |cons t q ih=>
  rw [Y1,wS,ih,wS];show (nR _).d*f (mulM x.m t.m)+_=_;rw [cj];grind
theorem BK (f:ByteArray→Dyadic) (q:List TR):∀p:List TR,wS f (cg p q)=wS (fun a=>wS (fun b=>f (mulM a b)) q) p
 |[]=>rfl
 |t::p=>by
  show wS f (q.map (od t)++cg p q)=_;rw [px,MN,BK f q p,wS]
def nP (c:Dyadic) (t:TR):TR:=⟨t.m,nR (t.c.d*c)⟩
theorem cB {v:Int} (h:fj v ts=0):iJ v=true∧ts.length≤4096∧(∀t∈ts,eY v t=true)∧Canon ts:=by
 unfold fj at h
 cases hf:iJ v with
 |false=>rw [hf,YA rfl] at h;omega
 |true=>
  rw [YB (by rw [hf];decide)] at h;by_cases h4:4096<ts.length
  ·rw [YA h4] at h;omega
  ·rw [YB h4] at h;by_cases ho:okB v ts=true
   ·unfold okB at ho;rw [YU] at ho;have hg:∀t∈ts,j5 v t=true:=Y6.1 ho.1;refine ⟨rfl,Yv,fun t ht=> ?_,xf.1 ho.2,fun t ht=> ?_,fun t ht=> ?_⟩
    ·exact (aaE.1 (hg t ht)).1
    ·exact FZ (aaE.1 (aaE.1 (hg t ht)).2).1
    ·exact ((pq _).1 (aaE.1 (aaE.1 (hg t ht)).2).2).symm
   ·rw [YB ho] at h;omega
theorem Hz {v:Int} (hf:iJ v=true) (h4:ts.length≤4096) (hm:∀t∈ts,eY v t=true) (hc:Canon ts):fj v ts=0:=by
 unfold fj;rw [YB (by rw [hf];decide),YB Yv,YA];unfold okB;rw [YU];refine ⟨Y6.2 fun t ht=> ?_,xf.2 hc.sO⟩;show (eY v t && (oU t && Wh t.c))=true;rw [hm t ht,(pq _).2 (hc.nf t ht).symm];unfold oU;rw [Y3 (hc.nz t ht)]
 rfl
theorem Tc {v:Int}{s t:TR} (h:s.m=t.m) (hs:eY v s=true):eY v t=true:=by unfold eY at hs ⊢;rwa [←h]
theorem qg {v:Int} (h:∀t∈l,eY v t=true):∀t∈aF l,eY v t=true:=fun t ht=>by
 obtain ⟨s,hs,e⟩:=gZ t ht;exact Tc e (h s hs)
theorem eO {v:Int} (hf:iJ v=true) (h4:(aF l).length≤4096) (hm:∀t∈l,eY v t=true):fj v (aF l)=0:=Hz hf h4 (qg hm) (dQ l)
theorem MH {v:Int}{x y:TR} (hx:eY v x=true) (h:ki x.m y.m=0):eY v (od x y)=true:=by
 unfold eY at hx ⊢;rw [YU,YY] at hx;obtain ⟨_,_,h3,h4,h5⟩:=oO h;rw [YU,YY];have h6:=Zz List.length h5;rw [dE,List.length_zipWith,dE,dE,h3,Nat.min_self] at h6;refine ⟨?_, ?_⟩
 ·show eK (mulM x.m y.m).data.toList=true;unfold mulM;rw [dY];exact h4
 ·show ((mulM x.m y.m).size:Int)=v;unfold mulM;rw [jm,h6,←dP];exact hx.2
theorem pg {v:Int}{q:List TR} (hp:∀t∈p,eY v t=true) (h:∀e∈rC p q,e=0):∀t∈cg p q,eY v t=true:=fun t ht=>by
 obtain ⟨x,hx,ht⟩:=aai.1 ht;obtain ⟨y,hy,rfl⟩:=YR.1 ht;exact MH (hp x hx) (h _ (aai.2 ⟨x,hx,YR.2 ⟨y,hy,rfl⟩⟩))
theorem lM {q:List TR} (h:ep p q=0):p.length*q.length≤65536∧(∀e∈rC p q,e=0)∧(aF (cg p q)).length≤4096:=by
 unfold ep at h;by_cases h6:65536<p.length*q.length
 ·rw [YA h6] at h;omega
 ·rw [YB h6] at h;split at h
  ·rename_i e he;have:=List.find?_some he;rw [YY] at this;exact absurd h this
  ·rename_i he;refine ⟨Yv,fun e hm=> ?_, ?_⟩
   ·have:=List.find?_eq_none.1 he e hm;simpa using this
   ·by_cases h4:4096<(aF (cg p q)).length
    ·rw [YA h4] at h;omega
    ·omega
def XN (p:PX) (i:Int):Int:=if p.e=0 then (if i<0∨p.v≤i then 1 else 0) else p.e
def W7 (i:Nat) (t:TR):Option TR:=match t.m.data.toList[i]? with|some e=>if e.toNat=0 then none else some ⟨str (t.m.data.toList.set i (e-1)),nR (t.c.d*((e.toNat:Int):Dyadic))⟩|none=>none
def X7 (i:Nat) (l:List TR):List TR:=l.filterMap (W7 i)
theorem JE (A:Option Addr) (n c:Nat) (xs:List Int) (w:World) (hsl:Sl w A n 1 (bQ xs)) (hn:n≤100000):
  Calls Tryz.prog 202 #[.slice A n c] w fun e w'=>e=.returned (.tuple #[.string (str (Kg xs)),.int .i64 (N5 xs)])∧Below w.heap.size w w':=by
 have hlen:xs.length=n:=by have:=hsl.1;rw [cD] at this;omega
 have hh:=Hp.start w;refine ak (N:=34) (l:=[.slice A n c]) Tryz.func202 rfl rfl (by simp) ?_;refine sr (aS (aI (aa (sr (aS (aa (ai (sr (aI (aa (av ?_)))))))))));refine bC [2,3,4,5,6,7,8,9,10,11,12,13,14,15,16,17,18,19,20,21,22,23,24,25,26,27,28,29,30,31,32] 4 5
  (fun b i w'=>∃(k:Nat),k≤n∧i=.int .i64 k∧b=.string (str ((xs.take k).map qf))∧(xs.take k).all cJ=true∧Hp w [] w')
  (fun _ v _=>n-(intOf v).toNat) ?_ ?_
 ·exact ⟨0,YD _,rfl,rfl,rfl,hh⟩
 ·clear hh;rintro ρ' b i w' ⟨k,hk,rfl,rfl,hall,hh⟩;by_cases hlt:k<n
  ·obtain ⟨x,hx⟩:=ao (l:=xs) (k:=k) Yv;obtain ⟨ad,rfl,hr⟩:=(hsl.ext hh.below).at_ Yv;by_cases h0:x<0
   ·refine ai (sr (mI (mL (aK ?_))));refine x8 ?_;refine gg ?_;refine vm ?_;refine a8 (mB ?_);refine gS (gS (gS ?_));refine jG ?_;refine gS ?_;refine fG ?_;exact Oj
   ·by_cases h1:127<x
    ·refine ai (sr (mI (mL (aK ?_))));refine x8 ?_;refine gg ?_;refine vm ?_;refine a8 (mB (gT (mL (gT (mI (gT ?_))))));refine gg ?_;refine aP rfl rfl (cv aU.out rfl (gL hr (cL hx) rfl) Yw ?_);refine gT ?_;refine bT ?_;refine dX ?_;exact Oj
    ·have hok:cJ x=true:=by simp [cJ];omega
     refine ai (sr (mI (mL (aK ?_))));refine x8 ?_;refine gg ?_;refine vm ?_;refine a8 (mB (gT (mL (gT (mI (gT ?_))))));refine gg ?_;refine aP rfl rfl (cv aU.out rfl (gL hr (cL hx) rfl) Yw ?_);refine gT ?_;refine bT ?_;refine dX ?_;refine aa (cF (au (aj (ar (mS (mL (mI ?_)))))));refine gg ?_;refine vm ?_;refine ql bo.out bo.out rfl Yw ?_;refine vN ?_;intro b30 w30 hh;rw [zI Yv Yv] at hh;have hsl1:Sl w30 (some ⟨b30,0,none⟩) 1 1 (mM [qf x]):=by
      have:=hh.aG (i:=0) rfl;rw [oT hok] at this;exact this
     refine oH bo.out bo.out bo.out rfl (hsl1) Yw ?_;replace hh:=hh.sub (Zi _ _);refine VC rfl rfl (by rw [jm];show _+1≤_;simp;omega) Yw ?_;refine aS (aE (bM (aj (ar (mI ?_)))));refine bm (aI (aE (aj ?_)));have e0:str ((xs.take k).map qf)++ByteArray.mk #[qf x]=str ((xs.take (k+1)).map qf):=by
      rw [show ByteArray.mk #[qf x]=str [qf x] from rfl,wG,aC hx,Zq];rfl
     refine ⟨⟨k+1,Yv,rfl,Zz Value.string e0,BS hx hall hok,hh⟩,by show n-(k+1)<n-k;omega, ?_⟩;exact dO
  ·obtain rfl:k=n:=Yv;rw [YG Yv] at hall;obtain ⟨e1,e2⟩:=pr hall;refine ai (sr (mI (mL (aK ?_))));refine a8 (aa (cF (a6 (aH (aH (bB (aj (sr (mS (aS (aI (aa (ay ?_)))))))))))));refine HI ?_;rw [e1,e2,YG Yv];exact ⟨rfl,hh.below⟩
theorem sM (s:ByteArray) (w:World) (hs:s.size≤9223372036854775807):
  Calls Tryz.prog 180 #[.string s,.int .i64 s.size] w fun e w'=>e=.returned (.bool (eK s.data.toList))∧Below w.heap.size w w':=by
 have h:=nh s s.size w hs;simpa using h
theorem EZ (a b:ByteArray) (w:World) (ha:a.size≤100000) (hb:b.size≤100000):
  Calls Tryz.prog 181 #[.string a,.string b] w fun e w'=>e=.returned (.tuple #[.string (str (mulL a.data.toList b.data.toList).1),.int .i64 (mulL a.data.toList b.data.toList).2])∧Below w.heap.size w w':=by
 have hh:=Hp.start w;have hsa:=dP a;have hsb:=dP b
 cases hma:eK a.data.toList with
 |false=>
  refine Nm ?_;refine sr (aS (aI (aa (ai (sr (mS (mS ?_)))))));refine bP bo.out rfl Yw ?_;refine bA hh (sM a _ Yv) rfl ?_;intro w11 hh;rw [hma];refine fV ?_;refine mB ?_;refine gS (gS (gS ?_));refine jG ?_;refine gS ?_;refine fG ?_;refine aa (cT (sr (aS (aI (aa (ay (aN ?_)))))));refine HI ?_;have:ig (· + ·) a.data.toList b.data.toList=none:=by simp [ig,hma]
  simp only [mulL,this];exact ⟨rfl,hh.below⟩
 |true=>
  cases hmb:(eK b.data.toList && decide ((b.size:Int)=a.size)) with
  |false=>
   refine Nm ?_;refine sr (aS (aI (aa (ai (sr (mS (mS ?_)))))));refine bP bo.out rfl Yw ?_;refine bA hh (sM a _ Yv) rfl ?_;intro w11 hh;rw [hma];refine fV ?_;refine mB (gT (mS (gT (mS (gT ?_)))));refine bP bo.out rfl Yw ?_;refine aP rfl rfl ?_;refine bA hh (nh b _ _ Yv) rfl ?_;intro w17 hh;rw [hmb];refine gT ?_;refine fV ?_;refine dX ?_;refine aa (cT (sr (aS (aI (aa (ay (aN ?_)))))));refine HI ?_;have h2:(eK b.data.toList && decide ((b.data.toList.length:Int)=a.data.toList.length))=false:=by rw [←hsa,←hsb];exact hmb
   have:ig (· + ·) a.data.toList b.data.toList=none:=by simp only [ig,hma,h2];rfl
   simp only [mulL,this];exact ⟨rfl,hh.below⟩
  |true=>
   have hmb2:=hmb;simp only [YU,YY] at hmb2;have hbl:ig (· + ·) a.data.toList b.data.toList=some (List.zipWith (· + ·) (ints a.data.toList) (ints b.data.toList)):=by
    exact UZ
   have hzl:(List.zipWith (· + ·) (ints a.data.toList) (ints b.data.toList)).length=a.size:=by simp [ints];omega
   refine Nm ?_;refine sr (aS (aI (aa (ai (sr (mS (mS ?_)))))));refine bP bo.out rfl Yw ?_;refine bA hh (sM a _ Yv) rfl ?_;intro w11 hh;rw [hma];refine fV ?_;refine mB (gT (mS (gT (mS (gT ?_)))));refine bP bo.out rfl Yw ?_;refine aP rfl rfl ?_;refine bA hh (nh b _ _ Yv) rfl ?_;intro w17 hh;rw [hmb];refine gT ?_;refine fV ?_;refine dX ?_;refine aa (cF (au (aj (sr (aL (aa (ai (sr (aI (aa (av ?_)))))))))));refine bC [6,7,20,21,22,23,24,25,26,27,28,29,30,31,32,33,34,35,36,37] 6 7
    (fun v i w'=>∃(k c':Nat) (A':Option Addr),k≤a.size∧i=.int .i64 k∧v=.slice A' k c'∧Hp w [.row A' k c' 3 1 (bQ ((List.zipWith (· + ·) (ints a.data.toList) (ints b.data.toList)).take k))] w')
    (fun _ i _=>a.size-(intOf i).toNat) ?_ ?_
   ·exact ⟨0,0,none,YD _,rfl,rfl,hh.cN _ _⟩
   ·clear hh;rintro ρ' v i w' ⟨k,c',A',hk,rfl,rfl,hh⟩;by_cases hlt:k<a.size
    ·obtain ⟨x,hx⟩:=ao (l:=a.data.toList) (k:=k) Yv;obtain ⟨y,hy⟩:=ao (l:=b.data.toList) (k:=k) Yv;have bx:=oW hma hx;have byy:=oW hmb2.1 hy;refine ai (sr (mI (mS ?_)));refine bP bo.out rfl Yw ?_;refine HV ?_;refine aW 11 [[(6,none)],[(0,none)],[(7,none)],[(27,some 1),(28,some 2)],[(29,some 3)],[(1,none)],[(7,none)],[(31,some 5),(32,some 6)],[(33,some 7)],[(30,some 4),(34,some 8)],[(35,some 9)]] [(10,36),(9,35),(8,34),(7,33),(6,32),(5,31),(4,30),(3,29),(2,28),(1,27),(0,26)] hh mixed Yx ?_;refine eQ ?_;refine Wj ?_;refine cZ ?_;refine bu (i:=3) (fun ρ1 w1 hj hR=>lG bo.out (show ρ1 27=Value.string _ from hR.1) (show ρ1 28=Value.int _ _ from hR.2.1) Yv (by assumption)) ?_;refine bu (i:=4) (fun ρ1 w1 hj hR=>qC bo.out bo.out (show ρ1 29=Value.int _ _ from hR.1) Yv Yv) ?_;refine Wj ?_;refine cZ ?_;refine bu (i:=7) (fun ρ1 w1 hj hR=>lG bo.out (show ρ1 31=Value.string _ from hR.1) (show ρ1 32=Value.int _ _ from hR.2.1) Yv (by assumption)) ?_;refine bu (i:=8) (fun ρ1 w1 hj hR=>qC bo.out bo.out (show ρ1 33=Value.int _ _ from hR.1) Yv Yv) ?_;refine r6 ?_;refine pL [_] ?_;refine aM ?_;intro f W hJ hV
     have hb_7:=hJ.bl;obtain ⟨v36,v35,v34,v33,v32,v31,v30,v29,v28,v27,v26,_⟩:=hV;obtain ⟨A36,c36,e36,f36⟩:Rows _ _ _ (f 10) W:=v36;replace hh:=hJ.hp;refine aQ (bg (ae e36 (ae v35 (ae v34 (ae v33 (ae v32 (ae v31 (ae v30 (ae v29 (ae v28 (ae v27 (ae v26 aR)))))))))))) ?_;dsimp only [bO];clear e36 hJ;refine cd hh (i:=0) rfl rfl rfl (f36) bo.out aU.out rfl Yw rfl Yv Yv Yw ?_;intro A37 c37 w37 hh;simp only [YM] at hh;refine lC ?_;refine bm (aI (aE (aj ?_)));refine ⟨⟨k+1,c37,A37,Yv,rfl,rfl, ?_⟩,by show a.size-(k+1)<a.size-k;omega, ?_⟩
     ·rw [aC (Gl (AE hx) (AE hy)),DF];exact hh
     ·exact dO
    ·refine ai (sr (mI (mS ?_)));refine bP bo.out rfl Yw ?_;refine DZ ?_;obtain rfl:k=a.size:=Yv;rw [YG Yv] at hh;refine bA hh (JE _ _ _ _ _ (hh.aG (i:=0) rfl) Yv) rfl ?_;intro w39 hh;refine dx ?_;refine dx ?_;refine aS (aI (aa (ay ?_)));refine HI ?_;simp only [mulL,hbl];exact ⟨trivial,hh.below⟩
theorem xz (A B:Option Addr) (n m c c':Nat) (xs ys:List Int) (w:World) (hx:Sl w A n 1 (bQ xs)) (hy:Sl w B m 1 (bQ ys)) (hn:n≤100000) (hm:m≤100000):
  Calls Tryz.prog 77 #[.slice A n c,.slice B m c'] w fun e w'=>e=.returned (.bool (decide (xs=ys)))∧Below w.heap.size w w':=by
 have hxl:xs.length=n:=by have:=hx.1;rw [cD] at this;omega
 have hyl:ys.length=m:=by have:=hy.1;rw [cD] at this;omega
 have hh:=Hp.start w;by_cases hnm:n=m
 ·subst hnm;refine ak (N:=26) (l:=[.slice A n c,.slice B n c']) Tryz.func77 rfl rfl (by simp) ?_;refine C8 ?_;refine Ib ?_;refine aT [4,5,11,12,13,14,15,16,17,18,19,20,21,22,23,24,25] 5
   (fun i w'=>∃k:Nat,k≤n∧i=.int .i64 k∧xs.take k=ys.take k∧Hp w [] w')
   (fun i _=>n-(intOf i).toNat) ?_ ?_
  ·exact ⟨0,YD _,rfl,rfl,hh⟩
  ·clear hh;rintro ρ' i w' ⟨k,hk,rfl,he,hh⟩;replace hx:=hx.ext hh.below;replace hy:=hy.ext hh.below;by_cases hlt:k<n
   ·obtain ⟨x,hxk⟩:=ao (l:=xs) (k:=k) Yv;obtain ⟨y,hyk⟩:=ao (l:=ys) (k:=k) Yv;obtain ⟨ad,rfl,hr⟩:=hx.at_ Yv;obtain ⟨bd,rfl,hs⟩:=hy.at_ Yv;by_cases hxy:x=y
    ·subst hxy;refine ai (sr (mI (mL (aK ?_))));refine kP ?_;refine De ?_;refine eQ ?_;refine cZ ?_;refine Sh ?_;refine pK (fun _ hj=>gL (hr.ext hj.bl) (cL hxk) rfl) ?_;refine eQ ?_;refine cZ ?_;refine Ru ?_;refine pK (fun _ hj=>gL (hs.ext hj.bl) (cL hyk) rfl) ?_;refine aM ?_;intro f W hJ hV;have hb_6:=hJ.bl;obtain ⟨v24,v23,v22,v21,v20,v19,v18,v17,_⟩:=hV;replace hh:=hJ.hp;refine CR ?_;dsimp only [bO];clear hJ;refine Ho ?_;refine bm (aI (aE (aj ?_)));refine ⟨⟨k+1,Yv,rfl,by rw [aC hxk,aC hyk,he],hh⟩,by show n-(k+1)<n-k;omega, ?_⟩;exact dO
    ·refine ai (sr (mI (mL (aK ?_))));refine kP ?_;refine De ?_;refine eQ ?_;refine cZ ?_;refine Sh ?_;refine pK (fun _ hj=>gL (hr.ext hj.bl) (cL hxk) rfl) ?_;refine eQ ?_;refine cZ ?_;refine Ru ?_;refine pK (fun _ hj=>gL (hs.ext hj.bl) (cL hyk) rfl) ?_;refine aM ?_;intro f W hJ hV;have hb_6:=hJ.bl;obtain ⟨v24,v23,v22,v21,v20,v19,v18,v17,_⟩:=hV;replace hh:=hJ.hp;refine CR ?_;dsimp only [bO];clear hJ;refine db (aa (cT (sr (aB (aa (ay (cm (aN (aN (cm (aN ?_)))))))))));refine dh ?_;have:¬xs=ys:=fun h=>hxy (by rw [h,hyk] at hxk;exact (Zl hxk).symm);simp only [this,decide_false];exact ⟨trivial,hh.below⟩
   ·refine ai (sr (mI (mL (aK ?_))));refine Hu ?_;refine dh ?_;rw [YG Yv,YG Yv] at he;simp only [he,decide_true];exact ⟨trivial,hh.below⟩
 ·refine ak (N:=26) (l:=[.slice A n c,.slice B m c']) Tryz.func77 rfl rfl (by simp) ?_;refine C8 ?_;refine db (aa (cT (sr (aB (aa (ay (aN ?_)))))));refine dh ?_;have:¬xs=ys:=fun h=>hnm (by rw [←hxl,←hyl,h]);simp only [this,decide_false];exact ⟨trivial,hh.below⟩
theorem xx (v:Int) (A:Option Addr) (n c:Nat) (ts:List TR) (w:World) (hS:Sl w A n 4 (aD TR.cells ts)) (hn:n≤1000000) (ho:∀t∈ts,t.c.ok∧t.m.size≤100000):
  Calls Tryz.prog 144 #[.agg #[.int .i64 v,.slice A n c]] w fun r w'=>r=.returned (.int .i64 (fj v ts))∧Below w.heap.size w w':=by
 have hh:=Hp.start w;have hln:=hS.bh TR.len Yw
 cases hf:iJ v with
 |false=>
  have hbv:¬(0≤v∧v≤12):=fun h=>by rw [eF.2 h] at hf;cases hf
  rw [show fj v ts=1 by unfold fj;rw [YA hf]];by_cases h0:v<0
  ·refine GG ?_;refine sr ?_;refine cu hh [_,_] ?_;intro b1 w1 hh;refine aI (aa (ai (sr (bJ ?_))));refine bG hh 0 ?_;refine a8 (mB ?_);refine gS (gS (gS ?_));refine fG ?_;exact Gj
  ·refine GG ?_;refine sr ?_;refine cu hh [_,_] ?_;intro b1 w1 hh;refine aI (aa (ai (sr (bJ ?_))));refine bG hh 0 ?_;refine a8 (mB (gT (bJ (gT ?_))));refine bG hh 0 ?_;refine gT ?_;refine bT ?_;refine dX ?_;exact Gj
 |true=>
  obtain ⟨hv0,hv12⟩:=eF.1 hf;by_cases h4:4096<n
  ·rw [show fj v ts=3 by unfold fj;rw [YB (by rw [hf];decide),YA Yv]];refine GG ?_;refine sr ?_;refine cu hh [_,_] ?_;intro b1 w1 hh;refine aI (aa (ai (sr (bJ ?_))));refine bG hh 0 ?_;refine a8 (mB (gT (bJ (gT ?_))));refine bG hh 0 ?_;refine gT ?_;refine bT ?_;refine dX ?_;exact VA
  ·have hbad:=fun h=>Eh (v:=v) (ts:=ts) hf Yv h;refine GG ?_;refine sr ?_;refine cu hh [_,_] ?_;intro b1 w1 hh;refine aI (aa (ai (sr (bJ ?_))));refine bG hh 0 ?_;refine a8 (mB (gT (bJ (gT ?_))));refine bG hh 0 ?_;refine gT ?_;refine bT ?_;refine dX ?_;refine Bx ?_;refine bG hh 0 ?_;refine aK ?_;refine bT (aa (cF (au (aj (ai (sr (aI (aa (av ?_)))))))));refine aT [2,3,4,17,18,19,20,21,22,23,24,25,26,27,28,29,30,31,32,33,34,35,36,37,38,39,40,41,42,43,44,45,46,47,48,49,50,51,52,53,54,55,56,57,58,59,60,61,62] 3
    (fun x w'=>∃i:Nat,i≤n∧x=.int .i64 i∧(ts.take i).all (j5 v)=true∧um (ts.take i)=true∧Hp w [.blk b1 24 [.int .i64 v,.slice A n c] (0,0)] w')
    (fun x _=>n-(intOf x).toNat) ?_ ?_
   ·exact ⟨0,YD _,rfl,rfl,rfl,hh⟩
   ·clear hh;rintro ρ' x_ w' ⟨i,hi,rfl,hall,hris,hh⟩;by_cases hlt:i<n
    ·obtain ⟨x,hx⟩:=ao (l:=ts) (k:=i) Yv;obtain ⟨ad,rfl,hr⟩:=hS.at_ Yv;obtain ⟨hxo,hxm⟩:=ho x (YF hx);have hmay:=fun w1=>nh x.m v w1 Yv;have hsg:=fun w1=>eM x.c w1 (by have:=hxo.1;omega);have hfo:=fun w1=>j0 x.c w1 (by have:=hxo.1;omega) (by have:=hxo.2.1;omega) (by have:=hxo.2.2;omega);have hzz:x.c.i.sign=0↔x.c.d=0:=by
      exact Ot
     cases hm:eK x.m.data.toList && decide ((x.m.size:Int)=v) with
     |false=>
      rw [hm] at hmay;rw [hbad (pH hx (by unfold j5;rw [hm];rfl))];refine ai (sr (mI (bJ ?_)));refine bG hh 0 ?_;refine aK ?_;refine DK ?_;refine bG hh 0 ?_;refine mI ?_;refine cE ?_;refine mq ?_;refine bW hh ?_;intro b4 w4 hh;refine bV hh 0 [_,_,_,_] ?_;intro ws hh;replace hh:Hp _ (.blk _ _ [_,_,_,_] _::_) _:=hh;refine aa (ai (ai ?_));refine cP [] [] zL4 18 zL2 [(17,46),(16,45),(15,44),(14,43),(13,42),(12,41),(11,40),(10,39),(9,38),(8,37),(7,36),(6,35),(5,34),(4,33),(3,32),(2,31),(1,30),(0,29)] hh mixed Yx dr rfl (by repeat (first|exact cz|refine bU ?_|refine cw ?_)) ?_;refine cX ?_;refine dT 0 ?_
      refine cX ?_;refine dT 1 ?_;refine dC (fun _ hj=>hmay _) ?_;refine xy ?_;refine j9 ?_;refine dS (dS (dS (dS ?_)));refine Bt ?_;exact UF
     |true=>
      rw [hm] at hmay;by_cases hz:x.c.d=0
      ·have hs:=hzz.2 hz;rw [hbad (pH hx (by unfold j5 oU;rw [hm,YV hz];rfl))];refine ai (sr (mI (bJ ?_)));refine bG hh 0 ?_;refine aK ?_;refine DK ?_;refine bG hh 0 ?_;refine mI ?_;refine cE ?_;refine mq ?_;refine bW hh ?_;intro b4 w4 hh;refine bV hh 0 [_,_,_,_] ?_;intro ws hh;replace hh:Hp _ (.blk _ _ [_,_,_,_] _::_) _:=hh;refine aa (ai (ai ?_));refine cP [] [] zL4 18 zL2 [(17,46),(16,45),(15,44),(14,43),(13,42),(12,41),(11,40),(10,39),(9,38),(8,37),(7,36),(6,35),(5,34),(4,33),(3,32),(2,31),(1,30),(0,29)] hh mixed Yx dr rfl (by repeat (first|exact cz|refine bU ?_|refine cw ?_)) ?_
       refine cX ?_;refine dT 0 ?_;refine cX ?_;refine dT 1 ?_;refine dC (fun _ hj=>hmay _) ?_;refine xy ?_;refine j9 ?_;refine dG (cX ?_);refine dG (ef 0 [_,_,_] ?_);refine NY ?_;refine dG (qO ?_);refine Kh ?_;exact UF
      ·have hs:¬x.c.i.sign=0:=fun h=>hz (hzz.1 h);by_cases hnf:nR x.c.d=x.c
       ·have hgood:j5 v x=true:=by unfold j5 oU;rw [hm,Y3 hz,(pq x.c).2 hnf];rfl
        have hall2:(ts.take (i+1)).all (j5 v)=true:=by rw [aC hx,List.all_append,hall];simp [hgood]
        refine ai (sr (mI (bJ ?_)));refine bG hh 0 ?_;refine aK ?_;refine DK ?_;refine bG hh 0 ?_;refine mI ?_;refine cE ?_;refine mq ?_;refine bW hh ?_;intro b4 w4 hh;refine bV hh 0 [_,_,_,_] ?_;intro ws hh;replace hh:Hp _ (.blk _ _ [_,_,_,_] _::_) _:=hh;refine aa (ai (ai ?_));refine cP [] [] zL4 18 zL2 [(17,46),(16,45),(15,44),(14,43),(13,42),(12,41),(11,40),(10,39),(9,38),(8,37),(7,36),(6,35),(5,34),(4,33),(3,32),(2,31),(1,30),(0,29)] hh mixed Yx dr rfl (by repeat (first|exact cz|refine bU ?_|refine cw ?_)) ?_;refine cX ?_;refine dT 0 ?_;refine cX ?_;refine dT 1 ?_;refine dC (fun _ hj=>hmay _) ?_
        refine xy ?_;refine j9 ?_;refine dG (cX ?_);refine dG (ef 0 [_,_,_] ?_);refine NY ?_;refine dG (qO ?_);refine Kh ?_;refine j9 ?_;refine dG (cX ?_);refine dG (ef 0 [_,_,_] ?_);refine SO ?_;refine dG (cX ?_);refine dG (ef 0 [_,_,_] ?_);refine aM ?_;intro f W hJ hV _;have hb_9:=hJ.bl;obtain ⟨v46,v45,v44,v43,v42,v41,v40,v39,v38,v37,v36,v35,v34,v33,v32,v31,v30,v29,_⟩:=hV;replace hh:=hJ.hp;refine Nu ?_;dsimp only [bO];clear hJ;refine gT ?_
        (first|refine rX rfl rfl (by first|assumption|rfl) Yw ?_|refine uH rfl rfl (by assumption) Yw ?_)
        refine dX ?_;refine xT ?_;by_cases h0:i=0
        ·refine cP [] [] [0,1,3,7,15,7,39,127,255,511,7,1031,4095,8191] 12 zL3 [(11,60),(10,59),(9,58),(8,57),(7,56),(6,55),(5,54),(4,53),(3,52),(2,51),(1,50),(0,49)] hh mixed Yx dr rfl (by repeat (first|exact cz|refine bU ?_|refine cw ?_)) ?_;refine cZ ?_;refine IQ ?_;refine j9 ?_;refine dS (dS (dS (dS ?_)));refine pJ (i:=7) rfl (fun ρ1 w1 hj hR=>(show ρ1 51=Value.bool _ from hR.2.2.1)) Yw ?_;refine dS (dS (dS (dS ?_)));refine aM ?_;intro f W hJ hV _;have hb_11:=hJ.bl;obtain ⟨v60,v59,v58,v57,v56,v55,v54,v53,v52,v51,v50,v49,_⟩:=hV;replace hh:=hJ.hp;refine MO ?_;dsimp only [bO];clear hJ;refine gS ?_;refine dX ?_;refine p8 ?_;refine bm (aI (aE (aj ?_)));exact Rk
        ·obtain ⟨q,hq⟩:∃q,i=q+1:=⟨i-1,Yv⟩;obtain ⟨p,hp⟩:=ao (l:=ts) (k:=q) Yv
         cases hlp:ji p.m x.m with
         |false=>
          rw [hbad (Cj hp (hq ▸ hx) hlp)];have hge:(!(Op.bytesLess p.m.toList x.m.toList))=true:=by rw [jX,hlp];rfl
          refine cP [] [] [0,1,3,7,15,7,39,127,255,511,7,1031,4095,8191] 12 zL3 [(11,60),(10,59),(9,58),(8,57),(7,56),(6,55),(5,54),(4,53),(3,52),(2,51),(1,50),(0,49)] hh mixed Yx dr rfl (by repeat (first|exact cz|refine bU ?_|refine cw ?_)) ?_;refine cZ ?_;refine IQ ?_;refine j9 ?_;refine dG (cX ?_);refine dG (dT 1 ?_);refine dG (cZ ?_);refine dG (qE ?_);refine dG (jA (q) ?_);refine dG (qG ?_);refine HS ?_;refine dG (cX ?_);refine dG (dT 0 ?_);refine aM ?_;intro f W hJ hV _;have hb_11:=hJ.bl;obtain ⟨v60,v59,v58,v57,v56,v55,v54,v53,v52,v51,v50,v49,_⟩:=hV;replace hh:=hJ.hp;refine MO ?_;dsimp only [bO];clear hJ;refine gT ?_;refine o9 rfl rfl Yw ?_;refine fG ?_;exact Rw
         |true=>
          have hge:(!(Op.bytesLess p.m.toList x.m.toList))=false:=by rw [jX,hlp];rfl
          refine cP [] [] [0,1,3,7,15,7,39,127,255,511,7,1031,4095,8191] 12 zL3 [(11,60),(10,59),(9,58),(8,57),(7,56),(6,55),(5,54),(4,53),(3,52),(2,51),(1,50),(0,49)] hh mixed Yx dr rfl (by repeat (first|exact cz|refine bU ?_|refine cw ?_)) ?_;refine cZ ?_;refine IQ ?_;refine j9 ?_;refine dG (cX ?_);refine dG (dT 1 ?_);refine dG (cZ ?_);refine dG (qE ?_);refine dG (jA (q) ?_);refine dG (qG ?_);refine HS ?_;refine dG (cX ?_);refine dG (dT 0 ?_);refine aM ?_;intro f W hJ hV _;have hb_11:=hJ.bl;obtain ⟨v60,v59,v58,v57,v56,v55,v54,v53,v52,v51,v50,v49,_⟩:=hV;replace hh:=hJ.hp;refine MO ?_;dsimp only [bO];clear hJ;refine gT ?_;refine o9 rfl rfl Yw ?_;refine fG ?_;refine aa ?_;rw [hge];refine cF (au (bM (aj (ar (mI ?_)))));refine bm (aI (aE (aj ?_)));exact Rt
       ·rw [hbad (pH hx (by unfold j5 oU;rw [hm,Y3 hz,aaV.2 (fun h=>hnf ((pq x.c).1 h))];rfl))];refine ai (sr (mI (bJ ?_)));refine bG hh 0 ?_;refine aK ?_;refine DK ?_;refine bG hh 0 ?_;refine mI ?_;refine cE ?_;refine mq ?_;refine bW hh ?_;intro b4 w4 hh;refine bV hh 0 [_,_,_,_] ?_;intro ws hh;replace hh:Hp _ (.blk _ _ [_,_,_,_] _::_) _:=hh;refine aa (ai (ai ?_))
        refine cP [] [] zL4 18 zL2 [(17,46),(16,45),(15,44),(14,43),(13,42),(12,41),(11,40),(10,39),(9,38),(8,37),(7,36),(6,35),(5,34),(4,33),(3,32),(2,31),(1,30),(0,29)] hh mixed Yx dr rfl (by repeat (first|exact cz|refine bU ?_|refine cw ?_)) ?_;refine cX ?_;refine dT 0 ?_;refine cX ?_;refine dT 1 ?_;refine dC (fun _ hj=>hmay _) ?_;refine xy ?_;refine j9 ?_;refine dG (cX ?_);refine dG (ef 0 [_,_,_] ?_);refine NY ?_;refine dG (qO ?_);refine Kh ?_;refine j9 ?_;refine dG (cX ?_);refine dG (ef 0 [_,_,_] ?_);refine SO ?_;refine dG (cX ?_);refine dG (ef 0 [_,_,_] ?_);refine aM ?_;intro f W hJ hV _;have hb_9:=hJ.bl
        obtain ⟨v46,v45,v44,v43,v42,v41,v40,v39,v38,v37,v36,v35,v34,v33,v32,v31,v30,v29,_⟩:=hV;replace hh:=hJ.hp;refine Nu ?_;dsimp only [bO];clear hJ;refine gT ?_
        (first|refine rX rfl rfl (by first|assumption|rfl) Yw ?_|refine uH rfl rfl (by assumption) Yw ?_)
        refine dX ?_;exact SC
    ·rw [YG Yv] at hall hris;rw [show fj v ts=0 by unfold fj okB;rw [YB (by rw [hf];decide),YB Yv,hall,hris];rfl];refine ai (sr (mI (bJ ?_)));refine bG hh 0 ?_;refine aK ?_;refine NI ?_;refine dh ?_;exact ⟨rfl,hh.below⟩
theorem ti {x:TR} (b:List TR):∀{a:List TR},(∀t∈a,ji t.m x.m=true)→iH (a++b) x=a++iH b x
 |[],_=>rfl
 |t::a,h=>by
  rw [YJ,iH,YA (h t YL),ti b fun s hs=>h s (YP _ hs)]
  rfl
theorem LB {x:TR} (h:∀t∈l,ji t.m x.m=true):iH l x=l++[⟨x.m,nR x.c.d⟩]:=by
 have:=ti [] h;rwa [Y9] at this
theorem Qj {x t:TR}{i:Nat} (hx:l[i]?=some t) (h:∀s∈l.take i,ji s.m x.m=true) (h1:ji t.m x.m=false):iH l x=if t.m=x.m then l.take i++⟨x.m,nR (t.c.d+x.c.d)⟩::l.drop (i+1) else l.take i++⟨x.m,nR x.c.d⟩::l.drop i:=by
 have e:l=l.take i++t::l.drop (i+1):=by rw [←gC hx,Zv]
 have e2:iH l x=l.take i++iH (t::l.drop (i+1)) x:=by
  conv=>lhs;rw [e]
  exact ti _ h
 rw [e2,iH,YB (by rw [h1];decide),gC hx];by_cases he:t.m=x.m
 ·rw [YA he,YB (by rw [he,gW];decide)]
 ·rw [YB he,YA]
  cases h2:ji x.m t.m with
  |true=>rfl
  |false=>exact absurd (ph h1 h2) he
theorem Ff (A:Option Addr) (n c:Nat) (l:List TR) (x:TR) (w:World) (hS:Sl w A n 4 (aD TR.cells l)) (hcn:n≤c) (hn:n≤1000000) (ho:∀t∈l,t.c.ok) (hx:x.c.ok):
  Calls Tryz.prog 179 #[.slice A n c,.agg #[.string x.m,.bool x.c.neg,.string x.c.bj,.int .i64 x.c.e]] w fun r w'=>∃A' c',r=.returned (.slice A' (iH l x).length c')∧Hp w [.row A' (iH l x).length c' 80 4 (aD TR.cells (iH l x))] w':=by
 have hh:=Hp.start w;have hln:=hS.bh TR.len Yw;have hfo:=fun w1=>j0 x.c w1 (by have:=hx.1;omega) (by have:=hx.2.1;omega) (by have:=hx.2.2;omega);refine ak (N:=76) (l:=[.slice A n c,.agg #[.string x.m,.bool x.c.neg,.string x.c.bj,.int .i64 x.c.e]]) Tryz.func179 rfl rfl (by simp) ?_;refine sr ?_;refine cu hh [_,_,_,_] ?_;intro b3 w3 hh;refine aL (aa (sr (aI (aa (ai (av ?_))))));refine aT [5,7,8,9,10,11,12,13,14,15,16,17,18,19,20,21,22] 5
  (fun v w'=>∃i:Nat,i≤n∧v=.int .i64 i∧(∀t∈l.take i,ji t.m x.m=true)∧Hp w [.blk b3 80 [.string x.m,.bool x.c.neg,.string x.c.bj,.int .i64 x.c.e] (0,0)] w')
  (fun v _=>n-(intOf v).toNat) ?_ ?_
 ·exact Mm
 ·clear hh;rintro ρ' v w' ⟨i,hi,rfl,hall,hh⟩;by_cases hlt:i<n
  ·obtain ⟨t,ht⟩:=ao (l:=l) (k:=i) Yv;obtain ⟨ad,rfl,hr⟩:=hS.at_ Yv;have hto:=ho t (YF ht)
   cases hl:ji t.m x.m with
   |true=>
    have hbl:Op.bytesLess t.m.toList x.m.toList=true:=by rw [jX,hl]
    refine ai (ai ?_);refine NK ?_;refine cZ ?_;refine eQ ?_;refine sY ?_;refine JS ?_;refine j9 ?_;refine dG (eQ ?_);refine dG (cZ ?_);refine dG (jA (i) ?_);refine dG (qG ?_);refine He ?_;refine dG (cX ?_);refine dG (dT 0 ?_);refine aM ?_;intro f W hJ hV;have hb_2:=hJ.bl;obtain ⟨v18,v17,v16,v15,v14,v13,v12,v11,v10,v9,v8,v7,_⟩:=hV;replace hh:=hJ.hp;refine Lh ?_;dsimp only [bO];clear hJ;refine gT ?_;refine tj rfl rfl Yw ?_;refine fG ?_;refine aa ?_;rw [hbl];refine cT (au (aj (av (ar (mI ?_)))));refine bm (aI (aE (bM (aj ?_))));refine ⟨⟨i+1,Yv,rfl,fun s hs=> ?_,hh⟩,by show n-(i+1)<n-i;omega, ?_⟩
    ·rw [aC ht] at hs
     rcases Zb.1 hs with hs|hs
     ·exact hall s hs
     ·rw [YT.1 hs];exact hl
    ·exact dO
   |false=>
    have hbl:Op.bytesLess t.m.toList x.m.toList=false:=by rw [jX,hl]
    have hput:=Qj ht hall hl;have hS1:=hS.front (m:=i) Yv;rw [show (aD TR.cells l).take (i*4)=aD TR.cells (l.take i) from jO TR.len l i] at hS1;have o1:=bD TR.one (l.take i);refine ai (ai ?_);refine NK ?_;refine cZ ?_;refine eQ ?_;refine sY ?_;refine JS ?_;refine j9 ?_;refine dG (eQ ?_);refine dG (cZ ?_);refine dG (jA (i) ?_);refine dG (qG ?_);refine He ?_;refine dG (cX ?_);refine dG (dT 0 ?_);refine aM ?_;intro f W hJ hV;have hb_2:=hJ.bl;obtain ⟨v18,v17,v16,v15,v14,v13,v12,v11,v10,v9,v8,v7,_⟩:=hV;replace hh:=hJ.hp;refine Lh ?_;dsimp only [bO];clear hJ;refine gT ?_;refine tj rfl rfl Yw ?_;refine fG ?_;refine aa ?_;rw [hbl];refine cF (a6 (aH (aH (bB (aj (sr ?_))))));refine CZ ?_;intro b23 w23 hh;refine mL (mI ?_);refine M4 ?_;refine cd hh (i:=0) rfl rfl rfl (hS1.ext hh.below) bo.out aU.out rfl Yw ?one10 Yv Yv Yw ?kk10
    case one10=>first|rfl|assumption|exact br _|exact oneCells_u8s _
    intro A27 c27 w27 hh;simp only [YM] at hh;refine aL (aa (ai (ai ?_)));have hpl:=fun w1=>nO t.c x.c w1 hto hx;by_cases he:t.m=x.m
    ·rw [YA he] at hput;have hS2:=hS.back (l:=i+1) Yv hcn;rw [show (aD TR.cells l).drop ((i+1)*4)=aD TR.cells (l.drop (i+1)) from hZ TR.len l (i+1)] at hS2;have o2:=bD TR.one (l.drop (i+1));refine Nk ?_;refine cZ ?_;refine eQ ?_;refine sY ?_;refine JS ?_;refine j9 ?_;refine dG (eQ ?_);refine dG (cZ ?_);refine dG (jA (i) ?_);refine dG (qG ?_);refine He ?_;refine dG (cX ?_);refine dG (dT 1 ?_);refine aM ?_;intro f W hJ hV;have hb_5:=hJ.bl;obtain ⟨v39,v38,v37,v36,v35,v34,v33,v32,v31,v30,v29,v28,_⟩:=hV;replace hh:=hJ.hp;refine KM ?_;dsimp only [bO];clear hJ;refine gT ?_
     (first|refine iS rfl rfl (by first|rfl|assumption|decide) Yw ?_|refine jb rfl rfl (by first|assumption|decide) Yw ?_)
     refine fG ?_;refine aa (cT (ai ?_));refine aW 13 [[(6,none)],[(3,none)],[(43,some 1)],[(0,none)],[(5,none)],[(45,some 3),(46,some 4)],[(47,some 5)],[(48,some 6)],[(3,none)],[(50,some 8)],[(49,some 7),(51,some 9)],[(44,some 2),(52,some 10)],[(53,some 11)]] [(12,54),(11,53),(10,52),(9,51),(8,50),(7,49),(6,48),(5,47),(4,46),(3,45),(2,44),(1,43),(0,42)] hh mixed Yx ?_;refine eQ ?_;refine cX ?_;refine dT 1 ?_;refine eQ ?_;refine cZ ?_;refine jA (i) ?_;refine qG ?_;refine nF [_,_,_] (fun _ hj=>((hr.ext hj.hp.below).recAt TR.len ht).drop 1) ?_;refine cX ?_;refine ef 1 [_,_,_] ?_;refine dC (fun _ hj=>hpl _) ?_;refine dB [_,_,_,_] ?_;refine pL [_,_,_,_] ?_;refine aM ?_;intro f W hJ hV;have hb_6:=hJ.bl;obtain ⟨v54,v53,v52,v51,v50,v49,v48,v47,v46,v45,v44,v43,v42,_⟩:=hV;obtain ⟨A54,c54,e54,f54⟩:Rows _ _ _ (f 12) W:=v54;replace hh:=hJ.hp;refine aQ (bg (ae e54 (ae v53 (ae v52 (ae v51 (ae v50 (ae v49 (ae v48 (ae v47 (ae v46 (ae v45 (ae v44 (ae v43 (ae v42 aR)))))))))))))) ?_;dsimp only [bO];clear e54 hJ
     refine cd hh (i:=0) rfl rfl rfl (f54) bo.out aU.out rfl Yw (by first|rfl|exact dv _|exact cR _|exact br _|exact bD NR.one _) Yv Yv Yw ?_;intro A55 c55 w55 hh;simp only [YM] at hh;refine aL (aa (sr (mL (mL (mI ?_)))));refine bm ?_;refine aZ rfl rfl Yw (gJ bo.out aU.size rfl rfl (l:=i+1) Yv Yv Yv) ?_;refine cd hh (i:=0) rfl rfl rfl (hS2.ext hh.below) bo.out aU.out rfl Yw ?one11 Yv Yv Yw ?kk11
     case one11=>first|rfl|assumption|exact br _|exact oneCells_u8s _
     intro A61 c61 w61 hh;simp only [YM] at hh;refine aL (aa (ay (aN ?_)));refine dh ?_;have e1:(iH l x).length=0+i+1+(n-(i+1)):=by rw [hput,YK,YZ,YW,ZM];omega
     have e2:aD TR.cells (iH l x)=[]++aD TR.cells (l.take i)++[.string x.m,.bool (nR (t.c.d+x.c.d)).neg,.string (nR (t.c.d+x.c.d)).bj,.int .i64 (nR (t.c.d+x.c.d)).e]++aD TR.cells (l.drop (i+1)):=by rw [hput,bZ,g6,YH,Ze];rfl
     exact QZ
    ·rw [YB he] at hput;have hS2:=hS.back (l:=i) Yv hcn;rw [show (aD TR.cells l).drop (i*4)=aD TR.cells (l.drop i) from hZ TR.len l i] at hS2;have o2:=bD TR.one (l.drop i);refine Nk ?_;refine cZ ?_;refine eQ ?_;refine sY ?_;refine JS ?_;refine j9 ?_;refine dG (eQ ?_);refine dG (cZ ?_);refine dG (jA (i) ?_);refine dG (qG ?_);refine He ?_;refine dG (cX ?_);refine dG (dT 1 ?_);refine aM ?_;intro f W hJ hV;have hb_5:=hJ.bl;obtain ⟨v39,v38,v37,v36,v35,v34,v33,v32,v31,v30,v29,v28,_⟩:=hV;replace hh:=hJ.hp;refine KM ?_;dsimp only [bO];clear hJ;refine gT ?_
     (first|refine iS rfl rfl (by first|rfl|assumption|decide) Yw ?_|refine jb rfl rfl (by first|assumption|decide) Yw ?_)
     refine fG ?_;refine xT ?_;refine RV ?_;refine eQ ?_;refine cX ?_;refine dT 1 ?_;refine cX ?_;refine ef 1 [_,_,_] ?_;refine dC (fun _ hj=>hfo _) ?_;refine dB [_,_,_,_] ?_;refine pL [_,_,_,_] ?_;refine aM ?_;intro f W hJ hV;have hb_8:=hJ.bl;obtain ⟨v69,v68,v67,v66,v65,v64,v63,v62,_⟩:=hV;obtain ⟨A69,c69,e69,f69⟩:Rows _ _ _ (f 7) W:=v69;replace hh:=hJ.hp;refine SA ?_;dsimp only [bO];clear e69 hJ;refine Qx ?_;intro A70 c70 w70 hh;simp only [YM] at hh;refine aL (aa (sr (mL (mL (mI ?_)))));refine aZ rfl rfl Yw (gJ bo.out aU.size rfl rfl (l:=i) Yv Yv Yv) ?_;refine cd hh (i:=0) rfl rfl rfl (hS2.ext hh.below) bo.out aU.out rfl Yw ?one12 Yv Yv Yw ?kk12
     case one12=>first|rfl|assumption|exact br _|exact oneCells_u8s _
     intro A75 c75 w75 hh;simp only [YM] at hh;refine aL (aa (ay ?_));refine dh ?_;have e1:(iH l x).length=0+i+1+(n-i):=by rw [hput,YK,YZ,YW,ZM];omega
     exact Uz
  ·obtain rfl:i=n:=Yv;have hput:=LB (x:=x) (l:=l) (by rwa [YG Yv] at hall);rw [show l++[⟨x.m,nR x.c.d⟩]=l.take i++⟨x.m,nR x.c.d⟩::l.drop i by rw [YG Yv,ZZ Yv]] at hput;have hS1:=hS.front (m:=i) Yv;rw [show (aD TR.cells l).take (i*4)=aD TR.cells (l.take i) from jO TR.len l i] at hS1;have o1:=bD TR.one (l.take i);have hS2:=hS.back (l:=i) Yv hcn;rw [show (aD TR.cells l).drop (i*4)=aD TR.cells (l.drop i) from hZ TR.len l i] at hS2;have o2:=bD TR.one (l.drop i);refine ai (ai ?_);refine NK ?_;refine cZ ?_;refine eQ ?_;refine sY ?_;refine JS ?_;refine j9 ?_;refine dS (dS ?_);refine pJ (i:=7) rfl (fun ρ1 w1 hj hR=>(show ρ1 11=Value.bool _ from hR.2.2.1)) Yw ?_;refine dS (dS (dS (dS ?_)));refine aM ?_;intro f W hJ hV;have hb_2:=hJ.bl;obtain ⟨v18,v17,v16,v15,v14,v13,v12,v11,v10,v9,v8,v7,_⟩:=hV;replace hh:=hJ.hp;refine Lh ?_;dsimp only [bO];clear hJ;refine gS ?_;refine dX ?_;refine aa (cF (a6 (aH (aH (bB (aj (sr ?_)))))));refine CZ ?_;intro b23 w23 hh;refine mL (mI ?_);refine M4 ?_
   refine cd hh (i:=0) rfl rfl rfl (hS1.ext hh.below) bo.out aU.out rfl Yw ?one13 Yv Yv Yw ?kk13
   case one13=>first|rfl|assumption|exact br _|exact oneCells_u8s _
   intro A27 c27 w27 hh;simp only [YM] at hh;refine aL (aa (ai (ai ?_)));refine Nk ?_;refine cZ ?_;refine eQ ?_;refine sY ?_;refine JS ?_;refine j9 ?_;refine dS (dS ?_);refine pJ (i:=7) rfl (fun ρ1 w1 hj hR=>(show ρ1 32=Value.bool _ from hR.2.2.1)) Yw ?_;refine dS (dS (dS (dS ?_)));refine aM ?_;intro f W hJ hV;have hb_5:=hJ.bl;obtain ⟨v39,v38,v37,v36,v35,v34,v33,v32,v31,v30,v29,v28,_⟩:=hV;replace hh:=hJ.hp;refine KM ?_;dsimp only [bO];clear hJ;refine gS ?_;refine dX ?_;refine xT ?_;refine RV ?_;refine eQ ?_;refine cX ?_;refine dT 1 ?_;refine cX ?_;refine ef 1 [_,_,_] ?_;refine dC (fun _ hj=>hfo _) ?_;refine dB [_,_,_,_] ?_;refine pL [_,_,_,_] ?_;refine aM ?_;intro f W hJ hV;have hb_8:=hJ.bl;obtain ⟨v69,v68,v67,v66,v65,v64,v63,v62,_⟩:=hV;obtain ⟨A69,c69,e69,f69⟩:Rows _ _ _ (f 7) W:=v69;replace hh:=hJ.hp;refine SA ?_;dsimp only [bO];clear e69 hJ;refine Qx ?_;intro A70 c70 w70 hh;simp only [YM] at hh;refine aL (aa (sr (mL (mL (mI ?_)))));refine aZ rfl rfl Yw (gJ bo.out aU.size rfl rfl (l:=i) Yv Yv Yv) ?_;refine cd hh (i:=0) rfl rfl rfl (hS2.ext hh.below) bo.out aU.out rfl Yw ?one14 Yv Yv Yw ?kk14
   case one14=>first|rfl|assumption|exact br _|exact oneCells_u8s _
   intro A75 c75 w75 hh;simp only [YM] at hh;refine aL (aa (ay ?_));refine dh ?_;have e1:(iH l x).length=0+i+1+(i-i):=by rw [hput,YK,YZ,YW,ZM];omega
   exact Uz
theorem zi (ho:ja k l) (hk:k+l.length≤3999980):ja (k+l.length) (je l):=fun t ht=>by
 have h:=CA l (fun t ht=>(ho t ht).2) t ht;exact ⟨by rw [BM l t ht];exact h.ok Yv,h⟩
theorem ix (v:Int) (A:Option Addr) (n c:Nat) (l:List TR) (k:Nat) (w:World) (hS:Sl w A n 4 (aD TR.cells l)) (hn:n≤100000) (ho:ja k l) (hk:k+n≤3999980):
  Calls Tryz.prog 143 #[.int .i64 v,.slice A n c] w fun r w'=>∃g:PX,dW (gF l) v (aF l) g∧r=.returned (.tuple #[.agg #[.int .i64 g.v,.slice g.A g.n g.c],.int .i64 (gF l)])∧Hp w [g.row] w':=by
 have hh:=Hp.start w;have hln:=hS.bh TR.len Yw;refine ak (N:=49) (l:=[.int .i64 v,.slice A n c]) Tryz.func143 rfl rfl (by simp) ?_;refine sr ?_;refine bW hh ?_;intro b4 w4 hh;refine aI (aa (sr (aL (aa (ai (sr (aI (aa (av ?_)))))))));replace hh:=hh.cN 80 4;refine bC [6,7,10,11,12,13,14,15,16,17,18,19,20,21] 6 7
  (fun a x w'=>∃(i:Nat) (A':Option Addr) (c':Nat),i≤n∧x=.int .i64 i∧a=.slice A' (je (l.take i)).length c'∧Hp w [.row A' (je (l.take i)).length c' 80 4 (aD TR.cells (je (l.take i))),.blk b4 24 [.int .i64 0,.slice none 0 0] (0,0)] w')
  (fun _ x _=>n-(intOf x).toNat) ?_ ?_
 ·exact ⟨0,none,0,YD _,rfl,rfl,hh⟩
 ·clear hh;rintro ρ' a_ x_ w' ⟨i,A',c',hi,rfl,rfl,hh⟩;have hGl:=yI (l.take i);rw [YW] at hGl;by_cases hlt:i<n
  ·obtain ⟨x,hx⟩:=ao (l:=l) (k:=i) Yv;obtain ⟨ad,rfl,hr⟩:=hS.at_ Yv;have hgo:=zi (l:=l.take i) (k:=k) (fun t ht=>ho t (aau ht)) (by rw [YW];omega);refine ai (sr (mI (mL (aK ?_))));refine C0 ?_;refine cE ?_;refine mq ?_;refine aJ (Ff A' (je (l.take i)).length c' (je (l.take i)) x _ (hh.aG (i:=0) rfl) (hh.dJ (i:=0) rfl) Yv (fun t ht=>(hgo t ht).1) (ho x (YF hx)).1) aw.out rfl Yw ?_;rintro e_ w21 ⟨A2,c2,rfl,h3⟩;refine ⟨_,rfl, ?_⟩;replace hh:=hh.join h3;simp only [YJ,YH] at hh;rw [←iP,←aC hx] at hh ⊢;refine lC ?_;refine bm (aI (aE (aj ?_)));replace hh:=hh.sub (YC _ (YI _ (YC _ Y5)));refine ⟨⟨i+1,A2,c2,Yv,rfl,rfl,hh⟩,by show n-(i+1)<n-i;omega, ?_⟩;exact dO
  ·obtain rfl:i=n:=Yv;rw [YG Yv] at hh hGl ⊢;have hgo:=zi ho Yv;have hgt:aF l=(je l).filter oU:=rfl;unfold gF;rw [hgt];generalize je l=G at*;obtain ⟨m,hm⟩:∃m,m=G.length:=⟨_,rfl⟩;rw [←hm] at hh ⊢;refine ai (sr (mI (mL (aK ?_))));refine a8 (aa (cF (a6 (aH (aH (bB (aj (sr (aL (aa (ai (sr (aI (aa (av ?_)))))))))))))));replace hh:=hh.cN 80 4;refine bC [8,9,22,23,24,25,26,27,28,29,30,31,32,33,34,35,36,37,38,39,40,41] 8 9
    (fun a x w'=>∃(j:Nat) (B:Option Addr) (d:Nat),j≤m∧x=.int .i64 j∧a=.slice B ((G.take j).filter oU).length d∧Hp w [.row B ((G.take j).filter oU).length d 80 4 (aD TR.cells ((G.take j).filter oU)),.row A' m c' 80 4 (aD TR.cells G),.blk b4 24 [.int .i64 0,.slice none 0 0] (0,0)] w')
    (fun _ x _=>m-(intOf x).toNat) ?_ ?_
   ·exact ⟨0,none,0,YD _,rfl,rfl,hh⟩
   ·clear hh;rintro ρ2 a2 x2 w2 ⟨j,B,d,hj,rfl,rfl,hh⟩;have hfl:((G.take j).filter oU).length≤j:=Y2 (abT _ _) (by rw [YW];omega);by_cases hjm:j<m
    ·obtain ⟨t,ht⟩:=ao (l:=G) (k:=j) Yv;have hto:=hgo t (YF ht);have hsg:=fun w1=>eM t.c w1 (by have:=hto.1.1;omega);have hzz:t.c.i.sign=0↔t.c.d=0:=by
      exact Ot
     obtain ⟨g0,rfl⟩:=hh.cK (i:=1) rfl Yv;by_cases hz:t.c.d=0
     ·have hs:=hzz.2 hz;have hft:(G.take (j+1)).filter oU=(G.take j).filter oU:=by
       rw [aC ht,aa6,List.filter_cons,YB (by unfold oU;rw [YV hz];decide)];simp
      refine ai (sr (mI (mL (aK ?_))));refine jq ?_;refine nQ ?_;refine bJ ?_;refine Sk ?_;refine bA hh (hsg _) rfl ?_;intro w33 hh;refine Ho ?_;refine bm (aI (aE (aj ?_)));refine ⟨⟨j+1,B,d,Yv,rfl,by rw [hft];rfl,by rw [hft];exact hh⟩,by show m-(j+1)<m-j;omega, ?_⟩;exact dO
     ·have hs:¬t.c.i.sign=0:=fun h=>hz (hzz.1 h);have hft:(G.take (j+1)).filter oU=(G.take j).filter oU++[t]:=by
       rw [aC ht,aa6,List.filter_cons,YA (by unfold oU;rw [Y3 hz];rfl)];simp
      refine ai (sr (mI (mL (aK ?_))));refine jq ?_;refine nQ ?_;refine bJ ?_;refine Sk ?_;refine bA hh (hsg _) rfl ?_;intro w33 hh;refine db (aa (cT (ar (mL (mL (mI ?_))))));refine nQ ?_;refine cG (vs:=[_,_,_,_]) aU.out rfl (hh.iu (f:=TR.cells) (x:=t) (l:=G) (i:=1) rfl TR.len Yw ht) rfl Yw ?_;refine yG ?_;intro b40 w40 hh;refine pR ?_;intro A41 c41 w41 hh;simp only [YM,Zg] at hh;replace hh:=hh.sub (Zi _ _);refine lC ?_;refine bm (aI (aE (aj ?_)));refine ⟨⟨j+1,A41,c41,Yv,rfl,by rw [hft,YK];rfl,by rw [hft,YK,bZ,iB];exact hh⟩,by show m-(j+1)<m-j;omega, ?_⟩;exact dO
    ·obtain rfl:j=m:=Yv;rw [YG Yv] at hh hfl ⊢;generalize G.filter oU=F at*;by_cases h4:4096<F.length
     ·rw [YA h4];refine ai (sr (mI (mL (aK ?_))));refine Hs ?_;refine bT (aa (cT (sr ?_)));refine fH [_,_] ?_;refine bV hh 2 [_,_] ?_;intro ws hh;replace hh:Hp _ (_::_::.blk _ _ [_,_] _::_) _:=hh;refine aI (aa (ay (aN ?_)));refine oJ ?_;exact MR
     ·rw [YB h4];refine ai (sr (mI (mL (aK ?_))));refine Hs ?_;refine bT (aa (cF (au (aj (sr (mI (mL ?_)))))));refine fH [_,_] ?_;refine bV hh 2 [_,_] ?_;intro ws hh;replace hh:Hp _ (_::_::.blk _ _ [_,_] _::_) _:=hh;refine aI (aa (ay ?_));refine oJ ?_;exact ⟨⟨v,B,F.length,d,F⟩,⟨rfl,rfl⟩,rfl,hh.sub (YC _ (Zr _))⟩
def fI (ps:List PX):Int:=(ps.map PX.v).headD 0
def vE (ps:List PX):List TR:=ps.flatMap PX.ts
def ud (ps:List PX):Int:=if eE ps=0 then gF (vE ps) else eE ps
theorem rn {ps:List PX} (h:eE ps=0):ps≠[]∧(∀g∈ps,g.e=0)∧∀g∈ps,g.v=fI ps:=by
 unfold eE at h;split at h
 ·rename_i f hf;have:=List.find?_some hf;simp at this;exact absurd h this
 ·rename_i hf;split at h
  ·cases h
  rename_i hno;refine ⟨fun e=>hno (.inl (by rw [e];rfl)),fun f hm=> ?_,fun f hm=> ?_⟩
  ·have:=List.find?_eq_none.1 hf f hm;simpa using this
  ·apply aaF;intro hne;exact hno (.inr (aag.2 ⟨f,hm,YV hne⟩))
theorem zO {α β:Type}{f:α→List β}{B:Nat}:∀{l:List α},(∀x∈l,(f x).length≤B)→(l.flatMap f).length≤l.length*B
 |[],_=>by simp
 |x::l,h=>by
  rw [aa2,YK,YZ,ZE];have h1:=h x YL;have h2:=zO fun y hy=>h y (YP _ hy);omega
theorem yh {f:α→List β}{l:List α}{i:Nat}{x:α} (h:l[i]?=some x):(l.take (i+1)).flatMap f=(l.take i).flatMap f++f x:=by
 rw [aC h,abg];simp
theorem FR {k:List TR} (h:aF l=aF k):gF l=gF k:=by unfold gF;rw [h]
theorem jV {ps:List PX}{g:PX} (h:ps[0]?=some g):fI ps=g.v:=by
 rcases ps with _|⟨f,l⟩
 ·cases h
 ·have:f=g:=by simpa using h
  rw [←this];rfl
theorem qI (L:Option Addr) (n c:Nat) (ps:List PX) (k:Nat) (w:World) (hT:e8 w) (hL:Sl w L n 2 (aD PX.cells ps)) (hn:n≤100) (hf:∀g∈ps,g.at_ w) (hl:∀g∈ps,g.j8 k) (hk:k≤2999000):
  Calls Tryz.prog 86 #[.slice L n c] w fun r w'=>∃g:PX,dW (ud ps) (fI ps) (aF (vE ps)) g∧r=.returned (.tuple #[.agg #[.int .i64 g.v,.slice g.A g.n g.c],.int .i64 (ud ps)])∧Hp w [g.row] w':=by
 have hh:=Hp.start w;have hln:=hL.bh PX.len Yw;have hlk:=fun w1 hT1 hb=>tG L n c ps k w1 hT1 (hL.ext hb) Yv (fun g hg=>(hf g hg).ext hb) hl;unfold ud;by_cases h0:eE ps=0
 ·rw [YA h0];rw [h0] at hlk;obtain ⟨hne,il,hvv⟩:=rn h0;have hpos:=List.length_pos_iff.2 hne;obtain ⟨g0,h00⟩:=ao (l:=ps) (k:=0) hpos;rw [jV h00];have hfl:(vE ps).length≤ps.length*4096:=zO fun g hg=>(cB (il g hg)).2.1;obtain ⟨ad,rfl,hr⟩:=hL.at_ Yv;refine ak (N:=33) (l:=[.slice (some ad) n c]) Tryz.func86 rfl rfl (by simp) ?_;refine sr ?_;refine bW hh ?_;intro b2 w2 hh;refine aI (aa (ai (sr (mL ?_))));refine bA hh (hlk _ (hT.hp hh) hh.below) rfl ?_;intro w9 hh;refine aI (aa (sr (mI ?_)));refine db (aa (cF (au (aj (sr (aL (aa (ai (sr (mL (aK (mI (aa (av ?_))))))))))))));replace hh:=hh.cN 80 4;refine bC [5,7,16,17,18,19,20,21,22,23,24] 5 16
   (fun a x w'=>∃(i:Nat) (M:List TR) (A':Option Addr) (c':Nat),i≤n∧x=.int .i64 i∧a=.slice A' M.length c'∧MD (k+i) ((ps.take i).flatMap PX.ts) M∧Hp w [.row A' M.length c' 80 4 (aD TR.cells M),.blk b2 24 [.int .i64 0,.slice none 0 0] (0,0)] w')
   (fun _ x _=>n-(intOf x).toNat) ?_ ?_
  ·exact ⟨0,[],none,0,YD _,rfl,rfl,MD.self abD (fun t ht=>nomatch ht),hh⟩
  ·clear hh;rintro ρ' a_ x_ w' ⟨i,M,A',c',hi,rfl,rfl,hmd,hh⟩;have hfi:((ps.take i).flatMap PX.ts).length≤i*4096:=by
    exact Vo
   have hML:=hmd.len;by_cases hlt:i<n
   ·obtain ⟨g,hx⟩:=ao (l:=ps) (k:=i) Yv;have hmem:=YF hx;have hgl:=hl g hmem;have hge:=cB (il g hmem);have hgc:=hgl.cap;have hgn:=hgl.n;refine sr ?_;refine eC ?_;refine cE ?_;refine Ed ?_;refine bW hh ?_;intro b7 w7 hh;refine bV hh 0 [_,_] ?_;intro ws hh;replace hh:Hp _ (.blk _ _ [_,_] _::_) _:=hh;refine aa (ar (mL (bJ ?_)));refine bG hh 0 ?_;refine aJ (rN A' M.length c' M g.A g.n g.c g.ts (k+i) _ (hT.hp hh) (hh.aG (i:=1) rfl) ((hf g hmem).ext hh.below) (hh.dJ (i:=1) rfl) hgc Yv hgn Yv hmd.sO hge.2.2.2.sO hmd.ok (hgl.ok.mono Yv)) aw.out rfl Yw ?_;rintro e_ w23 ⟨L2,A2,c2,hm2,rfl,h3⟩;refine ⟨_,rfl, ?_⟩;replace hh:=hh.join h3;simp only [YJ,YH] at hh;refine mE ?_;refine bm (mI (aE (aj ?_)));replace hh:=hh.sub (YC _ (YI _ (YI _ (YC _ Y5))));refine ⟨⟨i+1,L2,A2,c2,Yv,rfl,rfl, ?_,hh⟩,by show n-(i+1)<n-i;omega, ?_⟩
    ·rw [yh hx];exact hmd.Ni (MD.self hge.2.2.2.sO (hgl.ok.mono Yv:ja (k+i) g.ts)) hm2 Yv
    ·exact dO
   ·obtain rfl:i=n:=Yv;rw [YG Yv] at hmd hfi hML;have hgM:aF M=aF (vE ps):=AD hmd.co;have hgE:=FR hgM;refine sr ?_;refine qb ?_;refine D9 ?_;refine oL ?_;refine cv aU.out rfl (cH hh.below ((hr.recAt PX.len h00) 0 _ rfl)) Yw ?_;refine mL ?_;refine aJ (lR _ A' M.length c' M (k+i) _ hT hh rfl Yv Yv hmd.ok) aw.out rfl Yw ?_;rintro e_ w30 ⟨g,og,rfl,hh⟩;refine ⟨_,rfl, ?_⟩;refine dx ?_;refine dx ?_;refine bV hh 1 [_,_] ?_;intro ws hh;replace hh:Hp _ (_::.blk _ _ [_,_] _::_) _:=hh;refine aI (aa (ay ?_));refine yw ?_;rw [←hgE,←hgM];exact GQ
 ·rw [YB h0];generalize eE ps=e at*;refine ak (N:=33) (l:=[.slice L n c]) Tryz.func86 rfl rfl (by simp) ?_;refine sr ?_;refine bW hh ?_;intro b2 w2 hh;refine aI (aa (ai (sr (mL ?_))));refine bA hh (hlk _ (hT.hp hh) hh.below) rfl ?_;intro w9 hh;exact SS
theorem CM {q:List TR} (h:65536<p.length*q.length):ep p q=3:=by unfold ep;rw [YA h]
theorem Hm {q:List TR}{e:Int} (h6:¬65536<p.length*q.length) {a b:List Int} (h:rC p q=a++e::b) (ha:∀x∈a,x=0) (he:e≠0):ep p q=e:=by
 unfold ep;rw [YB h6,h,List.find?_append,iW (aaa.2 fun x hx=>by simp [ha x hx]),List.find?_cons_of_pos (p:=fun e:Int=>decide (e≠0)) (by simpa using he)]
 rfl
theorem rM {q:List TR} (h6:¬65536<p.length*q.length) (h:∀x∈rC p q,x=0):ep p q=gF (cg p q):=by
 unfold ep gF;rw [YB h6,iW (aaa.2 fun x hx=>by simp [h x hx])]
theorem Ah (p q:PX) (k k2:Nat) (w:World) (hT:e8 w) (hp:p.at_ w) (hq:q.at_ w) (lp:p.j8 k) (lq:q.j8 k2) (hk:k+k2≤900000):
  Calls Tryz.prog 201 #[.agg #[.int .i64 p.v,.slice p.A p.n p.c],.agg #[.int .i64 q.v,.slice q.A q.n q.c]] w fun r w'=>∃g:PX,dW (ep p.ts q.ts) p.v (aF (cg p.ts q.ts)) g∧r=.returned (.tuple #[.agg #[.int .i64 g.v,.slice g.A g.n g.c],.int .i64 (ep p.ts q.ts)])∧Hp w [g.row] w':=by
 have hh:=Hp.start w;obtain ⟨pv,pA,pn,pc,ps⟩:=p;obtain ⟨qv,qA,qn,qc,qs⟩:=q;have hpl:ps.length=pn:=hp.ln;have hql:qs.length=qn:=hq.ln;have hpn:pn≤1000000:=lp.n;have hqn:qn≤1000000:=lq.n;have okp:ja k ps:=lp.ok;have okq:ja k2 qs:=lq.ok;have szp:∀t∈ps,t.m.size≤100000:=lp.sz;have szq:∀t∈qs,t.m.size≤100000:=lq.sz;replace hp:Sl w pA pn 4 (aD TR.cells ps):=hp;replace hq:Sl w qA qn 4 (aD TR.cells qs):=hq;clear lp lq;show Calls _ _ _ _ fun r w'=>∃g:PX,dW (ep ps qs) pv (aF (cg ps qs)) g∧r=.returned (.tuple #[.agg #[.int .i64 g.v,.slice g.A g.n g.c],.int .i64 (ep ps qs)])∧Hp w [g.row] w';have hmm:pn*qn≤1000000*1000000:=ZV hpn hqn;obtain ⟨m,hm⟩:∃m,m=pn*qn:=⟨_,rfl⟩;have hmi:(pn:Int)*(qn:Int)=(m:Int):=by rw [hm];exact (ZU _ _).symm
 by_cases h6:65536<m
 ·rw [CM (by rw [hpl,hql,←hm];exact h6)];refine ak (N:=67) (l:=[.agg #[.int .i64 pv,.slice pA pn pc],.agg #[.int .i64 qv,.slice qA qn qc]]) Tryz.func201 rfl rfl (by simp) ?_;exact Rr
 ·have hbig:¬65536<ps.length*qs.length:=by rw [hpl,hql,←hm];exact h6
  refine ak (N:=67) (l:=[.agg #[.int .i64 pv,.slice pA pn pc],.agg #[.int .i64 qv,.slice qA qn qc]]) Tryz.func201 rfl rfl (by simp) ?_;refine sr ?_;refine cu hh [_,_] ?_;intro b2 w2 hh;refine cu hh [_,_] ?_;intro b3 w3 hh;refine bW hh ?_;intro b4 w4 hh;refine aI (aa (ai (sr (bJ ?_))));refine bG hh 2 ?_;refine aK (bJ ?_);refine bG hh 1 ?_;refine aK ?_;refine mulC ?_;refine bT (aa (cF (au (aj (sr (aL (aa (ai (sr (bJ ?_))))))))));refine bG hh 2 ?_;refine aK (mI (aa (av ?_)));replace hh:=hh.cN 80 4;have hall:∀i,((ps.take i).flatMap fun x=>qs.map (od x)).length≤65536:=fun i=>by
   exact VZ
  refine bC [5,6,8,10,11,12,25,26,27,28,29,30,31,32,33,34,35,36,37,38,39,40,41,42,43,44,45,46,47,48,49,50,51,52,53,54,55,56,57,58,59,60] 6 25
   (fun a x w'=>∃(i:Nat) (M:List TR) (A':Option Addr) (c':Nat),i≤pn∧x=.int .i64 i∧a=.slice A' M.length c'∧M=((ps.take i).flatMap fun x=>qs.map (od x))∧(∀e∈((ps.take i).flatMap fun x=>qs.map fun y=>ki x.m y.m),e=0)∧Hp w [.row A' M.length c' 80 4 (aD TR.cells M),.blk b4 24 [.int .i64 0,.slice none 0 0] (0,0),.blk b3 24 [.int .i64 qv,.slice qA qn qc] (0,0),.blk b2 24 [.int .i64 pv,.slice pA pn pc] (0,0)] w')
   (fun _ x _=>pn-(intOf x).toNat) ?_ ?_
  ·exact ⟨0,[],none,0,YD _,rfl,rfl,rfl,fun e he=>(nomatch he),hh⟩
  ·clear hh;rintro ρ' a_ x_ w' ⟨i,M,A',c',hi,rfl,rfl,hM,hz,hh⟩;have hMl:=hall i;rw [←hM] at hMl;by_cases hlt:i<pn
   ·obtain ⟨x,hx⟩:=ao (l:=ps) (k:=i) Yv;obtain ⟨ad,rfl,hr⟩:=hp.at_ Yv;have hxm:=YF hx;have hxo:=okp x hxm;have hxs:=szp x hxm;refine sr ?_;refine eC ?_;refine cE ?_;refine mq ?_;refine bW hh ?_;intro b8 w8 hh;refine bV hh 0 [_,_,_,_] ?_;intro ws hh;replace hh:Hp _ (.blk _ _ [_,_,_,_] _::_) _:=hh;refine aa (sr (bJ ?_));refine bG hh 3 ?_;refine aK (mI (aa (av ?_)));replace hh:=hh.perm (Zh (l₁:=[_]));simp only [YJ,YH] at hh;refine bC [5,6,10,11,12,32,33,34,35,36,37,38,39,40,41,42,43,44,45,46,47,48,49,50,51,52,53,54,55,56,57,58,59] 6 32
     (fun a z w'=>∃(j:Nat) (N:List TR) (A':Option Addr) (c':Nat),j≤qn∧z=.int .i64 j∧a=.slice A' N.length c'∧N=M++(qs.take j).map (od x)∧(∀e∈(qs.take j).map (fun y=>ki x.m y.m),e=0)∧Hp w [.row A' N.length c' 80 4 (aD TR.cells N),.blk b8 80 [.string x.m,.bool x.c.neg,.string x.c.bj,.int .i64 x.c.e] (0,0),.blk b4 24 [.int .i64 0,.slice none 0 0] (0,0),.blk b3 24 [.int .i64 qv,.slice qA qn qc] (0,0),.blk b2 24 [.int .i64 pv,.slice (some ad) pn pc] (0,0)] w')
     (fun _ z _=>qn-(intOf z).toNat) ?_ ?_
    ·refine ⟨0,M,A',c',YD _,rfl,rfl,by simp,fun e he=>(nomatch he),hh⟩
    ·clear hh;rintro ρ2 a2 x2 w2 ⟨j,N,A2,c2,hj,rfl,rfl,hN,hz2,hh⟩;by_cases hjn:j<qn
     ·obtain ⟨y,hy⟩:=ao (l:=qs) (k:=j) Yv;obtain ⟨ad2,rfl,hr2⟩:=hq.at_ Yv;have hym:=YF hy;have hyo:=okq y hym;have hys:=szq y hym;have hmul:∀w1,Calls Tryz.prog 223 #[.string x.m,.string y.m] w1 fun r w'=>r=.returned (.tuple #[.string (mulM x.m y.m),.int .i64 (ki x.m y.m)])∧Below w1.heap.size w1 w':=fun w1=>I3 x.m y.m w1 hxs hys;have hdm:=fun A cc w1 hT1 hS1=>fS A 2 cc [x.c,y.c] w1 hT1 hS1 (by simpa using ⟨hxo.1,hyo.1⟩) (k+k2) (by simpa using ⟨hxo.2.mono Yv,hyo.2.mono Yv⟩) Yv Yw;rw [show iZ ([x.c,y.c].map NR.d)=x.c.d*y.c.d by show 1*x.c.d*y.c.d=_;rw [aaJ]] at hdm;obtain ⟨R,hR⟩:=ve (f:=fun x y=>ki x.m y.m) hx hy;have hzz:∀e∈((ps.take i).flatMap fun x=>qs.map fun y=>ki x.m y.m)++(qs.take j).map (fun y=>ki x.m y.m),e=0:=fun e he=>by
       rcases Zb.1 he with he|he
       ·exact hz e he
       ·exact hz2 e he
      have hNl:N.length<65536:=by
       exact R9
      by_cases he:ki x.m y.m=0
      ·refine sr ?_;refine eC ?_;refine lW ?_;refine cG (vs:=[_,_,_,_]) aU.out rfl ((hr2.ext hh.below).recAt TR.len hy) rfl Yw ?_;refine bW hh ?_;intro b10 w10 hh;refine bV hh 0 [_,_,_,_] ?_;intro ws hh;replace hh:Hp _ (.blk _ _ [_,_,_,_] _::_) _:=hh;refine aa (sr (bJ ?_));refine bG hh 2 ?_;refine bJ ?_;refine bG hh 0 ?_;refine bA hh (hmul _) rfl ?_;intro w41 hh;refine mT ?_;refine dx ?_;refine dx ?_;refine aS (aI (aa (ai (sr (mI ?_)))));refine db (aa (cF (au (aj (ar (mL (mS (bJ ?_))))))));refine cC hh 2 [_,_,_] (bJ ?_);refine cC hh 0 [_,_,_] ?_;refine zA ?_;intro b54 w54 hh;refine bA hh (hdm _ _ _ (hT.hp hh) (hh.aG (i:=0) rfl)) rfl ?_;intro w55 hh;refine fH [_,_,_,_] ?_;refine yG ?_;intro b57 w57 hh;refine Q7 ?_;intro A58 c58 w58 hh;simp only [YM,Zg] at hh;replace hh:=hh.sub (Zi _ _);refine mE ?_;refine bm (mI (aE (aj ?_)));have e1:aD TR.cells N++[.string (mulM x.m y.m),.bool (nR (x.c.d*y.c.d)).neg,.string (nR (x.c.d*y.c.d)).bj,.int .i64 (nR (x.c.d*y.c.d)).e]=aD TR.cells (N++[od x y]):=by rw [bZ,iB];rfl
       replace hh:=show Hp w (_::_::.row A58 (N.length+1) c58 80 4 (aD TR.cells N++[.string (mulM x.m y.m),.bool (nR (x.c.d*y.c.d)).neg,.string (nR (x.c.d*y.c.d)).bj,.int .i64 (nR (x.c.d*y.c.d)).e])::_) w58 from hh;rw [e1] at hh;replace hh:=hh.sub (YI _ (YI _ (YC _ (YC _ (YC _ (YC _ (YC _ Y5)))))));exact QK
      ·rw [Hm hbig hR hzz he];generalize ki x.m y.m=e at*;refine sr ?_;refine eC ?_;refine lW ?_;refine cG (vs:=[_,_,_,_]) aU.out rfl ((hr2.ext hh.below).recAt TR.len hy) rfl Yw ?_;refine bW hh ?_;intro b10 w10 hh;refine bV hh 0 [_,_,_,_] ?_;intro ws hh;replace hh:Hp _ (.blk _ _ [_,_,_,_] _::_) _:=hh;refine aa (sr (bJ ?_));refine bG hh 2 ?_;refine bJ ?_;refine bG hh 0 ?_;refine bA hh (hmul _) rfl ?_;intro w41 hh;refine mT ?_;refine dx ?_;refine dx ?_;refine aS (aI (aa (ai (sr (mI ?_)))));refine db (aa (cT (sr ?_)));refine fH [_,_] (mI ?_);refine bV hh 3 [_,_] ?_;intro ws hh;replace hh:Hp _ (_::_::_::.blk _ _ [_,_] _::_) _:=hh;refine aI (aa (ay (aN (cm (aN (aN (cm (cm (aN (aN (cm (aN ?_))))))))))));refine C3 ?_;exact NS
     ·obtain rfl:j=qn:=Yv;rw [YG Yv] at hz2 hN;refine sr ?_;refine C9 ?_;refine bm (mI (aE (aj ?_)));replace hh:=hh.sub (YC _ (YI _ (YC _ (YC _ (YC _ Y5)))));exact SI
   ·obtain rfl:i=pn:=Yv;rw [YG Yv] at hz hM;have hMp:M=cg ps qs:=hM;rw [rM hbig hz,←hMp];have hpo:=qY okp okq Yv;rw [←hMp] at hpo;refine sr ?_;refine a8 (aa (ai (cF (a6 (aH (aH (bB (aj (sr (bJ ?_))))))))));refine bG hh 3 ?_;refine mL ?_;refine aJ (lR pv A' M.length c' M (k+k2) _ hT hh rfl Yv Yv hpo) aw.out rfl Yw ?_;rintro e_ w64 ⟨g,og,rfl,hh⟩;refine ⟨_,rfl, ?_⟩;refine dx ?_;refine dx ?_;exact Oh
theorem wV (g:PX) (k:Nat) (w:World) (h:g.at_ w) (hl:g.j8 k):
  Calls Tryz.prog 144 #[.agg #[.int .i64 g.v,.slice g.A g.n g.c]] w fun r w'=>r=.returned (.int .i64 g.e)∧Below w.heap.size w w':=
 xx g.v g.A g.n g.c g.ts w h hl.n fun t ht=>⟨(hl.ok t ht).1,hl.sz t ht⟩
theorem su (L:Option Addr) (n c:Nat) (ps:List PX) (k:Nat) (w:World) (hL:Sl w L n 2 (aD PX.cells ps)) (hn:n≤1000000) (hf:∀g∈ps,g.at_ w) (hl:∀g∈ps,g.j8 k):
  Calls Tryz.prog 148 #[.slice L n c] w fun r w'=>r=.returned (.int .i64 (eE ps))∧Below w.heap.size w w':=by
 have hh:=Hp.start w;have hln:=hL.bh PX.len Yw;refine ak (N:=39) (l:=[.slice L n c]) Tryz.func148 rfl rfl (by simp) ?_;refine sr (aI (aa (ai (sr (aI (aa (av ?_)))))));refine aT [2,3,4,6,7,8,9,10,11,12,13,14,15,16,17,18,19] 3
  (fun v w'=>∃i:Nat,i≤n∧v=.int .i64 i∧(ps.take i).any (fun g=>decide (g.e≠0))=false∧Hp w [] w')
  (fun v _=>n-(intOf v).toNat) ?_ ?_
 ·exact ⟨0,YD _,rfl,rfl,hh⟩
 ·clear hh;rintro ρ' v w' ⟨i,hi,rfl,hall,hh⟩;by_cases hlt:i<n
  ·obtain ⟨g,hx⟩:=ao (l:=ps) (k:=i) Yv;have hmem:=YF hx;have hc:=fun w1 hb=>wV g k w1 ((hf g hmem).ext hb) (hl g hmem);obtain ⟨ad,rfl,hr⟩:=hL.at_ Yv;by_cases he:g.e=0
   ·refine ai (sr (mI (mL (aK ?_))));refine jq ?_;refine cE ?_;refine Ed ?_;refine bA hh (hc _ hh.below) rfl ?_;intro w16 hh;refine aI (aa (sr (mI ?_)));refine Ho ?_;refine bm (aI (aE (aj ?_)));exact Qn
   ·refine ai (sr (mI (mL (aK ?_))));refine jq ?_;refine cE ?_;refine Ed ?_;refine bA hh (hc _ hh.below) rfl ?_;intro w16 hh;exact V0
  ·rw [YG Yv] at hall;have hlk:eE ps=if ps.length=0∨ug ps=true then 1 else 0:=by unfold eE;rw [iW hall]
   rw [hlk];clear hall;refine ai (sr (mI (mL (aK ?_))));refine KG ?_;refine aT [2,5,20,21,22,23,24,25,26,27,28,29,30,31,32,33,34,35] 5
    (fun v w'=>∃i:Nat,i≤n∧v=.int .i64 i∧(ps.take i).any (fun g=>decide (g.v≠(ps.map PX.v).headD 0))=false∧Hp w [] w')
    (fun v _=>n-(intOf v).toNat) ?_ ?_
   ·exact ⟨0,YD _,rfl,rfl,hh⟩
   ·clear hh;rintro ρ2 v w2 ⟨j,hj,rfl,hall,hh⟩;by_cases hlt2:j<n
    ·obtain ⟨go,hx⟩:=ao (l:=ps) (k:=j) Yv;obtain ⟨g0,h00⟩:=ao (l:=ps) (k:=0) Yv;obtain ⟨ad,rfl,hr⟩:=hL.at_ Yv;have hhd:(ps.map PX.v).headD 0=g0.v:=by
      rcases ps with _|⟨g,l⟩
      ·cases h00
      ·have:g=g0:=by simpa using h00
       rw [←this];rfl
     by_cases ho:go.v=g0.v
     ·refine ai (sr (mI (mL (aK ?_))));refine kP ?_;refine Sv ?_;refine eQ ?_;refine cZ ?_;refine jA (j) ?_;refine qG ?_;refine pK (fun _ hj=>cH hj.hp.below ((hr.recAt PX.len hx) 0 _ rfl)) ?_;refine eQ ?_;refine jA (0) ?_;refine qG ?_;refine pK (fun _ hj=>cH hj.hp.below ((hr.recAt PX.len h00) 0 _ rfl)) ?_;refine aM ?_;intro f W hJ hV;have hb_10:=hJ.bl;obtain ⟨v34,v33,v32,v31,v30,v29,v28,v27,v26,_⟩:=hV;replace hh:=hJ.hp;refine SG ?_;dsimp only [bO];clear hJ;refine Ho ?_;refine bm (aI (aE (aj ?_)));refine ⟨⟨j+1,Yv,rfl,by rw [aC hx,aaW,hall,aa4,aaR,Y3 Yv];rfl,hh⟩,by show n-(j+1)<n-j;omega, ?_⟩;exact dO
     ·refine ai (sr (mI (mL (aK ?_))));refine kP ?_;refine Sv ?_;refine eQ ?_;refine cZ ?_;refine jA (j) ?_;refine qG ?_;refine pK (fun _ hj=>cH hj.hp.below ((hr.recAt PX.len hx) 0 _ rfl)) ?_;refine eQ ?_;refine jA (0) ?_;refine qG ?_;refine pK (fun _ hj=>cH hj.hp.below ((hr.recAt PX.len h00) 0 _ rfl)) ?_;refine aM ?_;intro f W hJ hV;have hb_10:=hJ.bl;obtain ⟨v34,v33,v32,v31,v30,v29,v28,v27,v26,_⟩:=hV;replace hh:=hJ.hp;refine SG ?_;dsimp only [bO];clear hJ;refine db (aa (cT (sr (aI (aa (ay (cm (aN (aN (cm (aN ?_)))))))))));refine dh ?_;exact ⟨by rw [YA (.inr (aag.2 ⟨go,YF hx,YV Yv⟩))],hh.below⟩
    ·rw [YG Yv] at hall;have hod:ug ps=false:=hall;by_cases h0:n=0
     ·refine ai (sr (mI (mL (aK ?_))));refine Hs ?_;refine x6 ?_;exact OX
     ·refine ai (sr (mI (mL (aK ?_))));refine Hs ?_;refine di (aa (cF (au (aj (sr (aI (aa (ay ?_))))))));refine dh ?_;refine ⟨?_,hh.below⟩;rw [YB];rintro (h|h)
      ·omega
      ·rw [hod] at h
       cases h
theorem pU (p q:PX) (k k2:Nat) (w:World) (hp:p.at_ w) (hq:q.at_ w) (lp:p.j8 k) (lq:q.j8 k2) (hk:k+k2≤900000):
  Calls Tryz.prog 145 #[.agg #[.int .i64 p.v,.slice p.A p.n p.c],.agg #[.int .i64 q.v,.slice q.A q.n q.c]] w fun r w'=>∃g:PX,dW (ep p.ts q.ts) p.v (aF (cg p.ts q.ts)) g∧r=.returned (.tuple #[.agg #[.int .i64 g.v,.slice g.A g.n g.c],.int .i64 (ep p.ts q.ts)])∧Hp w [g.row] w':=by
 have hh:=Hp.start w;obtain ⟨pv,pA,pn,pc,ps⟩:=p;obtain ⟨qv,qA,qn,qc,qs⟩:=q;have hpl:ps.length=pn:=hp.ln;have hql:qs.length=qn:=hq.ln;have hpn:pn≤1000000:=lp.n;have hqn:qn≤1000000:=lq.n;have okp:ja k ps:=lp.ok;have okq:ja k2 qs:=lq.ok;have szp:∀t∈ps,t.m.size≤100000:=lp.sz;have szq:∀t∈qs,t.m.size≤100000:=lq.sz;replace hp:Sl w pA pn 4 (aD TR.cells ps):=hp;replace hq:Sl w qA qn 4 (aD TR.cells qs):=hq;clear lp lq;show Calls _ _ _ _ fun r w'=>∃g:PX,dW (ep ps qs) pv (aF (cg ps qs)) g∧r=.returned (.tuple #[.agg #[.int .i64 g.v,.slice g.A g.n g.c],.int .i64 (ep ps qs)])∧Hp w [g.row] w';have hmm:pn*qn≤1000000*1000000:=ZV hpn hqn;obtain ⟨m,hm⟩:∃m,m=pn*qn:=⟨_,rfl⟩;have hmi:(pn:Int)*(qn:Int)=(m:Int):=by rw [hm];exact (ZU _ _).symm
 by_cases h6:65536<m
 ·rw [CM (by rw [hpl,hql,←hm];exact h6)];refine ak (N:=78) (l:=[.agg #[.int .i64 pv,.slice pA pn pc],.agg #[.int .i64 qv,.slice qA qn qc]]) Tryz.func145 rfl rfl (by simp) ?_;exact Rr
 ·have hbig:¬65536<ps.length*qs.length:=by rw [hpl,hql,←hm];exact h6
  refine ak (N:=78) (l:=[.agg #[.int .i64 pv,.slice pA pn pc],.agg #[.int .i64 qv,.slice qA qn qc]]) Tryz.func145 rfl rfl (by simp) ?_;refine sr ?_;refine cu hh [_,_] ?_;intro b2 w2 hh;refine cu hh [_,_] ?_;intro b3 w3 hh;refine bW hh ?_;intro b4 w4 hh;refine aI (aa (ai (sr (bJ ?_))));refine bG hh 2 ?_;refine aK (bJ ?_);refine bG hh 1 ?_;refine aK ?_;refine mulC ?_;refine bT (aa (cF (au (aj (sr (aL (aa (ai (sr (aI (aa (av ?_))))))))))));replace hh:=hh.cN 80 4;have hall:∀i,((ps.take i).flatMap fun x=>qs.map (od x)).length≤65536:=fun i=>by
   exact VZ
  refine bC [5,6,7,8,9,10,20,21,22,23,24,25,26,27,28,29,30,31,32,33,34,35,36,37,38,39,40,41,42,43,44,45,46,47,48,49,50,51,52,53,54,55,56,57,58,59,60,61,62,63,64,65,66,67,68,69,70,71] 6 7
   (fun a x w'=>∃(i:Nat) (M:List TR) (A':Option Addr) (c':Nat),i≤pn∧x=.int .i64 i∧a=.slice A' M.length c'∧M=((ps.take i).flatMap fun x=>qs.map (od x))∧(∀e∈((ps.take i).flatMap fun x=>qs.map fun y=>ki x.m y.m),e=0)∧Hp w [.row A' M.length c' 80 4 (aD TR.cells M),.blk b4 24 [.int .i64 0,.slice none 0 0] (0,0),.blk b3 24 [.int .i64 qv,.slice qA qn qc] (0,0),.blk b2 24 [.int .i64 pv,.slice pA pn pc] (0,0)] w')
   (fun _ x _=>pn-(intOf x).toNat) ?_ ?_
  ·exact ⟨0,[],none,0,YD _,rfl,rfl,rfl,fun e he=>(nomatch he),hh⟩
  ·clear hh;rintro ρ' a_ x_ w' ⟨i,M,A',c',hi,rfl,rfl,hM,hz,hh⟩;have hMl:=hall i;rw [←hM] at hMl;by_cases hlt:i<pn
   ·obtain ⟨x,hx⟩:=ao (l:=ps) (k:=i) Yv;obtain ⟨ad,rfl,hr⟩:=hp.at_ Yv;have hxm:=YF hx;have hxo:=okp x hxm;have hxs:=szp x hxm;refine ai (sr (mI (bJ ?_)));refine bG hh 3 ?_;refine aK ?_;refine a8 (aa (cT (au (aj (ai (av (sr (aI (aa (av ?_))))))))));refine bC [5,6,8,9,10,27,28,29,30,31,32,33,34,35,36,37,38,39,40,41,42,43,44,45,46,47,48,49,50,51,52,53,54,55,56,57,58,59,60,61,62,63,64,65,66,67,68,69,70,71] 6 8
     (fun a z w'=>∃(j:Nat) (N:List TR) (A':Option Addr) (c':Nat),j≤qn∧z=.int .i64 j∧a=.slice A' N.length c'∧N=M++(qs.take j).map (od x)∧(∀e∈(qs.take j).map (fun y=>ki x.m y.m),e=0)∧Hp w [.row A' N.length c' 80 4 (aD TR.cells N),.blk b4 24 [.int .i64 0,.slice none 0 0] (0,0),.blk b3 24 [.int .i64 qv,.slice qA qn qc] (0,0),.blk b2 24 [.int .i64 pv,.slice (some ad) pn pc] (0,0)] w')
     (fun _ z _=>qn-(intOf z).toNat) ?_ ?_
    ·exact ⟨0,M,A',c',YD _,rfl,rfl,by simp,fun e he=>(nomatch he),hh⟩
    ·clear hh;rintro ρ2 a2 x2 w2 ⟨j,N,A2,c2,hj,rfl,rfl,hN,hz2,hh⟩;by_cases hjn:j<qn
     ·obtain ⟨y,hy⟩:=ao (l:=qs) (k:=j) Yv;obtain ⟨ad2,rfl,hr2⟩:=hq.at_ Yv;have hym:=YF hy;have hyo:=okq y hym;have hys:=szq y hym;have hmul:∀w1,Calls Tryz.prog 181 #[.string x.m,.string y.m] w1 fun r w'=>r=.returned (.tuple #[.string (mulM x.m y.m),.int .i64 (ki x.m y.m)])∧Below w1.heap.size w1 w':=fun w1=>EZ x.m y.m w1 hxs hys;have htm:=fun w1=>kv x.c y.c w1 (by have:=hxo.1.1;omega) (by have:=hyo.1.1;omega) (by have:=hxo.1.2.1;omega) (by have:=hxo.1.2.2;omega) (by have:=hyo.1.2.1;omega) (by have:=hyo.1.2.2;omega);obtain ⟨R,hR⟩:=ve (f:=fun x y=>ki x.m y.m) hx hy;have hzz:∀e∈((ps.take i).flatMap fun x=>qs.map fun y=>ki x.m y.m)++(qs.take j).map (fun y=>ki x.m y.m),e=0:=fun e he=>by
       rcases Zb.1 he with he|he
       ·exact hz e he
       ·exact hz2 e he
      have hNl:N.length<65536:=by
       exact R9
      by_cases he:ki x.m y.m=0
      ·refine ai (sr (mI (bJ ?_)));refine bG hh 2 ?_;refine aK ?_;refine kP ?_;refine QS ?_;refine cX ?_;refine dT 3 ?_;refine cZ ?_;refine jA (i) ?_;refine qG ?_;refine Lb ?_;refine cX ?_;refine dT 2 ?_;refine cZ ?_;refine jA (j) ?_;refine qG ?_;refine pK (fun _ hj=>((hr2.ext hj.hp.below).recAt TR.len hy).cell (i:=0) rfl) ?_;refine dC (fun _ hj=>hmul _) ?_;refine Wl ?_;refine Px ?_;refine Px ?_;refine Xx ?_;refine aM ?_;intro f W hJ hV;have hb_10:=hJ.bl;obtain ⟨v9,v49,v48,v34,v47,v46,v45,v44,v43,v42,v41,v40,v39,v38,v37,v36,v35,_⟩:=hV;replace hh:=hJ.hp;refine Qo ?_;dsimp only [bO];clear hJ;refine aI (aa (ai (sr (mI ?_))));refine db (aa (cF (au (aj ?_))));refine aW 17 [[(6,none)],[(9,none)],[(2,none)],[(56,some 2)],[(7,none)],[(57,some 3),(58,some 4)],[(59,some 5)],[(60,some 6)],[(3,none)],[(62,some 8)],[(8,none)],[(63,some 9),(64,some 10)],[(65,some 11)],[(66,some 12)],[(61,some 7),(67,some 13)],[(55,some 1),(68,some 14)],[(69,some 15)]] [(16,70),(15,69),(14,68),(13,67),(12,66),(11,65),(10,64),(9,63),(8,62),(7,61),(6,60),(5,59),(4,58),(3,57),(2,56),(1,55),(0,54)] hh mixed Yx ?_
       refine eQ ?_;refine Wj ?_;refine cX ?_;refine dT 3 ?_;refine cZ ?_;refine jA (i) ?_;refine qG ?_;refine nF [_,_,_] (fun _ hj=>((hr.ext hj.hp.below).recAt TR.len hx).drop 1) ?_;refine cX ?_;refine dT 2 ?_;refine cZ ?_;refine jA (j) ?_;refine qG ?_;refine nF [_,_,_] (fun _ hj=>((hr2.ext hj.hp.below).recAt TR.len hy).drop 1) ?_;refine dC (fun _ hj=>htm _) ?_;refine dB [_,_,_,_] ?_;refine pL [_,_,_,_] ?_;refine aM ?_;intro f W hJ hV;have hb_13:=hJ.bl;obtain ⟨v70,v69,v68,v67,v66,v65,v64,v63,v62,v61,v60,v59,v58,v57,v56,v55,v54,_⟩:=hV;obtain ⟨A70,c70,e70,f70⟩:Rows _ _ _ (f 16) W:=v70;replace hh:=hJ.hp;refine aQ (bg (ae e70 (ae v69 (ae v68 (ae v67 (ae v66 (ae v65 (ae v64 (ae v63 (ae v62 (ae v61 (ae v60 (ae v59 (ae v58 (ae v57 (ae v56 (ae v55 (ae v54 aR)))))))))))))))))) ?_;dsimp only [bO];clear e70 hJ;refine cd hh (i:=0) rfl rfl rfl (f70) bo.out aU.out rfl Yw (by first|rfl|exact dv _|exact cR _|exact br _|exact bD NR.one _) Yv Yv Yw ?_;intro A71 c71 w71 hh;simp only [YM] at hh;refine lC ?_;refine bm (aI (aE (aj ?_)))
       have e1:aD TR.cells N++[.string (mulM x.m y.m),.bool (nR (x.c.d*y.c.d)).neg,.string (nR (x.c.d*y.c.d)).bj,.int .i64 (nR (x.c.d*y.c.d)).e]=aD TR.cells (N++[od x y]):=by rw [bZ,iB];rfl
       rw [e1] at hh;exact QK
      ·rw [Hm hbig hR hzz he];generalize ki x.m y.m=e at*;refine ai (sr (mI (bJ ?_)));refine bG hh 2 ?_;refine aK ?_;refine kP ?_;refine QS ?_;refine cX ?_;refine dT 3 ?_;refine cZ ?_;refine jA (i) ?_;refine qG ?_;refine Lb ?_;refine cX ?_;refine dT 2 ?_;refine cZ ?_;refine jA (j) ?_;refine qG ?_;refine pK (fun _ hj=>((hr2.ext hj.hp.below).recAt TR.len hy).cell (i:=0) rfl) ?_;refine dC (fun _ hj=>hmul _) ?_;refine Wl ?_;refine Px ?_;refine Px ?_;refine Xx ?_;refine aM ?_;intro f W hJ hV;have hb_10:=hJ.bl;obtain ⟨v9,v49,v48,v34,v47,v46,v45,v44,v43,v42,v41,v40,v39,v38,v37,v36,v35,_⟩:=hV;replace hh:=hJ.hp;refine Qo ?_;dsimp only [bO];clear hJ;refine aI (aa (ai (sr (mI ?_))));refine db (aa (cT (sr ?_)));refine fH [_,_] (mI ?_);refine bV hh 1 [_,_] ?_;intro ws hh;replace hh:Hp _ (_::.blk _ _ [_,_] _::_) _:=hh;refine aI (aa (ay (aN (cm (aN (aN (cm (cm (aN (aN (cm (aN ?_))))))))))));refine yw ?_;exact NS
     ·obtain rfl:j=qn:=Yv;rw [YG Yv] at hz2 hN;refine ai (sr (mI (bJ ?_)));refine bG hh 2 ?_;refine aK ?_;refine a8 (aa (cF (a6 (aH (aH (bB (bM (aj (ar (mI ?_))))))))));refine bm (aI (aE (aj ?_)));exact SI
   ·obtain rfl:i=pn:=Yv;rw [YG Yv] at hz hM;have hMp:M=cg ps qs:=hM;rw [rM hbig hz,←hMp];have hpo:=qY okp okq Yv;rw [←hMp] at hpo;refine ai (sr (mI (bJ ?_)));refine bG hh 3 ?_;refine aK ?_;refine a8 (aa (cF (a6 (aH (aH (bB (aj (sr (bJ ?_)))))))));refine bG hh 3 ?_;refine mL ?_;refine aJ (ix pv A' M.length c' M (k+k2) _ (hh.aG (i:=0) rfl) Yv hpo Yv) aw.out rfl Yw ?_;rintro e_ w75 ⟨g,og,rfl,h3⟩;exact HK
def du (v:Int):ByteArray:=⟨(List.replicate v.toNat 0).toArray⟩
theorem kM {v:Int} (h:0≤v):((du v).size:Int)=v:=by
 have:(du v).size=v.toNat:=by unfold du;show (List.replicate v.toNat (0:UInt8)).toArray.size=_;rw [abc,ZX]
 omega
theorem sP (v:Int):eK (du v).data.toList=true:=by
 unfold eK du;rw [Y6];intro c hc;have:(⟨(List.replicate v.toNat (0:UInt8)).toArray⟩:ByteArray).data.toList=List.replicate v.toNat 0:=rfl;rw [this] at hc;rw [(List.mem_replicate.1 hc).2];decide
theorem wx (h:l.length≤4096):gF l=0:=by
 unfold gF;have:=bK l;rw [YB Yv]
theorem Ch {v:Int}{t:TR} (hf:iJ v=true) (h:eY v t=true):r7 v [t]=0:=by
 unfold r7;rw [YB (by rw [hf];simp [h]),YB (by simp),wx (by simp)]
def pQ (v:Int):Int:=if iJ v=false then 1 else 0
theorem ku (v:Int) (c:NR) (k:Nat) (w:World) (hT:e8 w) (hc:c.ok∧Sz k c.d) (hk:k≤2999980):
  Calls Tryz.prog 84 #[.int .i64 v,.agg #[.bool c.neg,.string c.bj,.int .i64 c.e]] w fun r w'=>∃g:PX,dW (pQ v) v (aF [⟨du v,c⟩]) g∧r=.returned (.tuple #[.agg #[.int .i64 g.v,.slice g.A g.n g.c],.int .i64 (pQ v)])∧Hp w [g.row] w':=by
 have hh:=Hp.start w;have hfw:=fun w1=>oV v w1
 cases hf:iJ v with
 |false=>
  rw [hf] at hfw;rw [show pQ v=1 by unfold pQ;rw [YA hf]];refine ak (N:=20) (l:=[.int .i64 v,.agg #[.bool c.neg,.string c.bj,.int .i64 c.e]]) Tryz.func84 rfl rfl (by simp) ?_;refine sr ?_;refine cu hh [_,_,_] ?_;intro b3 w3 hh;refine bW hh ?_;intro b4 w4 hh;refine aI (aa (ai (sr (mI ?_))));refine bA hh (hfw _) rfl ?_;intro w7 hh;refine fV ?_;refine aa (cT (sr ?_));exact Sf
 |true=>
  rw [hf] at hfw;obtain ⟨h0,h12⟩:=eF.1 hf;have hm:r7 v [⟨du v,c⟩]=0:=Ch hf (by unfold eY;rw [sP,YV (kM h0)];rfl);have hmk:=fun A cc w1 hT1 hS1=>nI v A 1 cc [⟨du v,c⟩] k w1 hT1 hS1 Yw Yv (fun t ht=>by rw [YT.1 ht];exact hc) (fun t ht=>by rw [YT.1 ht];have:=kM h0;show (du v).size≤_;omega);rw [hm] at hmk;rw [show pQ v=0 by unfold pQ;rw [YB (by rw [hf];decide)]];refine ak (N:=20) (l:=[.int .i64 v,.agg #[.bool c.neg,.string c.bj,.int .i64 c.e]]) Tryz.func84 rfl rfl (by simp) ?_;refine sr ?_;refine cu hh [_,_,_] ?_;intro b3 w3 hh;refine bW hh ?_;intro b4 w4 hh;refine aI (aa (ai (sr (mI ?_))));refine bA hh (hfw _) rfl ?_;intro w7 hh;refine fV ?_;refine xT ?_;refine mn [] [0,0,2,6,0,30,62,127,255,255,1023,2047] 7 [[(0,none)],[(0,none)],[(11,some 1)],[(12,some 2)],[(3,none)],[(13,some 3),(14,some 4)],[(15,some 5)]] [(6,16),(5,15),(4,14),(3,13),(2,12),(1,11),(0,10)] [([],4,[(6,16),(5,15),(4,14),(3,13),(2,12),(1,11),(0,10)])] hh mixed Yx Yx Yw ?_;refine cZ ?_;refine cZ ?_;refine aO (i:=2) (ir v.toNat 1 (mM (List.replicate v.toNat 0))) (ir.ext) ?_ ?_
  ·intro ρ1 w1 hj hR;exact mZ v.toNat ▸ Hf (n:=v.toNat) (show ρ1 11=Value.int _ _ from hR.1) (show ρ1 11=Value.int _ _ from hR.1) Yv Yv bo.out aU.out rfl Yv Yv (fun _ _ h1 h2=>⟨h2,h1⟩)
  refine aO (i:=3) (Is (.string (du v))) (Is.ext) ?_ ?_
  ·intro ρ1 w1 hj hR;obtain ⟨g12,e12,o12⟩:=hR.1;exact Sg
  refine ef 1 [_,_,_] ?_;refine dB [_,_,_,_] ?_;refine pL [_,_,_,_] ?_;refine aM ?_;intro p_ hp_;simp only [YS,abE,or_false] at hp_
  rcases hp_ with rfl
  intro f W hJ hV;have hb_3:=hJ.bl;obtain ⟨v16,v15,v14,v13,v12,v11,v10,_⟩:=hV;simp only [m8];have e10:f 0=_:=v10;rw [e10];have e11:f 1=_:=v11;rw [e11];obtain ⟨g12,e12,o12⟩:ir v.toNat 1 (mM (List.replicate v.toNat 0)) (f 2) W:=v12;rw [e12];have e13:f 3=_:=v13;rw [e13];have e14:f 4=_:=v14;rw [e14];have e15:f 5=_:=v15;rw [e15];obtain ⟨A16,c16,e16,f16⟩:Rows _ _ _ (f 6) W:=v16;rw [e16];replace hh:=hJ.hp;clear e10 e11 e12 e13 e14 e15 e16 hJ;refine aJ (hmk _ _ _ (hT.hp hh) f16) aw.out rfl Yw ?_;rintro e_ w17 ⟨g,og,rfl,h3⟩;refine ⟨_,rfl, ?_⟩;replace hh:=hh.join h3;refine fJ ?_;exact SB
def j3 (v:Int) (x:Nat):ByteArray:=⟨((List.replicate v.toNat (0:UInt8)).set x 1).toArray⟩
theorem sV {v:Int}{x:Nat} (h:0≤v):((j3 v x).size:Int)=v:=by
 have:(j3 v x).size=v.toNat:=by unfold j3;show ((List.replicate v.toNat (0:UInt8)).set x 1).toArray.size=_;rw [abc,aaX,ZX]
 omega
theorem Cd (v:Int) (x:Nat):eK (j3 v x).data.toList=true:=by
 unfold eK;rw [Y6];intro c hc;have:(j3 v x).data.toList=(List.replicate v.toNat 0).set x 1:=rfl;rw [this] at hc
 rcases List.mem_or_eq_of_mem_set hc with h|rfl
 ·rw [(List.mem_replicate.1 h).2];decide
 ·decide
theorem xX {l:List UInt8}{i:Nat}{c:UInt8} (h:i<l.length):cM (mM l) (i*1) [.int .u8 c.toNat]=mM (l.set i c):=by
 unfold cM mM;rw [YX,abF,YA h,Zq,Y1,abj,aa7,Ze]
 rfl
def kS (v x:Int):Int:=if iJ v=false∨x<0∨v≤x then 1 else 0
theorem uR (v x:Int) (w:World) (hT:e8 w):
  Calls Tryz.prog 83 #[.int .i64 v,.int .i64 x] w fun r w'=>∃g:PX,dW (kS v x) v (aF [⟨j3 v x.toNat,nR ((1:Int):Dyadic)⟩]) g∧r=.returned (.tuple #[.agg #[.int .i64 g.v,.slice g.A g.n g.c],.int .i64 (kS v x)])∧Hp w [g.row] w':=by
 have hh:=Hp.start w;have hfw:=fun w1=>oV v w1
 cases hf:iJ v with
 |false=>
  rw [hf] at hfw;rw [show kS v x=1 by unfold kS;rw [YA (.inl hf)]];refine GH ?_;refine sr ?_;refine bW hh ?_;intro b4 w4 hh;refine aI (aa (ai (sr (mI ?_))));refine bA hh (hfw _) rfl ?_;intro w8 hh;refine fV ?_;exact Kv
 |true=>
  rw [hf] at hfw;obtain ⟨h0,h12⟩:=eF.1 hf;by_cases hx0:x<0
  ·rw [show kS v x=1 by unfold kS;rw [YA (.inr (.inl hx0))]];refine GH ?_;refine sr ?_;refine bW hh ?_;intro b4 w4 hh;refine aI (aa (ai (sr (mI ?_))));refine bA hh (hfw _) rfl ?_;intro w8 hh;refine fV ?_;refine mB (gT (mI (gT ?_)));refine a8 ?_;refine dX ?_;exact Nt
  ·by_cases hx1:v≤x
   ·rw [show kS v x=1 by unfold kS;rw [YA (.inr (.inr hx1))]];refine GH ?_;refine sr ?_;refine bW hh ?_;intro b4 w4 hh;refine aI (aa (ai (sr (mI ?_))));refine bA hh (hfw _) rfl ?_;intro w8 hh;refine fV ?_;exact Sp
   ·rw [show kS v x=0 by unfold kS;rw [YB (by rintro (h|h|h);exact absurd (hf.symm.trans h) Yw;omega;omega)]];have hm:r7 v [⟨j3 v x.toNat,nR ((1:Int):Dyadic)⟩]=0:=Ch hf (by unfold eY;rw [Cd,YV (sV h0)];rfl);have z1:Sz 24 ((1:Int):Dyadic):=Ew (m:=1) (e:=0) Yw Yw Yw;have hmk:=fun A cc w1 hT1 hS1=>nI v A 1 cc [⟨j3 v x.toNat,nR ((1:Int):Dyadic)⟩] 24 w1 hT1 hS1 Yw Yv (fun t ht=>by rw [YT.1 ht];exact ⟨z1.ok Yw,by show Sz 24 (nR _).d;rw [cj];exact z1⟩) (fun t ht=>by rw [YT.1 ht];have:=sV (x:=x.toNat) h0;show (j3 v x.toNat).size≤_;omega);rw [hm] at hmk;refine GH ?_;refine sr ?_;refine bW hh ?_;intro b4 w4 hh;refine aI (aa (ai (sr (mI ?_))));refine bA hh (hfw _) rfl ?_;intro w8 hh;refine fV ?_;refine mB (gT (mI (gT ?_)));refine a8 ?_;refine dX ?_;refine mB (gT (mI (gT (mI (gT ?_)))));refine ej ?_;refine dX ?_;refine aa (cF (au (aj (sr (mI ?_)))));refine gE (n:=(v.toNat)) hh rfl rfl Yv Yv bo.out aU.out rfl Yv Yv Yw ?_;intro b21 w21 hh;refine aL (aa (sr (mL (mI ?_))));refine dn (k:=(x.toNat)) bo.out aU.size rfl rfl Yv Yv Yw ?_;rw [mZ] at hh
    have hll:(mM (List.replicate v.toNat 0)).length=v.toNat:=by simp [mM]
    refine GR ?_;intro ws hh;simp only [YM] at hh;rw [show cM (mM (List.replicate v.toNat 0)) (x.toNat*1) [.int .u8 1]=mM ((List.replicate v.toNat 0).set x.toNat 1) from xX (l:=List.replicate v.toNat 0) (i:=x.toNat) (c:=1) (by rw [ZX];omega)] at hh;refine aa (ai ?_);refine mn [] [0,0,2,0,14,30,63,127,127,511,1023] 6 [[(0,none)],[(6,none)],[(26,some 1)],[],[(27,some 2),(28,some 3)],[(29,some 4)]] [(5,30),(4,29),(3,28),(2,27),(1,26),(0,25)] [([],4,[(5,30),(4,29),(3,28),(2,27),(1,26),(0,25)])] hh mixed Yx Yx Yw ?_;refine cZ ?_;refine eQ ?_;refine aO (i:=2) (Is (.string ⟨(((List.replicate v.toNat 0).set x.toNat 1)).toArray⟩)) Is.ext ?_ ?_
    ·intro ρ1 w1 hj hR;exact eJ rfl (iT (l:=((List.replicate v.toNat 0).set x.toNat 1)) bo.out bo.out bo.out (show ρ1 26=Value.slice _ _ _ from hR.1) (hj.hp.aG (i:=0) rfl)) ⟨Below.refl _ _,rfl⟩
    refine dC (fun _ hj=>mF 1 _ (hT.hp hj.hp) Yw Yw) ?_;refine dB [_,_,_,_] ?_;refine pL [_,_,_,_] ?_;refine aM ?_;intro p_ hp_;simp only [YS,abE,or_false] at hp_
    rcases hp_ with rfl
    intro f W hJ hV;have hb_5:=hJ.bl;obtain ⟨v30,v29,v28,v27,v26,v25,_⟩:=hV;simp only [m8];have e25:f 0=_:=v25;rw [e25];have e26:f 1=_:=v26;rw [e26];have e27:f 2=_:=v27;rw [e27];have e28:f 3=_:=v28;rw [e28];have e29:f 4=_:=v29;rw [e29];obtain ⟨A30,c30,e30,f30⟩:Rows _ _ _ (f 5) W:=v30;rw [e30];replace hh:=hJ.hp;clear e25 e26 e27 e28 e29 e30 hJ;refine aJ (hmk _ _ _ (hT.hp hh) f30) aw.out rfl Yw ?_;rintro e_ w31 ⟨g,og,rfl,h3⟩;refine ⟨_,rfl, ?_⟩;replace hh:=hh.join h3;refine fJ ?_;exact QY
theorem jS (v:Int) (c:NR) (k:Nat) (w:World) (hc:c.ok∧Sz k c.d) (hk:k≤2999980):
  Calls Tryz.prog 93 #[.int .i64 v,.agg #[.bool c.neg,.string c.bj,.int .i64 c.e]] w fun r w'=>∃g:PX,dW (pQ v) v (aF [⟨du v,c⟩]) g∧r=.returned (.tuple #[.agg #[.int .i64 g.v,.slice g.A g.n g.c],.int .i64 (pQ v)])∧Hp w [g.row] w':=by
 have hh:=Hp.start w
 cases hf:iJ v with
 |false=>
  have hbv:¬(0≤v∧v≤12):=fun h=>by rw [eF.2 h] at hf;cases hf
  rw [show pQ v=1 by unfold pQ;rw [YA hf]];by_cases h0:v<0
  ·refine K2 ?_;refine sr ?_;refine cu hh [_,_,_] ?_;intro b3 w3 hh;refine bW hh ?_;intro b4 w4 hh;refine aI (aa (ai (sr (mI ?_))));refine a8 (mB ?_);refine gS (gS ?_);exact HW
  ·refine K2 ?_;refine sr ?_;refine cu hh [_,_,_] ?_;intro b3 w3 hh;refine bW hh ?_;intro b4 w4 hh;refine aI (aa (ai (sr (mI ?_))));exact RN
 |true=>
  obtain ⟨h0,h12⟩:=eF.1 hf;have hg:=fun A cc w1 hS1=>ix v A 1 cc [⟨du v,c⟩] k w1 hS1 Yw (fun t ht=>by rw [YT.1 ht];exact hc) Yv;rw [wx (by simp)] at hg;rw [show pQ v=0 by unfold pQ;rw [YB (by rw [hf];decide)]];generalize aF [⟨du v,c⟩]=G at*;refine K2 ?_;refine sr ?_;refine cu hh [_,_,_] ?_;intro b3 w3 hh;refine bW hh ?_;intro b4 w4 hh;refine aI (aa (ai (sr (mI ?_))));refine a8 (mB (gT (mI (gT ?_))));refine bT ?_;refine dX ?_;refine xT ?_;refine mn [] [0,0,2,6,0,30,62,127,255,255,1023,2047] 7 [[(0,none)],[(0,none)],[(14,some 1)],[(15,some 2)],[(3,none)],[(16,some 3),(17,some 4)],[(18,some 5)]] [(6,19),(5,18),(4,17),(3,16),(2,15),(1,14),(0,13)] [([],4,[(6,19),(5,18),(4,17),(3,16),(2,15),(1,14),(0,13)])] hh mixed Yx Yx Yw ?_;refine cZ ?_;refine cZ ?_;refine aO (i:=2) (ir v.toNat 1 (mM (List.replicate v.toNat 0))) (ir.ext) ?_ ?_
  ·intro ρ1 w1 hj hR;exact mZ v.toNat ▸ Hf (n:=v.toNat) (show ρ1 14=Value.int _ _ from hR.1) (show ρ1 14=Value.int _ _ from hR.1) Yv Yv bo.out aU.out rfl Yv Yv (fun _ _ h1 h2=>⟨h2,h1⟩)
  refine aO (i:=3) (Is (.string (du v))) (Is.ext) ?_ ?_
  ·intro ρ1 w1 hj hR;obtain ⟨g15,e15,o15⟩:=hR.1;exact Sg
  refine ef 1 [_,_,_] ?_;refine dB [_,_,_,_] ?_;refine pL [_,_,_,_] ?_;refine aM ?_;intro p_ hp_;simp only [YS,abE,or_false] at hp_
  rcases hp_ with rfl
  intro f W hJ hV;have hb_3:=hJ.bl;obtain ⟨v19,v18,v17,v16,v15,v14,v13,_⟩:=hV;simp only [m8];have e13:f 0=_:=v13;rw [e13];have e14:f 1=_:=v14;rw [e14];obtain ⟨g15,e15,o15⟩:ir v.toNat 1 (mM (List.replicate v.toNat 0)) (f 2) W:=v15;rw [e15];have e16:f 3=_:=v16;rw [e16];have e17:f 4=_:=v17;rw [e17];have e18:f 5=_:=v18;rw [e18];obtain ⟨A19,c19,e19,f19⟩:Rows _ _ _ (f 6) W:=v19;rw [e19];replace hh:=hJ.hp;clear e13 e14 e15 e16 e17 e18 e19 hJ;refine aJ (hg _ _ _ f19) aw.out rfl Yw ?_;rintro e_ w20 ⟨g,og,rfl,h3⟩;refine ⟨_,rfl, ?_⟩;replace hh:=hh.join h3;refine fJ ?_;exact SB
theorem CY (v x:Int) (w:World):
  Calls Tryz.prog 146 #[.int .i64 v,.int .i64 x] w fun r w'=>∃g:PX,dW (kS v x) v (aF [⟨j3 v x.toNat,nR ((1:Int):Dyadic)⟩]) g∧r=.returned (.tuple #[.agg #[.int .i64 g.v,.slice g.A g.n g.c],.int .i64 (kS v x)])∧Hp w [g.row] w':=by
 have hh:=Hp.start w;by_cases hv0:v<0
 ·rw [show kS v x=1 by unfold kS;rw [YA (.inl (by cases hf:iJ v with|false=>rfl|true=>have:=eF.1 hf;omega))]];refine B0 ?_;refine sr ?_;refine bW hh ?_;intro b4 w4 hh;refine aI (aa (ai (sr (mI ?_))));refine a8 (mB ?_);refine gS (gS ?_);refine fG ?_;exact Kv
 ·by_cases hv1:12<v
  ·rw [show kS v x=1 by unfold kS;rw [YA (.inl (by cases hf:iJ v with|false=>rfl|true=>have:=eF.1 hf;omega))]];refine B0 ?_;refine sr ?_;refine bW hh ?_;intro b4 w4 hh;refine aI (aa (ai (sr (mI ?_))));refine a8 (mB (gT (mI (gT ?_))));refine bT ?_;refine dX ?_;exact Kv
  ·have hf:iJ v=true:=eF.2 ⟨Yv,Yv⟩;by_cases hx0:x<0
   ·rw [show kS v x=1 by unfold kS;rw [YA (.inr (.inl hx0))]];refine B0 ?_;refine sr ?_;refine bW hh ?_;intro b4 w4 hh;refine aI (aa (ai (sr (mI ?_))));refine a8 (mB (gT (mI (gT ?_))));refine bT ?_;refine dX ?_;refine mB (gT (mI (gT ?_)));refine a8 ?_;refine dX ?_;exact Nt
   ·by_cases hx1:v≤x
    ·rw [show kS v x=1 by unfold kS;rw [YA (.inr (.inr hx1))]];refine B0 ?_;refine sr ?_;refine bW hh ?_;intro b4 w4 hh;refine aI (aa (ai (sr (mI ?_))));refine a8 (mB (gT (mI (gT ?_))));refine bT ?_;refine dX ?_;exact Sp
    ·rw [show kS v x=0 by unfold kS;rw [YB (by rintro (h|h|h);exact absurd (hf.symm.trans h) Yw;omega;omega)]];have z1:Sz 24 ((1:Int):Dyadic):=Ew (m:=1) (e:=0) Yw Yw Yw;have hg:=fun A cc w1 hS1=>ix v A 1 cc [⟨j3 v x.toNat,nR ((1:Int):Dyadic)⟩] 24 w1 hS1 Yw (fun t ht=>by rw [YT.1 ht];exact ⟨z1.ok Yw,by show Sz 24 (nR _).d;rw [cj];exact z1⟩) Yv;rw [wx (by simp)] at hg;generalize aF [⟨j3 v x.toNat,nR ((1:Int):Dyadic)⟩]=G at*;refine B0 ?_;refine sr ?_;refine bW hh ?_;intro b4 w4 hh;refine aI (aa (ai (sr (mI ?_))));refine a8 (mB (gT (mI (gT ?_))));refine bT ?_;refine dX ?_;refine mB (gT (mI (gT ?_)));refine a8 ?_;refine dX ?_;refine mB (gT (mI (gT (mI (gT ?_)))));refine ej ?_;refine dX ?_;refine aa (cF (au (aj (sr (mI ?_)))));refine gE (n:=(v.toNat)) hh rfl rfl Yv Yv bo.out aU.out rfl Yv Yv Yw ?_;intro b24 w24 hh;refine aL (aa (sr (mL (mI ?_))));refine dn (k:=(x.toNat)) bo.out aU.size rfl rfl Yv Yv Yw ?_;rw [mZ] at hh;have hll:(mM (List.replicate v.toNat 0)).length=v.toNat:=by simp [mM]
     refine GR ?_;intro ws hh;simp only [YM] at hh;rw [show cM (mM (List.replicate v.toNat 0)) (x.toNat*1) [.int .u8 1]=mM ((List.replicate v.toNat 0).set x.toNat 1) from xX (l:=List.replicate v.toNat 0) (i:=x.toNat) (c:=1) (by rw [ZX];omega)] at hh;refine aa (ai ?_);refine mn [] [0,0,2,0,14,30,63,127,127,511,1023] 6 [[(0,none)],[(6,none)],[(29,some 1)],[],[(30,some 2),(31,some 3)],[(32,some 4)]] [(5,33),(4,32),(3,31),(2,30),(1,29),(0,28)] [([],4,[(5,33),(4,32),(3,31),(2,30),(1,29),(0,28)])] hh mixed Yx Yx Yw ?_;refine cZ ?_;refine eQ ?_;refine aO (i:=2) (Is (.string ⟨(((List.replicate v.toNat 0).set x.toNat 1)).toArray⟩)) Is.ext ?_ ?_
     ·intro ρ1 w1 hj hR;exact eJ rfl (iT (l:=((List.replicate v.toNat 0).set x.toNat 1)) bo.out bo.out bo.out (show ρ1 29=Value.slice _ _ _ from hR.1) (hj.hp.aG (i:=0) rfl)) ⟨Below.refl _ _,rfl⟩
     refine dC (fun _ hj=>gm 1 _ Yw Yw) ?_;refine dB [_,_,_,_] ?_;refine pL [_,_,_,_] ?_;refine aM ?_;intro p_ hp_;simp only [YS,abE,or_false] at hp_
     rcases hp_ with rfl
     intro f W hJ hV;have hb_5:=hJ.bl;obtain ⟨v33,v32,v31,v30,v29,v28,_⟩:=hV;simp only [m8];have e28:f 0=_:=v28;rw [e28];have e29:f 1=_:=v29;rw [e29];have e30:f 2=_:=v30;rw [e30];have e31:f 3=_:=v31;rw [e31];have e32:f 4=_:=v32;rw [e32];obtain ⟨A33,c33,e33,f33⟩:Rows _ _ _ (f 5) W:=v33;rw [e33];replace hh:=hJ.hp;clear e28 e29 e30 e31 e32 e33 hJ;refine aJ (hg _ _ _ f33) aw.out rfl Yw ?_;rintro e_ w34 ⟨g,og,rfl,h3⟩;refine ⟨_,rfl, ?_⟩;replace hh:=hh.join h3;refine fJ ?_;exact QY
variable {E:Int}{b:Nat}{fz:Nat×Nat}{w1:World}
def fR (base:Nat) (E v:Int) (ts:List TR):VP:=fun x W=>∃(g:PX) (w1:World),x=.agg #[.int .i64 g.v,.slice g.A g.n g.c]∧dW E v ts g∧base≤w1.heap.size∧Hp w1 [g.row] W
theorem fR.ext {v:Int} (x:Value) (w w':World) (h:fR base E v ts x w) (hb:Below w.heap.size w w'):fR base E v ts x w':=let ⟨g,w1,h1,h2,h3,h4⟩:=h;⟨g,w1,h1,h2,h3,h4.ext hb⟩
def eV (base:Nat) (E v:Int) (ts:List TR):VP:=fun x W=>∃(g:PX) (w1:World),x=.tuple #[.agg #[.int .i64 g.v,.slice g.A g.n g.c],.int .i64 E]∧dW E v ts g∧base≤w1.heap.size∧Hp w1 [g.row] W
theorem eV.ext {v:Int} (x:Value) (w w':World) (h:eV base E v ts x w) (hb:Below w.heap.size w w'):eV base E v ts x w':=let ⟨g,w1,h1,h2,h3,h4⟩:=h;⟨g,w1,h1,h2,h3,h4.ext hb⟩
def Dx (base:Nat) (v:Int) (ts:List TR):VP:=fun x W=>∃(g:PX) (w1:World),x=.slice g.A g.n g.c∧dW 0 v ts g∧base≤w1.heap.size∧Hp w1 [g.row] W
theorem Dx.ext {v:Int} (x:Value) (w w':World) (h:Dx base v ts x w) (hb:Below w.heap.size w w'):Dx base v ts x w':=let ⟨g,w1,h1,h2,h3,h4⟩:=h;⟨g,w1,h1,h2,h3,h4.ext hb⟩
theorem PX.ne {g:PX}{t:TypeId}{cs:Array Value} (h:Hp w1 [g.row] W) (h3:W.heap[b]?=some (.cells cs t fz)) (h1:80≠t):∀x∈[g.row],x.id≠some b:=fun x hx=>by
 have hx2:=h.own x hx;obtain rfl:=YT.1 hx;exact La hx2 h3 h1
def eZ (a:List TR×Int) (g:PX):List TR×Int:=if a.2=0 then (aF (cg a.1 g.ts),ep a.1 g.ts) else a
def OP (ps:List PX):List TR×Int:=match ps with|[]=>([],0)|g::l=>l.foldl eZ (g.ts,0)
def rO (ps:List PX):Int:=if eE ps=0 then (OP ps).2 else eE ps
theorem DL {a:List TR×Int} (h:a.2≠0):∀l:List PX,l.foldl eZ a=a
 |[]=>rfl
 |g::l=>by
  rw [abz,show eZ a g=a by unfold eZ;rw [YB h]];exact DL h l
theorem zk {l:List PX}{a:List TR×Int}{i:Nat}{g:PX} (hx:l[i]?=some g) (h0:((l.take i).foldl eZ a).2=0) (h:ep ((l.take i).foldl eZ a).1 g.ts≠0):(l.foldl eZ a).2=ep ((l.take i).foldl eZ a).1 g.ts:=by
 have e:l=l.take i++g::l.drop (i+1):=by rw [←gC hx,Zv]
 have e2:l.foldl eZ a=(l.drop (i+1)).foldl eZ (eZ ((l.take i).foldl eZ a) g):=by
  conv=>lhs;rw [e]
  rw [abi,abz]
 rw [e2];have e3:eZ ((l.take i).foldl eZ a) g=(aF (cg ((l.take i).foldl eZ a).1 g.ts),ep ((l.take i).foldl eZ a).1 g.ts):=YA h0;rw [e3,DL h]
theorem xU {l:List PX}{a:List TR×Int}{i:Nat}{g:PX} (hx:l[i]?=some g) (h0:((l.take i).foldl eZ a).2=0):(l.take (i+1)).foldl eZ a=(aF (cg ((l.take i).foldl eZ a).1 g.ts),ep ((l.take i).foldl eZ a).1 g.ts):=by
 rw [aC hx,abi,abz,List.foldl_nil];exact YA h0
theorem uK {q:List TR} (hp:ja k p) (hq:ja j q) (sq:∀t∈q,t.m.size≤100000) (h:ep p q=0) (hk:k+j≤900000):ja (k+j+65536) (aF (cg p q))∧∀t∈aF (cg p q),t.m.size≤100000:=by
 obtain ⟨h6,_,h4⟩:=lM h;have ho:=qY hp hq Yv;have hz:=mm fun t ht=>(ho t ht).2;rw [md] at hz;refine ⟨fun t ht=> ?_,fun t ht=> ?_⟩
 ·have:Sz (k+j+65536) t.c.d:=(hz t ht).mono Yv;refine ⟨?_,this⟩;rw [(dQ _).nf t ht];exact this.ok Yv
 ·obtain ⟨s,hs,e⟩:=gZ t ht;obtain ⟨x,hx,hs⟩:=aai.1 hs;obtain ⟨y,hy,rfl⟩:=YR.1 hs;rw [←e];exact Y2 (JI _ _) (sq y hy)
theorem Da (L:Option Addr) (n c:Nat) (ps:List PX) (k s:Nat) (w:World) (hT:e8 w) (hL:Sl w L n 2 (aD PX.cells ps)) (hcn:n≤c) (hn:n≤8) (hf:∀g∈ps,g.at_ w) (hl:∀g∈ps,g.j8 k) (hs:k+65536≤s) (hk:k+k+(n-2)*s≤900000):
  Calls Tryz.prog 178 #[.slice L n c] w fun r w'=>∃g:PX,dW (rO ps) (fI ps) (OP ps).1 g∧r=.returned (.tuple #[.agg #[.int .i64 g.v,.slice g.A g.n g.c],.int .i64 (rO ps)])∧Hp w [g.row] w':=by
 have hh:=Hp.start w;have hln:=hL.bh PX.len Yw;have hlk:=fun w1 hT1 hb=>tG L n c ps k w1 hT1 (hL.ext hb) Yv (fun g hg=>(hf g hg).ext hb) hl;unfold rO;by_cases h0:eE ps=0
 ·rw [YA h0];rw [h0] at hlk;obtain ⟨hne,il,hvv⟩:=rn h0;obtain ⟨g0,pt,rfl⟩:=List.exists_cons_of_ne_nil hne;rw [jV (g:=g0) rfl];have hnp:pt.length+1=n:=hln;obtain ⟨ad,rfl,hr⟩:=hL.at_ Yv;have hm0:g0∈g0::pt:=YL;have hg0:=hl g0 hm0;have h00:(g0::pt)[0]?=some g0:=rfl;show Calls _ _ _ _ fun r w'=>∃g:PX,dW (pt.foldl eZ (g0.ts,0)).2 g0.v (pt.foldl eZ (g0.ts,0)).1 g∧r=.returned (.tuple #[.agg #[.int .i64 g.v,.slice g.A g.n g.c],.int .i64 (pt.foldl eZ (g0.ts,0)).2])∧Hp w [g.row] w';refine ak (N:=46) (l:=[.slice (some ad) n c]) Tryz.func178 rfl rfl (by simp) ?_;refine sr ?_;refine bW hh ?_;intro b2 w2 hh;refine aI (aa (ai (sr (mL ?_))));refine bA hh (hlk _ (hT.hp hh) hh.below) rfl ?_;intro w11 hh;refine aI (aa (sr (mI ?_)));refine db (aa (cF (au (aj (ai ?_)))));refine aW 11 [[(0,none)],[(16,some 0)],[(17,some 1)],[(18,some 2)],[(0,none)],[(20,some 4)],[(21,some 5)],[(22,some 6)],[(23,some 7)],[(19,some 3),(24,some 8)],[]] [(10,5),(9,25),(8,24),(7,23),(6,22),(5,21),(4,20),(3,19),(2,18),(1,17),(0,16)] hh mixed Yx ?_;refine eQ ?_;refine jA (0) ?_;refine qG ?_
  refine pK (fun _ hj=>cH hj.hp.below ((hr.recAt PX.len h00) 0 _ rfl)) ?_;refine eQ ?_;refine jA (0) ?_;refine qG ?_;refine pK (fun _ hj=>cH hj.hp.below ((hr.recAt PX.len h00) 1 _ rfl)) ?_;refine aO (i:=8) (Dx w11.heap.size g0.v g0.ts) (Dx.ext) ?_ ?_
  ·intro ρ1 w1 hj hR;exact bk rfl (aV aw.out (az (show ρ1 23=Value.slice _ _ _ from hR.1) bf)) (mR g0.A g0.n g0.c g0.ts w1 ((hf g0 hm0).ext hj.hp.below) hg0.n) (fun _ _ ⟨A,c,hq,ho,hb⟩=>⟨_,hq,hb,⟨g0.v,A,g0.n,c,g0.ts⟩,w1,rfl,⟨rfl,rfl⟩,hj.bl.size,(Hp.start w1).aY (x:=.row _ _ _ _ _ _) hb ho⟩)
  refine aO (i:=9) (fR w11.heap.size 0 g0.v g0.ts) (fR.ext) ?_ ?_
  ·intro ρ1 w1 hj hR;exact let ⟨g,u,e,o,q,h⟩:=hR.2.1;eJ rfl (uQ (cs:=[_,_]) aU.out nw.out (aX (show ρ1 19=Value.int _ _ from hR.1) (aX e cx)) rfl) ⟨Below.refl _ _,g,u,by rw [show g.v=g0.v from o.v],o,q,h⟩
  refine aO (i:=10) (cS _ 24 _) cS.ext (fun ρ1 w1 hj hR=>gP aU.out hj.bl (fun v w2 h hb=>⟨hb,h⟩)) ?_;refine aM ?_;intro f W hJ hV;have hb_4:=hJ.bl;obtain ⟨v5,v25,v24,v23,v22,v21,v20,v19,v18,v17,v16,_⟩:=hV;obtain ⟨g24,u24,e24, -⟩:=v24;obtain ⟨g25,u25,e25,o25,q25,h25⟩:=v25;obtain ⟨b5,e5,hl5,hc5⟩:cS _ _ _ (f 10) W:=v5;replace hh:=hJ.jH hh hl5 hc5 q25 h25 (PX.ne h25 hc5 Yw);refine aQ (bg (ae e5 (ae e25 (ae e24 (ae v23 (ae v22 (ae v21 (ae v20 (ae v19 (ae v18 (ae v17 (ae v16 aR)))))))))))) ?_;dsimp only [bO];clear e24 e25 e5 hJ;simp only [YJ,YH] at hh;obtain ⟨gv,gA,gn,gc,gts⟩:=g25;obtain rfl:g0.v=gv:=o25.v.symm;obtain rfl:g0.ts=gts:=o25.ts.symm;replace hh:=show Hp w (_::.row gA gn gc 80 4 (aD TR.cells g0.ts)::_) W from hh;have hgn:g0.ts.length=gn:=(hh.aG (i:=1) rfl).bh TR.len Yw;have hgc:gn≤gc:=hh.dJ (i:=1) rfl;refine bV hh 0 [_,_] ?_;intro ws hh;replace hh:Hp _ (.blk _ _ [_,_] _::_) _:=hh;refine aa (ai (sr (mL ?_)));refine aZ rfl rfl Yw (gJ bo.out aU.size rfl rfl (l:=1) rfl Yv Yv) ?_;refine aK (mI (aa (av ?_)));replace hh:=hh.perm (Zh (l₁:=[_]))
  simp only [YJ,YH] at hh;refine aT [3,7,8,9,29,30,31,32,33,34,35,36,37,38,39,40,41,42,43,44] 29
   (fun v w'=>∃(i:Nat) (g:PX),i≤n-1∧v=.int .i64 i∧((pt.take i).foldl eZ (g0.ts,0)).2=0∧g.v=g0.v∧g.ts=((pt.take i).foldl eZ (g0.ts,0)).1∧g.j8 (k+i*s)∧Hp w [.row g.A g.n g.c 80 4 (aD TR.cells g.ts),.blk b5 24 [.int .i64 g.v,.slice g.A g.n g.c] (0,0),.blk b2 24 [.int .i64 0,.slice none 0 0] (0,0)] w')
   (fun v _=>n-1-(intOf v).toNat) ?_ ?_
  ·exact ⟨0,⟨g0.v,gA,gn,gc,g0.ts⟩,YD _,rfl,rfl,rfl,rfl,⟨by show gn≤1000000;have:=hg0.n;have h9:=(hf g0 hm0).ln;omega,hgc,hg0.ok.mono (by rw [aba];omega),hg0.sz⟩,hh⟩
  ·clear hh;rintro ρ' v w' ⟨i,g,hi,rfl,hz,hgv,hts,hgl,hh⟩;by_cases hlt:i<n-1
   ·obtain ⟨f,hx⟩:=ao (l:=pt) (k:=i) Yv;have hmem:f∈g0::pt:=YP _ (YF hx);have his:i*s≤(n-2)*s:=ZH _ Yv;have his1:=ZE i s;have hbk:Sl w (if c=1 then some ad else (some ad:Option Addr).map (·.add (1*2))) (n-1) 2 (aD PX.cells pt):=hL.back Yv hcn;obtain ⟨ab,hAb,sb⟩:=hbk.at_ Yv;have il:Value.slice (if c=1 then some ad else (some ad:Option Addr).map (·.add (1*2))) (n-1) (c-1)=.slice (some ab) (n-1) (c-1):=by rw [hAb]
    have hfl:=hl f hmem;have hnx:=xU (a:=(g0.ts,0)) hx hz;have hsp:=zk (a:=(g0.ts,0)) hx hz;rw [←hts] at hnx hsp;refine sr ?_;refine eC ?_;refine dm (k:=i) bo.out aU.size il rfl Yv Yv Yw ?_;refine cG (vs:=[_,_]) aU.out rfl (show Rd _ _ [.int .i64 f.v,.slice f.A f.n f.c] from (sb.ext hh.below).recAt PX.len hx) rfl Yw ?_;refine bW hh ?_;intro b7 w7 hh;refine bV hh 0 [_,_] ?_;intro ws hh;replace hh:Hp _ (.blk _ _ [_,_] _::_) _:=hh;refine aa (sr ?_);refine cC hh 2 [_,_] ?_;refine cC hh 0 [_,_] ?_;refine aJ (Ah g f (k+i*s) k _ (hT.hp hh) (hh.aG (i:=1) rfl) ((hf f hmem).ext hh.below) hgl hfl Yv) aw.out rfl Yw ?_;rintro e_ w36 ⟨h,oh,rfl,h3⟩;refine ⟨_,rfl, ?_⟩;replace hh:=hh.join h3;simp only [YJ,YH] at hh;by_cases he:ep g.ts f.ts=0
    ·obtain ⟨hv,hA,hn2,hc2,hts2⟩:=h;rw [he] at oh;obtain rfl:g.v=hv:=oh.v.symm;obtain rfl:aF (cg g.ts f.ts)=hts2:=oh.ts.symm;replace hh:=show Hp w (.row hA hn2 hc2 80 4 (aD TR.cells (aF (cg g.ts f.ts)))::_) w36 from hh;have hhn:(aF (cg g.ts f.ts)).length=hn2:=(hh.aG (i:=0) rfl).bh TR.len Yw;have hhc:hn2≤hc2:=hh.dJ (i:=0) rfl;have h4:=(lM he).2.2;have htl:=uK hgl.ok hfl.ok hfl.sz he Yv;refine mT ?_;refine dx ?_;refine dx ?_;refine bW hh ?_;intro b8 w8 hh;refine bV hh 0 [_,_] ?_;intro ws hh;replace hh:Hp _ (.blk _ _ [_,_] _::_) _:=hh;refine aI (aa (ai (sr (mI ?_))));refine db (aa (cF (au (aj (ar ?_)))));refine cC hh 0 [_,_] ?_;refine bV hh 4 [_,_] ?_;intro ws hh;replace hh:Hp _ (_::_::_::_::.blk _ _ [_,_] _::_) _:=hh;refine gN ?_;refine bm (mI (aE (aj ?_)));replace hh:=hh.sub (YI _ (YC _ (YI _ (YI _ (YC _ (YC _ Y5))))))
     refine ⟨⟨i+1,⟨g.v,hA,hn2,hc2,aF (cg g.ts f.ts)⟩,Yv,rfl,by rw [hnx];exact he,hgv,by rw [hnx],⟨by show hn2≤1000000;omega,hhc,htl.1.mono (by rw [ZE];omega),htl.2⟩,hh⟩,by show n-1-(i+1)<n-1-i;omega, ?_⟩;exact dO
    ·rw [hsp he];refine mT ?_;refine dx ?_;refine dx ?_;refine bW hh ?_;intro b8 w8 hh;refine bV hh 0 [_,_] ?_;intro ws hh;replace hh:Hp _ (.blk _ _ [_,_] _::_) _:=hh;refine aI (aa (ai (sr (mI ?_))));refine db (aa (cT (sr ?_)));refine fH [_,_] (mI ?_);refine bV hh 5 [_,_] ?_;intro ws hh;replace hh:Hp _ (_::_::_::_::_::.blk _ _ [_,_] _::_) _:=hh;refine aI (aa (ay (aN (cm (aN (aN (cm (aN ?_))))))));refine PG (er rfl (ew (vs:=[_,_]) aU.out (hh.cn (i:=5) (n:=2) rfl rfl) rfl) (jF (kn rfl) fF)) ?_;exact NS
   ·obtain rfl:i=n-1:=Yv;rw [YG Yv] at hz hts;refine sr ?_;refine oa ?_;refine cC hh 1 [_,_] ?_;refine bV hh 2 [_,_] ?_;intro ws hh;replace hh:Hp _ (_::_::.blk _ _ [_,_] _::_) _:=hh;refine aI (aa (ay ?_));refine oJ ?_;rw [hz];exact ⟨g,⟨hgv,hts⟩,rfl,hh.sub (YC _ (Zr _))⟩
 ·rw [YB h0];generalize eE ps=e at*;refine ak (N:=46) (l:=[.slice L n c]) Tryz.func178 rfl rfl (by simp) ?_;refine sr ?_;refine bW hh ?_;intro b2 w2 hh;refine aI (aa (ai (sr (mL ?_))));refine bA hh (hlk _ (hT.hp hh) hh.below) rfl ?_;intro w11 hh;exact SS
def kd (p:PX) (n:Nat):List TR×Int:=(List.replicate n p).foldl eZ (aF [⟨du p.v,nR ((1:Int):Dyadic)⟩],0)
def BX (p:PX) (n:Int):Int:=if p.e=0 then (if n<0∨127<n then 1 else (kd p n.toNat).2) else p.e
theorem mD (p:PX) (i:Nat):kd p (i+1)=eZ (kd p i) p:=by unfold kd;rw [List.replicate_succ',abi];rfl
theorem y8 {p:PX}{i:Nat} (h:(kd p i).2≠0):∀{n:Nat},i≤n→kd p n=kd p i
 |0,hn=>by rw [show i=0 by omega]
 |n+1,hn=>by
  rcases Zj n i with h1|h1
  ·rw [show i=n+1 by omega]
  ·rw [mD,y8 h h1];exact YB h
def Cw (ps:List PX) (R:List HE) (g:PX):Prop:=(g∈ps∧R=[])∨R=[g.row]
theorem Cw.at_ {ps:List PX}{R H:List HE}{g:PX} (h:Cw ps R g) (hf:∀g∈ps,g.at_ w) (hh:Hp w (H++R) w'):g.at_ w':=by
 rcases h with ⟨h,_⟩|rfl
 ·exact (hf g h).ext hh.below
 ·exact jx (hh.own g.row (Z5 _ YL))
theorem JB (L:Option Addr) (n c:Nat) (ps:List PX) (k K:Nat) (w:World) (hL:Sl w L n 2 (aD PX.cells ps)) (hn:n≤8) (hf:∀g∈ps,g.at_ w) (hl:∀g∈ps,g.j8 k) (hkK:k≤K) (hk:K+k≤900000)
  (hg:∀(g0:PX) (pt:List PX),ps=g0::pt→∀i,i≤pt.length→((pt.take i).foldl eZ (g0.ts,0)).2=0→ja K ((pt.take i).foldl eZ (g0.ts,0)).1):
  Calls Tryz.prog 96 #[.slice L n c] w fun r w'=>∃(g:PX) (R:List HE),dW (rO ps) (fI ps) (OP ps).1 g∧(Cw ps R g∧g.n≤1000000∧(2≤n→R=[g.row]))∧r=.returned (.tuple #[.agg #[.int .i64 g.v,.slice g.A g.n g.c],.int .i64 (rO ps)])∧Hp w R w':=by
 have hh:=Hp.start w;have hln:=hL.bh PX.len Yw;have hlk:=fun w1 hb=>su L n c ps k w1 (hL.ext hb) Yv (fun g hg=>(hf g hg).ext hb) hl;unfold rO;by_cases h0:eE ps=0
 ·rw [YA h0];rw [h0] at hlk;obtain ⟨hne,il,hvv⟩:=rn h0;obtain ⟨g0,pt,rfl⟩:=List.exists_cons_of_ne_nil hne;rw [jV (g:=g0) rfl];have hnp:pt.length+1=n:=hln;obtain ⟨ad,rfl,hr⟩:=hL.at_ Yv;have hm0:g0∈g0::pt:=YL;have hg0:=hl g0 hm0;have h00:(g0::pt)[0]?=some g0:=rfl;show Calls _ _ _ _ fun r w'=>∃(g:PX) (R:List HE),dW (pt.foldl eZ (g0.ts,0)).2 g0.v (pt.foldl eZ (g0.ts,0)).1 g∧(Cw (g0::pt) R g∧g.n≤1000000∧(2≤n→R=[g.row]))∧r=.returned (.tuple #[.agg #[.int .i64 g.v,.slice g.A g.n g.c],.int .i64 (pt.foldl eZ (g0.ts,0)).2])∧Hp w R w';refine ak (N:=39) (l:=[.slice (some ad) n c]) Tryz.func96 rfl rfl (by simp) ?_;refine sr ?_;refine bW hh ?_;intro b2 w2 hh;refine aI (aa (ai (sr (mL ?_))));refine bA hh (hlk _ hh.below) rfl ?_;intro w10 hh;refine aI (aa (sr (mI ?_)));refine db (aa (cF (au (aj (sr (mL ?_))))));refine D9 ?_;refine cG (vs:=[_,_]) aU.out rfl ((hr.ext hh.below).recAt PX.len h00) rfl Yw ?_;refine bW hh ?_;intro b5 w5 hh;refine bV hh 0 [_,_] ?_;intro ws hh;replace hh:Hp _ (.blk _ _ [_,_] _::_) _:=hh;refine aa (ai (sr (aI (aa (av ?_)))))
  refine aT [3,6,7,8,18,19,20,21,22,23,24,25,26,27,28,29,30,31,32,33,34,35,36,37] 6
   (fun v w'=>∃(i:Nat) (g:PX) (R:List HE),i≤n-1∧v=.int .i64 ((i+1:Nat):Int)∧((pt.take i).foldl eZ (g0.ts,0)).2=0∧g.v=g0.v∧g.ts=((pt.take i).foldl eZ (g0.ts,0)).1∧g.j8 K∧Cw (g0::pt) R g∧(1≤i→R=[g.row])∧Hp w (.blk b5 24 [.int .i64 g.v,.slice g.A g.n g.c] (0,0)::.blk b2 24 [.int .i64 0,.slice none 0 0] (0,0)::R) w')
   (fun v _=>n-(intOf v).toNat) ?_ ?_
  ·exact ⟨0,g0,[],YD _,rfl,rfl,rfl,rfl,⟨hg0.n,hg0.cap,hg0.ok.mono Yv,hg0.sz⟩,.inl ⟨hm0,rfl⟩,fun h=>absurd h Yw,hh⟩
  ·clear hh;rintro ρ' v w' ⟨i,g,R,hi,rfl,hz,hgv,hts,hgl,hkp,hR1,hh⟩;by_cases hlt:i<n-1
   ·obtain ⟨q,hx⟩:=ao (l:=pt) (k:=i) Yv;have hmem:q∈g0::pt:=YP _ (YF hx);have hxx:(g0::pt)[i+1]?=some q:=by rw [aaY];exact hx
    have hfl:=hl q hmem;have hnx:=xU (a:=(g0.ts,0)) hx hz;have hsp:=zk (a:=(g0.ts,0)) hx hz;rw [←hts] at hnx hsp;have htc:=fun w1 (hj:Hp w (.blk b5 24 [.int .i64 g.v,.slice g.A g.n g.c] (0,0)::.blk b2 24 [.int .i64 0,.slice none 0 0] (0,0)::R) w1)=>pU g q K k w1 (hkp.at_ (H:=[_,_]) hf hj) ((hf q hmem).ext hj.below) hgl hfl Yv;refine ai (sr (mI (mL (aK ?_))));refine kP ?_;refine cP [9] [8] [0,0,0,6,14,31,63,127,127,0,767,2047] 10 [[(5,none)],[(0,none)],[(6,none)],[(26,some 1),(27,some 2)],[(28,some 3)],[(25,some 0),(29,some 4)],[(30,some 5)],[(24,some 6)],[(24,some 6)],[]] [(9,7),(8,32),(7,31),(6,24),(5,30),(4,29),(3,28),(2,27),(1,26),(0,25)] hh mixed Yx (jL rfl aU.out dr) rfl (by repeat (first|exact cz|refine bU ?_|refine cw ?_)) ?_;refine ef 0 [_,_] ?_;refine eQ ?_;refine cZ ?_;refine jA ((i+1)) ?_;refine nF [_,_] (fun _ hj=>(hr.ext hj.hp.below).recAt PX.len hxx) ?_;refine aO (i:=5) (eV hh.sz (ep g.ts q.ts) g.v (aF (cg g.ts q.ts))) (eV.ext) ?_ ?_
    ·intro ρ1 w1 hj hR;exact bk rfl (aV aw.out (az (show ρ1 25=Value.agg (List.toArray _) from hR.1) (az (show ρ1 29=Value.agg (List.toArray _) from hR.2.1) bf))) (htc w1 hj.hp) (fun _ _ ⟨g,og,hq,h3⟩=>⟨_,hq,h3.below,g,w1,rfl,og,hj.bl.size,h3⟩)
    refine aO (i:=6) (eV hh.sz (ep g.ts q.ts) g.v (aF (cg g.ts q.ts))) (eV.ext) ?_ ?_
    ·exact F0
    refine aO (i:=7) (fR hh.sz (ep g.ts q.ts) g.v (aF (cg g.ts q.ts))) (fR.ext) ?_ ?_
    ·exact EJ
    refine aO (i:=8) (Is (.int .i64 (ep g.ts q.ts))) (Is.ext) ?_ ?_
    ·exact EO
    refine aO (i:=9) (cS _ 24 _) cS.ext (fun ρ1 w1 hj hR=>gP aU.out hj.bl (fun v w2 h hb=>⟨hb,h⟩)) ?_;refine aM ?_;intro f W hJ hV _;have hb_8:=hJ.bl;obtain ⟨v7,v32,v31,v24,v30,v29,v28,v27,v26,v25,_⟩:=hV;obtain ⟨g30,u30,e30, -⟩:=v30;obtain ⟨g24,u24,e24, -⟩:=v24;obtain ⟨g31,u31,e31,o31,q31,h31⟩:=v31;obtain ⟨b7,e7,hl7,hc7⟩:cS _ _ _ (f 9) W:=v7;replace hh:=hJ.jH hh hl7 hc7 q31 h31 (PX.ne h31 hc7 Yw);refine aQ (bg (ae e7 (ae v32 (ae e31 (ae e24 (ae e30 (ae v29 (ae v28 (ae v27 (ae v26 (ae v25 aR))))))))))) ?_;dsimp only [bO];clear e30 e24 e31 e7 hJ;simp only [YJ,YH] at hh;obtain ⟨hv,hA,hn2,hc2,hts2⟩:=g31;replace hh:=show Hp w (_::.row hA hn2 hc2 80 4 (aD TR.cells hts2)::_) W from hh;have hhn:hts2.length=hn2:=(hh.aG (i:=1) rfl).bh TR.len Yw;have hhc:hn2≤hc2:=hh.dJ (i:=1) rfl;by_cases he:ep g.ts q.ts=0
    ·rw [he] at o31;obtain rfl:g.v=hv:=o31.v.symm;obtain rfl:aF (cg g.ts q.ts)=hts2:=o31.ts.symm;have h4:=(lM he).2.2;have htl:=(uK hgl.ok hfl.ok hfl.sz he Yv).2;have hgK:=hg g0 pt rfl (i+1) Yv (by rw [hnx];exact he);rw [hnx] at hgK;refine bV hh 0 [_,_] ?_;intro ws hh;replace hh:Hp _ (.blk _ _ [_,_] _::_) _:=hh;refine aI (aa (ai (sr (mI ?_))));refine db (aa (cF (au (aj (ar ?_)))));refine cC hh 0 [_,_] ?_;refine bV hh 2 [_,_] ?_;intro ws hh;replace hh:Hp _ (_::_::.blk _ _ [_,_] _::_) _:=hh;refine p9 ?_;refine bm (aI (aE (aj ?_)));replace hh:=hh.perm (Zh (l₁:=[_,_,_]));simp only [YJ,YH] at hh;replace hh:=hh.perm (Zh (l₁:=[_,_,_]));simp only [YJ,YH] at hh;refine ⟨⟨i+1,⟨g.v,hA,hn2,hc2,aF (cg g.ts q.ts)⟩,_,Yv,rfl,by rw [hnx];exact he,hgv,by rw [hnx],⟨by show hn2≤1000000;omega,hhc,hgK,htl⟩,.inr rfl,fun _=>rfl,hh.sub (.cons_cons _ (.cons_cons _ (.cons _ (.cons_cons _ (Zr _)))))⟩,by show n-(i+1+1)<n-(i+1);omega, ?_⟩;exact dO
    ·rw [hsp he];refine bV hh 0 [_,_] ?_;intro ws hh;replace hh:Hp _ (.blk _ _ [_,_] _::_) _:=hh;refine aI (aa (ai (sr (mI ?_))));refine db (aa (cT (sr ?_)));refine fH [_,_] (mI ?_);refine bV hh 3 [_,_] ?_;intro ws hh;replace hh:Hp _ (_::_::_::.blk _ _ [_,_] _::_) _:=hh;refine aI (aa (ay (aN (cm (aN (aN (cm (aN ?_))))))));refine C3 ?_;replace hh:=(hh.sub (Zr _)).AZ;exact ⟨PX.nil,_,dW.err he,⟨.inr rfl,Yw,fun _=>rfl⟩,rfl,hh⟩
   ·obtain rfl:i=n-1:=Yv;rw [YG Yv] at hz hts;refine ai (sr (mI (mL (aK ?_))));refine yC ?_;refine cC hh 0 [_,_] ?_;refine bV hh 1 [_,_] ?_;intro ws hh;replace hh:Hp _ (_::.blk _ _ [_,_] _::_) _:=hh;refine aI (aa (ay ?_));refine yw ?_;rw [hz];exact ⟨g,_,⟨hgv,hts⟩,⟨hkp,hgl.n,fun h=>hR1 Yv⟩,rfl,hh.sub (.cons _ (.cons _ (ZK _)))⟩
 ·rw [YB h0];generalize eE ps=e at*;refine ak (N:=39) (l:=[.slice L n c]) Tryz.func96 rfl rfl (by simp) ?_;refine sr ?_;refine bW hh ?_;intro b2 w2 hh;refine aI (aa (ai (sr (mL ?_))));refine bA hh (hlk _ hh.below) rfl ?_;intro w10 hh;refine aI (aa (sr (mI ?_)));refine db (aa (cT (sr ?_)));refine fH [_,_] (mI ?_);refine bV hh 0 [_,_] ?_;intro ws hh;replace hh:Hp _ (.blk _ _ [_,_] _::_) _:=hh;refine aI (aa (ay (aN ?_)));refine xi ?_;replace hh:=(hh.sub (Zr _)).AZ;exact ⟨PX.nil,_,dW.err h0,⟨.inr rfl,Yw,fun _=>rfl⟩,rfl,hh⟩
theorem Jo (p:PX) (n:Int) (k K:Nat) (w:World) (hp:p.at_ w) (lp:p.j8 k) (hkK:25≤K) (hk:K+k≤900000) (hn:n≤127→∀i,i≤n.toNat→(kd p i).2=0→ja K (kd p i).1):
  Calls Tryz.prog 94 #[.agg #[.int .i64 p.v,.slice p.A p.n p.c],.int .i64 n] w fun r w'=>∃g:PX,dW (BX p n) p.v (kd p n.toNat).1 g∧r=.returned (.tuple #[.agg #[.int .i64 g.v,.slice g.A g.n g.c],.int .i64 (BX p n)])∧Hp w [g.row] w':=by
 have hh:=Hp.start w;have hck:=fun w1 hb=>wV p k w1 (hp.ext hb) lp;unfold BX;by_cases h0:p.e=0
 ·rw [YA h0];rw [h0] at hck;obtain ⟨hf,h4,_,_⟩:=cB h0;have hpl:p.ts.length=p.n:=hp.ln;have hco:pQ p.v=0:=by unfold pQ;rw [YB (by rw [hf];decide)]
  have z1:Sz 24 ((1:Int):Dyadic):=Ew (m:=1) (e:=0) Yw Yw Yw;have hcn:=fun w1=>jS p.v (nR ((1:Int):Dyadic)) 24 w1 ⟨z1.ok Yw,by rw [cj];exact z1⟩ Yw;rw [hco] at hcn;have hg1:=bK [⟨du p.v,nR ((1:Int):Dyadic)⟩];have hgo:ja K (aF [⟨du p.v,nR ((1:Int):Dyadic)⟩]):=fun t ht=>by
   have h1:Sz K t.c.d:=(mm (k:=24) (l:=[⟨du p.v,nR ((1:Int):Dyadic)⟩]) (fun s hs=>by rw [YT.1 hs,cj];exact z1) t ht).mono (show 24+1≤K by omega);exact ⟨by rw [(dQ _).nf t ht];exact h1.ok Yv,h1⟩
  have hgz:∀t∈aF [⟨du p.v,nR ((1:Int):Dyadic)⟩],t.m.size≤100000:=fun t ht=>by
   obtain ⟨s,hs,e⟩:=gZ t ht;rw [←e,YT.1 hs];have h1:=eF.1 hf;have h2:=kM h1.1;show (du p.v).size≤100000;omega
  have hpw:kd p 0=(aF [⟨du p.v,nR ((1:Int):Dyadic)⟩],0):=rfl;generalize aF [⟨du p.v,nR ((1:Int):Dyadic)⟩]=G at*;by_cases hb:n<0∨127<n
  ·rw [YA hb];by_cases hneg:n<0
   ·refine LD ?_;refine sr ?_;refine cu hh [_,_] ?_;intro b2 w2 hh;refine bW hh ?_;intro b4 w4 hh;refine aI (aa (ai (sr ?_)));refine cC hh 1 [_,_] ?_;refine bA hh (hck _ hh.below) rfl ?_;intro w13 hh;refine aI (aa (sr (mI ?_)));refine yJ ?_;refine a8 (mB ?_);refine gS (gS ?_);exact HW
   ·refine LD ?_;refine sr ?_;refine cu hh [_,_] ?_;intro b2 w2 hh;refine bW hh ?_;intro b4 w4 hh;refine aI (aa (ai (sr ?_)));refine cC hh 1 [_,_] ?_;refine bA hh (hck _ hh.below) rfl ?_;intro w13 hh;refine aI (aa (sr (mI ?_)));refine yJ ?_;exact RN
  ·rw [YB hb];have hnn:n=(n.toNat:Int):=Yv;replace hn:=hn Yv;generalize n.toNat=m at*;subst hnn;refine ak (N:=49) (l:=[.agg #[.int .i64 p.v,.slice p.A p.n p.c],.int .i64 m]) Tryz.func94 rfl rfl (by simp) ?_;refine sr ?_;refine cu hh [_,_] ?_;intro b2 w2 hh;refine bW hh ?_;intro b4 w4 hh;refine aI (aa (ai (sr ?_)));refine cC hh 1 [_,_] ?_;refine bA hh (hck _ hh.below) rfl ?_;intro w13 hh;refine aI (aa (sr (mI ?_)));refine yJ ?_;refine a8 (mB (gT (mI (gT ?_))));refine bT ?_;refine dX ?_;refine xT ?_;refine cP [7] [6] [0,1,0,7,15,31,31,0,191,511] 8 [[(2,none)],[(26,some 0)],[],[(27,some 1),(28,some 2)],[(29,some 3)],[(25,some 4)],[(25,some 4)],[]] [(7,7),(6,31),(5,30),(4,25),(3,29),(2,28),(1,27),(0,26)] hh mixed Yx (jL rfl aU.out dr) rfl (by repeat (first|exact cz|refine bU ?_|refine cw ?_)) ?_;refine cX ?_;refine dT 1 ?_;refine dC (fun _ hj=>gm 1 _ Yw Yw) ?_;refine aO (i:=3) (eV hh.sz 0 p.v G) (eV.ext) ?_ ?_
   ·intro ρ1 w1 hj hR;exact bk rfl (aV aw.out (az (show ρ1 27=Value.int _ _ from hR.1) (az (show ρ1 28=Value.agg _ from hR.2.1) bf))) (hcn w1) (fun _ _ ⟨g,og,hq,h3⟩=>⟨_,hq,h3.below,g,w1,rfl,og,hj.bl.size,h3⟩)
   refine aO (i:=4) (eV hh.sz 0 p.v G) (eV.ext) ?_ ?_
   ·exact F0
   refine aO (i:=5) (fR hh.sz 0 p.v G) (fR.ext) ?_ ?_
   ·exact EJ
   refine aO (i:=6) (Is (.int .i64 0)) (Is.ext) ?_ ?_
   ·exact EO
   refine aO (i:=7) (cS _ 24 _) cS.ext (fun ρ1 w1 hj hR=>gP aU.out hj.bl (fun v w2 h hb=>⟨hb,h⟩)) ?_;refine aM ?_;intro f W hJ hV _;have hb_6:=hJ.bl;obtain ⟨v7,v31,v30,v25,v29,v28,v27,v26,_⟩:=hV;obtain ⟨g29,u29,e29, -⟩:=v29;obtain ⟨g25,u25,e25, -⟩:=v25;obtain ⟨g30,u30,e30,o30,q30,h30⟩:=v30;obtain ⟨b7,e7,hl7,hc7⟩:cS _ _ _ (f 7) W:=v7;replace hh:=hJ.jH hh hl7 hc7 q30 h30 (PX.ne h30 hc7 Yw);refine aQ (bg (ae e7 (ae v31 (ae e30 (ae e25 (ae e29 (ae v28 (ae v27 (ae v26 aR))))))))) ?_;dsimp only [bO];clear e29 e25 e30 e7 hJ;simp only [YJ,YH] at hh;obtain ⟨gv,gA,gn,gc,gts⟩:=g30;obtain rfl:p.v=gv:=o30.v.symm;obtain rfl:G=gts:=o30.ts.symm;replace hh:=show Hp w (_::.row gA gn gc 80 4 (aD TR.cells G)::_) W from hh;have hgn:G.length=gn:=(hh.aG (i:=1) rfl).bh TR.len Yw;have hgc:gn≤gc:=hh.dJ (i:=1) rfl;refine bV hh 0 [_,_] ?_;intro ws hh;replace hh:Hp _ (.blk _ _ [_,_] _::_) _:=hh;refine aI (aa (ai (sr (aI (aa (av ?_))))));replace hh:=hh.perm (Zh (l₁:=[_]));simp only [YJ,YH] at hh
   refine aT [5,9,10,11,32,33,34,35,36,37,38,39,40,41,42,43,44,45,46,47] 9
    (fun x w'=>∃(i:Nat) (g:PX),i≤m∧x=.int .i64 i∧(kd p i).2=0∧g.v=p.v∧g.ts=(kd p i).1∧g.j8 K∧Hp w [.row g.A g.n g.c 80 4 (aD TR.cells g.ts),.blk b7 24 [.int .i64 g.v,.slice g.A g.n g.c] (0,0),.blk b4 24 [.int .i64 0,.slice none 0 0] (0,0),.blk b2 24 [.int .i64 p.v,.slice p.A p.n p.c] (0,0)] w')
    (fun x _=>m-(intOf x).toNat) ?_ ?_
   ·refine ⟨0,⟨p.v,gA,gn,gc,G⟩,YD _,rfl,by rw [hpw],rfl,by rw [hpw],⟨?_,hgc,hgo,hgz⟩,hh⟩;show gn≤1000000;have:G.length≤1:=hg1;omega
   ·clear hh;rintro ρ' x_ w' ⟨i,g,hi,rfl,hz,hgv,hgt,hlim,hh⟩;have hnx:=mD p i;have hst:=fun h n=>y8 (p:=p) (i:=i+1) (n:=n) h;rw [show eZ (kd p i) p=(aF (cg g.ts p.ts),ep g.ts p.ts) by rw [hgt];exact YA hz] at hnx;by_cases hlt:i<m
    ·have hti:=fun h=>uK hlim.ok lp.ok lp.sz h Yv;refine ai (sr (mI (mI ?_)));refine a8 (aa (cT (au (aj (ai (av (sr ?_)))))));refine cC hh 1 [_,_] ?_;refine cC hh 3 [_,_] ?_;refine aJ (pU g p K k _ (hh.aG (i:=0) rfl) (hp.ext hh.below) hlim lp Yv) aw.out rfl Yw ?_;rintro e_ w40 ⟨h,oh,rfl,h3⟩;refine ⟨_,rfl, ?_⟩;replace hh:=hh.join h3;simp only [YJ,YH] at hh;obtain ⟨hv,hA,hn2,hc2,hts2⟩:=h;replace hh:=show Hp w (.row hA hn2 hc2 80 4 (aD TR.cells hts2)::_) w40 from hh;have hhn:hts2.length=hn2:=(hh.aG (i:=0) rfl).bh TR.len Yw;have hhc:hn2≤hc2:=hh.dJ (i:=0) rfl;by_cases he:ep g.ts p.ts=0
     ·rw [he] at oh;have htl:=(hti he).2;have hnK:=hn (i+1) Yv (by rw [hnx];exact he);rw [hnx] at hnK;have h4:=(lM he).2.2;obtain rfl:g.v=hv:=oh.v.symm;obtain rfl:aF (cg g.ts p.ts)=hts2:=oh.ts.symm;refine mT ?_;refine dx ?_;refine dx ?_;refine bW hh ?_;intro b10 w10 hh;refine bV hh 0 [_,_] ?_;intro ws hh;replace hh:Hp _ (.blk _ _ [_,_] _::_) _:=hh;refine aI (aa (ai (sr (mI ?_))));refine db (aa (cF (au (aj (ar ?_)))));refine cC hh 0 [_,_] ?_;refine bV hh 3 [_,_] ?_;intro ws hh;replace hh:Hp _ (_::_::_::.blk _ _ [_,_] _::_) _:=hh;refine p9 ?_;refine bm (aI (aE (aj ?_)));replace hh:=hh.sub (YI _ (YC _ (YI _ (YC _ (YC _ (YC _ Y5))))));refine ⟨⟨i+1,⟨g.v,hA,hn2,hc2,aF (cg g.ts p.ts)⟩,Yv,rfl,by rw [hnx];exact he,hgv,by rw [hnx],⟨by show hn2≤1000000;omega,hhc,hnK,htl⟩,hh⟩,by show m-(i+1)<m-i;omega, ?_⟩;exact dO
     ·rw [hst (by rw [hnx];exact he) m Yv,hnx];refine mT ?_;refine dx ?_;refine dx ?_;refine bW hh ?_;intro b10 w10 hh;refine bV hh 0 [_,_] ?_;intro ws hh;replace hh:Hp _ (.blk _ _ [_,_] _::_) _:=hh;refine aI (aa (ai (sr (mI ?_))));refine db (aa (cT (sr ?_)));refine fH [_,_] (mI ?_);refine bV hh 4 [_,_] ?_;intro ws hh;replace hh:Hp _ (_::_::_::_::.blk _ _ [_,_] _::_) _:=hh;refine aI (aa (ay (aN (cm (aN (aN (cm (aN ?_))))))));refine PG (er rfl (ew (vs:=[_,_]) aU.out (hh.cn (i:=4) (n:=2) rfl rfl) rfl) (jF (kn rfl) fF)) ?_;exact NS
    ·obtain rfl:i=m:=Yv;rw [hz];refine ai (sr (mI (mI ?_)));refine yC ?_;refine cC hh 1 [_,_] ?_;refine bV hh 2 [_,_] ?_;intro ws hh;replace hh:Hp _ (_::_::.blk _ _ [_,_] _::_) _:=hh;refine aI (aa (ay ?_));refine oJ ?_;exact ⟨g,⟨hgv,hgt⟩,rfl,hh.sub (YC _ (Zr _))⟩
 ·rw [YB h0];refine LD ?_;refine sr ?_;refine cu hh [_,_] ?_;intro b2 w2 hh;refine bW hh ?_;intro b4 w4 hh;refine aI (aa (ai (sr ?_)));refine cC hh 1 [_,_] ?_;refine bA hh (hck _ hh.below) rfl ?_;intro w13 hh;exact SS
def p6 (s:ByteArray) (i:Nat):Int:=match s.data.toList[i]? with|some c=>c.toNat|none=>0
def Cb (l:List TR) (i:Nat):Int:=l.foldl (fun m t=>max m (p6 t.m i)) 0
def nE (m:Nat) (l:List TR):List Int:=(List.range m).map (Cb l)
def yV (v:Int) (ts:List TR):List Int:=if fj v ts=0 then nE v.toNat ts else []
theorem fW (m:Nat) (l:List TR):(nE m l).length=m:=by unfold nE;rw [YO,aav]
theorem uM (l:List TR) (h:j<m):(nE m l)[j]?=some (Cb l j):=by
 unfold nE;rw [YN,Zx h]
 rfl
theorem vc (l:List TR) (t:TR) (i:Nat):Cb (l++[t]) i=max (Cb l i) (p6 t.m i):=by unfold Cb;rw [abi];rfl
theorem KO {s:ByteArray}{i:Nat}{c:UInt8} (h:s.data.toList[i]?=some c):p6 s i=c.toNat:=by unfold p6;rw [h]
theorem P4 {A B:List α}{y:α} (h:A.length=B.length) (hy:B[j]?=some y):(B.take j++A.drop j).set j y=B.take (j+1)++A.drop (j+1):=by
 have hj:=(YQ.1 hy).1;have hl:(B.take j).length=j:=by rw [YW];omega
 obtain ⟨x,hx⟩:=ao (l:=A) (k:=j) Yv;rw [gC hx,aC hy,aaI _ _ Yv,hl,Zu];simp
theorem P8 {A B:List α}{x:α} (h:A.length=B.length) (hx:A[j]?=some x):(B.take j++A.drop j)[j]?=some x:=by
 have hj:=(YQ.1 hx).1;have hl:(B.take j).length=j:=by rw [YW];omega
 rw [ZQ Yv,hl,Zu,Z6,aab,hx]
theorem K6 (m:Nat):gu m [.int .i64 0]=bQ (nE m []):=by
 have h1:∀n,gu n [.int .i64 0]=bQ (List.replicate n 0):=fun n=>by
  induction n with
  |zero=>rfl
  |succ n ih=>rw [gu,ih,aax];rfl
 rw [h1];congr 1;apply ZN;intro i;by_cases h:i<m
 ·rw [uM [] h,List.getElem?_replicate,YA h]
  rfl
 ·rw [Y7 (by rw [ZX];omega),Y7 (by rw [fW];omega)]
theorem tL (p:PX) (k:Nat) (w:World) (hT:e8 w) (hp:p.at_ w) (lp:p.j8 k):
  Calls Tryz.prog 35 #[.agg #[.int .i64 p.v,.slice p.A p.n p.c]] w fun r w'=>∃A c,r=.returned (.slice A (yV p.v p.ts).length c)∧Hp w [.row A (yV p.v p.ts).length c 3 1 (bQ (yV p.v p.ts))] w':=by
 have hh:=Hp.start w;have hck:=fun w1 hT1 hb=>pB p k w1 hT1 (hp.ext hb) lp;by_cases h0:p.e=0
 ·rw [show yV p.v p.ts=nE p.v.toNat p.ts from YA h0,fW];rw [h0] at hck;obtain ⟨hf,h4,hmy,_⟩:=cB h0;have hpl:p.ts.length=p.n:=hp.ln;obtain ⟨pv,pA,pn,pc,ts⟩:=p;replace hf:=eF.1 hf;replace hmy:∀t∈ts,eY pv t=true:=hmy;replace hp:Sl w pA pn 4 (aD TR.cells ts):=hp;have hsz:∀t∈ts,t.m.size≤100000:=lp.sz;have hn:=lp.n;replace hn:pn≤1000000:=hn;replace hpl:ts.length=pn:=hpl;obtain ⟨m,rfl⟩:∃m:Nat,pv=(m:Int):=⟨pv.toNat,by show pv=_;have:0≤pv:=hf.1;omega⟩;replace hf:m≤12:=by have h9:(m:Int)≤12:=hf.2;omega
  show Calls _ _ _ _ fun r w'=>∃A c,r=.returned (.slice A m c)∧Hp w [.row A m c 3 1 (bQ (nE m ts))] w';refine ak (N:=42) (l:=[.agg #[.int .i64 m,.slice pA pn pc]]) Tryz.func35 rfl rfl (by simp) ?_;refine sr ?_;refine cu hh [_,_] ?_;intro b1 w1 hh;refine aL (aa (ai (sr ?_)));refine cC hh 0 [_,_] ?_;refine gB ?_;intro w9 hh;refine db (aa (cF (au (aj (sr (bJ ?_))))));refine bG hh 0 ?_;refine gE (n:=m) hh rfl rfl Yv Yv bo.out aU.out rfl Yv Yv Yw ?_;intro b13 w13 hh;refine aL (aa (ai (sr (bJ ?_))));refine bG hh 1 ?_;refine aK (mI (aa (av ?_)));rw [K6] at hh;refine aT [5,6,7,17,18,19,20,21,22,23,24,25,26,27,28,29,30,31,32,33,34,35,36,37,38,39,40] 17
   (fun v w'=>∃i:Nat,i≤pn∧v=.int .i64 i∧Hp w [.row (some ⟨b13,0,none⟩) m m 3 1 (bQ (nE m (ts.take i))),.blk b1 24 [.int .i64 m,.slice pA pn pc] (0,0)] w')
   (fun v _=>pn-(intOf v).toNat) ?_ ?_
  ·exact ⟨0,YD _,rfl,hh⟩
  ·clear hh;rintro ρ' v w' ⟨i,hi,rfl,hh⟩;by_cases hlt:i<pn
   ·obtain ⟨x,hx⟩:=ao (l:=ts) (k:=i) Yv;obtain ⟨ad,rfl,hr⟩:=hp.at_ Yv;have hxm:=YF hx;have hxs:=hsz x hxm;have hmx:=aaE.1 (hmy x hxm);have hxz:x.m.size=m:=by have:=Z8 hmx.2;omega
    have hxl:x.m.data.toList.length=m:=by rw [←dP];exact hxz
    have hex:jw x.m.data.toList=ints x.m.data.toList:=kJ hmx.1;have hel:(jw x.m.data.toList).length=m:=by rw [hex,dE];exact hxl
    have hBl:(nE m (ts.take i)).length=(nE m (ts.take (i+1))).length:=by rw [fW,fW]
    refine sr ?_;refine eC ?_;refine cE ?_;refine mq ?_;refine bW hh ?_;intro b5 w5 hh;refine bV hh 0 [_,_,_,_] ?_;intro ws hh;replace hh:Hp _ (.blk _ _ [_,_,_,_] _::_) _:=hh;refine aa (sr (bJ ?_));refine bG hh 0 ?_;refine aJ (iK x.m _ hxs) aw.out rfl Yw ?_;rintro e_ w23 ⟨A23,c23,rfl,hown_,hb_⟩;refine ⟨_,rfl, ?_⟩;replace hh:=hh.aY (x:=.row _ _ _ _ _ _) hb_ hown_;rw [hel] at hh ⊢;refine aK (mI (aa (av ?_)));refine aT [6,7,25,26,27,28,29,30,31,32,33,34,35,36,37,38,39] 25
     (fun v w'=>∃j:Nat,j≤m∧v=.int .i64 j∧Hp w [.row A23 m c23 3 1 (bQ (jw x.m.data.toList)),.blk b5 80 [.string x.m,.bool x.c.neg,.string x.c.bj,.int .i64 x.c.e] (0,0),.row (some ⟨b13,0,none⟩) m m 3 1 (bQ ((nE m (ts.take (i+1))).take j++(nE m (ts.take i)).drop j)),.blk b1 24 [.int .i64 m,.slice (some ad) pn pc] (0,0)] w')
     (fun v _=>m-(intOf v).toNat) ?_ ?_
    ·exact ⟨0,YD _,rfl,hh⟩
    ·clear hh;rintro ρ2 v w2 ⟨j,hj,rfl,hh⟩;by_cases hjn:j<m
     ·obtain ⟨e,he⟩:=ao (l:=x.m.data.toList) (k:=j) Yv;have hee:(jw x.m.data.toList)[j]?=some (e.toNat:Int):=by rw [hex];exact AE he
      have ho:=P8 hBl (uM (ts.take i) hjn);have hset:=P4 hBl (uM (ts.take (i+1)) hjn);have hmx2:Cb (ts.take (i+1)) j=max (Cb (ts.take i) j) (e.toNat:Int):=by rw [aC hx,vc,KO he]
      rw [hmx2] at hset;have hol:((nE m (ts.take (i+1))).take j++(nE m (ts.take i)).drop j).length=m:=by rw [YK,YW,ZM,fW,fW];omega
      generalize (nE m (ts.take (i+1))).take j++(nE m (ts.take i)).drop j=M at*;have hee2:=cL hee;have ho2:=cL ho;have hll:(bQ M).length=m:=by rw [cD];exact hol
      obtain ⟨g,rfl⟩:=hh.cK (i:=0) rfl Yv;refine sr ?_;refine e9 ?_;refine nQ ?_;refine jY ?_;refine aI (aI (aa (ar (mL (mI (mL (mI ?_)))))));refine nQ ?_;refine DR ?_;refine mI ?_;refine lL rfl rfl Yw ?_;refine rz ?_;have hmv:(if (e.toNat:Int)>Cb (ts.take i) j then (e.toNat:Int) else Cb (ts.take i) j)=max (Cb (ts.take i) j) (e.toNat:Int):=by split<;>omega
      refine cA hh (i:=2) (vs:=[_]) rfl rfl (dk rfl) rfl aU.out rfl Yv rfl ?_;intro ws hh;simp only [YM,Zg] at hh;rw [hmv,tR _ (by rw [←cD];omega),hset] at hh;refine gN ?_;refine bm (mI (aE (aj ?_)));refine ⟨⟨j+1,Yv,rfl,hh⟩,by show m-(j+1)<m-j;omega, ?_⟩;exact dO
     ·obtain rfl:j=m:=Yv;rw [YG (by rw [fW];omega),ZZ (by rw [fW];omega),Y9] at hh;refine sr ?_;refine C9 ?_;refine bm (mI (aE (aj ?_)));replace hh:=hh.sub (YI _ (YI _ (YC _ (YC _ Y5))));refine ⟨⟨i+1,Yv,rfl,hh⟩,by show pn-(i+1)<pn-i;omega, ?_⟩;exact dO
   ·obtain rfl:i=pn:=Yv;rw [YG Yv] at hh;exact U4
 ·rw [show yV p.v p.ts=[] from YB h0];refine ak (N:=42) (l:=[.agg #[.int .i64 p.v,.slice p.A p.n p.c]]) Tryz.func35 rfl rfl (by simp) ?_;refine sr ?_;refine cu hh [_,_] ?_;intro b1 w1 hh;refine aL (aa (ai (sr ?_)));refine cC hh 0 [_,_] ?_;refine gB ?_;intro w9 hh;refine db (aa (cT (sr (aL (aa (ay (aN ?_)))))));refine dh ?_;exact ⟨none,0,rfl,(hh.sub (Zr _)).cN 3 1⟩
variable {r:Bool}
theorem O5 (n:Nat) (m m':ByteArray) (s s':Bool) (a a':ByteArray) (e e':Int) (w:World):(Op.equalIn (n+4) 80 (.agg #[.string m,.bool s,.string a,.int .i64 e]) (.agg #[.string m',.bool s',.string a',.int .i64 e'])).run Tryz.prog w=.ok (m==m' && ((s==s' && a==a') && e==e')) w:=by
 have h1:=fun (u:ByteArray) (x:Bool) (y:ByteArray) (z:Int)=>HT (P:=Tryz.prog) (cs:= #[.string u,.bool x,.string y,.int .i64 z]) (off:=0) (aU.out (P:=Tryz.prog) (t:=9)) rfl;have h2:=fun (u:ByteArray) (x:Bool) (y:ByteArray) (z:Int)=>Ss (P:=Tryz.prog) (cs:= #[.string u,.bool x,.string y,.int .i64 z]) (vs:= #[.bool x,.string y,.int .i64 z]) (off:=1) (aU.out (P:=Tryz.prog) (t:=40)) rfl;rw [Op.equalIn];simp [run_underlying Tryz.underlying80,h1,h2,UN,L5]
 cases h:m==m'<;>cases h':((s==s' && a==a') && e==e')<;>simp_all
theorem Ec {x y:TR}:(x.m==y.m && ((x.c.neg==y.c.neg && x.c.bj==y.c.bj) && x.c.e==y.c.e))=true↔x=y:=by
 obtain ⟨m,s,a,e⟩:=x;obtain ⟨m',s',a',e'⟩:=y;rw [YU,pD,Nf,TR.mk.injEq]
section
variable {ρ:Rf}{w:World}{d:Option Nat}{ty u:TypeId}{pos:String}{af:Array Edge}{g:Option (Nat×Bool)}{x y:Operand}{s t:TR}
theorem R6 (hx:ev ρ x=.agg s.cells.toArray) (hy:ev ρ y=.agg t.cells.toArray) (hr:(s.m==t.m && ((s.c.neg==t.c.neg && s.c.bj==t.c.bj) && s.c.e==t.c.e))=r):
  (execOp (ev ρ) ⟨d,.binOp .neq 80 x y u,ty,pos,af,g⟩).run Tryz.prog w=.ok (.value (.bool !r)) w:=by
 have h1:(Op.equal 80 (.agg s.cells.toArray) (.agg t.cells.toArray)).run Tryz.prog w=.ok r w:=by rw [←hr];exact O5 9996 s.m t.m s.c.neg t.c.neg s.c.bj t.c.bj s.c.e t.c.e w
 simp only [execOp,hx,hy];simp [eqGuard,binOp,h1]
theorem Pe (hx:ev ρ x=.agg s.cells.toArray) (hy:ev ρ y=.agg t.cells.toArray) (h:s=t):
  (execOp (ev ρ) ⟨d,.binOp .neq 80 x y u,ty,pos,af,g⟩).run Tryz.prog w=.ok (.value (.bool false)) w:=R6 hx hy (Ec.2 h)
theorem Pk (hx:ev ρ x=.agg s.cells.toArray) (hy:ev ρ y=.agg t.cells.toArray) (h:¬s=t):
  (execOp (ev ρ) ⟨d,.binOp .neq 80 x y u,ty,pos,af,g⟩).run Tryz.prog w=.ok (.value (.bool true)) w:=R6 hx hy (r:=false) (aaV.2 fun h1=>h (Ec.1 h1))
end
theorem Qd {a b:List α}{i:Nat} (ha:a.length≤i) (hb:b.length≤i) (h:a.take i=b.take i):a=b:=by
 rwa [YG ha,YG hb] at h
theorem AO (A:Option Addr) (n c:Nat) (a:List TR) (B:Option Addr) (m d:Nat) (b:List TR) (w:World) (hS:Sl w A n 4 (aD TR.cells a)) (hS2:Sl w B m 4 (aD TR.cells b)) (hn:n≤1000000) (hm:m≤1000000):
  Calls Tryz.prog 101 #[.slice A n c,.slice B m d] w fun r w'=>∃v,r=.returned (.bool v)∧(v=true↔a=b)∧Below w.heap.size w w':=by
 have hh:=Hp.start w;have hla:=hS.bh TR.len Yw;have hlb:=hS2.bh TR.len Yw;by_cases hnm:n=m
 ·subst hnm;refine ak (N:=26) (l:=[.slice A n c,.slice B n d]) Tryz.func101 rfl rfl (by simp) ?_;refine C8 ?_;refine Ib ?_;refine aT [4,5,11,12,13,14,15,16,17,18,19,20,21,22,23,24,25] 5
   (fun v w'=>∃i:Nat,i≤n∧v=.int .i64 i∧a.take i=b.take i∧Hp w [] w')
   (fun v _=>n-(intOf v).toNat) ?_ ?_
  ·exact ⟨0,YD _,rfl,rfl,hh⟩
  ·clear hh;rintro ρ' v w' ⟨i,hi,rfl,he,hh⟩;by_cases hlt:i<n
   ·obtain ⟨s,hs⟩:=ao (l:=a) (k:=i) Yv;obtain ⟨t,ht⟩:=ao (l:=b) (k:=i) Yv;obtain ⟨ad,rfl,hr⟩:=hS.at_ Yv;obtain ⟨ad2,rfl,hr2⟩:=hS2.at_ Yv;by_cases hst:s=t
    ·refine ai (sr (mI (mL (aK ?_))));refine kP ?_;refine De ?_;refine eQ ?_;refine cZ ?_;refine jA (i) ?_;refine nF [_,_,_,_] (fun _ hj=>(hr.ext hj.hp.below).recAt TR.len hs) ?_;refine eQ ?_;refine cZ ?_;refine jA (i) ?_;refine nF [_,_,_,_] (fun _ hj=>(hr2.ext hj.hp.below).recAt TR.len ht) ?_;refine aM ?_;intro f W hJ hV;have hb_6:=hJ.bl;obtain ⟨v24,v23,v22,v21,v20,v19,v18,v17,_⟩:=hV;replace hh:=hJ.hp;refine CR ?_;dsimp only [bO];clear hJ;refine aZ rfl rfl Yw (Pe (s:=s) (t:=t) rfl rfl hst) ?_;skip;refine p8 ?_;refine bm (aI (aE (aj ?_)));refine ⟨⟨i+1,Yv,rfl,by rw [aC hs,aC ht,he,hst],hh⟩,by show n-(i+1)<n-i;omega, ?_⟩;exact dO
    ·refine ai (sr (mI (mL (aK ?_))));refine kP ?_;refine De ?_;refine eQ ?_;refine cZ ?_;refine jA (i) ?_;refine nF [_,_,_,_] (fun _ hj=>(hr.ext hj.hp.below).recAt TR.len hs) ?_;refine eQ ?_;refine cZ ?_;refine jA (i) ?_;refine nF [_,_,_,_] (fun _ hj=>(hr2.ext hj.hp.below).recAt TR.len ht) ?_;refine aM ?_;intro f W hJ hV;have hb_6:=hJ.bl;obtain ⟨v24,v23,v22,v21,v20,v19,v18,v17,_⟩:=hV;replace hh:=hJ.hp;refine CR ?_;dsimp only [bO];clear hJ;refine aZ rfl rfl Yw (Pk (s:=s) (t:=t) rfl rfl hst) ?_;skip;refine aa (cT (sr (aB (aa (ay (cm (aN (aN (cm (aN ?_))))))))));refine dh ?_;refine ⟨_,rfl,⟨fun h=>(nomatch h),fun h=>absurd ?_ hst⟩,hh.below⟩;rw [h,ht] at hs;exact (Zl hs).symm
   ·refine ai (sr (mI (mL (aK ?_))));refine Hu ?_;refine dh ?_;exact ⟨_,rfl,⟨fun _=>Qd Yv Yv he,fun _=>rfl⟩,hh.below⟩
 ·refine ak (N:=26) (l:=[.slice A n c,.slice B m d]) Tryz.func101 rfl rfl (by simp) ?_;refine C8 ?_;refine db (aa (cT (sr (aB (aa (ay (aN ?_)))))));refine dh ?_;exact ⟨_,rfl,⟨fun h=>(nomatch h),fun h=>absurd (by rw [←hla,←hlb,h]) hnm⟩,hh.below⟩
theorem tV (p q:PX) (w:World) (hp:p.at_ w) (hq:q.at_ w) (hn:p.n≤1000000) (hm:q.n≤1000000):
  Calls Tryz.prog 32 #[.agg #[.int .i64 p.v,.slice p.A p.n p.c],.agg #[.int .i64 q.v,.slice q.A q.n q.c]] w fun r w'=>∃v,r=.returned (.bool v)∧(v=true↔p.v=q.v∧p.ts=q.ts)∧Below w.heap.size w w':=by
 have hh:=Hp.start w;have ht:=fun w1 hb=>AO p.A p.n p.c p.ts q.A q.n q.c q.ts w1 (hp.ext hb) (hq.ext hb) hn hm;by_cases hv:p.v=q.v
 ·refine RW ?_;refine sr ?_;refine cu hh [_,_] ?_;intro b2 w2 hh;refine cu hh [_,_] ?_;intro b3 w3 hh;refine aB (aa (sr (bJ ?_)));refine bG hh 1 ?_;refine bJ ?_;refine bG hh 0 ?_;refine di (mB (gT (bJ (gT ?_))));refine bG hh 1 ?_;refine gT (bJ (gT ?_));refine bG hh 0 ?_;refine aP rfl rfl ?_;refine aJ (ht _ hh.below) aw.out rfl Yw ?_;rintro e_ w15 ⟨v_,rfl,hv_,hb_⟩;refine ⟨_,rfl, ?_⟩;replace hh:=hh.ext hb_;refine fG ?_;refine aB (aa (ay ?_));refine dh ?_;exact ⟨v_,rfl,hv_.trans ⟨fun h=>⟨hv,h⟩,fun h=>h.2⟩,hh.below⟩
 ·refine RW ?_;refine sr ?_;refine cu hh [_,_] ?_;intro b2 w2 hh;refine cu hh [_,_] ?_;intro b3 w3 hh;refine aB (aa (sr (bJ ?_)));refine bG hh 1 ?_;refine bJ ?_;refine bG hh 0 ?_;refine di (mB ?_);refine gS (gS (gS (gS ?_)));refine jG ?_;refine dX ?_;refine aB (aa (ay ?_));refine dh ?_;exact ⟨_,rfl,⟨fun h=>(nomatch h),fun h=>absurd h.1 hv⟩,hh.below⟩
def XC (a:NR):Bool:=decide ((24:Int)<a.bj.size∨a.e< -300∨300<a.e)
structure Yu (ts:List TR):Prop where
 n:ts.length≤12
 ok:ja 492 ts
 sz:∀t∈ts,t.m.size≤50
def PX.norm (g:PX):PX:=⟨g.v,none,0,0,g.ts⟩
theorem yf (ps:List PX):eE (ps.map PX.norm)=eE ps:=by
 have h1:(ps.map PX.norm).find? (fun g=>decide (g.e≠0))=(ps.find? fun g=>decide (g.e≠0)).map PX.norm:=List.find?_map ..;have h2:ug (ps.map PX.norm)=ug ps:=by
  unfold ug;rw [List.any_map,Zy]
  rfl
 unfold eE;rw [h1,h2,YO]
 cases ps.find? (fun g=>decide (g.e≠0))<;>rfl
theorem wI (ps:List PX):fI (ps.map PX.norm)=fI ps:=by unfold fI;rw [Zy];rfl
theorem Co {p q:PX} (hv:p.v=q.v) (ht:p.ts=q.ts):∀n,kd p n=kd q n
 |0=>by unfold kd;rw [hv];rfl
 |n+1=>by
  rw [mD,mD,Co hv ht n];unfold eZ;rw [ht]
structure BV (ps os:List PX) (R:List HE):Prop where
 eq:∀(j:Nat) (g o:PX),ps[j]?=some g→os[j]?=some o→o.v=g.v∧o.ts=g.ts∧o.n=g.n
 my:∀o∈os,o.row∈R∧o.n≤o.c
theorem BV.add {ps os:List PX}{R:List HE}{g o:PX} (h:BV ps os R) (hx:ps[os.length]?=some g) (he:o.v=g.v∧o.ts=g.ts∧o.n=g.n) (hc:o.n≤o.c):BV ps (os++[o]) (o.row::R):=by
 refine ⟨fun j g2 o2 h1 h2=> ?_,fun o2 h2=> ?_⟩
 ·by_cases hj:j<os.length
  ·rw [aaM hj] at h2;exact h.eq j g2 o2 h1 h2
  ·by_cases hj2:j=os.length
   ·subst hj2;rw [ZQ (YE _),Zu] at h2;rw [hx] at h1
    cases h1;cases h2
    exact he
   ·rw [Y7 (by rw [YK];simp;omega)] at h2
    cases h2
 ·rcases Zb.1 h2 with h2|h2
  ·exact ⟨YP _ (h.my o2 h2).1,(h.my o2 h2).2⟩
  ·rw [YT.1 h2];exact ⟨YL,hc⟩
theorem BV.key {ps os:List PX}{R:List HE} (h:BV ps os R) (hl:os.length=ps.length):os.map PX.norm=ps.map PX.norm:=by
 apply ZN;intro j;rw [YN,YN];by_cases hj:j<os.length
 ·obtain ⟨o,ho⟩:=ao hj;obtain ⟨g,hg⟩:=ao (l:=ps) (k:=j) Yv;obtain ⟨e1,e2,_⟩:=h.eq j g o hg ho;rw [ho,hg];show some (PX.norm o)=some (PX.norm g);unfold PX.norm;rw [e1,e2]
 ·rw [Y7 Yv,Y7 Yv]
theorem Hh {H:List HE}{g:PX} (hh:Hp w H w') (h:g.row∈H):g.at_ w':=jx (hh.own g.row h)
def wz (p:PX) (c:Dyadic):Int:=if p.e=0 then gF (p.ts.map (nP c)) else p.e
theorem JK {X:List TR}{c:Dyadic}{i:Nat}{z:TR} (hz:l[i]?=some z) (hX:X=(l.take i).map (nP c)++l.drop i):X[i]?=some z∧X.set i ⟨z.m,nR (z.c.d*c)⟩=(l.take (i+1)).map (nP c)++l.drop (i+1):=by
 obtain ⟨h1,h2⟩:=YQ.1 hz;have hl:((l.take i).map (nP c)).length=i:=by rw [YO,YW];omega
 refine ⟨?_, ?_⟩
 ·rw [hX,ZQ Yv,hl,Zu,Z6];exact hz
 ·rw [aC hz,Zq,hX,aaI _ _ Yv,hl,Zu,Ze,gC hz]
  rfl
theorem Am {c:Dyadic} (ho:ja k l) (hc:Sz j c) (hk:k+j≤1000000):ja (k+j) (l.map (nP c)):=fun t ht=>by
 obtain ⟨z,hz,rfl⟩:=YR.1 ht;have hs:=(ho z hz).2.mul hc;exact ⟨hs.ok Yv,by show Sz _ (nR _).d;rw [cj];exact hs⟩
theorem zU (p:PX) (c:NR) (k:Nat) (w:World) (hT:e8 w) (hp:p.at_ w) (lp:p.j8 k) (hc:c.ok∧Sz k c.d) (hk:k≤400000):
  Calls Tryz.prog 104 #[.agg #[.int .i64 p.v,.slice p.A p.n p.c],.agg #[.bool c.neg,.string c.bj,.int .i64 c.e]] w fun r w'=>∃g:PX,dW (wz p c.d) p.v (aF (p.ts.map (nP c.d))) g∧r=.returned (.tuple #[.agg #[.int .i64 g.v,.slice g.A g.n g.c],.int .i64 (wz p c.d)])∧Hp w [g.row] w':=by
 have hh:=Hp.start w;have hck:=fun w1 hT1 hb=>pB p k w1 hT1 (hp.ext hb) lp;unfold wz;by_cases h0:p.e=0
 ·rw [YA h0];rw [h0] at hck;obtain ⟨_,h4,_,_⟩:=cB h0;have hpl:p.ts.length=p.n:=hp.ln;refine R7 ?_;refine sr ?_;refine cu hh [_,_] ?_;intro b2 w2 hh;refine cu hh [_,_,_] ?_;intro b3 w3 hh;refine bW hh ?_;intro b4 w4 hh;refine aI (aa (ai (sr ?_)));refine cC hh 2 [_,_] ?_;refine gB ?_;intro w10 hh;refine aI (aa (sr (mI ?_)));refine db (aa (cF (au (aj (sr (bJ ?_))))));refine bG hh 2 ?_;refine aJ (mR p.A p.n p.c p.ts _ (hp.ext hh.below) lp.n) aw.out rfl Yw ?_;rintro e_ w17 ⟨A17,c17,rfl,hown_,hb_⟩;refine ⟨_,rfl, ?_⟩;replace hh:=hh.aY (x:=.row _ _ _ _ _ _) hb_ hown_;refine tE ?_;refine aT [8,20,21,22,23,24,25,26,27,28,29,30,31,32,33,34,35] 20
   (fun v w'=>∃(i:Nat) (X:List TR),i≤p.n∧v=.int .i64 i∧X=(p.ts.take i).map (nP c.d)++p.ts.drop i∧Hp w [.row A17 p.n c17 80 4 (aD TR.cells X),.blk b4 24 [.int .i64 0,.slice none 0 0] (0,0),.blk b3 40 [.bool c.neg,.string c.bj,.int .i64 c.e] (0,0),.blk b2 24 [.int .i64 p.v,.slice p.A p.n p.c] (0,0)] w')
   (fun v _=>p.n-(intOf v).toNat) ?_ ?_
  ·exact ⟨0,p.ts,YD _,rfl,rfl,hh⟩
  ·clear hh;rintro ρ' v w' ⟨i,X,hi,rfl,hX,hh⟩;have hXl:X.length=p.n:=by rw [hX,YK,YO,YW,ZM];omega
   by_cases hlt:i<p.n
   ·obtain ⟨z,hz⟩:=ao (l:=p.ts) (k:=i) Yv;obtain ⟨hXz,hXn⟩:=JK hz hX;have hzo:=lp.ok z (YF hz);have hdm:=fun A cc w1 hT1 hS1=>fS A 2 cc [z.c,c] w1 hT1 hS1 (by simpa using ⟨hzo.1,hc.1⟩) k (by simpa using ⟨hzo.2,hc.2⟩) Yv Yw;rw [show iZ ([z.c,c].map NR.d)=z.c.d*c.d by show 1*z.c.d*c.d=_;rw [aaJ]] at hdm;have hrl:=eS TR.len X;obtain ⟨g0,rfl⟩:=hh.cK (i:=0) rfl Yv;refine sr ?_;refine a8 (aa (ai (cT (au (aj (ai (av (sr (mI (aI (aa ?_)))))))))));refine aW 10 [[(7,none)],[(8,none)],[(7,none)],[(8,none)],[(25,some 2),(26,some 3)],[(27,some 4)],[(28,some 5)],[(3,none)],[(29,some 6),(30,some 7)],[(31,some 8)]] [(9,32),(8,31),(7,30),(6,29),(5,28),(4,27),(3,26),(2,25),(1,24),(0,23)] hh mixed Yx ?_;refine eQ ?_;refine cZ ?_;refine eQ ?_;refine cZ ?_;refine N2 (i) ?_;refine cX ?_;refine nF [_,_,_] (fun _ hj=>(hj.hp.iu (f:=TR.cells) (x:=z) (l:=X) (i:=0) rfl TR.len Yw hXz).drop 1) ?_;refine ef 2 [_,_,_] ?_;refine pL [_,_,_,_,_,_] ?_;refine aO (i:=9) (Is (.agg #[.bool (nR (z.c.d*c.d)).neg,.string (nR (z.c.d*c.d)).bj,.int .i64 (nR (z.c.d*c.d)).e])) Is.ext ?_ ?_
    ·intro ρ1 w1 hj hR;obtain ⟨A31,c31,h31,s31⟩:=hR.1;exact bk rfl (aV aw.out (az h31 bf)) (hdm A31 c31 _ (hT.hp hj.hp) s31) (fun _ _ hq=>⟨_,hq.1,hq.2,rfl⟩)
    refine aM ?_;intro f W hJ hV;have hb_8:=hJ.bl;obtain ⟨v32,v31,v30,v29,v28,v27,v26,v25,v24,v23,_⟩:=hV;obtain ⟨A31,c31,e31,f31⟩:Rows _ _ _ (f 8) W:=v31;replace hh:=hJ.hp;refine aQ (bg (ae v32 (ae e31 (ae v30 (ae v29 (ae v28 (ae v27 (ae v26 (ae v25 (ae v24 (ae v23 aR))))))))))) ?_;dsimp only [bO];clear e31 hJ;refine gD ?_;refine bJ ?_;refine cA hh (i:=0) (vs:=[_,_,_]) rfl rfl (gy rfl) rfl aU.out rfl Yv rfl ?_;intro ws hh;simp only [YM] at hh;rw [yk hXz,hXn] at hh;refine gN ?_;refine bm (mI (aE (aj ?_)));replace hh:=hh.sub (YC _ (YC _ (YC _ (YC _ Y5))));refine ⟨⟨i+1,_,Yv,rfl,rfl,hh⟩,by show p.n-(i+1)<p.n-i;omega, ?_⟩;exact dO
   ·obtain rfl:i=p.n:=Yv;rw [YG Yv,ZZ Yv,Y9] at hX;have hso:=Am lp.ok hc.2 Yv;rw [←hX] at hso ⊢;refine sr ?_;refine a8 (aa (ai (cF (a6 (aH (aH (bB (aj (sr (bJ ?_))))))))));refine bG hh 3 ?_;refine mL ?_;refine aJ (lR p.v A17 p.n c17 X (k+k) _ hT hh hXl Yv Yv hso) aw.out rfl Yw ?_;rintro e_ w39 ⟨g,og,rfl,hh⟩;refine ⟨_,rfl, ?_⟩;refine dx ?_;refine dx ?_;exact Oh
 ·rw [YB h0];refine R7 ?_;refine sr ?_;refine cu hh [_,_] ?_;intro b2 w2 hh;refine cu hh [_,_,_] ?_;intro b3 w3 hh;refine bW hh ?_;intro b4 w4 hh;refine aI (aa (ai (sr ?_)));refine cC hh 2 [_,_] ?_;refine gB ?_;intro w10 hh;exact SS
abbrev ZT:=List (List UInt8×Int)
def zT (L:ZT):List TR:=L.map fun x=>⟨str x.1,nR ((x.2:Int):Dyadic)⟩
def zS (L:ZT) (b:List UInt8):Int:=match L with|[]=>0|x::L=>(if x.1=b then x.2 else 0)+zS L b
def zC:ZT→Bool
 |[]=>true
 |[x]=> !decide (x.2=0)
 |x::y::L=> !decide (x.2=0) && (Op.bytesLess x.1 y.1 && zC (y::L))
def zE (L K:ZT):Bool:=(L++K).all fun x=>decide (zS L x.1=zS K x.1)
def zP (P Q:ZT):ZT:=P.flatMap fun x=>Q.map fun y=>((mulL x.1 y.1).1,x.2*y.2)
def Yl (P Q:ZT):List Int:=P.flatMap fun x=>Q.map fun y=>(mulL x.1 y.1).2
def zM (v:Int) (L:ZT):Bool:=L.all fun x=>eK x.1 && decide ((x.1.length:Int)=v)
def zB (L:ZT):Bool:=L.all fun x=>decide (x.2.natAbs<256) && decide (x.1.length≤50)
def XI (n:Int):ZT:=[([0,1],n),([1,0],1)]
theorem kX {g h:PX} (h1:g.e=0) (h2:h.e=0) (h3:h.v=g.v):eE [g,h]=0:=by
 have e:[g,h].find? (fun g=>decide (g.e≠0))=none:=iW (aaa.2 fun x hx=>by
  rcases YS.1 hx with rfl|hx
  ·simp [h1]
  ·rw [YT.1 hx];simp [h2])
 unfold eE;rw [e];show (if 2=0∨ug [g,h]=true then (1:Int) else 0)=0;rw [YB];rintro (h0|h0)
 ·cases h0
 ·obtain ⟨x,hx,hx2⟩:=aag.1 h0;have hx3:x.v≠g.v:=Z8 hx2
  rcases YS.1 hx with rfl|hx
  ·exact hx3 rfl
  ·rw [YT.1 hx] at hx3;exact hx3 h3
def Ww (ds:List Int):VP:=fun v W=>∃g:Option Addr×Nat,v=.slice g.1 ds.length g.2∧Sl W g.1 ds.length 1 (bQ ds)
theorem Ej {g h:PX} (w:World) (hg:g.at_ w) (hh:h.at_ w) (e:g.v=h.v∧g.ts=h.ts) (hn:g.n≤1000000) (hm:h.n≤1000000):
  Calls Tryz.prog 32 #[.agg #[.int .i64 g.v,.slice g.A g.n g.c],.agg #[.int .i64 h.v,.slice h.A h.n h.c]] w fun r w'=>r=.returned (.bool true)∧Below w.heap.size w w':=
 (tV g h w hg hh hn hm).mono fun r w' ⟨v,hr,hv,hb⟩=>⟨by rw [hr,hv.2 e],hb⟩
structure XD (E:Int) (g:PX):Prop where
 bad:E≠0→g.v=0∧g.ts=[]
 ok:E=0→g.e=0∧ja 100000 g.ts∧∀t∈g.ts,t.m.size≤100000
theorem HP (h:gF l=0):(aF l).length≤4096:=by
 unfold gF at h;by_cases h4:4096<(aF l).length
 ·rw [YA h4] at h;omega
 ·omega
theorem vj (h:ja k l) (hk:k+l.length≤j) (hj:j≤3999990):ja j (aF l):=fun t ht=>by
 have h3:Sz j t.c.d:=(mm (fun t ht=>(h t ht).2) t ht).mono hk;exact ⟨by rw [(dQ l).nf t ht];exact h3.ok hj,h3⟩
theorem vK (h:∀t∈l,t.m.size≤100000):∀t∈aF l,t.m.size≤100000:=fun t ht=>by
 obtain ⟨s,hs,e⟩:=gZ t ht;rw [←e];exact h s hs
theorem yK {ps:List PX}{v:Int} (h0:ps≠[]) (he:∀g∈ps,g.e=0) (hv:∀g∈ps,g.v=v):eE ps=0:=by
 unfold eE;rw [iW (aaa.2 fun x hx=>by simp [he x hx])];show (if ps.length=0∨ug ps=true then (1:Int) else 0)=0;rw [YB];rintro (h|h)
 ·exact h0 (ZO h)
 ·obtain ⟨x,hx,hx2⟩:=aag.1 h;have hx3:x.v≠fI ps:=Z8 hx2;obtain ⟨g,l,rfl⟩:=List.exists_cons_of_ne_nil h0;exact hx3 ((hv x hx).trans (hv g YL).symm)
theorem fB (h:l.length≤4096):gF l=0:=by
 unfold gF;have:=bK l;rw [YB Yv]
theorem dW.v0 {v:Int}{g:PX} (o:dW 0 v ts g):g.v=v:=o.v
theorem dW.t0 {v:Int}{g:PX} (o:dW 0 v ts g):g.ts=ts:=o.ts
theorem yN (p q:PX):vE [p,q]=p.ts++q.ts:=by show p.ts++(q.ts++[])=_;rw [Y9]
def dM (i:Nat) (f:ByteArray→Dyadic) (m:ByteArray):Dyadic:=
 match m.data.toList[i]? with|some e=>((e.toNat:Int):Dyadic)*f (str (m.data.toList.set i (e-1)))|none=>0
theorem Re {f g:ByteArray→Dyadic} (h:∀t∈l,f t.m=g t.m):wS f l=wS g l:=by
 induction l with
 |nil=>rfl
 |cons t l ih=>rw [wS,wS,h t YL,ih fun s hs=>h s (YP _ hs)]
theorem HM {a b:List UInt8} (ha:eK a=true) (hb:eK b=true) (hl:b.length=a.length) (h:(List.zipWith (· + ·) (ints a) (ints b)).all cJ=true):mulL a b=((List.zipWith (· + ·) (ints a) (ints b)).map qf,0):=by
 unfold mulL;rw [PD ha hb hl];show (Kg _,N5 _)=_;rw [(pr h).1,(pr h).2]
theorem Mb {a b:List UInt8} (h:(mulL a b).2=0):(List.zipWith (· + ·) (ints a) (ints b)).all cJ=true:=by
 obtain ⟨_,_,_,h4,h5⟩:=oO h;rw [←h5];exact PK h4
theorem Ph {a b:ByteArray}{i:Nat}{x y:UInt8} (h:ki a b=0) (hx:a.data.toList[i]?=some x) (hy:b.data.toList[i]?=some y):(mulM a b).data.toList[i]?=some (qf ((x.toNat:Int)+y.toNat))∧(qf ((x.toNat:Int)+y.toNat)).toNat=x.toNat+y.toNat:=by
 obtain ⟨h1,h2,h3,_,_⟩:=oO h;have hall:=Mb h;have hiy:(ints b.data.toList)[i]?=some (y.toNat:Int):=by unfold ints;rw [YN,hy];rfl
 have hix:(ints a.data.toList)[i]?=some (x.toNat:Int):=by unfold ints;rw [YN,hx];rfl
 have hzz:=Gl (f:=fun (x y:Int)=>x+y) hix hiy;have hxy:cJ ((x.toNat:Int)+y.toNat)=true:=Y6.1 hall _ (YF hzz);have e1:=oT hxy;injection e1 with _ e1
 refine ⟨?_,Yv⟩;unfold mulM;rw [dY,HM h1 h2 h3 hall,YN,hzz]
 rfl
def ie (j:Nat) (t:TR):Nat:=match t.m.data.toList[j]? with|some e=>e.toNat|none=>0
theorem ow {t:TR}{e:UInt8} (h:t.m.data.toList[j]?=some e):ie j t=e.toNat:=by unfold ie;rw [h]
def ck (p:List TR) (j n:Nat):List TR:=p.filter fun t=>decide (ie j t=n)
def jD (q:List TR) (sub:List TR→Int×List TR) (p:List TR) (j n:Nat) (a:Int×List TR):Int×List TR:=
 if a.1≠0 then a else if a.2.length=0∧(ck p j n).length=0 then a else
 if ep a.2 q≠0 then (ep a.2 q,[]) else if (sub (ck p j n)).1≠0 then ((sub (ck p j n)).1,[]) else
 if gF (aF (cg a.2 q)++(sub (ck p j n)).2)≠0 then (gF (aF (cg a.2 q)++(sub (ck p j n)).2),[]) else (0,aF (aF (cg a.2 q)++(sub (ck p j n)).2))
def cI (q:List TR) (sub:List TR→Int×List TR) (p:List TR) (j:Nat):Nat→Int×List TR
 |0=>(0,[])
 |i+1=>jD q sub p j (127-i) (cI q sub p j i)
theorem mV (q:List TR) (sub:List TR→Int×List TR) (p:List TR) (j i:Nat):cI q sub p j (i+1)=jD q sub p j (127-i) (cI q sub p j i):=rfl
def gU (v:Int):List (List TR)→Nat→List TR→Int×List TR
 |[],_,p=>(0,aF [⟨du v,(p.map TR.c).headD (nR 0)⟩])
 |q::qs,j,p=>cI q (gU v qs (j+1)) p j 128
theorem pf {q:List TR}{sub:List TR→Int×List TR}{i:Nat} (h:(cI q sub p j i).1≠0) (hk:i≤k):cI q sub p j k=cI q sub p j i:=by
 induction k with
 |zero=>
  obtain rfl:i=0:=Yv
  rfl
 |succ k ih=>
  by_cases e:i=k+1
  ·rw [e]
  ·have:=ih Yv;show jD q sub p j (127-k) (cI q sub p j k)=_;rw [this];unfold jD;rw [YA h]
theorem C5 {q:List TR} (hp:ja k p) (hq:ja j q) (sq:∀t∈q,t.m.size≤100000) (h:ep p q=0) (hk:k+j≤900000):ja (k+j+p.length*q.length) (aF (cg p q))∧∀t∈aF (cg p q),t.m.size≤100000:=by
 obtain ⟨h6,_,h4⟩:=lM h;have ho:=qY hp hq Yv;have hz:=mm fun t ht=>(ho t ht).2;rw [md] at hz;refine ⟨fun t ht=> ?_,(uK hp hq sq h hk).2⟩;have:Sz (k+j+p.length*q.length) t.c.d:=hz t ht;refine ⟨?_,this⟩;rw [(dQ _).nf t ht];exact this.ok Yv
structure lr (v:Int) (k:Nat) (l:List TR):Prop where
 e:fj v l=0
 ok:ja k l
 sz:∀t∈l,t.m.size≤100000
theorem lr.mono {v:Int} (h:lr v k l) (hk:k≤j):lr v j l:=⟨h.e,h.ok.mono hk,h.sz⟩
theorem lr.nil {v:Int} (hv:iJ v=true):lr v k []:=⟨Hz hv (YD _) (fun _ h=>nomatch h) ⟨.nil,(fun _ h=>nomatch h),(fun _ h=>nomatch h)⟩,(fun _ h=>nomatch h),(fun _ h=>nomatch h)⟩
theorem lr.len {v:Int} (h:lr v k l):l.length≤4096:=(cB h.e).2.1
theorem HA {v:Int}{q:List TR}{T:Nat} (hp:lr v k p) (hq:lr v j q) (hT:q.length≤T) (h:ep p q=0) (hk:k+j≤900000):lr v (k+j+4096*T) (aF (cg p q)):=by
 obtain ⟨h6,h5,h4⟩:=lM h;obtain ⟨f1,f2,f3,f4⟩:=cB hp.e;have:=C5 hp.ok hq.ok hq.sz h hk;have hm:p.length*q.length≤4096*T:=ZV hp.len hT;exact ⟨eO f1 h4 (pg f3 h5),this.1.mono Yv,this.2⟩
theorem Hd {v:Int}{a b:List TR} (ha:lr v k a) (hb:lr v k b) (h:gF (a++b)=0) (hk:k≤3000000):lr v (k+8192) (aF (a++b)):=by
 obtain ⟨f1,f2,f3,f4⟩:=cB ha.e;obtain ⟨g1,g2,g3,g4⟩:=cB hb.e;have hl:(a++b).length≤8192:=by rw [YK];omega
 refine ⟨eO f1 (HP h) fun t ht=> ?_,vj (fun t ht=> ?_) (show k+(a++b).length≤k+8192 by omega) Yv,vK fun t ht=> ?_⟩
 ·rcases Zb.1 ht with h|h
  ·exact f3 t h
  ·exact g3 t h
 ·rcases Zb.1 ht with h|h
  ·exact ha.ok t h
  ·exact hb.ok t h
 ·rcases Zb.1 ht with h|h
  ·exact ha.sz t h
  ·exact hb.sz t h
theorem NZ {v:Int}{q:List TR}{sub:List TR→Int×List TR}{a:Int×List TR}{S K T B S':Nat} (ha:lr v S a.2) (hq:lr v K q) (hT:q.length≤T) (hb:(sub (ck p j n)).1=0→lr v B (sub (ck p j n)).2) (h1:S+K+4096*T+8192≤S') (h2:B+8192≤S') (hS:S'≤900000)
  (h:(jD q sub p j n a).1=0):lr v S' (jD q sub p j n a).2:=by
 unfold jD at h ⊢;by_cases c0:a.1≠0
 ·rw [YA c0] at h;exact absurd h c0
 ·rw [YB c0] at h ⊢;by_cases c1:a.2.length=0∧(ck p j n).length=0
  ·rw [YA c1];exact ha.mono Yv
  ·rw [YB c1] at h ⊢;by_cases c2:ep a.2 q≠0
   ·rw [YA c2] at h;exact absurd h c2
   ·rw [YB c2] at h ⊢;by_cases c3:(sub (ck p j n)).1≠0
    ·rw [YA c3] at h;exact absurd h c3
    ·rw [YB c3] at h ⊢;by_cases c4:gF (aF (cg a.2 q)++(sub (ck p j n)).2)≠0
     ·rw [YA c4] at h;exact absurd h c4
     ·rw [YB c4];exact (Hd ((HA ha hq hT Yv Yv).mono (show _≤S'-8192 by omega)) ((hb Yv).mono Yv) Yv Yv).mono Yv
theorem IX (h:∀t∈p,ie j t<n):ck p j n=[]:=List.filter_eq_nil_iff.2 fun t ht=>by
 have:=h t ht;simp only [YY];omega
theorem kZ:∀t∈ck p j n,t∈p:=fun t ht=>(ZP.1 ht).1
theorem k7 {q p:List TR}{sub:List TR→Int×List TR}{j D:Nat} (h:∀t∈p,ie j t≤D):∀i,i+D≤127→cI q sub p j i=(0,[])
 |0,_=>rfl
 |i+1,hi=>by
  show jD q sub p j (127-i) (cI q sub p j i)=_;rw [k7 h i Yv,show jD q sub p j (127-i) (0,[])=(0,[]) by
   unfold jD;rw [YB Yw,YA ⟨rfl,by rw [IX fun t ht=>by have:=h t ht;omega];rfl⟩]]
def gQ (c:Nat):List Nat→Nat→Nat
 |[],k=>k
 |d::ds,k=>gQ c ds k+d*c+8192
theorem sS (c k:Nat):gQ c [] k=k:=rfl
theorem qK (c d k:Nat) (ds:List Nat):gQ c (d::ds) k=gQ c ds k+d*c+8192:=rfl
theorem uZ {v:Int}{q p:List TR}{sub:List TR→Int×List TR}{j D K T B c:Nat} (hv:iJ v=true) (hq:lr v K q) (hT:q.length≤T) (hD:∀t∈p,ie j t≤D) (hD2:D≤127) (hb:∀n,(sub (ck p j n)).1=0→lr v B (sub (ck p j n)).2) (hc:K+4096*T+8192≤c) (hS:B+D*c+8192≤900000):
  ∀i,i≤128→(cI q sub p j i).1=0→lr v (B+(i+D-128)*c+8192) (cI q sub p j i).2
 |0,_,_=>lr.nil hv
 |i+1,hi,h0=>by
  by_cases h1:i+1+D≤127
  ·rw [k7 hD _ h1];exact lr.nil hv
  ·have h2:(cI q sub p j i).1=0:=by
    refine aaF fun c=> ?_;rw [pf c (Nat.le_succ i)] at h0;exact c h0
   have hle:(i+1+D-128)*c≤D*c:=ZH _ Yv;by_cases h3:i+D≤127
   ·have h4:=k7 (q:=q) (sub:=sub) hD i h3;show lr v _ (jD q sub p j (127-i) (cI q sub p j i)).2;have h5:(jD q sub p j (127-i) (cI q sub p j i)).1=0:=h0;rw [h4] at h5 ⊢;rw [show i+1+D-128=0 by omega,aba];unfold jD at h5 ⊢;rw [YB Yw] at h5 ⊢;by_cases c1:((0:Int),([]:List TR)).2.length=0∧(ck p j (127-i)).length=0
    ·rw [YA c1];exact lr.nil hv
    ·rw [YB c1] at h5 ⊢;by_cases c2:ep [] q≠0
     ·rw [YA c2] at h5;exact absurd h5 c2
     ·rw [YB c2] at h5 ⊢;by_cases c3:(sub (ck p j (127-i))).1≠0
      ·rw [YA c3] at h5;exact absurd h5 c3
      ·rw [YB c3] at h5 ⊢;by_cases c4:gF (aF (cg [] q)++(sub (ck p j (127-i))).2)≠0
       ·rw [YA c4] at h5;exact absurd h5 c4
       ·rw [YB c4];have hn:lr v B (aF (cg [] q)):=lr.nil hv;exact (Hd hn (hb _ Yv) Yv Yv).mono Yv
   ·have ih:=uZ hv hq hT hD hD2 hb hc hS i Yv h2;have e1:(i+1+D-128)*c=(i+D-128)*c+c:=by rw [show i+1+D-128=(i+D-128)+1 by omega,ZE]
    rw [e1] at hle ⊢;generalize (i+D-128)*c=y at*;generalize D*c=z at*;exact NZ ih hq hT (hb _) Yv Yv Yv h0
theorem ym {v:Int}{x:NR} (hv:iJ v=true) (hx:Sz k x.d) (hk:k≤900000):lr v (k+1) (aF [⟨du v,x⟩]):=by
 have h1:=eF.1 hv;have h2:=kM h1.1;refine ⟨eO hv (Y2 (bK _) (show 1≤4096 by decide)) fun t ht=> ?_,fun t ht=> ?_,fun t ht=> ?_⟩
 ·rw [YT.1 ht];unfold eY;rw [YU,YY];exact ⟨sP v,h2⟩
 ·have h1:Sz (k+1) t.c.d:=mm (k:=k) (l:=[⟨du v,x⟩]) (fun s hs=>by rw [YT.1 hs];exact hx) t ht;exact ⟨by rw [(dQ _).nf t ht];exact h1.ok Yv,h1⟩
 ·obtain ⟨s,hs,e⟩:=gZ t ht;rw [←e,YT.1 hs];show (du v).size≤100000;omega
theorem Gy {v:Int}{K T c0:Nat} (hv:iJ v=true) (hc0:K+4096*T+8192≤c0):∀(qs:List (List TR)) (j:Nat) (p:List TR) (ds:List Nat) (k:Nat),(∀q∈qs,lr v K q∧q.length≤T)→ja k p→ds.length=qs.length→(∀(i d:Nat),ds[i]?=some d→d≤127∧∀t∈p,ie (j+i) t≤d)→gQ c0 ds (k+1)≤900000→
  (gU v qs j p).1=0→lr v (gQ c0 ds (k+1)) (gU v qs j p).2:=by
 intro qs
 induction qs with
 |nil=>
  intro j p ds k _ hok hds _ hB _;obtain rfl:ds=[]:=aaA.1 hds;rw [sS] at hB ⊢;refine ym hv ?_ Yv
  cases p with
  |nil=>show Sz k (nR 0).d;rw [cj];exact Sz.zero k
  |cons t p=>exact (hok t YL).2
 |cons q qs ih=>
  intro j p ds k hq hok hds hD hB h0
  cases ds with
  |nil=>cases hds
  |cons d ds=>
   have hd:=hD 0 d rfl;rw [qK] at hB ⊢;have hB1:gQ c0 ds (k+1)≤900000:=Yv;have hsub:∀n,(gU v qs (j+1) (ck p j n)).1=0→lr v (gQ c0 ds (k+1)) (gU v qs (j+1) (ck p j n)).2:=fun n hn=>by
    refine ih (j+1) (ck p j n) ds k (fun r hr=>hq r (YP _ hr)) (fun t ht=>hok t (kZ t ht)) (by simpa using hds) (fun i e he=> ?_) hB1 hn;exact SK
   have h1:=uZ (sub:=gU v qs (j+1)) (p:=p) (j:=j) hv (hq q YL).1 (hq q YL).2 hd.2 hd.1 hsub hc0 hB 128 (YE _) h0;rw [show 128+d-128=d by omega] at h1;exact h1
variable {fr:Nat}
theorem CJ:∀{a b:List UInt8}{j:Nat}{x y:UInt8},Op.bytesLess a b=true→a.take j=b.take j→a[j]?=some x→b[j]?=some y→x.toNat≤y.toNat
 |[],_,j,x,y,_,_,hx,_=>by simp at hx
 |_,[],j,x,y,_,_,_,hy=>by simp at hy
 |c::a,d::b,0,x,y,h,_,hx,hy=>by
  simp only [abf,aaf] at hx hy;subst hx;subst hy;simp only [Op.bytesLess,aaL,YU,YY,aam] at h
  rcases h with h|⟨h,_⟩
  ·exact Nat.le_of_lt (UInt8.lt_iff_toNat_lt.1 h)
  ·rw [h];exact YE _
 |c::a,d::b,j+1,x,y,h,ht,hx,hy=>by
  simp only [List.take_succ_cons,abI] at ht;obtain ⟨rfl,ht⟩:=ht;simp only [aaY] at hx hy;refine CJ (a:=a) (b:=b) ?_ ht hx hy;simpa [Op.bytesLess] using h
structure Im (v:Int) (j:Nat) (p:List TR):Prop where
 sO:ux p
 may:∀t∈p,eY v t=true
 pre:∀a∈p,∀b∈p,a.m.data.toList.take j=b.m.data.toList.take j
theorem Im.size {v:Int} (h:Im v j p):∀t∈p,(t.m.data.toList.length:Int)=v:=fun t ht=>by
 rw [←dP];exact Z8 (aaE.1 (h.may t ht)).2
theorem Im.get {v:Int} (h:Im v j p) (hj:(j:Int)<v) {t:TR} (ht:t∈p):∃e:UInt8,t.m.data.toList[j]?=some e∧ie j t=e.toNat∧e.toNat<128:=by
 obtain ⟨e,he⟩:=ao (l:=t.m.data.toList) (k:=j) (by have:=h.size t ht;omega);exact ⟨e,he,ow he,oW (aaE.1 (h.may t ht)).1 he⟩
theorem Im.mono {v:Int} (h:Im v j p) (hj:(j:Int)<v):p.Pairwise fun a b=>ie j a≤ie j b:=by
 refine List.Pairwise.imp_of_mem (fun {a b} ha hb hl=> ?_) h.sO;obtain ⟨x,hx,ex,_⟩:=h.get hj ha;obtain ⟨y,hy,ey,_⟩:=h.get hj hb;rw [ex,ey];exact CJ hl (h.pre a ha b hb) hx hy
theorem Im.with {v:Int} (h:Im v j p) (hj:(j:Int)<v):Im v (j+1) (ck p j n):=by
 refine ⟨h.sO.filter _,fun t ht=>h.may t (kZ t ht),fun a ha b hb=> ?_⟩;obtain ⟨ha1,ha2⟩:=ZP.1 ha;obtain ⟨hb1,hb2⟩:=ZP.1 hb;obtain ⟨x,hx,ex,_⟩:=h.get hj ha1;obtain ⟨y,hy,ey,_⟩:=h.get hj hb1;have exy:x=y:=abq.1 (by rw [←ex,←ey,Z8 ha2,Z8 hb2]);rw [aC hx,aC hy,h.pre a ha1 b hb1,exy]
theorem Lm {p:List α}{en:Nat} (h:fr≤en):p.drop fr=(p.drop fr).take (en-fr)++p.drop en:=by
 have:p.drop en=(p.drop fr).drop (en-fr):=by rw [List.drop_drop];congr 1;omega
 rw [this,Zv]
theorem BE {en:Nat} (hfe:fr≤en) (h1:∀t∈p.take fr,ie j t<n) (h2:∀t∈(p.drop fr).take (en-fr),ie j t=n) (h3:∀t∈p.drop en,n<ie j t):ck p j n=(p.drop fr).take (en-fr):=by
 have e:p=p.take fr++((p.drop fr).take (en-fr)++p.drop en):=by
  have:p.drop en=(p.drop fr).drop (en-fr):=by rw [List.drop_drop];congr 1;omega
  rw [this,Zv,Zv]
 unfold ck
 conv=>lhs;rw [e]
 rw [aa6,aa6,List.filter_eq_nil_iff.2,List.filter_eq_self.2,List.filter_eq_nil_iff.2,YH,Y9]
 ·intro t ht;have:=h3 t ht;simp only [YY];omega
 ·intro t ht;have:=h2 t ht;simpa using this
 ·intro t ht;have:=h1 t ht;simp only [YY];omega
theorem JR {x:TR} (h:p.Pairwise fun a b=>ie j a≤ie j b) (hx:p[fr]?=some x) (hn:ie j x<n):∀t∈p.take (fr+1),ie j t<n:=fun t ht=>by
 rw [aC hx] at ht
 rcases Zb.1 ht with ht|ht
 ·have e:p=p.take fr++x::p.drop (fr+1):=by rw [←gC hx,Zv]
  rw [e,List.pairwise_append] at h;have:=h.2.2 t ht x YL;omega
 ·obtain rfl:=YT.1 ht;exact hn
variable {next:Rf→World→Prop}
section
variable {ro:Mode}{P:Program}{N:Nat}{Q:Kq}{ρ:Rf}{w:World}
theorem Nh {c:Code}{id:Nat} (mods:List Nat) (s0:Nat) (J:Value→World→Prop) (hc:WC ro P N c (sI id (cU (fun ρ2 w2=>J (ρ2 s0) w2∧jE mods ρ2 ρ) Q)) ρ w)
  (hn:∀ρ' v0 w',J v0 w'→next (cY (mask mods ρ' ρ) s0 v0) w'):WC ro P N c (sI id (cU next Q)) ρ w:=
 hc.mono fun e ρ2 w2 hq=>by
  have key:J (ρ2 s0) w2∧jE mods ρ2 ρ→next ρ2 w2:=fun h=>by
   have:=hn ρ2 (ρ2 s0) w2 h.1;rwa [jI h.2,iy] at this
  cases e with
  |normal=>exact key hq
  |exit i=>
   by_cases h:i=id
   ·subst h;simp only [sI,cU,if_true] at hq ⊢;exact key hq
   ·simp only [sI,cU,YB h] at hq ⊢;exact hq
  |_=>exact hq
theorem J7 {a c:Code} (mods:List Nat) (J:World→Prop) (hc:WC ro P N a (cU (fun ρ2 w2=>J w2∧jE mods ρ2 ρ) Q) ρ w) (hn:∀ρ' w',J w'→WC ro P N c Q (mask mods ρ' ρ) w'):WC ro P N (.seq a c) Q ρ w:=
 ai (hc.mono fun e ρ2 w2 hq=>by
  cases e with
  |normal=>
   have:=hn ρ2 w2 hq.1;rwa [jI hq.2] at this
  |_=>exact hq)
end
end Go.Proofs.YtolamocnngihpaaGreatDoor
