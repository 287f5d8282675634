/- Lemmas for bernValues, part 5. -/
import Derived.LaidMore
import Derived.Lay
import Derived.Deep.Slices
import Derived.Stop.Joined
import Derived.Deep.Strs
import Derived.Laws.OwnMore
import Derived.Lib.SliceRun
import Derived.Test.YtolamocnngihpaaGreatDoorZ4
namespace Go.Proofs.YtolamocnngihpaaGreatDoor
variable {b n:Nat}
open Go.RowKit
theorem oD:bG n=0↔n=0:=by
 constructor
 ·intro h;have:=dt n;rw [h] at this;omega
 ·intro h;rw [h];exact lB
theorem nE {a:Nat} (h:a≤b):bG a≤bG b:=dK (Yv h (dt b))
theorem JG (a b:Nat):bG (a+b)≤bG a+bG b+1:=by
 apply dK;have h1:=dt a;have h2:=dt b;have h3:2^bG a≤2^(bG a+bG b):=Yf Xj Xj;have h4:2^bG b≤2^(bG a+bG b):=Yf Xj Xj;rw [Yj];omega
theorem dP (s:Bool) (m:ByteArray) (w:World) (hm:m.size≤1000000000):
  Calls Tryz.prog 152 #[.agg #[.bool s,.string m]] w fun e w'=>e=.returned (.agg #[.bool (iN (iv s m)),.string (iM (iv s m))])∧Below w.heap.size w w':=by
 have hh:=Hp.start w;have h1:=jq m;rw [Qw,ER]
 cases s with
 |false=>
  refine aj (N:=16) (l:=[.agg #[.bool false,.string m]]) Tryz.func152 rfl rfl (by simp) ?_;refine sr ?_;refine cv hh [_,_] ?_;intro b1 w1 hh;refine bP hh ?_;intro b2 w2 hh;refine aa (sr (bH ?_));refine bE hh 1 ?_;refine aF (eW m _ hm) ar.out rfl Xk ?_;rintro e_ w6 ⟨A6,c6,rfl,hown_,hb_⟩;refine ⟨_,rfl, ?_⟩;replace hh:=hh.aX (x:=.row _ _ _ _ _ _) hb_ hown_;refine Md ?_;intro w7 hh;rw [iH];refine aS (aa (sr (bH ?_)));refine bE hh 2 ?_;refine mB ?_;refine gS (gS ?_);refine ez ?_;refine mS ?_;refine fP [_,_] ?_;exact LH
 |true=>
  by_cases h0:sN (bN m)=ByteArray.mk #[]
  ·refine aj (N:=16) (l:=[.agg #[.bool true,.string m]]) Tryz.func152 rfl rfl (by simp) ?_;refine sr ?_;refine cv hh [_,_] ?_;intro b1 w1 hh;refine bP hh ?_;intro b2 w2 hh;refine aa (sr (bH ?_));refine bE hh 1 ?_;refine aF (eW m _ hm) ar.out rfl Xk ?_;rintro e_ w6 ⟨A6,c6,rfl,hown_,hb_⟩;refine ⟨_,rfl, ?_⟩;replace hh:=hh.aX (x:=.row _ _ _ _ _ _) hb_ hown_;refine Md ?_;intro w7 hh;rw [iH];refine aS (aa (sr (bH ?_)));refine bE hh 2 ?_;refine mB (gT (mS (gT ?_)))
   (first|refine kF rfl rfl (by first|rfl|assumption|decide) Xk ?_|refine kE rfl rfl (by first|assumption|decide) Xk ?_)
   refine eR ?_;refine mS ?_;refine fP [_,_] ?_;refine bR hh 1 [_,_] ?_;intro ws hh;replace hh:Hp _ (_::.blk _ _ [_,_] _::_) _:=hh;refine aa (aw ?_);refine CK ?_;exact Ql
  ·refine aj (N:=16) (l:=[.agg #[.bool true,.string m]]) Tryz.func152 rfl rfl (by simp) ?_;refine sr ?_;refine cv hh [_,_] ?_;intro b1 w1 hh;refine bP hh ?_;intro b2 w2 hh;refine aa (sr (bH ?_));refine bE hh 1 ?_;refine aF (eW m _ hm) ar.out rfl Xk ?_;rintro e_ w6 ⟨A6,c6,rfl,hown_,hb_⟩;refine ⟨_,rfl, ?_⟩;replace hh:=hh.aX (x:=.row _ _ _ _ _ _) hb_ hown_;refine Md ?_;intro w7 hh;rw [iH];refine aS (aa (sr (bH ?_)));refine bE hh 2 ?_;refine mB (gT (mS (gT ?_)))
   (first|refine kF rfl rfl (by first|rfl|assumption|decide) Xk ?_|refine kE rfl rfl (by first|assumption|decide) Xk ?_)
   refine eR ?_;refine mS ?_;refine fP [_,_] ?_;refine bR hh 1 [_,_] ?_;intro ws hh;replace hh:Hp _ (_::.blk _ _ [_,_] _::_) _:=hh;refine aa (aw ?_);refine CK ?_;exact QK
theorem kK (s:Bool) (m:ByteArray) (w:World) (hm:m.size≤1000000000):
  Calls Tryz.prog 182 #[.agg #[.bool s,.string m]] w fun e w'=>e=.returned (.int .i64 (iv s m).sign)∧Below w.heap.size w w':=by
 have hh:=Hp.start w;by_cases h0:bN m=0
 ·have hb:bG (bN m)=0:=oD.2 h0;refine aj (N:=9) (l:=[.agg #[.bool s,.string m]]) Tryz.func182 rfl rfl (by simp) ?_;refine sr ?_;refine cv hh [_,_] ?_;intro b1 w1 hh;refine aI (aa (ah (sr (bH ?_))));refine bE hh 0 ?_;refine bA hh (oO m _ hm) rfl ?_;intro w5 hh;refine Fw ?_;refine df ?_;have hz:iv s m=0:=by unfold iv;split<;>omega
  exact ⟨by rw [hz];rfl,hh.below⟩
 ·have hb:bG (bN m)≠0:=fun h=>h0 (oD.1 h)
  cases s with
  |true=>
   refine aj (N:=9) (l:=[.agg #[.bool true,.string m]]) Tryz.func182 rfl rfl (by simp) ?_;refine sr ?_;refine cv hh [_,_] ?_;intro b1 w1 hh;refine aI (aa (ah (sr (bH ?_))));refine bE hh 0 ?_;refine bA hh (oO m _ hm) rfl ?_;intro w5 hh;refine cR (aa (cF (aq (ai (ah (sr (bH ?_)))))));refine bE hh 0 ?_;refine BI ?_;refine df ?_;have hz:iv true m<0:=by unfold iv;rw [Xo rfl];omega
   exact ⟨by rw [YV hz],hh.below⟩
  |false=>
   refine aj (N:=9) (l:=[.agg #[.bool false,.string m]]) Tryz.func182 rfl rfl (by simp) ?_;refine sr ?_;refine cv hh [_,_] ?_;intro b1 w1 hh;refine aI (aa (ah (sr (bH ?_))));refine bE hh 0 ?_;refine bA hh (oO m _ hm) rfl ?_;intro w5 hh;refine cR (aa (cF (aq (ai (ah (sr (bH ?_)))))));refine bE hh 0 ?_;refine EW ?_;refine df ?_;have hz:0<iv false m:=by unfold iv;rw [Xp (by simp)];omega
   exact ⟨by rw [YU hz],hh.below⟩
theorem rn (n:Int) (w:World) (h1: -9223372036854775808≤n) (h2:n≤9223372036854775807):
  Calls Tryz.prog 103 #[.int .i64 n] w fun e w'=>e=.returned (.agg #[.bool (iN n),.string (iM n)])∧Below w.heap.size w w':=by
 have hh:=Hp.start w;by_cases h0:n<0
 ·have hn:iN n=true:=XH h0;obtain ⟨m,hm⟩:=aaF (by omega:0≤ -(n+1));have ha:n.natAbs=m+1:=Xj;have hw:(m+1) % 18446744073709551616=m+1:=X5 Xj;refine aj (N:=16) (l:=[.int .i64 n]) Tryz.func103 rfl rfl (by simp) ?_;refine sr ?_;refine bP hh ?_;intro b2 w2 hh;refine aa (ah (sr (mI ?_)));refine bf (aa (cT (sr (mI ?_))));refine bk ?_;refine z3 rfl Xj Xj Xk ?_;rw [show -(n+1)=(m:Int) from hm];refine mm ?_;refine iL (b:=1) rfl rfl Xk ?_;rw [hw];refine bA hh (xL (m+1) _ Xj) rfl ?_;intro w10 hh;rw [←ha];refine fP [_,_] ?_;refine bR hh 0 [_,_] ?_;intro ws hh;replace hh:Hp _ (.blk _ _ [_,_] _::_) _:=hh;refine aa (aw (aK ?_));refine pP ?_;rw [hn];exact ⟨rfl,hh.below⟩
 ·obtain ⟨m,rfl⟩:=aaF (by omega:0≤n);have hn:iN (m:Int)=false:=XM Xj;have hm:m<18446744073709551616:=Xj;have e1:iM (m:Int)=sN m:=rfl;refine aj (N:=16) (l:=[.int .i64 (m:Int)]) Tryz.func103 rfl rfl (by simp) ?_;refine sr ?_;refine bP hh ?_;intro b2 w2 hh;refine aa (ah (sr (mI ?_)));refine bf (aa (cF (aq (ai (sr (mI ?_))))));refine mm ?_;refine bA hh (xL m _ hm) rfl ?_;intro w14 hh;refine fP [_,_] ?_;refine bR hh 0 [_,_] ?_;intro ws hh;replace hh:Hp _ (.blk _ _ [_,_] _::_) _:=hh;refine aa (aw ?_);refine pP ?_;rw [hn,e1];exact ⟨rfl,hh.below⟩
theorem sw (s t:Bool) (a b:ByteArray) (w:World) (ha:a.size≤100000000) (hb:b.size≤100000000):
  Calls Tryz.prog 150 #[.agg #[.bool s,.string a],.agg #[.bool t,.string b]] w fun e w'=>e=.returned (.agg #[.bool (iN (iv s a+iv t b)),.string (iM (iv s a+iv t b))])∧Below w.heap.size w w':=by
 have hh:=Hp.start w;have hba:=gO a;have hbb:=gO b;by_cases hst:s=t
 ·subst hst;have e1:iv s (sN (bN a+bN b))=iv s a+iv s b:=by unfold iv;rw [eU];split<;>omega
  have hsz:(sN (bN a+bN b)).size≤1000000000:=by rw [ma];have:=JG (bN a) (bN b);omega
  rw [←e1];refine aj (N:=49) (l:=[.agg #[.bool s,.string a],.agg #[.bool s,.string b]]) Tryz.func150 rfl rfl (by simp) ?_;refine sr ?_;refine cv hh [_,_] ?_;intro b2 w2 hh;refine cv hh [_,_] ?_;intro b3 w3 hh;refine bP hh ?_;intro b4 w4 hh;refine aa (ah (sr (bH ?_)));refine bE hh 2 ?_;refine bH ?_;refine bE hh 1 ?_;refine Fl bh.out rfl rfl (by first|rfl|assumption) Xk ?_;refine aa (cT (ah ?_));refine a0 8 [[(2,none)],[(12,some 0)],[(2,none)],[(14,some 2)],[(3,none)],[(16,some 4)],[(15,some 3),(17,some 5)],[(18,some 6)]] [(7,19),(6,18),(5,17),(4,16),(3,15),(2,14),(1,13),(0,12)] hh mixed Xl ?_;refine ej ?_;refine fN 2 ?_;refine ej ?_;refine fN 2 ?_;refine ej ?_;refine fN 1 ?_;refine rD [_,_] ?_;refine aQ (i:=7) (Is (.string (sN (bN a+bN b)))) Is.ext ?_ ?_
  ·intro ρ1 w1 hj hR;obtain ⟨A18,c18,h18,s18⟩:=hR.1;exact aY rfl (aJ ar.out (av h18 aU)) (EE A18 2 c18 [a,b] _ s18 Xj (by simp;omega)) (fun _ _ hq=>⟨_,hq.1,hq.2,rfl⟩)
  refine aO ?_;intro f W hJ hV;have hb_2:=hJ.bl;obtain ⟨v19,v18,v17,v16,v15,v14,v13,v12,_⟩:=hV;obtain ⟨A18,c18,e18,f18⟩:Rows _ _ _ (f 6) W:=v18;replace hh:=hJ.hp;refine aW (bm (ae v19 (ae e18 (ae v17 (ae v16 (ae v15 (ae v14 (ae v13 (ae v12 aV))))))))) ?_;dsimp only [cd];clear e18 hJ;refine fP [_,_] ?_;refine bA hh (dP s (sN (bN a+bN b)) _ hsz) rfl ?_;intro w21 hh;exact GL
 ·by_cases hle:bN b≤bN a
  ·have e1:iv s (sN (bN a-bN b))=iv s a+iv t b:=by unfold iv;rw [eU];cases s<;>cases t<;>simp at hst ⊢ <;>omega
   have hsz:(sN (bN a-bN b)).size≤1000000000:=by rw [ma];have:=nE (show bN a-bN b≤bN a by omega);omega
   rw [←e1];refine aj (N:=49) (l:=[.agg #[.bool s,.string a],.agg #[.bool t,.string b]]) Tryz.func150 rfl rfl (by simp) ?_;refine sr ?_;refine cv hh [_,_] ?_;intro b2 w2 hh;refine cv hh [_,_] ?_;intro b3 w3 hh;refine bP hh ?_;intro b4 w4 hh;refine aa (ah (sr (bH ?_)));refine bE hh 2 ?_;refine bH ?_;refine bE hh 1 ?_;refine FP ?_;refine pQ ?_;refine bE hh 2 ?_;refine bH ?_;refine bE hh 1 ?_;refine bA hh (oK a b _ Xj Xj) rfl ?_;intro w27 hh;rw [XH hle];refine mT ?_;refine dn ?_;refine dn ?_;refine aS (aB (aa (ah (sr (mB (aa (cT (sr (bH ?_)))))))));refine bE hh 2 ?_;refine mS ?_;refine fP [_,_] ?_;refine bA hh (dP s (sN (bN a-bN b)) _ hsz) rfl ?_;intro w35 hh;exact GL
  ·have e1:iv t (sN (bN b-bN a))=iv s a+iv t b:=by unfold iv;rw [eU];cases s<;>cases t<;>simp at hst ⊢ <;>omega
   have hsz:(sN (bN b-bN a)).size≤1000000000:=by rw [ma];have:=nE (show bN b-bN a≤bN b by omega);omega
   rw [←e1];refine aj (N:=49) (l:=[.agg #[.bool s,.string a],.agg #[.bool t,.string b]]) Tryz.func150 rfl rfl (by simp) ?_;refine sr ?_;refine cv hh [_,_] ?_;intro b2 w2 hh;refine cv hh [_,_] ?_;intro b3 w3 hh;refine bP hh ?_;intro b4 w4 hh;refine aa (ah (sr (bH ?_)));refine bE hh 2 ?_;refine bH ?_;refine bE hh 1 ?_;refine FP ?_;refine pQ ?_;refine bE hh 2 ?_;refine bH ?_;refine bE hh 1 ?_;refine bA hh (oK a b _ Xj Xj) rfl ?_;intro w27 hh;rw [XM hle];refine mT ?_;refine dn ?_;refine dn ?_;refine aS (aB (aa (ah (sr (mB (aa (cF (aq (ai (sr (bH ?_)))))))))));refine bE hh 1 ?_;refine bH ?_;refine bE hh 2 ?_;refine bA hh (oK b a _ Xj Xj) rfl ?_;intro w41 hh;refine mT ?_;refine dn ?_;refine dn ?_;refine aS (aa (sr (bH ?_)));refine bE hh 1 ?_;refine mS ?_;refine fP [_,_] ?_;refine bA hh (dP t (sN (bN b-bN a)) _ hsz) rfl ?_;intro w48 hh;exact BM
theorem pe (z:Int) (B:Nat) (q r:Int) (h:r+B*q=z) (h0:0≤r) (h1:r<B):z/B=q∧z % B=r:=
 (Int.ediv_emod_unique Xj).2 ⟨h,h0,h1⟩
theorem Dz (s:Bool) (a b:ByteArray) (w:World) (ha:a.size≤10000000) (hb:b.size≤10000000) (hb0:bN b≠0):
  Calls Tryz.prog 153 #[.agg #[.bool s,.string a],.agg #[.bool false,.string b]] w fun e w'=>e=.returned (.tuple #[.agg #[.bool (iN (iv s a/bN b)),.string (iM (iv s a/bN b))],.agg #[.bool (iN (iv s a % bN b)),.string (iM (iv s a % bN b))],.bool true])∧Below w.heap.size w w':=by
 have hh:=Hp.start w;have hba:=gO a;have hbb:=gO b;have hmod:bN a % bN b<bN b:=XW _ Xj;have hdm:bN b*(bN a/bN b)+bN a % bN b=bN a:=Y8 _ _;have hdm':(bN b:Int)*((bN a/bN b:Nat):Int)+((bN a % bN b:Nat):Int)=(bN a:Int):=by rw [←YB,←Zm,hdm]
 have hqs:(sN (bN a/bN b)).size≤10000000:=by rw [ma];have:=nE (ZM (bN a) (bN b));omega
 have hrs:(sN (bN a % bN b)).size≤10000000:=by rw [ma];have:=nE (show bN a % bN b≤bN b by omega);omega
 have hqz:∀u,(iM (iv u (sN (bN a/bN b)))).size≤10000000:=fun u=>by rw [ER,eU];exact hqs
 have hrz:∀u,(iM (iv u (sN (bN a % bN b)))).size≤10000000:=fun u=>by rw [ER,eU];exact hrs
 by_cases hneg:s=true∧bN a % bN b≠0
 ·obtain ⟨rfl,hne⟩:=hneg;have e1:iv true (sN (bN a/bN b))= -((bN a/bN b:Nat):Int):=by unfold iv;rw [eU,Xo rfl]
  have e2:iv true (sN (bN a % bN b))= -((bN a % bN b:Nat):Int):=by unfold iv;rw [eU,Xo rfl]
  have hlt:(iv true (sN (bN a % bN b))).sign<0:=by rw [e2,YV Xj];omega
  have e3:iv true a= -(bN a:Int):=by unfold iv;rw [Xo rfl]
  obtain ⟨q1,q2⟩:=pe (iv true a) (bN b) (-((bN a/bN b:Nat):Int)+ -1) ((bN b:Int)-((bN a % bN b:Nat):Int)) (by rw [e3,←hdm',Int.mul_add,Int.mul_neg];omega) Xj Xj;have e4:iv false b=(bN b:Int):=by unfold iv;rw [Xp (by simp)]
  have hp2:(bN b:Int).sign=1:=YU Xj;refine aj (N:=57) (l:=[.agg #[.bool true,.string a],.agg #[.bool false,.string b]]) Tryz.func153 rfl rfl (by simp) ?_;refine sr ?_;refine cv hh [_,_] ?_;intro b2 w2 hh;refine cv hh [_,_] ?_;intro b3 w3 hh;refine bP hh ?_;intro b4 w4 hh;refine bP hh ?_;intro b5 w5 hh;refine aB (aa (sr (bH ?_)));refine bE hh 3 ?_;refine bH ?_;refine bE hh 2 ?_;refine bA hh (oS a b _ Xj Xj hb0) rfl ?_;intro w18 hh;refine mT ?_;refine dn ?_;refine dn ?_;refine dn ?_;refine aS (aS (aB (aa (ah (sr (mB ?_))))));refine fi ?_;refine pQ ?_;refine bE hh 3 ?_;refine bH ?_;refine bE hh 2 ?_;refine Fx bh.out rfl rfl (by first|assumption|decide) Xk ?_;refine mS ?_;refine fP [_,_] ?_;refine bA hh (dP true (sN (bN a/bN b)) _ Xj) rfl ?_;intro w33 hh;refine bP hh ?_;intro b10 w10 hh;refine bR hh 0 [_,_] ?_;intro ws hh;replace hh:Hp _ (.blk _ _ [_,_] _::_) _:=hh;refine aa (sr (bH ?_));refine bE hh 4 ?_;refine mS ?_;refine fP [_,_] ?_;refine bA hh (dP true (sN (bN a % bN b)) _ Xj) rfl ?_;intro w38 hh;refine bP hh ?_;intro b11 w11 hh;refine bR hh 0 [_,_] ?_;intro ws hh;replace hh:Hp _ (.blk _ _ [_,_] _::_) _:=hh
  refine aa (ah (sr ?_));refine cg hh 0 [_,_] ?_;refine bA hh (kK (iN (iv true (sN (bN a % bN b)))) (iM (iv true (sN (bN a % bN b)))) _ (by have:=hrz true;omega)) rfl ?_;intro w40 hh;rw [fh];refine bf (aa (cT (sr ?_)));refine cg hh 0 [_,_] (bH ?_);refine bE hh 4 ?_;refine fP [_,_] ?_;refine bA hh (sw (iN (iv true (sN (bN a % bN b)))) false (iM (iv true (sN (bN a % bN b)))) b _ (by have:=hrz true;omega) Xj) rfl ?_;intro w46 hh;rw [fh,e2,e4,show -((bN a % bN b:Nat):Int)+(bN b:Int)=(bN b:Int)-((bN a % bN b:Nat):Int) by omega,←q2];refine bR hh 0 [_,_] ?_;intro ws hh;replace hh:Hp _ (.blk _ _ [_,_] _::_) _:=hh;refine aa (sr ?_);refine bA hh (rn (-1) _ Xj Xj) rfl ?_;intro w47 hh;refine bP hh ?_;intro b12 w12 hh;refine bR hh 0 [_,_] ?_;intro ws hh;replace hh:Hp _ (.blk _ _ [_,_] _::_) _:=hh;refine aa (ah (sr ?_));refine cg hh 5 [_,_] ?_;refine bA hh (kK false b _ Xj) rfl ?_;intro w49 hh;rw [e4,hp2];refine bf (aa (cF (aq (ai (al ?_)))));refine cg hh 2 [_,_] ?_;refine cg hh 0 [_,_] ?_;refine bA hh (sw (iN (iv true (sN (bN a/bN b)))) (iN (-1)) (iM (iv true (sN (bN a/bN b)))) (iM (-1)) _ (by have:=hqz true;omega) Xk) rfl ?_;intro w54 hh
  rw [fh,fh,e1,←q1];refine bR hh 2 [_,_] ?_;intro ws hh;replace hh:Hp _ (_::_::.blk _ _ [_,_] _::_) _:=hh;refine aa (ah ?_);refine nO hh mixed fun w_ hj_=> ?_;replace hh:=hj_.hp;clear hj_;refine vj (i:=0) (i2:=1) Xl rfl rfl ?_ ?_
  ·refine cg hh 2 [_,_] ?_;refine ff ?_;refine vj (i:=1) (i2:=2) Xl rfl rfl ?_ ?_
   ·refine cg hh 1 [_,_] ?_;exact Qt
   ·refine bR hh 4 [_,_] ?_;intro ws hh;replace hh:Hp _ (_::_::_::_::.blk _ _ [_,_] _::_) _:=hh;refine ff ?_;refine gi (i:=1) Xl rfl ?_;refine cg hh 1 [_,_] ?_;exact T9
  ·refine cg hh 1 [_,_] ?_;refine ff ?_;refine gi (i:=0) Xl rfl ?_;refine cg hh 2 [_,_] ?_;exact Qt
 ·have e4:iv s a/bN b=iv s (sN (bN a/bN b))∧iv s a % bN b=iv s (sN (bN a % bN b)):=by
   cases s with
   |false=>
    have f0:∀x,iv false x=(bN x:Int):=fun x=>by unfold iv;rw [Xp (by simp)]
    rw [f0,f0,f0,eU,eU];exact pe _ _ _ _ Xj Xj Xj
   |true=>
    have r0:bN a % bN b=0:=by
     rcases Y3 (bN a % bN b) with h|h
     ·exact h
     ·exact absurd ⟨rfl,Xj⟩ hneg
    have f0:∀x,iv true x= -(bN x:Int):=fun x=>by unfold iv;rw [Xo rfl]
    rw [f0,f0,f0,eU,eU,r0];rw [r0] at hdm';exact pe _ _ _ _ (by rw [Int.mul_neg];omega) Xj Xj
  have h5:¬(iv s (sN (bN a % bN b))).sign<0:=by
   have h6:0≤iv s (sN (bN a % bN b)):=by rw [←e4.2];exact Int.emod_nonneg _ Xj
   have:=Int.sign_nonneg_iff.2 h6;omega
  rw [e4.1,e4.2]
  cases s with
  |false=>
   refine aj (N:=57) (l:=[.agg #[.bool false,.string a],.agg #[.bool false,.string b]]) Tryz.func153 rfl rfl (by simp) ?_;refine sr ?_;refine cv hh [_,_] ?_;intro b2 w2 hh;refine cv hh [_,_] ?_;intro b3 w3 hh;refine bP hh ?_;intro b4 w4 hh;refine bP hh ?_;intro b5 w5 hh;refine aB (aa (sr (bH ?_)));refine bE hh 3 ?_;refine bH ?_;refine bE hh 2 ?_;refine bA hh (oS a b _ Xj Xj hb0) rfl ?_;intro w18 hh;refine mT ?_;refine dn ?_;refine dn ?_;refine dn ?_;refine aS (aS (aB (aa (ah (sr (mB ?_))))));refine fi ?_;refine pQ ?_;refine bE hh 3 ?_;refine bH ?_;refine bE hh 2 ?_;refine OQ bh.out rfl rfl (by first|rfl|assumption) Xk ?_;refine mS ?_;refine fP [_,_] ?_;refine bA hh (dP false (sN (bN a/bN b)) _ Xj) rfl ?_;intro w33 hh;refine bP hh ?_;intro b10 w10 hh;refine bR hh 0 [_,_] ?_;intro ws hh;replace hh:Hp _ (.blk _ _ [_,_] _::_) _:=hh;refine aa (sr (bH ?_));refine bE hh 4 ?_;refine mS ?_;refine fP [_,_] ?_;refine bA hh (dP false (sN (bN a % bN b)) _ Xj) rfl ?_;intro w38 hh;refine bP hh ?_;intro b11 w11 hh;refine bR hh 0 [_,_] ?_;intro ws hh;replace hh:Hp _ (.blk _ _ [_,_] _::_) _:=hh;refine aa (ah (sr ?_));refine cg hh 0 [_,_] ?_
   refine bA hh (kK (iN (iv false (sN (bN a % bN b)))) (iM (iv false (sN (bN a % bN b)))) _ (by have:=hrz false;omega)) rfl ?_;exact V8
  |true=>
   refine aj (N:=57) (l:=[.agg #[.bool true,.string a],.agg #[.bool false,.string b]]) Tryz.func153 rfl rfl (by simp) ?_;refine sr ?_;refine cv hh [_,_] ?_;intro b2 w2 hh;refine cv hh [_,_] ?_;intro b3 w3 hh;refine bP hh ?_;intro b4 w4 hh;refine bP hh ?_;intro b5 w5 hh;refine aB (aa (sr (bH ?_)));refine bE hh 3 ?_;refine bH ?_;refine bE hh 2 ?_;refine bA hh (oS a b _ Xj Xj hb0) rfl ?_;intro w18 hh;refine mT ?_;refine dn ?_;refine dn ?_;refine dn ?_;refine aS (aS (aB (aa (ah (sr (mB ?_))))));refine fi ?_;refine pQ ?_;refine bE hh 3 ?_;refine bH ?_;refine bE hh 2 ?_;refine Fx bh.out rfl rfl (by first|assumption|decide) Xk ?_;refine mS ?_;refine fP [_,_] ?_;refine bA hh (dP true (sN (bN a/bN b)) _ Xj) rfl ?_;intro w33 hh;refine bP hh ?_;intro b10 w10 hh;refine bR hh 0 [_,_] ?_;intro ws hh;replace hh:Hp _ (.blk _ _ [_,_] _::_) _:=hh;refine aa (sr (bH ?_));refine bE hh 4 ?_;refine mS ?_;refine fP [_,_] ?_;refine bA hh (dP true (sN (bN a % bN b)) _ Xj) rfl ?_;intro w38 hh;refine bP hh ?_;intro b11 w11 hh;refine bR hh 0 [_,_] ?_;intro ws hh;replace hh:Hp _ (.blk _ _ [_,_] _::_) _:=hh;refine aa (ah (sr ?_));refine cg hh 0 [_,_] ?_
   refine bA hh (kK (iN (iv true (sN (bN a % bN b)))) (iM (iv true (sN (bN a % bN b)))) _ (by have:=hrz true;omega)) rfl ?_;exact V8
variable {j k m:Nat}{z:Int}
theorem Gx (h:n≠0):sb n=sb (n/256)++[UInt8.ofNat (n % 256)]:=by
 rw [sb,GX Xj h,XQ,ZP]
 rfl
theorem Fg (h:n≠0):1≤(sN n).size∧∃c:UInt8,(sN n).data.toList[(((sN n).size:Int)-1).toNat]?=some c∧c.toNat=n % 256:=by
 have hl:(sN n).data.toList=sb (n/256)++[UInt8.ofNat (n % 256)]:=by rw [sN,dH,Gx h]
 have hs:(sN n).size=(sb (n/256)).length+1:=by rw [dQ,hl,Xy];rfl
 refine ⟨Xj,UInt8.ofNat (n % 256), ?_, ?_⟩
 ·rw [hl,hs,YD Xj];have:(((sb (n/256)).length+1:Nat)-1:Int).toNat-(sb (n/256)).length=0:=Xj;rw [this]
  rfl
 ·simp
theorem RP (h:n≠0):(sN n).extract 0 ((sN n).size-1)=sN (n/256):=by
 have hl:(sN n).data=(sb (n/256)++[UInt8.ofNat (n % 256)]).toArray:=by rw [sN,←Gx h];rfl
 have hs:(sN n).size=(sb (n/256)).length+1:=by rw [dQ,hl,Xy];rfl
 apply ByteArray.ext;rw [ByteArray.data_extract,hl,hs];show _=(sb (n/256)).toArray;simp
theorem Rw {k:Int} (h:0<k) (y:Int):iN (y*k)=iN y:=by
 unfold iN;rw [decide_eq_decide];constructor
 ·intro h1
  rcases aad y 0 with h2|h2|h2
  ·exact h2
  ·rw [h2] at h1;simp at h1
  ·have:=Int.mul_pos h2 h;omega
 ·intro h1;exact Int.mul_neg_of_neg_of_pos h1 h
theorem SY (h:n % 2=1):tz n=0:=by
 have:=F3 0 (n/2);rwa [show 2^0*(2*(n/2)+1)=n by omega] at this
theorem LI {y e:Int} (hy:y.natAbs % 2=1) (hz:y*2^j=z):nR (Dyadic.ofIntWithPrec z (-e))=⟨iN y,iM y,e+j⟩:=by
 have h1:=q8 (s:=iN y) (a:=iM y) (e:=e+j) (by rw [fh];omega);rw [fh,iM,eU,SY hy] at h1;have h2:=rA y (-(e+j)) j;rw [hz,show -(e+(j:Int))+j= -e by omega] at h2;rw [h2,h1];simp
theorem tx {y:Int} (hy:y≠0) (hz:y*2^j=z) (hm:z.natAbs<2^m):j<m:=by
 have h1:z.natAbs=y.natAbs*2^j:=by rw [←hz,Zz,Z7];rfl
 have h2:1*2^j≤y.natAbs*2^j:=Yr _ Xj;have h3:2^j<2^m:=Xj;exact (aaV Xj).1 h3
theorem rV (s:Bool) (a:ByteArray) (e:Int) (w:World) (ha:a.size≤10000000) (h1: -1000000000000≤e) (h2:e≤1000000000000):
  Calls Tryz.prog 102 #[.agg #[.bool s,.string a],.int .i64 e] w fun r w'=>r=.returned (.agg #[.bool (nR (Dyadic.ofIntWithPrec (iv s a) (-e))).neg,.string (nR (Dyadic.ofIntWithPrec (iv s a) (-e))).bg,.int .i64 (nR (Dyadic.ofIntWithPrec (iv s a) (-e))).e])∧Below w.heap.size w w':=by
 have hh:=Hp.start w;by_cases h0:iv s a=0
 ·have hm:=tM.2 h0;rw [h0] at hm;refine aj (N:=50) (l:=[.agg #[.bool s,.string a],.int .i64 e]) Tryz.func102 rfl rfl (by simp) ?_;refine sr ?_;refine cv hh [_,_] ?_;intro b2 w2 hh;refine bP hh ?_;intro b4 w4 hh;refine aa (sr ?_);refine cg hh 1 [_,_] ?_;refine bA hh (dP s a _ Xj) rfl ?_;intro w6 hh;rw [h0];refine bR hh 1 [_,_] ?_;intro ws hh;replace hh:Hp _ (_::.blk _ _ [_,_] _::_) _:=hh;refine aa (ah (sr (bH ?_)));refine bE hh 1 ?_;refine kD rfl rfl (by first|rfl|assumption|decide) Xk ?_;refine aa (cT (sr ?_));refine fP [_,_,_] ?_;refine bR hh 0 [_,_,_] ?_;intro ws hh;replace hh:Hp _ (.blk _ _ [_,_,_] _::_) _:=hh;refine aa (aw (aK ?_));refine Gu ?_;rw [lN,l3];exact ⟨rfl,hh.below⟩
 ·have hm:¬iM (iv s a)=ByteArray.mk #[]:=fun h=>h0 (tM.1 h);have hzb:(iv s a).natAbs<2^(8*a.size):=by
   rw [kg,Yi];exact xZ a
  refine aj (N:=50) (l:=[.agg #[.bool s,.string a],.int .i64 e]) Tryz.func102 rfl rfl (by simp) ?_;refine sr ?_;refine cv hh [_,_] ?_;intro b2 w2 hh;refine bP hh ?_;intro b4 w4 hh;refine aa (sr ?_);refine cg hh 1 [_,_] ?_;refine bA hh (dP s a _ Xj) rfl ?_;intro w6 hh;refine bR hh 1 [_,_] ?_;intro ws hh;replace hh:Hp _ (_::.blk _ _ [_,_] _::_) _:=hh;refine aa (ah (sr (bH ?_)));refine bE hh 1 ?_;refine kB rfl rfl (by first|assumption|decide) Xk ?_;refine aa (cF (aq (ai (ah (ao ?_)))));generalize hz:iv s a=z at*;refine aR [1,11,12,13,14,15,16,17,18,19,20,21,22,23,24,25,26,27,28] 1
   (fun v w'=>∃(y:Int) (j:Nat),y≠0∧y*2^j=z∧v=.int .i64 (e+j)∧Hp w [.blk b4 40 [.bool false,.string (ByteArray.mk #[]),.int .i64 0] (0,0),.blk b2 38 [.bool (iN y),.string (iM y)] (0,0)] w')
   (fun v _=>(e+8*a.size+1-intOf v).toNat) ?_ ?_
  ·exact ⟨z,0,h0,by simp,by show Value.int _ _=Value.int _ _;congr 1;omega,hh⟩
  ·clear hh;rintro ρ' v w' ⟨y,j,hy,hyz,rfl,hh⟩;have hj:=tx hy hyz hzb;obtain ⟨hs1,c,hc,hcn⟩:=Fg (n:=y.natAbs) Xj;have hcut:=RP (n:=y.natAbs) Xj;have hsz:(sN y.natAbs).size≤10000000:=by
    exact UA
   change (iM y).data.toList[(((iM y).size:Int)-1).toNat]?=some c at hc
   change 1≤(iM y).size at hs1
   change (iM y).extract 0 ((iM y).size-1)=_ at hcut
   change (iM y).size≤_ at hsz
   by_cases hb:y.natAbs % 256=0
   ·obtain ⟨x,rfl⟩:∃x,y=x*256:=⟨y/256,Xj⟩;have hx:x≠0:=fun h=>hy (by rw [h];rfl);have e1:iN (x*256)=iN x:=Rw Xj x;have e2:sN ((x*256).natAbs/256)=iM x:=by rw [iM];congr 1;omega
    have hxz:x*2^(j+8)=z:=by rw [←hyz,Int.pow_add,Int.mul_assoc,Int.mul_comm (2^j)];rfl
    have hj2:=tx hx hxz hzb;refine ah (sr (bH ?_));refine bE hh 1 ?_;refine bH ?_;refine bE hh 1 ?_;refine bO bh.out rfl Xk ?_;refine ep ?_;refine j7 ?_;refine cR (aa (cT (aq (ai (ao (sr (bH ?_)))))));refine bE hh 1 ?_;refine bH ?_;refine bE hh 1 ?_;refine bO bh.out rfl Xk ?_;refine ep ?_;refine sK (l:=0) (h:=((iM (x*256)).size-1)) bh.out rfl rfl ⟨_,_,rfl,Xj⟩ Xj Xj Xk ?_;refine bH ?_;refine bR hh 1 [_] ?_;intro ws hh;replace hh:Hp _ (_::.blk _ _ [_,_] _::_) _:=hh;refine aa (al (mI ?_));refine bk (aI (aA (bz (ai ?_))));rw [hcut,e2,e1] at hh;refine ⟨⟨x,j+8,hx,hxz,by show Value.int _ _=Value.int _ _;congr 1;omega,hh⟩,by show (e+8*a.size+1-(e+j+8)).toNat<(e+8*a.size+1-(e+j)).toNat;omega, ?_⟩;exact dV
   ·refine ah (sr (bH ?_));refine bE hh 1 ?_;refine bH ?_;refine bE hh 1 ?_;refine bO bh.out rfl Xk ?_;refine ep ?_;refine j7 ?_;refine cR (aa (cF (a6 (aE (aE (bq (ai (ah (ao ?_)))))))));refine aR [1,29,30,31,32,33,34,35,36,37,38,39,40,41,42,43,44,45,46] 1
     (fun v w'=>∃(y:Int) (j:Nat),y≠0∧y*2^j=z∧v=.int .i64 (e+j)∧Hp w [.blk b4 40 [.bool false,.string (ByteArray.mk #[]),.int .i64 0] (0,0),.blk b2 38 [.bool (iN y),.string (iM y)] (0,0)] w')
     (fun v _=>(e+8*a.size+1-intOf v).toNat) ?_ ?_
    ·exact ⟨y,j,hy,hyz,rfl,hh⟩
    ·clear hh hb hcut hcn hc hs1 hsz hj hy hyz;rintro ρ2 v w2 ⟨y,j,hy,hyz,rfl,hh⟩;have hj:=tx hy hyz hzb;obtain ⟨hs1,c,hc,hcn⟩:=Fg (n:=y.natAbs) Xj;have hsz:(sN y.natAbs).size≤10000000:=by
      exact UA
     change (iM y).data.toList[(((iM y).size:Int)-1).toNat]?=some c at hc
     change 1≤(iM y).size at hs1
     change (iM y).size≤_ at hsz
     by_cases hb:y.natAbs % 2=0
     ·obtain ⟨x,rfl⟩:∃x,y=x*2:=⟨y/2,Xj⟩;have hx:x≠0:=fun h=>hy (by rw [h];rfl);have hxz:x*2^(j+1)=z:=by rw [←hyz,Int.pow_add,Int.mul_assoc,Int.mul_comm (2^j)];rfl
      have hj2:=tx hx hxz hzb;have hof:∀w1,Calls Tryz.prog 103 #[.int .i64 2] w1 fun e w'=>e=.returned (.agg #[.bool false,.string (iM 2)])∧Below w1.heap.size w1 w':=fun w1=>rn 2 w1 Xj Xj;have hdv:∀w1,Calls Tryz.prog 153 #[.agg #[.bool (iN (x*2)),.string (iM (x*2))],.agg #[.bool false,.string (iM 2)]] w1 fun e w'=>e=.returned (.tuple #[.agg #[.bool (iN x),.string (iM x)],.agg #[.bool (iN 0),.string (iM 0)],.bool true])∧Below w1.heap.size w1 w':=fun w1=>by
       have h2:bN (iM 2)=2:=eU 2;have h3:(iM 2).size≤10000000:=by rw [ef];decide
       have:=Dz (iN (x*2)) (iM (x*2)) (iM 2) w1 hsz h3 Xj;rw [fh,h2,show x*2/((2:Nat):Int)=x by omega,show x*2 % ((2:Nat):Int)=0 by omega] at this;exact this
      refine ah (sr (bH ?_));refine bE hh 1 ?_;refine bH ?_;refine bE hh 1 ?_;refine bO bh.out rfl Xk ?_;refine ep ?_;refine j7 ?_;refine Di (b:=2) rfl rfl Xj Xk ?_;refine cR (aa (cT (aq (ai (ao (ah ?_))))));refine dy [] [5,6] [0,0,3,7,15,15,15,31] 7 [[(2,none)],[],[(39,some 0),(40,some 1)],[(41,some 2)],[(38,some 3)],[(38,some 3)],[(38,some 3)]] [(6,44),(5,43),(4,42),(3,38),(2,41),(1,40),(0,39)] hh mixed Xl dO rfl (by repeat (first|exact cu|refine bQ ?_|refine ct ?_)) ?_;refine fG 1 [_,_] ?_;refine dC (fun _ hj=>hof _) ?_;refine dC (fun _ hj=>hdv _) ?_;refine Ur ?_;refine J4 ?_;refine J4 ?_;refine J4 ?_;refine aO ?_;intro f W hJ hV _;have hb_8:=hJ.bl;obtain ⟨v44,v43,v42,v38,v41,v40,v39,_⟩:=hV;replace hh:=hJ.hp;refine aW (bm (ae v44 (ae v43 (ae v42 (ae v38 (ae v41 (ae v40 (ae v39 aV)))))))) ?_;dsimp only [cd];clear hJ;refine bR hh 1 [_,_] ?_;intro ws hh;replace hh:Hp _ (_::.blk _ _ [_,_] _::_) _:=hh;refine aa (al (mI ?_));refine bk (aI (aA (bz (ai ?_))))
      refine ⟨⟨x,j+1,hx,hxz,by show Value.int _ _=Value.int _ _;congr 1;omega,hh⟩,by show (e+8*a.size+1-(e+j+1)).toNat<(e+8*a.size+1-(e+j)).toNat;omega, ?_⟩;exact dV
     ·have hfin:=LI (e:=e) (show y.natAbs % 2=1 by omega) hyz;refine ah (sr (bH ?_));refine bE hh 1 ?_;refine bH ?_;refine bE hh 1 ?_;refine bO bh.out rfl Xk ?_;refine ep ?_;refine j7 ?_;refine Di (b:=2) rfl rfl Xj Xk ?_;refine cR (aa (cF (a6 (aE (aE (bq (ai (sr ?_))))))));refine cg hh 1 [_,_] (mI ?_);refine fP [_,_,_] ?_;refine bR hh 0 [_,_,_] ?_;intro ws hh;replace hh:Hp _ (.blk _ _ [_,_,_] _::_) _:=hh;refine aa (aw ?_);refine Gu ?_;rw [hfin];exact ⟨rfl,hh.below⟩
theorem J6 {e:Int}{x:Dyadic} (w:World) (hx:Dyadic.ofIntWithPrec z (-e)=x) (hz:(iM z).size≤10000000) (h1: -1000000000000≤e) (h2:e≤1000000000000):
  Calls Tryz.prog 102 #[.agg #[.bool (iN z),.string (iM z)],.int .i64 e] w fun r w'=>r=.returned (.agg #[.bool (nR x).neg,.string (nR x).bg,.int .i64 (nR x).e])∧Below w.heap.size w w':=by
 have:=rV (iN z) (iM z) e w hz h1 h2;rw [fh,hx] at this;exact this
theorem lH (n:Int) (w:World) (h1: -9223372036854775808≤n) (h2:n≤9223372036854775807):
  Calls Tryz.prog 39 #[.int .i64 n] w fun r w'=>r=.returned (.agg #[.bool (nR (n:Dyadic)).neg,.string (nR (n:Dyadic)).bg,.int .i64 (nR (n:Dyadic)).e])∧Below w.heap.size w w':=by
 have hh:=Hp.start w;have hsz:(iM n).size≤10000000:=by
  rw [ef];have:bG n.natAbs≤64:=dK Xj;omega
 have hc:=fun w1=>J6 (z:=n) (e:=0) (x:=(n:Dyadic)) w1 rfl hsz Xj Xj;refine aj (N:=6) (l:=[.int .i64 n]) Tryz.func39 rfl rfl (by simp) ?_;refine sr ?_;refine bP hh ?_;intro b2 w2 hh;refine aa (sr (mI ?_));refine bA hh (rn n _ h1 h2) rfl ?_;intro w4 hh;refine bA hh (hc _) rfl ?_;intro w5 hh;exact Mc
theorem yu (a:NR) (n:Int) (w:World) (ha:a.bg.size≤10000000) (h1: -100000000000≤a.e) (h2:a.e≤100000000000) (h3: -100000000000≤n) (h4:n≤100000000000):
  Calls Tryz.prog 38 #[.agg #[.bool a.neg,.string a.bg,.int .i64 a.e],.int .i64 n] w fun r w'=>r=.returned (.agg #[.bool (nR (a.d*m9 n)).neg,.string (nR (a.d*m9 n)).bg,.int .i64 (nR (a.d*m9 n)).e])∧Below w.heap.size w w':=by
 have hh:=Hp.start w;have e1:Dyadic.ofIntWithPrec (iv a.neg a.bg) (-(a.e+n))=a.d*m9 n:=by
  rw [Int.neg_add];exact NH _ _ _
 have hc:=fun w1=>rV a.neg a.bg (a.e+n) w1 ha Xj Xj;rw [e1] at hc;refine aj (N:=12) (l:=[.agg #[.bool a.neg,.string a.bg,.int .i64 a.e],.int .i64 n]) Tryz.func38 rfl rfl (by simp) ?_;refine sr ?_;refine cv hh [_,_,_] ?_;intro b2 w2 hh;refine bP hh ?_;intro b4 w4 hh;refine aa (sr (bH ?_));refine cg hh 1 [_,_] (bH ?_);refine bE hh 1 ?_;refine mI ?_;refine bk ?_;refine bA hh (hc _) rfl ?_;intro w11 hh;exact Mc
theorem Sz.pow {x:Dyadic} (h:Sz k x) (n:Nat):Sz (1+k*n) (x^n):=by
 induction n with
 |zero=>rw [ZS];exact Sz.one
 |succ n ih=>rw [aah];exact (ih.mul h).mono (by rw [YS];omega)
def D (m e:Int):Dyadic:=Dyadic.ofIntWithPrec m (-e)
theorem NZ {m e:Int} (hm:m.natAbs<256) (h1: -16≤e) (h2:e≤16):Sz 24 (D m e):=by
 have:=Sz.raw (a:=⟨iN m,iM m,e⟩) (m:=8) (E:=16) (by show 8*(iM m).size≤8;rw [ef];have:bG m.natAbs≤8:=dK hm;omega) h1 h2;rw [NR.d,NR.i,fh] at this;exact this
def VV (most far:Int) (l:List NR):Bool:=l.any fun a=>decide (most<a.bg.size∨a.e< -far∨far<a.e)
variable {W:World}{b0 base fuel:Nat}{cs:List Value}{held:Bool}
open Go.ChangeShapes Go.WideShapes Go.ChangeAt Go.RowKit Go.ChangeMaps
set_option maxRecDepth 100000 in
theorem nK {H:Type}{enc:TypeId×Value→H}{sp:Nat→Bool}{x:DataW H×List MemPlace} (h:DataW.trod enc Tryz.prog W base sp held fuel 40 cs=some x):
  ∃a:NR,cs=a.cells∧(Lit.int .i64 a.e).wf=true:=by
 have c1:Tryz.prog.cellsOf 40=3:=by kernel_rfl
 have c2:Tryz.prog.cellsOf 38=2:=by kernel_rfl
 have c3:Tryz.prog.cellsOf 4=1:=by kernel_rfl
 have c4:Tryz.prog.cellsOf 9=1:=by kernel_rfl
 have c5:Tryz.prog.cellsOf 3=1:=by kernel_rfl
 obtain ⟨y0,y1,n,_,hl,h0,h1⟩:=trod_struct2 Tryz.underlying40 h;obtain ⟨z0,z1,n2,_,hl2,h00,h01⟩:=trod_struct2 Tryz.underlying38 h0;obtain ⟨b,e0,_⟩:=DataW.trod_bool Tryz.underlying4 h00;obtain ⟨s,e1,_,hs⟩:=DataW.trod_string Tryz.underlying9 h01;obtain ⟨z,e2,_,hz⟩:=DataW.trod_int Tryz.underlying3 h1;rw [c1] at hl
 match cs,hl with
 |[x0,x1,x2],_=>
  simp only [c2,c3,c4,c5] at e0 e1 e2;simp at e0 e1 e2;subst e0 e1 e2;exact ⟨⟨b,s,z⟩,rfl,hz⟩
theorem GB {p:Nat→NR→Prop}:∀(n:Nat),(∀i,i<n→∃a,p i a)→∃l:List NR,l.length=n∧∀i a,l[i]?=some a→p i a
 |0,_=>⟨[],rfl,fun i a h=>by simp at h⟩
 |n+1,h=>by
  obtain ⟨l,h1,h2⟩:=GB n fun i hi=>h i Xj;exact Uw
set_option maxRecDepth 100000 in
theorem Hd {H:Type}{enc:TypeId×Value→H}{r:Reach}{sp:Nat→Bool}{v:Value}{d:DataW H}{ps:List MemPlace}
  (hval:Value.okWide Tryz.prog W r b0 27 v) (hd:DataW.Trod enc Tryz.prog W base sp held 27 v d ps):∃(A:Option Addr) (n c:Nat) (l:List NR),v=.slice A n c∧Sl W A n 3 (ay NR.cells l)∧∀a∈l, -9223372036854775808≤a.e∧a.e≤9223372036854775807:=by
 have c1:Tryz.prog.cellsOf 40=3:=by kernel_rfl
 obtain ⟨a,len,cap,rfl⟩:=okWide_slice Tryz.underlying27 hval;obtain ⟨fuel,hf⟩:=hd
 rcases Go.Deep.open_slice Tryz.underlying27 hf with ⟨h1,_⟩|⟨ad,n,cp,m,k,D,Pl,h1,_,h2,h3,hm,_,h5⟩
 ·have h1':[Value.slice a len cap]=[.slice none 0 0]:=h1;simp only [aaJ,Value.slice.injEq,and_true] at h1';obtain ⟨rfl,rfl,rfl⟩:=h1';exact ⟨none,0,0,[],rfl,Sl.nil W none 3,fun _ h=>by simp at h⟩
 ·have h1':[Value.slice a len cap]=[.slice (some ad) n cp]:=h1;simp only [aaJ,Value.slice.injEq,and_true] at h1';obtain ⟨rfl,rfl,rfl⟩:=h1';have hnm:len≤m:=by rw [hm];split<;>omega
  obtain ⟨l,hl,hp⟩:=GB (p:=fun i a=>W.cells? base (ad.add (i*3)) 3=some a.cells∧(Lit.int .i64 a.e).wf=true) len fun i hi=>by
   obtain ⟨cs,h6,h7⟩:=h5 i Xj;rw [c1] at h6;obtain ⟨a,rfl,h8⟩:=nK h7;exact ⟨a,h6,h8⟩
  refine ⟨some ad,len,cap,l,rfl,⟨by rw [dY NR.len,hl],fun _=>⟨ad,rfl,fun j u hu=> ?_⟩⟩,fun a ha=> ?_⟩
  ·have hj:j/3<l.length:=by
    have:=(XE.1 hu).1;rw [dY NR.len] at this;omega
   obtain ⟨x,hx⟩:=ak hj;have h6:=qo NR.len hx;have h7:(x.cells)[j % 3]?=some u:=by
    rw [←h6,YL,Xo Xj,Y4,show j/3*3+j % 3=j by omega];exact hu
   have h8:=(World.cells?_some (hp _ _ hx).1).2.2 (j % 3) Xj;rw [h7,jU,show j/3*3+j % 3=j by omega] at h8;exact h8
  ·obtain ⟨i,hi⟩:=YJ.1 ha;exact bounds_i64 (hp i a hi).2
theorem AL (h:laidMetH Tryz.prog Rows.bernValuesRow.laid W):dN W:=by
 rw [MakeChecks.laidMetH_plain _ _ _ Xl] at h;obtain ⟨ps,⟨g,t,cs,fuel,p,q,hg,ht,hv,hd,_,_⟩,_,_⟩:=h;obtain rfl:=Yd ((show Tryz.prog.globalNamed "math/bits.deBruijn64tab" =some 0 by kernel_rfl).symm.trans hg);obtain rfl:=Yd ((show (Tryz.prog.globals[0]?).map (·.type)=some 204 by kernel_rfl).symm.trans ht);obtain ⟨xs,m,_,ex,_,hl,hel⟩:=DataW.trod_array Tryz.underlying204 hd;have c5:Tryz.prog.cellsOf 5=1:=by kernel_rfl
 have e3:(xs.map (·.1))=Ey.map fun n=>.lit (.int .u8 n):=(DataW.agg.inj (Prod.mk.inj ex).1).symm;have hlen:Ey.length=64:=by decide
 intro r u hu;have hr:r<64:=by
  have:=(XE.1 hu).1;rw [cV] at this;omega
 have hE:=hel r hr;rw [c5,XK,YI Xj] at hE;obtain ⟨z,e1,e2,_⟩:=DataW.trod_int Tryz.underlying5 hE;have e4:(xs.map (·.1))[r]?=(Ey.map fun (n:Nat)=>(DataW.lit (.int .u8 n):DataW Unit))[r]?:=by rw [e3]
 rw [Xx,Xx,YI (by omega:r<xs.length),YI (by omega:r<Ey.length),e2] at e4;have hz:u=.int .u8 z:=by
  rw [gI,Xx,YI (by omega:r<Ey.length)] at hu;simp only [Za,Y9,DataW.lit.injEq,Lit.int.injEq,true_and] at e4 hu;rw [←hu,e4]
 rw [eS,XJ,World.var?_cell hg hv r,hz];have:cs.toList[r]?=some (.int .u8 z):=by
  have h0:((cs.toList.drop r).take 1)[0]?=some (.int .u8 z):=by rw [e1];rfl
  simpa using h0
 simpa using this
variable {P:Program}{α:Type}
theorem ux {α:Type}{p:Nat→α→Prop}:∀(n:Nat),(∀i,i<n→∃a,p i a)→∃l:List α,l.length=n∧∀i a,l[i]?=some a→p i a
 |0,_=>⟨[],rfl,fun i a h=>by simp at h⟩
 |n+1,h=>by
  obtain ⟨l,h1,h2⟩:=ux n fun i hi=>h i Xj;exact Uw
theorem IL {f:α→List Value}{p:α→Prop}{sz:Nat}{t e:TypeId}{H:Type}{enc:TypeId×Value→H}{r:Reach}{sp:Nat→Bool}{v:Value}{d:DataW H}{ps:List MemPlace}
  (hf:∀x,(f x).length=sz) (h0:0<sz) (ht:P.underlying t=some (.slice e)) (hc:P.cellsOf e=sz) (one:∀fuel cs x,DataW.trod enc P W base sp held fuel e cs=some x→∃a,cs=f a∧p a)
  (hval:Value.okWide P W r b0 t v) (hd:DataW.Trod enc P W base sp held t v d ps):∃(A:Option Addr) (n c:Nat) (l:List α),v=.slice A n c∧Sl W A n sz (ay f l)∧∀a∈l,p a:=by
 obtain ⟨a,len,cap,rfl⟩:=okWide_slice ht hval;obtain ⟨fuel,hfu⟩:=hd
 rcases Go.Deep.open_slice ht hfu with ⟨h1,_⟩|⟨ad,n,cp,m,k,D,Pl,h1,_,h2,h3,hm,_,h5⟩
 ·have h1':[Value.slice a len cap]=[.slice none 0 0]:=h1;simp only [aaJ,Value.slice.injEq,and_true] at h1';obtain ⟨rfl,rfl,rfl⟩:=h1';exact ⟨none,0,0,[],rfl,Sl.nil W none sz,fun _ h=>by simp at h⟩
 ·have h1':[Value.slice a len cap]=[.slice (some ad) n cp]:=h1;simp only [aaJ,Value.slice.injEq,and_true] at h1';obtain ⟨rfl,rfl,rfl⟩:=h1';have hnm:len≤m:=by rw [hm];split<;>omega
  obtain ⟨l,hl,hp⟩:=ux (p:=fun i a=>W.cells? base (ad.add (i*sz)) sz=some (f a)∧p a) len fun i hi=>by
   exact P2
  refine ⟨some ad,len,cap,l,rfl,⟨by rw [dY hf,hl],fun _=>⟨ad,rfl,fun j u hu=> ?_⟩⟩,fun a ha=> ?_⟩
  ·exact TW
  ·obtain ⟨i,hi⟩:=YJ.1 ha;exact (hp i a hi).2
variable {c:Nat}
def IC (z:Int):List Value:=[.int .i64 z]
theorem EF {f:α→List Value}{p:α→Prop}{sz:Nat}{t e:TypeId}{H:Type}{enc:TypeId×Value→H}{sp:Nat→Bool}{x:DataW H×List MemPlace}
  (hf:∀x,(f x).length=sz) (h0:0<sz) (ht:P.underlying t=some (.slice e)) (hc:P.cellsOf e=sz) (one:∀fuel cs x,DataW.trod enc P W base sp held fuel e cs=some x→∃a,cs=f a∧p a)
  (hfu:DataW.trod enc P W base sp held fuel t cs=some x):∃(A:Option Addr) (n c:Nat) (l:List α),cs=[.slice A n c]∧Sl W A n sz (ay f l)∧∀a∈l,p a:=by
 rcases Go.Deep.open_slice ht hfu with ⟨h1,_⟩|⟨ad,n,cp,m,k,D,Pl,h1,_,h2,h3,hm,_,h5⟩
 ·exact ⟨none,0,0,[],h1,Sl.nil W none sz,fun _ h=>by simp at h⟩
 ·have hnm:n≤m:=by rw [hm];split<;>omega
  obtain ⟨l,hl,hp⟩:=ux (p:=fun i a=>W.cells? base (ad.add (i*sz)) sz=some (f a)∧p a) n fun i hi=>by
   exact P2
  refine ⟨some ad,n,cp,l,h1,⟨by rw [dY hf,hl],fun _=>⟨ad,rfl,fun j u hu=> ?_⟩⟩,fun a ha=> ?_⟩
  ·exact TW
  ·obtain ⟨i,hi⟩:=YJ.1 ha;exact (hp i a hi).2
theorem xD {t e:TypeId}{H:Type}{enc:TypeId×Value→H}{sp:Nat→Bool}{A:Option Addr}{x:DataW H×List MemPlace}
  (ht:P.underlying t=some (.slice e)) (hfu:DataW.trod enc P W base sp held fuel t [.slice A n c]=some x):n≤c:=by
 rcases Go.Deep.open_slice ht hfu with ⟨h1,_⟩|⟨ad,n',cp,m,k,D,Pl,h1,_,h2,_⟩
 ·injection h1 with h1
  injection h1 with _ e2 e3
  omega
 ·injection h1 with h1
  injection h1 with _ e2 e3
  omega
theorem ME {l:List Int} (h:l.all cH=true):ints (l.map zU)=l:=by
 induction l with
 |nil=>rfl
 |cons x l ih=>
  simp only [List.all_cons,XF] at h;have h1:((zU x).toNat:Int)=x:=by
   have:=tp h.1;injection this with _ this
   exact this.symm
  have:=ih h.2;simp only [ints,XQ,h1];congr 1
theorem Jg {l:List Int} (h:l.all cH=true):eK (l.map zU)=true:=by
 rw [eK,XI];intro c hc;obtain ⟨x,hx,rfl⟩:=XG.1 hc;have h1:=XI.1 h x hx;have:=tp h1;injection this with _ this
 simp only [cH,XF,XN] at h1;simp only [XN];omega
theorem MU {a:List UInt8} (h:eK a=true):(ints a).all cH=true:=by
 rw [XI];intro x hx;obtain ⟨c,hc,rfl⟩:=XG.1 hx;have:=XI.1 h c hc;simp only [XN] at this;simp only [cH,XF,XN];omega
theorem xr {f:Int→Int→Int}{a b:List UInt8}{l:List Int} (h:jv f a b=some l):eK a=true∧eK b=true∧b.length=a.length∧l=List.zipWith f (ints a) (ints b):=by
 unfold jv at h;split at h
 ·rename_i hc;simp only [XF,XN] at hc;injection h with h
  exact ⟨hc.1,hc.2.1,Xj,h.symm⟩
 ·cases h
theorem Oe {f:Int→Int→Int}{a b:List UInt8} (h1:eK a=true) (h2:eK b=true) (h3:b.length=a.length):jv f a b=some (List.zipWith f (ints a) (ints b)):=by
 unfold jv;rw [Xo (by simp [h1,h2,h3])]
theorem nQ {a c:List UInt8} (h:(mulL a c).2=0):eK a=true∧eK c=true∧c.length=a.length∧eK (mulL a c).1=true∧ints (mulL a c).1=List.zipWith (· + ·) (ints a) (ints c):=by
 unfold mulL at h ⊢;split
 ·rename_i l hl;rw [hl] at h;simp only at h ⊢;obtain ⟨h1,h2,h3,h4⟩:=xr hl;by_cases hc:l.all cH=true
  ·rw [(pV hc).1];exact ⟨h1,h2,h3,Jg hc,by rw [ME hc,h4]⟩
  ·simp [On,hc] at h
 ·rename_i hl;rw [hl] at h;simp at h
theorem Ec {a c:List UInt8} (h:(mulL a c).2=0):(mulL a c).1.length=a.length:=by
 obtain ⟨_,_,h3,_,h5⟩:=nQ h;have:=Yu List.length h5;rw [dh,List.length_zipWith,dh,dh] at this;omega
structure TR where
 m:ByteArray
 c:NR
def TR.cells (t:TR):List Value:=[.string t.m,.bool t.c.neg,.string t.c.bg,.int .i64 t.c.e]
theorem TR.len (t:TR):t.cells.length=4:=rfl
theorem TR.one (t:TR):t.cells.all Value.oneCell'=true:=rfl
def jo (a b:ByteArray):Bool:=Op.bytesLess a.data.toList b.data.toList
theorem pI:∀a:List UInt8,Op.bytesLess a a=false
 |[]=>rfl
 |c::a=>by simp [Op.bytesLess,pI a]
theorem sT:∀a b c:List UInt8,Op.bytesLess a b=true→Op.bytesLess b c=true→Op.bytesLess a c=true
 |_,[],[],_,h=>by simp [Op.bytesLess] at h
 |_,_::_,[],_,h=>by simp [Op.bytesLess] at h
 |[],[],_::_,h,_=>by simp [Op.bytesLess] at h
 |_::_,[],_::_,h,_=>by simp [Op.bytesLess] at h
 |[],_::_,_::_,_,_=>rfl
 |x::a,y::b,z::c,h1,h2=>by
  simp only [Op.bytesLess,Zo,XF,XN,YA] at h1 h2 ⊢
  rcases h1 with h1|⟨rfl,h1⟩
  ·rcases h2 with h2|⟨rfl,h2⟩
   ·exact .inl (UInt8.lt_trans h1 h2)
   ·exact .inl h1
  ·rcases h2 with h2|⟨rfl,h2⟩
   ·exact .inl h2
   ·exact .inr ⟨rfl,sT a b c h1 h2⟩
theorem yo:∀a b:List UInt8,Op.bytesLess a b=false→Op.bytesLess b a=false→a=b
 |[],[],_,_=>rfl
 |[],_::_,h,_=>by simp [Op.bytesLess] at h
 |_::_,[],_,h=>by simp [Op.bytesLess] at h
 |x::a,y::b,h1,h2=>by
  simp only [Op.bytesLess,Bool.or_eq_false_iff,aaN,Z3,beq_eq_false_iff_ne] at h1 h2;have e:x=y:=by
   have a1:=h1.1;have a2:=h2.1;rw [UInt8.lt_iff_toNat_lt] at a1 a2;exact aar.1 Xj
  subst e;rw [yo a b (h1.2.resolve_left (fun h=>h rfl)) (h2.2.resolve_left (fun h=>h rfl))]
theorem gZ (a:ByteArray):jo a a=false:=pI _
theorem j4 {a b c:ByteArray} (h1:jo a b=true) (h2:jo b c=true):jo a c=true:=sT _ _ _ h1 h2
theorem qK {a b:ByteArray} (h1:jo a b=false) (h2:jo b a=false):a=b:=uR (yo _ _ h1 h2)
theorem Jm {a b:ByteArray} (h:jo a b=true):a≠b:=fun e=>by rw [e,gZ] at h;cases h
theorem Hv {a b:ByteArray} (h:jo a b=true):jo b a=false:=by
 cases h2:jo b a with
 |false=>rfl
 |true=>have:=j4 h h2;rw [gZ] at this;cases this
def tP (l:List TR):Prop:=l.Pairwise fun a b=>jo a.m b.m=true
def wS (f:ByteArray→Dyadic):List TR→Dyadic
 |[]=>0
 |t::l=>t.c.d*f t.m+wS f l
theorem nG (f:ByteArray→Dyadic) (l k:List TR):wS f (l++k)=wS f l+wS f k:=by
 induction l with
 |nil=>exact (ZF _).symm
 |cons t l ih=>rw [Xw,wS,wS,ih,Dyadic.add_assoc]
theorem Pa (f:ByteArray→Dyadic) (l:List TR) (t:TR):wS f (l++[t])=wS f l+t.c.d*f t.m:=by
 rw [nG,wS,wS,ZR]
def iJ (l:List TR) (m:ByteArray):Dyadic:=wS (fun k=>if k=m then 1 else 0) l
theorem fD (t:TR) (l:List TR) (m:ByteArray):iJ (t::l) m=(if t.m=m then t.c.d else 0)+iJ l m:=by
 show t.c.d*(if t.m=m then 1 else 0)+iJ l m=_;split
 ·rw [aai]
 ·rw [aaI]
theorem uV (m:ByteArray):iJ [] m=0:=rfl
theorem eV (l k:List TR) (m:ByteArray):iJ (l++k) m=iJ l m+iJ k m:=nG _ _ _
theorem x6 {l:List TR}{m:ByteArray} (h:∀t∈l,t.m≠m):iJ l m=0:=by
 induction l with
 |nil=>rfl
 |cons t l ih=>rw [fD,Xp (h t XB),ih fun s hs=>h s (XD _ hs),ZF]
structure Canon (l:List TR):Prop where
 sM:tP l
 nz:∀t∈l,t.c.d≠0
 nf:∀t∈l,t.c=nR t.c.d
theorem uy {t:TR}{l:List TR} (h:Canon (t::l)):Canon l:=⟨(YK.1 h.sM).2,fun s hs=>h.nz s (XD _ hs),fun s hs=>h.nf s (XD _ hs)⟩
theorem xK {t:TR}{l:List TR}{m:ByteArray} (h:tP (t::l)) (hm:m=t.m∨jo m t.m=true):∀s∈l,s.m≠m:=fun s hs e=>by
 have h1:=(YK.1 h).1 s hs
 rcases hm with rfl|hm
 ·rw [e,gZ] at h1;cases h1
 ·have:=j4 hm h1;rw [e,gZ] at this;cases this
theorem jY {t:TR}{l:List TR} (h:tP (t::l)):iJ (t::l) t.m=t.c.d:=by
 rw [fD,Xo rfl,x6 (xK h (.inl rfl)),ZR]
theorem xv {t:TR}{l:List TR}{m:ByteArray} (h:tP (t::l)) (hm:jo m t.m=true):iJ (t::l) m=0:=by
 rw [fD,Xp (fun e=>Jm hm e.symm),x6 (xK h (.inr hm)),ZF]
theorem Ad:∀{l k:List TR},Canon l→Canon k→(∀m,iJ l m=iJ k m)→l=k
 |[],[],_,_,_=>rfl
 |[],t::k,_,hk,h=>by
  have:=h t.m;rw [jY hk.sM,uV] at this;exact absurd this.symm (hk.nz t XB)
 |t::l,[],hl,_,h=>by
  have:=h t.m;rw [jY hl.sM,uV] at this;exact absurd this (hl.nz t XB)
 |t::l,s::k,hl,hk,h=>by
  have h1:jo t.m s.m=false:=by
   cases hb:jo t.m s.m with
   |false=>rfl
   |true=>
    have:=h t.m;rw [jY hl.sM,xv hk.sM hb] at this;exact absurd this (hl.nz t XB)
  have h2:jo s.m t.m=false:=by
   cases hb:jo s.m t.m with
   |false=>rfl
   |true=>
    have:=h s.m;rw [jY hk.sM,xv hl.sM hb] at this;exact absurd this.symm (hk.nz s XB)
  have em:=qK h1 h2;have ed:t.c.d=s.c.d:=by
   have:=h t.m;rw [jY hl.sM,em,jY hk.sM] at this;exact this
  have et:t=s:=by
   have a:=hl.nf t XB;have b:=hk.nf s XB;obtain ⟨m1,c1⟩:=t;obtain ⟨m2,c2⟩:=s;simp only at em ed a b;rw [em,a,b,ed]
  subst et;rw [Ad (uy hl) (uy hk) fun m=>by
   have:=h m;rw [fD,fD] at this;grind]
def pw:List TR→TR→List TR
 |[],x=>[⟨x.m,nR x.c.d⟩]
 |t::l,x=>if jo t.m x.m=true then t::pw l x else if jo x.m t.m=true then ⟨x.m,nR x.c.d⟩::t::l else ⟨x.m,nR (t.c.d+x.c.d)⟩::l
theorem Gy (f:ByteArray→Dyadic):∀(l:List TR) (x:TR),wS f (pw l x)=wS f l+x.c.d*f x.m
 |[],x=>by
  show (nR x.c.d).d*f x.m+0=0+_;rw [bI,ZR,ZF]
 |t::l,x=>by
  unfold pw;split
  ·rw [wS,Gy f l x,wS,Dyadic.add_assoc]
  ·split
   ·rw [wS,wS,bI,Dyadic.add_comm]
   ·rename_i h1 h2;have e:t.m=x.m:=qK (by simpa using h1) (by simpa using h2);rw [wS,wS,bI,e];grind
theorem vU:∀{l:List TR}{x t:TR},t∈pw l x→t∈l∨t.m=x.m
 |[],x,t,h=>.inr (by rw [XO.1 h])
 |s::l,x,t,h=>by
  unfold pw at h;split at h
  ·rcases XL.1 h with rfl|h
   ·exact .inl XB
   ·rcases vU h with h|h
    ·exact .inl (XD _ h)
    ·exact .inr h
  ·split at h
   ·rcases XL.1 h with rfl|h
    ·exact .inr rfl
    ·exact .inl h
   ·rcases XL.1 h with rfl|h
    ·exact .inr rfl
    ·exact .inl (XD _ h)
theorem Bn:∀{l:List TR}{x:TR},tP l→tP (pw l x)
 |[],x,_=>aaT _ _
 |s::l,x,h=>by
  have h1:=YK.1 h;unfold pw;split
  ·rename_i hs;refine YK.2 ⟨fun t ht=> ?_,Bn h1.2⟩
   rcases vU ht with ht|ht
   ·exact h1.1 t ht
   ·rw [ht];exact hs
  ·split
   ·rename_i hs;refine YK.2 ⟨fun t ht=> ?_,h⟩
    rcases XL.1 ht with rfl|ht
    ·exact hs
    ·exact j4 hs (h1.1 t ht)
   ·rename_i a b;have e:s.m=x.m:=qK (by simpa using a) (by simpa using b);refine YK.2 ⟨fun t ht=> ?_,h1.2⟩;show jo x.m t.m=true;rw [←e];exact h1.1 t ht
theorem E2:∀{l:List TR}{x:TR},(∀t∈l,t.c=nR t.c.d)→∀t∈pw l x,t.c=nR t.c.d
 |[],x,_,t,ht=>by rw [XO.1 ht];show nR _=nR (nR _).d;rw [bI]
 |s::l,x,h,t,ht=>by
  unfold pw at ht;split at ht
  ·rcases XL.1 ht with rfl|ht
   ·exact h t XB
   ·exact E2 (fun t ht=>h t (XD _ ht)) t ht
  ·split at ht
   ·rcases XL.1 ht with rfl|ht
    ·show nR _=nR (nR _).d;rw [bI]
    ·exact h t ht
   ·rcases XL.1 ht with rfl|ht
    ·show nR _=nR (nR _).d;rw [bI]
    ·exact h t (XD _ ht)
theorem AH:∀(l:List TR) (x:TR),(pw l x).length≤l.length+1
 |[],x=>Xr _
 |s::l,x=>by
  have:=AH l x;unfold pw;split
  ·rw [XR,XR];omega
  ·split<;>simp
theorem E7 {k:Nat}:∀{l:List TR}{x:TR},(∀t∈l,Sz k t.c.d)→Sz k x.c.d→∀t∈pw l x,Sz (k+1) t.c.d
 |[],x,_,hx,t,ht=>by rw [XO.1 ht];show Sz _ (nR _).d;rw [bI];exact hx.mono Xj
 |s::l,x,h,hx,t,ht=>by
  unfold pw at ht;split at ht
  ·rcases XL.1 ht with rfl|ht
   ·exact (h t XB).mono Xj
   ·exact E7 (fun t ht=>h t (XD _ ht)) hx t ht
  ·split at ht
   ·rcases XL.1 ht with rfl|ht
    ·show Sz _ (nR _).d;rw [bI];exact hx.mono Xj
    ·exact (h t ht).mono Xj
   ·rcases XL.1 ht with rfl|ht
    ·show Sz _ (nR _).d;rw [bI];exact (h s XB).add hx
    ·exact (h t (XD _ ht)).mono Xj
def mi (l:List TR):List TR:=l.foldl pw []
def zV (t:TR):Bool:= !decide (t.c.d=0)
def aG (l:List TR):List TR:=(mi l).filter zV
theorem jf (l:List TR) (x:TR):mi (l++[x])=pw (mi l) x:=by unfold mi;rw [aaH];rfl
theorem jt {P:List α→Prop} (h0:P []) (hs:∀l x,P l→P (l++[x])) (l:List α):P l:=by
 have:∀k:List α,P k.reverse:=fun k=>by
  induction k with
  |nil=>exact h0
  |cons x k ih=>rw [ZP];exact hs _ _ ih
 have h:=this l.reverse;rwa [ZK] at h
theorem LJ (f:ByteArray→Dyadic) (l:List TR):wS f (mi l)=wS f l:=by
 induction l using jt with
 |h0=>rfl
 |hs l x ih=>rw [jf,Gy,ih,Pa]
theorem Hq (l:List TR):tP (mi l):=by
 induction l using jt with
 |h0=>exact aaA
 |hs l x ih=>rw [jf];exact Bn ih
theorem Li (l:List TR):∀t∈mi l,t.c=nR t.c.d:=by
 induction l using jt with
 |h0=>intro t ht;cases ht
 |hs l x ih=>rw [jf];exact E2 ih
theorem HZ (l:List TR):(mi l).length≤l.length:=by
 induction l using jt with
 |h0=>exact Xr _
 |hs l x ih=>rw [jf,Xy];have:=AH (mi l) x;simp;omega
theorem Jd (l:List TR) (h:∀t∈l,Sz k t.c.d):∀t∈mi l,Sz (k+l.length) t.c.d:=by
 induction l using jt with
 |h0=>intro t ht;cases ht
 |hs l x ih=>
  rw [jf,Xy];exact E7 (k:=k+l.length) (ih fun t ht=>h t (Y7 _ ht)) ((h x (by simp)).mono Xj)
theorem II (l:List TR):∀t∈mi l,∃s∈l,s.m=t.m:=by
 induction l using jt with
 |h0=>intro t ht;cases ht
 |hs l x ih=>
  rw [jf];intro t ht
  rcases vU ht with ht|ht
  ·obtain ⟨s,hs,e⟩:=ih t ht;exact ⟨s,Y7 _ hs,e⟩
  ·exact ⟨x,by simp,ht.symm⟩
theorem wM (f:ByteArray→Dyadic) (l:List TR):wS f (l.filter zV)=wS f l:=by
 induction l with
 |nil=>rfl
 |cons t l ih=>
  rw [List.filter_cons];by_cases h:t.c.d=0
  ·rw [Xp (by unfold zV;rw [XH h];decide),ih,wS,h,Dyadic.zero_mul,ZF]
  ·rw [Xo (by unfold zV;rw [XM h];rfl),wS,wS,ih]
theorem qX (f:ByteArray→Dyadic) (l:List TR):wS f (aG l)=wS f l:=(wM f _).trans (LJ f l)
theorem sg (l:List TR) (m:ByteArray):iJ (aG l) m=iJ l m:=qX _ _
theorem DE {t:TR} (h:zV t=true):t.c.d≠0:=fun e=>by
 unfold zV at h;rw [XH e] at h
 cases h
theorem eX (l:List TR):Canon (aG l):=
 ⟨List.Pairwise.filter _ (Hq l),fun t ht=>DE (YC.1 ht).2,fun t ht=>Li l t (YC.1 ht).1⟩
theorem cz (l:List TR):(aG l).length≤l.length:=XV (aaQ _ _) (HZ l)
theorem nJ {l:List TR} (h:∀t∈l,Sz k t.c.d):∀t∈aG l,Sz (k+l.length) t.c.d:=fun t ht=>Jd l h t (YC.1 ht).1
theorem jh {l:List TR}:∀t∈aG l,∃s∈l,s.m=t.m:=fun t ht=>II l t (YC.1 ht).1
theorem ye {l k:List TR} (h:Canon k) (hc:∀m,iJ k m=iJ l m):k=aG l:=Ad h (eX l) fun m=>by rw [hc,sg]
theorem za {l k:List TR} (hc:∀m,iJ k m=iJ l m):aG k=aG l:=ye (eX k) fun m=>by rw [sg,hc]
variable {O Y l ys:List TR}
def iT (k:Nat) (l:List TR):Prop:=∀t∈l,t.c.ok∧Sz k t.c.d
theorem iT.mono (h:iT k l) (hk:k≤j):iT j l:=fun t ht=>⟨(h t ht).1,(h t ht).2.mono hk⟩
structure MD (k:Nat) (l L:List TR):Prop where
 sM:tP L
 co:∀m,iJ L m=iJ l m
 len:L.length≤l.length
 ok:iT k L
 mem:∀t∈L,∃s∈l,s.m=t.m
theorem MD.mono {L:List TR} (h:MD k l L) (hk:k≤j):MD j l L:=⟨h.sM,h.co,h.len,h.ok.mono hk,h.mem⟩
theorem MD.self (h:tP l) (hk:iT k l):MD k l l:=⟨h,fun _=>rfl,Xr _,hk,fun t ht=>⟨t,ht,rfl⟩⟩
structure Mg (k:Nat) (xs ys O X Y:List TR):Prop where
 ro:tP O
 rx:tP X
 ry:tP Y
 co:∀m,iJ O m+(iJ X m+iJ Y m)=iJ xs m+iJ ys m
 bx:∀t∈O,∀s∈X,jo t.m s.m=true
 hy:∀t∈O,∀s∈Y,jo t.m s.m=true
 len:O.length+(X.length+Y.length)≤xs.length+ys.length
 oo:iT (k+1) O
 ox:iT k X
 oy:iT k Y
 mo:∀t∈O,∃s∈xs++ys,s.m=t.m
 mx:∀t∈X,t∈xs++ys
 my:∀t∈Y,t∈xs++ys
theorem Mg.start {xs:List TR} (hx:tP xs) (hy:tP ys) (ox:iT k xs) (oy:iT k ys):Mg k xs ys [] xs ys:=
 ⟨aaA,hx,hy,fun m=>ZF _,fun t ht=>(by cases ht),fun t ht=>(by cases ht),by simp,fun t ht=>(by cases ht),ox,oy,fun t ht=>(by cases ht),fun t ht=>Y7 _ ht,fun t ht=>Y2 _ ht⟩
theorem u2 {x:TR} (h:tP O) (hx:∀t∈O,jo t.m x.m=true):tP (O++[x]):=
 List.pairwise_append.2 ⟨h,aaT _ _,fun t ht s hs=>by rw [XO.1 hs];exact hx t ht⟩
theorem uj (x:TR) (m:ByteArray):iJ [x] m=if x.m=m then x.c.d else 0:=by rw [fD,uV,ZR]
theorem eY {P:α→Prop}{O:List α}{x:α} (h:∀t∈O,P t) (hx:P x):∀t∈O++[x],P t:=fun t ht=>by
 rcases X3.1 ht with ht|ht
 ·exact h t ht
 ·rw [XO.1 ht];exact hx
theorem Mg.left {xs X:List TR}{x y:TR} (h:Mg k xs ys O (x::X) (y::Y)) (hl:jo x.m y.m=true):Mg k xs ys (O++[x]) X (y::Y):=by
 obtain ⟨ro,rx,ry,co,bx,hby,len,oo,ox,oy,mo,mx,my⟩:=h;have r1:=YK.1 rx;have r2:=YK.1 ry;refine ⟨u2 ro fun t ht=>bx t ht x XB,r1.2,ry,fun m=> ?_,eY (fun t ht s hs=>bx t ht s (XD _ hs)) fun s hs=>r1.1 s hs,eY hby fun s hs=> ?_,by simp at len ⊢;omega,eY oo ⟨(ox x XB).1,(ox x XB).2.mono Xj⟩,fun t ht=>ox t (XD _ ht),oy,eY mo ⟨x,mx x XB,rfl⟩,fun t ht=>mx t (XD _ ht),my⟩
 ·have:=co m;rw [fD x X] at this;rw [eV,uj];grind
 ·rcases XL.1 hs with rfl|hs
  ·exact hl
  ·exact j4 hl (r2.1 s hs)
theorem Mg.right {xs X:List TR}{x y:TR} (h:Mg k xs ys O (x::X) (y::Y)) (hl:jo y.m x.m=true):Mg k xs ys (O++[y]) (x::X) Y:=by
 obtain ⟨ro,rx,ry,co,bx,hby,len,oo,ox,oy,mo,mx,my⟩:=h;have r1:=YK.1 rx;have r2:=YK.1 ry;refine ⟨u2 ro fun t ht=>hby t ht y XB,rx,r2.2,fun m=> ?_,eY bx fun s hs=> ?_,eY (fun t ht s hs=>hby t ht s (XD _ hs)) fun s hs=>r2.1 s hs,by simp at len ⊢;omega,eY oo ⟨(oy y XB).1,(oy y XB).2.mono Xj⟩,ox,fun t ht=>oy t (XD _ ht),eY mo ⟨y,my y XB,rfl⟩,mx,fun t ht=>my t (XD _ ht)⟩
 ·have:=co m;rw [fD y Y] at this;rw [eV,uj];grind
 ·rcases XL.1 hs with rfl|hs
  ·exact hl
  ·exact j4 hl (r1.1 s hs)
theorem Mg.both {xs X:List TR}{x y:TR} (h:Mg k xs ys O (x::X) (y::Y)) (h1:jo x.m y.m=false) (h2:jo y.m x.m=false) (hk:k≤3999980):Mg k xs ys (O++[⟨x.m,nR (x.c.d+y.c.d)⟩]) X Y:=by
 obtain ⟨ro,rx,ry,co,bx,hby,len,oo,ox,oy,mo,mx,my⟩:=h;have r1:=YK.1 rx;have r2:=YK.1 ry;have e:=qK h1 h2;have hz:=(ox x XB).2.add (oy y XB).2;refine ⟨u2 ro fun t ht=>bx t ht x XB,r1.2,r2.2,fun m=> ?_,eY (fun t ht s hs=>bx t ht s (XD _ hs)) fun s hs=>r1.1 s hs,eY (fun t ht s hs=>hby t ht s (XD _ hs)) fun s hs=> ?_,by simp at len ⊢;omega,eY oo ⟨hz.ok Xj, ?_⟩,fun t ht=>ox t (XD _ ht),fun t ht=>oy t (XD _ ht),eY mo ⟨x,mx x XB,rfl⟩,fun t ht=>mx t (XD _ ht),fun t ht=>my t (XD _ ht)⟩
 ·have:=co m;rw [fD y Y,fD x X,←e] at this;rw [eV,uj];show iJ O m+(if x.m=m then (nR (x.c.d+y.c.d)).d else 0)+(iJ X m+iJ Y m)=_;rw [bI];grind
 ·show jo x.m s.m=true;rw [e];exact r2.1 s hs
 ·show Sz _ (nR _).d;rw [bI];exact hz
theorem Mg.done {xs X:List TR} (h:Mg k xs ys O X Y) (hd:X=[]∨Y=[]):MD (k+1) (xs++ys) (O++X++Y):=by
 obtain ⟨ro,rx,ry,co,bx,hby,len,oo,ox,oy,mo,mx,my⟩:=h;refine ⟨?_,fun m=> ?_,by simp at len ⊢;omega,fun t ht=> ?_,fun t ht=> ?_⟩
 ·rw [Ya];refine List.pairwise_append.2 ⟨ro, ?_,fun t ht s hs=> ?_⟩
  ·rcases hd with rfl|rfl
   ·exact ry
   ·rw [XZ];exact rx
  ·rcases X3.1 hs with hs|hs
   ·exact bx t ht s hs
   ·exact hby t ht s hs
 ·rw [eV,eV,eV,Dyadic.add_assoc];exact co m
 ·rcases X3.1 ht with ht|ht
  ·rcases X3.1 ht with ht|ht
   ·exact oo t ht
   ·exact ⟨(ox t ht).1,(ox t ht).2.mono Xj⟩
  ·exact ⟨(oy t ht).1,(oy t ht).2.mono Xj⟩
 ·rcases X3.1 ht with ht|ht
  ·rcases X3.1 ht with ht|ht
   ·exact mo t ht
   ·exact ⟨t,mx t ht,rfl⟩
  ·exact ⟨t,my t ht,rfl⟩
theorem MD.aG {k:Nat}{l L:List TR} (h:MD k l L):((L.filter zV).map fun t=>(⟨t.m,nR t.c.d⟩:TR))=aG l:=by
 refine ye ⟨?_,fun t ht=> ?_,fun t ht=> ?_⟩ fun m=> ?_
 ·exact List.Pairwise.map _ (fun a b hab=>hab) (List.Pairwise.filter _ h.sM)
 ·obtain ⟨s,hs,rfl⟩:=XG.1 ht;show (nR s.c.d).d≠0;rw [bI];exact DE (YC.1 hs).2
 ·obtain ⟨s,hs,rfl⟩:=XG.1 ht;show nR s.c.d=nR (nR s.c.d).d;rw [bI]
 ·have e:∀(f:ByteArray→Dyadic) (k:List TR),wS f (k.map fun t=>(⟨t.m,nR t.c.d⟩:TR))=wS f k:=fun f k=>by
   induction k with
   |nil=>rfl
   |cons t k ih=>rw [XQ,wS,wS,ih];show (nR t.c.d).d*f t.m+_=_;rw [bI]
  show wS _ _=_;rw [e,wM];exact h.co m
theorem wY (h:l.length<2):tP l:=by
 match l,h with
 |[],_=>exact aaA
 |[x],_=>exact aaT _ _
variable {K:Value→World→Prop}{ag:Bool}{by':Nat}{cp:Operand}{kc kl:IntKind}{ops:Array Oper}{pos:String}{zc:List Value}
section
variable {ro:Mode}
section
variable {P:Program}{N:Nat}{ops:Array Oper}{Q:Kq}{ρ:Rf}{w w0:World}{rest:List Oper}{H:List HE}{d:Nat}{ty:TypeId}{pos:String}{af:Array Edge}
theorem Oc (hh:Hp w0 H w) {t e:TypeId}{l:Operand}{L C:Int}{sz:Nat} (hl:ev ρ l=.int kl L) (hc:ev ρ cp=.int kc C) (hL:L=0) (hC:C=(n:Int))
  (ht:P.underlying t=some (.slice e)) (hte:cQ P e=some (sz,ag,by',zc)) (hb:by'*n≤281474976710656) (h63:n≤9223372036854775807) (hN:d<N)
  (k:∀b w',Hp w0 (.row (some ⟨b,0,none⟩) 0 n e sz []::H) w'→WL ro P N ops Q rest (cG ρ d (.slice (some ⟨b,0,none⟩) 0 n)) w'):
  WL ro P N ops Q (⟨some d,.makeSlice t l cp,ty,pos,af,none⟩::rest) ρ w:=by
 obtain ⟨i,z,dd,hi,hd,hz,hs,hby,hzc,_⟩:=dI hte;subst hL;subst hC;subst hs;have hr:=run_make (P:=P) w t e i z ht hi hz kl kc 0 n (Int.le_refl _) Xj (by rw [hby,←YB];omega) Xj;simp only [YN,Int.toNat_zero] at hr;refine aP rfl rfl hN (w':=w.alloc (.cells (madeCells z.cells (n*i.size)) e)) (v:=.slice (some ⟨w.heap.size,0,none⟩) 0 n) ?_ (k _ _ (hh.aX (show Below w.heap.size w (w.alloc (.cells (madeCells z.cells (n*i.size)) e)) from ⟨rfl,rfl,rfl,(World.grownBy_alloc w _ none).size,fun j hj=>(World.grownBy_alloc w _ none).block j hj (by simp)⟩) ?_))
 ·simp [execOp,hl,hc,hr]
 ·exact ⟨by simp,.inr ⟨w.heap.size,n,madeCells z.cells (n*i.size),rfl,Xr _,heap_alloc_new w _,Xs _,by unfold maxLen;omega,size_madeCells _ _,by simp⟩⟩
end
def iW (n sz:Nat) (cs:List Value):VP:=fun v W=>∃g:Nat,v=.slice (some ⟨g,0,none⟩) n n∧Sl W (some ⟨g,0,none⟩) n sz cs
theorem iW.ext {sz:Nat} (v:Value) (w w':World) (h:iW n sz cs v w) (hb:Below w.heap.size w w'):iW n sz cs v w':=let ⟨g,h1,h2⟩:=h;⟨g,h1,h2.ext hb⟩
section
variable {P:Program}{ρ:Rf}{w:World}
theorem N0 {d:Option Nat}{ty:TypeId}{af:Array Edge}{t e:TypeId}{l:Operand}{L C:Int}{sz:Nat} (hl:ev ρ l=.int kl L) (hc:ev ρ cp=.int kc C) (hL:L=(n:Int)) (hC:C=(n:Int))
  (ht:P.underlying t=some (.slice e)) (hte:cQ P e=some (sz,ag,by',zc)) (hzl:zc.length=sz) (hb:by'*n≤281474976710656) (h63:n≤9223372036854775807)
  (hk:∀v w2,iW n sz (eZ n zc) v w2→Below w.heap.size w w2→K v w2):OG P ops ⟨d,.makeSlice t l cp,ty,pos,af,none⟩ ρ w K:=by
 obtain ⟨i,z,dd,hi,hd,hz,hs,hby,hzc,_⟩:=dI hte;subst hL;subst hC;obtain ⟨w',hr,hown,hg⟩:=run_make_full (P:=P) w w.heap.size t e i z sz ht hi hz hs kl kc n (by rw [hby];exact hb) (by unfold maxLen;omega) (Xr _);have hzz:(madeCells z.cells (n*sz)).toList=eZ n zc:=by
  exact Tb
 rw [hzz] at hown;exact db rfl (w':=w') (v:=.slice (some ⟨w.heap.size,0,none⟩) n n) (by simp [execOp,hl,hc,hr]) (hk _ _ ⟨w.heap.size,rfl,jM hown⟩ ⟨hg.os,hg.tape,hg.output,hg.size,fun j hj=>hg.block j hj (by simp)⟩)
theorem vH (n:Nat):eZ n [.int .u8 0]=nV (List.replicate n 0):=by
 induction n with
 |zero=>rfl
 |succ n ih=>rw [eZ,ih,ZB];rfl
end
end
theorem Gn (a:ByteArray):a.toList=a.data.toList:=by
 have key:∀s:ByteArray,s.toList=s.data.toList:=fun s=>by
  exact TT
 exact key a
theorem qd (a b:ByteArray):Op.bytesLess a.toList b.toList=jo a b:=by rw [Gn,Gn];rfl
theorem Pe (a b:ByteArray):(!(Op.bytesLess a.toList b.toList||a.toList==b.toList))=jo b a:=by
 rw [qd,K6]
 cases h1:jo a b with
 |true=>rw [Hv h1];rfl
 |false=>
  cases h2:jo b a with
  |true=>rw [XM (fun e=>Jm h2 e.symm)];rfl
  |false=>rw [XH (qK h1 h2)];rfl
def Ld (x y:TR):Int:=if jo x.m y.m=true then -1 else if jo y.m x.m=true then 1 else 0
theorem DN (x y:TR) (w:World):Calls Tryz.prog 130 #[.agg #[.string x.m,.bool x.c.neg,.string x.c.bg,.int .i64 x.c.e],.agg #[.string y.m,.bool y.c.neg,.string y.c.bg,.int .i64 y.c.e]] w fun r w'=>r=.returned (.int .i64 (Ld x y))∧Below w.heap.size w w':=by
 have hh:=Hp.start w;refine aj (N:=17) (l:=[.agg #[.string x.m,.bool x.c.neg,.string x.c.bg,.int .i64 x.c.e],.agg #[.string y.m,.bool y.c.neg,.string y.c.bg,.int .i64 y.c.e]]) Tryz.func130 rfl rfl (by simp) ?_;refine sr ?_;refine cv hh [_,_,_,_] ?_;intro b2 w2 hh;refine cv hh [_,_,_,_] ?_;intro b3 w3 hh;refine vh ?_;refine bE hh 1 ?_;refine bH ?_;refine bE hh 0 ?_;refine Ir rfl rfl Xk ?_;refine aB (aa ?_);rw [qd];unfold Ld
 cases h1:jo x.m y.m with
 |true=>
  refine cT (sr (aI (aa (aw (cf (aK ?_))))));refine df ?_;exact ⟨rfl,hh.below⟩
 |false=>
  refine cF (sr (bH ?_));refine bE hh 1 ?_;refine bH ?_;refine bE hh 0 ?_;refine Hn rfl rfl Xk ?_;refine aB (aa ?_);rw [Pe]
  cases h2:jo y.m x.m with
  |true=>
   refine cT (sr (aI (aa (aw (cf (aK ?_))))));refine df ?_;exact ⟨rfl,hh.below⟩
  |false=>
   refine cF (aq (bz (ai (sr (aI (aa (aw ?_)))))));refine df ?_;exact ⟨rfl,hh.below⟩
theorem HT (x y:TR) (k:Nat) (w:World) (hT:dN w) (hx:x.c.ok∧Sz k x.c.d) (hy:y.c.ok∧Sz k y.c.d) (hk:k≤3999980):Calls Tryz.prog 131 #[.agg #[.string x.m,.bool x.c.neg,.string x.c.bg,.int .i64 x.c.e],.agg #[.string y.m,.bool y.c.neg,.string y.c.bg,.int .i64 y.c.e]] w fun r w'=>r=.returned (.agg #[.string x.m,.bool (nR (x.c.d+y.c.d)).neg,.string (nR (x.c.d+y.c.d)).bg,.int .i64 (nR (x.c.d+y.c.d)).e])∧Below w.heap.size w w':=by
 have hh:=Hp.start w;have hsum:=fun A cc w1 hT1 hS1=>fY A 2 cc [x.c,y.c] w1 hT1 hS1 (by simpa using ⟨hx.1,hy.1⟩) k (by simpa using ⟨hx.2,hy.2⟩) Xj;rw [show l4 ([x.c,y.c].map NR.d)=x.c.d+y.c.d by simp only [XQ,Ye,jA]] at hsum;refine aj (N:=14) (l:=[.agg #[.string x.m,.bool x.c.neg,.string x.c.bg,.int .i64 x.c.e],.agg #[.string y.m,.bool y.c.neg,.string y.c.bg,.int .i64 y.c.e]]) Tryz.func131 rfl rfl (by simp) ?_;refine sr ?_;refine cv hh [_,_,_,_] ?_;intro b2 w2 hh;refine cv hh [_,_,_,_] ?_;intro b3 w3 hh;refine bP hh ?_;intro b4 w4 hh;refine aa (ah ?_);refine a0 8 [[(2,none)],[(5,some 0)],[(2,none)],[(7,some 2)],[(3,none)],[(9,some 4)],[(8,some 3),(10,some 5)],[(11,some 6)]] [(7,12),(6,11),(5,10),(4,9),(3,8),(2,7),(1,6),(0,5)] hh mixed Xl ?_;refine ej ?_;refine fN 2 ?_;refine ej ?_;refine fG 2 [_,_,_] ?_;refine ej ?_;refine fG 1 [_,_,_] ?_;refine rD [_,_,_,_,_,_] ?_;refine aQ (i:=7) (Is (.agg #[.bool (nR (x.c.d+y.c.d)).neg,.string (nR (x.c.d+y.c.d)).bg,.int .i64 (nR (x.c.d+y.c.d)).e])) Is.ext ?_ ?_
 ·intro ρ1 w1 hj hR;obtain ⟨A11,c11,h11,s11⟩:=hR.1;exact aY rfl (aJ ar.out (av h11 aU)) (hsum A11 c11 _ (hT.hp hj.hp) s11) (fun _ _ hq=>⟨_,hq.1,hq.2,rfl⟩)
 refine aO ?_;intro f W hJ hV;have hb_1:=hJ.bl;obtain ⟨v12,v11,v10,v9,v8,v7,v6,v5,_⟩:=hV;obtain ⟨A11,c11,e11,f11⟩:Rows _ _ _ (f 6) W:=v11;replace hh:=hJ.hp;refine aW (bm (ae v12 (ae e11 (ae v10 (ae v9 (ae v8 (ae v7 (ae v6 (ae v5 aV))))))))) ?_;dsimp only [cd];clear e11 hJ;refine fP [_,_,_,_] ?_;refine bR hh 0 [_,_,_,_] ?_;intro ws hh;replace hh:Hp _ (.blk _ _ [_,_,_,_] _::_) _:=hh;refine aa (aw ?_);refine Nk (eC rfl (eF (vs:=[_,_,_,_]) aM.out (hh.bY (i:=0) (n:=4) rfl rfl) rfl) fJ) ?_;exact ⟨rfl,hh.below⟩
variable {N:Nat}{w:World}{ρ:Rf}
theorem di {Q:Kq}{L:Array Bool}{i d:Nat}{op:Op}{ty:TypeId}{af:Array Edge}{v:Value} (hq:NP Q) (hi:ops[i]?=some ⟨some d,op,ty,pos,af,none⟩) (hs:Region.noSelect ops=true) (hf:Region.free .any ops L i=true) (hr:(Region.ready .any ops L).contains i=true)
  (hv:∀w,(execOp (ev ρ) ⟨some d,op,ty,pos,af,none⟩).run P w=.ok (.value v) w) (hN:d<N) (h:WA P N ops Q fuel (L.setIfInBounds i true) (cG ρ d v) w):WA P N ops Q (fuel+1) L ρ w:=
 ⟨fun a hfit=>wpAny_first hi (Region.noSelect_spec hs) (fun c a w ⟨ρ',_,hq'⟩=>(hq c ρ' w hq').elim) fuel L a w (Region.free_spec hi hf) (by simpa using hr) (.inl ⟨by simp [Region.wanted],fun w=>by rw [hfit.eval];exact hv w⟩) (h.out _ (hfit.put hN v))⟩
theorem Sl.tail {A:Option Addr}{x:TR}{X:List TR} (h:Sl w A n 4 (ay TR.cells (x::X))) (h0:0<n) (hc:n≤c):Sl w (if c=1 then A else A.map (·.add (1*4))) (n-1) 4 (ay TR.cells X):=by
 have:=h.back (l:=1) Xj hc;rw [show (ay TR.cells (x::X)).drop (1*4)=ay TR.cells X from iy TR.len (x::X) 1] at this;exact this
theorem p8 (A:Option Addr) (n c:Nat) (xs:List TR) (B:Option Addr) (m c2:Nat) (ys:List TR) (k:Nat) (w:World) (hT:dN w) (hS:Sl w A n 4 (ay TR.cells xs)) (hS2:Sl w B m 4 (ay TR.cells ys)) (hc:n≤c) (hc2:m≤c2) (hn:n≤1000000) (hm:m≤1000000) (hk:k≤3999980)
  (rx:tP xs) (ry:tP ys) (ox:iT k xs) (oy:iT k ys):
  Calls Tryz.prog 129 #[.slice A n c,.slice B m c2,.func (.func 130) #[] #[],.func (.func 131) #[] #[]] w fun r w'=>∃(L:List TR) (A':Option Addr) (c':Nat),MD (k+1) (xs++ys) L∧r=.returned (.slice A' L.length c')∧Hp w [.row A' L.length c' 80 4 (ay TR.cells L)] w':=by
 have hh:=Hp.start w;have hlx:=hS.bp TR.len Xk;have hly:=hS2.bp TR.len Xk;have hnx:xs.length≤1000000:=Xj;have hny:ys.length≤1000000:=Xj;refine aj (N:=75) (l:=[.slice A n c,.slice B m c2,.func (.func 130) #[] #[],.func (.func 131) #[] #[]]) Tryz.func129 rfl rfl (by simp) ?_;refine sr (aL (aa (sr (mL (aH (mL (aH ?_)))))));refine bk ?_;refine Oc (n:=(n+m)) hh rfl rfl Xj Xj bh.out aM.out Xj Xj Xk ?_;intro b16 w16 hh;refine aL (aa (ah (ao ?_)));refine Bt [0,1,9,10,17,18,19,20,21,22,23,24,25,26,27,28,29,30,31,32,33,34,35,36,37,38,39,40,41,42,43,44,45,46,47,48,49,50,51,52,53,54,55,56,57,58,59,60,61,62,63,64,65,66,67,68,69] 0 1 9
  (fun va vb vo w'=>∃(A:Option Addr) (n c:Nat) (X:List TR) (B:Option Addr) (m c2:Nat) (Y:List TR) (O:List TR) (C:Option Addr) (co:Nat),va=.slice A n c∧vb=.slice B m c2∧vo=.slice C O.length co∧n≤c∧m≤c2∧Sl w A n 4 (ay TR.cells X)∧Sl w B m 4 (ay TR.cells Y)∧Mg k xs ys O X Y∧Hp w [.row C O.length co 80 4 (ay TR.cells O)] w')
  (fun va vb _ _=>lenOf va+lenOf vb) ?_ ?_
 ·exact ⟨A,n,c,xs,B,m,c2,ys,[],some ⟨b16,0,none⟩,n+m,rfl,rfl,rfl,hc,hc2,hS,hS2,Mg.start rx ry ox oy,hh⟩
 ·clear hh hS hS2 hlx hly hc hc2 hn hm;rintro ρ' va vb vo w' ⟨A,n,c,X,B,m,c2,Y,O,C,co,rfl,rfl,rfl,hc,hc2,hS,hS2,hmg,hh⟩;have hX:=hS.bp TR.len Xk;have hY:=hS2.bp TR.len Xk;have hlen:=hmg.len;have oX:=bT TR.one X;have oY:=bT TR.one Y;by_cases hn:n=0
  ·refine ah (sr (mL (aH ?_)));refine cj (mB ?_);refine gS (gS (gS ?_));refine ez ?_;refine aa (cF (a6 (aE (aE (bq (ai (sr (mL (mL ?_)))))))));refine cw hh (i:=0) rfl rfl rfl (hS.ext hh.below) bh.out aM.out rfl Xk ?one5 Xj Xj Xk ?kk5
   case one5=>first|rfl|assumption|exact bF _|exact oneCells_u8s _
   intro A72 c72 w72 hh;simp only [XC] at hh;refine mL ?_;refine cw hh (i:=0) rfl rfl rfl (hS2.ext hh.below) bh.out aM.out rfl Xk ?one6 Xj Xj Xk ?kk6
   case one6=>first|rfl|assumption|exact bF _|exact oneCells_u8s _
   intro A74 c74 w74 hh;simp only [XC] at hh;refine aL (aa (aw ?_));refine df ?_;have hd:=hmg.done (.inl (Y0 Xj));exact Tv
  ·by_cases hm:m=0
   ·refine ah (sr (mL (aH ?_)));refine xN ?_;refine cj ?_;refine eR ?_;refine aa (cF (a6 (aE (aE (bq (ai (sr (mL (mL ?_)))))))));refine cw hh (i:=0) rfl rfl rfl (hS.ext hh.below) bh.out aM.out rfl Xk ?one7 Xj Xj Xk ?kk7
    case one7=>first|rfl|assumption|exact bF _|exact oneCells_u8s _
    intro A72 c72 w72 hh;simp only [XC] at hh;refine mL ?_;refine cw hh (i:=0) rfl rfl rfl (hS2.ext hh.below) bh.out aM.out rfl Xk ?one8 Xj Xj Xk ?kk8
    case one8=>first|rfl|assumption|exact bF _|exact oneCells_u8s _
    intro A74 c74 w74 hh;simp only [XC] at hh;refine aL (aa (aw ?_));refine df ?_;have hd:=hmg.done (.inr (Y0 Xj));exact Tv
   ·obtain ⟨x,X,rfl⟩:∃x X',X=x::X':=by cases X with
     |nil=>exact absurd hX.symm hn
     |cons x X'=>exact ⟨x,X',rfl⟩
    obtain ⟨y,Y,rfl⟩:∃y Y',Y=y::Y':=by cases Y with
     |nil=>exact absurd hY.symm hm
     |cons y Y'=>exact ⟨y,Y',rfl⟩
    obtain ⟨ad,rfl,hr⟩:=hS.at_ Xj;obtain ⟨ad2,rfl,hr2⟩:=hS2.at_ Xj;have hxx:(x::X)[0]?=some x:=rfl;have hyy:(y::Y)[0]?=some y:=rfl;have hSt:=hS.tail Xj hc;have hSt2:=hS2.tail Xj hc2;have hsd:=fun w1=>DN x y w1;unfold Ld at hsd
    cases h1:jo x.m y.m with
    |true=>
     rw [h1,Xo rfl] at hsd;refine ah (sr (mL (aH ?_)));refine xN ?_;refine cj ?_;refine eR ?_;refine aa (cT (aq (ai (ao (ah ?_)))));refine Lt ?_;refine Nt ?_;refine fS ?_;refine ow (0) ?_;refine so [_,_,_,_] (fun _ hj=>(hr.ext hj.hp.below).recAt TR.len hxx) ?_;refine fS ?_;refine ow (0) ?_;refine so [_,_,_,_] (fun _ hj=>(hr2.ext hj.hp.below).recAt TR.len hyy) ?_;refine aO ?_;intro f W hJ hV;have hb_3:=hJ.bl;obtain ⟨v31,v30,v29,v28,v27,v26,v25,_⟩:=hV;replace hh:=hJ.hp;refine Lq ?_;dsimp only [cd];clear hJ;refine fI (hsd _) ar.out rfl rfl Xk ?_;rintro e_ w32 ⟨rfl,hb_⟩;refine ⟨_,rfl, ?_⟩;replace hh:=hh.ext hb_;refine aI (aa (ao (sr (mI ?_))));refine bf (aB (aa (cT ?_)));refine nO hh mixed fun w_ hj_=> ?_;replace hh:=hj_.hp;clear hj_;refine di (i:=6) (by repeat (first|exact cu|refine bQ ?_|refine ct ?_|refine np_scope ?_)) rfl Xl Xl Xl (fun _=>dF rfl) Xk ?_;refine di (i:=7) (by repeat (first|exact cu|refine bQ ?_|refine ct ?_|refine np_scope ?_)) rfl Xl Xl Xl (fun _=>gL (l:=1) bh.out aM.size rfl rfl Xj Xj Xj) Xk ?_
     refine di (i:=0) (by repeat (first|exact cu|refine bQ ?_|refine ct ?_|refine np_scope ?_)) rfl Xl Xl Xl (fun _=>dF rfl) Xk ?_;refine di (i:=1) (by repeat (first|exact cu|refine bQ ?_|refine ct ?_|refine np_scope ?_)) rfl Xl Xl Xl (fun _=>dF rfl) Xk ?_;refine di (i:=2) (by repeat (first|exact cu|refine bQ ?_|refine ct ?_|refine np_scope ?_)) rfl Xl Xl Xl (fun _=>fC (k:=0) bh.out aM.size rfl rfl Xj Xj) Xk ?_;refine gi (i:=3) Xl rfl ?_;refine Ka ?_;refine ff ?_;refine gi (i:=4) Xl rfl ?_;refine Cq ?_;intro b55 w55 hh;refine ff ?_;refine gi (i:=5) Xl rfl ?_;refine qM ?_;intro A56 c56 w56 hh;simp only [XC,X6] at hh;replace hh:=hh.sub (X9 _ _);refine ff ?_;refine jH 8 Xk Xl Xk Xl Xl ?_;refine aL (aL (aA (bz (bz (ai ?_)))));replace hh:=hh.sub (Xq _ XU);refine ⟨⟨_,n-1,c-1,X,some ad2,m,c2,y::Y,O++[x],A56,c56,rfl,rfl, ?_,Xj,hc2,hSt,hS2,hmg.left h1, ?_⟩,by show (n-1)+m<n+m;omega, ?_⟩
     ·show Value.slice _ (O.length+1) _=Value.slice _ (O++[x]).length _;rw [Xy]
      rfl
     ·rw [Xy,bD];exact hh
     ·exact dV
    |false=>
     cases h2:jo y.m x.m with
     |true=>
      rw [h1,h2,Xp Xk,Xo rfl] at hsd;refine ah (sr (mL (aH ?_)));refine xN ?_;refine cj ?_;refine eR ?_;refine aa (cT (aq (ai (ao (ah ?_)))));refine Lt ?_;refine Nt ?_;refine fS ?_;refine ow (0) ?_;refine so [_,_,_,_] (fun _ hj=>(hr.ext hj.hp.below).recAt TR.len hxx) ?_;refine fS ?_;refine ow (0) ?_;refine so [_,_,_,_] (fun _ hj=>(hr2.ext hj.hp.below).recAt TR.len hyy) ?_;refine aO ?_;intro f W hJ hV;have hb_3:=hJ.bl;obtain ⟨v31,v30,v29,v28,v27,v26,v25,_⟩:=hV;replace hh:=hJ.hp;refine Lq ?_;dsimp only [cd];clear hJ;refine fI (hsd _) ar.out rfl rfl Xk ?_;rintro e_ w32 ⟨rfl,hb_⟩;refine ⟨_,rfl, ?_⟩;replace hh:=hh.ext hb_;refine aI (aa (ao (sr (mI ?_))));refine bf (aB (aa (cF (sr (mI ?_)))));refine cj (aB (aa (cT ?_)));refine nO hh mixed fun w_ hj_=> ?_;replace hh:=hj_.hp;clear hj_;refine di (i:=6) (by repeat (first|exact cu|refine bQ ?_|refine ct ?_|refine np_scope ?_)) rfl Xl Xl Xl (fun _=>dF rfl) Xk ?_;refine di (i:=7) (by repeat (first|exact cu|refine bQ ?_|refine ct ?_|refine np_scope ?_)) rfl Xl Xl Xl (fun _=>gL (l:=1) bh.out aM.size rfl rfl Xj Xj Xj) Xk ?_
      refine di (i:=0) (by repeat (first|exact cu|refine bQ ?_|refine ct ?_|refine np_scope ?_)) rfl Xl Xl Xl (fun _=>dF rfl) Xk ?_;refine di (i:=1) (by repeat (first|exact cu|refine bQ ?_|refine ct ?_|refine np_scope ?_)) rfl Xl Xl Xl (fun _=>dF rfl) Xk ?_;refine di (i:=2) (by repeat (first|exact cu|refine bQ ?_|refine ct ?_|refine np_scope ?_)) rfl Xl Xl Xl (fun _=>fC (k:=0) bh.out aM.size rfl rfl Xj Xj) Xk ?_;refine gi (i:=3) Xl rfl ?_;refine Mk ?_;refine ff ?_;refine gi (i:=4) Xl rfl ?_;refine Cq ?_;intro b66 w66 hh;refine ff ?_;refine gi (i:=5) Xl rfl ?_;refine qM ?_;intro A67 c67 w67 hh;simp only [XC,X6] at hh;replace hh:=hh.sub (X9 _ _);refine ff ?_;refine jH 8 Xk Xl Xk Xl Xl ?_;refine aL (aL (aA (bz (bz (ai ?_)))));replace hh:=hh.sub (Xq _ XU);refine ⟨⟨some ad,n,c,x::X,_,m-1,c2-1,Y,O++[y],A67,c67,rfl,rfl, ?_,hc,Xj,hS,hSt2,hmg.right h2, ?_⟩,by show n+(m-1)<n+m;omega, ?_⟩
      ·show Value.slice _ (O.length+1) _=Value.slice _ (O++[y]).length _;rw [Xy]
       rfl
      ·rw [Xy,bD];exact hh
      ·exact dV
     |false=>
      rw [h1,h2,Xp Xk,Xp Xk] at hsd;have hsm:=fun w1 hT1=>HT x y k w1 hT1 (hmg.ox x XB) (hmg.oy y XB) hk;refine ah (sr (mL (aH ?_)));refine xN ?_;refine cj ?_;refine eR ?_;refine aa (cT (aq (ai (ao (ah ?_)))));refine Lt ?_;refine Nt ?_;refine fS ?_;refine ow (0) ?_;refine so [_,_,_,_] (fun _ hj=>(hr.ext hj.hp.below).recAt TR.len hxx) ?_;refine fS ?_;refine ow (0) ?_;refine so [_,_,_,_] (fun _ hj=>(hr2.ext hj.hp.below).recAt TR.len hyy) ?_;refine aO ?_;intro f W hJ hV;have hb_3:=hJ.bl;obtain ⟨v31,v30,v29,v28,v27,v26,v25,_⟩:=hV;replace hh:=hJ.hp;refine Lq ?_;dsimp only [cd];clear hJ;refine fI (hsd _) ar.out rfl rfl Xk ?_;rintro e_ w32 ⟨rfl,hb_⟩;refine ⟨_,rfl, ?_⟩;replace hh:=hh.ext hb_;refine aI (aa (ao (sr (mI ?_))));refine bf (aB (aa (cF (sr (mI ?_)))));refine cj (aB (aa (cF ?_)));refine nO hh mixed fun w_ hj_=> ?_;replace hh:=hj_.hp;clear hj_;refine di (i:=11) (by repeat (first|exact cu|refine bQ ?_|refine ct ?_|refine np_scope ?_)) rfl Xl Xl Xl (fun _=>dF rfl) Xk ?_
      refine di (i:=12) (by repeat (first|exact cu|refine bQ ?_|refine ct ?_|refine np_scope ?_)) rfl Xl Xl Xl (fun _=>gL (l:=1) bh.out aM.size rfl rfl Xj Xj Xj) Xk ?_;refine di (i:=13) (by repeat (first|exact cu|refine bQ ?_|refine ct ?_|refine np_scope ?_)) rfl Xl Xl Xl (fun _=>dF rfl) Xk ?_;refine di (i:=14) (by repeat (first|exact cu|refine bQ ?_|refine ct ?_|refine np_scope ?_)) rfl Xl Xl Xl (fun _=>gL (l:=1) bh.out aM.size rfl rfl Xj Xj Xj) Xk ?_;refine di (i:=0) (by repeat (first|exact cu|refine bQ ?_|refine ct ?_|refine np_scope ?_)) rfl Xl Xl Xl (fun _=>dF rfl) Xk ?_;refine di (i:=1) (by repeat (first|exact cu|refine bQ ?_|refine ct ?_|refine np_scope ?_)) rfl Xl Xl Xl (fun _=>dF rfl) Xk ?_;refine di (i:=2) (by repeat (first|exact cu|refine bQ ?_|refine ct ?_|refine np_scope ?_)) rfl Xl Xl Xl (fun _=>dF rfl) Xk ?_;refine di (i:=3) (by repeat (first|exact cu|refine bQ ?_|refine ct ?_|refine np_scope ?_)) rfl Xl Xl Xl (fun _=>fC (k:=0) bh.out aM.size rfl rfl Xj Xj) Xk ?_
      refine di (i:=5) (by repeat (first|exact cu|refine bQ ?_|refine ct ?_|refine np_scope ?_)) rfl Xl Xl Xl (fun _=>dF rfl) Xk ?_;refine di (i:=6) (by repeat (first|exact cu|refine bQ ?_|refine ct ?_|refine np_scope ?_)) rfl Xl Xl Xl (fun _=>fC (k:=0) bh.out aM.size rfl rfl Xj Xj) Xk ?_;refine vj (i:=4) (i2:=7) Xl rfl rfl ?_ ?_
      ·refine Ka ?_;refine ff ?_;refine gi (i:=7) Xl rfl ?_;refine Mk ?_;exact Qd
      ·refine Mk ?_;refine ff ?_;refine gi (i:=4) Xl rfl ?_;refine Ka ?_;exact Qd
variable {c':Nat}{fz:Nat×Nat}{t':TypeId}{w' w0 w1:World}
section
variable {ro:Mode}
theorem oZ {b':Nat}{t:TypeId}{sz:Nat}{A:Option Addr}{xs:List Value} (h:w.ownsRow b t sz (.slice A n c) n xs) (hb:b'≤b):w.ownsRow b' t sz (.slice A n c) n xs:=
 ⟨h.1,h.2.imp id fun ⟨g,cap,cur,h1,h2,h3⟩=>⟨g,cap,cur,h1,XV hb h2,h3⟩⟩
theorem nc {b':Nat}{x:HE} (h:x.holds b w) (hb:b'≤b):x.holds b' w:=by
 cases x with
 |blk b t cs fz=>exact ⟨XV hb h.1,h.2⟩
 |row A n c t sz xs=>exact oZ h hb
 |ob b o=>exact ⟨XV hb h.1,h.2⟩
theorem Hp.perm {H H':List HE} (h:Hp w0 H w) (hp:H.Perm H'):Hp w0 H' w:=
 ⟨h.below,fun x hx=>h.own x (hp.mem_iff.2 hx),(hp.filterMap _).nodup_iff.1 h.nd⟩
theorem Hp.eJ {H:List HE} (h:Hp w0 H w) {i sz:Nat}{A:Option Addr}{t:TypeId}{xs:List Value} (hi:H[i]?=some (.row A n c t sz xs)):n≤c:=by
 have h1:w.ownsRow w0.heap.size t sz (.slice A n c) n xs:=h.at_ hi
 rcases h1.2 with ⟨_,h3⟩|⟨g,cap,cur,h2,_,_,h5,_⟩
 ·omega
 ·injection h2 with _ _ e3
  omega
theorem Hp.join {H H2:List HE} (h:Hp w0 H w) (h2:Hp w H2 w'):Hp w0 (H2++H) w':=by
 have h':=h.ext h2.below;refine ⟨h'.below,fun x hx=> ?_, ?_⟩
 ·rcases X3.1 hx with hx|hx
  ·exact nc (h2.own x hx) h.size
  ·exact h'.own x hx
 ·rw [ZO,aac];refine ⟨h2.nd,h.nd,fun a ha b hb hab=> ?_⟩;subst hab;obtain ⟨x,hx,hxa⟩:=Yx.1 ha;obtain ⟨y,hy,hya⟩:=Yx.1 hb;have h3:=eb (h2.own x hx) hxa;have h4:=eb (h.own y hy) hya;omega
section
variable {P:Program}{N:Nat}{ops:Array Oper}{Q:Kq}{ρ:Rf}{w w0:World}{rest:List Oper}{H:List HE}{ty:TypeId}{pos:String}{af:Array Edge}
theorem OM {o:Oper}{v:Value} (hg:o.guard=none) (hd:o.dst=none)
  (hr:(execOp (ev ρ) o).run P w=.ok (.value v) w') (k:WL ro P N ops Q rest ρ w'):WL ro P N ops Q (o::rest) ρ w:=
 ⟨fun hm a hf=>wpList_plain hg fun K hK=>by
  unfold Oper.wp;rw [hf.eval,hr];show K (a.put o.dst v) w';rw [hd];exact hK _ _ (k.mr hm _ hf),
 fun a hf n=>wpListIn_plain hg fun K hK=>by
  refine ⟨fun _ _=>trivial, ?_⟩;rw [hf.eval,lJ _ hr (fun _ h=>by cases h)];show K (a.put o.dst v) w';rw [hd];exact hK _ _ (k.jO _ hf n)⟩
theorem uO {l:List α}{i:Nat}{x:α} (h:l[i]?=some x):l.set i x=l:=by
 obtain ⟨h1,rfl⟩:=XE.1 h;exact List.set_getElem_self h1
end
abbrev Hp.sz {w0 w:World}{H:List HE} (_:Hp w0 H w):Nat:=w.heap.size
theorem Jo {A:Option Addr}{sz:Nat}{t:TypeId}{xs:List Value}{cs:Array Value} (h:HE.holds base W (.row A n c t' sz xs)) (h3:W.heap[b]?=some (.cells cs t fz)) (hne:t'≠t):(HE.row A n c t' sz xs).id≠some b:=by
 intro hid
 rcases h.2 with ⟨h1,_⟩|⟨g,cap,cur,h1,_,h4,_⟩
 ·injection h1 with e1
  subst e1
  cases hid
 ·injection h1 with e1
  subst e1;obtain rfl:g=b:=Yd hid;rw [h3] at h4;injection h4 with h4
  injection h4 with _ h5
  exact hne h5.symm
theorem JJ.rB {H L:List HE}{t:TypeId} (hJ:JJ w0 H w W) (hs:Hp w0 H w) (h2:w.heap.size≤b) (h3:W.heap[b]?=some (.cells cs.toArray t (0,0))) (hb:w.heap.size≤w1.heap.size) (hL:Hp w1 L W) (hne:∀x∈L,x.id≠some b):Hp w0 (.blk b t cs (0,0)::(L++H)) W:=by
 have h1:=hs.join (⟨hJ.bl,fun x hx=>nc (hL.own x hx) hb,hL.nd⟩:Hp w L W);refine ⟨h1.below,fun x hx=> ?_, ?_⟩
 ·rcases XL.1 hx with rfl|hx
  ·exact ⟨XV hs.size h2,h3,.inr (Xr _)⟩
  ·exact h1.own x hx
 ·rw [Zk];show (b::(L++H).filterMap HE.id).Nodup;refine Zs.2 ⟨fun hm=> ?_,h1.nd⟩;obtain ⟨y,hy,hyb⟩:=Yx.1 hm
  rcases X3.1 hy with hy|hy
  ·exact hne y hy hyb
  ·have:=(eb (hs.own y hy) hyb).2;omega
theorem Pm {A A':Option Addr}{sz n' sz':Nat}{t:TypeId}{xs xs':List Value} (h:HE.holds base W (.row A n c t sz xs)) (h':HE.holds base W (.row A' n' c' t' sz' xs')) (hne:t≠t') (b:Nat) (h1:(HE.row A n c t sz xs).id=some b):(HE.row A' n' c' t' sz' xs').id≠some b:=by
 rcases h.2 with ⟨h2,_⟩|⟨g,cap,cur,h2,_,h4,_⟩
 ·injection h2 with e1
  subst e1
  cases h1
 ·injection h2 with e1
  subst e1;obtain rfl:g=b:=Yd h1;exact Jo h' h4 (fun e=>hne e.symm)
def Ic (base:Nat) (t:TypeId) (n sz:Nat) (cs:List Value):VP:=fun v W=>∃A c,v=.slice A n c∧W.ownsRow base t sz (.slice A n c) n cs
theorem Ic.ext {t:TypeId}{sz:Nat} (v:Value) (w w':World) (h:Ic base t n sz cs v w) (hb:Below w.heap.size w w'):Ic base t n sz cs v w':=let ⟨A,c,h1,h2⟩:=h;⟨A,c,h1,pq h2 hb⟩
def VO (base:Nat) (t1 t2:TypeId) (n1 s1 n2 s2:Nat) (xs1 xs2:List Value):VP:=fun v W=>∃A c B k,v=.agg #[.slice A n1 c,.slice B n2 k]∧W.ownsRow base t1 s1 (.slice A n1 c) n1 xs1∧W.ownsRow base t2 s2 (.slice B n2 k) n2 xs2
end
structure RX where
 A:Option Addr
 n:Nat
 c:Nat
 ts:List TR
def k7 (k:Nat) (l:List TR):VP:=fun v W=>∃g:RX,v=.slice g.A g.n g.c∧(g.n≤g.c∧g.ts.length=g.n∧MD k l g.ts∧Sl W g.A g.n 4 (ay TR.cells g.ts))
theorem k7.ext (v:Value) (w w':World) (h:k7 k l v w) (hb:Below w.heap.size w w'):k7 k l v w':=let ⟨g,h1,h2,h3,h4,h5⟩:=h;⟨g,h1,h2,h3,h4,h5.ext hb⟩
theorem MD.Ml {k1 k2:Nat}{l1 l2 L1 L2 L:List TR} (h1:MD k1 l1 L1) (h2:MD k2 l2 L2) (h:MD k (L1++L2) L) (hk:k≤j):MD j (l1++l2) L:=
 ⟨h.sM,fun m=>by rw [h.co,eV,h1.co,h2.co,eV],by have a:=h.len;have b:=h1.len;have c:=h2.len;rw [Xy] at a ⊢;omega,h.ok.mono hk,fun t ht=>by
  obtain ⟨s,hs,e⟩:=h.mem t ht
  rcases X3.1 hs with hs|hs
  ·obtain ⟨u,hu,e2⟩:=h1.mem s hs;exact ⟨u,Y7 _ hu,e2.trans e⟩
  ·obtain ⟨u,hu,e2⟩:=h2.mem s hs;exact ⟨u,Y2 _ hu,e2.trans e⟩⟩
theorem nh (k:Nat):∀(N:Nat) (A:Option Addr) (n c:Nat) (l:List TR) (w:World),n≤N→dN w→Sl w A n 4 (ay TR.cells l)→n≤c→n≤1000000→k+n≤3999980→iT k l→
  Calls Tryz.prog 174 #[.slice A n c,.func (.func 130) #[] #[],.func (.func 131) #[] #[]] w fun r w'=>(n<2∧r=.returned (.slice A n c)∧Below w.heap.size w w')∨(2≤n∧∃(L:List TR) (A':Option Addr) (c':Nat),MD (k+n) l L∧r=.returned (.slice A' L.length c')∧Hp w [.row A' L.length c' 80 4 (ay TR.cells L)] w')
 |0,A,n,c,l,w,hN,hT,hS,hc,hn,hk,hok=>by
  have hh:=Hp.start w;obtain rfl:n=0:=Xj;refine aj (N:=30) (l:=[.slice A 0 c,.func (.func 130) #[] #[],.func (.func 131) #[] #[]]) Tryz.func174 rfl rfl (by simp) ?_;refine sr (aL (aa (ah (sr (mL (aH ?_))))));refine bf (aa (cT (sr (mL (aL (aa (aw (aK ?_))))))));refine df ?_;exact .inl ⟨Xj,rfl,hh.below⟩
 |N+1,A,n,c,l,w,hN,hT,hS,hc,hn,hk,hok=>by
  have hh:=Hp.start w;have hl:=hS.bp TR.len Xk;by_cases h2:n<2
  ·refine aj (N:=30) (l:=[.slice A n c,.func (.func 130) #[] #[],.func (.func 131) #[] #[]]) Tryz.func174 rfl rfl (by simp) ?_;refine sr (aL (aa (ah (sr (mL (aH ?_))))));refine bf (aa (cT (sr (mL (aL (aa (aw (aK ?_))))))));refine df ?_;exact .inl ⟨h2,rfl,hh.below⟩
  ·obtain ⟨h,hhalf⟩:∃h,h=n/2:=⟨_,rfl⟩;have hh1:1≤h:=Xj;have hh2:h+h≤n:=Xj;have hh3:n≤h+h+1:=Xj;have hq:((n:Int))/2=(h:Int):=Xj;have hS1:=hS.front (m:=h) Xj;rw [show (ay TR.cells l).take (h*4)=ay TR.cells (l.take h) from jg TR.len l h] at hS1;have hS2:=hS.back (l:=h) Xj hc;rw [show (ay TR.cells l).drop (h*4)=ay TR.cells (l.drop h) from iy TR.len l h] at hS2;have o1:iT k (l.take h):=fun t ht=>hok t (YY ht);have o2:iT k (l.drop h):=fun t ht=>hok t (ZD ht);have rd:∀{A':Option Addr}{n' c':Nat}{l':List TR}{r:Ending}{w1 w':World},Sl w1 A' n' 4 (ay TR.cells l')→n'≤c'→iT k l'→((n'<2∧r=.returned (.slice A' n' c')∧Below w1.heap.size w1 w')∨(2≤n'∧∃(L:List TR) (B:Option Addr) (b:Nat),MD (k+n') l' L∧r=.returned (.slice B L.length b)∧Hp w1 [.row B L.length b 80 4 (ay TR.cells L)] w'))→∃v,r=.returned v∧Below w1.heap.size w1 w'∧k7 (k+n') l' v w':=by
    rintro A' n' c' l' r w1 w' hs hc' ho (⟨h1,rfl,hb⟩|⟨h1,L,B,b,hm,rfl,h3⟩)
    ·have e:=hs.bp TR.len Xk;exact ⟨_,rfl,hb,⟨A',n',c',l'⟩,rfl,hc',e,(MD.self (wY Xj) ho).mono Xj,hs.ext hb⟩
    ·exact ⟨_,rfl,h3.below,⟨B,L.length,b,L⟩,rfl,h3.eJ (i:=0) rfl,rfl,hm,h3.aC (i:=0) rfl⟩
   have ih1:=fun w1 (hT1:dN w1) (hb:Below w.heap.size w w1)=>nh k N A h c (l.take h) w1 Xj hT1 (hS1.ext hb) Xj Xj Xj o1;have ih2:=fun w1 (hT1:dN w1) (hb:Below w.heap.size w w1)=>nh k N _ (n-h) (c-h) (l.drop h) w1 Xj hT1 (hS2.ext hb) Xj Xj Xj o2;refine aj (N:=30) (l:=[.slice A n c,.func (.func 130) #[] #[],.func (.func 131) #[] #[]]) Tryz.func174 rfl rfl (by simp) ?_;refine sr (aL (aa (ah (sr (mL (aH ?_))))));refine bf (aa (cF (aq (ai (sr (mL (aH ?_)))))));refine oe ?_;refine aI (aa (ah ?_));rw [hq];refine a0 14 [[(0,none)],[(7,none)],[(15,some 0),(16,some 1)],[(1,none)],[(2,none)],[(17,some 2),(18,some 3),(19,some 4)],[(0,none)],[(7,none)],[(21,some 6),(22,some 7)],[(1,none)],[(2,none)],[(23,some 8),(24,some 9),(25,some 10)],[(1,none)],[(2,none)]] [(13,28),(12,27),(11,26),(10,25),(9,24),(8,23),(7,22),(6,21),(5,20),(4,19),(3,18),(2,17),(1,16),(0,15)] hh mixed Xl ?_;refine fS ?_;refine dJ ?_;refine bj (i:=2) (fun ρ1 w1 hj hR=>qE (h:=h) bh.out aM.size (show ρ1 15=Value.slice _ _ _ from hR.1) (show ρ1 16=Value.int _ _ from hR.2.1) Xj Xj) ?_;refine Nt ?_;refine Nt ?_
   refine aQ (i:=5) (k7 (k+h) (l.take h)) (k7.ext) ?_ ?_
   ·intro ρ1 w1 hj hR;exact aY rfl (aJ ar.out (av (show ρ1 17=Value.slice _ _ _ from hR.1) (av (show ρ1 18=Value.func _ _ _ from hR.2.1) (av (show ρ1 19=Value.func _ _ _ from hR.2.2.1) aU)))) (ih1 w1 (hT.hp hj.hp) hj.hp.below) (fun _ _ hq=>rd (hS1.ext hj.hp.below) Xj o1 hq)
   refine fS ?_;refine dJ ?_;refine bj (i:=8) (fun ρ1 w1 hj hR=>gL (l:=h) bh.out aM.size (show ρ1 21=Value.slice _ _ _ from hR.1) (show ρ1 22=Value.int _ _ from hR.2.1) Xj Xj Xj) ?_;refine Nt ?_;refine Nt ?_;refine aQ (i:=11) (k7 (k+(n-h)) (l.drop h)) (k7.ext) ?_ ?_
   ·intro ρ1 w1 hj hR;exact aY rfl (aJ ar.out (av (show ρ1 23=Value.slice _ _ _ from hR.1) (av (show ρ1 24=Value.func _ _ _ from hR.2.1) (av (show ρ1 25=Value.func _ _ _ from hR.2.2.1) aU)))) (ih2 w1 (hT.hp hj.hp) hj.hp.below) (fun _ _ hq=>rd (hS2.ext hj.hp.below) Xj o2 hq)
   refine Nt ?_;refine Nt ?_;refine aO ?_;intro f W hJ hV;have hb_4:=hJ.bl;obtain ⟨v28,v27,v26,v25,v24,v23,v22,v21,v20,v19,v18,v17,v16,v15,_⟩:=hV;obtain ⟨g20,e20,o20⟩:k7 (k+h) (l.take h) (f 5) W:=v20;obtain ⟨g26,e26,o26⟩:k7 (k+(n-h)) (l.drop h) (f 11) W:=v26;replace hh:=hJ.hp;refine aW (bm (ae v28 (ae v27 (ae e26 (ae v25 (ae v24 (ae v23 (ae v22 (ae v21 (ae e20 (ae v19 (ae v18 (ae v17 (ae v16 (ae v15 aV))))))))))))))) ?_;dsimp only [cd];clear e20 e26 hJ;obtain ⟨p1,p2,p3,p4⟩:=o20;obtain ⟨q1,q2,q3,q4⟩:=o26;have l1:=p3.len;have l2:=q3.len;rw [XP] at l1;rw [Yz] at l2;refine aF (p8 g20.A g20.n g20.c g20.ts g26.A g26.n g26.c g26.ts (k+(n-h)) _ (hT.hp hh) p4 q4 p1 q1 Xj Xj Xj p3.sM q3.sM (p3.ok.mono Xj) (q3.ok.mono Xj)) ar.out rfl Xk ?_;rintro e_ w29 ⟨L,A',c',hm,rfl,h3⟩;refine ⟨_,rfl, ?_⟩;replace hh:=hh.join h3;refine aL (aa (aw ?_));refine df ?_;refine .inr ⟨Xj,L,A',c', ?_,rfl,hh⟩;have:=p3.Ml q3 hm (j:=k+n) Xj;rwa [Yg] at this
variable {news:List Value}{o:Nat}
section
variable {ro:Mode}
theorem Hl {t:TypeId}{sz p g:Nat}{xs:List Value} (h:w.ownsRow b t sz (.slice (some ⟨g,0,none⟩) n c) n xs) (hp:p≤n):w.ownsRow b t sz (.slice (some ⟨g,0,none⟩) p c) p (xs.take (p*sz)):=by
 have hps:p*sz≤n*sz:=Yr _ hp;have hl:(xs.take (p*sz)).length=p*sz:=by rw [XP,h.1];omega
 refine ⟨hl, ?_⟩
 rcases h.2 with ⟨h1,_⟩|⟨g',cap,cur,hv,hg,hheap,hmc,hcm,hcur,htake⟩
 ·cases h1
 ·injection hv with hA _ hcap
  injection hA with hA
  injection hA with hA
  subst hA;subst hcap;refine .inr ⟨g,c,cur,rfl,hg,hheap,Xj,hcm,hcur, ?_⟩;rw [←htake,aan,Ys hps]
section
variable {P:Program}{N:Nat}{ops:Array Oper}{Q:Kq}{ρ:Rf}{w w0:World}{rest:List Oper}{H:List HE}{ty d:Nat}{pos:String}{af:Array Edge}
theorem wD (hh:Hp w0 H w) {t e:TypeId}{s x:Operand}{i p sz g:Nat}{a:Addr}{xs:List Value} (hi:H[i]?=some (.row (some ⟨g,0,none⟩) n c e sz xs)) (hs:ev ρ s=.slice (some ⟨g,0,none⟩) p c) (hx:ev ρ x=.slice (some a) m c')
  (hp:p≤n) (hpm:p+m≤c) (hl:news.length=m*sz) (hr:∀j u,news[j]?=some u→w.cell? (a.add j)=some u) (h1:(news.all Value.oneCell')=true) (ht:P.underlying t=some (.slice e)) (hte:cQ P e=some (sz,ag,by',zc)) (hN:d<N)
  (k:∀w',Hp w0 (H.set i (.row (some ⟨g,0,none⟩) (p+m) c e sz (xs.take (p*sz)++news))) w'→WL ro P N ops Q rest (cG ρ d (.slice (some ⟨g,0,none⟩) (p+m) c)) w'):
  WL ro P N ops Q (⟨some d,.call ⟨.builtin .append, #[s,x], #[t,t]⟩,ty,pos,af,none⟩::rest) ρ w:=by
 obtain ⟨inf,z,dd,hinf,hd,hz,hsz,hby,hzc,_⟩:=dI hte;obtain ⟨w',hrun,hown,hg⟩:=run_append_fits (P:=P) w w0.heap.size t ty e inf sz ht hinf hsz g p c _ (Hl (hh.at_ hi) hp) a m c' news hl hr (by simpa using h1) hpm;refine aP rfl rfl hN (w':=w') (v:=.slice (some ⟨g,0,none⟩) (p+m) c) ?_ (k w' (hh.grown hi hg (.inl rfl) hown));simp only [execOp,resolve,invoke,builtin,Sem.run_bind,Sem.run_pure,Result.andThen_ok,aax,XQ,Ye,hs,hx,hrun]
theorem qO (hh:Hp w0 H w) {t e:TypeId}{x:Operand}{i p sz g:Nat}{xs:List Value} (hi:H[i]?=some (.row (some ⟨g,0,none⟩) p c e sz xs)) (hx:ev ρ x=.slice (some ⟨g,o,none⟩) m c') (ho:p*sz≤o) (hom:o+m*sz≤c*sz) (hm:0<m)
  (ht:P.underlying t=some (.slice e)) (hte:cQ P e=some (sz,ag,by',zc)) (hzl:zc.length=sz) (h1:(zc.all Value.oneCell')=true)
  (k:∀w',Hp w0 H w'→WL ro P N ops Q rest ρ w'):WL ro P N ops Q (⟨none,.call ⟨.builtin .clear, #[x], #[t]⟩,ty,pos,af,none⟩::rest) ρ w:=by
 obtain ⟨z,hz,hzc⟩:=dx (w:=w) hte;obtain ⟨hlen,h2⟩:=hh.at_ hi
 rcases h2 with ⟨h2,_⟩|⟨g',cap,cur,hv,hg,hheap,hmc,hcm,hcur,htake⟩
 ·cases h2
 ·injection hv with hA hn hcap
  injection hA with hA
  injection hA with hA
  subst hA;subst hcap;have hcl:cur.size=cur.toList.length:=by simp
  have hzr:(eZ m zc).length=m*sz:=by rw [mY,hzl]
  have hall:∀v∈eZ m zc,v.oneCell'=true:=fun v hv=>by
   obtain ⟨j,hj⟩:=YJ.1 hv;have hj2:=(XE.1 hj).1;rw [mY] at hj2;rw [yN m zc j hj2] at hj;exact XI.1 h1 v (Xt hj)
  obtain ⟨w',hr,hb',hgr,hs⟩:=gG (P:=P) (b:=g) (t:=e) (fz:=(0,0)) o (eZ m zc) 0 cur.toList w (by simpa using hheap) (.inr (Xr _)) (by rw [←hcl,hzr];omega) hall;have hset:=uO hi;refine OM rfl rfl (w':=w') (v:=.tuple #[]) ?_ (k w' (hset ▸ hh.grown hi hgr (.inl rfl) ⟨hlen,.inr ⟨g,c,(cm cur.toList (o+0) (eZ m zc)).toArray,rfl,hg,by simpa using hb',hmc,hcm, ?_, ?_⟩⟩))
  ·simp only [execOp,resolve,invoke,hx,aax,XQ,Ye];have hzz:Builtin.zeroCells z.cells m=(eZ m zc).toArray:=by
    rw [Builtin.zeroCells,hzc,ZL];exact uY m zc
   obtain ⟨q,rfl⟩:∃q,m=q+1:=⟨m-1,Xj⟩;simp [builtin,Builtin.clear_,run_underlying ht,hz,hzz,hr]
  ·simp only [ZL];rw [fw (by rw [←hcl,hzr];omega),←hcl,hcur]
  ·simp only [cm];rw [Ya,aaX (by rw [XP,←hcl];omega),aan,Ys Xj];exact htake
end
end
section
variable {ro:Mode}
section
variable {P:Program}{N:Nat}{ops:Array Oper}{Q:Kq}{ρ:Rf}{w w0:World}{rest:List Oper}{d:Nat}{ty:TypeId}{pos:String}{af:Array Edge}
theorem tu {t e u:TypeId}{x y:Operand}{A:Option Addr}{n':Nat} (ht:P.underlying t=some (.slice e)) (hx:ev ρ x=.slice A n c) (hy:ev ρ y=.slice none n' c') (hN:d<N)
  (kk:WL ro P N ops Q rest (cG ρ d (.bool A.isNone)) w):WL ro P N ops Q (⟨some d,.binOp .eql t x y u,ty,pos,af,none⟩::rest) ρ w:=
 aP rfl rfl hN (by
  have h1:=Go.Lib.run_eql_slice_nil (P:=P) w t e A n c n' c' ht;simp only [execOp,hx,hy];simp [eqGuard,h1]) kk
end
end
variable {Hr:List HE}
theorem uE (A:Option Addr) (n c:Nat) (l:List TR) (g:FuncId) (cap:List Value) (p:TR→Bool) (w:World) (hS:Sl w A n 4 (ay TR.cells l)) (hn:n≤1000000) [ar Tryz.prog g]
  (hg:∀(z:TR) (w1:World),z∈l→Below w.heap.size w w1→Calls Tryz.prog g (.agg #[.string z.m,.bool z.c.neg,.string z.c.bg,.int .i64 z.c.e]::cap).toArray w1 fun r w'=>r=.returned (.bool (p z))∧Below w1.heap.size w1 w'):
  Calls Tryz.prog 176 #[.slice A n c,.func (.func g) #[] cap.toArray] w fun r w'=>∃v,r=.returned (.int .i64 v)∧((l.any p=false∧v= -1)∨∃(i:Nat) (z:TR),i<n∧v=i∧(l.take i).any p=false∧l[i]?=some z∧p z=true)∧Below w.heap.size w w':=by
 have hh:=Hp.start w;have hln:=hS.bp TR.len Xk;refine aj (N:=19) (l:=[.slice A n c,.func (.func g) #[] cap.toArray]) Tryz.func176 rfl rfl (by simp) ?_;refine Bx ?_;refine aR [4,5,8,9,10,11,12,13,14,15,16,17,18] 8
  (fun v w'=>∃i:Nat,i≤n∧v=.int .i64 i∧(l.take i).any p=false∧Hp w [] w')
  (fun v _=>n-(intOf v).toNat) ?_ ?_
 ·exact ⟨0,Xs _,rfl,rfl,hh⟩
 ·clear hh;rintro ρ' v w' ⟨i,hi,rfl,hall,hh⟩;by_cases hlt:i<n
  ·obtain ⟨z,hz⟩:=ak (l:=l) (k:=i) Xj;obtain ⟨ad,rfl,hr⟩:=hS.at_ Xj;have hc:=fun w1=>hg z w1 (Xt hz)
   cases gz:p z with
   |true=>
    rw [gz] at hc;refine sr ?_;refine sv ?_;refine iQ ?_;refine mL (mI ?_);refine cx ?_;refine cq (vs:=[_,_,_,_]) aM.out rfl ((hr.ext hh.below).recAt TR.len hz) rfl Xk ?_;refine fI (hc _ hh.below) ar.out rfl rfl Xk ?_;rintro e_ w16 ⟨rfl,hb_⟩;refine ⟨_,rfl, ?_⟩;replace hh:=hh.ext hb_;refine aa (cT (sr (mI (aI (aa (aw (cf (aK (aK (cf (aK ?_)))))))))));refine df ?_;exact ⟨_,rfl,.inr ⟨i,z,hlt,rfl,hall,hz,gz⟩,hh.below⟩
   |false=>
    rw [gz] at hc;refine sr ?_;refine sv ?_;refine iQ ?_;refine mL (mI ?_);refine cx ?_;refine cq (vs:=[_,_,_,_]) aM.out rfl ((hr.ext hh.below).recAt TR.len hz) rfl Xk ?_;exact Fc
  ·rw [Xz Xj] at hall;refine sr ?_;refine EK ?_;refine df ?_;exact ⟨_,rfl,.inl ⟨hall,rfl⟩,hh.below⟩
theorem Dp (A:Option Addr) (n c:Nat) (l:List TR) (g:FuncId) (cap:List Value) (p:TR→Bool) (w:World) (hS:Sl w A n 4 (ay TR.cells l)) (hn:n≤1000000) [ar Tryz.prog g]
  (hg:∀(z:TR) (w1:World),z∈l→Below w.heap.size w w1→Calls Tryz.prog g (.agg #[.string z.m,.bool z.c.neg,.string z.c.bg,.int .i64 z.c.e]::cap).toArray w1 fun r w'=>r=.returned (.bool (p z))∧Below w1.heap.size w1 w'):
  Calls Tryz.prog 136 #[.slice A n c,.func (.func g) #[] cap.toArray] w fun r w'=>r=.returned (.bool (l.any p))∧Below w.heap.size w w':=by
 have hh:=Hp.start w;refine aj (N:=9) (l:=[.slice A n c,.func (.func g) #[] cap.toArray]) Tryz.func136 rfl rfl (by simp) ?_;refine sr (aB (aa (sr (mL ?_))));refine iQ ?_;refine aF (uE A n c l g cap p _ (hS.ext hh.below) hn hg) ar.out rfl Xk ?_;rintro e_ w7 ⟨v_,rfl,hv_,hb_⟩;refine ⟨_,rfl, ?_⟩;replace hh:=hh.ext hb_
 rcases hv_ with ⟨ha,rfl⟩|⟨i,z,hi,rfl,ht,hz,hp⟩
 ·rw [ha];exact FM
 ·rw [show l.any p=true from Zb.2 ⟨z,Xt hz,hp⟩];exact FM
theorem l6 (A:Option Addr) (n c:Nat) (l:List TR) (w:World) (hS:Sl w A n 4 (ay TR.cells l)) (hn:n≤1000000):
  Calls Tryz.prog 138 #[.slice A n c] w fun r w'=>∃A' c',r=.returned (.slice A' n c')∧w'.ownsRow w.heap.size 80 4 (.slice A' n c') n (ay TR.cells l)∧Below w.heap.size w w':=by
 have hh:=Hp.start w;have oX:=bT TR.one l
 rcases A with _|ad
 ·have hn0:n=0:=by
   exact SG
  subst hn0;have hl:l=[]:=Y0 (by have:=hS.bp TR.len Xk;omega);subst hl;refine aj (N:=8) (l:=[.slice none 0 c]) Tryz.func138 rfl rfl (by simp) ?_;exact Sg
 ·refine aj (N:=8) (l:=[.slice (some ad) n c]) Tryz.func138 rfl rfl (by simp) ?_;refine sr (aL (aa (ah (sr (mL ?_)))));refine tu bh.out rfl rfl Xk ?_;refine oJ ?_;refine Br ?_;intro b5 w5 hh;refine mL ?_;refine cw hh (i:=0) rfl rfl rfl (hS.ext hh.below) bh.out aM.out rfl Xk ?one9 Xj Xj Xk ?kk9
  case one9=>first|rfl|assumption|exact bF _|exact oneCells_u8s _
  exact J5
theorem Aw {l:List α}{i:Nat} (h:i<j) (x:α):(l.set i x).drop j=l.drop j:=by
 refine YG fun k=> ?_;rw [Y4,Y4,Zw,Xp Xj]
theorem wm {l:List α}{i:Nat} (h:i<l.length) (x:α):(l.set i x).take (i+1)=l.take i++[x]:=by
 rw [az (show (l.set i x)[i]?=some x by rw [Zw,Xo rfl,Xo h]),List.take_set_of_le (Xr _)]
theorem C5 (A:Option Addr) (n c:Nat) (l:List TR) (g:FuncId) (p:TR→Bool) (w:World) (hh:Hp w0 (.row A n c 80 4 (ay TR.cells l)::Hr) w) (hl:l.length=n) (hn:n≤1000000) [ar Tryz.prog g]
  (hg:∀(z:TR) (w1:World),z∈l→Calls Tryz.prog g (.agg #[.string z.m,.bool z.c.neg,.string z.c.bg,.int .i64 z.c.e]::[]).toArray w1 fun r w'=>r=.returned (.bool (p z))∧Below w1.heap.size w1 w'):
  Calls Tryz.prog 173 #[.slice A n c,.func (.func g) #[] #[]] w fun r w'=>r=.returned (.slice A (l.filter fun z=> !p z).length c)∧Hp w0 (.row A (l.filter fun z=> !p z).length c 80 4 (ay TR.cells (l.filter fun z=> !p z))::Hr) w':=by
 have hc:=hh.eJ (i:=0) rfl;have hsl:=hh.aC (i:=0) rfl;refine aj (N:=42) (l:=[.slice A n c,.func (.func g) #[] #[]]) Tryz.func173 rfl rfl (by simp) ?_;refine sr (aL (aa (sr (mL ?_))));refine iQ ?_;refine aF (uE A n c l g [] p _ hsl hn (fun z w1 hz _=>hg z w1 hz)) ar.out rfl Xk ?_;rintro e_ w10 ⟨v_,rfl,hv_,hb_⟩;refine ⟨_,rfl, ?_⟩;replace hh:=hh.ext hb_
 rcases hv_ with ⟨ha,rfl⟩|⟨i0,z0,hi0,rfl,ht0,hz0,hp0⟩
 ·have hf:(l.filter fun z=> !p z)=l:=aaB.2 fun z hz=>by
   have:=Zf.1 ha z hz;simpa using this
  rw [hf,hl];refine aI (aa (ah (sr (mI ?_))));refine cR (aa (cT (sr (mL (aL (aa (aw (aK ?_))))))));refine df ?_;exact ⟨rfl,hh⟩
 ·have hf0:((l.take (i0+1)).filter fun z=> !p z)=l.take i0:=by
   rw [az hz0,ZQ,aaD (by rw [hp0];decide),List.filter_nil,XZ];exact aaB.2 fun z hz=>by
    have:=Zf.1 ht0 z hz;simpa using this
  obtain ⟨g0,rfl⟩:=hh.cn (i:=0) rfl Xj;refine aI (aa (ah (sr (mI ?_))));refine cR (aa (cF (aq (ai (ah (sr (mI ?_)))))));refine bk (aI (aa (ao ?_)));refine bK [5,6,7,16,17,18,19,20,21,22,23,24,25,26,27,28,29,30,31,32,33,34,35] 5 6
   (fun v5 v6 w'=>∃(i j:Nat) (X:List TR),i<j∧j≤n∧v5=.int .i64 i∧v6=.int .i64 j∧X.length=n∧i=((l.take j).filter fun z=> !p z).length∧X.take i=((l.take j).filter fun z=> !p z)∧X.drop j=l.drop j∧Hp w0 (.row (some ⟨g0,0,none⟩) n c 80 4 (ay TR.cells X)::Hr) w')
   (fun _ v _=>n-(intOf v).toNat) ?_ ?_
  ·exact ⟨i0,i0+1,l,Xj,Xj,rfl,rfl,hl,by rw [hf0,XP];omega,hf0.symm,rfl,hh⟩
  ·clear hh;rintro ρ' v5 v6 w' ⟨i,j,X,hij,hj,rfl,rfl,hX,hi,htk,hdr,hh⟩;by_cases hlt:j<n
   ·obtain ⟨z,hz⟩:=ak (l:=l) (k:=j) Xj;have hXj:X[j]?=some z:=by
     have h1:(X.drop j)[0]?=(l.drop j)[0]?:=by rw [hdr]
     rw [Y4,Y4,YX] at h1;rw [h1,hz]
    have hgz:=fun w1=>hg z w1 (Xt hz);have hdr2:X.drop (j+1)=l.drop (j+1):=by rw [←Z9,←Z9,hdr]
    have hrl:=dY TR.len X;refine ah (sr (mI (mL (aH ?_))));refine sG ?_;refine sy ?_;refine cq (vs:=[_,_,_,_]) aM.out rfl (hh.fV (f:=TR.cells) (x:=z) (l:=X) (i:=0) rfl TR.len Xk hXj) rfl Xk ?_;refine bP hh ?_;intro b7 w7 hh;refine bR hh 0 [_,_,_,_] ?_;intro ws hh;replace hh:Hp _ (.blk _ _ [_,_,_,_] _::_) _:=hh;refine aa (sr ?_);refine iQ ?_;refine cg hh 0 [_,_,_,_] ?_
    cases hpz:p z with
    |true=>
     rw [hpz] at hgz;have hfl:((l.take (j+1)).filter fun z=> !p z)=((l.take j).filter fun z=> !p z):=by rw [az hz,ZQ,aaD (by rw [hpz];decide),List.filter_nil,XZ]
     refine fI (hgz _) ar.out rfl rfl Xk ?_;rintro e_ w28 ⟨rfl,hb_⟩;refine ⟨_,rfl, ?_⟩;replace hh:=hh.ext hb_;refine fi ?_;refine rQ ?_;refine bk (aI (aA (ai ?_)));replace hh:=hh.sub (Xv _ (Xq _ (Yo _)));refine ⟨⟨i,j+1,X,Xj,Xj,rfl,rfl,hX,by rw [hfl];exact hi,by rw [hfl];exact htk,hdr2,hh⟩,by show n-(j+1)<n-j;omega, ?_⟩;exact dV
    |false=>
     rw [hpz] at hgz;have hfl:((l.take (j+1)).filter fun z=> !p z)=((l.take j).filter fun z=> !p z)++[z]:=by rw [az hz,ZQ,aa1 (by rw [hpz];decide),List.filter_nil]
     refine fI (hgz _) ar.out rfl rfl Xk ?_;rintro e_ w28 ⟨rfl,hb_⟩;refine ⟨_,rfl, ?_⟩;replace hh:=hh.ext hb_;refine fi ?_;refine aa (cT (sr (mL (mI ?_))));refine cg hh 0 [_,_,_,_] ?_;refine fT ?_;refine bW hh (i:=1) (vs:=[_,_,_,_]) rfl rfl (iO rfl) rfl aM.out rfl Xj rfl ?_;intro ws hh;simp only [XC,X6] at hh;rw [show cm (ay TR.cells X) (i*4) [.string z.m,.bool z.c.neg,.string z.c.bg,.int .i64 z.c.e]=ay TR.cells (X.set i z) from il TR.len Xj] at hh;refine aa (al (mI ?_));refine bk (aI (aA (bz (ai (al (mI ?_))))));refine bk (aI (aA (ai ?_)));replace hh:=hh.sub (Xv _ (Xq _ (Yo _)));refine ⟨⟨i+1,j+1,X.set i z,Xj,Xj,rfl,rfl,by rw [ZG];exact hX,by rw [hfl,Xy,←hi];rfl,by rw [hfl,wm Xj,htk],by rw [Aw Xj];exact hdr2,hh⟩,by show n-(j+1)<n-j;omega, ?_⟩;exact dV
   ·obtain rfl:j=n:=Xj;rw [show l.take j=l from Xz Xj] at hi htk;have hcap:=hh.eJ (i:=0) rfl;have hp31:(if c=i then some (⟨g0,0,none⟩:Addr) else (some (⟨g0,0,none⟩:Addr)).map (·.add (i*4)))=some ⟨g0,i*4,none⟩:=by
     rw [Xp Xj];show some ((⟨g0,0,none⟩:Addr).add (i*4))=_;rw [eS,XJ]
    have htt:(ay TR.cells X).take (i*4)=ay TR.cells (l.filter fun z=> !p z):=by rw [jg TR.len,htk]
    refine ah (sr (mI (mL (aH ?_))));refine bf (aa (cF (a6 (aE (aE (bq (ai (sr (mL (mI ?_))))))))));refine aP rfl rfl Xk (gW (l:=i) (h:=j) bh.out aM.size rfl ⟨_,_,rfl,rfl⟩ rfl Xj Xj) ?_;rw [hp31];replace hh:=hh.Dv (k:=i) Xj;rw [htt] at hh;refine qO hh (i:=0) (o:=i*4) (m:=j-i) rfl rfl Xj Xj Xj bh.out aM.out rfl rfl ?_;intro w38 hh;refine aa (sr (mL (mI ?_)));refine qN (h:=i) bh.out aM.size rfl rfl Xj Xj Xk ?_;refine aL (aa (aw ?_));refine df ?_;rw [←hi];exact ⟨rfl,hh⟩
variable {E:Int}{ts:List TR}
structure PX where
 v:Int
 A:Option Addr
 n:Nat
 c:Nat
 ts:List TR
def PX.row (g:PX):HE:=.row g.A g.n g.c 80 4 (ay TR.cells g.ts)
def PX.at_ (g:PX) (w:World):Prop:=Sl w g.A g.n 4 (ay TR.cells g.ts)
theorem PX.at_.ext {g:PX} (h:g.at_ w) (hb:Below w.heap.size w w'):g.at_ w':=Sl.ext h hb
theorem PX.at_.ln {g:PX} (h:g.at_ w):g.ts.length=g.n:=Sl.bp h TR.len Xk
structure fF (E v:Int) (ts:List TR) (g:PX):Prop where
 v:g.v=if E=0 then v else 0
 ts:g.ts=if E=0 then ts else []
def PX.nil:PX:=⟨0,none,0,0,[]⟩
theorem fF.err {v:Int} (h:E≠0):fF E v ts PX.nil:=⟨by rw [Xp h];rfl,by rw [Xp h];rfl⟩
theorem Hp.D8 {H:List HE} (h:Hp w0 H w):Hp w0 (PX.nil.row::H) w:=h.cU 80 4
theorem wF (A:Option Addr) (n c:Nat) (l:List TR) (k:Nat) (w:World) (hT:dN w) (hh:Hp w0 (.row A n c 80 4 (ay TR.cells l)::Hr) w) (hl:l.length=n) (hn:n≤1000000) (hk:k+n≤3999980) (ho:iT k l):
  Calls Tryz.prog 174 #[.slice A n c,.func (.func 130) #[] #[],.func (.func 131) #[] #[]] w fun r w'=>∃(L:List TR) (A':Option Addr) (c':Nat),MD (k+n) l L∧r=.returned (.slice A' L.length c')∧Hp w0 (.row A' L.length c' 80 4 (ay TR.cells L)::Hr) w':=by
 refine (nh k n A n c l w (Xr _) hT (hh.aC (i:=0) rfl) (hh.eJ (i:=0) rfl) hn hk ho).mono fun r w' h=> ?_
 rcases h with ⟨h1,rfl,hb⟩|⟨h1,L,A',c',hm,rfl,h3⟩
 ·exact ⟨l,A,c,(MD.self (wY Xj) ho).mono Xj,by rw [hl],by rw [hl];exact hh.ext hb⟩
 ·refine ⟨L,A',c',hm,rfl, ?_⟩;exact (hh.join h3).sub (Xq _ (Xv _ (Yo _)))
def US (t:TR):Bool:=decide (t.c.d=0)
theorem Ee (l:List TR):(l.filter fun z=> !US z)=l.filter zV:=rfl
theorem yP (z:TR) (w:World):Calls Tryz.prog 175 #[.agg #[.string z.m,.bool z.c.neg,.string z.c.bg,.int .i64 z.c.e]] w fun r w'=>r=.returned (.bool (US z))∧Below w.heap.size w w':=by
 have hh:=Hp.start w;refine aj (N:=7) (l:=[.agg #[.string z.m,.bool z.c.neg,.string z.c.bg,.int .i64 z.c.e]]) Tryz.func175 rfl rfl (by simp) ?_;refine sr ?_;refine cv hh [_,_,_,_] ?_;intro b1 w1 hh;refine aB (aa (sr (bH ?_)));refine cg hh 0 [_,_,_] ?_;refine bA hh (iB z.c _) rfl ?_;intro w5 hh;have hz:z.c.i.sign=0↔z.c.d=0:=by
  rw [Int.sign_eq_zero_iff_zero];exact ⟨fun h=>by unfold NR.d;rw [h];rfl,sQ⟩
 unfold US;by_cases h0:z.c.d=0
 ·have hs:=hz.2 h0;rw [XH h0];refine cR (aB (aa (aw ?_)));refine df ?_;exact ⟨rfl,hh.below⟩
 ·have hs:¬z.c.i.sign=0:=fun h=>h0 (hz.1 h);rw [XM h0];refine cR (aB (aa (aw ?_)));refine df ?_;exact ⟨rfl,hh.below⟩
def gD (l:List TR):Int:=if 4096<(aG l).length then 3 else 0
theorem BC {xs ys:List Value}{v:Value} (h:xs[o]?=some v):cm xs o (v::ys)=cm xs (o+1) ys:=by
 unfold cm;rw [az h,XR,show o+(ys.length+1)=o+1+ys.length by omega];simp
def VQ (t:TR):TR:=⟨t.m,nR t.c.d⟩
theorem xf {X:List TR}{i:Nat}{z:TR} (h:X[i]?=some z) (y:NR):cm (ay TR.cells X) (i*4+1) [.bool y.neg,.string y.bg,.int .i64 y.e]=ay TR.cells (X.set i ⟨z.m,y⟩):=by
 have h0:(ay TR.cells X)[i*4]?=some (.string z.m):=by
  have h1:=qo TR.len h;have h2:(((ay TR.cells X).drop (i*4)).take 4)[0]?=some (.string z.m):=by rw [h1];rfl
  rwa [List.getElem?_take_of_lt Xk,Y4,YX] at h2
 rw [←BC h0];exact il TR.len (y:=⟨z.m,y⟩) (XE.1 h).1
theorem kC (v:Int) (A:Option Addr) (n c:Nat) (l:List TR) (k:Nat) (w:World) (hT:dN w0) (hh:Hp w0 (.row A n c 80 4 (ay TR.cells l)::Hr) w) (hl:l.length=n) (hn:n≤1000000) (hk:k+n≤3999980) (ho:iT k l):
  Calls Tryz.prog 132 #[.int .i64 v,.slice A n c] w fun r w'=>∃g:PX,fF (gD l) v (aG l) g∧r=.returned (.tuple #[.agg #[.int .i64 g.v,.slice g.A g.n g.c],.int .i64 (gD l)])∧Hp w0 (g.row::Hr) w':=by
 refine aj (N:=33) (l:=[.int .i64 v,.slice A n c]) Tryz.func132 rfl rfl (by simp) ?_;refine sr ?_;refine bP hh ?_;intro b4 w4 hh;refine aI (aa (sr (mL ?_)));replace hh:=hh.perm (XX (l₁:=[_]));simp only [Xw,Xu] at hh;refine aF (wF A n c l k _ (hT.hp hh) hh hl hn hk ho) ar.out rfl Xk ?_;rintro e_ w8 ⟨L,A1,c1,hmd,rfl,hh⟩;refine ⟨_,rfl, ?_⟩;have hlen:=hmd.len;refine aF (C5 A1 L.length c1 L _ US _ hh rfl Xj (fun z w1 _=>yP z w1)) ar.out rfl Xk ?_;rintro e_ w9 ⟨rfl,hh⟩;refine ⟨_,rfl, ?_⟩;rw [Ee] at hh ⊢;have hML:(L.filter zV).length≤L.length:=aaQ _ _;have hgl:(aG l).length=(L.filter zV).length:=by rw [←hmd.aG,XA]
 have hgm:=hmd.aG;have hok:iT (k+n) (L.filter zV):=fun t ht=>hmd.ok t (YC.1 ht).1;generalize hM:L.filter zV=M at*;by_cases h4:4096<M.length
 ·rw [show gD l=3 by unfold gD;rw [Xo Xj]];refine aL (aa (ah (sr (mL (aH ?_)))));refine cj (aa (cT (sr ?_)));refine fP [_,_] ?_;refine bR hh 1 [_,_] ?_;intro ws hh;replace hh:Hp _ (_::.blk _ _ [_,_] _::_) _:=hh;refine aI (aa (aw (aK ?_)));replace hh:=hh.sub (Xv _ (Xq _ (Yo _)));refine xO ?_;exact ⟨PX.nil,fF.err Xk,rfl,(hh.sub (X9 _ _)).D8⟩
 ·rw [show gD l=0 by unfold gD;rw [Xp Xj]];refine aL (aa (ah (sr (mL (aH ?_)))));refine cj (aa (cF (aq (ai (ah (sr (mL (aH (mI (aa (ao ?_)))))))))));refine aR [6,16,17,18,19,20,21,22,23,24,25,26,27,28,29] 16
   (fun v w'=>∃(i:Nat) (X:List TR),i≤M.length∧v=.int .i64 i∧X.length=M.length∧X=(M.take i).map VQ++M.drop i∧Hp w0 (.row A1 M.length c1 80 4 (ay TR.cells X)::.blk b4 24 [.int .i64 0,.slice none 0 0] (0,0)::Hr) w')
   (fun v _=>M.length-(intOf v).toNat) ?_ ?_
  ·exact ⟨0,M,Xs _,rfl,rfl,rfl,hh⟩
  ·clear hh;rintro ρ' v w' ⟨i,X,hi,rfl,hX,hXe,hh⟩;by_cases hlt:i<M.length
   ·obtain ⟨z,hz⟩:=ak (l:=M) (k:=i) Xj;have hXz:X[i]?=some z:=by
     rw [hXe,YD (by rw [XA,XP];omega),XA,XP,Ys Xj,Yq,Y4];exact hz
    have hzo:=hok z (Xt hz);have hXn:X.set i ⟨z.m,nR z.c.d⟩=(M.take (i+1)).map VQ++M.drop (i+1):=by
     rw [az hz,Yc,hXe,ZA _ _ (by rw [XA,XP];omega),XA,XP,Ys Xj,Yq,Ya];congr 1;obtain ⟨h1,h2⟩:=XE.1 hz;rw [YH h1,h2]
     rfl
    have hrl:=dY TR.len X;obtain ⟨g0,rfl⟩:=hh.cn (i:=0) rfl Xj;refine sr ?_;refine bf (aa (ah (cT (aq (ai (ah (ao (sr (mI (aI (aa (al (mL (mI (mL (mI ?_))))))))))))))));refine fT ?_;refine bH ?_;refine cq (vs:=[_,_,_]) aM.out rfl ((hh.fV (f:=TR.cells) (x:=z) (l:=X) (i:=0) rfl TR.len Xk hXz).drop 1) rfl Xk ?_;refine bA hh (eN z.c _ (hT.hp hh) (by have:=hzo.1.1;omega) (by have:=hzo.1.2.1;omega) (by have:=hzo.1.2.2;omega)) rfl ?_;intro w26 hh;refine fT ?_;refine bH ?_;refine K3 ?_;intro ws hh;simp only [XC] at hh;rw [xf hXz,hXn] at hh;refine fp ?_;refine bk (mI (aA (ai ?_)));refine ⟨⟨i+1,_,Xj,rfl, ?_,rfl,hh⟩,by show M.length-(i+1)<M.length-i;omega, ?_⟩
    ·rw [←hXn,ZG,hX]
    ·exact dV
   ·obtain rfl:i=M.length:=Xj;rw [Xz (Xr _),Zj (Xr _),XZ] at hXe;have hXg:X=aG l:=by rw [hXe];exact hgm
    rw [hXg] at hh;refine sr ?_;refine bf (aa (ah (cF (a6 (aE (aE (bq (ai (sr (mI (mL ?_)))))))))));refine fP [_,_] ?_;refine bR hh 1 [_,_] ?_;intro ws hh;replace hh:Hp _ (_::.blk _ _ [_,_] _::_) _:=hh;refine aI (aa (aw ?_));refine Gb ?_;exact ⟨⟨v,A1,M.length,c1,aG l⟩,⟨rfl,rfl⟩,rfl,hh.sub (Xq _ (Xv _ (Yo _)))⟩
theorem lM (s:ByteArray) (n:Int) (w:World) (hs:s.size≤9223372036854775807):
  Calls Tryz.prog 105 #[.string s,.int .i64 n] w fun e w'=>e=.returned (.bool (eK s.data.toList && decide ((s.size:Int)=n)))∧Below w.heap.size w w':=by
 refine aj (N:=20) (l:=[.string s,.int .i64 n]) Tryz.func105 rfl rfl (by simp) ?_;refine sr (aB (aa (ah (sr (mS ?_)))));refine bO bh.out rfl Xk ?_;refine mI (aa (ao ?_));refine aR [4,5,8,9,10,11,12,13,14,15] 8
  (fun v w'=>∃k:Nat,k≤s.size∧v=.int .i64 k∧eK (s.data.toList.take k)=true∧w'=w)
  (fun v _=>s.size-(intOf v).toNat) ?_ ?_
 ·exact ⟨0,Xs _,rfl,rfl,rfl⟩
 ·rintro ρ' v w' ⟨k,hk,rfl,hm,rfl⟩;by_cases hlt:k<s.size
  ·obtain ⟨c,hc⟩:=ak (l:=s.data.toList) (k:=k) (by rw [←dQ];exact hlt);have hb:=c.toNat_lt;by_cases h8:c.toNat<128
   ·refine sr ?_;refine bf (aa (ah (cT (aq (ai (ah (ao (sr (mI (aI (aa (sr (mS (mI ?_))))))))))))));refine j7 ?_;refine cj (aa (cF (aq (bz (ai (al ?_))))));refine bk (mI (aA (ai ?_)));refine ⟨⟨k+1,Xj,rfl,by rw [az hc,Hy,hm];simpa using h8,rfl⟩,by show s.size-(k+1)<s.size-k;omega, ?_⟩;exact dV
   ·refine sr ?_;refine bf (aa (ah (cT (aq (ai (ah (ao (sr (mI (aI (aa (sr (mS (mI ?_))))))))))))));refine j7 ?_;refine cj (aa (cT (sr (aB (aa (aw (cf (aK (aK (cf (aK ?_)))))))))));refine df ?_;rw [Jk hc h8];exact ⟨rfl,Below.refl _ _⟩
  ·refine sr ?_;refine bf (aa (ah (cF (a6 (aE (aE (bq (ai (sr (mS ?_))))))))));refine bO bh.out rfl Xk ?_;refine mI ?_;refine Ff rfl rfl Xk ?_;refine aB (aa (aw ?_));refine df ?_;rw [Xz (by rw [←dQ];omega)] at hm;rw [hm];exact ⟨rfl,Below.refl _ _⟩
theorem mQ (s:ByteArray) (w:World) (hs:s.size≤9223372036854775807):
  Calls Tryz.prog 105 #[.string s,.int .i64 s.size] w fun e w'=>e=.returned (.bool (eK s.data.toList))∧Below w.heap.size w w':=by
 have h:=lM s s.size w hs;simpa using h
theorem Ba (A:Option Addr) (n c:Nat) (xs:List Int) (w:World) (hsl:Sl w A n 1 (bu xs)) (hn:n≤100000):
  Calls Tryz.prog 134 #[.slice A n c] w fun e w'=>e=.returned (.tuple #[.string (str (MC xs)),.int .i64 (On xs)])∧Below w.heap.size w w':=by
 have hlen:xs.length=n:=by have:=hsl.1;rw [bX] at this;omega
 have hh:=Hp.start w;refine aj (N:=27) (l:=[.slice A n c]) Tryz.func134 rfl rfl (by simp) ?_;refine sr (aS (aI (aa (sr (aL (aa (ah (sr (mL (aH (mI (aa (ao ?_)))))))))))));refine bK [2,3,4,6,9,10,11,12,13,14,15,16,17,18,19,20,21,22,23,24] 4 9
  (fun b i w'=>∃(k c':Nat) (A':Option Addr),k≤n∧i=.int .i64 k∧b=.slice A' k c'∧(xs.take k).all cH=true∧Hp w [.row A' k c' 5 1 (nV ((xs.take k).map zU))] w')
  (fun _ v _=>n-(intOf v).toNat) ?_ ?_
 ·exact ⟨0,0,none,Xs _,rfl,rfl,rfl,hh.cU _ _⟩
 ·clear hh;rintro ρ' b i w' ⟨k,c',A',hk,rfl,rfl,hall,hh⟩;by_cases hlt:k<n
  ·obtain ⟨x,hx⟩:=ak (l:=xs) (k:=k) Xj;obtain ⟨ad,rfl,hr⟩:=(hsl.ext hh.below).at_ Xj;by_cases h0:x<0
   ·refine sr ?_;refine dT ?_;refine uP ?_;refine bU aM.out rfl (fk hr (ck hx) rfl) Xk ?_;refine aI (aa (ah (sr (mI ?_))));refine bf (mB ?_);refine gS (gS ?_);refine eR ?_;exact Tq
   ·by_cases h1:127<x
    ·refine sr ?_;refine dT ?_;refine uP ?_;refine bU aM.out rfl (fk hr (ck hx) rfl) Xk ?_;refine aI (aa (ah (sr (mI ?_))));refine bf (mB (gT (mI (gT ?_))));refine cj ?_;refine ez ?_;exact Tq
    ·have hok:cH x=true:=by simp [cH];omega
     refine sr ?_;refine dT ?_;refine uP ?_;refine bU aM.out rfl (fk hr (ck hx) rfl) Xk ?_;refine aI (aa (ah (sr (mI ?_))));refine bf (mB (gT (mI (gT ?_))));refine cj ?_;refine ez ?_;refine aa (cF (aq (ai (al (mL (mI ?_))))));refine vw bh.out bh.out rfl Xk ?_;refine xm ?_;intro b22 w22 hh;refine cw hh (i:=1) rfl rfl rfl (hh.aC (i:=0) rfl) bh.out aM.out rfl Xk rfl Xj Xj Xk ?_;intro A23 c23 w23 hh;simp only [XC,X6] at hh;replace hh:=hh.sub (X9 _ _);refine kM ?_;refine bk (mI (aA (ai ?_)));refine ⟨⟨k+1,c23,A23,Xj,rfl,rfl,Mr hx hall hok, ?_⟩,by show n-(k+1)<n-k;omega, ?_⟩
     ·rw [Pj Xj Xj,KO hx hok] at hh;exact hh
     ·exact dV
  ·obtain rfl:k=n:=Xj;rw [Xz Xj] at hall hh;obtain ⟨e1,e2⟩:=pV hall;refine sr ?_;refine oI ?_;refine sV bh.out bh.out bh.out rfl (hh.aC (i:=0) rfl) Xk ?_;refine aS (aI (aa (aw ?_)));refine ML ?_;rw [e1,e2];exact ⟨rfl,hh.below⟩
theorem g8 (s:ByteArray) (w:World) (hs:s.size≤100000):
  Calls Tryz.prog 47 #[.string s] w fun e w'=>∃A c,e=.returned (.slice A (iG s.data.toList).length c)∧w'.ownsRow w.heap.size 3 1 (.slice A (iG s.data.toList).length c) (iG s.data.toList).length (bu (iG s.data.toList))∧Below w.heap.size w w':=by
 have hh:=Hp.start w;have hsz:=dQ s
 cases hm:eK s.data.toList with
 |false=>
  refine aj (N:=22) (l:=[.string s]) Tryz.func47 rfl rfl (by simp) ?_;refine sr (aL (aa (ah (sr (mS (mS ?_))))));refine bO bh.out rfl Xk ?_;refine bA hh (mQ s _ Xj) rfl ?_;intro w9 hh;rw [hm];refine fi ?_;refine aa (cT (sr (aL (aa (aw (aK ?_))))));refine df ?_;rw [Mb hm];exact KK
 |true=>
  refine aj (N:=22) (l:=[.string s]) Tryz.func47 rfl rfl (by simp) ?_;refine sr (aL (aa (ah (sr (mS (mS ?_))))));refine bO bh.out rfl Xk ?_;refine bA hh (mQ s _ Xj) rfl ?_;intro w9 hh;rw [hm];refine fi ?_;refine aa (cF (aq (ai (sr (aL (aa (ah (sr (mS ?_)))))))));refine qm hh bh.out rfl Xk ?_;intro b12 w12 hh;skip;refine aa (ao ?_);refine aR [3,5,13,14,15,16,17,18,19,20] 3
   (fun v w'=>∃(k c':Nat) (A':Option Addr),k≤s.size∧v=.slice A' k c'∧Hp w [.row A' k c' 3 1 (bu (ints (s.data.toList.take k))),.it b12 s k] w')
   (fun v _=>s.size-lenOf v) ?_ ?_
  ·exact ⟨0,0,none,Xs _,rfl,hh.cU _ _⟩
  ·clear hh;rintro ρ' v w' ⟨k,c',A',hk,rfl,hh⟩;by_cases hlt:k<s.size
   ·obtain ⟨c,hc⟩:=ak (l:=s.data.toList) (k:=k) Xj;have h8:=nI hm hc;refine sr ?_;refine qg hh (i:=1) rfl rfl hc h8 Xk ?_;intro w13 hh;simp only [XC,X6] at hh;skip;refine dn ?_;refine aa (ah (cT (aq (ai (ao (sr ?_))))));refine dn ?_;refine aI (aa (al (mL (mI ?_))));refine BT ?_;refine xm ?_;intro b19 w19 hh;refine cw hh (i:=1) rfl rfl rfl (hh.aC (i:=0) rfl) bh.out aM.out rfl Xk rfl Xj Xj Xk ?_;intro A20 c20 w20 hh;simp only [XC,X6] at hh;replace hh:=hh.sub (X9 _ _);refine aL (aA (bz (ai ?_)));rw [uH hc] at hh;refine ⟨⟨k+1,c20,A20,Xj,rfl,hh⟩,by show s.size-(k+1)<s.size-k;omega, ?_⟩;exact dV
   ·refine sr ?_;refine qe hh (i:=1) rfl rfl hlt Xk ?_;skip;refine dn ?_;refine aa (ah (cF (a6 (aE (aE (bq (ai (sr (mL (aL (aa (aw ?_))))))))))));refine df ?_;obtain rfl:k=s.size:=Xj;rw [Xz Xj] at hh;have h1:=hh.at_ (i:=0) rfl;rw [jW hm,dh,←hsz];exact ⟨A',c',rfl,h1,hh.below⟩
theorem vm (a b:ByteArray) (g:FuncId) (f:Int→Int→Int) (w:World) (ha:a.size≤100000) (hb:b.size≤100000) [ar Tryz.prog g]
  (hg:∀(x y:Int) (w:World),0≤x→x≤127→0≤y→y≤127→Calls Tryz.prog g #[.int .i64 x,.int .i64 y] w fun e w'=>e=.returned (.int .i64 (f x y))∧Below w.heap.size w w'):
  Calls Tryz.prog 231 #[.string a,.string b,.func (.func g) #[] #[]] w fun e w'=>
   (jv f a.data.toList b.data.toList=none∧e=.returned (.tuple #[.slice none 0 0,.bool false])∧Below w.heap.size w w')∨
   ∃l,jv f a.data.toList b.data.toList=some l∧l.length=b.size∧∃A c,e=.returned (.tuple #[.slice A l.length c,.bool true])∧w'.ownsRow w.heap.size 3 1 (.slice A l.length c) l.length (bu l)∧Below w.heap.size w w':=by
 have hh:=Hp.start w;have hsa:=dQ a;have hsb:=dQ b
 cases hma:eK a.data.toList with
 |false=>
  refine KR ?_;refine sr (aL (aB (aa (sr (mS ?_)))));refine aF (g8 b _ hb) ar.out rfl Xk ?_;rintro e_ w12 ⟨A12,c12,rfl,hown_,hb_⟩;refine ⟨_,rfl, ?_⟩;replace hh:=hh.aX (x:=.row _ _ _ _ _ _) hb_ hown_;refine aL (aa (ah (sr (mS (mS ?_)))));refine bO bh.out rfl Xk ?_;refine bA hh (mQ a _ Xj) rfl ?_;intro w16 hh;rw [hma];refine fi ?_;refine mB ?_;refine gS (gS (gS ?_));refine gy ?_;refine gS ?_;refine eR ?_;refine aa (cT (sr (aL (aB (aa (aw (aK ?_)))))));refine ML ?_;exact .inl ⟨by simp [jv,hma],rfl,hh.below⟩
 |true=>
  cases hmb:(eK b.data.toList && decide ((b.size:Int)=a.size)) with
  |false=>
   refine KR ?_;refine sr (aL (aB (aa (sr (mS ?_)))));refine aF (g8 b _ hb) ar.out rfl Xk ?_;rintro e_ w12 ⟨A12,c12,rfl,hown_,hb_⟩;refine ⟨_,rfl, ?_⟩;replace hh:=hh.aX (x:=.row _ _ _ _ _ _) hb_ hown_;refine aL (aa (ah (sr (mS (mS ?_)))));refine bO bh.out rfl Xk ?_;refine bA hh (mQ a _ Xj) rfl ?_;intro w16 hh;rw [hma];refine fi ?_;refine mB (gT (mS (gT (mS (gT ?_)))));refine bO bh.out rfl Xk ?_;refine aD rfl rfl ?_;refine bA hh (lM b _ _ Xj) rfl ?_;intro w22 hh;rw [hmb];refine gT ?_;refine fi ?_;refine ez ?_;refine aa (cT (sr (aL (aB (aa (aw (aK ?_)))))));refine ML ?_;have:(eK b.data.toList && decide ((b.data.toList.length:Int)=a.data.toList.length))=false:=by rw [←hsa,←hsb];exact hmb
   exact .inl ⟨by simp only [jv,hma,this];rfl,rfl,hh.below⟩
  |true=>
   have hmb2:=hmb;simp only [XF,XN] at hmb2;have hbl:jv f a.data.toList b.data.toList=some (List.zipWith f (ints a.data.toList) (ints b.data.toList)):=by
    have:(eK b.data.toList && decide ((b.data.toList.length:Int)=a.data.toList.length))=true:=by rw [←hsa,←hsb];exact hmb
    simp only [jv,hma,this];rfl
   have hea:=jW hma;have heb:=jW hmb2.1;have hlab:(ints a.data.toList).length=(ints b.data.toList).length:=by rw [dh,dh];omega
   have hlb:=dh b.data.toList;have hla:=dh a.data.toList;have hA:=g8 a;have hB:=g8 b;rw [hea] at hA;rw [heb] at hB;generalize hia:ints a.data.toList=ia at*;generalize hib:ints b.data.toList=ib at*;have bda:∀(k:Nat) (x:Int),ia[k]?=some x→0≤x∧x≤127:=fun k x h=>FB (l:=a.data.toList) (by rw [hea];exact h);have bdb:∀(k:Nat) (x:Int),ib[k]?=some x→0≤x∧x≤127:=fun k x h=>FB (l:=b.data.toList) (by rw [heb];exact h);clear hea heb;refine KR ?_;refine sr (aL (aB (aa (sr (mS ?_)))));refine aF (hB _ hb) ar.out rfl Xk ?_;rintro e_ w12 ⟨A12,c12,rfl,hown_,hb_⟩;refine ⟨_,rfl, ?_⟩;replace hh:=hh.aX (x:=.row _ _ _ _ _ _) hb_ hown_;refine aL (aa (ah (sr (mS (mS ?_)))));refine bO bh.out rfl Xk ?_;refine bA hh (mQ a _ Xj) rfl ?_;intro w16 hh;rw [hma];refine fi ?_;refine mB (gT (mS (gT (mS (gT ?_)))));refine bO bh.out rfl Xk ?_;refine aD rfl rfl ?_;refine bA hh (lM b _ _ Xj) rfl ?_;intro w22 hh;rw [hmb];refine gT ?_;refine fi ?_;refine ez ?_;refine aa (cF (aq (ai (ah (sr (mS ?_))))));refine aF (hA _ ha) ar.out rfl Xk ?_;rintro e_ w26 ⟨A26,c26,rfl,hown_,hb_⟩;refine ⟨_,rfl, ?_⟩
   replace hh:=hh.aX (x:=.row _ _ _ _ _ _) hb_ hown_;refine aH (mI (aa (ao ?_)));refine aR [9,10,28,29,30,31,32,33,34,35,36,37,38,39,40,41,42,43] 28
    (fun i w'=>∃k:Nat,k≤ib.length∧i=.int .i64 k∧Hp w [.row A26 ia.length c26 3 1 (bu ia),.row A12 ib.length c12 3 1 (bu (m0 f ia ib k))] w')
    (fun i _=>ib.length-(intOf i).toNat) ?_ ?_
   ·exact ⟨0,Xs _,rfl,by rw [LA];exact hh⟩
   ·clear hh hown_ hb_;rintro ρ' i w' ⟨k,hk,rfl,hh⟩;by_cases hlt:k<ib.length
    ·obtain ⟨x,hx⟩:=ak (l:=ia) (k:=k) Xj;obtain ⟨y,hy⟩:=ak hlt;have bx:=bda k x hx;have byy:=bdb k y hy;have hx2:=ck hx;have hy2:=ck (SZ (f:=f) hlab hy);have hml:=OW (f:=f) hlab hk;have hml2:=bX (m0 f ia ib k);obtain ⟨ga,rfl⟩:=hh.cn (i:=0) rfl Xj;obtain ⟨gb,rfl⟩:=hh.cn (i:=1) rfl Xj;refine sr ?_;refine dR ?_;refine vD ?_;refine jw ?_;refine aI (aI (aa (al (mL (mI ?_)))));refine iQ ?_;refine mI (mL (mI ?_));refine vD ?_;refine JF ?_;refine fI (hg x y _ bx.1 bx.2 byy.1 byy.2) ar.out rfl rfl Xk ?_;rintro e_ w41 ⟨rfl,hb_⟩;refine ⟨_,rfl, ?_⟩;replace hh:=hh.ext hb_;refine vD ?_;refine bW hh (i:=1) (vs:=[_]) rfl rfl (cO rfl) rfl aM.out rfl Xj rfl ?_;intro ws hh;simp only [XC,X6] at hh;refine fp ?_;refine bk (mI (aA (ai ?_)));rw [XK,MW hlab hx hy] at hh;refine ⟨⟨k+1,Xj,rfl,hh⟩,by show _-(k+1)<_-k;omega, ?_⟩;exact dV
    ·refine sr ?_;refine bf (aa (ah (cF (a6 (aE (aE (bq (ai (sr (mL (aL (aB (aa (aw ?_))))))))))))));refine ML ?_;obtain rfl:k=ib.length:=Xj;rw [JN hlab] at hh;have h1:=hh.at_ (i:=1) rfl;have hzl:(List.zipWith f ia ib).length=ib.length:=by simp [hlab]
     refine .inr ⟨_,hbl,Xj,A12,c12, ?_⟩;rw [hzl];exact ⟨rfl,h1,hh.below⟩
theorem G5 (a b:ByteArray) (g:FuncId) (f:Int→Int→Int) (w:World) (ha:a.size≤100000) (hb:b.size≤100000) [ar Tryz.prog g]
  (hg:∀(x y:Int) (w:World),0≤x→x≤127→0≤y→y≤127→Calls Tryz.prog g #[.int .i64 x,.int .i64 y] w fun e w'=>e=.returned (.int .i64 (f x y))∧Below w.heap.size w w')
  (h:jv f a.data.toList b.data.toList=none):
  Calls Tryz.prog 231 #[.string a,.string b,.func (.func g) #[] #[]] w fun e w'=>e=.returned (.tuple #[.slice none 0 0,.bool false])∧Below w.heap.size w w':=
 (vm a b g f w ha hb hg).mono fun e w' hq=>by
  rcases hq with hq|⟨l,hl,_⟩
  ·exact hq.2
  ·rw [h] at hl;cases hl
theorem Ie (a b:ByteArray) (g:FuncId) (f:Int→Int→Int) (w:World) (ha:a.size≤100000) (hb:b.size≤100000) [ar Tryz.prog g]
  (hg:∀(x y:Int) (w:World),0≤x→x≤127→0≤y→y≤127→Calls Tryz.prog g #[.int .i64 x,.int .i64 y] w fun e w'=>e=.returned (.int .i64 (f x y))∧Below w.heap.size w w')
  {l:List Int} (h:jv f a.data.toList b.data.toList=some l):
  Calls Tryz.prog 231 #[.string a,.string b,.func (.func g) #[] #[]] w fun e w'=>∃A c,e=.returned (.tuple #[.slice A l.length c,.bool true])∧w'.ownsRow w.heap.size 3 1 (.slice A l.length c) l.length (bu l)∧Below w.heap.size w w':=
 (vm a b g f w ha hb hg).mono fun e w' hq=>by
  rcases hq with ⟨hn,_⟩|⟨l',hl,_,hq⟩
  ·rw [h] at hn;cases hn
  ·rw [h] at hl;injection hl with hl;subst hl;exact hq
theorem HB {f:Int→Int→Int}{a b:List UInt8}{l:List Int} (h:jv f a b=some l):l.length≤b.length:=by
 unfold jv at h;split at h
 ·injection h with h;subst h;simp [ints];omega
 ·cases h
theorem vv (x y:Int) (w:World) (h1:0≤x) (h2:x≤127) (h3:0≤y) (h4:y≤127):
  Calls Tryz.prog 232 #[.int .i64 x,.int .i64 y] w fun e w'=>e=.returned (.int .i64 (x+y))∧Below w.heap.size w w':=by
 refine aj (N:=8) (l:=[.int .i64 x,.int .i64 y]) Tryz.func232 rfl rfl (by simp) ?_;refine sr (aI (aa (sr (mI (mI ?_)))));refine bk (aI (aa (aw ?_)));refine df ?_;exact ⟨rfl,Below.refl _ _⟩
theorem G8 (a b:ByteArray) (w:World) (ha:a.size≤100000) (hb:b.size≤100000):
  Calls Tryz.prog 223 #[.string a,.string b] w fun e w'=>e=.returned (.tuple #[.string (str (mulL a.data.toList b.data.toList).1),.int .i64 (mulL a.data.toList b.data.toList).2])∧Below w.heap.size w w':=by
 have hh:=Hp.start w;have hsb:=dQ b
 cases hbo:jv (· + ·) a.data.toList b.data.toList with
 |none=>
  refine aj (N:=20) (l:=[.string a,.string b]) Tryz.func223 rfl rfl (by simp) ?_;refine sr (aS (aI (aa (sr (mS (mS ?_))))));refine bA hh (G5 a b _ _ _ ha hb vv hbo) rfl ?_;intro w11 hh;refine mT ?_;refine dn ?_;refine dn ?_;refine aL (aB (aa (ah (sr (mB ?_)))));refine fi ?_;refine aa (cT (sr (aS (aI (aa (aw (aK ?_)))))));refine ML ?_;simp only [mulL,hbo];exact ⟨rfl,hh.below⟩
 |some l=>
  have hl:=HB hbo;refine aj (N:=20) (l:=[.string a,.string b]) Tryz.func223 rfl rfl (by simp) ?_;refine sr (aS (aI (aa (sr (mS (mS ?_))))));refine aF (Ie a b _ _ _ ha hb vv hbo) ar.out rfl Xk ?_;rintro e_ w11 ⟨A11,c11,rfl,hown_,hb_⟩;refine ⟨_,rfl, ?_⟩;replace hh:=hh.aX (x:=.row _ _ _ _ _ _) hb_ hown_;refine mT ?_;refine dn ?_;refine dn ?_;refine aL (aB (aa (ah (sr (mB ?_)))));refine fi ?_;refine aa (cF (aq (ai (sr (mL ?_)))));refine bA hh (Ba _ _ _ _ _ (hh.aC (i:=0) rfl) Xj) rfl ?_;intro w17 hh;refine dn ?_;refine dn ?_;refine aS (aI (aa (aw ?_)));refine ML ?_;simp only [mulL,hbo];exact ⟨trivial,hh.below⟩
def jd (v:Int):Bool:=decide (0≤v) && decide (v≤12)
theorem gK {v:Int}:jd v=true↔0≤v∧v≤12:=by unfold jd;rw [XF,XN,XN]
theorem nN (v:Int) (w:World):Calls Tryz.prog 109 #[.int .i64 v] w fun r w'=>r=.returned (.bool (jd v))∧Below w.heap.size w w':=by
 have hh:=Hp.start w;unfold jd;by_cases h1:0≤v
 ·rw [XH h1,aap];by_cases h2:v≤12
  ·rw [XH h2];exact PV
  ·rw [XM h2];exact PV
 ·rw [XM h1,Bool.false_and];refine aj (N:=9) (l:=[.int .i64 v]) Tryz.func109 rfl rfl (by simp) ?_;refine sr (aB (aa (sr (mI ?_))));refine dL (mB ?_);refine gS (gS ?_);refine ez ?_;exact zr
def UR (a:NR):Bool:=decide ((nR a.d).neg=a.neg) && (decide ((nR a.d).bg=a.bg) && decide ((nR a.d).e=a.e))
theorem tN (a:NR):UR a=true↔nR a.d=a:=by
 unfold UR;rw [XF,XF,XN,XN,XN];constructor
 ·rintro ⟨h1,h2,h3⟩;obtain ⟨s,m,e⟩:=a;generalize nR (NR.d ⟨s,m,e⟩)=b at*;obtain ⟨s',m',e'⟩:=b;simp only at h1 h2 h3;rw [h1,h2,h3]
 ·intro h;rw [h];exact ⟨rfl,rfl,rfl⟩
def oH (v:Int) (t:TR):Bool:=eK t.m.data.toList && decide ((t.m.size:Int)=v) && (zV t && UR t.c)
def u1:List TR→Bool
 |[]=>true
 |[_]=>true
 |a::b::l=>jo a.m b.m && u1 (b::l)
theorem yf:∀(l:List TR) (p x:TR),u1 (l++[p,x])=(u1 (l++[p]) && jo p.m x.m)
 |[],p,x=>by show (jo p.m x.m && true)=(true && jo p.m x.m);rw [Bool.and_true,aap]
 |[a],p,x=>by
  show (jo a.m p.m && (jo p.m x.m && true))=((jo a.m p.m && true) && jo p.m x.m);rw [Bool.and_true,Bool.and_true]
 |a::b::l,p,x=>by
  show (jo a.m b.m && u1 ((b::l)++[p,x]))=((jo a.m b.m && u1 ((b::l)++[p])) && jo p.m x.m);rw [yf (b::l) p x,Bool.and_assoc]
theorem GI:∀{l:List TR}{i:Nat}{p x:TR},u1 l=true→l[i]?=some p→l[i+1]?=some x→jo p.m x.m=true
 |[],i,p,x,_,h,_=>by simp at h
 |[a],i,p,x,_,_,h=>by simp at h
 |a::b::l,0,p,x,h,h1,h2=>by
  simp only [Z6,Y9,XJ,aaa] at h1 h2;subst h1 h2;exact (Zg.1 h).1
 |a::b::l,i+1,p,x,h,h1,h2=>by
  rw [aaa] at h1 h2;exact GI (Zg.1 h).2 h1 h2
theorem uL:∀{l:List TR},u1 l=true↔tP l
 |[]=>⟨fun _=>aaA,fun _=>rfl⟩
 |[a]=>⟨fun _=>aaT _ _,fun _=>rfl⟩
 |a::b::l=>by
  show (jo a.m b.m && u1 (b::l))=true↔_;rw [XF,uL (l:=b::l)];constructor
  ·rintro ⟨h1,h2⟩;refine YK.2 ⟨fun t ht=> ?_,h2⟩
   rcases XL.1 ht with rfl|ht
   ·exact h1
   ·exact j4 h1 ((YK.1 h2).1 t ht)
  ·intro h;have:=YK.1 h;exact ⟨this.1 b XB,this.2⟩
def okB (v:Int) (ts:List TR):Bool:=ts.all (oH v) && u1 ts
def jy (v:Int) (ts:List TR):Int:=if jd v=false then 1 else if 4096<ts.length then 3 else if okB v ts=true then 0 else 1
theorem La {v:Int} (h1:jd v=true) (h2:¬4096<ts.length) (h:okB v ts=false):jy v ts=1:=by
 unfold jy;rw [Xp (by rw [h1];decide),Xp h2,Xp (by rw [h];decide)]
theorem zi {v:Int}{i:Nat}{x:TR} (hx:ts[i]?=some x) (h:oH v x=false):okB v ts=false:=by
 unfold okB;rw [aaN];refine .inl (Z4.2 fun h2=> ?_);rw [XI.1 h2 x (Xt hx)] at h
 cases h
theorem LY {v:Int}{i:Nat}{p x:TR} (hp:ts[i]?=some p) (hx:ts[i+1]?=some x) (h:jo p.m x.m=false):okB v ts=false:=by
 unfold okB;rw [aaN];refine .inr (Z4.2 fun h2=> ?_);rw [GI h2 hp hx] at h
 cases h
theorem yy (v:Int) (A:Option Addr) (n c:Nat) (ts:List TR) (w:World) (hT:dN w) (hS:Sl w A n 4 (ay TR.cells ts)) (hn:n≤1000000) (ho:∀t∈ts,t.c.ok∧t.m.size≤100000):
  Calls Tryz.prog 53 #[.agg #[.int .i64 v,.slice A n c]] w fun r w'=>r=.returned (.int .i64 (jy v ts))∧Below w.heap.size w w':=by
 have hh:=Hp.start w;have hln:=hS.bp TR.len Xk;have hfw:=fun w1=>nN v w1
 cases hf:jd v with
 |false=>
  rw [hf] at hfw;rw [show jy v ts=1 by unfold jy;rw [Xo hf]];refine I9 ?_;refine sr ?_;refine cv hh [_,_] ?_;intro b1 w1 hh;refine aI (aa (ah (sr (bH ?_))));refine bE hh 0 ?_;refine bA hh (hfw _) rfl ?_;intro w7 hh;refine fi ?_;exact MJ
 |true=>
  rw [hf] at hfw;by_cases h4:4096<n
  ·rw [show jy v ts=3 by unfold jy;rw [Xp (by rw [hf];decide),Xo Xj]];refine I9 ?_;refine sr ?_;refine cv hh [_,_] ?_;intro b1 w1 hh;refine aI (aa (ah (sr (bH ?_))));refine bE hh 0 ?_;refine bA hh (hfw _) rfl ?_;intro w7 hh;refine fi ?_;refine EM ?_;refine bE hh 0 ?_;refine aH ?_;refine cj (aa (cT (sr (aI (aa (aw (aK ?_)))))));refine df ?_;exact ⟨rfl,hh.below⟩
  ·have hbad:=fun h=>La (v:=v) (ts:=ts) hf Xj h;refine I9 ?_;refine sr ?_;refine cv hh [_,_] ?_;intro b1 w1 hh;refine aI (aa (ah (sr (bH ?_))));refine bE hh 0 ?_;refine bA hh (hfw _) rfl ?_;intro w7 hh;refine fi ?_;refine EM ?_;refine bE hh 0 ?_;refine aH ?_;refine cj (aa (cF (aq (ai (ah (sr (bH ?_)))))));refine bE hh 0 ?_;refine aH (mI (aa (ao ?_)));refine aR [2,3,4,16,17,18,19,20,21,22,23,24,25,26,27,28,29,30,31,32,33,34,35,36,37,38,39,40,41,42,43,44,45,46,47,48,49,50,51,52,53,54,55,56,57] 16
    (fun x w'=>∃i:Nat,i≤n∧x=.int .i64 i∧(ts.take i).all (oH v)=true∧u1 (ts.take i)=true∧Hp w [.blk b1 24 [.int .i64 v,.slice A n c] (0,0)] w')
    (fun x _=>n-(intOf x).toNat) ?_ ?_
   ·exact ⟨0,Xs _,rfl,rfl,rfl,hh⟩
   ·clear hh;rintro ρ' x_ w' ⟨i,hi,rfl,hall,hris,hh⟩;by_cases hlt:i<n
    ·obtain ⟨x,hx⟩:=ak (l:=ts) (k:=i) Xj;obtain ⟨ad,rfl,hr⟩:=hS.at_ Xj;obtain ⟨hxo,hxm⟩:=ho x (Xt hx);have hmay:=fun w1=>lM x.m v w1 Xj;have hsg:=fun w1=>iB x.c w1;have hfo:=fun w1 hT1=>eN x.c w1 hT1 (by have:=hxo.1;omega) (by have:=hxo.2.1;omega) (by have:=hxo.2.2;omega);have hzz:x.c.i.sign=0↔x.c.d=0:=by
      rw [Int.sign_eq_zero_iff_zero];exact ⟨fun h=>by unfold NR.d;rw [h];rfl,sQ⟩
     cases hm:eK x.m.data.toList && decide ((x.m.size:Int)=v) with
     |false=>
      rw [hm] at hmay;rw [hbad (zi hx (by unfold oH;rw [hm];rfl))];refine sr ?_;refine dR ?_;refine cx ?_;refine qP ?_;refine bP hh ?_;intro b4 w4 hh;refine aI ?_;refine bR hh 0 [_,_,_,_] ?_;intro ws hh;replace hh:Hp _ (.blk _ _ [_,_,_,_] _::_) _:=hh;refine aa (ah ?_)
      refine dy [] [] zL1 33 zL0 [(32,53),(31,52),(30,51),(29,50),(28,49),(27,48),(26,47),(25,46),(24,45),(23,44),(22,43),(21,42),(20,41),(19,40),(18,39),(17,38),(16,37),(15,36),(14,35),(13,34),(12,33),(11,32),(10,31),(9,30),(8,29),(7,28),(6,27),(5,26),(4,25),(3,24),(2,23),(1,22),(0,21)] hh mixed Xl dO rfl (by repeat (first|exact cu|refine bQ ?_|refine ct ?_)) ?_
      refine ej ?_;refine fN 0 ?_;refine ej ?_;refine fN 1 ?_;refine dC (fun _ hj=>hmay _) ?_;refine H7 ?_;refine oQ ?_;refine dS (dS (dS (dS ?_)));refine Hf ?_;exact QH
     |true=>
      rw [hm] at hmay;by_cases hz:x.c.d=0
      ·have hs:=hzz.2 hz;rw [hbad (zi hx (by unfold oH zV;rw [hm,XH hz];rfl))];refine sr ?_;refine dR ?_;refine cx ?_;refine qP ?_;refine bP hh ?_;intro b4 w4 hh;refine aI ?_;refine bR hh 0 [_,_,_,_] ?_;intro ws hh;replace hh:Hp _ (.blk _ _ [_,_,_,_] _::_) _:=hh;refine aa (ah ?_)
       refine dy [] [] zL1 33 zL0 [(32,53),(31,52),(30,51),(29,50),(28,49),(27,48),(26,47),(25,46),(24,45),(23,44),(22,43),(21,42),(20,41),(19,40),(18,39),(17,38),(16,37),(15,36),(14,35),(13,34),(12,33),(11,32),(10,31),(9,30),(8,29),(7,28),(6,27),(5,26),(4,25),(3,24),(2,23),(1,22),(0,21)] hh mixed Xl dO rfl (by repeat (first|exact cu|refine bQ ?_|refine ct ?_)) ?_
       refine ej ?_;refine fN 0 ?_;refine ej ?_;refine fN 1 ?_;refine dC (fun _ hj=>hmay _) ?_;refine H7 ?_;refine oQ ?_;refine dG (ej ?_);refine dG (fG 0 [_,_,_] ?_);refine CF ?_;refine dG (yH ?_);refine O4 ?_;exact QH
      ·have hs:¬x.c.i.sign=0:=fun h=>hz (hzz.1 h);by_cases hnf:nR x.c.d=x.c
       ·have hgood:oH v x=true:=by unfold oH zV;rw [hm,XM hz,(tN x.c).2 hnf];rfl
        have hall2:(ts.take (i+1)).all (oH v)=true:=by rw [az hx,List.all_append,hall];simp [hgood]
        by_cases h0:i=0
        ·refine sr ?_;refine dR ?_;refine cx ?_;refine qP ?_;refine bP hh ?_;intro b4 w4 hh;refine aI ?_;refine bR hh 0 [_,_,_,_] ?_;intro ws hh;replace hh:Hp _ (.blk _ _ [_,_,_,_] _::_) _:=hh;refine aa (ah ?_)
         refine dy [] [] zL1 33 zL0 [(32,53),(31,52),(30,51),(29,50),(28,49),(27,48),(26,47),(25,46),(24,45),(23,44),(22,43),(21,42),(20,41),(19,40),(18,39),(17,38),(16,37),(15,36),(14,35),(13,34),(12,33),(11,32),(10,31),(9,30),(8,29),(7,28),(6,27),(5,26),(4,25),(3,24),(2,23),(1,22),(0,21)] hh mixed Xl dO rfl (by repeat (first|exact cu|refine bQ ?_|refine ct ?_)) ?_
         refine ej ?_;refine fN 0 ?_;refine ej ?_;refine fN 1 ?_;refine dC (fun _ hj=>hmay _) ?_;refine H7 ?_;refine oQ ?_;refine dG (ej ?_);refine dG (fG 0 [_,_,_] ?_);refine CF ?_;refine dG (yH ?_);refine O4 ?_;refine oQ ?_;refine dG (ej ?_);refine dG (fG 0 [_,_,_] ?_);refine Fh ?_;refine dG (ej ?_);refine dG (fG 0 [_,_,_] ?_);refine Ly ?_;refine O4 ?_;refine oQ ?_;refine dG (dJ ?_);refine dG (SM ?_);refine dG (oQ ?_);refine dS (dS (dS (dS ?_)));refine yU (i:=28) rfl (fun ρ1 w1 hj hR=>(show ρ1 44=Value.bool _ from hR.2.2.1)) Xk ?_;refine dS (dS (dS (dS ?_)));refine aO ?_;intro f W hJ hV _;have hb_8:=hJ.bl;obtain ⟨v53,v52,v51,v50,v49,v48,v47,v46,v45,v44,v43,v42,v41,v40,v39,v38,v37,v36,v35,v34,v33,v32,v31,v30,v29,v28,v27,v26,v25,v24,v23,v22,v21,_⟩:=hV;replace hh:=hJ.hp;refine F4 ?_;dsimp only [cd];clear hJ;refine gS (gT ?_)
         (first|refine eR ?_|refine ez ?_)
         refine ez ?_;refine B1 ?_;refine bk (mI (aA (ai ?_)));replace hh:=hh.sub (Xv _ (Xq _ XU));refine ⟨⟨i+1,Xj,rfl,hall2,by rw [az hx,h0];rfl,hh⟩,by show n-(i+1)<n-i;omega, ?_⟩;exact dV
        ·obtain ⟨q,hq⟩:∃q,i=q+1:=⟨i-1,Xj⟩;obtain ⟨p,hp⟩:=ak (l:=ts) (k:=q) Xj
         cases hlp:jo p.m x.m with
         |false=>
          rw [hbad (LY hp (hq ▸ hx) hlp)];have hge:(!(Op.bytesLess p.m.toList x.m.toList))=true:=by rw [qd,hlp];rfl
          refine sr ?_;refine dR ?_;refine cx ?_;refine qP ?_;refine bP hh ?_;intro b4 w4 hh;refine aI ?_;refine bR hh 0 [_,_,_,_] ?_;intro ws hh;replace hh:Hp _ (.blk _ _ [_,_,_,_] _::_) _:=hh;refine aa (ah ?_)
          refine dy [] [] zL1 33 zL0 [(32,53),(31,52),(30,51),(29,50),(28,49),(27,48),(26,47),(25,46),(24,45),(23,44),(22,43),(21,42),(20,41),(19,40),(18,39),(17,38),(16,37),(15,36),(14,35),(13,34),(12,33),(11,32),(10,31),(9,30),(8,29),(7,28),(6,27),(5,26),(4,25),(3,24),(2,23),(1,22),(0,21)] hh mixed Xl dO rfl (by repeat (first|exact cu|refine bQ ?_|refine ct ?_)) ?_
          refine ej ?_;refine fN 0 ?_;refine ej ?_;refine fN 1 ?_;refine dC (fun _ hj=>hmay _) ?_;refine H7 ?_;refine oQ ?_;refine dG (ej ?_);refine dG (fG 0 [_,_,_] ?_);refine CF ?_;refine dG (yH ?_);refine O4 ?_;refine oQ ?_;refine dG (ej ?_);refine dG (fG 0 [_,_,_] ?_);refine Fh ?_;refine dG (ej ?_);refine dG (fG 0 [_,_,_] ?_);refine Ly ?_;refine O4 ?_;refine oQ ?_;refine dG (dJ ?_);refine dG (SM ?_);refine dG (oQ ?_);refine dG (ej ?_);refine dG (fN 1 ?_);refine dG (dJ ?_);refine dG (vx ?_);refine dG (ow (q) ?_);refine dG (IU ?_);refine dG (qS (fun _ hj=>((hr.ext hj.hp.below).recAt TR.len hp).cell (i:=0) rfl) ?_);refine dG (ej ?_);refine dG (fN 0 ?_);refine aO ?_;intro f W hJ hV _;have hb_8:=hJ.bl;obtain ⟨v53,v52,v51,v50,v49,v48,v47,v46,v45,v44,v43,v42,v41,v40,v39,v38,v37,v36,v35,v34,v33,v32,v31,v30,v29,v28,v27,v26,v25,v24,v23,v22,v21,_⟩:=hV;replace hh:=hJ.hp;refine F4 ?_;dsimp only [cd];clear hJ;refine gT ?_;refine xb rfl rfl Xk ?_;refine gT ?_
          (first|refine eR ?_|refine ez ?_)
          refine ez ?_;refine aa ?_;rw [hge];refine cT (sr (aI (aa (aw (cf (aK (aK (cf (aK ?_)))))))));refine df ?_;exact ⟨rfl,hh.below⟩
         |true=>
          have hge:(!(Op.bytesLess p.m.toList x.m.toList))=false:=by rw [qd,hlp];rfl
          refine sr ?_;refine dR ?_;refine cx ?_;refine qP ?_;refine bP hh ?_;intro b4 w4 hh;refine aI ?_;refine bR hh 0 [_,_,_,_] ?_;intro ws hh;replace hh:Hp _ (.blk _ _ [_,_,_,_] _::_) _:=hh;refine aa (ah ?_)
          refine dy [] [] zL1 33 zL0 [(32,53),(31,52),(30,51),(29,50),(28,49),(27,48),(26,47),(25,46),(24,45),(23,44),(22,43),(21,42),(20,41),(19,40),(18,39),(17,38),(16,37),(15,36),(14,35),(13,34),(12,33),(11,32),(10,31),(9,30),(8,29),(7,28),(6,27),(5,26),(4,25),(3,24),(2,23),(1,22),(0,21)] hh mixed Xl dO rfl (by repeat (first|exact cu|refine bQ ?_|refine ct ?_)) ?_
          refine ej ?_;refine fN 0 ?_;refine ej ?_;refine fN 1 ?_;refine dC (fun _ hj=>hmay _) ?_;refine H7 ?_;refine oQ ?_;refine dG (ej ?_);refine dG (fG 0 [_,_,_] ?_);refine CF ?_;refine dG (yH ?_);refine O4 ?_;refine oQ ?_;refine dG (ej ?_);refine dG (fG 0 [_,_,_] ?_);refine Fh ?_;refine dG (ej ?_);refine dG (fG 0 [_,_,_] ?_);refine Ly ?_;refine O4 ?_;refine oQ ?_;refine dG (dJ ?_);refine dG (SM ?_);refine dG (oQ ?_);refine dG (ej ?_);refine dG (fN 1 ?_);refine dG (dJ ?_);refine dG (vx ?_);refine dG (ow (q) ?_);refine dG (IU ?_);refine dG (qS (fun _ hj=>((hr.ext hj.hp.below).recAt TR.len hp).cell (i:=0) rfl) ?_);refine dG (ej ?_);refine dG (fN 0 ?_);refine aO ?_;intro f W hJ hV _;have hb_8:=hJ.bl;obtain ⟨v53,v52,v51,v50,v49,v48,v47,v46,v45,v44,v43,v42,v41,v40,v39,v38,v37,v36,v35,v34,v33,v32,v31,v30,v29,v28,v27,v26,v25,v24,v23,v22,v21,_⟩:=hV;replace hh:=hJ.hp;refine F4 ?_;dsimp only [cd];clear hJ;refine gT ?_;refine xb rfl rfl Xk ?_;refine gT ?_
          (first|refine eR ?_|refine ez ?_)
          refine ez ?_;refine aa ?_;rw [hge];refine cF (aq (bz (ai (al ?_))));refine bk (mI (aA (ai ?_)));replace hh:=hh.sub (Xv _ (Xq _ XU));refine ⟨⟨i+1,Xj,rfl,hall2, ?_,hh⟩,by show n-(i+1)<n-i;omega, ?_⟩
          ·rw [hq,az hp] at hris;rw [az hx,hq,az hp,Ya];show u1 (ts.take q++[p,x])=true;rw [yf,hris,hlp]
           rfl
          ·exact dV
       ·rw [hbad (zi hx (by unfold oH zV;rw [hm,XM hz,Z4.2 (fun h=>hnf ((tN x.c).1 h))];rfl))];refine sr ?_;refine dR ?_;refine cx ?_;refine qP ?_;refine bP hh ?_;intro b4 w4 hh;refine aI ?_;refine bR hh 0 [_,_,_,_] ?_;intro ws hh;replace hh:Hp _ (.blk _ _ [_,_,_,_] _::_) _:=hh;refine aa (ah ?_)
        refine dy [] [] zL1 33 zL0 [(32,53),(31,52),(30,51),(29,50),(28,49),(27,48),(26,47),(25,46),(24,45),(23,44),(22,43),(21,42),(20,41),(19,40),(18,39),(17,38),(16,37),(15,36),(14,35),(13,34),(12,33),(11,32),(10,31),(9,30),(8,29),(7,28),(6,27),(5,26),(4,25),(3,24),(2,23),(1,22),(0,21)] hh mixed Xl dO rfl (by repeat (first|exact cu|refine bQ ?_|refine ct ?_)) ?_
        refine ej ?_;refine fN 0 ?_;refine ej ?_;refine fN 1 ?_;refine dC (fun _ hj=>hmay _) ?_;refine H7 ?_;refine oQ ?_;refine dG (ej ?_);refine dG (fG 0 [_,_,_] ?_);refine CF ?_;refine dG (yH ?_);refine O4 ?_;refine oQ ?_;refine dG (ej ?_);refine dG (fG 0 [_,_,_] ?_);refine Fh ?_;refine dG (ej ?_);refine dG (fG 0 [_,_,_] ?_);refine zw (i:=18) rfl (fun ρ1 w1 hj hR=>(show ρ1 33=Value.bool _ from hR.2.2.1)) (fun ρ1 w1 hj hR=>FO (show ρ1 36=Value.agg (List.toArray _) from hR.1) (show ρ1 38=Value.agg (List.toArray _) from hR.2.1) (by assumption)) ?_;refine O4 ?_;exact VS
    ·rw [Xz Xj] at hall hris;rw [show jy v ts=0 by unfold jy okB;rw [Xp (by rw [hf];decide),Xp Xj,hall,hris];rfl];refine sr ?_;refine EK ?_;refine df ?_;exact ⟨rfl,hh.below⟩
def fa (v:Int) (t:TR):Bool:=eK t.m.data.toList && decide ((t.m.size:Int)=v)
theorem CG (z:TR) (v:Int) (b:Nat) (w:World) (hp:w.cell? ⟨b,0,none⟩=some (.int .i64 v)) (hz:z.m.size≤100000):Calls Tryz.prog 137 #[.agg #[.string z.m,.bool z.c.neg,.string z.c.bg,.int .i64 z.c.e],.pointer (some ⟨b,0,none⟩)] w fun r w'=>r=.returned (.bool (!fa v z))∧Below w.heap.size w w':=by
 have hh:=Hp.start w;have hmay:=fun w1=>lM z.m v w1 Xj;unfold fa;refine aj (N:=9) (l:=[.agg #[.string z.m,.bool z.c.neg,.string z.c.bg,.int .i64 z.c.e],.pointer (some ⟨b,0,none⟩)]) Tryz.func137 rfl rfl (by simp) ?_;refine sr ?_;refine cv hh [_,_,_,_] ?_;intro b2 w2 hh;refine aB (aa (sr (bH ?_)));refine bE hh 0 ?_;refine bU aM.out rfl (cN hh.below hp) Xk ?_;refine bA hh (hmay _) rfl ?_;intro w7 hh
 cases eK z.m.data.toList && decide ((z.m.size:Int)=v) with
 |false=>
  refine fi ?_;exact zr
 |true=>
  refine fi ?_;exact zr
theorem wB (A:Option Addr) (n c:Nat) (l:List TR) (v:Int) (b:Nat) (w:World) (hS:Sl w A n 4 (ay TR.cells l)) (hn:n≤1000000) (hp:w.cell? ⟨b,0,none⟩=some (.int .i64 v)) (hz:∀t∈l,t.m.size≤100000):
  Calls Tryz.prog 136 #[.slice A n c,.func (.func 137) #[] #[.pointer (some ⟨b,0,none⟩)]] w fun r w'=>r=.returned (.bool (l.any fun t=> !fa v t))∧Below w.heap.size w w':=
 Dp A n c l 137 [.pointer (some ⟨b,0,none⟩)] (fun t=> !fa v t) w hS hn fun z w1 hz2 hb=>CG z v b w1 (cN hb hp) (hz z hz2)
def qB (v:Int) (l:List TR):Int:=if jd v=false∨(l.any fun t=> !fa v t)=true then 1 else if 65536<l.length then 3 else gD l
theorem mX (v:Int) (A:Option Addr) (n c:Nat) (l:List TR) (k:Nat) (w:World) (hT:dN w) (hS:Sl w A n 4 (ay TR.cells l)) (hn:n≤1000000) (hk:k≤2999980) (ho:iT k l) (hz:∀t∈l,t.m.size≤100000):
  Calls Tryz.prog 90 #[.int .i64 v,.slice A n c] w fun r w'=>∃g:PX,fF (qB v l) v (aG l) g∧r=.returned (.tuple #[.agg #[.int .i64 g.v,.slice g.A g.n g.c],.int .i64 (qB v l)])∧Hp w [g.row] w':=by
 have hh:=Hp.start w;have hln:=hS.bp TR.len Xk;have hfw:=fun w1=>nN v w1;have han:=fun b w1 hb hp=>wB A n c l v b w1 (hS.ext hb) hn hp hz
 cases hf:jd v with
 |false=>
  rw [hf] at hfw;rw [show qB v l=1 by unfold qB;rw [Xo (.inl hf)]];refine Fo ?_;refine sr ?_;refine cv hh [_] ?_;intro b2 w2 hh;refine bP hh ?_;intro b4 w4 hh;refine aI (aa (ah (sr ?_)));refine bE hh 1 ?_;refine bA hh (hfw _) rfl ?_;intro w7 hh;refine fi ?_;refine mB ?_;refine gS (gS ?_);refine gy ?_;refine eR ?_;refine aa (cT (sr ?_));exact Pd
 |true=>
  rw [hf] at hfw
  cases ha:l.any fun t=> !fa v t with
  |true=>
   rw [ha] at han;rw [show qB v l=1 by unfold qB;rw [Xo (.inr ha)]];refine Fo ?_;refine sr ?_;refine cv hh [_] ?_;intro b2 w2 hh;refine bP hh ?_;intro b4 w4 hh;refine aI (aa (ah (sr ?_)));refine bE hh 1 ?_;refine bA hh (hfw _) rfl ?_;intro w7 hh;refine fi ?_;refine mB (gT (mL (gT ?_)));refine sa ?_;refine aD rfl rfl ?_;refine bA hh (han _ _ hh.below (hh.dE (i:=1) (o:=0) rfl rfl)) rfl ?_;intro w12 hh;refine ez ?_;refine aa (cT (sr ?_));exact Pd
  |false=>
   rw [ha] at han;have e1:qB v l=if 65536<l.length then 3 else gD l:=by unfold qB;rw [Xp (by rw [hf,ha];decide)]
   by_cases h6:65536<n
   ·rw [e1,Xo Xj];refine Fo ?_;refine sr ?_;refine cv hh [_] ?_;intro b2 w2 hh;refine bP hh ?_;intro b4 w4 hh;refine aI (aa (ah (sr ?_)));refine bE hh 1 ?_;refine bA hh (hfw _) rfl ?_;intro w7 hh;refine fi ?_;refine mB (gT (mL (gT ?_)));refine sa ?_;refine aD rfl rfl ?_;refine bA hh (han _ _ hh.below (hh.dE (i:=1) (o:=0) rfl rfl)) rfl ?_;intro w12 hh;refine ez ?_;refine aa (cF (aq (ai (ah (sr (mL (aH ?_)))))));refine cj (aa (cT (sr ?_)));exact Pd
   ·rw [e1,Xp Xj];refine Fo ?_;refine sr ?_;refine cv hh [_] ?_;intro b2 w2 hh;refine bP hh ?_;intro b4 w4 hh;refine aI (aa (ah (sr ?_)));refine bE hh 1 ?_;refine bA hh (hfw _) rfl ?_;intro w7 hh;refine fi ?_;refine mB (gT (mL (gT ?_)));refine sa ?_;refine aD rfl rfl ?_;refine bA hh (han _ _ hh.below (hh.dE (i:=1) (o:=0) rfl rfl)) rfl ?_;intro w12 hh;refine ez ?_;refine aa (cF (aq (ai (ah (sr (mL (aH ?_)))))));refine cj (aa (cF (aq (ai (ah ?_)))));refine qW [] [0,0,2,7,15,15,63,127] 3 [[(2,none)],[(1,none)],[(20,some 1)]] [(2,21),(1,20),(0,19)] [([],4,[(2,21),(1,20),(0,19)])] hh mixed Xl Xl Xk ?_;refine fN 1 ?_;refine fS ?_;refine aQ (i:=2) (n8 hh.sz 80 n 4 (ay TR.cells l)) (n8.ext) ?_ ?_
    ·intro ρ1 w1 hj hR;exact aY rfl (aJ ar.out (av (show ρ1 20=Value.slice _ _ _ from hR.1) aU)) (l6 A n c l w1 (hS.ext hj.hp.below) hn) (fun _ _ ⟨A,c,hq,ho,hb⟩=>⟨_,hq,hb,A,c,rfl,oZ ho hj.bl.size⟩)
    refine aO ?_;intro p_ hp_;simp only [XL,List.not_mem_nil,or_false] at hp_
    rcases hp_ with rfl
    intro f W hJ hV;have hb_5:=hJ.bl;obtain ⟨v21,v20,v19,_⟩:=hV;simp only [jT];have e19:f 0=_:=v19;rw [e19];have e20:f 1=_:=v20;rw [e20];obtain ⟨A21,c21,e21,o21⟩:n8 _ _ _ _ _ (f 2) W:=v21;rw [e21];replace hh:=JJ.Ls hh hJ.hp o21;clear o21;clear e19 e20 e21 hJ;refine aF (kC v A21 n c21 l k _ hT hh hln Xj Xj ho) ar.out rfl Xk ?_;rintro e_ w22 ⟨g,og,rfl,hh⟩;refine ⟨_,rfl, ?_⟩;refine ff ?_;refine di (i:=4) (by repeat (first|exact cu|refine bQ ?_|refine ct ?_|refine np_scope ?_)) rfl Xl Xl Xl (fun _=>fB (show _=Value.tuple (List.toArray _) from rfl) rfl) Xk ?_;refine di (i:=5) (by repeat (first|exact cu|refine bQ ?_|refine ct ?_|refine np_scope ?_)) rfl Xl Xl Xl (fun _=>fB (show _=Value.tuple (List.toArray _) from rfl) rfl) Xk ?_;refine jH 6 Xk Xl Xk Xl Xl ?_;exact E8
def PX.cells (g:PX):List Value:=[.int .i64 g.v,.slice g.A g.n g.c]
theorem PX.len (g:PX):(PX.cells g).length=2:=rfl
structure PX.k8 (g:PX) (k:Nat):Prop where
 n:g.n≤1000000
 cap:g.n≤g.c
 ok:iT k g.ts
 sz:∀t∈g.ts,t.m.size≤100000
def PX.e (g:PX):Int:=jy g.v g.ts
theorem lO (g:PX) (k:Nat) (w:World) (hT:dN w) (h:g.at_ w) (hl:g.k8 k):
  Calls Tryz.prog 53 #[.agg #[.int .i64 g.v,.slice g.A g.n g.c]] w fun r w'=>r=.returned (.int .i64 g.e)∧Below w.heap.size w w':=
 yy g.v g.A g.n g.c g.ts w hT h hl.n fun t ht=>⟨(hl.ok t ht).1,hl.sz t ht⟩
def zm (ps:List PX):Bool:=ps.any fun g=>decide (g.v≠(ps.map PX.v).headD 0)
def fR (ps:List PX):Int:=match ps.find? (fun g=>decide (g.e≠0)) with|some g=>g.e|none=>if ps.length=0∨zm ps=true then 1 else 0
theorem Dd (L:Option Addr) (n c:Nat) (ps:List PX) (f:PX) (p:Addr) (w:World) (hL:Sl w L n 2 (ay PX.cells ps)) (hp:w.cell? p=some (.slice L n c)) (hn:0<n):
  Calls Tryz.prog 172 #[.agg #[.int .i64 f.v,.slice f.A f.n f.c],.pointer (some p)] w fun r w'=>r=.returned (.bool (decide (f.v≠(ps.map PX.v).headD 0)))∧Below w.heap.size w w':=by
 have hh:=Hp.start w;have hln:=hL.bp PX.len Xk;obtain ⟨g,ps,rfl⟩:∃g l,ps=g::l:=by
  cases ps with
  |nil=>exact absurd hln (by show ¬0=n;omega)
  |cons g l=>exact ⟨g,l,rfl⟩
 obtain ⟨ad,rfl,hr⟩:=hL.at_ hn;have hd:(((g::ps).map PX.v).headD 0)=g.v:=rfl;rw [hd];have h0:(g::ps)[0]?=some g:=rfl;by_cases hg:f.v=g.v
 ·refine aj (N:=11) (l:=[.agg #[.int .i64 f.v,.slice f.A f.n f.c],.pointer (some p)]) Tryz.func172 rfl rfl (by simp) ?_;refine sr ?_;refine cv hh [_,_] ?_;intro b2 w2 hh;refine aB (aa (ah ?_));refine Qu ?_;refine ej ?_;refine fN 0 ?_;refine qS (fun _ hj=>(hj.hp.below.cell (jL hp)).trans hp) ?_;refine bj (i:=3) (fun ρ1 w1 hj hR=>dA bh.out aM.size (show ρ1 6=Value.slice _ _ _ from hR.1) rfl Xj Xj) ?_;refine IU ?_;refine qS (fun _ hj=>cN hj.hp.below (((hr.recAt PX.len h0)) 0 _ rfl)) ?_;refine aO ?_;intro f W hJ hV;have hb_1:=hJ.bl;obtain ⟨v9,v8,v7,v6,v5,v4,_⟩:=hV;replace hh:=hJ.hp;refine aW (bm (ae v9 (ae v8 (ae v7 (ae v6 (ae v5 (ae v4 aV))))))) ?_;dsimp only [cd];clear hJ;exact Q7
 ·refine aj (N:=11) (l:=[.agg #[.int .i64 f.v,.slice f.A f.n f.c],.pointer (some p)]) Tryz.func172 rfl rfl (by simp) ?_;refine sr ?_;refine cv hh [_,_] ?_;intro b2 w2 hh;refine aB (aa (ah ?_));refine Qu ?_;refine ej ?_;refine fN 0 ?_;refine qS (fun _ hj=>(hj.hp.below.cell (jL hp)).trans hp) ?_;refine bj (i:=3) (fun ρ1 w1 hj hR=>dA bh.out aM.size (show ρ1 6=Value.slice _ _ _ from hR.1) rfl Xj Xj) ?_;refine IU ?_;refine qS (fun _ hj=>cN hj.hp.below (((hr.recAt PX.len h0)) 0 _ rfl)) ?_;refine aO ?_;intro f W hJ hV;have hb_1:=hJ.bl;obtain ⟨v9,v8,v7,v6,v5,v4,_⟩:=hV;replace hh:=hJ.hp;refine aW (bm (ae v9 (ae v8 (ae v7 (ae v6 (ae v5 (ae v4 aV))))))) ?_;dsimp only [cd];clear hJ;exact QT
theorem D7 (A:Option Addr) (n c:Nat) (l:List PX) (g:FuncId) (cap:List Value) (p:PX→Bool) (w:World) (hS:Sl w A n 2 (ay PX.cells l)) (hn:n≤1000000) [ar Tryz.prog g]
  (hg:∀(z:PX) (w1:World),z∈l→Below w.heap.size w w1→Calls Tryz.prog g (.agg #[.int .i64 z.v,.slice z.A z.n z.c]::cap).toArray w1 fun r w'=>r=.returned (.bool (p z))∧Below w1.heap.size w1 w'):
  Calls Tryz.prog 177 #[.slice A n c,.func (.func g) #[] cap.toArray] w fun r w'=>∃v,r=.returned (.int .i64 v)∧(0≤v↔l.any p=true)∧Below w.heap.size w w':=by
 have hh:=Hp.start w;have hln:=hS.bp PX.len Xk;refine aj (N:=19) (l:=[.slice A n c,.func (.func g) #[] cap.toArray]) Tryz.func177 rfl rfl (by simp) ?_;refine Bx ?_;refine aR [4,5,8,9,10,11,12,13,14,15,16,17,18] 8
  (fun v w'=>∃i:Nat,i≤n∧v=.int .i64 i∧(l.take i).any p=false∧Hp w [] w')
  (fun v _=>n-(intOf v).toNat) ?_ ?_
 ·exact ⟨0,Xs _,rfl,rfl,hh⟩
 ·clear hh;rintro ρ' v w' ⟨i,hi,rfl,hall,hh⟩;by_cases hlt:i<n
  ·obtain ⟨z,hz⟩:=ak (l:=l) (k:=i) Xj;obtain ⟨ad,rfl,hr⟩:=hS.at_ Xj;have hc:=fun w1=>hg z w1 (Xt hz)
   cases gz:p z with
   |true=>
    rw [gz] at hc;refine sr ?_;refine sv ?_;refine iQ ?_;refine mL (mI ?_);refine cx ?_;refine cq (vs:=[_,_]) aM.out rfl ((hr.ext hh.below).recAt PX.len hz) rfl Xk ?_;exact SQ
   |false=>
    rw [gz] at hc;refine sr ?_;refine sv ?_;refine iQ ?_;refine mL (mI ?_);refine cx ?_;refine cq (vs:=[_,_]) aM.out rfl ((hr.ext hh.below).recAt PX.len hz) rfl Xk ?_;exact Fc
  ·exact SL
theorem vP (A:Option Addr) (n c:Nat) (l:List PX) (g:FuncId) (cap:List Value) (p:PX→Bool) (w:World) (hS:Sl w A n 2 (ay PX.cells l)) (hn:n≤1000000) [ar Tryz.prog g]
  (hg:∀(z:PX) (w1:World),z∈l→Below w.heap.size w w1→Calls Tryz.prog g (.agg #[.int .i64 z.v,.slice z.A z.n z.c]::cap).toArray w1 fun r w'=>r=.returned (.bool (p z))∧Below w1.heap.size w1 w'):
  Calls Tryz.prog 139 #[.slice A n c,.func (.func g) #[] cap.toArray] w fun r w'=>r=.returned (.bool (l.any p))∧Below w.heap.size w w':=by
 have hh:=Hp.start w;refine aj (N:=9) (l:=[.slice A n c,.func (.func g) #[] cap.toArray]) Tryz.func139 rfl rfl (by simp) ?_;refine sr (aB (aa (sr (mL ?_))));refine iQ ?_;refine aF (D7 A n c l g cap p _ (hS.ext hh.below) hn hg) ar.out rfl Xk ?_;exact Rz
theorem sJ (L:Option Addr) (n c:Nat) (ps:List PX) (k:Nat) (w:World) (hT:dN w) (hL:Sl w L n 2 (ay PX.cells ps)) (hn:n≤1000000) (hf:∀g∈ps,g.at_ w) (hl:∀g∈ps,g.k8 k):
  Calls Tryz.prog 128 #[.slice L n c] w fun r w'=>r=.returned (.int .i64 (fR ps))∧Below w.heap.size w w':=by
 have hh:=Hp.start w;have hln:=hL.bp PX.len Xk;refine aj (N:=26) (l:=[.slice L n c]) Tryz.func128 rfl rfl (by simp) ?_;refine sr ?_;refine cv hh [_] ?_;intro b1 w1 hh;refine aI (aa (ah (sr ?_)));refine bE hh 0 ?_;refine aH (mI (aa (ao ?_)));refine aR [2,4,5,8,9,10,11,12,13,14,15,16,17] 8
  (fun v w'=>∃i:Nat,i≤n∧v=.int .i64 i∧(ps.take i).any (fun g=>decide (g.e≠0))=false∧Hp w [.blk b1 119 [.slice L n c] (0,0)] w')
  (fun v _=>n-(intOf v).toNat) ?_ ?_
 ·exact ⟨0,Xs _,rfl,rfl,hh⟩
 ·clear hh;rintro ρ' v w' ⟨i,hi,rfl,hall,hh⟩;by_cases hlt:i<n
  ·obtain ⟨g,hx⟩:=ak (l:=ps) (k:=i) Xj;have hmem:=Xt hx;have hc:=fun w1 hT1 hb=>lO g k w1 hT1 ((hf g hmem).ext hb) (hl g hmem);obtain ⟨ad,rfl,hr⟩:=hL.at_ Xj;by_cases he:g.e=0
   ·refine sr ?_;refine dT ?_;refine cx ?_;refine KA ?_;refine bP hh ?_;intro b4 w4 hh;refine bR hh 0 [_,_] ?_;intro ws hh;replace hh:Hp _ (.blk _ _ [_,_] _::_) _:=hh;refine aa (sr ?_);refine cg hh 0 [_,_] ?_;refine bA hh (hc _ (hT.hp hh) hh.below) rfl ?_;intro w13 hh;refine aI (aa (sr (mI ?_)));refine cJ (aa (cF (aq (bz (ai (al ?_))))));refine bk (mI (aA (ai ?_)));replace hh:=hh.sub (Xv _ (Xq _ XU));refine ⟨⟨i+1,Xj,rfl,by rw [az hx,aag,hall,aao,aaj,XM Xj];rfl,hh⟩,by show n-(i+1)<n-i;omega, ?_⟩;exact dV
   ·refine sr ?_;refine dT ?_;refine cx ?_;refine KA ?_;refine bP hh ?_;intro b4 w4 hh;refine bR hh 0 [_,_] ?_;intro ws hh;replace hh:Hp _ (.blk _ _ [_,_] _::_) _:=hh;refine aa (sr ?_);refine cg hh 0 [_,_] ?_;refine bA hh (hc _ (hT.hp hh) hh.below) rfl ?_;intro w13 hh;refine aI (aa (sr (mI ?_)));refine cJ (aa (cT (sr (mI (aI (aa (aw (cf (aK (aK (cf (aK ?_))))))))))));refine df ?_;refine ⟨?_,hh.below⟩;unfold fR;rw [xX hall hx (XH he)]
  ·rw [Xz Xj] at hall;have hlk:fR ps=if ps.length=0∨zm ps=true then 1 else 0:=by unfold fR;rw [j2 hall]
   rw [hlk];by_cases h0:n=0
   ·refine sr ?_;refine Kk ?_;refine bE hh 0 ?_;refine aH ?_;refine cR (mB ?_);refine gS (gS ?_);refine gy ?_;refine eR ?_;refine BI ?_;refine df ?_;exact ⟨by rw [Xo (.inl Xj)],hh.below⟩
   ·have hcell:w'.cell? ⟨b1,0,none⟩=some (.slice L n c):=hh.dE (i:=0) rfl rfl;have ho:=fun w1 hb=>vP L n c ps 172 [.pointer (some ⟨b1,0,none⟩)] (fun g=>decide (g.v≠(ps.map PX.v).headD 0)) w1 (hL.ext (hh.below.trans (hb.mono hh.below.size))) hn (fun z w2 hz hb2=>Dd L n c ps z ⟨b1,0,none⟩ w2 ((hL.ext (hh.below.trans (hb.mono hh.below.size))).ext hb2) (cN hb2 (cN hb hcell)) Xj)
    cases hod:zm ps with
    |true=>
     have hod2:ps.any (fun g=>decide (g.v≠(ps.map PX.v).headD 0))=true:=hod;rw [hod2] at ho;refine sr ?_;refine Kk ?_;refine bE hh 0 ?_;refine aH ?_;refine cR (mB (gT ?_));refine bE hh 0 ?_;refine gT ?_;refine sa ?_;refine aD rfl rfl ?_;refine bA hh (ho _ (Below.refl _ _)) rfl ?_;intro w24 hh;refine ez ?_;refine BI ?_;refine df ?_;exact ⟨by rw [Xo (.inr rfl)],hh.below⟩
    |false=>
     have hod2:ps.any (fun g=>decide (g.v≠(ps.map PX.v).headD 0))=false:=hod;rw [hod2] at ho;refine sr ?_;refine Kk ?_;refine bE hh 0 ?_;refine aH ?_;refine cR (mB (gT ?_));refine bE hh 0 ?_;refine gT ?_;refine sa ?_;refine aD rfl rfl ?_;refine bA hh (ho _ (Below.refl _ _)) rfl ?_;intro w24 hh;refine ez ?_;refine EW ?_;refine df ?_;refine ⟨?_,hh.below⟩;rw [Xp];rintro (h|h)
     ·omega
     ·cases h
set_option maxRecDepth 100000 in
theorem Eu {H:Type}{enc:TypeId×Value→H}{sp:Nat→Bool}{x:DataW H×List MemPlace} (h:DataW.trod enc Tryz.prog W base sp held fuel 80 cs=some x):
  ∃t:TR,cs=t.cells∧True:=by
 have c0:Tryz.prog.cellsOf 80=4:=by kernel_rfl
 have c1:Tryz.prog.cellsOf 9=1:=by kernel_rfl
 have c2:Tryz.prog.cellsOf 40=3:=by kernel_rfl
 obtain ⟨y0,y1,n,_,hl,h0,h1⟩:=trod_struct2 Tryz.underlying80 h;obtain ⟨s,e0,_,_⟩:=DataW.trod_string Tryz.underlying9 h0;obtain ⟨a,e1,_⟩:=nK h1;rw [c0] at hl
 match cs,hl with
 |[x0,x1,x2,x3],_=>
  simp only [c1,c2] at e0 e1;unfold NR.cells at e1;simp at e0 e1;obtain ⟨e1,e2,e3⟩:=e1;subst e0 e1 e2 e3;exact ⟨⟨s,a⟩,rfl,trivial⟩
set_option maxRecDepth 100000 in
theorem C1 {H:Type}{enc:TypeId×Value→H}{sp:Nat→Bool}{x:DataW H×List MemPlace} (h:DataW.trod enc Tryz.prog W base sp held fuel 24 cs=some x):
  ∃g:PX,cs=g.cells∧(g.at_ W∧g.n≤g.c):=by
 have c0:Tryz.prog.cellsOf 24=2:=by kernel_rfl
 have c1:Tryz.prog.cellsOf 3=1:=by kernel_rfl
 have c2:Tryz.prog.cellsOf 22=1:=by kernel_rfl
 obtain ⟨y0,y1,n,_,hl,h0,h1⟩:=trod_struct2 Tryz.underlying24 h;obtain ⟨z,e0,_,_⟩:=DataW.trod_int Tryz.underlying3 h0;obtain ⟨B,m,b,k,e1,s1,_⟩:=EF TR.len Xk Tryz.underlying22 Xl (fun _ _ _ h=>Eu h) h1;rw [e1] at h1;have hroom:=xD Tryz.underlying22 h1;rw [c0] at hl
 match cs,hl with
 |[x0,x1],_=>
  simp only [c1,c2] at e0 e1;simp at e0 e1;subst e0 e1;exact ⟨⟨z,B,m,b,k⟩,rfl,s1,hroom⟩
set_option maxRecDepth 100000 in
theorem Hi {H:Type}{enc:TypeId×Value→H}{r:Reach}{sp:Nat→Bool}{v:Value}{d:DataW H}{ps:List MemPlace}
  (hval:Value.okWide Tryz.prog W r b0 24 v) (hd:DataW.Trod enc Tryz.prog W base sp held 24 v d ps):∃g:PX,v=.agg #[.int .i64 g.v,.slice g.A g.n g.c]∧g.at_ W∧g.n≤g.c:=by
 obtain ⟨cs,rfl,_⟩:=okWide_struct Tryz.underlying24 hval;obtain ⟨fuel,hf⟩:=hd;obtain ⟨f,h1,h2⟩:=C1 hf;refine ⟨f, ?_,h2⟩;have h3:cs.toList=f.cells:=h1;rw [←Array.toList_inj.1 (show cs.toList=(#[.int .i64 f.v,.slice f.A f.n f.c]:Array Value).toList from h3)]
structure SR where
 lo:NR
 hi:NR
def SR.cells (s:SR):List Value:=[.bool s.lo.neg,.string s.lo.bg,.int .i64 s.lo.e,.bool s.hi.neg,.string s.hi.bg,.int .i64 s.hi.e]
theorem SR.len (s:SR):(SR.cells s).length=6:=rfl
def MO (x y:Dyadic):Dyadic:=if y<x then y else x
def MM (x y:Dyadic):Dyadic:=if x<y then y else x
theorem L4 (x y:Dyadic):iP (fun x y=>decide (x<y)) [x,y]=MO x y:=by simp [iP,MO]
theorem MH (x y:Dyadic):iP (fun x y=>decide (y<x)) [x,y]=MM x y:=by simp [iP,MM]
def SR.L (s:SR):Dyadic:=MO s.lo.d s.hi.d
def SR.H (s:SR):Dyadic:=MM s.lo.d s.hi.d
def SR.f (s:SR):SR:=⟨nR s.L,nR s.H⟩
def SR.ok (s:SR):Prop:=s.lo.ok∧s.hi.ok
def SR.has (s:SR) (x:Dyadic):Bool:=decide (¬x<s.L∧¬s.H<x)
def SR.wid (s:SR):Dyadic:=s.H-s.L
def SR.VF (s:SR):Dyadic:=(s.lo.d+s.hi.d)*m9 (-1)
theorem Rs (x y:Dyadic):MO x y=x∨MO x y=y:=by unfold MO;split<;>simp
theorem Sn (x y:Dyadic):MM x y=x∨MM x y=y:=by unfold MM;split<;>simp
theorem Lf (x y:Dyadic):¬MM x y<MO x y:=by unfold MM MO;split<;>split<;>grind
structure HV (k:Nat) (a:NR):Prop where
 ok:a.ok
 sz:Sz k a.d
def SR.fin (k:Nat) (s:SR):Prop:=HV k s.lo∧HV k s.hi
theorem HV.of {x:Dyadic} (h:Sz k x) (hk:k≤3000000):HV k (nR x):=⟨h.ok Xj,by rw [bI];exact h⟩
theorem SR.GR {s:SR} (h:s.fin k):Sz k s.L:=by
 unfold SR.L
 rcases Rs s.lo.d s.hi.d with e|e<;>rw [e]
 ·exact h.1.sz
 ·exact h.2.sz
theorem SR.MP {s:SR} (h:s.fin k):Sz k s.H:=by
 unfold SR.H
 rcases Sn s.lo.d s.hi.d with e|e<;>rw [e]
 ·exact h.1.sz
 ·exact h.2.sz
theorem SR.PK {s:SR} (h:s.fin k) (hk:k≤3000000):s.f.fin k:=⟨HV.of (SR.GR h) hk,HV.of (SR.MP h) hk⟩
theorem Dh (L:Option Addr) (n c:Nat) (l:List NR) (w:World) (hT:dN w) (hS:Sl w L n 3 (ay NR.cells l)) (hl:∀a∈l,a.ok) (hn:n≤1000000):
  Calls Tryz.prog 159 #[.slice L n c] w fun r w'=>r=.returned (.agg (SR.cells ⟨nR (iP (fun x y=>decide (x<y)) (l.map NR.d)),nR (iP (fun x y=>decide (y<x)) (l.map NR.d))⟩).toArray)∧Below w.heap.size w w':=by
 have hh:=Hp.start w;refine aj (N:=8) (l:=[.slice L n c]) Tryz.func159 rfl rfl (by simp) ?_;refine sr ?_;refine bP hh ?_;intro b2 w2 hh;refine aa (sr (mL ?_));refine bA hh (DT L n c l _ (hT.hp hh) (hS.ext hh.below) hl hn) rfl ?_;intro w4 hh;refine mL ?_;refine bA hh (Ez L n c l _ (hT.hp hh) (hS.ext hh.below) hl hn) rfl ?_;intro w6 hh;refine fP [_,_,_,_,_,_] ?_;exact Tw
theorem vL (s:SR) (w:World) (hT:dN w) (hs:s.ok):
  Calls Tryz.prog 114 #[.agg s.cells.toArray] w fun r w'=>r=.returned (.agg s.f.cells.toArray)∧Below w.heap.size w w':=by
 have hh:=Hp.start w;have hc:=fun L c w1 hT1 hS1=>Dh L 2 c [s.lo,s.hi] w1 hT1 hS1 (by simpa using show s.lo.ok∧s.hi.ok from hs) Xj;simp only [XQ,Ye,L4,MH] at hc;refine aj (N:=10) (l:=[.agg s.cells.toArray]) Tryz.func114 rfl rfl (by simp) ?_;refine sr ?_;refine cv hh [_,_,_,_,_,_] ?_;intro b1 w1 hh;refine bP hh ?_;intro b2 w2 hh;refine aa (sr (bH ?_));refine cg hh 1 [_,_,_] (bH ?_);refine cg hh 1 [_,_,_] ?_;refine sj ?_;intro b7 w7 hh;refine bA hh (hc _ _ _ (hT.hp hh) (hh.aC (i:=0) rfl)) rfl ?_;intro w8 hh;refine fP [_,_,_,_,_,_] ?_;refine bR hh 1 [_,_,_,_,_,_] ?_;intro ws hh;replace hh:Hp _ (_::.blk _ _ [_,_,_,_,_,_] _::_) _:=hh;refine aa (aw ?_);refine Nk (eC rfl (eF (vs:=[_,_,_,_,_,_]) aM.out (hh.bY (i:=1) (n:=6) rfl rfl) rfl) fJ) ?_;exact ⟨rfl,hh.below⟩
theorem zA (s:SR) (w:World) (hT:dN w) (hs:s.ok):
  Calls Tryz.prog 126 #[.agg s.cells.toArray] w fun r w'=>r=.returned (.agg s.f.cells.toArray)∧Below w.heap.size w w':=by
 have hh:=Hp.start w;refine aj (N:=6) (l:=[.agg s.cells.toArray]) Tryz.func126 rfl rfl (by simp) ?_;refine sr ?_;refine cv hh [_,_,_,_,_,_] ?_;intro b1 w1 hh;refine bP hh ?_;intro b2 w2 hh;refine aa (sr ?_);refine cg hh 1 [_,_,_,_,_,_] ?_;refine bA hh (vL s _ (hT.hp hh) hs) rfl ?_;intro w4 hh;refine OA fQ.out aM.out rfl rfl Xk ?_;exact Tw
theorem wy (s:SR) (k:Nat) (w:World) (hT:dN w) (hs:s.fin k) (hk:k≤3000000):
  Calls Tryz.prog 59 #[.agg s.cells.toArray] w fun r w'=>r=.returned (.agg #[.bool (nR s.wid).neg,.string (nR s.wid).bg,.int .i64 (nR s.wid).e])∧Below w.heap.size w w':=by
 have hh:=Hp.start w;have hf:=SR.PK hs hk;have hc:=fun w1 hT1=>kx (nR s.H) (nR s.L) w1 hT1 hf.2.ok hf.1.ok k hf.2.sz hf.1.sz Xj;simp only [bI] at hc;refine aj (N:=13) (l:=[.agg s.cells.toArray]) Tryz.func59 rfl rfl (by simp) ?_;refine sr ?_;refine cv hh [_,_,_,_,_,_] ?_;intro b1 w1 hh;refine bP hh ?_;intro b2 w2 hh;refine aa (sr ?_);refine cg hh 1 [_,_,_,_,_,_] ?_;refine bA hh (vL s _ (hT.hp hh) ⟨hs.1.ok,hs.2.ok⟩) rfl ?_;intro w5 hh;refine bP hh ?_;intro b3 w3 hh;refine bR hh 0 [_,_,_,_,_,_] ?_;intro ws hh;replace hh:Hp _ (.blk _ _ [_,_,_,_,_,_] _::_) _:=hh;refine aa (sr (bH (bH ?_)));refine cg hh 0 [_,_,_] (bH (bH ?_));refine cg hh 0 [_,_,_] ?_;refine bA hh (hc _ (hT.hp hh)) rfl ?_;intro w12 hh;exact Lk
set_option maxRecDepth 100000 in
theorem Dj {H:Type}{enc:TypeId×Value→H}{sp:Nat→Bool}{x:DataW H×List MemPlace} (h:DataW.trod enc Tryz.prog W base sp held fuel 70 cs=some x):
  ∃a:SR,cs=a.cells∧True:=by
 have c0:Tryz.prog.cellsOf 70=6:=by kernel_rfl
 have c1:Tryz.prog.cellsOf 40=3:=by kernel_rfl
 obtain ⟨y0,y1,n,_,hl,h0,h1⟩:=trod_struct2 Tryz.underlying70 h;obtain ⟨a,e0,_⟩:=nK h0;obtain ⟨b,e1,_⟩:=nK h1;rw [c0] at hl
 match cs,hl with
 |[x0,x1,x2,x3,x4,x5],_=>
  simp only [c1] at e0 e1;simp [NR.cells] at e0 e1;obtain ⟨rfl,rfl,rfl⟩:=e0;obtain ⟨rfl,rfl,rfl⟩:=e1;exact ⟨⟨a,b⟩,rfl,trivial⟩
set_option maxRecDepth 100000 in
theorem L3 {H:Type}{enc:TypeId×Value→H}{r:Reach}{sp:Nat→Bool}{v:Value}{d:DataW H}{ps:List MemPlace}
  (hval:Value.okWide Tryz.prog W r b0 26 v) (hd:DataW.Trod enc Tryz.prog W base sp held 26 v d ps):∃(A:Option Addr) (n c:Nat) (l:List SR),v=.slice A n c∧Sl W A n 6 (ay SR.cells l)∧∀a∈l,True:=
 IL SR.len Xk Tryz.underlying26 Xl (fun _ _ _ h=>Dj h) hval hd
def sm {α:Type}:List α→(α→Dyadic)→Dyadic
 |[],_=>0
 |a::l,f=>f a+sm l f
section
variable {α β:Type}
theorem rG (l m:List α) (f:α→Dyadic):sm (l++m) f=sm l f+sm m f:=by
 induction l with
 |nil=>simp [sm,ZF]
 |cons a l ih=>simp only [Xw,sm,ih];grind
theorem jS (l:List α) (a:α) (f:α→Dyadic):sm (l++[a]) f=sm l f+f a:=by
 rw [rG];simp only [sm];grind
theorem bL {l:List α}{f g:α→Dyadic} (h:∀a∈l,f a=g a):sm l f=sm l g:=by
 induction l with
 |nil=>rfl
 |cons a l ih=>rw [sm,sm,h a XB,ih fun b hb=>h b (XD _ hb)]
theorem tF {l:List α}{f:α→Dyadic} (h:∀a∈l,f a=0):sm l f=0:=by
 induction l with
 |nil=>rfl
 |cons a l ih=>rw [sm,h a XB,ih fun b hb=>h b (XD _ hb)];grind
theorem DP (l:List α) (f g:α→Dyadic):sm l (fun a=>f a+g a)=sm l f+sm l g:=by
 induction l with
 |nil=>simp [sm]
 |cons a l ih=>simp only [sm,ih];grind
theorem mz (l:List α) (f:α→Dyadic) (c:Dyadic):sm l (fun a=>f a*c)=sm l f*c:=by
 induction l with
 |nil=>simp only [sm];grind
 |cons a l ih=>simp only [sm,ih];grind
theorem mE (l:List α) (f:α→Dyadic) (c:Dyadic):sm l (fun a=>c*f a)=c*sm l f:=by
 induction l with
 |nil=>simp only [sm];grind
 |cons a l ih=>simp only [sm,ih];grind
theorem u4 (l:List α) (g:α→β) (f:β→Dyadic):sm (l.map g) f=sm l fun a=>f (g a):=by
 induction l with
 |nil=>rfl
 |cons a l ih=>rw [XQ,sm,sm,ih]
theorem tQ (l:List α) (m:List β) (f:α→β→Dyadic):sm l (fun a=>sm m (f a))=sm m fun b=>sm l fun a=>f a b:=by
 induction l with
 |nil=>exact (tF fun b _=>rfl).symm
 |cons a l ih=>simp only [sm];rw [ih,←DP]
theorem He (l:List α) (p:α→Bool) (f:α→Dyadic) (h:∀a∈l,p a=false→f a=0):sm (l.filter p) f=sm l f:=by
 induction l with
 |nil=>rfl
 |cons a l ih=>
  rw [sm,←ih fun b hb=>h b (XD _ hb)]
  cases hp:p a with
  |true=>rw [aa1 hp,sm]
  |false=>rw [aaD (by rw [hp];exact Bool.false_ne_true),h a XB hp];grind
theorem md (n p:Nat) (c:Dyadic):sm (List.range n) (fun q=>if q=p then c else 0)=if p<n then c else 0:=by
 induction n with
 |zero=>rw [Xp Xj];rfl
 |succ n ih=>
  rw [YQ,jS,ih]
  rcases Nat.lt_trichotomy p n with h|h|h
  ·rw [Xo h,Xp (show ¬n=p by omega),Xo (show p<n+1 by omega)];grind
  ·rw [Xp (show ¬p<n by omega),Xo h.symm,Xo (show p<n+1 by omega)];grind
  ·rw [Xp (show ¬p<n by omega),Xp (show ¬n=p by omega),Xp (show ¬p<n+1 by omega)];grind
end
def nZ (N:Nat) (L:List (Nat×Dyadic)):List Dyadic:=(List.range N).map fun p=>sm L fun q=>if q.1=p then q.2 else 0
theorem lh (N:Nat) (L:List (Nat×Dyadic)):(nZ N L).length=N:=by simp [nZ]
theorem u6 (N:Nat):nZ N []=List.replicate N 0:=by
 refine List.ext_getElem (by simp [nZ]) fun i h1 h2=> ?_;simp [nZ,sm]
theorem nT {p:Nat} (L:List (Nat×Dyadic)) (h:p<N):(nZ N L)[p]?=some (sm L fun q=>if q.1=p then q.2 else 0):=by
 unfold nZ;rw [Xx,Yh h]
 rfl
theorem Ig {p:Nat}{L:List (Nat×Dyadic)}{x v:Dyadic} (h:(nZ N L)[p]?=some x):(nZ N L).set p (x+v)=nZ N (L++[(p,v)]):=by
 have hp:p<N:=by have:=(XE.1 h).1;rwa [lh] at this
 rw [nT L hp] at h;refine YG fun i=> ?_;rw [Zw];by_cases hi:p=i
 ·subst hi;rw [Xo rfl,lh,Xo hp,nT _ hp,jS,←Yd h,Xo rfl]
 ·rw [Xp hi];by_cases hin:i<N
  ·rw [nT _ hin,nT _ hin,jS,Xp hi];congr 1;grind
  ·rw [X1 (by rw [lh];omega),X1 (by rw [lh];omega)]
theorem B6 {l:List α}{f:α→Dyadic} (h:∀a∈l,Sz k (f a)):Sz (k+l.length) (sm l f):=by
 induction l with
 |nil=>exact Sz.zero _
 |cons a l ih=>
  have h1:=ih fun b hb=>h b (XD _ hb);have h2:=((h a XB).mono (show k≤k+l.length by omega)).add h1;rw [sm,XR];exact h2.mono Xj
theorem O9 {L:List (Nat×Dyadic)} (h:∀a∈L,Sz k a.2):∀x∈nZ N L,Sz (k+L.length) x:=fun x hx=>by
 obtain ⟨p,_,rfl⟩:=XG.1 hx;refine B6 fun a ha=> ?_;split
 ·exact h a ha
 ·exact Sz.zero _
def au:List Nat→Nat
 |[]=>1
 |d::ds=>(d+1)*au ds
def cZ:List Nat→Nat→List Nat
 |[],_=>[]
 |d::ds,p=>p % (d+1)::cZ ds (p/(d+1))
def eh:List Nat→List Nat→Nat
 |d::ds,r::rs=>r+(d+1)*eh ds rs
 |_,_=>0
def iV:List Nat→List Nat→Prop
 |[],[]=>True
 |d::ds,r::rs=>r≤d∧iV ds rs
 |_,_=>False
theorem cC (ds:List Nat):0<au ds:=by
 induction ds with
 |nil=>exact Nat.one_pos
 |cons d ds ih=>exact Nat.mul_pos Xj ih
theorem AG:∀(ds:List Nat) (p:Nat),(cZ ds p).length=ds.length
 |[],_=>rfl
 |d::ds,p=>by rw [cZ,XR,AG ds,XR]
theorem mh:∀(ds:List Nat) (p:Nat),iV ds (cZ ds p)
 |[],_=>trivial
 |d::ds,p=>⟨by have:=XW p (show 0<d+1 by omega);omega,mh ds _⟩
theorem u3:∀{ds:List Nat}{p:Nat},p<au ds→eh ds (cZ ds p)=p
 |[],p,h=>by
  have:p<1:=h;show 0=p;omega
 |d::ds,p,h=>by
  have h1:p/(d+1)<au ds:=by rw [YR Xj,XY];exact h
  rw [cZ,eh,u3 h1,Z8]
theorem jK:∀{ds rs:List Nat},iV ds rs→eh ds rs<au ds
 |[],[],_=>Nat.one_pos
 |d::ds,r::rs,h=>by
  have h1:=jK h.2;have h2:=h.1;rw [eh,au];have h3:(d+1)*eh ds rs+(d+1)≤(d+1)*au ds:=by
   have:=X4 (d+1) (show eh ds rs+1≤au ds by omega);rw [Yl,XK] at this;exact this
  omega
theorem gM:∀{ds rs:List Nat},iV ds rs→cZ ds (eh ds rs)=rs
 |[],[],_=>rfl
 |d::ds,r::rs,h=>by
  have h2:=h.1;rw [eh,cZ,YW,X5 Xj,Yy _ _ Xj,Yk Xj,XJ,gM h.2]
theorem z4 (d:Nat) (ds:List Nat) (f:Nat→Dyadic):sm (List.range (au (d::ds))) f=sm (List.range (au ds)) fun q=>sm (List.range (d+1)) fun r=>f (r+(d+1)*q):=by
 have key:∀n,sm (List.range ((d+1)*n)) f=sm (List.range n) fun q=>sm (List.range (d+1)) fun r=>f (r+(d+1)*q):=fun n=>by
  induction n with
  |zero=>rfl
  |succ n ih=>
   rw [YQ,jS,←ih,YS,List.range_add,rG,u4];congr 1;exact bL fun a _=>by rw [Zh]
 exact key _
variable {ls:List Int}
def lu (d:Int):List Int:=(List.range (d.toNat+1)).map fun (k:Nat)=>(k:Int)
def eQ:List Int→List (List Int)
 |[]=>[[]]
 |d::ds=>(lu d).flatMap fun k=>(eQ ds).map (k:: ·)
def gh (n:Nat):List Int:=List.replicate n 0
def rF:List Int→List Int→Option (List Int)
 |d::ds,k::l=>match rF ds l with
  |some l'=>some (k::l')
  |none=>if k<d then some ((k+1)::gh l.length) else none
 |_,_=>none
def nX {α:Type} (f:α→Option α):α→List α→Prop
 |a,[b]=>b=a∧f a=none
 |a,b::L=>b=a∧∃c,f a=some c∧nX f c L
 |_,[]=>False
theorem KQ {f:α→Option α}{a:α} (h:f a=none):nX f a [a]:=⟨rfl,h⟩
theorem nq {f:α→Option α}{a c:α}{L:List α} (h:f a=some c) (hL:nX f c L):nX f a (a::L):=by
 cases L with
 |nil=>exact hL.elim
 |cons b L=>exact ⟨rfl,c,h,hL⟩
theorem yi {f:α→Option α}{a:α}{L:List α} (h:nX f a L):(L=[a]∧f a=none)∨∃c L',L=a::L'∧f a=some c∧nX f c L':=by
 match L,h with
 |[b],h=>exact .inl ⟨by rw [h.1],h.2⟩
 |b::c::L,h=>obtain ⟨h1,x,h2,h3⟩:=h;exact .inr ⟨x,c::L,by rw [h1],h2,h3⟩
theorem CN {α β:Type}{f:α→Option α}{g:β→Option β}{e:α→β}{b:List β}{z:Option β} (hs:∀a c,f a=some c→g (e a)=some (e c)) (hn:∀a,f a=none→g (e a)=z)
  (hz:match z with|some c=>nX g c b|none=>b=[]):∀(L:List α) (a:α),nX f a L→nX g (e a) (L.map e++b)
 |[c],a,h=>by
  obtain ⟨h1,h2⟩:=h;subst h1
  cases z with
  |none=>simp only at hz;subst hz;exact KQ (hn _ h2)
  |some x=>exact nq (hn _ h2) hz
 |c::d::L,a,h=>by
  obtain ⟨h1,x,h2,h3⟩:=h;subst h1;exact nq (hs _ _ h2) (CN hs hn hz (d::L) x h3)
theorem Lz (a:Int):∀n:Nat,((List.range (n+1)).map fun (k:Nat)=>a+(k:Int))=a::((List.range n).map fun (k:Nat)=>(a+1)+(k:Int))
 |n=>by
  rw [List.range_succ_eq_map,XQ,Ym];congr 1
  ·simp
  ·apply YZ;intro k _;simp only [Function.comp];omega
theorem Ak {ds:List Int}{k d:Int}{R:List (List Int)} (hk:k<d) (ih:nX (rF (d::ds)) ((k+1)::gh ds.length) R):∀(L':List (List Int)) (a:List Int),(∀l∈L',l.length=ds.length)→nX (rF ds) a L'→nX (rF (d::ds)) (k::a) (L'.map (k:: ·)++R)
 |[c],a,hl,h=>by
  obtain ⟨h1,h2⟩:=h;subst h1;refine nq (c:=(k+1)::gh ds.length) ?_ ih;have:c.length=ds.length:=hl c (by simp);simp [rF,h2,this,hk]
 |c::e::L',a,hl,h=>by
  obtain ⟨h1,x,h2,h3⟩:=h;subst h1;exact nq (c:=k::x) (by simp [rF,h2]) (Ak hk ih (e::L') x (fun l hm=>hl l (XD _ hm)) h3)
theorem xw {ds:List Int} (L:List (List Int)) (hL:nX (rF ds) (gh ds.length) L) (hlen:∀l∈L,l.length=ds.length) (d:Int):∀(n:Nat) (k:Int),k+n=d→
  nX (rF (d::ds)) (k::gh ds.length) (((List.range (n+1)).map fun (j:Nat)=>k+(j:Int)).flatMap fun k=>L.map (k:: ·))
 |0,k,hk=>by
  have hk':k=d:=Xj;subst hk';have:=CN (g:=rF (k::ds)) (e:=fun l=>k::l) (b:=[]) (z:=none) (fun a c h=>by simp [rF,h]) (fun a h=>by simp [rF,h]) rfl L _ hL;simpa using this
 |n+1,k,hk=>by
  rw [Lz,Zu];have ih:=xw L hL hlen d n (k+1) Xj;exact Ak Xj ih L _ hlen hL
theorem lR:∀(ds:List Int) (l:List Int),l∈eQ ds→l.length=ds.length
 |[],l,h=>by simp [eQ] at h;simp [h]
 |d::ds,l,h=>by
  simp only [eQ,Zq,XG] at h;obtain ⟨k,_,l',h2,rfl⟩:=h;simp [lR ds l' h2]
theorem AD:∀ds:List Int,(∀d∈ds,0≤d)→nX (rF ds) (gh ds.length) (eQ ds)
 |[],_=>⟨rfl,rfl⟩
 |d::ds,h=>by
  have h0:=h d XB;have:=xw (eQ ds) (AD ds fun x hx=>h x (XD _ hx)) (lR ds) d d.toNat 0 Xj;simpa [eQ,lu,gh,ZB] using this
theorem rJ (d:Int):∀ds:List Int,eQ (ds++[d])=(eQ ds).flatMap fun p=>(lu d).map fun k=>p++[k]
 |[]=>by simp only [Xu,eQ,Zu,List.flatMap_nil,XZ,XQ,Ye];induction lu d with
  |nil=>rfl
  |cons a l ih=>simp [ih]
 |e::ds=>by
  simp only [Xw,eQ,rJ d ds,List.map_flatMap,List.flatMap_assoc,List.flatMap_map,Ym,Function.comp_def]
theorem rW:∀(ds:List Int),(∀d∈ds,0≤d∧d≤127)→∀l∈eQ ds,l.all cH=true
 |[],_,l,h=>by simp [eQ] at h;simp [h]
 |d::ds,hd,l,h=>by
  simp only [eQ,lu,Zq,XG,XT] at h;obtain ⟨_,⟨k,hk,rfl⟩,l',h2,rfl⟩:=h;have:=hd d XB;rw [List.all_cons,rW ds (fun x hx=>hd x (XD _ hx)) l' h2];simp [cH];omega
theorem rU (d:Int):(lu d).length=d.toNat+1:=by simp [lu]
theorem rH (d:Int) (ds:List Int):(eQ (ds++[d])).length=(eQ ds).length*(d.toNat+1):=by
 rw [rJ,List.length_flatMap];simp only [XA,rU]
 induction eQ ds with
 |nil=>simp
 |cons a l ih=>simp [ih,Zc];omega
def yV:Int→List Int→Bool
 |_,[]=>true
 |n,d::ds=>decide (0≤d) && (decide (d≤127) && (decide (n*(d+1)≤65536) && yV (n*(d+1)) ds))
def fX (l:List Int):ByteArray:=str (l.map zU)
def zF (ds:List Int):List ByteArray:=if yV 1 ds then (eQ ds).map fX else []
theorem Cp:∀ds:List Int,0<(eQ ds).length
 |[]=>by simp [eQ]
 |d::ds=>by
  simp only [eQ,lu,List.length_flatMap];rw [List.range_succ_eq_map];have:=Cp ds;simp;omega
theorem I1:∀(ds:List Int) (n:Int),yV n ds=true→∀d∈ds,0≤d∧d≤127
 |[],_,_,d,h=>by simp at h
 |e::ds,n,h,d,hd=>by
  simp only [yV,XF,XN] at h
  rcases XL.1 hd with rfl|hd
  ·exact ⟨h.1,h.2.1⟩
  ·exact I1 ds _ h.2.2.2 d hd
theorem Ln {ds:List Int}{d n:Int} (hk:ds[k]?=some d) (h:yV 1 ds=yV n (ds.drop k)) (hb:(0≤d∧d≤127)∧n*(d+1)≤65536):
  yV 1 ds=yV (n*(d+1)) (ds.drop (k+1)):=by
 obtain ⟨hlt,he⟩:=XE.1 hk;rw [h,YH hlt,he];simp [yV,hb.1.1,hb.1.2,hb.2]
theorem Cf {ds:List Int}{d n:Int} (hk:ds[k]?=some d) (h:yV 1 ds=yV n (ds.drop k)) (hb:¬((0≤d∧d≤127)∧n*(d+1)≤65536)):yV 1 ds=false:=by
 obtain ⟨hlt,he⟩:=XE.1 hk;rw [h,YH hlt,he];simp only [yV,aaN,Z3]
 rcases Classical.em (0≤d) with h1|h1<;>rcases Classical.em (d≤127) with h2|h2
 ·exact .inr (.inr (.inl Xj))
 ·exact .inr (.inl h2)
 ·exact .inl h1
 ·exact .inl h1
theorem lK {ds:List Int}{d:Int} (hk:ds[k]?=some d) (h0:0≤d):((eQ (ds.take (k+1))).length:Int)=(eQ (ds.take k)).length*(d+1):=by
 rw [az hk,rH,YB];congr 1;omega
def gX (d:Int) (s:ByteArray):List ByteArray:=(lu d).map fun q=>s++str [zU q]
theorem KB (d k:Int):∀(ps es:List Int) (ds ls:List Int),ps.length=es.length→rF ds ls=none→rF (es++d::ds) (ps++k::ls)=if k<d then some (ps++(k+1)::gh ls.length) else rF (es++d::ds) (ps++k::ls)
 |[],[],ds,ls,_,h=>by
  simp only [Xu,rF,h];split<;>rfl
 |p::ps,e::es,ds,ls,hl,h=>by
  have ih:=KB d k ps es ds ls (by simpa using hl) h;split
  ·rename_i hk;rw [Xo hk] at ih;simp only [Xw,rF,ih]
  ·rfl
 |[],_::_,_,_,hl,_=>by simp at hl
 |_::_,[],_,_,hl,_=>by simp at hl
theorem Jn {d k:Int}{ds:List Int} (h:rF ds ls=none) (hk:¬k<d):rF (d::ds) (k::ls)=none:=by
 simp [rF,h,hk]
theorem Hp.swap {x y:HE}{H:List HE} (h:Hp w0 (x::y::H) w):Hp w0 (y::x::H) w:=h.perm (.swap y x H)
def nY (ls:List Int) (k n:Nat):List Int:=ls.take k++gh (n-k)
theorem L0 (h:ls.length=n):nY ls n n=ls:=by
 unfold nY;rw [Xz Xj,Yq];simp [gh]
theorem Ny (h:ls.length=n) (hk:k≤n):(nY ls k n).length=n:=by
 simp [nY,gh];omega
theorem RQ {x:Int} (hx:ls[k]?=some x):(nY ls (k+1) n)[k]?=some x:=by
 have hlt:=(XE.1 hx).1;unfold nY;rw [ZN (by simp;omega),YL];simp [hx]
theorem E3 (y:Int) (h:ls.length=n) (hk:k<n):cm (bu (nY ls (k+1) n)) k [.int .i64 y]=bu (ls.take k++y::gh (n-(k+1))):=by
 have e1:(nY ls (k+1) n).take k=ls.take k:=by
  unfold nY;rw [aaX (by simp;omega),aan];congr 1;omega
 have e2:(nY ls (k+1) n).drop (k+1)=gh (n-(k+1)):=by
  unfold nY;have hl:(ls.take (k+1)).length=k+1:=by simp;omega
  rw [List.drop_append,hl,Zj Xj];simp
 simp only [cm,bu,←Zx,←Zr,XR,aae,XJ,e1,e2];simp
theorem LS (hk:k<n):ls.take k++0::gh (n-(k+1))=nY ls k n:=by
 unfold nY gh;rw [show n-k=(n-(k+1))+1 by omega,ZB]
theorem LD {ds:List Int}{d x:Int} (hd:ds.length=n) (hl:ls.length=n) (hdk:ds[k]?=some d) (hlk:ls[k]?=some x) (h:rF (ds.drop (k+1)) (ls.drop (k+1))=none) (hx:x<d):
  rF ds ls=some (ls.take k++(x+1)::gh (n-(k+1))):=by
 obtain ⟨h1,h2⟩:=XE.1 hdk;obtain ⟨h3,h4⟩:=XE.1 hlk;have:=KB d x (ls.take k) (ds.take k) _ _ (by simp;omega) h;rw [Xo hx] at this;have e1:ds.take k++d::ds.drop (k+1)=ds:=by rw [←h2,←YH h1,Yg]
 have e2:ls.take k++x::ls.drop (k+1)=ls:=by rw [←h4,←YH h3,Yg]
 rw [e1,e2] at this;rw [this,Yz,hl]
theorem Mn {ds:List Int}{d x:Int} (hdk:ds[k]?=some d) (hlk:ls[k]?=some x) (h:rF (ds.drop (k+1)) (ls.drop (k+1))=none) (hx:¬x<d):rF (ds.drop k) (ls.drop k)=none:=by
 obtain ⟨h1,h2⟩:=XE.1 hdk;obtain ⟨h3,h4⟩:=XE.1 hlk;rw [YH h1,YH h3,h2,h4];exact Jn h hx
theorem As (h:ls.all cH=true) {x:Int} (hx:ls[k]?=some x):0≤x∧x≤127:=by
 have:=XI.1 h x (Xt hx);simpa [cH] using this
variable {ds rs:List Nat}
def bin:Nat→Nat→Nat
 |_,0=>1
 |0,_+1=>0
 |n+1,k+1=>bin n k+bin n (k+1)
theorem qu (n:Nat):bin n 0=1:=by cases n<;>rfl
theorem tL:∀{n k:Nat},n<k→bin n k=0
 |0,k+1,_=>rfl
 |n+1,k+1,h=>by rw [bin,tL (show n<k by omega),tL (show n<k+1 by omega)]
theorem CO:∀n,bin n n=1
 |0=>rfl
 |n+1=>by rw [bin,CO n,tL (show n<n+1 by omega)]
theorem zN:∀n k:Nat,bin n k≤2^n
 |n,0=>by rw [qu];exact X7 Xk
 |0,k+1=>Xs _
 |n+1,k+1=>by
  have h1:=zN n k;have h2:=zN n (k+1);rw [bin,Yj];omega
def te (n:Nat):List Nat:=(List.range (n+1)).map (bin n)
theorem uK (n:Nat):(te n).length=n+1:=by simp [te]
theorem yC (h:k≤n):(te n)[k]?=some (bin n k):=by
 unfold te;exact Jc
def nD (n:Nat):Dyadic:=((n:Int):Dyadic)
theorem tr:nD 0=0:=rfl
theorem vX:nD 1=1:=rfl
theorem z7 (a b:Nat):nD (a+b)=nD a+nD b:=by
 show Dyadic.ofIntWithPrec ((a+b:Nat):Int) 0=Dyadic.ofIntWithPrec (a:Int) 0+Dyadic.ofIntWithPrec (b:Int) 0;rw [zd,Zm]
theorem SP (a b:Nat):nD (a*b)=nD a*nD b:=by
 induction a with
 |zero=>rw [Z0,tr];grind
 |succ a ih=>rw [Yw,z7,z7,ih,vX];grind
theorem Jz (h:n<2^k):Sz k (nD n):=by
 refine ⟨(n:Int)*2^k, ?_, ?_⟩
 ·have:=rA (n:Int) 0 k;rw [show (0:Int)+(k:Int)=k by omega] at this;rw [this]
  rfl
 ·rw [Zz,Z7,Int.natAbs_natCast,show 2*k=k+k by omega,XS];exact ZW h (X7 Xk)
theorem oU {α β:Type}{m:Nat} (hm:0<m) (g:α→List β):∀(l:List α) (p:Nat),(∀a∈l,(g a).length=m)→(l.flatMap g)[p]?=(l[p/m]?).bind fun a=>(g a)[p % m]?
 |[],p,_=>by simp
 |a::l,p,h=>by
  have ha:=h a XB;rw [Zu];by_cases hp:p<m
  ·rw [ZN Xj,Yk hp,X5 hp]
   rfl
  ·obtain ⟨q,rfl⟩:∃q,p=q+m:=⟨p-m,Xj⟩;rw [YD Xj,ha,Nat.add_sub_cancel,oU hm g l q fun b hb=>h b (XD _ hb),Nat.add_div_right _ hm,Nat.add_mod_right,aaa]
theorem sf {α β:Type}{m:Nat} (g:α→List β):∀(l:List α),(∀a∈l,(g a).length=m)→(l.flatMap g).length=l.length*m
 |[],_=>by simp
 |a::l,h=>by
  rw [Zu,Xy,h a XB,sf g l fun b hb=>h b (XD _ hb),XR,Yw,Zh]
def bM (l:List Nat):List Int:=l.map fun (n:Nat)=>(n:Int)
theorem ko (l:List Nat):(bM l).length=l.length:=by simp [bM]
theorem gN {l:List Nat}{i:Nat} (h:l[i]?=some n):(bM l)[i]?=some (n:Int):=by simp [bM,h]
theorem vc:∀(rs:List Nat),(eQ (bM rs.reverse)).length=au rs∧∀p,p<au rs→(eQ (bM rs.reverse))[p]?=some (bM (cZ rs p).reverse)
 |[]=>⟨rfl,fun p h=>by obtain rfl:p=0:=(by have h2:p<1:=h;omega);rfl⟩
 |d::rs=>by
  obtain ⟨h1,h2⟩:=vc rs;have e1:bM (d::rs).reverse=bM rs.reverse++[(d:Int)]:=by simp [bM]
  have hu:(lu (d:Int)).length=d+1:=by rw [rU];simp
  have hg:∀a∈eQ (bM rs.reverse),((lu (d:Int)).map fun k=>a++[k]).length=d+1:=fun a _=>by rw [XA,hu]
  rw [e1,rJ];refine ⟨by rw [sf _ _ hg,h1,au,XY],fun p hp=> ?_⟩;have hq:p/(d+1)<au rs:=by rw [YR Xj,XY];exact hp
  have hr:p % (d+1)<d+1:=XW _ Xj;rw [oU Xj _ _ _ hg,h2 _ hq];show ((lu (d:Int)).map fun k=>bM (cZ rs (p/(d+1))).reverse++[k])[p % (d+1)]?=_;rw [Xx,lu,Xx,Yh (by simpa using hr)];simp [cZ,bM]
theorem L7 (ds:List Nat):(eQ (bM ds)).length=au ds.reverse:=by
 have:=(vc ds.reverse).1;rwa [ZK] at this
theorem OK {p:Nat} (h:p<au ds.reverse):(eQ (bM ds))[p]?=some (bM (cZ ds.reverse p).reverse):=by
 have:=(vc ds.reverse).2 p h;rwa [ZK] at this
theorem l9:∀{ds rs:List Nat},iV ds rs→rs.length=ds.length
 |[],[],_=>rfl
 |_::_,_::_,h=>by rw [XR,XR,l9 h.2]
theorem Bu {i d r:Nat} (hd:ds[i]?=some d) (hr:rs[i]?=some r):eh (ds.take (i+1)).reverse (rs.take (i+1)).reverse=r+(d+1)*eh (ds.take i).reverse (rs.take i).reverse:=by
 rw [az hd,az hr];simp [eh]
theorem BJ {i d:Nat} (hd:ds[i]?=some d):au (ds.take (i+1)).reverse=(d+1)*au (ds.take i).reverse:=by
 rw [az hd];simp [au]
theorem de (a b:List Nat):au (a++b)=au a*au b:=by
 induction a with
 |nil=>simp [au]
 |cons d a ih=>rw [Xw,au,au,ih,Yp]
theorem cD (ds:List Nat):au ds.reverse=au ds:=by
 induction ds with
 |nil=>rfl
 |cons d ds ih=>rw [ZP,de,ih,au,au,au,XK,XY]
theorem ij (ds:List Nat) (i:Nat):au (ds.take i)≤au ds:=by
 have:ds=ds.take i++ds.drop i:=(Yg i ds).symm
 calc au (ds.take i)=au (ds.take i)*1:=(XK _).symm
  _≤au (ds.take i)*au (ds.drop i):=X4 _ (cC _)
  _=au ds:=by rw [←de,Yg]
theorem jI (A:Option Addr) (n c:Nat) (ds:List Int) (w:World) (hS:Sl w A n 1 (bu ds)) (hn:n≤1000000):
  Calls Tryz.prog 45 #[.slice A n c] w fun r w'=>∃B c',r=.returned (.slice B n c')∧w'.ownsRow w.heap.size 3 1 (.slice B n c') n (bu ds)∧Below w.heap.size w w':=by
 have hh:=Hp.start w
 rcases A with _|ad
 ·have hn0:n=0:=by
   exact SG
  subst hn0;have hl:ds=[]:=Y0 (by simpa [bu] using hS.1);subst hl;refine aj (N:=8) (l:=[.slice none 0 c]) Tryz.func45 rfl rfl (by simp) ?_;exact Sg
 ·refine aj (N:=8) (l:=[.slice (some ad) n c]) Tryz.func45 rfl rfl (by simp) ?_;refine sr (aL (aa (ah (sr (mL ?_)))));refine tu bh.out rfl rfl Xk ?_;refine oJ ?_;refine Br ?_;intro b5 w5 hh;refine mL ?_;refine cw hh (i:=0) rfl rfl rfl (hS.ext hh.below) bh.out aM.out rfl Xk ?one3 Xj Xj Xk ?kk3
  case one3=>first|rfl|assumption|exact bF _|exact oneCells_u8s _
  exact J5
theorem zK (A:Option Addr) (n c:Nat) (xs:List NR) (w:World) (hS:Sl w A n 3 (ay NR.cells xs)) (hn:n≤1000000):
  Calls Tryz.prog 106 #[.slice A n c] w fun r w'=>∃B c',r=.returned (.slice B n c')∧w'.ownsRow w.heap.size 40 3 (.slice B n c') n (ay NR.cells xs)∧Below w.heap.size w w':=by
 have hh:=Hp.start w
 rcases A with _|ad
 ·have hn0:n=0:=by
   exact SG
  subst hn0;have hl:xs=[]:=Y0 (by have:=hS.bp NR.len Xk;omega);subst hl;refine aj (N:=8) (l:=[.slice none 0 c]) Tryz.func106 rfl rfl (by simp) ?_;exact Sg
 ·have hone:((ay NR.cells xs).all Value.oneCell')=true:=bT NR.one _;refine aj (N:=8) (l:=[.slice (some ad) n c]) Tryz.func106 rfl rfl (by simp) ?_;refine sr (aL (aa (ah (sr (mL ?_)))));refine tu bh.out rfl rfl Xk ?_;refine oJ ?_;refine Br ?_;intro b5 w5 hh;refine mL ?_;refine cw hh (i:=0) rfl rfl rfl (hS.ext hh.below) bh.out aM.out rfl Xk ?one4 Xj Xj Xk ?kk4
  case one4=>first|rfl|assumption|exact bF _|exact oneCells_u8s _
  exact J5
theorem EC (A:Option Addr) (n c:Nat) (l:List Int) (g:FuncId) (cap:List Value) (p:Int→Bool) (w:World) (hS:Sl w A n 1 (bu l)) (hn:n≤1000000) [ar Tryz.prog g]
  (hg:∀(z:Int) (w1:World),z∈l→Below w.heap.size w w1→Calls Tryz.prog g (.int .i64 z::cap).toArray w1 fun r w'=>r=.returned (.bool (p z))∧Below w1.heap.size w1 w'):
  Calls Tryz.prog 115 #[.slice A n c,.func (.func g) #[] cap.toArray] w fun r w'=>∃v,r=.returned (.int .i64 v)∧(0≤v↔l.any p=true)∧Below w.heap.size w w':=by
 have hh:=Hp.start w;have hln:l.length=n:=by have:=hS.1;simpa [bu] using this
 refine aj (N:=19) (l:=[.slice A n c,.func (.func g) #[] cap.toArray]) Tryz.func115 rfl rfl (by simp) ?_;refine Bx ?_;refine aR [4,5,8,9,10,11,12,13,14,15,16,17,18] 8
  (fun v w'=>∃i:Nat,i≤n∧v=.int .i64 i∧(l.take i).any p=false∧Hp w [] w')
  (fun v _=>n-(intOf v).toNat) ?_ ?_
 ·exact ⟨0,Xs _,rfl,rfl,hh⟩
 ·clear hh;rintro ρ' v w' ⟨i,hi,rfl,hall,hh⟩;by_cases hlt:i<n
  ·obtain ⟨z,hz⟩:=ak (l:=l) (k:=i) Xj;have hgi:=ck hz;obtain ⟨ad,rfl,hr⟩:=hS.at_ Xj;have hc:=fun w1=>hg z w1 (Xt hz)
   cases gz:p z with
   |true=>
    rw [gz] at hc;refine sr ?_;refine sv ?_;refine iQ ?_;refine mL (mI ?_);refine cx ?_;refine vy ?_;exact SQ
   |false=>
    rw [gz] at hc;refine sr ?_;refine sv ?_;refine iQ ?_;refine mL (mI ?_);refine cx ?_;refine vy ?_;exact Fc
  ·exact SL
theorem De (A:Option Addr) (n c:Nat) (l:List Int) (g:FuncId) (cap:List Value) (p:Int→Bool) (w:World) (hS:Sl w A n 1 (bu l)) (hn:n≤1000000) [ar Tryz.prog g]
  (hg:∀(z:Int) (w1:World),z∈l→Below w.heap.size w w1→Calls Tryz.prog g (.int .i64 z::cap).toArray w1 fun r w'=>r=.returned (.bool (p z))∧Below w1.heap.size w1 w'):
  Calls Tryz.prog 60 #[.slice A n c,.func (.func g) #[] cap.toArray] w fun r w'=>r=.returned (.bool (l.any p))∧Below w.heap.size w w':=by
 have hh:=Hp.start w;refine aj (N:=9) (l:=[.slice A n c,.func (.func g) #[] cap.toArray]) Tryz.func60 rfl rfl (by simp) ?_;refine sr (aB (aa (sr (mL ?_))));refine iQ ?_;refine aF (EC A n c l g cap p _ (hS.ext hh.below) hn hg) ar.out rfl Xk ?_;exact Rz
theorem Ej (A:Option Addr) (n c:Nat) (l:List NR) (g:FuncId) (cap:List Value) (p:NR→Bool) (w:World) (hS:Sl w A n 3 (ay NR.cells l)) (hn:n≤1000000) [ar Tryz.prog g]
  (hg:∀(z:NR) (w1:World),z∈l→Below w.heap.size w w1→Calls Tryz.prog g (.agg #[.bool z.neg,.string z.bg,.int .i64 z.e]::cap).toArray w1 fun r w'=>r=.returned (.bool (p z))∧Below w1.heap.size w1 w'):
  Calls Tryz.prog 116 #[.slice A n c,.func (.func g) #[] cap.toArray] w fun r w'=>∃v,r=.returned (.int .i64 v)∧(0≤v↔l.any p=true)∧Below w.heap.size w w':=by
 have hh:=Hp.start w;have hln:=hS.bp NR.len Xk;refine aj (N:=19) (l:=[.slice A n c,.func (.func g) #[] cap.toArray]) Tryz.func116 rfl rfl (by simp) ?_;refine Bx ?_;refine aR [4,5,8,9,10,11,12,13,14,15,16,17,18] 8
  (fun v w'=>∃i:Nat,i≤n∧v=.int .i64 i∧(l.take i).any p=false∧Hp w [] w')
  (fun v _=>n-(intOf v).toNat) ?_ ?_
 ·exact ⟨0,Xs _,rfl,rfl,hh⟩
 ·clear hh;rintro ρ' v w' ⟨i,hi,rfl,hall,hh⟩;by_cases hlt:i<n
  ·obtain ⟨z,hz⟩:=ak (l:=l) (k:=i) Xj;obtain ⟨ad,rfl,hr⟩:=hS.at_ Xj;have hc:=fun w1=>hg z w1 (Xt hz)
   cases gz:p z with
   |true=>
    rw [gz] at hc;refine sr ?_;refine sv ?_;refine iQ ?_;refine mL (mI ?_);refine cx ?_;refine cq (vs:=[_,_,_]) aM.out rfl ((hr.ext hh.below).recAt NR.len hz) rfl Xk ?_;exact SQ
   |false=>
    rw [gz] at hc;refine sr ?_;refine sv ?_;refine iQ ?_;refine mL (mI ?_);refine cx ?_;refine cq (vs:=[_,_,_]) aM.out rfl ((hr.ext hh.below).recAt NR.len hz) rfl Xk ?_;exact Fc
  ·exact SL
theorem Dm (A:Option Addr) (n c:Nat) (l:List NR) (g:FuncId) (cap:List Value) (p:NR→Bool) (w:World) (hS:Sl w A n 3 (ay NR.cells l)) (hn:n≤1000000) [ar Tryz.prog g]
  (hg:∀(z:NR) (w1:World),z∈l→Below w.heap.size w w1→Calls Tryz.prog g (.agg #[.bool z.neg,.string z.bg,.int .i64 z.e]::cap).toArray w1 fun r w'=>r=.returned (.bool (p z))∧Below w1.heap.size w1 w'):
  Calls Tryz.prog 62 #[.slice A n c,.func (.func g) #[] cap.toArray] w fun r w'=>r=.returned (.bool (l.any p))∧Below w.heap.size w w':=by
 have hh:=Hp.start w;refine aj (N:=9) (l:=[.slice A n c,.func (.func g) #[] cap.toArray]) Tryz.func62 rfl rfl (by simp) ?_;refine sr (aB (aa (sr (mL ?_))));refine iQ ?_;refine aF (Ej A n c l g cap p _ (hS.ext hh.below) hn hg) ar.out rfl Xk ?_;exact Rz
variable {xs:List Dyadic}
def g7:Int→List Int→Int
 |n,[]=>n
 |n,d::ds=>if d<0∨127<d∨4096<n*(d+1) then 0 else g7 (n*(d+1)) ds
def yw:Int→List Int→Int
 |n,[]=>n
 |n,d::ds=>yw (min (n*(d+1)) 4097) ds
def Iv (ds:List Int):Int:=if ds.any (fun d=> !cH d) then -1 else yw 1 ds
def wq (a:NR):Bool:= !(((nR a.d).neg==a.neg && (nR a.d).bg==a.bg) && (nR a.d).e==a.e)
theorem qw {a:NR}:wq a=false↔nR a.d=a:=by
 unfold wq;rw [Bool.not_eq_false',nU]
def fE (ds:List Int) (cs:List NR):Int:=
 if 12<ds.length∨ds.any (fun d=> !cH d)=true then 1 else if g7 1 ds=0 then 3 else if (cs.length:Int)≠g7 1 ds then 1 else if cs.any wq=true then 1 else 0
theorem xF {ds:List Int} (h:ds.any (fun d=> !cH d)=false):∃ns:List Nat,ds=bM ns∧∀n∈ns,n≤127:=by
 refine ⟨ds.map Int.toNat, ?_,fun n hn=> ?_⟩
 ·unfold bM;rw [Ym];refine (aaw ds).symm.trans (YZ fun d hd=> ?_);have:=Zf.1 h d hd;simp [cH] at this;show d=((d.toNat:Nat):Int);omega
 ·obtain ⟨d,hd,rfl⟩:=XG.1 hn;have:=Zf.1 h d hd;simp [cH] at this;omega
theorem uX {ns:List Nat} (h:∀n∈ns,n≤127):(bM ns).any (fun d=> !cH d)=false:=by
 rw [Zf];intro d hd;obtain ⟨n,hn,rfl⟩:=XG.1 hd;have:=h n hn;simp [cH];omega
theorem kv:∀(ns:List Nat) (n:Nat),1≤n→n≤4096→(∀d∈ns,d≤127)→g7 n (bM ns)=if n*au ns≤4096 then ((n*au ns:Nat):Int) else 0
 |[],n,_,h,_=>by show (n:Int)=_;rw [au,XK,Xo h]
 |d::ns,n,h1,h2,h3=>by
  show (if (d:Int)<0∨127<(d:Int)∨4096<(n:Int)*((d:Int)+1) then 0 else g7 ((n:Int)*((d:Int)+1)) (bM ns))=_;have hd:=h3 d XB;have e1:(n:Int)*((d:Int)+1)=((n*(d+1):Nat):Int):=by rw [YB,Zm];rfl
  rw [e1];by_cases hg:n*(d+1)≤4096
  ·rw [Xp Xj,kv ns (n*(d+1)) (Nat.mul_pos h1 Xj) hg fun x hx=>h3 x (XD _ hx),au,Yp]
  ·have h4:n*(d+1)*1≤n*(d+1)*au ns:=X4 _ (cC ns);rw [Xo Xj,Xp];rw [au,←Yp];omega
theorem BQ:∀(ns:List Nat) (n:Nat),1≤n→n≤4097→yw n (bM ns)=((min (n*au ns) 4097:Nat):Int)
 |[],n,_,h=>by show (n:Int)=_;rw [au,XK,Ys h]
 |d::ns,n,h1,h2=>by
  show yw (min ((n:Int)*((d:Int)+1)) 4097) (bM ns)=_;have e1:min ((n:Int)*((d:Int)+1)) 4097=((min (n*(d+1)) 4097:Nat):Int):=by
   have:(n:Int)*((d:Int)+1)=((n*(d+1):Nat):Int):=by rw [YB,Zm];rfl
   rw [this];omega
  have hp:=Nat.mul_pos h1 (show 0<d+1 by omega);rw [e1,BQ ns _ Xj Xj,au,←Yp];by_cases hg:n*(d+1)≤4097
  ·rw [Ys hg]
  ·have h4:n*(d+1)*1≤n*(d+1)*au ns:=X4 _ (cC ns);have h5:4097*1≤4097*au ns:=X4 _ (cC ns);rw [Nat.min_eq_right (by omega:4097≤n*(d+1)),Nat.min_eq_right Xj,Nat.min_eq_right Xj]
theorem Ge:∀(ds:List Int) (n:Int),1≤n→n≤4096→0≤g7 n ds∧g7 n ds≤4096
 |[],n,_,h=>by show 0≤n∧n≤4096;omega
 |d::ds,n,h1,h2=>by
  rw [g7];split
  ·omega
  ·rename_i hg;have:1*1≤n*(d+1):=aat h1 Xj Xk Xj;exact Ge ds _ Xj Xj
structure FV (ds:List Int) (cs:List NR) (ns:List Nat) (xs:List Dyadic):Prop where
 Xe:ds=bM ns
 num:cs=xs.map nR
 QX:ns.length≤12
 low:∀n∈ns,n≤127
 len:xs.length=au ns
 max:au ns≤4096
theorem TF {ds:List Int}{cs:List NR} (h:fE ds cs=0):∃ns xs,FV ds cs ns xs∧xs=cs.map NR.d:=by
 unfold fE at h;split at h
 ·cases h
 rename_i h1;split at h
 ·cases h
 rename_i h2;split at h
 ·cases h
 rename_i h3;split at h
 ·cases h
 rename_i h4;have hb:ds.any (fun d=> !cH d)=false:=by
  cases hx:ds.any (fun d=> !cH d) with
  |false=>rfl
  |true=>exact absurd (.inr hx) h1
 obtain ⟨ns,rfl,hl⟩:=xF hb;have hc:=kv ns 1 Xk Xk hl;rw [Zd] at hc;have hc1:g7 ((1:Nat):Int) (bM ns)=g7 1 (bM ns):=rfl;rw [hc1] at hc;have hmax:au ns≤4096:=by
  apply Zn;intro hg;rw [Xp hg] at hc;exact h2 hc
 rw [Xo hmax] at hc;have hlen:cs.length=au ns:=by
  have:(cs.length:Int)=g7 1 (bM ns):=Y5.1 h3;rw [hc] at this;omega
 refine ⟨ns,cs.map NR.d,⟨rfl, ?_,(by have h2:¬12<(bM ns).length:=fun h=>h1 (.inl h);rw [ko] at h2;omega),hl,by rw [XA,hlen],hmax⟩,rfl⟩;rw [Ym];refine (aaw cs).symm.trans (YZ fun a ha=> ?_);have h5:wq a=false:=by
  cases hx:wq a with
  |false=>rfl
  |true=>exact absurd (Zb.2 ⟨a,ha,hx⟩) h4
 exact (qw.1 h5).symm
theorem FV.ok {ds:List Int}{cs:List NR}{ns:List Nat} (h:FV ds cs ns xs):fE ds cs=0:=by
 obtain ⟨rfl,rfl,h1,h2,h3,h4⟩:=h;have hc:=kv ns 1 Xk Xk h2;rw [Zd,Xo h4] at hc;have hc1:g7 ((1:Nat):Int) (bM ns)=g7 1 (bM ns):=rfl;rw [hc1] at hc;have hp:=cC ns;unfold fE;rw [Xp,Xp Xj,Xp (by rw [XA];omega),Xp]
 ·rw [Zb];rintro ⟨a,ha,hx⟩;obtain ⟨x,_,rfl⟩:=XG.1 ha;have:wq (nR x)=false:=qw.2 (by rw [bI]);rw [this] at hx
  cases hx
 ·rw [ko,uX h2];rintro (h|h)
  ·omega
  ·cases h
theorem eI (A:Option Addr) (n c:Nat) (ds:List Int) (w:World) (hS:Sl w A n 1 (bu ds)) (hn:n≤1000000):
  Calls Tryz.prog 46 #[.slice A n c] w fun r w'=>r=.returned (.int .i64 (g7 1 ds))∧Below w.heap.size w w':=by
 have hh:=Hp.start w;have hln:ds.length=n:=by have:=hS.1;simpa [bu] using this
 refine aj (N:=31) (l:=[.slice A n c]) Tryz.func46 rfl rfl (by simp) ?_;refine sr (aI (aa (sr (aI (aa (ah (sr (mL (aH (mI (aa (ao ?_))))))))))));refine bK [2,3,5,8,9,10,11,12,13,14,15,16,17,18,19,20,21,22,23,24,25,26,27,28,29] 3 8
  (fun v3 v w'=>∃(i:Nat) (q:Int),i≤n∧v=.int .i64 i∧v3=.int .i64 q∧1≤q∧q≤4096∧g7 1 ds=g7 q (ds.drop i)∧Hp w [] w')
  (fun _ v _=>n-(intOf v).toNat) ?_ ?_
 ·exact ⟨0,1,Xs _,rfl,rfl,Xj,Xj,rfl,hh⟩
 ·clear hh;rintro ρ' v3 v w' ⟨i,q,hi,rfl,rfl,hq1,hq2,hc,hh⟩;by_cases hlt:i<n
  ·obtain ⟨d,hd⟩:=ak (l:=ds) (k:=i) Xj;have hgi:=ck hd;obtain ⟨ad,rfl,hr⟩:=hS.at_ Xj;rw [gm hd,g7] at hc;by_cases h1:d<0
   ·rw [Xo (.inl h1)] at hc;refine sr ?_;refine dT ?_;refine cx ?_;refine vy ?_;refine aI (aa (ah (sr (mI ?_))));refine bf (mB ?_);refine gS (gS ?_);refine eR ?_;refine mB ?_;refine gS (gS (gS (gS (gS ?_))));refine eR ?_;exact S7
   ·by_cases h2:127<d
    ·rw [Xo (.inr (.inl h2))] at hc;refine sr ?_;refine dT ?_;refine cx ?_;refine vy ?_;refine aI (aa (ah (sr (mI ?_))));refine bf (mB (gT (mI (gT ?_))));refine cj ?_;refine ez ?_;refine mB ?_;refine gS (gS (gS (gS (gS ?_))));refine eR ?_;exact S7
    ·have hm1:1*1≤q*(d+1):=aat hq1 Xj Xk Xj;have hm2:q*(d+1)≤4096*128:=aat hq2 Xj Xj Xk;by_cases h3:4096<q*(d+1)
     ·rw [Xo (.inr (.inr h3))] at hc;refine sr ?_;refine dT ?_;refine cx ?_;refine vy ?_;refine aI (aa (ah (sr (mI ?_))));refine bf (mB (gT (mI (gT ?_))));refine cj ?_;refine ez ?_;refine mB (gT (mI (gT (mI (gT ?_)))));refine bk (gT ?_);refine mulC (gT ?_);refine cj ?_;refine ez ?_;exact S7
     ·rw [Xp Xj] at hc;refine sr ?_;refine dT ?_;refine cx ?_;refine vy ?_;refine aI (aa (ah (sr (mI ?_))));refine bf (mB (gT (mI (gT ?_))));refine cj ?_;refine ez ?_;refine mB (gT (mI (gT (mI (gT ?_)))));refine bk (gT ?_);refine mulC (gT ?_);refine cj ?_;refine ez ?_;refine aa (cF (aq (ai (al (mI (mI ?_))))));refine bk ?_;refine mulC (aI (aA (bz (ai (al ?_)))));refine bk (mI (aA (ai ?_)));refine ⟨⟨i+1,_,Xj,rfl,rfl,Xj,Xj,hc,hh⟩,by show n-(i+1)<n-i;omega, ?_⟩;exact dV
  ·rw [Zj Xj] at hc;refine sr ?_;refine bf (aa (ah (cF (a6 (aE (aE (bq (ai (sr (mI (aI (aa (aw ?_)))))))))))));refine df ?_;exact ⟨by rw [hc];rfl,hh.below⟩
theorem C4 (d:Int) (w:World):
  Calls Tryz.prog 61 #[.int .i64 d] w fun r w'=>r=.returned (.bool (!cH d))∧Below w.heap.size w w':=by
 have hh:=Hp.start w;by_cases h1:d<0
 ·refine aj (N:=9) (l:=[.int .i64 d]) Tryz.func61 rfl rfl (by simp) ?_;refine sr (aB (aa (sr (mI ?_))));refine bf (mB ?_);refine gS (gS ?_);refine eR ?_;refine aB (aa (aw ?_));refine df ?_;refine ⟨?_,hh.below⟩;unfold cH;rw [XM (show ¬0≤d by omega)]
  rfl
 ·by_cases h2:127<d
  ·refine aj (N:=9) (l:=[.int .i64 d]) Tryz.func61 rfl rfl (by simp) ?_;refine sr (aB (aa (sr (mI ?_))));refine bf (mB (gT (mI (gT ?_))));refine cj ?_;refine ez ?_;refine aB (aa (aw ?_));refine df ?_;refine ⟨?_,hh.below⟩;unfold cH;rw [XM (show ¬d≤127 by omega),Bool.and_false]
   rfl
  ·refine aj (N:=9) (l:=[.int .i64 d]) Tryz.func61 rfl rfl (by simp) ?_;refine sr (aB (aa (sr (mI ?_))));refine bf (mB (gT (mI (gT ?_))));refine cj ?_;refine ez ?_;refine aB (aa (aw ?_));refine df ?_;refine ⟨?_,hh.below⟩;unfold cH;rw [XH (show 0≤d by omega),XH (show d≤127 by omega)]
   rfl
theorem Dk (a:NR) (w:World) (hT:dN w) (ha:a.ok):
  Calls Tryz.prog 63 #[.agg #[.bool a.neg,.string a.bg,.int .i64 a.e]] w fun r w'=>r=.returned (.bool (wq a))∧Below w.heap.size w w':=by
 have hh:=Hp.start w;have hf:=fun w1 hT1=>eN a w1 hT1 (by have:=ha.1;omega) (by have:=ha.2;omega) (by have:=ha.2;omega)
 cases hx:wq a with
 |false=>
  have he:=qw.1 hx;refine aj (N:=7) (l:=[.agg #[.bool a.neg,.string a.bg,.int .i64 a.e]]) Tryz.func63 rfl rfl (by simp) ?_;refine sr ?_;refine cv hh [_,_,_] ?_;intro b1 w1 hh;refine aB (aa (ah ?_));refine a0 3 [[(1,none)],[(3,some 0)],[(1,none)]] [(2,5),(1,4),(0,3)] hh mixed Xl ?_;refine fG 0 [_,_,_] ?_;refine dC (fun _ hj=>hf _ (hT.hp hj.hp)) ?_;refine fG 0 [_,_,_] ?_;refine aO ?_;intro f W hJ hV;have hb_1:=hJ.bl;obtain ⟨v5,v4,v3,_⟩:=hV;replace hh:=hJ.hp;refine aW (bm (ae v5 (ae v4 (ae v3 aV)))) ?_;dsimp only [cd];clear hJ;refine tw rfl rfl (by first|assumption|rfl) Xk ?_;exact zr
 |true=>
  have he:¬nR a.d=a:=fun h=>by rw [qw.2 h] at hx;cases hx
  refine aj (N:=7) (l:=[.agg #[.bool a.neg,.string a.bg,.int .i64 a.e]]) Tryz.func63 rfl rfl (by simp) ?_;refine sr ?_;refine cv hh [_,_,_] ?_;intro b1 w1 hh;refine aB (aa (ah ?_));refine a0 3 [[(1,none)],[(3,some 0)],[(1,none)]] [(2,5),(1,4),(0,3)] hh mixed Xl ?_;refine fG 0 [_,_,_] ?_;refine dC (fun _ hj=>hf _ (hT.hp hj.hp)) ?_;refine fG 0 [_,_,_] ?_;refine aO ?_;intro f W hJ hV;have hb_1:=hJ.bl;obtain ⟨v5,v4,v3,_⟩:=hV;replace hh:=hJ.hp;refine aW (bm (ae v5 (ae v4 (ae v3 aV)))) ?_;dsimp only [cd];clear hJ;refine yD rfl rfl (by assumption) Xk ?_;exact zr
theorem wI (A B:Option Addr) (n c m c2:Nat) (ds:List Int) (cs:List NR) (w:World) (hT:dN w) (hS:Sl w A n 1 (bu ds)) (hS2:Sl w B m 3 (ay NR.cells cs)) (hn:n≤1000000) (hm:m≤1000000) (hc:∀a∈cs,a.ok):
  Calls Tryz.prog 13 #[.agg #[.slice A n c,.slice B m c2]] w fun r w'=>r=.returned (.int .i64 (fE ds cs))∧Below w.heap.size w w':=by
 have hh:=Hp.start w;have hln:ds.length=n:=by have:=hS.1;simpa [bu] using this
 have hlm:=hS2.bp NR.len Xk;have h1:=fun w1 hS1=>De A n c ds 61 [] (fun d=> !cH d) w1 hS1 hn (fun z w2 _ hb=>C4 z w2);have h2:=fun w1 (hT1:dN w1) hS1=>Dm B m c2 cs 63 [] wq w1 hS1 hm (fun z w2 hz hb=>Dk z w2 (hT1.ext hb) (hc z hz));have h3:=Ge ds 1 Xj Xj;unfold fE;by_cases g1:12<n
 ·refine x8 ?_;refine sr ?_;refine cv hh [_,_] ?_;intro b1 w1 hh;refine vh ?_;refine bE hh 0 ?_;refine aH ?_;refine cj (mB ?_);refine gS (gS ?_);refine gy ?_;refine eR ?_;refine FH ?_;refine df ?_;exact ⟨by rw [Xo (.inl Xj)],hh.below⟩
 ·cases g2:ds.any (fun d=> !cH d) with
  |true=>
   refine x8 ?_;refine sr ?_;refine cv hh [_,_] ?_;intro b1 w1 hh;refine vh ?_;refine bE hh 0 ?_;refine aH ?_;refine cj (mB (gT (bH (gT ?_))));refine bE hh 0 ?_;refine aD rfl rfl ?_;refine bA hh (h1 _ (hS.ext hh.below)) rfl ?_;intro w11 hh;rw [g2];refine ez ?_;refine FH ?_;refine df ?_;exact ⟨by rw [Xo (.inr rfl)],hh.below⟩
  |false=>
   rw [Xp (fun h=>h.elim (fun h=>by omega) (fun h=>by cases h))];by_cases g3:g7 1 ds=0
   ·refine x8 ?_;refine sr ?_;refine cv hh [_,_] ?_;intro b1 w1 hh;refine vh ?_;refine bE hh 0 ?_;refine aH ?_;refine cj (mB (gT (bH (gT ?_))));refine bE hh 0 ?_;refine aD rfl rfl ?_;refine bA hh (h1 _ (hS.ext hh.below)) rfl ?_;intro w11 hh;rw [g2];refine ez ?_;refine aB (aa (cF (sr (bH ?_))));refine bE hh 0 ?_;refine GC ?_;intro w16 hh;refine cR (aB (aa (cT (sr (aI (aa (aw (cf (aK ?_)))))))));refine df ?_;exact ⟨by rw [Xo g3],hh.below⟩
   ·rw [Xp g3];by_cases g4:(m:Int)=g7 1 ds
    ·rw [Xp (show ¬(cs.length:Int)≠g7 1 ds by omega)]
     cases g5:cs.any wq with
     |true=>
      refine x8 ?_;refine sr ?_;refine cv hh [_,_] ?_;intro b1 w1 hh;refine vh ?_;refine bE hh 0 ?_;refine aH ?_;refine cj (mB (gT (bH (gT ?_))));refine bE hh 0 ?_;refine aD rfl rfl ?_;refine bA hh (h1 _ (hS.ext hh.below)) rfl ?_;intro w11 hh;rw [g2];refine ez ?_;refine aB (aa (cF (sr (bH ?_))));refine bE hh 0 ?_;refine GC ?_;intro w16 hh;refine cR (aB (aa (cF (ah ?_))));refine Km ?_;refine ej ?_;refine fN 0 ?_;refine AU ?_;refine ej ?_;refine fN 0 ?_;refine dC (fun _ hj=>eI A n c ds _ (hS.ext hj.hp.below) hn) ?_;refine aO ?_;intro f W hJ hV;have hb_5:=hJ.bl;obtain ⟨v24,v23,v22,v21,v20,v19,_⟩:=hV;replace hh:=hJ.hp;refine LK ?_;dsimp only [cd];clear hJ;refine cJ (aB (aa (cF (aq (bz (ai (ah (sr (bH ?_)))))))));refine bE hh 0 ?_;refine bA hh (h2 _ (hT.hp hh) (hS2.ext hh.below)) rfl ?_;intro w28 hh;rw [g5];refine BI ?_;refine df ?_;exact ⟨by rw [Xo rfl],hh.below⟩
     |false=>
      refine x8 ?_;refine sr ?_;refine cv hh [_,_] ?_;intro b1 w1 hh;refine vh ?_;refine bE hh 0 ?_;refine aH ?_;refine cj (mB (gT (bH (gT ?_))));refine bE hh 0 ?_;refine aD rfl rfl ?_;refine bA hh (h1 _ (hS.ext hh.below)) rfl ?_;intro w11 hh;rw [g2];refine ez ?_;refine aB (aa (cF (sr (bH ?_))));refine bE hh 0 ?_;refine GC ?_;intro w16 hh;refine cR (aB (aa (cF (ah ?_))));refine Km ?_;refine ej ?_;refine fN 0 ?_;refine AU ?_;refine ej ?_;refine fN 0 ?_;refine dC (fun _ hj=>eI A n c ds _ (hS.ext hj.hp.below) hn) ?_;refine aO ?_;intro f W hJ hV;have hb_5:=hJ.bl;obtain ⟨v24,v23,v22,v21,v20,v19,_⟩:=hV;replace hh:=hJ.hp;refine LK ?_;dsimp only [cd];clear hJ;refine cJ (aB (aa (cF (aq (bz (ai (ah (sr (bH ?_)))))))));refine bE hh 0 ?_;refine bA hh (h2 _ (hT.hp hh) (hS2.ext hh.below)) rfl ?_;intro w28 hh;rw [g5];refine EW ?_;refine df ?_;exact ⟨by rw [Xp Xk],hh.below⟩
    ·rw [Xo (show (cs.length:Int)≠g7 1 ds by omega)];refine x8 ?_;refine sr ?_;refine cv hh [_,_] ?_;intro b1 w1 hh;refine vh ?_;refine bE hh 0 ?_;refine aH ?_;refine cj (mB (gT (bH (gT ?_))));refine bE hh 0 ?_;refine aD rfl rfl ?_;refine bA hh (h1 _ (hS.ext hh.below)) rfl ?_;intro w11 hh;rw [g2];refine ez ?_;refine aB (aa (cF (sr (bH ?_))));refine bE hh 0 ?_;refine GC ?_;intro w16 hh;refine cR (aB (aa (cF (ah ?_))));refine Km ?_;refine ej ?_;refine fN 0 ?_;refine AU ?_;refine ej ?_;refine fN 0 ?_;refine dC (fun _ hj=>eI A n c ds _ (hS.ext hj.hp.below) hn) ?_;refine aO ?_;intro f W hJ hV;have hb_5:=hJ.bl;obtain ⟨v24,v23,v22,v21,v20,v19,_⟩:=hV;replace hh:=hJ.hp;refine LK ?_;dsimp only [cd];clear hJ;refine cJ (aB (aa (cT (sr (aI (aa (aw (cf (aK ?_)))))))));refine df ?_;exact ⟨rfl,hh.below⟩
def SE:List Nat→List Nat→Bool
 |[],[]=>true
 |d::ds,r::rs=>decide (r≤d) && SE ds rs
 |_,_=>false
theorem Fi:∀(ds rs:List Nat),SE ds rs=true↔iV ds rs
 |[],[]=>by simp [SE,iV]
 |[],_::_=>by simp [SE,iV]
 |_::_,[]=>by simp [SE,iV]
 |d::ds,r::rs=>by rw [SE,iV,XF,XN,Fi ds rs]
def co (ds:List Nat) (xs:List Dyadic) (row:List Nat):Dyadic:=if SE ds row then (xs[eh ds row]?).getD 0 else 0
theorem wX {row:List Nat} (h:iV ds row):co ds xs row=(xs[eh ds row]?).getD 0:=by
 unfold co;rw [Xo ((Fi _ _).2 h)]
theorem y4 {p:Nat} (h:p<au ds):co ds xs (cZ ds p)=(xs[p]?).getD 0:=by
 rw [wX (mh ds p),u3 h]
theorem R4 {ys:List Dyadic} (hx:xs.length=au ds) (hy:ys.length=au ds) (h:∀row,iV ds row→co ds xs row=co ds ys row):xs=ys:=by
 refine List.ext_getElem (by rw [hx,hy]) fun p h1 h2=> ?_;have h3:=h (cZ ds p) (mh ds p);rw [y4 Xj,y4 Xj,YI h1,YI h2] at h3;exact h3
def DM:List Nat→List Nat→List Nat
 |a::l,b::m=>(a+b)::DM l m
 |_,_=>[]
def Vz:(List Nat→Dyadic)→List Nat→List Nat→Dyadic
 |F,r::rs,j::js=>if j≤r then Vz (fun t=>F ((r-j)::t)) rs js else 0
 |F,[],[]=>F []
 |_,_,_=>0
def TK:List Nat→List Nat→Nat
 |m::ms,j::js=>bin m j*TK ms js
 |_,_=>1
def Wd:List Nat→(List Nat→Dyadic)→List Nat→Dyadic
 |m::ms,F,r::rs=>sm (List.range (m+1)) fun j=>if j≤r then nD (bin m j)*Wd ms (fun t=>F ((r-j)::t)) rs else 0
 |_,F,row=>F row
def VM (ds es:List Nat) (xs ys:List Dyadic):List (Nat×Dyadic):=
 (List.range (au es)).flatMap fun k=>(List.range (au ds)).map fun i=>(eh (DM ds es) (DM (cZ ds i) (cZ es k)),(xs[i]?).getD 0*(ys[k]?).getD 0)
theorem Cj (n:Nat) (f:Nat→Dyadic):sm (List.range (n+1)) f=f 0+sm (List.range n) fun j=>f (j+1):=by
 induction n with
 |zero=>simp only [YQ,List.range_zero,Xu,sm]
 |succ n ih=>rw [YQ,jS,ih,YQ (n:=n),jS];grind
def Vd (row:List Nat) (a:Nat):List Nat:=row.set a (row.getD a 0-1)
end Go.Proofs.YtolamocnngihpaaGreatDoor
